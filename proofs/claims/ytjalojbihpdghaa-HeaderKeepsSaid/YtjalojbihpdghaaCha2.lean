/- ChaCha20, the program's: the stream; two lists of bytes turned by one another. -/
import Derived.Test.YtjalojbihpdghaaCha1
namespace Go.Proofs.Ytjalojbihpdghaa
open Go Go.Eng
set_option linter.unusedVariables false

def z12 : List UInt8 := List.replicate 12 0
def strmB (key : List UInt8) (i : Nat) : UInt8 := (chBlock key z12 (UInt32.ofNat (i / 64))).getD (i % 64) 0
/-- The stream from a place on. -/
def strm (key : List UInt8) (at_ n : Nat) : List UInt8 := (List.range n).map fun j => strmB key (at_ + j)
theorem strm_len (key : List UInt8) (at_ n : Nat) : (strm key at_ n).length = n := by simp [strm]
theorem strmB_at (key : List UInt8) (t m j : Nat) (h : (t + m) % 64 + j < 64) : strmB key (t + (m + j)) = (chBlock key z12 (UInt32.ofNat ((t + m) / 64))).getD ((t + m) % 64 + j) 0 := by
  unfold strmB
  rw [show (t + (m + j)) / 64 = (t + m) / 64 by omega, show (t + (m + j)) % 64 = (t + m) % 64 + j by omega]
theorem strm_add (key : List UInt8) (t m p : Nat) (h : (t + m) % 64 + p ≤ 64) : strm key t m ++ ((chBlock key z12 (UInt32.ofNat ((t + m) / 64))).drop ((t + m) % 64)).take p = strm key t (m + p) := by
  have hs := fun j => strmB_at key t m j
  have hbl := chBlock_len key z12 (UInt32.ofNat ((t + m) / 64))
  rw [strm, strm, List.range_add, List.map_append, List.map_map]
  generalize chBlock key z12 (UInt32.ofNat ((t + m) / 64)) = blk at hs hbl
  generalize hr : (t + m) % 64 = r at hs h
  congr 1
  apply List.ext_getElem?
  intro j
  by_cases hj : j < p
  · have h1 : ((blk.drop r).take p)[j]? = some (blk.getD (r + j) 0) := by
      rw [List.getElem?_take, if_pos hj, List.getElem?_drop]
      exact getD_someB blk (r + j) (by rw [hbl]; exact Nat.lt_of_lt_of_le (Nat.add_lt_add_left hj r) h)
    have h2 : (List.map ((fun j => strmB key (t + j)) ∘ fun x => m + x) (List.range p))[j]? = some (strmB key (t + (m + j))) := by
      rw [List.getElem?_map, List.getElem?_range hj]; simp only [Option.map_some, Function.comp]
    exact h1.trans ((congrArg some (hs j (Nat.lt_of_lt_of_le (Nat.add_lt_add_left hj r) h))).symm.trans h2.symm)
  · rw [List.getElem?_eq_none (by simp; omega), List.getElem?_eq_none (by simp; omega)]
def xorB (x y : List UInt8) : List UInt8 := List.zipWith (· ^^^ ·) x y
theorem xorB_len (x y : List UInt8) (h : y.length = x.length) : (xorB x y).length = x.length := by simp [xorB, h]
theorem xorB_comm (x y : List UInt8) : xorB x y = xorB y x := by
  rw [xorB, xorB, List.zipWith_comm]; congr 1; funext a b; exact UInt8.xor_comm _ _
theorem xorB_get (x y : List UInt8) (j : Nat) (a b : UInt8) (ha : x[j]? = some a) (hb : y[j]? = some b) : (xorB x y)[j]? = some (a ^^^ b) := by rw [xorB, List.getElem?_zipWith, ha, hb]
theorem xz_get (x z : List UInt8) (j o : Nat) (a : UInt8) (hz : z.length = x.length) (ha : x[j]? = some a) (ho : o = j) : (B (z.take j ++ x.drop j))[o]? = some (u8 a) := by
  subst ho
  have hk := (List.getElem?_eq_some_iff.1 ha).1
  refine B_get ?_
  rw [List.getElem?_append_right (by simp; omega), List.length_take, List.getElem?_drop, show o + (o - min o z.length) = o by omega]; exact ha
theorem xz_set (x z : List UInt8) (j o : Nat) (a : UInt8) (hz : z.length = x.length) (ha : z[j]? = some a) (ho : o = j) : setAt (B (z.take j ++ x.drop j)) o [u8 a] = B (z.take (j + 1) ++ x.drop (j + 1)) := by
  subst ho
  have hk := (List.getElem?_eq_some_iff.1 ha).1
  have := setAt_mid (B (z.take o)) (B (x.drop o)) [u8 a] (by simp; omega)
  rw [Bl, List.length_take, Nat.min_eq_left (by omega)] at this
  rw [show B (z.take o ++ x.drop o) = B (z.take o) ++ B (x.drop o) from List.map_append, this, take_succ' ha, List.drop_eq_getElem_cons (show o < x.length by omega)]
  simp [B]
theorem fl_get (key : List UInt8) (v : Value) (h : key.length = 32) : (B key ++ [v])[0 + 32]? = some v := by
  rw [List.getElem?_append_right (by rw [Bl]; omega), Bl, h]; rfl
theorem fl_bld (key : List UInt8) (h : key.length = 32) : fillL ([(0, 32), (32, 1)][·]?) (List.replicate 32 (.int .u8 0) ++ [.int .i64 0]) [(0, .agg (B key).toArray)] = some (B key ++ [i64 0]) := by
  simp only [fillL, List.getElem?_cons_zero, cellsL, Bl]
  rw [if_pos ⟨h, by simp [h]⟩]
  simp [setAt, h]
theorem fl_set (key : List UInt8) (v v' : Value) (h : key.length = 32) : setAt (B key ++ [v]) (0 + 32) [v'] = B key ++ [v'] := by
  have := Eng.setAt_end (B key) [v] [v'] rfl
  rwa [Bl, h] at this


set_option maxRecDepth 100000 in
theorem flow_Next (w0 : World) (H : List It) (hH : allNew H = true) (b T : Nat) (key : List UInt8) (t n : Nat) {ti ni : Int} (hti : ti = t) (hni : ni = n) (hk : key.length = 32) (hn : n + t ≤ 65536) :
    RetF Try.prog 93 [ptr b 0, i64 ni] w0 H [nb b (B key ++ [i64 ti]) T] (fun v P => ∃ a c, v = .tuple #[.slice a n c, i64 0] ∧ P = [nb b (B key ++ [i64 ((t + n : Nat) : Int)]) T, sl a n c 5 1 (B (strm key t n))]) := by
  subst hti; subst hni
  refine enterF Try.func93 rfl Try.ntmps93 rfl (fun X hX => ?_)
  have hw := hX.w0; subst hw
  refine G.seq <| G.reg <| W.q (sa rfl) rfl <| W.q (sa rfl) rfl <| W.nil <| G.seq <| G.seq <| G.reg <| W.q (mv rfl) rfl <| W.q (lt rfl rfl) rfl <| W.q (mv rfl) rfl <| W.sp (t := _) 12 rfl (fun g1 => ?_) (fun g1 => ?_)
  · -- True
    exact absurd (of_decide_eq_true g1) (by omega)
  · -- False
    refine W.qg rfl rfl g1 (mv rfl) rfl <| W.qg rfl rfl g1 (gt rfl rfl) rfl <| W.q (pkf rfl g1 rfl) rfl <| W.nil <| G.cdf rfl (decide_eq_false (by omega)) <| G.skip <| G.seq <| G.seq <| G.reg <| W.q (mv rfl) rfl <| W.q (mv rfl) rfl <| W.q (ncp rfl) rfl <| W.q (fa Try.fof182_1 rfl) rfl <| W.q (ld Try.sc3 rfl (Cell.at .hd (fl_get key _ hk))) rfl <| W.q (sb rfl rfl (by omega)) rfl <| W.q (gt rfl rfl) rfl <| W.nil <| G.cdf rfl (decide_eq_false (by omega)) <| G.skip <| G.seq <| G.reg <| W.al Try.zrl183 rfl fun b1 => W.nil <| G.seq <| G.reg <| W.q (mv rfl) rfl <| W.mk0 (m := n) Try.underlying22 Try.sz5 Try.zrl5 Try.by5 rfl rfl (by omega) (by omega) rfl fun b2 => W.q (sa rfl) rfl <| W.nil <| G.seq <| G.blk <| G.loop3 (α := Nat) (β := Option Addr) (γ := Nat) (fun m a3 c3 => m ≤ n) (fun m a3 c3 => [(7, .slice a3 m c3)]) (fun m a3 c3 => [nb b (B key ++ [i64 ((t + m : Nat) : Int)]) T, sl a3 m c3 5 1 (B (strm key t m))]) (fun m a3 c3 => n - m) [(0, _), (1, _), (6, _)] _ 0 (some ⟨b2, 0, none⟩) n (by omega) (Sub.cons rfl <| Sub.cons rfl <| Sub.cons rfl <| Sub.cons rfl <| Sub.nil _) (Ent.perm (.trans (.trans (.trans (.cons _ (.refl _)) (.swap _ _ _)) (.trans (.cons _ (.refl _)) (.swap _ _ _))) (.trans (.cons _ (.trans (.cons _ (.refl _)) (.swap _ _ _))) (.swap _ _ _)))) (fun m a3 c3 hmm ih => ?_)
    refine G.seq <| G.seq <| G.reg <| W.q (mv rfl) rfl <| W.q (ln Try.esl22 rfl) rfl <| W.q (mv rfl) rfl <| W.q (lt rfl rfl) rfl <| W.nil <| G.cdd rfl (fun h4 => ?_) (fun h4 => ?_)
    · -- h4 True
      obtain ⟨p, hp⟩ : ∃ p, p = min (64 - (t + m) % 64) (n - m) := ⟨_, rfl⟩
      have hcv : u32Of (((t + m : Nat) : Int) / 64) = UInt32.ofNat ((t + m) / 64) := by rw [show ((t + m : Nat) : Int) / 64 = (((t + m) / 64 : Nat) : Int) by omega, cvu32]
      have hbl := chBlock_len key z12 (UInt32.ofNat ((t + m) / 64))
      refine G.skip <| G.blk <| G.seq <| G.rega 14 rfl Try.mixed <| A.q 0 rfl (by kernel_rfl) (fun _ => (mv rfl)) rfl <| A.q 1 rfl (by kernel_rfl) (fun _ => (ncp rfl)) rfl <| A.q 2 rfl (by kernel_rfl) (fun _ => (fa Try.fof182_0 rfl)) rfl <| A.q 3 rfl (by kernel_rfl) (fun _ => (saa Try.ear24 rfl )) rfl <| A.q 4 rfl (by kernel_rfl) (fun _ => (saa Try.ear183 rfl )) rfl <| A.q 5 rfl (by kernel_rfl) (fun _ => (mv rfl)) rfl <| A.q 6 rfl (by kernel_rfl) (fun _ => (ncp rfl)) rfl <| A.q 7 rfl (by kernel_rfl) (fun _ => (fa Try.fof182_1 rfl)) rfl <| A.held 8 [12] rfl (by kernel_rfl) (ld Try.sc3 rfl (Cell.at .hd (fl_get key _ hk))) rfl <| A.q 9 rfl (by kernel_rfl) (fun _ => (qo rfl rfl (by omega) (by omega) (by omega))) rfl <| A.q 10 rfl (by kernel_rfl) (fun _ => (cv_i64_u32 Try.underlying3 Try.underlying125 rfl)) rfl <| A.swapc [11, 12] 11 12 rfl rfl (by decide) (by kernel_rfl) (by kernel_rfl) (by kernel_rfl) rfl (fun _ hkq => W.fv Try.ca114 rfl (fun w hm => cha_block (some ⟨b, 0, none⟩) 32 32 key (some ⟨b1, 0, none⟩) 12 12 z12 (u32Of (((t + m : Nat) : Int) / 64)) w hk.symm ((hm.rowRd .hd).preB) hk (by omega) rfl (hm.rowRd (cs := B z12) (.tl <| .tl <| .hd)) rfl (by decide)) rfl hkq) (fun _ hkq => W.al Try.zrl184 rfl fun b3 => hkq b3) (fun _ hkq => W.al Try.zrl184 rfl fun b3 => hkq b3) (fun b3 _ hkq => W.fv Try.ca114 rfl (fun w hm => cha_block (some ⟨b, 0, none⟩) 32 32 key (some ⟨b1, 0, none⟩) 12 12 z12 (u32Of (((t + m : Nat) : Int) / 64)) w hk.symm ((hm.rowRd (.tl <| .hd)).preB) hk (by omega) rfl (hm.rowRd (cs := B z12) (.tl <| .tl <| .tl <| .hd)) rfl (by decide)) rfl hkq) fun b3 => A.one 13 rfl (by kernel_rfl) <| W.sta Try.sz184 rfl rfl (by simp [hbl, chBlock_len]) (B_one _) .hd (by simp) <| A.back <| A.nil (by kernel_rfl) <| G.seq <| ?_
      rw [hcv]
      refine G.reg <| W.q (mv rfl) rfl <| W.q (ncp rfl) rfl <| W.q (fa Try.fof182_1 rfl) rfl <| W.q (ld Try.sc3 rfl (Cell.at (.tl <| .hd) (fl_get key _ hk))) rfl <| W.q (rm rfl rfl (by omega) (by omega)) rfl <| W.q (salo Try.ear184 rfl rfl (by omega) (by omega)) rfl <| W.q (sa rfl) rfl <| W.nil <| G.seq <| ?_
      rw [show (((t + m : Nat) : Int) % 64).toNat = (t + m) % 64 by omega]
      refine G.reg <| W.q (mv rfl) rfl <| W.q (mv rfl) rfl <| W.q (ln Try.esl22 rfl) rfl <| W.q (mv rfl) rfl <| W.q (mv rfl) rfl <| W.q (ln Try.esl22 rfl) rfl <| W.q (sb rfl rfl (by omega)) rfl <| W.q (mn rfl rfl) rfl <| W.q (shi Try.esl22 rfl rfl (by omega) (by omega)) rfl <| W.q (sa rfl) rfl <| W.nil <| G.seq <| ?_
      rw [show (min (((64 - (t + m) % 64 : Nat) : Int)) ((n : Int) - (m : Int))).toNat = p by omega]
      refine G.reg <| W.q (mv rfl) rfl <| W.q (mv rfl) rfl <| W.ap Try.underlying22 Try.underlying22 Try.sz5 Try.zln5 Try.by5 rfl rfl (fun _ _ => (.tl <| .tl <| .hd)) (fun w hm => RdL.subB (hm.rowRd (cs := B (chBlock key z12 (UInt32.ofNat ((t + m) / 64)))) .hd) ((t + m) % 64) p 64 (by omega)) (by simp; omega) (B_one _) (fun h => absurd (slA_none.1 h) (by simp)) (by omega) (by omega) rfl fun a4 c4 => W.q (sa rfl) rfl <| W.nil <| G.reg <| W.q (mv rfl) rfl <| W.q (ncp rfl) rfl <| W.q (fa Try.fof182_1 rfl) rfl <| W.q (ld Try.sc3 rfl (Cell.at (.tl <| .hd) (fl_get key _ hk))) rfl <| W.q (mv rfl) rfl <| W.q (ln Try.esl22 rfl) rfl <| W.q (ad rfl rfl (by omega)) rfl <| W.q (ncp rfl) rfl <| W.q (fa Try.fof182_1 rfl) rfl <| W.st (cs' := B key ++ [i64 ((t + (m + p) : Nat) : Int)]) Try.sz3 rfl rfl rfl rfl rfl (.tl <| .hd) (by rw [List.length_append, Bl, hk]; simp) (by rw [show ((t + (m + p) : Nat) : Int) = ((t + m : Nat) : Int) + (p : Int) by omega]; exact fl_set key _ _ hk) <| W.nil <| G.inb <| (ih (m + p) a4 c4 (by omega) (by omega)).weak (Sub.cons rfl <| Sub.cons rfl <| Sub.cons rfl <| Sub.cons rfl <| Sub.nil _) (fun w hm => (Ent.eq (by rw [← strm_add key t m p (by omega)]; simp only [B, List.map_append]; rfl)) w ((fun w hm => (Dr.ent (.keep <| .keep <| .keep <| .drop rfl <| .rfl)) w ((Ent.perm (.trans (.trans (.trans (.cons _ (.trans (.cons _ (.trans (.cons _ (.refl _)) (.swap _ _ _))) (.swap _ _ _))) (.swap _ _ _)) (.trans (.cons _ (.trans (.cons _ (.trans (.cons _ (.refl _)) (.swap _ _ _))) (.swap _ _ _))) (.swap _ _ _))) (.trans (.cons _ (.trans (.cons _ (.trans (.cons _ (.refl _)) (.swap _ _ _))) (.swap _ _ _))) (.swap _ _ _)))) w hm)) w hm))
    · -- h4 False
      have hmn : m = n := by omega
      subst hmn
      refine G.exit rfl <| G.seq <| G.reg <| W.q (mv rfl) rfl <| W.q (sa rfl) rfl <| W.q (sa rfl) rfl <| W.nil <| ret2 hX Try.results93 rfl rfl fun w hm => doneF (Pre' := [nb b (B key ++ [i64 ((t + m : Nat) : Int)]) T, sl a3 m c3 5 1 (B (strm key t m))]) rfl ⟨a3, c3, rfl, rfl⟩ hm (Dr.ent (.keep <| .keep <| .drop rfl .rfl))


set_option maxRecDepth 100000 in
theorem cha_New (a : Option Addr) (len cap : Nat) (key : List UInt8) (w : World) (hlen : len = key.length) (hl : RdL w a (B key)) (hk : key.length = 32) :
    Ret Try.prog 92 [.slice a len cap] w (fun v J => ∃ b, v = .tuple #[ptr b 0, i64 0] ∧ J = [nb b (B key ++ [i64 0]) 182]) := by
  subst hlen
  refine enter [] (Mem.nil _) Try.func92 rfl Try.ntmps92 rfl (fun X hX => ?_)
  have hw := hX.w0; subst hw
  obtain ⟨zb, zo, rfl, _⟩ := hl 0 _ (B_get (getD_someB key 0 (by omega)))
  have hcl : ∀ i v, (B key)[i]? = some v → X.w0.cell? ⟨zb, zo + i, none⟩ = some v := fun i v hv => by
    obtain ⟨b', o', h1, h2⟩ := hl i v hv
    cases h1; exact h2
  refine G.seq <| G.reg <| W.q (sa rfl) rfl <| W.q (sa rfl) rfl <| W.nil <| G.seq <| G.seq <| G.reg <| W.q (mv rfl) rfl <| W.q (ln Try.esl22 rfl) rfl <| W.q (ne rfl rfl) rfl <| W.nil <| G.cdf rfl (decide_eq_false (by omega)) <| G.skip <| G.seq <| G.reg <| W.q (mv rfl) rfl <| W.q (stp_ Try.ear24 rfl (by omega)) rfl <| W.q (lda Try.agg24 Try.sz24 rfl (Cells.old (cs := B key) rfl hcl) (by rw [Bl]; exact hk)) rfl <| W.q (bld (cs := B key ++ [i64 0]) Try.stp182 rfl (fl_bld key hk)) rfl <| W.bxa rfl rfl fun b1 => W.q (sa rfl) rfl <| W.q (sa rfl) rfl <| W.nil <| ret2 hX Try.results92 rfl rfl fun w hm => done rfl ⟨b1, rfl, rfl⟩ hm


set_option maxRecDepth 100000 in
theorem codec_Xor2 (pa : Option Addr) (pc : Nat) (a1 a2 : Option Addr) (l1 l2 c1 c2 : Nat) (x y : List UInt8) (w : World) (hpc : 2 ≤ pc) (hl : RdL w pa [.slice a1 l1 c1, .slice a2 l2 c2]) (e1 : l1 = x.length) (e2 : l2 = y.length) (r1 : RdL w a1 (B x)) (r2 : RdL w a2 (B y)) (hxy : y.length = x.length) (hb : x.length ≤ 140737488351232) :
    Ret Try.prog 71 [.slice pa 2 pc] w (fun v J => ∃ v1, NewB (xorB x y) v1 J ∧ v = .tuple #[v1, i64 0]) := by
  subst e1; subst e2
  refine enter [] (Mem.nil _) Try.func71 rfl Try.ntmps71 rfl (fun X hX => ?_)
  have hw := hX.w0; subst hw
  have hzl := xorB_len x y hxy
  obtain ⟨zb, zo, rfl, hx0⟩ := hl 0 _ rfl
  have hx1 : X.w0.cell? ⟨zb, zo + 1, none⟩ = some (.slice a2 y.length c2) := by
    obtain ⟨b', o', q1, q2⟩ := hl 1 _ rfl
    cases q1; exact q2
  refine G.seq <| G.reg <| W.q (sa rfl) rfl <| W.q (sa rfl) rfl <| W.nil <| G.seq <| G.seq <| G.reg <| W.q (mv rfl) rfl <| W.q (ln Try.esl73 rfl) rfl <| W.q (eq rfl rfl) rfl <| W.nil <| G.cdf rfl rfl <| G.skip <| G.seq <| G.reg <| W.q (mv rfl) rfl <| W.q (ia Try.esl73 rfl rfl (by omega) (by omega)) rfl <| W.q (ld Try.sc22 rfl (Cell.old rfl (by simpa using hx0))) rfl <| W.fn Try.ca57 rfl (fun w hm => bytes_Clonex (hm.rd rfl r1) hb rfl) rfl fun v J hv hJ => ?_
  obtain ⟨a3, c3, rfl, rfl⟩ := hv
  refine W.q (sa rfl) rfl <| W.nil <| G.seq <| G.seq <| G.reg <| W.q (mv rfl) rfl <| W.q (slo Try.esl73 rfl rfl (by omega) (by omega)) rfl <| W.q (ln Try.esl73 rfl) rfl <| W.q (mv rfl) rfl <| W.nil <| G.blk <| ?_
  rw [slA_some (by omega)]
  refine G.loop1 (α := Nat) (fun k => k ≤ 1) (fun k => [(18, i64 k)]) (fun k => [sl a3 x.length c3 5 1 (B (if k = 0 then x else xorB x y))]) (fun k => 1 - k) [(4, _), (16, _), (17, _)] [] 0 (by omega) (Sub.cons rfl <| Sub.cons rfl <| Sub.cons rfl <| Sub.cons rfl <| Sub.nil _) .rfl (fun k hkk ih => ?_)
  refine G.seq <| G.reg <| W.q (lt rfl rfl) rfl <| W.nil <| G.seq <| G.cdd rfl (fun h2 => ?_) (fun h2 => ?_)
  · -- h2 True
    have hk0 : k = 0 := by omega
    subst hk0
    refine G.skip <| G.seq <| G.blk <| G.seq <| G.reg <| W.q (ia Try.esl73 rfl rfl (by omega) (by omega)) rfl <| W.q (ld Try.sc22 rfl (Cell.old rfl hx1)) rfl <| W.q (sa rfl) rfl <| W.nil <| G.seq <| G.seq <| G.reg <| W.q (mv rfl) rfl <| W.q (ln Try.esl22 rfl) rfl <| W.q (mv rfl) rfl <| W.q (ln Try.esl22 rfl) rfl <| W.q (ne rfl rfl) rfl <| W.nil <| G.cdf rfl (decide_eq_false (by omega)) <| G.skip <| G.seq <| G.reg <| W.q (mv rfl) rfl <| W.q (ln Try.esl22 rfl) rfl <| W.q (mv rfl) rfl <| W.nil <| G.blk <| G.loop1 (α := Nat) (fun j => j ≤ x.length) (fun j => [(29, i64 j)]) (fun j => [sl a3 x.length c3 5 1 (B ((xorB x y).take j ++ x.drop j))]) (fun j => x.length - j) [(4, _), (6, _), (16, _), (17, _), (18, _), (28, _)] [] 0 (by omega) (Sub.cons rfl <| Sub.cons rfl <| Sub.cons rfl <| Sub.cons rfl <| Sub.cons rfl <| Sub.cons rfl <| Sub.cons rfl <| Sub.nil _) .rfl (fun j hj ih2 => ?_)
    refine G.seq <| G.reg <| W.q (lt rfl rfl) rfl <| W.nil <| G.seq <| G.cdd rfl (fun h4 => ?_) (fun h4 => ?_)
    · -- h4 True
      obtain ⟨va, hva⟩ : ∃ v, x[j]? = some v := ⟨_, List.getElem?_eq_getElem (by omega)⟩
      obtain ⟨vb, hvb⟩ : ∃ v, y[j]? = some v := ⟨_, List.getElem?_eq_getElem (by omega)⟩
      have hxg := xorB_get x y j va vb hva hvb
      obtain ⟨yb, yo, rfl, hyc⟩ := r2 j _ (B_get hvb)
      refine G.slAt (a := a3) (m := x.length) (cap := c3) (E := 5) (s := 1) (xs := _) (.head _) (fun p1 p2 p3 p4 => ?_)
      obtain ⟨g, rfl⟩ : ∃ g, a3 = some ⟨g, 0, none⟩ := by rcases p4 with ⟨_, _, h⟩ | h; omega; exact h
      refine G.skip <| G.seq <| G.blk <| G.seq <| G.reg <| W.q (mv rfl) rfl <| W.q (sa rfl) rfl <| W.nil <| G.regt 10 Try.mixed (by kernel_rfl) <| W.q (mv rfl) rfl <| W.q (mv rfl) rfl <| W.q (ia Try.esl22 rfl rfl (by omega) (by omega)) rfl <| W.q (ld Try.sc5 rfl ((Rdf.sl (m := x.length) (cap := c3) (E := 5) (s := 1) (.head _)).cellOf (xz_get x (xorB x y) j ((j : Int).toNat * 1) va hzl hva (by omega)))) rfl <| W.q (mv rfl) rfl <| W.q (mv rfl) rfl <| W.q (ia Try.esl22 rfl rfl (by omega) (by omega)) rfl <| W.q (ld Try.sc5 rfl (Cell.old rfl (by rw [show (j : Int).toNat * 1 = j by omega]; exact hyc))) rfl <| W.q (xor_u8 rfl rfl) rfl <| W.q (ia Try.esl22 rfl rfl (by omega) (by omega)) rfl <| W.nilt <| W.stS (xs' := B ((xorB x y).take (j + 1) ++ x.drop (j + 1))) Try.sz5 rfl rfl rfl rfl rfl .hd (by omega) (xz_set x (xorB x y) j (0 + (j : Int).toNat * 1) _ hzl hxg (by omega)) <| W.nil <| G.inb <| G.reg <| W.q (ad rfl rfl (by omega)) rfl <| W.q (mv rfl) rfl <| W.nil <| (ih2 (j + 1) (by omega) (by omega)).weak (Sub.cons rfl <| Sub.cons rfl <| Sub.cons rfl <| Sub.cons rfl <| Sub.cons rfl <| Sub.cons rfl <| Sub.cons rfl <| Sub.nil _) .rfl
    · -- h4 False
      refine G.exit rfl <| G.inb <| G.reg <| W.q (ad rfl rfl (by omega)) rfl <| W.q (mv rfl) rfl <| W.nil <| (ih 1 (by omega) (by omega)).weak (Sub.cons rfl <| Sub.cons rfl <| Sub.cons rfl <| Sub.cons rfl <| Sub.nil _) (Ent.eq (by rw [if_neg (by omega), show j = x.length by omega, List.take_of_length_le (by omega), List.drop_eq_nil_of_le (by omega), List.append_nil (xorB x y)]))
  · -- h2 False
    have hk1 : k = 1 := by omega
    subst hk1
    refine G.exit rfl <| G.seq <| G.reg <| W.q (mv rfl) rfl <| W.q (sa rfl) rfl <| W.q (sa rfl) rfl <| W.nil <| ret2 hX Try.results71 rfl rfl fun w hm => done (H := [sl a3 (xorB x y).length c3 5 1 (B (xorB x y))]) rfl ⟨_, ⟨a3, c3, rfl, rfl⟩, by rw [hzl]⟩ (by rw [hzl]; exact hm)


set_option maxRecDepth 100000 in
theorem flow_Turn (w0 : World) (H : List It) (hH : allNew H = true) (b T : Nat) (key : List UInt8) (pa : Option Addr) (pl pc : Nat) (ps : List Pc) (hk : key.length = 32) (hpl : pl = ps.length) (hl : RdL w0 pa (ps.map pcV)) (hp : Rps w0 [] ps) (hn : ps.length ≤ 140737488351232) (hpc : ps.length ≤ pc) (hb : (catP ps).length ≤ 65536) :
    RetF Try.prog 109 [ptr b 0, .slice pa pl pc] w0 H [nb b (B key ++ [i64 0]) T] (fun v P => ∃ a c J, v = .tuple #[.slice a (catP ps).length c, i64 0] ∧ P = J ++ [sl a (catP ps).length c 5 1 (B (xorB (catP ps) (strm key 0 (catP ps).length)))] ∧ allNew J = true) := by
  subst hpl
  refine enterF Try.func109 rfl Try.ntmps109 rfl (fun X hX => ?_)
  have hw := hX.w0; subst hw
  have hHc : allNew ([nb b (B key ++ [i64 0]) T] ++ H) = true := allNew_cons rfl hH
  refine G.seq <| G.reg <| W.q (sa rfl) rfl <| W.q (sa rfl) rfl <| W.nil <| G.seq <| G.reg <| W.q (mv rfl) rfl <| W.fn Try.ca44 rfl (fun w hm => codec_JoinP rfl (hm.rd hHc hl) (hp.up hm hHc) (by omega) hn hpc) rfl fun v J hv hJ => ?_
  obtain ⟨wa, wc, rfl, rfl⟩ := hv
  refine W.slAt (a := wa) (m := _) (cap := wc) (E := 5) (s := 1) (xs := _) (.head _) (fun q1 q2 q3 q4 => ?_)
  refine W.q (sa rfl) rfl <| W.nil <| G.seq <| G.seq <| G.reg <| W.q (mv rfl) rfl <| W.q (ln Try.esl22 rfl) rfl <| W.q (mv rfl) rfl <| W.q (ncp rfl) rfl <| W.q (fa Try.fof182_1 rfl) rfl <| W.q (ld Try.sc3 rfl (Cell.at (.tl <| .hd) (fl_get key _ hk))) rfl <| W.q (sb rfl rfl (by omega)) rfl <| W.q (gt rfl rfl) rfl <| W.nil <| G.cdf rfl (decide_eq_false (by omega)) <| G.skip <| G.seq <| G.reg <| W.q (mv rfl) rfl <| W.q (mv rfl) rfl <| W.q (ln Try.esl22 rfl) rfl <| W.ff Try.ca93 rfl (Ent.perm (.trans (.cons _ (.refl _)) (.swap _ _ _))) (flow_Next X.w0 _ (allNew_cons rfl hH) b T key 0 (catP ps).length rfl rfl hk (by omega)) rfl rfl fun v J hv hJ => ?_
  obtain ⟨a2, c2, rfl, rfl⟩ := hv
  refine W.q (mv rfl) rfl <| W.q (ex rfl rfl) rfl <| W.q (ex rfl rfl) rfl <| W.q (sa rfl) rfl <| W.q (sa rfl) rfl <| W.nil <| G.seq <| G.reg <| W.q (mv rfl) rfl <| W.q (mv rfl) rfl <| W.bs (cs := [_, _]) Try.underlying73 Try.sz22 Try.zrl22 rfl rfl rfl rfl fun b1 => W.fn Try.ca71 rfl (fun w hm => codec_Xor2 (some ⟨b1, 0, none⟩) 2 wa a2 _ _ wc c2 (catP ps) (strm key 0 (catP ps).length) w (by omega) (hm.rowRd .hd) rfl (strm_len _ _ _).symm (hm.slRd (.tail _ <| .tail _ <| .tail _ <| .head _)) (hm.slRd (m := (catP ps).length) (cap := c2) (E := 5) (s := 1) (.tail _ <| .tail _ <| .head _)) (strm_len _ _ _) (by omega)) rfl fun v J hv hJ => ?_
  obtain ⟨v1, ⟨a3, c3, rfl, rfl⟩, rfl⟩ := hv
  rw [xorB_len _ _ (strm_len _ _ _)]
  refine W.q (ex rfl rfl) rfl <| W.q (ex rfl rfl) rfl <| W.q (sa rfl) rfl <| W.q (sa rfl) rfl <| W.nil <| ret2 hX Try.results109 rfl rfl fun w hm => doneF (Pre' := [] ++ [sl a3 (catP ps).length c3 5 1 (B (xorB (catP ps) (strm key 0 (catP ps).length)))]) rfl ⟨a3, c3, [], rfl, rfl, rfl⟩ hm (Dr.ent (.keep <| .drop rfl <| .drop rfl <| .drop rfl <| .drop rfl .rfl))


set_option maxRecDepth 100000 in
theorem cha_Turn (a : Option Addr) (len cap : Nat) (key : List UInt8) (pa : Option Addr) (pl pc : Nat) (ps : List Pc) (w : World) (hlen : len = key.length) (hkl : RdL w a (B key)) (hk : key.length = 32) (hpl : pl = ps.length) (hl : RdL w pa (ps.map pcV)) (hp : Rps w [] ps) (hn : ps.length ≤ 140737488351232) (hpc : ps.length ≤ pc) (hb : (catP ps).length ≤ 65536) :
    Ret Try.prog 87 [.slice a len cap, .slice pa pl pc] w (fun v J => ∃ v1, NewB (xorB (catP ps) (strm key 0 (catP ps).length)) v1 J ∧ v = .tuple #[v1, i64 0]) := by
  refine enter [] (Mem.nil _) Try.func87 rfl Try.ntmps87 rfl (fun X hX => ?_)
  have hw := hX.w0; subst hw
  refine G.seq <| G.reg <| W.q (sa rfl) rfl <| W.q (sa rfl) rfl <| W.nil <| G.seq <| G.reg <| W.q (mv rfl) rfl <| W.fn Try.ca92 rfl (fun w hm => cha_New a len cap key w hlen (hm.rd rfl hkl) hk) rfl fun v J hv hJ => ?_
  obtain ⟨b, rfl, rfl⟩ := hv
  refine W.q (mv rfl) rfl <| W.q (ex rfl rfl) rfl <| W.q (ex rfl rfl) rfl <| W.q (sa rfl) rfl <| W.q (sa rfl) rfl <| W.nil <| G.seq <| G.seq <| G.reg <| W.q (mv rfl) rfl <| W.q (ne rfl rfl) rfl <| W.nil <| G.cdf rfl rfl <| G.skip <| G.seq <| G.reg <| W.q (mv rfl) rfl <| W.q (mv rfl) rfl <| W.ff Try.ca109 rfl (Ent.perm (.refl _)) (flow_Turn X.w0 _ rfl b 182 key pa pl pc ps hk hpl hl hp hn hpc hb) rfl rfl fun v J hv hJ => ?_
  obtain ⟨a2, c2, J, rfl, rfl, hJJ⟩ := hv
  refine W.q (ex rfl rfl) rfl <| W.q (ex rfl rfl) rfl <| W.q (sa rfl) rfl <| W.q (sa rfl) rfl <| W.nil <| ret2 hX Try.results87 rfl rfl fun w hm => done (H := [sl a2 (xorB (catP ps) (strm key 0 (catP ps).length)).length c2 5 1 (B (xorB (catP ps) (strm key 0 (catP ps).length)))]) rfl ⟨_, ⟨a2, c2, rfl, rfl⟩, by rw [xorB_len _ _ (strm_len _ _ _)]⟩ (by rw [xorB_len _ _ (strm_len _ _ _)]; rw [List.append_assoc] at hm; exact Dr.ent (.allS hJJ rfl .rfl) w hm)


set_option maxRecDepth 100000 in
theorem cha_Stream (a : Option Addr) (len cap : Nat) (key : List UInt8) (n : Nat) {ni : Int} (w : World) (hni : ni = n) (hlen : len = key.length) (hkl : RdL w a (B key)) (hk : key.length = 32) (hn : n ≤ 65536) :
    Ret Try.prog 70 [.slice a len cap, i64 ni] w (fun v J => ∃ v1, NewB (strm key 0 n) v1 J ∧ v = .tuple #[v1, i64 0]) := by
  subst hni
  refine enter [] (Mem.nil _) Try.func70 rfl Try.ntmps70 rfl (fun X hX => ?_)
  have hw := hX.w0; subst hw
  refine G.seq <| G.reg <| W.q (sa rfl) rfl <| W.q (sa rfl) rfl <| W.nil <| G.seq <| G.seq <| G.reg <| W.q (mv rfl) rfl <| W.q (lt rfl rfl) rfl <| W.q (mv rfl) rfl <| W.sp (t := _) 10 rfl (fun g1 => ?_) (fun g1 => ?_)
  · -- True
    exact absurd (of_decide_eq_true g1) (by omega)
  · -- False
    refine W.qg rfl rfl g1 (mv rfl) rfl <| W.qg rfl rfl g1 (gt rfl rfl) rfl <| W.q (pkf rfl g1 rfl) rfl <| W.nil <| G.cdf rfl (decide_eq_false (by omega)) <| G.skip <| G.seq <| G.reg <| W.q (mv rfl) rfl <| W.fn Try.ca92 rfl (fun w hm => cha_New a len cap key w hlen (hm.rd rfl hkl) hk) rfl fun v J hv hJ => ?_
    obtain ⟨b, rfl, rfl⟩ := hv
    refine W.q (mv rfl) rfl <| W.q (ex rfl rfl) rfl <| W.q (ex rfl rfl) rfl <| W.q (sa rfl) rfl <| W.q (sa rfl) rfl <| W.nil <| G.seq <| G.seq <| G.reg <| W.q (mv rfl) rfl <| W.q (ne rfl rfl) rfl <| W.nil <| G.cdf rfl rfl <| G.skip <| G.seq <| G.reg <| W.q (mv rfl) rfl <| W.q (mv rfl) rfl <| W.ff Try.ca93 rfl (Ent.perm (.refl _)) (flow_Next X.w0 _ rfl b 182 key 0 n rfl rfl hk (by omega)) rfl rfl fun v J hv hJ => ?_
    obtain ⟨a2, c2, rfl, rfl⟩ := hv
    refine W.q (ex rfl rfl) rfl <| W.q (ex rfl rfl) rfl <| W.q (sa rfl) rfl <| W.q (sa rfl) rfl <| W.nil <| ret2 hX Try.results70 rfl rfl fun w hm => done (H := [sl a2 (strm key 0 n).length c2 5 1 (B (strm key 0 n))]) rfl ⟨_, ⟨a2, c2, rfl, rfl⟩, by rw [strm_len]⟩ (by rw [strm_len]; exact Dr.ent (.drop rfl <| .keep <| .rfl) w hm)
end Go.Proofs.Ytjalojbihpdghaa
