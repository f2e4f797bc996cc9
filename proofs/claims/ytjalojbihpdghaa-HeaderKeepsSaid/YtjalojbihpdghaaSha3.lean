/- SHA-256, the document's; numbers put by it. -/
import Derived.Test.YtjalojbihpdghaaSha2
namespace Go.Proofs.Ytjalojbihpdghaa
open Go Go.Eng
set_option linter.unusedVariables false

def arrB (order : Int) (l : List UInt8) : List UInt8 := if order = 2 then l.reverse else l
theorem arrB_len (order : Int) (l : List UInt8) : (arrB order l).length = l.length := by unfold arrB; split <;> simp
theorem rev_set (l : List UInt8) (k : Nat) (x : UInt8) (h : k < l.length) : l.reverse.set (l.length - 1 - k) x = (l.set k x).reverse := by
  apply List.ext_getElem?
  intro i
  by_cases hi : i < l.length
  · rw [List.getElem?_reverse (l := l.set k x) (by simpa using hi), List.getElem?_set, List.getElem?_set, List.getElem?_reverse hi, List.length_set, List.length_reverse]
    by_cases h1 : l.length - 1 - k = i
    · rw [if_pos h1, if_pos (by omega), if_pos (by omega), if_pos (by omega)]
    · rw [if_neg h1, if_neg (by omega)]
  · rw [List.getElem?_eq_none (by simp; omega), List.getElem?_eq_none (by simp; omega)]
theorem le_set (n m k : Nat) (h : k < m) : (leB k n ++ List.replicate (m - k) 0).set k (byteAt n k) = leB (k + 1) n ++ List.replicate (m - (k + 1)) 0 := by
  have e : List.replicate (m - k) (0 : UInt8) = 0 :: List.replicate (m - (k + 1)) 0 := by rw [show m - k = (m - (k + 1)) + 1 by omega]; rfl
  rw [e, List.set_append_right _ _ (by rw [leB_len]; exact Nat.le_refl _), leB_len, Nat.sub_self, leB_succ]
  simp
theorem div_pow (n k : Nat) : n / 256 ^ k / 256 = n / 256 ^ (k + 1) := by rw [Nat.div_div_eq_div_mul, Nat.pow_succ]
theorem beN_eq4 (bs : List UInt8) (t j : Nat) (hj : j < 4) (h : 4 * t + 3 < bs.length) : UInt32.ofNat (beN ((((bs.drop (4 * t)).take 4)).take j)) * 256 + (bs.getD (4 * t + j) 0).toUInt32 = UInt32.ofNat (beN ((((bs.drop (4 * t)).take 4)).take (j + 1))) := by
  have hg : ((bs.drop (4 * t)).take 4)[j]? = some (bs.getD (4 * t + j) 0) := by
    rw [List.getElem?_take, if_pos hj, List.getElem?_drop, List.getElem?_eq_getElem (by omega), List.getD_eq_getElem?_getD, List.getElem?_eq_getElem (by omega)]; rfl
  rw [take_succ' hg, beN_snoc, UInt32.ofNat_add, UInt32.ofNat_mul]
  congr 1
  apply UInt32.toNat_inj.1
  have := (bs.getD (4 * t + j) 0).toNat_lt
  rw [UInt8.toNat_toUInt32, UInt32.toNat_ofNat_of_lt' (show _ < 4294967296 by omega)]
theorem setAt_Um (A R : List UInt32) (y x : UInt32) (k : Nat) (h : k = A.length) : setAt (U (A ++ [y] ++ R)) k [u32 x] = U (A ++ [x] ++ R) := by
  subst h
  have := setAt_mid (U A) (U ([y] ++ R)) [u32 x] (by simp)
  rw [U_len] at this
  rw [List.append_assoc, show U (A ++ ([y] ++ R)) = U A ++ U ([y] ++ R) from List.map_append, this]
  simp [U]
/-- The eight words while they are moved up: from place i on they are moved. -/
def movL (l : List UInt32) (i : Nat) : List UInt32 := l.take (i + 1) ++ (l.drop i).take (7 - i)


set_option maxRecDepth 100000 in
theorem ref01_Put (order width : Int) (n : UInt64) (w : World) :
    Ret Try.prog 139 [i64 order, i64 width, u64 n] w (fun v J => ∃ v1, NewB (putR order width n).1 v1 J ∧ v = .tuple #[v1, i64 (putR order width n).2]) := by
  refine enter [] (Mem.nil _) Try.func139 rfl Try.ntmps139 rfl (fun X hX => ?_)
  have hw := hX.w0; subst hw
  refine G.seq <| G.reg <| W.q (sa rfl) rfl <| W.q (sa rfl) rfl <| W.nil <| G.seq <| G.seq <| G.reg <| W.q (mv rfl) rfl <| W.q (mv rfl) rfl <| W.fv Try.ca167 rfl (fun w hm => ref01_shape order width w) rfl <| W.q (nt rfl) rfl <| W.nil <| G.cdn rfl (fun h1 => ?_) (fun h1 => ?_)
  · -- h1 True
    refine G.seq <| G.reg <| W.q (sa rfl) rfl <| W.q (sa rfl) rfl <| W.nil <| ret2 hX Try.results139 rfl rfl fun w hm => done rfl ?_ (hm.slNil 5 1)
    have hs : shapeR order width = false := by cases h : shapeR order width <;> simp_all
    have e : putR order width n = ([], 1) := by rw [putR, if_pos hs]
    rw [e]; exact ⟨_, ⟨none, 0, rfl, rfl⟩, rfl⟩
  · -- h1 False
    have hs : shapeR order width = true := by cases h : shapeR order width <;> simp_all
    have hs2 := hs
    rw [shapeR, decide_eq_true_eq] at hs2
    obtain ⟨hs1, hs2, hs3⟩ := hs2
    obtain ⟨m, rfl⟩ : ∃ m : Nat, width = m := ⟨width.toNat, by omega⟩
    refine G.skip <| G.seq <| G.reg <| W.q (mv rfl) rfl <| W.mkB Try.underlying22 Try.sz5 Try.zrl5 Try.by5 rfl rfl (by omega) (by omega) rfl fun b1 => W.q (sa rfl) rfl <| W.nil <| G.seq <| G.seq <| G.reg <| W.q (sa rfl) rfl <| W.nil <| G.blk <| G.loop2 (α := Nat) (β := UInt64) (fun k nn => k ≤ m ∧ nn.toNat = n.toNat / 256 ^ k) (fun k nn => [(2, u64 nn), (9, i64 k)]) (fun k nn => [nb b1 (B (arrB order (leB k n.toNat ++ List.replicate (m - k) 0))) 5]) (fun k nn => m - k) [(0, _), (1, _), (8, _)] [] 0 n ⟨by omega, by simp⟩ (Sub.cons rfl <| Sub.cons rfl <| Sub.cons rfl <| Sub.cons rfl <| Sub.cons rfl <| Sub.nil _) (Ent.eq (by rw [show arrB order (leB 0 n.toNat ++ List.replicate (m - 0) 0) = List.replicate m 0 by simp [arrB, leB]]; rfl)) (fun k nn hk ih => ?_)
    refine G.seq <| G.seq <| G.reg <| W.q (mv rfl) rfl <| W.q (mv rfl) rfl <| W.q (lt rfl rfl) rfl <| W.nil <| G.cdd rfl (fun h2 => ?_) (fun h2 => ?_)
    · -- h2 True
      have hx : (nn % 256).toUInt8 = byteAt n.toNat k := by
        apply UInt8.toNat_inj.1
        have h256 : (256 : UInt64).toNat = 256 := by decide
        rw [UInt64.toNat_toUInt8, UInt64.toNat_mod, h256, hk.2, byteAt, UInt8.toNat_ofNat']
      have hq : (nn / 256).toNat = n.toNat / 256 ^ (k + 1) := by
        have h256 : (256 : UInt64).toNat = 256 := by decide
        rw [UInt64.toNat_div, h256, hk.2, div_pow]
      have hst := le_set n.toNat m k (by omega)
      have hll : (leB k n.toNat ++ List.replicate (m - k) (0 : UInt8)).length = m := by simp [leB_len]; omega
      rw [← hx] at hst
      refine G.skip <| G.seq <| G.blk <| G.seq <| G.reg <| W.q (mv rfl) rfl <| W.q (sa rfl) rfl <| W.nil <| G.seq <| G.seq <| G.reg <| W.q (mv rfl) rfl <| W.q (eq rfl rfl) rfl <| W.nil <| G.cdd rfl (fun h3 => ?_) (fun h3 => ?_)
      · -- h3 True
        have hset : setAt (B (arrB order (leB k n.toNat ++ List.replicate (m - k) 0))) (0 + ((m : Int) - 1 - k).toNat * 1) [u8 (nn % 256).toUInt8] = B (arrB order (leB (k + 1) n.toNat ++ List.replicate (m - (k + 1)) 0)) := by
          have h2 : order = 2 := by omega
          rw [arrB, if_pos h2, arrB, if_pos h2, setAt_B _ _ _ (by rw [List.length_reverse, hll]; omega), ← hst, ← rev_set _ _ _ (by omega), hll]
          congr 2 <;> omega
        refine G.reg <| W.q (mv rfl) rfl <| W.q (sb rfl rfl (by omega)) rfl <| W.q (mv rfl) rfl <| W.q (sb rfl rfl (by omega)) rfl <| W.q (sa rfl) rfl <| W.nil <| G.seq <| G.reg <| W.q (mv rfl) rfl <| W.q (mv rfl) rfl <| W.q (mv rfl) rfl <| W.q (rem_u64 rfl rfl (by decide)) rfl <| W.q (cv_u64_u8 Try.underlying29 Try.underlying5 rfl) rfl <| W.q (ia Try.esl22 rfl rfl (by omega) (by omega)) rfl <| W.st (cs' := B (arrB order (leB (k + 1) n.toNat ++ List.replicate (m - (k + 1)) 0))) Try.sz5 rfl rfl rfl rfl rfl .hd (by rw [Bl, arrB_len, hll]; omega) hset <| W.nil <| G.reg <| W.q (mv rfl) rfl <| W.q (quo_u64 rfl rfl (by decide)) rfl <| W.q (sa rfl) rfl <| W.nil <| G.inb <| G.reg <| W.q (mv rfl) rfl <| W.q (ad rfl rfl (by omega)) rfl <| W.q (sa rfl) rfl <| W.nil <| (ih (k + 1) (nn / 256) ⟨by omega, hq⟩ (by omega)).weak (Sub.cons rfl <| Sub.cons rfl <| Sub.cons rfl <| Sub.cons rfl <| Sub.cons rfl <| Sub.nil _) .rfl
      · -- h3 False
        have hset : setAt (B (arrB order (leB k n.toNat ++ List.replicate (m - k) 0))) (0 + (k : Int).toNat * 1) [u8 (nn % 256).toUInt8] = B (arrB order (leB (k + 1) n.toNat ++ List.replicate (m - (k + 1)) 0)) := by
          have h2 : order ≠ 2 := by omega
          rw [arrB, if_neg h2, arrB, if_neg h2, setAt_B _ _ _ (by rw [hll]; omega), ← hst]
          congr 2 <;> omega
        refine G.skip <| G.seq <| G.reg <| W.q (mv rfl) rfl <| W.q (mv rfl) rfl <| W.q (mv rfl) rfl <| W.q (rem_u64 rfl rfl (by decide)) rfl <| W.q (cv_u64_u8 Try.underlying29 Try.underlying5 rfl) rfl <| W.q (ia Try.esl22 rfl rfl (by omega) (by omega)) rfl <| W.st (cs' := B (arrB order (leB (k + 1) n.toNat ++ List.replicate (m - (k + 1)) 0))) Try.sz5 rfl rfl rfl rfl rfl .hd (by rw [Bl, arrB_len, hll]; omega) hset <| W.nil <| G.reg <| W.q (mv rfl) rfl <| W.q (quo_u64 rfl rfl (by decide)) rfl <| W.q (sa rfl) rfl <| W.nil <| G.inb <| G.reg <| W.q (mv rfl) rfl <| W.q (ad rfl rfl (by omega)) rfl <| W.q (sa rfl) rfl <| W.nil <| (ih (k + 1) (nn / 256) ⟨by omega, hq⟩ (by omega)).weak (Sub.cons rfl <| Sub.cons rfl <| Sub.cons rfl <| Sub.cons rfl <| Sub.cons rfl <| Sub.nil _) .rfl
    · -- h2 False
      have hkm : k = m := by omega
      subst hkm
      refine G.exit rfl <| G.seq <| G.seq <| G.reg <| W.q (mv rfl) rfl <| W.q (ne rfl rfl) rfl <| W.nil <| G.cdd rfl (fun h4 => ?_) (fun h4 => ?_)
      · -- h4 True
        refine G.seq <| G.reg <| W.q (sa rfl) rfl <| W.q (sa rfl) rfl <| W.nil <| ret2 hX Try.results139 rfl rfl fun w hm => done rfl ?_ (Mem.slNil (hm.drop rfl) 5 1)
        have hne : n.toNat / 256 ^ k ≠ 0 := by rw [← hk.2]; simpa using h4
        have hge : 256 ^ k ≤ n.toNat := Classical.byContradiction fun h => hne (Nat.div_eq_of_lt (by omega))
        have hk8 : k < 8 := Classical.byContradiction fun h => by
          have : k = 8 := by omega
          subst this
          have := n.toNat_lt
          have e8 : 256 ^ 8 = 18446744073709551616 := by decide
          omega
        have e : putR order k n = ([], 2) := by rw [putR, if_neg (by simp [hs]), if_pos ⟨by omega, hge⟩]
        rw [e]; exact ⟨_, ⟨none, 0, rfl, rfl⟩, rfl⟩
      · -- h4 False
        refine G.skip <| G.seq <| G.reg <| W.q (mv rfl) rfl <| W.q (sa rfl) rfl <| W.q (sa rfl) rfl <| W.nil <| ret2 hX Try.results139 rfl rfl fun w hm => done rfl ?_ (Mem.rowB hm (by simp [arrB_len, leB_len]; omega))
        have hz : n.toNat / 256 ^ k = 0 := by rw [← hk.2]; simpa using h4
        have hlt : n.toNat < 256 ^ k := Classical.byContradiction fun h => by
          have := Nat.div_pos (show 256 ^ k ≤ n.toNat by omega) (Nat.pos_of_ne_zero (by simp))
          omega
        have e : putR order k n = (arrB order (leB k n.toNat), 0) := by
          rw [putR, if_neg (by simp [hs]), if_neg (fun h => by have := h.2; simp only [Int.toNat_natCast] at this; omega)]; rfl
        rw [e, Nat.sub_self, List.replicate_zero, List.append_nil]
        exact ⟨_, ⟨some ⟨b1, 0, none⟩, _, rfl, rfl⟩, by simp [arrB_len, leB_len]⟩


set_option maxRecDepth 100000 in
theorem ref02_right (x : UInt32) (n : Int) (h0 : 0 ≤ n) (h : n ≤ 32) (w : World) :
    Ret Try.prog 169 [u32 x, i64 n] w (fun v _ => v = u32 (rotr x n)) := by
  refine enter [] (Mem.nil _) Try.func169 rfl Try.ntmps169 rfl (fun X hX => ?_)
  have hw := hX.w0; subst hw
  refine G.seq <| G.reg <| W.q (sa rfl) rfl <| W.nil <| G.seq <| G.regq Try.mixed (by kernel_rfl) <| W.q (mv rfl) rfl <| W.q (mv rfl) rfl <| W.q (shr_u32 rfl rfl (by omega)) rfl <| W.q (mv rfl) rfl <| W.q (mv rfl) rfl <| W.q (sb rfl rfl (by omega)) rfl <| W.q (shl_u32 rfl rfl (by omega)) rfl <| W.q (or_u32 rfl rfl) rfl <| W.q (sa rfl) rfl <| W.nilq <| ret1 hX Try.results169 rfl fun w hm => done rfl rfl hm


set_option maxRecDepth 100000 in
theorem ref02_First (w : World) : Ret Try.prog 141 [] w (fun v _ => v = .agg (U shaI.l).toArray) := by
  refine enter [] (Mem.nil _) Try.func141 rfl Try.ntmps141 rfl (fun X hX => ?_)
  have hw := hX.w0; subst hw
  refine G.seq <| G.reg <| W.al Try.zrl222 rfl fun b1 => W.nil <| G.seq <| G.reg <| W.q (bldas (cs := [_, _, _, _, _, _, _, _]) Try.arp222 rfl rfl rfl rfl) rfl <| W.sta Try.sz222 rfl rfl rfl rfl .hd rfl <| W.nil <| ret hX Try.results141 (RA.cella rfl Try.agg222 Try.sz222 (Cells.whole .hd) rfl <| RA.nil) fun w hm => done (H := []) rfl ?_ (Dr.ent (Dr.new rfl) w hm)
  rfl


set_option maxRecDepth 100000 in
theorem ref02_Table (w : World) : Ret Try.prog 168 [] w (fun v _ => v = .agg (U shaK).toArray) := by
  refine enter [] (Mem.nil _) Try.func168 rfl Try.ntmps168 rfl (fun X hX => ?_)
  have hw := hX.w0; subst hw
  refine G.seq <| G.reg <| W.al Try.zrl254 rfl fun b1 => W.nil <| G.seq <| G.reg <| W.q (bldas (cs := U shaK) Try.arp254 rfl rfl rfl rfl) rfl <| W.sta Try.sz254 rfl rfl (by rw [U_len, shaK_len]) (U_one _) .hd (by simp) <| W.nil <| ret hX Try.results168 (RA.cella rfl Try.agg254 Try.sz254 (Cells.whole .hd) (by rw [U_len, shaK_len]) <| RA.nil) fun w hm => done (H := []) rfl ?_ (Dr.ent (Dr.new rfl) w hm)
  rfl


set_option maxRecDepth 100000 in
theorem ref02_Compress (s : S8) (a : Option Addr) (len cap : Nat) (bs : List UInt8) (w : World) (hl : RdL w a (B bs)) (hlen : bs.length = 64) (hle : len = 64) :
    Ret Try.prog 142 [.agg (U s.l).toArray, .slice a len cap] w (fun v _ => v = .agg (U (shaC s bs).l).toArray) := by
  subst hle
  refine enter [] (Mem.nil _) Try.func142 rfl Try.ntmps142 rfl (fun X hX => ?_)
  have hw := hX.w0; subst hw
  obtain ⟨zb, zo, rfl, _⟩ := hl 0 _ (B_get (getD_someB bs 0 (by omega)))
  have hcell : ∀ o i, o = i → i < 64 → X.w0.cell? ⟨zb, zo + o, none⟩ = some (u8 (bs.getD i 0)) := fun o i ho hi => by
    subst ho
    obtain ⟨b', o', h1, h2⟩ := hl o _ (B_get (getD_someB bs o (by omega)))
    cases h1; exact h2
  have hz : U (schedL bs 0 ++ List.replicate (64 - 0) 0) = List.replicate 64 (.int .u32 0) := by rw [← U_zeros]; rfl
  refine G.seq <| G.reg <| W.bxa rfl rfl fun b1 => W.al Try.zrl222 rfl fun b2 => W.nil <| G.seq <| G.reg <| W.al Try.zrl254 rfl fun b3 => W.nil <| G.seq <| G.reg <| W.fv Try.ca168 rfl (fun w hm => ref02_Table w) rfl <| W.al Try.zrl254 rfl fun b4 => W.sta Try.sz254 rfl rfl (by simp [S8.l, shaK_len]) (U_one _) .hd (by simp [movL, S8.l]) <| W.nil <| G.seq <| G.reg <| W.q (lda Try.agg222 Try.sz222 rfl (Cells.whole (.tl <| .tl <| .tl <| .hd)) (by simp [S8.l])) rfl <| W.al Try.zrl222 rfl fun b5 => W.sta Try.sz222 rfl rfl (by simp [S8.l, shaK_len]) (U_one _) .hd (by simp [movL, S8.l]) <| W.nil <| G.seq <| G.seq <| G.reg <| W.q (sa rfl) rfl <| W.nil <| G.blk <| G.loop2 (α := Nat) (β := S8) (fun k q => k ≤ 64 ∧ q = shaRounds bs s k) (fun k q => [(8, i64 k)]) (fun k q => [nb b3 (U (schedL bs k ++ List.replicate (64 - k) 0)) 254, nb b5 (U q.l) 222]) (fun k q => 64 - k) [(1, _), (2, _), (4, _), (5, _), (6, _), (7, _)] _ 0 s ⟨by omega, rfl⟩ (Sub.cons rfl <| Sub.cons rfl <| Sub.cons rfl <| Sub.cons rfl <| Sub.cons rfl <| Sub.cons rfl <| Sub.cons rfl <| Sub.nil _) (fun w hm => (Ent.eq (by rw [hz]; rfl)) w ((Ent.perm (.trans (.trans (.trans (.trans (.trans (.cons _ (.trans (.cons _ (.trans (.cons _ (.trans (.cons _ (.refl _)) (.swap _ _ _))) (.swap _ _ _))) (.swap _ _ _))) (.swap _ _ _)) (.trans (.cons _ (.trans (.cons _ (.trans (.cons _ (.trans (.cons _ (.refl _)) (.swap _ _ _))) (.swap _ _ _))) (.swap _ _ _))) (.swap _ _ _))) (.trans (.cons _ (.trans (.cons _ (.trans (.cons _ (.refl _)) (.swap _ _ _))) (.swap _ _ _))) (.swap _ _ _))) (.trans (.cons _ (.trans (.cons _ (.trans (.cons _ (.refl _)) (.swap _ _ _))) (.swap _ _ _))) (.swap _ _ _))) (.trans (.cons _ (.trans (.cons _ (.trans (.cons _ (.trans (.cons _ (.refl _)) (.swap _ _ _))) (.swap _ _ _))) (.swap _ _ _))) (.swap _ _ _)))) w hm)) (fun k q hk ih => ?_)
  refine G.seq <| G.seq <| G.reg <| W.q (mv rfl) rfl <| W.q (lt rfl rfl) rfl <| W.nil <| G.cdd rfl (fun h1 => ?_) (fun h1 => ?_)
  · -- h1 True
    refine G.skip <| G.seq <| G.blk <| G.seq <| G.seq <| G.reg <| W.q (mv rfl) rfl <| W.q (lt rfl rfl) rfl <| W.nil <| G.joinH [] [(1, _), (2, _), (4, _), (5, _), (6, _), (7, _), (8, _)] ([nb b3 (U (schedL bs (k + 1) ++ List.replicate (64 - (k + 1)) 0)) 254, nb b5 (U q.l) 222, nb b4 (U shaK) 254, nb b2 (List.replicate 8 (.int .u32 0)) 222, nb b1 (U s.l) 222]) (Sub.cons rfl <| Sub.cons rfl <| Sub.cons rfl <| Sub.cons rfl <| Sub.cons rfl <| Sub.cons rfl <| Sub.cons rfl <| Sub.nil _) (fun ckey2 => ?_) ?_
    · -- cond 2
      refine G.cdd rfl (fun h2 => ?_) (fun h2 => ?_)
      · -- h2 True
        refine G.seq <| G.reg <| W.q (sa rfl) rfl <| W.nil <| G.blk <| G.loop1 (α := Nat) (fun j => j ≤ 4) (fun j => [(9, i64 j)]) (fun j => [nb b3 (U (schedL bs k ++ [UInt32.ofNat (beN (((bs.drop (4 * k)).take 4).take j))] ++ List.replicate (63 - k) 0)) 254]) (fun j => 4 - j) [(1, _), (2, _), (4, _), (5, _), (6, _), (7, _), (8, _)] _ 0 (by omega) (Sub.cons rfl <| Sub.cons rfl <| Sub.cons rfl <| Sub.cons rfl <| Sub.cons rfl <| Sub.cons rfl <| Sub.cons rfl <| Sub.cons rfl <| Sub.nil _) (Ent.eq (by rw [show 64 - k = 63 - k + 1 by omega, List.append_assoc]; rfl)) (fun j hj ih2 => ?_)
        refine G.seq <| G.seq <| G.reg <| W.q (mv rfl) rfl <| W.q (lt rfl rfl) rfl <| W.nil <| G.cdd rfl (fun h3 => ?_) (fun h3 => ?_)
        · -- h3 True
          have hj4 := beN_eq4 bs k j (by omega) (by omega)
          have hst := setAt_Um (schedL bs k) (List.replicate (63 - k) 0) (UInt32.ofNat (beN (((bs.drop (4 * k)).take 4).take j))) (UInt32.ofNat (beN (((bs.drop (4 * k)).take 4).take (j + 1)))) (0 + (k : Int).toNat * 1) (by rw [schedL_len]; omega)
          have hcu : (U (schedL bs k ++ [UInt32.ofNat (beN (((bs.drop (4 * k)).take 4).take j))] ++ List.replicate (63 - k) 0))[0 + (k : Int).toNat * 1]? = some (u32 (UInt32.ofNat (beN (((bs.drop (4 * k)).take 4).take j)))) := by
            refine U_get ?_
            rw [List.append_assoc, List.getElem?_append_right (by rw [schedL_len]; omega), schedL_len, show 0 + (k : Int).toNat * 1 - k = 0 by omega]; rfl
          
          refine G.skip <| G.seq <| G.blk <| G.regt 15 Try.mixed (by kernel_rfl) <| W.q (mv rfl) rfl <| W.q (mv rfl) rfl <| W.q (iaa Try.ear254 rfl rfl (by omega) (by omega)) rfl <| W.q (ld Try.sc125 rfl (Cell.at .hd hcu)) rfl <| W.q (mul_u32 (b := 256) rfl rfl) rfl <| W.q (mv rfl) rfl <| W.q (mv rfl) rfl <| W.q (ml rfl rfl (by omega)) rfl <| W.q (mv rfl) rfl <| W.q (ad rfl rfl (by omega)) rfl <| W.q (ia Try.esl22 rfl rfl (by omega) (by omega)) rfl <| W.q (ld Try.sc5 rfl (Cell.old rfl (hcell _ (4 * k + j) (by omega) (by omega)))) rfl <| W.q (cv_u8_u32 Try.underlying5 Try.underlying125 rfl) rfl <| W.q (add_u32 rfl rfl) rfl <| W.q (iaa Try.ear254 rfl rfl (by omega) (by omega)) rfl <| W.nilt <| W.st (cs' := U (schedL bs k ++ [UInt32.ofNat (beN (((bs.drop (4 * k)).take 4).take (j + 1)))] ++ List.replicate (63 - k) 0)) Try.sz125 rfl rfl rfl rfl rfl .hd (by simp [schedL_len]) (by simp only [cellsL]; rw [hj4]; exact hst) <| W.nil <| G.inb <| G.reg <| W.q (mv rfl) rfl <| W.q (ad rfl rfl (by omega)) rfl <| W.q (sa rfl) rfl <| W.nil <| (ih2 (j + 1) (by omega) (by omega)).weak (Sub.cons rfl <| Sub.cons rfl <| Sub.cons rfl <| Sub.cons rfl <| Sub.cons rfl <| Sub.cons rfl <| Sub.cons rfl <| Sub.cons rfl <| Sub.nil _) .rfl
        · -- h3 False
          refine G.exit rfl <| ckey2.weak (Sub.cons rfl <| Sub.cons rfl <| Sub.cons rfl <| Sub.cons rfl <| Sub.cons rfl <| Sub.cons rfl <| Sub.cons rfl <| Sub.nil _) (Ent.eq (by rw [schedL, show shaW bs (schedL bs k) k = UInt32.ofNat (beN (((bs.drop (4 * k)).take 4).take j)) by rw [shaW, if_pos (by omega), shaWord, show j = 4 by omega, List.take_take]; rfl, show 64 - (k + 1) = 63 - k by omega]; rfl))
      · -- h2 False
        have hst := setAt_U (schedL bs k) (63 - k) (shaW bs (schedL bs k) k) (0 + (k : Int).toNat * 1) (by rw [schedL_len]; omega)
        have hw : shaW bs (schedL bs k) k = sg1 ((schedL bs k).getD (k - 2) 0) + (schedL bs k).getD (k - 7) 0 + sg0 ((schedL bs k).getD (k - 15) 0) + (schedL bs k).getD (k - 16) 0 := by
          rw [shaW, if_neg (by omega)]; rfl
        rw [show 63 - k + 1 = 64 - k by omega, show 63 - k = 64 - (k + 1) by omega, show schedL bs k ++ [shaW bs (schedL bs k) k] = schedL bs (k + 1) from rfl, hw] at hst
        have hg : ∀ o i, o = i → i < k → (U (schedL bs k ++ List.replicate (64 - k) 0))[o]? = some (u32 ((schedL bs k).getD i 0)) := fun o i ho hi => by
          subst ho; exact U_get (getD_app _ _ _ (by rw [schedL_len]; exact hi))
        refine G.seq <| G.regq Try.mixed (by kernel_rfl) <| W.q (mv rfl) rfl <| W.q (sb rfl rfl (by omega)) rfl <| W.q (iaa Try.ear254 rfl rfl (by omega) (by omega)) rfl <| W.q (ld Try.sc125 rfl (Cell.at .hd (hg _ (k - 15) (by omega) (by omega)))) rfl <| W.q (mv rfl) rfl <| W.q (sb rfl rfl (by omega)) rfl <| W.q (iaa Try.ear254 rfl rfl (by omega) (by omega)) rfl <| W.q (ld Try.sc125 rfl (Cell.at .hd (hg _ (k - 2) (by omega) (by omega)))) rfl <| W.q (sa rfl) rfl <| W.q (sa rfl) rfl <| W.nilq <| G.rega 30 rfl Try.mixed <| A.quiet [0, 1, 2, 3, 4, 5, 6, 7, 8, 9, 10, 11, 12, 13, 14, 15, 16, 17, 18, 19, 20, 21, 22, 23, 24, 25, 26, 27, 28] 29 (fuel := 1) (os := [_, _, _, _, _, _, _, _, _, _, _, _, _, _, _, _, _, _, _, _, _, _, _, _, _, _, _, _, _]) rfl rfl (by kernel_rfl) <| W.q (mv rfl) rfl <| W.q (mv rfl) rfl <| W.fvq Try.ca169 rfl (fun w hm => ref02_right _ 17 (by decide) (by decide) w) rfl <| W.q (mv rfl) rfl <| W.fvq Try.ca169 rfl (fun w hm => ref02_right _ 19 (by decide) (by decide) w) rfl <| W.q (xor_u32 rfl rfl) rfl <| W.q (mv rfl) rfl <| W.q (shr_u32 rfl rfl (by omega)) rfl <| W.q (xor_u32 rfl rfl) rfl <| W.q (mv rfl) rfl <| W.q (sb rfl rfl (by omega)) rfl <| W.q (iaa Try.ear254 rfl rfl (by omega) (by omega)) rfl <| W.q (ld Try.sc125 rfl (Cell.at .hd (hg _ (k - 7) (by omega) (by omega)))) rfl <| W.q (add_u32 rfl rfl) rfl <| W.q (mv rfl) rfl <| W.fvq Try.ca169 rfl (fun w hm => ref02_right _ 7 (by decide) (by decide) w) rfl <| W.q (mv rfl) rfl <| W.fvq Try.ca169 rfl (fun w hm => ref02_right _ 18 (by decide) (by decide) w) rfl <| W.q (xor_u32 rfl rfl) rfl <| W.q (mv rfl) rfl <| W.q (shr_u32 rfl rfl (by omega)) rfl <| W.q (xor_u32 rfl rfl) rfl <| W.q (add_u32 rfl rfl) rfl <| W.q (mv rfl) rfl <| W.q (sb rfl rfl (by omega)) rfl <| W.q (iaa Try.ear254 rfl rfl (by omega) (by omega)) rfl <| W.q (ld Try.sc125 rfl (Cell.at .hd (hg _ (k - 16) (by omega) (by omega)))) rfl <| W.q (add_u32 rfl rfl) rfl <| W.q (iaa Try.ear254 rfl rfl (by omega) (by omega)) rfl <| A.backq <| A.one 29 rfl (by kernel_rfl) <| W.st (cs' := U (schedL bs (k + 1) ++ List.replicate (64 - (k + 1)) 0)) Try.sz125 rfl rfl rfl rfl rfl .hd (by simp [schedL_len]; omega) hst <| A.back <| A.nil (by kernel_rfl) <| ckey2.weak (Sub.cons rfl <| Sub.cons rfl <| Sub.cons rfl <| Sub.cons rfl <| Sub.cons rfl <| Sub.cons rfl <| Sub.cons rfl <| Sub.nil _) .rfl
    have hkW : (U (schedL bs (k + 1) ++ List.replicate (64 - (k + 1)) 0))[0 + (k : Int).toNat * 1]? = some (u32 ((schedL bs 64).getD k 0)) := by
      rw [schedL_at bs k 64 (by omega), ← schedL_at bs k (k + 1) (by omega), show 0 + (k : Int).toNat * 1 = k by omega]
      exact U_get (getD_app _ _ _ (by rw [schedL_len]; omega))
    have hkK : (U shaK)[0 + (k : Int).toNat * 1]? = some (u32 (shaK.getD k 0)) := by
      rw [show 0 + (k : Int).toNat * 1 = k by omega]; exact U_getD _ _ (by rw [shaK_len]; omega)
    refine G.seq <| G.reg <| W.q (iaa Try.ear222 rfl rfl (by omega) (by omega)) rfl <| W.q (ld Try.sc125 rfl (Cell.at (.tl <| .hd) rfl)) rfl <| W.q (iaa Try.ear222 rfl rfl (by omega) (by omega)) rfl <| W.q (ld Try.sc125 rfl (Cell.at (.tl <| .hd) rfl)) rfl <| W.q (and_u32 rfl rfl) rfl <| W.q (iaa Try.ear222 rfl rfl (by omega) (by omega)) rfl <| W.q (ld Try.sc125 rfl (Cell.at (.tl <| .hd) rfl)) rfl <| W.q (cpl_u32 rfl) rfl <| W.q (iaa Try.ear222 rfl rfl (by omega) (by omega)) rfl <| W.q (ld Try.sc125 rfl (Cell.at (.tl <| .hd) rfl)) rfl <| W.q (and_u32 rfl rfl) rfl <| W.q (xor_u32 rfl rfl) rfl <| W.q (sa rfl) rfl <| W.nil <| G.seq <| G.reg <| W.q (iaa Try.ear222 rfl rfl (by omega) (by omega)) rfl <| W.q (ld Try.sc125 rfl (Cell.at (.tl <| .hd) rfl)) rfl <| W.q (iaa Try.ear222 rfl rfl (by omega) (by omega)) rfl <| W.q (ld Try.sc125 rfl (Cell.at (.tl <| .hd) rfl)) rfl <| W.q (and_u32 rfl rfl) rfl <| W.q (iaa Try.ear222 rfl rfl (by omega) (by omega)) rfl <| W.q (ld Try.sc125 rfl (Cell.at (.tl <| .hd) rfl)) rfl <| W.q (iaa Try.ear222 rfl rfl (by omega) (by omega)) rfl <| W.q (ld Try.sc125 rfl (Cell.at (.tl <| .hd) rfl)) rfl <| W.q (and_u32 rfl rfl) rfl <| W.q (xor_u32 rfl rfl) rfl <| W.q (iaa Try.ear222 rfl rfl (by omega) (by omega)) rfl <| W.q (ld Try.sc125 rfl (Cell.at (.tl <| .hd) rfl)) rfl <| W.q (iaa Try.ear222 rfl rfl (by omega) (by omega)) rfl <| W.q (ld Try.sc125 rfl (Cell.at (.tl <| .hd) rfl)) rfl <| W.q (and_u32 rfl rfl) rfl <| W.q (xor_u32 rfl rfl) rfl <| W.q (sa rfl) rfl <| W.nil <| G.seq <| G.regq Try.mixed (by kernel_rfl) <| W.q (iaa Try.ear222 rfl rfl (by omega) (by omega)) rfl <| W.q (ld Try.sc125 rfl (Cell.at (.tl <| .hd) rfl)) rfl <| W.q (iaa Try.ear222 rfl rfl (by omega) (by omega)) rfl <| W.q (ld Try.sc125 rfl (Cell.at (.tl <| .hd) rfl)) rfl <| W.fvq Try.ca169 rfl (fun w hm => ref02_right _ 6 (by decide) (by decide) w) rfl <| W.q (iaa Try.ear222 rfl rfl (by omega) (by omega)) rfl <| W.q (ld Try.sc125 rfl (Cell.at (.tl <| .hd) rfl)) rfl <| W.fvq Try.ca169 rfl (fun w hm => ref02_right _ 11 (by decide) (by decide) w) rfl <| W.q (xor_u32 rfl rfl) rfl <| W.q (iaa Try.ear222 rfl rfl (by omega) (by omega)) rfl <| W.q (ld Try.sc125 rfl (Cell.at (.tl <| .hd) rfl)) rfl <| W.fvq Try.ca169 rfl (fun w hm => ref02_right _ 25 (by decide) (by decide) w) rfl <| W.q (xor_u32 rfl rfl) rfl <| W.q (add_u32 rfl rfl) rfl <| W.q (mv rfl) rfl <| W.q (add_u32 rfl rfl) rfl <| W.q (mv rfl) rfl <| W.q (iaa Try.ear254 rfl rfl (by omega) (by omega)) rfl <| W.q (ld Try.sc125 rfl (Cell.at (.tl <| .tl <| .hd) hkK)) rfl <| W.q (add_u32 rfl rfl) rfl <| W.q (mv rfl) rfl <| W.q (iaa Try.ear254 rfl rfl (by omega) (by omega)) rfl <| W.q (ld Try.sc125 rfl (Cell.at .hd hkW)) rfl <| W.q (add_u32 rfl rfl) rfl <| W.q (sa rfl) rfl <| W.nilq <| G.seq <| G.regq Try.mixed (by kernel_rfl) <| W.q (iaa Try.ear222 rfl rfl (by omega) (by omega)) rfl <| W.q (ld Try.sc125 rfl (Cell.at (.tl <| .hd) rfl)) rfl <| W.fvq Try.ca169 rfl (fun w hm => ref02_right _ 2 (by decide) (by decide) w) rfl <| W.q (iaa Try.ear222 rfl rfl (by omega) (by omega)) rfl <| W.q (ld Try.sc125 rfl (Cell.at (.tl <| .hd) rfl)) rfl <| W.fvq Try.ca169 rfl (fun w hm => ref02_right _ 13 (by decide) (by decide) w) rfl <| W.q (xor_u32 rfl rfl) rfl <| W.q (iaa Try.ear222 rfl rfl (by omega) (by omega)) rfl <| W.q (ld Try.sc125 rfl (Cell.at (.tl <| .hd) rfl)) rfl <| W.fvq Try.ca169 rfl (fun w hm => ref02_right _ 22 (by decide) (by decide) w) rfl <| W.q (xor_u32 rfl rfl) rfl <| W.q (mv rfl) rfl <| W.q (add_u32 rfl rfl) rfl <| W.q (sa rfl) rfl <| W.nilq <| G.seq <| G.seq <| G.reg <| W.q (sa rfl) rfl <| W.nil <| G.blk <| G.loop1 (α := Nat) (fun i => i ≤ 7) (fun i => [(16, i64 i)]) (fun i => [nb b5 (U (movL q.l i)) 222]) (fun i => i) [(1, _), (2, _), (4, _), (5, _), (6, _), (7, _), (8, _), (14, _), (15, _)] _ 7 (by omega) (Sub.cons rfl <| Sub.cons rfl <| Sub.cons rfl <| Sub.cons rfl <| Sub.cons rfl <| Sub.cons rfl <| Sub.cons rfl <| Sub.cons rfl <| Sub.cons rfl <| Sub.cons rfl <| Sub.nil _) (Ent.perm (.trans (.trans (.trans (.trans (.trans (.cons _ (.trans (.cons _ (.trans (.cons _ (.trans (.cons _ (.refl _)) (.swap _ _ _))) (.swap _ _ _))) (.swap _ _ _))) (.swap _ _ _)) (.trans (.cons _ (.trans (.cons _ (.trans (.cons _ (.trans (.cons _ (.refl _)) (.swap _ _ _))) (.swap _ _ _))) (.swap _ _ _))) (.swap _ _ _))) (.trans (.cons _ (.trans (.cons _ (.trans (.cons _ (.trans (.cons _ (.refl _)) (.swap _ _ _))) (.swap _ _ _))) (.swap _ _ _))) (.swap _ _ _))) (.trans (.cons _ (.trans (.cons _ (.trans (.cons _ (.refl _)) (.swap _ _ _))) (.swap _ _ _))) (.swap _ _ _))) (.trans (.cons _ (.trans (.cons _ (.trans (.cons _ (.trans (.cons _ (.refl _)) (.swap _ _ _))) (.swap _ _ _))) (.swap _ _ _))) (.swap _ _ _)))) (fun i hi ih3 => ?_)
    refine G.seq <| G.seq <| G.reg <| W.q (mv rfl) rfl <| W.q (gt rfl rfl) rfl <| W.nil <| G.cdd rfl (fun h4 => ?_) (fun h4 => ?_)
    · -- h4 True
      have hmv : (U (movL q.l i))[0 + ((i : Int) - 1).toNat * 1]? = some (u32 (q.l.getD (i - 1) 0)) ∧ setAt (U (movL q.l i)) (0 + (i : Int).toNat * 1) [u32 (q.l.getD (i - 1) 0)] = U (movL q.l (i - 1)) ∧ (movL q.l i).length = 8 := by
        rcases (show i = 1 ∨ i = 2 ∨ i = 3 ∨ i = 4 ∨ i = 5 ∨ i = 6 ∨ i = 7 by omega) with rfl | rfl | rfl | rfl | rfl | rfl | rfl <;> exact ⟨rfl, rfl, rfl⟩
      refine G.skip <| G.seq <| G.blk <| G.reg <| W.q (mv rfl) rfl <| W.q (mv rfl) rfl <| W.q (sb rfl rfl (by omega)) rfl <| W.q (iaa Try.ear222 rfl rfl (by omega) (by omega)) rfl <| W.q (ld Try.sc125 rfl (Cell.at .hd hmv.1)) rfl <| W.q (iaa Try.ear222 rfl rfl (by omega) (by omega)) rfl <| W.st (cs' := U (movL q.l (i - 1))) Try.sz125 rfl rfl rfl rfl rfl .hd (by rw [U_len, hmv.2.2]; omega) hmv.2.1 <| W.nil <| G.inb <| G.reg <| W.q (mv rfl) rfl <| W.q (sb rfl rfl (by omega)) rfl <| W.q (sa rfl) rfl <| W.nil <| (ih3 (i - 1) (by omega) (by omega)).weak (Sub.co rfl ?_ <| Sub.cons rfl <| Sub.cons rfl <| Sub.cons rfl <| Sub.cons rfl <| Sub.cons rfl <| Sub.cons rfl <| Sub.cons rfl <| Sub.cons rfl <| Sub.cons rfl <| Sub.nil _) .rfl
      all_goals clear ih3
      · show i64 _ = i64 _; congr 1; omega
    · -- h4 False
      have hi0 : i = 0 := by omega
      subst hi0
      refine G.exit rfl <| G.seq <| G.reg <| W.q (iaa Try.ear222 rfl rfl (by omega) (by omega)) rfl <| W.q (ld Try.sc125 rfl (Cell.at .hd rfl)) rfl <| W.q (mv rfl) rfl <| W.q (add_u32 rfl rfl) rfl <| W.q (iaa Try.ear222 rfl rfl (by omega) (by omega)) rfl <| W.st (cs' := [_, _, _, _, _, _, _, _]) Try.sz125 rfl rfl rfl rfl rfl .hd (by simp [movL, S8.l]) rfl <| W.nil <| G.reg <| W.q (mv rfl) rfl <| W.q (mv rfl) rfl <| W.q (add_u32 rfl rfl) rfl <| W.q (iaa Try.ear222 rfl rfl (by omega) (by omega)) rfl <| W.st (cs' := [_, _, _, _, _, _, _, _]) Try.sz125 rfl rfl rfl rfl rfl .hd (by simp [movL, S8.l]) rfl <| W.nil <| G.inb <| G.reg <| W.q (mv rfl) rfl <| W.q (ad rfl rfl (by omega)) rfl <| W.q (sa rfl) rfl <| W.nil <| (ih (k + 1) (shaStep q (shaK.getD k 0) ((schedL bs 64).getD k 0)) ⟨by omega, by rw [hk.2]; rfl⟩ (by omega)).weak (Sub.cons rfl <| Sub.cons rfl <| Sub.cons rfl <| Sub.cons rfl <| Sub.cons rfl <| Sub.cons rfl <| Sub.cons rfl <| Sub.nil _) (Ent.perm (.trans (.trans (.trans (.trans (.trans (.cons _ (.trans (.cons _ (.trans (.cons _ (.trans (.cons _ (.refl _)) (.swap _ _ _))) (.swap _ _ _))) (.swap _ _ _))) (.swap _ _ _)) (.trans (.cons _ (.trans (.cons _ (.trans (.cons _ (.trans (.cons _ (.refl _)) (.swap _ _ _))) (.swap _ _ _))) (.swap _ _ _))) (.swap _ _ _))) (.trans (.cons _ (.trans (.cons _ (.trans (.cons _ (.trans (.cons _ (.refl _)) (.swap _ _ _))) (.swap _ _ _))) (.swap _ _ _))) (.swap _ _ _))) (.trans (.cons _ (.trans (.cons _ (.trans (.cons _ (.refl _)) (.swap _ _ _))) (.swap _ _ _))) (.swap _ _ _))) (.trans (.cons _ (.trans (.cons _ (.trans (.cons _ (.trans (.cons _ (.refl _)) (.swap _ _ _))) (.swap _ _ _))) (.swap _ _ _))) (.swap _ _ _))))
  · -- h1 False
    refine G.exit rfl <| G.seq <| G.seq <| G.reg <| W.q (sa rfl) rfl <| W.nil <| G.blk <| G.loop1 (α := Nat) (fun i => i ≤ 8) (fun i => [(17, i64 i)]) (fun i => [nb b1 (U ((List.zipWith (· + ·) s.l q.l).take i ++ s.l.drop i)) 222]) (fun i => 8 - i) [(2, _), (4, _), (7, _)] _ 0 (by omega) (Sub.cons rfl <| Sub.cons rfl <| Sub.cons rfl <| Sub.cons rfl <| Sub.nil _) (Ent.perm (.trans (.trans (.trans (.trans (.trans (.cons _ (.trans (.cons _ (.trans (.cons _ (.refl _)) (.swap _ _ _))) (.swap _ _ _))) (.swap _ _ _)) (.trans (.cons _ (.trans (.cons _ (.trans (.cons _ (.refl _)) (.swap _ _ _))) (.swap _ _ _))) (.swap _ _ _))) (.trans (.cons _ (.trans (.cons _ (.refl _)) (.swap _ _ _))) (.swap _ _ _))) (.trans (.cons _ (.trans (.cons _ (.trans (.cons _ (.refl _)) (.swap _ _ _))) (.swap _ _ _))) (.swap _ _ _))) (.trans (.cons _ (.trans (.cons _ (.trans (.cons _ (.trans (.cons _ (.refl _)) (.swap _ _ _))) (.swap _ _ _))) (.swap _ _ _))) (.swap _ _ _)))) (fun i hi ih4 => ?_)
    refine G.seq <| G.seq <| G.reg <| W.q (mv rfl) rfl <| W.q (lt rfl rfl) rfl <| W.nil <| G.cdd rfl (fun h5 => ?_) (fun h5 => ?_)
    · -- h5 True
      have hq : (U q.l)[0 + (i : Int).toNat * 1]? = some (u32 (q.l.getD i 0)) := by
        rw [show 0 + (i : Int).toNat * 1 = i by omega]; exact U_getD _ _ (by show _ < 8; omega)
      have hzg := zip_get s.l q.l i (0 + (i : Int).toNat * 1) (by omega) (by show _ < 8; omega) rfl
      have hzs := zip_step s.l q.l i (0 + (i : Int).toNat * 1) (by omega) (by show _ < 8; omega) rfl
      refine G.skip <| G.seq <| G.blk <| G.regt 9 Try.mixed (by kernel_rfl) <| W.q (mv rfl) rfl <| W.q (mv rfl) rfl <| W.q (iaa Try.ear222 rfl rfl (by omega) (by omega)) rfl <| W.q (ld Try.sc125 rfl (Cell.at .hd hzg)) rfl <| W.q (mv rfl) rfl <| W.q (iaa Try.ear222 rfl rfl (by omega) (by omega)) rfl <| W.q (ld Try.sc125 rfl (Cell.at (.tl <| .hd) hq)) rfl <| W.q (add_u32 rfl rfl) rfl <| W.q (iaa Try.ear222 rfl rfl (by omega) (by omega)) rfl <| W.nilt <| W.st (cs' := U ((List.zipWith (· + ·) s.l q.l).take (i + 1) ++ s.l.drop (i + 1))) Try.sz125 rfl rfl rfl rfl rfl .hd (by simp [S8.l]; omega) hzs <| W.nil <| G.inb <| G.reg <| W.q (mv rfl) rfl <| W.q (ad rfl rfl (by omega)) rfl <| W.q (sa rfl) rfl <| W.nil <| (ih4 (i + 1) (by omega) (by omega)).weak (Sub.cons rfl <| Sub.cons rfl <| Sub.cons rfl <| Sub.cons rfl <| Sub.nil _) .rfl
    · -- h5 False
      have hi8 : i = 8 := by omega
      subst hi8
      refine G.exit rfl <| G.seq <| G.reg <| W.q (lda Try.agg222 Try.sz222 rfl (Cells.whole .hd) (by simp [S8.l])) rfl <| W.sta Try.sz222 rfl rfl (by simp [S8.l, shaK_len]) (U_one _) (.tl <| .tl <| .tl <| .tl <| .hd) (by simp [movL, S8.l]) <| W.nil <| ret hX Try.results142 (RA.cella rfl Try.agg222 Try.sz222 (Cells.whole (.tl <| .tl <| .tl <| .tl <| .hd)) (by simp [S8.l]) <| RA.nil) fun w hm => done (H := []) rfl ?_ (Dr.ent (Dr.new rfl) w hm)
      rw [shaC, hk.2, show k = 64 by omega]; rfl

theorem ref_put8 (n : UInt64) (w : World) : Ret Try.prog 139 [i64 2, i64 8, u64 n] w (fun v J => ∃ v1, NewB (leB 8 n.toNat).reverse v1 J ∧ v = .tuple #[v1, i64 0]) := by
  have := ref01_Put 2 8 n w
  rwa [show putR 2 8 n = ((leB 8 n.toNat).reverse, 0) by rw [putR, if_neg (by simp [shapeR]), if_neg (by omega), if_pos rfl]; rfl] at this
theorem slAt_nil {a : Option Addr} {m cap : Nat} (q4 : (a = none ∧ cap = 0 ∧ m = 0) ∨ ∃ g, a = some ⟨g, 0, none⟩) : a = none → m = 0 := fun h => by
  rcases q4 with ⟨_, _, h'⟩ | ⟨g, h'⟩
  · exact h'
  · rw [h'] at h; cases h
theorem shr4 (x : UInt32) (r : Nat) (hr : r < 4) : (shrU32 x (24 - 8 * (r : Int))).toUInt8 = byteAt x.toNat (3 - r) := by
  apply UInt8.toNat_inj.1
  have h : min (24 - 8 * (r : Int)).toNat 32 = 8 * (3 - r) := by omega
  have hlt : x.toNat / 256 ^ (3 - r) < 4294967296 := Nat.lt_of_le_of_lt (Nat.div_le_self _ _) x.toNat_lt
  rw [UInt32.toNat_toUInt8, shrU32, h, pow256, UInt32.toNat_ofNat_of_lt' hlt, byteAt, UInt8.toNat_ofNat']; omega
theorem be4_get (n r : Nat) (hr : r < 4) : (leB 4 n).reverse[r]? = some (byteAt n (3 - r)) := by
  rw [List.getElem?_reverse (by rw [leB_len]; exact hr), leB_len, leB, List.getElem?_map, List.getElem?_range (by omega)]
  simp
theorem outB_get (s : S8) (i : Nat) (hi : i < 32) : (outB s)[i]? = some (shrU32 (s.l.getD (i / 4) 0) (24 - 8 * ((i % 4 : Nat) : Int))).toUInt8 := by
  have h8 : s.l.length = 8 := rfl
  have hf : ∀ (l : List UInt32) (k r : Nat), k < l.length → r < 4 → (l.flatMap fun x => (leB 4 x.toNat).reverse)[4 * k + r]? = (leB 4 (l.getD k 0).toNat).reverse[r]? := by
    intro l
    induction l with
    | nil => intro k r hk; simp at hk
    | cons x l ih =>
      intro k r hk hr
      have hx : (leB 4 x.toNat).reverse.length = 4 := by simp [leB_len]
      cases k with
      | zero => rw [List.flatMap_cons, List.getElem?_append_left (by omega)]; simp
      | succ k =>
        rw [List.flatMap_cons, List.getElem?_append_right (by omega), hx, show 4 * (k + 1) + r - 4 = 4 * k + r by omega, ih k r (by simpa using hk) hr]
        simp
  have := hf s.l (i / 4) (i % 4) (by omega) (by omega)
  rw [Nat.div_add_mod] at this
  rw [outB, this, be4_get _ _ (by omega), shr4 _ _ (by omega)]
theorem out_set (l : List UInt8) (n i o : Nat) (x : UInt8) (hl : l.length = n) (hx : l[i]? = some x) (ho : o = i) : setAt (B (l.take i ++ List.replicate (n - i) 0)) o [u8 x] = B (l.take (i + 1) ++ List.replicate (n - (i + 1)) 0) := by
  subst ho
  have hi := (List.getElem?_eq_some_iff.1 hx).1
  have hlen : (l.take o).length = o := by rw [List.length_take]; omega
  have e : List.replicate (n - o) (0 : UInt8) = [0] ++ List.replicate (n - (o + 1)) 0 := by rw [show n - o = (n - (o + 1)) + 1 by omega]; rfl
  have := setAt_mid (B (l.take o)) (B ([0] ++ List.replicate (n - (o + 1)) 0)) [u8 x] (by simp)
  rw [Bl, hlen] at this
  rw [e, show B (l.take o ++ ([0] ++ List.replicate (n - (o + 1)) 0)) = B (l.take o) ++ B ([0] ++ List.replicate (n - (o + 1)) 0) from List.map_append, this, take_succ' hx]
  simp [B]


set_option maxRecDepth 100000 in
theorem ref02_padding (n : Nat) (hn : n ≤ 140737488351232) (w : World) : Ret Try.prog 140 [i64 n] w (NewB (shaPad n)) := by
  refine enter [] (Mem.nil _) Try.func140 rfl Try.ntmps140 rfl (fun X hX => ?_)
  have hw := hX.w0; subst hw
  refine G.seq <| G.reg <| W.q (sa rfl) rfl <| W.nil <| G.seq <| G.reg <| W.bs (cs := [_]) Try.underlying22 Try.sz5 Try.zrl5 rfl rfl rfl rfl fun b1 => W.q (sa rfl) rfl <| W.nil <| G.seq <| G.blk <| G.loop3 (α := Nat) (β := Option Addr) (γ := Nat) (fun j a3 c3 => j ≤ (119 - n % 64) % 64) (fun j a3 c3 => [(3, .slice a3 (j + 1) c3)]) (fun j a3 c3 => [sl a3 (j + 1) c3 5 1 (B (128 :: List.replicate j 0))]) (fun j a3 c3 => (119 - n % 64) % 64 - j) [(0, _)] [] 0 (some ⟨b1, 0, none⟩) 1 (by omega) (Sub.cons rfl <| Sub.cons rfl <| Sub.nil _) (Ent.rowSl (m := 1) (cap := 1) (s := 1) (cs := [u8 128]) (by decide) (by decide) (by decide)) (fun j a3 c3 hk ih => ?_)
  refine G.seq <| G.seq <| G.reg <| W.q (mv rfl) rfl <| W.q (mv rfl) rfl <| W.q (ln Try.esl22 rfl) rfl <| W.q (ad rfl rfl (by omega)) rfl <| W.q (ad rfl rfl (by omega)) rfl <| W.q (rm rfl rfl (by omega) (by omega)) rfl <| W.q (ne rfl rfl) rfl <| W.nil <| G.cdd rfl (fun h1 => ?_) (fun h1 => ?_)
  · -- h1 True
    refine G.skip <| G.blk <| G.reg <| W.q (mv rfl) rfl <| W.bs (cs := [_]) Try.underlying22 Try.sz5 Try.zrl5 rfl rfl rfl rfl fun b2 => W.ap Try.underlying22 Try.underlying22 Try.sz5 Try.zln5 Try.by5 rfl rfl (fun _ _ => (.tl .hd)) (RdS.row .hd) rfl rfl (by simp) (by omega) (by omega) rfl fun a4 c4 => W.q (sa rfl) rfl <| W.nil <| G.inb <| (ih (j + 1) a4 c4 (by omega) (by omega)).weak (Sub.cons rfl <| Sub.cons rfl <| Sub.nil _) (fun w hm => (Ent.eq (by rw [show B (128 :: List.replicate j 0) ++ [Value.int .u8 0] = B (128 :: List.replicate (j + 1) 0) by rw [List.replicate_succ']; simp [B]]; rfl)) w (hm.drop rfl))
  · -- h1 False
    have hj : j = (119 - n % 64) % 64 := by omega
    subst hj
    refine G.exit rfl <| G.seq <| G.reg <| W.q (mv rfl) rfl <| W.q (cv_i64_u64 Try.underlying3 Try.underlying29 rfl) rfl <| W.q (mul_u64 (b := 8) rfl rfl) rfl <| W.fn Try.ca139 rfl (fun w hm => ref_put8 _ w) rfl fun v J hv hJ => ?_
    rw [sha_pad_n n hn] at hv
    obtain ⟨v1, ⟨a1, c1, rfl, rfl⟩, rfl⟩ := hv
    refine W.slAt (a := a1) (m := _) (cap := c1) (E := 5) (s := 1) (xs := _) (.head _) (fun q1 q2 q3 q4 => ?_)
    refine W.q (mv rfl) rfl <| W.q (ex rfl rfl) rfl <| W.q (ex rfl rfl) rfl <| W.q (sa rfl) rfl <| W.q (sa rfl) rfl <| W.nil <| G.seq <| G.reg <| W.q (mv rfl) rfl <| W.q (mv rfl) rfl <| W.ap Try.underlying22 Try.underlying22 Try.sz5 Try.zln5 Try.by5 rfl rfl (fun _ _ => (.tl .hd)) (RdS.sl (.head _)) (B_len _) (B_one _) (slAt_nil q4) (by rw [List.length_reverse, leB_len]; omega) (by rw [List.length_reverse, leB_len]; omega) rfl fun a5 c5 => W.q (sa rfl) rfl <| W.nil <| ?_
    have hpe : B (128 :: List.replicate ((119 - n % 64) % 64) 0) ++ B (leB 8 (n * 8 % 18446744073709551616)).reverse = B (shaPad n) := by simp [B, shaPad]
    have hpl : (shaPad n).length = (119 - n % 64) % 64 + 1 + (leB 8 (n * 8 % 18446744073709551616)).reverse.length := by rw [shaPad_len]; simp [leB_len]; omega
    refine ret1 hX Try.results140 rfl fun w hm => done (H := [sl a5 (shaPad n).length c5 5 1 (B (shaPad n))]) rfl ⟨a5, c5, by rw [hpl], rfl⟩ (by have := hm.drop rfl; rw [hpl, ← hpe]; exact this)


set_option maxRecDepth 100000 in
theorem ref02_Sum (a : Option Addr) (len cap : Nat) (m : List UInt8) (w : World) (hlen : len = m.length) (hl : RdL w a (B m)) (hb : m.length ≤ 140737488300000) :
    Ret Try.prog 120 [.slice a len cap] w (fun v _ => v = .agg (B (sha256 m)).toArray) := by
  subst hlen
  refine enter [] (Mem.nil _) Try.func120 rfl Try.ntmps120 rfl (fun X hX => ?_)
  have hw := hX.w0; subst hw
  have hpl := shaPad_len m.length
  have hpm := shaPad_mod m.length
  have hml : (m ++ shaPad m.length).length = m.length + (shaPad m.length).length := by simp
  have hz : B (List.replicate 32 0) = List.replicate 32 (.int .u8 0) := by simp [B]
  generalize hM : m ++ shaPad m.length = M at hml
  refine G.seq <| G.reg <| W.al Try.zrl24 rfl fun b1 => W.nil <| G.seq <| G.reg <| W.q (mv rfl) rfl <| W.fn Try.ca13 rfl (fun w hm => ref01_Copyx (hm.rd rfl hl) (by omega) rfl) rfl fun v J hv hJ => ?_
  obtain ⟨a1, c1, rfl, rfl⟩ := hv
  refine W.q (mv rfl) rfl <| W.q (ln Try.esl22 rfl) rfl <| W.fn Try.ca140 rfl (fun w hm => ref02_padding m.length (by omega) w) rfl fun v J hv hJ => ?_
  obtain ⟨a2, c2, rfl, rfl⟩ := hv
  refine W.slAt (a := a2) (m := _) (cap := c2) (E := 5) (s := 1) (xs := _) (.head _) (fun q1 q2 q3 q4 => ?_)
  refine W.ap Try.underlying22 Try.underlying22 Try.sz5 Try.zln5 Try.by5 rfl rfl (fun _ _ => (.tl .hd)) (RdS.sl (.head _)) (B_len _) (B_one _) (slAt_nil q4) (by omega) (by omega) rfl fun a3 c3 => W.q (sa rfl) rfl <| W.nil <| G.seq <| G.reg <| W.fv Try.ca141 rfl (fun w hm => ref02_First w) rfl <| W.al Try.zrl222 rfl fun b2 => W.sta Try.sz222 rfl rfl (by simp [S8.l]) (U_one _) .hd (by simp [S8.l]) <| W.nil <| G.seq <| G.seq <| G.reg <| W.q (sa rfl) rfl <| W.nil <| G.blk <| ?_
  rw [← hml]
  refine G.loop1 (α := Nat) (fun k => 64 * k ≤ M.length) (fun k => [(5, i64 (64 * (k : Int)))]) (fun k => [nb b2 (U (shaBlocks shaI M k).l) 222, sl a3 M.length c3 5 1 (B M)]) (fun k => M.length - k) [(2, _), (3, _), (4, _)] _ 0 (by omega) (Sub.cons rfl <| Sub.cons rfl <| Sub.cons rfl <| Sub.cons rfl <| Sub.nil _) (fun w hm => (Ent.eq (by rw [show B m ++ B (shaPad m.length) = B M by rw [← hM]; simp [B]]; rfl)) w ((Ent.perm (.trans (.trans (.trans (.trans (.cons _ (.trans (.cons _ (.trans (.cons _ (.refl _)) (.swap _ _ _))) (.swap _ _ _))) (.swap _ _ _)) (.trans (.cons _ (.trans (.cons _ (.refl _)) (.swap _ _ _))) (.swap _ _ _))) (.trans (.cons _ (.trans (.cons _ (.trans (.cons _ (.refl _)) (.swap _ _ _))) (.swap _ _ _))) (.swap _ _ _))) (.trans (.cons _ (.trans (.cons _ (.trans (.cons _ (.refl _)) (.swap _ _ _))) (.swap _ _ _))) (.swap _ _ _)))) w hm)) (fun k hk ih => ?_)
  refine G.slAt (a := a3) (m := M.length) (cap := c3) (E := 5) (s := 1) (xs := B M) (.tail _ (.head _)) (fun p1 p2 p3 p4 => ?_)
  refine G.seq <| G.seq <| G.reg <| W.q (mv rfl) rfl <| W.q (mv rfl) rfl <| W.q (ln Try.esl22 rfl) rfl <| W.q (lt rfl rfl) rfl <| W.nil <| G.cdd rfl (fun h1 => ?_) (fun h1 => ?_)
  · -- h1 True
    have e1 : (64 * (k : Int)).toNat = 64 * k := by omega
    refine G.skip <| G.seq <| G.blk <| G.rega 8 rfl Try.mixed <| A.quiet [0, 1, 2, 3, 4, 5, 6] 7 (fuel := 1) (os := [_, _, _, _, _, _, _]) rfl rfl (by kernel_rfl) <| W.q (lda Try.agg222 Try.sz222 rfl (Cells.whole .hd) (by simp [S8.l, outB_len])) rfl <| W.q (mv rfl) rfl <| W.q (mv rfl) rfl <| W.q (mv rfl) rfl <| W.q (ad rfl rfl (by omega)) rfl <| W.q (slh Try.esl22 rfl rfl rfl (by omega) (by omega) (by omega)) rfl <| W.fvq Try.ca142 rfl (fun w hm => ref02_Compress (shaBlocks shaI M k) _ _ _ ((M.drop (64 * k)).take 64) w (by have := (hm.slRd (m := M.length) (cap := c3) (E := 5) (s := 1) (.tail _ <| .head _)).subB (64 * k) 64 c3 p2; rwa [e1]) (by simp; omega) (by omega)) rfl <| A.backq <| A.one 7 rfl (by kernel_rfl) <| W.sta Try.sz222 rfl rfl (by simp [S8.l]) (U_one _) .hd (by simp [S8.l]) <| A.back <| A.nil (by kernel_rfl) <| G.inb <| G.reg <| W.q (mv rfl) rfl <| W.q (ad rfl rfl (by omega)) rfl <| W.q (sa rfl) rfl <| W.nil <| (ih (k + 1) (by omega) (by omega)).weak (Sub.co rfl ?_ <| Sub.cons rfl <| Sub.cons rfl <| Sub.cons rfl <| Sub.nil _) .rfl
    all_goals clear ih
    · show i64 _ = i64 _; congr 1 <;> omega
  · -- h1 False
    have hk64 : k = M.length / 64 := by omega
    generalize hS : shaBlocks shaI M k = S
    refine G.exit rfl <| G.seq <| G.reg <| W.al Try.zrl24 rfl fun b3 => W.nil <| G.seq <| G.seq <| G.reg <| W.q (sa rfl) rfl <| W.nil <| G.blk <| G.loop1 (α := Nat) (fun i => i ≤ 32) (fun i => [(7, i64 i)]) (fun i => [nb b3 (B ((outB S).take i ++ List.replicate (32 - i) 0)) 24]) (fun i => 32 - i) [(2, _), (4, _), (6, _)] _ 0 (by omega) (Sub.cons rfl <| Sub.cons rfl <| Sub.cons rfl <| Sub.cons rfl <| Sub.nil _) (Ent.eq (by rw [show (outB S).take 0 ++ List.replicate (32 - 0) 0 = List.replicate 32 (0 : UInt8) from rfl, hz]; rfl)) (fun i hk ih2 => ?_)
    refine G.seq <| G.seq <| G.reg <| W.q (mv rfl) rfl <| W.q (lt rfl rfl) rfl <| W.nil <| G.cdd rfl (fun h2 => ?_) (fun h2 => ?_)
    · -- h2 True
      have hou := out_set (outB S) 32 i (0 + (i : Int).toNat * 1) _ (outB_len S) (outB_get S i (by omega)) (by omega)
      have hld : (U S.l)[0 + ((i : Int) / 4).toNat * 1]? = some (u32 (S.l.getD (i / 4) 0)) := by
        rw [show 0 + ((i : Int) / 4).toNat * 1 = i / 4 by omega]; exact U_getD _ _ (by show _ < 8; omega)
      have e24 : (24 - 8 * ((i : Int) % 4)) = 24 - 8 * ((i % 4 : Nat) : Int) := by omega
      refine G.skip <| G.seq <| G.blk <| G.reg <| W.q (mv rfl) rfl <| W.q (mv rfl) rfl <| W.q (qo rfl rfl (by omega) (by omega) (by omega)) rfl <| W.q (iaa Try.ear222 rfl rfl (by omega) (by omega)) rfl <| W.q (ld Try.sc125 rfl (Cell.at (.tl <| .hd) hld)) rfl <| W.q (mv rfl) rfl <| W.q (rm rfl rfl (by omega) (by omega)) rfl <| W.q (ml rfl rfl (by omega)) rfl <| W.q (sb rfl rfl (by omega)) rfl <| W.q (shr_u32 rfl rfl (by omega)) rfl <| W.q (cv_u32_u8 Try.underlying125 Try.underlying5 rfl) rfl <| W.q (iaa Try.ear24 rfl rfl (by omega) (by omega)) rfl <| W.st (cs' := B ((outB S).take (i + 1) ++ List.replicate (32 - (i + 1)) 0)) Try.sz5 rfl rfl rfl rfl rfl .hd (by simp [outB_len]; omega) (by rw [e24]; exact hou) <| W.nil <| G.inb <| G.reg <| W.q (mv rfl) rfl <| W.q (ad rfl rfl (by omega)) rfl <| W.q (sa rfl) rfl <| W.nil <| (ih2 (i + 1) (by omega) (by omega)).weak (Sub.cons rfl <| Sub.cons rfl <| Sub.cons rfl <| Sub.cons rfl <| Sub.nil _) .rfl
    · -- h2 False
      have hi32 : i = 32 := by omega
      subst hi32
      refine G.exit rfl <| G.seq <| G.reg <| W.q (lda Try.agg24 Try.sz24 rfl (Cells.whole .hd) (by simp [S8.l, outB_len])) rfl <| W.sta Try.sz24 rfl rfl (by simp [outB_len]) (B_one _) (.tl <| .tl <| .tl <| .tl <| .hd) (by simp [S8.l]) <| W.nil <| ret hX Try.results120 (RA.cella rfl Try.agg24 Try.sz24 (Cells.whole (.tl <| .tl <| .tl <| .tl <| .hd)) (by simp [outB_len]) <| RA.nil) fun w hm => done (H := []) rfl ?_ (Dr.ent (Dr.new rfl) w hm)
      have e : sha256 m = (outB S).take 32 := by rw [List.take_of_length_le (by rw [outB_len]; omega), ← hS, hk64, ← hM]; rfl
      rw [e, show List.replicate (32 - 32) (0 : UInt8) = [] from rfl, List.append_nil]; rfl
end Go.Proofs.Ytjalojbihpdghaa
