/- ChaCha20, the document's; two lists turned by one another, the document's. -/
import Derived.Test.YtjalojbihpdghaaCha2
namespace Go.Proofs.Ytjalojbihpdghaa
open Go Go.Eng
set_option linter.unusedVariables false

def expB : List UInt8 := [101, 120, 112, 97, 110, 100, 32, 51, 50, 45, 98, 121, 116, 101, 32, 107]
theorem expW : (List.range 4).map (leW expB) = chC := by decide
theorem get4 (bs : List UInt8) (k : Nat) (h : 4 * k + 4 ≤ bs.length) {at_ : Int} (ha : at_ = 4 * (k : Int)) : getR 1 bs at_ 4 = (UInt64.ofNat (leN ((bs.drop (4 * k)).take 4)), 0) := by
  subst ha
  rw [getR, if_neg (by simp [shapeR]; omega), if_neg (by omega), show (4 * (k : Int)).toNat = 4 * k by omega]; rfl
theorem u64u32 (n : Nat) : (UInt64.ofNat n).toUInt32 = UInt32.ofNat n := by
  apply UInt32.toNat_inj.1
  rw [UInt64.toNat_toUInt32, UInt64.toNat_ofNat', UInt32.toNat_ofNat']; omega
theorem leW_succ (bs : List UInt8) (k : Nat) : U ((List.range (k + 1)).map (leW bs)) = U ((List.range k).map (leW bs)) ++ [u32 (leW bs k)] := by
  rw [List.range_succ, List.map_append]; simp [U]
theorem plc_get (j k : Nat) (hk : k < 4) : ((plc j).map (fun n : Nat => i64 (n : Int)))[k]? = some (i64 (((plc j).getD k 0 : Nat) : Int)) := by
  have h := plc_len j
  rw [List.getElem?_map, List.getD_eq_getElem?_getD, List.getElem?_eq_getElem (by omega)]; rfl
def tabC : List Value := (List.range 8).flatMap fun j => (plc j).map (fun n : Nat => i64 (n : Int))
theorem tab_cells {w0 : World} {H : List It} {b T : Nat} {fr : Nat × Nat} (h : Has H b (.cells tabC.toArray T fr)) (j : Nat) (hj : j < 8) {o : Nat} (ho : o = 0 + j * 4) : Cells w0 H b o ((plc j).map (fun n : Nat => i64 (n : Int))) := by
  subst ho
  have := Cells.flat (w0 := w0) (H := H) (b := b) (o := 0) (xs := List.range 8) (f := fun j => (plc j).map (fun n : Nat => i64 (n : Int))) (s := 4) (Cells.whole h) (fun x => by rw [List.length_map, plc_len]) j (by simpa using hj)
  rwa [List.getElem_range] at this
theorem B_app (x y : List UInt8) : B (x ++ y) = B x ++ B y := List.map_append
theorem U_at (l : List UInt32) (p o : Nat) (ho : o = p) (h : p < l.length) : (U l)[o]? = some (u32 (l.getD p 0)) := by subst ho; exact U_getD l o h
theorem trn_get (i : Nat) (h : i < 4) : ([i64 16, i64 12, i64 8, i64 7] : List Value)[i]? = some (i64 (trn i)) ∧ 0 ≤ trn i ∧ trn i ≤ 32 := by
  rcases (show i = 0 ∨ i = 1 ∨ i = 2 ∨ i = 3 by omega) with rfl | rfl | rfl | rfl <;> exact ⟨rfl, by decide, by decide⟩
theorem init_all (key nonce : List UInt8) (ctr : UInt32) : ((U chC ++ U ((List.range 8).map (leW key))) ++ [u32 ctr]) ++ U ((List.range 3).map (leW nonce)) = U (chInit key nonce ctr) := by simp [U, chInit]
theorem ref_put4le (x : UInt32) (w : World) : Ret Try.prog 139 [i64 1, i64 4, u64 x.toUInt64] w (fun v J => ∃ v1, NewB (leB 4 x.toNat) v1 J ∧ v = .tuple #[v1, i64 0]) := by
  have := ref01_Put 1 4 x.toUInt64 w
  have h4 := x.toNat_lt
  rwa [show putR 1 4 x.toUInt64 = (leB 4 x.toNat, 0) by
    rw [putR, if_neg (by simp [shapeR]), if_neg (by rw [UInt32.toNat_toUInt64]; have : 256 ^ (4 : Int).toNat = 4294967296 := by decide
                                                    omega), if_neg (by decide), UInt32.toNat_toUInt64]; rfl] at this
theorem strm_sub (key : List UInt8) (q r n M : Nat) (h : r + n ≤ 64 * M) : ((strm key (64 * q) (64 * M)).drop r).take n = strm key (64 * q + r) n := by
  apply List.ext_getElem?
  intro j
  have hs : ∀ (t m i : Nat), i < m → (strm key t m)[i]? = some (strmB key (t + i)) := fun t m i hi => by
    rw [strm, List.getElem?_map, List.getElem?_range hi]; simp only [Option.map_some]
  by_cases hj : j < n
  · rw [List.getElem?_take, if_pos hj, List.getElem?_drop, hs _ _ _ (by omega), hs _ _ _ hj, Nat.add_assoc]
  · rw [List.getElem?_eq_none (by simp [strm_len]; omega), List.getElem?_eq_none (by simp [strm_len]; omega)]
theorem strm_blk (key : List UInt8) (q m : Nat) : strm key (64 * q) (64 * m) ++ chBlock key z12 (UInt32.ofNat (q + m)) = strm key (64 * q) (64 * (m + 1)) := by
  have h := strm_add key (64 * q) (64 * m) 64 (by omega)
  rw [show (64 * q + 64 * m) % 64 = 0 by omega, show (64 * q + 64 * m) / 64 = q + m by omega, List.drop_zero, List.take_of_length_le (by rw [chBlock_len]; exact Nat.le_refl _)] at h
  rw [h]; congr 1


set_option maxRecDepth 100000 in
theorem ref01_Xor2 (pa : Option Addr) (pc : Nat) (a1 a2 : Option Addr) (l1 l2 c1 c2 : Nat) (x y : List UInt8) (w : World) (hpc : 2 ≤ pc) (hl : RdL w pa [.slice a1 l1 c1, .slice a2 l2 c2]) (e1 : l1 = x.length) (e2 : l2 = y.length) (r1 : RdL w a1 (B x)) (r2 : RdL w a2 (B y)) (hxy : y.length = x.length) (hb : x.length ≤ 140737488351232) :
    Ret Try.prog 99 [.slice pa 2 pc] w (fun v J => ∃ v1, NewB (xorB x y) v1 J ∧ v = .tuple #[v1, i64 0]) := by
  subst e1; subst e2
  refine enter [] (Mem.nil _) Try.func99 rfl Try.ntmps99 rfl (fun X hX => ?_)
  have hw := hX.w0; subst hw
  have hzl := xorB_len x y hxy
  obtain ⟨zb, zo, rfl, hx0⟩ := hl 0 _ rfl
  have hx1 : X.w0.cell? ⟨zb, zo + 1, none⟩ = some (.slice a2 y.length c2) := by
    obtain ⟨b', o', q1, q2⟩ := hl 1 _ rfl
    cases q1; exact q2
  refine G.seq <| G.reg <| W.q (sa rfl) rfl <| W.q (sa rfl) rfl <| W.nil <| G.seq <| G.reg <| W.q (sa rfl) rfl <| W.nil <| G.seq <| G.seq <| G.reg <| W.q (sa rfl) rfl <| W.nil <| G.blk <| G.loop4 (α := Nat) (β := Option Addr) (γ := Nat) (δ := Nat) (fun k a3 c3 m => k ≤ 2 ∧ (k ≠ 0 → m = x.length)) (fun k a3 c3 m => [(4, .slice a3 m c3), (5, i64 k)]) (fun k a3 c3 m => [sl a3 m c3 5 1 (B (if k = 0 then [] else if k = 1 then x else xorB x y))]) (fun k a3 c3 m => 2 - k) [(0, _)] [] 0 none 0 0 ⟨by omega, by simp⟩ (Sub.cons rfl <| Sub.cons rfl <| Sub.cons rfl <| Sub.nil _) (Ent.slNil 5 1) (fun k a3 c3 m hkk ih => ?_)
  refine G.seq <| G.seq <| G.reg <| W.q (mv rfl) rfl <| W.q (mv rfl) rfl <| W.q (ln Try.esl73 rfl) rfl <| W.q (lt rfl rfl) rfl <| W.nil <| G.cdd rfl (fun h1 => ?_) (fun h1 => ?_)
  · -- h1 True
    refine G.skip <| G.seq <| G.blk <| G.seq <| G.seq <| G.reg <| W.q (mv rfl) rfl <| W.q (eq rfl rfl) rfl <| W.nil <| G.cdd rfl (fun h2 => ?_) (fun h2 => ?_)
    · -- h2 True
      have hk0 : k = 0 := by omega
      subst hk0
      refine G.seq <| G.reg <| W.q (mv rfl) rfl <| W.q (ia Try.esl73 rfl rfl (by omega) (by omega)) rfl <| W.q (ld Try.sc22 rfl (Cell.old rfl (by simpa using hx0))) rfl <| W.fn Try.ca13 rfl (fun w hm => ref01_Copyx (hm.rd rfl r1) hb rfl) rfl fun v J hv hJ => ?_
      obtain ⟨a4, c4, rfl, rfl⟩ := hv
      refine W.q (sa rfl) rfl <| W.nil <| G.exit rfl <| G.reg <| W.q (mv rfl) rfl <| W.q (ad rfl rfl (by omega)) rfl <| W.q (sa rfl) rfl <| W.nil <| (ih 1 a4 c4 x.length ⟨by omega, fun _ => rfl⟩ (by omega)).weak (Sub.cons rfl <| Sub.cons rfl <| Sub.cons rfl <| Sub.nil _) (Dr.ent (.keep <| .drop rfl .rfl))
    · -- h2 False
      have hk1 : k = 1 := by omega
      subst hk1
      obtain rfl := hkk.2 (by omega)
      refine G.skip <| G.seq <| G.seq <| G.reg <| W.q (mv rfl) rfl <| W.q (mv rfl) rfl <| W.q (ia Try.esl73 rfl rfl (by omega) (by omega)) rfl <| W.q (ld Try.sc22 rfl (Cell.old rfl hx1)) rfl <| W.q (ln Try.esl22 rfl) rfl <| W.q (mv rfl) rfl <| W.q (ln Try.esl22 rfl) rfl <| W.q (ne rfl rfl) rfl <| W.nil <| G.cdf rfl (decide_eq_false (by omega)) <| G.skip <| G.seq <| G.reg <| W.q (sa rfl) rfl <| W.nil <| G.blk <| G.loop1 (α := Nat) (fun j => j ≤ x.length) (fun j => [(6, i64 j)]) (fun j => [sl a3 x.length c3 5 1 (B ((xorB x y).take j ++ x.drop j))]) (fun j => x.length - j) [(0, _), (4, _), (5, _)] [] 0 (by omega) (Sub.cons rfl <| Sub.cons rfl <| Sub.cons rfl <| Sub.cons rfl <| Sub.nil _) .rfl (fun j hj ih2 => ?_)
      refine G.seq <| G.seq <| G.reg <| W.q (mv rfl) rfl <| W.q (mv rfl) rfl <| W.q (ln Try.esl22 rfl) rfl <| W.q (lt rfl rfl) rfl <| W.nil <| G.cdd rfl (fun h4 => ?_) (fun h4 => ?_)
      · -- h4 True
        obtain ⟨va, hva⟩ : ∃ v, x[j]? = some v := ⟨_, List.getElem?_eq_getElem (by omega)⟩
        obtain ⟨vb, hvb⟩ : ∃ v, y[j]? = some v := ⟨_, List.getElem?_eq_getElem (by omega)⟩
        have hxg := xorB_get x y j va vb hva hvb
        obtain ⟨yb, yo, rfl, hyc⟩ := r2 j _ (B_get hvb)
        refine G.slAt (a := a3) (m := x.length) (cap := c3) (E := 5) (s := 1) (xs := _) (.head _) (fun p1 p2 p3 p4 => ?_)
        obtain ⟨g, rfl⟩ : ∃ g, a3 = some ⟨g, 0, none⟩ := by rcases p4 with ⟨_, _, h⟩ | h; omega; exact h
        refine G.skip <| G.seq <| G.blk <| G.regt 15 Try.mixed (by kernel_rfl) <| W.q (mv rfl) rfl <| W.q (mv rfl) rfl <| W.q (mv rfl) rfl <| W.q (mv rfl) rfl <| W.q (ia Try.esl22 rfl rfl (by omega) (by omega)) rfl <| W.q (ld Try.sc5 rfl ((Rdf.sl (m := x.length) (cap := c3) (E := 5) (s := 1) (.head _)).cellOf (xz_get x (xorB x y) j ((j : Int).toNat * 1) va hzl hva (by omega)))) rfl <| W.q (mv rfl) rfl <| W.q (mv rfl) rfl <| W.q (ia Try.esl73 rfl rfl (by omega) (by omega)) rfl <| W.q (ld Try.sc22 rfl (Cell.old rfl hx1)) rfl <| W.q (mv rfl) rfl <| W.q (ia Try.esl22 rfl rfl (by omega) (by omega)) rfl <| W.q (ld Try.sc5 rfl (Cell.old rfl (by rw [show (j : Int).toNat * 1 = j by omega]; exact hyc))) rfl <| W.q (xor_u8 rfl rfl) rfl <| W.q (ia Try.esl22 rfl rfl (by omega) (by omega)) rfl <| W.nilt <| W.stS (xs' := B ((xorB x y).take (j + 1) ++ x.drop (j + 1))) Try.sz5 rfl rfl rfl rfl rfl .hd (by omega) (xz_set x (xorB x y) j (0 + (j : Int).toNat * 1) _ hzl hxg (by omega)) <| W.nil <| G.inb <| G.reg <| W.q (mv rfl) rfl <| W.q (ad rfl rfl (by omega)) rfl <| W.q (sa rfl) rfl <| W.nil <| (ih2 (j + 1) (by omega) (by omega)).weak (Sub.cons rfl <| Sub.cons rfl <| Sub.cons rfl <| Sub.cons rfl <| Sub.nil _) .rfl
      · -- h4 False
        refine G.exit rfl <| G.inb <| G.reg <| W.q (mv rfl) rfl <| W.q (ad rfl rfl (by omega)) rfl <| W.q (sa rfl) rfl <| W.nil <| (ih 2 a3 c3 x.length ⟨by omega, fun _ => rfl⟩ (by omega)).weak (Sub.cons rfl <| Sub.cons rfl <| Sub.cons rfl <| Sub.nil _) (Ent.eq (by rw [show j = x.length by omega, List.take_of_length_le (by omega), List.drop_eq_nil_of_le (by omega), List.append_nil (xorB x y)]; rfl))
  · -- h1 False
    have hk2 : k = 2 := by omega
    subst hk2
    obtain rfl := hkk.2 (by omega)
    refine G.exit rfl <| G.seq <| G.reg <| W.q (mv rfl) rfl <| W.q (sa rfl) rfl <| W.q (sa rfl) rfl <| W.nil <| ret2 hX Try.results99 rfl rfl fun w hm => done (H := [sl a3 (xorB x y).length c3 5 1 (B (xorB x y))]) rfl ⟨_, ⟨a3, c3, rfl, rfl⟩, by rw [hzl]⟩ (by rw [hzl]; exact hm)


set_option maxRecDepth 100000 in
theorem ref04_left (x : UInt32) (n : Int) (h0 : 0 ≤ n) (h : n ≤ 32) (w : World) :
    Ret Try.prog 166 [u32 x, i64 n] w (fun v _ => v = u32 (rotl x n)) := by
  refine enter [] (Mem.nil _) Try.func166 rfl Try.ntmps166 rfl (fun X hX => ?_)
  have hw := hX.w0; subst hw
  refine G.seq <| G.reg <| W.q (sa rfl) rfl <| W.nil <| G.seq <| G.regq Try.mixed (by kernel_rfl) <| W.q (mv rfl) rfl <| W.q (mv rfl) rfl <| W.q (shl_u32 rfl rfl (by omega)) rfl <| W.q (mv rfl) rfl <| W.q (mv rfl) rfl <| W.q (sb rfl rfl (by omega)) rfl <| W.q (shr_u32 rfl rfl (by omega)) rfl <| W.q (or_u32 rfl rfl) rfl <| W.q (sa rfl) rfl <| W.nilq <| ret1 hX Try.results166 rfl fun w hm => done rfl rfl hm


set_option maxRecDepth 100000 in
theorem ref04_Quarter (q0 : Q4) (w : World) :
    Ret Try.prog 138 [.agg (U q0.l).toArray] w (fun v _ => v = .agg (U (qn q0 4).l).toArray) := by
  refine enter [] (Mem.nil _) Try.func138 rfl Try.ntmps138 rfl (fun X hX => ?_)
  have hw := hX.w0; subst hw
  refine G.seq <| G.reg <| W.bxa rfl rfl fun b1 => W.al Try.zrl219 rfl fun b2 => W.nil <| G.seq <| G.reg <| W.q (bldas (cs := [_, _, _, _]) Try.arp217 rfl rfl rfl rfl) rfl <| W.al Try.zrl217 rfl fun b3 => W.sta Try.sz217 rfl rfl rfl rfl .hd (by simp [Q4.l]) <| W.nil <| G.seq <| G.seq <| G.reg <| W.q (sa rfl) rfl <| W.nil <| G.blk <| G.loop2 (α := Nat) (β := Q4) (fun i q => i ≤ 4 ∧ q = qn q0 i) (fun i q => [(4, i64 i)]) (fun i q => [nb b1 (U q.l) 219]) (fun i q => 4 - i) [(1, _), (2, _), (3, _)] _ 0 q0 ⟨by omega, rfl⟩ (Sub.cons rfl <| Sub.cons rfl <| Sub.cons rfl <| Sub.cons rfl <| Sub.nil _) (Ent.perm (.trans (.trans (.trans (.cons _ (.refl _)) (.swap _ _ _)) (.trans (.cons _ (.refl _)) (.swap _ _ _))) (.trans (.cons _ (.trans (.cons _ (.refl _)) (.swap _ _ _))) (.swap _ _ _)))) (fun i q hi ih => ?_)
  refine G.seq <| G.seq <| G.reg <| W.q (mv rfl) rfl <| W.q (lt rfl rfl) rfl <| W.nil <| G.cdd rfl (fun h1 => ?_) (fun h1 => ?_)
  · -- h1 True
    obtain ⟨htg, ht0, ht1⟩ := trn_get i (by omega)
    refine G.skip <| G.seq <| G.blk <| G.seq <| G.reg <| W.q (mv rfl) rfl <| W.q (rm rfl rfl (by omega) (by omega)) rfl <| W.q (eq rfl rfl) rfl <| W.nil <| G.cdd rfl (fun h2 => ?_) (fun h2 => ?_)
    · -- h2 True
      refine G.seq <| G.reg <| W.q (iaa Try.ear219 rfl rfl (by omega) (by omega)) rfl <| W.q (ld Try.sc125 rfl (Cell.at .hd rfl)) rfl <| W.q (iaa Try.ear219 rfl rfl (by omega) (by omega)) rfl <| W.q (ld Try.sc125 rfl (Cell.at .hd rfl)) rfl <| W.q (add_u32 rfl rfl) rfl <| W.q (iaa Try.ear219 rfl rfl (by omega) (by omega)) rfl <| W.st (cs' := [_, _, _, _]) Try.sz125 rfl rfl rfl rfl rfl .hd (by simp [Q4.l]) rfl <| W.nil <| G.rega 11 rfl Try.mixed <| A.quiet [0, 1, 2, 3, 4, 5, 6, 7, 8, 9] 10 (fuel := 1) (os := [_, _, _, _, _, _, _, _, _, _]) rfl rfl (by kernel_rfl) <| W.q (iaa Try.ear219 rfl rfl (by omega) (by omega)) rfl <| W.q (ld Try.sc125 rfl (Cell.at .hd rfl)) rfl <| W.q (iaa Try.ear219 rfl rfl (by omega) (by omega)) rfl <| W.q (ld Try.sc125 rfl (Cell.at .hd rfl)) rfl <| W.q (xor_u32 rfl rfl) rfl <| W.q (mv rfl) rfl <| W.q (iaa Try.ear217 rfl rfl (by omega) (by omega)) rfl <| W.q (ld Try.sc3 rfl (Cell.at (.tl <| .hd) (by simpa using htg))) rfl <| W.fvq Try.ca166 rfl (fun w hm => ref04_left _ _ ht0 ht1 w) rfl <| W.q (iaa Try.ear219 rfl rfl (by omega) (by omega)) rfl <| A.backq <| A.one 10 rfl (by kernel_rfl) <| W.st (cs' := [_, _, _, _]) Try.sz125 rfl rfl rfl rfl rfl .hd (by simp [Q4.l]) rfl <| A.back <| A.nil (by kernel_rfl) <| G.inb <| G.reg <| W.q (mv rfl) rfl <| W.q (ad rfl rfl (by omega)) rfl <| W.q (sa rfl) rfl <| W.nil <| (ih (i + 1) (qstep i q) ⟨by omega, by rw [hi.2]; rfl⟩ (by omega)).weak (Sub.cons rfl <| Sub.cons rfl <| Sub.cons rfl <| Sub.cons rfl <| Sub.nil _) (Ent.eq (by rw [qstep, if_pos (by omega)]; rfl))
    · -- h2 False
      refine G.seq <| G.reg <| W.q (iaa Try.ear219 rfl rfl (by omega) (by omega)) rfl <| W.q (ld Try.sc125 rfl (Cell.at .hd rfl)) rfl <| W.q (iaa Try.ear219 rfl rfl (by omega) (by omega)) rfl <| W.q (ld Try.sc125 rfl (Cell.at .hd rfl)) rfl <| W.q (add_u32 rfl rfl) rfl <| W.q (iaa Try.ear219 rfl rfl (by omega) (by omega)) rfl <| W.st (cs' := [_, _, _, _]) Try.sz125 rfl rfl rfl rfl rfl .hd (by simp [Q4.l]) rfl <| W.nil <| G.rega 11 rfl Try.mixed <| A.quiet [0, 1, 2, 3, 4, 5, 6, 7, 8, 9] 10 (fuel := 1) (os := [_, _, _, _, _, _, _, _, _, _]) rfl rfl (by kernel_rfl) <| W.q (iaa Try.ear219 rfl rfl (by omega) (by omega)) rfl <| W.q (ld Try.sc125 rfl (Cell.at .hd rfl)) rfl <| W.q (iaa Try.ear219 rfl rfl (by omega) (by omega)) rfl <| W.q (ld Try.sc125 rfl (Cell.at .hd rfl)) rfl <| W.q (xor_u32 rfl rfl) rfl <| W.q (mv rfl) rfl <| W.q (iaa Try.ear217 rfl rfl (by omega) (by omega)) rfl <| W.q (ld Try.sc3 rfl (Cell.at (.tl <| .hd) (by simpa using htg))) rfl <| W.fvq Try.ca166 rfl (fun w hm => ref04_left _ _ ht0 ht1 w) rfl <| W.q (iaa Try.ear219 rfl rfl (by omega) (by omega)) rfl <| A.backq <| A.one 10 rfl (by kernel_rfl) <| W.st (cs' := [_, _, _, _]) Try.sz125 rfl rfl rfl rfl rfl .hd (by simp [Q4.l]) rfl <| A.back <| A.nil (by kernel_rfl) <| G.inb <| G.reg <| W.q (mv rfl) rfl <| W.q (ad rfl rfl (by omega)) rfl <| W.q (sa rfl) rfl <| W.nil <| (ih (i + 1) (qstep i q) ⟨by omega, by rw [hi.2]; rfl⟩ (by omega)).weak (Sub.cons rfl <| Sub.cons rfl <| Sub.cons rfl <| Sub.cons rfl <| Sub.nil _) (Ent.eq (by rw [qstep, if_neg (by omega)]; rfl))
  · -- h1 False
    have hi4 : i = 4 := by omega
    subst hi4
    refine G.exit rfl <| G.seq <| G.reg <| W.q (lda Try.agg219 Try.sz219 rfl (Cells.whole .hd) rfl) rfl <| W.sta Try.sz219 rfl rfl rfl rfl (.tl <| .tl <| .hd) (by simp [Q4.l]) <| W.nil <| ret hX Try.results138 (RA.cella rfl Try.agg219 Try.sz219 (Cells.whole (.tl <| .tl <| .hd)) rfl <| RA.nil) fun w hm => done (H := []) rfl ?_ (Dr.ent (Dr.new rfl) w hm)
    rw [hi.2]; rfl


set_option maxRecDepth 100000 in
theorem ref04_words (a : Option Addr) (len cap : Nat) (bs : List UInt8) (m : Nat) (w : World) (hlen : len = bs.length) (hl : RdL w a (B bs)) (hm4 : bs.length = 4 * m) (hb : m ≤ 1000000) :
    Ret Try.prog 137 [.slice a len cap] w (fun v J => ∃ a' c', v = .slice a' m c' ∧ J = [sl a' m c' 125 1 (U ((List.range m).map (leW bs)))]) := by
  subst hlen
  refine enter [] (Mem.nil _) Try.func137 rfl Try.ntmps137 rfl (fun X hX => ?_)
  have hw := hX.w0; subst hw
  refine G.seq <| G.reg <| W.q (sa rfl) rfl <| W.nil <| G.seq <| G.reg <| W.q (sa rfl) rfl <| W.nil <| G.seq <| G.seq <| G.reg <| W.q (sa rfl) rfl <| W.nil <| G.blk <| G.loop3 (α := Nat) (β := Option Addr) (γ := Nat) (fun k a3 c3 => k ≤ m) (fun k a3 c3 => [(3, .slice a3 k c3), (4, i64 (4 * (k : Int)))]) (fun k a3 c3 => [sl a3 k c3 125 1 (U ((List.range k).map (leW bs)))]) (fun k a3 c3 => m - k) [(0, _)] [] 0 none 0 (by omega) (Sub.cons rfl <| Sub.cons rfl <| Sub.cons rfl <| Sub.nil _) (Ent.slNil 125 1) (fun k a3 c3 hk ih => ?_)
  refine G.seq <| G.seq <| G.reg <| W.q (mv rfl) rfl <| W.q (ad rfl rfl (by omega)) rfl <| W.q (mv rfl) rfl <| W.q (ln Try.esl22 rfl) rfl <| W.q (lt rfl rfl) rfl <| W.nil <| G.cdd rfl (fun h1 => ?_) (fun h1 => ?_)
  · -- h1 True
    refine G.skip <| G.seq <| G.blk <| G.seq <| G.reg <| W.q (mv rfl) rfl <| W.q (mv rfl) rfl <| W.fv Try.ca165 rfl (fun w hm => by have := ref01_Get 1 a bs.length cap bs w rfl (hm.rd rfl hl) (by omega) (4 * (k : Int)) 4; rw [get4 bs k (by omega) rfl] at this; exact this) rfl <| W.q (mv rfl) rfl <| W.q (ex rfl rfl) rfl <| W.q (ex rfl rfl) rfl <| W.q (sa rfl) rfl <| W.q (sa rfl) rfl <| W.nil <| G.reg <| W.q (mv rfl) rfl <| W.q (mv rfl) rfl <| W.q (cv_u64_u32 Try.underlying29 Try.underlying125 rfl) rfl <| W.bs (cs := [_]) Try.underlying215 Try.sz125 Try.zrl125 rfl rfl rfl rfl fun b1 => W.ap Try.underlying215 Try.underlying215 Try.sz125 Try.zln125 Try.by125 rfl rfl (fun _ _ => (.tl <| .hd)) (RdS.row .hd) rfl rfl (by simp) (by omega) (by omega) rfl fun a4 c4 => W.q (sa rfl) rfl <| W.nil <| G.inb <| G.reg <| W.q (mv rfl) rfl <| W.q (ad rfl rfl (by omega)) rfl <| W.q (sa rfl) rfl <| W.nil <| (ih (k + 1) a4 c4 (by omega) (by omega)).weak (Sub.cons rfl <| Sub.co rfl ?_ <| Sub.cons rfl <| Sub.nil _) (fun w hm => (Ent.eq (by rw [leW_succ, show leW bs k = (UInt64.ofNat (leN ((bs.drop (4 * k)).take 4))).toUInt32 by rw [u64u32]; rfl]; rfl)) w (hm.drop rfl))
    all_goals clear ih
    · show i64 _ = i64 _; congr 1 <;> omega
  · -- h1 False
    have hkm : k = m := by omega
    subst hkm
    refine G.exit rfl <| G.seq <| G.reg <| W.q (mv rfl) rfl <| W.q (sa rfl) rfl <| W.nil <| ret1 hX Try.results137 rfl fun w hm => done rfl ⟨a3, c3, rfl, rfl⟩ hm


set_option maxRecDepth 100000 in
theorem ref04_Block (ka : Option Addr) (kl kc : Nat) (key : List UInt8) (na : Option Addr) (nl nc : Nat) (nonce : List UInt8) (ctr : UInt32) (w : World) (hkl : kl = key.length) (hk : RdL w ka (B key)) (hk32 : key.length = 32) (hnl : nl = nonce.length) (hn : RdL w na (B nonce)) (hn12 : nonce.length = 12) :
    Ret Try.prog 118 [.slice ka kl kc, .slice na nl nc, u32 ctr] w (NewB (chBlock key nonce ctr)) := by
  refine enter [] (Mem.nil _) Try.func118 rfl Try.ntmps118 rfl (fun X hX => ?_)
  have hw := hX.w0; subst hw
  have hSl : (chSum (chInit key nonce ctr)).length = 16 := chSum_len _ (chInit_len _ _ _)
  have hS16 := chInit_len key nonce ctr
  have hO : chBlock key nonce ctr = chOut (chSum (chInit key nonce ctr)) := rfl
  have hia := init_all key nonce ctr
  generalize hSS : chInit key nonce ctr = S at hSl hS16 hO hia
  refine G.seq <| G.reg <| W.q (sa rfl) rfl <| W.nil <| G.seq <| G.reg <| W.bs Try.underlying22 Try.sz5 Try.zrl5 rfl rfl rfl rfl fun b1 => W.cvss Try.underlying22 Try.underlying5 rfl .hd rfl <| W.fn Try.ca137 rfl (fun w hm => ref04_words (some ⟨b1, 0, none⟩) 16 16 expB 4 w rfl (hm.rowRd (cs := B expB) .hd) rfl (by decide)) rfl fun v J hv hJ => ?_
  rw [expW] at hv
  obtain ⟨a1, c1, rfl, rfl⟩ := hv
  refine W.q (sa rfl) rfl <| W.nil <| G.seq <| G.reg <| W.q (mv rfl) rfl <| W.q (mv rfl) rfl <| W.fn Try.ca137 rfl (fun w hm => ref04_words ka kl kc key 8 w hkl (hm.rd rfl hk) hk32 (by decide)) rfl fun v J hv hJ => ?_
  obtain ⟨a2, c2, rfl, rfl⟩ := hv
  refine W.slAt (a := a2) (m := 8) (cap := c2) (E := 125) (s := 1) (xs := _) (.head _) (fun q1 q2 q3 q4 => ?_)
  refine W.ap Try.underlying215 Try.underlying215 Try.sz125 Try.zln125 Try.by125 rfl rfl (fun _ _ => (.tl <| .hd)) (RdS.sl (.head _)) rfl (U_one _) (slAt_nil q4) (by omega) (by omega) rfl fun a3 c3 => W.q (sa rfl) rfl <| W.nil <| G.seq <| G.reg <| W.q (mv rfl) rfl <| W.q (mv rfl) rfl <| W.bs (cs := [_]) Try.underlying215 Try.sz125 Try.zrl125 rfl rfl rfl rfl fun b2 => W.ap Try.underlying215 Try.underlying215 Try.sz125 Try.zln125 Try.by125 rfl rfl (fun _ _ => (.tl <| .tl <| .hd)) (RdS.row .hd) rfl rfl (fun h => by cases h) (by omega) (by omega) rfl fun a4 c4 => W.q (sa rfl) rfl <| W.nil <| G.seq <| G.reg <| W.q (mv rfl) rfl <| W.q (mv rfl) rfl <| W.fn Try.ca137 rfl (fun w hm => ref04_words na nl nc nonce 3 w hnl (hm.rd rfl hn) hn12 (by decide)) rfl fun v J hv hJ => ?_
  obtain ⟨a5, c5, rfl, rfl⟩ := hv
  refine W.slAt (a := a5) (m := 3) (cap := c5) (E := 125) (s := 1) (xs := _) (.head _) (fun r1 r2 r3 r4 => ?_)
  refine W.ap Try.underlying215 Try.underlying215 Try.sz125 Try.zln125 Try.by125 rfl rfl (fun _ _ => (.tl <| .tl <| .tl <| .hd)) (RdS.sl (.head _)) rfl (U_one _) (slAt_nil r4) (by omega) (by omega) rfl fun a6 c6 => W.q (sa rfl) rfl <| W.nil <| G.seq <| ?_
  refine G.slAt (a := a6) (m := 4 + 8 + 1 + 3) (cap := c6) (E := 125) (s := 1) (xs := _) (.tail _ <| .tail _ <| .tail _ <| .head _) (fun u1 u2 u3 u4 => ?_)
  obtain ⟨g, rfl⟩ : ∃ g, a6 = some ⟨g, 0, none⟩ := by rcases u4 with ⟨_, _, h⟩ | h; cases h; exact h
  rw [hia]
  refine G.reg <| W.bs (cs := []) Try.underlying215 Try.sz125 Try.zrl125 rfl rfl rfl rfl fun b3 => W.ent (Ent.rowSl (m := 0) (cap := 0) (s := 1) (Nat.le_refl _) (by omega) (by simp [maxLen])) <| W.q (mv rfl) rfl <| W.ap Try.underlying215 Try.underlying215 Try.sz125 Try.zln125 Try.by125 rfl rfl (fun _ _ => .hd) (RdS.sl (m := 4 + 8 + 1 + 3) (cap := c6) (E := 125) (s := 1) (.tail _ <| .tail _ <| .tail _ <| .tail _ <| .head _)) (by rw [U_len, hS16]) (U_one _) (fun h => by cases h) (by omega) (by omega) rfl fun a7 c7 => W.q (sa rfl) rfl <| W.nil <| G.seq <| ?_
  refine G.slAt (a := a7) (m := 0 + (4 + 8 + 1 + 3)) (cap := c7) (E := 125) (s := 1) (xs := U S) (.head _) (fun v1 v2 v3 v4 => ?_)
  obtain ⟨g7, rfl⟩ : ∃ g, a7 = some ⟨g, 0, none⟩ := by rcases v4 with ⟨_, _, h⟩ | h; cases h; exact h
  refine G.reg <| W.q (bldas (cs := [_, _, _, _]) Try.arp217 rfl rfl rfl rfl) rfl <| W.q (bldas (cs := [_, _, _, _]) Try.arp217 rfl rfl rfl rfl) rfl <| W.q (bldas (cs := [_, _, _, _]) Try.arp217 rfl rfl rfl rfl) rfl <| W.q (bldas (cs := [_, _, _, _]) Try.arp217 rfl rfl rfl rfl) rfl <| W.q (bldas (cs := [_, _, _, _]) Try.arp217 rfl rfl rfl rfl) rfl <| W.q (bldas (cs := [_, _, _, _]) Try.arp217 rfl rfl rfl rfl) rfl <| W.q (bldas (cs := [_, _, _, _]) Try.arp217 rfl rfl rfl rfl) rfl <| W.q (bldas (cs := [_, _, _, _]) Try.arp217 rfl rfl rfl rfl) rfl <| W.q (blda (cs := tabC) Try.arp218 rfl rfl) rfl <| W.al Try.zrl218 rfl fun b4 => W.sta Try.sz218 rfl rfl (by rfl) (by simp [tabC, Value.oneCell']) .hd (by simp) <| W.nil <| G.seq <| G.seq <| G.reg <| W.q (sa rfl) rfl <| W.nil <| G.blk <| G.loop1 (α := Nat) (fun n => n ≤ 80) (fun n => [(10, i64 n)]) (fun n => [sl (some ⟨g, 0, none⟩) (4 + 8 + 1 + 3) c6 125 1 (U (crun S n))]) (fun n => 80 - n) [(7, _), (8, _), (9, _)] _ 0 (by omega) (Sub.cons rfl <| Sub.cons rfl <| Sub.cons rfl <| Sub.cons rfl <| Sub.nil _) (Ent.perm (.trans (.trans (.trans (.trans (.trans (.trans (.trans (.cons _ (.trans (.cons _ (.trans (.cons _ (.trans (.cons _ (.trans (.cons _ (.trans (.cons _ (.refl _)) (.swap _ _ _))) (.swap _ _ _))) (.swap _ _ _))) (.swap _ _ _))) (.swap _ _ _))) (.swap _ _ _)) (.trans (.cons _ (.trans (.cons _ (.trans (.cons _ (.trans (.cons _ (.trans (.cons _ (.refl _)) (.swap _ _ _))) (.swap _ _ _))) (.swap _ _ _))) (.swap _ _ _))) (.swap _ _ _))) (.trans (.cons _ (.trans (.cons _ (.trans (.cons _ (.trans (.cons _ (.trans (.cons _ (.refl _)) (.swap _ _ _))) (.swap _ _ _))) (.swap _ _ _))) (.swap _ _ _))) (.swap _ _ _))) (.trans (.cons _ (.trans (.cons _ (.trans (.cons _ (.trans (.cons _ (.trans (.cons _ (.refl _)) (.swap _ _ _))) (.swap _ _ _))) (.swap _ _ _))) (.swap _ _ _))) (.swap _ _ _))) (.trans (.cons _ (.trans (.cons _ (.trans (.cons _ (.trans (.cons _ (.trans (.cons _ (.refl _)) (.swap _ _ _))) (.swap _ _ _))) (.swap _ _ _))) (.swap _ _ _))) (.swap _ _ _))) (.trans (.cons _ (.trans (.cons _ (.trans (.cons _ (.trans (.cons _ (.trans (.cons _ (.refl _)) (.swap _ _ _))) (.swap _ _ _))) (.swap _ _ _))) (.swap _ _ _))) (.swap _ _ _))) (.trans (.cons _ (.trans (.cons _ (.trans (.cons _ (.trans (.cons _ (.trans (.cons _ (.trans (.cons _ (.refl _)) (.swap _ _ _))) (.swap _ _ _))) (.swap _ _ _))) (.swap _ _ _))) (.swap _ _ _))) (.swap _ _ _)))) (fun n hn80 ih => ?_)
  refine G.seq <| G.seq <| G.reg <| W.q (mv rfl) rfl <| W.q (lt rfl rfl) rfl <| W.nil <| G.cdd rfl (fun h1 => ?_) (fun h1 => ?_)
  · -- h1 True
    have hjn : ((n : Int) % 8).toNat = n % 8 := by omega
    have hj8 : n % 8 < 8 := by omega
    refine G.skip <| G.seq <| G.blk <| G.seq <| G.reg <| W.q (mv rfl) rfl <| W.q (rm rfl rfl (by omega) (by omega)) rfl <| W.q (iaa Try.ear218 rfl rfl (by omega) (by omega)) rfl <| W.q (lda Try.agg217 Try.sz217 rfl (tab_cells (.tl <| .hd) (n % 8) hj8 (by omega)) (by simp [plc_len])) rfl <| W.al Try.zrl217 rfl fun b5 => W.sta Try.sz217 rfl rfl (by simp [plc_len, Q4.l]) (by simp [Value.oneCell']) .hd (by simp) <| W.nil <| G.seq <| G.rega 24 rfl Try.mixed <| A.q 0 rfl (by kernel_rfl) (fun _ => (mv rfl)) rfl <| A.q 1 rfl (by kernel_rfl) (fun _ => (iaa Try.ear217 rfl rfl (by omega) (by omega))) rfl <| A.q 5 rfl (by kernel_rfl) (fun _ => (mv rfl)) rfl <| A.q 6 rfl (by kernel_rfl) (fun _ => (iaa Try.ear217 rfl rfl (by omega) (by omega))) rfl <| A.q 10 rfl (by kernel_rfl) (fun _ => (mv rfl)) rfl <| A.q 11 rfl (by kernel_rfl) (fun _ => (iaa Try.ear217 rfl rfl (by omega) (by omega))) rfl <| A.q 15 rfl (by kernel_rfl) (fun _ => (mv rfl)) rfl <| A.q 16 rfl (by kernel_rfl) (fun _ => (iaa Try.ear217 rfl rfl (by omega) (by omega))) rfl <| A.held 2 [7, 8, 9, 12, 13, 14, 17, 18, 19, 22] rfl (by kernel_rfl) (ld Try.sc3 rfl (Cell.at .hd (plc_get (n % 8) 0 (by decide)))) rfl <| A.q 3 rfl (by kernel_rfl) (fun _ => (ia Try.esl215 rfl rfl (by omega) (by have := plc_lt (n % 8) 0 (by omega) (by decide); omega))) rfl <| A.held 4 [7, 8, 9, 12, 13, 14, 17, 18, 19, 22] rfl (by kernel_rfl) (ld Try.sc125 rfl ((Rdf.sl (m := 4 + 8 + 1 + 3) (cap := c6) (E := 125) (s := 1) (.tail _ <| .head _)).cellOf (U_at (crun S n) ((plc (n % 8)).getD 0 0) ((((plc (n % 8)).getD 0 0 : Nat) : Int).toNat * 1) (by omega) (by rw [crun_len, hS16]; exact plc_lt _ _ hj8 (by decide))))) rfl <| A.held 7 [12, 13, 14, 17, 18, 19, 22] rfl (by kernel_rfl) (ld Try.sc3 rfl (Cell.at .hd (plc_get (n % 8) 1 (by decide)))) rfl <| A.q 8 rfl (by kernel_rfl) (fun _ => (ia Try.esl215 rfl rfl (by omega) (by have := plc_lt (n % 8) 1 (by omega) (by decide); omega))) rfl <| A.held 9 [12, 13, 14, 17, 18, 19, 22] rfl (by kernel_rfl) (ld Try.sc125 rfl ((Rdf.sl (m := 4 + 8 + 1 + 3) (cap := c6) (E := 125) (s := 1) (.tail _ <| .head _)).cellOf (U_at (crun S n) ((plc (n % 8)).getD 1 0) ((((plc (n % 8)).getD 1 0 : Nat) : Int).toNat * 1) (by omega) (by rw [crun_len, hS16]; exact plc_lt _ _ hj8 (by decide))))) rfl <| A.held 12 [17, 18, 19, 22] rfl (by kernel_rfl) (ld Try.sc3 rfl (Cell.at .hd (plc_get (n % 8) 2 (by decide)))) rfl <| A.q 13 rfl (by kernel_rfl) (fun _ => (ia Try.esl215 rfl rfl (by omega) (by have := plc_lt (n % 8) 2 (by omega) (by decide); omega))) rfl <| A.held 14 [17, 18, 19, 22] rfl (by kernel_rfl) (ld Try.sc125 rfl ((Rdf.sl (m := 4 + 8 + 1 + 3) (cap := c6) (E := 125) (s := 1) (.tail _ <| .head _)).cellOf (U_at (crun S n) ((plc (n % 8)).getD 2 0) ((((plc (n % 8)).getD 2 0 : Nat) : Int).toNat * 1) (by omega) (by rw [crun_len, hS16]; exact plc_lt _ _ hj8 (by decide))))) rfl <| A.held 17 [22] rfl (by kernel_rfl) (ld Try.sc3 rfl (Cell.at .hd (plc_get (n % 8) 3 (by decide)))) rfl <| A.q 18 rfl (by kernel_rfl) (fun _ => (ia Try.esl215 rfl rfl (by omega) (by have := plc_lt (n % 8) 3 (by omega) (by decide); omega))) rfl <| A.held 19 [22] rfl (by kernel_rfl) (ld Try.sc125 rfl ((Rdf.sl (m := 4 + 8 + 1 + 3) (cap := c6) (E := 125) (s := 1) (.tail _ <| .head _)).cellOf (U_at (crun S n) ((plc (n % 8)).getD 3 0) ((((plc (n % 8)).getD 3 0 : Nat) : Int).toNat * 1) (by omega) (by rw [crun_len, hS16]; exact plc_lt _ _ hj8 (by decide))))) rfl <| A.q 20 rfl (by kernel_rfl) (fun _ => (bldas (cs := [_, _, _, _]) Try.arp219 rfl rfl rfl rfl)) rfl <| A.swapc [21, 22] 21 22 rfl rfl (by decide) (by kernel_rfl) (by kernel_rfl) (by kernel_rfl) rfl (fun _ hkq => W.fv Try.ca138 rfl (fun w hm => ref04_Quarter (gat (crun S n) (plc (n % 8))) w) rfl hkq) (fun _ hkq => W.al Try.zrl219 rfl fun b6 => hkq b6) (fun _ hkq => W.al Try.zrl219 rfl fun b6 => hkq b6) (fun b6 _ hkq => W.fv Try.ca138 rfl (fun w hm => ref04_Quarter (gat (crun S n) (plc (n % 8))) w) rfl hkq) fun b6 => A.one 23 rfl (by kernel_rfl) <| W.sta Try.sz219 rfl rfl (by simp [plc_len, Q4.l]) (U_one _) .hd (by simp) <| A.back <| A.nil (by kernel_rfl) <| G.seq <| G.reg <| W.q (sa rfl) rfl <| W.nil <| G.blk <| G.loop1 (α := Nat) (fun k => k ≤ 4) (fun k => [(13, i64 k)]) (fun k => [sl (some ⟨g, 0, none⟩) (4 + 8 + 1 + 3) c6 125 1 (U (sets4 (crun S n) (plc (n % 8)) (qn (gat (crun S n) (plc (n % 8))) 4).l k))]) (fun k => 4 - k) [(7, _), (8, _), (9, _), (10, _), (11, _), (12, _)] _ 0 (by omega) (Sub.cons rfl <| Sub.cons rfl <| Sub.cons rfl <| Sub.cons rfl <| Sub.cons rfl <| Sub.cons rfl <| Sub.cons rfl <| Sub.nil _) (Ent.perm (.trans (.trans (.trans (.trans (.trans (.trans (.trans (.trans (.trans (.cons _ (.trans (.cons _ (.trans (.cons _ (.trans (.cons _ (.trans (.cons _ (.trans (.cons _ (.trans (.cons _ (.trans (.cons _ (.refl _)) (.swap _ _ _))) (.swap _ _ _))) (.swap _ _ _))) (.swap _ _ _))) (.swap _ _ _))) (.swap _ _ _))) (.swap _ _ _))) (.swap _ _ _)) (.trans (.cons _ (.trans (.cons _ (.trans (.cons _ (.trans (.cons _ (.trans (.cons _ (.trans (.cons _ (.trans (.cons _ (.trans (.cons _ (.refl _)) (.swap _ _ _))) (.swap _ _ _))) (.swap _ _ _))) (.swap _ _ _))) (.swap _ _ _))) (.swap _ _ _))) (.swap _ _ _))) (.swap _ _ _))) (.trans (.cons _ (.trans (.cons _ (.trans (.cons _ (.trans (.cons _ (.trans (.cons _ (.trans (.cons _ (.trans (.cons _ (.trans (.cons _ (.refl _)) (.swap _ _ _))) (.swap _ _ _))) (.swap _ _ _))) (.swap _ _ _))) (.swap _ _ _))) (.swap _ _ _))) (.swap _ _ _))) (.swap _ _ _))) (.trans (.cons _ (.trans (.cons _ (.trans (.cons _ (.trans (.cons _ (.trans (.cons _ (.trans (.cons _ (.trans (.cons _ (.trans (.cons _ (.refl _)) (.swap _ _ _))) (.swap _ _ _))) (.swap _ _ _))) (.swap _ _ _))) (.swap _ _ _))) (.swap _ _ _))) (.swap _ _ _))) (.swap _ _ _))) (.trans (.cons _ (.trans (.cons _ (.trans (.cons _ (.trans (.cons _ (.trans (.cons _ (.trans (.cons _ (.trans (.cons _ (.trans (.cons _ (.refl _)) (.swap _ _ _))) (.swap _ _ _))) (.swap _ _ _))) (.swap _ _ _))) (.swap _ _ _))) (.swap _ _ _))) (.swap _ _ _))) (.swap _ _ _))) (.trans (.cons _ (.trans (.cons _ (.trans (.cons _ (.trans (.cons _ (.trans (.cons _ (.trans (.cons _ (.trans (.cons _ (.trans (.cons _ (.refl _)) (.swap _ _ _))) (.swap _ _ _))) (.swap _ _ _))) (.swap _ _ _))) (.swap _ _ _))) (.swap _ _ _))) (.swap _ _ _))) (.swap _ _ _))) (.trans (.cons _ (.trans (.cons _ (.trans (.cons _ (.trans (.cons _ (.trans (.cons _ (.trans (.cons _ (.trans (.cons _ (.refl _)) (.swap _ _ _))) (.swap _ _ _))) (.swap _ _ _))) (.swap _ _ _))) (.swap _ _ _))) (.swap _ _ _))) (.swap _ _ _))) (.trans (.cons _ (.trans (.cons _ (.trans (.cons _ (.trans (.cons _ (.trans (.cons _ (.trans (.cons _ (.trans (.cons _ (.refl _)) (.swap _ _ _))) (.swap _ _ _))) (.swap _ _ _))) (.swap _ _ _))) (.swap _ _ _))) (.swap _ _ _))) (.swap _ _ _))) (.trans (.cons _ (.trans (.cons _ (.trans (.cons _ (.trans (.cons _ (.trans (.cons _ (.trans (.cons _ (.trans (.cons _ (.trans (.cons _ (.refl _)) (.swap _ _ _))) (.swap _ _ _))) (.swap _ _ _))) (.swap _ _ _))) (.swap _ _ _))) (.swap _ _ _))) (.swap _ _ _))) (.swap _ _ _)))) (fun k hk4 ih2 => ?_)
    refine G.seq <| G.seq <| G.reg <| W.q (mv rfl) rfl <| W.q (lt rfl rfl) rfl <| W.nil <| G.cdd rfl (fun h2 => ?_) (fun h2 => ?_)
    · -- h2 True
      have hpk := plc_lt (n % 8) k hj8 (by omega)
      refine G.skip <| G.seq <| G.blk <| G.regt 8 Try.mixed (by kernel_rfl) <| W.q (mv rfl) rfl <| W.q (mv rfl) rfl <| W.q (iaa Try.ear217 rfl rfl (by omega) (by omega)) rfl <| W.q (ld Try.sc3 rfl (Cell.at (.tl <| .tl <| .hd) (by rw [show 0 + (k : Int).toNat * 1 = k by omega]; exact plc_get (n % 8) k (by omega)))) rfl <| W.q (mv rfl) rfl <| W.q (iaa Try.ear219 rfl rfl (by omega) (by omega)) rfl <| W.q (ld Try.sc125 rfl (Cell.at (.tl <| .hd) (by rw [show 0 + (k : Int).toNat * 1 = k by omega]; exact U_getD _ _ (by show _ < 4; omega)))) rfl <| W.q (ia Try.esl215 rfl rfl (by omega) (by omega)) rfl <| W.nilt <| W.stS (xs' := U (sets4 (crun S n) (plc (n % 8)) (qn (gat (crun S n) (plc (n % 8))) 4).l (k + 1))) Try.sz125 rfl rfl rfl rfl rfl .hd (by omega) (setAt_Us (sets4 (crun S n) (plc (n % 8)) (qn (gat (crun S n) (plc (n % 8))) 4).l k) ((plc (n % 8)).getD k 0) (0 + (((plc (n % 8)).getD k 0 : Nat) : Int).toNat * 1) _ (by rw [sets4_len, crun_len, hS16]; exact hpk) (by omega)) <| W.nil <| G.inb <| G.reg <| W.q (mv rfl) rfl <| W.q (ad rfl rfl (by omega)) rfl <| W.q (sa rfl) rfl <| W.nil <| (ih2 (k + 1) (by omega) (by omega)).weak (Sub.cons rfl <| Sub.cons rfl <| Sub.cons rfl <| Sub.cons rfl <| Sub.cons rfl <| Sub.cons rfl <| Sub.cons rfl <| Sub.nil _) .rfl
    · -- h2 False
      have hk44 : k = 4 := by omega
      subst hk44
      refine G.exit rfl <| G.inb <| G.reg <| W.q (mv rfl) rfl <| W.q (ad rfl rfl (by omega)) rfl <| W.q (sa rfl) rfl <| W.nil <| (ih (n + 1) (by omega) (by omega)).weak (Sub.cons rfl <| Sub.cons rfl <| Sub.cons rfl <| Sub.cons rfl <| Sub.nil _) (Dr.ent <| Dr.keep <| Dr.drop rfl <| Dr.drop rfl <| .rfl)
  · -- h1 False
    have hn : n = 80 := by omega
    subst hn
    refine G.exit rfl <| G.seq <| G.reg <| W.q (sa rfl) rfl <| W.nil <| G.seq <| G.seq <| G.reg <| W.q (sa rfl) rfl <| W.nil <| G.blk <| G.loop3 (α := Nat) (β := Option Addr) (γ := Nat) (fun i a3 c3 => i ≤ 16) (fun i a3 c3 => [(14, .slice a3 (4 * i) c3), (15, i64 i)]) (fun i a3 c3 => [sl a3 (4 * i) c3 5 1 (B ((chOut (chSum S)).take (4 * i)))]) (fun i a3 c3 => 16 - i) [(7, _), (8, _)] _ 0 none 0 (by omega) (Sub.cons rfl <| Sub.cons rfl <| Sub.cons rfl <| Sub.cons rfl <| Sub.nil _) (Ent.slNil 5 1) (fun i a3 c3 hi ih3 => ?_)
    refine G.seq <| G.seq <| G.reg <| W.q (mv rfl) rfl <| W.q (lt rfl rfl) rfl <| W.nil <| G.cdd rfl (fun h3 => ?_) (fun h3 => ?_)
    · -- h3 True
      refine G.skip <| G.seq <| G.blk <| G.seq <| G.rega 16 rfl Try.mixed <| A.q 0 rfl (by kernel_rfl) (fun _ => (mv rfl)) rfl <| A.q 1 rfl (by kernel_rfl) (fun _ => (mv rfl)) rfl <| A.q 2 rfl (by kernel_rfl) (fun _ => (ia Try.esl215 rfl rfl (by omega) (by omega))) rfl <| A.q 4 rfl (by kernel_rfl) (fun _ => (mv rfl)) rfl <| A.q 5 rfl (by kernel_rfl) (fun _ => (mv rfl)) rfl <| A.q 6 rfl (by kernel_rfl) (fun _ => (ia Try.esl215 rfl rfl (by omega) (by omega))) rfl <| A.held 3 [7] rfl (by kernel_rfl) (ld Try.sc125 rfl ((Rdf.sl (m := 4 + 8 + 1 + 3) (cap := c6) (E := 125) (s := 1) (.tail _ <| .head _)).cellOf (U_get (by rw [show (i : Int).toNat * 1 = i by omega]; exact getD_someU _ _ (by rw [crun_len]; omega))))) rfl <| A.held 7 [] rfl (by kernel_rfl) (ld Try.sc125 rfl ((Rdf.sl (m := 0 + (4 + 8 + 1 + 3)) (cap := c7) (E := 125) (s := 1) (xs := U S) (.tail _ <| .tail _ <| .tail _ <| .head _)).cellOf (U_get (by rw [show (i : Int).toNat * 1 = i by omega]; exact getD_someU _ _ (by omega))))) rfl <| A.q 8 rfl (by kernel_rfl) (fun _ => (add_u32 rfl rfl)) rfl <| A.q 9 rfl (by kernel_rfl) (fun _ => (cv_u32_u64 Try.underlying125 Try.underlying29 rfl)) rfl <| A.one 10 rfl (by kernel_rfl) <| W.fn Try.ca139 rfl (fun w hm => ref_put4le _ w) rfl fun v J hv hJ => ?_
      obtain ⟨v1, ⟨a8, c8, rfl, rfl⟩, rfl⟩ := hv
      refine W.slAt (a := a8) (m := _) (cap := c8) (E := 5) (s := 1) (xs := _) (.head _) (fun t1 t2 t3 t4 => ?_)
      refine A.back <| A.q 11 rfl (by kernel_rfl) (fun _ => (mv rfl)) rfl <| A.q 12 rfl (by kernel_rfl) (fun _ => (ex rfl rfl)) rfl <| A.q 13 rfl (by kernel_rfl) (fun _ => (ex rfl rfl)) rfl <| A.q 14 rfl (by kernel_rfl) (fun _ => (sa rfl)) rfl <| A.q 15 rfl (by kernel_rfl) (fun _ => (sa rfl)) rfl <| A.nil (by kernel_rfl) <| G.reg <| W.q (mv rfl) rfl <| W.q (mv rfl) rfl <| W.ap Try.underlying22 Try.underlying22 Try.sz5 Try.zln5 Try.by5 rfl rfl (fun _ _ => (.tl <| .hd)) (RdS.sl (.head _)) (B_len _) (B_one _) (slAt_nil t4) (by rw [leB_len]; omega) (by rw [leB_len]; omega) rfl fun a9 c9 => W.q (sa rfl) rfl <| W.nil <| G.inb <| G.reg <| W.q (mv rfl) rfl <| W.q (ad rfl rfl (by omega)) rfl <| W.q (sa rfl) rfl <| W.nil <| (ih3 (i + 1) a9 c9 (by omega) (by omega)).weak (Sub.co rfl ?_ <| Sub.cons rfl <| Sub.cons rfl <| Sub.cons rfl <| Sub.nil _) (fun w hm => (Ent.eq (by rw [leB_len, chOut_take _ i (by omega), sum_get S i hS16 (by omega), B_app]; rfl)) w (hm.drop rfl))
      all_goals clear ih3
      · show Value.slice _ _ _ = Value.slice _ _ _; rw [leB_len]; congr 1
    · -- h3 False
      have hi16 : i = 16 := by omega
      subst hi16
      refine G.exit rfl <| G.seq <| G.reg <| W.q (mv rfl) rfl <| W.q (sa rfl) rfl <| W.nil <| ret1 hX Try.results118 rfl fun w hm => done (H := [sl a3 (chBlock key nonce ctr).length c3 5 1 (B (chBlock key nonce ctr))]) rfl ⟨a3, c3, by rw [chBlock_len], rfl⟩ (by have := Dr.ent (.keep <| .drop rfl <| .drop rfl <| .drop rfl <| .drop rfl <| .drop rfl <| .drop rfl <| .drop rfl <| .rfl) w hm; rw [List.take_of_length_le (by rw [chOut_len, hSl]; omega), ← hO] at this; rw [chBlock_len]; exact this)


set_option maxRecDepth 100000 in
theorem ref04_Bytes (ka : Option Addr) (kl kc : Nat) (key : List UInt8) (at_ n : Nat) {ai ni : Int} (w : World) (hai : ai = at_) (hni : ni = n) (hkl : kl = key.length) (hk : RdL w ka (B key)) (hk32 : key.length = 32) (hb : at_ + n ≤ 1000000) :
    Ret Try.prog 100 [.slice ka kl kc, i64 ai, i64 ni] w (NewB (strm key at_ n)) := by
  subst hai; subst hni
  refine enter [] (Mem.nil _) Try.func100 rfl Try.ntmps100 rfl (fun X hX => ?_)
  have hw := hX.w0; subst hw
  refine G.seq <| G.reg <| W.q (sa rfl) rfl <| W.nil <| G.seq <| G.reg <| W.q (sa rfl) rfl <| W.nil <| G.seq <| G.seq <| G.reg <| W.q (mv rfl) rfl <| W.q (qo rfl rfl (by omega) (by omega) (by omega)) rfl <| W.q (sa rfl) rfl <| W.nil <| G.blk <| G.loop3 (α := Nat) (β := Option Addr) (γ := Nat) (fun m a3 c3 => 64 * m ≤ n + at_ % 64 + 63) (fun m a3 c3 => [(7, .slice a3 (64 * m) c3), (8, i64 ((at_ : Int) / 64 + (m : Int)))]) (fun m a3 c3 => [sl a3 (64 * m) c3 5 1 (B (strm key (64 * (at_ / 64)) (64 * m)))]) (fun m a3 c3 => n + at_ % 64 + 64 - 64 * m) [(0, _), (1, _), (2, _)] [] 0 none 0 (by omega) (Sub.cons rfl <| Sub.co rfl ?_ <| Sub.cons rfl <| Sub.cons rfl <| Sub.cons rfl <| Sub.nil _) (Ent.slNil 5 1) (fun m a3 c3 hmm ih => ?_)
  · show i64 _ = i64 _; congr 1 <;> omega
  refine G.seq <| G.seq <| G.reg <| W.q (mv rfl) rfl <| W.q (ln Try.esl22 rfl) rfl <| W.q (mv rfl) rfl <| W.q (mv rfl) rfl <| W.q (rm rfl rfl (by omega) (by omega)) rfl <| W.q (ad rfl rfl (by omega)) rfl <| W.q (lt rfl rfl) rfl <| W.nil <| G.cdd rfl (fun h1 => ?_) (fun h1 => ?_)
  · -- h1 True
    refine G.skip <| G.seq <| G.blk <| G.reg <| W.q (mv rfl) rfl <| W.q (mv rfl) rfl <| W.mkB (m := 12) Try.underlying22 Try.sz5 Try.zrl5 Try.by5 rfl rfl (by omega) (by omega) rfl fun b1 => W.q (mv rfl) rfl <| W.q (cv_i64_u32 Try.underlying3 Try.underlying125 rfl) rfl <| W.fn Try.ca118 rfl (fun w hm => ref04_Block ka kl kc key (some ⟨b1, 0, none⟩) 12 12 z12 _ w hkl (hm.rd rfl hk) hk32 rfl (hm.rowRd (cs := B z12) .hd) rfl) rfl fun v J hv hJ => ?_
    rw [show (((at_ : Int) / 64) + (m : Int)) = ((at_ / 64 + m : Nat) : Int) by omega, cvu32] at hv
    obtain ⟨a1, c1, rfl, rfl⟩ := hv
    refine W.slAt (a := a1) (m := _) (cap := c1) (E := 5) (s := 1) (xs := _) (.head _) (fun q1 q2 q3 q4 => ?_)
    refine W.ap Try.underlying22 Try.underlying22 Try.sz5 Try.zln5 Try.by5 rfl rfl (fun _ _ => (.tl <| .tl <| .hd)) (RdS.sl (.head _)) (B_len _) (B_one _) (slAt_nil q4) (by rw [chBlock_len]; omega) (by rw [chBlock_len]; omega) rfl fun a4 c4 => W.q (sa rfl) rfl <| W.nil <| G.inb <| G.reg <| W.q (mv rfl) rfl <| W.q (ad rfl rfl (by omega)) rfl <| W.q (sa rfl) rfl <| W.nil <| (ih (m + 1) a4 c4 (by omega) (by omega)).weak (Sub.co rfl ?_ <| Sub.co rfl ?_ <| Sub.cons rfl <| Sub.cons rfl <| Sub.cons rfl <| Sub.nil _) (fun w hm => (Ent.eq (by rw [chBlock_len, ← strm_blk, B_app]; rfl)) w ((hm.drop rfl).drop rfl))
    all_goals clear ih
    · show Value.slice _ _ _ = Value.slice _ _ _; rw [chBlock_len]; congr 1
    · show i64 _ = i64 _; congr 1 <;> omega
  · -- h1 False
    refine G.slAt (a := a3) (m := 64 * m) (cap := c3) (E := 5) (s := 1) (xs := _) (.head _) (fun p1 p2 p3 p4 => ?_)
    have hrd : ∀ w, Mem X.w0 w ([sl a3 (64 * m) c3 5 1 (B (strm key (64 * (at_ / 64)) (64 * m)))] ++ []) → RdL w (slA a3 ((at_ : Int) % 64).toNat c3 1) (B (strm key at_ n)) := fun w hm => by
      have h := (hm.slRd (m := 64 * m) (cap := c3) (E := 5) (s := 1) (.head _)).subB (at_ % 64) n c3 (by rw [strm_len]; omega)
      rw [strm_sub key (at_ / 64) (at_ % 64) n m (by omega), Nat.div_add_mod] at h
      rw [show ((at_ : Int) % 64).toNat = at_ % 64 by omega]; exact h
    refine G.exit rfl <| G.seq <| G.reg <| W.q (mv rfl) rfl <| W.q (mv rfl) rfl <| W.q (rm rfl rfl (by omega) (by omega)) rfl <| W.q (mv rfl) rfl <| W.q (rm rfl rfl (by omega) (by omega)) rfl <| W.q (mv rfl) rfl <| W.q (ad rfl rfl (by omega)) rfl <| W.q (slh Try.esl22 rfl rfl rfl (by omega) (by omega) (by omega)) rfl <| W.fn Try.ca13 rfl (fun w hm => ref01_Copyx (bs := strm key at_ n) (hrd w hm) (by rw [strm_len]; omega) (by rw [strm_len]; omega)) rfl fun v J hv hJ => ?_
    obtain ⟨a2, c2, rfl, rfl⟩ := hv
    refine W.q (sa rfl) rfl <| W.nil <| ret1 hX Try.results100 rfl fun w hm => done rfl ⟨a2, c2, rfl, rfl⟩ (hm.sublist (H' := [sl a2 (strm key at_ n).length c2 5 1 (B (strm key at_ n))]) (by simp) (by simp [sl]))
end Go.Proofs.Ytjalojbihpdghaa
