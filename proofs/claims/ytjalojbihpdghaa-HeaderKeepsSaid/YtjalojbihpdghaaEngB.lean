/- The engine, tenth part: lists of bytes behind slices; structs built of whole parts; the library's functions without a body. -/
import Derived.Test.YtjalojbihpdghaaEngH
import Derived.Laws.Externs
namespace Go.Eng
open Go
set_option linter.unusedVariables false

/-- A slice's value that reads as these bytes. -/
def IsB (w : World) (v : Value) (bs : List UInt8) : Prop := ∃ a cap, v = .slice a bs.length cap ∧ RdL w a (B bs) ∧ bs.length ≤ cap
theorem IsB.of {w : World} {a : Option Addr} {len cap : Nat} {bs : List UInt8} (h : RdL w a (B bs)) (hl : len = bs.length) (hc : bs.length ≤ cap) : IsB w (.slice a len cap) bs := ⟨a, cap, by rw [hl], h, hc⟩
theorem IsB.nil {w : World} : IsB w (.slice none 0 0) [] := ⟨none, 0, rfl, fun i v hv => by simp at hv, Nat.le_refl _⟩
/-- Slices of bytes, one behind the other. -/
inductive IsBs (w : World) : List Value → List (List UInt8) → Prop where
  | nil : IsBs w [] []
  | cons {v : Value} {bs : List UInt8} {vs : List Value} {bss : List (List UInt8)} (h0 : IsB w v bs) (h : IsBs w vs bss) : IsBs w (v :: vs) (bs :: bss)
theorem IsBs.len {w : World} {vs : List Value} {bss : List (List UInt8)} (h : IsBs w vs bss) : vs.length = bss.length := by
  induction h with
  | nil => rfl
  | cons _ _ ih => simp [ih]
theorem IsBs.get {w : World} : ∀ {vs : List Value} {bss : List (List UInt8)} (h : IsBs w vs bss) (k : Nat) (hk : k < bss.length), ∃ v, vs[k]? = some v ∧ IsB w v bss[k]
  | _, _, .cons h0 h, 0, _ => ⟨_, rfl, h0⟩
  | _, _, .cons h0 h, k + 1, hk => by
    obtain ⟨v, h1, h2⟩ := IsBs.get h k (by simpa using hk)
    exact ⟨v, by simpa using h1, by simpa using h2⟩
theorem IsBs.rd {w w' : World} {vs : List Value} {bss : List (List UInt8)} (h : IsBs w vs bss) (hr : ∀ a cells, RdL w a cells → RdL w' a cells) : IsBs w' vs bss := by
  induction h with
  | nil => exact .nil
  | cons h0 _ ih => obtain ⟨a, cap, h1, h2, h3⟩ := h0; exact .cons ⟨a, cap, h1, hr _ _ h2, h3⟩ ih
theorem Mem.isBs {w0 w : World} {H : List It} {vs : List Value} {bss : List (List UInt8)} (h : Mem w0 w H) (hn : allNew H = true) (hr : IsBs w0 vs bss) : IsBs w vs bss := hr.rd fun _ _ => h.rd hn
theorem RdL.none_nil' {w : World} {cs : List Value} (h : RdL w none cs) : cs = [] := by
  cases cs with
  | nil => rfl
  | cons c cs => obtain ⟨b, o, h, _⟩ := h 0 c rfl; cases h
theorem RdL.nilB {w : World} {a : Option Addr} {bs : List UInt8} (h : RdL w a (B bs)) (ha : a = none) : bs.length = 0 := by
  subst ha; have := RdL.none_nil' h; simpa using congrArg List.length this
theorem RdL.ofNil {w : World} {a : Option Addr} : RdL w a [] := fun i v hv => by simp at hv
theorem RdL.subB {w : World} {a : Option Addr} {bs : List UInt8} (h : RdL w a (B bs)) (l n cap : Nat) (hl : bs.length ≤ cap) : RdL w (Eng.slA a l cap 1) (B ((bs.drop l).take n)) := by
  have := (h.slA (l := l) (cap := cap) (s := 1) (by simp; omega)).take n
  simpa [B, List.map_take, List.map_drop] using this
theorem RdL.dropB {w : World} {a : Option Addr} {bs : List UInt8} (h : RdL w a (B bs)) (l cap : Nat) (hl : bs.length ≤ cap) : RdL w (Eng.slA a l cap 1) (B (bs.drop l)) := by
  have := h.slA (l := l) (cap := cap) (s := 1) (by simp; omega)
  simpa [B, List.map_drop] using this
theorem RdL.takeB {w : World} {a : Option Addr} {bs : List UInt8} (h : RdL w a (B bs)) (n : Nat) : RdL w a (B (bs.take n)) := by
  have := h.take n; simpa [B, List.map_take] using this

theorem slA_ex (b o l cap s : Nat) : ∃ o', slA (some ⟨b, o, none⟩) l cap s = some ⟨b, o', none⟩ ∧ (l < cap → o' = o + l * s) := by
  unfold slA
  by_cases h : cap = l
  · exact ⟨o, by rw [if_pos h], fun h' => absurd h (by omega)⟩
  · exact ⟨o + l * s, by rw [if_neg h]; simp [add_ad], fun _ => rfl⟩

theorem setAt_nil (cs : List Value) (o : Nat) : setAt cs o [] = cs := by simp [setAt]
theorem len3 {α : Type} {l : List α} (h : l.length = 3) : ∃ x y z, l = [x, y, z] := by
  match l, h with
  | [x, y, z], _ => exact ⟨x, y, z, rfl⟩
theorem B_get {l : List UInt8} {i : Nat} {x : UInt8} (h : l[i]? = some x) : (B l)[i]? = some (u8 x) := by simp [B, h]
theorem Cell.atB {w0 : World} {H : List It} {b o k E : Nat} {fr : Nat × Nat} {l : List UInt8} {x : UInt8} (h : Has H b (.cells (B l).toArray E fr)) (hx : l[k]? = some x) (ho : o = k) : Cell w0 H ⟨b, o, none⟩ (u8 x) := by
  subst ho; exact Cell.at h (B_get hx)
theorem zeros_B (n : Nat) : ((List.range (n * 1)).map fun i => ([Value.int .u8 0] : List Value).getD (i % ([Value.int .u8 0] : List Value).length) default) = B (List.replicate n 0) := by
  apply List.ext_getElem?
  intro i
  by_cases h : i < n <;> simp [h, Nat.mod_one]
theorem Mem.rowSub {w0 w : World} {H : List It} {b E : Nat} {fr : Nat × Nat} {bs : List UInt8} (hm : Mem w0 w H) (h : Has H b (.cells (B bs).toArray E fr)) (o n : Nat) : RdL w (some ⟨b, o, none⟩) (B ((bs.drop o).take n)) := fun i v hv => by
  refine ⟨b, o, rfl, ?_⟩
  rw [cell_of_row w b (o + i) (B bs).toArray E fr (hm.at h)]
  simp only [B, List.map_take, List.map_drop, List.getElem?_take] at hv
  split at hv
  · simpa [List.getElem?_drop] using hv
  · cases hv
theorem Cells.rowSub {w0 : World} {H : List It} {b E : Nat} {fr : Nat × Nat} {bs : List UInt8} (h : Has H b (.cells (B bs).toArray E fr)) (o n : Nat) : Cells w0 H b o (B ((bs.drop o).take n)) := fun i v hv w hm => by
  obtain ⟨_, _, h1, h2⟩ := hm.rowSub h o n i v hv
  cases h1; exact h2
theorem Mem.rowB {w0 w : World} {H : List It} {b E : Nat} {l : List UInt8} (h : Mem w0 w (nb b (B l) E :: H)) (hb : l.length ≤ 140737488355328) : Mem w0 w (sl (some ⟨b, 0, none⟩) l.length l.length E 1 (B l) :: H) := by
  have := h.rowSl (m := l.length) (cap := l.length) (s := 1) (by simp) (Nat.le_refl _) (by simp only [maxLen]; omega)
  rwa [List.take_of_length_le (by simp)] at this
theorem at_app {pre ds post : List Value} {o : Nat} (ho : pre.length = o) : ∀ i v, ds[i]? = some v → (pre ++ (ds ++ post))[o + i]? = some v := fun i v hv => by
  rw [List.getElem?_append_right (by omega), show o + i - pre.length = i by omega, List.getElem?_append_left (List.getElem?_eq_some_iff.1 hv).1]; exact hv
theorem Bl (l : List UInt8) : (B l).length = l.length := by simp
theorem setAt_hd (ys news : List Value) (h : news.length ≤ ys.length) : setAt ys 0 news = news ++ ys.drop news.length := by simp [setAt]
theorem setAt_mid (xs ys news : List Value) (h : news.length ≤ ys.length) : setAt (xs ++ ys) xs.length news = xs ++ news ++ ys.drop news.length := by
  simp only [setAt]
  rw [List.take_left' rfl, List.drop_append, List.drop_eq_nil_of_le (by omega), List.nil_append, Nat.add_sub_cancel_left]
theorem setAt_B (l : List UInt8) (k : Nat) (x : UInt8) (h : k < l.length) : setAt (B l) k [u8 x] = B (l.set k x) := by
  simp only [setAt, B, List.map_set]
  rw [List.set_eq_take_append_cons_drop, if_pos (by simpa using h)]; simp

/-! Whole parts put one behind the other. -/
def seqB (pl : List (Nat × Nat)) (ps : List (Nat × Nat)) (at_ : Nat) : Bool :=
  match ps with
  | [] => true
  | (i, n) :: r => pl[i]? == some (at_, n) && seqB pl r (at_ + n)
theorem fill_seq (pl : List (Nat × Nat)) : ∀ (vs : List (Nat × Value)) (done rest : List Value), seqB pl (vs.map fun p => (p.1, (cellsL p.2).length)) done.length = true → (vs.map fun p => (cellsL p.2).length).sum = rest.length →
    fillL (pl[·]?) (done ++ rest) vs = some (done ++ vs.flatMap fun p => cellsL p.2)
  | [], done, rest, _, h => by
    have : rest = [] := List.eq_nil_of_length_eq_zero (by simpa using h.symm)
    subst this; simp [fillL]
  | (i, v) :: vs, done, rest, hs, h => by
    simp only [List.map_cons, seqB, Bool.and_eq_true, beq_iff_eq] at hs
    simp only [List.map_cons, List.sum_cons] at h
    simp only [fillL, hs.1]
    rw [if_pos ⟨trivial, by simp; omega⟩, setAt_mid _ _ _ (by omega)]
    have ih := fill_seq pl vs (done ++ cellsL v) (rest.drop (cellsL v).length) (by simpa using hs.2) (by simp; omega)
    rw [ih]; simp
section
variable {P : Program} {w0 : World} {e : Env} {H : List It} {T : TypeId}
theorem stpx {m s len cap b o : Nat} {S : TypeId} {x : Operand} {a : Option Addr} (hS : ear P S = some (m, s)) (hx : ev e x = some (.slice a len cap)) (ha : a = some ⟨b, o, none⟩) (h : m ≤ len) : OpV P w0 (.sliceToArrayPointer S x) T e H (ptr b o) := by
  subst ha; exact stp_ hS hx h
theorem cv_u64_i64 {x : Operand} {T1 T2 : TypeId} {D1 : TypeDesc} {a : UInt64} (hT1 : P.underlying T1 = some D1) (hT2 : P.underlying T2 = some (.int .i64)) (hx : ev e x = some (u64 a)) (h : a.toNat < 9223372036854775808) : OpV P w0 (.convert T1 T2 x) T e H (i64 a.toNat) := cvi hT1 hT2 hx (by omega)
/-- A struct built of all its fields, in their order. -/
theorem blds {T' : TypeId} {ps : List (Nat × Operand)} {vs : List (Nat × Value)} {zs cs : List Value} {pl : List (Nat × Nat)} (hT : stp P T' = some (zs, pl)) (hp : evp e ps = some vs) (hs : seqB pl (vs.map fun p => (p.1, (cellsL p.2).length)) 0 = true)
    (hz : (vs.map fun p => (cellsL p.2).length).sum = zs.length) (hc : (vs.flatMap fun p => cellsL p.2) = cs) : OpV P w0 (.build T' ps.toArray) T e H (.agg cs.toArray) :=
  bld hT hp (by have := fill_seq pl vs [] zs hs hz; rwa [List.nil_append, List.nil_append, hc] at this)
end

section
variable {P : Program} {n : Nat} {X : Cx} {todo : List Item} {e : Env} {H : List It} {ops : Array Oper} {l : List Oper} {d : Nat} {T : TypeId} {p : String} {af : Array Edge} {v : Value} {K : Kt} {w0 : World}
/-- copy into a block of the list, the place given apart. -/
theorem W.cpx {S S' E E' s b o dl dc k c : Nat} {x y : Operand} {a' a2 : Option Addr} {cs news : List Value} {H' : List It} {cs' : List Value} (hS : P.underlying S = some (.slice E)) (hs : sz P E = some s) (hx : ev e x = some (.slice a' dl dc)) (ha : a' = some ⟨b, o, none⟩) (hy : ev e y = some (.slice a2 k c))
    (hsrc : RdS X.w0 H a2 news) (hl : news.length = min k dl * s) (h1 : news.all (·.oneCell') = true) (hnil : a2 = none → k = 0)
    (hu : Upd H b (.cells cs.toArray E' (0, 0)) (.cells cs'.toArray E' (0, 0)) H') (ho : o + news.length ≤ cs.length) (hc : setAt cs o news = cs') (hd : Nat.blt d n = true)
    (hk : W (.sq K) P n X ops todo l ((d, i64 (min k dl : Nat)) :: e) H') : W (.sq K) P n X ops todo (⟨some d, .call ⟨.builtin .copy, #[x, y], #[S, S']⟩, T, p, af, none⟩ :: l) e H := by
  subst ha
  exact W.cp hS hs hx hy hsrc hl h1 hnil hu ho hc hd hk
/-- make([]byte, n). -/
theorem W.mkB {S E by_ : Nat} {x y : Operand} {m : Nat} {k k' : IntKind} (hS : P.underlying S = some (.slice E)) (hs : sz P E = some 1) (hz : zrl P E = some [.int .u8 0]) (hby : (P.info? E).map (·.bytes) = some by_) (hx : ev e x = some (.int k m)) (hy : ev e y = some (.int k' m))
    (hb : by_ * m ≤ 281474976710656) (hm63 : m ≤ 9223372036854775807) (hd : Nat.blt d n = true) (hk : ∀ b, W (.sq K) P n X ops todo l ((d, slc b 0 m m) :: e) (nb b (B (List.replicate m 0)) E :: H)) : W (.sq K) P n X ops todo (⟨some d, .makeSlice S x y, T, p, af, none⟩ :: l) e H :=
  W.mk hS hs hz hby hx hy hb hm63 hd fun b => by rw [zeros_B]; exact hk b
/-- What a piece of code comes to, whatever way it takes. -/
theorem G.join {it : Item} (E C : Env) (hC : Sub C e) (h : G P n X todo (E ++ C) H → G P n X (it :: todo) e H) (k : G P n X todo (E ++ C) H) : G P n X (it :: todo) e H := h k
/-- A call of a function without a body, whose answer is known. -/
def Ext (P : Program) (f : FuncId) (vs : List Value) (v : Value) : Prop := ∀ w, (callFunc f vs.toArray).run P w = .ok (.value v) w
theorem ext_call {f : FuncId} {as : List Operand} {vs : List Value} {ats : Array TypeId} (hv : evs e as = some vs) (hx : Ext P f vs v) : OpV P w0 (.call ⟨.value (.func f), as.toArray, ats⟩) T e H v := fun ρ w d p af g hρ _ => by
  have : as.map ρ = vs := by
    clear hx
    induction as generalizing vs with
    | nil => simp [evs] at hv; simp [hv]
    | cons x xs ih =>
      simp only [evs] at hv
      cases h1 : ev e x with
      | none => simp [h1] at hv
      | some u =>
        cases h2 : evs e xs with
        | none => simp [h1, h2] at hv
        | some us =>
          simp [h1, h2] at hv
          subst hv
          simp [hρ _ _ h1, ih h2]
  have hf : ρ (.func f) = .func (.func f) #[] #[] := hρ _ _ rfl
  simp [execOp, resolve, Deferred.ofValue, invoke, hf, this, hx w]
end
section
variable {P : Program} {n : Nat} {X : Cx} {todo : List Item} {e : Env} {H : List It} {ops : Array Oper} {d : Nat} {op : Op} {T : TypeId} {p : String} {af : Array Edge} {v : Value} {fuel : Nat} {done : List Nat}
/-- A guarded load is taken first. -/
theorem A.heldg (i : Nat) (R : List Nat) {j dj : Nat} {bv t : Bool} (hi : ops[i]? = some ⟨some d, op, T, p, af, some (j, bv)⟩) (hc : heldB P ops done i R = true) (hj : (ops[j]?).bind (·.dst) = some dj) (hgv : look e dj = some (.bool t)) (ht : t = bv) (ho : OpV P X.w0 op T e H v) (hd : Nat.blt d n = true) (h : A P n X ops todo fuel (i :: done) ((d, v) :: e) H) : A P n X ops todo (fuel + 1) done e H := by
  subst ht
  simp only [heldB, takeB, Bool.and_eq_true] at hc
  obtain ⟨⟨⟨⟨hs, hf⟩, hr⟩, hR⟩, hB⟩ := hc
  intro a w hfit hm
  refine wpAny_held (md := .any) (l0 := listedOf ops.size done) (R := R) (w0 := X.w0) (H := H) hi (Region.noSelect_spec hs) (fun c a w hq => by cases hq.1) (QA_out _) (fun l inv hun t ht => ?_) (fun j' hj' => ?_) fuel _ a w
    ⟨size_listedOf _ _, fun j oj hj hl e he hb => .inr hl, fun _ _ => rfl, fun _ h => h⟩ (Region.free_spec hi hf) (by simpa using hr) (.inl ⟨by simp [Region.wanted, yielded_of hfit hj hgv], fun w' hw' => ho _ _ _ _ _ _ (fun x v hx => hfit.eval hx) hw'⟩) hm (h _ w (hfit.put v hd) hm)
  · refine Classical.byContradiction fun hnt => ?_
    simp only [not_or] at hnt
    obtain ⟨htu, ot, hot, hall⟩ := mem_ready.1 ht
    have htlt : t < ops.size := (Array.getElem?_eq_some_iff.1 hot).1
    have h2 := List.all_eq_true.1 hB t (List.mem_range.2 htlt)
    simp only [hot, Bool.or_eq_true, beq_iff_eq] at h2
    rcases h2 with ((h2 | h2) | h2) | h2
    · rw [← inv.out t hnt.2, getD_both htu] at h2; cases h2
    · exact hnt.1 h2
    · exact hnt.2 (by simpa using h2)
    · obtain ⟨e, he, hb⟩ := Array.any_eq_true'.1 h2
      simp only [Bool.and_eq_true, Bool.or_eq_true, beq_iff_eq, Bool.not_eq_true'] at hb
      have h3 := hall e he hb.1
      rcases hb.2 with hb2 | hb2
      · rw [hb2, hun] at h3; cases h3
      · rw [inv.out e.on (by simpa using hb2.2), hb2.1] at h3; cases h3
  · have h2 := List.all_eq_true.1 hR j' hj'
    simp only [Bool.and_eq_true] at h2
    cases hoj : ops[j']? with
    | none => rw [hoj] at h2; cases h2.2
    | some o => rw [hoj] at h2; exact ⟨o, rfl, h2.2⟩
theorem A.three (i j k : Nat) {o o' o'' : Oper} (hi : ops[i]? = some o) (hj : ops[j]? = some o') (hk : ops[k]? = some o'') (hc : (Region.ready .any ops (listedOf ops.size done) == [i, j, k]) = true) (h : W (.sq (KA P X ops todo fuel (i :: done))) P n X ops todo [o] e H) (h' : W (.sq (KA P X ops todo fuel (j :: done))) P n X ops todo [o'] e H)
    (h'' : W (.sq (KA P X ops todo fuel (k :: done))) P n X ops todo [o''] e H) : A P n X ops todo (fuel + 1) done e H := fun a w hf hm =>
  wpAny_all (rs := [i, j, k]) (by simpa using hc) (by simp) (by
    intro x hx
    rcases List.mem_cons.1 hx with rfl | hx
    · exact wpOp_of_list hi (h a w hf hm)
    · rcases List.mem_cons.1 hx with rfl | hx
      · exact wpOp_of_list hj (h' a w hf hm)
      · obtain rfl : x = k := by simpa using hx
        exact wpOp_of_list hk (h'' a w hf hm))
theorem listedOf_swap (m i j : Nat) (done : List Nat) : listedOf m (i :: j :: done) = listedOf m (j :: i :: done) := by
  simp only [listedOf, List.foldr_cons]
  by_cases h : i = j
  · rw [h]
  · exact Array.setIfInBounds_comm _ _ (fun h' => h h'.symm)
/-- Two new blocks, in whatever order. -/
theorem A.swap2 (i j : Nat) {oi oj : Oper} (hi : ops[i]? = some oi) (hj : ops[j]? = some oj) (hc : (Region.ready .any ops (listedOf ops.size done) == [i, j]) = true) (hci : oneB ops (i :: done) j = true) (hcj : oneB ops (j :: done) i = true)
    {di dj : Nat} {vi vj : Nat → Value} {Ii Ij : Nat → It} (hd : Nat.beq di dj = false)
    (si1 : ∀ K : Kt, (∀ b, W (.sq K) P n X ops todo [] ((di, vi b) :: e) (Ii b :: H)) → W (.sq K) P n X ops todo [oi] e H)
    (sj1 : ∀ (b' : Nat) (K : Kt), (∀ b, W (.sq K) P n X ops todo [] ((dj, vj b) :: (di, vi b') :: e) (Ij b :: Ii b' :: H)) → W (.sq K) P n X ops todo [oj] ((di, vi b') :: e) (Ii b' :: H))
    (sj2 : ∀ K : Kt, (∀ b, W (.sq K) P n X ops todo [] ((dj, vj b) :: e) (Ij b :: H)) → W (.sq K) P n X ops todo [oj] e H)
    (si2 : ∀ (b' : Nat) (K : Kt), (∀ b, W (.sq K) P n X ops todo [] ((di, vi b) :: (dj, vj b') :: e) (Ii b :: Ij b' :: H)) → W (.sq K) P n X ops todo [oi] ((dj, vj b') :: e) (Ij b' :: H))
    (k : ∀ bi bj, A P n X ops todo fuel (j :: i :: done) ((dj, vj bj) :: (di, vi bi) :: e) (Ij bj :: Ii bi :: H)) : A P n X ops todo (fuel + 2) done e H := by
  refine A.two i j hi hj hc (si1 _ fun bi => A.back (A.one j hj hci (sj1 bi _ fun bj => A.back (k bi bj)))) (sj2 _ fun bj => A.back (A.one i hi hcj (si2 bj _ fun bi => A.back ?_)))
  intro a w hf hm
  have h1 := k bi bj a w (hf.sub ?_) (hm.perm (.swap _ _ _))
  · rw [listedOf_swap] at h1; exact h1
  · intro t v ht
    simp only [look] at ht ⊢
    by_cases h : Nat.beq di t = true
    · have h' : Nat.beq dj t = false := by
        have := Nat.eq_of_beq_eq_true h
        subst this
        cases hx : Nat.beq dj di with
        | false => rfl
        | true => rw [Nat.eq_of_beq_eq_true hx] at hd; simp at hd
      simp only [h, h', cond_true, cond_false] at ht ⊢
      exact ht
    · simp only [h, cond_false] at ht ⊢
      exact ht
end
end Go.Eng
