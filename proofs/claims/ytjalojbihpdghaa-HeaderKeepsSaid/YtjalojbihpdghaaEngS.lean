/- The engine, sixth part: slices of the call's own read and opened; rows of structs; values of functions. -/
import Derived.Test.YtjalojbihpdghaaEngM
import Derived.Lib.SliceRun
import Derived.WalkSpells
namespace Go.Eng
open Go

theorem flat_get {α : Type} (f : α → List Value) (s : Nat) (hf : ∀ x, (f x).length = s) : ∀ (xs : List α) (k j : Nat) (hk : k < xs.length), j < s → (xs.flatMap f)[k * s + j]? = (f xs[k])[j]?
  | x :: xs, 0, j, _, hj => by simp [List.flatMap_cons, List.getElem?_append, hf, hj]
  | x :: xs, k + 1, j, hk, hj => by
    have := flat_get f s hf xs k j (by simpa using hk) hj
    simp only [List.flatMap_cons, List.getElem?_append, hf]
    rw [if_neg (by rw [Nat.add_mul]; omega), show (k + 1) * s + j - s = k * s + j by rw [Nat.add_mul]; omega, this]
    rfl
theorem flat_len {α : Type} (f : α → List Value) (s : Nat) (hf : ∀ x, (f x).length = s) (xs : List α) : (xs.flatMap f).length = xs.length * s := by
  induction xs with
  | nil => simp
  | cons x xs ih => rw [List.flatMap_cons, List.length_append, hf, ih, List.length_cons, Nat.add_mul]; omega

/-- A row's element, by its cells. -/
theorem RdL.el {w : World} {a : Option Addr} {α : Type} {f : α → List Value} {s : Nat} {xs : List α} (h : RdL w a (xs.flatMap f)) (hf : ∀ x, (f x).length = s) (hs : 0 < s) (k : Nat) (hk : k < xs.length) :
    ∃ b o, a = some ⟨b, o, none⟩ ∧ ∀ i v, (f xs[k])[i]? = some v → w.cell? ⟨b, o + k * s + i, none⟩ = some v := by
  have h0 : ∃ v, (xs.flatMap f)[k * s + 0]? = some v := by
    rw [flat_get f s hf xs k 0 hk hs]
    have := hf xs[k]
    exact ⟨(f xs[k])[0], by simp [this, hs]⟩
  obtain ⟨v, hv⟩ := h0
  obtain ⟨b, o, ha, _⟩ := h _ _ hv
  refine ⟨b, o, ha, fun i u hu => ?_⟩
  have hi : i < s := by have := (List.getElem?_eq_some_iff.1 hu).1; rw [hf] at this; exact this
  obtain ⟨b', o', ha', hc⟩ := h (k * s + i) u (by rw [flat_get f s hf xs k i hk hi]; exact hu)
  rw [ha] at ha'
  cases ha'
  rw [Nat.add_assoc]; exact hc

section
variable {P : Program} {n : Nat} {X : Cx} {todo : List Item} {e : Env} {H : List It} {ops : Array Oper} {l : List Oper} {d : Nat} {T : TypeId} {p : String} {af : Array Edge} {v : Value} {K : Kt} {w0 : World}

theorem G.ent {H' : List It} (hm : Ent X.w0 H H') (h : G P n X todo e H') : G P n X todo e H := fun a w hf hw => h a w hf (hm w hw)
theorem W.ent {H' : List It} (hm : Ent X.w0 H H') (h : W (.sq K) P n X ops todo l e H') : W (.sq K) P n X ops todo l e H := fun a w hf hw => h a w hf (hm w hw)

/-- A new row of cells as a slice's. -/
theorem Mem.rowSl {w : World} {b m cap E s : Nat} {cs : List Value} (h : Mem w0 w (nb b cs E :: H)) (hl : cap * s ≤ cs.length) (hm : m ≤ cap) (hc : cap ≤ maxLen) : Mem w0 w (sl (some ⟨b, 0, none⟩) m cap E s (cs.take (m * s)) :: H) := by
  refine h.rep (it := nb b cs E) Rep.hd rfl rfl rfl (Nat.le_refl _) rfl ?_ ?_ ?_ (by simp [blk]) (fun _ _ _ => rfl)
  · refine ⟨by rw [List.length_take]; exact Nat.min_eq_left (Nat.le_trans (Nat.mul_le_mul_right _ hm) hl), hm, hc, .inr ⟨b, cs.drop (m * s), rfl, ?_, ?_⟩⟩
    · rw [List.take_append_drop]; exact h.holds _ List.mem_cons_self
    · rw [List.take_append_drop]; exact hl
  · rintro b' ⟨q, hq, rfl⟩; cases hq; exact h.inb _ List.mem_cons_self b rfl
  · rintro b' ⟨q, hq, rfl⟩; cases hq; exact .inl rfl
theorem Ent.rowSl {b m cap E s : Nat} {cs : List Value} (hl : cap * s ≤ cs.length) (hm : m ≤ cap) (hc : cap ≤ maxLen) : Ent w0 (nb b cs E :: H) (sl (some ⟨b, 0, none⟩) m cap E s (cs.take (m * s)) :: H) := fun _ h => h.rowSl hl hm hc
/-- A slice's row as a block. -/
theorem Mem.slRow {w : World} {g m cap E s : Nat} {xs : List Value} (h : Mem w0 w (sl (some ⟨g, 0, none⟩) m cap E s xs :: H)) : ∃ junk, cap * s ≤ (xs ++ junk).length ∧ xs.length = m * s ∧ m ≤ cap ∧ Mem w0 w (nb g (xs ++ junk) E :: H) := by
  obtain ⟨h1, h2, h3, h4⟩ : Own w (some ⟨g, 0, none⟩) m cap E s xs := h.holds _ List.mem_cons_self
  rcases h4 with ⟨h4, _⟩ | ⟨g', junk, hg, hb, hl⟩
  · cases h4
  · cases hg
    refine ⟨junk, hl, h1, h2, h.rep (it := sl (some ⟨g, 0, none⟩) m cap E s xs) Rep.hd rfl rfl rfl (Nat.le_refl _) rfl hb ?_ ?_ (by simp [sl]) (fun _ _ _ => rfl)⟩
    · rintro b rfl; exact (Array.getElem?_eq_some_iff.1 hb).1
    · rintro b rfl; exact .inl ⟨_, rfl, rfl⟩
theorem G.slRow {g m cap E s : Nat} {xs : List Value} (h : ∀ junk, cap * s ≤ (xs ++ junk).length → xs.length = m * s → m ≤ cap → G P n X todo e (nb g (xs ++ junk) E :: H)) : G P n X todo e (sl (some ⟨g, 0, none⟩) m cap E s xs :: H) := fun a w hf hm =>
  let ⟨junk, h1, h2, h3, h4⟩ := hm.slRow; h junk h1 h2 h3 a w hf h4

/-- What is known of a slice's item: its address. -/
theorem Mem.slAt {w : World} {a : Option Addr} {m cap E s : Nat} {xs : List Value} (h : Mem w0 w H) (hi : sl a m cap E s xs ∈ H) : xs.length = m * s ∧ m ≤ cap ∧ cap ≤ maxLen ∧ ((a = none ∧ cap = 0 ∧ m = 0) ∨ ∃ g, a = some ⟨g, 0, none⟩) := by
  obtain ⟨h1, h2, h3, h4⟩ : Own w a m cap E s xs := h.holds _ hi
  refine ⟨h1, h2, h3, ?_⟩
  rcases h4 with ⟨h4, h5⟩ | ⟨g, _, h4, _⟩
  · exact .inl ⟨h4, h5, by omega⟩
  · exact .inr ⟨g, h4⟩
theorem G.slAt {a : Option Addr} {m cap E s : Nat} {xs : List Value} (hi : sl a m cap E s xs ∈ H) (h : xs.length = m * s → m ≤ cap → cap ≤ maxLen → ((a = none ∧ cap = 0 ∧ m = 0) ∨ ∃ g, a = some ⟨g, 0, none⟩) → G P n X todo e H) : G P n X todo e H := fun ac w hf hm =>
  let ⟨h1, h2, h3, h4⟩ := hm.slAt hi; h h1 h2 h3 h4 ac w hf hm
theorem W.slAt {a : Option Addr} {m cap E s : Nat} {xs : List Value} (hi : sl a m cap E s xs ∈ H) (h : xs.length = m * s → m ≤ cap → cap ≤ maxLen → ((a = none ∧ cap = 0 ∧ m = 0) ∨ ∃ g, a = some ⟨g, 0, none⟩) → W (.sq K) P n X ops todo l e H) : W (.sq K) P n X ops todo l e H := fun ac w hf hm =>
  let ⟨h1, h2, h3, h4⟩ := hm.slAt hi; h h1 h2 h3 h4 ac w hf hm
theorem RdS.sl {a : Option Addr} {m cap E s : Nat} {xs : List Value} (hi : sl a m cap E s xs ∈ H) : RdS w0 H a xs := fun w hm i v hv => by
  obtain ⟨h1, h2, h3, h4⟩ : Own w a m cap E s xs := hm.holds _ hi
  rcases h4 with ⟨rfl, rfl⟩ | ⟨g, junk, rfl, hg, hl⟩
  · have : m = 0 := by omega
    subst this
    have := (List.getElem?_eq_some_iff.1 hv).1
    omega
  · refine ⟨g, 0, rfl, ?_⟩
    rw [Nat.zero_add, cell_of_row w g i (xs ++ junk).toArray E (0, 0) hg]
    have := (List.getElem?_eq_some_iff.1 hv).1
    simp [List.getElem?_append, this] at hv ⊢
    exact hv
theorem Mem.slRd {w : World} {a : Option Addr} {m cap E s : Nat} {xs : List Value} (hm : Mem w0 w H) (hi : sl a m cap E s xs ∈ H) : RdL w a xs := RdS.sl hi w hm
theorem Mem.rowRd {w : World} {b E : Nat} {fr : Nat × Nat} {cs : List Value} (hm : Mem w0 w H) (h : Has H b (.cells cs.toArray E fr)) : RdL w (some ⟨b, 0, none⟩) cs := (RdS.cells (Cells.whole h)) w hm
theorem Cells.sl {g m cap E s : Nat} {xs : List Value} (hi : sl (some ⟨g, 0, none⟩) m cap E s xs ∈ H) : Cells w0 H g 0 xs := fun i v hv w hm => by
  obtain ⟨b, o, h1, h2⟩ := RdS.sl hi w hm i v hv
  cases h1; exact h2
theorem Cells.flat {α : Type} {f : α → List Value} {s b o : Nat} {xs : List α} (h : Cells w0 H b o (xs.flatMap f)) (hf : ∀ x, (f x).length = s) (k : Nat) (hk : k < xs.length) : Cells w0 H b (o + k * s) (f xs[k]) := fun i v hv => by
  have hi : i < s := by have := (List.getElem?_eq_some_iff.1 hv).1; rw [hf] at this; exact this
  have := h (k * s + i) v (by rw [flat_get f s hf xs k i hk hi]; exact hv)
  rw [Nat.add_assoc]; exact this
theorem RdS.row {b E : Nat} {fr : Nat × Nat} {cs : List Value} (h : Has H b (.cells cs.toArray E fr)) : RdS w0 H (some ⟨b, 0, none⟩) cs := .cells (Cells.whole h)

/-- A store into a slice of the call's own. -/
theorem W.stS {T' : TypeId} {x y : Operand} {g o s' m cap E s : Nat} {xs ds xs' : List Value} {H' : List It} (hs : sz P T' = some s') (hx : ev e x = some (ptr g o)) (hy : ev e y = some v) (hv : cellsL v = ds) (hl : ds.length = s') (h1 : ds.all (·.oneCell') = true)
    (hr : Rep H (sl (some ⟨g, 0, none⟩) m cap E s xs) (sl (some ⟨g, 0, none⟩) m cap E s xs') H') (ho : o + s' ≤ m * s) (hc : setAt xs o ds = xs') (hk : W (.sq K) P n X ops todo l e H') : W (.sq K) P n X ops todo (⟨none, .store T' x y, T, p, af, none⟩ :: l) e H := by
  refine W.eff rfl fun a w hf hm => ?_
  obtain ⟨q1, q2, q3, q4⟩ : Own w (some ⟨g, 0, none⟩) m cap E s xs := hm.holds _ hr.mem
  rcases q4 with ⟨q4, _⟩ | ⟨g', junk, hg, hb, hlen⟩
  · cases q4
  cases hg
  have hcap : m * s ≤ cap * s := Nat.mul_le_mul_right _ q2
  have hst := run_storeCells_at P g o E ds 0 (xs ++ junk).toArray w hb (by simp only [List.size_toArray, hl]; omega) (by simpa using h1)
  have hcs : ((xs ++ junk).toArray.toList.take (o + 0) ++ ds ++ (xs ++ junk).toArray.toList.drop (o + 0 + ds.length)).toArray = (xs' ++ junk).toArray := by
    rw [← hc]
    simp only [setAt, Nat.add_zero]
    rw [List.take_append_of_le_length (by omega), List.drop_append_of_le_length (by omega), List.append_assoc]
    simp
  rw [hcs] at hst
  have hxl : xs'.length = xs.length := by rw [← hc]; simp [setAt]; omega
  refine ⟨w.setRow g (xs' ++ junk).toArray, .skip, ?_, .inr ⟨rfl, hk a _ hf ?_⟩⟩
  · simp [execOp, Instr.storeAt, Instr.sureAddr, storeVar, hf.eval hx, hf.eval hy, cellsL_eq, hv, hl, sz_run hs, hst]
  · refine hm.rep hr rfl rfl rfl (by simp) rfl ⟨by rw [hxl]; exact q1, q2, q3, .inr ⟨g, junk, rfl, setRow_heap w g _ _ E (0, 0) hb, by simpa [hxl] using hlen⟩⟩ ?_ (fun b h => .inl h) (by simp [sl]) ?_
    · rintro b ⟨q, hq, rfl⟩; cases hq; simpa using (Array.getElem?_eq_some_iff.1 hb).1
    · intro b _ hno
      exact setRow_other w g b _ (fun h => hno ⟨_, rfl, h.symm⟩)
/-- Cells stored into a slice's row. -/
theorem slStore {w0 w : World} {H H' : List It} {g o m cap E s : Nat} {xs ds xs' : List Value} (hm : Mem w0 w H) (h1 : ds.all (·.oneCell') = true)
    (hr : Rep H (sl (some ⟨g, 0, none⟩) m cap E s xs) (sl (some ⟨g, 0, none⟩) m cap E s xs') H') (ho : o + ds.length ≤ m * s) (hc : setAt xs o ds = xs') : ∃ w', (storeCells ⟨g, o, none⟩ ds).run P w = .ok () w' ∧ Mem w0 w' H' := by
  obtain ⟨q1, q2, q3, q4⟩ : Own w (some ⟨g, 0, none⟩) m cap E s xs := hm.holds _ hr.mem
  rcases q4 with ⟨q4, _⟩ | ⟨g', junk, hg, hb, hlen⟩
  · cases q4
  cases hg
  have hcap : m * s ≤ cap * s := Nat.mul_le_mul_right _ q2
  have hst := run_storeCells_at P g o E ds 0 (xs ++ junk).toArray w hb (by simp only [List.size_toArray]; omega) (by simpa using h1)
  have hcs : ((xs ++ junk).toArray.toList.take (o + 0) ++ ds ++ (xs ++ junk).toArray.toList.drop (o + 0 + ds.length)).toArray = (xs' ++ junk).toArray := by
    rw [← hc]
    simp only [setAt, Nat.add_zero]
    rw [List.take_append_of_le_length (by omega), List.drop_append_of_le_length (by omega), List.append_assoc]
    simp
  rw [hcs] at hst
  have hxl : xs'.length = xs.length := by rw [← hc]; simp [setAt]; omega
  refine ⟨_, hst, hm.rep hr rfl rfl rfl (by simp) rfl ⟨by rw [hxl]; exact q1, q2, q3, .inr ⟨g, junk, rfl, setRow_heap w g _ _ E (0, 0) hb, by simpa [hxl] using hlen⟩⟩ ?_ (fun b h => .inl h) (by simp [sl]) ?_⟩
  · rintro b ⟨q, hq, rfl⟩; cases hq; simpa using (Array.getElem?_eq_some_iff.1 hb).1
  · intro b _ hno
    exact setRow_other w g b _ (fun h => hno ⟨_, rfl, h.symm⟩)
/-- append in place onto a slice of the call's own, within its length (its source may lie in it). -/
theorem W.api {S S' E E' s m k c cap cap1 i g : Nat} {x y : Operand} {a2 : Option Addr} {xs news xs' : List Value} {H' : List It} (hS : P.underlying S = some (.slice E)) (hS' : P.underlying S' = some (.slice E')) (hs : sz P E = some s)
    (hx : ev e x = some (.slice (some ⟨g, 0, none⟩) i cap1)) (hy : ev e y = some (.slice a2 k c)) (hr : Rep H (sl (some ⟨g, 0, none⟩) m cap E s xs) (sl (some ⟨g, 0, none⟩) m cap E s xs') H')
    (hsrc : RdS X.w0 H a2 news) (hl : news.length = k * s) (h1 : news.all (·.oneCell') = true) (hnil : a2 = none → k = 0) (hroom : i + k ≤ m) (hroom1 : i + k ≤ cap1) (hc : setAt xs (i * s) news = xs') (hd : Nat.blt d n = true)
    (hk : W (.sq K) P n X ops todo l ((d, .slice (some ⟨g, 0, none⟩) (i + k) cap1) :: e) H') : W (.sq K) P n X ops todo (⟨some d, .call ⟨.builtin .append, #[x, y], #[S, S']⟩, T, p, af, none⟩ :: l) e H := by
  refine W.eff rfl fun ac w hf hm => ?_
  have hsr := src_of (c := c) hS' (hsrc w hm) hl (by simpa using h1) hnil
  obtain ⟨w', hst, hm'⟩ := slStore (P := P) hm h1 hr (by rw [hl, ← Nat.add_mul]; exact Nat.mul_le_mul_right _ hroom) hc
  refine ⟨w', .value (.slice (some ⟨g, 0, none⟩) (i + k) cap1), ?_, .inl ⟨_, rfl, hk _ _ (hf.put _ hd) hm'⟩⟩
  have h3 := hsr.len w
  have h2 := hsr.cells
  unfold sz at hs
  cases hi : P.info? E with
  | none => simp [hi] at hs
  | some inf =>
    simp [hi] at hs; subst hs
    rcases hsr.kind with ⟨e', hk⟩ | hk <;> simp [execOp, resolve, invoke, builtin, hf.eval hx, hf.eval hy, Builtin.append_, run_underlying hS, run_underlying hk, sizeOf, typeInfo, hi, h3, hroom1, h2, add_ad, hst]
theorem zeroCells_flat (zs : List Value) : ∀ k, (Builtin.zeroCells zs.toArray k).toList = (List.replicate k zs).flatten := by
  intro k
  have h1 : (Builtin.zeroCells zs.toArray k).toList = (List.range (k * zs.length)).map (fun i => zs.toArray[i % zs.length]!) := by simp [Builtin.zeroCells, Array.toList_range]
  rw [h1]
  induction k with
  | zero => simp
  | succ k ih =>
    have h2 := ih (by simp [Builtin.zeroCells, Array.toList_range])
    rw [Nat.add_mul, Nat.one_mul, List.range_add, List.map_append, h2, List.replicate_succ', List.flatten_append, List.map_map]
    congr 1
    simp only [List.flatten_cons, List.flatten_nil, List.append_nil]
    apply List.ext_getElem
    · simp
    · intro i q1 q2
      have hi : i < zs.length := by simpa using q1
      simp [Nat.mul_add_mod_of_lt hi, hi]
/-- clear of a part of a slice of the call's own. -/
theorem W.clr {S E s m k k' c cap g o : Nat} {a' : Option Addr} {x : Operand} {xs zs xs' : List Value} {H' : List It} (hS : P.underlying S = some (.slice E)) (hz : zrl P E = some zs) (hx : ev e x = some (.slice a' k' c)) (ha : a' = some ⟨g, o, none⟩) (hk' : k' = k + 1) (h1 : (List.replicate (k + 1) zs).flatten.all (·.oneCell') = true)
    (hr : Rep H (sl (some ⟨g, 0, none⟩) m cap E s xs) (sl (some ⟨g, 0, none⟩) m cap E s xs') H') (ho : o + (List.replicate (k + 1) zs).flatten.length ≤ m * s) (hc : setAt xs o (List.replicate (k + 1) zs).flatten = xs')
    (hk : W (.sq K) P n X ops todo l e H') : W (.sq K) P n X ops todo (⟨none, .call ⟨.builtin .clear, #[x], #[S]⟩, T, p, af, none⟩ :: l) e H := by
  subst ha; subst hk'
  refine W.eff rfl fun ac w hf hm => ?_
  obtain ⟨z, hz1, hz2⟩ := zrl_run hz w
  obtain ⟨w', hst, hm'⟩ := slStore (P := P) hm h1 hr ho hc
  have hzc : (Builtin.zeroCells z.cells (k + 1)).toList = (List.replicate (k + 1) zs).flatten := by rw [zeroCells_flat, hz2]
  refine ⟨w', .value (.tuple #[]), ?_, .inl ⟨_, rfl, hk _ _ hf hm'⟩⟩
  simp [execOp, resolve, invoke, builtin, hf.eval hx, Builtin.clear_, run_underlying hS, hz1, hzc, hst]
/-- The end of a slice's row becomes spare room. -/
theorem Mem.slCut {w0 w : World} {H H' : List It} {g m m' cap E s : Nat} {xs ys zs : List Value} (h : Mem w0 w H) (hr : Rep H (sl (some ⟨g, 0, none⟩) m cap E s zs) (sl (some ⟨g, 0, none⟩) m' cap E s xs) H') (he : zs = xs ++ ys) (hl : xs.length = m' * s) (hle : m' ≤ m) : Mem w0 w H' := by
  subst he
  obtain ⟨q1, q2, q3, q4⟩ : Own w (some ⟨g, 0, none⟩) m cap E s (xs ++ ys) := h.holds _ hr.mem
  refine h.rep hr rfl rfl rfl (Nat.le_refl _) rfl ⟨hl, by omega, q3, ?_⟩ (fun b hb => h.inb _ hr.mem b hb) (fun b hb => .inl hb) (by simp [sl]) (fun _ _ _ => rfl)
  rcases q4 with ⟨q4, _⟩ | ⟨g', junk, hg, hb, hlen⟩
  · cases q4
  · exact .inr ⟨g', ys ++ junk, hg, by rw [← List.append_assoc]; exact hb, by rw [← List.append_assoc]; exact hlen⟩
theorem flat_take {α : Type} (f : α → List Value) (s : Nat) (hf : ∀ x, (f x).length = s) (xs : List α) (k : Nat) : (xs.flatMap f).take (k * s) = (xs.take k).flatMap f := by
  rcases Nat.lt_or_ge k xs.length with h | h
  · conv => lhs; rw [← List.take_append_drop k xs, List.flatMap_append]
    exact List.take_left' (by rw [flat_len f s hf, List.length_take, Nat.min_eq_left (by omega)])
  · rw [List.take_of_length_le h, List.take_of_length_le (by rw [flat_len f s hf]; exact Nat.mul_le_mul_right _ h)]
theorem flat_drop {α : Type} (f : α → List Value) (s : Nat) (hf : ∀ x, (f x).length = s) (xs : List α) (k : Nat) : (xs.flatMap f).drop (k * s) = (xs.drop k).flatMap f := by
  rcases Nat.lt_or_ge k xs.length with h | h
  · conv => lhs; rw [← List.take_append_drop k xs, List.flatMap_append]
    exact List.drop_left' (by rw [flat_len f s hf, List.length_take, Nat.min_eq_left (by omega)])
  · rw [List.drop_eq_nil_of_le h, List.drop_eq_nil_of_le (by rw [flat_len f s hf]; exact Nat.mul_le_mul_right _ h)]; rfl
/-- Cells moved down over one element. -/
theorem flat_move {α : Type} (f : α → List Value) (s : Nat) (hf : ∀ x, (f x).length = s) (xs : List α) (i : Nat) (hi : i < xs.length) : setAt (xs.flatMap f) (i * s) ((xs.flatMap f).drop ((i + 1) * s)) = (xs.eraseIdx i).flatMap f ++ (xs.flatMap f).drop ((xs.length - 1) * s) := by
  have h1 : i * s + (xs.length - (i + 1)) * s = (xs.length - 1) * s := by rw [← Nat.add_mul]; congr 1; omega
  simp only [setAt]
  rw [flat_take f s hf, flat_drop f s hf, flat_len f s hf, List.length_drop, h1, List.eraseIdx_eq_take_drop_succ, List.flatMap_append]
theorem setAt_end (xs ys zs : List Value) (h : zs.length = ys.length) : setAt (xs ++ ys) xs.length zs = xs ++ zs := by
  simp [setAt, h]
theorem flat_set {α : Type} (f : α → List Value) (s : Nat) (hf : ∀ x, (f x).length = s) : ∀ (xs : List α) (k : Nat) (y : α), k < xs.length → setAt (xs.flatMap f) (k * s) (f y) = (xs.set k y).flatMap f
  | x :: xs, 0, y, _ => by
    simp only [setAt, Nat.zero_mul, List.take_zero, List.nil_append, Nat.zero_add, List.flatMap_cons, List.set_cons_zero, hf]
    rw [List.drop_append, hf, Nat.sub_self, List.drop_eq_nil_of_le (by rw [hf]; exact Nat.le_refl _)]
    rfl
  | x :: xs, k + 1, y, h => by
    have ih := flat_set f s hf xs k y (by simpa using h)
    simp only [List.flatMap_cons, List.set_cons_succ]
    rw [← ih]
    simp only [setAt, hf]
    rw [List.take_append, List.drop_append, hf, List.take_of_length_le (by rw [hf, Nat.add_mul]; omega), List.drop_eq_nil_of_le (by rw [hf, Nat.add_mul]; omega)]
    simp only [List.append_assoc, List.nil_append]
    congr 2
    · rw [Nat.add_mul]; congr 1; omega
    · congr 1
      rw [Nat.add_mul]; congr 1; omega

/-- A pointer against nil. -/
theorem run_eq_ptr_nil (w : World) (d : Nat) (t E : TypeId) (q : Option Addr) (h : P.underlying t = some (.pointer E)) : (Op.equalIn (d + 1) t (.pointer q) (.pointer none)).run P w = .ok q.isNone w := by
  cases q <;> simp [Op.equalIn, run_underlying h]
theorem eqp {x : Operand} {q : Option Addr} {T1 T2 E : TypeId} (hT : P.underlying T1 = some (.pointer E)) (hx : ev e x = some (.pointer q)) : OpV P w0 (.binOp .eql T1 x (.const (.pointer none)) T2) T e H (.bool (decide (q = none))) := fun ρ w _ _ _ _ hρ _ => by
  have h2 : ρ (.const (.pointer none)) = .pointer none := hρ _ _ rfl
  have h3 : eqGuard .eql T1 x (.const (.pointer none)) (.pointer q) (.pointer none) = pure () := rfl
  have h5 : decide (q = none) = q.isNone := by cases q <;> simp
  show (do let v ← (do eqGuard .eql T1 x (.const (.pointer none)) (ρ x) (ρ (.const (.pointer none))); binOp .eql T1 (ρ x) (ρ (.const (.pointer none)))); pure (Next.value v) : Sem Next).run P w = _
  rw [hρ _ _ hx, h2, h3, h5]
  simp [binOp, Op.equal, Op.maxDepth, run_eq_ptr_nil w 9999 T1 E q hT]
theorem nep {x : Operand} {q : Option Addr} {T1 T2 E : TypeId} (hT : P.underlying T1 = some (.pointer E)) (hx : ev e x = some (.pointer q)) : OpV P w0 (.binOp .neq T1 x (.const (.pointer none)) T2) T e H (.bool (decide (q ≠ none))) := fun ρ w _ _ _ _ hρ _ => by
  have h2 : ρ (.const (.pointer none)) = .pointer none := hρ _ _ rfl
  have h3 : eqGuard .neq T1 x (.const (.pointer none)) (.pointer q) (.pointer none) = pure () := rfl
  have h5 : decide (q ≠ none) = !q.isNone := by cases q <;> simp
  show (do let v ← (do eqGuard .neq T1 x (.const (.pointer none)) (ρ x) (ρ (.const (.pointer none))); binOp .neq T1 (ρ x) (ρ (.const (.pointer none)))); pure (Next.value v) : Sem Next).run P w = _
  rw [hρ _ _ hx, h2, h3, h5]
  simp [binOp, Op.equal, Op.maxDepth, run_eq_ptr_nil w 9999 T1 E q hT]
/-- A slice against nil. -/
theorem eqnil {x : Operand} {a : Option Addr} {m c : Nat} {T1 T2 E : TypeId} (hT : P.underlying T1 = some (.slice E)) (hx : ev e x = some (.slice a m c)) : OpV P w0 (.binOp .eql T1 x (.const (.slice none 0 0)) T2) T e H (.bool (decide (a = none))) := fun ρ w _ _ _ _ hρ _ => by
  have h2 : ρ (.const (.slice none 0 0)) = .slice none 0 0 := hρ _ _ rfl
  have h3 : eqGuard .eql T1 x (.const (.slice none 0 0)) (.slice a m c) (.slice none 0 0) = pure () := rfl
  have h4 := Lib.run_eql_slice_nil (P := P) w T1 E a m c 0 0 hT
  have h5 : decide (a = none) = a.isNone := by cases a <;> simp
  show (do let v ← (do eqGuard .eql T1 x (.const (.slice none 0 0)) (ρ x) (ρ (.const (.slice none 0 0))); binOp .eql T1 (ρ x) (ρ (.const (.slice none 0 0)))); pure (Next.value v) : Sem Next).run P w = _
  rw [hρ _ _ hx, h2, h3, h5]
  simp [h4]
theorem nenil {x : Operand} {a : Option Addr} {m c : Nat} {T1 T2 E : TypeId} (hT : P.underlying T1 = some (.slice E)) (hx : ev e x = some (.slice a m c)) : OpV P w0 (.binOp .neq T1 x (.const (.slice none 0 0)) T2) T e H (.bool (decide (a ≠ none))) := fun ρ w _ _ _ _ hρ _ => by
  have h2 : ρ (.const (.slice none 0 0)) = .slice none 0 0 := hρ _ _ rfl
  have h3 : eqGuard .neq T1 x (.const (.slice none 0 0)) (.slice a m c) (.slice none 0 0) = pure () := rfl
  have h4 := run_neq_slice_nil_any (P := P) w T1 E a m c 0 0 hT
  have h5 : decide (a ≠ none) = !a.isNone := by cases a <;> simp
  show (do let v ← (do eqGuard .neq T1 x (.const (.slice none 0 0)) (ρ x) (ρ (.const (.slice none 0 0))); binOp .neq T1 (ρ x) (ρ (.const (.slice none 0 0)))); pure (Next.value v) : Sem Next).run P w = _
  rw [hρ _ _ hx, h2, h3, h5]
  simp [h4]
theorem eqb {x y : Operand} {a b : Bool} {T1 T2 : TypeId} (hT : P.underlying T1 = some .bool) (hx : ev e x = some (.bool a)) (hy : ev e y = some (.bool b)) : OpV P w0 (.binOp .eql T1 x y T2) T e H (.bool (decide (a = b))) := fun ρ w _ _ _ _ hρ _ => by
  have h4 := run_eql_bool (P := P) w T1 a b hT
  have h5 : decide (a = b) = (a == b) := by cases a <;> cases b <;> rfl
  show (do let v ← (do eqGuard .eql T1 x y (ρ x) (ρ y); binOp .eql T1 (ρ x) (ρ y)); pure (Next.value v) : Sem Next).run P w = _
  rw [hρ _ _ hx, hρ _ _ hy, h5]
  have h3 : eqGuard .eql T1 x y (.bool a) (.bool b) = pure () := rfl
  rw [h3]; simp [h4]
theorem neb {x y : Operand} {a b : Bool} {T1 T2 : TypeId} (hT : P.underlying T1 = some .bool) (hx : ev e x = some (.bool a)) (hy : ev e y = some (.bool b)) : OpV P w0 (.binOp .neq T1 x y T2) T e H (.bool (decide (a ≠ b))) := fun ρ w _ _ _ _ hρ _ => by
  have h4 := run_neq_bool (P := P) w T1 a b hT
  have h5 : decide (a ≠ b) = !(a == b) := by cases a <;> cases b <;> rfl
  show (do let v ← (do eqGuard .neq T1 x y (ρ x) (ρ y); binOp .neq T1 (ρ x) (ρ y)); pure (Next.value v) : Sem Next).run P w = _
  rw [hρ _ _ hx, hρ _ _ hy, h5]
  have h3 : eqGuard .neq T1 x y (.bool a) (.bool b) = pure () := rfl
  rw [h3]; simp [h4]

/-! A call of a function's value. -/
theorem callv_run {f : FuncId} {x : Operand} {as : List Operand} {vs : List Value} {ats : Array TypeId} {a : Act} {dst : Option Tmp} {g : Option (Nat × Bool)} {ds : List Deferred} (hf : Callable P f) (hfit : Fits ds n e a) (hx : ev e x = some (.func (.func f) #[] #[])) (hv : evs e as = some vs) (w : World) :
    (execOp a.eval ⟨dst, .call ⟨.value x, as.toArray, ats⟩, T, p, af, g⟩).run P w = .ok (.enter f vs.toArray) w := by
  obtain ⟨fn, h1, h2, h3⟩ := hf
  have h2' : ¬ fn.body = none := fun h => by simp [h] at h2
  have hvs := hfit.evals hv
  simp at h3
  simp [execOp, resolve, Deferred.ofValue, invoke, hfit.eval hx, hvs, callFunc, h1, h2', h3]
theorem W.cvv {f : FuncId} {x : Operand} {as : List Operand} {vs : List Value} {ats : Array TypeId} (hf : Callable P f) (hx : ev e x = some (.func (.func f) #[] #[])) (hv : evs e as = some vs) (hc : ∀ w, Mem X.w0 w H → Ret P f vs w fun v' _ => v' = v) (hd : Nat.blt d n = true)
    (hk : W (.sq K) P n X ops todo l ((d, v) :: e) H) : W (.sq K) P n X ops todo (⟨some d, .call ⟨.value x, as.toArray, ats⟩, T, p, af, none⟩ :: l) e H := by
  intro a w hfit hm
  unfold wpList
  rw [if_pos (by simp [Region.wanted])]
  left
  simp only [Oper.wp, callv_run hf hfit hx hv w, Oper.upon]
  refine Calls.mono (hc w hm) ?_
  rintro en w' ⟨v', J, rfl, h2, h3, rfl⟩
  exact hk _ w' (hfit.put _ hd) (hm.merge' h2 h3)
end
end Go.Eng
