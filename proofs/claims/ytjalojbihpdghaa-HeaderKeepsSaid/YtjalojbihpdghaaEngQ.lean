/- The engine, eleventh part: structs and arrays of numbers, truths and strings against one another. -/
import Derived.Test.YtjalojbihpdghaaEngB
import Derived.ChangeKeysEq
namespace Go.Eng
open Go
set_option linter.unusedVariables false

theorem ret_true {p : Prop} {i : Decidable p} (h : p) : Value.bool (@decide p i) = .bool true := by rw [decide_eq_true h]
theorem ret_false {p : Prop} {i : Decidable p} (h : ¬ p) : Value.bool (@decide p i) = .bool false := by rw [decide_eq_false h]
inductive SK where
  | int (k : IntKind)
  | bool
  | str
def SKok : SK → Value → Prop
  | .int k, v => ∃ n, v = .int k n
  | .bool, v => ∃ b, v = .bool b
  | .str, v => ∃ s, v = .string s
/-- These cells are of these kinds. -/
def KOk : List SK → List Value → Prop
  | [], [] => True
  | k :: ks, v :: vs => SKok k v ∧ KOk ks vs
  | _, _ => False
theorem KOk.len : ∀ {ks : List SK} {cs : List Value}, KOk ks cs → cs.length = ks.length
  | [], [], _ => rfl
  | _ :: _, _ :: _, h => by simp [KOk.len h.2]
  | [], _ :: _, h => h.elim
  | _ :: _, [], h => h.elim
theorem KOk.app : ∀ {a b : List SK} {x y : List Value}, KOk a x → KOk b y → KOk (a ++ b) (x ++ y)
  | [], _, [], _, _, h => h
  | _ :: _, _, _ :: _, _, h, h' => ⟨h.1, KOk.app h.2 h'⟩
  | [], _, _ :: _, _, h, _ => h.elim
  | _ :: _, _, [], _, h, _ => h.elim
theorem KOk.split : ∀ {a b : List SK} {cs : List Value}, KOk (a ++ b) cs → ∃ x y, cs = x ++ y ∧ KOk a x ∧ KOk b y
  | [], _, cs, h => ⟨[], cs, rfl, trivial, h⟩
  | _ :: _, _, [], h => h.elim
  | k :: a, b, v :: cs, h => by
    obtain ⟨x, y, rfl, h1, h2⟩ := KOk.split (a := a) h.2
    exact ⟨v :: x, y, rfl, ⟨h.1, h1⟩, h2⟩
theorem KOk.u8s (l : List UInt8) : KOk (List.replicate l.length (.int .u8)) (B l) := by
  induction l with
  | nil => trivial
  | cons x l ih => exact ⟨⟨_, rfl⟩, ih⟩
theorem KOk.u8n {l : List UInt8} {n : Nat} (h : l.length = n) : KOk (List.replicate n (.int .u8)) (B l) := h ▸ KOk.u8s l

def kindsS (P : Program) (r : TypeId → Option (List SK)) : List Field → Nat → Option (List SK)
  | [], _ => some []
  | f :: fs, off => match r f.type with
    | some ks => if f.name ≠ "_" ∧ f.offset = off ∧ sz P f.type = some ks.length then match kindsS P r fs (off + ks.length) with
      | some ks' => some (ks ++ ks')
      | none => none
      else none
    | none => none
/-- The kinds of a type's cells. -/
def kindsOf (P : Program) : Nat → TypeId → Option (List SK)
  | 0, _ => none
  | m + 1, T => match P.underlying T with
    | some (.int k) => some [.int k]
    | some .bool => some [.bool]
    | some .string => some [.str]
    | some (.array n E) => match kindsOf P m E with
      | some ks => if sz P E = some ks.length then some (List.replicate n ks).flatten else none
      | none => none
    | some (.struct fs) => if P.stoodInHeld T then none else kindsS P (kindsOf P m) fs.toList 0
    | _ => none

section
variable {P : Program}
def valOf (P : Program) (T : TypeId) (cs : List Value) : Value := if aggT P T then .agg cs.toArray else cs.headD undef
theorem valOf_agg {T : TypeId} {cs : List Value} (h : aggT P T = true) : valOf P T cs = .agg cs.toArray := by simp [valOf, h]

theorem kinds_scal {m : Nat} {T : TypeId} {ks : List SK} (hk : kindsOf P m T = some ks) (ha : aggT P T = false) : ∃ k, ks = [k] := by
  cases m with
  | zero => cases hk
  | succ m =>
    unfold kindsOf at hk
    unfold aggT at ha
    cases hu : P.underlying T with
    | none => simp [hu] at hk
    | some d =>
      cases d <;> simp [hu] at hk ha
      all_goals exact ⟨_, hk.symm⟩
theorem isAgg_run' {m : Nat} {T : TypeId} {ks : List SK} (hk : kindsOf P m T = some ks) (w : World) : (isAgg T).run P w = .ok (aggT P T) w := by
  cases m with
  | zero => cases hk
  | succ m =>
    unfold kindsOf at hk
    cases hu : P.underlying T with
    | none => simp [hu] at hk
    | some d => cases d <;> simp [hu] at hk <;> simp [isAgg, run_underlying hu, aggT, hu]
theorem part_run {m : Nat} {T : TypeId} {ks : List SK} (hk : kindsOf P m T = some ks) (hs : sz P T = some ks.length) {pre cs post : List Value} (hc : KOk ks cs) (w : World) :
    (part T (pre ++ cs ++ post).toArray pre.length).run P w = .ok (valOf P T cs) w := by
  have hl := hc.len
  have h1 := isAgg_run' hk w
  cases ha : aggT P T with
  | true =>
    rw [ha] at h1
    simp only [part, Sem.run_bind, h1, Result.andThen_ok, if_true, sz_run hs, Sem.run_pure, valOf, ha]
    congr 2
    apply Array.ext'
    rw [Array.toList_extract]
    simp [List.extract, ← hl]
  | false =>
    rw [ha] at h1
    obtain ⟨k, rfl⟩ := kinds_scal hk ha
    match cs, hl with
    | [v], _ =>
      simp only [part, Sem.run_bind, h1, Result.andThen_ok, Bool.false_eq_true, if_false, valOf, ha, List.headD_cons]
      simp

theorem eq_items {m d E : Nat} {ks : List SK} (hk : kindsOf P m E = some ks) (hs : sz P E = some ks.length)
    (ih : ∀ (cs ds : List Value), KOk ks cs → KOk ks ds → ∀ w, ∃ r, (Op.equalIn d E (valOf P E cs) (valOf P E ds)).run P w = .ok r w ∧ (r = true ↔ cs = ds)) :
    ∀ (n : Nat) (k : Nat) (px py xs ys : List Value), px.length = k * ks.length → py.length = k * ks.length → KOk (List.replicate n ks).flatten xs → KOk (List.replicate n ks).flatten ys →
      ∀ w, ∃ r, (Op.eqItems d E (P.cellsOf E) (px ++ xs).toArray (py ++ ys).toArray (List.range' k n)).run P w = .ok r w ∧ (r = true ↔ xs = ys)
  | 0, k, px, py, xs, ys, _, _, hx, hy, w => by
    have h1 := hx.len; have h2 := hy.len
    simp at h1 h2
    subst h1; subst h2
    exact ⟨true, by simp [Op.eqItems], by simp⟩
  | n + 1, k, px, py, xs, ys, h1, h2, hx, hy, w => by
    rw [List.replicate_succ, List.flatten_cons] at hx hy
    obtain ⟨x, xs, rfl, hx1, hx2⟩ := hx.split
    obtain ⟨y, ys, rfl, hy1, hy2⟩ := hy.split
    have hc : P.cellsOf E = ks.length := by
      unfold sz at hs
      unfold Program.cellsOf
      cases hi : P.info? E with
      | none => simp [hi] at hs
      | some i => simp [hi] at hs; simp [hs]
    have p1 := part_run hk hs (pre := px) (post := xs) hx1 w
    have p2 := part_run hk hs (pre := py) (post := ys) hy1 w
    obtain ⟨r, hr, hiff⟩ := ih x y hx1 hy1 w
    obtain ⟨r', hr', hiff'⟩ := eq_items hk hs ih n (k + 1) (px ++ x) (py ++ y) xs ys (by rw [List.length_append, h1, hx1.len, Nat.add_mul]; omega) (by rw [List.length_append, h2, hy1.len, Nat.add_mul]; omega) hx2 hy2 w
    rw [hc] at hr' ⊢
    rw [← List.append_assoc, ← List.append_assoc, List.range'_succ]
    rw [h1] at p1
    rw [h2] at p2
    simp only [Op.eqItems, Sem.run_bind, p1, p2, hr, Result.andThen_ok]
    have happ : x ++ xs = y ++ ys ↔ x = y ∧ xs = ys := ⟨fun h => List.append_inj h (by rw [hx1.len, hy1.len]), fun ⟨e1, e2⟩ => by rw [e1, e2]⟩
    cases r
    · exact ⟨false, by simp, by rw [happ]; simp; intro e; exact absurd (hiff.2 e) (by simp)⟩
    · exact ⟨r', by simpa using hr', by rw [hiff', happ]; simp [hiff.1 rfl]⟩
theorem eq_fields {m d : Nat}
    (ih : ∀ (T : TypeId) (ks : List SK), kindsOf P m T = some ks → ∀ (cs ds : List Value), KOk ks cs → KOk ks ds → ∀ w, ∃ r, (Op.equalIn d T (valOf P T cs) (valOf P T ds)).run P w = .ok r w ∧ (r = true ↔ cs = ds)) :
    ∀ (fs : List Field) (off : Nat) (ks : List SK), kindsS P (kindsOf P m) fs off = some ks → ∀ (px py xs ys : List Value), px.length = off → py.length = off → KOk ks xs → KOk ks ys →
      ∀ w, ∃ r, (Op.eqFields d (px ++ xs).toArray (py ++ ys).toArray fs).run P w = .ok r w ∧ (r = true ↔ xs = ys)
  | [], off, ks, hk, px, py, xs, ys, _, _, hx, hy, w => by
    simp only [kindsS, Option.some.injEq] at hk
    subst hk
    have h1 := hx.len; have h2 := hy.len
    simp at h1 h2
    subst h1; subst h2
    exact ⟨true, by simp [Op.eqFields], by simp⟩
  | f :: fs, off, ks, hk, px, py, xs, ys, h1, h2, hx, hy, w => by
    simp only [kindsS] at hk
    cases hf : kindsOf P m f.type with
    | none => simp [hf] at hk
    | some k1 =>
      simp only [hf] at hk
      by_cases hc : f.name ≠ "_" ∧ f.offset = off ∧ sz P f.type = some k1.length
      · rw [if_pos hc] at hk
        cases hr : kindsS P (kindsOf P m) fs (off + k1.length) with
        | none => simp [hr] at hk
        | some k2 =>
          simp only [hr, Option.some.injEq] at hk
          subst hk
          obtain ⟨hn, ho, hs⟩ := hc
          obtain ⟨x, xs, rfl, hx1, hx2⟩ := hx.split
          obtain ⟨y, ys, rfl, hy1, hy2⟩ := hy.split
          have p1 := part_run hf hs (pre := px) (post := xs) hx1 w
          have p2 := part_run hf hs (pre := py) (post := ys) hy1 w
          obtain ⟨r, hr1, hiff⟩ := ih f.type k1 hf x y hx1 hy1 w
          obtain ⟨r', hr', hiff'⟩ := eq_fields ih fs (off + k1.length) k2 hr (px ++ x) (py ++ y) xs ys (by rw [List.length_append, h1, hx1.len]) (by rw [List.length_append, h2, hy1.len]) hx2 hy2 w
          rw [h1, ← ho] at p1
          rw [h2, ← ho] at p2
          rw [← List.append_assoc, ← List.append_assoc]
          simp only [Op.eqFields, hn, ne_eq, not_false_eq_true, if_true, Sem.run_bind, p1, p2, hr1, Result.andThen_ok]
          have happ : x ++ xs = y ++ ys ↔ x = y ∧ xs = ys := ⟨fun h => List.append_inj h (by rw [hx1.len, hy1.len]), fun ⟨e1, e2⟩ => by rw [e1, e2]⟩
          cases r
          · exact ⟨false, by simp, by rw [happ]; simp; intro e; exact absurd (hiff.2 e) (by simp)⟩
          · exact ⟨r', by simpa using hr', by rw [hiff', happ]; simp [hiff.1 rfl]⟩
      · rw [if_neg hc] at hk; cases hk
theorem eq_kinds : ∀ (m : Nat) (T : TypeId) (ks : List SK), kindsOf P m T = some ks → ∀ (d : Nat) (cs ds : List Value), KOk ks cs → KOk ks ds → ∀ w, ∃ r, (Op.equalIn (m + d) T (valOf P T cs) (valOf P T ds)).run P w = .ok r w ∧ (r = true ↔ cs = ds)
  | 0, _, _, hk, _, _, _, _, _, _ => by cases hk
  | m + 1, T, ks, hk, d, cs, ds, hc, hd, w => by
    have ih := fun T ks hk => eq_kinds m T ks hk d
    have hk0 := hk
    unfold kindsOf at hk
    rw [show m + 1 + d = (m + d) + 1 by omega]
    cases hu : P.underlying T with
    | none => simp [hu] at hk
    | some D =>
      cases D <;> simp only [hu, Option.some.injEq] at hk
      all_goals try cases hk
      case some.bool.refl =>
        have ha : aggT P T = false := by simp [aggT, hu]
        match cs, ds, hc, hd with
        | [_], [_], ⟨⟨a, rfl⟩, _⟩, ⟨⟨b, rfl⟩, _⟩ => exact ⟨a == b, by simpa [valOf, ha] using run_equalIn_bool w (m + d) T a b hu, by simp⟩
      case some.int.refl k =>
        have ha : aggT P T = false := by simp [aggT, hu]
        match cs, ds, hc, hd with
        | [_], [_], ⟨⟨a, rfl⟩, _⟩, ⟨⟨b, rfl⟩, _⟩ => exact ⟨a == b, by simpa [valOf, ha] using run_equalIn_int w (m + d) T k k a b hu, by simp⟩
      case some.string.refl =>
        have ha : aggT P T = false := by simp [aggT, hu]
        match cs, ds, hc, hd with
        | [_], [_], ⟨⟨a, rfl⟩, _⟩, ⟨⟨b, rfl⟩, _⟩ => exact ⟨a == b, by simp [valOf, ha, Op.equalIn, run_underlying hu], by
          obtain ⟨⟨x⟩⟩ := a
          obtain ⟨⟨y⟩⟩ := b
          show (((⟨x⟩ : Array UInt8) == ⟨y⟩) = true) ↔ _
          simp⟩
      case some.array n E =>
        have ha : aggT P T = true := by simp [aggT, hu]
        cases he : kindsOf P m E with
        | none => simp [he] at hk
        | some k1 =>
          simp only [he] at hk
          by_cases hs : sz P E = some k1.length
          · rw [if_pos hs, Option.some.injEq] at hk
            subst hk
            obtain ⟨i, hi⟩ : ∃ i, P.info? E = some i := by
              unfold sz at hs
              cases hi : P.info? E with
              | none => simp [hi] at hs
              | some i => exact ⟨i, rfl⟩
            obtain ⟨r, hr, hiff⟩ := eq_items he hs (ih E k1 he) n 0 [] [] cs ds (by simp) (by simp) hc hd w
            refine ⟨r, ?_, hiff⟩
            rw [valOf_agg ha, valOf_agg ha, run_equalIn_array w (m + d) _ _ hu hi, List.range_eq_range']
            exact hr
          · rw [if_neg hs] at hk; cases hk
      case some.struct fs =>
        have ha : aggT P T = true := by simp [aggT, hu]
        by_cases hst : P.stoodInHeld T = true
        · rw [if_pos hst] at hk; cases hk
        · rw [if_neg hst] at hk
          have hfs : P.fieldsOf T = fs := by simp [Program.fieldsOf, hu]
          obtain ⟨r, hr, hiff⟩ := eq_fields (ih) fs.toList 0 ks hk [] [] cs ds rfl rfl hc hd w
          refine ⟨r, ?_, hiff⟩
          rw [valOf_agg ha, valOf_agg ha, run_equalIn_struct w (m + d) T _ _ (by rw [hfs]; exact hu) (by simpa using hst), hfs]
          exact hr
end
section
variable {P : Program} {w0 : World} {e : Env} {H : List It} {T : TypeId} {x y : Operand} {T1 T2 : TypeId} {cs ds : List Value}
open Classical in
theorem eqa {ks : List SK} (hk : kindsOf P 9 T1 = some ks) (ha : aggT P T1 = true) (hg : P.eqGuardType P.depth T1 = false) (hx : ev e x = some (.agg cs.toArray)) (hy : ev e y = some (.agg ds.toArray)) (hc : KOk ks cs) (hd : KOk ks ds) : OpV P w0 (.binOp .eql T1 x y T2) T e H (.bool (decide (cs = ds))) := fun ρ w _ _ _ _ hρ _ => by
  obtain ⟨r, hr, hiff⟩ := eq_kinds 9 T1 ks hk 9991 cs ds hc hd w
  rw [valOf_agg ha, valOf_agg ha] at hr
  have h2 : r = decide (cs = ds) := by
    by_cases h : cs = ds
    · rw [decide_eq_true h, hiff.2 h]
    · rw [decide_eq_false h]
      cases r
      · rfl
      · exact absurd (hiff.1 rfl) h
  have h3 := run_eqGuard_agg (P := P) w .eql T1 x y cs.toArray ds.toArray hg
  have h4 : (binOp .eql T1 (.agg cs.toArray) (.agg ds.toArray)).run P w = .ok (.bool r) w := by rw [run_eql_struct, hr]; rfl
  rw [← h2]
  simp [execOp, hρ _ _ hx, hρ _ _ hy, h3, h4]
open Classical in
theorem nea {ks : List SK} (hk : kindsOf P 9 T1 = some ks) (ha : aggT P T1 = true) (hg : P.eqGuardType P.depth T1 = false) (hx : ev e x = some (.agg cs.toArray)) (hy : ev e y = some (.agg ds.toArray)) (hc : KOk ks cs) (hd : KOk ks ds) : OpV P w0 (.binOp .neq T1 x y T2) T e H (.bool (decide (cs ≠ ds))) := fun ρ w _ _ _ _ hρ _ => by
  obtain ⟨r, hr, hiff⟩ := eq_kinds 9 T1 ks hk 9991 cs ds hc hd w
  rw [valOf_agg ha, valOf_agg ha] at hr
  have h2 : (!r) = decide (cs ≠ ds) := by
    by_cases h : cs = ds
    · rw [hiff.2 h]; simp [h]
    · rw [decide_eq_true h]
      cases r
      · rfl
      · exact absurd (hiff.1 rfl) h
  have h3 := run_eqGuard_agg (P := P) w .neq T1 x y cs.toArray ds.toArray hg
  have h4 : (binOp .neq T1 (.agg cs.toArray) (.agg ds.toArray)).run P w = .ok (.bool (!r)) w := by rw [run_neq_struct, hr]; rfl
  rw [← h2]
  simp [execOp, hρ _ _ hx, hρ _ _ hy, h3, h4]
end
end Go.Eng
