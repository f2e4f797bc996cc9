/- Readers of arguments: what a type's reading tells of its cells. -/
import Derived.Test.YtjalojbihpdghaaTop
namespace Go.Eng
open Go Go.ChangeShapes Go.WideShapes

/-- A measure of readings that bounds the rows in them. -/
structure Meas (P : Program) (H : Type) where
  S : TypeId → DataW H → Prop
  slice : ∀ {t e : TypeId} {elems spare : List (DataW H)}, P.underlying t = some (.slice e) → P.bytesOf e ≤ 134217000 → S t (.slice elems spare) → elems.length * P.bytesOf e ≤ 140737488351232 ∧ ∀ d ∈ elems, S e d
  struct : ∀ {t : TypeId} {fs : Array Field} {parts : List (DataW H)}, P.underlying t = some (.struct fs) → S t (.agg parts) → ∀ (i : Nat) (f : Field) (d : DataW H), fs[i]? = some f → parts[i]? = some d → S f.type d
  array : ∀ {t e : TypeId} {n : Nat} {parts : List (DataW H)}, P.underlying t = some (.array n e) → S t (.agg parts) → ∀ d ∈ parts, S e d
  str : ∀ {t : TypeId} {l : List UInt8}, S t (.lit (.string l)) → l.length ≤ 140737488351232

section
variable {H : Type} {P : Program}
theorem weightsAll_mem {e : TypeId} {d : DataW H} {n : Nat} : ∀ {l : List (DataW H)}, d ∈ l → n ∈ d.weights P e → n ∈ DataW.weightsAll P e l
  | x :: l, h, hn => by
    simp only [DataW.weightsAll, List.mem_append]
    rcases List.mem_cons.1 h with rfl | h
    · exact .inl hn
    · exact .inr (weightsAll_mem h hn)
/-- By bytes. -/
def Meas.weights (P : Program) (H : Type) : Meas P H where
  S t d := ∀ n ∈ d.weights P t, n ≤ 140737488351232
  slice := by
    intro t e elems spare ht _ h
    have h1 := h ((elems.length + spare.length) * P.bytesOf e) (by simp [DataW.weights, ht])
    refine ⟨by rw [Nat.add_mul] at h1; omega, fun d hd n hn => h n ?_⟩
    simp only [DataW.weights, ht, List.mem_cons, List.mem_append]
    exact .inr (.inl (weightsAll_mem hd hn))
  struct := by
    intro t fs parts ht h i f d hf hd n hn
    refine h n ?_
    simp only [DataW.weights, ht]
    exact DataW.weights_mem_each (j := i) (t := f.type) (d := d) (by simp [hf]) hd n hn
  array := by
    intro t e k parts ht h d hd n hn
    refine h n ?_
    simp only [DataW.weights, ht]
    exact weightsAll_mem hd hn
  str := fun {t l} h => h l.length (by simp [DataW.weights])

abbrev RdT (enc : TypeId × Value → H) (W : World) (M : Meas P H) (T : TypeId) {α : Type} (f : α → List Value) (good : α → Prop) : Prop :=
  ∀ (fuel : Nat) (cs : List Value) (y : DataW H × List MemPlace), DataW.trod enc P W 0 (fun _ => true) true fuel T cs = some y → M.S T y.1 → ∃ x, cs = f x ∧ good x

variable {enc : TypeId × Value → H} {W : World} {M : Meas P H}
theorem rd_int {T : TypeId} {k : IntKind} (ht : P.underlying T = some (.int k)) : RdT enc W M T (fun n : Int => [.int k n]) (fun n => (Lit.int k n).wf = true) := fun fuel cs y h _ => by
  obtain ⟨n, h1, _, h3⟩ := DataW.trod_int ht h
  exact ⟨n, h1, h3⟩
theorem rd_u8 {T : TypeId} (ht : P.underlying T = some (.int .u8)) : RdT enc W M T (fun x : UInt8 => [u8 x]) (fun _ => True) := fun fuel cs y h _ => by
  obtain ⟨n, h1, _, h3⟩ := DataW.trod_int ht h
  have h4 : 0 ≤ n ∧ n ≤ 255 := by simpa [Lit.wf, IntKind.min, IntKind.max, IntKind.signed, IntKind.bits] using h3
  exact ⟨Eng.byteOf n, by rw [h1]; congr 2; have := byteOf_toNat n; omega, trivial⟩
theorem rd_u64 {T : TypeId} (ht : P.underlying T = some (.int .u64)) : RdT enc W M T (fun x : UInt64 => [u64 x]) (fun _ => True) := fun fuel cs y h _ => by
  obtain ⟨n, h1, _, h3⟩ := DataW.trod_int ht h
  have h4 : 0 ≤ n ∧ n ≤ 18446744073709551615 := by simpa [Lit.wf, IntKind.min, IntKind.max, IntKind.signed, IntKind.bits] using h3
  exact ⟨u64Of n, by rw [h1]; congr 2; have := u64Of_toNat n; omega, trivial⟩
theorem rd_i64 {T : TypeId} (ht : P.underlying T = some (.int .i64)) : RdT enc W M T (fun x : Int => [i64 x]) (fun n => -9223372036854775808 ≤ n ∧ n ≤ 9223372036854775807) := fun fuel cs y h _ => by
  obtain ⟨n, h1, _, h3⟩ := DataW.trod_int ht h
  exact ⟨n, h1, by simpa [Lit.wf, IntKind.min, IntKind.max, IntKind.signed, IntKind.bits] using h3⟩
theorem rd_bool {T : TypeId} (ht : P.underlying T = some .bool) : RdT enc W M T (fun b : Bool => [.bool b]) (fun _ => True) := fun fuel cs y h _ => by
  obtain ⟨b, h1, _⟩ := DataW.trod_bool ht h
  exact ⟨b, h1, trivial⟩
theorem rd_str {T : TypeId} (ht : P.underlying T = some .string) : RdT enc W M T (fun s : ByteArray => [.string s]) (fun s => s.size ≤ 140737488351232) := fun fuel cs y h hS => by
  obtain ⟨s, h1, h2, _⟩ := DataW.trod_string ht h
  refine ⟨s, h1, ?_⟩
  rw [h2] at hS
  simpa using M.str hS

theorem rd_slice {t e s : TypeId} {α : Type} {f : α → List Value} {good : α → Prop} (ht : P.underlying t = some (.slice e)) (hE : RdT enc W M e f good) (hs : P.cellsOf e = s) (h0 : 0 < s) (hf : ∀ x, good x → (f x).length = s) (hby : P.bytesOf e ≤ 134217000) :
    RdT enc W M t (fun p : Option Addr × Nat × List α => [.slice p.1 p.2.2.length p.2.1]) (fun p => RdL W p.1 (p.2.2.flatMap f) ∧ (∀ x ∈ p.2.2, good x) ∧ p.2.2.length ≤ p.2.1 ∧ p.2.2.length * P.bytesOf e ≤ 140737488351232) := fun fuel cs y h hS => by
  rcases Deep.open_slice ht h with ⟨hcs, hx⟩ | ⟨a', len', cap', m, n, D, Pl, hcs, _, hl, hm, hmm, hx, hel⟩
  · exact ⟨(none, 0, []), hcs, fun i v hv => by simp at hv, by simp, Nat.le_refl _, by simp⟩
  · subst hx
    simp only [if_true] at hmm
    rw [hs] at hel
    obtain ⟨hb, hSe⟩ := M.slice ht hby hS
    have each : ∀ i, i < len' → ∃ x, W.cells? 0 (a'.add (i * s)) s = some (f x) ∧ good x := by
      intro i hi
      obtain ⟨cs', h1, h2⟩ := hel i (by omega)
      obtain ⟨x, rfl, hg⟩ := hE n cs' _ h2 (hSe _ (List.mem_map_of_mem (List.mem_range.2 hi)))
      exact ⟨x, h1, hg⟩
    have pick : ∀ m, m ≤ len' → ∃ xs : List α, xs.length = m ∧ (∀ i (hi : i < xs.length), W.cells? 0 (a'.add (i * s)) s = some (f xs[i])) ∧ ∀ x ∈ xs, good x := by
      intro m
      induction m with
      | zero => exact fun _ => ⟨[], rfl, by simp, by simp⟩
      | succ m ih =>
        intro hm
        obtain ⟨xs, h1, h2, h3⟩ := ih (by omega)
        obtain ⟨x, hx1, hx2⟩ := each m (by omega)
        refine ⟨xs ++ [x], by simp [h1], fun i hi => ?_, fun y hy => ?_⟩
        · by_cases him : i < xs.length
          · rw [List.getElem_append_left him]; exact h2 i him
          · have : i = m := by simp [h1] at hi; omega
            subst this
            rw [List.getElem_append_right (by omega)]
            simpa [h1] using hx1
        · rcases List.mem_append.1 hy with hy | hy
          · exact h3 y hy
          · simp at hy; subst hy; exact hx2
    obtain ⟨xs, hxl, hxs, hg⟩ := pick len' (Nat.le_refl _)
    refine ⟨(some a', cap', xs), by rw [hcs]; show _ = [Value.slice (some a') xs.length cap']; rw [hxl], ?_, hg, by simp only []; omega, by simpa [hxl] using hb⟩
    have hfl : (xs.flatMap f).length = xs.length * s := by
      clear hxs hxl
      induction xs with
      | nil => simp
      | cons x xs ih => rw [List.flatMap_cons, List.length_append, hf x (hg x List.mem_cons_self), ih (fun y hy => hg y (List.mem_cons_of_mem _ hy)), List.length_cons, Nat.add_mul]; omega
    have hget : ∀ (xs : List α) (k j : Nat) (hk : k < xs.length), (∀ x ∈ xs, good x) → j < s → (xs.flatMap f)[k * s + j]? = (f xs[k])[j]? := by
      intro xs
      induction xs with
      | nil => intro k j hk; simp at hk
      | cons x xs ih =>
        intro k j hk hg hj
        have hx := hf x (hg x List.mem_cons_self)
        cases k with
        | zero => simp [List.flatMap_cons, List.getElem?_append, hx, hj]
        | succ k =>
          have := ih k j (by simpa using hk) (fun y hy => hg y (List.mem_cons_of_mem _ hy)) hj
          simp only [List.flatMap_cons, List.getElem?_append, hx]
          rw [if_neg (by rw [Nat.add_mul]; omega), show (k + 1) * s + j - s = k * s + j by rw [Nat.add_mul]; omega, this]
          rfl
    have hcell : ∀ i j v (hi : i < xs.length), (f xs[i])[j]? = some v → W.cell? (a'.add (i * s + j)) = some v := by
      intro i j v hi hv
      obtain ⟨_, hlen, hc⟩ := World.cells?_some (hxs i hi)
      have hj : j < s := by have := (List.getElem?_eq_some_iff.1 hv).1; rw [hf _ (hg _ (List.getElem_mem hi))] at this; exact this
      have := hc j hj
      rw [← Deep.add_add, this]; exact hv
    intro i v hv
    have hi : i < xs.length * s := by have := (List.getElem?_eq_some_iff.1 hv).1; rw [hfl] at this; exact this
    have hk : i / s < xs.length := Nat.div_lt_of_lt_mul (by rw [Nat.mul_comm]; exact hi)
    have hsplit : i = i / s * s + i % s := by rw [Nat.mul_comm]; exact (Nat.div_add_mod i s).symm
    have hv' : (f xs[i / s])[i % s]? = some v := by
      rw [← hget xs (i / s) (i % s) hk hg (Nat.mod_lt _ h0), ← hsplit]; exact hv
    have hc := hcell (i / s) (i % s) v hk hv'
    rw [← hsplit] at hc
    have hp : a'.spot = none := by
      have hx0 : 0 < xs.length := Nat.lt_of_le_of_lt (Nat.zero_le _) hk
      obtain ⟨u, hu⟩ : ∃ u, (f (xs[0]'hx0))[0]? = some u := ⟨_, List.getElem?_eq_getElem (by rw [hf _ (hg _ (List.getElem_mem hx0))]; exact h0)⟩
      have := hcell 0 0 u hx0 hu
      have hsp := World.cell?_spot this
      simpa [Addr.add] using hsp
    obtain ⟨b, o, sp⟩ := a'
    simp at hp
    subst hp
    exact ⟨b, o, rfl, by rw [add_ad] at hc; exact hc⟩
/-- A struct's fields, one by one. -/
theorem rd_fields {t : TypeId} {fs : Array Field} {fuel : Nat} {cs : List Value} {y : DataW H × List MemPlace} (ht : P.underlying t = some (.struct fs)) (h : DataW.trod enc P W 0 (fun _ => true) true fuel t cs = some y) (hS : M.S t y.1) :
    cs.length = P.cellsOf t ∧ ∀ (i : Nat) (f : Field), fs[i]? = some f → ∃ n z, DataW.trod enc P W 0 (fun _ => true) true n f.type ((cs.drop f.offset).take (P.cellsOf f.type)) = some z ∧ M.S f.type z.1 := by
  obtain ⟨xs, n, _, rfl, hl, hlen, hf⟩ := DataW.trod_struct ht h
  refine ⟨hl, fun i f hi => ?_⟩
  have h1 := hf i f hi
  have hix : i < xs.length := by have := (Array.getElem?_eq_some_iff.1 hi).1; omega
  rw [List.getElem?_eq_getElem hix] at h1
  exact ⟨n, xs[i], h1, M.struct ht hS i f _ hi (by rw [List.getElem?_map, List.getElem?_eq_getElem hix]; rfl)⟩
/-- An array's elements. -/
theorem rd_array {t e s n : Nat} {α : Type} {f : α → List Value} {good : α → Prop} (ht : P.underlying t = some (.array n e)) (hE : RdT enc W M e f good) (hs : P.cellsOf e = s) (htot : P.cellsOf t = n * s) :
    RdT enc W M t (fun xs : List α => xs.flatMap f) (fun xs => xs.length = n ∧ ∀ x ∈ xs, good x) := fun fuel cs y h hS => by
  obtain ⟨xs, k, _, rfl, hl, hlen, hf⟩ := DataW.trod_array ht h
  rw [hs] at hf
  have key : ∀ m, m ≤ n → ∃ zs : List α, zs.length = m ∧ (∀ z ∈ zs, good z) ∧ cs.take (m * s) = zs.flatMap f := by
    intro m
    induction m with
    | zero => exact fun _ => ⟨[], rfl, by simp, by simp⟩
    | succ m ih =>
      intro hm
      obtain ⟨zs, h1, h2, h3⟩ := ih (by omega)
      have hmx : m < xs.length := by omega
      have h4 := hf m (by omega)
      rw [List.getElem?_eq_getElem hmx] at h4
      obtain ⟨z, hz, hg⟩ := hE _ _ _ h4 (M.array ht hS _ (List.mem_map_of_mem (List.getElem_mem hmx)))
      refine ⟨zs ++ [z], by simp [h1], fun x hx => ?_, ?_⟩
      · rcases List.mem_append.1 hx with hx | hx
        · exact h2 x hx
        · simp at hx; subst hx; exact hg
      · rw [Nat.add_mul, Nat.one_mul, List.take_add, h3, List.flatMap_append, hz]; simp
  obtain ⟨zs, h1, h2, h3⟩ := key n (Nat.le_refl _)
  refine ⟨zs, ?_, h1, h2⟩
  show cs = zs.flatMap f
  rw [← h3, List.take_of_length_le (by rw [hl, htot]; exact Nat.le_refl _)]
end
end Go.Eng
