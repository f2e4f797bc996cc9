/- From the reading of the arguments to what the walks are told of them. -/
import Derived.Test.YtjalojbihpdghaaEngH
import Derived.WalkKit
import Derived.ProofKit
import Derived.OpenShut
import Derived.ShutString
import Derived.ChangeOld
import Derived.Below
import Derived.SizedLaws
import Derived.Deep.Slices
namespace Go.Eng
open Go Go.ChangeShapes Go.WideShapes

section
variable {H : Type} {enc : TypeId × Value → H} {P : Program} {W : World}
abbrev TrodB (enc : TypeId × Value → H) (P : Program) (W : World) (t : TypeId) (v : Value) (d : DataW H) (ps : List MemPlace) : Prop := DataW.Trod enc P W 0 (fun _ => true) true t v d ps

/-- What an element's type reads as. -/
def Reads (P : Program) (e : TypeId) {α : Type} (f : α → List Value) (good : α → Prop) : Prop :=
  ∀ (H : Type) (enc : TypeId × Value → H) (W : World) (fuel : Nat) (cs : List Value) (y : DataW H × List MemPlace), DataW.trod enc P W 0 (fun _ => true) true fuel e cs = some y → ∃ x, cs = f x ∧ good x

theorem reads_int {e : TypeId} {k : IntKind} (he : P.underlying e = some (.int k)) : Reads P e (fun n : Int => [Value.int k n]) (fun n => (Lit.int k n).wf = true) := fun H enc W fuel cs y h => by
  obtain ⟨n, h1, _, h3⟩ := DataW.trod_int he h
  exact ⟨n, h1, h3⟩

theorem open_rows {t e s : TypeId} {α : Type} {f : α → List Value} {good : α → Prop} {a : Option Addr} {len cap : Nat} {d : DataW H} {ps : List MemPlace} (ht : P.underlying t = some (.slice e)) (hE : Reads P e f good) (hs : P.cellsOf e = s) (h0 : 0 < s) (hf : ∀ x, (f x).length = s)
    (h : TrodB enc P W t (.slice a len cap) d ps) :
    ∃ xs : List α, xs.length = len ∧ RdL W a (xs.flatMap f) ∧ (∀ x ∈ xs, good x) ∧ (a = none → len = 0) ∧ ((d = .nil ∧ len = 0) ∨ ∃ elems spare, d = .slice elems spare ∧ elems.length = len) := by
  obtain ⟨fuel, hf0⟩ := h
  rcases Deep.open_slice ht hf0 with ⟨hcs, hx⟩ | ⟨a', len', cap', m, n, D, Pl, hcs, _, hl, hm, hmm, hx, hel⟩
  · simp [Value.cells] at hcs
    obtain ⟨rfl, rfl, rfl⟩ := hcs
    simp only [Prod.mk.injEq] at hx
    exact ⟨[], rfl, fun i v hv => by simp at hv, by simp, fun _ => rfl, .inl ⟨hx.1, rfl⟩⟩
  · simp [Value.cells] at hcs
    obtain ⟨rfl, rfl, rfl⟩ := hcs
    simp only [Prod.mk.injEq] at hx
    simp only [if_true] at hmm
    rw [hs] at hel
    have each : ∀ i, i < len → ∃ x, W.cells? 0 (a'.add (i * s)) s = some (f x) ∧ good x := by
      intro i hi
      obtain ⟨cs', h1, h2⟩ := hel i (by omega)
      obtain ⟨x, rfl, hg⟩ := hE H enc W n cs' _ h2
      exact ⟨x, h1, hg⟩
    have pick : ∀ m, m ≤ len → ∃ xs : List α, xs.length = m ∧ (∀ i (hi : i < xs.length), W.cells? 0 (a'.add (i * s)) s = some (f xs[i])) ∧ ∀ x ∈ xs, good x := by
      intro m
      induction m with
      | zero => exact fun _ => ⟨[], rfl, by simp, by simp⟩
      | succ m ih =>
        intro hm
        obtain ⟨xs, h1, h2, h3⟩ := ih (by omega)
        obtain ⟨x, hx1, hx2⟩ := each m (by omega)
        refine ⟨xs ++ [x], by simp [h1], fun i hi => ?_, fun y hy => ?_⟩
        · by_cases him : i < xs.length
          · rw [List.getElem_append_left him]; exact h2 i him
          · have : i = m := by simp [h1] at hi; omega
            subst this
            rw [List.getElem_append_right (by omega)]
            simpa [h1] using hx1
        · rcases List.mem_append.1 hy with hy | hy
          · exact h3 y hy
          · simp at hy; subst hy; exact hx2
    obtain ⟨xs, hxl, hxs, hg⟩ := pick len (Nat.le_refl _)
    refine ⟨xs, hxl, ?_, hg, (fun h => by cases h), .inr ⟨_, _, hx.1, by simp⟩⟩
    have hcell : ∀ i j v (hi : i < xs.length), (f xs[i])[j]? = some v → W.cell? (a'.add (i * s + j)) = some v := by
      intro i j v hi hv
      obtain ⟨_, hlen, hc⟩ := World.cells?_some (hxs i hi)
      have hj : j < s := by have := (List.getElem?_eq_some_iff.1 hv).1; rw [hf] at this; exact this
      have := hc j hj
      rw [← Deep.add_add, this]; exact hv
    intro i v hv
    have hi : i < xs.length * s := by have := (List.getElem?_eq_some_iff.1 hv).1; rw [flat_len f s hf] at this; exact this
    have hk : i / s < xs.length := Nat.div_lt_of_lt_mul (by rw [Nat.mul_comm]; exact hi)
    have hsplit : i = i / s * s + i % s := by rw [Nat.mul_comm]; exact (Nat.div_add_mod i s).symm
    have hv' : (f xs[i / s])[i % s]? = some v := by
      rw [← flat_get f s hf xs (i / s) (i % s) hk (Nat.mod_lt _ h0), ← hsplit]; exact hv
    have hc := hcell (i / s) (i % s) v hk hv'
    rw [← hsplit] at hc
    have hp : a'.spot = none := by
      have hx0 : 0 < xs.length := Nat.lt_of_le_of_lt (Nat.zero_le _) hk
      obtain ⟨u, hu⟩ : ∃ u, (f (xs[0]'hx0))[0]? = some u := by
        exact ⟨_, List.getElem?_eq_getElem (by rw [hf]; exact h0)⟩
      have := hcell 0 0 u hx0 hu
      have hsp := World.cell?_spot this
      simpa [Addr.add] using hsp
    obtain ⟨b, o, sp⟩ := a'
    simp at hp
    subst hp
    exact ⟨b, o, rfl, by rw [add_ad] at hc; exact hc⟩

/-- As 'open_rows', of cells, and with what each element's reading is. -/
theorem open_rowsC {t e s : TypeId} {α : Type} {f : α → List Value} {good : World → α → DataW H → Prop} {fuel : Nat} {cs : List Value} {d : DataW H} {ps : List MemPlace} (ht : P.underlying t = some (.slice e))
    (hE : ∀ (fuel : Nat) (cs : List Value) (y : DataW H × List MemPlace), DataW.trod enc P W 0 (fun _ => true) true fuel e cs = some y → ∃ x, cs = f x ∧ good W x y.1) (hs : P.cellsOf e = s) (h0 : 0 < s) (hf : ∀ x, (f x).length = s)
    (hf0 : DataW.trod enc P W 0 (fun _ => true) true fuel t cs = some (d, ps)) :
    ∃ (a : Option Addr) (len cap : Nat), cs = [.slice a len cap] ∧ ∃ xs : List α, xs.length = len ∧ RdL W a (xs.flatMap f) ∧ (a = none → len = 0) ∧ len ≤ cap ∧ ((d = .nil ∧ len = 0) ∨ ∃ elems spare, d = .slice elems spare ∧ elems.length = len ∧ ∀ i (h : i < xs.length), ∃ y ∈ elems, good W xs[i] y) := by
  rcases Deep.open_slice ht hf0 with ⟨hcs, hx⟩ | ⟨a', len', cap', m, n, D, Pl, hcs, _, hl, hm, hmm, hx, hel⟩
  · simp only [Prod.mk.injEq] at hx
    exact ⟨none, 0, 0, hcs, [], rfl, fun i v hv => by simp at hv, fun _ => rfl, Nat.le_refl _, .inl ⟨hx.1, rfl⟩⟩
  · simp only [Prod.mk.injEq] at hx
    simp only [if_true] at hmm
    rw [hs] at hel
    have each : ∀ i, i < len' → ∃ x, W.cells? 0 (a'.add (i * s)) s = some (f x) ∧ good W x (D i) := by
      intro i hi
      obtain ⟨cs', h1, h2⟩ := hel i (by omega)
      obtain ⟨x, rfl, hg⟩ := hE n cs' _ h2
      exact ⟨x, h1, hg⟩
    have pick : ∀ m, m ≤ len' → ∃ xs : List α, xs.length = m ∧ ∀ i (hi : i < xs.length), W.cells? 0 (a'.add (i * s)) s = some (f xs[i]) ∧ good W xs[i] (D i) := by
      intro m
      induction m with
      | zero => exact fun _ => ⟨[], rfl, by simp⟩
      | succ m ih =>
        intro hm
        obtain ⟨xs, h1, h2⟩ := ih (by omega)
        obtain ⟨x, hx1, hx2⟩ := each m (by omega)
        refine ⟨xs ++ [x], by simp [h1], fun i hi => ?_⟩
        by_cases him : i < xs.length
        · rw [List.getElem_append_left him]; exact h2 i him
        · have : i = m := by simp [h1] at hi; omega
          subst this
          rw [List.getElem_append_right (by omega)]
          simpa [h1] using ⟨hx1, hx2⟩
    obtain ⟨xs, hxl, hxs⟩ := pick len' (Nat.le_refl _)
    refine ⟨some a', len', cap', hcs, xs, hxl, ?_, (fun h => by cases h), hl, .inr ⟨_, _, hx.1, by simp, fun i h => ⟨D i, by simp; exact ⟨i, by omega, rfl⟩, (hxs i h).2⟩⟩⟩
    have hcell : ∀ i j v (hi : i < xs.length), (f xs[i])[j]? = some v → W.cell? (a'.add (i * s + j)) = some v := by
      intro i j v hi hv
      obtain ⟨_, hlen, hc⟩ := World.cells?_some (hxs i hi).1
      have hj : j < s := by have := (List.getElem?_eq_some_iff.1 hv).1; rw [hf] at this; exact this
      have := hc j hj
      rw [← Deep.add_add, this]; exact hv
    intro i v hv
    have hi : i < xs.length * s := by have := (List.getElem?_eq_some_iff.1 hv).1; rw [flat_len f s hf] at this; exact this
    have hk : i / s < xs.length := Nat.div_lt_of_lt_mul (by rw [Nat.mul_comm]; exact hi)
    have hsplit : i = i / s * s + i % s := by rw [Nat.mul_comm]; exact (Nat.div_add_mod i s).symm
    have hv' : (f xs[i / s])[i % s]? = some v := by
      rw [← flat_get f s hf xs (i / s) (i % s) hk (Nat.mod_lt _ h0), ← hsplit]; exact hv
    have hc := hcell (i / s) (i % s) v hk hv'
    rw [← hsplit] at hc
    have hp : a'.spot = none := by
      have hx0 : 0 < xs.length := Nat.lt_of_le_of_lt (Nat.zero_le _) hk
      obtain ⟨u, hu⟩ : ∃ u, (f (xs[0]'hx0))[0]? = some u := by
        exact ⟨_, List.getElem?_eq_getElem (by rw [hf]; exact h0)⟩
      have := hcell 0 0 u hx0 hu
      have hsp := World.cell?_spot this
      simpa [Addr.add] using hsp
    obtain ⟨b, o, sp⟩ := a'
    simp at hp
    subst hp
    exact ⟨b, o, rfl, by rw [add_ad] at hc; exact hc⟩

theorem flat1 {α : Type} (g : α → Value) (xs : List α) : xs.flatMap (fun x => [g x]) = xs.map g := by
  induction xs with
  | nil => rfl
  | cons x xs ih => rw [List.flatMap_cons, ih]; rfl

theorem Ret.law {f : FuncId} {vs : List Value} {w : World} (h : Ret P f vs w (fun v _ => v = .bool true)) : Calls P f vs.toArray w fun e w' => e = .returned (.bool true) ∧ RowKit.Below w.heap.size w w' :=
  Calls.mono h fun _ _ ⟨_, _, h1, h2, h3, h4⟩ => ⟨by rw [h1, h4], h2.below h3⟩
end
end Go.Eng
