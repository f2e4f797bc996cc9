/- The sort's worlds, seen as items: a row of one's own is sorted in place. -/
import Derived.Test.YtjalojbihpdghaaEngR
import Derived.Shelf.SlSortCmp.WholeK
namespace Go.Proofs.Ytjalojbihpdghaa
open Go Go.Eng Go.Sort
set_option linter.unusedVariables false
variable {α : Type} [Inhabited α]

theorem flatK_list (enc : α → List Value) (k : Nat) (hk : ∀ x, (enc x).length = k) (d : Array α) : (flatK enc k d).toList = d.toList.flatMap enc := by
  have hlen : ∀ l : List α, (l.flatMap enc).length = l.length * k := fun l => by
    induction l with
    | nil => simp
    | cons x l ih => simp [hk, ih, Nat.add_mul, Nat.add_comm]
  have hget : ∀ (l : List α) (t : Nat), t < l.length * k → (l.flatMap enc)[t]! = (enc l[t / k]!)[t % k]! := fun l => by
    induction l with
    | nil => intro t h; simp at h
    | cons x l ih =>
      intro t h
      have k0 : 0 < k := by rcases Nat.eq_zero_or_pos k with h0 | h0; · subst h0; simp at h
                            · exact h0
      rw [List.flatMap_cons]
      by_cases ht : t < k
      · rw [Nat.div_eq_of_lt ht, Nat.mod_eq_of_lt ht]
        simp [List.getElem!_eq_getElem?_getD, List.getElem?_append_left (show t < (enc x).length by rw [hk]; exact ht)]
      · have e1 : t / k = (t - k) / k + 1 := by
          rw [← Nat.sub_add_cancel (Nat.le_of_not_lt ht), Nat.add_div_right _ k0]; simp
        have e2 : t % k = (t - k) % k := by rw [Nat.mod_eq_sub_mod (Nat.le_of_not_lt ht)]
        have := ih (t - k) (by simp [Nat.add_mul] at h; omega)
        rw [e1, e2]
        simp only [List.getElem!_eq_getElem?_getD, List.getElem?_cons_succ] at this ⊢
        rw [List.getElem?_append_right (by rw [hk]; omega), hk, this]
  refine List.ext_getElem (by rw [hlen]; simp) fun t h1 h2 => ?_
  have hs : t < d.size * k := by simpa using h1
  have a := get_flatK enc k d t hs
  have b := hget d.toList t (by simpa using hs)
  rw [getElem!_pos _ t (by simpa using hs)] at a
  rw [getElem!_pos _ t h2] at b
  have k0 : 0 < k := by rcases Nat.eq_zero_or_pos k with h0 | h0; · subst h0; simp at hs
                        · exact h0
  have hdk : t / k < d.size := (Nat.div_lt_iff_lt_mul k0).2 hs
  rw [Array.getElem_toList, a, b, getElem!_pos d _ hdk, getElem!_pos d.toList _ (by simpa using hdk), Array.getElem_toList]

theorem putCells_row {F F' junk : Array Value} (h : F'.size = F.size) : putCells id 0 F' (F ++ junk) = F' ++ junk := by
  apply Array.ext
  · simp [putCells, h]
  · intro i h1 h2
    simp only [putCells, Array.getElem_mapIdx]
    by_cases hi : i < F'.size
    · rw [if_pos ⟨Nat.zero_le _, by omega⟩, Array.getElem_append_left hi]
      simp [hi]
    · rw [if_neg (by omega), Array.getElem_append_right (by omega), Array.getElem_append_right (by omega)]
      simp [h]

theorem heap_putRow_same {w : World} {b : Nat} {F F' junk : Array Value} {E : TypeId} (h : w.heap[b]? = some (.cells (F ++ junk) E (0, 0))) (hs : F'.size = F.size) : (putRow id w b 0 F').heap[b]? = some (.cells (F' ++ junk) E (0, 0)) := by
  unfold putRow mapBlock
  simp only [Array.getElem?_modify, if_true, h, Option.map_some, onCells, putCells_row hs]
theorem heap_putRow_other {w : World} {b c : Nat} {F' : Array Value} (h : c ≠ b) : (putRow id w b 0 F').heap[c]? = w.heap[c]? := by
  unfold putRow mapBlock
  simp only [Array.getElem?_modify, if_neg (Ne.symm h)]

/-- A row of one's own, held. -/
theorem Own.holdsK {w : World} {b m cap E k : Nat} {enc : α → List Value} {d : Array α} (hk : ∀ x, (enc x).length = k) (hm : d.size = m) (h : Own w (some ⟨b, 0, none⟩) m cap E k (d.toList.flatMap enc)) : HoldsK enc k w b 0 d ∧ b < w.heap.size := by
  obtain ⟨h1, _, _, h4⟩ := h
  rcases h4 with ⟨h4, _⟩ | ⟨g, junk, hg, hh, hl⟩
  · cases h4
  cases hg
  refine ⟨fun j hj => ?_, (Array.getElem?_eq_some_iff.1 hh).1⟩
  rw [← flatK_list enc k hk] at hh
  have hj' : j < (flatK enc k d).toList.length := by simpa using hj
  rw [Nat.zero_add]
  refine ⟨?_, ?_⟩
  · rw [cell_of_row w b j _ E (0, 0) hh]
    rw [List.getElem?_toArray, List.getElem?_append_left hj', List.getElem?_eq_getElem hj', Array.getElem_toList, getElem!_pos _ j hj]; rfl
  · simp [World.frozen?, hh]

theorem sort_mem {w0 w : World} {H : List It} {b m cap E k n : Nat} {os : Array Obj} {enc : α → List Value} {d d' : Array α} (hk : ∀ x, (enc x).length = k) (hs : d'.size = d.size) (hm : Mem w0 w (sl (some ⟨b, 0, none⟩) m cap E k (d.toList.flatMap enc) :: H)) :
    Mem w0 (sortWorldK enc k w b 0 n d' os) (sl (some ⟨b, 0, none⟩) m cap E k (d'.toList.flatMap enc) :: H) := by
  have hown := hm.holds _ List.mem_cons_self
  obtain ⟨h1, h2, h3, h4⟩ : Own w (some ⟨b, 0, none⟩) m cap E k (d.toList.flatMap enc) := hown
  rcases h4 with ⟨h4, _⟩ | ⟨g, junk, hg, hh, hl⟩
  · cases h4
  cases hg
  have hb := (Array.getElem?_eq_some_iff.1 hh).1
  have hsz : w.heap.size ≤ (sortWorldK enc k w b 0 n d' os).heap.size := size_sortWorldK_c enc k w b 0 n d' os
  have same : (sortWorldK enc k w b 0 n d' os).heap[b]? = some (.cells (d'.toList.flatMap enc ++ junk).toArray E (0, 0)) := by
    have e : (sortWorldK enc k w b 0 n d' os).heap[b]? = (putRow id (Sort.ahead w n) b 0 (flatK enc k d')).heap[b]? := by
      show ((putRow id (Sort.ahead w n) b 0 (flatK enc k d')).heap ++ os)[b]? = _
      rw [Array.getElem?_append_left (by rw [size_putRow]; exact hb)]
    rw [e, ← flatK_list enc k hk d']
    have := heap_putRow_same (w := Sort.ahead w n) (F := flatK enc k d) (F' := flatK enc k d') (junk := junk.toArray) (E := E) (by
      show w.heap[b]? = _
      rw [hh, ← flatK_list enc k hk d]; simp) (by simp [hs])
    rw [this]; simp
  have other : ∀ c, c < w.heap.size → c ≠ b → (sortWorldK enc k w b 0 n d' os).heap[c]? = w.heap[c]? := fun c hc hne => by
    show ((putRow id (Sort.ahead w n) b 0 (flatK enc k d')).heap ++ os)[c]? = _
    rw [Array.getElem?_append_left (by rw [size_putRow]; exact hc), heap_putRow_other hne]; rfl
  have flen : ∀ l : List α, (l.flatMap enc).length = l.length * k := fun l => by
    induction l with
    | nil => simp
    | cons x l ih => simp [hk, ih, Nat.add_mul, Nat.add_comm]
  have hlen : (d'.toList.flatMap enc).length = (d.toList.flatMap enc).length := by rw [flen, flen]; simp [hs]
  refine ⟨hm.os, hm.tape, hm.output, Nat.le_trans hm.size hsz, ?_, ?_, ?_, ?_, ?_⟩
  · intro c hc hno
    have hcb : c ≠ b := fun h => hno _ List.mem_cons_self ⟨_, rfl, h.symm⟩
    rw [other c (Nat.lt_of_lt_of_le hc hm.size) hcb]
    exact hm.other c hc fun it hi hf => by
      rcases List.mem_cons.1 hi with rfl | hi
      · obtain ⟨q, hq, e⟩ := hf; cases hq; exact hcb e.symm
      · exact hno it (List.mem_cons_of_mem _ hi) hf
  · intro it hi
    rcases List.mem_cons.1 hi with rfl | hi2
    · exact ⟨by rw [hlen]; exact h1, h2, h3, .inr ⟨b, junk, rfl, same, by rw [List.length_append, hlen, ← List.length_append]; exact hl⟩⟩
    · refine it.stable w _ (fun c hc => ?_) (hm.holds it (List.mem_cons_of_mem _ hi2))
      exact other c (hm.inb it (List.mem_cons_of_mem _ hi2) c hc) fun h => by
        subst h
        exact (List.pairwise_cons.1 hm.disj).1 it hi2 c ⟨_, rfl, rfl⟩ hc
  · intro it hi c hc
    rcases List.mem_cons.1 hi with rfl | hi
    · obtain ⟨q, hq, e⟩ := hc; cases hq; exact Nat.lt_of_lt_of_le (e ▸ hb) hsz
    · exact Nat.lt_of_lt_of_le (hm.inb it (List.mem_cons_of_mem _ hi) c hc) hsz
  · intro it hi hn c hc
    rcases List.mem_cons.1 hi with rfl | hi
    · exact hm.fresh _ List.mem_cons_self rfl c hc
    · exact hm.fresh it (List.mem_cons_of_mem _ hi) hn c hc
  · refine List.Pairwise.cons (fun it hi c hc => ?_) (List.pairwise_cons.1 hm.disj).2
    exact (List.pairwise_cons.1 hm.disj).1 it hi c hc

end Go.Proofs.Ytjalojbihpdghaa
