/- Parts that are put together: the plain law. -/
import Derived.Test.YtjalojbihpdghaaLaw11
import Derived.Test.YtjalojbihpdghaaSort0
namespace Go.Proofs.Ytjalojbihpdghaa
open Go Go.Eng Go.Sort
set_option linter.unusedVariables false

instance : Inhabited Pt := ⟨⟨0, 0, 0, 0, []⟩⟩
/-- The error of one part behind those that are kept. -/
def takeE (id : UInt64) (kept : List Pt) (p : Pt) : Int :=
  if (p.kind.toNat : Int) ≠ 1 ∨ checkR p ≠ 0 then 3 else if (p.id.toNat : Int) ≠ (id.toNat : Int) then 4 else if kept.any (fun q => decide (q.count ≠ p.count ∨ q.index = p.index)) then 3 else 0
def takeS (id : UInt64) (s : List Pt × Int) (p : Pt) : List Pt × Int := (if takeE id s.1 p = 0 then s.1 ++ [p] else s.1, if s.2 = 0 then takeE id s.1 p else s.2)
def takeT (id : UInt64) (kept ps : List Pt) : List Pt × Int := ps.foldl (takeS id) (kept, 0)
def wholeAt (kept : List Pt) (i : Nat) : List UInt8 := (kept.filter fun q => decide (q.index = (i : Int))).flatMap (·.data)
def whole (kept : List Pt) : List UInt8 := (List.range kept.length).flatMap (wholeAt kept)
def mergeR (ps : List Pt) : List UInt8 × Int :=
  match ps with
  | [] => ([], 2)
  | p :: l => if ((p :: l).length : Int) ≠ p.count then ([], 2) else if (takeT p.id [] (p :: l)).2 ≠ 0 then ([], 3) else (whole (takeT p.id [] (p :: l)).1, 0)
def KInv (ps : List Pt) : Prop := (∀ p ∈ ps, checkR p = 0) ∧ ps.Pairwise (fun a b => a.count = b.count ∧ a.index ≠ b.index)

theorem takeT_succ (id : UInt64) (kept ps : List Pt) (k : Nat) (hk : k < ps.length) : takeT id kept (ps.take (k + 1)) = takeS id (takeT id kept (ps.take k)) ps[k] := by
  rw [takeT, List.take_succ_eq_append_getElem hk, List.foldl_append]; rfl
theorem KInv.step {id : UInt64} {kept : List Pt} (h : KInv kept) (s : Int) (p : Pt) : KInv (takeS id (kept, s) p).1 := by
  unfold takeS
  simp only []
  split
  · rename_i he
    unfold takeE at he
    split at he
    · simp at he
    split at he
    · simp at he
    split at he
    · simp at he
    rename_i h1 h2 h3
    refine ⟨fun q hq => ?_, List.pairwise_append.2 ⟨h.2, by simp, fun a ha b hb => ?_⟩⟩
    · rcases List.mem_append.1 hq with hq | hq
      · exact h.1 q hq
      · rw [List.mem_singleton.1 hq]; exact Classical.byContradiction fun hc => h1 (.inr hc)
    · rw [List.mem_singleton.1 hb]
      simp only [List.any_eq_true, decide_eq_true_eq, not_exists, not_and] at h3
      have := h3 a ha
      exact ⟨Classical.byContradiction fun hc => this (.inl hc), fun hc => this (.inr hc)⟩
  · exact h
theorem KInv.fold {id : UInt64} : ∀ (ps : List Pt) (s : List Pt × Int), KInv s.1 → KInv (ps.foldl (takeS id) s).1
  | [], _, h => h
  | p :: ps, s, h => by rw [List.foldl_cons]; exact KInv.fold ps _ (KInv.step h s.2 p)
theorem KInv.take (id : UInt64) (ps : List Pt) : KInv (takeT id [] ps).1 := KInv.fold ps _ ⟨by simp, by simp⟩
theorem takeS_err {id : UInt64} : ∀ (ps : List Pt) (s : List Pt × Int), s.2 ≠ 0 → (ps.foldl (takeS id) s).2 ≠ 0
  | [], _, h => h
  | p :: ps, s, h => by rw [List.foldl_cons]; exact takeS_err ps _ (by simp only [takeS, if_neg h]; exact h)
theorem takeT_all {id : UInt64} : ∀ (ps kept : List Pt), (ps.foldl (takeS id) (kept, 0)).2 = 0 → (ps.foldl (takeS id) (kept, 0)).1 = kept ++ ps
  | [], kept, h => by simp
  | p :: ps, kept, h => by
    rw [List.foldl_cons] at h ⊢
    by_cases he : takeE id kept p = 0
    · have e : takeS id (kept, 0) p = (kept ++ [p], 0) := by simp [takeS, he]
      rw [e] at h ⊢
      rw [takeT_all ps _ h]; simp
    · exact absurd h (takeS_err ps _ (by simp [takeS, he]))
theorem takeT_len {id : UInt64} : ∀ (ps : List Pt) (s : List Pt × Int), (ps.foldl (takeS id) s).1.length ≤ s.1.length + ps.length
  | [], s => by simp
  | p :: ps, s => by
    rw [List.foldl_cons]
    have := takeT_len (id := id) ps (takeS id s p)
    have h1 : (takeS id s p).1.length ≤ s.1.length + 1 := by unfold takeS; simp only []; split <;> simp
    simp only [List.length_cons]; omega

theorem sorted_idx : ∀ (l : List Pt) (a : Int), l.Pairwise (fun x y => x.index < y.index) → (∀ p ∈ l, a ≤ p.index ∧ p.index < a + l.length) → ∀ i (hi : i < l.length), l[i].index = a + i
  | [], _, _, _ => fun i hi => by simp at hi
  | x :: l, a, hs, h => by
    obtain ⟨h1, h2⟩ := List.pairwise_cons.1 hs
    have hx := h x List.mem_cons_self
    have ih := sorted_idx l (a + 1) h2 (fun p hp => by
      have := h p (List.mem_cons_of_mem _ hp); have := h1 p hp
      simp only [List.length_cons] at *; omega)
    have hx0 : x.index = a := by
      cases l with
      | nil => simp at hx; omega
      | cons y l =>
        have := ih 0 (by simp)
        have := h1 y List.mem_cons_self
        simp at *; omega
    intro i hi
    cases i with
    | zero => simp [hx0]
    | succ i => simp only [List.getElem_cons_succ, ih i (by simpa using hi)]; omega
theorem filter_idx : ∀ (l : List Pt) (a j : Nat), (∀ i (hi : i < l.length), l[i].index = ((a + i : Nat) : Int)) → l.filter (fun q => decide (q.index = ((a + j : Nat) : Int))) = (l[j]?).toList
  | [], _, _, _ => by simp
  | x :: l, a, j, h => by
    have hx : x.index = a := h 0 (by simp)
    have ht : ∀ i (hi : i < l.length), l[i].index = ((a + 1 + i : Nat) : Int) := fun i hi => by
      have := h (i + 1) (by simpa using hi); simp only [List.getElem_cons_succ] at this; rw [this]; omega
    cases j with
    | zero =>
      rw [List.filter_cons_of_pos (by simp [hx])]
      have : l.filter (fun q => decide (q.index = ((a + 0 : Nat) : Int))) = [] := List.filter_eq_nil_iff.2 fun q hq => by
        obtain ⟨i, hi, rfl⟩ := List.getElem_of_mem hq
        rw [ht i hi]; simp; omega
      rw [this]; simp
    | succ j =>
      rw [List.filter_cons_of_neg (by simp [hx]; omega)]
      have := filter_idx l (a + 1) j ht
      rw [show a + (j + 1) = a + 1 + j by omega, this]; simp
theorem range_getp {β : Type} (f : Pt → List β) (l : List Pt) : (List.range l.length).flatMap (fun i => (l[i]?).toList.flatMap f) = l.flatMap f := by
  have : ∀ k, k ≤ l.length → (List.range k).flatMap (fun i => (l[i]?).toList.flatMap f) = (l.take k).flatMap f := fun k => by
    induction k with
    | zero => intro _; simp
    | succ k ih =>
      intro hk
      rw [List.range_succ, List.flatMap_append, ih (by omega), List.take_succ_eq_append_getElem (by omega), List.flatMap_append]
      simp [List.getElem?_eq_getElem (show k < l.length by omega)]
  have h := this l.length (Nat.le_refl _)
  rwa [List.take_length] at h
theorem whole_sorted {ps qs : List Pt} (hp : qs.Perm ps) (h : ∀ i (hi : i < qs.length), qs[i].index = (i : Int)) : whole ps = qs.flatMap (·.data) := by
  have e : ∀ i, wholeAt ps i = (qs[i]?).toList.flatMap (·.data) := fun i => by
    have h1 := filter_idx qs 0 i (fun j hj => by rw [h j hj]; simp)
    have h2 := hp.filter (fun q => decide (q.index = (i : Int)))
    simp only [Nat.zero_add] at h1
    rw [h1] at h2
    unfold wholeAt
    by_cases hi : i < qs.length
    · rw [List.getElem?_eq_getElem hi] at h2 ⊢
      have h3 := List.perm_singleton.1 h2.symm
      rw [h3]; rfl
    · rw [List.getElem?_eq_none (by omega)] at h2 ⊢
      have h3 := List.perm_nil.1 h2.symm
      rw [h3]; rfl
  unfold whole
  rw [← hp.length_eq, show (wholeAt ps) = fun i => (qs[i]?).toList.flatMap (·.data) from funext e]
  exact range_getp _ qs

/-- Parts with their places, sorted: the whole. -/
theorem whole_of_sort {ps : List Pt} {d' : List Pt} (hk : KInv ps) (hc : ∀ p ∈ ps, p.count ≤ (ps.length : Int)) (hp : d'.Perm ps) (hs : ∀ i j (hi : i < j) (hj : j < d'.length), ¬ (d'[j].index < (d'[i]'(by omega)).index)) : whole ps = d'.flatMap (·.data) := by
  refine whole_sorted hp ?_
  have hd : d'.Pairwise (fun a b => a.index ≠ b.index) := (hp.pairwise_iff (fun {x y} h => Ne.symm h)).2 (hk.2.imp fun h => h.2)
  have hlt : d'.Pairwise (fun a b => a.index < b.index) := by
    rw [List.pairwise_iff_getElem] at hd ⊢
    intro i j hi hj hij
    have := hs i j hij hj; have := hd i j hi hj hij; omega
  intro i hi
  have := sorted_idx d' 0 hlt (fun p hp' => by
    have hm := hp.mem_iff.1 hp'
    obtain ⟨_, _, _, _, h5, h6⟩ := check_ok (hk.1 p hm)
    have := hc p hm; rw [hp.length_eq]; omega) i hi
  omega
end Go.Proofs.Ytjalojbihpdghaa
