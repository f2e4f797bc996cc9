/- The engine: appending onto a view of a slice's row, whose room other views share. -/
import Derived.Test.YtjalojbihpdghaaEngQ
namespace Go.Eng
open Go

variable {P : Program} {n : Nat} {X : Cx} {todo : List Item} {e : Env} {H : List It} {ops : Array Oper} {l : List Oper} {d : Nat} {T : TypeId} {p : String} {af : Array Edge} {v : Value} {K : Kt} {w0 : World}

/-- What an append onto the first i of a row answers: in place, or on a new row. -/
theorem run_append_view {P : Program} {S S' E s i m k cap by_ : Nat} {a : Option Addr} {xs news : List Value} {x : Value} {w : World} {ty : TypeId} (hS : P.underlying S = some (.slice E)) (hs : sz P E = some s) (hz : (zrl P E).map List.length = some s) (hby : (P.info? E).map (·.bytes) = some by_)
    (hown : Own w a m cap E s xs) (hi : i ≤ m) (hsrc : Src P s S' x k news w) (hb : (i + k) * by_ ≤ 140737488355328) (h63 : i + k ≤ maxLen) (hk : 0 < k) :
    (∃ g w', a = some ⟨g, 0, none⟩ ∧ (Builtin.append_ #[S, S'] ty #[.slice a i cap, x]).run P w = .ok (.slice a (i + k) cap) w' ∧ Own w' a (max m (i + k)) cap E s (xs.take (i * s) ++ news ++ xs.drop ((i + k) * s)) ∧ w'.os = w.os ∧ w'.tape = w.tape ∧ w'.output = w.output ∧ w'.heap.size = w.heap.size ∧ ∀ b, b ≠ g → w'.heap[b]? = w.heap[b]?) ∨
    (∃ cap' junk, (Builtin.append_ #[S, S'] ty #[.slice a i cap, x]).run P w = .ok (.slice (some ⟨w.heap.size, 0, none⟩) (i + k) cap') (w.drew.alloc (.cells (xs.take (i * s) ++ news ++ junk).toArray E (0, 0))) ∧ cap' * s ≤ (xs.take (i * s) ++ news ++ junk).length ∧ i + k ≤ cap' ∧ cap' ≤ maxLen ∧ (xs.take (i * s) ++ news).length = (i + k) * s) := by
  obtain ⟨hx, hmc, hcm, hrow⟩ := hown
  have hl := hsrc.newsLen
  unfold zrl zr at hz
  unfold sz at hs
  cases hi' : P.info? E with
  | none => simp [hi'] at hs
  | some inf =>
    simp [hi'] at hs hby hz
    obtain ⟨z, hz1, hz2⟩ := hz
    have hzc : z.cells.size = s := by rw [cellsL_eq]; simpa using hz2
    subst hs; subst hby
    have htl : (xs.take (i * inf.size)).length = i * inf.size := by rw [List.length_take, hx]; exact Nat.min_eq_left (Nat.mul_le_mul_right _ hi)
    have hlen : (xs.take (i * inf.size) ++ news).length = (i + k) * inf.size := by rw [List.length_append, htl, hl, Nat.add_mul]
    by_cases hroom : i + k ≤ cap
    · rcases hrow with ⟨rfl, rfl⟩ | ⟨g, junk, rfl, hg, hgl⟩
      · omega
      · left
        have him : i * inf.size ≤ m * inf.size := Nat.mul_le_mul_right _ hi
        have hst := run_storeCells_at P g (i * inf.size) E news 0 (xs ++ junk).toArray w hg (by
            simp only [List.size_toArray]; rw [hl, Nat.add_zero, ← Nat.add_mul]; exact Nat.le_trans (Nat.mul_le_mul_right _ hroom) hgl) hsrc.one
        have e1 : (i + k) * inf.size = i * inf.size + news.length := by rw [hl, Nat.add_mul]
        have hcell : ((xs ++ junk).toArray.toList.take (i * inf.size + 0) ++ news ++ (xs ++ junk).toArray.toList.drop (i * inf.size + 0 + news.length)).toArray = ((xs.take (i * inf.size) ++ news ++ xs.drop ((i + k) * inf.size)) ++ junk.drop ((i + k) * inf.size - xs.length)).toArray := by
          congr 1
          simp only [Nat.add_zero]
          rw [List.take_append_of_le_length (by omega), ← e1, List.drop_append, List.append_assoc (xs.take (i * inf.size) ++ news)]
        rw [hcell] at hst
        have hnl : (xs.take (i * inf.size) ++ news ++ xs.drop ((i + k) * inf.size)).length = max m (i + k) * inf.size := by
          rw [List.length_append, hlen, List.length_drop, hx, ← Nat.sub_mul, ← Nat.add_mul]
          congr 1; omega
        refine ⟨g, w.setRow g _, rfl, ?_, ⟨hnl, by omega, hcm, .inr ⟨g, junk.drop ((i + k) * inf.size - xs.length), rfl, setRow_heap w g _ _ E (0, 0) hg, ?_⟩⟩, rfl, rfl, rfl, by simp, fun b hb => setRow_other w g b _ hb⟩
        · have h1 := hsrc.len w
          have h2 := hsrc.cells
          rcases hsrc.kind with ⟨e', hk⟩ | hk <;> simp [Builtin.append_, run_underlying hS, run_underlying hk, sizeOf, typeInfo, hi', h1, hroom, h2, add_ad, hst]
        · rw [List.length_append, hnl, List.length_drop, hx]
          rw [List.length_append, hx] at hgl
          have e2 : (i + k) * inf.size ≤ cap * inf.size := Nat.mul_le_mul_right _ hroom
          have e3 : m * inf.size ≤ cap * inf.size := Nat.mul_le_mul_right _ hmc
          rcases Nat.le_total m (i + k) with h | h
          · rw [Nat.max_eq_right h]
            have e4 : m * inf.size ≤ (i + k) * inf.size := Nat.mul_le_mul_right _ h
            omega
          · rw [Nat.max_eq_left h]
            have e4 : (i + k) * inf.size ≤ m * inf.size := Nat.mul_le_mul_right _ h
            omega
    · right
      have hg : cap < i + k := by omega
      have hold : (Builtin.firstCells inf.size i (.slice a i cap)).run P w.drew = .ok (xs.take (i * inf.size)).toArray w.drew := by
        rcases hrow with ⟨rfl, rfl⟩ | ⟨g, junk, rfl, hg, hgl⟩
        · have hm0 : i = 0 := by omega
          subst hm0
          have := run_firstCells_none (P := P) w.drew inf.size 0 0 0
          simpa using this
        · refine run_firstCells_some w.drew inf.size i ⟨g, 0, none⟩ i cap (xs.take (i * inf.size)) htl (fun j u hu => ?_)
          rw [add_ad, Nat.zero_add, cell_of_row w.drew g j (xs ++ junk).toArray E (0, 0) hg]
          have hj := (List.getElem?_eq_some_iff.1 hu).1
          rw [List.length_take] at hj
          rw [List.getElem?_take, if_pos (by omega)] at hu
          have hj2 : j < xs.length := by omega
          simp only [List.getElem?_toArray]
          rw [List.getElem?_append_left hj2]; exact hu
      have hmax : (((i + k : Nat)) : Int) ≤ 9223372036854775807 := by have h := h63; simp [maxLen] at h; omega
      have hr := run_append_grow_src (P := P) w S S' ty E inf z hS hi' hz1 a i cap (xs.take (i * inf.size)) hold x k news hsrc hg hmax (growslice_fits hg hb)
      refine ⟨grownCap w (i + k) cap E, (Builtin.zeroCells z.cells (grownCap w (i + k) cap E - (i + k))).toList, ?_, ?_, grownCap_ge w _ _ _, grownCap_le_maxLen w _ _ _ h63, hlen⟩
      · rw [hr]
        congr 3
        apply Array.ext'
        simp
      · rw [List.length_append, hlen, Array.length_toList, size_zeroCells, hzc, ← Nat.add_mul]
        have := grownCap_ge w (i + k) cap E
        refine Nat.mul_le_mul_right _ ?_
        omega

/-- append onto the first i of a row: in place, or on a new one. -/
theorem W.apv {S S' E E' s i m k c cap by_ : Nat} {x y : Operand} {a a2 : Option Addr} {xs news : List Value} {H1 : Nat → List Value → List It} (hS : P.underlying S = some (.slice E)) (hS' : P.underlying S' = some (.slice E')) (hs : sz P E = some s) (hz : (zrl P E).map List.length = some s) (hby : (P.info? E).map (·.bytes) = some by_)
    (hx : ev e x = some (.slice a i cap)) (hy : ev e y = some (.slice a2 k c)) (hu : ∀ m' xs', Rep H (sl a m cap E s xs) (sl a m' cap E s xs') (H1 m' xs'))
    (hsrc : RdS X.w0 H a2 news) (hl : news.length = k * s) (h1 : news.all (·.oneCell') = true) (hnil : a2 = none → k = 0) (hi : i ≤ m) (hk0 : 0 < k) (hb : (i + k) * by_ ≤ 140737488355328) (h63 : i + k ≤ 9223372036854775807) (hd : Nat.blt d n = true)
    (hk1 : W (.sq K) P n X ops todo l ((d, .slice a (i + k) cap) :: e) (H1 (max m (i + k)) (xs.take (i * s) ++ news ++ xs.drop ((i + k) * s))))
    (hk2 : ∀ a' cap', W (.sq K) P n X ops todo l ((d, .slice a' (i + k) cap') :: e) (sl a' (i + k) cap' E s (xs.take (i * s) ++ news) :: H)) : W (.sq K) P n X ops todo (⟨some d, .call ⟨.builtin .append, #[x, y], #[S, S']⟩, T, p, af, none⟩ :: l) e H := by
  refine W.eff rfl fun ac w hf hm => ?_
  have hown : Own w a m cap E s xs := hm.holds _ (hu 0 []).mem
  rcases run_append_view (ty := T) hS hs hz hby hown hi (src_of (c := c) hS' (hsrc w hm) hl (by simpa using h1) hnil) hb (by simp only [maxLen]; omega) hk0 with ⟨g, w', rfl, hr, hown', e1, e2, e3, e4, e5⟩ | ⟨cap', junk, hr, h2, h3, h4, h5⟩
  · refine ⟨w', .value (.slice (some ⟨g, 0, none⟩) (i + k) cap), ?_, .inl ⟨_, rfl, hk1 _ _ (hf.put _ hd) ?_⟩⟩
    · simp [execOp, resolve, invoke, builtin, hf.eval hx, hf.eval hy, hr]
    · refine hm.rep (hu _ _) e1 e2 e3 (by omega) rfl hown' ?_ (fun b h => .inl h) (by simp [sl]) ?_
      · rintro b ⟨q, hq, rfl⟩
        have := hm.inb _ (hu 0 []).mem q.block ⟨q, hq, rfl⟩
        omega
      · intro b _ hno
        exact e5 b fun h => hno ⟨_, rfl, h.symm⟩
  · refine ⟨w.drew.alloc (.cells (xs.take (i * s) ++ news ++ junk).toArray E (0, 0)), .value (.slice (some ⟨w.heap.size, 0, none⟩) (i + k) cap'), ?_, .inl ⟨_, rfl, hk2 _ cap' _ _ (hf.put _ hd) ?_⟩⟩
    · simp [execOp, resolve, invoke, builtin, hf.eval hx, hf.eval hy, hr]
    · have := (hm.drew.alloc (.cells (xs.take (i * s) ++ news ++ junk).toArray E (0, 0)))
      rw [World.size_drew] at this
      have := Mem.rowSl (m := i + k) (cap := cap') (s := s) this h2 h3 h4
      rwa [List.take_left' h5] at this
end Go.Eng
