/- The engine: noughts appended onto a row of bytes of one's own (append of make). -/
import Derived.Test.YtjalojbihpdghaaEngR
import Derived.Lib.AppendZerosOnto
namespace Go.Eng
open Go
set_option linter.unusedVariables false
section
variable {P : Program} {n : Nat} {X : Cx} {todo : List Item} {e : Env} {H : List It} {ops : Array Oper} {l : List Oper} {d : Nat} {T : TypeId} {p : String} {af : Array Edge} {K : Kt} {w0 : World}

theorem run_append_slz {S S' E m k cap : Nat} {kn : IntKind} {a : Option Addr} {xs : List Value} {w : World} {ty : TypeId} (hS : P.underlying S = some (.slice E)) (hS' : P.underlying S' = some (.int kn)) (hz : zrl P E = some [.int .u8 0]) (hby : (P.info? E).map (·.bytes) = some 1) (hs : sz P E = some 1)
    (hown : Own w a m cap E 1 xs) (hk0 : 0 < k) (hb : m + k ≤ 140737488355328) :
    ∃ a' cap' w', (Builtin.append_ #[S, S'] ty #[.slice a m cap, .int .i64 k]).run P w = .ok (.slice a' (m + k) cap') w' ∧ Own w' a' (m + k) cap' E 1 (xs ++ List.replicate k (.int .u8 0)) ∧ w'.os = w.os ∧ w'.tape = w.tape ∧ w'.output = w.output ∧ w.heap.size ≤ w'.heap.size ∧
      (∀ q, a' = some q → (a = some q ∨ w.heap.size ≤ q.block) ∧ q.block < w'.heap.size) ∧ (∀ b, b < w.heap.size → (∀ q, a = some q → q.block ≠ b) → w'.heap[b]? = w.heap[b]?) := by
  obtain ⟨hx, hmc, hcm, hrow⟩ := hown
  unfold zrl zr at hz
  unfold sz at hs
  cases hi : P.info? E with
  | none => simp [hi] at hs
  | some i =>
    simp [hi] at hs hby hz
    obtain ⟨z, hz1, hz2⟩ := hz
    have hzc : z.cells = #[.int .u8 0] := by rw [cellsL_eq, hz2]
    have hzero : Builtin.zeroCells z.cells k = (List.replicate k (.int .u8 0)).toArray := by
      apply Array.ext'
      rw [Builtin.zeroCells, hzc]
      simp only [Array.toList_map, Array.toList_range, List.size_toArray]
      refine List.ext_getElem (by simp) fun i h1 h2 => ?_
      simp [Nat.mod_one]
    have hlen : (xs ++ List.replicate k (Value.int .u8 0)).length = (m + k) * 1 := by rw [List.length_append, hx, List.length_replicate]; omega
    have hw : IntKind.i64.wrap (k : Int) = k := by rw [IntKind.wrap_i64]; omega
    have hneg : ¬ ((k : Int) < 0) := by omega
    have hk' : k ≠ 0 := by omega
    by_cases hroom : m + k ≤ cap
    · rcases hrow with ⟨rfl, rfl⟩ | ⟨g, junk, rfl, hg, hgl⟩
      · omega
      · have hst := run_storeCells_at P g (m * 1) E (List.replicate k (.int .u8 0)) 0 (xs ++ junk).toArray w hg (by simp only [List.size_toArray, List.length_replicate]; omega) (by simp [Value.oneCell'])
        have hcell : ((xs ++ junk).toArray.toList.take (m * 1 + 0) ++ List.replicate k (Value.int .u8 0) ++ (xs ++ junk).toArray.toList.drop (m * 1 + 0 + (List.replicate k (Value.int .u8 0)).length)).toArray = ((xs ++ List.replicate k (Value.int .u8 0)) ++ junk.drop k).toArray := by
          congr 1
          simp only [Nat.add_zero, ← hx, List.length_replicate]
          rw [List.take_left, List.drop_append, List.drop_eq_nil_of_le (by omega), List.nil_append, Nat.add_sub_cancel_left]
        rw [hcell] at hst
        refine ⟨some ⟨g, 0, none⟩, cap, w.setRow g ((xs ++ List.replicate k (Value.int .u8 0)) ++ junk.drop k).toArray, ?_, ⟨hlen, hroom, hcm, .inr ⟨g, junk.drop k, rfl, setRow_heap w g _ _ E (0, 0) hg, ?_⟩⟩, rfl, rfl, rfl, by simp, ?_, ?_⟩
        · have h48 : ¬ (281474976710656 < (k : Int)) := by omega
          have h48' : ¬ (281474976710656 < (k : Int) * (i.bytes : Int)) := by rw [hby]; omega
          simp [Builtin.append_, run_underlying hS, run_underlying hS', sizeOf, typeInfo, zeroValue, hi, hz1, asInt, asIntOf, hw, hneg, hroom, hk', h48, h48', hs, hby, hzero, add_ad] at hst ⊢
          first | exact hst | simp [hst]
        · rw [List.length_append, hlen, List.length_drop]
          rw [List.length_append, hx] at hgl
          omega
        · intro q hq
          cases hq
          exact ⟨.inl rfl, by simpa using (Array.getElem?_eq_some_iff.1 hg).1⟩
        · intro b _ hne
          exact setRow_other w g b _ (fun h => hne _ rfl h.symm)
    · have hg : cap < m + k := by omega
      have hold : (Builtin.firstCells i.size m (.slice a m cap)).run P w.drew = .ok xs.toArray w.drew := by
        rcases hrow with ⟨rfl, rfl⟩ | ⟨g, junk, rfl, hg, hgl⟩
        · have hm0 : m = 0 := by omega
          subst hm0
          have hn : xs = [] := List.eq_nil_of_length_eq_zero (by simpa using hx)
          subst hn
          exact run_firstCells_none w.drew i.size 0 0 0
        · refine run_firstCells_some w.drew i.size m ⟨g, 0, none⟩ m cap xs (by rw [hs]; exact hx) (fun j u hu => ?_)
          rw [add_ad, Nat.zero_add, cell_of_row w.drew g j (xs ++ junk).toArray E (0, 0) hg]
          have hj := (List.getElem?_eq_some_iff.1 hu).1
          simp [List.getElem?_append, hj] at hu ⊢
          exact hu
      have hr := Lib.run_append_grow_zeros (P := P) w S S' ty E i z .i64 kn hS hS' hi hz1 a m cap xs hold k hk0 (by omega) hg (by omega) (by rw [hby]; omega) (growslice_fits hg (by rw [hby]; omega))
      rw [hzero] at hr
      refine ⟨_, _, _, hr, ⟨hlen, grownCap_ge w _ _ _, grownCap_le_maxLen w _ _ _ (by simp only [maxLen]; omega), .inr ⟨w.heap.size, (Builtin.zeroCells z.cells (grownCap w (m + k) cap E - (m + k))).toList, rfl, ?_, ?_⟩⟩, rfl, rfl, rfl, by simp, ?_, ?_⟩
      · have := heap_alloc_new w.drew (.cells (xs.toArray ++ (List.replicate k (Value.int .u8 0)).toArray ++ Builtin.zeroCells z.cells (grownCap w (m + k) cap E - (m + k))) E)
        rw [World.size_drew] at this
        rw [this]
        congr 2
        apply Array.ext'
        simp
      · rw [List.length_append, hlen, Array.length_toList, size_zeroCells, hzc]
        have := grownCap_ge w (m + k) cap E
        simp
        omega
      · intro q hq
        cases hq
        exact ⟨.inr (Nat.le_refl _), by simp⟩
      · intro b hb _
        exact RowKit.Below.heap_alloc w.drew _ b hb

theorem W.apz {S S' E m k cap : Nat} {kn : IntKind} {x y : Operand} {a : Option Addr} {xs : List Value} {H1 : Option Addr → Nat → List It} (hS : P.underlying S = some (.slice E)) (hS' : P.underlying S' = some (.int kn)) (hz : zrl P E = some [.int .u8 0]) (hby : (P.info? E).map (·.bytes) = some 1) (hs : sz P E = some 1)
    (hx : ev e x = some (.slice a m cap)) (hy : ev e y = some (.int .i64 (k : Nat))) (hu : ∀ a' cap', Rep H (sl a m cap E 1 xs) (sl a' (m + k) cap' E 1 (xs ++ List.replicate k (.int .u8 0))) (H1 a' cap')) (hk0 : 0 < k) (hb : m + k ≤ 140737488355328) (hd : Nat.blt d n = true)
    (hk : ∀ a' cap', W (.sq K) P n X ops todo l ((d, .slice a' (m + k) cap') :: e) (H1 a' cap')) : W (.sq K) P n X ops todo (⟨some d, .call ⟨.builtin .append, #[x, y], #[S, S']⟩, T, p, af, none⟩ :: l) e H := by
  refine W.eff rfl fun ac w hf hm => ?_
  have hown : Own w a m cap E 1 xs := hm.holds _ (hu none 0).mem
  obtain ⟨a', cap', w', hr, hown', e1, e2, e3, e4, e5, e6⟩ := run_append_slz (ty := T) hS hS' hz hby hs hown hk0 hb
  refine ⟨w', .value (.slice a' (m + k) cap'), ?_, .inl ⟨_, rfl, hk a' cap' _ _ (hf.put _ hd) ?_⟩⟩
  · simp [execOp, resolve, invoke, builtin, hf.eval hx, hf.eval hy, hr]
  · refine hm.rep (hu a' cap') e1 e2 e3 e4 rfl hown' ?_ ?_ (by simp [sl]) ?_
    · rintro b ⟨q, hq, rfl⟩; exact (e5 q hq).2
    · rintro b ⟨q, hq, rfl⟩
      rcases (e5 q hq).1 with h | h
      · exact .inl ⟨q, h, rfl⟩
      · exact .inr h
    · intro b hb hno
      exact e6 b hb fun q hq hqb => hno ⟨q, hq, hqb⟩
theorem G.rdC {a : Option Addr} {cells : List Value} (h : Rdf X.w0 H a cells) (hc : 0 < cells.length) (hk : ∀ b o, a = some ⟨b, o, none⟩ → Rdf X.w0 H (some ⟨b, o, none⟩) cells → G P n X todo e H) : G P n X todo e H := G.rdA h hc fun b o ho => hk b o ho (ho ▸ h)
end
end Go.Eng
