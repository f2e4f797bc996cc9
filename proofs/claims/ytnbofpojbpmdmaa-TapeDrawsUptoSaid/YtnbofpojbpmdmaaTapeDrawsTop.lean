/- For every input of bulk at most 1048576 TapeDraws returns true, and its arguments read behind the call as they did. -/
import Derived.Test.YtnbofpojbpmdmaaRows
import Derived.Test.YtnbofpojbpmdmaaLawTape
import Derived.Test.YtnbofpojbpmdmaaTop
import Derived.JoinedCond
namespace Go.Proofs.Ytnbofpojbpmdmaa.tapeDraws
open Go.ChangeShapes Go.WideShapes Go.ChangeAt Go.RowKit Go.Eng

theorem own : ownKnob Try.prog.godebug = none := by kernel_rfl
theorem laidOut : laidOutB Try.prog = true := by kernel_rfl
theorem cellsByte : Try.prog.cellsOf 5 = 1 := by kernel_rfl
theorem cellsInt : Try.prog.cellsOf 3 = 1 := by kernel_rfl
theorem cellsInts : Try.prog.cellsOf 40 = 1 := by kernel_rfl

theorem one_le {H : Type} (d : DataW H) : 1 ≤ Rows.uptoBulk d := by
  cases d with
  | lit l => cases l <;> simp [Rows.uptoBulk]
  | nil => simp [Rows.uptoBulk]
  | ptr d => simp [Rows.uptoBulk]
  | slice elems spare => simp [Rows.uptoBulk]
  | agg parts => simp [Rows.uptoBulk]
  | iface t d => simp [Rows.uptoBulk]
  | map entries => simp [Rows.uptoBulk]
  | held h => simp [Rows.uptoBulk]
theorem part_le {H : Type} {d : DataW H} {l : List (DataW H)} (h : d ∈ l) : Rows.uptoBulk d ≤ Rows.uptoBulkAll l := by
  induction l with
  | nil => cases h
  | cons x r ih =>
    simp only [Rows.uptoBulkAll]
    cases List.mem_cons.1 h with
    | inl e => subst e; omega
    | inr e => have := ih e; omega
theorem length_le {H : Type} (l : List (DataW H)) : l.length ≤ Rows.uptoBulkAll l := by
  induction l with
  | nil => simp [Rows.uptoBulkAll]
  | cons x r ih => have := one_le x; simp only [Rows.uptoBulkAll, List.length_cons]; omega

/-- A slice's reading, its length against the reading's bulk. -/
def Fits {H : Type} (k : Nat) (y : DataW H) : Prop := k ≤ Rows.uptoBulk y
theorem fits_of {H : Type} {k : Nat} {d : DataW H} {Q : List (DataW H) → Prop} (h : (d = .nil ∧ k = 0) ∨ ∃ elems spare, d = .slice elems spare ∧ elems.length = k ∧ Q elems) : k ≤ Rows.uptoBulk d := by
  rcases h with ⟨_, rfl⟩ | ⟨el, sp, rfl, rfl, _⟩
  · exact Nat.zero_le _
  · have := length_le el
    simp only [Rows.uptoBulk]; omega

theorem readsByte {H : Type} {enc : TypeId × Value → H} {W : World} (fuel : Nat) (cs : List Value) (y : DataW H × List MemPlace) (h : DataW.trod enc Try.prog W 0 (fun _ => true) true fuel 5 cs = some y) : ∃ x : UInt8, cs = [u8 x] ∧ True := by
  obtain ⟨n, h1, _, h3⟩ := DataW.trod_int Try.underlying5 h
  have h4 : 0 ≤ n ∧ n ≤ 255 := by simpa [Lit.wf, IntKind.min, IntKind.max, IntKind.signed, IntKind.bits] using h3
  refine ⟨UInt8.ofNat n.toNat, ?_, trivial⟩
  rw [h1]
  congr 2
  simp [UInt8.toNat_ofNat']
  omega
theorem readsInt {H : Type} {enc : TypeId × Value → H} {W : World} (fuel : Nat) (cs : List Value) (y : DataW H × List MemPlace) (h : DataW.trod enc Try.prog W 0 (fun _ => true) true fuel 3 cs = some y) : ∃ x : Int, cs = [i64 x] ∧ x ≤ 9223372036854775807 := by
  obtain ⟨n, h1, _, h3⟩ := DataW.trod_int Try.underlying3 h
  have h4 : -9223372036854775808 ≤ n ∧ n ≤ 9223372036854775807 := by simpa [Lit.wf, IntKind.min, IntKind.max, IntKind.signed, IntKind.bits] using h3
  exact ⟨n, h1, h4.2⟩
def goodPi {H : Type} (W : World) (p : Pi) (y : DataW H) : Prop := RdL W p.1 (p.2.2.map i64) ∧ (∀ n ∈ p.2.2, n ≤ 9223372036854775807) ∧ p.2.2.length ≤ Rows.uptoBulk y
theorem readsInts {H : Type} {enc : TypeId × Value → H} {W : World} (fuel : Nat) (cs : List Value) (y : DataW H × List MemPlace) (h : DataW.trod enc Try.prog W 0 (fun _ => true) true fuel 40 cs = some y) : ∃ p : Pi, cs = [piV p] ∧ goodPi W p y.1 := by
  obtain ⟨d, ps⟩ := y
  obtain ⟨a, len, cap, hcs, xs, hxl, hr, _, _, hd⟩ := open_rowsC (f := fun n : Int => [i64 n]) (good := fun _ n _ => n ≤ 9223372036854775807) Try.underlying40 readsInt cellsInt (by decide) (fun _ => rfl) h
  subst hxl
  refine ⟨(a, cap, xs), hcs, by rw [← flat1]; exact hr, fun n hn => ?_, fits_of hd⟩
  rcases hd with ⟨_, h0⟩ | ⟨el, sp, _, _, hq⟩
  · rw [List.eq_nil_of_length_eq_zero h0] at hn; simp at hn
  · obtain ⟨i, hi, rfl⟩ := List.getElem_of_mem hn
    obtain ⟨_, _, h9⟩ := hq i hi
    exact h9

set_option maxRecDepth 100000 in
theorem lifted (os : Os) (started : os.Started) (H : Type) (enc : TypeId × Value → H) (F : Stop.Interp) :
    ReturnsInHanded {} Try.checked os 5 .any ((Rows.OpenSpec.upto Rows.tapeDrawsSpec).pre6 enc Try.prog Try.f5 Rows.tapeDrawsUptoRow.domain false) (((Rows.OpenSpec.upto Rows.tapeDrawsSpec).at F).post enc Try.prog Try.f5 false true false false) := by
  refine returnsInHanded_of_cond (C := Try.checked) (s := Rows.OpenSpec.upto Rows.tapeDrawsSpec) (k := Rows.uptoSmall) rfl own started (by kernel_rfl) Try.func5
    (OpenSpec.witness (enc := enc) (C := Try.checked) (s := Rows.OpenSpec.upto Rows.tapeDrawsSpec) (k := Rows.uptoSmall) rfl false ⟨#[], #[.slice none 0 0, .slice none 0 0], []⟩ 8 (by kernel_rfl) (by kernel_rfl) (by kernel_rfl)
      (x := ([.nil, .nil], [], [])) (by kernel_rfl) rfl (by kernel_rfl)) ?_
  intro W base args ds gs before hval0 hW _ hk0 _
  have hk : Rows.uptoBulkAll (ds ++ gs) ≤ 1048576 := of_decide_eq_true hk0
  have hval : ∀ (j : Nat) t v, Try.f5.params[j]? = some t → args[j]? = some v → Value.okWide Try.prog W .any base t v := hval0
  have hW' := hW
  obtain ⟨p, q, hA0, hV, rfl, hfz, hnd⟩ := hW
  have hA : DataW.TrodAll enc Try.prog W 0 (fun _ => true) true Try.f5.params.toList args.toList ds p := hA0
  rw [Try.params5] at hA hval
  obtain ⟨v0, vs0, d0, ds0, p0, q0, hargs, rfl, rfl, h0, r0⟩ := trodAll_cons hA
  obtain ⟨v1, vs1, d1, ds1, p1, q1, rfl, rfl, rfl, h1, r1⟩ := trodAll_cons r0
  obtain ⟨rfl, rfl, rfl⟩ := trodAll_nil r1
  obtain rfl : args = #[v0, v1] := by cases args; simp_all
  obtain ⟨rfl, rfl⟩ := trodVars_none hV
  have lt0 : ∀ x ∈ p0, x.block < W.heap.size := by obtain ⟨m, hm⟩ := h0; exact DataW.trod_lt m _ _ _ hm
  have lt1 : ∀ x ∈ p1, x.block < W.heap.size := by obtain ⟨m, hm⟩ := h1; exact DataW.trod_lt m _ _ _ hm
  obtain ⟨z0, len0', cap0', rfl⟩ := okWide_slice Try.underlying46 (hval 0 46 v0 rfl rfl)
  obtain ⟨z1, len1', cap1', rfl⟩ := okWide_slice Try.underlying47 (hval 1 47 v1 rfl rfl)
  obtain ⟨m0, hm0⟩ := id h0
  obtain ⟨m1, hm1⟩ := id h1
  obtain ⟨a0, len0, cap0, hc0, bs, hbl, hbr, _, hbc, hbd⟩ := open_rowsC (f := fun n : UInt8 => [u8 n]) (good := fun _ _ _ => True) Try.underlying46 readsByte cellsByte (by decide) (fun _ => rfl) hm0
  obtain ⟨a1, len1, cap1, hc1, ls, hll, hlr, _, _, hld⟩ := open_rowsC (f := fun p : Pi => [piV p]) (good := goodPi) Try.underlying47 readsInts cellsInts (by decide) (fun _ => rfl) hm1
  simp [Value.cells] at hc0 hc1
  obtain ⟨rfl, rfl, rfl⟩ := hc0
  obtain ⟨rfl, rfl, rfl⟩ := hc1
  have hb0 := fits_of hbd
  have hb1 := fits_of hld
  have hk' : Rows.uptoBulk d0 + Rows.uptoBulk d1 ≤ 1048576 := by
    simp only [List.cons_append, List.nil_append, Rows.uptoBulkAll] at hk; omega
  subst hbl
  subst hll
  clear hA0 hval0
  have hls : ∀ p ∈ ls, RdL W p.1 (p.2.2.map i64) ∧ (∀ n ∈ p.2.2, n ≤ 9223372036854775807) ∧ p.2.2.length * 24 ≤ 140737488351232 := fun p hp => by
    rcases hld with ⟨_, h9⟩ | ⟨el, sp, rfl, _, hq⟩
    · rw [List.eq_nil_of_length_eq_zero h9] at hp; simp at hp
    · obtain ⟨i, hi, rfl⟩ := List.getElem_of_mem hp
      obtain ⟨y, hy, g1, g2, g3⟩ := hq i hi
      have := part_le hy
      simp only [Rows.uptoBulk] at hk'
      exact ⟨g1, g2, by omega⟩
  refine (law_TapeDraws z0 cap0' bs W (by have := hbr; rw [flat1] at this; exact this) (by omega) hbc z1 cap1' ls (by rw [← flat1]; exact hlr) hls (by omega)).law.mono fun e W' ⟨he, bel⟩ => ?_
  subst he
  exact ⟨_, rfl, _, _, _, [], _, [], hW', trodAll_mk1 (shut_bool Try.underlying4 _), (trodAll_cons_mk (Below.trod laidOut (by kernel_rfl) (of_decide_eq_true (by kernel_rfl)) h0 bel lt0) (trodAll_cons_mk (Below.trod laidOut (by kernel_rfl) (of_decide_eq_true (by kernel_rfl)) h1 bel lt1) trodAll_mk0)), rfl, bel.frame _, fun h => by cases h⟩

theorem proved : Rows.TapeDrawsUptoSaid :=
  OpenClaim.holds_of_cond 5 Try.f5 rfl rfl rfl rfl rfl rfl rfl ⟨rfl, rfl, rfl, rfl, rfl⟩ rfl rfl rfl rfl rfl (by kernel_rfl) Try.func5 (by kernel_rfl)
    (of_decide_eq_true (by kernel_rfl)) (by unfold Func.isWrapper; first | (rw [if_pos (by decide +kernel)]; kernel_rfl) | (rw [if_neg (by decide +kernel)]; exact ⟨rfl, rfl⟩))
    (fun os started H enc _ F => lifted os started H enc F)
end Go.Proofs.Ytnbofpojbpmdmaa.tapeDraws
