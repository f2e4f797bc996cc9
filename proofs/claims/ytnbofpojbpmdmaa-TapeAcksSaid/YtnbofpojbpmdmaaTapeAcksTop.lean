/- For every input TapeAcks returns true, and its arguments read behind the call as they did. -/
import Derived.Test.YtnbofpojbpmdmaaRows
import Derived.Test.YtnbofpojbpmdmaaLawAcks
import Derived.Test.YtnbofpojbpmdmaaTop
namespace Go.Proofs.Ytnbofpojbpmdmaa.tapeAcks
open Go.ChangeShapes Go.WideShapes Go.ChangeAt Go.RowKit Go.Eng

theorem own : ownKnob Try.prog.godebug = none := by kernel_rfl
theorem laidOut : laidOutB Try.prog = true := by kernel_rfl
theorem cellsAck : Try.prog.cellsOf 135 = 2 := by kernel_rfl
theorem bytesAck : Try.prog.bytesOf 135 = 16 := by kernel_rfl
theorem cellsId : Try.prog.cellsOf 30 = 1 := by kernel_rfl
theorem cellsInt : Try.prog.cellsOf 3 = 1 := by kernel_rfl
theorem bytesId : Try.prog.bytesOf 30 = 8 := by kernel_rfl
set_option maxRecDepth 100000 in
theorem readsAck : Reads Try.prog 135 ackC (fun _ => True) := fun H enc W fuel cs y h => by
  obtain ⟨y0, y1, n, _, hl, h0, h1⟩ := trod_struct2 Try.underlying135 h
  rw [cellsAck] at hl
  match cs, hl with
  | [c0, c1], _ =>
    obtain ⟨p, hp, _, _⟩ := DataW.trod_int Try.underlying3 h0
    obtain ⟨q, hq, _, _⟩ := DataW.trod_int Try.underlying30 h1
    simp [cellsInt, cellsId] at hp hq
    exact ⟨(p, q), by simp [ackC, hp, hq], trivial⟩

set_option maxRecDepth 100000 in
theorem lifted (os : Os) (started : os.Started) (H : Type) (enc : TypeId × Value → H) :
    ReturnsInHanded {} Try.checked os 3 .any (Rows.tapeAcksSpec.pre6 enc Try.prog Try.f3 Rows.tapeAcksRow.domain false) (Rows.tapeAcksSpec.post enc Try.prog Try.f3 false true false false) := by
  refine returnsInHanded_of_change_sized (C := Try.checked) own started (by kernel_rfl) Try.func3
    (ChangeSpec.witness6 (enc := enc) (C := Try.checked) false ⟨#[], #[.slice none 0 0, .slice none 0 0, .int .i64 0], []⟩ 8 (by kernel_rfl) (by kernel_rfl) (by kernel_rfl) (by kernel_rfl)) ?_
  intro W base args ds gs before hval0 hW hcnd hsz0 _
  have hsz : (DataW.weightsEach Try.prog (Try.f3.params.toList ++ Rows.tapeAcksSpec.plain.varTypes Try.prog) (ds ++ gs)).all (· ≤ reachBytes) = true := hsz0
  have hval : ∀ (j : Nat) t v, Try.f3.params[j]? = some t → args[j]? = some v → Value.okWide Try.prog W .any base t v := hval0
  have hW' := hW
  obtain ⟨p, q, hA0, hV, rfl, hfz, hnd⟩ := hW
  have hA : DataW.TrodAll enc Try.prog W 0 (fun _ => true) true Try.f3.params.toList args.toList ds p := hA0
  rw [Try.params3] at hA hval hsz
  obtain ⟨v0, vs0, d0, ds0, p0, q0, hargs, rfl, rfl, h0, r0⟩ := trodAll_cons hA
  obtain ⟨v1, vs1, d1, ds1, p1, q1, rfl, rfl, rfl, h1, r1⟩ := trodAll_cons r0
  obtain ⟨v2, vs2, d2, ds2, p2, q2, rfl, rfl, rfl, h2, r2⟩ := trodAll_cons r1
  obtain ⟨rfl, rfl, rfl⟩ := trodAll_nil r2
  obtain rfl : args = #[v0, v1, v2] := by cases args; simp_all
  obtain ⟨rfl, rfl⟩ := trodVars_none hV
  obtain ⟨a0, len0, cap0, rfl⟩ := okWide_slice Try.underlying22 (hval 0 22 v0 rfl rfl)
  have lt0 : ∀ x ∈ p0, x.block < W.heap.size := by obtain ⟨m, hm⟩ := h0; exact DataW.trod_lt m _ _ _ hm
  obtain ⟨xs, hxl, hxr, _, _, hxd⟩ := open_rows Try.underlying22 readsAck cellsAck (by decide) ackC_len h0
  obtain ⟨a1, len1, cap1, rfl⟩ := okWide_slice Try.underlying23 (hval 1 23 v1 rfl rfl)
  have lt1 : ∀ x ∈ p1, x.block < W.heap.size := by obtain ⟨m, hm⟩ := h1; exact DataW.trod_lt m _ _ _ hm
  obtain ⟨ids, hil, hir, _, _, hid⟩ := open_rows Try.underlying23 (reads_int Try.underlying30) cellsId (by decide) (fun _ => rfl) h1
  obtain ⟨now, rfl, rfl, rfl, w2⟩ := open_int Try.underlying3 (hval 2 3 v2 rfl rfl) h2
  have hb : xs.length * 16 ≤ 140737488351232 := by
    rcases hxd with ⟨_, h⟩ | ⟨el, sp, rfl, h⟩
    · omega
    · have := sized_slice hsz (j := 0) (t := 22) (e := 135) rfl rfl Try.underlying22
      rw [bytesAck] at this
      simp only [reachBytes] at this
      omega
  have hb2 : ids.length ≤ 140737488351232 := by
    rcases hid with ⟨_, h⟩ | ⟨el, sp, rfl, h⟩
    · omega
    · have := sized_slice hsz (j := 1) (t := 23) (e := 30) rfl rfl Try.underlying23
      rw [bytesId] at this
      simp only [reachBytes] at this
      omega
  subst hxl
  subst hil
  clear hA0 hval0
  refine (law_TapeAcks a0 cap0 xs W hxr hb a1 cap1 ids (by rw [← flat1]; exact hir) hb2 now).law.mono fun e W' ⟨he, bel⟩ => ?_
  subst he
  exact ⟨_, rfl, _, _, _, [], _, [], hW', trodAll_mk1 (shut_bool Try.underlying4 _), (trodAll_cons_mk (Below.trod laidOut (by kernel_rfl) (of_decide_eq_true (by kernel_rfl)) h0 bel lt0) (trodAll_cons_mk (Below.trod laidOut (by kernel_rfl) (of_decide_eq_true (by kernel_rfl)) h1 bel lt1) (trodAll_cons_mk (shut_int Try.underlying3 w2) trodAll_mk0))), rfl, bel.frame _, fun h => by cases h⟩

theorem proved : Rows.TapeAcksSaid :=
  OpenClaim.holds_of_wide 3 Try.f3 rfl rfl rfl rfl rfl rfl rfl ⟨rfl, rfl, rfl, rfl, rfl⟩ rfl rfl rfl rfl rfl (by kernel_rfl) Try.func3 (by kernel_rfl)
    (of_decide_eq_true (by kernel_rfl)) (by unfold Func.isWrapper; first | (rw [if_pos (by decide +kernel)]; kernel_rfl) | (rw [if_neg (by decide +kernel)]; exact ⟨rfl, rfl⟩))
    (fun os started H enc _ => lifted os started H enc)
end Go.Proofs.Ytnbofpojbpmdmaa.tapeAcks
