/- For every input FrameFrames returns true, and its argument reads behind the call as it did. -/
import Derived.Test.YtnbofpojbpmdmaaRows
import Derived.Test.YtnbofpojbpmdmaaLaw11b
import Derived.Test.YtnbofpojbpmdmaaRead
namespace Go.Proofs.Ytnbofpojbpmdmaa.frameFrames
open Go.ChangeShapes Go.WideShapes Go.ChangeAt Go.RowKit Go.Eng

theorem own : ownKnob Try.prog.godebug = none := by kernel_rfl
theorem laidOut : laidOutB Try.prog = true := by kernel_rfl
section
variable {H : Type} {enc : TypeId × Value → H} {W : World} {M : Meas Try.prog H}
theorem rdU8 : RdT enc W M 5 (fun x : UInt8 => [u8 x]) (fun _ => True) := rd_u8 Try.underlying5
theorem cellsU8 : Try.prog.cellsOf 5 = 1 := by kernel_rfl
theorem bytesU8 : Try.prog.bytesOf 5 = 1 := by kernel_rfl
theorem rdU64 : RdT enc W M 30 (fun x : UInt64 => [u64 x]) (fun _ => True) := rd_u64 Try.underlying30
theorem cellsU64 : Try.prog.cellsOf 30 = 1 := by kernel_rfl
theorem bytesU64 : Try.prog.bytesOf 30 = 8 := by kernel_rfl
theorem rdInt : RdT enc W M 3 (fun x : Int => [i64 x]) (fun n => -9223372036854775808 ≤ n ∧ n ≤ 9223372036854775807) := rd_i64 Try.underlying3
theorem cellsInt : Try.prog.cellsOf 3 = 1 := by kernel_rfl
theorem bytesInt : Try.prog.bytesOf 3 = 8 := by kernel_rfl
theorem rdBytes : RdT enc W M 46 (fun p : Option Addr × Nat × List UInt8 => [.slice p.1 p.2.2.length p.2.1]) (fun p => RdL W p.1 (B p.2.2) ∧ p.2.2.length ≤ p.2.1 ∧ p.2.2.length ≤ 140737488351232) := fun fuel cs y h hS => by
  obtain ⟨x, h1, h2, _, h4, h5⟩ := rd_slice Try.underlying46 rdU8 cellsU8 (by decide) (fun _ _ => rfl) (by rw [bytesU8]; decide) fuel cs y h hS
  rw [bytesU8] at h5
  exact ⟨x, h1, by rwa [flat1] at h2, h4, by omega⟩
theorem cellsPart : Try.prog.cellsOf 119 = 5 := by kernel_rfl
theorem cellsBytes : Try.prog.cellsOf 46 = 1 := by kernel_rfl
set_option maxRecDepth 100000 in
theorem rdPart : RdT enc W M 119 ppC (fun p => RdL W p.2.1 (B p.1.data) ∧ p.1.data.length ≤ p.2.2 ∧ p.1.data.length ≤ 140737488351232) := fun fuel cs y h hS => by
  obtain ⟨hl, hf⟩ := rd_fields Try.underlying119 h hS
  rw [cellsPart] at hl
  match cs, hl with
  | [c0, c1, c2, c3, c4], _ =>
    obtain ⟨n0, z0, g0, s0⟩ := hf 0 _ rfl
    obtain ⟨n1, z1, g1, s1⟩ := hf 1 _ rfl
    obtain ⟨n2, z2, g2, s2⟩ := hf 2 _ rfl
    obtain ⟨n3, z3, g3, s3⟩ := hf 3 _ rfl
    obtain ⟨n4, z4, g4, s4⟩ := hf 4 _ rfl
    obtain ⟨x0, e0, _⟩ := rdU8 _ _ _ g0 s0
    obtain ⟨x1, e1, _⟩ := rdU64 _ _ _ g1 s1
    obtain ⟨x2, e2, _⟩ := rdInt _ _ _ g2 s2
    obtain ⟨x3, e3, _⟩ := rdInt _ _ _ g3 s3
    obtain ⟨⟨a, cap, x4⟩, e4, h4⟩ := rdBytes _ _ _ g4 s4
    simp [cellsU8, cellsU64, cellsInt, cellsBytes] at e0 e1 e2 e3 e4
    subst e0; subst e1; subst e2; subst e3; subst e4
    exact ⟨(⟨x0, x1, x2, x3, x4⟩, a, cap), rfl, h4⟩
end

set_option maxRecDepth 100000 in
theorem lifted (os : Os) (started : os.Started) (H : Type) (enc : TypeId × Value → H) :
    ReturnsInHanded {} Try.checked os 10 .any (Rows.frameFramesSpec.pre6 enc Try.prog Try.f10 Rows.frameFramesRow.domain false) (Rows.frameFramesSpec.post enc Try.prog Try.f10 false true false false) := by
  refine returnsInHanded_of_change_sized (C := Try.checked) own started (by kernel_rfl) Try.func10
    (ChangeSpec.witness6 (enc := enc) (C := Try.checked) false ⟨#[], #[.agg #[.int .u8 0, .int .u64 0, .int .i64 0, .int .i64 0, .slice none 0 0]], []⟩ 8 (by kernel_rfl) (by kernel_rfl) (by kernel_rfl) (by kernel_rfl)) ?_
  intro W base args ds gs before hval0 hW hcnd hsz0 _
  have hsz : (DataW.weightsEach Try.prog (Try.f10.params.toList ++ Rows.frameFramesSpec.plain.varTypes Try.prog) (ds ++ gs)).all (· ≤ reachBytes) = true := hsz0
  have hval : ∀ (j : Nat) t v, Try.f10.params[j]? = some t → args[j]? = some v → Value.okWide Try.prog W .any base t v := hval0
  have hW' := hW
  obtain ⟨p, q, hA0, hV, rfl, hfz, hnd⟩ := hW
  have hA : DataW.TrodAll enc Try.prog W 0 (fun _ => true) true Try.f10.params.toList args.toList ds p := hA0
  rw [Try.params10] at hA hval hsz
  obtain ⟨v0, vs0, d0, ds0, p0, q0, hargs, rfl, rfl, h0, r0⟩ := trodAll_cons hA
  obtain ⟨rfl, rfl, rfl⟩ := trodAll_nil r0
  obtain rfl : args = #[v0] := by cases args; simp_all
  obtain ⟨rfl, rfl⟩ := trodVars_none hV
  have lt0 : ∀ x ∈ p0, x.block < W.heap.size := by obtain ⟨m, hm⟩ := h0; exact DataW.trod_lt m _ _ _ hm
  have hS0 : (Meas.weights Try.prog H).S 119 d0 := fun n hn => of_decide_eq_true (List.all_eq_true.1 hsz n (DataW.weights_mem_each (j := 0) rfl rfl n hn))
  obtain ⟨m0, hm0⟩ := id h0
  obtain ⟨⟨p0, a0, cap0⟩, hcs0, ⟨hr0, hc0, hb0⟩⟩ := rdPart _ _ _ hm0 hS0
  obtain ⟨y0, rfl, _⟩ := okWide_struct Try.underlying119 (hval 0 119 v0 rfl rfl)
  have hy0 : y0 = _ := Array.ext' hcs0
  subst hy0
  clear hA0 hval0
  refine Calls.mono (law_FrameFrames p0 a0 cap0 W hr0 hb0 hc0).law fun e W' ⟨he, bel⟩ => ?_
  subst he
  exact ⟨_, rfl, _, _, _, [], _, [], hW', trodAll_mk1 (shut_bool Try.underlying4 _), (trodAll_cons_mk (Below.trod laidOut (by kernel_rfl) (of_decide_eq_true (by kernel_rfl)) h0 bel lt0) trodAll_mk0), rfl, bel.frame _, fun h => by cases h⟩

theorem proved : Rows.FrameFramesSaid :=
  OpenClaim.holds_of_wide 10 Try.f10 rfl rfl rfl rfl rfl rfl rfl ⟨rfl, rfl, rfl, rfl, rfl⟩ rfl rfl rfl rfl rfl (by kernel_rfl) Try.func10 (by kernel_rfl)
    (of_decide_eq_true (by kernel_rfl)) (by unfold Func.isWrapper; first | (rw [if_pos (by decide +kernel)]; kernel_rfl) | (rw [if_neg (by decide +kernel)]; exact ⟨rfl, rfl⟩))
    (fun os started H enc _ => lifted os started H enc)
end Go.Proofs.Ytnbofpojbpmdmaa.frameFrames
