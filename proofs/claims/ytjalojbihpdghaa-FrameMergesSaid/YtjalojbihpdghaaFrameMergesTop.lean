/- For every input FrameMerges returns true, and its argument reads behind the call as it did. -/
import Derived.Test.YtjalojbihpdghaaRows
import Derived.Test.YtjalojbihpdghaaMerge5
import Derived.Test.YtjalojbihpdghaaRead
namespace Go.Proofs.Ytjalojbihpdghaa.frameMerges
open Go.ChangeShapes Go.WideShapes Go.ChangeAt Go.RowKit Go.Eng

theorem own : ownKnob Try.prog.godebug = none := by kernel_rfl
theorem laidOut : laidOutB Try.prog = true := by kernel_rfl
section
variable {H : Type} {enc : TypeId × Value → H} {W : World} {M : Meas Try.prog H}
theorem rdU8 : RdT enc W M 5 (fun x : UInt8 => [u8 x]) (fun _ => True) := rd_u8 Try.underlying5
theorem cellsU8 : Try.prog.cellsOf 5 = 1 := by kernel_rfl
theorem bytesU8 : Try.prog.bytesOf 5 = 1 := by kernel_rfl
theorem rdU64 : RdT enc W M 29 (fun x : UInt64 => [u64 x]) (fun _ => True) := rd_u64 Try.underlying29
theorem cellsU64 : Try.prog.cellsOf 29 = 1 := by kernel_rfl
theorem bytesU64 : Try.prog.bytesOf 29 = 8 := by kernel_rfl
theorem rdInt : RdT enc W M 3 (fun x : Int => [i64 x]) (fun n => -9223372036854775808 ≤ n ∧ n ≤ 9223372036854775807) := rd_i64 Try.underlying3
theorem cellsInt : Try.prog.cellsOf 3 = 1 := by kernel_rfl
theorem bytesInt : Try.prog.bytesOf 3 = 8 := by kernel_rfl
theorem rdBytes : RdT enc W M 22 (fun p : Option Addr × Nat × List UInt8 => [.slice p.1 p.2.2.length p.2.1]) (fun p => RdL W p.1 (B p.2.2) ∧ p.2.2.length ≤ p.2.1 ∧ p.2.2.length ≤ 140737488351232) := fun fuel cs y h hS => by
  obtain ⟨x, h1, h2, _, h4, h5⟩ := rd_slice Try.underlying22 rdU8 cellsU8 (by decide) (fun _ _ => rfl) (by rw [bytesU8]; decide) fuel cs y h hS
  rw [bytesU8] at h5
  exact ⟨x, h1, by rwa [flat1] at h2, h4, by omega⟩
theorem cellsPart : Try.prog.cellsOf 66 = 5 := by kernel_rfl
theorem cellsBytes : Try.prog.cellsOf 22 = 1 := by kernel_rfl
set_option maxRecDepth 100000 in
theorem rdPart : RdT enc W M 66 ppC (fun p => RdL W p.2.1 (B p.1.data) ∧ p.1.data.length ≤ p.2.2 ∧ p.1.data.length ≤ 140737488351232) := fun fuel cs y h hS => by
  obtain ⟨hl, hf⟩ := rd_fields Try.underlying66 h hS
  rw [cellsPart] at hl
  match cs, hl with
  | [c0, c1, c2, c3, c4], _ =>
    obtain ⟨n0, z0, g0, s0⟩ := hf 0 _ rfl
    obtain ⟨n1, z1, g1, s1⟩ := hf 1 _ rfl
    obtain ⟨n2, z2, g2, s2⟩ := hf 2 _ rfl
    obtain ⟨n3, z3, g3, s3⟩ := hf 3 _ rfl
    obtain ⟨n4, z4, g4, s4⟩ := hf 4 _ rfl
    obtain ⟨x0, e0, _⟩ := rdU8 _ _ _ g0 s0
    obtain ⟨x1, e1, _⟩ := rdU64 _ _ _ g1 s1
    obtain ⟨x2, e2, _⟩ := rdInt _ _ _ g2 s2
    obtain ⟨x3, e3, _⟩ := rdInt _ _ _ g3 s3
    obtain ⟨⟨a, cap, x4⟩, e4, h4⟩ := rdBytes _ _ _ g4 s4
    simp [cellsU8, cellsU64, cellsInt, cellsBytes] at e0 e1 e2 e3 e4
    subst e0; subst e1; subst e2; subst e3; subst e4
    exact ⟨(⟨x0, x1, x2, x3, x4⟩, a, cap), rfl, h4⟩
theorem bytesPart : Try.prog.bytesOf 66 = 56 := by kernel_rfl
theorem rdParts : RdT enc W M 57 (fun p : Option Addr × Nat × List _ => [.slice p.1 p.2.2.length p.2.1]) (fun p => RdL W p.1 (p.2.2.flatMap ppC) ∧ (∀ x ∈ p.2.2, (fun p : Pp => RdL W p.2.1 (B p.1.data) ∧ p.1.data.length ≤ p.2.2 ∧ p.1.data.length ≤ 140737488351232) x) ∧ p.2.2.length ≤ p.2.1 ∧ p.2.2.length * 56 ≤ 140737488351232) := fun fuel cs y h hS => by
  obtain ⟨x, h1, h2, h3, h4, h5⟩ := rd_slice Try.underlying57 rdPart cellsPart (by decide) (fun x _ => (fun _ => ppC_len _) x) (by rw [bytesPart]; decide) fuel cs y h hS
  rw [bytesPart] at h5
  exact ⟨x, h1, h2, h3, h4, h5⟩
end

set_option maxRecDepth 100000 in
theorem lifted (os : Os) (started : os.Started) (H : Type) (enc : TypeId × Value → H) :
    ReturnsInHanded {} Try.checked os 5 .any (Rows.frameMergesSpec.pre6 enc Try.prog Try.f5 Rows.frameMergesRow.domain false) (Rows.frameMergesSpec.post enc Try.prog Try.f5 false true false false) := by
  refine returnsInHanded_of_change_sized (C := Try.checked) own started (by kernel_rfl) Try.func5
    (ChangeSpec.witness6 (enc := enc) (C := Try.checked) false ⟨#[], #[.slice none 0 0], []⟩ 8 (by kernel_rfl) (by kernel_rfl) (by kernel_rfl) (by kernel_rfl)) ?_
  intro W base args ds gs before hval0 hW hcnd hsz0 _
  have hsz : (DataW.weightsEach Try.prog (Try.f5.params.toList ++ Rows.frameMergesSpec.plain.varTypes Try.prog) (ds ++ gs)).all (· ≤ reachBytes) = true := hsz0
  have hval : ∀ (j : Nat) t v, Try.f5.params[j]? = some t → args[j]? = some v → Value.okWide Try.prog W .any base t v := hval0
  have hW' := hW
  obtain ⟨p, q, hA0, hV, rfl, hfz, hnd⟩ := hW
  have hA : DataW.TrodAll enc Try.prog W 0 (fun _ => true) true Try.f5.params.toList args.toList ds p := hA0
  rw [Try.params5] at hA hval hsz
  obtain ⟨v0, vs0, d0, ds0, p0, q0, hargs, rfl, rfl, h0, r0⟩ := trodAll_cons hA
  obtain ⟨rfl, rfl, rfl⟩ := trodAll_nil r0
  obtain rfl : args = #[v0] := by cases args; simp_all
  obtain ⟨rfl, rfl⟩ := trodVars_none hV
  have lt0 : ∀ x ∈ p0, x.block < W.heap.size := by obtain ⟨m, hm⟩ := h0; exact DataW.trod_lt m _ _ _ hm
  have hS0 : (Meas.weights Try.prog H).S 57 d0 := fun n hn => of_decide_eq_true (List.all_eq_true.1 hsz n (DataW.weights_mem_each (j := 0) rfl rfl n hn))
  obtain ⟨m0, hm0⟩ := id h0
  obtain ⟨⟨a0, cap0, xs0⟩, hcs0, ⟨hr0, hx0, hc0, hb0⟩⟩ := rdParts _ _ _ hm0 hS0
  obtain ⟨z0, len0', cap0', rfl⟩ := okWide_slice Try.underlying57 (hval 0 57 v0 rfl rfl)
  simp [Value.cells] at hcs0
  obtain ⟨rfl, rfl, rfl⟩ := hcs0
  clear hA0 hval0
  refine Calls.mono (law_FrameMerges xs0 _ _ W (by have h := hb0; dsimp only at h; omega) ⟨hr0, fun p hp => ⟨(hx0 p hp).1, (hx0 p hp).2.2⟩⟩).law fun e W' ⟨he, bel⟩ => ?_
  subst he
  exact ⟨_, rfl, _, _, _, [], _, [], hW', trodAll_mk1 (shut_bool Try.underlying4 _), (trodAll_cons_mk (Below.trod laidOut (by kernel_rfl) (of_decide_eq_true (by kernel_rfl)) h0 bel lt0) trodAll_mk0), rfl, bel.frame _, fun h => by cases h⟩

theorem proved : Rows.FrameMergesSaid :=
  OpenClaim.holds_of_wide 5 Try.f5 rfl rfl rfl rfl rfl rfl rfl ⟨rfl, rfl, rfl, rfl, rfl⟩ rfl rfl rfl rfl rfl (by kernel_rfl) Try.func5 (by kernel_rfl)
    (of_decide_eq_true (by kernel_rfl)) (by unfold Func.isWrapper; first | (rw [if_pos (by decide +kernel)]; kernel_rfl) | (rw [if_neg (by decide +kernel)]; exact ⟨rfl, rfl⟩))
    (fun os started H enc _ => lifted os started H enc)
end Go.Proofs.Ytjalojbihpdghaa.frameMerges
