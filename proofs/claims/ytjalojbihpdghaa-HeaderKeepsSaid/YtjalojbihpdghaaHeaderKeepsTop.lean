/- For every input HeaderKeeps returns true, and its arguments read behind the call as they did. -/
import Derived.Test.YtjalojbihpdghaaRows
import Derived.Test.YtjalojbihpdghaaLaw13b
import Derived.Test.YtjalojbihpdghaaRead
namespace Go.Proofs.Ytjalojbihpdghaa.headerKeeps
open Go.ChangeShapes Go.WideShapes Go.ChangeAt Go.RowKit Go.Eng

theorem own : ownKnob Try.prog.godebug = none := by kernel_rfl
theorem laidOut : laidOutB Try.prog = true := by kernel_rfl
section
variable {H : Type} {enc : TypeId × Value → H} {W : World} {M : Meas Try.prog H}
theorem rdU8 : RdT enc W M 5 (fun x : UInt8 => [u8 x]) (fun _ => True) := rd_u8 Try.underlying5
theorem cellsU8 : Try.prog.cellsOf 5 = 1 := by kernel_rfl
theorem bytesU8 : Try.prog.bytesOf 5 = 1 := by kernel_rfl
theorem rdBytes : RdT enc W M 22 (fun p : Option Addr × Nat × List UInt8 => [.slice p.1 p.2.2.length p.2.1]) (fun p => RdL W p.1 (B p.2.2) ∧ p.2.2.length ≤ p.2.1 ∧ p.2.2.length ≤ 140737488351232) := fun fuel cs y h hS => by
  obtain ⟨x, h1, h2, _, h4, h5⟩ := rd_slice Try.underlying22 rdU8 cellsU8 (by decide) (fun _ _ => rfl) (by rw [bytesU8]; decide) fuel cs y h hS
  rw [bytesU8] at h5
  exact ⟨x, h1, by rwa [flat1] at h2, h4, by omega⟩
theorem cellsA32 : Try.prog.cellsOf 24 = 32 := by kernel_rfl
theorem rdA32 : RdT enc W M 24 B (fun x => x.length = 32) := fun fuel cs y h hS => by
  obtain ⟨x, h1, h2, _⟩ := rd_array Try.underlying24 rdU8 cellsU8 (by kernel_rfl) fuel cs y h hS
  exact ⟨x, by rw [h1]; show List.flatMap _ x = _; rw [flat1], h2⟩
theorem cellsK4 : Try.prog.cellsOf 84 = 128 := by kernel_rfl
set_option maxRecDepth 100000 in
theorem rdK4 : RdT enc W M 84 B (fun x => x.length = 128) := fun fuel cs y h hS => by
  obtain ⟨hl, hf⟩ := rd_fields Try.underlying84 h hS
  rw [cellsK4] at hl
  obtain ⟨n0, z0, g0, s0⟩ := hf 0 _ rfl
  obtain ⟨n1, z1, g1, s1⟩ := hf 1 _ rfl
  obtain ⟨n2, z2, g2, s2⟩ := hf 2 _ rfl
  obtain ⟨n3, z3, g3, s3⟩ := hf 3 _ rfl
  obtain ⟨x0, e0, h0⟩ := rdA32 _ _ _ g0 s0
  obtain ⟨x1, e1, h1⟩ := rdA32 _ _ _ g1 s1
  obtain ⟨x2, e2, h2⟩ := rdA32 _ _ _ g2 s2
  obtain ⟨x3, e3, h3⟩ := rdA32 _ _ _ g3 s3
  have e0' : cs.take 32 = B x0 := by simpa [cellsA32] using e0
  have e1' : (cs.drop 32).take 32 = B x1 := by simpa [cellsA32] using e1
  have e2' : (cs.drop 64).take 32 = B x2 := by simpa [cellsA32] using e2
  have e3' : (cs.drop 96).take 32 = B x3 := by simpa [cellsA32] using e3
  have hB : B (x0 ++ (x1 ++ (x2 ++ (x3)))) = B x0 ++ (B x1 ++ (B x2 ++ (B x3))) := by simp [B]
  refine ⟨x0 ++ (x1 ++ (x2 ++ (x3))), ?_, by simp [h0, h1, h2, h3]⟩
  show cs = B (x0 ++ (x1 ++ (x2 ++ (x3))))
  rw [hB, ← e0', ← e1', ← e2', ← e3', List.take_of_length_le (l := cs.drop 96) (by simp; omega)]
  rw [show cs.drop 96 = (cs.drop 64).drop 32 by simp, List.take_append_drop]
  rw [show cs.drop 64 = (cs.drop 32).drop 32 by simp, List.take_append_drop]
  rw [List.take_append_drop]
theorem cellsStep12 : Try.prog.cellsOf 89 = 192 := by kernel_rfl
set_option maxRecDepth 100000 in
theorem rdStep12 : RdT enc W M 89 B (fun x => x.length = 192) := fun fuel cs y h hS => by
  obtain ⟨hl, hf⟩ := rd_fields Try.underlying89 h hS
  rw [cellsStep12] at hl
  obtain ⟨n0, z0, g0, s0⟩ := hf 0 _ rfl
  obtain ⟨n1, z1, g1, s1⟩ := hf 1 _ rfl
  obtain ⟨n2, z2, g2, s2⟩ := hf 2 _ rfl
  obtain ⟨x0, e0, h0⟩ := rdK4 _ _ _ g0 s0
  obtain ⟨x1, e1, h1⟩ := rdA32 _ _ _ g1 s1
  obtain ⟨x2, e2, h2⟩ := rdA32 _ _ _ g2 s2
  have e0' : cs.take 128 = B x0 := by simpa [cellsK4] using e0
  have e1' : (cs.drop 128).take 32 = B x1 := by simpa [cellsA32] using e1
  have e2' : (cs.drop 160).take 32 = B x2 := by simpa [cellsA32] using e2
  have hB : B (x0 ++ (x1 ++ (x2))) = B x0 ++ (B x1 ++ (B x2)) := by simp [B]
  refine ⟨x0 ++ (x1 ++ (x2)), ?_, by simp [h0, h1, h2]⟩
  show cs = B (x0 ++ (x1 ++ (x2)))
  rw [hB, ← e0', ← e1', ← e2', List.take_of_length_le (l := cs.drop 160) (by simp; omega)]
  rw [show cs.drop 160 = (cs.drop 128).drop 32 by simp, List.take_append_drop]
  rw [List.take_append_drop]
theorem bytesStep12 : Try.prog.bytesOf 89 = 192 := by kernel_rfl
theorem rdSteps12 : RdT enc W M 79 (fun p : Option Addr × Nat × List (List UInt8) => [.slice p.1 p.2.2.length p.2.1]) (fun p => RdL W p.1 (p.2.2.flatMap B) ∧ (∀ x ∈ p.2.2, x.length = 192) ∧ p.2.2.length ≤ p.2.1 ∧ p.2.2.length * 192 ≤ 140737488351232) := fun fuel cs y h hS => by
  obtain ⟨x, h1, h2, h3, h4, h5⟩ := rd_slice Try.underlying79 rdStep12 cellsStep12 (by decide) (fun x hx => by rw [Bl, hx]) (by rw [bytesStep12]; decide) fuel cs y h hS
  rw [bytesStep12] at h5
  exact ⟨x, h1, h2, h3, h4, h5⟩
end

set_option maxRecDepth 100000 in
theorem lifted (os : Os) (started : os.Started) (H : Type) (enc : TypeId × Value → H) :
    ReturnsInHanded {} Try.checked os 9 .any (Rows.headerKeepsSpec.pre6 enc Try.prog Try.f9 Rows.headerKeepsRow.domain false) (Rows.headerKeepsSpec.post enc Try.prog Try.f9 false true false false) := by
  refine returnsInHanded_of_change_sized (C := Try.checked) own started (by kernel_rfl) Try.func9
    (ChangeSpec.witness6 (enc := enc) (C := Try.checked) false ⟨#[], #[.slice none 0 0, .slice none 0 0], []⟩ 8 (by kernel_rfl) (by kernel_rfl) (by kernel_rfl) (by kernel_rfl)) ?_
  intro W base args ds gs before hval0 hW hcnd hsz0 _
  have hsz : (DataW.weightsEach Try.prog (Try.f9.params.toList ++ Rows.headerKeepsSpec.plain.varTypes Try.prog) (ds ++ gs)).all (· ≤ reachBytes) = true := hsz0
  have hval : ∀ (j : Nat) t v, Try.f9.params[j]? = some t → args[j]? = some v → Value.okWide Try.prog W .any base t v := hval0
  have hW' := hW
  obtain ⟨p, q, hA0, hV, rfl, hfz, hnd⟩ := hW
  have hA : DataW.TrodAll enc Try.prog W 0 (fun _ => true) true Try.f9.params.toList args.toList ds p := hA0
  rw [Try.params9] at hA hval hsz
  obtain ⟨v0, vs0, d0, ds0, p0, q0, hargs, rfl, rfl, h0, r0⟩ := trodAll_cons hA
  obtain ⟨v1, vs1, d1, ds1, p1, q1, rfl, rfl, rfl, h1, r1⟩ := trodAll_cons r0
  obtain ⟨rfl, rfl, rfl⟩ := trodAll_nil r1
  obtain rfl : args = #[v0, v1] := by cases args; simp_all
  obtain ⟨rfl, rfl⟩ := trodVars_none hV
  have lt0 : ∀ x ∈ p0, x.block < W.heap.size := by obtain ⟨m, hm⟩ := h0; exact DataW.trod_lt m _ _ _ hm
  have hS0 : (Meas.weights Try.prog H).S 22 d0 := fun n hn => of_decide_eq_true (List.all_eq_true.1 hsz n (DataW.weights_mem_each (j := 0) rfl rfl n hn))
  obtain ⟨m0, hm0⟩ := id h0
  obtain ⟨⟨a0, cap0, bs0⟩, hcs0, ⟨hr0, hc0, hb0⟩⟩ := rdBytes _ _ _ hm0 hS0
  obtain ⟨z0, len0', cap0', rfl⟩ := okWide_slice Try.underlying22 (hval 0 22 v0 rfl rfl)
  simp [Value.cells] at hcs0
  obtain ⟨rfl, rfl, rfl⟩ := hcs0
  have lt1 : ∀ x ∈ p1, x.block < W.heap.size := by obtain ⟨m, hm⟩ := h1; exact DataW.trod_lt m _ _ _ hm
  have hS1 : (Meas.weights Try.prog H).S 79 d1 := fun n hn => of_decide_eq_true (List.all_eq_true.1 hsz n (DataW.weights_mem_each (j := 1) rfl rfl n hn))
  obtain ⟨m1, hm1⟩ := id h1
  obtain ⟨⟨a1, cap1, xs1⟩, hcs1, ⟨hr1, hx1, hc1, hb1⟩⟩ := rdSteps12 _ _ _ hm1 hS1
  obtain ⟨z1, len1', cap1', rfl⟩ := okWide_slice Try.underlying79 (hval 1 79 v1 rfl rfl)
  simp [Value.cells] at hcs1
  obtain ⟨rfl, rfl, rfl⟩ := hcs1
  clear hA0 hval0
  refine Calls.mono (law_HeaderKeeps _ _ bs0 xs1 _ _ W hr0 hb0 hc0 hr1 hx1 hb1).law fun e W' ⟨he, bel⟩ => ?_
  subst he
  exact ⟨_, rfl, _, _, _, [], _, [], hW', trodAll_mk1 (shut_bool Try.underlying4 _), (trodAll_cons_mk (Below.trod laidOut (by kernel_rfl) (of_decide_eq_true (by kernel_rfl)) h0 bel lt0) (trodAll_cons_mk (Below.trod laidOut (by kernel_rfl) (of_decide_eq_true (by kernel_rfl)) h1 bel lt1) trodAll_mk0)), rfl, bel.frame _, fun h => by cases h⟩

theorem proved : Rows.HeaderKeepsSaid :=
  OpenClaim.holds_of_wide 9 Try.f9 rfl rfl rfl rfl rfl rfl rfl ⟨rfl, rfl, rfl, rfl, rfl⟩ rfl rfl rfl rfl rfl (by kernel_rfl) Try.func9 (by kernel_rfl)
    (of_decide_eq_true (by kernel_rfl)) (by unfold Func.isWrapper; first | (rw [if_pos (by decide +kernel)]; kernel_rfl) | (rw [if_neg (by decide +kernel)]; exact ⟨rfl, rfl⟩))
    (fun os started H enc _ => lifted os started H enc)
end Go.Proofs.Ytjalojbihpdghaa.headerKeeps
