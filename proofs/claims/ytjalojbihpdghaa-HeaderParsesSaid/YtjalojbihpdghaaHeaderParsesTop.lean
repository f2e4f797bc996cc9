/- For every input HeaderParses returns true, and its argument reads behind the call as it did. -/
import Derived.Test.YtjalojbihpdghaaRows
import Derived.Test.YtjalojbihpdghaaLaw13
import Derived.Test.YtjalojbihpdghaaRead
namespace Go.Proofs.Ytjalojbihpdghaa.headerParses
open Go.ChangeShapes Go.WideShapes Go.ChangeAt Go.RowKit Go.Eng

theorem own : ownKnob Try.prog.godebug = none := by kernel_rfl
theorem laidOut : laidOutB Try.prog = true := by kernel_rfl
section
variable {H : Type} {enc : TypeId × Value → H} {W : World} {M : Meas Try.prog H}
theorem rdU8 : RdT enc W M 5 (fun x : UInt8 => [u8 x]) (fun _ => True) := rd_u8 Try.underlying5
theorem cellsU8 : Try.prog.cellsOf 5 = 1 := by kernel_rfl
theorem bytesU8 : Try.prog.bytesOf 5 = 1 := by kernel_rfl
theorem rdBytes : RdT enc W M 22 (fun p : Option Addr × Nat × List UInt8 => [.slice p.1 p.2.2.length p.2.1]) (fun p => RdL W p.1 (B p.2.2) ∧ p.2.2.length ≤ p.2.1 ∧ p.2.2.length ≤ 140737488351232) := fun fuel cs y h hS => by
  obtain ⟨x, h1, h2, _, h4, h5⟩ := rd_slice Try.underlying22 rdU8 cellsU8 (by decide) (fun _ _ => rfl) (by rw [bytesU8]; decide) fuel cs y h hS
  rw [bytesU8] at h5
  exact ⟨x, h1, by rwa [flat1] at h2, h4, by omega⟩
end

set_option maxRecDepth 100000 in
theorem lifted (os : Os) (started : os.Started) (H : Type) (enc : TypeId × Value → H) :
    ReturnsInHanded {} Try.checked os 8 .any (Rows.headerParsesSpec.pre6 enc Try.prog Try.f8 Rows.headerParsesRow.domain false) (Rows.headerParsesSpec.post enc Try.prog Try.f8 false true false false) := by
  refine returnsInHanded_of_change_sized (C := Try.checked) own started (by kernel_rfl) Try.func8
    (ChangeSpec.witness6 (enc := enc) (C := Try.checked) false ⟨#[], #[.slice none 0 0], []⟩ 8 (by kernel_rfl) (by kernel_rfl) (by kernel_rfl) (by kernel_rfl)) ?_
  intro W base args ds gs before hval0 hW hcnd hsz0 _
  have hsz : (DataW.weightsEach Try.prog (Try.f8.params.toList ++ Rows.headerParsesSpec.plain.varTypes Try.prog) (ds ++ gs)).all (· ≤ reachBytes) = true := hsz0
  have hval : ∀ (j : Nat) t v, Try.f8.params[j]? = some t → args[j]? = some v → Value.okWide Try.prog W .any base t v := hval0
  have hW' := hW
  obtain ⟨p, q, hA0, hV, rfl, hfz, hnd⟩ := hW
  have hA : DataW.TrodAll enc Try.prog W 0 (fun _ => true) true Try.f8.params.toList args.toList ds p := hA0
  rw [Try.params8] at hA hval hsz
  obtain ⟨v0, vs0, d0, ds0, p0, q0, hargs, rfl, rfl, h0, r0⟩ := trodAll_cons hA
  obtain ⟨rfl, rfl, rfl⟩ := trodAll_nil r0
  obtain rfl : args = #[v0] := by cases args; simp_all
  obtain ⟨rfl, rfl⟩ := trodVars_none hV
  have lt0 : ∀ x ∈ p0, x.block < W.heap.size := by obtain ⟨m, hm⟩ := h0; exact DataW.trod_lt m _ _ _ hm
  have hS0 : (Meas.weights Try.prog H).S 22 d0 := fun n hn => of_decide_eq_true (List.all_eq_true.1 hsz n (DataW.weights_mem_each (j := 0) rfl rfl n hn))
  obtain ⟨m0, hm0⟩ := id h0
  obtain ⟨⟨a0, cap0, bs0⟩, hcs0, ⟨hr0, hc0, hb0⟩⟩ := rdBytes _ _ _ hm0 hS0
  obtain ⟨z0, len0', cap0', rfl⟩ := okWide_slice Try.underlying22 (hval 0 22 v0 rfl rfl)
  simp [Value.cells] at hcs0
  obtain ⟨rfl, rfl, rfl⟩ := hcs0
  clear hA0 hval0
  refine Calls.mono (law_HeaderParses _ _ _ bs0 W rfl hr0 hb0 hc0).law fun e W' ⟨he, bel⟩ => ?_
  subst he
  exact ⟨_, rfl, _, _, _, [], _, [], hW', trodAll_mk1 (shut_bool Try.underlying4 _), (trodAll_cons_mk (Below.trod laidOut (by kernel_rfl) (of_decide_eq_true (by kernel_rfl)) h0 bel lt0) trodAll_mk0), rfl, bel.frame _, fun h => by cases h⟩

theorem proved : Rows.HeaderParsesSaid :=
  OpenClaim.holds_of_wide 8 Try.f8 rfl rfl rfl rfl rfl rfl rfl ⟨rfl, rfl, rfl, rfl, rfl⟩ rfl rfl rfl rfl rfl (by kernel_rfl) Try.func8 (by kernel_rfl)
    (of_decide_eq_true (by kernel_rfl)) (by unfold Func.isWrapper; first | (rw [if_pos (by decide +kernel)]; kernel_rfl) | (rw [if_neg (by decide +kernel)]; exact ⟨rfl, rfl⟩))
    (fun os started H enc _ => lifted os started H enc)
end Go.Proofs.Ytjalojbihpdghaa.headerParses
