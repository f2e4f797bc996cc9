/- For every input SurbUses returns true, and its arguments read behind the call as they did. -/
import Derived.Test.YtjalojbihpdghaaRows
import Derived.Test.YtjalojbihpdghaaSurb2
import Derived.Test.YtjalojbihpdghaaTop
namespace Go.Proofs.Ytjalojbihpdghaa.surbUses
open Go.ChangeShapes Go.WideShapes Go.ChangeAt Go.RowKit Go.Eng

theorem own : ownKnob Try.prog.godebug = none := by kernel_rfl
theorem laidOut : laidOutB Try.prog = true := by kernel_rfl
theorem cellsByte : Try.prog.cellsOf 5 = 1 := by kernel_rfl
theorem bytesByte : Try.prog.bytesOf 5 = 1 := by kernel_rfl
theorem readsByte {H : Type} {enc : TypeId × Value → H} {W : World} (fuel : Nat) (cs : List Value) (y : DataW H × List MemPlace) (h : DataW.trod enc Try.prog W 0 (fun _ => true) true fuel 5 cs = some y) : ∃ x : UInt8, cs = [u8 x] ∧ True := by
  obtain ⟨n, h1, _, h3⟩ := DataW.trod_int Try.underlying5 h
  have h4 : 0 ≤ n ∧ n ≤ 255 := by simpa [Lit.wf, IntKind.min, IntKind.max, IntKind.signed, IntKind.bits] using h3
  refine ⟨UInt8.ofNat n.toNat, ?_, trivial⟩
  rw [h1]
  congr 2
  simp [UInt8.toNat_ofNat']
  omega

set_option maxRecDepth 100000 in
theorem lifted (os : Os) (started : os.Started) (H : Type) (enc : TypeId × Value → H) :
    ReturnsInHanded {} Try.checked os 3 .any (Rows.surbUsesSpec.pre6 enc Try.prog Try.f3 Rows.surbUsesRow.domain false) (Rows.surbUsesSpec.post enc Try.prog Try.f3 false true false false) := by
  refine returnsInHanded_of_change_sized (C := Try.checked) own started (by kernel_rfl) Try.func3
    (ChangeSpec.witness6 (enc := enc) (C := Try.checked) false ⟨#[], #[.slice none 0 0, .slice none 0 0], []⟩ 8 (by kernel_rfl) (by kernel_rfl) (by kernel_rfl) (by kernel_rfl)) ?_
  intro W base args ds gs before hval0 hW hcnd hsz0 _
  have hsz : (DataW.weightsEach Try.prog (Try.f3.params.toList ++ Rows.surbUsesSpec.plain.varTypes Try.prog) (ds ++ gs)).all (· ≤ reachBytes) = true := hsz0
  have hval : ∀ (j : Nat) t v, Try.f3.params[j]? = some t → args[j]? = some v → Value.okWide Try.prog W .any base t v := hval0
  have hW' := hW
  obtain ⟨p, q, hA0, hV, rfl, hfz, hnd⟩ := hW
  have hA : DataW.TrodAll enc Try.prog W 0 (fun _ => true) true Try.f3.params.toList args.toList ds p := hA0
  rw [Try.params3] at hA hval hsz
  obtain ⟨v0, vs0, d0, ds0, p0, q0, hargs, rfl, rfl, h0, r0⟩ := trodAll_cons hA
  obtain ⟨v1, vs1, d1, ds1, p1, q1, rfl, rfl, rfl, h1, r1⟩ := trodAll_cons r0
  obtain ⟨rfl, rfl, rfl⟩ := trodAll_nil r1
  obtain rfl : args = #[v0, v1] := by cases args; simp_all
  obtain ⟨rfl, rfl⟩ := trodVars_none hV
  have lt0 : ∀ x ∈ p0, x.block < W.heap.size := by obtain ⟨m, hm⟩ := h0; exact DataW.trod_lt m _ _ _ hm
  obtain ⟨z0, len0', cap0', rfl⟩ := okWide_slice Try.underlying22 (hval 0 22 v0 rfl rfl)
  obtain ⟨m0, hm0⟩ := id h0
  obtain ⟨a0, len0, cap0, hc0, bs0, hbl0, hbr0, _, hbc0, hbd0⟩ := open_rowsC (f := fun n : UInt8 => [u8 n]) (good := fun _ _ _ => True) Try.underlying22 readsByte cellsByte (by decide) (fun _ => rfl) hm0
  simp [Value.cells] at hc0
  obtain ⟨rfl, rfl, rfl⟩ := hc0
  have hb0 : bs0.length ≤ 140737488351232 := by
    rcases hbd0 with ⟨_, h⟩ | ⟨el, sp, rfl, h, _⟩
    · omega
    · have := sized_slice hsz (j := 0) (t := 22) (e := 5) rfl rfl Try.underlying22
      rw [bytesByte] at this
      simp only [reachBytes] at this
      omega
  subst hbl0
  have lt1 : ∀ x ∈ p1, x.block < W.heap.size := by obtain ⟨m, hm⟩ := h1; exact DataW.trod_lt m _ _ _ hm
  obtain ⟨z1, len1', cap1', rfl⟩ := okWide_slice Try.underlying22 (hval 1 22 v1 rfl rfl)
  obtain ⟨m1, hm1⟩ := id h1
  obtain ⟨a1, len1, cap1, hc1, bs1, hbl1, hbr1, _, hbc1, hbd1⟩ := open_rowsC (f := fun n : UInt8 => [u8 n]) (good := fun _ _ _ => True) Try.underlying22 readsByte cellsByte (by decide) (fun _ => rfl) hm1
  simp [Value.cells] at hc1
  obtain ⟨rfl, rfl, rfl⟩ := hc1
  have hb1 : bs1.length ≤ 140737488351232 := by
    rcases hbd1 with ⟨_, h⟩ | ⟨el, sp, rfl, h, _⟩
    · omega
    · have := sized_slice hsz (j := 1) (t := 22) (e := 5) rfl rfl Try.underlying22
      rw [bytesByte] at this
      simp only [reachBytes] at this
      omega
  subst hbl1
  clear hA0 hval0
  have hr0 : RdL W z0 (B bs0) := by have := hbr0; rwa [flat1] at this
  have hr1 : RdL W z1 (B bs1) := by have := hbr1; rwa [flat1] at this
  have hlaw := law_SurbUses z0 _ cap0' bs0 z1 _ cap1' bs1 W rfl hr0 hb0 hbc0 rfl hr1 hb1 hbc1
  refine hlaw.law.mono fun e W' ⟨he, bel⟩ => ?_
  subst he
  exact ⟨_, rfl, _, _, _, [], _, [], hW', trodAll_mk1 (shut_bool Try.underlying4 _), (trodAll_cons_mk (Below.trod laidOut (by kernel_rfl) (of_decide_eq_true (by kernel_rfl)) h0 bel lt0) (trodAll_cons_mk (Below.trod laidOut (by kernel_rfl) (of_decide_eq_true (by kernel_rfl)) h1 bel lt1) trodAll_mk0)), rfl, bel.frame _, fun h => by cases h⟩

theorem proved : Rows.SurbUsesSaid :=
  OpenClaim.holds_of_wide 3 Try.f3 rfl rfl rfl rfl rfl rfl rfl ⟨rfl, rfl, rfl, rfl, rfl⟩ rfl rfl rfl rfl rfl (by kernel_rfl) Try.func3 (by kernel_rfl)
    (of_decide_eq_true (by kernel_rfl)) (by unfold Func.isWrapper; first | (rw [if_pos (by decide +kernel)]; kernel_rfl) | (rw [if_neg (by decide +kernel)]; exact ⟨rfl, rfl⟩))
    (fun os started H enc _ => lifted os started H enc)
end Go.Proofs.Ytjalojbihpdghaa.surbUses
