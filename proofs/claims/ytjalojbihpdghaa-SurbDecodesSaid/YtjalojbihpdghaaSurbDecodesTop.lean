/- For every input SurbDecodes returns true, and its arguments read behind the call as they did. -/
import Derived.Test.YtjalojbihpdghaaRows
import Derived.Test.YtjalojbihpdghaaSurb5
import Derived.Test.YtjalojbihpdghaaRead
namespace Go.Proofs.Ytjalojbihpdghaa.surbDecodes
open Go.ChangeShapes Go.WideShapes Go.ChangeAt Go.RowKit Go.Eng

theorem own : ownKnob Try.prog.godebug = none := by kernel_rfl
theorem laidOut : laidOutB Try.prog = true := by kernel_rfl
section
variable {H : Type} {enc : TypeId × Value → H} {W : World} {M : Meas Try.prog H}
theorem rdU8 : RdT enc W M 5 (fun x : UInt8 => [u8 x]) (fun _ => True) := rd_u8 Try.underlying5
theorem cellsU8 : Try.prog.cellsOf 5 = 1 := by kernel_rfl
theorem bytesU8 : Try.prog.bytesOf 5 = 1 := by kernel_rfl
theorem cellsA16 : Try.prog.cellsOf 25 = 16 := by kernel_rfl
theorem rdA16 : RdT enc W M 25 B (fun x => x.length = 16) := fun fuel cs y h hS => by
  obtain ⟨x, h1, h2, _⟩ := rd_array Try.underlying25 rdU8 cellsU8 (by kernel_rfl) fuel cs y h hS
  exact ⟨x, by rw [h1]; show List.flatMap _ x = _; rw [flat1], h2⟩
theorem cellsA32 : Try.prog.cellsOf 24 = 32 := by kernel_rfl
theorem rdA32 : RdT enc W M 24 B (fun x => x.length = 32) := fun fuel cs y h hS => by
  obtain ⟨x, h1, h2, _⟩ := rd_array Try.underlying24 rdU8 cellsU8 (by kernel_rfl) fuel cs y h hS
  exact ⟨x, by rw [h1]; show List.flatMap _ x = _; rw [flat1], h2⟩
theorem bytesA32 : Try.prog.bytesOf 24 = 32 := by kernel_rfl
theorem cellsKeys : Try.prog.cellsOf 45 = 1 := by kernel_rfl
theorem rdKeys : RdT enc W M 45 (fun p : Option Addr × Nat × List (List UInt8) => [.slice p.1 p.2.2.length p.2.1]) (fun p => RdL W p.1 (keysC p.2.2) ∧ (∀ x ∈ p.2.2, x.length = 32) ∧ p.2.2.length ≤ p.2.1 ∧ p.2.2.length * 32 ≤ 140737488351232) := fun fuel cs y h hS => by
  obtain ⟨x, h1, h2, h3, h4, h5⟩ := rd_slice Try.underlying45 rdA32 cellsA32 (by decide) (fun x hx => by rw [Bl, hx]) (by rw [bytesA32]; decide) fuel cs y h hS
  rw [bytesA32] at h5
  exact ⟨x, h1, h2, h3, h4, h5⟩
theorem cellsStore : Try.prog.cellsOf 47 = 49 := by kernel_rfl
set_option maxRecDepth 100000 in
theorem rdStore : RdT enc W M 47 (fun p : Sto × List (List UInt8) => stV p.1) (fun p => StOk p.1 ∧ p.1.pl = p.2.length ∧ p.1.pl ≤ p.1.pc ∧ (∀ k ∈ p.2, k.length = 32) ∧ RdL W p.1.pa (keysC p.2) ∧ p.2.length ≤ 5000000000000) := fun fuel cs y h hS => by
  obtain ⟨hl, hf⟩ := rd_fields Try.underlying47 h hS
  rw [cellsStore] at hl
  obtain ⟨n0, z0, g0, s0⟩ := hf 0 _ rfl
  obtain ⟨n1, z1, g1, s1⟩ := hf 1 _ rfl
  obtain ⟨n2, z2, g2, s2⟩ := hf 2 _ rfl
  obtain ⟨x0, e0, h0⟩ := rdA16 _ _ _ g0 s0
  obtain ⟨x1, e1, h1⟩ := rdA32 _ _ _ g1 s1
  obtain ⟨⟨pa, pc, ks⟩, e2, h2, h3, h4, h5⟩ := rdKeys _ _ _ g2 s2
  have e0' : cs.take 16 = B x0 := by simpa [cellsA16] using e0
  have e1' : (cs.drop 16).take 32 = B x1 := by simpa [cellsA32] using e1
  have e2' : (cs.drop 48).take 1 = [.slice pa ks.length pc] := by simpa [cellsKeys] using e2
  have h5' : ks.length * 32 ≤ 140737488351232 := h5
  refine ⟨(⟨x0, x1, pa, ks.length, pc⟩, ks), ?_, ⟨h0, h1⟩, rfl, h4, h3, h2, by show ks.length ≤ _; omega⟩
  show cs = stC x0 x1 pa ks.length pc
  rw [stC, ← e0', ← e1', ← e2', List.take_of_length_le (l := cs.drop 48) (by simp; omega), show cs.drop 48 = (cs.drop 16).drop 32 by simp, List.take_append_drop, List.take_append_drop]
theorem rdBytes : RdT enc W M 22 (fun p : Option Addr × Nat × List UInt8 => [.slice p.1 p.2.2.length p.2.1]) (fun p => RdL W p.1 (B p.2.2) ∧ p.2.2.length ≤ p.2.1 ∧ p.2.2.length ≤ 140737488351232) := fun fuel cs y h hS => by
  obtain ⟨x, h1, h2, _, h4, h5⟩ := rd_slice Try.underlying22 rdU8 cellsU8 (by decide) (fun _ _ => rfl) (by rw [bytesU8]; decide) fuel cs y h hS
  rw [bytesU8] at h5
  exact ⟨x, h1, by rwa [flat1] at h2, h4, by omega⟩
theorem bytesStore : Try.prog.bytesOf 47 = 72 := by kernel_rfl
theorem rdStores : RdT enc W M 48 (fun p : Option Addr × Nat × List Sto => [.slice p.1 p.2.2.length p.2.1]) (fun p => RdL W p.1 (p.2.2.flatMap stV) ∧ (∀ x ∈ p.2.2, StOk x) ∧ p.2.2.length ≤ p.2.1 ∧ p.2.2.length * 72 ≤ 140737488351232) := fun fuel cs y h hS => by
  obtain ⟨⟨a, c, xs⟩, h1, h2, h3, h4, h5⟩ := rd_slice Try.underlying48 rdStore cellsStore (by decide) (fun x hx => stV_len hx.1) (by rw [bytesStore]; decide) fuel cs y h hS
  rw [bytesStore] at h5
  have h5' : xs.length * 72 ≤ 140737488351232 := h5
  refine ⟨(a, c, xs.map (·.1)), by rw [h1]; simp, by simpa [List.flatMap_map] using h2, fun x hx => ?_, by simpa using h4, by simpa using h5'⟩
  obtain ⟨y, hy, rfl⟩ := List.mem_map.1 hx
  exact (h3 y hy).1
end

set_option maxRecDepth 100000 in
theorem lifted (os : Os) (started : os.Started) (H : Type) (enc : TypeId × Value → H) :
    ReturnsInHanded {} Try.checked os 4 .any (Rows.surbDecodesSpec.pre6 enc Try.prog Try.f4 Rows.surbDecodesRow.domain false) (Rows.surbDecodesSpec.post enc Try.prog Try.f4 false true false false) := by
  refine returnsInHanded_of_change_sized (C := Try.checked) own started (by kernel_rfl) Try.func4
    (ChangeSpec.witness6 (enc := enc) (C := Try.checked) false ⟨#[], #[.agg (Array.replicate 48 (.int .u8 0) ++ #[.slice none 0 0]), .slice none 0 0, .slice none 0 0], []⟩ 8 (by kernel_rfl) (by kernel_rfl) (by kernel_rfl) (by kernel_rfl)) ?_
  intro W base args ds gs before hval0 hW hcnd hsz0 _
  have hsz : (DataW.weightsEach Try.prog (Try.f4.params.toList ++ Rows.surbDecodesSpec.plain.varTypes Try.prog) (ds ++ gs)).all (· ≤ reachBytes) = true := hsz0
  have hval : ∀ (j : Nat) t v, Try.f4.params[j]? = some t → args[j]? = some v → Value.okWide Try.prog W .any base t v := hval0
  have hW' := hW
  obtain ⟨p, q, hA0, hV, rfl, hfz, hnd⟩ := hW
  have hA : DataW.TrodAll enc Try.prog W 0 (fun _ => true) true Try.f4.params.toList args.toList ds p := hA0
  rw [Try.params4] at hA hval hsz
  obtain ⟨v0, vs0, d0, ds0, p0, q0, hargs, rfl, rfl, h0, r0⟩ := trodAll_cons hA
  obtain ⟨v1, vs1, d1, ds1, p1, q1, rfl, rfl, rfl, h1, r1⟩ := trodAll_cons r0
  obtain ⟨v2, vs2, d2, ds2, p2, q2, rfl, rfl, rfl, h2, r2⟩ := trodAll_cons r1
  obtain ⟨rfl, rfl, rfl⟩ := trodAll_nil r2
  obtain rfl : args = #[v0, v1, v2] := by cases args; simp_all
  obtain ⟨rfl, rfl⟩ := trodVars_none hV
  have lt0 : ∀ x ∈ p0, x.block < W.heap.size := by obtain ⟨m, hm⟩ := h0; exact DataW.trod_lt m _ _ _ hm
  have hS0 : (Meas.weights Try.prog H).S 47 d0 := fun n hn => of_decide_eq_true (List.all_eq_true.1 hsz n (DataW.weights_mem_each (j := 0) rfl rfl n hn))
  obtain ⟨m0, hm0⟩ := id h0
  obtain ⟨⟨st0, ks0⟩, hcs0, ⟨ho0, hp0, hq0, hk0, hr0, hb0⟩⟩ := rdStore _ _ _ hm0 hS0
  obtain ⟨y0, rfl, _⟩ := okWide_struct Try.underlying47 (hval 0 47 v0 rfl rfl)
  have hy0 : y0 = _ := Array.ext' hcs0
  subst hy0
  have lt1 : ∀ x ∈ p1, x.block < W.heap.size := by obtain ⟨m, hm⟩ := h1; exact DataW.trod_lt m _ _ _ hm
  have hS1 : (Meas.weights Try.prog H).S 22 d1 := fun n hn => of_decide_eq_true (List.all_eq_true.1 hsz n (DataW.weights_mem_each (j := 1) rfl rfl n hn))
  obtain ⟨m1, hm1⟩ := id h1
  obtain ⟨⟨a1, cap1, bs1⟩, hcs1, ⟨hr1, hc1, hb1⟩⟩ := rdBytes _ _ _ hm1 hS1
  obtain ⟨z1, len1', cap1', rfl⟩ := okWide_slice Try.underlying22 (hval 1 22 v1 rfl rfl)
  simp [Value.cells] at hcs1
  obtain ⟨rfl, rfl, rfl⟩ := hcs1
  have lt2 : ∀ x ∈ p2, x.block < W.heap.size := by obtain ⟨m, hm⟩ := h2; exact DataW.trod_lt m _ _ _ hm
  have hS2 : (Meas.weights Try.prog H).S 48 d2 := fun n hn => of_decide_eq_true (List.all_eq_true.1 hsz n (DataW.weights_mem_each (j := 2) rfl rfl n hn))
  obtain ⟨m2, hm2⟩ := id h2
  obtain ⟨⟨a2, cap2, xs2⟩, hcs2, ⟨hr2, hx2, hc2, hb2⟩⟩ := rdStores _ _ _ hm2 hS2
  obtain ⟨z2, len2', cap2', rfl⟩ := okWide_slice Try.underlying48 (hval 2 48 v2 rfl rfl)
  simp [Value.cells] at hcs2
  obtain ⟨rfl, rfl, rfl⟩ := hcs2
  clear hA0 hval0
  refine Calls.mono (law_SurbDecodes st0 ks0 z1 _ cap1' bs1 z2 _ cap2' xs2 W ho0 hp0 hq0 hk0 hr0 hb0 rfl hr1 hb1 hc1 rfl hx2 hr2 hb2).law fun e W' ⟨he, bel⟩ => ?_
  subst he
  exact ⟨_, rfl, _, _, _, [], _, [], hW', trodAll_mk1 (shut_bool Try.underlying4 _), (trodAll_cons_mk (Below.trod laidOut (by kernel_rfl) (of_decide_eq_true (by kernel_rfl)) h0 bel lt0) (trodAll_cons_mk (Below.trod laidOut (by kernel_rfl) (of_decide_eq_true (by kernel_rfl)) h1 bel lt1) (trodAll_cons_mk (Below.trod laidOut (by kernel_rfl) (of_decide_eq_true (by kernel_rfl)) h2 bel lt2) trodAll_mk0))), rfl, bel.frame _, fun h => by cases h⟩

theorem proved : Rows.SurbDecodesSaid :=
  OpenClaim.holds_of_wide 4 Try.f4 rfl rfl rfl rfl rfl rfl rfl ⟨rfl, rfl, rfl, rfl, rfl⟩ rfl rfl rfl rfl rfl (by kernel_rfl) Try.func4 (by kernel_rfl)
    (of_decide_eq_true (by kernel_rfl)) (by unfold Func.isWrapper; first | (rw [if_pos (by decide +kernel)]; kernel_rfl) | (rw [if_neg (by decide +kernel)]; exact ⟨rfl, rfl⟩))
    (fun os started H enc _ => lifted os started H enc)
end Go.Proofs.Ytjalojbihpdghaa.surbDecodes
