/- slices.Backward: the closure and the iterator. -/
import Derived.Test.YtjalojbihpdghaaEngR
import Derived.Test.YtjalojbihpdghaaWide
namespace Go.Proofs.Ytjalojbihpdghaa
open Go Go.Eng
set_option linter.unusedVariables false

theorem rdf_key {w0 : World} {H : List It} {g o : Nat} {ks : List (List UInt8)} (h : Rdf w0 H (some ⟨g, o, none⟩) (keysC ks)) (hks : ∀ k ∈ ks, k.length = 32) (k o' : Nat) (hk : k < ks.length) (ho : o' = o + k * 32) : Cells w0 H g o' (B ks[k]) := fun i v hv => by
  subst ho
  have := h.cellOf (keysC_cells ks hks k hk i v hv)
  rwa [← Nat.add_assoc] at this


set_option maxRecDepth 100000 in
theorem back32_make (a : Option Addr) (m cap : Nat) (w : World) :
    Ret Try.prog 45 [.slice a m cap] w (fun v J => ∃ b, v = .func (.func 77) #[] [ptr b 0].toArray ∧ J = [nb b [.slice a m cap] 45]) := by
  refine enter [] (Mem.nil _) Try.func45 rfl Try.ntmps45 rfl (fun X hX => ?_)
  have hw := hX.w0; subst hw
  refine G.seq <| G.reg <| W.bxs rfl rfl rfl fun b1 => W.q (sa rfl) rfl <| W.nil <| G.seq <| G.reg <| W.q (mkf rfl) rfl <| W.q (sa rfl) rfl <| W.nil <| ret1 hX Try.results45 rfl fun w hm => done rfl ⟨b1, rfl, rfl⟩ hm


set_option maxRecDepth 100000 in
theorem back32_iter (w0 : World) (H : List It) (hH : allNew H = true) (L b : Nat) (a : Option Addr) (m cap : Nat) (ks : List (List UInt8)) (hks : ∀ k ∈ ks, k.length = 32) (hm : m = ks.length) (hmb : m ≤ 140737488351232) {σ : Type} (Its : Nat → σ → List It) (hn : ∀ k s, allNew (Its k s) = true) (hbox : ∀ k s, Rdf w0 (Its k s ++ H) (some ⟨b, 0, none⟩) [.slice a m cap]) (hel : ∀ k s, Rdf w0 (Its k s ++ H) a (keysC ks))
    (hy : ∀ k s, k < m → ∀ w, Mem w0 w (Its k s ++ H) → Eng.Yields Try.prog L [i64 ((m - 1 - k : Nat) : Int), .agg (B (ks.getD (m - 1 - k) [])).toArray] w fun w' => ∃ s', Mem w0 w' (Its (k + 1) s' ++ H)) (s0 : σ) :
    RetF Try.prog 77 [.func (.yield L) #[] #[], ptr b 0] w0 H (Its 0 s0) (fun _ J => ∃ s, J = Its m s) := by
  refine enterF Try.func77 rfl Try.ntmps77 rfl (fun X hX => ?_)
  have hw := hX.w0; subst hw
  refine G.seq <| G.reg <| W.q (ld Try.sc45 rfl ((hbox 0 s0).cellOf (i := 0) rfl)) rfl <| W.q (ln Try.esl45 rfl) rfl <| W.q (sb rfl rfl (by omega)) rfl <| W.q (sa rfl) rfl <| W.nil <| G.blk <| G.loop2 (α := Nat) (β := σ) (fun k s => k ≤ m) (fun k s => [(3, i64 ((m : Int) - 1 - (k : Int)))]) (fun k s => [] ++ Its k s) (fun k s => m - k) [(0, _), (1, _)] H 0 s0 (by omega) (Sub.co rfl ?_ <| Sub.cons rfl <| Sub.cons rfl <| Sub.nil _) .rfl (fun k s hkk ih => ?_)
  · show i64 _ = i64 _; congr 1; omega
  refine G.seq <| G.seq <| G.reg <| W.q (mv rfl) rfl <| W.q (ge rfl rfl) rfl <| W.nil <| G.cdd rfl (fun h1 => ?_) (fun h1 => ?_)
  · -- h1 True
    have hkm : k < m := by omega
    have hgd : ks.getD (m - 1 - k) [] = ks[m - 1 - k]'(by omega) := by rw [List.getD_eq_getElem?_getD, List.getElem?_eq_getElem (by omega)]; rfl
    refine G.rdA (a := a) (hel k s) (by rw [keysC_len ks hks]; omega) (fun zb zo ho => ?_)
    subst ho
    refine G.skip <| G.seq <| G.blk <| G.seq <| G.regY 6 rfl <| W.q (mv rfl) rfl <| W.q (mv rfl) rfl <| W.q (ld Try.sc45 rfl ((hbox k s).cellOf (i := 0) rfl)) rfl <| W.q (mv rfl) rfl <| W.q (ia Try.esl45 rfl rfl (by omega) (by omega)) rfl <| W.q (lda Try.agg24 Try.sz24 rfl (by have := rdf_key (hel k s) hks (m - 1 - k) (zo + ((m : Int) - 1 - (k : Int)).toNat * 32) (by omega) (by omega); exact this) (by rw [Bl]; exact hks _ (List.getElem_mem _))) rfl <| W.yield rfl rfl (fun w hm => by have := hy k s (by omega) w hm; rw [show ((m - 1 - k : Nat) : Int) = (m : Int) - 1 - (k : Int) by omega, hgd] at this; exact this) rfl fun s' => ?_
    refine W.q (nt rfl) rfl <| W.nil <| G.cdf rfl rfl <| G.skip <| G.inb <| G.reg <| W.q (mv rfl) rfl <| W.q (sb rfl rfl (by omega)) rfl <| W.q (sa rfl) rfl <| W.nil <| (ih (k + 1) s' (by omega) (by omega)).weak (Sub.co rfl ?_ <| Sub.cons rfl <| Sub.cons rfl <| Sub.nil _) .rfl
    all_goals clear ih
    · show i64 _ = i64 _; congr 1; omega
  · -- h1 False
    have hkm : k = m := by omega
    subst hkm
    refine G.exit rfl <| ret0 hX Try.results77 fun w hm => doneF (Pre' := Its k s) (hn k s) ⟨s, rfl⟩ hm .rfl


set_option maxRecDepth 100000 in
theorem backB_make (a : Option Addr) (m cap : Nat) (w : World) :
    Ret Try.prog 194 [.slice a m cap] w (fun v J => ∃ b, v = .func (.func 198) #[] [ptr b 0].toArray ∧ J = [nb b [.slice a m cap] 22]) := by
  refine enter [] (Mem.nil _) Try.func194 rfl Try.ntmps194 rfl (fun X hX => ?_)
  have hw := hX.w0; subst hw
  refine G.seq <| G.reg <| W.bxs rfl rfl rfl fun b1 => W.q (sa rfl) rfl <| W.nil <| G.seq <| G.reg <| W.q (mkf rfl) rfl <| W.q (sa rfl) rfl <| W.nil <| ret1 hX Try.results194 rfl fun w hm => done rfl ⟨b1, rfl, rfl⟩ hm


set_option maxRecDepth 100000 in
theorem backB_iter (w0 : World) (H : List It) (hH : allNew H = true) (L b : Nat) (a : Option Addr) (m cap : Nat) (ks : List UInt8) (hm : m = ks.length) (hmb : m ≤ 140737488351232) {σ : Type} (Its : Nat → σ → List It) (hn : ∀ k s, allNew (Its k s) = true) (hbox : ∀ k s, Rdf w0 (Its k s ++ H) (some ⟨b, 0, none⟩) [.slice a m cap]) (hel : ∀ k s, Rdf w0 (Its k s ++ H) a (B ks))
    (hy : ∀ k s, k < m → ∀ w, Mem w0 w (Its k s ++ H) → Eng.Yields Try.prog L [i64 ((m - 1 - k : Nat) : Int), u8 (ks.getD (m - 1 - k) 0)] w fun w' => ∃ s', Mem w0 w' (Its (k + 1) s' ++ H)) (s0 : σ) :
    RetF Try.prog 198 [.func (.yield L) #[] #[], ptr b 0] w0 H (Its 0 s0) (fun _ J => ∃ s, J = Its m s) := by
  refine enterF Try.func198 rfl Try.ntmps198 rfl (fun X hX => ?_)
  have hw := hX.w0; subst hw
  refine G.seq <| G.reg <| W.q (ld Try.sc22 rfl ((hbox 0 s0).cellOf (i := 0) rfl)) rfl <| W.q (ln Try.esl22 rfl) rfl <| W.q (sb rfl rfl (by omega)) rfl <| W.q (sa rfl) rfl <| W.nil <| G.blk <| G.loop2 (α := Nat) (β := σ) (fun k s => k ≤ m) (fun k s => [(3, i64 ((m : Int) - 1 - (k : Int)))]) (fun k s => [] ++ Its k s) (fun k s => m - k) [(0, _), (1, _)] H 0 s0 (by omega) (Sub.co rfl ?_ <| Sub.cons rfl <| Sub.cons rfl <| Sub.nil _) .rfl (fun k s hkk ih => ?_)
  · show i64 _ = i64 _; congr 1; omega
  refine G.seq <| G.seq <| G.reg <| W.q (mv rfl) rfl <| W.q (ge rfl rfl) rfl <| W.nil <| G.cdd rfl (fun h1 => ?_) (fun h1 => ?_)
  · -- h1 True
    have hkm : k < m := by omega
    have hgk : ks[m - 1 - k]? = some (ks[m - 1 - k]'(by omega)) := List.getElem?_eq_getElem (by omega)
    have hgd : ks.getD (m - 1 - k) 0 = ks[m - 1 - k]'(by omega) := by rw [List.getD_eq_getElem?_getD, hgk]; rfl
    refine G.rdA (a := a) (hel k s) (by rw [Bl]; omega) (fun zb zo ho => ?_)
    subst ho
    refine G.skip <| G.seq <| G.blk <| G.seq <| G.regY 6 rfl <| W.q (mv rfl) rfl <| W.q (mv rfl) rfl <| W.q (ld Try.sc22 rfl ((hbox k s).cellOf (i := 0) rfl)) rfl <| W.q (mv rfl) rfl <| W.q (ia Try.esl22 rfl rfl (by omega) (by omega)) rfl <| W.q (ld Try.sc5 rfl (by have := (hel k s).cellOf (B_get hgk); rwa [show zo + (m - 1 - k) = zo + ((m : Int) - 1 - (k : Int)).toNat * 1 by omega] at this)) rfl <| W.yield rfl rfl (fun w hm => by have := hy k s (by omega) w hm; rw [show ((m - 1 - k : Nat) : Int) = (m : Int) - 1 - (k : Int) by omega, hgd] at this; exact this) rfl fun s' => ?_
    refine W.q (nt rfl) rfl <| W.nil <| G.cdf rfl rfl <| G.skip <| G.inb <| G.reg <| W.q (mv rfl) rfl <| W.q (sb rfl rfl (by omega)) rfl <| W.q (sa rfl) rfl <| W.nil <| (ih (k + 1) s' (by omega) (by omega)).weak (Sub.co rfl ?_ <| Sub.cons rfl <| Sub.cons rfl <| Sub.nil _) .rfl
    all_goals clear ih
    · show i64 _ = i64 _; congr 1; omega
  · -- h1 False
    have hkm : k = m := by omega
    subst hkm
    refine G.exit rfl <| ret0 hX Try.results198 fun w hm => doneF (Pre' := Its k s) (hn k s) ⟨s, rfl⟩ hm .rfl
end Go.Proofs.Ytjalojbihpdghaa
