/- A cursor through bytes; a tape. -/
import Derived.Test.YtjalojbihpdghaaBytes1
namespace Go.Proofs.Ytjalojbihpdghaa
open Go Go.Eng
set_option linter.unusedVariables false

/-- What a cursor's taking answers: the bytes, the error's number, the place behind. -/
def takeR (bs : List UInt8) (at_ : Nat) (n : Int) : List UInt8 × Int × Nat :=
  if n < 0 then ([], 1, at_) else if (bs.length : Int) - at_ < n then ([], 2, at_) else ((bs.drop at_).take n.toNat, 0, at_ + n.toNat)
theorem set_self {α : Type} {xs : List α} {k : Nat} {x : α} (h : xs[k]? = some x) : xs.set k x = xs := by
  obtain ⟨hk, he⟩ := List.getElem?_eq_some_iff.1 h
  rw [← he]; exact List.set_getElem_self hk
theorem setAt_one (xs : List Value) (k : Nat) (v : Value) (h : k < xs.length) : setAt xs k [v] = xs.set k v := by
  rw [List.set_eq_take_append_cons_drop, if_pos h]; simp [setAt]
theorem Cell.of {w0 : World} {H : List It} {b o : Nat} {cs : List Value} {T : TypeId} {v : Value} (h : Has H b (.cells cs.toArray T (0, 0))) (hc : cs[o]? = some v) : Cell w0 H ⟨b, o, none⟩ v := Cell.at h hc


set_option maxRecDepth 100000 in
theorem cursor_Left (w0 : World) (H : List It) (hH : allNew H = true) (b o : Nat) (cs : List Value) (T : Nat) (a : Option Addr) (cap : Nat) (bs : List UInt8) (at_ : Nat) (hc0 : cs[o]? = some (.slice a bs.length cap)) (hc1 : cs[o + 1]? = some (i64 at_)) (hr : Rdf w0 H a (B bs)) (hb : bs.length ≤ 140737488351232) (hat : at_ ≤ bs.length) (hcap : bs.length ≤ cap) :
    RetF Try.prog 65 [ptr b o] w0 H [nb b cs T] (fun v P => v = i64 ((bs.length : Int) - at_) ∧ P = [nb b cs T]) := by
  refine enterF Try.func65 rfl Try.ntmps65 rfl (fun X hX => ?_)
  have hw := hX.w0; subst hw
  refine G.seq <| G.reg <| W.q (sa rfl) rfl <| W.nil <| G.seq <| G.regq Try.mixed (by kernel_rfl) <| W.q (mv rfl) rfl <| W.q (ncp rfl) rfl <| W.q (fa Try.fof149_0 rfl) rfl <| W.q (ld Try.sc22 rfl (Cell.at .hd hc0)) rfl <| W.q (ln Try.esl22 rfl) rfl <| W.q (mv rfl) rfl <| W.q (ncp rfl) rfl <| W.q (fa Try.fof149_1 rfl) rfl <| W.q (ld Try.sc3 rfl (Cell.at .hd hc1)) rfl <| W.q (sb rfl rfl (by omega)) rfl <| W.q (sa rfl) rfl <| W.nilq <| ret1 hX Try.results65 rfl fun w hm => doneF (Pre' := [nb b cs T]) rfl ⟨rfl, rfl⟩ hm .rfl


set_option maxRecDepth 100000 in
theorem cursor_Take (w0 : World) (H : List It) (hH : allNew H = true) (b o : Nat) (cs : List Value) (T : Nat) (a : Option Addr) (cap : Nat) (bs : List UInt8) (at_ : Nat) (hc0 : cs[o]? = some (.slice a bs.length cap)) (hc1 : cs[o + 1]? = some (i64 at_)) (hr : Rdf w0 H a (B bs)) (hb : bs.length ≤ 140737488351232) (hat : at_ ≤ bs.length) (hcap : bs.length ≤ cap) (n : Int) (hn : n ≤ 9223372036854775807) :
    RetF Try.prog 62 [ptr b o, i64 n] w0 H [nb b cs T] (fun v P => ∃ a' cap', v = .tuple #[.slice a' (takeR bs at_ n).1.length cap', i64 (takeR bs at_ n).2.1] ∧ P = [nb b (cs.set (o + 1) (i64 (takeR bs at_ n).2.2)) T, sl a' (takeR bs at_ n).1.length cap' 5 1 (B (takeR bs at_ n).1)]) := by
  refine enterF Try.func62 rfl Try.ntmps62 rfl (fun X hX => ?_)
  have hw := hX.w0; subst hw
  refine G.seq <| G.reg <| W.q (sa rfl) rfl <| W.q (sa rfl) rfl <| W.nil <| G.seq <| G.seq <| G.reg <| W.q (mv rfl) rfl <| W.q (lt rfl rfl) rfl <| W.nil <| G.cdd rfl (fun h1 => ?_) (fun h1 => ?_)
  · -- h1 True
    refine G.seq <| G.reg <| W.q (sa rfl) rfl <| W.q (sa rfl) rfl <| W.nil <| ret2 hX Try.results62 rfl rfl fun w hm => doneF (Pre' := [nb b cs T, sl none 0 0 5 1 []]) rfl ?_ (hm.slNil 5 1) (Ent.perm (.swap _ _ _))
    have e : takeR bs at_ n = ([], 1, at_) := by rw [takeR, if_pos h1]
    rw [e]
    exact ⟨none, 0, rfl, by rw [set_self hc1]; rfl⟩
  · -- h1 False
    refine G.skip <| G.seq <| G.seq <| G.reg <| W.q (mv rfl) rfl <| W.q (mv rfl) rfl <| W.ff Try.ca65 rfl (Ent.perm (.refl _)) (cursor_Left X.w0 _ hH b o cs T a cap bs at_ hc0 hc1 hr hb hat hcap) rfl rfl fun v J hv hJ => ?_
    obtain ⟨rfl, rfl⟩ := hv
    refine W.q (gt rfl rfl) rfl <| W.nil <| G.cdd rfl (fun h2 => ?_) (fun h2 => ?_)
    · -- h2 True
      refine G.seq <| G.reg <| W.q (sa rfl) rfl <| W.q (sa rfl) rfl <| W.nil <| ret2 hX Try.results62 rfl rfl fun w hm => doneF (Pre' := [nb b cs T, sl none 0 0 5 1 []]) rfl ?_ (hm.slNil 5 1) (Ent.perm (.swap _ _ _))
      have e : takeR bs at_ n = ([], 2, at_) := by rw [takeR, if_neg h1, if_pos h2]
      rw [e]
      exact ⟨none, 0, rfl, by rw [set_self hc1]; rfl⟩
    · -- h2 False
      have hsub : ∀ w, Mem X.w0 w ([nb b cs T] ++ H) → RdL w (slA a at_ cap 1) (B ((bs.drop at_).take n.toNat)) := fun w hm => by
        have := (((hr.slA (l := at_) (cap := cap) (s := 1) (by simp; omega)).take n.toNat).upJ (J := [nb b cs T]) rfl).at hm
        simpa [B, List.map_take, List.map_drop] using this
      have hlen : ((at_ : Int) + n).toNat - (at_ : Int).toNat = ((bs.drop at_).take n.toNat).length := by simp; omega
      refine G.skip <| G.seq <| G.regt 15 Try.mixed (by kernel_rfl) <| W.q (mv rfl) rfl <| W.q (ncp rfl) rfl <| W.q (fa Try.fof149_0 rfl) rfl <| W.q (ld Try.sc22 rfl (Cell.at .hd hc0)) rfl <| W.q (mv rfl) rfl <| W.q (ncp rfl) rfl <| W.q (fa Try.fof149_1 rfl) rfl <| W.q (ld Try.sc3 rfl (Cell.at .hd hc1)) rfl <| W.q (mv rfl) rfl <| W.q (ncp rfl) rfl <| W.q (fa Try.fof149_1 rfl) rfl <| W.q (ld Try.sc3 rfl (Cell.at .hd hc1)) rfl <| W.q (mv rfl) rfl <| W.q (ad rfl rfl (by omega)) rfl <| W.q (slh Try.esl22 rfl rfl rfl (by omega) (by omega) (by omega)) rfl <| W.nilt <| ?_
      rw [hlen]
      refine W.fn Try.ca57 rfl (fun w hm => bytes_Clone _ _ ((bs.drop at_).take n.toNat) w (hsub w hm) (by simp; omega)) rfl fun v J hv hJ => ?_
      obtain ⟨a1, c1, rfl, rfl⟩ := hv
      refine W.q (sa rfl) rfl <| W.nil <| G.seq <| G.reg <| W.q (mv rfl) rfl <| W.q (ncp rfl) rfl <| W.q (fa Try.fof149_1 rfl) rfl <| W.q (ld Try.sc3 rfl (Cell.at (.tl .hd) hc1)) rfl <| W.q (mv rfl) rfl <| W.q (ad rfl rfl (by omega)) rfl <| W.q (ncp rfl) rfl <| W.q (fa Try.fof149_1 rfl) rfl <| W.st (cs' := cs.set (o + 1) (i64 ((at_ : Int) + n))) Try.sz3 rfl rfl rfl rfl rfl (.tl <| .hd) (by have := (List.getElem?_eq_some_iff.1 hc1).1; omega) (setAt_one _ _ _ (List.getElem?_eq_some_iff.1 hc1).1) <| W.nil <| G.seq <| G.reg <| W.q (mv rfl) rfl <| W.q (sa rfl) rfl <| W.q (sa rfl) rfl <| W.nil <| ret2 hX Try.results62 rfl rfl fun w hm => doneF (Pre' := [nb b (cs.set (o + 1) (i64 ((at_ : Int) + n))) T, sl a1 ((bs.drop at_).take n.toNat).length c1 5 1 (B ((bs.drop at_).take n.toNat))]) rfl ?_ hm (Ent.perm (.swap _ _ _))
      have e : takeR bs at_ n = ((bs.drop at_).take n.toNat, 0, at_ + n.toNat) := by rw [takeR, if_neg h1, if_neg h2]
      rw [e]
      exact ⟨a1, c1, rfl, by simp only [show ((at_ + n.toNat : Nat) : Int) = (at_ : Int) + n by omega]⟩
end Go.Proofs.Ytjalojbihpdghaa
