/- The document's clock. -/
import Derived.Test.YtnbofpojbpmdmaaClock
namespace Go.Proofs.Ytnbofpojbpmdmaa
open Go Go.Eng
set_option linter.unusedVariables false


set_option maxRecDepth 100000 in
theorem ref08_Move (now to_ : Int) (s : Value) (w : World) (hs : ∃ a n cap, s = .slice a n cap) :
    Ret Try.prog 52 [.agg [i64 now, s].toArray, i64 to_] w (fun v _ => v = .tuple #[.agg #[i64 (moveR now to_).1, s], i64 (moveR now to_).2]) := by
  obtain ⟨a, n, cap, rfl⟩ := hs
  refine enter [] (Mem.nil _) Try.func52 rfl Try.ntmps52 rfl (fun X hX => ?_)
  have hw := hX.w0; subst hw
  refine G.seq <| G.reg <| W.bxa rfl rfl fun b1 => W.al Try.zrl105 rfl fun b2 => W.q (sa rfl) rfl <| W.nil <| G.seq <| G.seq <| G.reg <| W.q (mv rfl) rfl <| W.q (fa Try.fof105_0 rfl) rfl <| W.q (ld Try.sc3 rfl (Cell.at (.tl <| .hd) rfl)) rfl <| W.q (lt rfl rfl) rfl <| W.q (mv rfl) rfl <| W.sp (t := _) 10 rfl (fun g1 => ?_) (fun g1 => ?_)
  · -- True
    refine W.sk rfl rfl g1 rfl <| W.sk rfl rfl g1 rfl <| W.q (pkt rfl g1 rfl) rfl <| W.nil <| G.cdt rfl rfl <| G.seq <| G.reg <| W.q (lda Try.agg105 Try.sz105 rfl (Cells.whole (.tl <| .hd)) rfl) rfl <| W.sta Try.sz105 rfl rfl rfl rfl .hd rfl <| W.q (sa rfl) rfl <| W.nil <| ret hX Try.results52 (RA.cella rfl Try.agg105 Try.sz105 (Cells.whole .hd) rfl <| RA.tmp rfl <| RA.nil) fun w hm => done (H := []) rfl ?_ (Dr.ent (Dr.new rfl) w hm)
    rw [moveR, if_pos (.inl (by simpa using g1))]; rfl
  · -- False
    refine W.qg rfl rfl g1 (mv rfl) rfl <| W.qg rfl rfl g1 (gt rfl rfl) rfl <| W.q (pkf rfl g1 rfl) rfl <| W.nil <| G.cdd rfl (fun h2 => ?_) (fun h2 => ?_)
    · -- h2 True
      refine G.seq <| G.reg <| W.q (lda Try.agg105 Try.sz105 rfl (Cells.whole (.tl <| .hd)) rfl) rfl <| W.sta Try.sz105 rfl rfl rfl rfl .hd rfl <| W.q (sa rfl) rfl <| W.nil <| ret hX Try.results52 (RA.cella rfl Try.agg105 Try.sz105 (Cells.whole .hd) rfl <| RA.tmp rfl <| RA.nil) fun w hm => done (H := []) rfl ?_ (Dr.ent (Dr.new rfl) w hm)
      rw [moveR, if_pos (.inr h2)]; rfl
    · -- h2 False
      refine G.skip <| G.seq <| G.reg <| W.q (mv rfl) rfl <| W.q (fa Try.fof105_0 rfl) rfl <| W.st (cs' := [_, _]) Try.sz3 rfl rfl rfl rfl rfl (.tl <| .hd) (by simp) rfl <| W.nil <| G.seq <| G.reg <| W.q (lda Try.agg105 Try.sz105 rfl (Cells.whole (.tl <| .hd)) rfl) rfl <| W.sta Try.sz105 rfl rfl rfl rfl .hd rfl <| W.q (sa rfl) rfl <| W.nil <| ret hX Try.results52 (RA.cella rfl Try.agg105 Try.sz105 (Cells.whole .hd) rfl <| RA.tmp rfl <| RA.nil) fun w hm => done (H := []) rfl ?_ (Dr.ent (Dr.new rfl) w hm)
      rw [moveR, if_neg (fun h => h.elim (by simpa using g1) h2)]; rfl
end Go.Proofs.Ytnbofpojbpmdmaa
