/- The document's clock: its timers set and due. -/
import Derived.Test.YtnbofpojbpmdmaaClock2
namespace Go.Proofs.Ytnbofpojbpmdmaa
open Go Go.Eng
set_option linter.unusedVariables false
theorem RdL.none_two {w : World} {ts : List (Int × Int)} (h : RdL w none (ts.flatMap twoC)) : ts = [] := by
  have := RdL.none_nil h
  cases ts with
  | nil => rfl
  | cons x xs => simp [twoC] at this


set_option maxRecDepth 100000 in
theorem ref08_Set (w0 : World) (H : List It) (a : Option Addr) (cap : Nat) (now : Int) (ts : List (Int × Int)) (hts : ts.length ≤ 64) (after what : Int) :
    RetF Try.prog 48 [.agg [i64 now, .slice a ts.length cap].toArray, i64 after, i64 what] w0 H [sl a ts.length cap 154 2 (ts.flatMap twoC)] (fun v P => ∃ a' c', v = .tuple #[.agg #[i64 now, .slice a' (setR now ts after what).1.length c'], i64 (setR now ts after what).2] ∧ P = [sl a' (setR now ts after what).1.length c' 154 2 ((setR now ts after what).1.flatMap twoC)]) := by
  refine enterF Try.func48 rfl Try.ntmps48 rfl (fun X hX => ?_)
  have hw := hX.w0; subst hw
  refine G.seq <| G.reg <| W.bxa rfl rfl fun b1 => W.al Try.zrl105 rfl fun b2 => W.q (sa rfl) rfl <| W.nil <| G.seq <| G.seq <| G.reg <| W.q (mv rfl) rfl <| W.q (lt rfl rfl) rfl <| W.q (mv rfl) rfl <| W.sp (t := _) 10 rfl (fun g1 => ?_) (fun g1 => ?_)
  · -- True
    refine W.sk rfl rfl g1 rfl <| W.sk rfl rfl g1 rfl <| W.q (pkt rfl g1 rfl) rfl <| W.nil <| G.cdt rfl rfl <| G.seq <| G.reg <| W.q (lda Try.agg105 Try.sz105 rfl (Cells.whole (.tl <| .hd)) rfl) rfl <| W.sta Try.sz105 rfl rfl rfl rfl .hd rfl <| W.q (sa rfl) rfl <| W.nil <| ret hX Try.results48 (RA.cella rfl Try.agg105 Try.sz105 (Cells.whole .hd) rfl <| RA.tmp rfl <| RA.nil) fun w hm => doneF (Pre' := [sl a ts.length cap 154 2 (ts.flatMap twoC)]) rfl ⟨a, cap, ?_, ?_⟩ hm (Dr.ent (.drop rfl <| .drop rfl .rfl))
    all_goals have e : setR now ts after what = (ts, 1) := by rw [setR, if_pos (.inl (by simpa using g1))]
    all_goals rw [e]
    all_goals rfl
  · -- False
    refine W.qg rfl rfl g1 (mv rfl) rfl <| W.qg rfl rfl g1 (gt rfl rfl) rfl <| W.q (pkf rfl g1 rfl) rfl <| W.nil <| G.cdd rfl (fun h2 => ?_) (fun h2 => ?_)
    · -- h2 True
      refine G.seq <| G.reg <| W.q (lda Try.agg105 Try.sz105 rfl (Cells.whole (.tl <| .hd)) rfl) rfl <| W.sta Try.sz105 rfl rfl rfl rfl .hd rfl <| W.q (sa rfl) rfl <| W.nil <| ret hX Try.results48 (RA.cella rfl Try.agg105 Try.sz105 (Cells.whole .hd) rfl <| RA.tmp rfl <| RA.nil) fun w hm => doneF (Pre' := [sl a ts.length cap 154 2 (ts.flatMap twoC)]) rfl ⟨a, cap, ?_, ?_⟩ hm (Dr.ent (.drop rfl <| .drop rfl .rfl))
      all_goals have e : setR now ts after what = (ts, 1) := by rw [setR, if_pos (.inr h2)]
      all_goals rw [e]
      all_goals rfl
    · -- h2 False
      refine G.skip <| G.seq <| G.seq <| G.reg <| W.q (fa Try.fof105_1 rfl) rfl <| W.q (ld Try.sc103 rfl (Cell.at (.tl <| .hd) rfl)) rfl <| W.q (ln Try.esl103 rfl) rfl <| W.q (ge rfl rfl) rfl <| W.nil <| G.cdd rfl (fun h3 => ?_) (fun h3 => ?_)
      · -- h3 True
        refine G.seq <| G.reg <| W.q (lda Try.agg105 Try.sz105 rfl (Cells.whole (.tl <| .hd)) rfl) rfl <| W.sta Try.sz105 rfl rfl rfl rfl .hd rfl <| W.q (sa rfl) rfl <| W.nil <| ret hX Try.results48 (RA.cella rfl Try.agg105 Try.sz105 (Cells.whole .hd) rfl <| RA.tmp rfl <| RA.nil) fun w hm => doneF (Pre' := [sl a ts.length cap 154 2 (ts.flatMap twoC)]) rfl ⟨a, cap, ?_, ?_⟩ hm (Dr.ent (.drop rfl <| .drop rfl .rfl))
        all_goals have e : setR now ts after what = (ts, 11) := by rw [setR, if_neg (fun h => h.elim (by simpa using g1) h2), if_pos (by omega)]
        all_goals rw [e]
        all_goals rfl
      · -- h3 False
        refine G.slAt (a := a) (m := ts.length) (cap := cap) (E := 154) (s := 2) (xs := ts.flatMap twoC) (by simp) (fun q1 q2 q3 q4 => ?_)
        have hnil : a = none → ts.length = 0 := fun h => by
          rcases q4 with ⟨_, _, q⟩ | ⟨g, q⟩
          · exact q
          · rw [h] at q; cases q
        refine G.skip <| G.seq <| G.rega 14 rfl Try.mixed <| A.q 1 rfl (by kernel_rfl) (fun _ => (fa Try.fof105_1 rfl)) rfl <| A.q 4 rfl (by kernel_rfl) (fun _ => (fa Try.fof105_0 rfl)) rfl <| A.q 6 rfl (by kernel_rfl) (fun _ => (mv rfl)) rfl <| A.q 8 rfl (by kernel_rfl) (fun _ => (mv rfl)) rfl <| A.three 0 2 5 rfl rfl rfl (by kernel_rfl) ?_ ?_ ?_
        · -- o4: 0 first
          refine W.bs (cs := []) Try.underlying103 Try.sz154 Try.zrl154 rfl rfl rfl rfl fun b3 => W.ent (Ent.rowSl (m := 0) (cap := 0) (s := 2) (Nat.le_refl _) (by omega) (by simp [maxLen])) <| A.back <| A.two 2 5 rfl rfl (by kernel_rfl) ?_ ?_
          · -- o5: 2 first
            refine W.q (ld Try.sc103 rfl (Cell.at (.tl <| .tl <| .hd) rfl)) rfl <| A.back <| A.two 3 5 rfl rfl (by kernel_rfl) ?_ ?_
            · -- o6: 3 first
              refine W.ap Try.underlying103 Try.underlying103 Try.sz154 Try.zln154 Try.by154 rfl rfl (fun _ _ => .hd) (RdS.sl (.tail _ <| .tail _ <| .tail _ <| .head _)) (flat_len twoC 2 twoC_len ts) (twoC_one ts) hnil (by omega) (by omega) rfl fun a1 cap1 => A.back <| A.held 5 [] rfl (by kernel_rfl) (ld Try.sc3 rfl (Cell.at (.tl <| .tl <| .hd) rfl)) rfl <| A.q 7 rfl (by kernel_rfl) (fun _ => (adw rfl rfl)) rfl <| A.q 9 rfl (by kernel_rfl) (fun _ => (bld (cs := [_, _]) Try.stp154 rfl rfl)) rfl <| A.one 10 rfl (by kernel_rfl) <| W.bs (cs := [_, _]) Try.underlying103 Try.sz154 Try.zrl154 rfl rfl rfl rfl fun b4 => A.back <| A.one 11 rfl (by kernel_rfl) <| W.ap Try.underlying103 Try.underlying103 Try.sz154 Try.zln154 Try.by154 rfl rfl (fun _ _ => (.tl <| .hd)) (RdS.row .hd) rfl rfl (by simp) (by omega) (by omega) rfl fun a1 cap1 => A.back <| A.q 12 rfl (by kernel_rfl) (fun _ => (fa Try.fof105_1 rfl)) rfl <| A.one 13 rfl (by kernel_rfl) <| W.st (cs' := [_, _]) Try.sz103 rfl rfl rfl rfl rfl (.tl <| .tl <| .tl <| .hd) (by simp) rfl <| A.back <| A.nil (by kernel_rfl) <| G.seq <| G.reg <| W.q (lda Try.agg105 Try.sz105 rfl (Cells.whole (.tl <| .tl <| .tl <| .hd)) rfl) rfl <| W.sta Try.sz105 rfl rfl rfl rfl (.tl <| .tl <| .hd) rfl <| W.q (sa rfl) rfl <| W.nil <| ret hX Try.results48 (RA.cella rfl Try.agg105 Try.sz105 (Cells.whole (.tl <| .tl <| .hd)) rfl <| RA.tmp rfl <| RA.nil) fun w hm => doneF (Pre' := [sl a1 (0 + ts.length + 1) cap1 154 2 (List.take (0 * 2) [] ++ ts.flatMap twoC ++ [i64 (IntKind.i64.wrap (now + after)), i64 what])]) rfl ⟨a1, cap1, ?_, ?_⟩ hm (Dr.ent (.drop rfl <| .keep <| .drop rfl <| .drop rfl <| .drop rfl <| .rfl))
              all_goals have e : setR now ts after what = (ts ++ [(IntKind.i64.wrap (now + after), what)], 0) := by rw [setR, if_neg (fun h => h.elim (by simpa using g1) h2), if_neg (by omega)]
              all_goals rw [e]
              all_goals simp [twoC]
              all_goals rfl
            · -- o6: 5 first
              refine W.q (ld Try.sc3 rfl (Cell.at (.tl <| .tl <| .hd) rfl)) rfl <| A.back <| A.q 7 rfl (by kernel_rfl) (fun _ => (adw rfl rfl)) rfl <| A.q 9 rfl (by kernel_rfl) (fun _ => (bld (cs := [_, _]) Try.stp154 rfl rfl)) rfl <| A.two 3 10 rfl rfl (by kernel_rfl) ?_ ?_
              · -- o7: 3 first
                refine W.ap Try.underlying103 Try.underlying103 Try.sz154 Try.zln154 Try.by154 rfl rfl (fun _ _ => .hd) (RdS.sl (.tail _ <| .tail _ <| .tail _ <| .head _)) (flat_len twoC 2 twoC_len ts) (twoC_one ts) hnil (by omega) (by omega) rfl fun a1 cap1 => A.back <| A.one 10 rfl (by kernel_rfl) <| W.bs (cs := [_, _]) Try.underlying103 Try.sz154 Try.zrl154 rfl rfl rfl rfl fun b5 => A.back <| A.one 11 rfl (by kernel_rfl) <| W.ap Try.underlying103 Try.underlying103 Try.sz154 Try.zln154 Try.by154 rfl rfl (fun _ _ => (.tl <| .hd)) (RdS.row .hd) rfl rfl (by simp) (by omega) (by omega) rfl fun a1 cap1 => A.back <| A.q 12 rfl (by kernel_rfl) (fun _ => (fa Try.fof105_1 rfl)) rfl <| A.one 13 rfl (by kernel_rfl) <| W.st (cs' := [_, _]) Try.sz103 rfl rfl rfl rfl rfl (.tl <| .tl <| .tl <| .hd) (by simp) rfl <| A.back <| A.nil (by kernel_rfl) <| G.seq <| G.reg <| W.q (lda Try.agg105 Try.sz105 rfl (Cells.whole (.tl <| .tl <| .tl <| .hd)) rfl) rfl <| W.sta Try.sz105 rfl rfl rfl rfl (.tl <| .tl <| .hd) rfl <| W.q (sa rfl) rfl <| W.nil <| ret hX Try.results48 (RA.cella rfl Try.agg105 Try.sz105 (Cells.whole (.tl <| .tl <| .hd)) rfl <| RA.tmp rfl <| RA.nil) fun w hm => doneF (Pre' := [sl a1 (0 + ts.length + 1) cap1 154 2 (List.take (0 * 2) [] ++ ts.flatMap twoC ++ [i64 (IntKind.i64.wrap (now + after)), i64 what])]) rfl ⟨a1, cap1, ?_, ?_⟩ hm (Dr.ent (.drop rfl <| .keep <| .drop rfl <| .drop rfl <| .drop rfl <| .rfl))
                all_goals have e : setR now ts after what = (ts ++ [(IntKind.i64.wrap (now + after), what)], 0) := by rw [setR, if_neg (fun h => h.elim (by simpa using g1) h2), if_neg (by omega)]
                all_goals rw [e]
                all_goals simp [twoC]
                all_goals rfl
              · -- o7: 10 first
                refine W.bs (cs := [_, _]) Try.underlying103 Try.sz154 Try.zrl154 rfl rfl rfl rfl fun b6 => A.back <| A.one 3 rfl (by kernel_rfl) <| W.ap Try.underlying103 Try.underlying103 Try.sz154 Try.zln154 Try.by154 rfl rfl (fun _ _ => (.tl <| .hd)) (RdS.sl (.tail _ <| .tail _ <| .tail _ <| .tail _ <| .head _)) (flat_len twoC 2 twoC_len ts) (twoC_one ts) hnil (by omega) (by omega) rfl fun a1 cap1 => A.back <| A.one 11 rfl (by kernel_rfl) <| W.ap Try.underlying103 Try.underlying103 Try.sz154 Try.zln154 Try.by154 rfl rfl (fun _ _ => (.tl <| .hd)) (RdS.row .hd) rfl rfl (by simp) (by omega) (by omega) rfl fun a1 cap1 => A.back <| A.q 12 rfl (by kernel_rfl) (fun _ => (fa Try.fof105_1 rfl)) rfl <| A.one 13 rfl (by kernel_rfl) <| W.st (cs' := [_, _]) Try.sz103 rfl rfl rfl rfl rfl (.tl <| .tl <| .tl <| .hd) (by simp) rfl <| A.back <| A.nil (by kernel_rfl) <| G.seq <| G.reg <| W.q (lda Try.agg105 Try.sz105 rfl (Cells.whole (.tl <| .tl <| .tl <| .hd)) rfl) rfl <| W.sta Try.sz105 rfl rfl rfl rfl (.tl <| .tl <| .hd) rfl <| W.q (sa rfl) rfl <| W.nil <| ret hX Try.results48 (RA.cella rfl Try.agg105 Try.sz105 (Cells.whole (.tl <| .tl <| .hd)) rfl <| RA.tmp rfl <| RA.nil) fun w hm => doneF (Pre' := [sl a1 (0 + ts.length + 1) cap1 154 2 (List.take (0 * 2) [] ++ ts.flatMap twoC ++ [i64 (IntKind.i64.wrap (now + after)), i64 what])]) rfl ⟨a1, cap1, ?_, ?_⟩ hm (Dr.ent (.drop rfl <| .keep <| .drop rfl <| .drop rfl <| .drop rfl <| .rfl))
                all_goals have e : setR now ts after what = (ts ++ [(IntKind.i64.wrap (now + after), what)], 0) := by rw [setR, if_neg (fun h => h.elim (by simpa using g1) h2), if_neg (by omega)]
                all_goals rw [e]
                all_goals simp [twoC]
                all_goals rfl
          · -- o5: 5 first
            refine W.q (ld Try.sc3 rfl (Cell.at (.tl <| .tl <| .hd) rfl)) rfl <| A.back <| A.q 7 rfl (by kernel_rfl) (fun _ => (adw rfl rfl)) rfl <| A.q 9 rfl (by kernel_rfl) (fun _ => (bld (cs := [_, _]) Try.stp154 rfl rfl)) rfl <| A.held 2 [10] rfl (by kernel_rfl) (ld Try.sc103 rfl (Cell.at (.tl <| .tl <| .hd) rfl)) rfl <| A.two 3 10 rfl rfl (by kernel_rfl) ?_ ?_
            · -- o8: 3 first
              refine W.ap Try.underlying103 Try.underlying103 Try.sz154 Try.zln154 Try.by154 rfl rfl (fun _ _ => .hd) (RdS.sl (.tail _ <| .tail _ <| .tail _ <| .head _)) (flat_len twoC 2 twoC_len ts) (twoC_one ts) hnil (by omega) (by omega) rfl fun a1 cap1 => A.back <| A.one 10 rfl (by kernel_rfl) <| W.bs (cs := [_, _]) Try.underlying103 Try.sz154 Try.zrl154 rfl rfl rfl rfl fun b7 => A.back <| A.one 11 rfl (by kernel_rfl) <| W.ap Try.underlying103 Try.underlying103 Try.sz154 Try.zln154 Try.by154 rfl rfl (fun _ _ => (.tl <| .hd)) (RdS.row .hd) rfl rfl (by simp) (by omega) (by omega) rfl fun a1 cap1 => A.back <| A.q 12 rfl (by kernel_rfl) (fun _ => (fa Try.fof105_1 rfl)) rfl <| A.one 13 rfl (by kernel_rfl) <| W.st (cs' := [_, _]) Try.sz103 rfl rfl rfl rfl rfl (.tl <| .tl <| .tl <| .hd) (by simp) rfl <| A.back <| A.nil (by kernel_rfl) <| G.seq <| G.reg <| W.q (lda Try.agg105 Try.sz105 rfl (Cells.whole (.tl <| .tl <| .tl <| .hd)) rfl) rfl <| W.sta Try.sz105 rfl rfl rfl rfl (.tl <| .tl <| .hd) rfl <| W.q (sa rfl) rfl <| W.nil <| ret hX Try.results48 (RA.cella rfl Try.agg105 Try.sz105 (Cells.whole (.tl <| .tl <| .hd)) rfl <| RA.tmp rfl <| RA.nil) fun w hm => doneF (Pre' := [sl a1 (0 + ts.length + 1) cap1 154 2 (List.take (0 * 2) [] ++ ts.flatMap twoC ++ [i64 (IntKind.i64.wrap (now + after)), i64 what])]) rfl ⟨a1, cap1, ?_, ?_⟩ hm (Dr.ent (.drop rfl <| .keep <| .drop rfl <| .drop rfl <| .drop rfl <| .rfl))
              all_goals have e : setR now ts after what = (ts ++ [(IntKind.i64.wrap (now + after), what)], 0) := by rw [setR, if_neg (fun h => h.elim (by simpa using g1) h2), if_neg (by omega)]
              all_goals rw [e]
              all_goals simp [twoC]
              all_goals rfl
            · -- o8: 10 first
              refine W.bs (cs := [_, _]) Try.underlying103 Try.sz154 Try.zrl154 rfl rfl rfl rfl fun b8 => A.back <| A.one 3 rfl (by kernel_rfl) <| W.ap Try.underlying103 Try.underlying103 Try.sz154 Try.zln154 Try.by154 rfl rfl (fun _ _ => (.tl <| .hd)) (RdS.sl (.tail _ <| .tail _ <| .tail _ <| .tail _ <| .head _)) (flat_len twoC 2 twoC_len ts) (twoC_one ts) hnil (by omega) (by omega) rfl fun a1 cap1 => A.back <| A.one 11 rfl (by kernel_rfl) <| W.ap Try.underlying103 Try.underlying103 Try.sz154 Try.zln154 Try.by154 rfl rfl (fun _ _ => (.tl <| .hd)) (RdS.row .hd) rfl rfl (by simp) (by omega) (by omega) rfl fun a1 cap1 => A.back <| A.q 12 rfl (by kernel_rfl) (fun _ => (fa Try.fof105_1 rfl)) rfl <| A.one 13 rfl (by kernel_rfl) <| W.st (cs' := [_, _]) Try.sz103 rfl rfl rfl rfl rfl (.tl <| .tl <| .tl <| .hd) (by simp) rfl <| A.back <| A.nil (by kernel_rfl) <| G.seq <| G.reg <| W.q (lda Try.agg105 Try.sz105 rfl (Cells.whole (.tl <| .tl <| .tl <| .hd)) rfl) rfl <| W.sta Try.sz105 rfl rfl rfl rfl (.tl <| .tl <| .hd) rfl <| W.q (sa rfl) rfl <| W.nil <| ret hX Try.results48 (RA.cella rfl Try.agg105 Try.sz105 (Cells.whole (.tl <| .tl <| .hd)) rfl <| RA.tmp rfl <| RA.nil) fun w hm => doneF (Pre' := [sl a1 (0 + ts.length + 1) cap1 154 2 (List.take (0 * 2) [] ++ ts.flatMap twoC ++ [i64 (IntKind.i64.wrap (now + after)), i64 what])]) rfl ⟨a1, cap1, ?_, ?_⟩ hm (Dr.ent (.drop rfl <| .keep <| .drop rfl <| .drop rfl <| .drop rfl <| .rfl))
              all_goals have e : setR now ts after what = (ts ++ [(IntKind.i64.wrap (now + after), what)], 0) := by rw [setR, if_neg (fun h => h.elim (by simpa using g1) h2), if_neg (by omega)]
              all_goals rw [e]
              all_goals simp [twoC]
              all_goals rfl
        · -- o4: 2 first
          refine W.q (ld Try.sc103 rfl (Cell.at (.tl <| .hd) rfl)) rfl <| A.back <| A.two 0 5 rfl rfl (by kernel_rfl) ?_ ?_
          · -- o9: 0 first
            refine W.bs (cs := []) Try.underlying103 Try.sz154 Try.zrl154 rfl rfl rfl rfl fun b9 => W.ent (Ent.rowSl (m := 0) (cap := 0) (s := 2) (Nat.le_refl _) (by omega) (by simp [maxLen])) <| A.back <| A.two 3 5 rfl rfl (by kernel_rfl) ?_ ?_
            · -- o10: 3 first
              refine W.ap Try.underlying103 Try.underlying103 Try.sz154 Try.zln154 Try.by154 rfl rfl (fun _ _ => .hd) (RdS.sl (.tail _ <| .tail _ <| .tail _ <| .head _)) (flat_len twoC 2 twoC_len ts) (twoC_one ts) hnil (by omega) (by omega) rfl fun a1 cap1 => A.back <| A.held 5 [] rfl (by kernel_rfl) (ld Try.sc3 rfl (Cell.at (.tl <| .tl <| .hd) rfl)) rfl <| A.q 7 rfl (by kernel_rfl) (fun _ => (adw rfl rfl)) rfl <| A.q 9 rfl (by kernel_rfl) (fun _ => (bld (cs := [_, _]) Try.stp154 rfl rfl)) rfl <| A.one 10 rfl (by kernel_rfl) <| W.bs (cs := [_, _]) Try.underlying103 Try.sz154 Try.zrl154 rfl rfl rfl rfl fun b10 => A.back <| A.one 11 rfl (by kernel_rfl) <| W.ap Try.underlying103 Try.underlying103 Try.sz154 Try.zln154 Try.by154 rfl rfl (fun _ _ => (.tl <| .hd)) (RdS.row .hd) rfl rfl (by simp) (by omega) (by omega) rfl fun a1 cap1 => A.back <| A.q 12 rfl (by kernel_rfl) (fun _ => (fa Try.fof105_1 rfl)) rfl <| A.one 13 rfl (by kernel_rfl) <| W.st (cs' := [_, _]) Try.sz103 rfl rfl rfl rfl rfl (.tl <| .tl <| .tl <| .hd) (by simp) rfl <| A.back <| A.nil (by kernel_rfl) <| G.seq <| G.reg <| W.q (lda Try.agg105 Try.sz105 rfl (Cells.whole (.tl <| .tl <| .tl <| .hd)) rfl) rfl <| W.sta Try.sz105 rfl rfl rfl rfl (.tl <| .tl <| .hd) rfl <| W.q (sa rfl) rfl <| W.nil <| ret hX Try.results48 (RA.cella rfl Try.agg105 Try.sz105 (Cells.whole (.tl <| .tl <| .hd)) rfl <| RA.tmp rfl <| RA.nil) fun w hm => doneF (Pre' := [sl a1 (0 + ts.length + 1) cap1 154 2 (List.take (0 * 2) [] ++ ts.flatMap twoC ++ [i64 (IntKind.i64.wrap (now + after)), i64 what])]) rfl ⟨a1, cap1, ?_, ?_⟩ hm (Dr.ent (.drop rfl <| .keep <| .drop rfl <| .drop rfl <| .drop rfl <| .rfl))
              all_goals have e : setR now ts after what = (ts ++ [(IntKind.i64.wrap (now + after), what)], 0) := by rw [setR, if_neg (fun h => h.elim (by simpa using g1) h2), if_neg (by omega)]
              all_goals rw [e]
              all_goals simp [twoC]
              all_goals rfl
            · -- o10: 5 first
              refine W.q (ld Try.sc3 rfl (Cell.at (.tl <| .tl <| .hd) rfl)) rfl <| A.back <| A.q 7 rfl (by kernel_rfl) (fun _ => (adw rfl rfl)) rfl <| A.q 9 rfl (by kernel_rfl) (fun _ => (bld (cs := [_, _]) Try.stp154 rfl rfl)) rfl <| A.two 3 10 rfl rfl (by kernel_rfl) ?_ ?_
              · -- o11: 3 first
                refine W.ap Try.underlying103 Try.underlying103 Try.sz154 Try.zln154 Try.by154 rfl rfl (fun _ _ => .hd) (RdS.sl (.tail _ <| .tail _ <| .tail _ <| .head _)) (flat_len twoC 2 twoC_len ts) (twoC_one ts) hnil (by omega) (by omega) rfl fun a1 cap1 => A.back <| A.one 10 rfl (by kernel_rfl) <| W.bs (cs := [_, _]) Try.underlying103 Try.sz154 Try.zrl154 rfl rfl rfl rfl fun b11 => A.back <| A.one 11 rfl (by kernel_rfl) <| W.ap Try.underlying103 Try.underlying103 Try.sz154 Try.zln154 Try.by154 rfl rfl (fun _ _ => (.tl <| .hd)) (RdS.row .hd) rfl rfl (by simp) (by omega) (by omega) rfl fun a1 cap1 => A.back <| A.q 12 rfl (by kernel_rfl) (fun _ => (fa Try.fof105_1 rfl)) rfl <| A.one 13 rfl (by kernel_rfl) <| W.st (cs' := [_, _]) Try.sz103 rfl rfl rfl rfl rfl (.tl <| .tl <| .tl <| .hd) (by simp) rfl <| A.back <| A.nil (by kernel_rfl) <| G.seq <| G.reg <| W.q (lda Try.agg105 Try.sz105 rfl (Cells.whole (.tl <| .tl <| .tl <| .hd)) rfl) rfl <| W.sta Try.sz105 rfl rfl rfl rfl (.tl <| .tl <| .hd) rfl <| W.q (sa rfl) rfl <| W.nil <| ret hX Try.results48 (RA.cella rfl Try.agg105 Try.sz105 (Cells.whole (.tl <| .tl <| .hd)) rfl <| RA.tmp rfl <| RA.nil) fun w hm => doneF (Pre' := [sl a1 (0 + ts.length + 1) cap1 154 2 (List.take (0 * 2) [] ++ ts.flatMap twoC ++ [i64 (IntKind.i64.wrap (now + after)), i64 what])]) rfl ⟨a1, cap1, ?_, ?_⟩ hm (Dr.ent (.drop rfl <| .keep <| .drop rfl <| .drop rfl <| .drop rfl <| .rfl))
                all_goals have e : setR now ts after what = (ts ++ [(IntKind.i64.wrap (now + after), what)], 0) := by rw [setR, if_neg (fun h => h.elim (by simpa using g1) h2), if_neg (by omega)]
                all_goals rw [e]
                all_goals simp [twoC]
                all_goals rfl
              · -- o11: 10 first
                refine W.bs (cs := [_, _]) Try.underlying103 Try.sz154 Try.zrl154 rfl rfl rfl rfl fun b12 => A.back <| A.one 3 rfl (by kernel_rfl) <| W.ap Try.underlying103 Try.underlying103 Try.sz154 Try.zln154 Try.by154 rfl rfl (fun _ _ => (.tl <| .hd)) (RdS.sl (.tail _ <| .tail _ <| .tail _ <| .tail _ <| .head _)) (flat_len twoC 2 twoC_len ts) (twoC_one ts) hnil (by omega) (by omega) rfl fun a1 cap1 => A.back <| A.one 11 rfl (by kernel_rfl) <| W.ap Try.underlying103 Try.underlying103 Try.sz154 Try.zln154 Try.by154 rfl rfl (fun _ _ => (.tl <| .hd)) (RdS.row .hd) rfl rfl (by simp) (by omega) (by omega) rfl fun a1 cap1 => A.back <| A.q 12 rfl (by kernel_rfl) (fun _ => (fa Try.fof105_1 rfl)) rfl <| A.one 13 rfl (by kernel_rfl) <| W.st (cs' := [_, _]) Try.sz103 rfl rfl rfl rfl rfl (.tl <| .tl <| .tl <| .hd) (by simp) rfl <| A.back <| A.nil (by kernel_rfl) <| G.seq <| G.reg <| W.q (lda Try.agg105 Try.sz105 rfl (Cells.whole (.tl <| .tl <| .tl <| .hd)) rfl) rfl <| W.sta Try.sz105 rfl rfl rfl rfl (.tl <| .tl <| .hd) rfl <| W.q (sa rfl) rfl <| W.nil <| ret hX Try.results48 (RA.cella rfl Try.agg105 Try.sz105 (Cells.whole (.tl <| .tl <| .hd)) rfl <| RA.tmp rfl <| RA.nil) fun w hm => doneF (Pre' := [sl a1 (0 + ts.length + 1) cap1 154 2 (List.take (0 * 2) [] ++ ts.flatMap twoC ++ [i64 (IntKind.i64.wrap (now + after)), i64 what])]) rfl ⟨a1, cap1, ?_, ?_⟩ hm (Dr.ent (.drop rfl <| .keep <| .drop rfl <| .drop rfl <| .drop rfl <| .rfl))
                all_goals have e : setR now ts after what = (ts ++ [(IntKind.i64.wrap (now + after), what)], 0) := by rw [setR, if_neg (fun h => h.elim (by simpa using g1) h2), if_neg (by omega)]
                all_goals rw [e]
                all_goals simp [twoC]
                all_goals rfl
          · -- o9: 5 first
            refine W.q (ld Try.sc3 rfl (Cell.at (.tl <| .hd) rfl)) rfl <| A.back <| A.q 7 rfl (by kernel_rfl) (fun _ => (adw rfl rfl)) rfl <| A.q 9 rfl (by kernel_rfl) (fun _ => (bld (cs := [_, _]) Try.stp154 rfl rfl)) rfl <| A.two 0 10 rfl rfl (by kernel_rfl) ?_ ?_
            · -- o12: 0 first
              refine W.bs (cs := []) Try.underlying103 Try.sz154 Try.zrl154 rfl rfl rfl rfl fun b13 => W.ent (Ent.rowSl (m := 0) (cap := 0) (s := 2) (Nat.le_refl _) (by omega) (by simp [maxLen])) <| A.back <| A.two 3 10 rfl rfl (by kernel_rfl) ?_ ?_
              · -- o13: 3 first
                refine W.ap Try.underlying103 Try.underlying103 Try.sz154 Try.zln154 Try.by154 rfl rfl (fun _ _ => .hd) (RdS.sl (.tail _ <| .tail _ <| .tail _ <| .head _)) (flat_len twoC 2 twoC_len ts) (twoC_one ts) hnil (by omega) (by omega) rfl fun a1 cap1 => A.back <| A.one 10 rfl (by kernel_rfl) <| W.bs (cs := [_, _]) Try.underlying103 Try.sz154 Try.zrl154 rfl rfl rfl rfl fun b14 => A.back <| A.one 11 rfl (by kernel_rfl) <| W.ap Try.underlying103 Try.underlying103 Try.sz154 Try.zln154 Try.by154 rfl rfl (fun _ _ => (.tl <| .hd)) (RdS.row .hd) rfl rfl (by simp) (by omega) (by omega) rfl fun a1 cap1 => A.back <| A.q 12 rfl (by kernel_rfl) (fun _ => (fa Try.fof105_1 rfl)) rfl <| A.one 13 rfl (by kernel_rfl) <| W.st (cs' := [_, _]) Try.sz103 rfl rfl rfl rfl rfl (.tl <| .tl <| .tl <| .hd) (by simp) rfl <| A.back <| A.nil (by kernel_rfl) <| G.seq <| G.reg <| W.q (lda Try.agg105 Try.sz105 rfl (Cells.whole (.tl <| .tl <| .tl <| .hd)) rfl) rfl <| W.sta Try.sz105 rfl rfl rfl rfl (.tl <| .tl <| .hd) rfl <| W.q (sa rfl) rfl <| W.nil <| ret hX Try.results48 (RA.cella rfl Try.agg105 Try.sz105 (Cells.whole (.tl <| .tl <| .hd)) rfl <| RA.tmp rfl <| RA.nil) fun w hm => doneF (Pre' := [sl a1 (0 + ts.length + 1) cap1 154 2 (List.take (0 * 2) [] ++ ts.flatMap twoC ++ [i64 (IntKind.i64.wrap (now + after)), i64 what])]) rfl ⟨a1, cap1, ?_, ?_⟩ hm (Dr.ent (.drop rfl <| .keep <| .drop rfl <| .drop rfl <| .drop rfl <| .rfl))
                all_goals have e : setR now ts after what = (ts ++ [(IntKind.i64.wrap (now + after), what)], 0) := by rw [setR, if_neg (fun h => h.elim (by simpa using g1) h2), if_neg (by omega)]
                all_goals rw [e]
                all_goals simp [twoC]
                all_goals rfl
              · -- o13: 10 first
                refine W.bs (cs := [_, _]) Try.underlying103 Try.sz154 Try.zrl154 rfl rfl rfl rfl fun b15 => A.back <| A.one 3 rfl (by kernel_rfl) <| W.ap Try.underlying103 Try.underlying103 Try.sz154 Try.zln154 Try.by154 rfl rfl (fun _ _ => (.tl <| .hd)) (RdS.sl (.tail _ <| .tail _ <| .tail _ <| .tail _ <| .head _)) (flat_len twoC 2 twoC_len ts) (twoC_one ts) hnil (by omega) (by omega) rfl fun a1 cap1 => A.back <| A.one 11 rfl (by kernel_rfl) <| W.ap Try.underlying103 Try.underlying103 Try.sz154 Try.zln154 Try.by154 rfl rfl (fun _ _ => (.tl <| .hd)) (RdS.row .hd) rfl rfl (by simp) (by omega) (by omega) rfl fun a1 cap1 => A.back <| A.q 12 rfl (by kernel_rfl) (fun _ => (fa Try.fof105_1 rfl)) rfl <| A.one 13 rfl (by kernel_rfl) <| W.st (cs' := [_, _]) Try.sz103 rfl rfl rfl rfl rfl (.tl <| .tl <| .tl <| .hd) (by simp) rfl <| A.back <| A.nil (by kernel_rfl) <| G.seq <| G.reg <| W.q (lda Try.agg105 Try.sz105 rfl (Cells.whole (.tl <| .tl <| .tl <| .hd)) rfl) rfl <| W.sta Try.sz105 rfl rfl rfl rfl (.tl <| .tl <| .hd) rfl <| W.q (sa rfl) rfl <| W.nil <| ret hX Try.results48 (RA.cella rfl Try.agg105 Try.sz105 (Cells.whole (.tl <| .tl <| .hd)) rfl <| RA.tmp rfl <| RA.nil) fun w hm => doneF (Pre' := [sl a1 (0 + ts.length + 1) cap1 154 2 (List.take (0 * 2) [] ++ ts.flatMap twoC ++ [i64 (IntKind.i64.wrap (now + after)), i64 what])]) rfl ⟨a1, cap1, ?_, ?_⟩ hm (Dr.ent (.drop rfl <| .keep <| .drop rfl <| .drop rfl <| .drop rfl <| .rfl))
                all_goals have e : setR now ts after what = (ts ++ [(IntKind.i64.wrap (now + after), what)], 0) := by rw [setR, if_neg (fun h => h.elim (by simpa using g1) h2), if_neg (by omega)]
                all_goals rw [e]
                all_goals simp [twoC]
                all_goals rfl
            · -- o12: 10 first
              refine W.bs (cs := [_, _]) Try.underlying103 Try.sz154 Try.zrl154 rfl rfl rfl rfl fun b16 => A.back <| A.one 0 rfl (by kernel_rfl) <| W.bs (cs := []) Try.underlying103 Try.sz154 Try.zrl154 rfl rfl rfl rfl fun b17 => W.ent (Ent.rowSl (m := 0) (cap := 0) (s := 2) (Nat.le_refl _) (by omega) (by simp [maxLen])) <| A.back <| A.one 3 rfl (by kernel_rfl) <| W.ap Try.underlying103 Try.underlying103 Try.sz154 Try.zln154 Try.by154 rfl rfl (fun _ _ => .hd) (RdS.sl (.tail _ <| .tail _ <| .tail _ <| .tail _ <| .head _)) (flat_len twoC 2 twoC_len ts) (twoC_one ts) hnil (by omega) (by omega) rfl fun a1 cap1 => A.back <| A.one 11 rfl (by kernel_rfl) <| W.ap Try.underlying103 Try.underlying103 Try.sz154 Try.zln154 Try.by154 rfl rfl (fun _ _ => .hd) (RdS.row (.tl <| .hd)) rfl rfl (by simp) (by omega) (by omega) rfl fun a1 cap1 => A.back <| A.q 12 rfl (by kernel_rfl) (fun _ => (fa Try.fof105_1 rfl)) rfl <| A.one 13 rfl (by kernel_rfl) <| W.st (cs' := [_, _]) Try.sz103 rfl rfl rfl rfl rfl (.tl <| .tl <| .tl <| .hd) (by simp) rfl <| A.back <| A.nil (by kernel_rfl) <| G.seq <| G.reg <| W.q (lda Try.agg105 Try.sz105 rfl (Cells.whole (.tl <| .tl <| .tl <| .hd)) rfl) rfl <| W.sta Try.sz105 rfl rfl rfl rfl (.tl <| .tl <| .hd) rfl <| W.q (sa rfl) rfl <| W.nil <| ret hX Try.results48 (RA.cella rfl Try.agg105 Try.sz105 (Cells.whole (.tl <| .tl <| .hd)) rfl <| RA.tmp rfl <| RA.nil) fun w hm => doneF (Pre' := [sl a1 (0 + ts.length + 1) cap1 154 2 (List.take (0 * 2) [] ++ ts.flatMap twoC ++ [i64 (IntKind.i64.wrap (now + after)), i64 what])]) rfl ⟨a1, cap1, ?_, ?_⟩ hm (Dr.ent (.keep <| .drop rfl <| .drop rfl <| .drop rfl <| .drop rfl <| .rfl))
              all_goals have e : setR now ts after what = (ts ++ [(IntKind.i64.wrap (now + after), what)], 0) := by rw [setR, if_neg (fun h => h.elim (by simpa using g1) h2), if_neg (by omega)]
              all_goals rw [e]
              all_goals simp [twoC]
              all_goals rfl
        · -- o4: 5 first
          refine W.q (ld Try.sc3 rfl (Cell.at (.tl <| .hd) rfl)) rfl <| A.back <| A.q 7 rfl (by kernel_rfl) (fun _ => (adw rfl rfl)) rfl <| A.q 9 rfl (by kernel_rfl) (fun _ => (bld (cs := [_, _]) Try.stp154 rfl rfl)) rfl <| A.held 2 [0, 10] rfl (by kernel_rfl) (ld Try.sc103 rfl (Cell.at (.tl <| .hd) rfl)) rfl <| A.two 0 10 rfl rfl (by kernel_rfl) ?_ ?_
          · -- o14: 0 first
            refine W.bs (cs := []) Try.underlying103 Try.sz154 Try.zrl154 rfl rfl rfl rfl fun b18 => W.ent (Ent.rowSl (m := 0) (cap := 0) (s := 2) (Nat.le_refl _) (by omega) (by simp [maxLen])) <| A.back <| A.two 3 10 rfl rfl (by kernel_rfl) ?_ ?_
            · -- o15: 3 first
              refine W.ap Try.underlying103 Try.underlying103 Try.sz154 Try.zln154 Try.by154 rfl rfl (fun _ _ => .hd) (RdS.sl (.tail _ <| .tail _ <| .tail _ <| .head _)) (flat_len twoC 2 twoC_len ts) (twoC_one ts) hnil (by omega) (by omega) rfl fun a1 cap1 => A.back <| A.one 10 rfl (by kernel_rfl) <| W.bs (cs := [_, _]) Try.underlying103 Try.sz154 Try.zrl154 rfl rfl rfl rfl fun b19 => A.back <| A.one 11 rfl (by kernel_rfl) <| W.ap Try.underlying103 Try.underlying103 Try.sz154 Try.zln154 Try.by154 rfl rfl (fun _ _ => (.tl <| .hd)) (RdS.row .hd) rfl rfl (by simp) (by omega) (by omega) rfl fun a1 cap1 => A.back <| A.q 12 rfl (by kernel_rfl) (fun _ => (fa Try.fof105_1 rfl)) rfl <| A.one 13 rfl (by kernel_rfl) <| W.st (cs' := [_, _]) Try.sz103 rfl rfl rfl rfl rfl (.tl <| .tl <| .tl <| .hd) (by simp) rfl <| A.back <| A.nil (by kernel_rfl) <| G.seq <| G.reg <| W.q (lda Try.agg105 Try.sz105 rfl (Cells.whole (.tl <| .tl <| .tl <| .hd)) rfl) rfl <| W.sta Try.sz105 rfl rfl rfl rfl (.tl <| .tl <| .hd) rfl <| W.q (sa rfl) rfl <| W.nil <| ret hX Try.results48 (RA.cella rfl Try.agg105 Try.sz105 (Cells.whole (.tl <| .tl <| .hd)) rfl <| RA.tmp rfl <| RA.nil) fun w hm => doneF (Pre' := [sl a1 (0 + ts.length + 1) cap1 154 2 (List.take (0 * 2) [] ++ ts.flatMap twoC ++ [i64 (IntKind.i64.wrap (now + after)), i64 what])]) rfl ⟨a1, cap1, ?_, ?_⟩ hm (Dr.ent (.drop rfl <| .keep <| .drop rfl <| .drop rfl <| .drop rfl <| .rfl))
              all_goals have e : setR now ts after what = (ts ++ [(IntKind.i64.wrap (now + after), what)], 0) := by rw [setR, if_neg (fun h => h.elim (by simpa using g1) h2), if_neg (by omega)]
              all_goals rw [e]
              all_goals simp [twoC]
              all_goals rfl
            · -- o15: 10 first
              refine W.bs (cs := [_, _]) Try.underlying103 Try.sz154 Try.zrl154 rfl rfl rfl rfl fun b20 => A.back <| A.one 3 rfl (by kernel_rfl) <| W.ap Try.underlying103 Try.underlying103 Try.sz154 Try.zln154 Try.by154 rfl rfl (fun _ _ => (.tl <| .hd)) (RdS.sl (.tail _ <| .tail _ <| .tail _ <| .tail _ <| .head _)) (flat_len twoC 2 twoC_len ts) (twoC_one ts) hnil (by omega) (by omega) rfl fun a1 cap1 => A.back <| A.one 11 rfl (by kernel_rfl) <| W.ap Try.underlying103 Try.underlying103 Try.sz154 Try.zln154 Try.by154 rfl rfl (fun _ _ => (.tl <| .hd)) (RdS.row .hd) rfl rfl (by simp) (by omega) (by omega) rfl fun a1 cap1 => A.back <| A.q 12 rfl (by kernel_rfl) (fun _ => (fa Try.fof105_1 rfl)) rfl <| A.one 13 rfl (by kernel_rfl) <| W.st (cs' := [_, _]) Try.sz103 rfl rfl rfl rfl rfl (.tl <| .tl <| .tl <| .hd) (by simp) rfl <| A.back <| A.nil (by kernel_rfl) <| G.seq <| G.reg <| W.q (lda Try.agg105 Try.sz105 rfl (Cells.whole (.tl <| .tl <| .tl <| .hd)) rfl) rfl <| W.sta Try.sz105 rfl rfl rfl rfl (.tl <| .tl <| .hd) rfl <| W.q (sa rfl) rfl <| W.nil <| ret hX Try.results48 (RA.cella rfl Try.agg105 Try.sz105 (Cells.whole (.tl <| .tl <| .hd)) rfl <| RA.tmp rfl <| RA.nil) fun w hm => doneF (Pre' := [sl a1 (0 + ts.length + 1) cap1 154 2 (List.take (0 * 2) [] ++ ts.flatMap twoC ++ [i64 (IntKind.i64.wrap (now + after)), i64 what])]) rfl ⟨a1, cap1, ?_, ?_⟩ hm (Dr.ent (.drop rfl <| .keep <| .drop rfl <| .drop rfl <| .drop rfl <| .rfl))
              all_goals have e : setR now ts after what = (ts ++ [(IntKind.i64.wrap (now + after), what)], 0) := by rw [setR, if_neg (fun h => h.elim (by simpa using g1) h2), if_neg (by omega)]
              all_goals rw [e]
              all_goals simp [twoC]
              all_goals rfl
          · -- o14: 10 first
            refine W.bs (cs := [_, _]) Try.underlying103 Try.sz154 Try.zrl154 rfl rfl rfl rfl fun b21 => A.back <| A.one 0 rfl (by kernel_rfl) <| W.bs (cs := []) Try.underlying103 Try.sz154 Try.zrl154 rfl rfl rfl rfl fun b22 => W.ent (Ent.rowSl (m := 0) (cap := 0) (s := 2) (Nat.le_refl _) (by omega) (by simp [maxLen])) <| A.back <| A.one 3 rfl (by kernel_rfl) <| W.ap Try.underlying103 Try.underlying103 Try.sz154 Try.zln154 Try.by154 rfl rfl (fun _ _ => .hd) (RdS.sl (.tail _ <| .tail _ <| .tail _ <| .tail _ <| .head _)) (flat_len twoC 2 twoC_len ts) (twoC_one ts) hnil (by omega) (by omega) rfl fun a1 cap1 => A.back <| A.one 11 rfl (by kernel_rfl) <| W.ap Try.underlying103 Try.underlying103 Try.sz154 Try.zln154 Try.by154 rfl rfl (fun _ _ => .hd) (RdS.row (.tl <| .hd)) rfl rfl (by simp) (by omega) (by omega) rfl fun a1 cap1 => A.back <| A.q 12 rfl (by kernel_rfl) (fun _ => (fa Try.fof105_1 rfl)) rfl <| A.one 13 rfl (by kernel_rfl) <| W.st (cs' := [_, _]) Try.sz103 rfl rfl rfl rfl rfl (.tl <| .tl <| .tl <| .hd) (by simp) rfl <| A.back <| A.nil (by kernel_rfl) <| G.seq <| G.reg <| W.q (lda Try.agg105 Try.sz105 rfl (Cells.whole (.tl <| .tl <| .tl <| .hd)) rfl) rfl <| W.sta Try.sz105 rfl rfl rfl rfl (.tl <| .tl <| .hd) rfl <| W.q (sa rfl) rfl <| W.nil <| ret hX Try.results48 (RA.cella rfl Try.agg105 Try.sz105 (Cells.whole (.tl <| .tl <| .hd)) rfl <| RA.tmp rfl <| RA.nil) fun w hm => doneF (Pre' := [sl a1 (0 + ts.length + 1) cap1 154 2 (List.take (0 * 2) [] ++ ts.flatMap twoC ++ [i64 (IntKind.i64.wrap (now + after)), i64 what])]) rfl ⟨a1, cap1, ?_, ?_⟩ hm (Dr.ent (.keep <| .drop rfl <| .drop rfl <| .drop rfl <| .drop rfl <| .rfl))
            all_goals have e : setR now ts after what = (ts ++ [(IntKind.i64.wrap (now + after), what)], 0) := by rw [setR, if_neg (fun h => h.elim (by simpa using g1) h2), if_neg (by omega)]
            all_goals rw [e]
            all_goals simp [twoC]
            all_goals rfl

/-- The timers but one, as far as they are copied. -/
def lft (ts : List (Int × Int)) (m i : Nat) : List (Int × Int) := (ts.take i).eraseIdx m
theorem lft_step (ts : List (Int × Int)) (m i : Nat) (hi : i < ts.length) (h : i ≠ m) : lft ts m (i + 1) = lft ts m i ++ [ts[i]] := by
  unfold lft
  rw [List.take_succ_eq_append_getElem hi]
  rcases Nat.lt_or_ge m i with q | q
  · rw [List.eraseIdx_append_of_lt_length (by simp; omega)]
  · rw [List.eraseIdx_of_length_le (by simp; omega), List.eraseIdx_of_length_le (by simp; omega)]
theorem lft_at (ts : List (Int × Int)) (m : Nat) (hi : m < ts.length) : lft ts m (m + 1) = lft ts m m := by
  unfold lft
  have hl : (ts.take m).length = m := by simp; omega
  rw [List.take_succ_eq_append_getElem hi, List.eraseIdx_append_of_length_le (by omega), List.eraseIdx_of_length_le (by omega : (ts.take m).length ≤ m), hl]
  simp
theorem lft_len (ts : List (Int × Int)) (m i : Nat) : (lft ts m i).length ≤ ts.length := by
  have h1 : (lft ts m i).length ≤ (ts.take i).length := List.length_eraseIdx_le _ _
  simp at h1; omega


set_option maxRecDepth 100000 in
theorem ref08_Due (w0 : World) (H : List It) (a : Option Addr) (cap : Nat) (now : Int) (ts : List (Int × Int)) (hts : ts.length ≤ 64) (u : Int) :
    RetF Try.prog 50 [.agg [i64 now, .slice a ts.length cap].toArray, i64 u] w0 H [sl a ts.length cap 154 2 (ts.flatMap twoC)] (fun v P => ∃ a' c', v = .tuple #[.agg #[i64 (dueR now ts u).1, .slice a' (dueR now ts u).2.1.length c'], i64 (dueR now ts u).2.2.1, .bool (dueR now ts u).2.2.2] ∧ P = [sl a' (dueR now ts u).2.1.length c' 154 2 ((dueR now ts u).2.1.flatMap twoC)]) := by
  refine enterF Try.func50 rfl Try.ntmps50 rfl (fun X hX => ?_)
  have hw := hX.w0; subst hw
  refine G.seq <| G.reg <| W.bxa rfl rfl fun b1 => W.al Try.zrl105 rfl fun b2 => W.q (sa rfl) rfl <| W.q (sa rfl) rfl <| W.nil <| G.seq <| G.reg <| W.q (sa rfl) rfl <| W.nil <| G.seq <| G.seq <| G.reg <| W.q (fa Try.fof105_1 rfl) rfl <| W.q (ld Try.sc103 rfl (Cell.at (.tl <| .hd) rfl)) rfl <| W.q (ln Try.esl103 rfl) rfl <| W.q (sb rfl rfl (by omega)) rfl <| W.q (sa rfl) rfl <| W.nil <| G.blk <| G.loop2 (α := Nat) (β := Int) (fun k bst => k ≤ ts.length ∧ IsDue ts u (ts.length - k ≤ ·) bst) (fun k bst => [(7, i64 bst), (8, i64 ((ts.length : Int) - k - 1))]) (fun k bst => []) (fun k bst => ts.length - k) [(1, _), (2, _), (4, _)] _ 0 (-1) ⟨by omega, .inl ⟨rfl, fun j h h2 => by omega⟩⟩ (Sub.cons rfl <| Sub.co rfl ?_ <| Sub.cons rfl <| Sub.cons rfl <| Sub.cons rfl <| Sub.nil _) .rfl (fun k bst hk ih => ?_)
  · show i64 _ = i64 _; grind
  refine G.seq <| G.seq <| G.reg <| W.q (mv rfl) rfl <| W.q (ge rfl rfl) rfl <| W.nil <| G.cdd rfl (fun h1 => ?_) (fun h1 => ?_)
  · -- h1 True
    obtain ⟨j, hj⟩ : ∃ j : Nat, ts.length = k + 1 + j := ⟨ts.length - k - 1, by omega⟩
    have hlo := hk.2.lo
    have hjl : j < ts.length := by omega
    have hdn := ((hk.2.cong (S := (j + 1 ≤ ·)) (fun i _ => by show _ ↔ _; omega)).down hjl).cong (S := (ts.length - (k + 1) ≤ ·)) (fun i _ => by show _ ↔ _; omega)
    generalize htk : ts[j] = tk at hdn
    rw [show ((ts.length : Int) - k - 1) = (j : Int) by omega]
    refine G.slAt (a := a) (m := ts.length) (cap := cap) (E := 154) (s := 2) (xs := ts.flatMap twoC) (by simp) (fun q1 q2 q3 q4 => ?_)
    rcases q4 with ⟨_, _, q4⟩ | ⟨g, rfl⟩
    · omega
    have hrd : ∀ H, sl (some ⟨g, 0, none⟩) ts.length cap 154 2 (ts.flatMap twoC) ∈ H → Cells X.w0 H g (0 + (j : Int).toNat * 2) (twoC tk) := fun H hi => htk ▸ (Cells.sl hi).flat twoC_len j hjl
    have hrd2 : ¬ bst < 0 → ∀ H, sl (some ⟨g, 0, none⟩) ts.length cap 154 2 (ts.flatMap twoC) ∈ H → Cells X.w0 H g (0 + bst.toNat * 2) (twoC (ts.getD bst.toNat (0, 0))) := fun hb0 H hi => by
      have hl : bst.toNat < ts.length := by omega
      have := (Cells.sl (w0 := X.w0) hi).flat twoC_len bst.toNat hl
      rwa [show ts.getD bst.toNat (0, 0) = ts[bst.toNat] by simp [hl]]
    generalize ts.getD bst.toNat (0, 0) = tb at hrd2 hdn
    refine G.skip <| G.seq <| G.blk <| G.seq <| G.regq Try.mixed (by kernel_rfl) <| W.q (fa Try.fof105_1 rfl) rfl <| W.q (ld Try.sc103 rfl (Cell.at (.tl <| .hd) rfl)) rfl <| W.q (mv rfl) rfl <| W.q (ia Try.esl103 rfl rfl (by omega) (by omega)) rfl <| W.q (fa Try.fof154_0 rfl) rfl <| W.q (ld Try.sc3 rfl ((hrd _ (.tail _ <| .tail _ <| .head _)) 0 _ rfl)) rfl <| W.q (mv rfl) rfl <| W.q (le rfl rfl) rfl <| W.q (mv rfl) rfl <| W.sp (t := _) 28 rfl (fun g2 => ?_) (fun g2 => ?_)
    · -- True
      refine W.qg rfl rfl g2 (mv rfl) rfl <| W.qg rfl rfl g2 (lt rfl rfl) rfl <| W.qg rfl rfl g2 (mv rfl) rfl <| W.sp (t := _) 31 rfl (fun g3 => ?_) (fun g3 => ?_)
      · -- True
        refine W.sk rfl rfl g3 rfl <| W.sk rfl rfl g3 rfl <| W.sk rfl rfl g3 rfl <| W.sk rfl rfl g3 rfl <| W.sk rfl rfl g3 rfl <| W.sk rfl rfl g3 rfl <| W.sk rfl rfl g3 rfl <| W.sk rfl rfl g3 rfl <| W.sk rfl rfl g3 rfl <| W.sk rfl rfl g3 rfl <| W.sk rfl rfl g3 rfl <| W.sk rfl rfl g3 rfl <| W.sk rfl rfl g3 rfl <| W.qg rfl rfl g2 (pkt rfl g3 rfl) rfl <| W.q (pkt rfl g2 rfl) rfl <| W.nilq <| G.cdt rfl rfl <| G.reg <| W.q (mv rfl) rfl <| W.q (sa rfl) rfl <| W.nil <| G.inb <| G.reg <| W.q (mv rfl) rfl <| W.q (sb rfl rfl (by omega)) rfl <| W.q (sa rfl) rfl <| W.nil <| (ih (k + 1) (j : Int) ⟨by omega, by rwa [if_pos ⟨of_decide_eq_true g2, .inl (of_decide_eq_true g3)⟩] at hdn⟩ (by omega)).weak (Sub.cons rfl <| Sub.co rfl ?_ <| Sub.cons rfl <| Sub.cons rfl <| Sub.cons rfl <| Sub.nil _) .rfl
        all_goals clear ih
        · show i64 _ = i64 _; grind
      · -- False
        have hb0 : ¬ bst < 0 := by simpa using g3
        refine W.qg rfl rfl g3 (fa Try.fof105_1 rfl) rfl <| W.qg rfl rfl g3 (ld Try.sc103 rfl (Cell.at (.tl <| .hd) rfl)) rfl <| W.qg rfl rfl g3 (mv rfl) rfl <| W.qg rfl rfl g3 (ia Try.esl103 rfl rfl (by omega) (by omega)) rfl <| W.qg rfl rfl g3 (fa Try.fof154_0 rfl) rfl <| W.qg rfl rfl g3 (ld Try.sc3 rfl ((hrd _ (.tail _ <| .tail _ <| .head _)) 0 _ rfl)) rfl <| W.qg rfl rfl g3 (fa Try.fof105_1 rfl) rfl <| W.qg rfl rfl g3 (ld Try.sc103 rfl (Cell.at (.tl <| .hd) rfl)) rfl <| W.qg rfl rfl g3 (mv rfl) rfl <| W.qg rfl rfl g3 (ia Try.esl103 rfl rfl (by omega) (by omega)) rfl <| W.qg rfl rfl g3 (fa Try.fof154_0 rfl) rfl <| W.qg rfl rfl g3 (ld Try.sc3 rfl ((hrd2 hb0 _ (.tail _ <| .tail _ <| .head _)) 0 _ rfl)) rfl <| W.qg rfl rfl g3 (le rfl rfl) rfl <| W.qg rfl rfl g2 (pkf rfl g3 rfl) rfl <| W.q (pkt rfl g2 rfl) rfl <| W.nilq <| G.cdd rfl (fun h4 => ?_) (fun h4 => ?_)
        · -- h4 True
          refine G.reg <| W.q (mv rfl) rfl <| W.q (sa rfl) rfl <| W.nil <| G.inb <| G.reg <| W.q (mv rfl) rfl <| W.q (sb rfl rfl (by omega)) rfl <| W.q (sa rfl) rfl <| W.nil <| (ih (k + 1) (j : Int) ⟨by omega, by rwa [if_pos ⟨of_decide_eq_true g2, .inr h4⟩] at hdn⟩ (by omega)).weak (Sub.cons rfl <| Sub.co rfl ?_ <| Sub.cons rfl <| Sub.cons rfl <| Sub.cons rfl <| Sub.nil _) .rfl
          all_goals clear ih
          · show i64 _ = i64 _; grind
        · -- h4 False
          refine G.skip <| G.inb <| G.reg <| W.q (mv rfl) rfl <| W.q (sb rfl rfl (by omega)) rfl <| W.q (sa rfl) rfl <| W.nil <| (ih (k + 1) bst ⟨by omega, by rwa [if_neg (fun h => h.2.elim hb0 h4)] at hdn⟩ (by omega)).weak (Sub.cons rfl <| Sub.co rfl ?_ <| Sub.cons rfl <| Sub.cons rfl <| Sub.cons rfl <| Sub.nil _) .rfl
          all_goals clear ih
          · show i64 _ = i64 _; grind
    · -- False
      refine W.sk rfl rfl g2 rfl <| W.sk rfl rfl g2 rfl <| W.sk rfl rfl g2 rfl <| W.sku rfl rfl rfl <| W.sku rfl rfl rfl <| W.sku rfl rfl rfl <| W.sku rfl rfl rfl <| W.sku rfl rfl rfl <| W.sku rfl rfl rfl <| W.sku rfl rfl rfl <| W.sku rfl rfl rfl <| W.sku rfl rfl rfl <| W.sku rfl rfl rfl <| W.sku rfl rfl rfl <| W.sku rfl rfl rfl <| W.sku rfl rfl rfl <| W.sk rfl rfl g2 rfl <| W.q (pkf rfl g2 rfl) rfl <| W.nilq <| G.cdf rfl rfl <| G.skip <| G.inb <| G.reg <| W.q (mv rfl) rfl <| W.q (sb rfl rfl (by omega)) rfl <| W.q (sa rfl) rfl <| W.nil <| (ih (k + 1) bst ⟨by omega, by rwa [if_neg (fun h => by simp at g2; omega)] at hdn⟩ (by omega)).weak (Sub.cons rfl <| Sub.co rfl ?_ <| Sub.cons rfl <| Sub.cons rfl <| Sub.cons rfl <| Sub.nil _) .rfl
      all_goals clear ih
      · show i64 _ = i64 _; grind
  · -- h1 False
    have hdue : dueI ts u = bst := dueI_eq (hk.2.cong fun j hj => ⟨fun _ => trivial, fun _ => by omega⟩)
    have hlo := hk.2.lo
    refine G.exit rfl <| G.seq <| G.seq <| G.reg <| W.q (mv rfl) rfl <| W.q (lt rfl rfl) rfl <| W.nil <| G.cdd rfl (fun h5 => ?_) (fun h5 => ?_)
    · -- h5 True
      refine G.seq <| G.reg <| W.q (lda Try.agg105 Try.sz105 rfl (Cells.whole (.tl <| .hd)) rfl) rfl <| W.sta Try.sz105 rfl rfl rfl rfl .hd rfl <| W.q (sa rfl) rfl <| W.q (sa rfl) rfl <| W.nil <| ret hX Try.results50 (RA.cella rfl Try.agg105 Try.sz105 (Cells.whole .hd) rfl <| RA.tmp rfl <| RA.tmp rfl <| RA.nil) fun w hm => doneF (Pre' := [sl a ts.length cap 154 2 (ts.flatMap twoC)]) rfl ⟨a, cap, ?_, ?_⟩ hm (Dr.ent (.drop rfl <| .drop rfl <| .keep <| .rfl))
      all_goals have e : dueR now ts u = (now, ts, 0, false) := by rw [dueR, hdue, if_pos h5]
      all_goals rw [e]
      all_goals rfl
    · -- h5 False
      obtain ⟨m, rfl⟩ : ∃ m : Nat, bst = m := ⟨bst.toNat, by omega⟩
      refine G.slAt (a := a) (m := ts.length) (cap := cap) (E := 154) (s := 2) (xs := ts.flatMap twoC) (by simp) (fun q1 q2 q3 q4 => ?_)
      rcases q4 with ⟨_, _, q4⟩ | ⟨g, rfl⟩
      · omega
      have hm' : m < ts.length := by omega
      have e : dueR now ts u = (max now (ts.getD m (0, 0)).1, ts.eraseIdx m, (ts.getD m (0, 0)).2, true) := by rw [dueR, hdue, if_neg h5]; rfl
      have hrd : ∀ H, sl (some ⟨g, 0, none⟩) ts.length cap 154 2 (ts.flatMap twoC) ∈ H → Cells X.w0 H g (0 + (m : Int).toNat * 2) [i64 (ts.getD m (0, 0)).1, i64 (ts.getD m (0, 0)).2] := fun H hi => by
        have := (Cells.sl (w0 := X.w0) hi).flat twoC_len m hm'
        rw [show ts.getD m (0, 0) = ts[m] by simp [hm']]; exact this
      generalize ts.getD m (0, 0) = tb at hrd e
      refine G.skip <| G.seq <| G.reg <| W.q (fa Try.fof105_1 rfl) rfl <| W.q (ld Try.sc103 rfl (Cell.at (.tl <| .hd) rfl)) rfl <| W.q (mv rfl) rfl <| W.q (ia Try.esl103 rfl rfl (by omega) (by omega)) rfl <| W.q (lda Try.agg154 Try.sz154 rfl (hrd _ (.tail _ <| .tail _ <| .head _)) rfl) rfl <| W.al Try.zrl154 rfl fun b3 => W.sta Try.sz154 rfl rfl rfl rfl .hd rfl <| W.nil <| G.seq <| G.reg <| W.q (sa rfl) rfl <| W.nil <| G.seq <| G.seq <| G.reg <| W.q (sa rfl) rfl <| W.nil <| G.blk <| G.loop3 (α := Nat) (β := Option Addr) (γ := Nat) (fun i a1 c1 => i ≤ ts.length) (fun i a1 c1 => [(10, .slice a1 (lft ts m i).length c1), (11, i64 i)]) (fun i a1 c1 => [sl a1 (lft ts m i).length c1 154 2 ((lft ts m i).flatMap twoC)]) (fun i a1 c1 => ts.length - i) [(2, _), (4, _), (7, _), (9, _)] _ 0 none 0 (by omega) (Sub.cons rfl <| Sub.cons rfl <| Sub.cons rfl <| Sub.cons rfl <| Sub.cons rfl <| Sub.cons rfl <| Sub.nil _) (fun w hm => hm.slNil 154 2) (fun i a1 c1 hk2 ih2 => ?_)
      refine G.seq <| G.seq <| G.reg <| W.q (mv rfl) rfl <| W.q (fa Try.fof105_1 rfl) rfl <| W.q (ld Try.sc103 rfl (Cell.at (.tl <| .tl <| .tl <| .hd) rfl)) rfl <| W.q (ln Try.esl103 rfl) rfl <| W.q (lt rfl rfl) rfl <| W.nil <| G.cdd rfl (fun h6 => ?_) (fun h6 => ?_)
      · -- h6 True
        have hi' : i < ts.length := by omega
        have hll := lft_len ts m i
        have hri : ∀ H, sl (some ⟨g, 0, none⟩) ts.length cap 154 2 (ts.flatMap twoC) ∈ H → Cells X.w0 H g (0 + (i : Int).toNat * 2) [i64 ts[i].1, i64 ts[i].2] := fun H hi => (Cells.sl (w0 := X.w0) hi).flat twoC_len i (by omega)
        refine G.skip <| G.seq <| G.blk <| G.seq <| G.reg <| W.q (mv rfl) rfl <| W.q (mv rfl) rfl <| W.q (ne rfl rfl) rfl <| W.nil <| G.cdd rfl (fun h7 => ?_) (fun h7 => ?_)
        · -- h7 True
          refine G.reg <| W.q (mv rfl) rfl <| W.q (fa Try.fof105_1 rfl) rfl <| W.q (ld Try.sc103 rfl (Cell.at (.tl <| .tl <| .tl <| .hd) rfl)) rfl <| W.q (mv rfl) rfl <| W.q (ia Try.esl103 rfl rfl (by omega) (by omega)) rfl <| W.q (lda Try.agg154 Try.sz154 rfl (hri _ (.tail _ <| .tail _ <| .tail _ <| .tail _ <| .head _)) rfl) rfl <| W.bs (cs := [_, _]) Try.underlying103 Try.sz154 Try.zrl154 rfl rfl rfl rfl fun b4 => W.ap Try.underlying103 Try.underlying103 Try.sz154 Try.zln154 Try.by154 rfl rfl (fun _ _ => (.tl <| .hd)) (RdS.row .hd) rfl rfl (by simp) (by omega) (by omega) rfl fun a2 c2 => W.q (sa rfl) rfl <| W.nil <| G.inb <| G.reg <| W.q (mv rfl) rfl <| W.q (ad rfl rfl (by omega)) rfl <| W.q (sa rfl) rfl <| W.nil <| (ih2 (i + 1) a2 c2 (by omega) (by omega)).weak (Sub.co rfl ?_ <| Sub.cons rfl <| Sub.cons rfl <| Sub.cons rfl <| Sub.cons rfl <| Sub.cons rfl <| Sub.nil _) (fun w hm => by rw [lft_step ts m i hi' (by omega), List.length_append, List.flatMap_append]; exact (Dr.ent (.drop rfl .rfl)) w hm)
          all_goals clear ih2
          · show Value.slice _ _ _ = _; rw [lft_step ts m i hi' (by omega), List.length_append]; rfl
        · -- h7 False
          refine G.skip <| G.inb <| G.reg <| W.q (mv rfl) rfl <| W.q (ad rfl rfl (by omega)) rfl <| W.q (sa rfl) rfl <| W.nil <| (ih2 (i + 1) a1 c1 (by omega) (by omega)).weak (Sub.co rfl ?_ <| Sub.cons rfl <| Sub.cons rfl <| Sub.cons rfl <| Sub.cons rfl <| Sub.cons rfl <| Sub.nil _) (fun w hm => by rw [show i = m by omega, lft_at ts m hm']; rw [show i = m by omega] at hm; exact hm)
          all_goals clear ih2
          · show Value.slice _ _ _ = _; rw [show i = m by omega, lft_at ts m hm']
      · -- h6 False
        have hfin : lft ts m i = ts.eraseIdx m := by rw [lft, List.take_of_length_le (by omega)]
        rw [hfin]
        refine G.exit rfl <| G.seq <| G.reg <| W.q (mv rfl) rfl <| W.q (fa Try.fof105_1 rfl) rfl <| W.st (cs' := [_, _]) Try.sz103 rfl rfl rfl rfl rfl (.tl <| .tl <| .tl <| .hd) (by simp) rfl <| W.nil <| G.seq <| G.seq <| G.reg <| W.q (fa Try.fof154_0 rfl) rfl <| W.q (ld Try.sc3 rfl (Cell.at (.tl <| .hd) rfl)) rfl <| W.q (fa Try.fof105_0 rfl) rfl <| W.q (ld Try.sc3 rfl (Cell.at (.tl <| .tl <| .tl <| .hd) rfl)) rfl <| W.q (gt rfl rfl) rfl <| W.nil <| G.cdd rfl (fun h8 => ?_) (fun h8 => ?_)
        · -- h8 True
          refine G.reg <| W.q (fa Try.fof154_0 rfl) rfl <| W.q (ld Try.sc3 rfl (Cell.at (.tl <| .hd) rfl)) rfl <| W.q (fa Try.fof105_0 rfl) rfl <| W.st (cs' := [_, _]) Try.sz3 rfl rfl rfl rfl rfl (.tl <| .tl <| .tl <| .hd) (by simp) rfl <| W.nil <| G.seq <| G.rega 6 rfl Try.mixed <| A.q 1 rfl (by kernel_rfl) (fun _ => (fa Try.fof154_1 rfl)) rfl <| A.held 0 [2] rfl (by kernel_rfl) (lda Try.agg105 Try.sz105 rfl (Cells.whole (.tl <| .tl <| .tl <| .hd)) rfl) rfl <| A.two 2 3 rfl rfl (by kernel_rfl) ?_ ?_
          · -- o9: 2 first
            refine W.q (ld Try.sc3 rfl (Cell.at (.tl <| .hd) rfl)) rfl <| A.back <| A.one 3 rfl (by kernel_rfl) <| W.sta Try.sz105 rfl rfl rfl rfl (.tl <| .tl <| .hd) rfl <| A.back <| A.q 4 rfl (by kernel_rfl) (fun _ => (sa rfl)) rfl <| A.q 5 rfl (by kernel_rfl) (fun _ => (sa rfl)) rfl <| A.nil (by kernel_rfl) <| ret hX Try.results50 (RA.cella rfl Try.agg105 Try.sz105 (Cells.whole (.tl <| .tl <| .hd)) rfl <| RA.tmp rfl <| RA.tmp rfl <| RA.nil) fun w hm => doneF (Pre' := [sl a1 (ts.eraseIdx m).length c1 154 2 ((ts.eraseIdx m).flatMap twoC)]) rfl ⟨a1, c1, ?_, ?_⟩ hm (Dr.ent (.keep <| .drop rfl <| .drop rfl <| .drop rfl <| .drop rfl <| .rfl))
            all_goals rw [e]
            · first | rw [show max now tb.1 = tb.1 by omega] | rw [show max now tb.1 = now by omega]
              rfl
          · -- o9: 3 first
            refine W.sta Try.sz105 rfl rfl rfl rfl (.tl <| .tl <| .hd) rfl <| A.back <| A.held 2 [] rfl (by kernel_rfl) (ld Try.sc3 rfl (Cell.at (.tl <| .hd) rfl)) rfl <| A.q 4 rfl (by kernel_rfl) (fun _ => (sa rfl)) rfl <| A.q 5 rfl (by kernel_rfl) (fun _ => (sa rfl)) rfl <| A.nil (by kernel_rfl) <| ret hX Try.results50 (RA.cella rfl Try.agg105 Try.sz105 (Cells.whole (.tl <| .tl <| .hd)) rfl <| RA.tmp rfl <| RA.tmp rfl <| RA.nil) fun w hm => doneF (Pre' := [sl a1 (ts.eraseIdx m).length c1 154 2 ((ts.eraseIdx m).flatMap twoC)]) rfl ⟨a1, c1, ?_, ?_⟩ hm (Dr.ent (.keep <| .drop rfl <| .drop rfl <| .drop rfl <| .drop rfl <| .rfl))
            all_goals rw [e]
            · first | rw [show max now tb.1 = tb.1 by omega] | rw [show max now tb.1 = now by omega]
              rfl
        · -- h8 False
          refine G.skip <| G.seq <| G.rega 6 rfl Try.mixed <| A.q 1 rfl (by kernel_rfl) (fun _ => (fa Try.fof154_1 rfl)) rfl <| A.held 0 [2] rfl (by kernel_rfl) (lda Try.agg105 Try.sz105 rfl (Cells.whole (.tl <| .tl <| .tl <| .hd)) rfl) rfl <| A.two 2 3 rfl rfl (by kernel_rfl) ?_ ?_
          · -- o10: 2 first
            refine W.q (ld Try.sc3 rfl (Cell.at (.tl <| .hd) rfl)) rfl <| A.back <| A.one 3 rfl (by kernel_rfl) <| W.sta Try.sz105 rfl rfl rfl rfl (.tl <| .tl <| .hd) rfl <| A.back <| A.q 4 rfl (by kernel_rfl) (fun _ => (sa rfl)) rfl <| A.q 5 rfl (by kernel_rfl) (fun _ => (sa rfl)) rfl <| A.nil (by kernel_rfl) <| ret hX Try.results50 (RA.cella rfl Try.agg105 Try.sz105 (Cells.whole (.tl <| .tl <| .hd)) rfl <| RA.tmp rfl <| RA.tmp rfl <| RA.nil) fun w hm => doneF (Pre' := [sl a1 (ts.eraseIdx m).length c1 154 2 ((ts.eraseIdx m).flatMap twoC)]) rfl ⟨a1, c1, ?_, ?_⟩ hm (Dr.ent (.keep <| .drop rfl <| .drop rfl <| .drop rfl <| .drop rfl <| .rfl))
            all_goals rw [e]
            · first | rw [show max now tb.1 = tb.1 by omega] | rw [show max now tb.1 = now by omega]
              rfl
          · -- o10: 3 first
            refine W.sta Try.sz105 rfl rfl rfl rfl (.tl <| .tl <| .hd) rfl <| A.back <| A.held 2 [] rfl (by kernel_rfl) (ld Try.sc3 rfl (Cell.at (.tl <| .hd) rfl)) rfl <| A.q 4 rfl (by kernel_rfl) (fun _ => (sa rfl)) rfl <| A.q 5 rfl (by kernel_rfl) (fun _ => (sa rfl)) rfl <| A.nil (by kernel_rfl) <| ret hX Try.results50 (RA.cella rfl Try.agg105 Try.sz105 (Cells.whole (.tl <| .tl <| .hd)) rfl <| RA.tmp rfl <| RA.tmp rfl <| RA.nil) fun w hm => doneF (Pre' := [sl a1 (ts.eraseIdx m).length c1 154 2 ((ts.eraseIdx m).flatMap twoC)]) rfl ⟨a1, c1, ?_, ?_⟩ hm (Dr.ent (.keep <| .drop rfl <| .drop rfl <| .drop rfl <| .drop rfl <| .rfl))
            all_goals rw [e]
            · first | rw [show max now tb.1 = tb.1 by omega] | rw [show max now tb.1 = now by omega]
              rfl
end Go.Proofs.Ytnbofpojbpmdmaa
