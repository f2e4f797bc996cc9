/- A feed: a tape, a clock and acknowledgements. -/
import Derived.Test.YtnbofpojbpmdmaaTape1
import Derived.Test.YtnbofpojbpmdmaaAcks
namespace Go.Proofs.Ytnbofpojbpmdmaa
open Go Go.Eng
set_option linter.unusedVariables false

def feedR (bs : List UInt8) (xs : List (Int × Int)) : Int := if acksR xs ≠ 0 then acksR xs else if 1048576 < bs.length then 2 else 0


set_option maxRecDepth 100000 in
theorem tape_NewFeed (a : Option Addr) (cap : Nat) (bs : List UInt8) (w : World) (hl : RdL w a (B bs)) (hb : bs.length ≤ 140737488351232) (a2 : Option Addr) (cap2 : Nat) (xs : List (Int × Int)) (hl2 : RdL w a2 (xs.flatMap ackC)) (hb2 : xs.length * 16 ≤ 140737488351232) :
    Ret Try.prog 39 [.slice a bs.length cap, .slice a2 xs.length cap2] w (fun v J => ∃ bf a' c' a3 c3, v = .tuple #[.pointer (if feedR bs xs = 0 then some ⟨bf, 0, none⟩ else none), i64 (feedR bs xs)] ∧ J = if feedR bs xs = 0 then [nb bf [.slice a' bs.length c', i64 0, i64 0, .slice none 0 0, .slice a3 xs.length c3] 87, sl a' bs.length c' 5 1 (B bs), sl a3 xs.length c3 32 2 (xs.flatMap ackC)] else []) := by
  refine enter [] (Mem.nil _) Try.func39 rfl Try.ntmps39 rfl (fun X hX => ?_)
  have hw := hX.w0; subst hw
  refine G.seq <| G.reg <| W.q (sa rfl) rfl <| W.q (sa rfl) rfl <| W.nil <| G.seq <| G.reg <| W.q (mv rfl) rfl <| W.fn Try.ca12 rfl (fun w hm => tape_NewAcks a2 cap2 xs w (hm.rd rfl hl2) hb2) rfl fun v J hv hJ => ?_
  obtain ⟨a3, c3, rfl, rfl⟩ := hv
  refine W.q (mv rfl) rfl <| W.q (ex rfl rfl) rfl <| W.q (ex rfl rfl) rfl <| W.al Try.zrl26 rfl fun b1 => W.sta Try.sz26 rfl rfl rfl rfl .hd rfl <| W.q (sa rfl) rfl <| W.nil <| G.seq <| G.seq <| G.reg <| W.q (mv rfl) rfl <| W.q (eq rfl rfl) rfl <| W.q (mv rfl) rfl <| W.sp (t := _) 15 rfl (fun g1 => ?_) (fun g1 => ?_)
  · -- True
    have hz : acksR xs = 0 := of_decide_eq_true g1
    rw [if_pos hz]
    refine W.qg rfl rfl g1 (mv rfl) rfl <| W.qg rfl rfl g1 (ln Try.esl46 rfl) rfl <| W.qg rfl rfl g1 (gt rfl rfl) rfl <| W.q (pkt rfl g1 rfl) rfl <| W.nil <| G.cdd rfl (fun h2 => ?_) (fun h2 => ?_)
    · -- h2 True
      refine G.reg <| W.q (sa rfl) rfl <| W.nil <| G.seq <| G.seq <| G.reg <| W.q (mv rfl) rfl <| W.q (ne rfl rfl) rfl <| W.nil <| G.cdd rfl (fun h3 => ?_) (fun h3 => ?_)
      · -- h3 True
        refine G.seq <| G.reg <| W.q (mv rfl) rfl <| W.q (sa rfl) rfl <| W.q (sa rfl) rfl <| W.nil <| ret2 hX Try.results39 rfl rfl fun w hm => done (H := []) rfl ?_ (Dr.ent (Dr.new rfl) w hm)
        have e : feedR bs xs = 2 := by rw [feedR, if_neg (fun h => h hz), if_pos (by omega)]
        rw [e]
        exact ⟨0, none, 0, none, 0, rfl, rfl⟩
      · -- h3 False
        exact absurd h3 (by decide)
    · -- h2 False
      refine G.skip <| G.seq <| G.seq <| G.reg <| W.q (mv rfl) rfl <| W.q (ne rfl rfl) rfl <| W.nil <| G.cdd rfl (fun h4 => ?_) (fun h4 => ?_)
      · -- h4 True
        exact absurd hz h4
      · -- h4 False
        refine G.skip <| G.seq <| G.rega 9 rfl Try.mixed <| A.q 0 rfl (by kernel_rfl) (fun _ => (mv rfl)) rfl <| A.two 1 4 rfl rfl (by kernel_rfl) ?_ ?_
        · -- o5: 1 first
          refine W.fn Try.ca24 rfl (fun w hm => tape_NewTape a cap bs w (hm.rd rfl hl) hb) rfl fun v J hv hJ => ?_
          obtain ⟨bt, a1, c1, rfl, rfl⟩ := hv
          refine A.back <| A.q 2 rfl (by kernel_rfl) (fun _ => (ncp rfl)) rfl <| A.held 3 [4] rfl (by kernel_rfl) (lda Try.agg51 Try.sz51 rfl (Cells.whole .hd) rfl) rfl <| A.held 4 [] rfl (by kernel_rfl) (lda Try.agg26 Try.sz26 rfl (Cells.whole (.tl <| .tl <| .hd)) rfl) rfl <| A.q 5 rfl (by kernel_rfl) (fun _ => (bld (cs := [_, _, _, _, _]) Try.stp87 rfl rfl)) rfl <| A.one 6 rfl (by kernel_rfl) <| W.bxa rfl rfl fun b2 => A.back <| A.q 7 rfl (by kernel_rfl) (fun _ => (sa rfl)) rfl <| A.q 8 rfl (by kernel_rfl) (fun _ => (sa rfl)) rfl <| A.nil (by kernel_rfl) <| ret2 hX Try.results39 rfl rfl fun w hm => done (H := [nb _ [.slice a1 bs.length c1, i64 0, i64 0, .slice none 0 0, .slice a3 xs.length c3] 87, sl a1 bs.length c1 5 1 (B bs), sl a3 xs.length c3 32 2 (xs.flatMap ackC)]) rfl ?_ (Dr.ent (.keep <| .drop rfl <| .keep <| .drop rfl <| .keep .rfl) w hm)
          have e : feedR bs xs = 0 := by rw [feedR, if_neg (fun h => h hz), if_neg (by omega)]
          rw [e]
          exact ⟨_, a1, c1, a3, c3, rfl, rfl⟩
        · -- o5: 4 first
          refine W.q (lda Try.agg26 Try.sz26 rfl (Cells.whole .hd) rfl) rfl <| A.back <| A.one 1 rfl (by kernel_rfl) <| W.fn Try.ca24 rfl (fun w hm => tape_NewTape a cap bs w (hm.rd rfl hl) hb) rfl fun v J hv hJ => ?_
          obtain ⟨bt, a1, c1, rfl, rfl⟩ := hv
          refine A.back <| A.q 2 rfl (by kernel_rfl) (fun _ => (ncp rfl)) rfl <| A.held 3 [] rfl (by kernel_rfl) (lda Try.agg51 Try.sz51 rfl (Cells.whole .hd) rfl) rfl <| A.q 5 rfl (by kernel_rfl) (fun _ => (bld (cs := [_, _, _, _, _]) Try.stp87 rfl rfl)) rfl <| A.one 6 rfl (by kernel_rfl) <| W.bxa rfl rfl fun b3 => A.back <| A.q 7 rfl (by kernel_rfl) (fun _ => (sa rfl)) rfl <| A.q 8 rfl (by kernel_rfl) (fun _ => (sa rfl)) rfl <| A.nil (by kernel_rfl) <| ret2 hX Try.results39 rfl rfl fun w hm => done (H := [nb _ [.slice a1 bs.length c1, i64 0, i64 0, .slice none 0 0, .slice a3 xs.length c3] 87, sl a1 bs.length c1 5 1 (B bs), sl a3 xs.length c3 32 2 (xs.flatMap ackC)]) rfl ?_ (Dr.ent (.keep <| .drop rfl <| .keep <| .drop rfl <| .keep .rfl) w hm)
          have e : feedR bs xs = 0 := by rw [feedR, if_neg (fun h => h hz), if_neg (by omega)]
          rw [e]
          exact ⟨_, a1, c1, a3, c3, rfl, rfl⟩
  · -- False
    refine W.sk rfl rfl g1 rfl <| W.sk rfl rfl g1 rfl <| W.sk rfl rfl g1 rfl <| W.q (pkf rfl g1 rfl) rfl <| W.nil <| G.cdf rfl rfl <| G.skip <| G.seq <| G.seq <| G.reg <| W.q (mv rfl) rfl <| W.q (ne rfl rfl) rfl <| W.nil <| G.cdd rfl (fun h6 => ?_) (fun h6 => ?_)
    · -- h6 True
      refine G.seq <| G.reg <| W.q (mv rfl) rfl <| W.q (sa rfl) rfl <| W.q (sa rfl) rfl <| W.nil <| ret2 hX Try.results39 rfl rfl fun w hm => done (H := []) rfl ?_ (Dr.ent (Dr.new rfl) w hm)
      have hn := of_decide_eq_false g1
      have e : feedR bs xs = acksR xs := by rw [feedR, if_pos hn]
      rw [e]
      exact ⟨0, none, 0, none, 0, by simp [hn], by simp [hn]⟩
    · -- h6 False
      exact absurd (of_decide_eq_false g1) h6
end Go.Proofs.Ytnbofpojbpmdmaa
