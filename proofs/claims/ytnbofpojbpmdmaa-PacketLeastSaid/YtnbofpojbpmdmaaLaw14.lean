/- PacketLeast: the law's walk. -/
import Derived.Test.YtnbofpojbpmdmaaHeader
namespace Go.Proofs.Ytnbofpojbpmdmaa
open Go Go.Eng
set_option linter.unusedVariables false

def l14 : List UInt8 := (((((List.replicate 768 0).set 0 1).set 32 2).set 48 3).set 288 4).set 767 5
theorem l14_at : l14.length = 768 ∧ l14[0]? = some 1 ∧ l14[32]? = some 2 ∧ l14[48]? = some 3 ∧ l14[288]? = some 4 ∧ l14[767]? = some 5 := by decide +kernel
theorem least_032 : leastR [0, 3, 2] = 2 := by decide
theorem packet_ParseOK (a : Option Addr) (len cap : Nat) (bs : List UInt8) (w : World) (hlen : len = bs.length) (hl : RdL w a (B bs)) (h : bs.length = 768) (hcap : bs.length ≤ cap) :
    Ret Try.prog 67 [.slice a len cap] w (fun v _ => v = .tuple #[.agg (B bs).toArray, i64 0]) := by
  have := packet_Parse a len cap bs w hlen hl (by omega) hcap
  rwa [if_pos h, bytesOr, if_pos h] at this


set_option maxRecDepth 100000 in
theorem law14_awake (w : World) :
    Ret Try.prog 18 [] w (fun v _ => v = .bool true) := by
  refine enter [] (Mem.nil _) Try.func18 rfl Try.ntmps18 rfl (fun X hX => ?_)
  have hw := hX.w0; subst hw
  refine G.seq <| G.reg <| W.q (sa rfl) rfl <| W.nil <| G.seq <| G.reg <| W.mkB (m := 768) Try.underlying46 Try.sz5 Try.zrl5 Try.by5 rfl rfl (by omega) (by omega) rfl fun b1 => W.q (sa rfl) rfl <| W.nil <| G.seq <| G.reg <| W.q (mv rfl) rfl <| W.q (mv rfl) rfl <| W.q (mv rfl) rfl <| W.q (mv rfl) rfl <| W.q (mv rfl) rfl <| W.q (ia Try.esl46 rfl rfl (by omega) (by omega)) rfl <| W.st (cs' := B ((List.replicate 768 0).set 0 1)) Try.sz5 rfl rfl rfl rfl rfl .hd (by simp) (setAt_B (List.replicate 768 0) 0 1 (by simp)) <| W.q (ia Try.esl46 rfl rfl (by omega) (by omega)) rfl <| W.st (cs' := B (((List.replicate 768 0).set 0 1).set 32 2)) Try.sz5 rfl rfl rfl rfl rfl .hd (by simp) (setAt_B ((List.replicate 768 0).set 0 1) 32 2 (by simp)) <| W.q (ia Try.esl46 rfl rfl (by omega) (by omega)) rfl <| W.st (cs' := B ((((List.replicate 768 0).set 0 1).set 32 2).set 48 3)) Try.sz5 rfl rfl rfl rfl rfl .hd (by simp) (setAt_B (((List.replicate 768 0).set 0 1).set 32 2) 48 3 (by simp)) <| W.q (ia Try.esl46 rfl rfl (by omega) (by omega)) rfl <| W.st (cs' := B (((((List.replicate 768 0).set 0 1).set 32 2).set 48 3).set 288 4)) Try.sz5 rfl rfl rfl rfl rfl .hd (by simp) (setAt_B ((((List.replicate 768 0).set 0 1).set 32 2).set 48 3) 288 4 (by simp)) <| W.q (ia Try.esl46 rfl rfl (by omega) (by omega)) rfl <| W.st (cs' := B ((((((List.replicate 768 0).set 0 1).set 32 2).set 48 3).set 288 4).set 767 5)) Try.sz5 rfl rfl rfl rfl rfl .hd (by simp) (setAt_B (((((List.replicate 768 0).set 0 1).set 32 2).set 48 3).set 288 4) 767 5 (by simp)) <| W.nil <| G.seq <| ?_
  obtain ⟨e1, e2, e3, e4, e5, e6⟩ := l14_at
  have hl14 : (((((List.replicate 768 0).set 0 1).set 32 2).set 48 3).set 288 4).set 767 5 = l14 := rfl
  rw [hl14]
  generalize l14 = l at *
  refine G.reg <| W.q (mv rfl) rfl <| W.fv Try.ca67 rfl (fun w hm => packet_ParseOK (some ⟨b1, 0, none⟩) _ 768 l w e1.symm (hm.rowRd .hd) e1 (by omega)) rfl <| W.q (mv rfl) rfl <| W.q (ex rfl rfl) rfl <| W.q (ex rfl rfl) rfl <| W.al Try.zrl138 rfl fun b2 => W.sta Try.sz138 rfl rfl (by rw [Bl]; exact e1) (B_one _) .hd rfl <| W.q (sa rfl) rfl <| W.nil <| G.seq <| G.reg <| W.q (mv rfl) rfl <| W.q (eq rfl rfl) rfl <| W.q (mv rfl) rfl <| W.sp (t := _) 22 rfl (fun g1 => ?_) (fun g1 => ?_)
  · -- True
    refine W.qg rfl rfl g1 (fa Try.fof138_0 rfl) rfl <| W.qg rfl rfl g1 (fa Try.fof94_0 rfl) rfl <| W.qg rfl rfl g1 (iaa Try.ear90 rfl rfl (by omega) (by omega)) rfl <| W.qg rfl rfl g1 (ld Try.sc5 rfl (Cell.at .hd (B_get e2))) rfl <| W.qg rfl rfl g1 (eq rfl rfl) rfl <| W.q (pkt rfl g1 rfl) rfl <| W.q (mv rfl) rfl <| W.sp (t := _) 29 rfl (fun g2 => ?_) (fun g2 => ?_)
    · -- True
      refine W.qg rfl rfl g2 (fa Try.fof138_0 rfl) rfl <| W.qg rfl rfl g2 (fa Try.fof94_1 rfl) rfl <| W.qg rfl rfl g2 (iaa Try.ear91 rfl rfl (by omega) (by omega)) rfl <| W.qg rfl rfl g2 (ld Try.sc5 rfl (Cell.at .hd (B_get e3))) rfl <| W.qg rfl rfl g2 (eq rfl rfl) rfl <| W.q (pkt rfl g2 rfl) rfl <| W.q (mv rfl) rfl <| W.sp (t := _) 36 rfl (fun g3 => ?_) (fun g3 => ?_)
      · -- True
        refine W.qg rfl rfl g3 (fa Try.fof138_0 rfl) rfl <| W.qg rfl rfl g3 (fa Try.fof94_2 rfl) rfl <| W.qg rfl rfl g3 (iaa Try.ear92 rfl rfl (by omega) (by omega)) rfl <| W.qg rfl rfl g3 (ld Try.sc5 rfl (Cell.at .hd (B_get e4))) rfl <| W.qg rfl rfl g3 (eq rfl rfl) rfl <| W.q (pkt rfl g3 rfl) rfl <| W.q (mv rfl) rfl <| W.sp (t := _) 43 rfl (fun g4 => ?_) (fun g4 => ?_)
        · -- True
          refine W.qg rfl rfl g4 (fa Try.fof138_1 rfl) rfl <| W.qg rfl rfl g4 (iaa Try.ear136 rfl rfl (by omega) (by omega)) rfl <| W.qg rfl rfl g4 (ld Try.sc5 rfl (Cell.at .hd (B_get e5))) rfl <| W.qg rfl rfl g4 (eq rfl rfl) rfl <| W.q (pkt rfl g4 rfl) rfl <| W.q (mv rfl) rfl <| W.sp (t := _) 49 rfl (fun g5 => ?_) (fun g5 => ?_)
          · -- True
            refine W.qg rfl rfl g5 (fa Try.fof138_1 rfl) rfl <| W.qg rfl rfl g5 (iaa Try.ear136 rfl rfl (by omega) (by omega)) rfl <| W.qg rfl rfl g5 (ld Try.sc5 rfl (Cell.at .hd (B_get e6))) rfl <| W.qg rfl rfl g5 (eq rfl rfl) rfl <| W.q (pkt rfl g5 rfl) rfl <| W.q (mv rfl) rfl <| W.sp (t := _) 55 rfl (fun g6 => ?_) (fun g6 => ?_)
            · -- True
              refine W.qg rfl rfl g6 (lda Try.agg138 Try.sz138 rfl (Cells.whole .hd) (by rw [Bl]; exact e1)) rfl <| W.fng rfl rfl g6 Try.ca68 rfl (fun w hm => packet_Bytes l w e1) rfl fun v J hv hJ => ?_
              obtain ⟨a1, c1, rfl, rfl⟩ := hv
              refine W.qg rfl rfl g6 (mv rfl) rfl <| W.fvg rfl rfl g6 Try.ca28 rfl (fun w hm => ref01_EqualT (hm.slRd (.head _)) (by omega) (hm.rowRd (.tl <| .tl <| .hd)) rfl e1.symm rfl) rfl <| W.q (pkt rfl g6 rfl) rfl <| W.q (mv rfl) rfl <| W.ug rfl rfl rfl <| W.bs (cs := [_, _, _]) Try.underlying42 Try.sz27 Try.zrl27 rfl rfl rfl rfl fun b3 => W.fvg rfl rfl rfl Try.ca19 rfl (fun w hm => packet_Least (some ⟨b3, 0, none⟩) 3 [0, 3, 2] w (hm.rowRd .hd) (by decide)) rfl <| W.qg rfl rfl rfl (eq rfl rfl) rfl <| W.q (pkt rfl rfl rfl) rfl <| W.q (sa rfl) rfl <| W.nil <| ret1 hX Try.results18 rfl fun w hm => done (H := []) rfl rfl (Dr.ent (Dr.new rfl) w hm)
            · -- False
              simp at g6
          · -- False
            simp at g5
        · -- False
          simp at g4
      · -- False
        simp at g3
    · -- False
      simp at g2
  · -- False
    simp at g1


set_option maxRecDepth 100000 in
theorem law_PacketLeast (a : Option Addr) (cap : Nat) (xs : List Int) (w : World) (hl : RdL w a (xs.map i64)) (hb : xs.length * 8 ≤ 140737488351232) :
    Ret Try.prog 4 [.slice a xs.length cap] w (fun v _ => v = .bool true) := by
  refine enter [] (Mem.nil _) Try.func4 rfl Try.ntmps4 rfl (fun X hX => ?_)
  have hw := hX.w0; subst hw
  refine G.seq <| G.reg <| W.q (sa rfl) rfl <| W.nil <| G.seq <| G.seq <| G.reg <| W.fv Try.ca18 rfl (fun w hm => law14_awake w) rfl <| W.q (nt rfl) rfl <| W.nil <| G.cdf rfl rfl <| G.skip <| G.seq <| G.reg <| W.q (sa rfl) rfl <| W.nil <| G.seq <| G.seq <| G.reg <| W.q (mv rfl) rfl <| W.q (ln Try.esl40 rfl) rfl <| W.q (mv rfl) rfl <| W.nil <| G.blk <| G.loop3 (fun k a1 c1 => k ≤ xs.length) (fun k a1 c1 => [(3, .slice a1 k c1), (10, i64 k)]) (fun k a1 c1 => [sl a1 k c1 27 1 ((xs.take k).map i64)]) (fun k a1 c1 => xs.length - k) [(0, _), (8, _), (9, _)] [] 0 none 0 (by omega) (Sub.cons rfl <| Sub.cons rfl <| Sub.cons rfl <| Sub.cons rfl <| Sub.cons rfl <| Sub.nil _) (Ent.slNil _ _) (fun k a1 c1 hk ih => ?_)
  refine G.seq <| G.reg <| W.q (lt rfl rfl) rfl <| W.nil <| G.seq <| G.cdd rfl (fun h1 => ?_) (fun h1 => ?_)
  · -- h1 True
    have h2' : k < xs.length := by omega
    obtain ⟨b, o, rfl, hx⟩ := hl.at k h2'
    refine G.skip <| G.seq <| G.blk <| G.seq <| G.reg <| W.q (ia Try.esl40 rfl rfl (by omega) (by omega)) rfl <| W.q (ld Try.sc3 rfl (Cell.old rfl (by simpa using hx))) rfl <| W.q (sa rfl) rfl <| W.nil <| G.reg <| W.q (mv rfl) rfl <| W.q (mv rfl) rfl <| W.bs (cs := [_]) Try.underlying42 Try.sz27 Try.zrl27 rfl rfl rfl rfl fun b1 => W.ap (news := [_]) Try.underlying42 Try.underlying42 Try.sz27 Try.zln27 Try.by27 rfl rfl (fun _ _ => .tl <| .hd) (RdS.row .hd) rfl (by simp [Value.oneCell']) (by simp) (by omega) (by omega) rfl fun a2 c2 => W.q (sa rfl) rfl <| W.nil <| G.inb <| G.reg <| W.q (ad rfl rfl (by omega)) rfl <| W.q (mv rfl) rfl <| W.nil <| ?_
    have hxs : (xs.take k).map i64 ++ [i64 xs[k]] = (xs.take (k+1)).map i64 := by rw [List.take_succ_eq_append_getElem h2', List.map_append]; rfl
    rw [hxs]
    refine (ih (k + 1) a2 c2 (by omega) (by omega)).weak (Sub.cons rfl <| Sub.cons rfl <| Sub.cons rfl <| Sub.cons rfl <| Sub.cons rfl <| Sub.nil _) (Dr.ent <| Dr.drop rfl <| Dr.keep <| .rfl)
  · -- h1 False
    have hk' : k = xs.length := by omega
    subst hk'
    rw [List.take_length]
    refine G.exit rfl <| G.seq <| G.reg <| W.q (mv rfl) rfl <| W.fv Try.ca19 rfl (fun w hm => packet_Least a1 c1 xs w (by have := hm.slRd (.head _); exact this) (by omega)) rfl <| W.q (mv rfl) rfl <| W.fv Try.ca20 rfl (fun w hm => ref14_Least a cap xs w (hm.rd rfl hl) (by omega)) rfl <| W.q (eq rfl rfl) rfl <| W.q (sa rfl) rfl <| W.nil <| ret1 hX Try.results4 rfl fun w hm => done (H := []) rfl ?_ (Dr.ent (Dr.new rfl) w hm)
    simp
end Go.Proofs.Ytnbofpojbpmdmaa
