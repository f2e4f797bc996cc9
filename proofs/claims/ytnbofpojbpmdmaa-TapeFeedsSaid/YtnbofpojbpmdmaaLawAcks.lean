/- TapeAcks: the law's walk. -/
import Derived.Test.YtnbofpojbpmdmaaAcks
namespace Go.Proofs.Ytnbofpojbpmdmaa
open Go Go.Eng
set_option linter.unusedVariables false

theorem acksR_53 : acksR [(5, 1), (3, 1)] = 0 := by decide


set_option maxRecDepth 100000 in
theorem law_TapeAcks (a : Option Addr) (cap : Nat) (xs : List (Int × Int)) (w : World) (hl : RdL w a (xs.flatMap ackC)) (hb : xs.length * 16 ≤ 140737488351232)
    (a2 : Option Addr) (cap2 : Nat) (ids : List Int) (hl2 : RdL w a2 (ids.map (Value.int .u64))) (hb2 : ids.length ≤ 140737488351232) (now : Int) :
    Ret Try.prog 3 [.slice a xs.length cap, .slice a2 ids.length cap2, i64 now] w (fun v _ => v = .bool true) := by
  refine enter [] (Mem.nil _) Try.func3 rfl Try.ntmps3 rfl (fun X hX => ?_)
  have hw := hX.w0; subst hw
  refine G.seq <| G.reg <| W.q (sa rfl) rfl <| W.nil <| G.seq <| G.reg <| W.q (bld (cs := [_, _]) Try.stp32 rfl rfl) rfl <| W.q (bld (cs := [_, _]) Try.stp32 rfl rfl) rfl <| W.bs (cs := [_, _, _, _]) Try.underlying24 Try.sz32 Try.zrl32 rfl rfl rfl rfl fun b1 => W.fn Try.ca12 rfl (fun w hm => tape_NewAcks (some ⟨b1, 0, none⟩) 2 [(5, 1), (3, 1)] w (hm.rowRd .hd) (by decide)) rfl fun v J hv hJ => ?_
  obtain ⟨a3, c3, rfl, rfl⟩ := hv
  rw [acksR_53, if_pos rfl]
  refine W.q (mv rfl) rfl <| W.q (ex rfl rfl) rfl <| W.q (ex rfl rfl) rfl <| W.al Try.zrl26 rfl fun b2 => W.sta Try.sz26 rfl rfl rfl rfl .hd rfl <| W.q (sa rfl) rfl <| W.nil <| G.seq <| G.seq <| G.reg <| W.q (mv rfl) rfl <| W.q (ne rfl rfl) rfl <| W.q (mv rfl) rfl <| W.sp (t := _) 27 rfl (fun g1 => ?_) (fun g1 => ?_)
  · -- True
    simp at g1
  · -- False
    refine W.qg rfl rfl g1 (lda Try.agg26 Try.sz26 rfl (Cells.whole .hd) rfl) rfl <| W.fvg rfl rfl g1 Try.ca13 rfl (fun w hm => by have := tape_Acked a3 c3 [(5, 1), (3, 1)] w (hm.slRd (.tail _ <| .head _)) (by decide) 1 2; exact this) rfl <| W.q (pkf rfl g1 rfl) rfl <| W.q (mv rfl) rfl <| W.qg rfl rfl rfl (lda Try.agg26 Try.sz26 rfl (Cells.whole .hd) rfl) rfl <| W.fvg rfl rfl rfl Try.ca13 rfl (fun w hm => by have := tape_Acked a3 c3 [(5, 1), (3, 1)] w (hm.slRd (.tail _ <| .head _)) (by decide) 1 3; exact this) rfl <| W.qg rfl rfl rfl (nt rfl) rfl <| W.q (pkf rfl rfl rfl) rfl <| W.nil <| G.cdf rfl rfl <| G.skip <| G.seq <| G.reg <| W.q (mv rfl) rfl <| W.fn Try.ca14 rfl (fun w hm => law08_acks a cap xs w (hm.rd rfl hl) hb) rfl fun v J hv hJ => ?_
    obtain ⟨a4, c4, rfl, rfl⟩ := hv
    refine W.q (sa rfl) rfl <| W.nil <| G.seq <| G.reg <| W.q (mv rfl) rfl <| W.fn Try.ca12 rfl (fun w hm => tape_NewAcks a4 c4 xs w (hm.slRd (.head _)) hb) rfl fun v J hv hJ => ?_
    obtain ⟨a5, c5, rfl, rfl⟩ := hv
    generalize hys : (if acksR xs = 0 then xs else []) = ys
    have hby : ys.length * 16 ≤ 140737488351232 := by rw [← hys]; split; exact hb; simp
    refine W.q (mv rfl) rfl <| W.q (ex rfl rfl) rfl <| W.q (ex rfl rfl) rfl <| W.sta Try.sz26 rfl rfl rfl rfl (.tl <| .tl <| .hd) rfl <| W.q (sa rfl) rfl <| W.nil <| G.seq <| G.seq <| G.reg <| W.q (mv rfl) rfl <| W.q (ln Try.esl24 rfl) rfl <| W.q (mv rfl) rfl <| W.nil <| G.blk <| G.loop2 (α := Nat) (β := List (Int × Int)) (fun k zs => k ≤ xs.length ∧ zs.length = xs.length) (fun k zs => [(45, i64 k)]) (fun k zs => [sl a4 xs.length c4 32 2 (zs.flatMap ackC)]) (fun k zs => xs.length - k) [(0, _), (1, _), (2, _), (7, _), (8, _), (9, _), (44, _)] _ 0 xs ⟨by omega, rfl⟩ (Sub.cons rfl <| Sub.cons rfl <| Sub.cons rfl <| Sub.cons rfl <| Sub.cons rfl <| Sub.cons rfl <| Sub.cons rfl <| Sub.cons rfl <| Sub.nil _) (Ent.perm (List.Perm.swap _ _ _)) (fun k zs hk ih => ?_)
    refine G.seq <| G.reg <| W.q (lt rfl rfl) rfl <| W.nil <| G.seq <| G.cdd rfl (fun h2 => ?_) (fun h2 => ?_)
    · -- h2 True
      have h2' : k < zs.length := by omega
      refine G.slAt (a := a4) (m := xs.length) (cap := c4) (E := 32) (s := 2) (xs := zs.flatMap ackC) (by simp) (fun q1 q2 q3 q4 => ?_)
      rcases q4 with ⟨_, _, q4⟩ | ⟨g, rfl⟩
      · omega
      have hrd : ∀ H, sl (some ⟨g, 0, none⟩) xs.length c4 32 2 (zs.flatMap ackC) ∈ H → Cells X.w0 H g (0 + (k : Int).toNat * 2) (ackC zs[k]) := fun H hi => (Cells.sl hi).flat ackC_len k h2'
      refine G.skip <| G.seq <| G.blk <| G.seq <| G.reg <| W.q (mv rfl) rfl <| W.q (sa rfl) rfl <| W.nil <| G.reg <| W.q (mv rfl) rfl <| W.q (mv rfl) rfl <| W.q (mv rfl) rfl <| W.q (mv rfl) rfl <| W.q (ia Try.esl24 rfl rfl (by omega) (by omega)) rfl <| W.q (fa Try.fof32_1 rfl) rfl <| W.q (ld Try.sc30 rfl (hrd _ (by simp) 1 _ rfl)) rfl <| W.q (adw rfl rfl) rfl <| W.q (bld (cs := [_, _]) Try.stp32 rfl rfl) rfl <| W.q (ia Try.esl24 rfl rfl (by omega) (by omega)) rfl <| W.stS (xs' := (zs.set k (1, IntKind.u64.wrap (zs[k].2 + 1))).flatMap ackC) Try.sz32 rfl rfl rfl rfl rfl .hd (by rw [Nat.zero_add]; have := Nat.mul_le_mul_right 2 (show k + 1 ≤ xs.length by omega); rw [Nat.add_mul] at this; simpa using this) (by rw [Nat.zero_add]; exact flat_set ackC 2 ackC_len zs k (1, _) h2') <| W.nil <| G.inb <| G.reg <| W.q (ad rfl rfl (by omega)) rfl <| W.q (mv rfl) rfl <| W.nil <| (ih (k + 1) (zs.set k (1, IntKind.u64.wrap (zs[k].2 + 1))) ⟨by omega, by simp; omega⟩ (by omega)).weak (Sub.cons rfl <| Sub.cons rfl <| Sub.cons rfl <| Sub.cons rfl <| Sub.cons rfl <| Sub.cons rfl <| Sub.cons rfl <| Sub.cons rfl <| Sub.nil _) .rfl
    · -- h2 False
      refine G.exit rfl <| G.seq <| G.reg <| W.q (mv rfl) rfl <| W.fv Try.ca15 rfl (fun w hm => ref08_Acks a cap xs w (hm.rd rfl hl) hb) rfl <| W.q (sa rfl) rfl <| W.nil <| G.seq <| G.seq <| G.reg <| W.q (mv rfl) rfl <| W.q (mv rfl) rfl <| W.q (ne rfl rfl) rfl <| W.nil <| G.cdd rfl (fun h3 => ?_) (fun h3 => ?_)
      · -- h3 True
        exact absurd rfl h3
      · -- h3 False
        refine G.skip <| G.seq <| G.seq <| G.reg <| W.q (mv rfl) rfl <| W.q (ln Try.esl23 rfl) rfl <| W.q (mv rfl) rfl <| W.nil <| G.blk <| G.loop1 (α := Nat) (fun k => k ≤ ids.length) (fun k => [(66, i64 k)]) (fun k => []) (fun k => ids.length - k) [(0, _), (2, _), (7, _), (11, _), (64, _), (65, _)] _ 0 (by omega) (Sub.cons rfl <| Sub.cons rfl <| Sub.cons rfl <| Sub.cons rfl <| Sub.cons rfl <| Sub.cons rfl <| Sub.cons rfl <| Sub.nil _) .rfl (fun k hk ih2 => ?_)
        refine G.seq <| G.reg <| W.q (lt rfl rfl) rfl <| W.nil <| G.seq <| G.cdd rfl (fun h4 => ?_) (fun h4 => ?_)
        · -- h4 True
          have h4' : k < ids.length := by omega
          obtain ⟨b, o, rfl, hc⟩ := hl2.at k h4'
          generalize ids[k] = id at hc
          refine G.skip <| G.seq <| G.blk <| G.seq <| G.reg <| W.q (ia Try.esl23 rfl rfl (by omega) (by omega)) rfl <| W.q (ld Try.sc30 rfl (Cell.old rfl (by simpa using hc))) rfl <| W.q (sa rfl) rfl <| W.nil <| G.seq <| G.reg <| W.q (lda Try.agg26 Try.sz26 rfl (Cells.whole (.tl <| .tl <| .hd)) rfl) rfl <| W.q (mv rfl) rfl <| W.fv Try.ca16 rfl (fun w hm => tape_First a5 c5 ys w (hm.slRd (.tail _ <| .head _)) hby id) rfl <| W.q (mv rfl) rfl <| W.q (ex rfl rfl) rfl <| W.q (ex rfl rfl) rfl <| W.q (sa rfl) rfl <| W.q (sa rfl) rfl <| W.nil <| G.seq <| G.reg <| W.q (mv rfl) rfl <| W.q (mv rfl) rfl <| W.fv Try.ca17 rfl (fun w hm => ref08_First a cap xs w (hm.rd rfl hl) hb id) rfl <| W.q (mv rfl) rfl <| W.q (ex rfl rfl) rfl <| W.q (ex rfl rfl) rfl <| W.q (sa rfl) rfl <| W.q (sa rfl) rfl <| W.nil <| G.seq <| G.seq <| G.reg <| W.q (mv rfl) rfl <| W.q (ne rfl rfl) rfl <| W.nil <| G.cdd rfl (fun h5 => ?_) (fun h5 => ?_)
          · -- h5 True
            have e : ys = [] := by rw [← hys, if_neg h5]
            subst e
            refine G.reg <| W.q (sa rfl) rfl <| W.q (sa rfl) rfl <| W.nil <| G.seq <| G.reg <| W.q (mv rfl) rfl <| W.q (mv rfl) rfl <| W.q (ne rfl rfl) rfl <| W.q (mv rfl) rfl <| W.sp (t := _) 87 rfl (fun g6 => ?_) (fun g6 => ?_)
            · -- True
              simp [firstR] at g6
            · -- False
              refine W.qg rfl rfl g6 (mv rfl) rfl <| W.qg rfl rfl g6 (mv rfl) rfl <| W.qg rfl rfl g6 (neb Try.underlying4 rfl rfl) rfl <| W.q (pkf rfl g6 rfl) rfl <| W.q (mv rfl) rfl <| W.sp (t := _) 92 rfl (fun g7 => ?_) (fun g7 => ?_)
              · -- True
                simp [firstR] at g7
              · -- False
                refine W.qg rfl rfl g7 (lda Try.agg26 Try.sz26 rfl (Cells.whole (.tl <| .tl <| .hd)) rfl) rfl <| W.qg rfl rfl g7 (mv rfl) rfl <| W.qg rfl rfl g7 (mv rfl) rfl <| W.fvg rfl rfl g7 Try.ca13 rfl (fun w hm => tape_Acked a5 c5 _ w (hm.slRd (.tail _ <| .head _)) hby id now) rfl <| W.qg rfl rfl g7 (mv rfl) rfl <| W.qg rfl rfl g7 (mv rfl) rfl <| W.sk rfl rfl rfl rfl <| W.sk rfl rfl rfl rfl <| W.sk rfl rfl rfl rfl <| W.qg rfl rfl g7 (pkf rfl rfl rfl) rfl <| W.qg rfl rfl g7 (neb Try.underlying4 rfl rfl) rfl <| W.q (pkf rfl g7 rfl) rfl <| W.nil <| G.cdd rfl (fun h8 => ?_) (fun h8 => ?_)
                · -- h8 True
                  simp [firstR] at h8
                · -- h8 False
                  refine G.skip <| G.inb <| G.reg <| W.q (ad rfl rfl (by omega)) rfl <| W.q (mv rfl) rfl <| W.nil <| (ih2 (k + 1) (by omega) (by omega)).weak (Sub.cons rfl <| Sub.cons rfl <| Sub.cons rfl <| Sub.cons rfl <| Sub.cons rfl <| Sub.cons rfl <| Sub.cons rfl <| Sub.nil _) .rfl
          · -- h5 False
            have e : ys = xs := by rw [← hys, if_pos (by simpa using h5)]
            subst e
            refine G.skip <| G.seq <| G.reg <| W.q (mv rfl) rfl <| W.q (mv rfl) rfl <| W.q (ne rfl rfl) rfl <| W.q (mv rfl) rfl <| W.sp (t := _) 87 rfl (fun g9 => ?_) (fun g9 => ?_)
            · -- True
              simp at g9
            · -- False
              refine W.qg rfl rfl g9 (mv rfl) rfl <| W.qg rfl rfl g9 (mv rfl) rfl <| W.qg rfl rfl g9 (neb Try.underlying4 rfl rfl) rfl <| W.q (pkf rfl g9 rfl) rfl <| W.q (mv rfl) rfl <| W.sp (t := _) 92 rfl (fun g10 => ?_) (fun g10 => ?_)
              · -- True
                simp at g10
              · -- False
                refine W.qg rfl rfl g10 (lda Try.agg26 Try.sz26 rfl (Cells.whole (.tl <| .tl <| .hd)) rfl) rfl <| W.qg rfl rfl g10 (mv rfl) rfl <| W.qg rfl rfl g10 (mv rfl) rfl <| W.fvg rfl rfl g10 Try.ca13 rfl (fun w hm => tape_Acked a5 c5 _ w (hm.slRd (.tail _ <| .head _)) hby id now) rfl <| W.qg rfl rfl g10 (mv rfl) rfl <| W.qg rfl rfl g10 (mv rfl) rfl <| W.sp (t := _) 98 rfl (fun g11 => ?_) (fun g11 => ?_)
                · -- True
                  refine W.qg rfl rfl g11 (mv rfl) rfl <| W.qg rfl rfl g11 (mv rfl) rfl <| W.qg rfl rfl g11 (le rfl rfl) rfl <| W.qg rfl rfl g10 (pkt rfl g11 rfl) rfl <| W.qg rfl rfl g10 (neb Try.underlying4 rfl rfl) rfl <| W.q (pkf rfl g10 rfl) rfl <| W.nil <| G.cdd rfl (fun h12 => ?_) (fun h12 => ?_)
                  · -- h12 True
                    simp [g11] at h12
                  · -- h12 False
                    refine G.skip <| G.inb <| G.reg <| W.q (ad rfl rfl (by omega)) rfl <| W.q (mv rfl) rfl <| W.nil <| (ih2 (k + 1) (by omega) (by omega)).weak (Sub.cons rfl <| Sub.cons rfl <| Sub.cons rfl <| Sub.cons rfl <| Sub.cons rfl <| Sub.cons rfl <| Sub.cons rfl <| Sub.nil _) .rfl
                · -- False
                  refine W.sk rfl rfl g11 rfl <| W.sk rfl rfl g11 rfl <| W.sk rfl rfl g11 rfl <| W.qg rfl rfl g10 (pkf rfl g11 rfl) rfl <| W.qg rfl rfl g10 (neb Try.underlying4 rfl rfl) rfl <| W.q (pkf rfl g10 rfl) rfl <| W.nil <| G.cdd rfl (fun h13 => ?_) (fun h13 => ?_)
                  · -- h13 True
                    simp [g11] at h13
                  · -- h13 False
                    refine G.skip <| G.inb <| G.reg <| W.q (ad rfl rfl (by omega)) rfl <| W.q (mv rfl) rfl <| W.nil <| (ih2 (k + 1) (by omega) (by omega)).weak (Sub.cons rfl <| Sub.cons rfl <| Sub.cons rfl <| Sub.cons rfl <| Sub.cons rfl <| Sub.cons rfl <| Sub.cons rfl <| Sub.nil _) .rfl
        · -- h4 False
          refine G.exit rfl <| G.seq <| G.reg <| W.q (sa rfl) rfl <| W.nil <| ret1 hX Try.results3 rfl fun w hm => done (H := []) rfl rfl (Dr.ent (Dr.new rfl) w hm)
end Go.Proofs.Ytnbofpojbpmdmaa
