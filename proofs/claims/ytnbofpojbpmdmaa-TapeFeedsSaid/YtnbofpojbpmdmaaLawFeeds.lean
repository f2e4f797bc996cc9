/- TapeFeeds. -/
import Derived.Test.YtnbofpojbpmdmaaClock3
import Derived.Test.YtnbofpojbpmdmaaFeed1
import Derived.Test.YtnbofpojbpmdmaaLawTape
import Derived.Test.YtnbofpojbpmdmaaLawAcks
import Derived.Test.YtnbofpojbpmdmaaJoin
namespace Go.Proofs.Ytnbofpojbpmdmaa
open Go Go.Eng
set_option linter.unusedVariables false

def tkC (x : Int × Int × Int) : List Value := [i64 x.1, i64 x.2.1, i64 x.2.2]
structure TF where
  now : Int
  ts : List (Int × Int)
  p : Nat
  pt : Option Addr
  ct : Nat
  wt : Option Addr
  cw : Nat
theorem tkC_len (x : Int × Int × Int) : (tkC x).length = 3 := rfl
theorem setR_len {now : Int} {ts : List (Int × Int)} {x y : Int} (h : ts.length ≤ 64) : (setR now ts x y).1.length ≤ 64 := by
  unfold setR
  split
  · exact h
  · split
    · exact h
    · simp; omega
theorem dueR_len {now : Int} {ts : List (Int × Int)} {u : Int} (h : ts.length ≤ 64) : (dueR now ts u).2.1.length ≤ 64 := by
  unfold dueR
  split
  · exact h
  · have := List.length_eraseIdx_le ts (dueI ts u).toNat; simp only []; omega
theorem feedR_no {bs : List UInt8} {xs : List (Int × Int)} (h : acksR xs ≠ 0) : feedR bs xs = acksR xs := by rw [feedR, if_pos h]
theorem feedR_big {bs : List UInt8} {xs : List (Int × Int)} (h : acksR xs = 0) (h2 : 1048576 < bs.length) : feedR bs xs = 2 := by rw [feedR, if_neg (fun q => q h), if_pos h2]
theorem feedR_ok {bs : List UInt8} {xs : List (Int × Int)} (h : acksR xs = 0) (h2 : ¬ 1048576 < bs.length) : feedR bs xs = 0 := by rw [feedR, if_neg (fun q => q h), if_neg h2]


set_option maxRecDepth 100000 in
theorem clock_WaitingR (b o n cap : Nat) (a : Option Addr) (w : World) (hc1 : w.cell? ⟨b, o + 1, none⟩ = some (.slice a n cap)) :
    Ret Try.prog 54 [ptr b o] w (fun v _ => v = i64 n) := by
  refine enter [] (Mem.nil _) Try.func54 rfl Try.ntmps54 rfl (fun X hX => ?_)
  have hw := hX.w0; subst hw
  refine G.seq <| G.reg <| W.q (sa rfl) rfl <| W.nil <| G.seq <| G.reg <| W.q (mv rfl) rfl <| W.q (ncp rfl) rfl <| W.q (fa Try.fof85_1 rfl) rfl <| W.q (ld Try.sc83 rfl (Cell.old rfl hc1)) rfl <| W.q (ln Try.esl83 rfl) rfl <| W.q (sa rfl) rfl <| W.nil <| ret1 hX Try.results54 rfl fun w hm => done rfl rfl hm


set_option maxRecDepth 100000 in
theorem feed_Heard (b : Nat) (now : Int) (a : Option Addr) (cap : Nat) (xs : List (Int × Int)) (w : World) (hc2 : w.cell? ⟨b, 2, none⟩ = some (i64 now)) (hc4 : w.cell? ⟨b, 4, none⟩ = some (.slice a xs.length cap)) (hl : RdL w a (xs.flatMap ackC)) (hb : xs.length * 16 ≤ 140737488351232) (id : Int) :
    Ret Try.prog 55 [ptr b 0, .int .u64 id] w (fun v _ => v = .bool ((firstR xs id).2 && decide ((firstR xs id).1 ≤ now))) := by
  refine enter [] (Mem.nil _) Try.func55 rfl Try.ntmps55 rfl (fun X hX => ?_)
  have hw := hX.w0; subst hw
  have hA : ∀ H, allNew H = true → Cells X.w0 H b 4 [.slice a xs.length cap] := fun H hn i v hv => by
    match i with
    | 0 => cases hv; exact Cell.old hn hc4
  refine G.seq <| G.reg <| W.q (sa rfl) rfl <| W.nil <| G.seq <| G.regq Try.mixed (by kernel_rfl) <| W.q (mv rfl) rfl <| W.q (ncp rfl) rfl <| W.q (fa Try.fof87_2 rfl) rfl <| W.q (lda Try.agg26 Try.sz26 rfl (hA _ rfl) rfl) rfl <| W.q (mv rfl) rfl <| W.q (mv rfl) rfl <| W.q (ncp rfl) rfl <| W.q (fa Try.fof87_1 rfl) rfl <| W.fvq Try.ca47 rfl (fun w hm => clock_NowR b 2 now w (hm.cellOld rfl hc2)) rfl <| W.fvq Try.ca13 rfl (fun w hm => tape_Acked a cap xs w (hm.rd rfl hl) hb id now) rfl <| W.q (sa rfl) rfl <| W.nilq <| ret1 hX Try.results55 rfl fun w hm => done rfl rfl hm


set_option maxRecDepth 100000 in
theorem law_TapeFeeds (a : Option Addr) (cap : Nat) (bs : List UInt8) (w : World) (hl : RdL w a (B bs)) (hb : bs.length ≤ 140737488351232) (hcap : bs.length ≤ cap)
    (aa : Option Addr) (capa : Nat) (xs : List (Int × Int)) (hla : RdL w aa (xs.flatMap ackC)) (hba : xs.length * 16 ≤ 140737488351232)
    (at_ : Option Addr) (capt : Nat) (tks : List (Int × Int × Int)) (hlt : RdL w at_ (tks.flatMap tkC)) (hbt : tks.length * 24 ≤ 140737488351232) (hnt : ∀ t ∈ tks, t.2.2 ≤ 9223372036854775807) :
    Ret Try.prog 9 [.slice a bs.length cap, .slice aa xs.length capa, .slice at_ tks.length capt] w (fun v _ => v = .bool true) := by
  refine enter [] (Mem.nil _) Try.func9 rfl Try.ntmps9 rfl (fun X hX => ?_)
  have hw := hX.w0; subst hw
  refine G.seq <| G.reg <| W.q (sa rfl) rfl <| W.nil <| G.seq <| G.seq <| G.reg <| W.fv Try.ca21 rfl (fun w hm => law08_awake w) rfl <| W.q (nt rfl) rfl <| W.nil <| G.cdf rfl rfl <| G.skip <| G.seq <| G.reg <| W.q (mv rfl) rfl <| W.fn Try.ca23 rfl (fun w hm => ref01_Copy a cap bs w (hm.rd rfl hl) hb) rfl fun v J hv hJ => ?_
  obtain ⟨a0, c0, rfl, rfl⟩ := hv
  refine W.q (mv rfl) rfl <| W.fn Try.ca14 rfl (fun w hm => law08_acks aa capa xs w (hm.rd rfl hla) hba) rfl fun v J hv hJ => ?_
  obtain ⟨a1, c1, rfl, rfl⟩ := hv
  refine W.fn Try.ca39 rfl (fun w hm => tape_NewFeed a0 c0 bs w (hm.slRd (.tail _ <| .head _)) hb a1 c1 xs (hm.slRd (.head _)) hba) rfl fun v J hv hJ => ?_
  obtain ⟨bf, a2, c2, a3, c3, rfl, hJe⟩ := hv
  generalize hfR : feedR bs xs = fR at *
  refine W.q (mv rfl) rfl <| W.q (ex rfl rfl) rfl <| W.q (ex rfl rfl) rfl <| W.q (sa rfl) rfl <| W.q (sa rfl) rfl <| W.nil <| G.seq <| G.seq <| G.reg <| W.q (mv rfl) rfl <| W.fv Try.ca15 rfl (fun w hm => ref08_Acks aa capa xs w (hm.rd (allNew_append hJ rfl) hla) hba) rfl <| W.q (sa rfl) rfl <| W.nil <| G.seq <| G.reg <| W.q (mv rfl) rfl <| W.q (ne rfl rfl) rfl <| W.q (mv rfl) rfl <| W.sp (t := _) 41 rfl (fun g1 => ?_) (fun g1 => ?_)
  · -- True
    have hA := of_decide_eq_true g1
    rw [feedR_no hA] at hfR
    subst hfR
    rw [if_neg hA]
    refine W.sk rfl rfl g1 rfl <| W.sk rfl rfl g1 rfl <| W.sk rfl rfl g1 rfl <| W.q (pkt rfl g1 rfl) rfl <| W.nil <| G.cdt rfl rfl <| G.seq <| G.seq <| G.reg <| W.q (mv rfl) rfl <| W.q (eq rfl rfl) rfl <| W.nil <| G.cdd rfl (fun h2 => ?_) (fun h2 => ?_)
    · -- h2 True
      exact absurd h2 hA
    · -- h2 False
      refine G.skip <| G.seq <| G.reg <| W.q (mv rfl) rfl <| W.q (mv rfl) rfl <| W.q (eq rfl rfl) rfl <| W.q (mv rfl) rfl <| W.sp (t := _) 51 rfl (fun g3 => ?_) (fun g3 => ?_)
      · -- True
        refine W.qg rfl rfl g3 (mv rfl) rfl <| W.qg rfl rfl g3 (eqp Try.underlying80 rfl) rfl <| W.q (pkt rfl g3 rfl) rfl <| W.q (sa rfl) rfl <| W.nil <| ret1 hX Try.results9 rfl fun w hm => done (H := []) rfl rfl (Dr.ent (Dr.new (allNew_append hJ rfl)) w hm)
      · -- False
        simp at g3
  · -- False
    have hA0 : acksR xs = 0 := by simpa using g1
    refine W.qg rfl rfl g1 (mv rfl) rfl <| W.qg rfl rfl g1 (ln Try.esl46 rfl) rfl <| W.qg rfl rfl g1 (gt rfl rfl) rfl <| W.q (pkf rfl g1 rfl) rfl <| W.nil <| G.cdd rfl (fun h4 => ?_) (fun h4 => ?_)
    · -- h4 True
      rw [feedR_big hA0 (by omega)] at hfR
      subst hfR
      rw [if_neg (by decide)]
      refine G.seq <| G.seq <| G.reg <| W.q (mv rfl) rfl <| W.q (eq rfl rfl) rfl <| W.nil <| G.cdd rfl (fun h5 => ?_) (fun h5 => ?_)
      · -- h5 True
        refine G.reg <| W.q (sa rfl) rfl <| W.nil <| G.seq <| G.reg <| W.q (mv rfl) rfl <| W.q (mv rfl) rfl <| W.q (eq rfl rfl) rfl <| W.q (mv rfl) rfl <| W.sp (t := _) 51 rfl (fun g6 => ?_) (fun g6 => ?_)
        · -- True
          refine W.qg rfl rfl g6 (mv rfl) rfl <| W.qg rfl rfl g6 (eqp Try.underlying80 rfl) rfl <| W.q (pkt rfl g6 rfl) rfl <| W.q (sa rfl) rfl <| W.nil <| ret1 hX Try.results9 rfl fun w hm => done (H := []) rfl rfl (Dr.ent (Dr.new (allNew_append hJ rfl)) w hm)
        · -- False
          simp at g6
      · -- h5 False
        exact absurd hA0 h5
    · -- h4 False
      rw [feedR_ok hA0 (by omega)] at hfR
      subst hfR
      rw [if_pos rfl] at hJe ⊢
      subst hJe
      refine G.slAt (a := a2) (m := bs.length) (cap := c2) (E := 5) (s := 1) (xs := B bs) (by simp) (fun _ hc2 _ _ => ?_)
      refine G.skip <| G.seq <| G.seq <| G.reg <| W.q (mv rfl) rfl <| W.q (ne rfl rfl) rfl <| W.q (mv rfl) rfl <| W.sp (t := _) 57 rfl (fun g7 => ?_) (fun g7 => ?_)
      · -- True
        simp at g7
      · -- False
        refine W.qg rfl rfl g7 (mv rfl) rfl <| W.qg rfl rfl g7 (eqp Try.underlying80 rfl) rfl <| W.q (pkf rfl g7 rfl) rfl <| W.q (mv rfl) rfl <| W.sp (t := _) 61 rfl (fun g8 => ?_) (fun g8 => ?_)
        · -- True
          simp at g8
        · -- False
          refine W.qg rfl rfl g8 (mv rfl) rfl <| W.qg rfl rfl g8 (ncp rfl) rfl <| W.qg rfl rfl g8 (fa Try.fof87_1 rfl) rfl <| W.fvg rfl rfl g8 Try.ca47 rfl (fun w hm => clock_NowR bf 2 0 w (Cell.at .hd rfl w hm)) rfl <| W.qg rfl rfl g8 (ne rfl rfl) rfl <| W.q (pkf rfl g8 rfl) rfl <| W.q (mv rfl) rfl <| W.sp (t := _) 68 rfl (fun g9 => ?_) (fun g9 => ?_)
          · -- True
            simp at g9
          · -- False
            refine W.qg rfl rfl g9 (mv rfl) rfl <| W.qg rfl rfl g9 (ncp rfl) rfl <| W.qg rfl rfl g9 (fa Try.fof87_0 rfl) rfl <| W.qg rfl rfl g9 (fa Try.fof51_0 rfl) rfl <| W.fvg rfl rfl g9 Try.ca22 rfl (fun w hm => cursor_LeftR bf 0 a2 bs.length c2 0 w (Cell.at .hd rfl w hm) (Cell.at .hd rfl w hm) hb (by omega)) rfl <| W.qg rfl rfl g9 (mv rfl) rfl <| W.qg rfl rfl g9 (ln Try.esl46 rfl) rfl <| W.qg rfl rfl g9 (ne rfl rfl) rfl <| W.q (pkf rfl g9 rfl) rfl <| W.nil <| G.cdd rfl (fun h10 => ?_) (fun h10 => ?_)
            · -- h10 True
              omega
            · -- h10 False
              refine G.skip <| G.seq <| G.reg <| W.al Try.zrl105 rfl fun b1 => W.nil <| G.seq <| G.reg <| W.q (sa rfl) rfl <| W.nil <| G.seq <| G.seq <| ?_
              refine G.ent (Ent.slNil 156 2) ?_
              refine G.ent (Ent.slNil 154 2) ?_
              refine G.reg <| W.q (mv rfl) rfl <| W.q (ln Try.esl102 rfl) rfl <| W.q (mv rfl) rfl <| W.nil <| G.blk <| G.loop2 (α := Nat) (β := TF) (fun k s => k ≤ tks.length ∧ s.ts.length ≤ 64 ∧ s.p ≤ bs.length) (fun k s => [(11, i64 s.p), (80, i64 k)]) (fun k s => [nb bf [.slice a2 bs.length c2, i64 s.p, i64 s.now, .slice s.pt s.ts.length s.ct, .slice a3 xs.length c3] 87, sl s.pt s.ts.length s.ct 156 2 (s.ts.flatMap twoC), nb b1 [i64 s.now, .slice s.wt s.ts.length s.cw] 105, sl s.wt s.ts.length s.cw 154 2 (s.ts.flatMap twoC)]) (fun k s => tks.length - k) [(0, _), (1, _), (7, _), (10, _), (78, _), (79, _)] [sl a2 bs.length c2 5 1 (B bs), sl a3 xs.length c3 32 2 (xs.flatMap ackC)] 0 ⟨0, [], 0, none, 0, none, 0⟩ ⟨by omega, by simp, by simp⟩ (Sub.cons rfl <| Sub.cons rfl <| Sub.cons rfl <| Sub.cons rfl <| Sub.cons rfl <| Sub.cons rfl <| Sub.cons rfl <| Sub.cons rfl <| Sub.nil _) (fun w hm => (Dr.ent (.keep <| .keep <| .keep <| .keep <| .keep <| .keep <| .drop rfl <| .drop rfl <| .rfl)) w ((Ent.perm (.trans (.trans (.trans (.trans (.trans (.trans (.cons _ (.trans (.cons _ (.trans (.cons _ (.trans (.cons _ (.trans (.cons _ (.refl _)) (.swap _ _ _))) (.swap _ _ _))) (.swap _ _ _))) (.swap _ _ _))) (.swap _ _ _)) (.trans (.cons _ (.trans (.cons _ (.trans (.cons _ (.trans (.cons _ (.trans (.cons _ (.refl _)) (.swap _ _ _))) (.swap _ _ _))) (.swap _ _ _))) (.swap _ _ _))) (.swap _ _ _))) (.trans (.cons _ (.trans (.cons _ (.refl _)) (.swap _ _ _))) (.swap _ _ _))) (.trans (.cons _ (.trans (.cons _ (.trans (.cons _ (.trans (.cons _ (.refl _)) (.swap _ _ _))) (.swap _ _ _))) (.swap _ _ _))) (.swap _ _ _))) (.trans (.cons _ (.trans (.cons _ (.trans (.cons _ (.trans (.cons _ (.refl _)) (.swap _ _ _))) (.swap _ _ _))) (.swap _ _ _))) (.swap _ _ _))) (.trans (.cons _ (.trans (.cons _ (.trans (.cons _ (.trans (.cons _ (.trans (.cons _ (.refl _)) (.swap _ _ _))) (.swap _ _ _))) (.swap _ _ _))) (.swap _ _ _))) (.swap _ _ _)))) w hm)) (fun k s hk ih => ?_)
              obtain ⟨now, ts, p, pt, ct, wt, cw⟩ := s
              dsimp only at hk ⊢
              refine G.seq <| G.reg <| W.q (lt rfl rfl) rfl <| W.nil <| G.seq <| G.cdd rfl (fun h11 => ?_) (fun h11 => ?_)
              · -- h11 True
                have h11' : k < tks.length := by omega
                obtain ⟨zb, zo, rfl, hx⟩ := hlt.el tkC_len (by omega) k h11'
                have htb := hnt _ (List.getElem_mem h11')
                generalize tks[k] = tk at hx htb
                obtain ⟨tk, ta, tb⟩ := tk
                simp only at htb
                have hat : ∀ H, allNew H = true → Cells X.w0 H zb (zo + (k : Int).toNat * 3) [i64 tk, i64 ta, i64 tb] := fun H hn => Cells.old hn hx
                refine G.skip <| G.seq <| G.blk <| G.seq <| G.reg <| W.q (ia Try.esl102 rfl rfl (by omega) (by omega)) rfl <| W.q (lda Try.agg107 Try.sz107 rfl (hat _ rfl) rfl) rfl <| W.al Try.zrl107 rfl fun b2 => W.sta Try.sz107 rfl rfl rfl rfl .hd rfl <| W.nil <| G.seq <| G.reg <| W.q (sa rfl) rfl <| W.q (sa rfl) rfl <| W.q (sa rfl) rfl <| W.nil <| G.seq <| G.seq <| G.reg <| W.q (fa Try.fof107_0 rfl) rfl <| W.q (ld Try.sc3 rfl (Cell.at .hd rfl)) rfl <| W.nil <| G.blk <| G.seq <| G.reg <| W.q (eq rfl rfl) rfl <| W.q (sa rfl) rfl <| W.nil <| G.cdd rfl (fun h12 => ?_) (fun h12 => ?_)
                · -- h12 True
                  refine G.seq <| G.reg <| W.q (lda Try.agg105 Try.sz105 rfl (Cells.whole (.tl <| .tl <| .tl <| .hd)) rfl) rfl <| W.q (fa Try.fof107_1 rfl) rfl <| W.q (ld Try.sc3 rfl (Cell.at .hd rfl)) rfl <| W.q (fa Try.fof107_2 rfl) rfl <| W.q (ld Try.sc3 rfl (Cell.at .hd rfl)) rfl <| W.ff Try.ca48 rfl (Ent.perm (.trans (.cons _ (.trans (.cons _ (.trans (.cons _ (.trans (.cons _ (.refl _)) (.swap _ _ _))) (.swap _ _ _))) (.swap _ _ _))) (.swap _ _ _))) (ref08_Set X.w0 _ wt cw now ts hk.2.1 ta tb) rfl rfl fun v J hv hJ => ?_
                  obtain ⟨wt1, cw1, rfl, rfl⟩ := hv
                  refine W.q (mv rfl) rfl <| W.q (ex rfl rfl) rfl <| W.q (ex rfl rfl) rfl <| W.sta Try.sz105 rfl rfl rfl rfl (.tl <| .tl <| .tl <| .tl <| .hd) rfl <| W.q (sa rfl) rfl <| W.nil <| G.seq <| G.rega 10 rfl Try.mixed <| A.q 0 rfl (by kernel_rfl) (fun _ => (mv rfl)) rfl <| A.q 1 rfl (by kernel_rfl) (fun _ => (ncp rfl)) rfl <| A.q 2 rfl (by kernel_rfl) (fun _ => (fa Try.fof87_1 rfl)) rfl <| A.q 3 rfl (by kernel_rfl) (fun _ => (fa Try.fof107_1 rfl)) rfl <| A.q 5 rfl (by kernel_rfl) (fun _ => (fa Try.fof107_2 rfl)) rfl <| A.q 8 rfl (by kernel_rfl) (fun _ => (mv rfl)) rfl <| A.held 4 [6] rfl (by kernel_rfl) (ld Try.sc3 rfl (Cell.at (.tl <| .hd) rfl)) rfl <| A.held 6 [] rfl (by kernel_rfl) (ld Try.sc3 rfl (Cell.at (.tl <| .hd) rfl)) rfl <| A.one 7 rfl (by kernel_rfl) <| W.ff Try.ca49 rfl (Ent.perm (.trans (.trans (.cons _ (.trans (.cons _ (.trans (.cons _ (.refl _)) (.swap _ _ _))) (.swap _ _ _))) (.swap _ _ _)) (.trans (.cons _ (.trans (.cons _ (.trans (.cons _ (.refl _)) (.swap _ _ _))) (.swap _ _ _))) (.swap _ _ _)))) (clock_Set X.w0 _ bf 2 _ _ pt ct now ts rfl rfl hk.2.1 ta tb) rfl rfl fun v J hv hJ => ?_
                  obtain ⟨rfl, pt1, ct1, rfl⟩ := hv
                  have hts1 := setR_len (now := now) (x := ta) (y := tb) hk.2.1
                  generalize setR now ts ta tb = S at hts1 ⊢
                  obtain ⟨ts1, f1⟩ := S
                  obtain ⟨now1, hnow⟩ : ∃ x, x = now := ⟨_, rfl⟩
                  obtain ⟨p1, hp1, hp⟩ : ∃ x, x ≤ bs.length ∧ x = p := ⟨_, hk.2.2, rfl⟩
                  rw [← hnow, ← hp]
                  dsimp only
                  refine A.back <| A.q 9 rfl (by kernel_rfl) (fun _ => (ne rfl rfl)) rfl <| A.nil (by kernel_rfl) <| G.cdd rfl (fun h13 => ?_) (fun h13 => ?_)
                  · -- h13 True
                    exact absurd rfl h13
                  · -- h13 False
                    refine G.skip <| G.inb <| G.seq <| G.reg <| W.q (fa Try.fof107_2 rfl) rfl <| W.q (ld Try.sc3 rfl (Cell.at (.tl <| .tl <| .tl <| .hd) rfl)) rfl <| W.q (cv_i64_u64 Try.underlying3 Try.underlying30 rfl) rfl <| W.q (sa rfl) rfl <| W.nil <| G.seq <| G.reg <| W.q (mv rfl) rfl <| W.q (mv rfl) rfl <| W.fv Try.ca17 rfl (fun w hm => ref08_First aa capa xs w (hm.rd rfl hla) hba ((u64Of tb).toNat : Int)) rfl <| W.q (mv rfl) rfl <| W.q (ex rfl rfl) rfl <| W.q (ex rfl rfl) rfl <| W.q (sa rfl) rfl <| W.q (sa rfl) rfl <| W.nil <| G.seq <| G.regq Try.mixed (by kernel_rfl) <| W.q (mv rfl) rfl <| W.q (ncp rfl) rfl <| W.q (fa Try.fof87_1 rfl) rfl <| W.fvq Try.ca47 rfl (fun w hm => clock_NowR bf 2 now1 w (Cell.at .hd rfl w hm)) rfl <| W.q (fa Try.fof105_0 rfl) rfl <| W.q (ld Try.sc3 rfl (Cell.at (.tl <| .tl <| .tl <| .tl <| .hd) rfl)) rfl <| W.q (ne rfl rfl) rfl <| W.q (mv rfl) rfl <| W.sp (t := _) 202 rfl (fun g14 => ?_) (fun g14 => ?_)
                    · -- True
                      first | (simp at g14; done) | (simp_all; done)
                    · -- False
                      refine W.qg rfl rfl g14 (mv rfl) rfl <| W.qg rfl rfl g14 (ncp rfl) rfl <| W.qg rfl rfl g14 (fa Try.fof87_1 rfl) rfl <| W.fvgq rfl rfl g14 Try.ca54 rfl (fun w hm => clock_WaitingR bf 2 ts1.length ct1 pt1 w (Cell.at .hd rfl w hm)) rfl <| W.qg rfl rfl g14 (fa Try.fof105_1 rfl) rfl <| W.qg rfl rfl g14 (ld Try.sc103 rfl (Cell.at (.tl <| .tl <| .tl <| .tl <| .hd) rfl)) rfl <| W.qg rfl rfl g14 (ln Try.esl103 rfl) rfl <| W.qg rfl rfl g14 (ne rfl rfl) rfl <| W.q (pkf rfl g14 rfl) rfl <| W.q (mv rfl) rfl <| W.sp (t := _) 212 rfl (fun g15 => ?_) (fun g15 => ?_)
                      · -- True
                        first | (simp at g15; done) | (simp_all; done)
                      · -- False
                        refine W.qg rfl rfl g15 (mv rfl) rfl <| W.qg rfl rfl g15 (ncp rfl) rfl <| W.qg rfl rfl g15 (fa Try.fof87_0 rfl) rfl <| W.qg rfl rfl g15 (fa Try.fof51_0 rfl) rfl <| W.fvgq rfl rfl g15 Try.ca31 rfl (fun w hm => cursor_DoneR bf 0 p1 w (Cell.at .hd rfl w hm)) rfl <| W.qg rfl rfl g15 (mv rfl) rfl <| W.qg rfl rfl g15 (ne rfl rfl) rfl <| W.q (pkf rfl g15 rfl) rfl <| W.q (mv rfl) rfl <| W.sp (t := _) 221 rfl (fun g16 => ?_) (fun g16 => ?_)
                        · -- True
                          first | (simp at g16; done) | (simp_all; done)
                        · -- False
                          refine W.qg rfl rfl g16 (mv rfl) rfl <| W.qg rfl rfl g16 (mv rfl) rfl <| W.fvgq rfl rfl g16 Try.ca55 rfl (fun w hm => feed_Heard bf now1 a3 c3 xs w (Cell.at .hd rfl w hm) (Cell.at .hd rfl w hm) (hm.slRd (.tail _ <| .tail _ <| .tail _ <| .tail _ <| .tail _ <| .tail _ <| .head _)) hba ((u64Of tb).toNat : Int)) rfl <| W.qg rfl rfl g16 (mv rfl) rfl <| W.qg rfl rfl g16 (mv rfl) rfl <| W.sp (t := _) 226 rfl (fun g17 => ?_) (fun g17 => ?_)
                          · -- True
                            refine W.qg rfl rfl g17 (mv rfl) rfl <| W.qg rfl rfl g17 (fa Try.fof105_0 rfl) rfl <| W.qg rfl rfl g17 (ld Try.sc3 rfl (Cell.at (.tl <| .tl <| .tl <| .tl <| .hd) rfl)) rfl <| W.qg rfl rfl g17 (le rfl rfl) rfl <| W.qg rfl rfl g16 (pkt rfl g17 rfl) rfl <| W.qg rfl rfl g16 (neb Try.underlying4 rfl rfl) rfl <| W.q (pkf rfl g16 rfl) rfl <| W.q (mv rfl) rfl <| W.sp (t := _) 234 rfl (fun g18 => ?_) (fun g18 => ?_)
                            · -- True
                              first | (simp at g18; done) | (simp_all; done)
                            · -- False
                              refine W.qg rfl rfl g18 (mv rfl) rfl <| W.qg rfl rfl g18 (ncp rfl) rfl <| W.qg rfl rfl g18 (fa Try.fof87_2 rfl) rfl <| W.qg rfl rfl g18 (lda Try.agg26 Try.sz26 rfl (fun i v hv => by match i with | 0 => cases hv; exact Cell.at .hd rfl | i + 1 => simp at hv) rfl) rfl <| W.qg rfl rfl g18 (mv rfl) rfl <| W.qg rfl rfl g18 (fa Try.fof105_0 rfl) rfl <| W.qg rfl rfl g18 (ld Try.sc3 rfl (Cell.at (.tl <| .tl <| .tl <| .tl <| .hd) rfl)) rfl <| W.fvgq rfl rfl g18 Try.ca13 rfl (fun w hm => tape_Acked a3 c3 xs w (hm.slRd (.tail _ <| .tail _ <| .tail _ <| .tail _ <| .tail _ <| .tail _ <| .head _)) hba ((u64Of tb).toNat : Int) now1) rfl <| W.qg rfl rfl g18 (mv rfl) rfl <| W.qg rfl rfl g18 (mv rfl) rfl <| W.fvgq rfl rfl g18 Try.ca55 rfl (fun w hm => feed_Heard bf now1 a3 c3 xs w (Cell.at .hd rfl w hm) (Cell.at .hd rfl w hm) (hm.slRd (.tail _ <| .tail _ <| .tail _ <| .tail _ <| .tail _ <| .tail _ <| .head _)) hba ((u64Of tb).toNat : Int)) rfl <| W.qg rfl rfl g18 (neb Try.underlying4 rfl rfl) rfl <| W.q (pkf rfl g18 rfl) rfl <| W.nilq <| G.cdd rfl (fun h19 => ?_) (fun h19 => ?_)
                              · -- h19 True
                                exact absurd rfl h19
                              · -- h19 False
                                refine G.skip <| G.inb <| G.reg <| W.q (ad rfl rfl (by omega)) rfl <| W.q (mv rfl) rfl <| W.nil <| (ih (k + 1) ⟨now1, ts1, p1, pt1, ct1, wt1, cw1⟩ ⟨by omega, hts1, hp1⟩ (by omega)).weak (Sub.cons rfl <| Sub.cons rfl <| Sub.cons rfl <| Sub.cons rfl <| Sub.cons rfl <| Sub.cons rfl <| Sub.cons rfl <| Sub.cons rfl <| Sub.nil _) (fun w hm => (Dr.ent (.keep <| .keep <| .keep <| .keep <| .keep <| .keep <| .drop rfl <| .rfl)) w ((Ent.perm (.trans (.trans (.trans (.trans (.trans (.trans (.cons _ (.trans (.cons _ (.trans (.cons _ (.trans (.cons _ (.trans (.cons _ (.trans (.cons _ (.refl _)) (.swap _ _ _))) (.swap _ _ _))) (.swap _ _ _))) (.swap _ _ _))) (.swap _ _ _))) (.swap _ _ _)) (.trans (.cons _ (.trans (.cons _ (.trans (.cons _ (.trans (.cons _ (.trans (.cons _ (.trans (.cons _ (.refl _)) (.swap _ _ _))) (.swap _ _ _))) (.swap _ _ _))) (.swap _ _ _))) (.swap _ _ _))) (.swap _ _ _))) (.trans (.cons _ (.trans (.cons _ (.trans (.cons _ (.trans (.cons _ (.refl _)) (.swap _ _ _))) (.swap _ _ _))) (.swap _ _ _))) (.swap _ _ _))) (.trans (.cons _ (.trans (.cons _ (.trans (.cons _ (.trans (.cons _ (.trans (.cons _ (.trans (.cons _ (.refl _)) (.swap _ _ _))) (.swap _ _ _))) (.swap _ _ _))) (.swap _ _ _))) (.swap _ _ _))) (.swap _ _ _))) (.trans (.cons _ (.trans (.cons _ (.trans (.cons _ (.trans (.cons _ (.trans (.cons _ (.refl _)) (.swap _ _ _))) (.swap _ _ _))) (.swap _ _ _))) (.swap _ _ _))) (.swap _ _ _))) (.trans (.cons _ (.trans (.cons _ (.trans (.cons _ (.trans (.cons _ (.trans (.cons _ (.refl _)) (.swap _ _ _))) (.swap _ _ _))) (.swap _ _ _))) (.swap _ _ _))) (.swap _ _ _)))) w hm))
                          · -- False
                            refine W.sk rfl rfl g17 rfl <| W.sk rfl rfl g17 rfl <| W.sk rfl rfl g17 rfl <| W.sk rfl rfl g17 rfl <| W.qg rfl rfl g16 (pkf rfl g17 rfl) rfl <| W.qg rfl rfl g16 (neb Try.underlying4 rfl rfl) rfl <| W.q (pkf rfl g16 rfl) rfl <| W.q (mv rfl) rfl <| W.sp (t := _) 234 rfl (fun g20 => ?_) (fun g20 => ?_)
                            · -- True
                              first | (simp at g20; done) | (simp_all; done)
                            · -- False
                              refine W.qg rfl rfl g20 (mv rfl) rfl <| W.qg rfl rfl g20 (ncp rfl) rfl <| W.qg rfl rfl g20 (fa Try.fof87_2 rfl) rfl <| W.qg rfl rfl g20 (lda Try.agg26 Try.sz26 rfl (fun i v hv => by match i with | 0 => cases hv; exact Cell.at .hd rfl | i + 1 => simp at hv) rfl) rfl <| W.qg rfl rfl g20 (mv rfl) rfl <| W.qg rfl rfl g20 (fa Try.fof105_0 rfl) rfl <| W.qg rfl rfl g20 (ld Try.sc3 rfl (Cell.at (.tl <| .tl <| .tl <| .tl <| .hd) rfl)) rfl <| W.fvgq rfl rfl g20 Try.ca13 rfl (fun w hm => tape_Acked a3 c3 xs w (hm.slRd (.tail _ <| .tail _ <| .tail _ <| .tail _ <| .tail _ <| .tail _ <| .head _)) hba ((u64Of tb).toNat : Int) now1) rfl <| W.qg rfl rfl g20 (mv rfl) rfl <| W.qg rfl rfl g20 (mv rfl) rfl <| W.fvgq rfl rfl g20 Try.ca55 rfl (fun w hm => feed_Heard bf now1 a3 c3 xs w (Cell.at .hd rfl w hm) (Cell.at .hd rfl w hm) (hm.slRd (.tail _ <| .tail _ <| .tail _ <| .tail _ <| .tail _ <| .tail _ <| .head _)) hba ((u64Of tb).toNat : Int)) rfl <| W.qg rfl rfl g20 (neb Try.underlying4 rfl rfl) rfl <| W.q (pkf rfl g20 rfl) rfl <| W.nilq <| G.cdd rfl (fun h21 => ?_) (fun h21 => ?_)
                              · -- h21 True
                                exact absurd rfl h21
                              · -- h21 False
                                refine G.skip <| G.inb <| G.reg <| W.q (ad rfl rfl (by omega)) rfl <| W.q (mv rfl) rfl <| W.nil <| (ih (k + 1) ⟨now1, ts1, p1, pt1, ct1, wt1, cw1⟩ ⟨by omega, hts1, hp1⟩ (by omega)).weak (Sub.cons rfl <| Sub.cons rfl <| Sub.cons rfl <| Sub.cons rfl <| Sub.cons rfl <| Sub.cons rfl <| Sub.cons rfl <| Sub.cons rfl <| Sub.nil _) (fun w hm => (Dr.ent (.keep <| .keep <| .keep <| .keep <| .keep <| .keep <| .drop rfl <| .rfl)) w ((Ent.perm (.trans (.trans (.trans (.trans (.trans (.trans (.cons _ (.trans (.cons _ (.trans (.cons _ (.trans (.cons _ (.trans (.cons _ (.trans (.cons _ (.refl _)) (.swap _ _ _))) (.swap _ _ _))) (.swap _ _ _))) (.swap _ _ _))) (.swap _ _ _))) (.swap _ _ _)) (.trans (.cons _ (.trans (.cons _ (.trans (.cons _ (.trans (.cons _ (.trans (.cons _ (.trans (.cons _ (.refl _)) (.swap _ _ _))) (.swap _ _ _))) (.swap _ _ _))) (.swap _ _ _))) (.swap _ _ _))) (.swap _ _ _))) (.trans (.cons _ (.trans (.cons _ (.trans (.cons _ (.trans (.cons _ (.refl _)) (.swap _ _ _))) (.swap _ _ _))) (.swap _ _ _))) (.swap _ _ _))) (.trans (.cons _ (.trans (.cons _ (.trans (.cons _ (.trans (.cons _ (.trans (.cons _ (.trans (.cons _ (.refl _)) (.swap _ _ _))) (.swap _ _ _))) (.swap _ _ _))) (.swap _ _ _))) (.swap _ _ _))) (.swap _ _ _))) (.trans (.cons _ (.trans (.cons _ (.trans (.cons _ (.trans (.cons _ (.trans (.cons _ (.refl _)) (.swap _ _ _))) (.swap _ _ _))) (.swap _ _ _))) (.swap _ _ _))) (.swap _ _ _))) (.trans (.cons _ (.trans (.cons _ (.trans (.cons _ (.trans (.cons _ (.trans (.cons _ (.refl _)) (.swap _ _ _))) (.swap _ _ _))) (.swap _ _ _))) (.swap _ _ _))) (.swap _ _ _)))) w hm))
                · -- h12 False
                  refine G.seq <| G.reg <| W.q (eq rfl rfl) rfl <| W.q (sa rfl) rfl <| W.nil <| G.cdd rfl (fun h22 => ?_) (fun h22 => ?_)
                  · -- h22 True
                    refine G.seq <| G.reg <| W.q (lda Try.agg105 Try.sz105 rfl (Cells.whole (.tl <| .tl <| .tl <| .hd)) rfl) rfl <| W.q (fa Try.fof107_1 rfl) rfl <| W.q (ld Try.sc3 rfl (Cell.at .hd rfl)) rfl <| W.ff Try.ca50 rfl (Ent.perm (.trans (.cons _ (.trans (.cons _ (.trans (.cons _ (.trans (.cons _ (.refl _)) (.swap _ _ _))) (.swap _ _ _))) (.swap _ _ _))) (.swap _ _ _))) (ref08_Due X.w0 _ wt cw now ts hk.2.1 ta) rfl rfl fun v J hv hJ => ?_
                    obtain ⟨wt1, cw1, rfl, rfl⟩ := hv
                    refine W.q (mv rfl) rfl <| W.q (ex rfl rfl) rfl <| W.q (ex rfl rfl) rfl <| W.q (ex rfl rfl) rfl <| W.sta Try.sz105 rfl rfl rfl rfl (.tl <| .tl <| .tl <| .tl <| .hd) rfl <| W.q (sa rfl) rfl <| W.q (sa rfl) rfl <| W.nil <| G.seq <| G.rega 11 rfl Try.mixed <| A.q 0 rfl (by kernel_rfl) (fun _ => (mv rfl)) rfl <| A.q 1 rfl (by kernel_rfl) (fun _ => (ncp rfl)) rfl <| A.q 2 rfl (by kernel_rfl) (fun _ => (fa Try.fof87_1 rfl)) rfl <| A.q 3 rfl (by kernel_rfl) (fun _ => (fa Try.fof107_1 rfl)) rfl <| A.held 4 [] rfl (by kernel_rfl) (ld Try.sc3 rfl (Cell.at (.tl <| .hd) rfl)) rfl <| A.one 5 rfl (by kernel_rfl) <| W.ff Try.ca51 rfl (Ent.perm (.trans (.trans (.cons _ (.trans (.cons _ (.trans (.cons _ (.refl _)) (.swap _ _ _))) (.swap _ _ _))) (.swap _ _ _)) (.trans (.cons _ (.trans (.cons _ (.trans (.cons _ (.refl _)) (.swap _ _ _))) (.swap _ _ _))) (.swap _ _ _)))) (clock_Due X.w0 _ bf 2 _ _ pt ct now ts rfl rfl hk.2.1 ta) rfl rfl fun v J hv hJ => ?_
                    obtain ⟨rfl, pt1, ct1, rfl⟩ := hv
                    have hts1 := dueR_len (now := now) (u := ta) hk.2.1
                    generalize dueR now ts ta = S at hts1 ⊢
                    obtain ⟨now1, ts1, w1, ok1⟩ := S
                    obtain ⟨p1, hp1, hp⟩ : ∃ x, x ≤ bs.length ∧ x = p := ⟨_, hk.2.2, rfl⟩
                    rw [← hp]
                    dsimp only
                    refine A.back <| A.q 6 rfl (by kernel_rfl) (fun _ => (mv rfl)) rfl <| A.q 7 rfl (by kernel_rfl) (fun _ => (ex rfl rfl)) rfl <| A.q 8 rfl (by kernel_rfl) (fun _ => (ex rfl rfl)) rfl <| A.q 9 rfl (by kernel_rfl) (fun _ => (sa rfl)) rfl <| A.q 10 rfl (by kernel_rfl) (fun _ => (sa rfl)) rfl <| A.nil (by kernel_rfl) <| G.seq <| G.reg <| W.q (mv rfl) rfl <| W.q (mv rfl) rfl <| W.q (ne rfl rfl) rfl <| W.q (mv rfl) rfl <| W.sp (t := _) 164 rfl (fun g23 => ?_) (fun g23 => ?_)
                    · -- True
                      first | (simp at g23; done) | (simp_all; done)
                    · -- False
                      refine W.qg rfl rfl g23 (mv rfl) rfl <| W.qg rfl rfl g23 (mv rfl) rfl <| W.qg rfl rfl g23 (neb Try.underlying4 rfl rfl) rfl <| W.q (pkf rfl g23 rfl) rfl <| W.nil <| G.cdd rfl (fun h24 => ?_) (fun h24 => ?_)
                      · -- h24 True
                        exact absurd rfl h24
                      · -- h24 False
                        refine G.skip <| G.inb <| G.seq <| G.reg <| W.q (fa Try.fof107_2 rfl) rfl <| W.q (ld Try.sc3 rfl (Cell.at (.tl <| .tl <| .tl <| .hd) rfl)) rfl <| W.q (cv_i64_u64 Try.underlying3 Try.underlying30 rfl) rfl <| W.q (sa rfl) rfl <| W.nil <| G.seq <| G.reg <| W.q (mv rfl) rfl <| W.q (mv rfl) rfl <| W.fv Try.ca17 rfl (fun w hm => ref08_First aa capa xs w (hm.rd rfl hla) hba ((u64Of tb).toNat : Int)) rfl <| W.q (mv rfl) rfl <| W.q (ex rfl rfl) rfl <| W.q (ex rfl rfl) rfl <| W.q (sa rfl) rfl <| W.q (sa rfl) rfl <| W.nil <| G.seq <| G.regq Try.mixed (by kernel_rfl) <| W.q (mv rfl) rfl <| W.q (ncp rfl) rfl <| W.q (fa Try.fof87_1 rfl) rfl <| W.fvq Try.ca47 rfl (fun w hm => clock_NowR bf 2 now1 w (Cell.at .hd rfl w hm)) rfl <| W.q (fa Try.fof105_0 rfl) rfl <| W.q (ld Try.sc3 rfl (Cell.at (.tl <| .tl <| .tl <| .tl <| .hd) rfl)) rfl <| W.q (ne rfl rfl) rfl <| W.q (mv rfl) rfl <| W.sp (t := _) 202 rfl (fun g25 => ?_) (fun g25 => ?_)
                        · -- True
                          first | (simp at g25; done) | (simp_all; done)
                        · -- False
                          refine W.qg rfl rfl g25 (mv rfl) rfl <| W.qg rfl rfl g25 (ncp rfl) rfl <| W.qg rfl rfl g25 (fa Try.fof87_1 rfl) rfl <| W.fvgq rfl rfl g25 Try.ca54 rfl (fun w hm => clock_WaitingR bf 2 ts1.length ct1 pt1 w (Cell.at .hd rfl w hm)) rfl <| W.qg rfl rfl g25 (fa Try.fof105_1 rfl) rfl <| W.qg rfl rfl g25 (ld Try.sc103 rfl (Cell.at (.tl <| .tl <| .tl <| .tl <| .hd) rfl)) rfl <| W.qg rfl rfl g25 (ln Try.esl103 rfl) rfl <| W.qg rfl rfl g25 (ne rfl rfl) rfl <| W.q (pkf rfl g25 rfl) rfl <| W.q (mv rfl) rfl <| W.sp (t := _) 212 rfl (fun g26 => ?_) (fun g26 => ?_)
                          · -- True
                            first | (simp at g26; done) | (simp_all; done)
                          · -- False
                            refine W.qg rfl rfl g26 (mv rfl) rfl <| W.qg rfl rfl g26 (ncp rfl) rfl <| W.qg rfl rfl g26 (fa Try.fof87_0 rfl) rfl <| W.qg rfl rfl g26 (fa Try.fof51_0 rfl) rfl <| W.fvgq rfl rfl g26 Try.ca31 rfl (fun w hm => cursor_DoneR bf 0 p1 w (Cell.at .hd rfl w hm)) rfl <| W.qg rfl rfl g26 (mv rfl) rfl <| W.qg rfl rfl g26 (ne rfl rfl) rfl <| W.q (pkf rfl g26 rfl) rfl <| W.q (mv rfl) rfl <| W.sp (t := _) 221 rfl (fun g27 => ?_) (fun g27 => ?_)
                            · -- True
                              first | (simp at g27; done) | (simp_all; done)
                            · -- False
                              refine W.qg rfl rfl g27 (mv rfl) rfl <| W.qg rfl rfl g27 (mv rfl) rfl <| W.fvgq rfl rfl g27 Try.ca55 rfl (fun w hm => feed_Heard bf now1 a3 c3 xs w (Cell.at .hd rfl w hm) (Cell.at .hd rfl w hm) (hm.slRd (.tail _ <| .tail _ <| .tail _ <| .tail _ <| .tail _ <| .tail _ <| .head _)) hba ((u64Of tb).toNat : Int)) rfl <| W.qg rfl rfl g27 (mv rfl) rfl <| W.qg rfl rfl g27 (mv rfl) rfl <| W.sp (t := _) 226 rfl (fun g28 => ?_) (fun g28 => ?_)
                              · -- True
                                refine W.qg rfl rfl g28 (mv rfl) rfl <| W.qg rfl rfl g28 (fa Try.fof105_0 rfl) rfl <| W.qg rfl rfl g28 (ld Try.sc3 rfl (Cell.at (.tl <| .tl <| .tl <| .tl <| .hd) rfl)) rfl <| W.qg rfl rfl g28 (le rfl rfl) rfl <| W.qg rfl rfl g27 (pkt rfl g28 rfl) rfl <| W.qg rfl rfl g27 (neb Try.underlying4 rfl rfl) rfl <| W.q (pkf rfl g27 rfl) rfl <| W.q (mv rfl) rfl <| W.sp (t := _) 234 rfl (fun g29 => ?_) (fun g29 => ?_)
                                · -- True
                                  first | (simp at g29; done) | (simp_all; done)
                                · -- False
                                  refine W.qg rfl rfl g29 (mv rfl) rfl <| W.qg rfl rfl g29 (ncp rfl) rfl <| W.qg rfl rfl g29 (fa Try.fof87_2 rfl) rfl <| W.qg rfl rfl g29 (lda Try.agg26 Try.sz26 rfl (fun i v hv => by match i with | 0 => cases hv; exact Cell.at .hd rfl | i + 1 => simp at hv) rfl) rfl <| W.qg rfl rfl g29 (mv rfl) rfl <| W.qg rfl rfl g29 (fa Try.fof105_0 rfl) rfl <| W.qg rfl rfl g29 (ld Try.sc3 rfl (Cell.at (.tl <| .tl <| .tl <| .tl <| .hd) rfl)) rfl <| W.fvgq rfl rfl g29 Try.ca13 rfl (fun w hm => tape_Acked a3 c3 xs w (hm.slRd (.tail _ <| .tail _ <| .tail _ <| .tail _ <| .tail _ <| .tail _ <| .head _)) hba ((u64Of tb).toNat : Int) now1) rfl <| W.qg rfl rfl g29 (mv rfl) rfl <| W.qg rfl rfl g29 (mv rfl) rfl <| W.fvgq rfl rfl g29 Try.ca55 rfl (fun w hm => feed_Heard bf now1 a3 c3 xs w (Cell.at .hd rfl w hm) (Cell.at .hd rfl w hm) (hm.slRd (.tail _ <| .tail _ <| .tail _ <| .tail _ <| .tail _ <| .tail _ <| .head _)) hba ((u64Of tb).toNat : Int)) rfl <| W.qg rfl rfl g29 (neb Try.underlying4 rfl rfl) rfl <| W.q (pkf rfl g29 rfl) rfl <| W.nilq <| G.cdd rfl (fun h30 => ?_) (fun h30 => ?_)
                                  · -- h30 True
                                    exact absurd rfl h30
                                  · -- h30 False
                                    refine G.skip <| G.inb <| G.reg <| W.q (ad rfl rfl (by omega)) rfl <| W.q (mv rfl) rfl <| W.nil <| (ih (k + 1) ⟨now1, ts1, p1, pt1, ct1, wt1, cw1⟩ ⟨by omega, hts1, hp1⟩ (by omega)).weak (Sub.cons rfl <| Sub.cons rfl <| Sub.cons rfl <| Sub.cons rfl <| Sub.cons rfl <| Sub.cons rfl <| Sub.cons rfl <| Sub.cons rfl <| Sub.nil _) (fun w hm => (Dr.ent (.keep <| .keep <| .keep <| .keep <| .keep <| .keep <| .drop rfl <| .rfl)) w ((Ent.perm (.trans (.trans (.trans (.trans (.trans (.trans (.cons _ (.trans (.cons _ (.trans (.cons _ (.trans (.cons _ (.trans (.cons _ (.trans (.cons _ (.refl _)) (.swap _ _ _))) (.swap _ _ _))) (.swap _ _ _))) (.swap _ _ _))) (.swap _ _ _))) (.swap _ _ _)) (.trans (.cons _ (.trans (.cons _ (.trans (.cons _ (.trans (.cons _ (.trans (.cons _ (.trans (.cons _ (.refl _)) (.swap _ _ _))) (.swap _ _ _))) (.swap _ _ _))) (.swap _ _ _))) (.swap _ _ _))) (.swap _ _ _))) (.trans (.cons _ (.trans (.cons _ (.trans (.cons _ (.trans (.cons _ (.refl _)) (.swap _ _ _))) (.swap _ _ _))) (.swap _ _ _))) (.swap _ _ _))) (.trans (.cons _ (.trans (.cons _ (.trans (.cons _ (.trans (.cons _ (.trans (.cons _ (.trans (.cons _ (.refl _)) (.swap _ _ _))) (.swap _ _ _))) (.swap _ _ _))) (.swap _ _ _))) (.swap _ _ _))) (.swap _ _ _))) (.trans (.cons _ (.trans (.cons _ (.trans (.cons _ (.trans (.cons _ (.trans (.cons _ (.refl _)) (.swap _ _ _))) (.swap _ _ _))) (.swap _ _ _))) (.swap _ _ _))) (.swap _ _ _))) (.trans (.cons _ (.trans (.cons _ (.trans (.cons _ (.trans (.cons _ (.trans (.cons _ (.refl _)) (.swap _ _ _))) (.swap _ _ _))) (.swap _ _ _))) (.swap _ _ _))) (.swap _ _ _)))) w hm))
                              · -- False
                                refine W.sk rfl rfl g28 rfl <| W.sk rfl rfl g28 rfl <| W.sk rfl rfl g28 rfl <| W.sk rfl rfl g28 rfl <| W.qg rfl rfl g27 (pkf rfl g28 rfl) rfl <| W.qg rfl rfl g27 (neb Try.underlying4 rfl rfl) rfl <| W.q (pkf rfl g27 rfl) rfl <| W.q (mv rfl) rfl <| W.sp (t := _) 234 rfl (fun g31 => ?_) (fun g31 => ?_)
                                · -- True
                                  first | (simp at g31; done) | (simp_all; done)
                                · -- False
                                  refine W.qg rfl rfl g31 (mv rfl) rfl <| W.qg rfl rfl g31 (ncp rfl) rfl <| W.qg rfl rfl g31 (fa Try.fof87_2 rfl) rfl <| W.qg rfl rfl g31 (lda Try.agg26 Try.sz26 rfl (fun i v hv => by match i with | 0 => cases hv; exact Cell.at .hd rfl | i + 1 => simp at hv) rfl) rfl <| W.qg rfl rfl g31 (mv rfl) rfl <| W.qg rfl rfl g31 (fa Try.fof105_0 rfl) rfl <| W.qg rfl rfl g31 (ld Try.sc3 rfl (Cell.at (.tl <| .tl <| .tl <| .tl <| .hd) rfl)) rfl <| W.fvgq rfl rfl g31 Try.ca13 rfl (fun w hm => tape_Acked a3 c3 xs w (hm.slRd (.tail _ <| .tail _ <| .tail _ <| .tail _ <| .tail _ <| .tail _ <| .head _)) hba ((u64Of tb).toNat : Int) now1) rfl <| W.qg rfl rfl g31 (mv rfl) rfl <| W.qg rfl rfl g31 (mv rfl) rfl <| W.fvgq rfl rfl g31 Try.ca55 rfl (fun w hm => feed_Heard bf now1 a3 c3 xs w (Cell.at .hd rfl w hm) (Cell.at .hd rfl w hm) (hm.slRd (.tail _ <| .tail _ <| .tail _ <| .tail _ <| .tail _ <| .tail _ <| .head _)) hba ((u64Of tb).toNat : Int)) rfl <| W.qg rfl rfl g31 (neb Try.underlying4 rfl rfl) rfl <| W.q (pkf rfl g31 rfl) rfl <| W.nilq <| G.cdd rfl (fun h32 => ?_) (fun h32 => ?_)
                                  · -- h32 True
                                    exact absurd rfl h32
                                  · -- h32 False
                                    refine G.skip <| G.inb <| G.reg <| W.q (ad rfl rfl (by omega)) rfl <| W.q (mv rfl) rfl <| W.nil <| (ih (k + 1) ⟨now1, ts1, p1, pt1, ct1, wt1, cw1⟩ ⟨by omega, hts1, hp1⟩ (by omega)).weak (Sub.cons rfl <| Sub.cons rfl <| Sub.cons rfl <| Sub.cons rfl <| Sub.cons rfl <| Sub.cons rfl <| Sub.cons rfl <| Sub.cons rfl <| Sub.nil _) (fun w hm => (Dr.ent (.keep <| .keep <| .keep <| .keep <| .keep <| .keep <| .drop rfl <| .rfl)) w ((Ent.perm (.trans (.trans (.trans (.trans (.trans (.trans (.cons _ (.trans (.cons _ (.trans (.cons _ (.trans (.cons _ (.trans (.cons _ (.trans (.cons _ (.refl _)) (.swap _ _ _))) (.swap _ _ _))) (.swap _ _ _))) (.swap _ _ _))) (.swap _ _ _))) (.swap _ _ _)) (.trans (.cons _ (.trans (.cons _ (.trans (.cons _ (.trans (.cons _ (.trans (.cons _ (.trans (.cons _ (.refl _)) (.swap _ _ _))) (.swap _ _ _))) (.swap _ _ _))) (.swap _ _ _))) (.swap _ _ _))) (.swap _ _ _))) (.trans (.cons _ (.trans (.cons _ (.trans (.cons _ (.trans (.cons _ (.refl _)) (.swap _ _ _))) (.swap _ _ _))) (.swap _ _ _))) (.swap _ _ _))) (.trans (.cons _ (.trans (.cons _ (.trans (.cons _ (.trans (.cons _ (.trans (.cons _ (.trans (.cons _ (.refl _)) (.swap _ _ _))) (.swap _ _ _))) (.swap _ _ _))) (.swap _ _ _))) (.swap _ _ _))) (.swap _ _ _))) (.trans (.cons _ (.trans (.cons _ (.trans (.cons _ (.trans (.cons _ (.trans (.cons _ (.refl _)) (.swap _ _ _))) (.swap _ _ _))) (.swap _ _ _))) (.swap _ _ _))) (.swap _ _ _))) (.trans (.cons _ (.trans (.cons _ (.trans (.cons _ (.trans (.cons _ (.trans (.cons _ (.refl _)) (.swap _ _ _))) (.swap _ _ _))) (.swap _ _ _))) (.swap _ _ _))) (.swap _ _ _)))) w hm))
                  · -- h22 False
                    refine G.seq <| G.reg <| W.q (eq rfl rfl) rfl <| W.q (sa rfl) rfl <| W.nil <| G.cdd rfl (fun h33 => ?_) (fun h33 => ?_)
                    · -- h33 True
                      refine G.seq <| G.reg <| W.q (lda Try.agg105 Try.sz105 rfl (Cells.whole (.tl <| .tl <| .tl <| .hd)) rfl) rfl <| W.q (fa Try.fof107_1 rfl) rfl <| W.q (ld Try.sc3 rfl (Cell.at .hd rfl)) rfl <| W.fv Try.ca52 rfl (fun w hm => ref08_Move now ta (.slice wt ts.length cw) w ⟨_, _, _, rfl⟩) rfl <| W.q (mv rfl) rfl <| W.q (ex rfl rfl) rfl <| W.q (ex rfl rfl) rfl <| W.sta Try.sz105 rfl rfl rfl rfl (.tl <| .tl <| .tl <| .hd) rfl <| W.q (sa rfl) rfl <| W.nil <| G.seq <| G.rega 8 rfl Try.mixed <| A.q 0 rfl (by kernel_rfl) (fun _ => (mv rfl)) rfl <| A.q 1 rfl (by kernel_rfl) (fun _ => (ncp rfl)) rfl <| A.q 2 rfl (by kernel_rfl) (fun _ => (fa Try.fof87_1 rfl)) rfl <| A.q 3 rfl (by kernel_rfl) (fun _ => (fa Try.fof107_1 rfl)) rfl <| A.q 6 rfl (by kernel_rfl) (fun _ => (mv rfl)) rfl <| A.held 4 [] rfl (by kernel_rfl) (ld Try.sc3 rfl (Cell.at .hd rfl)) rfl <| A.one 5 rfl (by kernel_rfl) <| W.ff Try.ca53 rfl (Ent.perm (.trans (.trans (.cons _ (.trans (.cons _ (.refl _)) (.swap _ _ _))) (.swap _ _ _)) (.trans (.cons _ (.trans (.cons _ (.refl _)) (.swap _ _ _))) (.swap _ _ _)))) (clock_Move X.w0 _ bf 2 _ _ pt ct now ts rfl rfl hk.2.1 ta) rfl rfl fun v J hv hJ => ?_
                      obtain ⟨rfl, pt1, ct1, rfl⟩ := hv
                      generalize moveR now ta = S
                      obtain ⟨now1, f1⟩ := S
                      obtain ⟨ts1, hts1, hts⟩ : ∃ x : List (Int × Int), x.length ≤ 64 ∧ x = ts := ⟨_, hk.2.1, rfl⟩
                      obtain ⟨p1, hp1, hp⟩ : ∃ x, x ≤ bs.length ∧ x = p := ⟨_, hk.2.2, rfl⟩
                      obtain ⟨wt1, hwt⟩ : ∃ x, x = wt := ⟨_, rfl⟩
                      obtain ⟨cw1, hcw⟩ : ∃ x, x = cw := ⟨_, rfl⟩
                      rw [← hts, ← hp, ← hwt, ← hcw]
                      dsimp only
                      refine A.back <| A.q 7 rfl (by kernel_rfl) (fun _ => (ne rfl rfl)) rfl <| A.nil (by kernel_rfl) <| G.cdd rfl (fun h34 => ?_) (fun h34 => ?_)
                      · -- h34 True
                        exact absurd rfl h34
                      · -- h34 False
                        refine G.skip <| G.inb <| G.seq <| G.reg <| W.q (fa Try.fof107_2 rfl) rfl <| W.q (ld Try.sc3 rfl (Cell.at (.tl <| .tl <| .hd) rfl)) rfl <| W.q (cv_i64_u64 Try.underlying3 Try.underlying30 rfl) rfl <| W.q (sa rfl) rfl <| W.nil <| G.seq <| G.reg <| W.q (mv rfl) rfl <| W.q (mv rfl) rfl <| W.fv Try.ca17 rfl (fun w hm => ref08_First aa capa xs w (hm.rd rfl hla) hba ((u64Of tb).toNat : Int)) rfl <| W.q (mv rfl) rfl <| W.q (ex rfl rfl) rfl <| W.q (ex rfl rfl) rfl <| W.q (sa rfl) rfl <| W.q (sa rfl) rfl <| W.nil <| G.seq <| G.regq Try.mixed (by kernel_rfl) <| W.q (mv rfl) rfl <| W.q (ncp rfl) rfl <| W.q (fa Try.fof87_1 rfl) rfl <| W.fvq Try.ca47 rfl (fun w hm => clock_NowR bf 2 now1 w (Cell.at .hd rfl w hm)) rfl <| W.q (fa Try.fof105_0 rfl) rfl <| W.q (ld Try.sc3 rfl (Cell.at (.tl <| .tl <| .tl <| .hd) rfl)) rfl <| W.q (ne rfl rfl) rfl <| W.q (mv rfl) rfl <| W.sp (t := _) 202 rfl (fun g35 => ?_) (fun g35 => ?_)
                        · -- True
                          first | (simp at g35; done) | (simp_all; done)
                        · -- False
                          refine W.qg rfl rfl g35 (mv rfl) rfl <| W.qg rfl rfl g35 (ncp rfl) rfl <| W.qg rfl rfl g35 (fa Try.fof87_1 rfl) rfl <| W.fvgq rfl rfl g35 Try.ca54 rfl (fun w hm => clock_WaitingR bf 2 ts1.length ct1 pt1 w (Cell.at .hd rfl w hm)) rfl <| W.qg rfl rfl g35 (fa Try.fof105_1 rfl) rfl <| W.qg rfl rfl g35 (ld Try.sc103 rfl (Cell.at (.tl <| .tl <| .tl <| .hd) rfl)) rfl <| W.qg rfl rfl g35 (ln Try.esl103 rfl) rfl <| W.qg rfl rfl g35 (ne rfl rfl) rfl <| W.q (pkf rfl g35 rfl) rfl <| W.q (mv rfl) rfl <| W.sp (t := _) 212 rfl (fun g36 => ?_) (fun g36 => ?_)
                          · -- True
                            first | (simp at g36; done) | (simp_all; done)
                          · -- False
                            refine W.qg rfl rfl g36 (mv rfl) rfl <| W.qg rfl rfl g36 (ncp rfl) rfl <| W.qg rfl rfl g36 (fa Try.fof87_0 rfl) rfl <| W.qg rfl rfl g36 (fa Try.fof51_0 rfl) rfl <| W.fvgq rfl rfl g36 Try.ca31 rfl (fun w hm => cursor_DoneR bf 0 p1 w (Cell.at .hd rfl w hm)) rfl <| W.qg rfl rfl g36 (mv rfl) rfl <| W.qg rfl rfl g36 (ne rfl rfl) rfl <| W.q (pkf rfl g36 rfl) rfl <| W.q (mv rfl) rfl <| W.sp (t := _) 221 rfl (fun g37 => ?_) (fun g37 => ?_)
                            · -- True
                              first | (simp at g37; done) | (simp_all; done)
                            · -- False
                              refine W.qg rfl rfl g37 (mv rfl) rfl <| W.qg rfl rfl g37 (mv rfl) rfl <| W.fvgq rfl rfl g37 Try.ca55 rfl (fun w hm => feed_Heard bf now1 a3 c3 xs w (Cell.at .hd rfl w hm) (Cell.at .hd rfl w hm) (hm.slRd (.tail _ <| .tail _ <| .tail _ <| .tail _ <| .tail _ <| .tail _ <| .head _)) hba ((u64Of tb).toNat : Int)) rfl <| W.qg rfl rfl g37 (mv rfl) rfl <| W.qg rfl rfl g37 (mv rfl) rfl <| W.sp (t := _) 226 rfl (fun g38 => ?_) (fun g38 => ?_)
                              · -- True
                                refine W.qg rfl rfl g38 (mv rfl) rfl <| W.qg rfl rfl g38 (fa Try.fof105_0 rfl) rfl <| W.qg rfl rfl g38 (ld Try.sc3 rfl (Cell.at (.tl <| .tl <| .tl <| .hd) rfl)) rfl <| W.qg rfl rfl g38 (le rfl rfl) rfl <| W.qg rfl rfl g37 (pkt rfl g38 rfl) rfl <| W.qg rfl rfl g37 (neb Try.underlying4 rfl rfl) rfl <| W.q (pkf rfl g37 rfl) rfl <| W.q (mv rfl) rfl <| W.sp (t := _) 234 rfl (fun g39 => ?_) (fun g39 => ?_)
                                · -- True
                                  first | (simp at g39; done) | (simp_all; done)
                                · -- False
                                  refine W.qg rfl rfl g39 (mv rfl) rfl <| W.qg rfl rfl g39 (ncp rfl) rfl <| W.qg rfl rfl g39 (fa Try.fof87_2 rfl) rfl <| W.qg rfl rfl g39 (lda Try.agg26 Try.sz26 rfl (fun i v hv => by match i with | 0 => cases hv; exact Cell.at .hd rfl | i + 1 => simp at hv) rfl) rfl <| W.qg rfl rfl g39 (mv rfl) rfl <| W.qg rfl rfl g39 (fa Try.fof105_0 rfl) rfl <| W.qg rfl rfl g39 (ld Try.sc3 rfl (Cell.at (.tl <| .tl <| .tl <| .hd) rfl)) rfl <| W.fvgq rfl rfl g39 Try.ca13 rfl (fun w hm => tape_Acked a3 c3 xs w (hm.slRd (.tail _ <| .tail _ <| .tail _ <| .tail _ <| .tail _ <| .tail _ <| .head _)) hba ((u64Of tb).toNat : Int) now1) rfl <| W.qg rfl rfl g39 (mv rfl) rfl <| W.qg rfl rfl g39 (mv rfl) rfl <| W.fvgq rfl rfl g39 Try.ca55 rfl (fun w hm => feed_Heard bf now1 a3 c3 xs w (Cell.at .hd rfl w hm) (Cell.at .hd rfl w hm) (hm.slRd (.tail _ <| .tail _ <| .tail _ <| .tail _ <| .tail _ <| .tail _ <| .head _)) hba ((u64Of tb).toNat : Int)) rfl <| W.qg rfl rfl g39 (neb Try.underlying4 rfl rfl) rfl <| W.q (pkf rfl g39 rfl) rfl <| W.nilq <| G.cdd rfl (fun h40 => ?_) (fun h40 => ?_)
                                  · -- h40 True
                                    exact absurd rfl h40
                                  · -- h40 False
                                    refine G.skip <| G.inb <| G.reg <| W.q (ad rfl rfl (by omega)) rfl <| W.q (mv rfl) rfl <| W.nil <| (ih (k + 1) ⟨now1, ts1, p1, pt1, ct1, wt1, cw1⟩ ⟨by omega, hts1, hp1⟩ (by omega)).weak (Sub.cons rfl <| Sub.cons rfl <| Sub.cons rfl <| Sub.cons rfl <| Sub.cons rfl <| Sub.cons rfl <| Sub.cons rfl <| Sub.cons rfl <| Sub.nil _) (fun w hm => (Dr.ent (.keep <| .keep <| .keep <| .keep <| .keep <| .keep <| .drop rfl <| .rfl)) w ((Ent.perm (.trans (.trans (.trans (.trans (.trans (.trans (.cons _ (.trans (.cons _ (.trans (.cons _ (.trans (.cons _ (.trans (.cons _ (.trans (.cons _ (.refl _)) (.swap _ _ _))) (.swap _ _ _))) (.swap _ _ _))) (.swap _ _ _))) (.swap _ _ _))) (.swap _ _ _)) (.trans (.cons _ (.trans (.cons _ (.trans (.cons _ (.trans (.cons _ (.trans (.cons _ (.trans (.cons _ (.refl _)) (.swap _ _ _))) (.swap _ _ _))) (.swap _ _ _))) (.swap _ _ _))) (.swap _ _ _))) (.swap _ _ _))) (.trans (.cons _ (.trans (.cons _ (.trans (.cons _ (.trans (.cons _ (.trans (.cons _ (.trans (.cons _ (.refl _)) (.swap _ _ _))) (.swap _ _ _))) (.swap _ _ _))) (.swap _ _ _))) (.swap _ _ _))) (.swap _ _ _))) (.trans (.cons _ (.trans (.cons _ (.trans (.cons _ (.trans (.cons _ (.trans (.cons _ (.trans (.cons _ (.refl _)) (.swap _ _ _))) (.swap _ _ _))) (.swap _ _ _))) (.swap _ _ _))) (.swap _ _ _))) (.swap _ _ _))) (.trans (.cons _ (.trans (.cons _ (.trans (.cons _ (.trans (.cons _ (.trans (.cons _ (.refl _)) (.swap _ _ _))) (.swap _ _ _))) (.swap _ _ _))) (.swap _ _ _))) (.swap _ _ _))) (.trans (.cons _ (.trans (.cons _ (.trans (.cons _ (.trans (.cons _ (.trans (.cons _ (.refl _)) (.swap _ _ _))) (.swap _ _ _))) (.swap _ _ _))) (.swap _ _ _))) (.swap _ _ _)))) w hm))
                              · -- False
                                refine W.sk rfl rfl g38 rfl <| W.sk rfl rfl g38 rfl <| W.sk rfl rfl g38 rfl <| W.sk rfl rfl g38 rfl <| W.qg rfl rfl g37 (pkf rfl g38 rfl) rfl <| W.qg rfl rfl g37 (neb Try.underlying4 rfl rfl) rfl <| W.q (pkf rfl g37 rfl) rfl <| W.q (mv rfl) rfl <| W.sp (t := _) 234 rfl (fun g41 => ?_) (fun g41 => ?_)
                                · -- True
                                  first | (simp at g41; done) | (simp_all; done)
                                · -- False
                                  refine W.qg rfl rfl g41 (mv rfl) rfl <| W.qg rfl rfl g41 (ncp rfl) rfl <| W.qg rfl rfl g41 (fa Try.fof87_2 rfl) rfl <| W.qg rfl rfl g41 (lda Try.agg26 Try.sz26 rfl (fun i v hv => by match i with | 0 => cases hv; exact Cell.at .hd rfl | i + 1 => simp at hv) rfl) rfl <| W.qg rfl rfl g41 (mv rfl) rfl <| W.qg rfl rfl g41 (fa Try.fof105_0 rfl) rfl <| W.qg rfl rfl g41 (ld Try.sc3 rfl (Cell.at (.tl <| .tl <| .tl <| .hd) rfl)) rfl <| W.fvgq rfl rfl g41 Try.ca13 rfl (fun w hm => tape_Acked a3 c3 xs w (hm.slRd (.tail _ <| .tail _ <| .tail _ <| .tail _ <| .tail _ <| .tail _ <| .head _)) hba ((u64Of tb).toNat : Int) now1) rfl <| W.qg rfl rfl g41 (mv rfl) rfl <| W.qg rfl rfl g41 (mv rfl) rfl <| W.fvgq rfl rfl g41 Try.ca55 rfl (fun w hm => feed_Heard bf now1 a3 c3 xs w (Cell.at .hd rfl w hm) (Cell.at .hd rfl w hm) (hm.slRd (.tail _ <| .tail _ <| .tail _ <| .tail _ <| .tail _ <| .tail _ <| .head _)) hba ((u64Of tb).toNat : Int)) rfl <| W.qg rfl rfl g41 (neb Try.underlying4 rfl rfl) rfl <| W.q (pkf rfl g41 rfl) rfl <| W.nilq <| G.cdd rfl (fun h42 => ?_) (fun h42 => ?_)
                                  · -- h42 True
                                    exact absurd rfl h42
                                  · -- h42 False
                                    refine G.skip <| G.inb <| G.reg <| W.q (ad rfl rfl (by omega)) rfl <| W.q (mv rfl) rfl <| W.nil <| (ih (k + 1) ⟨now1, ts1, p1, pt1, ct1, wt1, cw1⟩ ⟨by omega, hts1, hp1⟩ (by omega)).weak (Sub.cons rfl <| Sub.cons rfl <| Sub.cons rfl <| Sub.cons rfl <| Sub.cons rfl <| Sub.cons rfl <| Sub.cons rfl <| Sub.cons rfl <| Sub.nil _) (fun w hm => (Dr.ent (.keep <| .keep <| .keep <| .keep <| .keep <| .keep <| .drop rfl <| .rfl)) w ((Ent.perm (.trans (.trans (.trans (.trans (.trans (.trans (.cons _ (.trans (.cons _ (.trans (.cons _ (.trans (.cons _ (.trans (.cons _ (.trans (.cons _ (.refl _)) (.swap _ _ _))) (.swap _ _ _))) (.swap _ _ _))) (.swap _ _ _))) (.swap _ _ _))) (.swap _ _ _)) (.trans (.cons _ (.trans (.cons _ (.trans (.cons _ (.trans (.cons _ (.trans (.cons _ (.trans (.cons _ (.refl _)) (.swap _ _ _))) (.swap _ _ _))) (.swap _ _ _))) (.swap _ _ _))) (.swap _ _ _))) (.swap _ _ _))) (.trans (.cons _ (.trans (.cons _ (.trans (.cons _ (.trans (.cons _ (.trans (.cons _ (.trans (.cons _ (.refl _)) (.swap _ _ _))) (.swap _ _ _))) (.swap _ _ _))) (.swap _ _ _))) (.swap _ _ _))) (.swap _ _ _))) (.trans (.cons _ (.trans (.cons _ (.trans (.cons _ (.trans (.cons _ (.trans (.cons _ (.trans (.cons _ (.refl _)) (.swap _ _ _))) (.swap _ _ _))) (.swap _ _ _))) (.swap _ _ _))) (.swap _ _ _))) (.swap _ _ _))) (.trans (.cons _ (.trans (.cons _ (.trans (.cons _ (.trans (.cons _ (.trans (.cons _ (.refl _)) (.swap _ _ _))) (.swap _ _ _))) (.swap _ _ _))) (.swap _ _ _))) (.swap _ _ _))) (.trans (.cons _ (.trans (.cons _ (.trans (.cons _ (.trans (.cons _ (.trans (.cons _ (.refl _)) (.swap _ _ _))) (.swap _ _ _))) (.swap _ _ _))) (.swap _ _ _))) (.swap _ _ _)))) w hm))
                    · -- h33 False
                      refine G.seq <| G.reg <| W.q (mv rfl) rfl <| W.q (mv rfl) rfl <| W.q (fa Try.fof107_2 rfl) rfl <| W.q (ld Try.sc3 rfl (Cell.at .hd rfl)) rfl <| W.bs (cs := [_]) Try.underlying40 Try.sz3 Try.zrl3 rfl rfl rfl rfl fun b3 => W.fn Try.ca26 rfl (fun w hm => ref08_Draws a cap bs w (hm.rd rfl hl) hb hcap p hk.2.2 (some ⟨b3, 0, none⟩) 1 [tb] (hm.rowRd .hd) (by simpa using htb) (by simp)) rfl fun v J1 hv hJ1 => ?_
                      obtain ⟨v1, ⟨a4, c4, ps, hps, rfl, hJe⟩, rfl⟩ := hv
                      obtain ⟨e1, e2, e3, e4⟩ := drawsR_one bs p tb
                      have hle := drawsR_le bs p [tb] hk.2.2
                      refine W.ent (Ent.perm List.perm_append_comm) ?_
                      refine W.q (mv rfl) rfl <| W.q (ex rfl rfl) rfl <| W.q (ex rfl rfl) rfl <| W.q (ex rfl rfl) rfl <| W.q (sa rfl) rfl <| W.q (sa rfl) rfl <| W.q (sa rfl) rfl <| W.nil <| G.seq <| G.rega 11 rfl Try.mixed <| A.q 0 rfl (by kernel_rfl) (fun _ => (mv rfl)) rfl <| A.q 1 rfl (by kernel_rfl) (fun _ => (ncp rfl)) rfl <| A.q 2 rfl (by kernel_rfl) (fun _ => (fa Try.fof87_0 rfl)) rfl <| A.q 3 rfl (by kernel_rfl) (fun _ => (fa Try.fof107_2 rfl)) rfl <| A.held 4 [] rfl (by kernel_rfl) (ld Try.sc3 rfl (Cell.at (.tl <| .hd) rfl)) rfl <| A.one 5 rfl (by kernel_rfl) <| W.ff Try.ca27 rfl (Ent.perm (.trans (.cons _ (.trans (.cons _ (.refl _)) (.swap _ _ _))) (.swap _ _ _))) (tape_Draw X.w0 _ (allNew_append (H := [_, _, _, _, _, _, _]) rfl hJ1) bf 0 _ _ a2 c2 bs p rfl rfl (Rdf.sl (.tail _ <| .tail _ <| .tail _ <| .tail _ <| .tail _ <| .head _)) hb hk.2.2 hc2 tb htb) rfl rfl fun v J hv hJ => ?_
                      obtain ⟨a5, c5, rfl, rfl⟩ := hv
                      rw [e1, e2]
                      refine A.back <| A.q 6 rfl (by kernel_rfl) (fun _ => (mv rfl)) rfl <| A.q 7 rfl (by kernel_rfl) (fun _ => (ex rfl rfl)) rfl <| A.q 8 rfl (by kernel_rfl) (fun _ => (ex rfl rfl)) rfl <| A.q 9 rfl (by kernel_rfl) (fun _ => (sa rfl)) rfl <| A.q 10 rfl (by kernel_rfl) (fun _ => (sa rfl)) rfl <| A.nil (by kernel_rfl) <| G.seq <| G.seq <| G.reg <| W.q (mv rfl) rfl <| W.q (mv rfl) rfl <| W.q (ne rfl rfl) rfl <| W.q (mv rfl) rfl <| W.sp (t := _) 108 rfl (fun g43 => ?_) (fun g43 => ?_)
                      · -- True
                        first | (simp at g43; done) | (simp_all; done)
                      · -- False
                        refine W.qg rfl rfl g43 (mv rfl) rfl <| W.qg rfl rfl g43 (eq rfl rfl) rfl <| W.qg rfl rfl g43 (mv rfl) rfl <| W.sp (t := _) 111 rfl (fun g44 => ?_) (fun g44 => ?_)
                        · -- True
                          have f0 := of_decide_eq_true g44
                          have hp1 := hps.trans (e3 f0)
                          obtain ⟨q, hqq⟩ : ∃ q, ps = [q] := List.length_eq_one_iff.1 (by have := congrArg List.length hp1; simpa using this)
                          have hqe : q.2.2 = (drawR bs p tb).1 := by rw [hqq] at hp1; simpa using hp1
                          have hpl : ps.length = 1 := by rw [hqq]; rfl
                          have hdl : (drawR bs p tb).1.length ≤ 140737488351232 := by have := drawsR_piece bs p [tb] (drawR bs p tb).1 (by rw [e3 f0]; simp); omega
                          refine W.rdA (a := a4) (cells := ps.map pcV) (Rdf.sl (m := ps.length) (cap := c4) (E := 46) (s := 1) (by rw [hJe]; simp)) (by simp [hpl]) (fun wb wo hye => ?_)
                          subst hye
                          have hz : ∀ H, sl (some ⟨wb, wo, none⟩) ps.length c4 46 1 (ps.map pcV) ∈ H → Cell X.w0 H ⟨wb, wo + 0, none⟩ (.slice q.1 (drawR bs p tb).1.length q.2.1) := fun H hi => (Rdf.sl hi).cellOf (by rw [hqq, ← hqe]; rfl)
                          refine W.qg rfl rfl g44 (mv rfl) rfl <| W.qg rfl rfl g44 (mv rfl) rfl <| W.qg rfl rfl g44 (ia Try.esl57 rfl rfl (by omega) (by omega)) rfl <| W.qg rfl rfl g44 (ld Try.sc46 rfl (by simpa using hz _ (by rw [hJe]; simp))) rfl <| W.fvg rfl rfl g44 Try.ca28 rfl (fun w hm => ref01_EqualT (hm.slRd (.tail _ <| .head _)) hdl (hm.slRd (m := (drawR bs p tb).1.length) (cap := q.2.1) (E := 5) (s := 1) (by rw [hJe, hqq, ← hqe]; simp [pcI])) rfl rfl rfl) rfl <| W.qg rfl rfl g44 (nt rfl) rfl <| W.qg rfl rfl g43 (pkt rfl g44 rfl) rfl <| W.q (pkf rfl g43 rfl) rfl <| W.nil <| G.cdf rfl rfl <| G.skip <| ?_
                          refine G.ent (fun w hm => (Dr.ent (.keep <| .keep <| .keep <| .keep <| .keep <| .keep <| .keep <| .drop rfl <| .drop rfl <| .new hJ1)) w ((Ent.perm (.trans (.trans (.trans (.trans (.trans (.trans (.trans (.cons _ (.trans (.cons _ (.trans (.cons _ (.trans (.cons _ (.trans (.cons _ (.trans (.cons _ (.trans (.cons _ (.trans (.cons _ (.refl _)) (.swap _ _ _))) (.swap _ _ _))) (.swap _ _ _))) (.swap _ _ _))) (.swap _ _ _))) (.swap _ _ _))) (.swap _ _ _))) (.swap _ _ _)) (.trans (.cons _ (.trans (.cons _ (.trans (.cons _ (.trans (.cons _ (.trans (.cons _ (.trans (.cons _ (.trans (.cons _ (.trans (.cons _ (.refl _)) (.swap _ _ _))) (.swap _ _ _))) (.swap _ _ _))) (.swap _ _ _))) (.swap _ _ _))) (.swap _ _ _))) (.swap _ _ _))) (.swap _ _ _))) (.trans (.cons _ (.trans (.cons _ (.trans (.cons _ (.trans (.cons _ (.trans (.cons _ (.trans (.cons _ (.trans (.cons _ (.trans (.cons _ (.refl _)) (.swap _ _ _))) (.swap _ _ _))) (.swap _ _ _))) (.swap _ _ _))) (.swap _ _ _))) (.swap _ _ _))) (.swap _ _ _))) (.swap _ _ _))) (.trans (.cons _ (.trans (.cons _ (.trans (.cons _ (.trans (.cons _ (.trans (.cons _ (.trans (.cons _ (.trans (.cons _ (.trans (.cons _ (.refl _)) (.swap _ _ _))) (.swap _ _ _))) (.swap _ _ _))) (.swap _ _ _))) (.swap _ _ _))) (.swap _ _ _))) (.swap _ _ _))) (.swap _ _ _))) (.trans (.cons _ (.trans (.cons _ (.trans (.cons _ (.trans (.cons _ (.trans (.cons _ (.trans (.cons _ (.trans (.cons _ (.trans (.cons _ (.refl _)) (.swap _ _ _))) (.swap _ _ _))) (.swap _ _ _))) (.swap _ _ _))) (.swap _ _ _))) (.swap _ _ _))) (.swap _ _ _))) (.swap _ _ _))) (.trans (.cons _ (.trans (.cons _ (.trans (.cons _ (.trans (.cons _ (.trans (.cons _ (.refl _)) (.swap _ _ _))) (.swap _ _ _))) (.swap _ _ _))) (.swap _ _ _))) (.swap _ _ _))) (.trans (.cons _ (.trans (.cons _ (.trans (.cons _ (.trans (.cons _ (.trans (.cons _ (.trans (.cons _ (.trans (.cons _ (.trans (.cons _ (.refl _)) (.swap _ _ _))) (.swap _ _ _))) (.swap _ _ _))) (.swap _ _ _))) (.swap _ _ _))) (.swap _ _ _))) (.swap _ _ _))) (.swap _ _ _)))) w hm)) ?_
                          obtain ⟨p1, hp1, hp⟩ : ∃ x, x ≤ bs.length ∧ x = (drawsR bs p [tb]).2.2 := ⟨_, hle, rfl⟩
                          obtain ⟨ts1, hts1, hts⟩ : ∃ x : List (Int × Int), x.length ≤ 64 ∧ x = ts := ⟨_, hk.2.1, rfl⟩
                          obtain ⟨wt1, hwt⟩ : ∃ x, x = wt := ⟨_, rfl⟩
                          obtain ⟨cw1, hcw⟩ : ∃ x, x = cw := ⟨_, rfl⟩
                          obtain ⟨pt1, hpt⟩ : ∃ x, x = pt := ⟨_, rfl⟩
                          obtain ⟨ct1, hct⟩ : ∃ x, x = ct := ⟨_, rfl⟩
                          obtain ⟨now1, hnow⟩ : ∃ x, x = now := ⟨_, rfl⟩
                          rw [← hts, ← hp, ← hwt, ← hcw, ← hpt, ← hct, ← hnow]
                          try dsimp only
                          refine G.reg <| W.q (mv rfl) rfl <| W.q (sa rfl) rfl <| W.nil <| G.inb <| G.seq <| G.reg <| W.q (fa Try.fof107_2 rfl) rfl <| W.q (ld Try.sc3 rfl (Cell.at .hd rfl)) rfl <| W.q (cv_i64_u64 Try.underlying3 Try.underlying30 rfl) rfl <| W.q (sa rfl) rfl <| W.nil <| G.seq <| G.reg <| W.q (mv rfl) rfl <| W.q (mv rfl) rfl <| W.fv Try.ca17 rfl (fun w hm => ref08_First aa capa xs w (hm.rd rfl hla) hba ((u64Of tb).toNat : Int)) rfl <| W.q (mv rfl) rfl <| W.q (ex rfl rfl) rfl <| W.q (ex rfl rfl) rfl <| W.q (sa rfl) rfl <| W.q (sa rfl) rfl <| W.nil <| G.seq <| G.regq Try.mixed (by kernel_rfl) <| W.q (mv rfl) rfl <| W.q (ncp rfl) rfl <| W.q (fa Try.fof87_1 rfl) rfl <| W.fvq Try.ca47 rfl (fun w hm => clock_NowR bf 2 now1 w (Cell.at (.tl <| .hd) rfl w hm)) rfl <| W.q (fa Try.fof105_0 rfl) rfl <| W.q (ld Try.sc3 rfl (Cell.at (.tl <| .tl <| .tl <| .hd) rfl)) rfl <| W.q (ne rfl rfl) rfl <| W.q (mv rfl) rfl <| W.sp (t := _) 202 rfl (fun g45 => ?_) (fun g45 => ?_)
                          · -- True
                            first | (simp at g45; done) | (simp_all; done)
                          · -- False
                            refine W.qg rfl rfl g45 (mv rfl) rfl <| W.qg rfl rfl g45 (ncp rfl) rfl <| W.qg rfl rfl g45 (fa Try.fof87_1 rfl) rfl <| W.fvgq rfl rfl g45 Try.ca54 rfl (fun w hm => clock_WaitingR bf 2 ts1.length ct1 pt1 w (Cell.at (.tl <| .hd) rfl w hm)) rfl <| W.qg rfl rfl g45 (fa Try.fof105_1 rfl) rfl <| W.qg rfl rfl g45 (ld Try.sc103 rfl (Cell.at (.tl <| .tl <| .tl <| .hd) rfl)) rfl <| W.qg rfl rfl g45 (ln Try.esl103 rfl) rfl <| W.qg rfl rfl g45 (ne rfl rfl) rfl <| W.q (pkf rfl g45 rfl) rfl <| W.q (mv rfl) rfl <| W.sp (t := _) 212 rfl (fun g46 => ?_) (fun g46 => ?_)
                            · -- True
                              first | (simp at g46; done) | (simp_all; done)
                            · -- False
                              refine W.qg rfl rfl g46 (mv rfl) rfl <| W.qg rfl rfl g46 (ncp rfl) rfl <| W.qg rfl rfl g46 (fa Try.fof87_0 rfl) rfl <| W.qg rfl rfl g46 (fa Try.fof51_0 rfl) rfl <| W.fvgq rfl rfl g46 Try.ca31 rfl (fun w hm => cursor_DoneR bf 0 p1 w (Cell.at (.tl <| .hd) rfl w hm)) rfl <| W.qg rfl rfl g46 (mv rfl) rfl <| W.qg rfl rfl g46 (ne rfl rfl) rfl <| W.q (pkf rfl g46 rfl) rfl <| W.q (mv rfl) rfl <| W.sp (t := _) 221 rfl (fun g47 => ?_) (fun g47 => ?_)
                              · -- True
                                first | (simp at g47; done) | (simp_all; done)
                              · -- False
                                refine W.qg rfl rfl g47 (mv rfl) rfl <| W.qg rfl rfl g47 (mv rfl) rfl <| W.fvgq rfl rfl g47 Try.ca55 rfl (fun w hm => feed_Heard bf now1 a3 c3 xs w (Cell.at (.tl <| .hd) rfl w hm) (Cell.at (.tl <| .hd) rfl w hm) (hm.slRd (.tail _ <| .tail _ <| .tail _ <| .tail _ <| .tail _ <| .tail _ <| .head _)) hba ((u64Of tb).toNat : Int)) rfl <| W.qg rfl rfl g47 (mv rfl) rfl <| W.qg rfl rfl g47 (mv rfl) rfl <| W.sp (t := _) 226 rfl (fun g48 => ?_) (fun g48 => ?_)
                                · -- True
                                  refine W.qg rfl rfl g48 (mv rfl) rfl <| W.qg rfl rfl g48 (fa Try.fof105_0 rfl) rfl <| W.qg rfl rfl g48 (ld Try.sc3 rfl (Cell.at (.tl <| .tl <| .tl <| .hd) rfl)) rfl <| W.qg rfl rfl g48 (le rfl rfl) rfl <| W.qg rfl rfl g47 (pkt rfl g48 rfl) rfl <| W.qg rfl rfl g47 (neb Try.underlying4 rfl rfl) rfl <| W.q (pkf rfl g47 rfl) rfl <| W.q (mv rfl) rfl <| W.sp (t := _) 234 rfl (fun g49 => ?_) (fun g49 => ?_)
                                  · -- True
                                    first | (simp at g49; done) | (simp_all; done)
                                  · -- False
                                    refine W.qg rfl rfl g49 (mv rfl) rfl <| W.qg rfl rfl g49 (ncp rfl) rfl <| W.qg rfl rfl g49 (fa Try.fof87_2 rfl) rfl <| W.qg rfl rfl g49 (lda Try.agg26 Try.sz26 rfl (fun i v hv => by match i with | 0 => cases hv; exact Cell.at (.tl <| .hd) rfl | i + 1 => simp at hv) rfl) rfl <| W.qg rfl rfl g49 (mv rfl) rfl <| W.qg rfl rfl g49 (fa Try.fof105_0 rfl) rfl <| W.qg rfl rfl g49 (ld Try.sc3 rfl (Cell.at (.tl <| .tl <| .tl <| .hd) rfl)) rfl <| W.fvgq rfl rfl g49 Try.ca13 rfl (fun w hm => tape_Acked a3 c3 xs w (hm.slRd (.tail _ <| .tail _ <| .tail _ <| .tail _ <| .tail _ <| .tail _ <| .head _)) hba ((u64Of tb).toNat : Int) now1) rfl <| W.qg rfl rfl g49 (mv rfl) rfl <| W.qg rfl rfl g49 (mv rfl) rfl <| W.fvgq rfl rfl g49 Try.ca55 rfl (fun w hm => feed_Heard bf now1 a3 c3 xs w (Cell.at (.tl <| .hd) rfl w hm) (Cell.at (.tl <| .hd) rfl w hm) (hm.slRd (.tail _ <| .tail _ <| .tail _ <| .tail _ <| .tail _ <| .tail _ <| .head _)) hba ((u64Of tb).toNat : Int)) rfl <| W.qg rfl rfl g49 (neb Try.underlying4 rfl rfl) rfl <| W.q (pkf rfl g49 rfl) rfl <| W.nilq <| G.cdd rfl (fun h50 => ?_) (fun h50 => ?_)
                                    · -- h50 True
                                      exact absurd rfl h50
                                    · -- h50 False
                                      refine G.skip <| G.inb <| G.reg <| W.q (ad rfl rfl (by omega)) rfl <| W.q (mv rfl) rfl <| W.nil <| (ih (k + 1) ⟨now1, ts1, p1, pt1, ct1, wt1, cw1⟩ ⟨by omega, hts1, hp1⟩ (by omega)).weak (Sub.cons rfl <| Sub.cons rfl <| Sub.cons rfl <| Sub.cons rfl <| Sub.cons rfl <| Sub.cons rfl <| Sub.cons rfl <| Sub.cons rfl <| Sub.nil _) (fun w hm => (Dr.ent (.keep <| .keep <| .keep <| .keep <| .keep <| .keep <| .drop rfl <| .rfl)) w ((Ent.perm (.trans (.trans (.trans (.trans (.trans (.trans (.cons _ (.trans (.cons _ (.trans (.cons _ (.trans (.cons _ (.trans (.cons _ (.trans (.cons _ (.refl _)) (.swap _ _ _))) (.swap _ _ _))) (.swap _ _ _))) (.swap _ _ _))) (.swap _ _ _))) (.swap _ _ _)) (.trans (.cons _ (.trans (.cons _ (.trans (.cons _ (.trans (.cons _ (.trans (.cons _ (.trans (.cons _ (.refl _)) (.swap _ _ _))) (.swap _ _ _))) (.swap _ _ _))) (.swap _ _ _))) (.swap _ _ _))) (.swap _ _ _))) (.trans (.cons _ (.trans (.cons _ (.trans (.cons _ (.trans (.cons _ (.trans (.cons _ (.trans (.cons _ (.refl _)) (.swap _ _ _))) (.swap _ _ _))) (.swap _ _ _))) (.swap _ _ _))) (.swap _ _ _))) (.swap _ _ _))) (.trans (.cons _ (.trans (.cons _ (.trans (.cons _ (.trans (.cons _ (.trans (.cons _ (.trans (.cons _ (.refl _)) (.swap _ _ _))) (.swap _ _ _))) (.swap _ _ _))) (.swap _ _ _))) (.swap _ _ _))) (.swap _ _ _))) (.trans (.cons _ (.trans (.cons _ (.trans (.cons _ (.trans (.cons _ (.trans (.cons _ (.trans (.cons _ (.refl _)) (.swap _ _ _))) (.swap _ _ _))) (.swap _ _ _))) (.swap _ _ _))) (.swap _ _ _))) (.swap _ _ _))) (.trans (.cons _ (.trans (.cons _ (.trans (.cons _ (.trans (.cons _ (.trans (.cons _ (.trans (.cons _ (.refl _)) (.swap _ _ _))) (.swap _ _ _))) (.swap _ _ _))) (.swap _ _ _))) (.swap _ _ _))) (.swap _ _ _)))) w hm))
                                · -- False
                                  refine W.sk rfl rfl g48 rfl <| W.sk rfl rfl g48 rfl <| W.sk rfl rfl g48 rfl <| W.sk rfl rfl g48 rfl <| W.qg rfl rfl g47 (pkf rfl g48 rfl) rfl <| W.qg rfl rfl g47 (neb Try.underlying4 rfl rfl) rfl <| W.q (pkf rfl g47 rfl) rfl <| W.q (mv rfl) rfl <| W.sp (t := _) 234 rfl (fun g51 => ?_) (fun g51 => ?_)
                                  · -- True
                                    first | (simp at g51; done) | (simp_all; done)
                                  · -- False
                                    refine W.qg rfl rfl g51 (mv rfl) rfl <| W.qg rfl rfl g51 (ncp rfl) rfl <| W.qg rfl rfl g51 (fa Try.fof87_2 rfl) rfl <| W.qg rfl rfl g51 (lda Try.agg26 Try.sz26 rfl (fun i v hv => by match i with | 0 => cases hv; exact Cell.at (.tl <| .hd) rfl | i + 1 => simp at hv) rfl) rfl <| W.qg rfl rfl g51 (mv rfl) rfl <| W.qg rfl rfl g51 (fa Try.fof105_0 rfl) rfl <| W.qg rfl rfl g51 (ld Try.sc3 rfl (Cell.at (.tl <| .tl <| .tl <| .hd) rfl)) rfl <| W.fvgq rfl rfl g51 Try.ca13 rfl (fun w hm => tape_Acked a3 c3 xs w (hm.slRd (.tail _ <| .tail _ <| .tail _ <| .tail _ <| .tail _ <| .tail _ <| .head _)) hba ((u64Of tb).toNat : Int) now1) rfl <| W.qg rfl rfl g51 (mv rfl) rfl <| W.qg rfl rfl g51 (mv rfl) rfl <| W.fvgq rfl rfl g51 Try.ca55 rfl (fun w hm => feed_Heard bf now1 a3 c3 xs w (Cell.at (.tl <| .hd) rfl w hm) (Cell.at (.tl <| .hd) rfl w hm) (hm.slRd (.tail _ <| .tail _ <| .tail _ <| .tail _ <| .tail _ <| .tail _ <| .head _)) hba ((u64Of tb).toNat : Int)) rfl <| W.qg rfl rfl g51 (neb Try.underlying4 rfl rfl) rfl <| W.q (pkf rfl g51 rfl) rfl <| W.nilq <| G.cdd rfl (fun h52 => ?_) (fun h52 => ?_)
                                    · -- h52 True
                                      exact absurd rfl h52
                                    · -- h52 False
                                      refine G.skip <| G.inb <| G.reg <| W.q (ad rfl rfl (by omega)) rfl <| W.q (mv rfl) rfl <| W.nil <| (ih (k + 1) ⟨now1, ts1, p1, pt1, ct1, wt1, cw1⟩ ⟨by omega, hts1, hp1⟩ (by omega)).weak (Sub.cons rfl <| Sub.cons rfl <| Sub.cons rfl <| Sub.cons rfl <| Sub.cons rfl <| Sub.cons rfl <| Sub.cons rfl <| Sub.cons rfl <| Sub.nil _) (fun w hm => (Dr.ent (.keep <| .keep <| .keep <| .keep <| .keep <| .keep <| .drop rfl <| .rfl)) w ((Ent.perm (.trans (.trans (.trans (.trans (.trans (.trans (.cons _ (.trans (.cons _ (.trans (.cons _ (.trans (.cons _ (.trans (.cons _ (.trans (.cons _ (.refl _)) (.swap _ _ _))) (.swap _ _ _))) (.swap _ _ _))) (.swap _ _ _))) (.swap _ _ _))) (.swap _ _ _)) (.trans (.cons _ (.trans (.cons _ (.trans (.cons _ (.trans (.cons _ (.trans (.cons _ (.trans (.cons _ (.refl _)) (.swap _ _ _))) (.swap _ _ _))) (.swap _ _ _))) (.swap _ _ _))) (.swap _ _ _))) (.swap _ _ _))) (.trans (.cons _ (.trans (.cons _ (.trans (.cons _ (.trans (.cons _ (.trans (.cons _ (.trans (.cons _ (.refl _)) (.swap _ _ _))) (.swap _ _ _))) (.swap _ _ _))) (.swap _ _ _))) (.swap _ _ _))) (.swap _ _ _))) (.trans (.cons _ (.trans (.cons _ (.trans (.cons _ (.trans (.cons _ (.trans (.cons _ (.trans (.cons _ (.refl _)) (.swap _ _ _))) (.swap _ _ _))) (.swap _ _ _))) (.swap _ _ _))) (.swap _ _ _))) (.swap _ _ _))) (.trans (.cons _ (.trans (.cons _ (.trans (.cons _ (.trans (.cons _ (.trans (.cons _ (.trans (.cons _ (.refl _)) (.swap _ _ _))) (.swap _ _ _))) (.swap _ _ _))) (.swap _ _ _))) (.swap _ _ _))) (.swap _ _ _))) (.trans (.cons _ (.trans (.cons _ (.trans (.cons _ (.trans (.cons _ (.trans (.cons _ (.trans (.cons _ (.refl _)) (.swap _ _ _))) (.swap _ _ _))) (.swap _ _ _))) (.swap _ _ _))) (.swap _ _ _))) (.swap _ _ _)))) w hm))
                        · -- False
                          refine W.sk rfl rfl g44 rfl <| W.sk rfl rfl g44 rfl <| W.sk rfl rfl g44 rfl <| W.sk rfl rfl g44 rfl <| W.sk rfl rfl g44 rfl <| W.sk rfl rfl g44 rfl <| W.qg rfl rfl g43 (pkf rfl g44 rfl) rfl <| W.q (pkf rfl g43 rfl) rfl <| W.nil <| G.cdf rfl rfl <| G.skip <| ?_
                          refine G.ent (fun w hm => (Dr.ent (.keep <| .keep <| .keep <| .keep <| .keep <| .keep <| .keep <| .drop rfl <| .drop rfl <| .new hJ1)) w ((Ent.perm (.trans (.trans (.trans (.trans (.trans (.trans (.trans (.cons _ (.trans (.cons _ (.trans (.cons _ (.trans (.cons _ (.trans (.cons _ (.trans (.cons _ (.trans (.cons _ (.trans (.cons _ (.refl _)) (.swap _ _ _))) (.swap _ _ _))) (.swap _ _ _))) (.swap _ _ _))) (.swap _ _ _))) (.swap _ _ _))) (.swap _ _ _))) (.swap _ _ _)) (.trans (.cons _ (.trans (.cons _ (.trans (.cons _ (.trans (.cons _ (.trans (.cons _ (.trans (.cons _ (.trans (.cons _ (.trans (.cons _ (.refl _)) (.swap _ _ _))) (.swap _ _ _))) (.swap _ _ _))) (.swap _ _ _))) (.swap _ _ _))) (.swap _ _ _))) (.swap _ _ _))) (.swap _ _ _))) (.trans (.cons _ (.trans (.cons _ (.trans (.cons _ (.trans (.cons _ (.trans (.cons _ (.trans (.cons _ (.trans (.cons _ (.trans (.cons _ (.refl _)) (.swap _ _ _))) (.swap _ _ _))) (.swap _ _ _))) (.swap _ _ _))) (.swap _ _ _))) (.swap _ _ _))) (.swap _ _ _))) (.swap _ _ _))) (.trans (.cons _ (.trans (.cons _ (.trans (.cons _ (.trans (.cons _ (.trans (.cons _ (.trans (.cons _ (.trans (.cons _ (.trans (.cons _ (.refl _)) (.swap _ _ _))) (.swap _ _ _))) (.swap _ _ _))) (.swap _ _ _))) (.swap _ _ _))) (.swap _ _ _))) (.swap _ _ _))) (.swap _ _ _))) (.trans (.cons _ (.trans (.cons _ (.trans (.cons _ (.trans (.cons _ (.trans (.cons _ (.trans (.cons _ (.trans (.cons _ (.trans (.cons _ (.refl _)) (.swap _ _ _))) (.swap _ _ _))) (.swap _ _ _))) (.swap _ _ _))) (.swap _ _ _))) (.swap _ _ _))) (.swap _ _ _))) (.swap _ _ _))) (.trans (.cons _ (.trans (.cons _ (.trans (.cons _ (.trans (.cons _ (.trans (.cons _ (.refl _)) (.swap _ _ _))) (.swap _ _ _))) (.swap _ _ _))) (.swap _ _ _))) (.swap _ _ _))) (.trans (.cons _ (.trans (.cons _ (.trans (.cons _ (.trans (.cons _ (.trans (.cons _ (.trans (.cons _ (.trans (.cons _ (.trans (.cons _ (.refl _)) (.swap _ _ _))) (.swap _ _ _))) (.swap _ _ _))) (.swap _ _ _))) (.swap _ _ _))) (.swap _ _ _))) (.swap _ _ _))) (.swap _ _ _)))) w hm)) ?_
                          obtain ⟨p1, hp1, hp⟩ : ∃ x, x ≤ bs.length ∧ x = (drawsR bs p [tb]).2.2 := ⟨_, hle, rfl⟩
                          obtain ⟨ts1, hts1, hts⟩ : ∃ x : List (Int × Int), x.length ≤ 64 ∧ x = ts := ⟨_, hk.2.1, rfl⟩
                          obtain ⟨wt1, hwt⟩ : ∃ x, x = wt := ⟨_, rfl⟩
                          obtain ⟨cw1, hcw⟩ : ∃ x, x = cw := ⟨_, rfl⟩
                          obtain ⟨pt1, hpt⟩ : ∃ x, x = pt := ⟨_, rfl⟩
                          obtain ⟨ct1, hct⟩ : ∃ x, x = ct := ⟨_, rfl⟩
                          obtain ⟨now1, hnow⟩ : ∃ x, x = now := ⟨_, rfl⟩
                          rw [← hts, ← hp, ← hwt, ← hcw, ← hpt, ← hct, ← hnow]
                          try dsimp only
                          refine G.reg <| W.q (mv rfl) rfl <| W.q (sa rfl) rfl <| W.nil <| G.inb <| G.seq <| G.reg <| W.q (fa Try.fof107_2 rfl) rfl <| W.q (ld Try.sc3 rfl (Cell.at .hd rfl)) rfl <| W.q (cv_i64_u64 Try.underlying3 Try.underlying30 rfl) rfl <| W.q (sa rfl) rfl <| W.nil <| G.seq <| G.reg <| W.q (mv rfl) rfl <| W.q (mv rfl) rfl <| W.fv Try.ca17 rfl (fun w hm => ref08_First aa capa xs w (hm.rd rfl hla) hba ((u64Of tb).toNat : Int)) rfl <| W.q (mv rfl) rfl <| W.q (ex rfl rfl) rfl <| W.q (ex rfl rfl) rfl <| W.q (sa rfl) rfl <| W.q (sa rfl) rfl <| W.nil <| G.seq <| G.regq Try.mixed (by kernel_rfl) <| W.q (mv rfl) rfl <| W.q (ncp rfl) rfl <| W.q (fa Try.fof87_1 rfl) rfl <| W.fvq Try.ca47 rfl (fun w hm => clock_NowR bf 2 now1 w (Cell.at (.tl <| .hd) rfl w hm)) rfl <| W.q (fa Try.fof105_0 rfl) rfl <| W.q (ld Try.sc3 rfl (Cell.at (.tl <| .tl <| .tl <| .hd) rfl)) rfl <| W.q (ne rfl rfl) rfl <| W.q (mv rfl) rfl <| W.sp (t := _) 202 rfl (fun g53 => ?_) (fun g53 => ?_)
                          · -- True
                            first | (simp at g53; done) | (simp_all; done)
                          · -- False
                            refine W.qg rfl rfl g53 (mv rfl) rfl <| W.qg rfl rfl g53 (ncp rfl) rfl <| W.qg rfl rfl g53 (fa Try.fof87_1 rfl) rfl <| W.fvgq rfl rfl g53 Try.ca54 rfl (fun w hm => clock_WaitingR bf 2 ts1.length ct1 pt1 w (Cell.at (.tl <| .hd) rfl w hm)) rfl <| W.qg rfl rfl g53 (fa Try.fof105_1 rfl) rfl <| W.qg rfl rfl g53 (ld Try.sc103 rfl (Cell.at (.tl <| .tl <| .tl <| .hd) rfl)) rfl <| W.qg rfl rfl g53 (ln Try.esl103 rfl) rfl <| W.qg rfl rfl g53 (ne rfl rfl) rfl <| W.q (pkf rfl g53 rfl) rfl <| W.q (mv rfl) rfl <| W.sp (t := _) 212 rfl (fun g54 => ?_) (fun g54 => ?_)
                            · -- True
                              first | (simp at g54; done) | (simp_all; done)
                            · -- False
                              refine W.qg rfl rfl g54 (mv rfl) rfl <| W.qg rfl rfl g54 (ncp rfl) rfl <| W.qg rfl rfl g54 (fa Try.fof87_0 rfl) rfl <| W.qg rfl rfl g54 (fa Try.fof51_0 rfl) rfl <| W.fvgq rfl rfl g54 Try.ca31 rfl (fun w hm => cursor_DoneR bf 0 p1 w (Cell.at (.tl <| .hd) rfl w hm)) rfl <| W.qg rfl rfl g54 (mv rfl) rfl <| W.qg rfl rfl g54 (ne rfl rfl) rfl <| W.q (pkf rfl g54 rfl) rfl <| W.q (mv rfl) rfl <| W.sp (t := _) 221 rfl (fun g55 => ?_) (fun g55 => ?_)
                              · -- True
                                first | (simp at g55; done) | (simp_all; done)
                              · -- False
                                refine W.qg rfl rfl g55 (mv rfl) rfl <| W.qg rfl rfl g55 (mv rfl) rfl <| W.fvgq rfl rfl g55 Try.ca55 rfl (fun w hm => feed_Heard bf now1 a3 c3 xs w (Cell.at (.tl <| .hd) rfl w hm) (Cell.at (.tl <| .hd) rfl w hm) (hm.slRd (.tail _ <| .tail _ <| .tail _ <| .tail _ <| .tail _ <| .tail _ <| .head _)) hba ((u64Of tb).toNat : Int)) rfl <| W.qg rfl rfl g55 (mv rfl) rfl <| W.qg rfl rfl g55 (mv rfl) rfl <| W.sp (t := _) 226 rfl (fun g56 => ?_) (fun g56 => ?_)
                                · -- True
                                  refine W.qg rfl rfl g56 (mv rfl) rfl <| W.qg rfl rfl g56 (fa Try.fof105_0 rfl) rfl <| W.qg rfl rfl g56 (ld Try.sc3 rfl (Cell.at (.tl <| .tl <| .tl <| .hd) rfl)) rfl <| W.qg rfl rfl g56 (le rfl rfl) rfl <| W.qg rfl rfl g55 (pkt rfl g56 rfl) rfl <| W.qg rfl rfl g55 (neb Try.underlying4 rfl rfl) rfl <| W.q (pkf rfl g55 rfl) rfl <| W.q (mv rfl) rfl <| W.sp (t := _) 234 rfl (fun g57 => ?_) (fun g57 => ?_)
                                  · -- True
                                    first | (simp at g57; done) | (simp_all; done)
                                  · -- False
                                    refine W.qg rfl rfl g57 (mv rfl) rfl <| W.qg rfl rfl g57 (ncp rfl) rfl <| W.qg rfl rfl g57 (fa Try.fof87_2 rfl) rfl <| W.qg rfl rfl g57 (lda Try.agg26 Try.sz26 rfl (fun i v hv => by match i with | 0 => cases hv; exact Cell.at (.tl <| .hd) rfl | i + 1 => simp at hv) rfl) rfl <| W.qg rfl rfl g57 (mv rfl) rfl <| W.qg rfl rfl g57 (fa Try.fof105_0 rfl) rfl <| W.qg rfl rfl g57 (ld Try.sc3 rfl (Cell.at (.tl <| .tl <| .tl <| .hd) rfl)) rfl <| W.fvgq rfl rfl g57 Try.ca13 rfl (fun w hm => tape_Acked a3 c3 xs w (hm.slRd (.tail _ <| .tail _ <| .tail _ <| .tail _ <| .tail _ <| .tail _ <| .head _)) hba ((u64Of tb).toNat : Int) now1) rfl <| W.qg rfl rfl g57 (mv rfl) rfl <| W.qg rfl rfl g57 (mv rfl) rfl <| W.fvgq rfl rfl g57 Try.ca55 rfl (fun w hm => feed_Heard bf now1 a3 c3 xs w (Cell.at (.tl <| .hd) rfl w hm) (Cell.at (.tl <| .hd) rfl w hm) (hm.slRd (.tail _ <| .tail _ <| .tail _ <| .tail _ <| .tail _ <| .tail _ <| .head _)) hba ((u64Of tb).toNat : Int)) rfl <| W.qg rfl rfl g57 (neb Try.underlying4 rfl rfl) rfl <| W.q (pkf rfl g57 rfl) rfl <| W.nilq <| G.cdd rfl (fun h58 => ?_) (fun h58 => ?_)
                                    · -- h58 True
                                      exact absurd rfl h58
                                    · -- h58 False
                                      refine G.skip <| G.inb <| G.reg <| W.q (ad rfl rfl (by omega)) rfl <| W.q (mv rfl) rfl <| W.nil <| (ih (k + 1) ⟨now1, ts1, p1, pt1, ct1, wt1, cw1⟩ ⟨by omega, hts1, hp1⟩ (by omega)).weak (Sub.cons rfl <| Sub.cons rfl <| Sub.cons rfl <| Sub.cons rfl <| Sub.cons rfl <| Sub.cons rfl <| Sub.cons rfl <| Sub.cons rfl <| Sub.nil _) (fun w hm => (Dr.ent (.keep <| .keep <| .keep <| .keep <| .keep <| .keep <| .drop rfl <| .rfl)) w ((Ent.perm (.trans (.trans (.trans (.trans (.trans (.trans (.cons _ (.trans (.cons _ (.trans (.cons _ (.trans (.cons _ (.trans (.cons _ (.trans (.cons _ (.refl _)) (.swap _ _ _))) (.swap _ _ _))) (.swap _ _ _))) (.swap _ _ _))) (.swap _ _ _))) (.swap _ _ _)) (.trans (.cons _ (.trans (.cons _ (.trans (.cons _ (.trans (.cons _ (.trans (.cons _ (.trans (.cons _ (.refl _)) (.swap _ _ _))) (.swap _ _ _))) (.swap _ _ _))) (.swap _ _ _))) (.swap _ _ _))) (.swap _ _ _))) (.trans (.cons _ (.trans (.cons _ (.trans (.cons _ (.trans (.cons _ (.trans (.cons _ (.trans (.cons _ (.refl _)) (.swap _ _ _))) (.swap _ _ _))) (.swap _ _ _))) (.swap _ _ _))) (.swap _ _ _))) (.swap _ _ _))) (.trans (.cons _ (.trans (.cons _ (.trans (.cons _ (.trans (.cons _ (.trans (.cons _ (.trans (.cons _ (.refl _)) (.swap _ _ _))) (.swap _ _ _))) (.swap _ _ _))) (.swap _ _ _))) (.swap _ _ _))) (.swap _ _ _))) (.trans (.cons _ (.trans (.cons _ (.trans (.cons _ (.trans (.cons _ (.trans (.cons _ (.trans (.cons _ (.refl _)) (.swap _ _ _))) (.swap _ _ _))) (.swap _ _ _))) (.swap _ _ _))) (.swap _ _ _))) (.swap _ _ _))) (.trans (.cons _ (.trans (.cons _ (.trans (.cons _ (.trans (.cons _ (.trans (.cons _ (.trans (.cons _ (.refl _)) (.swap _ _ _))) (.swap _ _ _))) (.swap _ _ _))) (.swap _ _ _))) (.swap _ _ _))) (.swap _ _ _)))) w hm))
                                · -- False
                                  refine W.sk rfl rfl g56 rfl <| W.sk rfl rfl g56 rfl <| W.sk rfl rfl g56 rfl <| W.sk rfl rfl g56 rfl <| W.qg rfl rfl g55 (pkf rfl g56 rfl) rfl <| W.qg rfl rfl g55 (neb Try.underlying4 rfl rfl) rfl <| W.q (pkf rfl g55 rfl) rfl <| W.q (mv rfl) rfl <| W.sp (t := _) 234 rfl (fun g59 => ?_) (fun g59 => ?_)
                                  · -- True
                                    first | (simp at g59; done) | (simp_all; done)
                                  · -- False
                                    refine W.qg rfl rfl g59 (mv rfl) rfl <| W.qg rfl rfl g59 (ncp rfl) rfl <| W.qg rfl rfl g59 (fa Try.fof87_2 rfl) rfl <| W.qg rfl rfl g59 (lda Try.agg26 Try.sz26 rfl (fun i v hv => by match i with | 0 => cases hv; exact Cell.at (.tl <| .hd) rfl | i + 1 => simp at hv) rfl) rfl <| W.qg rfl rfl g59 (mv rfl) rfl <| W.qg rfl rfl g59 (fa Try.fof105_0 rfl) rfl <| W.qg rfl rfl g59 (ld Try.sc3 rfl (Cell.at (.tl <| .tl <| .tl <| .hd) rfl)) rfl <| W.fvgq rfl rfl g59 Try.ca13 rfl (fun w hm => tape_Acked a3 c3 xs w (hm.slRd (.tail _ <| .tail _ <| .tail _ <| .tail _ <| .tail _ <| .tail _ <| .head _)) hba ((u64Of tb).toNat : Int) now1) rfl <| W.qg rfl rfl g59 (mv rfl) rfl <| W.qg rfl rfl g59 (mv rfl) rfl <| W.fvgq rfl rfl g59 Try.ca55 rfl (fun w hm => feed_Heard bf now1 a3 c3 xs w (Cell.at (.tl <| .hd) rfl w hm) (Cell.at (.tl <| .hd) rfl w hm) (hm.slRd (.tail _ <| .tail _ <| .tail _ <| .tail _ <| .tail _ <| .tail _ <| .head _)) hba ((u64Of tb).toNat : Int)) rfl <| W.qg rfl rfl g59 (neb Try.underlying4 rfl rfl) rfl <| W.q (pkf rfl g59 rfl) rfl <| W.nilq <| G.cdd rfl (fun h60 => ?_) (fun h60 => ?_)
                                    · -- h60 True
                                      exact absurd rfl h60
                                    · -- h60 False
                                      refine G.skip <| G.inb <| G.reg <| W.q (ad rfl rfl (by omega)) rfl <| W.q (mv rfl) rfl <| W.nil <| (ih (k + 1) ⟨now1, ts1, p1, pt1, ct1, wt1, cw1⟩ ⟨by omega, hts1, hp1⟩ (by omega)).weak (Sub.cons rfl <| Sub.cons rfl <| Sub.cons rfl <| Sub.cons rfl <| Sub.cons rfl <| Sub.cons rfl <| Sub.cons rfl <| Sub.cons rfl <| Sub.nil _) (fun w hm => (Dr.ent (.keep <| .keep <| .keep <| .keep <| .keep <| .keep <| .drop rfl <| .rfl)) w ((Ent.perm (.trans (.trans (.trans (.trans (.trans (.trans (.cons _ (.trans (.cons _ (.trans (.cons _ (.trans (.cons _ (.trans (.cons _ (.trans (.cons _ (.refl _)) (.swap _ _ _))) (.swap _ _ _))) (.swap _ _ _))) (.swap _ _ _))) (.swap _ _ _))) (.swap _ _ _)) (.trans (.cons _ (.trans (.cons _ (.trans (.cons _ (.trans (.cons _ (.trans (.cons _ (.trans (.cons _ (.refl _)) (.swap _ _ _))) (.swap _ _ _))) (.swap _ _ _))) (.swap _ _ _))) (.swap _ _ _))) (.swap _ _ _))) (.trans (.cons _ (.trans (.cons _ (.trans (.cons _ (.trans (.cons _ (.trans (.cons _ (.trans (.cons _ (.refl _)) (.swap _ _ _))) (.swap _ _ _))) (.swap _ _ _))) (.swap _ _ _))) (.swap _ _ _))) (.swap _ _ _))) (.trans (.cons _ (.trans (.cons _ (.trans (.cons _ (.trans (.cons _ (.trans (.cons _ (.trans (.cons _ (.refl _)) (.swap _ _ _))) (.swap _ _ _))) (.swap _ _ _))) (.swap _ _ _))) (.swap _ _ _))) (.swap _ _ _))) (.trans (.cons _ (.trans (.cons _ (.trans (.cons _ (.trans (.cons _ (.trans (.cons _ (.trans (.cons _ (.refl _)) (.swap _ _ _))) (.swap _ _ _))) (.swap _ _ _))) (.swap _ _ _))) (.swap _ _ _))) (.swap _ _ _))) (.trans (.cons _ (.trans (.cons _ (.trans (.cons _ (.trans (.cons _ (.trans (.cons _ (.trans (.cons _ (.refl _)) (.swap _ _ _))) (.swap _ _ _))) (.swap _ _ _))) (.swap _ _ _))) (.swap _ _ _))) (.swap _ _ _)))) w hm))
              · -- h11 False
                refine G.exit rfl <| G.seq <| G.reg <| W.q (sa rfl) rfl <| W.nil <| ret1 hX Try.results9 rfl fun w hm => done (H := []) rfl rfl (Dr.ent (Dr.new rfl) w hm)
end Go.Proofs.Ytnbofpojbpmdmaa
