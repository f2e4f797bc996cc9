/- TapeKeeps. -/
import Derived.Test.YtnbofpojbpmdmaaApart
import Derived.Test.YtnbofpojbpmdmaaFeed1
import Derived.Test.YtnbofpojbpmdmaaLawTape
namespace Go.Proofs.Ytnbofpojbpmdmaa
open Go Go.Eng
set_option linter.unusedVariables false

theorem ref01_Spare' (a : Option Addr) (cap : Nat) (bs : List UInt8) (w : World) (hl : RdL w a (B bs)) (hb : bs.length ≤ 140737488351232) :
    Ret Try.prog 38 [.slice a bs.length cap] w (fun v J => ∃ b, v = .tuple #[.slice (some ⟨b, 0, none⟩) bs.length (spareB bs).length, .slice (some ⟨b, 0, none⟩) (spareB bs).length (spareB bs).length] ∧ J = [sl (some ⟨b, 0, none⟩) (spareB bs).length (spareB bs).length 5 1 (B (spareB bs))]) := by
  rw [spareB_len]; exact ref01_Spare a cap bs w hl hb
theorem spareB_take (bs : List UInt8) : (spareB bs).take bs.length = bs := by simp [spareB]
theorem draw_ok {bs : List UInt8} {at_ m : Nat} (h : at_ + m ≤ bs.length) : drawR bs at_ m = ((bs.drop at_).take m, 0, at_ + m) := by
  unfold drawR takeR
  rw [if_neg (by omega), if_neg (by omega)]; rfl
theorem draw0 {bs : List UInt8} {m : Nat} (h : m ≤ bs.length) : drawR bs 0 m = (bs.take m, 0, m) := by
  rw [draw_ok (by omega), Nat.zero_add, List.drop_zero]
theorem draws3 {bs : List UInt8} {m : Nat} (h : 3 * m ≤ bs.length) : drawsR bs m [(m : Int), 0, (m : Int)] = ([(bs.drop m).take m, [], (bs.drop (2 * m)).take m], 0, 3 * m) := by
  have hu : upTo [(m : Int), 0, (m : Int)] (0 + 1 + 1 + 1) = 2 * m := by simp [upTo]; omega
  unfold drawsR
  rw [if_neg (by simp), if_neg (by simp only [List.length_cons, List.length_nil]; omega)]
  simp [cuts, hu]
  constructor
  · congr 2; omega
  · omega


set_option maxRecDepth 100000 in
theorem law_TapeKeeps (a : Option Addr) (cap : Nat) (bs : List UInt8) (w : World) (hl : RdL w a (B bs)) (hb : bs.length ≤ 140737488351232) (hcap : bs.length ≤ cap) :
    Ret Try.prog 7 [.slice a bs.length cap] w (fun v _ => v = .bool true) := by
  refine enter [] (Mem.nil _) Try.func7 rfl Try.ntmps7 rfl (fun X hX => ?_)
  have hw := hX.w0; subst hw
  refine G.seq <| G.reg <| W.q (sa rfl) rfl <| W.nil <| G.seq <| G.seq <| G.reg <| W.fv Try.ca21 rfl (fun w hm => law08_awake w) rfl <| W.q (nt rfl) rfl <| W.nil <| G.cdf rfl rfl <| G.skip <| G.seq <| G.reg <| W.q (mv rfl) rfl <| W.fn Try.ca38 rfl (fun w hm => ref01_Spare' a cap bs w (hm.rd rfl hl) hb) rfl fun v J hv hJ => ?_
  obtain ⟨bF, rfl, rfl⟩ := hv
  have hF : ∀ w H, Mem X.w0 w H → sl (some ⟨bF, 0, none⟩) (spareB bs).length (spareB bs).length 5 1 (B (spareB bs)) ∈ H → RdL w (some ⟨bF, 0, none⟩) (B bs) := fun w H hm hi => by
    have := (hm.slRd hi).takeB bs.length
    rwa [spareB_take] at this
  refine W.q (mv rfl) rfl <| W.q (ex rfl rfl) rfl <| W.q (ex rfl rfl) rfl <| W.q (sa rfl) rfl <| W.q (sa rfl) rfl <| W.nil <| G.seq <| G.reg <| W.q (mv rfl) rfl <| W.fn Try.ca24 rfl (fun w hm => tape_NewTape (some ⟨bF, 0, none⟩) (spareB bs).length bs w (hF w _ hm (.head _)) hb) rfl fun v J hv hJ => ?_
  obtain ⟨bt, a1, c1, rfl, rfl⟩ := hv
  refine W.q (sa rfl) rfl <| W.nil <| G.seq <| G.reg <| W.q (mv rfl) rfl <| W.fn Try.ca39 rfl (fun w hm => tape_NewFeed (some ⟨bF, 0, none⟩) (spareB bs).length bs w (hF w _ hm (.tail _ <| .tail _ <| .head _)) hb none 0 [] RdL.ofNil (by simp)) rfl fun v J hv hJ => ?_
  obtain ⟨bf, a2, c2, a3, c3, rfl, hJe⟩ := hv
  have hfr : feedR bs [] = if 1048576 < bs.length then 2 else 0 := by rw [feedR, if_neg (fun h => h rfl)]
  generalize hfR : feedR bs [] = fR at *
  refine W.q (mv rfl) rfl <| W.q (ex rfl rfl) rfl <| W.q (ex rfl rfl) rfl <| W.q (sa rfl) rfl <| W.q (sa rfl) rfl <| W.nil <| G.seq <| G.seq <| G.reg <| W.q (mv rfl) rfl <| W.q (ln Try.esl46 rfl) rfl <| W.q (gt rfl rfl) rfl <| W.nil <| G.cdd rfl (fun h1 => ?_) (fun h1 => ?_)
  · -- h1 True
    obtain rfl : fR = 2 := by rw [hfr, if_pos (by omega)]
    refine G.seq <| G.reg <| W.q (mv rfl) rfl <| W.q (eq rfl rfl) rfl <| W.q (sa rfl) rfl <| W.nil <| ret1 hX Try.results7 rfl fun w hm => done (H := []) rfl rfl (Dr.ent (Dr.new (allNew_append hJ rfl)) w hm)
  · -- h1 False
    obtain rfl : fR = 0 := by rw [hfr, if_neg (by omega)]
    rw [if_pos rfl] at hJe
    subst hJe
    refine G.slAt (a := a1) (m := bs.length) (cap := c1) (E := 5) (s := 1) (xs := B bs) (by simp) (fun _ hc1 _ _ => ?_)
    refine G.slAt (a := a2) (m := bs.length) (cap := c2) (E := 5) (s := 1) (xs := B bs) (by simp) (fun _ hc2 _ _ => ?_)
    refine G.skip <| G.seq <| G.seq <| G.reg <| W.q (mv rfl) rfl <| W.q (ne rfl rfl) rfl <| W.q (mv rfl) rfl <| W.sp (t := _) 36 rfl (fun g2 => ?_) (fun g2 => ?_)
    · -- True
      simp at g2
    · -- False
      refine W.qg rfl rfl g2 (mv rfl) rfl <| W.qg rfl rfl g2 (eqp Try.underlying80 rfl) rfl <| W.q (pkf rfl g2 rfl) rfl <| W.nil <| G.cdd rfl (fun h3 => ?_) (fun h3 => ?_)
      · -- h3 True
        simp at h3
      · -- h3 False
        refine G.skip <| G.seq <| G.reg <| W.q (mv rfl) rfl <| W.q (ln Try.esl46 rfl) rfl <| W.q (qo rfl rfl (by omega) (by omega) (by omega)) rfl <| W.q (sa rfl) rfl <| W.nil <| G.seq <| ?_
        rw [show ((bs.length : Int) / 3) = ((bs.length / 3 : Nat) : Int) from rfl]
        have hm3 : 3 * (bs.length / 3) ≤ bs.length := by omega
        generalize bs.length / 3 = m at hm3 ⊢
        refine G.reg <| W.q (mv rfl) rfl <| W.q (mv rfl) rfl <| W.ff Try.ca27 rfl (Ent.perm (.trans (.cons _ (.trans (.cons _ (.trans (.cons _ (.refl _)) (.swap _ _ _))) (.swap _ _ _))) (.swap _ _ _))) (tape_Draw X.w0 _ rfl bt 0 _ _ a1 c1 bs 0 rfl rfl (Rdf.sl (.tail _ <| .tail _ <| .tail _ <| .head _)) hb (by omega) hc1 m (by omega)) rfl rfl fun v J hv hJ => ?_
        obtain ⟨a5, c5, rfl, rfl⟩ := hv
        rw [draw0 (by omega)]
        refine W.q (mv rfl) rfl <| W.q (ex rfl rfl) rfl <| W.q (ex rfl rfl) rfl <| W.q (sa rfl) rfl <| W.q (sa rfl) rfl <| W.nil <| G.seq <| G.reg <| W.q (mv rfl) rfl <| W.q (mv rfl) rfl <| W.q (mv rfl) rfl <| W.bs (cs := [_, _, _]) Try.underlying40 Try.sz3 Try.zrl3 rfl rfl rfl rfl fun b1 => W.ff Try.ca29 rfl (Ent.perm (.trans (.cons _ (.refl _)) (.swap _ _ _))) (tape_Draws X.w0 _ rfl bt 0 _ _ a1 c1 bs m rfl rfl (Rdf.sl (.tail _ <| .tail _ <| .tail _ <| .tail _ <| .tail _ <| .head _)) hb (by omega) hc1 (some ⟨b1, 0, none⟩) 3 [(m : Int), 0, (m : Int)] (Rdf.row .hd) (by simp; omega) (by simp)) rfl rfl fun v J hv hJ => ?_
        obtain ⟨v1, J, ⟨a6, c6, ps, hps, rfl, rfl⟩, rfl, rfl⟩ := hv
        rw [draws3 (by omega)] at hps ⊢
        obtain ⟨⟨q1, r1, x1⟩, ⟨q2, r2, x2⟩, ⟨q3, r3, x3⟩, rfl⟩ := len3 (by have := congrArg List.length hps; simpa using this)
        simp only [List.map_cons, List.map_nil, List.cons.injEq, and_true] at hps
        obtain ⟨rfl, rfl, rfl⟩ := hps
        refine W.q (mv rfl) rfl <| W.q (ex rfl rfl) rfl <| W.q (ex rfl rfl) rfl <| W.q (sa rfl) rfl <| W.q (sa rfl) rfl <| W.nil <| G.seq <| G.reg <| W.q (mv rfl) rfl <| W.q (ncp rfl) rfl <| W.q (fa Try.fof87_0 rfl) rfl <| W.q (mv rfl) rfl <| W.ff Try.ca27 rfl (Ent.perm (.trans (.cons _ (.trans (.cons _ (.trans (.cons _ (.trans (.cons _ (.trans (.cons _ (.trans (.cons _ (.trans (.cons _ (.refl _)) (.swap _ _ _))) (.swap _ _ _))) (.swap _ _ _))) (.swap _ _ _))) (.swap _ _ _))) (.swap _ _ _))) (.swap _ _ _))) (tape_Draw X.w0 _ rfl bf 0 _ _ a2 c2 bs 0 rfl rfl (Rdf.sl (.tail _ <| .tail _ <| .tail _ <| .tail _ <| .tail _ <| .tail _ <| .tail _ <| .head _)) hb (by omega) hc2 m (by omega)) rfl rfl fun v J hv hJ => ?_
        obtain ⟨a7, c7, rfl, rfl⟩ := hv
        rw [draw0 (by omega)]
        refine W.q (mv rfl) rfl <| W.q (ex rfl rfl) rfl <| W.q (ex rfl rfl) rfl <| W.q (sa rfl) rfl <| W.q (sa rfl) rfl <| W.nil <| G.seq <| G.seq <| ?_
        refine G.rdA (a := a6) (cells := [pcV (q1, r1, (bs.drop m).take m), pcV (q2, r2, []), pcV (q3, r3, (bs.drop (2 * m)).take m)]) (Rdf.sl (m := 3) (cap := c6) (E := 46) (s := 1) (.tail _ <| .tail _ <| .tail _ <| .head _)) (by simp) (fun ub uo hue => ?_)
        subst hue
        have hz : ∀ H k v, sl (some ⟨ub, uo, none⟩) 3 c6 46 1 [pcV (q1, r1, (bs.drop m).take m), pcV (q2, r2, []), pcV (q3, r3, (bs.drop (2 * m)).take m)] ∈ H → [pcV (q1, r1, (bs.drop m).take m), pcV (q2, r2, []), pcV (q3, r3, (bs.drop (2 * m)).take m)][k]? = some v → Cell X.w0 H ⟨ub, uo + k, none⟩ v := fun H k v hi hv => (Rdf.sl (w0 := X.w0) hi).cellOf hv
        refine G.regq Try.mixed (by kernel_rfl) <| W.q (mv rfl) rfl <| W.q (ln Try.esl57 rfl) rfl <| W.q (ne rfl rfl) rfl <| W.q (mv rfl) rfl <| W.sp (t := _) 68 rfl (fun g4 => ?_) (fun g4 => ?_)
        · -- True
          simp at g4
        · -- False
          refine W.qg rfl rfl g4 (mv rfl) rfl <| W.qg rfl rfl g4 (mv rfl) rfl <| W.qg rfl rfl g4 (mv rfl) rfl <| W.qg rfl rfl g4 (shi Try.esl46 rfl rfl (by omega) (by omega)) rfl <| W.fvgq rfl rfl g4 Try.ca28 rfl (fun w hm => ref01_EqualT (hm.slRd (.tail _ <| .tail _ <| .tail _ <| .tail _ <| .tail _ <| .tail _ <| .tail _ <| .tail _ <| .head _)) (by simp; omega) (hm.rd rfl (hl.takeB m)) rfl (by simp; omega) (by simp)) rfl <| W.qg rfl rfl g4 (nt rfl) rfl <| W.q (pkf rfl g4 rfl) rfl <| W.q (mv rfl) rfl <| W.qg rfl rfl rfl (mv rfl) rfl <| W.qg rfl rfl rfl (mv rfl) rfl <| W.qg rfl rfl rfl (mv rfl) rfl <| W.qg rfl rfl rfl (shi Try.esl46 rfl rfl (by omega) (by omega)) rfl <| W.fvgq rfl rfl rfl Try.ca28 rfl (fun w hm => ref01_EqualT (hm.slRd (.tail _ <| .head _)) (by simp; omega) (hm.rd rfl (hl.takeB m)) rfl (by simp; omega) (by simp)) rfl <| W.qg rfl rfl rfl (nt rfl) rfl <| W.q (pkf rfl rfl rfl) rfl <| W.q (mv rfl) rfl <| W.qg rfl rfl rfl (mv rfl) rfl <| W.qg rfl rfl rfl (ia Try.esl57 rfl rfl (by decide) (by simp)) rfl <| W.qg rfl rfl rfl (ld Try.sc46 rfl (hz _ 2 _ (.tail _ <| .tail _ <| .tail _ <| .head _) rfl)) rfl <| W.qg rfl rfl rfl (mv rfl) rfl <| W.qg rfl rfl rfl (mv rfl) rfl <| W.qg rfl rfl rfl (ml rfl rfl (by omega)) rfl <| W.qg rfl rfl rfl (mv rfl) rfl <| W.qg rfl rfl rfl (ml rfl rfl (by omega)) rfl <| W.qg rfl rfl rfl (slh Try.esl46 rfl rfl rfl (by omega) (by omega) (by omega)) rfl <| W.fvgq rfl rfl rfl Try.ca28 rfl (fun w hm => ref01_EqualT (hm.slRd (.tail _ <| .tail _ <| .tail _ <| .tail _ <| .tail _ <| .tail _ <| .head _)) (by simp; omega) (hm.rd rfl (hl.subB (2 * m) m cap hcap)) rfl (by simp; omega) rfl) rfl <| W.qg rfl rfl rfl (nt rfl) rfl <| W.q (pkf rfl rfl rfl) rfl <| W.q (mv rfl) rfl <| W.qg rfl rfl rfl (mv rfl) rfl <| W.qg rfl rfl rfl (mv rfl) rfl <| W.fvgq rfl rfl rfl Try.ca40 rfl (fun w hm => ref01_Kept (some ⟨bF, 0, none⟩) (spareB bs).length _ bs w (hm.slRd (.tail _ <| .tail _ <| .tail _ <| .tail _ <| .tail _ <| .tail _ <| .tail _ <| .tail _ <| .tail _ <| .tail _ <| .tail _ <| .tail _ <| .head _)) (spareB_len bs) hb a cap (hm.rd rfl hl)) rfl <| W.qg rfl rfl rfl (nt rfl) rfl <| W.q (pkf rfl rfl rfl) rfl <| W.nilq <| G.cdf rfl rfl <| G.skip <| G.seq <| G.regt 12 Try.mixed (by kernel_rfl) <| W.q (mv rfl) rfl <| W.q (mv rfl) rfl <| W.q (mv rfl) rfl <| W.q (ia Try.esl57 rfl rfl (by decide) (by simp)) rfl <| W.q (ld Try.sc46 rfl (hz _ 0 _ (.tail _ <| .tail _ <| .tail _ <| .head _) rfl)) rfl <| W.q (mv rfl) rfl <| W.q (ia Try.esl57 rfl rfl (by decide) (by simp)) rfl <| W.q (ld Try.sc46 rfl (hz _ 1 _ (.tail _ <| .tail _ <| .tail _ <| .head _) rfl)) rfl <| W.q (mv rfl) rfl <| W.q (ia Try.esl57 rfl rfl (by decide) (by simp)) rfl <| W.q (ld Try.sc46 rfl (hz _ 2 _ (.tail _ <| .tail _ <| .tail _ <| .head _) rfl)) rfl <| W.q (mv rfl) rfl <| W.nilt <| W.bs (cs := [_, _, _, _, _, _]) Try.underlying57 Try.sz46 Try.zrl46 rfl rfl rfl rfl fun b2 => W.ff Try.ca41 rfl (Ent.perm (.trans (.trans (.trans (.trans (.trans (.trans (.cons _ (.trans (.cons _ (.refl _)) (.swap _ _ _))) (.swap _ _ _)) (.trans (.cons _ (.trans (.cons _ (.trans (.cons _ (.trans (.cons _ (.trans (.cons _ (.trans (.cons _ (.trans (.cons _ (.refl _)) (.swap _ _ _))) (.swap _ _ _))) (.swap _ _ _))) (.swap _ _ _))) (.swap _ _ _))) (.swap _ _ _))) (.swap _ _ _))) (.trans (.cons _ (.trans (.cons _ (.trans (.cons _ (.trans (.cons _ (.trans (.cons _ (.trans (.cons _ (.trans (.cons _ (.refl _)) (.swap _ _ _))) (.swap _ _ _))) (.swap _ _ _))) (.swap _ _ _))) (.swap _ _ _))) (.swap _ _ _))) (.swap _ _ _))) (.trans (.cons _ (.trans (.cons _ (.trans (.cons _ (.trans (.cons _ (.trans (.cons _ (.trans (.cons _ (.trans (.cons _ (.refl _)) (.swap _ _ _))) (.swap _ _ _))) (.swap _ _ _))) (.swap _ _ _))) (.swap _ _ _))) (.swap _ _ _))) (.swap _ _ _))) (.trans (.cons _ (.trans (.cons _ (.trans (.cons _ (.trans (.cons _ (.trans (.cons _ (.trans (.cons _ (.trans (.cons _ (.trans (.cons _ (.trans (.cons _ (.refl _)) (.swap _ _ _))) (.swap _ _ _))) (.swap _ _ _))) (.swap _ _ _))) (.swap _ _ _))) (.swap _ _ _))) (.swap _ _ _))) (.swap _ _ _))) (.swap _ _ _))) (.trans (.cons _ (.trans (.cons _ (.trans (.cons _ (.trans (.cons _ (.trans (.cons _ (.trans (.cons _ (.trans (.cons _ (.trans (.cons _ (.trans (.cons _ (.trans (.cons _ (.trans (.cons _ (.trans (.cons _ (.trans (.cons _ (.refl _)) (.swap _ _ _))) (.swap _ _ _))) (.swap _ _ _))) (.swap _ _ _))) (.swap _ _ _))) (.swap _ _ _))) (.swap _ _ _))) (.swap _ _ _))) (.swap _ _ _))) (.swap _ _ _))) (.swap _ _ _))) (.swap _ _ _))) (.swap _ _ _)))) (ref01_Apart X.w0 _ (some ⟨b2, 0, none⟩) 6 [(some ⟨bF, 0, none⟩, (spareB bs).length, spareB bs), (a5, c5, bs.take m), (q1, r1, (bs.drop m).take m), (q2, r2, []), (q3, r3, (bs.drop (2 * m)).take m), (a7, c7, bs.take m)] (Rdf.row .hd) (by simp [spareB_len]; omega) (by simp)) rfl rfl fun v J hv hJ => ?_
          obtain ⟨rfl, rfl⟩ := hv
          refine W.q (sa rfl) rfl <| W.nil <| ret1 hX Try.results7 rfl fun w hm => done (H := []) rfl rfl (Dr.ent (Dr.new (allNew_append hJ rfl)) w hm)
end Go.Proofs.Ytnbofpojbpmdmaa
