/- SurbBlocks: the law's walk. -/
import Derived.Test.YtnbofpojbpmdmaaSurb1
namespace Go.Proofs.Ytnbofpojbpmdmaa
open Go Go.Eng
set_option linter.unusedVariables false

theorem byteAt_succ (N i : Nat) : byteAt N (i + 1) = byteAt (N / 256) i := by
  unfold byteAt; rw [Nat.pow_succ, Nat.mul_comm, Nat.div_div_eq_div_mul]
theorem leB_cons (n N : Nat) : leB (n + 1) N = byteAt N 0 :: leB n (N / 256) := by
  unfold leB
  rw [List.range_succ_eq_map, List.map_cons, List.map_map]
  congr 1
  apply List.map_congr_left
  intro i _
  exact byteAt_succ N i
theorem leB_beN : ∀ (n : Nat) (l : List UInt8), l.length = n → (leB n (beN l)).reverse = l
  | 0, l, h => by rw [List.eq_nil_of_length_eq_zero h]; rfl
  | n + 1, l, h => by
    obtain ⟨x, r, hr⟩ : ∃ x r, l.reverse = x :: r := by
      cases hl : l.reverse with
      | nil => rw [List.reverse_eq_nil_iff] at hl; subst hl; simp at h
      | cons x r => exact ⟨x, r, rfl⟩
    have hl : l = r.reverse ++ [x] := by have := congrArg List.reverse hr; simpa using this
    subst hl
    have hx := x.toNat_lt
    have h1 : byteAt (beN r.reverse * 256 + x.toNat) 0 = x := by
      apply UInt8.toNat_inj.1
      rw [byteAt, UInt8.toNat_ofNat']; omega
    have h2 : (beN r.reverse * 256 + x.toNat) / 256 = beN r.reverse := by omega
    rw [beN_snoc, leB_cons, h1, h2, List.reverse_cons, leB_beN n r.reverse (by simpa using h)]
theorem first_bytes (bs : List UInt8) (h : bs.length = 328) : (leB 8 (firstN bs).toNat).reverse = bs.take 8 := by
  have hl : (bs.take 8).length = 8 := by simp; omega
  have := beN_lt (bs.take 8)
  rw [hl] at this
  rw [firstN, UInt64.toNat_ofNat_of_lt' (Nat.lt_of_lt_of_le this (by decide))]
  exact leB_beN 8 _ hl
theorem get_first' (bs : List UInt8) (hl : bs.length = 328) : getR 2 bs 0 8 = (firstN bs, 0) := by
  rw [getR, if_neg (by simp [shapeR]), if_neg (by simp; omega)]
  simp [ordB, firstN]
def l16 : List UInt8 := (((((List.replicate 328 0).set 7 9).set 8 1).set 40 2).set 56 3).set 296 4
def h16 : List UInt8 := (l16.drop 8).take 288
def k16 : List UInt8 := (l16.drop 296).take 32
theorem l16_at : l16.length = 328 ∧ firstN l16 = 9 ∧ h16.length = 288 ∧ k16.length = 32 ∧ h16[0]? = some 1 ∧ h16[32]? = some 2 ∧ h16[48]? = some 3 ∧ k16[0]? = some 4 ∧ (leB 8 (9 : UInt64).toNat).reverse ++ (h16 ++ k16) = l16 := by decide +kernel
theorem surb_Parse16 (a : Option Addr) (len cap : Nat) (bs : List UInt8) (w : World) (hlen : len = bs.length) (hl : RdL w a (B bs)) (hb : bs.length ≤ 140737488351232) (hcap : bs.length ≤ cap) (r : List Value × Int) (hr : blkR bs = r) :
    Ret Try.prog 43 [.slice a len cap] w (fun v _ => v = .tuple #[.agg r.1.toArray, i64 r.2]) := by
  subst hr; exact surb_Parse a len cap bs w hlen hl hb hcap
theorem blkR_16 : blkR l16 = (blkC h16 9 k16, 0) := by
  obtain ⟨e1, e2, _⟩ := l16_at
  rw [blkR, if_pos e1, e2, if_neg (by decide)]; rfl
theorem blkC_head {h k : List UInt8} {n : UInt64} {i : Nat} {x : UInt8} (hx : h[i]? = some x) : (blkC h n k)[i]? = some (u8 x) := by
  rw [blkC, List.getElem?_append_left (by rw [Bl]; exact (List.getElem?_eq_some_iff.1 hx).1)]; exact B_get hx
theorem blkC_num {h k : List UInt8} {n : UInt64} (hh : h.length = 288) : (blkC h n k)[288]? = some (u64 n) := by
  rw [blkC, List.getElem?_append_right (by rw [Bl]; omega)]; simp [hh]
theorem blkC_key {h k : List UInt8} {n : UInt64} {i : Nat} {x : UInt8} (hh : h.length = 288) (hx : k[i]? = some x) : (blkC h n k)[289 + i]? = some (u8 x) := by
  have := at_app (pre := B h ++ [u64 n]) (ds := B k) (post := []) (o := 289) (by simp [hh]) i _ (B_get hx)
  simpa [blkC] using this
abbrev ksBlk : List SK := List.replicate 288 (.int .u8) ++ [.int .u64] ++ List.replicate 32 (.int .u8)
theorem KOk.blk {h k : List UInt8} {n : UInt64} (hh : h.length = 288) (hk : k.length = 32) : KOk ksBlk (blkC h n k) := by
  have := ((KOk.u8n hh).app (b := [.int .u64]) (y := [u64 n]) ⟨⟨_, rfl⟩, trivial⟩).app (KOk.u8n hk)
  rw [show blkC h n k = (B h ++ [u64 n]) ++ B k by rw [List.append_assoc]; rfl]; exact this
theorem blkR_len (bs : List UInt8) : (blkR bs).1.length = 321 := by
  unfold blkR; split
  · split
    · exact blkC_len List.length_replicate List.length_replicate
    · exact blkC_len (by simp; omega) (by simp; omega)
  · exact blkC_len List.length_replicate List.length_replicate
theorem blkR_one (bs : List UInt8) : (blkR bs).1.all (·.oneCell') = true := by
  unfold blkR; split
  · split <;> exact blkC_one _ _ _
  · exact blkC_one _ _ _


set_option maxRecDepth 100000 in
theorem law16_awake (w : World) :
    Ret Try.prog 42 [] w (fun v _ => v = .bool true) := by
  refine enter [] (Mem.nil _) Try.func42 rfl Try.ntmps42 rfl (fun X hX => ?_)
  have hw := hX.w0; subst hw
  refine G.seq <| G.reg <| W.q (sa rfl) rfl <| W.nil <| G.seq <| G.reg <| W.mkB (m := 328) Try.underlying46 Try.sz5 Try.zrl5 Try.by5 rfl rfl (by omega) (by omega) rfl fun b1 => W.q (sa rfl) rfl <| W.nil <| G.seq <| G.reg <| W.q (mv rfl) rfl <| W.q (mv rfl) rfl <| W.q (mv rfl) rfl <| W.q (mv rfl) rfl <| W.q (mv rfl) rfl <| W.q (ia Try.esl46 rfl rfl (by omega) (by omega)) rfl <| W.st (cs' := B ((List.replicate 328 0).set 7 9)) Try.sz5 rfl rfl rfl rfl rfl .hd (by simp) (setAt_B (List.replicate 328 0) 7 9 (by simp)) <| W.q (ia Try.esl46 rfl rfl (by omega) (by omega)) rfl <| W.st (cs' := B (((List.replicate 328 0).set 7 9).set 8 1)) Try.sz5 rfl rfl rfl rfl rfl .hd (by simp) (setAt_B ((List.replicate 328 0).set 7 9) 8 1 (by simp)) <| W.q (ia Try.esl46 rfl rfl (by omega) (by omega)) rfl <| W.st (cs' := B ((((List.replicate 328 0).set 7 9).set 8 1).set 40 2)) Try.sz5 rfl rfl rfl rfl rfl .hd (by simp) (setAt_B (((List.replicate 328 0).set 7 9).set 8 1) 40 2 (by simp)) <| W.q (ia Try.esl46 rfl rfl (by omega) (by omega)) rfl <| W.st (cs' := B (((((List.replicate 328 0).set 7 9).set 8 1).set 40 2).set 56 3)) Try.sz5 rfl rfl rfl rfl rfl .hd (by simp) (setAt_B ((((List.replicate 328 0).set 7 9).set 8 1).set 40 2) 56 3 (by simp)) <| W.q (ia Try.esl46 rfl rfl (by omega) (by omega)) rfl <| W.st (cs' := B ((((((List.replicate 328 0).set 7 9).set 8 1).set 40 2).set 56 3).set 296 4)) Try.sz5 rfl rfl rfl rfl rfl .hd (by simp) (setAt_B (((((List.replicate 328 0).set 7 9).set 8 1).set 40 2).set 56 3) 296 4 (by simp)) <| W.nil <| G.seq <| ?_
  have hR := blkR_16
  obtain ⟨e1, e2, eh, ek, e3, e4, e5, e6, e7⟩ := l16_at
  have hl16 : (((((List.replicate 328 0).set 7 9).set 8 1).set 40 2).set 56 3).set 296 4 = l16 := rfl
  rw [hl16]
  generalize l16 = l at *
  generalize h16 = h at *
  generalize k16 = k at *
  have c0 := blkC_num (k := k) (n := 9) eh
  have c1 := blkC_head (n := 9) (k := k) e3
  have c2 := blkC_head (n := 9) (k := k) e4
  have c3 := blkC_head (n := 9) (k := k) e5
  have c4 := blkC_key (n := 9) eh e6
  have cl := blkC_len (n := 9) eh ek
  refine G.reg <| W.q (mv rfl) rfl <| W.fv Try.ca43 rfl (fun w hm => surb_Parse16 (some ⟨b1, 0, none⟩) _ 328 l w e1.symm (hm.rowRd .hd) (by omega) (by omega) _ hR) rfl <| W.q (mv rfl) rfl <| W.q (ex rfl rfl) rfl <| W.q (ex rfl rfl) rfl <| W.al Try.zrl96 rfl fun b2 => W.sta Try.sz96 rfl rfl cl (blkC_one _ _ _) .hd (by simp) <| W.q (sa rfl) rfl <| W.nil <| G.seq <| G.reg <| W.q (mv rfl) rfl <| W.q (eq rfl rfl) rfl <| W.q (mv rfl) rfl <| W.sp (t := _) 22 rfl (fun g1 => ?_) (fun g1 => ?_)
  · -- True
    refine W.qg rfl rfl g1 (fa Try.fof96_1 rfl) rfl <| W.qg rfl rfl g1 (ld Try.sc30 rfl (Cell.at .hd c0)) rfl <| W.qg rfl rfl g1 (eq rfl rfl) rfl <| W.q (pkt rfl g1 rfl) rfl <| W.q (mv rfl) rfl <| W.sp (t := _) 27 rfl (fun g2 => ?_) (fun g2 => ?_)
    · -- True
      refine W.qg rfl rfl g2 (fa Try.fof96_0 rfl) rfl <| W.qg rfl rfl g2 (fa Try.fof94_0 rfl) rfl <| W.qg rfl rfl g2 (iaa Try.ear90 rfl rfl (by omega) (by omega)) rfl <| W.qg rfl rfl g2 (ld Try.sc5 rfl (Cell.at .hd c1)) rfl <| W.qg rfl rfl g2 (eq rfl rfl) rfl <| W.q (pkt rfl g2 rfl) rfl <| W.q (mv rfl) rfl <| W.sp (t := _) 34 rfl (fun g3 => ?_) (fun g3 => ?_)
      · -- True
        refine W.qg rfl rfl g3 (fa Try.fof96_0 rfl) rfl <| W.qg rfl rfl g3 (fa Try.fof94_1 rfl) rfl <| W.qg rfl rfl g3 (iaa Try.ear91 rfl rfl (by omega) (by omega)) rfl <| W.qg rfl rfl g3 (ld Try.sc5 rfl (Cell.at .hd c2)) rfl <| W.qg rfl rfl g3 (eq rfl rfl) rfl <| W.q (pkt rfl g3 rfl) rfl <| W.q (mv rfl) rfl <| W.sp (t := _) 41 rfl (fun g4 => ?_) (fun g4 => ?_)
        · -- True
          refine W.qg rfl rfl g4 (fa Try.fof96_0 rfl) rfl <| W.qg rfl rfl g4 (fa Try.fof94_2 rfl) rfl <| W.qg rfl rfl g4 (iaa Try.ear92 rfl rfl (by omega) (by omega)) rfl <| W.qg rfl rfl g4 (ld Try.sc5 rfl (Cell.at .hd c3)) rfl <| W.qg rfl rfl g4 (eq rfl rfl) rfl <| W.q (pkt rfl g4 rfl) rfl <| W.q (mv rfl) rfl <| W.sp (t := _) 48 rfl (fun g5 => ?_) (fun g5 => ?_)
          · -- True
            refine W.qg rfl rfl g5 (fa Try.fof96_2 rfl) rfl <| W.qg rfl rfl g5 (iaa Try.ear90 rfl rfl (by omega) (by omega)) rfl <| W.qg rfl rfl g5 (ld Try.sc5 rfl (Cell.at .hd c4)) rfl <| W.qg rfl rfl g5 (eq rfl rfl) rfl <| W.q (pkt rfl g5 rfl) rfl <| W.q (mv rfl) rfl <| W.sp (t := _) 54 rfl (fun g6 => ?_) (fun g6 => ?_)
            · -- True
              refine W.qg rfl rfl g6 (lda Try.agg96 Try.sz96 rfl (Cells.whole .hd) cl) rfl <| W.fng rfl rfl g6 Try.ca45 rfl (fun w hm => surb_Bytes h k 9 w eh ek) rfl fun v J hv hJ => ?_
              rw [e7] at hv
              obtain ⟨a1, c1, rfl, rfl⟩ := hv
              refine W.qg rfl rfl g6 (mv rfl) rfl <| W.fvg rfl rfl g6 Try.ca28 rfl (fun w hm => ref01_EqualT (hm.slRd (.head _)) (by omega) (hm.rowRd (.tl <| .tl <| .hd)) rfl e1.symm rfl) rfl <| W.q (pkt rfl g6 rfl) rfl <| W.q (sa rfl) rfl <| W.nil <| ret1 hX Try.results42 rfl fun w hm => done (H := []) rfl rfl (Dr.ent (Dr.new rfl) w hm)
            · -- False
              simp at g6
          · -- False
            simp at g5
        · -- False
          simp at g4
      · -- False
        simp at g3
    · -- False
      simp at g2
  · -- False
    simp at g1


set_option maxRecDepth 100000 in
theorem law_SurbBlocks (a : Option Addr) (len cap : Nat) (bs : List UInt8) (w : World) (hlen : len = bs.length) (hl : RdL w a (B bs)) (hb : bs.length ≤ 140737488351232) (hcap : bs.length ≤ cap) :
    Ret Try.prog 8 [.slice a len cap] w (fun v _ => v = .bool true) := by
  subst hlen
  refine enter [] (Mem.nil _) Try.func8 rfl Try.ntmps8 rfl (fun X hX => ?_)
  have hw := hX.w0; subst hw
  refine G.seq <| G.reg <| W.q (sa rfl) rfl <| W.nil <| G.seq <| G.seq <| G.reg <| W.fv Try.ca42 rfl (fun w hm => law16_awake w) rfl <| W.q (nt rfl) rfl <| W.nil <| G.cdf rfl rfl <| G.skip <| G.seq <| G.reg <| W.q (mv rfl) rfl <| W.fn Try.ca23 rfl (fun w hm => ref01_Copy a cap bs w (hm.rd rfl hl) hb) rfl fun v J hv hJ => ?_
  obtain ⟨a1, c1, rfl, rfl⟩ := hv
  refine W.slAt (a := a1) (m := _) (cap := c1) (E := 5) (s := 1) (xs := _) (.head _) (fun q1 q2 q3 q4 => ?_)
  refine W.fv Try.ca43 rfl (fun w hm => surb_Parse a1 _ c1 bs w rfl (hm.slRd (.head _)) hb q2) rfl <| W.q (mv rfl) rfl <| W.q (ex rfl rfl) rfl <| W.q (ex rfl rfl) rfl <| W.al Try.zrl96 rfl fun b1 => W.sta Try.sz96 rfl rfl (blkR_len bs) (blkR_one bs) .hd rfl <| W.q (sa rfl) rfl <| W.nil <| G.seq <| G.seq <| G.reg <| W.q (mv rfl) rfl <| W.q (ln Try.esl46 rfl) rfl <| W.q (ne rfl rfl) rfl <| W.nil <| G.cdd rfl (fun h1 => ?_) (fun h1 => ?_)
  · -- h1 True
    have h328 : bs.length ≠ 328 := by omega
    have e : blkR bs = (blk0, 2) := by rw [blkR, if_neg h328]
    rw [e]
    refine G.seq <| G.reg <| W.q (mv rfl) rfl <| W.q (eq rfl rfl) rfl <| W.q (mv rfl) rfl <| W.sp (t := _) 20 rfl (fun g2 => ?_) (fun g2 => ?_)
    · -- True
      refine W.qg rfl rfl g2 (lda Try.agg96 Try.sz96 rfl (Cells.whole .hd) (blkC_len (by simp) (by simp))) rfl <| W.qg rfl rfl g2 (bld Try.stp96 rfl rfl) rfl <| W.qg rfl rfl g2 (eqa Try.ks96 Try.agg96 Try.eg96 rfl rfl (KOk.blk (by simp) (by simp)) (by rw [← blk0_eq]; exact KOk.blk (by simp) (by simp))) rfl <| W.q (pkt rfl g2 rfl) rfl <| W.q (sa rfl) rfl <| W.nil <| ret1 hX Try.results8 rfl fun w hm => done (H := []) rfl ?_ (Dr.ent (Dr.new rfl) w hm)
      exact ret_true blk0_eq
    · -- False
      simp at g2
  · -- h1 False
    have h328 : bs.length = 328 := by omega
    refine G.skip <| G.seq <| G.reg <| W.q (mv rfl) rfl <| W.fv Try.ca44 rfl (fun w hm => by have := ref01_Get 2 a bs.length cap bs w rfl (hm.rd rfl hl) hb 0 8; rw [get_first' bs h328] at this; exact this) rfl <| W.q (mv rfl) rfl <| W.q (ex rfl rfl) rfl <| W.q (ex rfl rfl) rfl <| W.q (sa rfl) rfl <| W.q (sa rfl) rfl <| W.nil <| G.seq <| G.seq <| G.reg <| W.q (mv rfl) rfl <| W.q (eq rfl rfl) rfl <| W.nil <| G.cdd rfl (fun h3 => ?_) (fun h3 => ?_)
    · -- h3 True
      have hf : firstN bs = 0 := UInt64.toNat_inj.1 (by simpa using h3)
      have e : blkR bs = (blk0, 3) := by rw [blkR, if_pos h328, if_pos hf]
      rw [e]
      refine G.seq <| G.reg <| W.q (mv rfl) rfl <| W.q (eq rfl rfl) rfl <| W.q (mv rfl) rfl <| W.sp (t := _) 34 rfl (fun g4 => ?_) (fun g4 => ?_)
      · -- True
        refine W.qg rfl rfl g4 (lda Try.agg96 Try.sz96 rfl (Cells.whole .hd) (blkC_len (by simp) (by simp))) rfl <| W.qg rfl rfl g4 (bld Try.stp96 rfl rfl) rfl <| W.qg rfl rfl g4 (eqa Try.ks96 Try.agg96 Try.eg96 rfl rfl (KOk.blk (by simp) (by simp)) (by rw [← blk0_eq]; exact KOk.blk (by simp) (by simp))) rfl <| W.q (pkt rfl g4 rfl) rfl <| W.q (sa rfl) rfl <| W.nil <| ret1 hX Try.results8 rfl fun w hm => done (H := []) rfl ?_ (Dr.ent (Dr.new rfl) w hm)
        exact ret_true blk0_eq
      · -- False
        simp at g4
    · -- h3 False
      have hf : firstN bs ≠ 0 := fun h => h3 (by rw [h]; rfl)
      have e : blkR bs = (blkC ((bs.drop 8).take 288) (firstN bs) ((bs.drop 296).take 32), 0) := by rw [blkR, if_pos h328, if_neg hf]
      rw [e]
      have hh : ((bs.drop 8).take 288).length = 288 := by simp; omega
      have hk : ((bs.drop 296).take 32).length = 32 := by simp; omega
      have hall : (leB 8 (firstN bs).toNat).reverse ++ ((bs.drop 8).take 288 ++ (bs.drop 296).take 32) = bs := by rw [first_bytes bs h328]; exact split328 bs h328
      have cl := blkC_len (n := firstN bs) hh hk
      have hcH : ∀ i v, (B ((bs.drop 8).take 288))[i]? = some v → (blkC ((bs.drop 8).take 288) (firstN bs) ((bs.drop 296).take 32))[0 + i]? = some v := at_app (pre := []) rfl
      refine G.skip <| G.seq <| G.rega 23 rfl Try.mixed <| A.q 0 rfl (by kernel_rfl) (fun _ => (mv rfl)) rfl <| A.q 1 rfl (by kernel_rfl) (fun _ => (eq rfl rfl)) rfl <| A.q 2 rfl (by kernel_rfl) (fun _ => (mv rfl)) rfl <| A.sp (t := _) 41 rfl (fun g5 => ?_) (fun g5 => ?_)
      · -- True
        refine A.qg 3 rfl (by kernel_rfl) rfl rfl g5 (fun _ => (fa Try.fof96_1 rfl)) rfl <| A.qg 5 rfl (by kernel_rfl) rfl rfl g5 (fun _ => (mv rfl)) rfl <| A.heldg 4 [] rfl (by kernel_rfl) rfl rfl g5 (ld Try.sc30 rfl (Cell.at .hd (blkC_num hh))) rfl <| A.qg 6 rfl (by kernel_rfl) rfl rfl g5 (fun _ => (eq rfl rfl)) rfl <| A.q 7 rfl (by kernel_rfl) (fun _ => (pkt rfl g5 rfl)) rfl <| A.q 8 rfl (by kernel_rfl) (fun _ => (mv rfl)) rfl <| A.sp (t := _) 47 rfl (fun g6 => ?_) (fun g6 => ?_)
        · -- True
          refine A.qg 11 rfl (by kernel_rfl) rfl rfl g6 (fun _ => (mv rfl)) rfl <| A.heldg 9 [] rfl (by kernel_rfl) rfl rfl g6 (lda Try.agg96 Try.sz96 rfl (Cells.whole .hd) cl) rfl <| A.one 10 rfl (by kernel_rfl) <| W.fng rfl rfl g6 Try.ca45 rfl (fun w hm => surb_Bytes _ _ _ w hh hk) rfl fun v J hv hJ => ?_
          rw [hall] at hv
          obtain ⟨a2, c2, rfl, rfl⟩ := hv
          refine A.back <| A.one 12 rfl (by kernel_rfl) <| W.fvg rfl rfl g6 Try.ca28 rfl (fun w hm => ref01_EqualT (hm.slRd (.head _)) hb (hm.rd rfl hl) rfl rfl rfl) rfl <| A.back <| A.q 13 rfl (by kernel_rfl) (fun _ => (pkt rfl g6 rfl)) rfl <| A.q 14 rfl (by kernel_rfl) (fun _ => (mv rfl)) rfl <| A.qg 15 rfl (by kernel_rfl) rfl rfl rfl (fun _ => (fa Try.fof96_0 rfl)) rfl <| A.qg 18 rfl (by kernel_rfl) rfl rfl rfl (fun _ => (mv rfl)) rfl <| A.qg 19 rfl (by kernel_rfl) rfl rfl rfl (fun _ => (slh Try.esl46 rfl rfl rfl (by omega) (by omega) (by omega))) rfl <| A.heldg 16 [] rfl (by kernel_rfl) rfl rfl rfl (lda Try.agg94 Try.sz94 rfl (Cells.part (.tl <| .hd) hcH) (by rw [Bl]; exact hh)) rfl <| A.one 17 rfl (by kernel_rfl) <| W.fng rfl rfl rfl Try.ca46 rfl (fun w hm => header_Bytes _ w hh) rfl fun v J hv hJ => ?_
          obtain ⟨a3, c3, rfl, rfl⟩ := hv
          refine A.back <| A.one 20 rfl (by kernel_rfl) <| W.fvg rfl rfl rfl Try.ca28 rfl (fun w hm => ref01_EqualT (hm.slRd (.head _)) (by omega) (hm.rd rfl (hl.subB 8 288 cap hcap)) rfl (by simp; omega) rfl) rfl <| A.back <| A.q 21 rfl (by kernel_rfl) (fun _ => (pkt rfl rfl rfl)) rfl <| A.q 22 rfl (by kernel_rfl) (fun _ => (sa rfl)) rfl <| A.nil (by kernel_rfl) <| ret1 hX Try.results8 rfl fun w hm => done (H := []) rfl ?_ (Dr.ent (Dr.new rfl) w hm)
          rfl
        · -- False
          simp at g6
      · -- False
        simp at g5
end Go.Proofs.Ytnbofpojbpmdmaa
