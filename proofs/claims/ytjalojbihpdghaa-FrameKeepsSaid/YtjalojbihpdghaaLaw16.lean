/- SurbBlocks: the law's walk. -/
import Derived.Test.YtjalojbihpdghaaSurb1
namespace Go.Proofs.Ytjalojbihpdghaa
open Go Go.Eng
set_option linter.unusedVariables false

theorem byteAt_succ (N i : Nat) : byteAt N (i + 1) = byteAt (N / 256) i := by
  unfold byteAt; rw [Nat.pow_succ, Nat.mul_comm, Nat.div_div_eq_div_mul]
theorem leB_cons (n N : Nat) : leB (n + 1) N = byteAt N 0 :: leB n (N / 256) := by
  unfold leB
  rw [List.range_succ_eq_map, List.map_cons, List.map_map]
  congr 1
  apply List.map_congr_left
  intro i _
  exact byteAt_succ N i
theorem leB_beN : ∀ (n : Nat) (l : List UInt8), l.length = n → (leB n (beN l)).reverse = l
  | 0, l, h => by rw [List.eq_nil_of_length_eq_zero h]; rfl
  | n + 1, l, h => by
    obtain ⟨x, r, hr⟩ : ∃ x r, l.reverse = x :: r := by
      cases hl : l.reverse with
      | nil => rw [List.reverse_eq_nil_iff] at hl; subst hl; simp at h
      | cons x r => exact ⟨x, r, rfl⟩
    have hl : l = r.reverse ++ [x] := by have := congrArg List.reverse hr; simpa using this
    subst hl
    have hx := x.toNat_lt
    have h1 : byteAt (beN r.reverse * 256 + x.toNat) 0 = x := by
      apply UInt8.toNat_inj.1
      rw [byteAt, UInt8.toNat_ofNat']; omega
    have h2 : (beN r.reverse * 256 + x.toNat) / 256 = beN r.reverse := by omega
    rw [beN_snoc, leB_cons, h1, h2, List.reverse_cons, leB_beN n r.reverse (by simpa using h)]
theorem first_bytes (bs : List UInt8) (h : bs.length = 328) : (leB 8 (firstN bs).toNat).reverse = bs.take 8 := by
  have hl : (bs.take 8).length = 8 := by simp; omega
  have := beN_lt (bs.take 8)
  rw [hl] at this
  rw [firstN, UInt64.toNat_ofNat_of_lt' (Nat.lt_of_lt_of_le this (by decide))]
  exact leB_beN 8 _ hl
theorem get_first' (bs : List UInt8) (hl : bs.length = 328) : getR 2 bs 0 8 = (firstN bs, 0) := by
  rw [getR, if_neg (by simp [shapeR]), if_neg (by simp; omega)]
  simp [ordB, firstN]
def l16 : List UInt8 := (((((List.replicate 328 0).set 7 9).set 8 1).set 40 2).set 56 3).set 296 4
def h16 : List UInt8 := (l16.drop 8).take 288
def k16 : List UInt8 := (l16.drop 296).take 32
theorem l16_at : l16.length = 328 ∧ firstN l16 = 9 ∧ h16.length = 288 ∧ k16.length = 32 ∧ h16[0]? = some 1 ∧ h16[32]? = some 2 ∧ h16[48]? = some 3 ∧ k16[0]? = some 4 ∧ (leB 8 (9 : UInt64).toNat).reverse ++ (h16 ++ k16) = l16 := by decide +kernel
theorem surb_Parse16 (a : Option Addr) (len cap : Nat) (bs : List UInt8) (w : World) (hlen : len = bs.length) (hl : RdL w a (B bs)) (hb : bs.length ≤ 140737488351232) (hcap : bs.length ≤ cap) (r : List Value × Int) (hr : blkR bs = r) :
    Ret Try.prog 11 [.slice a len cap] w (fun v _ => v = .tuple #[.agg r.1.toArray, i64 r.2]) := by
  subst hr; exact surb_Parse a len cap bs w hlen hl hb hcap
theorem blkR_16 : blkR l16 = (blkC h16 9 k16, 0) := by
  obtain ⟨e1, e2, _⟩ := l16_at
  rw [blkR, if_pos e1, e2, if_neg (by decide)]; rfl
theorem blkC_head {h k : List UInt8} {n : UInt64} {i : Nat} {x : UInt8} (hx : h[i]? = some x) : (blkC h n k)[i]? = some (u8 x) := by
  rw [blkC, List.getElem?_append_left (by rw [Bl]; exact (List.getElem?_eq_some_iff.1 hx).1)]; exact B_get hx
theorem blkC_num {h k : List UInt8} {n : UInt64} (hh : h.length = 288) : (blkC h n k)[288]? = some (u64 n) := by
  rw [blkC, List.getElem?_append_right (by rw [Bl]; omega)]; simp [hh]
theorem blkC_key {h k : List UInt8} {n : UInt64} {i : Nat} {x : UInt8} (hh : h.length = 288) (hx : k[i]? = some x) : (blkC h n k)[289 + i]? = some (u8 x) := by
  have := at_app (pre := B h ++ [u64 n]) (ds := B k) (post := []) (o := 289) (by simp [hh]) i _ (B_get hx)
  simpa [blkC] using this
abbrev ksBlk : List SK := List.replicate 288 (.int .u8) ++ [.int .u64] ++ List.replicate 32 (.int .u8)
theorem KOk.blk {h k : List UInt8} {n : UInt64} (hh : h.length = 288) (hk : k.length = 32) : KOk ksBlk (blkC h n k) := by
  have := ((KOk.u8n hh).app (b := [.int .u64]) (y := [u64 n]) ⟨⟨_, rfl⟩, trivial⟩).app (KOk.u8n hk)
  rw [show blkC h n k = (B h ++ [u64 n]) ++ B k by rw [List.append_assoc]; rfl]; exact this
theorem blkR_len (bs : List UInt8) : (blkR bs).1.length = 321 := by
  unfold blkR; split
  · split
    · exact blkC_len List.length_replicate List.length_replicate
    · exact blkC_len (by simp; omega) (by simp; omega)
  · exact blkC_len List.length_replicate List.length_replicate
theorem blkR_one (bs : List UInt8) : (blkR bs).1.all (·.oneCell') = true := by
  unfold blkR; split
  · split <;> exact blkC_one _ _ _
  · exact blkC_one _ _ _


set_option maxRecDepth 100000 in
theorem law16_awake (w : World) :
    Ret Try.prog 10 [] w (fun v _ => v = .bool true) := by
  refine enter [] (Mem.nil _) Try.func10 rfl Try.ntmps10 rfl (fun X hX => ?_)
  have hw := hX.w0; subst hw
  refine G.seq <| G.reg <| W.q (sa rfl) rfl <| W.nil <| G.seq <| G.reg <| W.mkB (m := 328) Try.underlying22 Try.sz5 Try.zrl5 Try.by5 rfl rfl (by omega) (by omega) rfl fun b1 => W.q (sa rfl) rfl <| W.nil <| G.seq <| G.reg <| W.q (mv rfl) rfl <| W.q (mv rfl) rfl <| W.q (mv rfl) rfl <| W.q (mv rfl) rfl <| W.q (mv rfl) rfl <| W.q (ia Try.esl22 rfl rfl (by omega) (by omega)) rfl <| W.st (cs' := B ((List.replicate 328 0).set 7 9)) Try.sz5 rfl rfl rfl rfl rfl .hd (by simp) (setAt_B (List.replicate 328 0) 7 9 (by simp)) <| W.q (ia Try.esl22 rfl rfl (by omega) (by omega)) rfl <| W.st (cs' := B (((List.replicate 328 0).set 7 9).set 8 1)) Try.sz5 rfl rfl rfl rfl rfl .hd (by simp) (setAt_B ((List.replicate 328 0).set 7 9) 8 1 (by simp)) <| W.q (ia Try.esl22 rfl rfl (by omega) (by omega)) rfl <| W.st (cs' := B ((((List.replicate 328 0).set 7 9).set 8 1).set 40 2)) Try.sz5 rfl rfl rfl rfl rfl .hd (by simp) (setAt_B (((List.replicate 328 0).set 7 9).set 8 1) 40 2 (by simp)) <| W.q (ia Try.esl22 rfl rfl (by omega) (by omega)) rfl <| W.st (cs' := B (((((List.replicate 328 0).set 7 9).set 8 1).set 40 2).set 56 3)) Try.sz5 rfl rfl rfl rfl rfl .hd (by simp) (setAt_B ((((List.replicate 328 0).set 7 9).set 8 1).set 40 2) 56 3 (by simp)) <| W.q (ia Try.esl22 rfl rfl (by omega) (by omega)) rfl <| W.st (cs' := B ((((((List.replicate 328 0).set 7 9).set 8 1).set 40 2).set 56 3).set 296 4)) Try.sz5 rfl rfl rfl rfl rfl .hd (by simp) (setAt_B (((((List.replicate 328 0).set 7 9).set 8 1).set 40 2).set 56 3) 296 4 (by simp)) <| W.nil <| G.seq <| ?_
  have hR := blkR_16
  obtain ⟨e1, e2, eh, ek, e3, e4, e5, e6, e7⟩ := l16_at
  have hl16 : (((((List.replicate 328 0).set 7 9).set 8 1).set 40 2).set 56 3).set 296 4 = l16 := rfl
  rw [hl16]
  generalize l16 = l at *
  generalize h16 = h at *
  generalize k16 = k at *
  have c0 := blkC_num (k := k) (n := 9) eh
  have c1 := blkC_head (n := 9) (k := k) e3
  have c2 := blkC_head (n := 9) (k := k) e4
  have c3 := blkC_head (n := 9) (k := k) e5
  have c4 := blkC_key (n := 9) eh e6
  have cl := blkC_len (n := 9) eh ek
  refine G.reg <| W.q (mv rfl) rfl <| W.fv Try.ca11 rfl (fun w hm => surb_Parse16 (some ⟨b1, 0, none⟩) _ 328 l w e1.symm (hm.rowRd .hd) (by omega) (by omega) _ hR) rfl <| W.q (mv rfl) rfl <| W.q (ex rfl rfl) rfl <| W.q (ex rfl rfl) rfl <| W.al Try.zrl31 rfl fun b2 => W.sta Try.sz31 rfl rfl cl (blkC_one _ _ _) .hd (by simp) <| W.q (sa rfl) rfl <| W.nil <| G.seq <| G.reg <| W.q (mv rfl) rfl <| W.q (eq rfl rfl) rfl <| W.q (mv rfl) rfl <| W.sp (t := _) 22 rfl (fun g1 => ?_) (fun g1 => ?_)
  · -- True
    refine W.qg rfl rfl g1 (fa Try.fof31_1 rfl) rfl <| W.qg rfl rfl g1 (ld Try.sc29 rfl (Cell.at .hd c0)) rfl <| W.qg rfl rfl g1 (eq rfl rfl) rfl <| W.q (pkt rfl g1 rfl) rfl <| W.q (mv rfl) rfl <| W.sp (t := _) 27 rfl (fun g2 => ?_) (fun g2 => ?_)
    · -- True
      refine W.qg rfl rfl g2 (fa Try.fof31_0 rfl) rfl <| W.qg rfl rfl g2 (fa Try.fof28_0 rfl) rfl <| W.qg rfl rfl g2 (iaa Try.ear24 rfl rfl (by omega) (by omega)) rfl <| W.qg rfl rfl g2 (ld Try.sc5 rfl (Cell.at .hd c1)) rfl <| W.qg rfl rfl g2 (eq rfl rfl) rfl <| W.q (pkt rfl g2 rfl) rfl <| W.q (mv rfl) rfl <| W.sp (t := _) 34 rfl (fun g3 => ?_) (fun g3 => ?_)
      · -- True
        refine W.qg rfl rfl g3 (fa Try.fof31_0 rfl) rfl <| W.qg rfl rfl g3 (fa Try.fof28_1 rfl) rfl <| W.qg rfl rfl g3 (iaa Try.ear25 rfl rfl (by omega) (by omega)) rfl <| W.qg rfl rfl g3 (ld Try.sc5 rfl (Cell.at .hd c2)) rfl <| W.qg rfl rfl g3 (eq rfl rfl) rfl <| W.q (pkt rfl g3 rfl) rfl <| W.q (mv rfl) rfl <| W.sp (t := _) 41 rfl (fun g4 => ?_) (fun g4 => ?_)
        · -- True
          refine W.qg rfl rfl g4 (fa Try.fof31_0 rfl) rfl <| W.qg rfl rfl g4 (fa Try.fof28_2 rfl) rfl <| W.qg rfl rfl g4 (iaa Try.ear26 rfl rfl (by omega) (by omega)) rfl <| W.qg rfl rfl g4 (ld Try.sc5 rfl (Cell.at .hd c3)) rfl <| W.qg rfl rfl g4 (eq rfl rfl) rfl <| W.q (pkt rfl g4 rfl) rfl <| W.q (mv rfl) rfl <| W.sp (t := _) 48 rfl (fun g5 => ?_) (fun g5 => ?_)
          · -- True
            refine W.qg rfl rfl g5 (fa Try.fof31_2 rfl) rfl <| W.qg rfl rfl g5 (iaa Try.ear24 rfl rfl (by omega) (by omega)) rfl <| W.qg rfl rfl g5 (ld Try.sc5 rfl (Cell.at .hd c4)) rfl <| W.qg rfl rfl g5 (eq rfl rfl) rfl <| W.q (pkt rfl g5 rfl) rfl <| W.q (mv rfl) rfl <| W.sp (t := _) 54 rfl (fun g6 => ?_) (fun g6 => ?_)
            · -- True
              refine W.qg rfl rfl g6 (lda Try.agg31 Try.sz31 rfl (Cells.whole .hd) cl) rfl <| W.fng rfl rfl g6 Try.ca38 rfl (fun w hm => surb_Bytes h k 9 w eh ek) rfl fun v J hv hJ => ?_
              rw [e7] at hv
              obtain ⟨a1, c1, rfl, rfl⟩ := hv
              refine W.qg rfl rfl g6 (mv rfl) rfl <| W.fvg rfl rfl g6 Try.ca15 rfl (fun w hm => ref01_EqualT (hm.slRd (.head _)) (by omega) (hm.rowRd (.tl <| .tl <| .hd)) rfl e1.symm rfl) rfl <| W.q (pkt rfl g6 rfl) rfl <| W.q (sa rfl) rfl <| W.nil <| ret1 hX Try.results10 rfl fun w hm => done (H := []) rfl rfl (Dr.ent (Dr.new rfl) w hm)
            · -- False
              simp at g6
          · -- False
            simp at g5
        · -- False
          simp at g4
      · -- False
        simp at g3
    · -- False
      simp at g2
  · -- False
    simp at g1


end Go.Proofs.Ytjalojbihpdghaa
