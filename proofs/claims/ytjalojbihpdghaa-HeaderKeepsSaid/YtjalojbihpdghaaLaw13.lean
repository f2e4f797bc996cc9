/- HeaderParses: the law's walk. -/
import Derived.Test.YtjalojbihpdghaaHdr4
namespace Go.Proofs.Ytjalojbihpdghaa
open Go Go.Eng
set_option linter.unusedVariables false

theorem layR_f {slot s h tail : List UInt8} (h0 : s.length = 192) (h1 : slot.length = 32) (h2 : h.length = 288) (h3 : tail.length ≤ 240) :
    hA (layR slot s h tail) = sA s ∧ hT (layR slot s h tail) = tagR s (sA s) (betaR slot s h tail) ∧ hB (layR slot s h tail) = betaR slot s h tail := by
  have hs : (sA s).length = 32 := by simp; omega
  have hb := betaR_len (s := s) h1 h2 h3
  have ht : (tagR s (sA s) (betaR slot s h tail)).length = 16 := by simp [tagR, hmac_len]
  refine ⟨?_, ?_, ?_⟩
  · rw [hA, layR, List.drop_zero, List.take_left' hs]
  · rw [hT, layR, List.drop_left' hs, List.take_left' ht]
  · rw [hB, layR, ← List.append_assoc, List.drop_left' (by rw [List.length_append, hs, ht]), List.take_of_length_le (by omega)]
theorem layR_fits {slot s h tail : List UInt8} (h0 : s.length = 192) (h1 : slot.length = 32) (h2 : h.length = 288) (h3 : tail.length ≤ 240) : fitsR (layR slot s h tail) s := by
  obtain ⟨e1, e2, e3⟩ := layR_f h0 h1 h2 h3
  rw [fitsR, e1, e2, e3]
theorem xor_xor (x y : List UInt8) (h : x.length = y.length) : xorB (xorB x y) y = x := by
  refine List.ext_getElem (by simp [xorB, h]) fun i h1 h2 => ?_
  simp only [xorB, List.getElem_zipWith]
  rw [UInt8.xor_assoc, UInt8.xor_self, UInt8.xor_zero]
theorem strm_take (k : List UInt8) (a n m : Nat) (h : m ≤ n) : (strm k a n).take m = strm k a m := by
  rw [strm, strm, ← List.map_take, List.take_range, Nat.min_eq_left h]
theorem layR_plain {slot s h tail : List UInt8} (h0 : s.length = 192) (h1 : slot.length = 32) (h2 : h.length = 288) (h3 : tail.length ≤ 192) : (plainR (layR slot s h tail) s).take 32 = slot := by
  obtain ⟨e1, e2, e3⟩ := layR_f h0 h1 h2 (show tail.length ≤ 240 by omega)
  have hb := betaR_len (s := s) h1 h2 (show tail.length ≤ 240 by omega)
  have hn : (betaR slot s h tail ++ List.replicate 48 0).length = 288 := by rw [List.length_append, List.length_replicate, hb]
  have hP : (slot ++ (hT h ++ hB h)).length = 288 := by simp; omega
  have hx : (betaR slot s h tail ++ List.replicate 48 0).take 32 = xorB slot (strm (sS s) 0 32) := by
    rw [betaR, List.append_assoc, List.take_append_of_le_length (by rw [xorB_len _ _ (strm_len _ _ _), List.length_take, hP]; omega), xorB, List.take_zipWith, List.take_take, strm_take _ _ _ _ (by rw [List.length_take, hP]; omega), Nat.min_eq_left (by omega), List.take_left' h1]; rfl
  rw [plainR, e3, hn, xorB, List.take_zipWith, hx, strm_take _ _ _ _ (by omega)]
  exact xor_xor _ _ (by rw [h1, strm_len])
def c0 : Cm := ⟨2, 0, 7, 0, List.replicate 16 0⟩
def s0 : List UInt8 := List.replicate 128 0 ++ (9 :: List.replicate 63 0)
theorem s0_len : s0.length = 192 := by rw [s0, List.length_append, List.length_cons, List.length_replicate, List.length_replicate]
theorem c0_ok : checkC c0 = 0 := by
  have hb : ¬ badForm c0 := fun h => h.elim (fun h => h (by decide)) (fun h => h.2 rfl)
  rw [checkC, if_neg (by decide), if_neg hb, if_neg (by decide)]
theorem c0_enc : encR c0 = (encB c0, 0) := by rw [encR, if_neg (by simp [c0_ok])]
def h0 : List UInt8 := layR (encB c0) s0 (List.replicate 288 0) []
theorem z288 : (List.replicate 288 (0 : UInt8)).length = 288 := List.length_replicate ..
theorem e0_len : (encB c0).length = 32 := encB_len (by decide)
theorem h0_len : h0.length = 288 := layR_len s0_len e0_len z288 (Nat.zero_le _)
theorem build0 : buildR [c0] [s0] = (h0, 0) := by
  have he : encW [c0] 1 = 0 := by
    rw [encW_succ [c0] 0 (by decide)]
    have h1 : encE 1 0 c0 = 0 := by
      rw [encE, c0_enc, if_neg (fun h => h.2 ⟨fun h' => absurd h' (by decide), fun h' => absurd h' (by decide)⟩)]
    show wst 0 (encE 1 0 c0) = 0
    rw [h1]; rfl
  have hf : fillerR [s0] = ([], 0) := by rw [fillerR, if_neg (by simp)]; rfl
  have he' : encW [c0] [c0].length = 0 := he
  rw [buildR, if_neg (by rw [he']; decide), if_neg (by rw [hf]; simp), if_neg (by rw [he']; simp), hf]
  rfl
theorem open0 (nx : List UInt8 × Int) : openR h0 s0 nx = (c0, List.replicate 288 0, 0) := by
  have hp : (plainR h0 s0).take 32 = encB c0 := layR_plain s0_len e0_len z288 (Nat.zero_le _)
  have hd := dec_enc (c := c0) (by decide) c0_ok
  rw [openR, if_neg (fun h => h (layR_fits s0_len e0_len z288 (Nat.zero_le _))), hp, hd, if_neg (by simp), if_pos (by decide)]
theorem open0k : ((decC ((plainR h0 s0).take 32)).1.kind.toNat : Int) ≠ 1 := by
  have hp : (plainR h0 s0).take 32 = encB c0 := layR_plain s0_len e0_len z288 (Nat.zero_le _)
  rw [hp, dec_enc (c := c0) (by decide) c0_ok]; decide
theorem h0_first : h0[0]? = some 9 := by
  obtain ⟨e1, _, _⟩ := layR_f (slot := encB c0) (s := s0) (h := List.replicate 288 0) (tail := []) s0_len e0_len z288 (Nat.zero_le _)
  have h1 : (sA s0)[0]? = some 9 := by simp [sA, s0]
  rw [← e1] at h1
  rw [hA, List.getElem?_take_of_lt (by omega), List.drop_zero] at h1
  exact h1
theorem hdr_Build0 (ca : Option Addr) (cc : Nat) (pa : Option Addr) (pc : Nat) (w : World) (hca : RdL w ca (cmC c0)) (hpa : RdL w pa (B s0)) (hpc : 1 ≤ pc) :
    Ret Try.prog 67 [.slice ca 1 cc, .slice pa 1 pc] w (fun v _ => v = .tuple #[.agg (B h0).toArray, i64 0]) := by
  have := hdr_Build [c0] ca cc [s0] pa pc w (by simpa using hca) (by simp [c0]) (by simp) (by simpa using hpa) (by simp [s0_len]) (by simpa using hpc)
  rwa [build0] at this
theorem hdr_Open0 (w : World) : Ret Try.prog 68 [.agg (B h0).toArray, .agg (B s0).toArray] w (fun v _ => v = .tuple #[.agg (cmC c0).toArray, .agg (B (List.replicate 288 0)).toArray, i64 0]) := by
  have := hdr_Open h0 s0 h0_len s0_len (List.replicate 32 0, 0) (by simp) (fun h => absurd h open0k) w
  rwa [open0] at this


set_option maxRecDepth 100000 in
theorem law13_awake (w : World) :
    Ret Try.prog 32 [] w (fun v _ => v = .bool true) := by
  refine enter [] (Mem.nil _) Try.func32 rfl Try.ntmps32 rfl (fun X hX => ?_)
  have hw := hX.w0; subst hw
  refine G.seq <| G.reg <| W.q (sa rfl) rfl <| W.nil <| G.seq <| G.reg <| W.q (blda Try.arp24 rfl rfl) rfl <| W.q (bld Try.stp86 rfl rfl) rfl <| W.al Try.zrl86 rfl fun b1 => W.sta Try.sz86 rfl rfl (by first | rfl | (rw [Bl]; first | exact h0_len | exact z288)) (by first | rfl | exact B_one _) .hd rfl <| W.nil <| G.seq <| G.reg <| W.q (bld Try.stp127 rfl rfl) rfl <| W.bs1 Try.underlying128 Try.sz127 Try.zrl127 rfl rfl rfl rfl rfl fun b2 => W.q (lda Try.agg86 Try.sz86 rfl (Cells.whole (.tl <| .hd)) (by first | rfl | (rw [Bl]; first | exact h0_len | exact z288))) rfl <| W.bs1 Try.underlying80 Try.sz86 Try.zrl86 rfl rfl rfl rfl rfl fun b3 => W.fv Try.ca67 rfl (fun w hm => hdr_Build0 _ _ _ _ w (hm.rowRd (by first | exact .hd | exact .tl .hd)) (hm.rowRd (by first | exact .hd | exact .tl .hd)) (Nat.le_refl _)) rfl <| W.q (mv rfl) rfl <| W.q (ex rfl rfl) rfl <| W.q (ex rfl rfl) rfl <| W.al Try.zrl28 rfl fun b4 => W.sta Try.sz28 rfl rfl (by first | rfl | (rw [Bl]; first | exact h0_len | exact z288)) (by first | rfl | exact B_one _) .hd rfl <| W.q (sa rfl) rfl <| W.nil <| G.seq <| G.reg <| W.q (lda Try.agg28 Try.sz28 rfl (Cells.whole .hd) (by first | rfl | (rw [Bl]; first | exact h0_len | exact z288))) rfl <| W.q (lda Try.agg86 Try.sz86 rfl (Cells.whole (.tl <| .tl <| .tl <| .hd)) (by first | rfl | (rw [Bl]; first | exact h0_len | exact z288))) rfl <| W.fv Try.ca68 rfl (fun w hm => hdr_Open0 w) rfl <| W.q (mv rfl) rfl <| W.q (ex rfl rfl) rfl <| W.q (ex rfl rfl) rfl <| W.q (ex rfl rfl) rfl <| W.al Try.zrl127 rfl fun b5 => W.al Try.zrl28 rfl fun b6 => W.sta Try.sz127 rfl rfl (by first | rfl | (rw [Bl]; first | exact h0_len | exact z288)) (by first | rfl | exact B_one _) (.tl <| .hd) rfl <| W.sta Try.sz28 rfl rfl (by first | rfl | (rw [Bl]; first | exact h0_len | exact z288)) (by first | rfl | exact B_one _) .hd rfl <| W.q (sa rfl) rfl <| W.nil <| G.seq <| G.reg <| W.q (mv rfl) rfl <| W.q (eq rfl rfl) rfl <| W.q (mv rfl) rfl <| W.sp (t := _) 26 rfl (fun g1 => ?_) (fun g1 => ?_)
  · -- True
    refine W.qg rfl rfl g1 (mv rfl) rfl <| W.qg rfl rfl g1 (eq rfl rfl) rfl <| W.q (pkt rfl g1 rfl) rfl <| W.q (mv rfl) rfl <| W.sp (t := _) 30 rfl (fun g2 => ?_) (fun g2 => ?_)
    · -- True
      refine W.qg rfl rfl g2 (lda Try.agg127 Try.sz127 rfl (Cells.whole (.tl <| .hd)) (by first | rfl | (rw [Bl]; first | exact h0_len | exact z288))) rfl <| W.qg rfl rfl g2 (bld Try.stp127 rfl rfl) rfl <| W.qg rfl rfl g2 (eqa Try.ks127 Try.agg127 Try.eg127 rfl rfl ⟨⟨_, rfl⟩, ⟨_, rfl⟩, ⟨_, rfl⟩, ⟨_, rfl⟩, KOk.u8n (l := List.replicate 16 0) rfl⟩ ⟨⟨_, rfl⟩, ⟨_, rfl⟩, ⟨_, rfl⟩, ⟨_, rfl⟩, KOk.u8n (l := List.replicate 16 0) rfl⟩) rfl <| W.q (pkt rfl g2 rfl) rfl <| W.q (mv rfl) rfl <| W.sp (t := _) 35 rfl (fun g3 => ?_) (fun g3 => ?_)
      · -- True
        refine W.qg rfl rfl g3 (lda Try.agg28 Try.sz28 rfl (Cells.whole .hd) (by first | rfl | (rw [Bl]; first | exact h0_len | exact z288))) rfl <| W.qg rfl rfl g3 (bld Try.stp28 rfl rfl) rfl <| W.qg rfl rfl g3 (eqa Try.ks28 Try.agg28 Try.eg28 rfl rfl (KOk.u8n z288) (KOk.u8n (l := List.replicate 288 0) z288)) rfl <| W.q (pkt rfl g3 rfl) rfl <| W.q (mv rfl) rfl <| W.sp (t := _) 40 rfl (fun g4 => ?_) (fun g4 => ?_)
        · -- True
          refine W.qg rfl rfl g4 (fa Try.fof28_0 rfl) rfl <| W.qg rfl rfl g4 (iaa Try.ear24 rfl rfl (by omega) (by omega)) rfl <| W.qg rfl rfl g4 (ld Try.sc5 rfl (Cell.at (.tl <| .tl <| .hd) (B_get h0_first))) rfl <| W.qg rfl rfl g4 (eq rfl rfl) rfl <| W.q (pkt rfl g4 rfl) rfl <| W.q (sa rfl) rfl <| W.nil <| ret1 hX Try.results32 rfl fun w hm => done (H := []) rfl rfl (Dr.ent (Dr.new rfl) w hm)
        · -- False
          first | (simp at g4; done) | (simp at g4; exact (g4 rfl).elim)
      · -- False
        first | (simp at g3; done) | (simp at g3; exact (g3 rfl).elim)
    · -- False
      first | (simp at g2; done) | (simp at g2; exact (g2 rfl).elim)
  · -- False
    first | (simp at g1; done) | (simp at g1; exact (g1 rfl).elim)


open Classical in
set_option maxRecDepth 100000 in
theorem law_HeaderParses (a : Option Addr) (len cap : Nat) (bs : List UInt8) (w : World) (hlen : len = bs.length) (hl : RdL w a (B bs)) (hb : bs.length ≤ 140737488351232) (hcap : bs.length ≤ cap) :
    Ret Try.prog 8 [.slice a len cap] w (fun v _ => v = .bool true) := by
  subst hlen
  refine enter [] (Mem.nil _) Try.func8 rfl Try.ntmps8 rfl (fun X hX => ?_)
  have hw := hX.w0; subst hw
  refine G.seq <| G.reg <| W.q (sa rfl) rfl <| W.nil <| G.seq <| G.seq <| G.reg <| W.fv Try.ca32 rfl (fun w hm => law13_awake w) rfl <| W.q (nt rfl) rfl <| W.nil <| G.cdf rfl rfl <| G.skip <| G.seq <| G.reg <| W.q (mv rfl) rfl <| W.fn Try.ca13 rfl (fun w hm => ref01_Copy a cap bs w (hm.rd rfl hl) hb) rfl fun v J hv hJ => ?_
  obtain ⟨a1, c1, rfl, rfl⟩ := hv
  refine W.slAt (a := a1) (m := bs.length) (cap := c1) (E := 5) (s := 1) (xs := B bs) (.head _) (fun q1 q2 q3 q4 => ?_)
  refine W.fv Try.ca33 rfl (fun w hm => header_Parse a1 bs.length c1 bs w rfl (hm.slRd (.head _)) hb q2) rfl <| W.q (mv rfl) rfl <| W.q (ex rfl rfl) rfl <| W.q (ex rfl rfl) rfl <| W.al Try.zrl28 rfl fun b1 => W.sta Try.sz28 rfl rfl (by rw [Bl]; exact bytesOr_len 288 bs) (B_one _) .hd rfl <| W.q (sa rfl) rfl <| W.nil <| G.seq <| G.seq <| G.reg <| W.q (mv rfl) rfl <| W.q (ln Try.esl22 rfl) rfl <| W.q (ne rfl rfl) rfl <| W.nil <| G.cdd rfl (fun h1 => ?_) (fun h1 => ?_)
  · -- h1 True
    have h288 : bs.length ≠ 288 := by omega
    have hbo : bytesOr 288 bs = List.replicate 288 0 := by rw [bytesOr, if_neg h288]
    rw [hbo, if_neg h288]
    refine G.seq <| G.reg <| W.q (mv rfl) rfl <| W.q (eq rfl rfl) rfl <| W.q (mv rfl) rfl <| W.sp (t := _) 18 rfl (fun g2 => ?_) (fun g2 => ?_)
    · -- True
      refine W.qg rfl rfl g2 (lda Try.agg28 Try.sz28 rfl (Cells.whole .hd) (by rw [Bl]; exact z288)) rfl <| W.qg rfl rfl g2 (bld Try.stp28 rfl rfl) rfl <| W.qg rfl rfl g2 (eqa Try.ks28 Try.agg28 Try.eg28 rfl rfl (KOk.u8n z288) (by have := KOk.u8n (l := List.replicate 288 0) z288; rwa [B_zeros] at this)) rfl <| W.q (pkt rfl g2 rfl) rfl <| W.q (sa rfl) rfl <| W.nil <| ret1 hX Try.results8 rfl fun w hm => done (H := []) rfl ?_ (Dr.ent (Dr.new rfl) w hm)
      exact congrArg Value.bool (decide_eq_true (B_zeros 288))
    · -- False
      simp at g2
  · -- h1 False
    have h288 : bs.length = 288 := by omega
    have hbo : bytesOr 288 bs = bs := by rw [bytesOr, if_pos h288]
    rw [hbo, if_pos h288]
    refine G.skip <| G.seq <| G.rega 30 rfl Try.mixed <| A.q 0 rfl (by kernel_rfl) (fun _ => (mv rfl)) rfl <| A.q 1 rfl (by kernel_rfl) (fun _ => (eq rfl rfl)) rfl <| A.q 2 rfl (by kernel_rfl) (fun _ => (mv rfl)) rfl <| A.sp (t := _) 25 rfl (fun g3 => ?_) (fun g3 => ?_)
    · -- True
      refine A.qg 5 rfl (by kernel_rfl) rfl rfl g3 (fun _ => (mv rfl)) rfl <| A.quiet [3] 4 (fuel := 25) (os := [_]) rfl rfl (by kernel_rfl) <| W.qg rfl rfl g3 (lda Try.agg28 Try.sz28 rfl (Cells.whole .hd) (by rw [Bl]; exact h288)) rfl <| A.backq <| A.one 4 rfl (by kernel_rfl) <| W.fng rfl rfl g3 Try.ca34 rfl (fun w hm => header_Bytes bs w h288) rfl fun v J hv hJ => ?_
      obtain ⟨a2, c2, rfl, rfl⟩ := hv
      refine A.back <| A.one 6 rfl (by kernel_rfl) <| W.fvg rfl rfl g3 Try.ca15 rfl (fun w hm => ref01_EqualT (hm.slRd (.head _)) (by omega) (hm.rd rfl hl) rfl rfl rfl) rfl <| A.back <| A.q 7 rfl (by kernel_rfl) (fun _ => (pkt rfl g3 rfl)) rfl <| A.q 8 rfl (by kernel_rfl) (fun _ => (mv rfl)) rfl <| A.qg 9 rfl (by kernel_rfl) rfl rfl rfl (fun _ => (fa Try.fof28_0 rfl)) rfl <| A.qg 10 rfl (by kernel_rfl) rfl rfl rfl (fun _ => (saa Try.ear24 rfl )) rfl <| A.qg 11 rfl (by kernel_rfl) rfl rfl rfl (fun _ => (mv rfl)) rfl <| A.qg 12 rfl (by kernel_rfl) rfl rfl rfl (fun _ => (shi Try.esl22 rfl rfl (by omega) (by omega))) rfl <| A.one 13 rfl (by kernel_rfl) <| W.fvg rfl rfl rfl Try.ca15 rfl (fun w hm => ref01_EqualT (hm.rowSub (.tl <| .hd) 0 32) (by simp; omega) (hm.rd rfl (hl.takeB 32)) (by simp; omega) (by simp; omega) (by simp)) rfl <| A.back <| A.q 14 rfl (by kernel_rfl) (fun _ => (pkt rfl rfl rfl)) rfl <| A.q 15 rfl (by kernel_rfl) (fun _ => (mv rfl)) rfl <| A.qg 16 rfl (by kernel_rfl) rfl rfl rfl (fun _ => (fa Try.fof28_1 rfl)) rfl <| A.qg 17 rfl (by kernel_rfl) rfl rfl rfl (fun _ => (saa Try.ear25 rfl )) rfl <| A.qg 18 rfl (by kernel_rfl) rfl rfl rfl (fun _ => (mv rfl)) rfl <| A.qg 19 rfl (by kernel_rfl) rfl rfl rfl (fun _ => (slh Try.esl22 rfl rfl rfl (by omega) (by omega) (by omega))) rfl <| A.one 20 rfl (by kernel_rfl) <| W.fvg rfl rfl rfl Try.ca15 rfl (fun w hm => ref01_EqualT (hm.rowSub (.tl <| .hd) 32 16) (by simp; omega) (hm.rd rfl (hl.subB 32 16 cap hcap)) (by simp; omega) (by simp; omega) (rfl)) rfl <| A.back <| A.q 21 rfl (by kernel_rfl) (fun _ => (pkt rfl rfl rfl)) rfl <| A.q 22 rfl (by kernel_rfl) (fun _ => (mv rfl)) rfl <| A.qg 23 rfl (by kernel_rfl) rfl rfl rfl (fun _ => (fa Try.fof28_2 rfl)) rfl <| A.qg 24 rfl (by kernel_rfl) rfl rfl rfl (fun _ => (saa Try.ear26 rfl )) rfl <| A.qg 25 rfl (by kernel_rfl) rfl rfl rfl (fun _ => (mv rfl)) rfl <| A.qg 26 rfl (by kernel_rfl) rfl rfl rfl (fun _ => (slo Try.esl22 rfl rfl (by omega) (by omega))) rfl <| A.one 27 rfl (by kernel_rfl) <| W.fvg rfl rfl rfl Try.ca15 rfl (fun w hm => ref01_EqualT (hm.rowSub (.tl <| .hd) 48 240) (by simp; omega) (hm.rd rfl (hl.dropB 48 cap hcap)) (by simp; omega) (by simp) (List.take_of_length_le (by simp; omega))) rfl <| A.back <| A.q 28 rfl (by kernel_rfl) (fun _ => (pkt rfl rfl rfl)) rfl <| A.q 29 rfl (by kernel_rfl) (fun _ => (sa rfl)) rfl <| A.nil (by kernel_rfl) <| ret1 hX Try.results8 rfl fun w hm => done (H := []) rfl ?_ (Dr.ent (Dr.new rfl) w hm)
      rfl
    · -- False
      simp at g3
end Go.Proofs.Ytjalojbihpdghaa
