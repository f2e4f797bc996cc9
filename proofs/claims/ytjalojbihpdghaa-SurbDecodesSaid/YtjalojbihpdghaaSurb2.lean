/- An answer by a reply block; SurbUses. -/
import Derived.Test.YtjalojbihpdghaaWide
import Derived.Test.YtjalojbihpdghaaLaw16
import Derived.Test.YtjalojbihpdghaaFrame3
namespace Go.Proofs.Ytjalojbihpdghaa
open Go Go.Eng
set_option linter.unusedVariables false

def ptU (msg : List UInt8) : Pt := ⟨3, 0, 0, 1, msg⟩
def useE (msg : List UInt8) : Int := (frameR (ptU msg)).2
def useB (h k msg : List UInt8) : List UInt8 := h ++ wideB k [1, 2, 3, 4] (frameB (ptU msg))
theorem use_err {msg : List UInt8} (h : useE msg ≠ 0) : frameR (ptU msg) = ([], useE msg) := by
  unfold useE frameR at *
  split
  · rfl
  · rename_i h'; rw [if_neg h'] at h; exact absurd rfl h
theorem use_ok {msg : List UInt8} (h : useE msg = 0) : frameR (ptU msg) = (frameB (ptU msg), 0) ∧ msg.length ≤ 450 := by
  have hc : checkR (ptU msg) = 0 := Classical.byContradiction fun h' => by
    unfold useE frameR at h; rw [if_pos h'] at h; exact h' h
  exact ⟨by rw [frameR, if_neg (by simp [hc])], (check_ok hc).2.1⟩
theorem useB_len {h k msg : List UInt8} (hh : h.length = 288) (hm : msg.length ≤ 450) : (useB h k msg).length = 768 := by
  have h4 := frameB_len (ptU msg) hm
  rw [useB, List.length_append, wideB_len _ _ _ (by omega)]; omega
def use0 : List UInt8 := List.replicate 768 0


set_option maxRecDepth 100000 in
theorem surb_Use (h k : List UInt8) (n : UInt64) (a : Option Addr) (len cap : Nat) (msg : List UInt8) (w : World) (hh : h.length = 288) (hk : k.length = 32) (hlen : len = msg.length) (hl : RdL w a (B msg)) (hb : msg.length ≤ 140737488351232) (hcap : msg.length ≤ cap) :
    Ret Try.prog 12 [.agg (blkC h n k).toArray, .slice a len cap] w (fun v J => v = .tuple #[.agg (B (if useE msg = 0 then useB h k msg else use0)).toArray, i64 (useE msg)]) := by
  subst hlen
  refine enter [] (Mem.nil _) Try.func12 rfl Try.ntmps12 rfl (fun X hX => ?_)
  have hw := hX.w0; subst hw
  have hcH : ∀ i v, (B h)[i]? = some v → (blkC h n k)[0 + i]? = some v := at_app (pre := []) rfl
  have hcK : ∀ i v, (B k)[i]? = some v → (blkC h n k)[289 + i]? = some v := fun i v hv => by
    have := at_app (pre := B h ++ [u64 n]) (ds := B k) (post := []) (o := 289) (by simp [hh]) i v hv
    simpa [blkC] using this
  refine G.seq <| G.reg <| W.bxa rfl rfl fun b1 => W.al Try.zrl37 rfl fun b2 => W.q (sa rfl) rfl <| W.nil <| G.seq <| G.reg <| W.q (mv rfl) rfl <| W.q (bld (cs := [_, _, _, _, _]) Try.stp66 rfl rfl) rfl <| W.fn Try.ca29 rfl (fun w hm => frame_Frame (ptU msg) a cap w (hm.rd rfl hl) hb hcap) rfl fun v J hv hJ => ?_
  obtain ⟨v1, ⟨a1, c1, rfl, rfl⟩, rfl⟩ := hv
  refine W.q (mv rfl) rfl <| W.q (ex rfl rfl) rfl <| W.q (ex rfl rfl) rfl <| W.q (sa rfl) rfl <| W.q (sa rfl) rfl <| W.nil <| G.seq <| G.seq <| G.reg <| W.q (mv rfl) rfl <| W.q (ne rfl rfl) rfl <| W.nil <| G.cdd rfl (fun h1 => ?_) (fun h1 => ?_)
  · -- h1 True
    refine G.seq <| G.reg <| W.q (bld Try.stp37 rfl rfl) rfl <| W.q (mv rfl) rfl <| W.sta Try.sz37 rfl rfl (by simp) (by simp [Value.oneCell']) (.tl <| .hd) (by simp) <| W.q (sa rfl) rfl <| W.nil <| ret hX Try.results12 (RA.cella rfl Try.agg37 Try.sz37 (Cells.whole (.tl <| .hd)) (by simp) <| RA.tmp rfl <| RA.nil) fun w hm => done (H := []) rfl ?_ (Dr.ent (Dr.new rfl) w hm)
    rw [if_neg (show ¬ useE msg = 0 from h1), use0, B_zeros]; rfl
  · -- h1 False
    have he : useE msg = 0 := Classical.byContradiction h1
    obtain ⟨hf, hm450⟩ := use_ok he
    have h480 := frameB_len (ptU msg) hm450
    rw [hf]
    rw [h480]
    have hwl := wideB_len k [1, 2, 3, 4] (frameB (ptU msg)) (by omega)
    refine G.skip <| G.seq <| G.reg <| W.q (fa Try.fof31_2 rfl) rfl <| W.q (saa Try.ear24 rfl ) rfl <| W.q (mv rfl) rfl <| W.fn Try.ca41 rfl (fun w hm => wide_Seal (some ⟨b1, 289, none⟩) 32 32 k a1 480 c1 (frameB (ptU msg)) w hk.symm ((RdS.cells (Cells.part (.tl <| .tl <| .hd) hcK)) w hm) hk (by omega) h480.symm (hm.slRd (m := 480) (cap := c1) (E := 5) (s := 1) (.head _)) (by omega) (by omega)) rfl fun v J hv hJ => ?_
    obtain ⟨v2, ⟨a2, c2, rfl, rfl⟩, rfl⟩ := hv
    rw [wideB_len _ _ _ (by omega), h480]
    refine W.slAt (a := a2) (m := 480) (cap := c2) (E := 5) (s := 1) (xs := _) (.head _) (fun q1 q2 q3 q4 => ?_)
    obtain ⟨g, rfl⟩ : ∃ g, a2 = some ⟨g, 0, none⟩ := by rcases q4 with ⟨_, _, h⟩ | h; cases h; exact h
    refine W.q (mv rfl) rfl <| W.q (ex rfl rfl) rfl <| W.q (ex rfl rfl) rfl <| W.q (sa rfl) rfl <| W.q (sa rfl) rfl <| W.nil <| G.seq <| G.regt 6 Try.mixed (by kernel_rfl) <| W.q (fa Try.fof31_0 rfl) rfl <| W.q (lda Try.agg28 Try.sz28 rfl (Cells.part (.tl <| .tl <| .tl <| .hd) hcH) (by rw [Bl]; exact hh)) rfl <| W.q (mv rfl) rfl <| W.q (stp_ Try.ear35 rfl (by omega)) rfl <| W.q (lda Try.agg35 Try.sz35 rfl (Cells.sl (.head _)) (by rw [Bl, hwl, h480])) rfl <| W.q ((blds (cs := B (useB h k msg)) Try.stp37 rfl (by simp [seqB, cellsL, hh, hwl, h480]) (by simp [cellsL, hh, hwl, h480]) (by simp [cellsL, useB]))) rfl <| W.nilt <| W.sta Try.sz37 rfl rfl (by rw [Bl, useB_len hh hm450]) (B_one _) (.tl <| .tl <| .hd) (by simp [useB_len hh hm450]) <| W.q (sa rfl) rfl <| W.nil <| ret hX Try.results12 (RA.cella rfl Try.agg37 Try.sz37 (Cells.whole (.tl <| .tl <| .hd)) (by rw [Bl, useB_len hh hm450]) <| RA.tmp rfl <| RA.nil) fun w hm => done (H := []) rfl ?_ (Dr.ent (Dr.new rfl) w hm)
    rw [if_pos he, he]; rfl


set_option maxRecDepth 100000 in
theorem ref16_Use (a : Option Addr) (len cap : Nat) (bs : List UInt8) (a2 : Option Addr) (len2 cap2 : Nat) (msg : List UInt8) (w : World) (h328 : bs.length = 328) (hlen : len = bs.length) (hl : RdL w a (B bs)) (hcap : bs.length ≤ cap) (hlen2 : len2 = msg.length) (hl2 : RdL w a2 (B msg)) (hb2 : msg.length ≤ 140737488351232) (hcap2 : msg.length ≤ cap2) :
    Ret Try.prog 14 [.slice a len cap, .slice a2 len2 cap2] w (fun v J => ∃ v1, NewB (if useE msg = 0 then useB ((bs.drop 8).take 288) (bs.drop 296) msg else []) v1 J ∧ v = .tuple #[v1, i64 (useE msg)]) := by
  subst hlen; subst hlen2
  refine enter [] (Mem.nil _) Try.func14 rfl Try.ntmps14 rfl (fun X hX => ?_)
  have hw := hX.w0; subst hw
  refine G.seq <| G.reg <| W.q (sa rfl) rfl <| W.q (sa rfl) rfl <| W.nil <| G.seq <| G.reg <| W.q (mv rfl) rfl <| W.q (bld (cs := [_, _, _, _, _]) Try.stp66 rfl rfl) rfl <| W.fn Try.ca42 rfl (fun w hm => ref11_Frame (ptU msg) a2 cap2 w (hm.rd rfl hl2) hb2 hcap2) rfl fun v J hv hJ => ?_
  obtain ⟨v1, ⟨a1, c1, rfl, rfl⟩, rfl⟩ := hv
  refine W.q (mv rfl) rfl <| W.q (ex rfl rfl) rfl <| W.q (ex rfl rfl) rfl <| W.q (sa rfl) rfl <| W.q (sa rfl) rfl <| W.nil <| G.seq <| G.seq <| G.reg <| W.q (mv rfl) rfl <| W.q (ne rfl rfl) rfl <| W.nil <| G.cdd rfl (fun h1 => ?_) (fun h1 => ?_)
  · -- h1 True
    refine G.seq <| G.reg <| W.q (mv rfl) rfl <| W.q (sa rfl) rfl <| W.q (sa rfl) rfl <| W.nil <| ret2 hX Try.results14 rfl rfl fun w hm => done (H := [sl none 0 0 5 1 []]) rfl ?_ (Mem.slNil (Dr.ent (Dr.new rfl) w hm) 5 1)
    rw [if_neg (show ¬ useE msg = 0 from h1)]; exact ⟨_, ⟨none, 0, rfl, rfl⟩, rfl⟩
  · -- h1 False
    have he : useE msg = 0 := Classical.byContradiction h1
    obtain ⟨hf, hm450⟩ := use_ok he
    have h480 := frameB_len (ptU msg) hm450
    rw [hf]
    rw [h480]
    have hwl := wideB_len (bs.drop 296) [1, 2, 3, 4] (frameB (ptU msg)) (by omega)
    refine G.slAt (a := a1) (m := 480) (cap := c1) (E := 5) (s := 1) (xs := _) (.head _) (fun p1 p2 p3 p4 => ?_)
    refine G.skip <| G.seq <| G.reg <| W.q (mv rfl) rfl <| W.q (slo Try.esl22 rfl rfl (by omega) (by omega)) rfl <| W.q (mv rfl) rfl <| W.fn Try.ca43 rfl (fun w hm => ref07_Seal (slA a (296 : Int).toNat cap 1) (bs.length - (296 : Int).toNat) (cap - (296 : Int).toNat) (bs.drop 296) a1 480 c1 (frameB (ptU msg)) w (by simp) (hm.rd rfl (hl.dropB 296 cap hcap)) (by simp; omega) (by simp; omega) h480.symm (hm.slRd (m := 480) (cap := c1) (E := 5) (s := 1) (.head _)) (by omega) (by omega) (by rw [h480]; exact p2)) rfl fun v J hv hJ => ?_
    obtain ⟨v2, ⟨a2, c2, rfl, rfl⟩, rfl⟩ := hv
    rw [hwl, h480]
    refine W.slAt (a := a2) (m := 480) (cap := c2) (E := 5) (s := 1) (xs := _) (.head _) (fun q1 q2 q3 q4 => ?_)
    refine W.q (mv rfl) rfl <| W.q (ex rfl rfl) rfl <| W.q (ex rfl rfl) rfl <| W.q (sa rfl) rfl <| W.q (sa rfl) rfl <| W.nil <| G.seq <| G.reg <| W.q (mv rfl) rfl <| W.q (slh Try.esl22 rfl rfl rfl (by omega) (by omega) (by omega)) rfl <| W.fn Try.ca13 rfl (fun w hm => ref01_Copyx (bs := (bs.drop 8).take 288) (hm.rd rfl (hl.subB 8 288 cap hcap)) (by simp; omega) (by simp; omega)) rfl fun v J hv hJ => ?_
    obtain ⟨a3, c3, rfl, rfl⟩ := hv
    rw [show ((bs.drop 8).take 288).length = 288 by simp; omega]
    simp only [List.cons_append, List.nil_append]
    refine W.q (mv rfl) rfl <| W.ap Try.underlying22 Try.underlying22 Try.sz5 Try.zln5 Try.by5 rfl rfl (fun _ _ => .hd) (RdS.sl (.tail _ <| .head _)) (by rw [Bl, hwl, h480]) (B_one _) (slAt_nil q4) (by omega) (by omega) rfl fun a4 c4 => W.q (sa rfl) rfl <| W.q (sa rfl) rfl <| W.nil <| ?_
    have hul := useB_len (h := (bs.drop 8).take 288) (k := bs.drop 296) (by simp; omega) hm450
    have hub : (bs.drop 8).take 288 ++ wideB (bs.drop 296) [1, 2, 3, 4] (frameB (ptU msg)) = useB ((bs.drop 8).take 288) (bs.drop 296) msg := by rw [useB]
    have hc4 : 288 + 480 = 768 := rfl
    refine ret2 hX Try.results14 rfl rfl fun w hm => done (H := [sl a4 (useB ((bs.drop 8).take 288) (bs.drop 296) msg).length c4 5 1 (B (useB ((bs.drop 8).take 288) (bs.drop 296) msg))]) rfl ?_ (by have := Dr.ent (.keep <| .drop rfl <| .drop rfl .rfl) w hm; rw [← List.map_append, hub] at this; rw [hul]; exact this)
    rw [if_pos he, he]; exact ⟨_, ⟨a4, c4, rfl, rfl⟩, by rw [hul]⟩

theorem use_len {h k msg : List UInt8} (hh : h.length = 288) : (B (if useE msg = 0 then useB h k msg else use0)).length = 768 := by
  split
  · rename_i he; rw [Bl, useB_len hh (use_ok he).2]
  · rw [Bl, use0, List.length_replicate]


set_option maxRecDepth 100000 in
theorem law_SurbUses (a : Option Addr) (len cap : Nat) (bs : List UInt8) (a2 : Option Addr) (len2 cap2 : Nat) (msg : List UInt8) (w : World) (hlen : len = bs.length) (hl : RdL w a (B bs)) (hb : bs.length ≤ 140737488351232) (hcap : bs.length ≤ cap) (hlen2 : len2 = msg.length) (hl2 : RdL w a2 (B msg)) (hb2 : msg.length ≤ 140737488351232) (hcap2 : msg.length ≤ cap2) :
    Ret Try.prog 3 [.slice a len cap, .slice a2 len2 cap2] w (fun v _ => v = .bool true) := by
  subst hlen; subst hlen2
  refine enter [] (Mem.nil _) Try.func3 rfl Try.ntmps3 rfl (fun X hX => ?_)
  have hw := hX.w0; subst hw
  refine G.seq <| G.reg <| W.q (sa rfl) rfl <| W.nil <| G.seq <| G.seq <| G.reg <| W.fv Try.ca10 rfl (fun w hm => law16_awake w) rfl <| W.q (nt rfl) rfl <| W.nil <| G.cdf rfl rfl <| G.skip <| G.seq <| G.seq <| G.reg <| W.q (mv rfl) rfl <| W.q (ln Try.esl22 rfl) rfl <| W.q (ne rfl rfl) rfl <| W.nil <| G.cdd rfl (fun h1 => ?_) (fun h1 => ?_)
  · -- h1 True
    refine G.seq <| G.reg <| W.q (sa rfl) rfl <| W.nil <| ret1 hX Try.results3 rfl fun w hm => done rfl rfl hm
  · -- h1 False
    have h328 : bs.length = 328 := by omega
    have hkk : (bs.drop 296).take 32 = bs.drop 296 := List.take_of_length_le (by simp; omega)
    have hh : ((bs.drop 8).take 288).length = 288 := by simp; omega
    have hk : (bs.drop 296).length = 32 := by simp; omega
    refine G.skip <| G.seq <| G.reg <| W.q (mv rfl) rfl <| W.fv Try.ca11 rfl (fun w hm => surb_Parse a _ cap bs w rfl (hm.rd rfl hl) hb hcap) rfl <| W.q (mv rfl) rfl <| W.q (ex rfl rfl) rfl <| W.q (ex rfl rfl) rfl <| W.al Try.zrl31 rfl fun b1 => W.sta Try.sz31 rfl rfl (blkR_len bs) (blkR_one bs) .hd (by simp) <| W.q (sa rfl) rfl <| W.nil <| G.seq <| G.seq <| G.reg <| W.q (mv rfl) rfl <| W.q (ne rfl rfl) rfl <| W.nil <| G.cdd rfl (fun h2 => ?_) (fun h2 => ?_)
    · -- h2 True
      refine G.seq <| G.reg <| W.q (sa rfl) rfl <| W.nil <| ret1 hX Try.results3 rfl fun w hm => done (H := []) rfl ?_ (Dr.ent (Dr.new rfl) w hm)
      rfl
    · -- h2 False
      have hf : firstN bs ≠ 0 := fun h => h2 (by rw [blkR, if_pos h328, if_pos h]; decide)
      have e : blkR bs = (blkC ((bs.drop 8).take 288) (firstN bs) (bs.drop 296), 0) := by rw [blkR, if_pos h328, if_neg hf, hkk]
      rw [e]
      have cl := blkC_len (n := firstN bs) hh hk
      refine G.skip <| G.seq <| G.rega 10 rfl Try.mixed <| A.q 1 rfl (by kernel_rfl) (fun _ => (mv rfl)) rfl <| A.three 0 2 7 rfl rfl rfl (by kernel_rfl) ?_ ?_ ?_
      · -- o3: 0 first
        refine W.q (lda Try.agg31 Try.sz31 rfl (Cells.whole .hd) cl) rfl <| A.back <| A.two 2 7 rfl rfl (by kernel_rfl) ?_ ?_
        · -- o4: 2 first
          refine W.fn Try.ca13 rfl (fun w hm => ref01_Copy a2 cap2 msg w (hm.rd rfl hl2) hb2) rfl fun v J hv hJ => ?_
          obtain ⟨a1, c1, rfl, rfl⟩ := hv
          refine W.slAt (a := a1) (m := _) (cap := c1) (E := 5) (s := 1) (xs := _) (.head _) (fun q1 q2 q3 q4 => ?_)
          refine A.back <| A.two 3 7 rfl rfl (by kernel_rfl) ?_ ?_
          · -- o5: 3 first
            refine W.fv Try.ca12 rfl (fun w hm => surb_Use ((bs.drop 8).take 288) (bs.drop 296) (firstN bs) a1 msg.length c1 msg w hh hk rfl (hm.slRd (.head _)) hb2 q2) rfl <| A.back <| A.q 4 rfl (by kernel_rfl) (fun _ => (mv rfl)) rfl <| A.q 5 rfl (by kernel_rfl) (fun _ => (ex rfl rfl)) rfl <| A.q 6 rfl (by kernel_rfl) (fun _ => (ex rfl rfl)) rfl <| A.one 7 rfl (by kernel_rfl) <| W.al Try.zrl37 rfl fun b2 => A.back <| A.one 8 rfl (by kernel_rfl) <| W.sta Try.sz37 rfl rfl (use_len hh) (B_one _) .hd (by simp) <| A.back <| A.q 9 rfl (by kernel_rfl) (fun _ => (sa rfl)) rfl <| A.nil (by kernel_rfl) <| G.seq <| G.reg <| W.q (mv rfl) rfl <| W.q (mv rfl) rfl <| W.fn Try.ca14 rfl (fun w hm => ref16_Use a bs.length cap bs a2 msg.length cap2 msg w h328 rfl (hm.rd rfl hl) hcap rfl (hm.rd rfl hl2) hb2 hcap2) rfl fun v J hv hJ => ?_
            obtain ⟨v1, ⟨a3, c3, rfl, rfl⟩, rfl⟩ := hv
            refine W.q (mv rfl) rfl <| W.q (ex rfl rfl) rfl <| W.q (ex rfl rfl) rfl <| W.q (sa rfl) rfl <| W.q (sa rfl) rfl <| W.nil <| G.seq <| G.seq <| G.reg <| W.q (mv rfl) rfl <| W.q (mv rfl) rfl <| W.q (ne rfl rfl) rfl <| W.nil <| G.cdf rfl (decide_eq_false (fun h => h rfl)) <| G.skip <| G.seq <| G.reg <| W.q (mv rfl) rfl <| W.q (ne rfl rfl) rfl <| W.q (mv rfl) rfl <| W.sp (t := _) 40 rfl (fun g7 => ?_) (fun g7 => ?_)
            · -- True
              skip
              refine W.sk rfl rfl g7 rfl <| W.sk rfl rfl g7 rfl <| W.sk rfl rfl g7 rfl <| W.sk rfl rfl g7 rfl <| W.sk rfl rfl g7 rfl <| W.sku rfl rfl rfl <| W.sku rfl rfl rfl <| W.sku rfl rfl rfl <| W.sk rfl rfl g7 rfl <| W.q (pkt rfl g7 rfl) rfl <| W.q (sa rfl) rfl <| W.nil <| ret1 hX Try.results3 rfl fun w hm => done (H := []) rfl ?_ (Dr.ent (Dr.new rfl) w hm)
              rfl
            · -- False
              have he : useE msg = 0 := by simpa using g7
              have hul := useB_len (h := (bs.drop 8).take 288) (k := bs.drop 296) hh (use_ok he).2
              refine W.qg rfl rfl g7 (lda Try.agg37 Try.sz37 rfl (Cells.whole (.tl <| .hd)) (use_len hh)) rfl <| ?_
              rw [if_pos he, if_pos he]
              refine W.fng rfl rfl g7 Try.ca16 rfl (fun w hm => packet_Bytes (useB ((bs.drop 8).take 288) (bs.drop 296) msg) w hul) rfl fun v J hv hJ => ?_
              obtain ⟨a4, c4, rfl, rfl⟩ := hv
              refine W.qg rfl rfl g7 (mv rfl) rfl <| W.fvg rfl rfl g7 Try.ca15 rfl (fun w hm => ref01_EqualT (hm.slRd (.head _)) (by rw [hul]; omega) (hm.slRd (.tail _ <| .head _)) rfl rfl rfl) rfl <| W.qg rfl rfl g7 (mv rfl) rfl <| W.qg rfl rfl rfl (mv rfl) rfl <| W.qg rfl rfl rfl (ln Try.esl22 rfl) rfl <| W.qg rfl rfl rfl (eq rfl rfl) rfl <| W.qg rfl rfl g7 (pkt rfl rfl rfl) rfl <| W.q (pkf rfl g7 rfl) rfl <| W.q (sa rfl) rfl <| W.nil <| ret1 hX Try.results3 rfl fun w hm => done (H := []) rfl ?_ (Dr.ent (Dr.new rfl) w hm)
              exact congrArg Value.bool (decide_eq_true (by rw [hul]; rfl))
          · -- o5: 7 first
            refine W.al Try.zrl37 rfl fun b3 => A.back <| A.one 3 rfl (by kernel_rfl) <| W.fv Try.ca12 rfl (fun w hm => surb_Use ((bs.drop 8).take 288) (bs.drop 296) (firstN bs) a1 msg.length c1 msg w hh hk rfl (hm.slRd (.tail _ <| .head _)) hb2 q2) rfl <| A.back <| A.q 4 rfl (by kernel_rfl) (fun _ => (mv rfl)) rfl <| A.q 5 rfl (by kernel_rfl) (fun _ => (ex rfl rfl)) rfl <| A.q 6 rfl (by kernel_rfl) (fun _ => (ex rfl rfl)) rfl <| A.one 8 rfl (by kernel_rfl) <| W.sta Try.sz37 rfl rfl (use_len hh) (B_one _) .hd (by simp) <| A.back <| A.q 9 rfl (by kernel_rfl) (fun _ => (sa rfl)) rfl <| A.nil (by kernel_rfl) <| G.seq <| G.reg <| W.q (mv rfl) rfl <| W.q (mv rfl) rfl <| W.fn Try.ca14 rfl (fun w hm => ref16_Use a bs.length cap bs a2 msg.length cap2 msg w h328 rfl (hm.rd rfl hl) hcap rfl (hm.rd rfl hl2) hb2 hcap2) rfl fun v J hv hJ => ?_
            obtain ⟨v1, ⟨a3, c3, rfl, rfl⟩, rfl⟩ := hv
            refine W.q (mv rfl) rfl <| W.q (ex rfl rfl) rfl <| W.q (ex rfl rfl) rfl <| W.q (sa rfl) rfl <| W.q (sa rfl) rfl <| W.nil <| G.seq <| G.seq <| G.reg <| W.q (mv rfl) rfl <| W.q (mv rfl) rfl <| W.q (ne rfl rfl) rfl <| W.nil <| G.cdf rfl (decide_eq_false (fun h => h rfl)) <| G.skip <| G.seq <| G.reg <| W.q (mv rfl) rfl <| W.q (ne rfl rfl) rfl <| W.q (mv rfl) rfl <| W.sp (t := _) 40 rfl (fun g9 => ?_) (fun g9 => ?_)
            · -- True
              skip
              refine W.sk rfl rfl g9 rfl <| W.sk rfl rfl g9 rfl <| W.sk rfl rfl g9 rfl <| W.sk rfl rfl g9 rfl <| W.sk rfl rfl g9 rfl <| W.sku rfl rfl rfl <| W.sku rfl rfl rfl <| W.sku rfl rfl rfl <| W.sk rfl rfl g9 rfl <| W.q (pkt rfl g9 rfl) rfl <| W.q (sa rfl) rfl <| W.nil <| ret1 hX Try.results3 rfl fun w hm => done (H := []) rfl ?_ (Dr.ent (Dr.new rfl) w hm)
              rfl
            · -- False
              have he : useE msg = 0 := by simpa using g9
              have hul := useB_len (h := (bs.drop 8).take 288) (k := bs.drop 296) hh (use_ok he).2
              refine W.qg rfl rfl g9 (lda Try.agg37 Try.sz37 rfl (Cells.whole (.tl <| .hd)) (use_len hh)) rfl <| ?_
              rw [if_pos he, if_pos he]
              refine W.fng rfl rfl g9 Try.ca16 rfl (fun w hm => packet_Bytes (useB ((bs.drop 8).take 288) (bs.drop 296) msg) w hul) rfl fun v J hv hJ => ?_
              obtain ⟨a4, c4, rfl, rfl⟩ := hv
              refine W.qg rfl rfl g9 (mv rfl) rfl <| W.fvg rfl rfl g9 Try.ca15 rfl (fun w hm => ref01_EqualT (hm.slRd (.head _)) (by rw [hul]; omega) (hm.slRd (.tail _ <| .head _)) rfl rfl rfl) rfl <| W.qg rfl rfl g9 (mv rfl) rfl <| W.qg rfl rfl rfl (mv rfl) rfl <| W.qg rfl rfl rfl (ln Try.esl22 rfl) rfl <| W.qg rfl rfl rfl (eq rfl rfl) rfl <| W.qg rfl rfl g9 (pkt rfl rfl rfl) rfl <| W.q (pkf rfl g9 rfl) rfl <| W.q (sa rfl) rfl <| W.nil <| ret1 hX Try.results3 rfl fun w hm => done (H := []) rfl ?_ (Dr.ent (Dr.new rfl) w hm)
              exact congrArg Value.bool (decide_eq_true (by rw [hul]; rfl))
        · -- o4: 7 first
          refine W.al Try.zrl37 rfl fun b4 => A.back <| A.one 2 rfl (by kernel_rfl) <| W.fn Try.ca13 rfl (fun w hm => ref01_Copy a2 cap2 msg w (hm.rd rfl hl2) hb2) rfl fun v J hv hJ => ?_
          obtain ⟨a1, c1, rfl, rfl⟩ := hv
          refine W.slAt (a := a1) (m := _) (cap := c1) (E := 5) (s := 1) (xs := _) (.head _) (fun q1 q2 q3 q4 => ?_)
          refine A.back <| A.one 3 rfl (by kernel_rfl) <| W.fv Try.ca12 rfl (fun w hm => surb_Use ((bs.drop 8).take 288) (bs.drop 296) (firstN bs) a1 msg.length c1 msg w hh hk rfl (hm.slRd (.head _)) hb2 q2) rfl <| A.back <| A.q 4 rfl (by kernel_rfl) (fun _ => (mv rfl)) rfl <| A.q 5 rfl (by kernel_rfl) (fun _ => (ex rfl rfl)) rfl <| A.q 6 rfl (by kernel_rfl) (fun _ => (ex rfl rfl)) rfl <| A.one 8 rfl (by kernel_rfl) <| W.sta Try.sz37 rfl rfl (use_len hh) (B_one _) (.tl <| .hd) (by simp) <| A.back <| A.q 9 rfl (by kernel_rfl) (fun _ => (sa rfl)) rfl <| A.nil (by kernel_rfl) <| G.seq <| G.reg <| W.q (mv rfl) rfl <| W.q (mv rfl) rfl <| W.fn Try.ca14 rfl (fun w hm => ref16_Use a bs.length cap bs a2 msg.length cap2 msg w h328 rfl (hm.rd rfl hl) hcap rfl (hm.rd rfl hl2) hb2 hcap2) rfl fun v J hv hJ => ?_
          obtain ⟨v1, ⟨a3, c3, rfl, rfl⟩, rfl⟩ := hv
          refine W.q (mv rfl) rfl <| W.q (ex rfl rfl) rfl <| W.q (ex rfl rfl) rfl <| W.q (sa rfl) rfl <| W.q (sa rfl) rfl <| W.nil <| G.seq <| G.seq <| G.reg <| W.q (mv rfl) rfl <| W.q (mv rfl) rfl <| W.q (ne rfl rfl) rfl <| W.nil <| G.cdf rfl (decide_eq_false (fun h => h rfl)) <| G.skip <| G.seq <| G.reg <| W.q (mv rfl) rfl <| W.q (ne rfl rfl) rfl <| W.q (mv rfl) rfl <| W.sp (t := _) 40 rfl (fun g11 => ?_) (fun g11 => ?_)
          · -- True
            skip
            refine W.sk rfl rfl g11 rfl <| W.sk rfl rfl g11 rfl <| W.sk rfl rfl g11 rfl <| W.sk rfl rfl g11 rfl <| W.sk rfl rfl g11 rfl <| W.sku rfl rfl rfl <| W.sku rfl rfl rfl <| W.sku rfl rfl rfl <| W.sk rfl rfl g11 rfl <| W.q (pkt rfl g11 rfl) rfl <| W.q (sa rfl) rfl <| W.nil <| ret1 hX Try.results3 rfl fun w hm => done (H := []) rfl ?_ (Dr.ent (Dr.new rfl) w hm)
            rfl
          · -- False
            have he : useE msg = 0 := by simpa using g11
            have hul := useB_len (h := (bs.drop 8).take 288) (k := bs.drop 296) hh (use_ok he).2
            refine W.qg rfl rfl g11 (lda Try.agg37 Try.sz37 rfl (Cells.whole (.tl <| .tl <| .hd)) (use_len hh)) rfl <| ?_
            rw [if_pos he, if_pos he]
            refine W.fng rfl rfl g11 Try.ca16 rfl (fun w hm => packet_Bytes (useB ((bs.drop 8).take 288) (bs.drop 296) msg) w hul) rfl fun v J hv hJ => ?_
            obtain ⟨a4, c4, rfl, rfl⟩ := hv
            refine W.qg rfl rfl g11 (mv rfl) rfl <| W.fvg rfl rfl g11 Try.ca15 rfl (fun w hm => ref01_EqualT (hm.slRd (.head _)) (by rw [hul]; omega) (hm.slRd (.tail _ <| .head _)) rfl rfl rfl) rfl <| W.qg rfl rfl g11 (mv rfl) rfl <| W.qg rfl rfl rfl (mv rfl) rfl <| W.qg rfl rfl rfl (ln Try.esl22 rfl) rfl <| W.qg rfl rfl rfl (eq rfl rfl) rfl <| W.qg rfl rfl g11 (pkt rfl rfl rfl) rfl <| W.q (pkf rfl g11 rfl) rfl <| W.q (sa rfl) rfl <| W.nil <| ret1 hX Try.results3 rfl fun w hm => done (H := []) rfl ?_ (Dr.ent (Dr.new rfl) w hm)
            exact congrArg Value.bool (decide_eq_true (by rw [hul]; rfl))
      · -- o3: 2 first
        refine W.fn Try.ca13 rfl (fun w hm => ref01_Copy a2 cap2 msg w (hm.rd rfl hl2) hb2) rfl fun v J hv hJ => ?_
        obtain ⟨a1, c1, rfl, rfl⟩ := hv
        refine W.slAt (a := a1) (m := _) (cap := c1) (E := 5) (s := 1) (xs := _) (.head _) (fun q1 q2 q3 q4 => ?_)
        refine A.back <| A.held 0 [7] rfl (by kernel_rfl) (lda Try.agg31 Try.sz31 rfl (Cells.whole (.tl <| .hd)) cl) rfl <| A.two 3 7 rfl rfl (by kernel_rfl) ?_ ?_
        · -- o12: 3 first
          refine W.fv Try.ca12 rfl (fun w hm => surb_Use ((bs.drop 8).take 288) (bs.drop 296) (firstN bs) a1 msg.length c1 msg w hh hk rfl (hm.slRd (.head _)) hb2 q2) rfl <| A.back <| A.q 4 rfl (by kernel_rfl) (fun _ => (mv rfl)) rfl <| A.q 5 rfl (by kernel_rfl) (fun _ => (ex rfl rfl)) rfl <| A.q 6 rfl (by kernel_rfl) (fun _ => (ex rfl rfl)) rfl <| A.one 7 rfl (by kernel_rfl) <| W.al Try.zrl37 rfl fun b5 => A.back <| A.one 8 rfl (by kernel_rfl) <| W.sta Try.sz37 rfl rfl (use_len hh) (B_one _) .hd (by simp) <| A.back <| A.q 9 rfl (by kernel_rfl) (fun _ => (sa rfl)) rfl <| A.nil (by kernel_rfl) <| G.seq <| G.reg <| W.q (mv rfl) rfl <| W.q (mv rfl) rfl <| W.fn Try.ca14 rfl (fun w hm => ref16_Use a bs.length cap bs a2 msg.length cap2 msg w h328 rfl (hm.rd rfl hl) hcap rfl (hm.rd rfl hl2) hb2 hcap2) rfl fun v J hv hJ => ?_
          obtain ⟨v1, ⟨a3, c3, rfl, rfl⟩, rfl⟩ := hv
          refine W.q (mv rfl) rfl <| W.q (ex rfl rfl) rfl <| W.q (ex rfl rfl) rfl <| W.q (sa rfl) rfl <| W.q (sa rfl) rfl <| W.nil <| G.seq <| G.seq <| G.reg <| W.q (mv rfl) rfl <| W.q (mv rfl) rfl <| W.q (ne rfl rfl) rfl <| W.nil <| G.cdf rfl (decide_eq_false (fun h => h rfl)) <| G.skip <| G.seq <| G.reg <| W.q (mv rfl) rfl <| W.q (ne rfl rfl) rfl <| W.q (mv rfl) rfl <| W.sp (t := _) 40 rfl (fun g14 => ?_) (fun g14 => ?_)
          · -- True
            skip
            refine W.sk rfl rfl g14 rfl <| W.sk rfl rfl g14 rfl <| W.sk rfl rfl g14 rfl <| W.sk rfl rfl g14 rfl <| W.sk rfl rfl g14 rfl <| W.sku rfl rfl rfl <| W.sku rfl rfl rfl <| W.sku rfl rfl rfl <| W.sk rfl rfl g14 rfl <| W.q (pkt rfl g14 rfl) rfl <| W.q (sa rfl) rfl <| W.nil <| ret1 hX Try.results3 rfl fun w hm => done (H := []) rfl ?_ (Dr.ent (Dr.new rfl) w hm)
            rfl
          · -- False
            have he : useE msg = 0 := by simpa using g14
            have hul := useB_len (h := (bs.drop 8).take 288) (k := bs.drop 296) hh (use_ok he).2
            refine W.qg rfl rfl g14 (lda Try.agg37 Try.sz37 rfl (Cells.whole (.tl <| .hd)) (use_len hh)) rfl <| ?_
            rw [if_pos he, if_pos he]
            refine W.fng rfl rfl g14 Try.ca16 rfl (fun w hm => packet_Bytes (useB ((bs.drop 8).take 288) (bs.drop 296) msg) w hul) rfl fun v J hv hJ => ?_
            obtain ⟨a4, c4, rfl, rfl⟩ := hv
            refine W.qg rfl rfl g14 (mv rfl) rfl <| W.fvg rfl rfl g14 Try.ca15 rfl (fun w hm => ref01_EqualT (hm.slRd (.head _)) (by rw [hul]; omega) (hm.slRd (.tail _ <| .head _)) rfl rfl rfl) rfl <| W.qg rfl rfl g14 (mv rfl) rfl <| W.qg rfl rfl rfl (mv rfl) rfl <| W.qg rfl rfl rfl (ln Try.esl22 rfl) rfl <| W.qg rfl rfl rfl (eq rfl rfl) rfl <| W.qg rfl rfl g14 (pkt rfl rfl rfl) rfl <| W.q (pkf rfl g14 rfl) rfl <| W.q (sa rfl) rfl <| W.nil <| ret1 hX Try.results3 rfl fun w hm => done (H := []) rfl ?_ (Dr.ent (Dr.new rfl) w hm)
            exact congrArg Value.bool (decide_eq_true (by rw [hul]; rfl))
        · -- o12: 7 first
          refine W.al Try.zrl37 rfl fun b6 => A.back <| A.one 3 rfl (by kernel_rfl) <| W.fv Try.ca12 rfl (fun w hm => surb_Use ((bs.drop 8).take 288) (bs.drop 296) (firstN bs) a1 msg.length c1 msg w hh hk rfl (hm.slRd (.tail _ <| .head _)) hb2 q2) rfl <| A.back <| A.q 4 rfl (by kernel_rfl) (fun _ => (mv rfl)) rfl <| A.q 5 rfl (by kernel_rfl) (fun _ => (ex rfl rfl)) rfl <| A.q 6 rfl (by kernel_rfl) (fun _ => (ex rfl rfl)) rfl <| A.one 8 rfl (by kernel_rfl) <| W.sta Try.sz37 rfl rfl (use_len hh) (B_one _) .hd (by simp) <| A.back <| A.q 9 rfl (by kernel_rfl) (fun _ => (sa rfl)) rfl <| A.nil (by kernel_rfl) <| G.seq <| G.reg <| W.q (mv rfl) rfl <| W.q (mv rfl) rfl <| W.fn Try.ca14 rfl (fun w hm => ref16_Use a bs.length cap bs a2 msg.length cap2 msg w h328 rfl (hm.rd rfl hl) hcap rfl (hm.rd rfl hl2) hb2 hcap2) rfl fun v J hv hJ => ?_
          obtain ⟨v1, ⟨a3, c3, rfl, rfl⟩, rfl⟩ := hv
          refine W.q (mv rfl) rfl <| W.q (ex rfl rfl) rfl <| W.q (ex rfl rfl) rfl <| W.q (sa rfl) rfl <| W.q (sa rfl) rfl <| W.nil <| G.seq <| G.seq <| G.reg <| W.q (mv rfl) rfl <| W.q (mv rfl) rfl <| W.q (ne rfl rfl) rfl <| W.nil <| G.cdf rfl (decide_eq_false (fun h => h rfl)) <| G.skip <| G.seq <| G.reg <| W.q (mv rfl) rfl <| W.q (ne rfl rfl) rfl <| W.q (mv rfl) rfl <| W.sp (t := _) 40 rfl (fun g16 => ?_) (fun g16 => ?_)
          · -- True
            skip
            refine W.sk rfl rfl g16 rfl <| W.sk rfl rfl g16 rfl <| W.sk rfl rfl g16 rfl <| W.sk rfl rfl g16 rfl <| W.sk rfl rfl g16 rfl <| W.sku rfl rfl rfl <| W.sku rfl rfl rfl <| W.sku rfl rfl rfl <| W.sk rfl rfl g16 rfl <| W.q (pkt rfl g16 rfl) rfl <| W.q (sa rfl) rfl <| W.nil <| ret1 hX Try.results3 rfl fun w hm => done (H := []) rfl ?_ (Dr.ent (Dr.new rfl) w hm)
            rfl
          · -- False
            have he : useE msg = 0 := by simpa using g16
            have hul := useB_len (h := (bs.drop 8).take 288) (k := bs.drop 296) hh (use_ok he).2
            refine W.qg rfl rfl g16 (lda Try.agg37 Try.sz37 rfl (Cells.whole (.tl <| .hd)) (use_len hh)) rfl <| ?_
            rw [if_pos he, if_pos he]
            refine W.fng rfl rfl g16 Try.ca16 rfl (fun w hm => packet_Bytes (useB ((bs.drop 8).take 288) (bs.drop 296) msg) w hul) rfl fun v J hv hJ => ?_
            obtain ⟨a4, c4, rfl, rfl⟩ := hv
            refine W.qg rfl rfl g16 (mv rfl) rfl <| W.fvg rfl rfl g16 Try.ca15 rfl (fun w hm => ref01_EqualT (hm.slRd (.head _)) (by rw [hul]; omega) (hm.slRd (.tail _ <| .head _)) rfl rfl rfl) rfl <| W.qg rfl rfl g16 (mv rfl) rfl <| W.qg rfl rfl rfl (mv rfl) rfl <| W.qg rfl rfl rfl (ln Try.esl22 rfl) rfl <| W.qg rfl rfl rfl (eq rfl rfl) rfl <| W.qg rfl rfl g16 (pkt rfl rfl rfl) rfl <| W.q (pkf rfl g16 rfl) rfl <| W.q (sa rfl) rfl <| W.nil <| ret1 hX Try.results3 rfl fun w hm => done (H := []) rfl ?_ (Dr.ent (Dr.new rfl) w hm)
            exact congrArg Value.bool (decide_eq_true (by rw [hul]; rfl))
      · -- o3: 7 first
        refine W.al Try.zrl37 rfl fun b7 => A.back <| A.two 0 2 rfl rfl (by kernel_rfl) ?_ ?_
        · -- o17: 0 first
          refine W.q (lda Try.agg31 Try.sz31 rfl (Cells.whole (.tl <| .hd)) cl) rfl <| A.back <| A.one 2 rfl (by kernel_rfl) <| W.fn Try.ca13 rfl (fun w hm => ref01_Copy a2 cap2 msg w (hm.rd rfl hl2) hb2) rfl fun v J hv hJ => ?_
          obtain ⟨a1, c1, rfl, rfl⟩ := hv
          refine W.slAt (a := a1) (m := _) (cap := c1) (E := 5) (s := 1) (xs := _) (.head _) (fun q1 q2 q3 q4 => ?_)
          refine A.back <| A.one 3 rfl (by kernel_rfl) <| W.fv Try.ca12 rfl (fun w hm => surb_Use ((bs.drop 8).take 288) (bs.drop 296) (firstN bs) a1 msg.length c1 msg w hh hk rfl (hm.slRd (.head _)) hb2 q2) rfl <| A.back <| A.q 4 rfl (by kernel_rfl) (fun _ => (mv rfl)) rfl <| A.q 5 rfl (by kernel_rfl) (fun _ => (ex rfl rfl)) rfl <| A.q 6 rfl (by kernel_rfl) (fun _ => (ex rfl rfl)) rfl <| A.one 8 rfl (by kernel_rfl) <| W.sta Try.sz37 rfl rfl (use_len hh) (B_one _) (.tl <| .hd) (by simp) <| A.back <| A.q 9 rfl (by kernel_rfl) (fun _ => (sa rfl)) rfl <| A.nil (by kernel_rfl) <| G.seq <| G.reg <| W.q (mv rfl) rfl <| W.q (mv rfl) rfl <| W.fn Try.ca14 rfl (fun w hm => ref16_Use a bs.length cap bs a2 msg.length cap2 msg w h328 rfl (hm.rd rfl hl) hcap rfl (hm.rd rfl hl2) hb2 hcap2) rfl fun v J hv hJ => ?_
          obtain ⟨v1, ⟨a3, c3, rfl, rfl⟩, rfl⟩ := hv
          refine W.q (mv rfl) rfl <| W.q (ex rfl rfl) rfl <| W.q (ex rfl rfl) rfl <| W.q (sa rfl) rfl <| W.q (sa rfl) rfl <| W.nil <| G.seq <| G.seq <| G.reg <| W.q (mv rfl) rfl <| W.q (mv rfl) rfl <| W.q (ne rfl rfl) rfl <| W.nil <| G.cdf rfl (decide_eq_false (fun h => h rfl)) <| G.skip <| G.seq <| G.reg <| W.q (mv rfl) rfl <| W.q (ne rfl rfl) rfl <| W.q (mv rfl) rfl <| W.sp (t := _) 40 rfl (fun g19 => ?_) (fun g19 => ?_)
          · -- True
            skip
            refine W.sk rfl rfl g19 rfl <| W.sk rfl rfl g19 rfl <| W.sk rfl rfl g19 rfl <| W.sk rfl rfl g19 rfl <| W.sk rfl rfl g19 rfl <| W.sku rfl rfl rfl <| W.sku rfl rfl rfl <| W.sku rfl rfl rfl <| W.sk rfl rfl g19 rfl <| W.q (pkt rfl g19 rfl) rfl <| W.q (sa rfl) rfl <| W.nil <| ret1 hX Try.results3 rfl fun w hm => done (H := []) rfl ?_ (Dr.ent (Dr.new rfl) w hm)
            rfl
          · -- False
            have he : useE msg = 0 := by simpa using g19
            have hul := useB_len (h := (bs.drop 8).take 288) (k := bs.drop 296) hh (use_ok he).2
            refine W.qg rfl rfl g19 (lda Try.agg37 Try.sz37 rfl (Cells.whole (.tl <| .tl <| .hd)) (use_len hh)) rfl <| ?_
            rw [if_pos he, if_pos he]
            refine W.fng rfl rfl g19 Try.ca16 rfl (fun w hm => packet_Bytes (useB ((bs.drop 8).take 288) (bs.drop 296) msg) w hul) rfl fun v J hv hJ => ?_
            obtain ⟨a4, c4, rfl, rfl⟩ := hv
            refine W.qg rfl rfl g19 (mv rfl) rfl <| W.fvg rfl rfl g19 Try.ca15 rfl (fun w hm => ref01_EqualT (hm.slRd (.head _)) (by rw [hul]; omega) (hm.slRd (.tail _ <| .head _)) rfl rfl rfl) rfl <| W.qg rfl rfl g19 (mv rfl) rfl <| W.qg rfl rfl rfl (mv rfl) rfl <| W.qg rfl rfl rfl (ln Try.esl22 rfl) rfl <| W.qg rfl rfl rfl (eq rfl rfl) rfl <| W.qg rfl rfl g19 (pkt rfl rfl rfl) rfl <| W.q (pkf rfl g19 rfl) rfl <| W.q (sa rfl) rfl <| W.nil <| ret1 hX Try.results3 rfl fun w hm => done (H := []) rfl ?_ (Dr.ent (Dr.new rfl) w hm)
            exact congrArg Value.bool (decide_eq_true (by rw [hul]; rfl))
        · -- o17: 2 first
          refine W.fn Try.ca13 rfl (fun w hm => ref01_Copy a2 cap2 msg w (hm.rd rfl hl2) hb2) rfl fun v J hv hJ => ?_
          obtain ⟨a1, c1, rfl, rfl⟩ := hv
          refine W.slAt (a := a1) (m := _) (cap := c1) (E := 5) (s := 1) (xs := _) (.head _) (fun q1 q2 q3 q4 => ?_)
          refine A.back <| A.held 0 [] rfl (by kernel_rfl) (lda Try.agg31 Try.sz31 rfl (Cells.whole (.tl <| .tl <| .hd)) cl) rfl <| A.one 3 rfl (by kernel_rfl) <| W.fv Try.ca12 rfl (fun w hm => surb_Use ((bs.drop 8).take 288) (bs.drop 296) (firstN bs) a1 msg.length c1 msg w hh hk rfl (hm.slRd (.head _)) hb2 q2) rfl <| A.back <| A.q 4 rfl (by kernel_rfl) (fun _ => (mv rfl)) rfl <| A.q 5 rfl (by kernel_rfl) (fun _ => (ex rfl rfl)) rfl <| A.q 6 rfl (by kernel_rfl) (fun _ => (ex rfl rfl)) rfl <| A.one 8 rfl (by kernel_rfl) <| W.sta Try.sz37 rfl rfl (use_len hh) (B_one _) (.tl <| .hd) (by simp) <| A.back <| A.q 9 rfl (by kernel_rfl) (fun _ => (sa rfl)) rfl <| A.nil (by kernel_rfl) <| G.seq <| G.reg <| W.q (mv rfl) rfl <| W.q (mv rfl) rfl <| W.fn Try.ca14 rfl (fun w hm => ref16_Use a bs.length cap bs a2 msg.length cap2 msg w h328 rfl (hm.rd rfl hl) hcap rfl (hm.rd rfl hl2) hb2 hcap2) rfl fun v J hv hJ => ?_
          obtain ⟨v1, ⟨a3, c3, rfl, rfl⟩, rfl⟩ := hv
          refine W.q (mv rfl) rfl <| W.q (ex rfl rfl) rfl <| W.q (ex rfl rfl) rfl <| W.q (sa rfl) rfl <| W.q (sa rfl) rfl <| W.nil <| G.seq <| G.seq <| G.reg <| W.q (mv rfl) rfl <| W.q (mv rfl) rfl <| W.q (ne rfl rfl) rfl <| W.nil <| G.cdf rfl (decide_eq_false (fun h => h rfl)) <| G.skip <| G.seq <| G.reg <| W.q (mv rfl) rfl <| W.q (ne rfl rfl) rfl <| W.q (mv rfl) rfl <| W.sp (t := _) 40 rfl (fun g21 => ?_) (fun g21 => ?_)
          · -- True
            skip
            refine W.sk rfl rfl g21 rfl <| W.sk rfl rfl g21 rfl <| W.sk rfl rfl g21 rfl <| W.sk rfl rfl g21 rfl <| W.sk rfl rfl g21 rfl <| W.sku rfl rfl rfl <| W.sku rfl rfl rfl <| W.sku rfl rfl rfl <| W.sk rfl rfl g21 rfl <| W.q (pkt rfl g21 rfl) rfl <| W.q (sa rfl) rfl <| W.nil <| ret1 hX Try.results3 rfl fun w hm => done (H := []) rfl ?_ (Dr.ent (Dr.new rfl) w hm)
            rfl
          · -- False
            have he : useE msg = 0 := by simpa using g21
            have hul := useB_len (h := (bs.drop 8).take 288) (k := bs.drop 296) hh (use_ok he).2
            refine W.qg rfl rfl g21 (lda Try.agg37 Try.sz37 rfl (Cells.whole (.tl <| .tl <| .hd)) (use_len hh)) rfl <| ?_
            rw [if_pos he, if_pos he]
            refine W.fng rfl rfl g21 Try.ca16 rfl (fun w hm => packet_Bytes (useB ((bs.drop 8).take 288) (bs.drop 296) msg) w hul) rfl fun v J hv hJ => ?_
            obtain ⟨a4, c4, rfl, rfl⟩ := hv
            refine W.qg rfl rfl g21 (mv rfl) rfl <| W.fvg rfl rfl g21 Try.ca15 rfl (fun w hm => ref01_EqualT (hm.slRd (.head _)) (by rw [hul]; omega) (hm.slRd (.tail _ <| .head _)) rfl rfl rfl) rfl <| W.qg rfl rfl g21 (mv rfl) rfl <| W.qg rfl rfl rfl (mv rfl) rfl <| W.qg rfl rfl rfl (ln Try.esl22 rfl) rfl <| W.qg rfl rfl rfl (eq rfl rfl) rfl <| W.qg rfl rfl g21 (pkt rfl rfl rfl) rfl <| W.q (pkf rfl g21 rfl) rfl <| W.q (sa rfl) rfl <| W.nil <| ret1 hX Try.results3 rfl fun w hm => done (H := []) rfl ?_ (Dr.ent (Dr.new rfl) w hm)
            exact congrArg Value.bool (decide_eq_true (by rw [hul]; rfl))
end Go.Proofs.Ytjalojbihpdghaa
