/- A reply block, parsed, and its bytes; SurbBlocks. -/
import Derived.Test.YtjalojbihpdghaaHeader
import Derived.Test.YtjalojbihpdghaaNums
namespace Go.Proofs.Ytjalojbihpdghaa
open Go Go.Eng
set_option linter.unusedVariables false

theorem blk_cut (bs : List UInt8) : cutR bs [8, 288, 32] = if bs.length = 328 then ([bs.take 8, (bs.drop 8).take 288, (bs.drop 296).take 32], 0) else ([], 2) := by
  rw [cutR, if_neg (by simp)]
  have : upTo [8, 288, 32] [(8 : Int), 288, 32].length = 328 := by decide
  rw [this]
  by_cases h : bs.length = 328
  · rw [if_pos h.symm, if_pos h]; simp [cuts]
  · rw [if_neg (fun h' => h h'.symm), if_neg h]
theorem split328 (bs : List UInt8) (h : bs.length = 328) : bs.take 8 ++ ((bs.drop 8).take 288 ++ (bs.drop 296).take 32) = bs := by
  rw [List.take_of_length_le (l := bs.drop 296) (by simp; omega), show bs.drop 296 = (bs.drop 8).drop 288 by simp, List.take_append_drop, List.take_append_drop]
/-- A block's cells: the header's bytes, the number, the key. -/
def blkC (h : List UInt8) (n : UInt64) (k : List UInt8) : List Value := B h ++ (u64 n :: B k)
theorem blkC_len {h k : List UInt8} {n : UInt64} (hh : h.length = 288) (hk : k.length = 32) : (blkC h n k).length = 321 := by simp [blkC, hh, hk]
theorem blkC_one (h k : List UInt8) (n : UInt64) : (blkC h n k).all (·.oneCell') = true := by simp [blkC, Value.oneCell']
def blk0 : List Value := blkC (List.replicate 288 0) 0 (List.replicate 32 0)
def firstN (bs : List UInt8) : UInt64 := UInt64.ofNat (beN (bs.take 8))
theorem get_first (bs x : List UInt8) (h : x = bs.take 8) (hl : bs.length = 328) : getR 2 x 0 8 = (firstN bs, 0) := by
  subst h
  rw [getR, if_neg (by simp [shapeR]), if_neg (by simp; omega)]
  simp [ordB, firstN, List.take_take]
def blkR (bs : List UInt8) : List Value × Int :=
  if bs.length = 328 then if firstN bs = 0 then (blk0, 3) else (blkC ((bs.drop 8).take 288) (firstN bs) ((bs.drop 296).take 32), 0) else (blk0, 2)
theorem blk0_eq : blk0 = List.replicate 288 (.int .u8 0) ++ [.int .u64 0] ++ List.replicate 32 (.int .u8 0) := by
  show B (List.replicate 288 0) ++ (u64 0 :: B (List.replicate 32 0)) = _
  rw [B_zeros, B_zeros, List.append_assoc]; rfl


set_option maxRecDepth 100000 in
theorem surb_Parse (a : Option Addr) (len cap : Nat) (bs : List UInt8) (w : World) (hlen : len = bs.length) (hl : RdL w a (B bs)) (hb : bs.length ≤ 140737488351232) (hcap : bs.length ≤ cap) :
    Ret Try.prog 11 [.slice a len cap] w (fun v _ => v = .tuple #[.agg (blkR bs).1.toArray, i64 (blkR bs).2]) := by
  subst hlen
  refine enter [] (Mem.nil _) Try.func11 rfl Try.ntmps11 rfl (fun X hX => ?_)
  have hw := hX.w0; subst hw
  refine G.seq <| G.reg <| W.al Try.zrl31 rfl fun b1 => W.q (sa rfl) rfl <| W.nil <| G.seq <| G.reg <| W.q (mv rfl) rfl <| W.bs (cs := [_, _, _]) Try.underlying62 Try.sz3 Try.zrl3 rfl rfl rfl rfl fun b2 => W.fn Try.ca39 rfl (fun w hm => codec_Cut a cap bs w (hm.rd rfl hl) hb hcap (some ⟨b2, 0, none⟩) 3 [8, 288, 32] (hm.rowRd .hd) (by decide) (by decide)) rfl fun v J hv hJ => ?_
  obtain ⟨v1, ⟨a1, c1, ps, hps, rfl, hJe⟩, rfl⟩ := hv
  have hc := blk_cut bs
  rw [hc] at hps ⊢
  refine W.q (mv rfl) rfl <| W.q (ex rfl rfl) rfl <| W.q (ex rfl rfl) rfl <| W.q (sa rfl) rfl <| W.q (sa rfl) rfl <| W.nil <| G.seq <| G.seq <| G.reg <| W.q (mv rfl) rfl <| W.q (ne rfl rfl) rfl <| W.nil <| G.cdd rfl (fun h1 => ?_) (fun h1 => ?_)
  · -- h1 True
    refine G.seq <| ?_
    have h328 : bs.length ≠ 328 := fun h => by rw [if_pos h] at h1; exact h1 rfl
    refine G.ent (Dr.ent (Dr.allS hJ rfl <| .drop rfl .rfl)) ?_
    refine G.reg <| W.q (bld Try.stp31 rfl rfl) rfl <| W.sta Try.sz31 rfl rfl rfl rfl .hd (by simp) <| W.q (sa rfl) rfl <| W.nil <| ret hX Try.results11 (RA.cella rfl Try.agg31 Try.sz31 (Cells.whole .hd) (by simp) <| RA.tmp rfl <| RA.nil) fun w hm => done (H := []) rfl ?_ (Dr.ent (Dr.new rfl) w hm)
    rw [blkR, if_neg h328, blk0_eq]; rfl
  · -- h1 False
    refine G.skip <| G.seq <| ?_
    have h328 : bs.length = 328 := Classical.byContradiction fun h => h1 (by rw [if_neg h]; decide)
    rw [if_pos h328] at hps
    obtain ⟨⟨g1, k1, x1⟩, ⟨g2, k2, x2⟩, ⟨g3, k3, x3⟩, rfl⟩ : ∃ p1 p2 p3, ps = [p1, p2, p3] := len3 (by have := congrArg List.length hps; simpa using this)
    simp only [List.map_cons, List.map_nil, List.cons.injEq, and_true] at hps
    have hx1 : x1.length = 8 := by rw [hps.1]; simp; omega
    have hx2 : x2.length = 288 := by rw [hps.2.1]; simp; omega
    have hx3 : x3.length = 32 := by rw [hps.2.2]; simp; omega
    have hg := get_first bs x1 hps.1 h328
    rw [hJe]
    refine G.rdA (a := a1) (cells := _) (Rdf.sl (.head _)) (by simp) (fun ob oo ho => ?_)
    refine G.rdA (a := g1) (cells := B x1) (Rdf.sl (m := x1.length) (cap := k1) (E := 5) (s := 1) (.tail _ (.head _))) (by rw [Bl]; omega) (fun b1' o1' hb1 => ?_)
    refine G.slAt (a := g2) (m := x2.length) (cap := k2) (E := 5) (s := 1) (xs := B x2) (.tail _ (.tail _ (.head _))) (fun q1 q2 q3 q4 => ?_)
    refine G.rdA (a := g2) (cells := B x2) (Rdf.sl (m := x2.length) (cap := k2) (E := 5) (s := 1) (.tail _ (.tail _ (.head _)))) (by rw [Bl]; omega) (fun b2' o2' hb2 => ?_)
    refine G.rdA (a := g3) (cells := B x3) (Rdf.sl (m := x3.length) (cap := k3) (E := 5) (s := 1) (.tail _ (.tail _ (.tail _ (.head _))))) (by rw [Bl]; omega) (fun b3' o3' hb3 => ?_)
    subst ho hb1 hb2 hb3
    refine G.reg <| W.q (mv rfl) rfl <| W.q (ia Try.esl73 rfl rfl (by omega) (by simp)) rfl <| W.q (ld Try.sc22 rfl ((Rdf.sl (.head _)).cellOf (i := 0) rfl)) rfl <| W.fv Try.ca40 rfl (fun w hm => by have := codec_Get 2 (some ⟨b1', o1', none⟩) x1.length k1 x1 w rfl (hm.slRd (m := x1.length) (cap := k1) (E := 5) (s := 1) (.tail _ <| .head _)) (by omega) 0 8; rw [hg] at this; exact this) rfl <| W.q (mv rfl) rfl <| W.q (ex rfl rfl) rfl <| W.q (ex rfl rfl) rfl <| W.q (sa rfl) rfl <| W.q (sa rfl) rfl <| W.nil <| G.seq <| G.seq <| G.reg <| W.q (mv rfl) rfl <| W.q (eq rfl rfl) rfl <| W.nil <| G.cdd rfl (fun h2 => ?_) (fun h2 => ?_)
    · -- h2 True
      refine G.seq <| G.reg <| W.q (bld Try.stp31 rfl rfl) rfl <| W.sta Try.sz31 rfl rfl (by simp) rfl (.tl <| .tl <| .tl <| .tl <| .tl <| .hd) (by simp) <| W.q (sa rfl) rfl <| W.nil <| ret hX Try.results11 (RA.cella rfl Try.agg31 Try.sz31 (Cells.whole (.tl <| .tl <| .tl <| .tl <| .tl <| .hd)) (by simp) <| RA.tmp rfl <| RA.nil) fun w hm => done (H := []) rfl ?_ (Dr.ent (Dr.new rfl) w hm)
      rw [blkR, if_pos h328, if_pos (UInt64.toNat_inj.1 (by simpa using h2)), blk0_eq]; rfl
    · -- h2 False
      refine G.skip <| G.seq <| G.reg <| W.q (mv rfl) rfl <| W.q (ia Try.esl73 rfl rfl (by omega) (by simp)) rfl <| W.q (ld Try.sc22 rfl ((Rdf.sl (.head _)).cellOf (i := 1) rfl)) rfl <| W.fv Try.ca33 rfl (fun w hm => header_ParseOK (some ⟨b2', o2', none⟩) x2.length k2 x2 w rfl (hm.slRd (m := x2.length) (cap := k2) (E := 5) (s := 1) (.tail _ <| .tail _ <| .head _)) hx2 q2) rfl <| W.q (mv rfl) rfl <| W.q (ex rfl rfl) rfl <| W.q (ex rfl rfl) rfl <| W.al Try.zrl28 rfl fun b3 => W.sta Try.sz28 rfl rfl (by rw [Bl]; omega) (B_one _) .hd (by simp) <| W.q (sa rfl) rfl <| W.nil <| G.seq <| G.regt 8 Try.mixed (by kernel_rfl) <| W.q (lda Try.agg28 Try.sz28 rfl (Cells.whole .hd) (by rw [Bl]; omega)) rfl <| W.q (mv rfl) rfl <| W.q (mv rfl) rfl <| W.q (ia Try.esl73 rfl rfl (by omega) (by simp)) rfl <| W.q (ld Try.sc22 rfl ((Rdf.sl (.tail _ <| .head _)).cellOf (i := 2) rfl)) rfl <| W.q (stp_ Try.ear24 rfl (by show 32 ≤ x3.length; omega)) rfl <| W.q (lda Try.agg24 Try.sz24 rfl (Rdf.cl (Rdf.sl (m := x3.length) (cap := k3) (E := 5) (s := 1) (xs := B x3) (.tail _ <| .tail _ <| .tail _ <| .tail _ <| .head _))) (by rw [Bl]; omega)) rfl <| W.q ((blds (cs := blkC x2 (firstN bs) x3) Try.stp31 rfl (by simp [seqB, cellsL, hx2, hx3]) (by simp [cellsL, hx2, hx3]) (by simp [cellsL, blkC]))) rfl <| W.nilt <| W.sta Try.sz31 rfl rfl (blkC_len hx2 hx3) (blkC_one _ _ _) (.tl <| .tl <| .tl <| .tl <| .tl <| .tl <| .hd) (by simp) <| W.q (sa rfl) rfl <| W.nil <| ret hX Try.results11 (RA.cella rfl Try.agg31 Try.sz31 (Cells.whole (.tl <| .tl <| .tl <| .tl <| .tl <| .tl <| .hd)) (blkC_len hx2 hx3) <| RA.tmp rfl <| RA.nil) fun w hm => done (H := []) rfl ?_ (Dr.ent (Dr.new rfl) w hm)
      rw [blkR, if_pos h328, if_neg (fun h => h2 (by rw [h]; rfl)), ← hps.2.1, ← hps.2.2]; rfl


set_option maxRecDepth 100000 in
theorem surb_Bytes (h k : List UInt8) (n : UInt64) (w : World) (hh : h.length = 288) (hk : k.length = 32) :
    Ret Try.prog 38 [.agg (blkC h n k).toArray] w (NewB ((leB 8 n.toNat).reverse ++ (h ++ k))) := by
  refine enter [] (Mem.nil _) Try.func38 rfl Try.ntmps38 rfl (fun X hX => ?_)
  have hw := hX.w0; subst hw
  have hput : putR 2 8 n = ((leB 8 n.toNat).reverse, 0) := by rw [putR, if_neg (by simp [shapeR]), if_neg (by omega), if_pos rfl]; rfl
  have hj : [(leB 8 n.toNat).reverse, h, k].flatten = (leB 8 n.toNat).reverse ++ (h ++ k) := by simp
  have hc1 : (blkC h n k)[288]? = some (u64 n) := by rw [blkC, List.getElem?_append_right (by rw [Bl]; omega)]; simp [hh]
  have hcH : ∀ i v, (B h)[i]? = some v → (blkC h n k)[0 + i]? = some v := at_app (pre := []) rfl
  have hcK : ∀ i v, (B k)[i]? = some v → (blkC h n k)[289 + i]? = some v := fun i v hv => by
    have := at_app (pre := B h ++ [u64 n]) (ds := B k) (post := []) (o := 289) (by simp [hh]) i v hv
    simpa [blkC] using this
  refine G.seq <| G.reg <| W.bxa rfl rfl fun b1 => W.q (sa rfl) rfl <| W.nil <| G.seq <| G.reg <| W.q (fa Try.fof31_1 rfl) rfl <| W.q (ld Try.sc29 rfl (Cell.at .hd hc1)) rfl <| W.fn Try.ca59 rfl (fun w hm => codec_Put 2 8 n w) rfl fun v J hv hJ => ?_
  rw [hput] at hv
  obtain ⟨v1, ⟨a1, c1, rfl, rfl⟩, rfl⟩ := hv
  refine W.slAt (a := a1) (m := _) (cap := c1) (E := 5) (s := 1) (xs := _) (.head _) (fun q1 q2 q3 q4 => ?_)
  refine W.q (mv rfl) rfl <| W.q (ex rfl rfl) rfl <| W.q (ex rfl rfl) rfl <| W.q (sa rfl) rfl <| W.q (sa rfl) rfl <| W.nil <| G.seq <| G.rega 9 rfl Try.mixed <| A.q 0 rfl (by kernel_rfl) (fun _ => (mv rfl)) rfl <| A.q 1 rfl (by kernel_rfl) (fun _ => (fa Try.fof31_0 rfl)) rfl <| A.q 4 rfl (by kernel_rfl) (fun _ => (fa Try.fof31_2 rfl)) rfl <| A.q 5 rfl (by kernel_rfl) (fun _ => (saa Try.ear24 rfl )) rfl <| A.held 2 [] rfl (by kernel_rfl) (lda Try.agg28 Try.sz28 rfl (Cells.part (.tl <| .hd) hcH) (by rw [Bl]; exact hh)) rfl <| A.one 3 rfl (by kernel_rfl) <| W.fn Try.ca34 rfl (fun w hm => header_Bytes h w hh) rfl fun v J hv hJ => ?_
  obtain ⟨a2, c2, rfl, rfl⟩ := hv
  refine W.slAt (a := a2) (m := _) (cap := c2) (E := 5) (s := 1) (xs := _) (.head _) (fun p1 p2 p3 p4 => ?_)
  refine A.back <| A.one 6 rfl (by kernel_rfl) <| W.bs (cs := [_, _, _]) Try.underlying73 Try.sz22 Try.zrl22 rfl rfl rfl rfl fun b2 => A.back <| A.one 7 rfl (by kernel_rfl) <| W.fn Try.ca44 rfl (fun w hm => codec_Join (some ⟨b2, 0, none⟩) 3 [.slice a1 _ c1, .slice a2 _ c2, slc b1 289 32 32] [(leB 8 n.toNat).reverse, h, k] w (hm.rowRd .hd) (.cons (.of (hm.slRd (.tail _ <| .tail _ <| .head _)) rfl q2) (.cons (.of (hm.slRd (.tail _ <| .head _)) rfl p2) (.cons (.of (RdS.cells (Cells.part (.tl <| .tl <| .tl <| .hd) hcK) w hm) hk.symm (by omega)) .nil))) (by rw [hj]; simp [leB_len]; omega) (by simp) (by simp)) rfl fun v J hv hJ => ?_
  rw [hj] at hv
  obtain ⟨a3, c3, rfl, rfl⟩ := hv
  refine A.back <| A.q 8 rfl (by kernel_rfl) (fun _ => (sa rfl)) rfl <| A.nil (by kernel_rfl) <| ret1 hX Try.results38 rfl fun w hm => done (H := [sl a3 _ c3 5 1 (B _)]) rfl ⟨a3, c3, rfl, rfl⟩ (Dr.ent (.keep <| .drop rfl <| .drop rfl <| .drop rfl <| .drop rfl .rfl) w hm)
end Go.Proofs.Ytjalojbihpdghaa
