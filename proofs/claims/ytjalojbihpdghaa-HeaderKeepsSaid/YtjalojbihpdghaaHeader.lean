/- A header and a packet: parsed, and their bytes. -/
import Derived.Test.YtjalojbihpdghaaCut
import Derived.Test.YtjalojbihpdghaaJoin
import Derived.Test.YtjalojbihpdghaaLeast
namespace Go.Proofs.Ytjalojbihpdghaa
open Go Go.Eng
set_option linter.unusedVariables false

theorem hdr_cut (bs : List UInt8) : cutR bs [32, 16, 240] = if bs.length = 288 then ([bs.take 32, (bs.drop 32).take 16, (bs.drop 48).take 240], 0) else ([], 2) := by
  rw [cutR, if_neg (by simp)]
  have : upTo [32, 16, 240] [(32 : Int), 16, 240].length = 288 := by decide
  rw [this]
  by_cases h : bs.length = 288
  · rw [if_pos h.symm, if_pos h]; simp [cuts]
  · rw [if_neg (fun h' => h h'.symm), if_neg h]
/-- So many bytes, or noughts. -/
def bytesOr (n : Nat) (bs : List UInt8) : List UInt8 := if bs.length = n then bs else List.replicate n 0
theorem bytesOr_len (n : Nat) (bs : List UInt8) : (bytesOr n bs).length = n := by unfold bytesOr; split <;> simp_all
theorem B_zeros (n : Nat) : B (List.replicate n 0) = List.replicate n (.int .u8 0) := by simp [B]
theorem split288 (bs : List UInt8) (h : bs.length = 288) : bs.take 32 ++ ((bs.drop 32).take 16 ++ (bs.drop 48).take 240) = bs := by
  rw [List.take_of_length_le (l := bs.drop 48) (by simp; omega), show bs.drop 48 = (bs.drop 32).drop 16 by simp, List.take_append_drop, List.take_append_drop]


set_option maxRecDepth 100000 in
theorem header_Parse (a : Option Addr) (len cap : Nat) (bs : List UInt8) (w : World) (hlen : len = bs.length) (hl : RdL w a (B bs)) (hb : bs.length ≤ 140737488351232) (hcap : bs.length ≤ cap) :
    Ret Try.prog 33 [.slice a len cap] w (fun v _ => v = .tuple #[.agg (B (bytesOr 288 bs)).toArray, i64 (if bs.length = 288 then 0 else 2)]) := by
  subst hlen
  refine enter [] (Mem.nil _) Try.func33 rfl Try.ntmps33 rfl (fun X hX => ?_)
  have hw := hX.w0; subst hw
  refine G.seq <| G.reg <| W.al Try.zrl28 rfl fun b1 => W.q (sa rfl) rfl <| W.nil <| G.seq <| G.reg <| W.q (mv rfl) rfl <| W.bs (cs := [_, _, _]) Try.underlying62 Try.sz3 Try.zrl3 rfl rfl rfl rfl fun b2 => W.fn Try.ca39 rfl (fun w hm => codec_Cut a cap bs w (hm.rd rfl hl) hb hcap (some ⟨b2, 0, none⟩) 3 [32, 16, 240] (hm.rowRd .hd) (by decide) (by decide)) rfl fun v J hv hJ => ?_
  obtain ⟨v1, ⟨a1, c1, ps, hps, rfl, hJe⟩, rfl⟩ := hv
  have hc := hdr_cut bs
  rw [hc] at hps ⊢
  refine W.q (mv rfl) rfl <| W.q (ex rfl rfl) rfl <| W.q (ex rfl rfl) rfl <| W.q (sa rfl) rfl <| W.q (sa rfl) rfl <| W.nil <| G.seq <| G.seq <| G.reg <| W.q (mv rfl) rfl <| W.q (ne rfl rfl) rfl <| W.nil <| G.cdd rfl (fun h1 => ?_) (fun h1 => ?_)
  · -- h1 True
    refine G.seq <| ?_
    have h288 : bs.length ≠ 288 := fun h => by rw [if_pos h] at h1; exact h1 rfl
    refine G.ent (Dr.ent (Dr.allS hJ rfl <| .drop rfl .rfl)) ?_
    refine G.reg <| W.q (bld Try.stp28 rfl rfl) rfl <| W.sta Try.sz28 rfl rfl rfl rfl .hd (by simp) <| W.q (sa rfl) rfl <| W.nil <| ret hX Try.results33 (RA.cella rfl Try.agg28 Try.sz28 (Cells.whole .hd) (by simp) <| RA.tmp rfl <| RA.nil) fun w hm => done (H := []) rfl ?_ (Dr.ent (Dr.new rfl) w hm)
    rw [bytesOr, if_neg h288, if_neg h288, B_zeros]; rfl
  · -- h1 False
    refine G.skip <| G.seq <| ?_
    have h288 : bs.length = 288 := Classical.byContradiction fun h => h1 (by rw [if_neg h]; decide)
    rw [if_pos h288] at hps
    obtain ⟨⟨g1, k1, x1⟩, ⟨g2, k2, x2⟩, ⟨g3, k3, x3⟩, rfl⟩ : ∃ p1 p2 p3, ps = [p1, p2, p3] := len3 (by have := congrArg List.length hps; simpa using this)
    simp only [List.map_cons, List.map_nil, List.cons.injEq, and_true] at hps
    have hsp := split288 bs h288
    rw [← hps.1, ← hps.2.1, ← hps.2.2] at hsp
    have hx1 : x1.length = 32 := by rw [hps.1]; simp; omega
    have hx2 : x2.length = 16 := by rw [hps.2.1]; simp; omega
    have hx3 : x3.length = 240 := by rw [hps.2.2]; simp; omega
    rw [hJe]
    refine G.rdA (a := a1) (cells := _) (Rdf.sl (.head _)) (by simp) (fun ob oo ho => ?_)
    refine G.rdA (a := g1) (cells := B x1) (Rdf.sl (m := x1.length) (cap := k1) (E := 5) (s := 1) (.tail _ (.head _))) (by rw [Bl]; omega) (fun b1' o1' hb1 => ?_)
    refine G.rdA (a := g2) (cells := B x2) (Rdf.sl (m := x2.length) (cap := k2) (E := 5) (s := 1) (.tail _ (.tail _ (.head _)))) (by rw [Bl]; omega) (fun b2' o2' hb2 => ?_)
    refine G.rdA (a := g3) (cells := B x3) (Rdf.sl (m := x3.length) (cap := k3) (E := 5) (s := 1) (.tail _ (.tail _ (.tail _ (.head _))))) (by rw [Bl]; omega) (fun b3' o3' hb3 => ?_)
    subst ho hb1 hb2 hb3
    refine G.regt 16 Try.mixed (by kernel_rfl) <| W.q (mv rfl) rfl <| W.q (ia Try.esl73 rfl rfl (by omega) (by simp)) rfl <| W.q (ld Try.sc22 rfl ((Rdf.sl (.head _)).cellOf (i := 0) rfl)) rfl <| W.q (stp_ Try.ear24 rfl (by show 32 ≤ x1.length; omega)) rfl <| W.q (lda Try.agg24 Try.sz24 rfl (Rdf.cl (Rdf.sl (m := x1.length) (cap := k1) (E := 5) (s := 1) (xs := B x1) (.tail _ <| .head _))) (by rw [Bl]; omega)) rfl <| W.q (mv rfl) rfl <| W.q (ia Try.esl73 rfl rfl (by omega) (by simp)) rfl <| W.q (ld Try.sc22 rfl ((Rdf.sl (.head _)).cellOf (i := 1) rfl)) rfl <| W.q (stp_ Try.ear25 rfl (by show 16 ≤ x2.length; omega)) rfl <| W.q (lda Try.agg25 Try.sz25 rfl (Rdf.cl (Rdf.sl (m := x2.length) (cap := k2) (E := 5) (s := 1) (xs := B x2) (.tail _ <| .tail _ <| .head _))) (by rw [Bl]; omega)) rfl <| W.q (mv rfl) rfl <| W.q (ia Try.esl73 rfl rfl (by omega) (by simp)) rfl <| W.q (ld Try.sc22 rfl ((Rdf.sl (.head _)).cellOf (i := 2) rfl)) rfl <| W.q (stp_ Try.ear26 rfl (by show 240 ≤ x3.length; omega)) rfl <| W.q (lda Try.agg26 Try.sz26 rfl (Rdf.cl (Rdf.sl (m := x3.length) (cap := k3) (E := 5) (s := 1) (xs := B x3) (.tail _ <| .tail _ <| .tail _ <| .head _))) (by rw [Bl]; omega)) rfl <| W.q ((blds (cs := B bs) Try.stp28 rfl (by simp [seqB, cellsL, hx1, hx2, hx3]) (by simp [cellsL, hx1, hx2, hx3]) (by rw [← hsp]; simp [cellsL]))) rfl <| W.nilt <| W.sta Try.sz28 rfl rfl (by rw [Bl]; exact h288) (B_one _) (.tl <| .tl <| .tl <| .tl <| .tl <| .hd) (by simp) <| W.q (sa rfl) rfl <| W.nil <| ret hX Try.results33 (RA.cella rfl Try.agg28 Try.sz28 (Cells.whole (.tl <| .tl <| .tl <| .tl <| .tl <| .hd)) (by rw [Bl]; exact h288) <| RA.tmp rfl <| RA.nil) fun w hm => done (H := []) rfl ?_ (Dr.ent (Dr.new rfl) w hm)
    rw [bytesOr, if_pos h288, if_pos h288]; rfl


set_option maxRecDepth 100000 in
theorem header_Bytes (bs : List UInt8) (w : World) (h288 : bs.length = 288) :
    Ret Try.prog 34 [.agg (B bs).toArray] w (NewB bs) := by
  refine enter [] (Mem.nil _) Try.func34 rfl Try.ntmps34 rfl (fun X hX => ?_)
  have hw := hX.w0; subst hw
  have hj : [(bs.drop 0).take 32, (bs.drop 32).take 16, (bs.drop 48).take 240].flatten = bs := by have := split288 bs h288; simpa using this
  refine G.seq <| G.reg <| W.bxa rfl rfl fun b1 => W.q (sa rfl) rfl <| W.nil <| G.seq <| G.regt 6 Try.mixed (by kernel_rfl) <| W.q (fa Try.fof28_0 rfl) rfl <| W.q (saa Try.ear24 rfl ) rfl <| W.q (fa Try.fof28_1 rfl) rfl <| W.q (saa Try.ear25 rfl ) rfl <| W.q (fa Try.fof28_2 rfl) rfl <| W.q (saa Try.ear26 rfl ) rfl <| W.nilt <| W.bs (cs := [_, _, _]) Try.underlying73 Try.sz22 Try.zrl22 rfl rfl rfl rfl fun b2 => W.fn Try.ca44 rfl (fun w hm => codec_Join (some ⟨b2, 0, none⟩) 3 [slc b1 0 32 32, slc b1 32 16 16, slc b1 48 240 240] [(bs.drop 0).take 32, (bs.drop 32).take 16, (bs.drop 48).take 240] w (hm.rowRd .hd) (.cons (.of (hm.rowSub (.tl <| .hd) 0 32) (by simp; omega) (by simp; omega)) (.cons (.of (hm.rowSub (.tl <| .hd) 32 16) (by simp; omega) (by simp; omega)) (.cons (.of (hm.rowSub (.tl <| .hd) 48 240) (by simp; omega) (by simp; omega)) .nil))) (by rw [hj]; omega) (by simp) (by simp)) rfl fun v J hv hJ => ?_
  rw [hj] at hv
  obtain ⟨a1, c1, rfl, rfl⟩ := hv
  refine W.q (sa rfl) rfl <| W.nil <| ret1 hX Try.results34 rfl fun w hm => done (H := [sl a1 bs.length c1 5 1 (B bs)]) rfl ⟨a1, c1, rfl, rfl⟩ (Dr.ent (.keep <| .drop rfl <| .drop rfl .rfl) w hm)

theorem header_ParseOK (a : Option Addr) (len cap : Nat) (bs : List UInt8) (w : World) (hlen : len = bs.length) (hl : RdL w a (B bs)) (h : bs.length = 288) (hcap : bs.length ≤ cap) :
    Ret Try.prog 33 [.slice a len cap] w (fun v _ => v = .tuple #[.agg (B bs).toArray, i64 0]) := by
  have := header_Parse a len cap bs w hlen hl (by omega) hcap
  rwa [if_pos h, bytesOr, if_pos h] at this


set_option maxRecDepth 100000 in
theorem packet_Bytes (bs : List UInt8) (w : World) (h768 : bs.length = 768) :
    Ret Try.prog 16 [.agg (B bs).toArray] w (NewB bs) := by
  refine enter [] (Mem.nil _) Try.func16 rfl Try.ntmps16 rfl (fun X hX => ?_)
  have hw := hX.w0; subst hw
  have hj : [bs.take 288, (bs.drop 288).take 480].flatten = bs := by rw [List.take_of_length_le (l := bs.drop 288) (by simp; omega)]; simp
  refine G.seq <| G.reg <| W.bxa rfl rfl fun b1 => W.q (sa rfl) rfl <| W.nil <| G.seq <| G.rega 8 rfl Try.mixed <| A.q 0 rfl (by kernel_rfl) (fun _ => (fa Try.fof37_0 rfl)) rfl <| A.q 3 rfl (by kernel_rfl) (fun _ => (fa Try.fof37_1 rfl)) rfl <| A.q 4 rfl (by kernel_rfl) (fun _ => (saa Try.ear35 rfl )) rfl <| A.held 1 [] rfl (by kernel_rfl) (lda Try.agg28 Try.sz28 rfl (Cells.rowSub .hd 0 288) (by rw [Bl]; simp; omega)) rfl <| A.one 2 rfl (by kernel_rfl) <| W.fn Try.ca34 rfl (fun w hm => header_Bytes (bs.take 288) w (by simp; omega)) rfl fun v J hv hJ => ?_
  obtain ⟨a1, c1, rfl, rfl⟩ := hv
  refine W.slAt (a := a1) (m := (bs.take 288).length) (cap := c1) (E := 5) (s := 1) (xs := B (bs.take 288)) (.head _) (fun q1 q2 q3 q4 => ?_)
  refine A.back <| A.one 5 rfl (by kernel_rfl) <| W.bs (cs := [_, _]) Try.underlying73 Try.sz22 Try.zrl22 rfl rfl rfl rfl fun b2 => A.back <| A.one 6 rfl (by kernel_rfl) <| W.fn Try.ca44 rfl (fun w hm => codec_Join (some ⟨b2, 0, none⟩) 2 [.slice a1 (bs.take 288).length c1, slc b1 288 480 480] [bs.take 288, (bs.drop 288).take 480] w (hm.rowRd .hd) (.cons (.of (hm.slRd (.tail _ <| .head _)) rfl q2) (.cons (.of (hm.rowSub (.tl <| .tl <| .hd) 288 480) (by simp; omega) (by simp; omega)) .nil)) (by rw [hj]; omega) (by simp) (by simp)) rfl fun v J hv hJ => ?_
  rw [hj] at hv
  obtain ⟨a2, c2, rfl, rfl⟩ := hv
  refine A.back <| A.q 7 rfl (by kernel_rfl) (fun _ => (sa rfl)) rfl <| A.nil (by kernel_rfl) <| ret1 hX Try.results16 rfl fun w hm => done (H := [sl a2 bs.length c2 5 1 (B bs)]) rfl ⟨a2, c2, rfl, rfl⟩ (Dr.ent (.keep <| .drop rfl <| .drop rfl <| .drop rfl .rfl) w hm)
end Go.Proofs.Ytjalojbihpdghaa
