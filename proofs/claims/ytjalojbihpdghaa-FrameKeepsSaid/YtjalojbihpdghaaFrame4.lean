/- Payloads parsed. -/
import Derived.Test.YtjalojbihpdghaaFrame3
import Derived.Test.YtjalojbihpdghaaLaw16
namespace Go.Proofs.Ytjalojbihpdghaa
open Go Go.Eng
set_option linter.unusedVariables false

def pt0 : Pt := ⟨0, 0, 0, 0, []⟩
def sizeOfB (bs : List UInt8) : Nat := beN ((bs.drop 28).take 2)
def partOf (bs : List UInt8) : Pt := ⟨bs.getD 16 0, UInt64.ofNat (beN ((bs.drop 20).take 8)), ((bs.getD 17 0).toNat : Int), ((bs.getD 18 0).toNat : Int), (bs.drop 30).take (sizeOfB bs)⟩
def badKind (bs : List UInt8) : Prop := ((bs.getD 16 0).toNat : Int) < 1 ∨ 3 < ((bs.getD 16 0).toNat : Int)
instance (bs : List UInt8) : Decidable (badKind bs) := by unfold badKind; infer_instance
def parseR (bs : List UInt8) : Pt × Int :=
  if bs.length ≠ 480 then (pt0, 2) else if bs.take 16 ≠ List.replicate 16 0 then (pt0, 7) else if badKind bs then (pt0, 1)
  else if bs.getD 19 0 ≠ 0 ∨ 450 < sizeOfB bs then (pt0, 3) else if bs.drop (30 + sizeOfB bs) ≠ List.replicate (450 - sizeOfB bs) 0 ∨ checkR (partOf bs) ≠ 0 then (pt0, 3) else (partOf bs, 0)
theorem size_lt (bs : List UInt8) : sizeOfB bs < 65536 := by
  have h := beN_lt ((bs.drop 28).take 2)
  have h2 : 256 ^ ((bs.drop 28).take 2).length ≤ 256 ^ 2 := Nat.pow_le_pow_right (by omega) (by simp; omega)
  unfold sizeOfB; omega
theorem size_u64 (bs : List UInt8) : (UInt64.ofNat (sizeOfB bs)).toNat = sizeOfB bs := UInt64.toNat_ofNat_of_lt' (by have := size_lt bs; show _ < 18446744073709551616; omega)
theorem take_ok (bs : List UInt8) (at_ n : Nat) (h : at_ + n ≤ bs.length) : takeR bs at_ n = ((bs.drop at_).take n, 0, at_ + n) := by
  rw [takeR, if_neg (by omega), if_neg (by omega)]; rfl
theorem get_ok (bs : List UInt8) (at_ n : Nat) (h : at_ + n ≤ bs.length) (hn : 1 ≤ n) (hn8 : n ≤ 8) : getR 2 bs at_ n = (UInt64.ofNat (beN ((bs.drop at_).take n)), 0) := by
  rw [getR, if_neg (by simp [shapeR]; omega), if_neg (by omega), ordB, if_neg (by decide)]; rfl


set_option maxRecDepth 100000 in
theorem cursor_Number (w0 : World) (H : List It) (hH : allNew H = true) (b o : Nat) (cs : List Value) (T : Nat) (a : Option Addr) (cap : Nat) (bs : List UInt8) (at_ : Nat) (hc0 : cs[o]? = some (.slice a bs.length cap)) (hc1 : cs[o + 1]? = some (i64 at_)) (hr : Rdf w0 H a (B bs)) (hb : bs.length ≤ 140737488351232) (hat : at_ ≤ bs.length) (hcap : bs.length ≤ cap) (m : Nat) (hm8 : at_ + m ≤ bs.length) (h1m : 1 ≤ m) (hm : m ≤ 8) :
    RetF Try.prog 64 [ptr b o, i64 2, i64 m] w0 H [nb b cs T] (fun v P => v = .tuple #[u64 (UInt64.ofNat (beN ((bs.drop at_).take m))), i64 0] ∧ P = [nb b (cs.set (o + 1) (i64 ((at_ : Int) + m))) T]) := by
  refine enterF Try.func64 rfl Try.ntmps64 rfl (fun X hX => ?_)
  have hw := hX.w0; subst hw
  refine G.seq <| G.reg <| W.q (sa rfl) rfl <| W.q (sa rfl) rfl <| W.nil <| G.seq <| G.regq Try.mixed (by kernel_rfl) <| W.q (mv rfl) rfl <| W.q (mv rfl) rfl <| W.q (ncp rfl) rfl <| W.q (fa Try.fof149_0 rfl) rfl <| W.q (ld Try.sc22 rfl (Cell.at .hd hc0)) rfl <| W.q (mv rfl) rfl <| W.q (ncp rfl) rfl <| W.q (fa Try.fof149_1 rfl) rfl <| W.q (ld Try.sc3 rfl (Cell.at .hd hc1)) rfl <| W.q (mv rfl) rfl <| W.fvq Try.ca40 rfl (fun w hm => by have := codec_Get 2 a bs.length cap bs w rfl ((hr.up (it := nb b cs T) rfl).at hm) hb at_ m; rw [get_ok bs at_ m hm8 h1m (by omega)] at this; exact this) rfl <| W.q (mv rfl) rfl <| W.q (ex rfl rfl) rfl <| W.q (ex rfl rfl) rfl <| W.q (sa rfl) rfl <| W.q (sa rfl) rfl <| W.nilq <| G.seq <| G.seq <| G.reg <| W.q (mv rfl) rfl <| W.q (eq rfl rfl) rfl <| W.nil <| G.cdt rfl (by simp) <| G.reg <| W.q (mv rfl) rfl <| W.q (ncp rfl) rfl <| W.q (fa Try.fof149_1 rfl) rfl <| W.q (ld Try.sc3 rfl (Cell.at .hd hc1)) rfl <| W.q (mv rfl) rfl <| W.q (ad rfl rfl (by omega)) rfl <| W.q (ncp rfl) rfl <| W.q (fa Try.fof149_1 rfl) rfl <| W.st (cs' := cs.set (o + 1) (i64 ((at_ : Int) + m))) Try.sz3 rfl rfl rfl rfl rfl .hd (by have := (List.getElem?_eq_some_iff.1 hc1).1; omega) (setAt_one _ _ _ (List.getElem?_eq_some_iff.1 hc1).1) <| W.nil <| G.seq <| G.reg <| W.q (mv rfl) rfl <| W.q (mv rfl) rfl <| W.q (sa rfl) rfl <| W.q (sa rfl) rfl <| W.nil <| ret2 hX Try.results64 rfl rfl fun w hm => doneF (Pre' := [nb b (cs.set (o + 1) (i64 ((at_ : Int) + m))) T]) rfl ⟨rfl, rfl⟩ hm .rfl

theorem cursor_TakeOK (w0 : World) (H : List It) (hH : allNew H = true) (b o : Nat) (cs : List Value) (T : Nat) (a : Option Addr) (cap : Nat) (bs : List UInt8) (at_ : Nat) (hc0 : cs[o]? = some (.slice a bs.length cap)) (hc1 : cs[o + 1]? = some (i64 at_)) (hr : Rdf w0 H a (B bs)) (hb : bs.length ≤ 140737488351232) (hat : at_ ≤ bs.length) (hcap : bs.length ≤ cap) (n : Nat) (hn : at_ + n ≤ bs.length) :
    RetF Try.prog 62 [ptr b o, i64 n] w0 H [nb b cs T] (fun v P => ∃ a' cap', v = .tuple #[.slice a' ((bs.drop at_).take n).length cap', i64 0] ∧ P = [nb b (cs.set (o + 1) (i64 ((at_ + n : Nat) : Int))) T, sl a' ((bs.drop at_).take n).length cap' 5 1 (B ((bs.drop at_).take n))]) := by
  have := cursor_Take w0 H hH b o cs T a cap bs at_ hc0 hc1 hr hb hat hcap n (by omega)
  rw [take_ok bs at_ n hn] at this; exact this
theorem head_get (bs : List UInt8) (i : Nat) (h : bs.length = 480) (hi : i < 4) : ((bs.drop 16).take 4)[i]? = some (bs.getD (16 + i) 0) := by
  rw [List.getElem?_take, if_pos hi, List.getElem?_drop, List.getElem?_eq_getElem (by omega), List.getD_eq_getElem?_getD, List.getElem?_eq_getElem (by omega)]; rfl
theorem u8_zero (x : UInt8) : ((x.toNat : Int) = 0) ↔ x = 0 := ⟨fun h => UInt8.toNat_inj.1 (by simpa using h), fun h => by rw [h]; rfl⟩


set_option maxRecDepth 100000 in
theorem frame_Parse (a : Option Addr) (len cap : Nat) (bs : List UInt8) (w : World) (hlen : len = bs.length) (hl : RdL w a (B bs)) (hb : bs.length ≤ 140737488351232) :
    Ret Try.prog 30 [.slice a len cap] w (fun v J => ∃ a' c', v = .tuple #[.agg (ptC (parseR bs).1 a' c').toArray, i64 (parseR bs).2] ∧ J = [ppI ((parseR bs).1, a', c')]) := by
  subst hlen
  refine enter [] (Mem.nil _) Try.func30 rfl Try.ntmps30 rfl (fun X hX => ?_)
  have hw := hX.w0; subst hw
  refine G.seq <| G.reg <| W.al Try.zrl66 rfl fun b1 => W.q (sa rfl) rfl <| W.nil <| G.seq <| G.seq <| G.reg <| W.q (mv rfl) rfl <| W.q (ln Try.esl22 rfl) rfl <| W.q (ne rfl rfl) rfl <| W.nil <| G.cdd rfl (fun h1 => ?_) (fun h1 => ?_)
  · -- h1 True
    refine G.seq <| G.reg <| W.q (bld (cs := [_, _, _, _, _]) Try.stp66 rfl rfl) rfl <| W.sta Try.sz66 rfl rfl rfl rfl .hd rfl <| W.q (sa rfl) rfl <| W.nil <| ret hX Try.results30 (RA.cella rfl Try.agg66 Try.sz66 (Cells.whole .hd) rfl <| RA.tmp rfl <| RA.nil) fun w hm => done rfl ?_ (Mem.slNil (Dr.ent (Dr.new rfl) w hm) 5 1)
    have e : parseR bs = (pt0, 2) := by rw [parseR, if_pos (by omega)]
    rw [e]; exact ⟨none, 0, rfl, rfl⟩
  · -- h1 False
    have h480 : bs.length = 480 := by omega
    refine G.skip <| G.seq <| G.reg <| W.q (mv rfl) rfl <| W.fn Try.ca61 rfl (fun w hm => codec_NewCursor a cap bs w (hm.rd rfl hl) hb) rfl fun v J hv hJ => ?_
    obtain ⟨bc, ac, cc, rfl, rfl⟩ := hv
    refine W.slAt (a := ac) (m := bs.length) (cap := cc) (E := 5) (s := 1) (xs := B bs) (.tail _ (.head _)) (fun p1 p2 p3 p4 => ?_)
    refine W.q (sa rfl) rfl <| W.nil <| G.seq <| G.reg <| W.q (mv rfl) rfl <| W.ff Try.ca62 rfl (Ent.perm (.refl _)) (cursor_TakeOK X.w0 _ rfl bc 0 _ _ ac cc bs (0) rfl rfl (Rdf.sl (m := bs.length) (cap := cc) (E := 5) (s := 1) (.head _)) (by omega) (by omega) p2 16 (by omega)) rfl rfl fun v J hv hJ => ?_
    obtain ⟨a1, c1, rfl, rfl⟩ := hv
    refine W.q (mv rfl) rfl <| W.q (ex rfl rfl) rfl <| W.q (ex rfl rfl) rfl <| W.q (sa rfl) rfl <| W.q (sa rfl) rfl <| W.nil <| G.seq <| G.seq <| G.reg <| W.q (mv rfl) rfl <| W.fv Try.ca63 rfl (fun w hm => frame_blank a1 _ c1 _ w rfl (hm.slRd (.tail _ <| .head _)) (by simp; omega)) rfl <| W.q (nt rfl) rfl <| W.nil <| G.cdn rfl (fun h2 => ?_) (fun h2 => ?_)
    · -- h2 True
      have hz16 : bs.take 16 ≠ List.replicate 16 0 := by
        have h := of_decide_eq_false h2
        rwa [List.drop_zero, show (bs.take 16).length = 16 by simp; omega] at h
      refine G.seq <| G.reg <| W.q (bld (cs := [_, _, _, _, _]) Try.stp66 rfl rfl) rfl <| W.sta Try.sz66 rfl rfl rfl rfl (.tl <| .tl <| .tl <| .hd) rfl <| W.q (sa rfl) rfl <| W.nil <| ret hX Try.results30 (RA.cella rfl Try.agg66 Try.sz66 (Cells.whole (.tl <| .tl <| .tl <| .hd)) rfl <| RA.tmp rfl <| RA.nil) fun w hm => done rfl ?_ (Mem.slNil (Dr.ent (Dr.new rfl) w hm) 5 1)
      have e : parseR bs = (pt0, 7) := by rw [parseR, if_neg (by omega), if_pos hz16]
      rw [e]; exact ⟨none, 0, rfl, rfl⟩
    · -- h2 False
      have hz16 : bs.take 16 = List.replicate 16 0 := by
        have h := of_decide_eq_true h2
        rwa [List.drop_zero, show (bs.take 16).length = 16 by simp; omega] at h
      refine G.skip <| G.seq <| G.reg <| W.q (mv rfl) rfl <| W.ff Try.ca62 rfl (Ent.perm (.refl _)) (cursor_TakeOK X.w0 _ rfl bc 0 _ _ ac cc bs (16) rfl rfl (Rdf.sl (m := bs.length) (cap := cc) (E := 5) (s := 1) (.tail _ <| .head _)) (by omega) (by omega) p2 4 (by omega)) rfl rfl fun v J hv hJ => ?_
      obtain ⟨a2, c2, rfl, rfl⟩ := hv
      refine W.rdA (a := a2) (cells := B ((bs.drop 16).take 4)) (Rdf.sl (m := ((bs.drop 16).take 4).length) (cap := c2) (E := 5) (s := 1) (.tail _ (.head _))) (by simp; omega) (fun zb zo hz => ?_)
      subst hz
      refine W.q (mv rfl) rfl <| W.q (ex rfl rfl) rfl <| W.q (ex rfl rfl) rfl <| W.q (sa rfl) rfl <| W.q (sa rfl) rfl <| W.nil <| G.seq <| G.reg <| W.q (mv rfl) rfl <| W.ff Try.ca64 rfl (Ent.perm (.refl _)) (cursor_Number X.w0 _ rfl bc 0 _ _ ac cc bs 20 rfl rfl (Rdf.sl (m := bs.length) (cap := cc) (E := 5) (s := 1) (.tail _ <| .tail _ <| .head _)) (by omega) (by omega) p2 8 (by omega) (by omega) (by omega)) rfl rfl fun v J hv hJ => ?_
      obtain ⟨rfl, rfl⟩ := hv
      refine W.q (mv rfl) rfl <| W.q (ex rfl rfl) rfl <| W.q (ex rfl rfl) rfl <| W.q (sa rfl) rfl <| W.q (sa rfl) rfl <| W.nil <| G.seq <| G.reg <| W.q (mv rfl) rfl <| W.ff Try.ca64 rfl (Ent.perm (.refl _)) (cursor_Number X.w0 _ rfl bc 0 _ _ ac cc bs 28 rfl rfl (Rdf.sl (m := bs.length) (cap := cc) (E := 5) (s := 1) (.tail _ <| .tail _ <| .head _)) (by omega) (by omega) p2 2 (by omega) (by omega) (by omega)) rfl rfl fun v J hv hJ => ?_
      obtain ⟨rfl, rfl⟩ := hv
      rw [show beN ((bs.drop 28).take 2) = sizeOfB bs from rfl]
      refine W.q (mv rfl) rfl <| W.q (ex rfl rfl) rfl <| W.q (ex rfl rfl) rfl <| W.q (sa rfl) rfl <| W.q (sa rfl) rfl <| W.nil <| G.seq <| G.rega 15 rfl Try.mixed <| A.q 0 rfl (by kernel_rfl) (fun _ => (mv rfl)) rfl <| A.q 1 rfl (by kernel_rfl) (fun _ => (ia Try.esl22 rfl rfl (by omega) (by simp; omega))) rfl <| A.q 3 rfl (by kernel_rfl) (fun _ => (mv rfl)) rfl <| A.q 4 rfl (by kernel_rfl) (fun _ => (mv rfl)) rfl <| A.q 5 rfl (by kernel_rfl) (fun _ => (ia Try.esl22 rfl rfl (by omega) (by simp; omega))) rfl <| A.q 8 rfl (by kernel_rfl) (fun _ => (mv rfl)) rfl <| A.q 9 rfl (by kernel_rfl) (fun _ => (ia Try.esl22 rfl rfl (by omega) (by simp; omega))) rfl <| A.held 2 [6, 7, 10, 11, 13] rfl (by kernel_rfl) (ld Try.sc5 rfl ((Rdf.sl (m := ((bs.drop 16).take 4).length) (cap := c2) (E := 5) (s := 1) (xs := B ((bs.drop 16).take 4)) (.tail _ <| .head _)).cellOf (B_get (head_get bs 0 h480 (by decide))))) rfl <| A.held 6 [10, 11, 13] rfl (by kernel_rfl) (ld Try.sc5 rfl ((Rdf.sl (m := ((bs.drop 16).take 4).length) (cap := c2) (E := 5) (s := 1) (xs := B ((bs.drop 16).take 4)) (.tail _ <| .head _)).cellOf (B_get (head_get bs 1 h480 (by decide))))) rfl <| A.q 7 rfl (by kernel_rfl) (fun _ => (cv_u8_i64 Try.underlying5 Try.underlying3 rfl)) rfl <| A.held 10 [13] rfl (by kernel_rfl) (ld Try.sc5 rfl ((Rdf.sl (m := ((bs.drop 16).take 4).length) (cap := c2) (E := 5) (s := 1) (xs := B ((bs.drop 16).take 4)) (.tail _ <| .head _)).cellOf (B_get (head_get bs 2 h480 (by decide))))) rfl <| A.q 11 rfl (by kernel_rfl) (fun _ => (cv_u8_i64 Try.underlying5 Try.underlying3 rfl)) rfl <| A.q 12 rfl (by kernel_rfl) (fun _ => (bld (cs := [_, _, _, _, _]) Try.stp66 rfl rfl)) rfl <| A.one 13 rfl (by kernel_rfl) <| W.al Try.zrl66 rfl fun b2 => A.back <| A.one 14 rfl (by kernel_rfl) <| W.sta Try.sz66 rfl rfl rfl rfl .hd rfl <| A.back <| A.nil (by kernel_rfl) <| G.seq <| G.seq <| G.join [(66, .bool (decide (badKind bs)))] [(2, _), (4, _), (7, _), (11, _), (13, _)] (Sub.cons rfl <| Sub.cons rfl <| Sub.cons rfl <| Sub.cons rfl <| Sub.cons rfl <| Sub.nil _) (fun key11 => ?_) ?_
      · -- region 11
        refine G.reg <| W.q (fa Try.fof66_0 rfl) rfl <| W.q (ld Try.sc5 rfl (Cell.at .hd rfl)) rfl <| W.q (lt rfl rfl) rfl <| W.q (mv rfl) rfl <| W.sp (t := _) 62 rfl (fun g3 => ?_) (fun g3 => ?_)
        · -- True
          refine W.sk rfl rfl g3 rfl <| W.sk rfl rfl g3 rfl <| W.sk rfl rfl g3 rfl <| W.q (pkt rfl g3 rfl) rfl <| W.nil <| key11.weak (Sub.co rfl ?_ <| Sub.cons rfl <| Sub.cons rfl <| Sub.cons rfl <| Sub.cons rfl <| Sub.cons rfl <| Sub.nil _) .rfl
          all_goals (clear key11; show Value.bool _ = Value.bool _; congr 1; grind [badKind])
        · -- False
          refine W.qg rfl rfl g3 (fa Try.fof66_0 rfl) rfl <| W.qg rfl rfl g3 (ld Try.sc5 rfl (Cell.at .hd rfl)) rfl <| W.qg rfl rfl g3 (gt rfl rfl) rfl <| W.q (pkf rfl g3 rfl) rfl <| W.nil <| key11.weak (Sub.co rfl ?_ <| Sub.cons rfl <| Sub.cons rfl <| Sub.cons rfl <| Sub.cons rfl <| Sub.cons rfl <| Sub.nil _) .rfl
          all_goals (clear key11; show Value.bool _ = Value.bool _; congr 1; grind [badKind])
      refine G.cdd rfl (fun h4 => ?_) (fun h4 => ?_)
      · -- h4 True
        refine G.seq <| G.reg <| W.q (bld (cs := [_, _, _, _, _]) Try.stp66 rfl rfl) rfl <| W.sta Try.sz66 rfl rfl rfl rfl (.tl <| .tl <| .tl <| .tl <| .tl <| .hd) rfl <| W.q (sa rfl) rfl <| W.nil <| ret hX Try.results30 (RA.cella rfl Try.agg66 Try.sz66 (Cells.whole (.tl <| .tl <| .tl <| .tl <| .tl <| .hd)) rfl <| RA.tmp rfl <| RA.nil) fun w hm => done rfl ?_ (Mem.slNil (Dr.ent (Dr.new rfl) w hm) 5 1)
        have e : parseR bs = (pt0, 1) := by rw [parseR, if_neg (by omega), if_neg (by simpa using hz16), if_pos h4]
        rw [e]; exact ⟨none, 0, rfl, rfl⟩
      · -- h4 False
        refine G.skip <| G.seq <| G.seq <| G.join [(75, .bool (decide (bs.getD 19 0 ≠ 0 ∨ 450 < sizeOfB bs)))] [(2, _), (4, _), (11, _), (13, _)] (Sub.cons rfl <| Sub.cons rfl <| Sub.cons rfl <| Sub.cons rfl <| Sub.nil _) (fun key13 => ?_) ?_
        · -- region 13
          refine G.reg <| W.q (mv rfl) rfl <| W.q (ia Try.esl22 rfl rfl (by omega) (by simp; omega)) rfl <| W.q (ld Try.sc5 rfl ((Rdf.sl (m := ((bs.drop 16).take 4).length) (cap := c2) (E := 5) (s := 1) (xs := B ((bs.drop 16).take 4)) (.tail _ <| .tail _ <| .head _)).cellOf (B_get (head_get bs 3 h480 (by decide))))) rfl <| W.q (ne rfl rfl) rfl <| W.q (mv rfl) rfl <| W.sp (t := _) 72 rfl (fun g5 => ?_) (fun g5 => ?_)
          · -- True
            refine W.sk rfl rfl g5 rfl <| W.sk rfl rfl g5 rfl <| W.q (pkt rfl g5 rfl) rfl <| W.nil <| key13.weak (Sub.co rfl ?_ <| Sub.cons rfl <| Sub.cons rfl <| Sub.cons rfl <| Sub.cons rfl <| Sub.nil _) .rfl
            all_goals (clear key13; have e19 := u8_zero (bs.getD 19 0); have hsz := size_u64 bs; show Value.bool _ = Value.bool _; congr 1; grind)
          · -- False
            refine W.qg rfl rfl g5 (mv rfl) rfl <| W.qg rfl rfl g5 (gt rfl rfl) rfl <| W.q (pkf rfl g5 rfl) rfl <| W.nil <| key13.weak (Sub.co rfl ?_ <| Sub.cons rfl <| Sub.cons rfl <| Sub.cons rfl <| Sub.cons rfl <| Sub.nil _) .rfl
            all_goals (clear key13; have e19 := u8_zero (bs.getD 19 0); have hsz := size_u64 bs; show Value.bool _ = Value.bool _; congr 1; grind)
        refine G.cdd rfl (fun h6 => ?_) (fun h6 => ?_)
        · -- h6 True
          refine G.seq <| G.reg <| W.q (bld (cs := [_, _, _, _, _]) Try.stp66 rfl rfl) rfl <| W.sta Try.sz66 rfl rfl rfl rfl (.tl <| .tl <| .tl <| .tl <| .tl <| .hd) rfl <| W.q (sa rfl) rfl <| W.nil <| ret hX Try.results30 (RA.cella rfl Try.agg66 Try.sz66 (Cells.whole (.tl <| .tl <| .tl <| .tl <| .tl <| .hd)) rfl <| RA.tmp rfl <| RA.nil) fun w hm => done rfl ?_ (Mem.slNil (Dr.ent (Dr.new rfl) w hm) 5 1)
          have e : parseR bs = (pt0, 3) := by rw [parseR, if_neg (by omega), if_neg (by simpa using hz16), if_neg h4, if_pos h6]
          rw [e]; exact ⟨none, 0, rfl, rfl⟩
        · -- h6 False
          have hs450 : sizeOfB bs ≤ 450 := by omega
          have hrest : (bs.drop (30 + sizeOfB bs)).take (450 - sizeOfB bs) = bs.drop (30 + sizeOfB bs) := List.take_of_length_le (by simp; omega)
          have hrl : (bs.drop (30 + sizeOfB bs)).length = 450 - sizeOfB bs := by simp; omega
          refine G.skip <| G.seq <| G.reg <| W.q (mv rfl) rfl <| W.q (mv rfl) rfl <| W.q (cv_u64_i64 Try.underlying29 Try.underlying3 rfl (by rw [size_u64]; omega)) rfl <| ?_
          rw [size_u64]
          refine W.ff Try.ca62 rfl (Ent.perm (.trans (.cons _ (.refl _)) (.swap _ _ _))) (cursor_TakeOK X.w0 _ rfl bc 0 _ _ ac cc bs (30) rfl rfl (Rdf.sl (m := bs.length) (cap := cc) (E := 5) (s := 1) (.tail _ <| .tail _ <| .tail _ <| .head _)) (by omega) (by omega) p2 (sizeOfB bs) (by omega)) rfl rfl fun v J hv hJ => ?_
          obtain ⟨a3, c3, rfl, rfl⟩ := hv
          refine W.q (mv rfl) rfl <| W.q (ex rfl rfl) rfl <| W.q (ex rfl rfl) rfl <| W.q (fa Try.fof66_4 rfl) rfl <| W.st (cs' := [_, _, _, _, _]) Try.sz22 rfl rfl rfl rfl rfl (.tl <| .tl <| .hd) (by simp) rfl <| W.nil <| G.seq <| G.reg <| W.q (mv rfl) rfl <| W.q (mv rfl) rfl <| W.ff Try.ca65 rfl (Ent.perm (.refl _)) (cursor_Left X.w0 _ rfl bc 0 _ _ ac cc bs (30 + sizeOfB bs) rfl rfl (Rdf.sl (m := bs.length) (cap := cc) (E := 5) (s := 1) (.tail _ <| .tail _ <| .tail _ <| .tail _ <| .head _)) (by omega) (by omega) p2) rfl rfl fun v J hv hJ => ?_
          obtain ⟨rfl, rfl⟩ := hv
          rw [show ((bs.length : Int) - ((30 + sizeOfB bs : Nat) : Int)) = ((450 - sizeOfB bs : Nat) : Int) by omega]
          refine W.ff Try.ca62 rfl (Ent.perm (.refl _)) (cursor_TakeOK X.w0 _ rfl bc 0 _ _ ac cc bs (30 + sizeOfB bs) rfl rfl (Rdf.sl (m := bs.length) (cap := cc) (E := 5) (s := 1) (.tail _ <| .tail _ <| .tail _ <| .tail _ <| .head _)) (by omega) (by omega) p2 (450 - sizeOfB bs) (by omega)) rfl rfl fun v J hv hJ => ?_
          obtain ⟨a4, c4, rfl, rfl⟩ := hv
          refine W.q (mv rfl) rfl <| W.q (ex rfl rfl) rfl <| W.q (ex rfl rfl) rfl <| W.q (sa rfl) rfl <| W.q (sa rfl) rfl <| W.nil <| G.seq <| G.seq <| G.join [(99, .bool (decide (bs.drop (30 + sizeOfB bs) ≠ List.replicate (450 - sizeOfB bs) 0 ∨ checkR (partOf bs) ≠ 0)))] [(2, _), (13, _)] (Sub.cons rfl <| Sub.cons rfl <| Sub.nil _) (fun key17 => ?_) ?_
          · -- region 17
            refine G.reg <| W.q (mv rfl) rfl <| W.fv Try.ca63 rfl (fun w hm => frame_blank a4 _ c4 _ w rfl (hm.slRd (.tail _ <| .head _)) (by simp; omega)) rfl <| W.q (nt rfl) rfl <| W.q (mv rfl) rfl <| W.sp (t := _) 95 rfl (fun g7 => ?_) (fun g7 => ?_)
            · -- True
              refine W.sk rfl rfl g7 rfl <| W.sk rfl rfl g7 rfl <| W.sk rfl rfl g7 rfl <| W.q (pkt rfl g7 rfl) rfl <| W.nil <| key17.weak (Sub.co rfl ?_ <| Sub.cons rfl <| Sub.cons rfl <| Sub.nil _) .rfl
              all_goals (clear key17; rw [hrest, hrl] at *; show Value.bool _ = Value.bool _; congr 1; grind)
            · -- False
              refine W.qg rfl rfl g7 (lda Try.agg66 Try.sz66 rfl (Cells.whole (.tl <| .tl <| .tl <| .hd)) rfl) rfl <| W.fvg rfl rfl g7 Try.ca58 rfl (fun w hm => frame_Check (partOf bs) a3 c3 w) rfl <| W.qg rfl rfl g7 (ne rfl rfl) rfl <| W.q (pkf rfl g7 rfl) rfl <| W.nil <| key17.weak (Sub.co rfl ?_ <| Sub.cons rfl <| Sub.cons rfl <| Sub.nil _) .rfl
              all_goals (clear key17; rw [hrest, hrl] at *; show Value.bool _ = Value.bool _; congr 1; grind)
          refine G.cdd rfl (fun h8 => ?_) (fun h8 => ?_)
          · -- h8 True
            refine G.seq <| G.reg <| W.q (bld (cs := [_, _, _, _, _]) Try.stp66 rfl rfl) rfl <| W.sta Try.sz66 rfl rfl rfl rfl (.tl <| .tl <| .tl <| .tl <| .tl <| .tl <| .tl <| .hd) rfl <| W.q (sa rfl) rfl <| W.nil <| ret hX Try.results30 (RA.cella rfl Try.agg66 Try.sz66 (Cells.whole (.tl <| .tl <| .tl <| .tl <| .tl <| .tl <| .tl <| .hd)) rfl <| RA.tmp rfl <| RA.nil) fun w hm => done rfl ?_ (Mem.slNil (Dr.ent (Dr.new rfl) w hm) 5 1)
            have e : parseR bs = (pt0, 3) := by rw [parseR, if_neg (by omega), if_neg (by simpa using hz16), if_neg h4, if_neg h6, if_pos h8]
            rw [e]; exact ⟨none, 0, rfl, rfl⟩
          · -- h8 False
            refine G.skip <| G.seq <| G.reg <| W.q (lda Try.agg66 Try.sz66 rfl (Cells.whole (.tl <| .tl <| .tl <| .hd)) rfl) rfl <| W.sta Try.sz66 rfl rfl rfl rfl (.tl <| .tl <| .tl <| .tl <| .tl <| .tl <| .tl <| .hd) rfl <| W.q (sa rfl) rfl <| W.nil <| ret hX Try.results30 (RA.cella rfl Try.agg66 Try.sz66 (Cells.whole (.tl <| .tl <| .tl <| .tl <| .tl <| .tl <| .tl <| .hd)) rfl <| RA.tmp rfl <| RA.nil) fun w hm => done (H := [ppI (partOf bs, a3, c3)]) rfl ?_ (Dr.ent (.drop rfl <| .drop rfl <| .keep <| .drop rfl <| .drop rfl <| .drop rfl <| .drop rfl <| .drop rfl .rfl) w hm)
            have e : parseR bs = (partOf bs, 0) := by rw [parseR, if_neg (by omega), if_neg (by simpa using hz16), if_neg h4, if_neg h6, if_neg h8]
            rw [e]; exact ⟨a3, c3, rfl, rfl⟩

theorem be8_id (bs : List UInt8) (h : bs.length = 480) : (leB 8 (UInt64.ofNat (beN ((bs.drop 20).take 8))).toNat).reverse = (bs.drop 20).take 8 := by
  have hl : ((bs.drop 20).take 8).length = 8 := by simp; omega
  have := beN_lt ((bs.drop 20).take 8)
  rw [hl] at this
  rw [UInt64.toNat_ofNat_of_lt' (Nat.lt_of_lt_of_le this (by decide))]
  exact leB_beN 8 _ hl
theorem parts_of (bs : List UInt8) (h : bs.length = 480) : bs.take 16 ++ ([bs.getD 16 0, bs.getD 17 0, bs.getD 18 0, bs.getD 19 0] ++ ((bs.drop 20).take 8 ++ ((bs.drop 28).take 2 ++ ((bs.drop 30).take (sizeOfB bs) ++ bs.drop (30 + sizeOfB bs))))) = bs := by
  have h4 : (bs.drop 16).take 4 = [bs.getD 16 0, bs.getD 17 0, bs.getD 18 0, bs.getD 19 0] := by
    apply List.ext_getElem?
    intro i
    match i with
    | 0 => exact head_get bs 0 h (by decide)
    | 1 => exact head_get bs 1 h (by decide)
    | 2 => exact head_get bs 2 h (by decide)
    | 3 => exact head_get bs 3 h (by decide)
    | i + 4 => rw [List.getElem?_eq_none (by simp; omega), List.getElem?_eq_none (by simp)]
  rw [← h4, show bs.drop (30 + sizeOfB bs) = (bs.drop 30).drop (sizeOfB bs) by simp, List.take_append_drop,
    show bs.drop 30 = (bs.drop 28).drop 2 by simp, List.take_append_drop, show bs.drop 28 = (bs.drop 20).drop 8 by simp, List.take_append_drop, show bs.drop 20 = (bs.drop 16).drop 4 by simp, List.take_append_drop, List.take_append_drop]
theorem frame_same (bs : List UInt8) (h : bs.length = 480) (hz : bs.take 16 = List.replicate 16 0) (hs : sizeOfB bs ≤ 450) : frameB (partOf bs) = bs ↔ bs.getD 19 0 = 0 ∧ bs.drop (30 + sizeOfB bs) = List.replicate (450 - sizeOfB bs) 0 := by
  have hd : ((bs.drop 30).take (sizeOfB bs)).length = sizeOfB bs := by simp; omega
  have h2 : (leB 2 (sizeOfB bs)).reverse = (bs.drop 28).take 2 := leB_beN 2 _ (by simp; omega)
  have e : frameB (partOf bs) = bs.take 16 ++ ([bs.getD 16 0, bs.getD 17 0, bs.getD 18 0, 0] ++ ((bs.drop 20).take 8 ++ ((bs.drop 28).take 2 ++ ((bs.drop 30).take (sizeOfB bs) ++ List.replicate (450 - sizeOfB bs) 0)))) := by
    simp only [frameB, partOf, hd, h2, be8_id bs h, hz, byteOf_nat]
  conv => lhs; rhs; rw [← parts_of bs h]
  rw [e]
  constructor
  · intro h3
    have h4 := List.append_cancel_left h3
    simp only [List.cons_append, List.nil_append, List.cons.injEq, true_and] at h4
    exact ⟨h4.1.symm, (List.append_cancel_left (List.append_cancel_left (List.append_cancel_left h4.2))).symm⟩
  · rintro ⟨h3, h4⟩
    rw [h3, h4]
theorem parse_same (bs : List UInt8) (h : bs.length = 480) (hz : bs.take 16 = List.replicate 16 0) (hk : ¬ badKind bs) (hs : sizeOfB bs ≤ 450) : parseR bs = if (frameR (partOf bs)).2 ≠ 0 ∨ (frameR (partOf bs)).1 ≠ bs then (pt0, 3) else (partOf bs, 0) := by
  have hf := frame_same bs h hz hs
  rw [parseR, if_neg (by omega), if_neg (by simpa using hz), if_neg hk]
  by_cases hc : checkR (partOf bs) = 0
  · have e : frameR (partOf bs) = (frameB (partOf bs), 0) := by rw [frameR, if_neg (by simpa using hc)]
    rw [e]
    by_cases h19 : bs.getD 19 0 = 0
    · rw [if_neg (fun h' => h'.elim (fun h'' => h'' h19) (by omega))]
      by_cases hr : bs.drop (30 + sizeOfB bs) = List.replicate (450 - sizeOfB bs) 0
      · rw [if_neg (by simp [hr, hc]), if_neg (by simp [hf.2 ⟨h19, hr⟩])]
      · rw [if_pos (.inl hr), if_pos (.inr fun h' => hr (hf.1 h').2)]
    · rw [if_pos (.inl h19), if_pos (.inr fun h' => h19 (hf.1 h').1)]
  · have e : frameR (partOf bs) = ([], checkR (partOf bs)) := by rw [frameR, if_pos hc]
    rw [e, show (if (([] : List UInt8), checkR (partOf bs)).2 ≠ 0 ∨ (([] : List UInt8), checkR (partOf bs)).1 ≠ bs then (pt0, (3 : Int)) else (partOf bs, 0)) = (pt0, 3) from if_pos (.inl hc)]
    split
    · rfl
    · rw [if_pos (.inr hc)]
theorem size_two (bs : List UInt8) (h : bs.length = 480) : ((bs.getD 28 0).toNat : Int) * 256 + ((bs.getD 29 0).toNat : Int) = (sizeOfB bs : Int) := by
  have e : (bs.drop 28).take 2 = [bs.getD 28 0, bs.getD 29 0] := by
    apply List.ext_getElem?
    intro i
    have hg : ∀ i, i < 2 → ((bs.drop 28).take 2)[i]? = some (bs.getD (28 + i) 0) := fun i hi => by
      rw [List.getElem?_take, if_pos hi, List.getElem?_drop, List.getElem?_eq_getElem (by omega), List.getD_eq_getElem?_getD, List.getElem?_eq_getElem (by omega)]; rfl
    match i with
    | 0 => exact hg 0 (by decide)
    | 1 => exact hg 1 (by decide)
    | i + 2 => rw [List.getElem?_eq_none (by simp; omega), List.getElem?_eq_none (by simp)]
  rw [sizeOfB, e]; simp [beN]
theorem getD_some (bs : List UInt8) (i : Nat) (h : i < bs.length) : bs[i]? = some (bs.getD i 0) := by
  rw [List.getD_eq_getElem?_getD, List.getElem?_eq_getElem h]; rfl

theorem frameR_le (p : Pt) : (frameR p).1.length ≤ 140737488351232 := by
  unfold frameR
  split
  · simp
  · rename_i h
    rw [frameB_len p (check_ok (Classical.byContradiction h)).2.1]; omega


set_option maxRecDepth 100000 in
theorem ref11_Parse (a : Option Addr) (len cap : Nat) (bs : List UInt8) (w : World) (hlen : len = bs.length) (hl : RdL w a (B bs)) (hb : bs.length ≤ 140737488351232) (hcap : bs.length ≤ cap) :
    Ret Try.prog 48 [.slice a len cap] w (fun v J => ∃ a' c', v = .tuple #[.agg (ptC (parseR bs).1 a' c').toArray, i64 (parseR bs).2] ∧ J = [ppI ((parseR bs).1, a', c')]) := by
  subst hlen
  refine enter [] (Mem.nil _) Try.func48 rfl Try.ntmps48 rfl (fun X hX => ?_)
  have hw := hX.w0; subst hw
  refine G.seq <| G.reg <| W.al Try.zrl66 rfl fun b1 => W.q (sa rfl) rfl <| W.nil <| G.seq <| G.seq <| G.reg <| W.q (mv rfl) rfl <| W.q (ln Try.esl22 rfl) rfl <| W.q (ne rfl rfl) rfl <| W.nil <| G.cdd rfl (fun h1 => ?_) (fun h1 => ?_)
  · -- h1 True
    refine G.seq <| G.reg <| W.q (bld (cs := [_, _, _, _, _]) Try.stp66 rfl rfl) rfl <| W.sta Try.sz66 rfl rfl rfl rfl .hd rfl <| W.q (sa rfl) rfl <| W.nil <| ret hX Try.results48 (RA.cella rfl Try.agg66 Try.sz66 (Cells.whole .hd) rfl <| RA.tmp rfl <| RA.nil) fun w hm => done rfl ?_ (Mem.slNil (Dr.ent (Dr.new rfl) w hm) 5 1)
    have e : parseR bs = (pt0, 2) := by rw [parseR, if_pos (by omega)]
    rw [e]; exact ⟨none, 0, rfl, rfl⟩
  · -- h1 False
    have h480 : bs.length = 480 := by omega
    obtain ⟨zb, zo, rfl, hx0⟩ := hl 0 _ (B_get (getD_some bs 0 (by omega)))
    have hcell : ∀ i, i < 480 → X.w0.cell? ⟨zb, zo + i, none⟩ = some (u8 (bs.getD i 0)) := fun i hi => by
      obtain ⟨b', o', h1, h2⟩ := hl i _ (B_get (getD_some bs i (by omega)))
      cases h1; exact h2
    refine G.skip <| G.seq <| G.seq <| G.reg <| W.q (sa rfl) rfl <| W.nil <| G.blk <| G.loop1 (α := Nat) (fun k => k ≤ 16 ∧ bs.take k = List.replicate k 0) (fun k => [(4, i64 k)]) (fun k => []) (fun k => 16 - k) [(0, _), (2, _)] _ 0 (by simp) (Sub.cons rfl <| Sub.cons rfl <| Sub.cons rfl <| Sub.nil _) .rfl (fun k hk ih => ?_)
    refine G.seq <| G.seq <| G.reg <| W.q (mv rfl) rfl <| W.q (lt rfl rfl) rfl <| W.nil <| G.cdd rfl (fun h2 => ?_) (fun h2 => ?_)
    · -- h2 True
      refine G.skip <| G.seq <| G.blk <| G.seq <| G.reg <| W.q (mv rfl) rfl <| W.q (mv rfl) rfl <| W.q (ia Try.esl22 rfl rfl (by omega) (by omega)) rfl <| W.q (ld Try.sc5 rfl (Cell.old rfl (by rw [show (k : Int).toNat * 1 = k by omega]; exact hcell k (by omega)))) rfl <| W.q (ne rfl rfl) rfl <| W.nil <| G.cdd rfl (fun h3 => ?_) (fun h3 => ?_)
      · -- h3 True
        have hz16 : bs.take 16 ≠ List.replicate 16 0 := fun h => h3 (by
          have h4 := congrArg (fun l => l[k]?) h
          simp only [List.getElem?_take, if_pos (show k < 16 by omega), List.getElem?_replicate, getD_some bs k (by omega)] at h4
          rw [Option.some.inj h4]; rfl)
        refine G.seq <| G.reg <| W.q (bld (cs := [_, _, _, _, _]) Try.stp66 rfl rfl) rfl <| W.sta Try.sz66 rfl rfl rfl rfl .hd rfl <| W.q (sa rfl) rfl <| W.nil <| ret hX Try.results48 (RA.cella rfl Try.agg66 Try.sz66 (Cells.whole .hd) rfl <| RA.tmp rfl <| RA.nil) fun w hm => done rfl ?_ (Mem.slNil (Dr.ent (Dr.new rfl) w hm) 5 1)
        have e : parseR bs = (pt0, 7) := by rw [parseR, if_neg (by omega), if_pos hz16]
        rw [e]; exact ⟨none, 0, rfl, rfl⟩
      · -- h3 False
        refine G.skip <| G.inb <| G.reg <| W.q (mv rfl) rfl <| W.q (ad rfl rfl (by omega)) rfl <| W.q (sa rfl) rfl <| W.nil <| (ih (k + 1) ⟨by omega, by rw [take_succ' (getD_some bs k (by omega)), hk.2, (u8_zero _).1 (Classical.byContradiction h3), List.replicate_succ']⟩ (by omega)).weak (Sub.cons rfl <| Sub.cons rfl <| Sub.cons rfl <| Sub.nil _) .rfl
    · -- h2 False
      have hk16 : k = 16 := by omega
      subst hk16
      have hz16 := hk.2
      refine G.exit rfl <| G.seq <| G.rega 14 rfl Try.mixed <| A.q 0 rfl (by kernel_rfl) (fun _ => (mv rfl)) rfl <| A.q 1 rfl (by kernel_rfl) (fun _ => (ia Try.esl22 rfl rfl (by omega) (by omega))) rfl <| A.q 3 rfl (by kernel_rfl) (fun _ => (mv rfl)) rfl <| A.q 4 rfl (by kernel_rfl) (fun _ => (ia Try.esl22 rfl rfl (by omega) (by omega))) rfl <| A.q 7 rfl (by kernel_rfl) (fun _ => (mv rfl)) rfl <| A.q 8 rfl (by kernel_rfl) (fun _ => (ia Try.esl22 rfl rfl (by omega) (by omega))) rfl <| A.held 2 [5, 6, 9, 10, 12] rfl (by kernel_rfl) (ld Try.sc5 rfl (Cell.old rfl (hcell 16 (by decide)))) rfl <| A.held 5 [9, 10, 12] rfl (by kernel_rfl) (ld Try.sc5 rfl (Cell.old rfl (hcell 17 (by decide)))) rfl <| A.q 6 rfl (by kernel_rfl) (fun _ => (cv_u8_i64 Try.underlying5 Try.underlying3 rfl)) rfl <| A.held 9 [12] rfl (by kernel_rfl) (ld Try.sc5 rfl (Cell.old rfl (hcell 18 (by decide)))) rfl <| A.q 10 rfl (by kernel_rfl) (fun _ => (cv_u8_i64 Try.underlying5 Try.underlying3 rfl)) rfl <| A.q 11 rfl (by kernel_rfl) (fun _ => (bld (cs := [_, _, _, _, _]) Try.stp66 rfl rfl)) rfl <| A.one 12 rfl (by kernel_rfl) <| W.al Try.zrl66 rfl fun b2 => A.back <| A.one 13 rfl (by kernel_rfl) <| W.sta Try.sz66 rfl rfl rfl rfl .hd rfl <| A.back <| A.nil (by kernel_rfl) <| G.seq <| G.seq <| G.join [(43, .bool (decide (badKind bs)))] [(0, _), (2, _), (5, _)] (Sub.cons rfl <| Sub.cons rfl <| Sub.cons rfl <| Sub.nil _) (fun key9 => ?_) ?_
      · -- region 9
        refine G.reg <| W.q (fa Try.fof66_0 rfl) rfl <| W.q (ld Try.sc5 rfl (Cell.at .hd rfl)) rfl <| W.q (lt rfl rfl) rfl <| W.q (mv rfl) rfl <| W.sp (t := _) 39 rfl (fun g4 => ?_) (fun g4 => ?_)
        · -- True
          refine W.sk rfl rfl g4 rfl <| W.sk rfl rfl g4 rfl <| W.sk rfl rfl g4 rfl <| W.q (pkt rfl g4 rfl) rfl <| W.nil <| key9.weak (Sub.co rfl ?_ <| Sub.cons rfl <| Sub.cons rfl <| Sub.cons rfl <| Sub.nil _) .rfl
          all_goals (clear key9; show Value.bool _ = Value.bool _; congr 1; grind [badKind])
        · -- False
          refine W.qg rfl rfl g4 (fa Try.fof66_0 rfl) rfl <| W.qg rfl rfl g4 (ld Try.sc5 rfl (Cell.at .hd rfl)) rfl <| W.qg rfl rfl g4 (gt rfl rfl) rfl <| W.q (pkf rfl g4 rfl) rfl <| W.nil <| key9.weak (Sub.co rfl ?_ <| Sub.cons rfl <| Sub.cons rfl <| Sub.cons rfl <| Sub.nil _) .rfl
          all_goals (clear key9; show Value.bool _ = Value.bool _; congr 1; grind [badKind])
      refine G.cdd rfl (fun h5 => ?_) (fun h5 => ?_)
      · -- h5 True
        refine G.seq <| G.reg <| W.q (bld (cs := [_, _, _, _, _]) Try.stp66 rfl rfl) rfl <| W.sta Try.sz66 rfl rfl rfl rfl (.tl <| .hd) rfl <| W.q (sa rfl) rfl <| W.nil <| ret hX Try.results48 (RA.cella rfl Try.agg66 Try.sz66 (Cells.whole (.tl <| .hd)) rfl <| RA.tmp rfl <| RA.nil) fun w hm => done rfl ?_ (Mem.slNil (Dr.ent (Dr.new rfl) w hm) 5 1)
        have e : parseR bs = (pt0, 1) := by rw [parseR, if_neg (by omega), if_neg (by simpa using hz16), if_pos h5]
        rw [e]; exact ⟨none, 0, rfl, rfl⟩
      · -- h5 False
        refine G.skip <| G.seq <| G.seq <| G.reg <| W.q (sa rfl) rfl <| W.nil <| G.blk <| G.loop1 (α := Nat) (fun k => k ≤ 8) (fun k => [(6, i64 (20 + (k : Int)))]) (fun k => [nb b2 [u8 (bs.getD 16 0), u64 (UInt64.ofNat (beN ((bs.drop 20).take k))), i64 ((bs.getD 17 0).toNat : Int), i64 ((bs.getD 18 0).toNat : Int), .slice none 0 0] 66]) (fun k => 8 - k) [(0, _), (2, _), (5, _)] [_] 0 (by omega) (Sub.cons rfl <| Sub.cons rfl <| Sub.cons rfl <| Sub.cons rfl <| Sub.nil _) .rfl (fun k hk ih2 => ?_)
        refine G.seq <| G.seq <| G.reg <| W.q (mv rfl) rfl <| W.q (lt rfl rfl) rfl <| W.nil <| G.cdd rfl (fun h6 => ?_) (fun h6 => ?_)
        · -- h6 True
          have hst : UInt64.ofNat (beN ((bs.drop 20).take k)) * 256 + (bs.getD (20 + k) 0).toUInt64 = UInt64.ofNat (beN ((bs.drop 20).take (k + 1))) := by
            rw [take_succ' (x := bs.getD (20 + k) 0) (by rw [List.getElem?_drop]; exact getD_some bs (20 + k) (by omega)), beN_snoc, UInt64.ofNat_add, UInt64.ofNat_mul, of_u8]; rfl
          refine G.skip <| G.seq <| G.blk <| G.regt 10 Try.mixed (by kernel_rfl) <| W.q (fa Try.fof66_1 rfl) rfl <| W.q (ld Try.sc29 rfl (Cell.at .hd rfl)) rfl <| W.q (mul_u64 (b := 256) rfl rfl) rfl <| W.q (mv rfl) rfl <| W.q (mv rfl) rfl <| W.q (ia Try.esl22 rfl rfl (by omega) (by omega)) rfl <| W.q (ld Try.sc5 rfl (Cell.old rfl (by rw [show (20 + (k : Int)).toNat * 1 = 20 + k by omega]; exact hcell (20 + k) (by omega)))) rfl <| W.q (cv_u8_u64 Try.underlying5 Try.underlying29 rfl) rfl <| W.q (add_u64 rfl rfl) rfl <| W.q (fa Try.fof66_1 rfl) rfl <| W.nilt <| W.st (cs' := [_, _, _, _, _]) Try.sz29 rfl rfl rfl rfl rfl .hd (by simp) rfl <| W.nil <| G.inb <| G.reg <| W.q (mv rfl) rfl <| W.q (ad rfl rfl (by omega)) rfl <| W.q (sa rfl) rfl <| W.nil <| ?_
          rw [hst]
          refine (ih2 (k + 1) (by omega) (by omega)).weak (Sub.co rfl ?_ <| Sub.cons rfl <| Sub.cons rfl <| Sub.cons rfl <| Sub.nil _) .rfl
          all_goals clear ih2
          · rfl
        · -- h6 False
          have hk8 : k = 8 := by omega
          subst hk8
          have hb28 := (bs.getD 28 0).toNat_lt
          have hb29 := (bs.getD 29 0).toNat_lt
          refine G.exit rfl <| G.seq <| G.regq Try.mixed (by kernel_rfl) <| W.q (mv rfl) rfl <| W.q (ia Try.esl22 rfl rfl (by omega) (by omega)) rfl <| W.q (ld Try.sc5 rfl (Cell.old rfl (hcell 28 (by decide)))) rfl <| W.q (cv_u8_i64 Try.underlying5 Try.underlying3 rfl) rfl <| W.q (ml rfl rfl (by omega)) rfl <| W.q (mv rfl) rfl <| W.q (ia Try.esl22 rfl rfl (by omega) (by omega)) rfl <| W.q (ld Try.sc5 rfl (Cell.old rfl (hcell 29 (by decide)))) rfl <| W.q (cv_u8_i64 Try.underlying5 Try.underlying3 rfl) rfl <| W.q (ad rfl rfl (by omega)) rfl <| W.q (sa rfl) rfl <| W.nilq <| G.seq <| G.seq <| ?_
          rw [size_two bs h480]
          refine G.reg <| W.q (mv rfl) rfl <| W.q (gt rfl rfl) rfl <| W.nil <| G.cdd rfl (fun h7 => ?_) (fun h7 => ?_)
          · -- h7 True
            refine G.seq <| G.reg <| W.q (bld (cs := [_, _, _, _, _]) Try.stp66 rfl rfl) rfl <| W.sta Try.sz66 rfl rfl rfl rfl (.tl <| .hd) rfl <| W.q (sa rfl) rfl <| W.nil <| ret hX Try.results48 (RA.cella rfl Try.agg66 Try.sz66 (Cells.whole (.tl <| .hd)) rfl <| RA.tmp rfl <| RA.nil) fun w hm => done rfl ?_ (Mem.slNil (Dr.ent (Dr.new rfl) w hm) 5 1)
            have e : parseR bs = (pt0, 3) := by rw [parseR, if_neg (by omega), if_neg (by simpa using hz16), if_neg h5]; split; rfl; rename_i h; exact absurd (Or.inr (by omega)) h
            rw [e]; exact ⟨none, 0, rfl, rfl⟩
          · -- h7 False
            have hs450 : sizeOfB bs ≤ 450 := by omega
            have e30 : (30 + (sizeOfB bs : Int)).toNat = 30 + sizeOfB bs := by omega
            have hdat : RdL X.w0 (slA (some ⟨zb, zo, none⟩) 30 cap 1) (B ((bs.drop 30).take (sizeOfB bs))) := hl.subB 30 (sizeOfB bs) cap hcap
            have hps := parse_same bs h480 hz16 h5 hs450
            refine G.skip <| G.seq <| G.reg <| W.q (mv rfl) rfl <| W.q (mv rfl) rfl <| W.q (ad rfl rfl (by omega)) rfl <| W.q (slh Try.esl22 rfl rfl rfl (by omega) (by omega) (by omega)) rfl <| W.fn Try.ca13 rfl (fun w hm => ref01_Copyx (bs := (bs.drop 30).take (sizeOfB bs)) (hm.rd rfl hdat) (by simp; omega) (by simp; omega)) rfl fun v J hv hJ => ?_
            obtain ⟨a3, c3, rfl, rfl⟩ := hv
            refine W.slAt (a := a3) (m := _) (cap := c3) (E := 5) (s := 1) (xs := _) (.head _) (fun q1 q2 q3 q4 => ?_)
            refine W.q (fa Try.fof66_4 rfl) rfl <| W.st (cs' := [_, _, _, _, _]) Try.sz22 rfl rfl rfl rfl rfl (.tl <| .hd) (by simp) rfl <| W.nil <| G.seq <| G.reg <| W.q (lda Try.agg66 Try.sz66 rfl (Cells.whole (.tl <| .hd)) rfl) rfl <| W.fn Try.ca42 rfl (fun w hm => ref11_Frame (partOf bs) a3 c3 w (hm.slRd (.head _)) (by simp [partOf]; omega) q2) rfl fun v J hv hJ => ?_
            obtain ⟨v1, ⟨a4, c4, rfl, rfl⟩, rfl⟩ := hv
            refine W.q (mv rfl) rfl <| W.q (ex rfl rfl) rfl <| W.q (ex rfl rfl) rfl <| W.q (sa rfl) rfl <| W.q (sa rfl) rfl <| W.nil <| G.seq <| G.seq <| G.join [(90, .bool (decide ((frameR (partOf bs)).2 ≠ 0 ∨ (frameR (partOf bs)).1 ≠ bs)))] [(2, _), (5, _)] (Sub.cons rfl <| Sub.cons rfl <| Sub.nil _) (fun key20 => ?_) ?_
            · -- region 20
              refine G.reg <| W.q (mv rfl) rfl <| W.q (ne rfl rfl) rfl <| W.q (mv rfl) rfl <| W.sp (t := _) 85 rfl (fun g8 => ?_) (fun g8 => ?_)
              · -- True
                refine W.sk rfl rfl g8 rfl <| W.sk rfl rfl g8 rfl <| W.sk rfl rfl g8 rfl <| W.sk rfl rfl g8 rfl <| W.q (pkt rfl g8 rfl) rfl <| W.nil <| key20.weak (Sub.co rfl ?_ <| Sub.cons rfl <| Sub.cons rfl <| Sub.nil _) .rfl
                all_goals (clear key20; show Value.bool _ = Value.bool _; congr 1; grind)
              · -- False
                refine W.qg rfl rfl g8 (mv rfl) rfl <| W.qg rfl rfl g8 (mv rfl) rfl <| W.fvg rfl rfl g8 Try.ca15 rfl (fun w hm => ref01_Equalx (hm.slRd (.head _)) (frameR_le (partOf bs)) (hm.rd rfl hl) rfl rfl) rfl <| W.qg rfl rfl g8 (nt rfl) rfl <| W.q (pkf rfl g8 rfl) rfl <| W.nil <| key20.weak (Sub.co rfl ?_ <| Sub.cons rfl <| Sub.cons rfl <| Sub.nil _) .rfl
                all_goals (clear key20; show Value.bool _ = Value.bool _; congr 1; grind)
            refine G.cdd rfl (fun h9 => ?_) (fun h9 => ?_)
            · -- h9 True
              refine G.seq <| G.reg <| W.q (bld (cs := [_, _, _, _, _]) Try.stp66 rfl rfl) rfl <| W.sta Try.sz66 rfl rfl rfl rfl (.tl <| .tl <| .tl <| .hd) rfl <| W.q (sa rfl) rfl <| W.nil <| ret hX Try.results48 (RA.cella rfl Try.agg66 Try.sz66 (Cells.whole (.tl <| .tl <| .tl <| .hd)) rfl <| RA.tmp rfl <| RA.nil) fun w hm => done rfl ?_ (Mem.slNil (Dr.ent (Dr.new rfl) w hm) 5 1)
              have e : parseR bs = (pt0, 3) := by rw [hps, if_pos h9]
              rw [e]; exact ⟨none, 0, rfl, rfl⟩
            · -- h9 False
              refine G.skip <| G.seq <| G.reg <| W.q (lda Try.agg66 Try.sz66 rfl (Cells.whole (.tl <| .tl <| .hd)) rfl) rfl <| W.sta Try.sz66 rfl rfl rfl rfl (.tl <| .tl <| .tl <| .hd) rfl <| W.q (sa rfl) rfl <| W.nil <| ret hX Try.results48 (RA.cella rfl Try.agg66 Try.sz66 (Cells.whole (.tl <| .tl <| .tl <| .hd)) rfl <| RA.tmp rfl <| RA.nil) fun w hm => done (H := [ppI (partOf bs, a3, c3)]) rfl ?_ (Dr.ent (.drop rfl <| .keep <| .drop rfl <| .drop rfl .rfl) w hm)
              have e : parseR bs = (partOf bs, 0) := by rw [hps, if_neg h9]
              rw [e]; exact ⟨a3, c3, rfl, rfl⟩
end Go.Proofs.Ytjalojbihpdghaa
