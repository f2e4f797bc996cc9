/- FrameFrames, FrameParses: the laws' walks. -/
import Derived.Test.YtnbofpojbpmdmaaFrame4
import Derived.Test.YtnbofpojbpmdmaaLaw11
namespace Go.Proofs.Ytnbofpojbpmdmaa
open Go Go.Eng
set_option linter.unusedVariables false

theorem beN_leB : ∀ (w n : Nat), n < 256 ^ w → beN (leB w n).reverse = n
  | 0, n, h => by simp at h; subst h; rfl
  | w + 1, n, h => by
    have h1 : (byteAt n 0).toNat = n % 256 := by rw [byteAt, UInt8.toNat_ofNat']; omega
    rw [leB_cons, List.reverse_cons, beN_snoc, beN_leB w (n / 256) (by rw [Nat.pow_succ] at h; omega), h1]
    omega
theorem frame_parts (p : Pt) : frameB p = (List.replicate 16 0 ++ frameH p) ++ ((leB 8 p.id.toNat).reverse ++ ((leB 2 p.data.length).reverse ++ (p.data ++ List.replicate (450 - p.data.length) 0))) := by
  simp only [frameB, frameH, List.append_assoc]
theorem frame_head (p : Pt) (i : Nat) (h : i < 4) : (frameB p).getD (16 + i) 0 = (frameH p).getD i 0 := by
  have hl : (frameH p).length = 4 := rfl
  rw [frame_parts, List.getD_eq_getElem?_getD, List.getElem?_append_left (by simp [hl]; omega), List.getElem?_append_right (by simp), List.getD_eq_getElem?_getD]
  simp
theorem drop_at {α : Type} (A R : List α) (n : Nat) (h : A.length = n) : (A ++ R).drop n = R := List.drop_left' h
theorem frame_drops (p : Pt) : (frameB p).drop 20 = (leB 8 p.id.toNat).reverse ++ ((leB 2 p.data.length).reverse ++ (p.data ++ List.replicate (450 - p.data.length) 0)) ∧ (frameB p).drop 28 = (leB 2 p.data.length).reverse ++ (p.data ++ List.replicate (450 - p.data.length) 0) ∧ (frameB p).drop 30 = p.data ++ List.replicate (450 - p.data.length) 0 := by
  have h1 : (frameB p).drop 20 = (leB 8 p.id.toNat).reverse ++ ((leB 2 p.data.length).reverse ++ (p.data ++ List.replicate (450 - p.data.length) 0)) := by
    rw [frame_parts]; exact drop_at _ _ 20 (by simp [frameH])
  have h2 : (frameB p).drop 28 = (leB 2 p.data.length).reverse ++ (p.data ++ List.replicate (450 - p.data.length) 0) := by
    rw [show (frameB p).drop 28 = ((frameB p).drop 20).drop 8 by simp, h1]; exact drop_at _ _ 8 (by simp [leB_len])
  refine ⟨h1, h2, ?_⟩
  rw [show (frameB p).drop 30 = ((frameB p).drop 28).drop 2 by simp, h2]; exact drop_at _ _ 2 (by simp [leB_len])
theorem byte_small (n : Int) (h0 : 0 ≤ n) (h : n ≤ 16) : ((Eng.byteOf n).toNat : Int) = n := by have := byteOf_toNat n; omega
theorem parse_frame (p : Pt) (hc : checkR p = 0) : parseR (frameB p) = (p, 0) := by
  obtain ⟨⟨hk1, hk3⟩, hd, hc1, hc16, hi0, hic⟩ := check_ok hc
  have hlen := frameB_len p hd
  obtain ⟨d20, d28, d30⟩ := frame_drops p
  have hs : sizeOfB (frameB p) = p.data.length := by
    rw [sizeOfB, d28, List.take_left' (by simp [leB_len]), beN_leB 2 _ (by omega)]
  have g0 : (frameB p).getD 16 0 = p.kind := frame_head p 0 (by decide)
  have g1 : (frameB p).getD 17 0 = Eng.byteOf p.index := frame_head p 1 (by decide)
  have g2 : (frameB p).getD 18 0 = Eng.byteOf p.count := frame_head p 2 (by decide)
  have g3 : (frameB p).getD 19 0 = 0 := frame_head p 3 (by decide)
  have hp : partOf (frameB p) = p := by
    unfold partOf
    rw [g0, g1, g2, hs, d30, List.take_left' rfl, d20, List.take_left' (by simp [leB_len]), beN_leB 8 _ (by have := p.id.toNat_lt; omega), byte_small _ hi0 (by omega), byte_small _ (by omega) hc16, UInt64.ofNat_toNat]
  have hz : (frameB p).take 16 = List.replicate 16 0 := by rw [frame_parts, List.append_assoc, List.take_left' (by simp)]
  have hr : (frameB p).drop (30 + p.data.length) = List.replicate (450 - p.data.length) 0 := by
    rw [show (frameB p).drop (30 + p.data.length) = ((frameB p).drop 30).drop p.data.length by simp, d30]; exact drop_at _ _ _ rfl
  rw [parseR, if_neg (by omega), if_neg (by simpa using hz), if_neg (by unfold badKind; rw [g0]; omega), hs, if_neg (by rw [g3]; simp; omega), if_neg (by rw [hr, hp]; simp [hc]), hp]
theorem parse_data (bs : List UInt8) : (parseR bs).1.data.length ≤ 65536 := by
  have h0 : (pt0 : Pt).data.length = 0 := rfl
  have h1 : (partOf bs).data.length ≤ 65536 := by have := size_lt bs; simp [partOf]; omega
  unfold parseR
  repeat' split
  all_goals (simp only []; omega)
theorem parse_ok {bs : List UInt8} (h : (parseR bs).2 = 0) : parseR bs = (partOf bs, 0) ∧ frameR (partOf bs) = (bs, 0) ∧ bs.length = 480 := by
  unfold parseR at *
  split at h
  · simp at h
  split at h
  · simp at h
  split at h
  · simp at h
  split at h
  · simp at h
  split at h
  · simp at h
  rename_i h1 h2 h3 h4 h5
  rw [if_neg h1, if_neg h2, if_neg h3, if_neg h4, if_neg h5]
  refine ⟨rfl, ?_, by omega⟩
  have hc : checkR (partOf bs) = 0 := Classical.byContradiction fun h' => h5 (.inr h')
  rw [frameR, if_neg (by simpa using hc), (frame_same bs (by omega) (Classical.byContradiction fun h' => h2 h') (by omega)).2 ⟨Classical.byContradiction fun h' => h4 (.inl h'), Classical.byContradiction fun h' => h5 (.inl h')⟩]


set_option maxRecDepth 100000 in
theorem law_FrameFrames (p : Pt) (a : Option Addr) (cap : Nat) (w : World) (hl : RdL w a (B p.data)) (hb : p.data.length ≤ 140737488351232) (hcap : p.data.length ≤ cap) :
    Ret Try.prog 10 [.agg (ptC p a cap).toArray] w (fun v _ => v = .bool true) := by
  unfold ptC
  refine enter [] (Mem.nil _) Try.func10 rfl Try.ntmps10 rfl (fun X hX => ?_)
  have hw := hX.w0; subst hw
  refine G.seq <| G.reg <| W.bxa rfl rfl fun b1 => W.q (sa rfl) rfl <| W.nil <| G.seq <| G.seq <| G.join [(17, .bool false)] [(1, _)] (Sub.cons rfl <| Sub.nil _) (fun key1 => ?_) ?_
  · -- region 1
    refine G.rega 10 rfl Try.mixed <| A.one 0 rfl (by kernel_rfl) <| W.fv Try.ca32 rfl (fun w hm => law11_awake w) rfl <| A.back <| A.q 1 rfl (by kernel_rfl) (fun _ => (nt rfl)) rfl <| A.q 2 rfl (by kernel_rfl) (fun _ => (mv rfl)) rfl <| A.heldg 3 [6] rfl (by kernel_rfl) rfl rfl rfl (lda Try.agg119 Try.sz119 rfl (Cells.whole .hd) rfl) rfl <| A.two 4 6 rfl rfl (by kernel_rfl) ?_ ?_
    · -- o1: 4 first
      refine W.fng rfl rfl rfl Try.ca57 rfl (fun w hm => ref11_Twin p a cap w (hm.rd rfl hl) hb) rfl fun v J hv hJ => ?_
      obtain ⟨a1, c1, rfl, rfl⟩ := hv
      refine A.back <| A.two 5 6 rfl rfl (by kernel_rfl) ?_ ?_
      · -- o2: 5 first
        refine W.fvg rfl rfl rfl Try.ca56 rfl (fun w hm => frame_Check p a1 c1 w) rfl <| A.back <| A.heldg 6 [] rfl (by kernel_rfl) rfl rfl rfl (lda Try.agg119 Try.sz119 rfl (Cells.whole (.tl <| .hd)) rfl) rfl <| A.one 7 rfl (by kernel_rfl) <| W.fvg rfl rfl rfl Try.ca58 rfl (fun w hm => ref11_Check p a cap w) rfl <| A.back <| A.qg 8 rfl (by kernel_rfl) rfl rfl rfl (fun _ => (ne rfl rfl)) rfl <| A.q 9 rfl (by kernel_rfl) (fun _ => (pkf rfl rfl rfl)) rfl <| A.nil (by kernel_rfl) <| key1.weak (Sub.co rfl ?_ <| Sub.cons rfl <| Sub.nil _) (Dr.ent <| Dr.drop rfl <| Dr.keep <| .rfl)
        all_goals first | rfl | (show Value.bool _ = Value.bool _; congr 1; grind)
      · -- o2: 6 first
        refine W.qg rfl rfl rfl (lda Try.agg119 Try.sz119 rfl (Cells.whole (.tl <| .hd)) rfl) rfl <| A.back <| A.one 5 rfl (by kernel_rfl) <| W.fvg rfl rfl rfl Try.ca56 rfl (fun w hm => frame_Check p a1 c1 w) rfl <| A.back <| A.one 7 rfl (by kernel_rfl) <| W.fvg rfl rfl rfl Try.ca58 rfl (fun w hm => ref11_Check p a cap w) rfl <| A.back <| A.qg 8 rfl (by kernel_rfl) rfl rfl rfl (fun _ => (ne rfl rfl)) rfl <| A.q 9 rfl (by kernel_rfl) (fun _ => (pkf rfl rfl rfl)) rfl <| A.nil (by kernel_rfl) <| key1.weak (Sub.co rfl ?_ <| Sub.cons rfl <| Sub.nil _) (Dr.ent <| Dr.drop rfl <| Dr.keep <| .rfl)
        all_goals first | rfl | (show Value.bool _ = Value.bool _; congr 1; grind)
    · -- o1: 6 first
      refine W.qg rfl rfl rfl (lda Try.agg119 Try.sz119 rfl (Cells.whole .hd) rfl) rfl <| A.back <| A.one 4 rfl (by kernel_rfl) <| W.fng rfl rfl rfl Try.ca57 rfl (fun w hm => ref11_Twin p a cap w (hm.rd rfl hl) hb) rfl fun v J hv hJ => ?_
      obtain ⟨a1, c1, rfl, rfl⟩ := hv
      refine A.back <| A.one 5 rfl (by kernel_rfl) <| W.fvg rfl rfl rfl Try.ca56 rfl (fun w hm => frame_Check p a1 c1 w) rfl <| A.back <| A.one 7 rfl (by kernel_rfl) <| W.fvg rfl rfl rfl Try.ca58 rfl (fun w hm => ref11_Check p a cap w) rfl <| A.back <| A.qg 8 rfl (by kernel_rfl) rfl rfl rfl (fun _ => (ne rfl rfl)) rfl <| A.q 9 rfl (by kernel_rfl) (fun _ => (pkf rfl rfl rfl)) rfl <| A.nil (by kernel_rfl) <| key1.weak (Sub.co rfl ?_ <| Sub.cons rfl <| Sub.nil _) (Dr.ent <| Dr.drop rfl <| Dr.keep <| .rfl)
      all_goals first | rfl | (show Value.bool _ = Value.bool _; congr 1; grind)
  refine G.cdf rfl rfl <| G.skip <| G.seq <| G.reg <| W.q (lda Try.agg119 Try.sz119 rfl (Cells.whole .hd) rfl) rfl <| W.fn Try.ca57 rfl (fun w hm => ref11_Twin p a cap w (hm.rd rfl hl) hb) rfl fun v J hv hJ => ?_
  obtain ⟨a1, c1, rfl, rfl⟩ := hv
  refine W.slAt (a := a1) (m := p.data.length) (cap := c1) (E := 5) (s := 1) (xs := B p.data) (.head _) (fun q1 q2 q3 q4 => ?_)
  refine W.fn Try.ca59 rfl (fun w hm => frame_Frame p a1 c1 w (hm.slRd (m := p.data.length) (cap := c1) (E := 5) (s := 1) (.head _)) hb q2) rfl fun v J hv hJ => ?_
  obtain ⟨v1, ⟨a2, c2, rfl, rfl⟩, rfl⟩ := hv
  refine W.q (mv rfl) rfl <| W.q (ex rfl rfl) rfl <| W.q (ex rfl rfl) rfl <| W.q (sa rfl) rfl <| W.q (sa rfl) rfl <| W.nil <| G.seq <| G.reg <| W.q (lda Try.agg119 Try.sz119 rfl (Cells.whole (.tl <| .tl <| .hd)) rfl) rfl <| W.fn Try.ca60 rfl (fun w hm => ref11_Frame p a cap w (hm.rd rfl hl) hb hcap) rfl fun v J hv hJ => ?_
  obtain ⟨v1, ⟨a3, c3, rfl, rfl⟩, rfl⟩ := hv
  refine W.q (mv rfl) rfl <| W.q (ex rfl rfl) rfl <| W.q (ex rfl rfl) rfl <| W.q (sa rfl) rfl <| W.q (sa rfl) rfl <| W.nil <| G.seq <| G.seq <| G.join [(37, .bool false)] [(1, _), (3, _), (4, _)] (Sub.cons rfl <| Sub.cons rfl <| Sub.cons rfl <| Sub.nil _) (fun key5 => ?_) ?_
  · -- region 5
    refine G.reg <| W.q (mv rfl) rfl <| W.q (mv rfl) rfl <| W.q (ne rfl rfl) rfl <| W.q (mv rfl) rfl <| W.sp (t := _) 32 rfl (fun g3 => ?_) (fun g3 => ?_)
    · -- True
      simp at g3
    · -- False
      refine W.qg rfl rfl g3 (mv rfl) rfl <| W.qg rfl rfl g3 (mv rfl) rfl <| W.fvg rfl rfl g3 Try.ca28 rfl (fun w hm => ref01_EqualT (hm.slRd (.tail _ <| .head _)) (frameR_le p) (hm.slRd (.head _)) rfl rfl rfl) rfl <| W.qg rfl rfl g3 (nt rfl) rfl <| W.q (pkf rfl g3 rfl) rfl <| W.nil <| key5.weak (Sub.co rfl ?_ <| Sub.cons rfl <| Sub.cons rfl <| Sub.cons rfl <| Sub.nil _) .rfl
      all_goals first | rfl | (show Value.bool _ = Value.bool _; congr 1; grind)
  refine G.cdf rfl rfl <| G.skip <| G.seq <| G.seq <| G.reg <| W.q (mv rfl) rfl <| W.q (ne rfl rfl) rfl <| W.nil <| G.cdd rfl (fun h4 => ?_) (fun h4 => ?_)
  · -- h4 True
    refine G.seq <| G.reg <| W.q (sa rfl) rfl <| W.nil <| ret1 hX Try.results10 rfl fun w hm => done (H := []) rfl rfl (Dr.ent (Dr.new rfl) w hm)
  · -- h4 False
    have hck : checkR p = 0 := by
      have h := Classical.byContradiction h4
      unfold frameR at h
      split at h
      · exact h
      · rename_i h'; exact Classical.byContradiction h'
    have hfr : frameR p = (frameB p, 0) := by rw [frameR, if_neg (by simp [hck])]
    have hpf : parseR (frameR p).1 = (p, 0) := by rw [hfr]; exact parse_frame p hck
    refine G.skip <| G.seq <| G.reg <| W.q (mv rfl) rfl <| W.fn Try.ca61 rfl (fun w hm => frame_Parse a2 _ c2 _ w rfl (hm.slRd (.tail _ <| .head _)) (frameR_le p)) rfl fun v J hv hJ => ?_
    rw [hpf] at hv
    obtain ⟨a4, c4, rfl, rfl⟩ := hv
    refine W.q (mv rfl) rfl <| W.q (ex rfl rfl) rfl <| W.q (ex rfl rfl) rfl <| W.al Try.zrl119 rfl fun b2 => W.sta Try.sz119 rfl rfl rfl rfl .hd rfl <| W.q (sa rfl) rfl <| W.nil <| G.seq <| G.reg <| W.q (mv rfl) rfl <| W.q (eq rfl rfl) rfl <| W.q (mv rfl) rfl <| W.sp (t := _) 47 rfl (fun g5 => ?_) (fun g5 => ?_)
    · -- True
      refine W.qg rfl rfl g5 (lda Try.agg119 Try.sz119 rfl (Cells.whole .hd) rfl) rfl <| W.qg rfl rfl g5 (lda Try.agg119 Try.sz119 rfl (Cells.whole (.tl <| .tl <| .tl <| .tl <| .tl <| .hd)) rfl) rfl <| W.fvg rfl rfl g5 Try.ca62 rfl (fun w hm => ref11_SamePart p a4 a c4 cap w (hm.slRd (m := p.data.length) (cap := c4) (E := 5) (s := 1) (.tail _ <| .head _)) (hm.rd rfl hl) hb) rfl <| W.q (pkt rfl g5 rfl) rfl <| W.q (sa rfl) rfl <| W.nil <| ret1 hX Try.results10 rfl fun w hm => done (H := []) rfl rfl (Dr.ent (Dr.new rfl) w hm)
    · -- False
      simp at g5


set_option maxRecDepth 100000 in
theorem law_FrameParses (a : Option Addr) (len cap : Nat) (bs : List UInt8) (w : World) (hlen : len = bs.length) (hl : RdL w a (B bs)) (hb : bs.length ≤ 140737488351232) (hcap : bs.length ≤ cap) :
    Ret Try.prog 11 [.slice a len cap] w (fun v _ => v = .bool true) := by
  subst hlen
  refine enter [] (Mem.nil _) Try.func11 rfl Try.ntmps11 rfl (fun X hX => ?_)
  have hw := hX.w0; subst hw
  refine G.seq <| G.reg <| W.q (sa rfl) rfl <| W.nil <| G.seq <| G.seq <| G.reg <| W.fv Try.ca32 rfl (fun w hm => law11_awake w) rfl <| W.q (nt rfl) rfl <| W.nil <| G.cdf rfl rfl <| G.skip <| G.seq <| G.reg <| W.q (mv rfl) rfl <| W.fn Try.ca23 rfl (fun w hm => ref01_Copy a cap bs w (hm.rd rfl hl) hb) rfl fun v J hv hJ => ?_
  obtain ⟨a1, c1, rfl, rfl⟩ := hv
  refine W.fn Try.ca61 rfl (fun w hm => frame_Parse a1 _ c1 bs w rfl (hm.slRd (.head _)) hb) rfl fun v J hv hJ => ?_
  obtain ⟨a2, c2, rfl, rfl⟩ := hv
  have hpd := parse_data bs
  refine W.slAt (a := a2) (m := (parseR bs).1.data.length) (cap := c2) (E := 5) (s := 1) (xs := B (parseR bs).1.data) (.head _) (fun q1 q2 q3 q4 => ?_)
  refine W.q (mv rfl) rfl <| W.q (ex rfl rfl) rfl <| W.q (ex rfl rfl) rfl <| W.al Try.zrl119 rfl fun b1 => W.sta Try.sz119 rfl rfl rfl rfl .hd rfl <| W.q (sa rfl) rfl <| W.nil <| G.seq <| G.reg <| W.q (mv rfl) rfl <| W.fn Try.ca63 rfl (fun w hm => ref11_Parse a _ cap bs w rfl (hm.rd rfl hl) hb hcap) rfl fun v J hv hJ => ?_
  obtain ⟨a3, c3, rfl, rfl⟩ := hv
  refine W.q (mv rfl) rfl <| W.q (ex rfl rfl) rfl <| W.q (ex rfl rfl) rfl <| W.al Try.zrl119 rfl fun b2 => W.sta Try.sz119 rfl rfl rfl rfl .hd rfl <| W.q (sa rfl) rfl <| W.nil <| G.seq <| G.seq <| G.join [(29, .bool false)] [(0, _), (3, _), (4, _)] (Sub.cons rfl <| Sub.cons rfl <| Sub.cons rfl <| Sub.nil _) (fun key5 => ?_) ?_
  · -- region 5
    refine G.reg <| W.q (mv rfl) rfl <| W.q (mv rfl) rfl <| W.q (ne rfl rfl) rfl <| W.q (mv rfl) rfl <| W.sp (t := _) 24 rfl (fun g1 => ?_) (fun g1 => ?_)
    · -- True
      simp at g1
    · -- False
      refine W.qg rfl rfl g1 (lda Try.agg119 Try.sz119 rfl (Cells.whole (.tl <| .tl <| .hd)) rfl) rfl <| W.qg rfl rfl g1 (lda Try.agg119 Try.sz119 rfl (Cells.whole .hd) rfl) rfl <| W.fvg rfl rfl g1 Try.ca62 rfl (fun w hm => ref11_SamePart (parseR bs).1 a2 a3 c2 c3 w (hm.slRd (m := (parseR bs).1.data.length) (cap := c2) (E := 5) (s := 1) (.tail _ <| .tail _ <| .tail _ <| .head _)) (hm.slRd (m := (parseR bs).1.data.length) (cap := c3) (E := 5) (s := 1) (.tail _ <| .head _)) (by omega)) rfl <| W.qg rfl rfl g1 (nt rfl) rfl <| W.q (pkf rfl g1 rfl) rfl <| W.nil <| key5.weak (Sub.co rfl ?_ <| Sub.cons rfl <| Sub.cons rfl <| Sub.cons rfl <| Sub.nil _) .rfl
      all_goals first | rfl | (show Value.bool _ = Value.bool _; congr 1; grind)
  refine G.cdf rfl rfl <| G.skip <| G.seq <| G.seq <| G.reg <| W.q (mv rfl) rfl <| W.q (ne rfl rfl) rfl <| W.nil <| G.cdd rfl (fun h2 => ?_) (fun h2 => ?_)
  · -- h2 True
    refine G.seq <| G.reg <| W.q (sa rfl) rfl <| W.nil <| ret1 hX Try.results11 rfl fun w hm => done (H := []) rfl rfl (Dr.ent (Dr.new rfl) w hm)
  · -- h2 False
    obtain ⟨e1, e2, _⟩ := parse_ok (Classical.byContradiction h2)
    have hfr : frameR (parseR bs).1 = (bs, 0) := by rw [e1]; exact e2
    refine G.skip <| G.seq <| G.reg <| W.q (lda Try.agg119 Try.sz119 rfl (Cells.whole (.tl <| .tl <| .hd)) rfl) rfl <| W.fn Try.ca59 rfl (fun w hm => frame_Frame (parseR bs).1 a2 c2 w (hm.slRd (m := (parseR bs).1.data.length) (cap := c2) (E := 5) (s := 1) (.tail _ <| .tail _ <| .tail _ <| .head _)) (by omega) q2) rfl fun v J hv hJ => ?_
    rw [hfr] at hv
    obtain ⟨v1, ⟨a4, c4, rfl, rfl⟩, rfl⟩ := hv
    refine W.q (mv rfl) rfl <| W.q (ex rfl rfl) rfl <| W.q (ex rfl rfl) rfl <| W.q (sa rfl) rfl <| W.q (sa rfl) rfl <| W.nil <| G.seq <| G.reg <| W.q (mv rfl) rfl <| W.q (eq rfl rfl) rfl <| W.q (mv rfl) rfl <| W.sp (t := _) 39 rfl (fun g3 => ?_) (fun g3 => ?_)
    · -- True
      refine W.qg rfl rfl g3 (mv rfl) rfl <| W.qg rfl rfl g3 (mv rfl) rfl <| W.fvg rfl rfl g3 Try.ca28 rfl (fun w hm => ref01_EqualT (hm.slRd (.head _)) hb (hm.rd rfl hl) rfl rfl rfl) rfl <| W.q (pkt rfl g3 rfl) rfl <| W.q (sa rfl) rfl <| W.nil <| ret1 hX Try.results11 rfl fun w hm => done (H := []) rfl rfl (Dr.ent (Dr.new rfl) w hm)
    · -- False
      simp at g3
end Go.Proofs.Ytnbofpojbpmdmaa
