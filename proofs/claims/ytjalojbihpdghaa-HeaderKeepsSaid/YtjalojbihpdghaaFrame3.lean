/- Parts compared, framed. -/
import Derived.Test.YtjalojbihpdghaaFrame2
import Derived.Test.YtjalojbihpdghaaJoin
namespace Go.Proofs.Ytjalojbihpdghaa
open Go Go.Eng
set_option linter.unusedVariables false

/-- What a part's payload is. -/
def frameB (p : Pt) : List UInt8 := List.replicate 16 0 ++ ([p.kind, Eng.byteOf p.index, Eng.byteOf p.count, 0] ++ ((leB 8 p.id.toNat).reverse ++ ((leB 2 p.data.length).reverse ++ (p.data ++ List.replicate (450 - p.data.length) 0))))
def frameR (p : Pt) : List UInt8 × Int := if checkR p ≠ 0 then ([], checkR p) else (frameB p, 0)
theorem frameB_len (p : Pt) (h : p.data.length ≤ 450) : (frameB p).length = 480 := by simp [frameB, leB_len]; omega
theorem check_ok {p : Pt} (h : checkR p = 0) : (1 ≤ p.kind.toNat ∧ p.kind.toNat ≤ 3) ∧ p.data.length ≤ 450 ∧ 1 ≤ p.count ∧ p.count ≤ 16 ∧ 0 ≤ p.index ∧ p.index < p.count := by
  unfold checkR at h
  repeat' split at h
  all_goals first | omega | exact absurd h (by decide)
theorem u64Of_len (l : List UInt8) (h : l.length ≤ 450) : (u64Of (l.length : Int)).toNat = l.length := by
  have := u64Of_toNat (l.length : Int); omega


set_option maxRecDepth 100000 in
theorem ref11_Twin (p : Pt) (a : Option Addr) (cap : Nat) (w : World) (hl : RdL w a (B p.data)) (hb : p.data.length ≤ 140737488351232) :
    Ret Try.prog 54 [.agg (ptC p a cap).toArray] w (fun v J => ∃ a' c', v = .agg (ptC p a' c').toArray ∧ J = [ppI (p, a', c')]) := by
  unfold ptC
  refine enter [] (Mem.nil _) Try.func54 rfl Try.ntmps54 rfl (fun X hX => ?_)
  have hw := hX.w0; subst hw
  refine G.seq <| G.reg <| W.bxa rfl rfl fun b1 => W.al Try.zrl66 rfl fun b2 => W.nil <| G.seq <| G.reg <| W.q (fa Try.fof66_4 rfl) rfl <| W.q (ld Try.sc22 rfl (Cell.at (.tl <| .hd) rfl)) rfl <| W.fn Try.ca13 rfl (fun w hm => ref01_Copy a cap p.data w (hm.rd rfl hl) hb) rfl fun v J hv hJ => ?_
  obtain ⟨a1, c1, rfl, rfl⟩ := hv
  refine W.q (fa Try.fof66_4 rfl) rfl <| W.st (cs' := [_, _, _, _, _]) Try.sz22 rfl rfl rfl rfl rfl (.tl <| .tl <| .hd) (by simp) rfl <| W.nil <| G.seq <| G.reg <| W.q (lda Try.agg66 Try.sz66 rfl (Cells.whole (.tl <| .tl <| .hd)) rfl) rfl <| W.sta Try.sz66 rfl rfl rfl rfl (.tl <| .hd) rfl <| W.nil <| ret hX Try.results54 (RA.cella rfl Try.agg66 Try.sz66 (Cells.whole (.tl <| .hd)) rfl <| RA.nil) fun w hm => done (H := [ppI (p, a1, c1)]) rfl ⟨a1, c1, rfl, rfl⟩ (Dr.ent (.keep <| .drop rfl <| .drop rfl .rfl) w hm)

theorem put8 (n : UInt64) : putR 2 8 n = ((leB 8 n.toNat).reverse, 0) := by rw [putR, if_neg (by simp [shapeR]), if_neg (by omega), if_pos rfl]; rfl
theorem put2 (n : UInt64) (h : n.toNat < 65536) : putR 2 2 n = ((leB 2 n.toNat).reverse, 0) := by
  rw [putR, if_neg (by simp [shapeR]), if_neg (by simp; omega), if_pos rfl]; rfl
theorem codec_Put8 (n : UInt64) (w : World) : Ret Try.prog 59 [i64 2, i64 8, u64 n] w (fun v J => ∃ v1, NewB (leB 8 n.toNat).reverse v1 J ∧ v = .tuple #[v1, i64 0]) := by
  have := codec_Put 2 8 n w
  rwa [put8] at this
theorem codec_Put2 (n : UInt64) (k : Nat) (hn : n.toNat = k) (h : k < 65536) (w : World) : Ret Try.prog 59 [i64 2, i64 2, u64 n] w (fun v J => ∃ v1, NewB (leB 2 k).reverse v1 J ∧ v = .tuple #[v1, i64 0]) := by
  have := codec_Put 2 2 n w
  rw [put2 n (by omega), hn] at this; exact this
def frameH (p : Pt) : List UInt8 := [p.kind, Eng.byteOf p.index, Eng.byteOf p.count, 0]
theorem frame_pad (p : Pt) (h : p.data.length ≤ 450) : padR ([List.replicate 16 0, frameH p, (leB 8 p.id.toNat).reverse, (leB 2 p.data.length).reverse, p.data].flatten) 480 = (frameB p, 0) := by
  rw [padR, if_neg (by simp), if_neg (by simp [frameH, leB_len]; omega)]
  have e : ([List.replicate 16 0, frameH p, (leB 8 p.id.toNat).reverse, (leB 2 p.data.length).reverse, p.data].flatten).length = 30 + p.data.length := by simp [frameH, leB_len]; omega
  rw [e]
  have e2 : (480 : Int).toNat - (30 + p.data.length) = 450 - p.data.length := by omega
  rw [e2]
  simp only [frameB, frameH, List.flatten_cons, List.flatten_nil, List.append_nil, List.append_assoc]


set_option maxRecDepth 100000 in
theorem frame_Frame (p : Pt) (a : Option Addr) (cap : Nat) (w : World) (hl : RdL w a (B p.data)) (hb : p.data.length ≤ 140737488351232) (hcap : p.data.length ≤ cap) :
    Ret Try.prog 29 [.agg (ptC p a cap).toArray] w (fun v J => ∃ v1, NewB (frameR p).1 v1 J ∧ v = .tuple #[v1, i64 (frameR p).2]) := by
  unfold ptC
  refine enter [] (Mem.nil _) Try.func29 rfl Try.ntmps29 rfl (fun X hX => ?_)
  have hw := hX.w0; subst hw
  refine G.seq <| G.reg <| W.bxa rfl rfl fun b1 => W.q (sa rfl) rfl <| W.q (sa rfl) rfl <| W.nil <| G.seq <| G.seq <| G.reg <| W.q (lda Try.agg66 Try.sz66 rfl (Cells.whole .hd) rfl) rfl <| W.fv Try.ca58 rfl (fun w hm => frame_Check p a cap w) rfl <| W.q (sa rfl) rfl <| W.nil <| G.seq <| G.reg <| W.q (mv rfl) rfl <| W.q (ne rfl rfl) rfl <| W.nil <| G.cdd rfl (fun h1 => ?_) (fun h1 => ?_)
  · -- h1 True
    refine G.seq <| G.reg <| W.q (mv rfl) rfl <| W.q (sa rfl) rfl <| W.q (sa rfl) rfl <| W.nil <| ret2 hX Try.results29 rfl rfl fun w hm => done rfl ?_ (Mem.slNil (hm.drop rfl) 5 1)
    have e : frameR p = ([], checkR p) := by rw [frameR, if_pos h1]
    rw [e]; exact ⟨_, ⟨none, 0, rfl, rfl⟩, rfl⟩
  · -- h1 False
    have hck : checkR p = 0 := Classical.byContradiction h1
    obtain ⟨_, hdl, _⟩ := check_ok hck
    refine G.skip <| G.seq <| G.reg <| W.q (fa Try.fof66_1 rfl) rfl <| W.q (ld Try.sc29 rfl (Cell.at .hd rfl)) rfl <| W.fn Try.ca59 rfl (fun w hm => codec_Put8 p.id w) rfl fun v J hv hJ => ?_
    obtain ⟨v1, ⟨a1, c1, rfl, rfl⟩, rfl⟩ := hv
    refine W.slAt (a := a1) (m := _) (cap := c1) (E := 5) (s := 1) (xs := _) (.head _) (fun q1 q2 q3 q4 => ?_)
    refine W.q (mv rfl) rfl <| W.q (ex rfl rfl) rfl <| W.q (ex rfl rfl) rfl <| W.q (sa rfl) rfl <| W.q (sa rfl) rfl <| W.nil <| G.seq <| G.reg <| W.q (fa Try.fof66_4 rfl) rfl <| W.q (ld Try.sc22 rfl (Cell.at (.tl <| .hd) rfl)) rfl <| W.q (ln Try.esl22 rfl) rfl <| W.q (cv_i64_u64 Try.underlying3 Try.underlying29 rfl) rfl <| W.fn Try.ca59 rfl (fun w hm => codec_Put2 _ p.data.length (u64Of_len p.data hdl) (by omega) w) rfl fun v J hv hJ => ?_
    obtain ⟨v1, ⟨a2, c2, rfl, rfl⟩, rfl⟩ := hv
    refine W.slAt (a := a2) (m := _) (cap := c2) (E := 5) (s := 1) (xs := _) (.head _) (fun p1 p2 p3 p4 => ?_)
    refine W.q (mv rfl) rfl <| W.q (ex rfl rfl) rfl <| W.q (ex rfl rfl) rfl <| W.q (sa rfl) rfl <| W.q (sa rfl) rfl <| W.nil <| G.seq <| G.rega 17 rfl Try.mixed <| A.q 1 rfl (by kernel_rfl) (fun _ => (fa Try.fof66_0 rfl)) rfl <| A.q 3 rfl (by kernel_rfl) (fun _ => (fa Try.fof66_2 rfl)) rfl <| A.q 6 rfl (by kernel_rfl) (fun _ => (fa Try.fof66_3 rfl)) rfl <| A.q 10 rfl (by kernel_rfl) (fun _ => (mv rfl)) rfl <| A.q 11 rfl (by kernel_rfl) (fun _ => (mv rfl)) rfl <| A.q 12 rfl (by kernel_rfl) (fun _ => (fa Try.fof66_4 rfl)) rfl <| A.held 2 [0, 4, 5, 7, 8, 13] rfl (by kernel_rfl) (ld Try.sc5 rfl (Cell.at (.tl <| .tl <| .hd) rfl)) rfl <| A.held 4 [0, 7, 8, 13] rfl (by kernel_rfl) (ld Try.sc3 rfl (Cell.at (.tl <| .tl <| .hd) rfl)) rfl <| A.q 5 rfl (by kernel_rfl) (fun _ => (cv_i64_u8 Try.underlying3 Try.underlying5 rfl)) rfl <| A.held 7 [0, 13] rfl (by kernel_rfl) (ld Try.sc3 rfl (Cell.at (.tl <| .tl <| .hd) rfl)) rfl <| A.q 8 rfl (by kernel_rfl) (fun _ => (cv_i64_u8 Try.underlying3 Try.underlying5 rfl)) rfl <| A.held 13 [0, 9] rfl (by kernel_rfl) (ld Try.sc22 rfl (Cell.at (.tl <| .tl <| .hd) rfl)) rfl <| A.swap2 0 9 rfl rfl (by kernel_rfl) (by kernel_rfl) (by kernel_rfl) rfl (fun _ hk => W.mkB (m := 16) Try.underlying22 Try.sz5 Try.zrl5 Try.by5 rfl rfl (by omega) (by omega) rfl fun b2 => hk b2) (fun _ _ hk => W.bs (cs := [_, _, _, _]) Try.underlying22 Try.sz5 Try.zrl5 rfl rfl rfl rfl fun b3 => hk b3) (fun _ hk => W.bs (cs := [_, _, _, _]) Try.underlying22 Try.sz5 Try.zrl5 rfl rfl rfl rfl fun b3 => hk b3) (fun _ _ hk => W.mkB (m := 16) Try.underlying22 Try.sz5 Try.zrl5 Try.by5 rfl rfl (by omega) (by omega) rfl fun b2 => hk b2) fun b2 b3 => A.one 14 rfl (by kernel_rfl) <| W.bs (cs := [_, _, _, _, _]) Try.underlying73 Try.sz22 Try.zrl22 rfl rfl rfl rfl fun b4 => A.back <| A.one 15 rfl (by kernel_rfl) <| W.fn Try.ca44 rfl (fun w hm => codec_Join (some ⟨b4, 0, none⟩) 5 [slc b2 0 16 16, slc b3 0 4 4, .slice a1 _ c1, .slice a2 _ c2, .slice a p.data.length cap] [List.replicate 16 0, frameH p, (leB 8 p.id.toNat).reverse, (leB 2 p.data.length).reverse, p.data] w (hm.rowRd .hd) (.cons (.of (hm.rowRd (.tl <| .tl <| .hd)) (by simp) (by simp)) (.cons (.of (hm.rowRd (cs := B (frameH p)) (.tl <| .hd)) rfl (Nat.le_refl _)) (.cons (.of (hm.slRd (.tail _ <| .tail _ <| .tail _ <| .tail _ <| .head _)) rfl q2) (.cons (.of (hm.slRd (.tail _ <| .tail _ <| .tail _ <| .head _)) rfl p2) (.cons (.of (hm.rd rfl hl) rfl hcap) .nil))))) (by simp [frameH, leB_len]; omega) (by simp) (by simp)) rfl fun v J hv hJ => ?_
    obtain ⟨a3, c3, rfl, rfl⟩ := hv
    refine A.back <| A.q 16 rfl (by kernel_rfl) (fun _ => (sa rfl)) rfl <| A.nil (by kernel_rfl) <| G.seq <| G.reg <| W.q (mv rfl) rfl <| W.fn Try.ca60 rfl (fun w hm => codec_Pad a3 _ c3 _ w rfl (hm.slRd (.head _)) (by simp [frameH, leB_len]; omega) 480) rfl fun v J hv hJ => ?_
    rw [frame_pad p hdl] at hv
    obtain ⟨v1, ⟨a4, c4, rfl, rfl⟩, rfl⟩ := hv
    refine W.q (ex rfl rfl) rfl <| W.q (ex rfl rfl) rfl <| W.q (sa rfl) rfl <| W.q (sa rfl) rfl <| W.nil <| ret2 hX Try.results29 rfl rfl fun w hm => done (H := [sl a4 (frameB p).length c4 5 1 (B (frameB p))]) rfl ?_ (Dr.ent (.keep <| .drop rfl <| .drop rfl <| .drop rfl <| .drop rfl <| .drop rfl <| .drop rfl <| .drop rfl .rfl) w hm)
    have e : frameR p = (frameB p, 0) := by rw [frameR, if_neg (by simp [hck])]
    rw [e]; exact ⟨_, ⟨a4, c4, rfl, rfl⟩, rfl⟩

theorem setAt_end (A : List UInt8) (n : Nat) (x : UInt8) (k : Nat) (h : k = A.length) : setAt (B (A ++ List.replicate (n + 1) 0)) k [u8 x] = B ((A ++ [x]) ++ List.replicate n 0) := by
  subst h
  have := setAt_mid (B A) (B (List.replicate (n + 1) 0)) [u8 x] (by simp)
  rw [Bl] at this
  rw [show B (A ++ List.replicate (n + 1) 0) = B A ++ B (List.replicate (n + 1) 0) from List.map_append, this]
  simp [B, List.drop_replicate]
theorem be8_get (n : UInt64) (k : Nat) (hk : k < 8) : (leB 8 n.toNat).reverse.take (k + 1) = (leB 8 n.toNat).reverse.take k ++ [(shrU64 n (56 - 8 * (k : Int))).toUInt8] := by
  rw [show (56 - 8 * (k : Int)) = 8 * ((7 - k : Nat) : Int) by omega, shr_byte n (7 - k) (by omega)]
  refine take_succ' ?_
  rw [List.getElem?_reverse (by rw [leB_len]; exact hk), leB_len, leB, List.getElem?_map, List.getElem?_range (by omega)]
  simp
theorem be2_eq (n : Nat) (h : n ≤ 450) : (leB 2 n).reverse = [Eng.byteOf ((n : Int) / 256), Eng.byteOf ((n : Int) % 256)] := by
  have e : leB 2 n = [byteAt n 0, byteAt n 1] := rfl
  rw [e]
  have h1 : byteAt n 1 = Eng.byteOf ((n : Int) / 256) := by
    apply UInt8.toNat_inj.1
    have := byteOf_toNat ((n : Int) / 256)
    rw [byteAt, UInt8.toNat_ofNat']; omega
  have h0 : byteAt n 0 = Eng.byteOf ((n : Int) % 256) := by
    apply UInt8.toNat_inj.1
    have := byteOf_toNat ((n : Int) % 256)
    rw [byteAt, UInt8.toNat_ofNat']; omega
  rw [h1, h0]; rfl


set_option maxRecDepth 100000 in
theorem ref11_Frame (p : Pt) (a : Option Addr) (cap : Nat) (w : World) (hl : RdL w a (B p.data)) (hb : p.data.length ≤ 140737488351232) (hcap : p.data.length ≤ cap) :
    Ret Try.prog 42 [.agg (ptC p a cap).toArray] w (fun v J => ∃ v1, NewB (frameR p).1 v1 J ∧ v = .tuple #[v1, i64 (frameR p).2]) := by
  unfold ptC
  refine enter [] (Mem.nil _) Try.func42 rfl Try.ntmps42 rfl (fun X hX => ?_)
  have hw := hX.w0; subst hw
  refine G.seq <| G.reg <| W.bxa rfl rfl fun b1 => W.q (sa rfl) rfl <| W.q (sa rfl) rfl <| W.nil <| G.seq <| G.reg <| W.q (lda Try.agg66 Try.sz66 rfl (Cells.whole .hd) rfl) rfl <| W.fv Try.ca74 rfl (fun w hm => ref11_Check p a cap w) rfl <| W.q (sa rfl) rfl <| W.nil <| G.seq <| G.seq <| G.reg <| W.q (mv rfl) rfl <| W.q (ne rfl rfl) rfl <| W.nil <| G.cdd rfl (fun h1 => ?_) (fun h1 => ?_)
  · -- h1 True
    refine G.seq <| G.reg <| W.q (mv rfl) rfl <| W.q (sa rfl) rfl <| W.q (sa rfl) rfl <| W.nil <| ret2 hX Try.results42 rfl rfl fun w hm => done rfl ?_ (Mem.slNil (hm.drop rfl) 5 1)
    have e : frameR p = ([], checkR p) := by rw [frameR, if_pos h1]
    rw [e]; exact ⟨_, ⟨none, 0, rfl, rfl⟩, rfl⟩
  · -- h1 False
    have hck : checkR p = 0 := Classical.byContradiction h1
    obtain ⟨_, hdl, _⟩ := check_ok hck
    refine G.skip <| G.seq <| G.reg <| W.mkB (m := 480) Try.underlying22 Try.sz5 Try.zrl5 Try.by5 rfl rfl (by omega) (by omega) rfl fun b2 => W.q (sa rfl) rfl <| W.nil <| G.seq <| ?_
    have h480 : List.replicate 480 (0 : UInt8) = List.replicate 16 0 ++ List.replicate (463 + 1) 0 := by rw [List.replicate_append_replicate]
    rw [h480]
    refine G.reg <| W.q (mv rfl) rfl <| W.q (fa Try.fof66_0 rfl) rfl <| W.q (ld Try.sc5 rfl (Cell.at (.tl <| .hd) rfl)) rfl <| W.q (ia Try.esl22 rfl rfl (by omega) (by omega)) rfl <| W.st (cs' := B ((List.replicate 16 0 ++ [p.kind]) ++ List.replicate 463 0)) Try.sz5 rfl rfl rfl rfl rfl .hd (by simp [frameH, leB_len]) (setAt_end (List.replicate 16 0) 463 p.kind 16 (by simp [frameH, leB_len])) <| W.nil <| G.seq <| G.reg <| W.q (mv rfl) rfl <| W.q (fa Try.fof66_2 rfl) rfl <| W.q (ld Try.sc3 rfl (Cell.at (.tl <| .hd) rfl)) rfl <| W.q (cv_i64_u8 Try.underlying3 Try.underlying5 rfl) rfl <| W.q (ia Try.esl22 rfl rfl (by omega) (by omega)) rfl <| W.st (cs' := B (((List.replicate 16 0 ++ [p.kind]) ++ [(Eng.byteOf p.index)]) ++ List.replicate 462 0)) Try.sz5 rfl rfl rfl rfl rfl .hd (by simp [frameH, leB_len]) (setAt_end ((List.replicate 16 0 ++ [p.kind])) 462 (Eng.byteOf p.index) 17 (by simp [frameH, leB_len])) <| W.nil <| G.seq <| G.reg <| W.q (mv rfl) rfl <| W.q (fa Try.fof66_3 rfl) rfl <| W.q (ld Try.sc3 rfl (Cell.at (.tl <| .hd) rfl)) rfl <| W.q (cv_i64_u8 Try.underlying3 Try.underlying5 rfl) rfl <| W.q (ia Try.esl22 rfl rfl (by omega) (by omega)) rfl <| W.st (cs' := B ((((List.replicate 16 0 ++ [p.kind]) ++ [Eng.byteOf p.index]) ++ [(Eng.byteOf p.count)]) ++ List.replicate 461 0)) Try.sz5 rfl rfl rfl rfl rfl .hd (by simp [frameH, leB_len]) (setAt_end (((List.replicate 16 0 ++ [p.kind]) ++ [Eng.byteOf p.index])) 461 (Eng.byteOf p.count) 18 (by simp [frameH, leB_len])) <| W.nil <| G.seq <| G.seq <| ?_
    have hA : (((List.replicate 16 0 ++ [p.kind]) ++ [Eng.byteOf p.index]) ++ [Eng.byteOf p.count]) ++ List.replicate 461 0 = ((List.replicate 16 0 ++ frameH p) ++ (leB 8 p.id.toNat).reverse.take 0) ++ List.replicate (460 - 0) 0 := by
      simp only [frameH, List.take_zero, List.append_nil, List.append_assoc, List.cons_append, List.nil_append, List.replicate_succ]
    rw [hA]
    refine G.reg <| W.q (sa rfl) rfl <| W.nil <| G.blk <| G.loop1 (α := Nat) (fun k => k ≤ 8) (fun k => [(6, i64 k)]) (fun k => [nb b2 (B (((List.replicate 16 0 ++ frameH p) ++ (leB 8 p.id.toNat).reverse.take k) ++ List.replicate (460 - k) 0)) 5]) (fun k => 8 - k) [(1, _), (5, _)] [_] 0 (by omega) (Sub.cons rfl <| Sub.cons rfl <| Sub.cons rfl <| Sub.nil _) .rfl (fun k hk ih => ?_)
    refine G.seq <| G.seq <| G.reg <| W.q (mv rfl) rfl <| W.q (lt rfl rfl) rfl <| W.nil <| G.cdd rfl (fun h2 => ?_) (fun h2 => ?_)
    · -- h2 True
      have hk8 : k < 8 := by omega
      have hst := setAt_end ((List.replicate 16 0 ++ frameH p) ++ (leB 8 p.id.toNat).reverse.take k) (459 - k) (shrU64 p.id (56 - 8 * (k : Int))).toUInt8 (20 + k) (by simp [frameH, leB_len]; omega)
      rw [List.append_assoc _ (List.take k _) [_], ← be8_get p.id k hk8] at hst
      have e0 : 460 - k = 459 - k + 1 := by omega
      have e1 : (20 + (k : Int)).toNat = 20 + k := by omega
      rw [e0]
      refine G.skip <| G.seq <| G.blk <| G.reg <| W.q (mv rfl) rfl <| W.q (mv rfl) rfl <| W.q (ad rfl rfl (by omega)) rfl <| W.q (fa Try.fof66_1 rfl) rfl <| W.q (ld Try.sc29 rfl (Cell.at (.tl <| .hd) rfl)) rfl <| W.q (mv rfl) rfl <| W.q (ml rfl rfl (by omega)) rfl <| W.q (sb rfl rfl (by omega)) rfl <| W.q (shr_u64 rfl rfl (by omega)) rfl <| W.q (cv_u64_u8 Try.underlying29 Try.underlying5 rfl) rfl <| W.q (ia Try.esl22 rfl rfl (by omega) (by omega)) rfl <| W.st (cs' := B (((List.replicate 16 0 ++ frameH p) ++ (leB 8 p.id.toNat).reverse.take (k + 1)) ++ List.replicate (460 - (k + 1)) 0)) Try.sz5 rfl rfl rfl rfl rfl .hd (by simp [frameH, leB_len]; omega) (by rw [e1, Nat.zero_add, Nat.mul_one, show 460 - (k + 1) = 459 - k by omega]; exact hst) <| W.nil <| G.inb <| G.reg <| W.q (mv rfl) rfl <| W.q (ad rfl rfl (by omega)) rfl <| W.q (sa rfl) rfl <| W.nil <| (ih (k + 1) (by omega) (by omega)).weak (Sub.cons rfl <| Sub.cons rfl <| Sub.cons rfl <| Sub.nil _) .rfl
    · -- h2 False
      have hk8 : k = 8 := by omega
      subst hk8
      rw [List.take_of_length_le (by simp [leB_len])]
      have hcp := setAt_mid (B ((((List.replicate 16 0 ++ frameH p) ++ (leB 8 p.id.toNat).reverse) ++ [Eng.byteOf ((p.data.length : Int) / 256)]) ++ [Eng.byteOf ((p.data.length : Int) % 256)])) (B (List.replicate 450 0)) (B p.data) (by simp; omega)
      rw [show (B ((((List.replicate 16 0 ++ frameH p) ++ (leB 8 p.id.toNat).reverse) ++ [Eng.byteOf ((p.data.length : Int) / 256)]) ++ [Eng.byteOf ((p.data.length : Int) % 256)])).length = 30 by simp [frameH, leB_len], Bl, ← List.map_drop, List.drop_replicate, ← List.map_append, ← List.map_append, ← List.map_append] at hcp
      have hfin : ((((List.replicate 16 0 ++ frameH p) ++ (leB 8 p.id.toNat).reverse) ++ [Eng.byteOf ((p.data.length : Int) / 256)]) ++ [Eng.byteOf ((p.data.length : Int) % 256)]) ++ p.data ++ List.replicate (450 - p.data.length) 0 = frameB p := by
        simp only [frameB, frameH, be2_eq p.data.length hdl, List.append_assoc, List.cons_append, List.nil_append]
      rw [hfin] at hcp
      refine G.exit rfl <| G.seq <| G.reg <| W.q (mv rfl) rfl <| W.q (fa Try.fof66_4 rfl) rfl <| W.q (ld Try.sc22 rfl (Cell.at (.tl <| .hd) rfl)) rfl <| W.q (ln Try.esl22 rfl) rfl <| W.q (qo rfl rfl (by omega) (by omega) (by omega)) rfl <| W.q (cv_i64_u8 Try.underlying3 Try.underlying5 rfl) rfl <| W.q (ia Try.esl22 rfl rfl (by omega) (by omega)) rfl <| W.st (cs' := B ((((List.replicate 16 0 ++ frameH p) ++ (leB 8 p.id.toNat).reverse) ++ [(Eng.byteOf ((p.data.length : Int) / 256))]) ++ List.replicate 451 0)) Try.sz5 rfl rfl rfl rfl rfl .hd (by simp [frameH, leB_len]) (setAt_end (((List.replicate 16 0 ++ frameH p) ++ (leB 8 p.id.toNat).reverse)) 451 (Eng.byteOf ((p.data.length : Int) / 256)) 28 (by simp [frameH, leB_len])) <| W.nil <| G.seq <| G.reg <| W.q (mv rfl) rfl <| W.q (fa Try.fof66_4 rfl) rfl <| W.q (ld Try.sc22 rfl (Cell.at (.tl <| .hd) rfl)) rfl <| W.q (ln Try.esl22 rfl) rfl <| W.q (rm rfl rfl (by omega) (by omega)) rfl <| W.q (cv_i64_u8 Try.underlying3 Try.underlying5 rfl) rfl <| W.q (ia Try.esl22 rfl rfl (by omega) (by omega)) rfl <| W.st (cs' := B (((((List.replicate 16 0 ++ frameH p) ++ (leB 8 p.id.toNat).reverse) ++ [Eng.byteOf ((p.data.length : Int) / 256)]) ++ [(Eng.byteOf ((p.data.length : Int) % 256))]) ++ List.replicate 450 0)) Try.sz5 rfl rfl rfl rfl rfl .hd (by simp [frameH, leB_len]) (setAt_end ((((List.replicate 16 0 ++ frameH p) ++ (leB 8 p.id.toNat).reverse) ++ [Eng.byteOf ((p.data.length : Int) / 256)])) 450 (Eng.byteOf ((p.data.length : Int) % 256)) 29 (by simp [frameH, leB_len])) <| W.nil <| G.seq <| G.regt 4 Try.mixed (by kernel_rfl) <| W.q (mv rfl) rfl <| W.q (slo Try.esl22 rfl rfl (by omega) (by omega)) rfl <| W.q (fa Try.fof66_4 rfl) rfl <| W.q (ld Try.sc22 rfl (Cell.at (.tl <| .hd) rfl)) rfl <| W.nilt <| W.cpx (news := B p.data) (o := 30) Try.underlying22 Try.sz5 rfl (slA_some (by decide)) rfl (RdS.old rfl hl) (by rw [Bl]; simp; omega) (B_one _) (RdL.nilB hl) .hd (by simp [frameH, leB_len]; omega) hcp rfl <| W.nil <| G.seq <| G.reg <| W.q (mv rfl) rfl <| W.q (sa rfl) rfl <| W.q (sa rfl) rfl <| W.nil <| ret2 hX Try.results42 rfl rfl fun w hm => done (H := [sl (some ⟨b2, 0, none⟩) (frameB p).length (frameB p).length 5 1 (B (frameB p))]) rfl ?_ (Dr.ent (.keep <| .drop rfl .rfl) w (Mem.rowB hm (by rw [frameB_len p hdl]; omega)))
      have e : frameR p = (frameB p, 0) := by rw [frameR, if_neg (by simp [hck])]
      rw [e]; exact ⟨_, ⟨_, (frameB p).length, rfl, rfl⟩, by rw [frameB_len p hdl]⟩
end Go.Proofs.Ytjalojbihpdghaa
