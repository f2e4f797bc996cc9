/- Commands: checked, written, read. -/
import Derived.Test.YtjalojbihpdghaaHeader
import Derived.Test.YtjalojbihpdghaaFrame3
namespace Go.Proofs.Ytjalojbihpdghaa
open Go Go.Eng
set_option linter.unusedVariables false

structure Cm where
  kind : UInt8
  flags : UInt8
  delay : UInt32
  next : UInt64
  mark : List UInt8
def cmC (c : Cm) : List Value := u8 c.kind :: u8 c.flags :: u32 c.delay :: u64 c.next :: B c.mark
def cm0 : Cm := ⟨0, 0, 0, 0, List.replicate 16 0⟩
theorem cmC_len {c : Cm} (h : c.mark.length = 16) : (cmC c).length = 20 := by simp [cmC, h]
theorem cmC_one (c : Cm) : (cmC c).all (·.oneCell') = true := by simp [cmC, Value.oneCell', B]
theorem cmC_mark (c : Cm) (i : Nat) (v : Value) (h : (B c.mark)[i]? = some v) : (cmC c)[4 + i]? = some v := by rw [Nat.add_comm]; exact h
theorem B_eq : ∀ {x y : List UInt8}, B x = B y → x = y
  | [], [], _ => rfl
  | [], _ :: _, h => by simp [B] at h
  | _ :: _, [], h => by simp [B] at h
  | a :: x, b :: y, h => by
    obtain ⟨h1, h2⟩ := List.cons.inj h
    have h3 : ((a.toNat : Nat) : Int) = ((b.toNat : Nat) : Int) := by injection h1
    have h4 : a = b := UInt8.toNat_inj.1 (by omega)
    rw [B_eq (x := x) (y := y) h2, h4]
def badForm (c : Cm) : Prop := ¬ ((c.kind.toNat : Int) = 1 ↔ (c.next.toNat : Int) ≠ 0) ∨ ((c.kind.toNat : Int) ≠ 4 ∧ c.mark ≠ List.replicate 16 0)
open Classical in
noncomputable def checkC (c : Cm) : Int :=
  if (c.kind.toNat : Int) < 1 ∨ 4 < (c.kind.toNat : Int) then 1 else if badForm c then 3 else if 1000000 < (c.delay.toNat : Int) then 11 else 0


open Classical in
set_option maxRecDepth 100000 in
theorem cmd_Check (c : Cm) (h16 : c.mark.length = 16) (w : World) :
    Ret Try.prog 112 [.agg (cmC c).toArray] w (fun v _ => v = i64 (checkC c)) := by
  refine enter [] (Mem.nil _) Try.func112 rfl Try.ntmps112 rfl (fun X hX => ?_)
  have hw := hX.w0; subst hw
  refine G.seq <| G.reg <| W.bxa rfl rfl fun b1 => W.q (sa rfl) rfl <| W.nil <| G.seq <| G.seq <| G.join [(10, .bool (decide ((c.kind.toNat : Int) < 1 ∨ 4 < (c.kind.toNat : Int))))] [(1, _)] (Sub.cons rfl <| Sub.nil _) (fun key1 => ?_) ?_
  · -- region 1
    refine G.reg <| W.q (fa Try.fof127_0 rfl) rfl <| W.q (ld Try.sc5 rfl (Cell.at .hd rfl)) rfl <| W.q (lt rfl rfl) rfl <| W.q (mv rfl) rfl <| W.sp (t := _) 6 rfl (fun g1 => ?_) (fun g1 => ?_)
    · -- True
      refine W.sk rfl rfl g1 rfl <| W.sk rfl rfl g1 rfl <| W.sk rfl rfl g1 rfl <| W.q (pkt rfl g1 rfl) rfl <| W.nil <| key1.weak (Sub.co rfl ?_ <| Sub.cons rfl <| Sub.nil _) .rfl
      all_goals first | rfl | (show Value.bool _ = Value.bool _; congr 1; grind)
    · -- False
      refine W.qg rfl rfl g1 (fa Try.fof127_0 rfl) rfl <| W.qg rfl rfl g1 (ld Try.sc5 rfl (Cell.at .hd rfl)) rfl <| W.qg rfl rfl g1 (gt rfl rfl) rfl <| W.q (pkf rfl g1 rfl) rfl <| W.nil <| key1.weak (Sub.co rfl ?_ <| Sub.cons rfl <| Sub.nil _) .rfl
      all_goals first | rfl | (show Value.bool _ = Value.bool _; congr 1; grind)
  refine G.cdd rfl (fun h2 => ?_) (fun h2 => ?_)
  · -- h2 True
    refine G.seq <| G.reg <| W.q (sa rfl) rfl <| W.nil <| ret1 hX Try.results112 rfl fun w hm => done (H := []) rfl ?_ (Dr.ent (Dr.new rfl) w hm)
    rw [checkC, if_pos h2]
  · -- h2 False
    refine G.skip <| G.seq <| G.seq <| G.join [(28, .bool (decide (badForm c)))] [(1, _)] (Sub.cons rfl <| Sub.nil _) (fun key3 => ?_) ?_
    · -- region 3
      refine G.reg <| W.q (fa Try.fof127_0 rfl) rfl <| W.q (ld Try.sc5 rfl (Cell.at .hd rfl)) rfl <| W.q (eq rfl rfl) rfl <| W.q (fa Try.fof127_3 rfl) rfl <| W.q (ld Try.sc29 rfl (Cell.at .hd rfl)) rfl <| W.q (ne rfl rfl) rfl <| W.q (neb Try.underlying4 rfl rfl) rfl <| W.q (mv rfl) rfl <| W.sp (t := _) 18 rfl (fun g3 => ?_) (fun g3 => ?_)
      · -- True
        refine W.sk rfl rfl g3 rfl <| W.sk rfl rfl g3 rfl <| W.sk rfl rfl g3 rfl <| W.sk rfl rfl g3 rfl <| W.sku rfl rfl rfl <| W.sku rfl rfl rfl <| W.sku rfl rfl rfl <| W.sku rfl rfl rfl <| W.sk rfl rfl g3 rfl <| W.q (pkt rfl g3 rfl) rfl <| W.nil <| key3.weak (Sub.co rfl ?_ <| Sub.cons rfl <| Sub.nil _) .rfl
        · show Value.bool true = _; rw [decide_eq_true (show badForm c from .inl (fun h => of_decide_eq_true g3 (decide_eq_decide.2 h)))]
      · -- False
        refine W.qg rfl rfl g3 (fa Try.fof127_0 rfl) rfl <| W.qg rfl rfl g3 (ld Try.sc5 rfl (Cell.at .hd rfl)) rfl <| W.qg rfl rfl g3 (ne rfl rfl) rfl <| W.qg rfl rfl g3 (mv rfl) rfl <| W.sp (t := _) 22 rfl (fun g4 => ?_) (fun g4 => ?_)
        · -- True
          refine W.qg rfl rfl g4 (fa Try.fof127_4 rfl) rfl <| W.qg rfl rfl g4 (lda Try.agg25 Try.sz25 rfl (Cells.part .hd (cmC_mark c)) (by rw [Bl]; exact h16)) rfl <| W.qg rfl rfl g4 (blda Try.arp25 rfl rfl) rfl <| W.qg rfl rfl g4 (nea Try.ks25 Try.agg25 Try.eg25 rfl rfl (KOk.u8n h16) (KOk.u8n (l := List.replicate 16 0) rfl)) rfl <| W.qg rfl rfl g3 (pkt rfl g4 rfl) rfl <| W.q (pkf rfl g3 rfl) rfl <| W.nil <| key3.weak (Sub.co rfl ?_ <| Sub.cons rfl <| Sub.nil _) .rfl
          have h3 : ((c.kind.toNat : Int) = 1 ↔ (c.next.toNat : Int) ≠ 0) := decide_eq_decide.1 (Classical.byContradiction (of_decide_eq_false g3))
          · show Value.bool (decide _) = _; congr 1; exact decide_eq_decide.2 ⟨fun h => .inr ⟨of_decide_eq_true g4, fun e => h (by rw [e]; rfl)⟩, fun h => h.elim (fun h' => absurd h3 h') (fun h' e => h'.2 (B_eq (y := List.replicate 16 0) e))⟩
        · -- False
          refine W.sk rfl rfl g4 rfl <| W.sk rfl rfl g4 rfl <| W.sk rfl rfl g4 rfl <| W.sk rfl rfl g4 rfl <| W.qg rfl rfl g3 (pkf rfl g4 rfl) rfl <| W.q (pkf rfl g3 rfl) rfl <| W.nil <| key3.weak (Sub.co rfl ?_ <| Sub.cons rfl <| Sub.nil _) .rfl
          have h3 : ((c.kind.toNat : Int) = 1 ↔ (c.next.toNat : Int) ≠ 0) := decide_eq_decide.1 (Classical.byContradiction (of_decide_eq_false g3))
          · show Value.bool false = _; rw [decide_eq_false (show ¬ badForm c from fun h => h.elim (fun h' => h' h3) (fun h' => of_decide_eq_false g4 h'.1))]
    refine G.cdd rfl (fun h5 => ?_) (fun h5 => ?_)
    · -- h5 True
      refine G.seq <| G.reg <| W.q (sa rfl) rfl <| W.nil <| ret1 hX Try.results112 rfl fun w hm => done (H := []) rfl ?_ (Dr.ent (Dr.new rfl) w hm)
      rw [checkC, if_neg h2, if_pos h5]
    · -- h5 False
      refine G.skip <| G.seq <| G.seq <| G.reg <| W.q (fa Try.fof127_2 rfl) rfl <| W.q (ld Try.sc125 rfl (Cell.at .hd rfl)) rfl <| W.q (gt rfl rfl) rfl <| W.nil <| G.cdd rfl (fun h6 => ?_) (fun h6 => ?_)
      · -- h6 True
        refine G.seq <| G.reg <| W.q (sa rfl) rfl <| W.nil <| ret1 hX Try.results112 rfl fun w hm => done (H := []) rfl ?_ (Dr.ent (Dr.new rfl) w hm)
        rw [checkC, if_neg h2, if_neg h5, if_pos h6]
      · -- h6 False
        refine G.skip <| G.seq <| G.reg <| W.q (sa rfl) rfl <| W.nil <| ret1 hX Try.results112 rfl fun w hm => done (H := []) rfl ?_ (Dr.ent (Dr.new rfl) w hm)
        rw [checkC, if_neg h2, if_neg h5, if_neg h6]

def encB (c : Cm) : List UInt8 := [[c.kind, c.flags], (leB 4 c.delay.toNat).reverse, (leB 8 c.next.toNat).reverse, c.mark, [0, 0]].flatten
noncomputable def encR (c : Cm) : List UInt8 × Int := if checkC c ≠ 0 then ([], checkC c) else (encB c, 0)
theorem encB_len {c : Cm} (h : c.mark.length = 16) : (encB c).length = 32 := by simp [encB, leB_len, h]
theorem put4 (n : UInt64) (h : n.toNat < 4294967296) : putR 2 4 n = ((leB 4 n.toNat).reverse, 0) := by
  rw [putR, if_neg (by simp [shapeR]), if_neg (by simp; omega), if_pos rfl]; rfl
theorem codec_Put4 (n : UInt64) (k : Nat) (hn : n.toNat = k) (h : k < 4294967296) (w : World) : Ret Try.prog 59 [i64 2, i64 4, u64 n] w (fun v J => ∃ v1, NewB (leB 4 k).reverse v1 J ∧ v = .tuple #[v1, i64 0]) := by
  have := codec_Put 2 4 n w
  rw [put4 n (by omega), hn] at this; exact this


set_option maxRecDepth 100000 in
theorem cmd_Encode (c : Cm) (h16 : c.mark.length = 16) (w : World) :
    Ret Try.prog 108 [.agg (cmC c).toArray] w (fun v J => ∃ v1, NewB (encR c).1 v1 J ∧ v = .tuple #[v1, i64 (encR c).2]) := by
  refine enter [] (Mem.nil _) Try.func108 rfl Try.ntmps108 rfl (fun X hX => ?_)
  have hw := hX.w0; subst hw
  refine G.seq <| G.reg <| W.bxa rfl rfl fun b1 => W.q (sa rfl) rfl <| W.q (sa rfl) rfl <| W.nil <| G.seq <| G.seq <| G.reg <| W.q (lda Try.agg127 Try.sz127 rfl (Cells.whole .hd) (cmC_len h16)) rfl <| W.fv Try.ca112 rfl (fun w hm => cmd_Check c h16 w) rfl <| W.q (sa rfl) rfl <| W.nil <| G.seq <| G.reg <| W.q (mv rfl) rfl <| W.q (ne rfl rfl) rfl <| W.nil <| G.cdd rfl (fun h1 => ?_) (fun h1 => ?_)
  · -- h1 True
    refine G.seq <| G.reg <| W.q (mv rfl) rfl <| W.q (sa rfl) rfl <| W.q (sa rfl) rfl <| W.nil <| ret2 hX Try.results108 rfl rfl fun w hm => done (H := [sl none 0 0 5 1 []]) rfl ?_ (Mem.slNil (Dr.ent (.drop rfl <| .rfl) w hm) 5 1)
    have e : encR c = ([], checkC c) := by rw [encR, if_pos h1]
    rw [e]; exact ⟨_, ⟨none, 0, rfl, rfl⟩, rfl⟩
  · -- h1 False
    refine G.skip <| G.seq <| G.reg <| W.q (fa Try.fof127_2 rfl) rfl <| W.q (ld Try.sc125 rfl (Cell.at .hd rfl)) rfl <| W.q (cv_u32_u64 Try.underlying125 Try.underlying29 rfl) rfl <| W.fn Try.ca59 rfl (fun w hm => codec_Put4 _ c.delay.toNat (by simp) (by have := c.delay.toNat_lt; omega) w) rfl fun v J hv hJ => ?_
    obtain ⟨v1, ⟨a1, c1, rfl, rfl⟩, rfl⟩ := hv
    refine W.slAt (a := a1) (m := _) (cap := c1) (E := 5) (s := 1) (xs := _) (.head _) (fun q1 q2 q3 q4 => ?_)
    refine W.q (mv rfl) rfl <| W.q (ex rfl rfl) rfl <| W.q (ex rfl rfl) rfl <| W.q (sa rfl) rfl <| W.q (sa rfl) rfl <| W.nil <| G.seq <| G.reg <| W.q (fa Try.fof127_3 rfl) rfl <| W.q (ld Try.sc29 rfl (Cell.at (.tl <| .hd) rfl)) rfl <| W.fn Try.ca59 rfl (fun w hm => codec_Put8 c.next w) rfl fun v J hv hJ => ?_
    obtain ⟨v1, ⟨a2, c2, rfl, rfl⟩, rfl⟩ := hv
    refine W.slAt (a := a2) (m := _) (cap := c2) (E := 5) (s := 1) (xs := _) (.head _) (fun p1 p2 p3 p4 => ?_)
    refine W.q (mv rfl) rfl <| W.q (ex rfl rfl) rfl <| W.q (ex rfl rfl) rfl <| W.q (sa rfl) rfl <| W.q (sa rfl) rfl <| W.nil <| G.seq <| G.rega 14 rfl Try.mixed <| A.q 0 rfl (by kernel_rfl) (fun _ => (fa Try.fof127_0 rfl)) rfl <| A.q 2 rfl (by kernel_rfl) (fun _ => (fa Try.fof127_1 rfl)) rfl <| A.q 5 rfl (by kernel_rfl) (fun _ => (mv rfl)) rfl <| A.q 6 rfl (by kernel_rfl) (fun _ => (mv rfl)) rfl <| A.q 7 rfl (by kernel_rfl) (fun _ => (fa Try.fof127_4 rfl)) rfl <| A.q 8 rfl (by kernel_rfl) (fun _ => (saa Try.ear25 rfl )) rfl <| A.held 1 [3, 9] rfl (by kernel_rfl) (ld Try.sc5 rfl (Cell.at (.tl <| .tl <| .hd) rfl)) rfl <| A.held 3 [9] rfl (by kernel_rfl) (ld Try.sc5 rfl (Cell.at (.tl <| .tl <| .hd) rfl)) rfl <| A.swap2 4 9 rfl rfl (by kernel_rfl) (by kernel_rfl) (by kernel_rfl) rfl (fun _ hkq => W.bs (cs := [_, _]) Try.underlying22 Try.sz5 Try.zrl5 rfl rfl rfl rfl fun b2 => hkq b2) (fun _ _ hkq => W.bs (cs := [_, _]) Try.underlying22 Try.sz5 Try.zrl5 rfl rfl rfl rfl fun b3 => hkq b3) (fun _ hkq => W.bs (cs := [_, _]) Try.underlying22 Try.sz5 Try.zrl5 rfl rfl rfl rfl fun b3 => hkq b3) (fun _ _ hkq => W.bs (cs := [_, _]) Try.underlying22 Try.sz5 Try.zrl5 rfl rfl rfl rfl fun b2 => hkq b2) fun b2 b3 => A.one 10 rfl (by kernel_rfl) <| W.bs (cs := [_, _, _, _, _]) Try.underlying73 Try.sz22 Try.zrl22 rfl rfl rfl rfl fun b4 => A.back <| A.one 11 rfl (by kernel_rfl) <| W.fn Try.ca44 rfl (fun w hm => codec_Join (some ⟨b4, 0, none⟩) 5 [slc b2 0 2 2, .slice a1 _ c1, .slice a2 _ c2, slc b1 4 16 16, slc b3 0 2 2] [[c.kind, c.flags], (leB 4 c.delay.toNat).reverse, (leB 8 c.next.toNat).reverse, c.mark, [0, 0]] w (hm.rowRd .hd) (.cons (.of (hm.rowRd (cs := B [c.kind, c.flags]) (.tl <| .tl <| .hd)) rfl (Nat.le_refl _)) (.cons (.of (hm.slRd (.tail _ <| .tail _ <| .tail _ <| .tail _ <| .head _)) rfl q2) (.cons (.of (hm.slRd (.tail _ <| .tail _ <| .tail _ <| .head _)) rfl p2) (.cons (.of ((RdS.cells (Cells.part (.tl <| .tl <| .tl <| .tl <| .tl <| .hd) (cmC_mark c))) w hm) h16.symm (by omega)) (.cons (.of (hm.rowRd (cs := B [0, 0]) (.tl <| .hd)) rfl (Nat.le_refl _)) .nil))))) (by simp [leB_len, h16]) (by simp) (by simp)) rfl fun v J hv hJ => ?_
    obtain ⟨a3, c3, rfl, rfl⟩ := hv
    refine A.back <| A.q 12 rfl (by kernel_rfl) (fun _ => (sa rfl)) rfl <| A.q 13 rfl (by kernel_rfl) (fun _ => (sa rfl)) rfl <| A.nil (by kernel_rfl) <| ret2 hX Try.results108 rfl rfl fun w hm => done (H := [sl a3 (encB c).length c3 5 1 (B (encB c))]) rfl ?_ (Dr.ent (.keep <| .drop rfl <| .drop rfl <| .drop rfl <| .drop rfl <| .drop rfl <| .drop rfl <| .rfl) w hm)
    have e : encR c = (encB c, 0) := by rw [encR, if_neg h1]
    rw [e]; exact ⟨_, ⟨a3, c3, rfl, rfl⟩, rfl⟩

theorem len5 {α : Type} {l : List α} (h : l.length = 5) : ∃ a b c d e, l = [a, b, c, d, e] := by
  match l, h with
  | [a, b, c, d, e], _ => exact ⟨a, b, c, d, e, rfl⟩
theorem lebc (n N : Nat) : leB (n + 1) N = byteAt N 0 :: leB n (N / 256) := by
  unfold leB
  rw [List.range_succ_eq_map, List.map_cons, List.map_map]
  congr 1
  apply List.map_congr_left
  intro i _
  show byteAt N (i + 1) = byteAt (N / 256) i
  unfold byteAt; rw [Nat.pow_succ, Nat.mul_comm, Nat.div_div_eq_div_mul]
theorem beN_leB2 : ∀ (w n : Nat), n < 256 ^ w → beN (leB w n).reverse = n
  | 0, n, h => by simp at h; subst h; rfl
  | w + 1, n, h => by
    have h1 : (byteAt n 0).toNat = n % 256 := by rw [byteAt, UInt8.toNat_ofNat']; omega
    rw [lebc, List.reverse_cons, beN_snoc, beN_leB2 w (n / 256) (by rw [Nat.pow_succ] at h; omega), h1]
    omega
theorem cmd_cut (bs : List UInt8) : cutR bs [2, 4, 8, 16, 2] = if bs.length = 32 then ([bs.take 2, (bs.drop 2).take 4, (bs.drop 6).take 8, (bs.drop 14).take 16, (bs.drop 30).take 2], 0) else ([], 2) := by
  rw [cutR, if_neg (by simp)]
  have : upTo [2, 4, 8, 16, 2] [(2 : Int), 4, 8, 16, 2].length = 32 := by decide
  rw [this]
  by_cases h : bs.length = 32
  · rw [if_pos h.symm, if_pos h]; simp [cuts]
  · rw [if_neg (fun h' => h h'.symm), if_neg h]
/-- The command whose bytes these are. -/
def cmOf (bs : List UInt8) : Cm := ⟨bs.getD 0 0, bs.getD 1 0, (UInt64.ofNat (beN ((bs.drop 2).take 4))).toUInt32, UInt64.ofNat (beN ((bs.drop 6).take 8)), (bs.drop 14).take 16⟩
theorem cmOf_mark {bs : List UInt8} (h : bs.length = 32) : (cmOf bs).mark.length = 16 := by simp [cmOf]; omega
open Classical in
noncomputable def errC (bs : List UInt8) : Int := if (bs.drop 30).take 2 ≠ [0, 0] ∧ checkC (cmOf bs) ≠ 1 then 3 else checkC (cmOf bs)
noncomputable def decC (bs : List UInt8) : Cm × Int := if bs.length ≠ 32 then (cm0, 2) else if errC bs ≠ 0 then (cm0, errC bs) else (cmOf bs, 0)
theorem decC_mark (bs : List UInt8) : (decC bs).1.mark.length = 16 := by
  unfold decC
  split
  · rfl
  · split
    · rfl
    · exact cmOf_mark (by omega)
theorem get4 (l : List UInt8) (h : l.length = 4) : getR 2 l 0 4 = (UInt64.ofNat (beN l), 0) := by
  rw [getR, if_neg (by simp [shapeR]), if_neg (by simp; omega)]
  simp [ordB, List.take_of_length_le (show l.length ≤ 4 by omega)]
theorem get8 (l : List UInt8) (h : l.length = 8) : getR 2 l 0 8 = (UInt64.ofNat (beN l), 0) := by
  rw [getR, if_neg (by simp [shapeR]), if_neg (by simp; omega)]
  simp [ordB, List.take_of_length_le (show l.length ≤ 8 by omega)]
theorem codec_Get4 (a : Option Addr) (len cap : Nat) (l : List UInt8) (w : World) (hlen : len = l.length) (hl : RdL w a (B l)) (h : l.length = 4) : Ret Try.prog 40 [i64 2, .slice a len cap, i64 0, i64 4] w (fun v _ => v = .tuple #[u64 (UInt64.ofNat (beN l)), i64 0]) := by
  have := codec_Get 2 a len cap l w hlen hl (by omega) 0 4
  rwa [get4 l h] at this
theorem codec_Get8 (a : Option Addr) (len cap : Nat) (l : List UInt8) (w : World) (hlen : len = l.length) (hl : RdL w a (B l)) (h : l.length = 8) : Ret Try.prog 40 [i64 2, .slice a len cap, i64 0, i64 8] w (fun v _ => v = .tuple #[u64 (UInt64.ofNat (beN l)), i64 0]) := by
  have := codec_Get 2 a len cap l w hlen hl (by omega) 0 8
  rwa [get8 l h] at this
theorem dec_enc {c : Cm} (h16 : c.mark.length = 16) (h : checkC c = 0) : decC (encB c) = (c, 0) := by
  have hl := encB_len h16
  have e : encB c = [c.kind, c.flags] ++ ((leB 4 c.delay.toNat).reverse ++ ((leB 8 c.next.toNat).reverse ++ (c.mark ++ [0, 0]))) := by simp [encB]
  have d2 : (encB c).drop 2 = (leB 4 c.delay.toNat).reverse ++ ((leB 8 c.next.toNat).reverse ++ (c.mark ++ [0, 0])) := by rw [e]; rfl
  have d6 : (encB c).drop 6 = (leB 8 c.next.toNat).reverse ++ (c.mark ++ [0, 0]) := by
    rw [show (encB c).drop 6 = ((encB c).drop 2).drop 4 by simp, d2]; exact List.drop_left' (by simp [leB_len])
  have d14 : (encB c).drop 14 = c.mark ++ [0, 0] := by
    rw [show (encB c).drop 14 = ((encB c).drop 6).drop 8 by simp, d6]; exact List.drop_left' (by simp [leB_len])
  have d30 : (encB c).drop 30 = [0, 0] := by
    rw [show (encB c).drop 30 = ((encB c).drop 14).drop 16 by simp, d14]; exact List.drop_left' h16
  have hd := c.delay.toNat_lt
  have hn := c.next.toNat_lt
  have hc : cmOf (encB c) = c := by
    unfold cmOf
    rw [d2, d6, d14, List.take_left' (by simp [leB_len]), List.take_left' (by simp [leB_len]), List.take_left' h16, beN_leB2 4 _ (by omega), beN_leB2 8 _ (by omega), UInt64.ofNat_toNat]
    have h0 : (encB c).getD 0 0 = c.kind := by rw [e]; rfl
    have h1 : (encB c).getD 1 0 = c.flags := by rw [e]; rfl
    have h2 : (UInt64.ofNat c.delay.toNat).toUInt32 = c.delay := by
      apply UInt32.toNat_inj.1
      rw [UInt64.toNat_toUInt32, UInt64.toNat_ofNat_of_lt' (by show _ < 18446744073709551616; omega)]; omega
    rw [h0, h1, h2]
  have he : errC (encB c) = 0 := by rw [errC, hc, d30, if_neg (fun hh => hh.1 rfl), h]
  rw [decC, if_neg (by omega), if_neg (by simp [he]), hc]


open Classical in
set_option maxRecDepth 100000 in
theorem cmd_Decode (a : Option Addr) (len cap : Nat) (bs : List UInt8) (w : World) (hlen : len = bs.length) (hl : RdL w a (B bs)) (hb : bs.length ≤ 140737488351232) (hcap : bs.length ≤ cap) :
    Ret Try.prog 90 [.slice a len cap] w (fun v _ => v = .tuple #[.agg (cmC (decC bs).1).toArray, i64 (decC bs).2]) := by
  subst hlen
  refine enter [] (Mem.nil _) Try.func90 rfl Try.ntmps90 rfl (fun X hX => ?_)
  have hw := hX.w0; subst hw
  refine G.seq <| G.reg <| W.al Try.zrl127 rfl fun b1 => W.q (sa rfl) rfl <| W.nil <| G.seq <| G.reg <| W.q (mv rfl) rfl <| W.bs (cs := [_, _, _, _, _]) Try.underlying62 Try.sz3 Try.zrl3 rfl rfl rfl rfl fun b2 => W.fn Try.ca39 rfl (fun w hm => codec_Cut a cap bs w (hm.rd rfl hl) hb hcap (some ⟨b2, 0, none⟩) 5 [2, 4, 8, 16, 2] (hm.rowRd .hd) (by decide) (by decide)) rfl fun v J hv hJ => ?_
  obtain ⟨v1, ⟨a1, c1, ps, hps, rfl, hJe⟩, rfl⟩ := hv
  have hc := cmd_cut bs
  rw [hc] at hps ⊢
  refine W.q (mv rfl) rfl <| W.q (ex rfl rfl) rfl <| W.q (ex rfl rfl) rfl <| W.q (sa rfl) rfl <| W.q (sa rfl) rfl <| W.nil <| G.seq <| G.seq <| G.reg <| W.q (mv rfl) rfl <| W.q (ne rfl rfl) rfl <| W.nil <| G.cdd rfl (fun h1 => ?_) (fun h1 => ?_)
  · -- h1 True
    refine G.seq <| ?_
    have h32 : bs.length ≠ 32 := fun h => by rw [if_pos h] at h1; exact h1 rfl
    refine G.ent (Dr.ent (Dr.allS hJ rfl <| .drop rfl .rfl)) ?_
    refine G.reg <| W.q (bld Try.stp127 rfl rfl) rfl <| W.q (mv rfl) rfl <| W.sta Try.sz127 rfl rfl rfl rfl .hd rfl <| W.q (sa rfl) rfl <| W.nil <| ret hX Try.results90 (RA.cella rfl Try.agg127 Try.sz127 (Cells.whole .hd) rfl <| RA.tmp rfl <| RA.nil) fun w hm => done (H := []) rfl ?_ (Dr.ent (Dr.new rfl) w hm)
    rw [decC, if_pos h32, if_neg h32]; rfl
  · -- h1 False
    refine G.skip <| G.seq <| ?_
    have h32 : bs.length = 32 := Classical.byContradiction fun h => h1 (by rw [if_neg h]; decide)
    rw [if_pos h32] at hps
    obtain ⟨⟨g1, k1, x1⟩, ⟨g2, k2, x2⟩, ⟨g3, k3, x3⟩, ⟨g4, k4, x4⟩, ⟨g5, k5, x5⟩, rfl⟩ : ∃ p1 p2 p3 p4 p5, ps = [p1, p2, p3, p4, p5] := len5 (by have := congrArg List.length hps; simpa using this)
    simp only [List.map_cons, List.map_nil, List.cons.injEq, and_true] at hps
    obtain ⟨e1, e2, e3, e4, e5⟩ := hps
    have hx1 : x1.length = 2 := by rw [e1]; simp; omega
    have hx2 : x2.length = 4 := by rw [e2]; simp; omega
    have hx3 : x3.length = 8 := by rw [e3]; simp; omega
    have hx4 : x4.length = 16 := by rw [e4]; simp; omega
    have hx5 : x5.length = 2 := by rw [e5]; simp; omega
    rw [hJe]
    refine G.rdA (a := a1) (cells := _) (Rdf.sl (.head _)) (by simp) (fun ob oo ho => ?_)
    refine G.rdA (a := g1) (cells := B x1) (Rdf.sl (m := x1.length) (cap := k1) (E := 5) (s := 1) (.tail _ (.head _))) (by rw [Bl]; omega) (fun b1' o1' hb1 => ?_)
    refine G.rdA (a := g4) (cells := B x4) (Rdf.sl (m := x4.length) (cap := k4) (E := 5) (s := 1) (.tail _ (.tail _ (.tail _ (.tail _ (.head _)))))) (by rw [Bl]; omega) (fun b4' o4' hb4 => ?_)
    subst ho hb1 hb4
    have hq0 : x1[0]? = some (bs.getD 0 0) := by rw [e1, List.getElem?_take_of_lt (by omega), List.getD_eq_getElem?_getD, List.getElem?_eq_getElem (by omega)]; rfl
    have hq1 : x1[1]? = some (bs.getD 1 0) := by rw [e1, List.getElem?_take_of_lt (by omega), List.getD_eq_getElem?_getD, List.getElem?_eq_getElem (by omega)]; rfl
    have hcm : cmC (cmOf bs) = u8 (bs.getD 0 0) :: u8 (bs.getD 1 0) :: u32 (UInt64.ofNat (beN x2)).toUInt32 :: u64 (UInt64.ofNat (beN x3)) :: B x4 := by rw [e2, e3, e4]; rfl
    have hcl := cmC_len (cmOf_mark h32)
    refine G.reg <| W.q (mv rfl) rfl <| W.q (ia Try.esl73 rfl rfl (by omega) (by simp)) rfl <| W.q (ld Try.sc22 rfl ((Rdf.sl (.head _)).cellOf (i := 1) rfl)) rfl <| W.fv Try.ca40 rfl (fun w hm => codec_Get4 _ _ _ x2 w rfl (hm.slRd (.tail _ <| .tail _ <| .head _)) hx2) rfl <| W.q (mv rfl) rfl <| W.q (ex rfl rfl) rfl <| W.q (ex rfl rfl) rfl <| W.q (sa rfl) rfl <| W.q (sa rfl) rfl <| W.nil <| G.seq <| G.reg <| W.q (mv rfl) rfl <| W.q (ia Try.esl73 rfl rfl (by omega) (by simp)) rfl <| W.q (ld Try.sc22 rfl ((Rdf.sl (.head _)).cellOf (i := 2) rfl)) rfl <| W.fv Try.ca40 rfl (fun w hm => codec_Get8 _ _ _ x3 w rfl (hm.slRd (.tail _ <| .tail _ <| .tail _ <| .head _)) hx3) rfl <| W.q (mv rfl) rfl <| W.q (ex rfl rfl) rfl <| W.q (ex rfl rfl) rfl <| W.q (sa rfl) rfl <| W.q (sa rfl) rfl <| W.nil <| G.seq <| G.rega 21 rfl Try.mixed <| A.q 0 rfl (by kernel_rfl) (fun _ => (mv rfl)) rfl <| A.q 1 rfl (by kernel_rfl) (fun _ => (ia Try.esl73 rfl rfl (by omega) (by simp))) rfl <| A.q 5 rfl (by kernel_rfl) (fun _ => (mv rfl)) rfl <| A.q 6 rfl (by kernel_rfl) (fun _ => (ia Try.esl73 rfl rfl (by omega) (by simp))) rfl <| A.q 10 rfl (by kernel_rfl) (fun _ => (mv rfl)) rfl <| A.q 11 rfl (by kernel_rfl) (fun _ => (cv_u64_u32 Try.underlying29 Try.underlying125 rfl)) rfl <| A.q 12 rfl (by kernel_rfl) (fun _ => (mv rfl)) rfl <| A.q 13 rfl (by kernel_rfl) (fun _ => (mv rfl)) rfl <| A.q 14 rfl (by kernel_rfl) (fun _ => (ia Try.esl73 rfl rfl (by omega) (by simp))) rfl <| A.held 15 [2, 3, 4, 7, 8, 9, 19] rfl (by kernel_rfl) (ld Try.sc22 rfl ((Rdf.sl (.head _)).cellOf (i := 3) rfl)) rfl <| A.q 16 rfl (by kernel_rfl) (fun _ => (stp_ Try.ear25 rfl (by show 16 ≤ x4.length; omega))) rfl <| A.held 2 [7, 8, 9, 17, 19] rfl (by kernel_rfl) (ld Try.sc22 rfl ((Rdf.sl (.head _)).cellOf (i := 0) rfl)) rfl <| A.q 3 rfl (by kernel_rfl) (fun _ => (ia Try.esl22 rfl rfl (by omega) (by show (0 : Int) < (x1.length : Int); omega))) rfl <| A.held 4 [7, 8, 9, 17, 19] rfl (by kernel_rfl) (ld Try.sc5 rfl (Rdf.cl (Rdf.sl (m := x1.length) (cap := k1) (E := 5) (s := 1) (xs := B x1) (.tail _ <| .head _)) 0 _ (B_get hq0))) rfl <| A.held 7 [17, 19] rfl (by kernel_rfl) (ld Try.sc22 rfl ((Rdf.sl (.head _)).cellOf (i := 0) rfl)) rfl <| A.q 8 rfl (by kernel_rfl) (fun _ => (ia Try.esl22 rfl rfl (by omega) (by show (1 : Int) < (x1.length : Int); omega))) rfl <| A.held 9 [17, 19] rfl (by kernel_rfl) (ld Try.sc5 rfl (Rdf.cl (Rdf.sl (m := x1.length) (cap := k1) (E := 5) (s := 1) (xs := B x1) (.tail _ <| .head _)) 1 _ (B_get hq1))) rfl <| A.held 17 [19] rfl (by kernel_rfl) (lda Try.agg25 Try.sz25 rfl (Rdf.cl (Rdf.sl (m := x4.length) (cap := k4) (E := 5) (s := 1) (xs := B x4) (.tail _ <| .tail _ <| .tail _ <| .tail _ <| .head _))) (by rw [Bl]; omega)) rfl <| A.q 18 rfl (by kernel_rfl) (fun _ => ((blds (cs := cmC (cmOf bs)) Try.stp127 rfl (by simp [seqB, cellsL, hx4]) (by simp [cellsL, hx4]) (by rw [hcm]; simp [cellsL])))) rfl <| A.one 19 rfl (by kernel_rfl) <| W.al Try.zrl127 rfl fun b3 => A.back <| A.one 20 rfl (by kernel_rfl) <| W.sta Try.sz127 rfl rfl hcl (cmC_one _) .hd rfl <| A.back <| A.nil (by kernel_rfl) <| G.seq <| G.reg <| W.q (lda Try.agg127 Try.sz127 rfl (Cells.whole .hd) hcl) rfl <| W.fv Try.ca112 rfl (fun w hm => cmd_Check (cmOf bs) (cmOf_mark h32) w) rfl <| W.q (sa rfl) rfl <| W.nil <| G.seq <| G.seq <| G.reg <| W.q (mv rfl) rfl <| W.q (ia Try.esl73 rfl rfl (by omega) (by simp)) rfl <| W.q (ld Try.sc22 rfl ((Rdf.sl (.tail _ <| .head _)).cellOf (i := 4) rfl)) rfl <| W.bs (cs := [_, _]) Try.underlying22 Try.sz5 Try.zrl5 rfl rfl rfl rfl fun b4 => W.fv Try.ca85 rfl (fun w hm => codec_Same _ _ _ x5 w rfl (hm.slRd (m := x5.length) (cap := k5) (E := 5) (s := 1) (.tail _ <| .tail _ <| .tail _ <| .tail _ <| .tail _ <| .tail _ <| .tail _ <| .head _)) (by omega) (some ⟨b4, 0, none⟩) 2 2 [0, 0] rfl (hm.rowRd (cs := B [0, 0]) .hd)) rfl <| W.q (nt rfl) rfl <| W.q (mv rfl) rfl <| W.sp (t := _) 62 rfl (fun g2 => ?_) (fun g2 => ?_)
    · -- True
      refine W.qg rfl rfl g2 (mv rfl) rfl <| W.qg rfl rfl g2 (ne rfl rfl) rfl <| W.q (pkt rfl g2 rfl) rfl <| W.nil <| G.cdd rfl (fun h3 => ?_) (fun h3 => ?_)
      · -- h3 True
        refine G.reg <| W.q (sa rfl) rfl <| W.nil <| G.seq <| G.seq <| G.reg <| W.q (mv rfl) rfl <| W.q (ne rfl rfl) rfl <| W.nil <| G.cdd rfl (fun h4 => ?_) (fun h4 => ?_)
        · -- h4 True
          refine G.seq <| G.reg <| W.q (bld Try.stp127 rfl rfl) rfl <| W.q (mv rfl) rfl <| W.sta Try.sz127 rfl rfl rfl rfl (.tl <| .tl <| .tl <| .tl <| .tl <| .tl <| .tl <| .tl <| .tl <| .hd) rfl <| W.q (sa rfl) rfl <| W.nil <| ret hX Try.results90 (RA.cella rfl Try.agg127 Try.sz127 (Cells.whole (.tl <| .tl <| .tl <| .tl <| .tl <| .tl <| .tl <| .tl <| .tl <| .hd)) rfl <| RA.tmp rfl <| RA.nil) fun w hm => done (H := []) rfl ?_ (Dr.ent (Dr.new rfl) w hm)
          have he : errC bs = 3 := by rw [errC, if_pos ⟨by rw [← e5]; simpa using g2, h3⟩]
          rw [decC, if_neg (by omega), if_pos (by omega), he]; rfl
        · -- h4 False
          simp at h4
      · -- h3 False
        refine G.skip <| G.seq <| G.seq <| G.reg <| W.q (mv rfl) rfl <| W.q (ne rfl rfl) rfl <| W.nil <| G.cdd rfl (fun h5 => ?_) (fun h5 => ?_)
        · -- h5 True
          refine G.seq <| G.reg <| W.q (bld Try.stp127 rfl rfl) rfl <| W.q (mv rfl) rfl <| W.sta Try.sz127 rfl rfl rfl rfl (.tl <| .tl <| .tl <| .tl <| .tl <| .tl <| .tl <| .tl <| .tl <| .hd) rfl <| W.q (sa rfl) rfl <| W.nil <| ret hX Try.results90 (RA.cella rfl Try.agg127 Try.sz127 (Cells.whole (.tl <| .tl <| .tl <| .tl <| .tl <| .tl <| .tl <| .tl <| .tl <| .hd)) rfl <| RA.tmp rfl <| RA.nil) fun w hm => done (H := []) rfl ?_ (Dr.ent (Dr.new rfl) w hm)
          have he : errC bs = checkC (cmOf bs) := by rw [errC, if_neg (fun hh => h3 hh.2)]
          rw [decC, if_neg (by omega), if_pos (by omega), he]; rfl
        · -- h5 False
          omega
    · -- False
      refine W.sk rfl rfl g2 rfl <| W.sk rfl rfl g2 rfl <| W.q (pkf rfl g2 rfl) rfl <| W.nil <| G.cdf rfl rfl <| G.skip <| G.seq <| G.seq <| G.reg <| W.q (mv rfl) rfl <| W.q (ne rfl rfl) rfl <| W.nil <| G.cdd rfl (fun h6 => ?_) (fun h6 => ?_)
      · -- h6 True
        refine G.seq <| G.reg <| W.q (bld Try.stp127 rfl rfl) rfl <| W.q (mv rfl) rfl <| W.sta Try.sz127 rfl rfl rfl rfl (.tl <| .tl <| .tl <| .tl <| .tl <| .tl <| .tl <| .tl <| .tl <| .hd) rfl <| W.q (sa rfl) rfl <| W.nil <| ret hX Try.results90 (RA.cella rfl Try.agg127 Try.sz127 (Cells.whole (.tl <| .tl <| .tl <| .tl <| .tl <| .tl <| .tl <| .tl <| .tl <| .hd)) rfl <| RA.tmp rfl <| RA.nil) fun w hm => done (H := []) rfl ?_ (Dr.ent (Dr.new rfl) w hm)
        have he : errC bs = checkC (cmOf bs) := by rw [errC, if_neg (fun hh => hh.1 (by rw [← e5]; simpa using g2))]
        rw [decC, if_neg (by omega), if_pos (by omega), he]; rfl
      · -- h6 False
        refine G.skip <| G.seq <| G.reg <| W.q (lda Try.agg127 Try.sz127 rfl (Cells.whole (.tl <| .hd)) hcl) rfl <| W.sta Try.sz127 rfl rfl hcl (cmC_one _) (.tl <| .tl <| .tl <| .tl <| .tl <| .tl <| .tl <| .tl <| .tl <| .hd) rfl <| W.q (sa rfl) rfl <| W.nil <| ret hX Try.results90 (RA.cella rfl Try.agg127 Try.sz127 (Cells.whole (.tl <| .tl <| .tl <| .tl <| .tl <| .tl <| .tl <| .tl <| .tl <| .hd)) hcl <| RA.tmp rfl <| RA.nil) fun w hm => done (H := []) rfl ?_ (Dr.ent (Dr.new rfl) w hm)
        have he : errC bs = checkC (cmOf bs) := by rw [errC, if_neg (fun hh => hh.1 (by rw [← e5]; simpa using g2))]
        rw [decC, if_neg (by omega), if_neg (by omega)]; rfl
end Go.Proofs.Ytjalojbihpdghaa
