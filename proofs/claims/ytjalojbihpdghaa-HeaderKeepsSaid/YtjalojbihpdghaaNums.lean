/- Numbers as bytes. -/
import Derived.Test.YtjalojbihpdghaaJoin
import Derived.Test.YtjalojbihpdghaaCursor
namespace Go.Proofs.Ytjalojbihpdghaa
open Go Go.Eng
set_option linter.unusedVariables false

def shapeR (order width : Int) : Bool := decide ((order = 1 ∨ order = 2) ∧ 1 ≤ width ∧ width ≤ 8)
def byteAt (n i : Nat) : UInt8 := UInt8.ofNat (n / 256 ^ i % 256)
/-- The least first. -/
def leB (w n : Nat) : List UInt8 := (List.range w).map (byteAt n)
theorem leB_len (w n : Nat) : (leB w n).length = w := by simp [leB]
theorem leB_succ (w n : Nat) : leB (w + 1) n = leB w n ++ [byteAt n w] := by simp [leB, List.range_succ]
theorem take_set_succ {α : Type} (l : List α) (k : Nat) (x : α) (h : k < l.length) : (l.set k x).take (k + 1) = l.take k ++ [x] := by
  rw [List.take_succ_eq_append_getElem (by simpa using h), List.take_set_of_le (Nat.le_refl _)]; simp
def putR (order width : Int) (n : UInt64) : List UInt8 × Int :=
  if shapeR order width = false then ([], 1) else if width < 8 ∧ 256 ^ width.toNat ≤ n.toNat then ([], 2) else (if order = 2 then (leB width.toNat n.toNat).reverse else leB width.toNat n.toNat, 0)
theorem pow256 (k : Nat) : 2 ^ (8 * k) = 256 ^ k := by rw [Nat.pow_mul]
theorem shr_byte (n : UInt64) (k : Nat) (hk : k < 8) : (shrU64 n (8 * (k : Int))).toUInt8 = byteAt n.toNat k := by
  have h : min (8 * (k : Int)).toNat 64 = 8 * k := by omega
  apply UInt8.toNat_inj.1
  have hlt : n.toNat / 256 ^ k < 18446744073709551616 := Nat.lt_of_le_of_lt (Nat.div_le_self _ _) n.toNat_lt
  rw [UInt64.toNat_toUInt8, shrU64, h, pow256, UInt64.toNat_ofNat_of_lt' hlt, byteAt, UInt8.toNat_ofNat']
  omega
theorem shr_zero (n : UInt64) (k : Nat) (hk : k < 8) : (shrU64 n (8 * (k : Int))).toNat = 0 ↔ n.toNat < 256 ^ k := by
  have h : min (8 * (k : Int)).toNat 64 = 8 * k := by omega
  have hlt : n.toNat / 256 ^ k < 18446744073709551616 := Nat.lt_of_le_of_lt (Nat.div_le_self _ _) n.toNat_lt
  rw [shrU64, h, pow256, UInt64.toNat_ofNat_of_lt' hlt, Nat.div_eq_zero_iff]
  have : 0 < 256 ^ k := Nat.pos_of_ne_zero (by simp)
  omega


set_option maxRecDepth 100000 in
theorem codec_shape (order width : Int) (w : World) :
    Ret Try.prog 72 [i64 order, i64 width] w (fun v _ => v = i64 (if shapeR order width then 0 else 1)) := by
  refine enter [] (Mem.nil _) Try.func72 rfl Try.ntmps72 rfl (fun X hX => ?_)
  have hw := hX.w0; subst hw
  refine G.seq <| G.reg <| W.q (sa rfl) rfl <| W.nil <| G.seq <| G.seq <| G.reg <| W.q (mv rfl) rfl <| W.q (ne rfl rfl) rfl <| W.q (mv rfl) rfl <| W.sp (t := _) 7 rfl (fun g1 => ?_) (fun g1 => ?_)
  · -- True
    refine W.qg rfl rfl g1 (mv rfl) rfl <| W.qg rfl rfl g1 (ne rfl rfl) rfl <| W.q (pkt rfl g1 rfl) rfl <| W.q (mv rfl) rfl <| W.sp (t := _) 11 rfl (fun g2 => ?_) (fun g2 => ?_)
    · -- True
      refine W.sk rfl rfl g2 rfl <| W.sk rfl rfl g2 rfl <| W.q (pkt rfl g2 rfl) rfl <| W.q (mv rfl) rfl <| W.sk rfl rfl rfl rfl <| W.sk rfl rfl rfl rfl <| W.q (pkt rfl rfl rfl) rfl <| W.nil <| G.cdt rfl rfl <| G.seq <| G.reg <| W.q (sa rfl) rfl <| W.nil <| ret1 hX Try.results72 rfl fun w hm => done rfl ?_ hm
      grind [shapeR]
    · -- False
      refine W.qg rfl rfl g2 (mv rfl) rfl <| W.qg rfl rfl g2 (lt rfl rfl) rfl <| W.q (pkf rfl g2 rfl) rfl <| W.q (mv rfl) rfl <| W.sp (t := _) 15 rfl (fun g3 => ?_) (fun g3 => ?_)
      · -- True
        refine W.sk rfl rfl g3 rfl <| W.sk rfl rfl g3 rfl <| W.q (pkt rfl g3 rfl) rfl <| W.nil <| G.cdt rfl rfl <| G.seq <| G.reg <| W.q (sa rfl) rfl <| W.nil <| ret1 hX Try.results72 rfl fun w hm => done rfl ?_ hm
        grind [shapeR]
      · -- False
        refine W.qg rfl rfl g3 (mv rfl) rfl <| W.qg rfl rfl g3 (gt rfl rfl) rfl <| W.q (pkf rfl g3 rfl) rfl <| W.nil <| G.cdd rfl (fun h4 => ?_) (fun h4 => ?_)
        · -- h4 True
          refine G.seq <| G.reg <| W.q (sa rfl) rfl <| W.nil <| ret1 hX Try.results72 rfl fun w hm => done rfl ?_ hm
          grind [shapeR]
        · -- h4 False
          refine G.skip <| G.seq <| G.reg <| W.q (sa rfl) rfl <| W.nil <| ret1 hX Try.results72 rfl fun w hm => done rfl ?_ hm
          grind [shapeR]
  · -- False
    refine W.sk rfl rfl g1 rfl <| W.sk rfl rfl g1 rfl <| W.q (pkf rfl g1 rfl) rfl <| W.q (mv rfl) rfl <| W.qg rfl rfl rfl (mv rfl) rfl <| W.qg rfl rfl rfl (lt rfl rfl) rfl <| W.q (pkf rfl rfl rfl) rfl <| W.q (mv rfl) rfl <| W.sp (t := _) 15 rfl (fun g5 => ?_) (fun g5 => ?_)
    · -- True
      refine W.sk rfl rfl g5 rfl <| W.sk rfl rfl g5 rfl <| W.q (pkt rfl g5 rfl) rfl <| W.nil <| G.cdt rfl rfl <| G.seq <| G.reg <| W.q (sa rfl) rfl <| W.nil <| ret1 hX Try.results72 rfl fun w hm => done rfl ?_ hm
      grind [shapeR]
    · -- False
      refine W.qg rfl rfl g5 (mv rfl) rfl <| W.qg rfl rfl g5 (gt rfl rfl) rfl <| W.q (pkf rfl g5 rfl) rfl <| W.nil <| G.cdd rfl (fun h6 => ?_) (fun h6 => ?_)
      · -- h6 True
        refine G.seq <| G.reg <| W.q (sa rfl) rfl <| W.nil <| ret1 hX Try.results72 rfl fun w hm => done rfl ?_ hm
        grind [shapeR]
      · -- h6 False
        refine G.skip <| G.seq <| G.reg <| W.q (sa rfl) rfl <| W.nil <| ret1 hX Try.results72 rfl fun w hm => done rfl ?_ hm
        grind [shapeR]


set_option maxRecDepth 100000 in
theorem ref01_shape (order width : Int) (w : World) :
    Ret Try.prog 167 [i64 order, i64 width] w (fun v _ => v = .bool (shapeR order width)) := by
  refine enter [] (Mem.nil _) Try.func167 rfl Try.ntmps167 rfl (fun X hX => ?_)
  have hw := hX.w0; subst hw
  refine G.seq <| G.reg <| W.q (sa rfl) rfl <| W.nil <| G.seq <| G.reg <| W.q (mv rfl) rfl <| W.q (eq rfl rfl) rfl <| W.q (mv rfl) rfl <| W.sp (t := _) 7 rfl (fun g1 => ?_) (fun g1 => ?_)
  · -- True
    refine W.sk rfl rfl g1 rfl <| W.sk rfl rfl g1 rfl <| W.q (pkt rfl g1 rfl) rfl <| W.q (mv rfl) rfl <| W.qg rfl rfl rfl (mv rfl) rfl <| W.qg rfl rfl rfl (ge rfl rfl) rfl <| W.q (pkt rfl rfl rfl) rfl <| W.q (mv rfl) rfl <| W.sp (t := _) 15 rfl (fun g2 => ?_) (fun g2 => ?_)
    · -- True
      refine W.qg rfl rfl g2 (mv rfl) rfl <| W.qg rfl rfl g2 (le rfl rfl) rfl <| W.q (pkt rfl g2 rfl) rfl <| W.q (sa rfl) rfl <| W.nil <| ret1 hX Try.results167 rfl fun w hm => done rfl ?_ hm
      grind [shapeR]
    · -- False
      refine W.sk rfl rfl g2 rfl <| W.sk rfl rfl g2 rfl <| W.q (pkf rfl g2 rfl) rfl <| W.q (sa rfl) rfl <| W.nil <| ret1 hX Try.results167 rfl fun w hm => done rfl ?_ hm
      grind [shapeR]
  · -- False
    refine W.qg rfl rfl g1 (mv rfl) rfl <| W.qg rfl rfl g1 (eq rfl rfl) rfl <| W.q (pkf rfl g1 rfl) rfl <| W.q (mv rfl) rfl <| W.sp (t := _) 11 rfl (fun g3 => ?_) (fun g3 => ?_)
    · -- True
      refine W.qg rfl rfl g3 (mv rfl) rfl <| W.qg rfl rfl g3 (ge rfl rfl) rfl <| W.q (pkt rfl g3 rfl) rfl <| W.q (mv rfl) rfl <| W.sp (t := _) 15 rfl (fun g4 => ?_) (fun g4 => ?_)
      · -- True
        refine W.qg rfl rfl g4 (mv rfl) rfl <| W.qg rfl rfl g4 (le rfl rfl) rfl <| W.q (pkt rfl g4 rfl) rfl <| W.q (sa rfl) rfl <| W.nil <| ret1 hX Try.results167 rfl fun w hm => done rfl ?_ hm
        grind [shapeR]
      · -- False
        refine W.sk rfl rfl g4 rfl <| W.sk rfl rfl g4 rfl <| W.q (pkf rfl g4 rfl) rfl <| W.q (sa rfl) rfl <| W.nil <| ret1 hX Try.results167 rfl fun w hm => done rfl ?_ hm
        grind [shapeR]
    · -- False
      refine W.sk rfl rfl g3 rfl <| W.sk rfl rfl g3 rfl <| W.q (pkf rfl g3 rfl) rfl <| W.q (mv rfl) rfl <| W.sk rfl rfl rfl rfl <| W.sk rfl rfl rfl rfl <| W.q (pkf rfl rfl rfl) rfl <| W.q (sa rfl) rfl <| W.nil <| ret1 hX Try.results167 rfl fun w hm => done rfl ?_ hm
      grind [shapeR]

theorem rev_get (l xs : List UInt8) (i : Nat) (hl : xs.length = l.length) (h : ∀ p, p < l.length → xs[p]? = if p < i ∨ l.length - i ≤ p then l[l.length - 1 - p]? else l[p]?) (hi : l.length ≤ 2 * i + 1) : xs = l.reverse := by
  apply List.ext_getElem?
  intro p
  by_cases hp : p < l.length
  · rw [h p hp, List.getElem?_reverse hp]
    split
    · rfl
    · congr 1; omega
  · rw [List.getElem?_eq_none (by omega), List.getElem?_eq_none (by simp; omega)]


set_option maxRecDepth 100000 in
theorem reverse_bytes (w0 : World) (H : List It) (b len cap T : Nat) (l : List UInt8) (hlen : len = l.length) (hb : l.length ≤ 140737488351232) :
    RetF Try.prog 84 [slc b 0 len cap] w0 H [nb b (B l) T] (fun _ P => P = [nb b (B l.reverse) T]) := by
  subst hlen
  refine enterF Try.func84 rfl Try.ntmps84 rfl (fun X hX => ?_)
  have hw := hX.w0; subst hw
  refine G.seq <| G.reg <| W.q (mv rfl) rfl <| W.q (ln Try.esl22 rfl) rfl <| W.q (sb rfl rfl (by omega)) rfl <| W.q (sa rfl) rfl <| W.q (sa rfl) rfl <| W.nil <| G.blk <| G.loop2 (α := Nat) (β := List UInt8) (fun i xs => i ≤ l.length ∧ xs.length = l.length ∧ ∀ p, p < l.length → xs[p]? = if p < i ∨ l.length - i ≤ p then l[l.length - 1 - p]? else l[p]?) (fun i xs => [(2, i64 i), (3, i64 ((l.length : Int) - 1 - i))]) (fun i xs => [nb b (B xs) T]) (fun i xs => l.length - i) [(0, _)] H 0 l ⟨by omega, rfl, fun p hp => by rw [if_neg (by omega)]⟩ (Sub.cons rfl <| Sub.co rfl ?_ <| Sub.cons rfl <| Sub.nil _) .rfl (fun i xs hk ih => ?_)
  · simp
  refine G.seq <| G.seq <| G.reg <| W.q (mv rfl) rfl <| W.q (mv rfl) rfl <| W.q (lt rfl rfl) rfl <| W.nil <| G.cdd rfl (fun h1 => ?_) (fun h1 => ?_)
  · -- h1 True
    obtain ⟨x, hx⟩ : ∃ x, xs[i]? = some x := ⟨_, List.getElem?_eq_getElem (by omega)⟩
    obtain ⟨y, hy⟩ : ∃ y, xs[l.length - 1 - i]? = some y := ⟨_, List.getElem?_eq_getElem (by omega)⟩
    have hj : ((l.length : Int) - 1 - i) = ((l.length - 1 - i : Nat) : Int) := by omega
    rw [hj]
    refine G.skip <| G.seq <| G.blk <| G.rega 16 rfl Try.mixed <| A.q 0 rfl (by kernel_rfl) (fun _ => (mv rfl)) rfl <| A.q 1 rfl (by kernel_rfl) (fun _ => (mv rfl)) rfl <| A.q 2 rfl (by kernel_rfl) (fun _ => (mv rfl)) rfl <| A.q 3 rfl (by kernel_rfl) (fun _ => (mv rfl)) rfl <| A.q 4 rfl (by kernel_rfl) (fun _ => (mv rfl)) rfl <| A.q 5 rfl (by kernel_rfl) (fun _ => (mv rfl)) rfl <| A.q 6 rfl (by kernel_rfl) (fun _ => (ia Try.esl22 rfl rfl (by omega) (by omega))) rfl <| A.q 8 rfl (by kernel_rfl) (fun _ => (mv rfl)) rfl <| A.q 9 rfl (by kernel_rfl) (fun _ => (mv rfl)) rfl <| A.q 10 rfl (by kernel_rfl) (fun _ => (ia Try.esl22 rfl rfl (by omega) (by omega))) rfl <| A.held 7 [11] rfl (by kernel_rfl) (ld Try.sc5 rfl (Cell.atB .hd hy (by simp))) rfl <| A.held 11 [] rfl (by kernel_rfl) (ld Try.sc5 rfl (Cell.atB .hd hx (by simp))) rfl <| A.q 12 rfl (by kernel_rfl) (fun _ => (ia Try.esl22 rfl rfl (by omega) (by omega))) rfl <| A.one 13 rfl (by kernel_rfl) <| W.st (cs' := B (xs.set i y)) Try.sz5 rfl rfl rfl rfl rfl .hd (by simp; omega) (by rw [Nat.zero_add]; simpa [cellsL] using setAt_B xs i y (by omega)) <| A.back <| A.q 14 rfl (by kernel_rfl) (fun _ => (ia Try.esl22 rfl rfl (by omega) (by omega))) rfl <| A.one 15 rfl (by kernel_rfl) <| W.st (cs' := B ((xs.set i y).set (l.length - 1 - i) x)) Try.sz5 rfl rfl rfl rfl rfl .hd (by simp; omega) (by rw [Nat.zero_add]; simpa [cellsL] using setAt_B (xs.set i y) (l.length - 1 - i) x (by simp; omega)) <| A.back <| A.nil (by kernel_rfl) <| G.inb <| G.reg <| W.q (mv rfl) rfl <| W.q (ad rfl rfl (by omega)) rfl <| W.q (mv rfl) rfl <| W.q (sb rfl rfl (by omega)) rfl <| W.q (sa rfl) rfl <| W.q (sa rfl) rfl <| W.nil <| (ih (i + 1) ((xs.set i y).set (l.length - 1 - i) x) ⟨by omega, by simp; omega, by
          intro p hp
          have h3 := hk.2.2 p hp
          have h4 := hk.2.2 i (by omega)
          have h5 := hk.2.2 (l.length - 1 - i) (by omega)
          rw [if_neg (by omega), hx] at h4
          rw [if_neg (by omega), hy] at h5
          by_cases e1 : p = l.length - 1 - i
          · subst e1
            rw [List.getElem?_set_self (by simp; omega), if_pos (by omega), show l.length - 1 - (l.length - 1 - i) = i by omega]; exact h4
          · rw [List.getElem?_set_ne (by omega)]
            by_cases e2 : p = i
            · subst e2
              rw [List.getElem?_set_self (by omega), if_pos (by omega)]; exact h5
            · rw [List.getElem?_set_ne (by omega), h3]
              by_cases e3 : p < i ∨ l.length - i ≤ p
              · rw [if_pos e3, if_pos (by omega)]
              · rw [if_neg e3, if_neg (by omega)]⟩ (by omega)).weak (Sub.cons rfl <| Sub.co rfl ?_ <| Sub.cons rfl <| Sub.nil _) .rfl
    all_goals clear ih
    · show i64 _ = i64 _; congr 1; omega
  · -- h1 False
    refine G.exit rfl <| ret0 hX Try.results84 fun w hm => doneF (Pre' := [nb b (B l.reverse) T]) rfl rfl hm (Ent.eq (by rw [rev_get l xs i hk.2.1 hk.2.2 (by omega)]))


set_option maxRecDepth 100000 in
theorem codec_Put (order width : Int) (n : UInt64) (w : World) :
    Ret Try.prog 59 [i64 order, i64 width, u64 n] w (fun v J => ∃ v1, NewB (putR order width n).1 v1 J ∧ v = .tuple #[v1, i64 (putR order width n).2]) := by
  refine enter [] (Mem.nil _) Try.func59 rfl Try.ntmps59 rfl (fun X hX => ?_)
  have hw := hX.w0; subst hw
  refine G.seq <| G.reg <| W.q (sa rfl) rfl <| W.q (sa rfl) rfl <| W.nil <| G.seq <| G.seq <| G.reg <| W.q (mv rfl) rfl <| W.q (mv rfl) rfl <| W.fv Try.ca72 rfl (fun w hm => codec_shape order width w) rfl <| W.q (sa rfl) rfl <| W.nil <| G.seq <| G.reg <| W.q (mv rfl) rfl <| W.q (ne rfl rfl) rfl <| W.nil <| G.cdd rfl (fun h1 => ?_) (fun h1 => ?_)
  · -- h1 True
    have hs : shapeR order width = false := by grind
    refine G.seq <| G.reg <| W.q (mv rfl) rfl <| W.q (sa rfl) rfl <| W.q (sa rfl) rfl <| W.nil <| ret2 hX Try.results59 rfl rfl fun w hm => done rfl ?_ (hm.slNil 5 1)
    have e : putR order width n = ([], 1) := by rw [putR, if_pos hs]
    rw [e, if_neg (by simp [hs])]; exact ⟨_, ⟨none, 0, rfl, rfl⟩, rfl⟩
  · -- h1 False
    have hs : shapeR order width = true := by grind
    have hs2 := hs
    rw [shapeR, decide_eq_true_eq] at hs2
    obtain ⟨hs1, hs2, hs3⟩ := hs2
    refine G.skip <| G.seq <| G.seq <| G.join [(25, .bool (decide (width < 8 ∧ 256 ^ width.toNat ≤ n.toNat)))] [(0, _), (1, _), (2, _)] (Sub.cons rfl <| Sub.cons rfl <| Sub.cons rfl <| Sub.nil _) (fun key4 => ?_) ?_
    · -- region 4
      refine G.reg <| W.q (mv rfl) rfl <| W.q (lt rfl rfl) rfl <| W.q (mv rfl) rfl <| W.sp (t := _) 19 rfl (fun g2 => ?_) (fun g2 => ?_)
      · -- True
        refine W.qg rfl rfl g2 (mv rfl) rfl <| W.qg rfl rfl g2 (mv rfl) rfl <| W.qg rfl rfl g2 (ml rfl rfl (by omega)) rfl <| W.qg rfl rfl g2 (shr_u64 rfl rfl (by omega)) rfl <| W.qg rfl rfl g2 (ne rfl rfl) rfl <| W.q (pkt rfl g2 rfl) rfl <| W.nil <| key4.weak (Sub.co rfl ?_ <| Sub.cons rfl <| Sub.cons rfl <| Sub.cons rfl <| Sub.nil _) .rfl
        show Value.bool _ = Value.bool _
        have h5 := shr_zero n width.toNat (by simp at g2; omega)
        rw [Int.toNat_of_nonneg (by omega)] at h5
        congr 1; grind
      · -- False
        refine W.sk rfl rfl g2 rfl <| W.sk rfl rfl g2 rfl <| W.sk rfl rfl g2 rfl <| W.sk rfl rfl g2 rfl <| W.sk rfl rfl g2 rfl <| W.q (pkf rfl g2 rfl) rfl <| W.nil <| key4.weak (Sub.co rfl ?_ <| Sub.cons rfl <| Sub.cons rfl <| Sub.cons rfl <| Sub.nil _) .rfl
        all_goals (show Value.bool _ = Value.bool _; congr 1; grind)
    refine G.cdd rfl (fun h3 => ?_) (fun h3 => ?_)
    · -- h3 True
      refine G.seq <| G.reg <| W.q (sa rfl) rfl <| W.q (sa rfl) rfl <| W.nil <| ret2 hX Try.results59 rfl rfl fun w hm => done rfl ?_ (hm.slNil 5 1)
      have e : putR order width n = ([], 2) := by rw [putR, if_neg (by simp [hs]), if_pos h3]
      rw [e]; exact ⟨_, ⟨none, 0, rfl, rfl⟩, rfl⟩
    · -- h3 False
      obtain ⟨m, rfl⟩ : ∃ m : Nat, width = m := ⟨width.toNat, by omega⟩
      refine G.skip <| G.seq <| G.reg <| W.q (mv rfl) rfl <| W.mkB Try.underlying22 Try.sz5 Try.zrl5 Try.by5 rfl rfl (by omega) (by omega) rfl fun b1 => W.q (sa rfl) rfl <| W.nil <| G.seq <| G.seq <| G.reg <| W.q (mv rfl) rfl <| W.q (ln Try.esl22 rfl) rfl <| W.q (mv rfl) rfl <| W.nil <| G.blk <| G.loop2 (α := Nat) (β := List UInt8) (fun k l => k ≤ m ∧ l.length = m ∧ l.take k = leB k n.toNat) (fun k l => [(30, i64 k)]) (fun k l => [nb b1 (B l) 5]) (fun k l => m - k) [(0, _), (2, _), (9, _), (29, _)] [] 0 (List.replicate m 0) ⟨by omega, by simp, rfl⟩ (Sub.cons rfl <| Sub.cons rfl <| Sub.cons rfl <| Sub.cons rfl <| Sub.cons rfl <| Sub.nil _) .rfl (fun k l hk ih => ?_)
      refine G.seq <| G.reg <| W.q (lt rfl rfl) rfl <| W.nil <| G.seq <| G.cdd rfl (fun h4 => ?_) (fun h4 => ?_)
      · -- h4 True
        refine G.skip <| G.seq <| G.blk <| G.seq <| G.reg <| W.q (mv rfl) rfl <| W.q (sa rfl) rfl <| W.nil <| G.reg <| W.q (mv rfl) rfl <| W.q (mv rfl) rfl <| W.q (mv rfl) rfl <| W.q (mv rfl) rfl <| W.q (ml rfl rfl (by omega)) rfl <| W.q (shr_u64 rfl rfl (by omega)) rfl <| W.q (cv_u64_u8 Try.underlying29 Try.underlying5 rfl) rfl <| W.q (ia Try.esl22 rfl rfl (by omega) (by omega)) rfl <| W.st (cs' := B (l.set k (shrU64 n (8 * (k : Int))).toUInt8)) Try.sz5 rfl rfl rfl rfl rfl .hd (by simp; omega) (by rw [Nat.zero_add]; simpa [cellsL] using setAt_B l k _ (by omega)) <| W.nil <| G.inb <| G.reg <| W.q (ad rfl rfl (by omega)) rfl <| W.q (mv rfl) rfl <| W.nil <| (ih (k + 1) (l.set k (shrU64 n (8 * (k : Int))).toUInt8) ⟨by omega, by simp; omega, by rw [take_set_succ l k _ (by omega), hk.2.2, leB_succ, shr_byte n k (by omega)]⟩ (by omega)).weak (Sub.cons rfl <| Sub.cons rfl <| Sub.cons rfl <| Sub.cons rfl <| Sub.cons rfl <| Sub.nil _) .rfl
      · -- h4 False
        have hmm : k = m := by omega
        subst hmm
        obtain rfl : l = leB k n.toNat := by rw [← hk.2.2, List.take_of_length_le (by omega)]
        refine G.exit rfl <| G.seq <| G.seq <| G.reg <| W.q (mv rfl) rfl <| W.q (eq rfl rfl) rfl <| W.nil <| G.cdd rfl (fun h5 => ?_) (fun h5 => ?_)
        · -- h5 True
          refine G.reg <| W.q (mv rfl) rfl <| W.ff Try.ca84 rfl (Ent.perm (.refl _)) (reverse_bytes X.w0 [] b1 _ _ 5 (leB k n.toNat) (leB_len _ _).symm (by rw [leB_len]; omega)) rfl rfl fun v J hv hJ => ?_
          subst hv
          refine W.nil <| G.seq <| G.reg <| W.q (mv rfl) rfl <| W.q (sa rfl) rfl <| W.q (sa rfl) rfl <| W.nil <| ret2 hX Try.results59 rfl rfl fun w hm => done rfl ?_ (Mem.rowB hm (by simp [leB_len]; omega))
          have e : putR order k n = ((leB k n.toNat).reverse, 0) := by rw [putR, if_neg (by simp [hs]), if_neg h3, if_pos h5]; rfl
          rw [e]
          exact ⟨_, ⟨some ⟨b1, 0, none⟩, _, rfl, rfl⟩, by simp [leB_len]⟩
        · -- h5 False
          refine G.skip <| G.seq <| G.reg <| W.q (mv rfl) rfl <| W.q (sa rfl) rfl <| W.q (sa rfl) rfl <| W.nil <| ret2 hX Try.results59 rfl rfl fun w hm => done rfl ?_ (Mem.rowB hm (by simp [leB_len]; omega))
          have e : putR order k n = (leB k n.toNat, 0) := by rw [putR, if_neg (by simp [hs]), if_neg h3, if_neg h5]; rfl
          rw [e]
          exact ⟨_, ⟨some ⟨b1, 0, none⟩, _, rfl, rfl⟩, by simp [leB_len]⟩

def padR (bs : List UInt8) (n : Int) : List UInt8 × Int :=
  if n < 0 ∨ 16777216 < n then ([], 1) else if n < bs.length then ([], 2) else (bs ++ List.replicate (n.toNat - bs.length) 0, 0)
theorem pad_set (bs : List UInt8) (m : Nat) (h : bs.length ≤ m) : setAt (B (List.replicate m 0)) 0 (B bs) = B (bs ++ List.replicate (m - bs.length) 0) := by
  rw [setAt_hd _ _ (by simpa using h), Bl, ← List.map_drop, List.drop_replicate, ← List.map_append]


set_option maxRecDepth 100000 in
theorem codec_Pad (a : Option Addr) (len cap : Nat) (bs : List UInt8) (w : World) (hlen : len = bs.length) (hl : RdL w a (B bs)) (hb : bs.length ≤ 140737488351232) (n : Int) :
    Ret Try.prog 60 [.slice a len cap, i64 n] w (fun v J => ∃ v1, NewB (padR bs n).1 v1 J ∧ v = .tuple #[v1, i64 (padR bs n).2]) := by
  subst hlen
  refine enter [] (Mem.nil _) Try.func60 rfl Try.ntmps60 rfl (fun X hX => ?_)
  have hw := hX.w0; subst hw
  refine G.seq <| G.reg <| W.q (sa rfl) rfl <| W.q (sa rfl) rfl <| W.nil <| G.seq <| G.seq <| G.join [(12, .bool (decide (n < 0 ∨ 16777216 < n)))] [(0, _), (1, _)] (Sub.cons rfl <| Sub.cons rfl <| Sub.nil _) (fun key1 => ?_) ?_
  · -- region 1
    refine G.reg <| W.q (mv rfl) rfl <| W.q (lt rfl rfl) rfl <| W.q (mv rfl) rfl <| W.sp (t := _) 9 rfl (fun g1 => ?_) (fun g1 => ?_)
    · -- True
      refine W.sk rfl rfl g1 rfl <| W.sk rfl rfl g1 rfl <| W.q (pkt rfl g1 rfl) rfl <| W.nil <| key1.weak (Sub.co rfl ?_ <| Sub.cons rfl <| Sub.cons rfl <| Sub.nil _) .rfl
      all_goals (show Value.bool _ = Value.bool _; congr 1; grind)
    · -- False
      refine W.qg rfl rfl g1 (mv rfl) rfl <| W.qg rfl rfl g1 (gt rfl rfl) rfl <| W.q (pkf rfl g1 rfl) rfl <| W.nil <| key1.weak (Sub.co rfl ?_ <| Sub.cons rfl <| Sub.cons rfl <| Sub.nil _) .rfl
      all_goals (show Value.bool _ = Value.bool _; congr 1; grind)
  refine G.cdd rfl (fun h2 => ?_) (fun h2 => ?_)
  · -- h2 True
    refine G.seq <| G.reg <| W.q (sa rfl) rfl <| W.q (sa rfl) rfl <| W.nil <| ret2 hX Try.results60 rfl rfl fun w hm => done rfl ?_ (hm.slNil 5 1)
    have e : padR bs n = ([], 1) := by rw [padR, if_pos h2]
    rw [e]; exact ⟨_, ⟨none, 0, rfl, rfl⟩, rfl⟩
  · -- h2 False
    obtain ⟨m, rfl⟩ : ∃ m : Nat, n = m := ⟨n.toNat, by omega⟩
    refine G.skip <| G.seq <| G.seq <| G.reg <| W.q (mv rfl) rfl <| W.q (ln Try.esl22 rfl) rfl <| W.q (mv rfl) rfl <| W.q (gt rfl rfl) rfl <| W.nil <| G.cdd rfl (fun h3 => ?_) (fun h3 => ?_)
    · -- h3 True
      refine G.seq <| G.reg <| W.q (sa rfl) rfl <| W.q (sa rfl) rfl <| W.nil <| ret2 hX Try.results60 rfl rfl fun w hm => done rfl ?_ (hm.slNil 5 1)
      have e : padR bs m = ([], 2) := by rw [padR, if_neg h2, if_pos (by omega)]
      rw [e]; exact ⟨_, ⟨none, 0, rfl, rfl⟩, rfl⟩
    · -- h3 False
      refine G.skip <| G.seq <| G.reg <| W.q (mv rfl) rfl <| W.mkB Try.underlying22 Try.sz5 Try.zrl5 Try.by5 rfl rfl (by omega) (by omega) rfl fun b1 => W.q (sa rfl) rfl <| W.nil <| G.seq <| G.reg <| W.q (mv rfl) rfl <| W.q (mv rfl) rfl <| W.cp Try.underlying22 Try.sz5 rfl rfl (RdS.old rfl hl) (by rw [Bl]; omega) (B_one _) (RdL.nilB hl) .hd (by simp; omega) (pad_set bs m (by omega)) rfl <| W.nil <| G.seq <| G.reg <| W.q (mv rfl) rfl <| W.q (sa rfl) rfl <| W.q (sa rfl) rfl <| W.nil <| ret2 hX Try.results60 rfl rfl fun w hm => done rfl ?_ (Mem.rowB hm (by simp; omega))
      have e : padR bs m = (bs ++ List.replicate (m - bs.length) 0, 0) := by rw [padR, if_neg h2, if_neg (by omega)]; rfl
      rw [e]
      exact ⟨_, ⟨some ⟨b1, 0, none⟩, _, rfl, rfl⟩, by simp; omega⟩


set_option maxRecDepth 100000 in
theorem codec_Looks (a : Option Addr) (len cap : Nat) (bs : List UInt8) (w : World) (hlen : len = bs.length) (hl : RdL w a (B bs)) (hb : bs.length ≤ 140737488351232) (a2 : Option Addr) (len2 cap2 : Nat) (cs : List UInt8) (hlen2 : len2 = cs.length) (hl2 : RdL w a2 (B cs)) :
    Ret Try.prog 107 [.slice a len cap, .slice a2 len2 cap2] w (fun v _ => v = .tuple #[.bool (decide (bs = cs)), i64 (if bs.length = cs.length then (bs.length : Int) else 0)]) := by
  subst hlen; subst hlen2
  refine enter [] (Mem.nil _) Try.func107 rfl Try.ntmps107 rfl (fun X hX => ?_)
  have hw := hX.w0; subst hw
  refine G.seq <| G.reg <| W.q (sa rfl) rfl <| W.q (sa rfl) rfl <| W.nil <| G.seq <| G.seq <| G.reg <| W.q (mv rfl) rfl <| W.q (ln Try.esl22 rfl) rfl <| W.q (mv rfl) rfl <| W.q (ln Try.esl22 rfl) rfl <| W.q (ne rfl rfl) rfl <| W.nil <| G.cdd rfl (fun h1 => ?_) (fun h1 => ?_)
  · -- h1 True
    refine G.seq <| G.reg <| W.q (sa rfl) rfl <| W.q (sa rfl) rfl <| W.nil <| ret2 hX Try.results107 rfl rfl fun w hm => done rfl ?_ hm
    rw [decide_eq_false (fun h => h1 (by rw [h])), if_neg (by omega)]
  · -- h1 False
    have h1' : bs.length = cs.length := by omega
    refine G.skip <| G.seq <| G.reg <| W.q (sa rfl) rfl <| W.q (sa rfl) rfl <| W.nil <| G.seq <| G.seq <| G.reg <| W.q (mv rfl) rfl <| W.q (ln Try.esl22 rfl) rfl <| W.q (mv rfl) rfl <| W.nil <| G.blk <| G.loop2 (α := Nat) (β := UInt8) (fun k d => k ≤ bs.length ∧ (d = 0 ↔ bs.take k = cs.take k)) (fun k d => [(6, u8 d), (7, i64 k), (16, i64 k)]) (fun k d => []) (fun k d => bs.length - k) [(0, _), (1, _), (15, _)] _ 0 0 ⟨by omega, by simp⟩ (Sub.cons rfl <| Sub.cons rfl <| Sub.cons rfl <| Sub.cons rfl <| Sub.cons rfl <| Sub.cons rfl <| Sub.nil _) .rfl (fun k d hk ih => ?_)
    refine G.seq <| G.reg <| W.q (lt rfl rfl) rfl <| W.nil <| G.seq <| G.cdd rfl (fun h2 => ?_) (fun h2 => ?_)
    · -- h2 True
      have h2' : k < bs.length := by omega
      have h2'' : k < cs.length := by omega
      obtain ⟨b, o, rfl, hc⟩ := hl.at k h2'
      obtain ⟨b', o', rfl, hc'⟩ := hl2.at k h2''
      generalize hx : bs[k] = x at hc
      generalize hy : cs[k] = y at hc'
      refine G.skip <| G.seq <| G.blk <| G.seq <| G.reg <| W.q (mv rfl) rfl <| W.q (sa rfl) rfl <| W.nil <| G.seq <| G.regq Try.mixed (by kernel_rfl) <| W.q (mv rfl) rfl <| W.q (mv rfl) rfl <| W.q (mv rfl) rfl <| W.q (ia Try.esl22 rfl rfl (by omega) (by omega)) rfl <| W.q (ld Try.sc5 rfl (Cell.old rfl (by simpa using hc))) rfl <| W.q (mv rfl) rfl <| W.q (mv rfl) rfl <| W.q (ia Try.esl22 rfl rfl (by omega) (by omega)) rfl <| W.q (ld Try.sc5 rfl (Cell.old rfl (by simpa using hc'))) rfl <| W.q (xor_u8 rfl rfl) rfl <| W.q (or_u8 rfl rfl) rfl <| W.q (sa rfl) rfl <| W.nilq <| G.reg <| W.q (mv rfl) rfl <| W.q (ad rfl rfl (by omega)) rfl <| W.q (sa rfl) rfl <| W.nil <| G.inb <| G.reg <| W.q (ad rfl rfl (by omega)) rfl <| W.q (mv rfl) rfl <| W.nil <| (ih (k + 1) (d ||| (x ^^^ y)) ⟨by omega, by rw [List.take_succ_eq_append_getElem h2', List.take_succ_eq_append_getElem h2'', UInt8.or_eq_zero_iff, UInt8.xor_eq_zero_iff, hk.2, hx, hy]; exact ⟨fun ⟨p, q⟩ => by rw [p, q], fun h => by have := List.append_inj h (by simp; omega); simpa using this⟩⟩ (by omega)).weak (Sub.cons rfl <| Sub.cons rfl <| Sub.cons rfl <| Sub.cons rfl <| Sub.cons rfl <| Sub.cons rfl <| Sub.nil _) .rfl
    · -- h2 False
      refine G.exit rfl <| G.seq <| G.reg <| W.q (mv rfl) rfl <| W.q (eq rfl rfl) rfl <| W.q (mv rfl) rfl <| W.q (sa rfl) rfl <| W.q (sa rfl) rfl <| W.nil <| ret2 hX Try.results107 rfl rfl fun w hm => done rfl ?_ hm
      have h3 := hk.2
      rw [List.take_of_length_le (by omega), List.take_of_length_le (by omega)] at h3
      rw [if_pos h1', show k = bs.length by omega]
      congr 3
      by_cases hd : d = 0
      · subst hd; simp [h3.1 rfl]
      · have : ¬ bs = cs := fun h => hd (h3.2 h)
        rw [decide_eq_false this, decide_eq_false]
        intro h; exact hd (UInt8.toNat_inj.1 (by simpa using h))


set_option maxRecDepth 100000 in
theorem codec_Same (a : Option Addr) (len cap : Nat) (bs : List UInt8) (w : World) (hlen : len = bs.length) (hl : RdL w a (B bs)) (hb : bs.length ≤ 140737488351232) (a2 : Option Addr) (len2 cap2 : Nat) (cs : List UInt8) (hlen2 : len2 = cs.length) (hl2 : RdL w a2 (B cs)) :
    Ret Try.prog 85 [.slice a len cap, .slice a2 len2 cap2] w (fun v _ => v = .bool (decide (bs = cs))) := by
  refine enter [] (Mem.nil _) Try.func85 rfl Try.ntmps85 rfl (fun X hX => ?_)
  have hw := hX.w0; subst hw
  refine G.seq <| G.reg <| W.q (sa rfl) rfl <| W.nil <| G.seq <| G.reg <| W.q (mv rfl) rfl <| W.q (mv rfl) rfl <| W.fv Try.ca107 rfl (fun w hm => codec_Looks a len cap bs w hlen (hm.rd rfl hl) hb a2 len2 cap2 cs hlen2 (hm.rd rfl hl2)) rfl <| W.q (mv rfl) rfl <| W.q (ex rfl rfl) rfl <| W.q (ex rfl rfl) rfl <| W.q (sa rfl) rfl <| W.q (sa rfl) rfl <| W.nil <| G.seq <| G.reg <| W.q (mv rfl) rfl <| W.q (sa rfl) rfl <| W.nil <| ret1 hX Try.results85 rfl fun w hm => done rfl rfl hm


set_option maxRecDepth 100000 in
theorem frame_blank (a : Option Addr) (len cap : Nat) (bs : List UInt8) (w : World) (hlen : len = bs.length) (hl : RdL w a (B bs)) (hb : bs.length ≤ 140737488351232) :
    Ret Try.prog 63 [.slice a len cap] w (fun v _ => v = .bool (decide (bs = List.replicate bs.length 0))) := by
  subst hlen
  refine enter [] (Mem.nil _) Try.func63 rfl Try.ntmps63 rfl (fun X hX => ?_)
  have hw := hX.w0; subst hw
  refine G.seq <| G.reg <| W.q (sa rfl) rfl <| W.nil <| G.seq <| G.reg <| W.q (mv rfl) rfl <| W.q (mv rfl) rfl <| W.q (ln Try.esl22 rfl) rfl <| W.mkB Try.underlying22 Try.sz5 Try.zrl5 Try.by5 rfl rfl (by omega) (by omega) rfl fun b1 => W.fv Try.ca85 rfl (fun w hm => codec_Same a _ cap bs w rfl (hm.rd rfl hl) hb _ _ _ (List.replicate bs.length 0) (by simp) (hm.rowRd .hd)) rfl <| W.q (sa rfl) rfl <| W.nil <| ret1 hX Try.results63 rfl fun w hm => done (H := []) rfl rfl (Dr.ent (Dr.new rfl) w hm)

/-- The number of bytes, the greatest first. -/
def beN (l : List UInt8) : Nat := l.foldl (fun n x => n * 256 + x.toNat) 0
theorem beN_snoc (l : List UInt8) (x : UInt8) : beN (l ++ [x]) = beN l * 256 + x.toNat := by simp [beN]
theorem beN_fold (l : List UInt8) : ∀ a, l.foldl (fun n x => n * 256 + x.toNat) a = a * 256 ^ l.length + beN l := by
  induction l with
  | nil => simp [beN]
  | cons y l ih =>
    intro a
    have h2 := ih (0 * 256 + y.toNat)
    simp only [beN, List.foldl_cons, List.length_cons] at h2 ⊢
    rw [ih, h2]
    simp only [beN, Nat.pow_succ]
    simp only [Nat.zero_mul, Nat.zero_add, Nat.add_mul, Nat.add_assoc, Nat.mul_assoc, Nat.mul_comm (256 ^ l.length) 256]
theorem beN_cons (l : List UInt8) (x : UInt8) : beN (x :: l) = x.toNat * 256 ^ l.length + beN l := by
  have := beN_fold l (0 * 256 + x.toNat)
  simpa [beN] using this
theorem beN_lt (l : List UInt8) : beN l < 256 ^ l.length := by
  induction l with
  | nil => simp [beN]
  | cons y l ih =>
    rw [beN_cons, List.length_cons, Nat.pow_succ]
    have h1 : y.toNat * 256 ^ l.length ≤ 255 * 256 ^ l.length := Nat.mul_le_mul_right _ (by have := y.toNat_lt; omega)
    omega
theorem shl_or (N : Nat) (x : UInt8) (h : N < 72057594037927936) : shlU64 (UInt64.ofNat N) 8 ||| x.toUInt64 = UInt64.ofNat (N * 256 + x.toNat) := by
  apply UInt64.toNat_inj.1
  have hx := x.toNat_lt
  have e1 : (shlU64 (UInt64.ofNat N) 8).toNat = N * 256 := by
    unfold shlU64
    have h8 : (2 : Nat) ^ min (8 : Int).toNat 64 = 256 := by decide
    rw [h8, UInt64.toNat_ofNat_of_lt' (show N < 18446744073709551616 by omega), Nat.mod_eq_of_lt (by omega), UInt64.toNat_ofNat_of_lt' (show N * 256 < 18446744073709551616 by omega)]
  rw [UInt64.toNat_or, e1, UInt8.toNat_toUInt64, UInt64.toNat_ofNat_of_lt' (show N * 256 + x.toNat < 18446744073709551616 by omega)]
  have h2 := Nat.shiftLeft_add_eq_or_of_lt (b := x.toNat) (i := 8) (by simpa using hx) N
  rw [Nat.shiftLeft_eq] at h2
  simpa using h2.symm
/-- The number of bytes, the least first. -/
def leN (l : List UInt8) : Nat := beN l.reverse
theorem leN_snoc (l : List UInt8) (x : UInt8) : leN (l ++ [x]) = leN l + 256 ^ l.length * x.toNat := by
  rw [leN, List.reverse_append, List.reverse_singleton, List.singleton_append, beN_cons, List.length_reverse, Nat.mul_comm, Nat.add_comm]; rfl
theorem of_u8 (x : UInt8) : UInt64.ofNat x.toNat = x.toUInt64 := by
  apply UInt64.toNat_inj.1
  have := x.toNat_lt
  rw [UInt8.toNat_toUInt64, UInt64.toNat_ofNat_of_lt' (show x.toNat < 18446744073709551616 by omega)]
def ordB (order : Int) (l : List UInt8) : List UInt8 := if order = 1 then l.reverse else l
def getR (order : Int) (bs : List UInt8) (at_ width : Int) : UInt64 × Int :=
  if shapeR order width = false ∨ at_ < 0 then (0, 1) else if (bs.length : Int) < at_ ∨ (bs.length : Int) - at_ < width then (0, 2) else (UInt64.ofNat (beN (ordB order ((bs.drop at_.toNat).take width.toNat))), 0)
theorem ordB_len (order : Int) (l : List UInt8) : (ordB order l).length = l.length := by unfold ordB; split <;> simp
theorem ordB_get (order : Int) (bs : List UInt8) (at_ m k : Nat) (h : at_ + m ≤ bs.length) (hk : k < m) : (ordB order ((bs.drop at_).take m))[k]? = if order = 1 then bs[at_ + m - 1 - k]? else bs[at_ + k]? := by
  unfold ordB
  split
  · rw [List.getElem?_reverse (by simp; omega), List.getElem?_take, if_pos (by simp; omega), List.getElem?_drop]; congr 1; simp; omega
  · rw [List.getElem?_take, if_pos hk, List.getElem?_drop]
theorem leN_ord (order : Int) (l : List UInt8) (h : order = 1 ∨ order = 2) : leN (ordB (3 - order) l) = beN (ordB order l) := by
  rcases h with rfl | rfl
  · rw [ordB, if_neg (by decide), ordB, if_pos rfl, leN]
  · rw [ordB, if_pos (by decide), ordB, if_neg (by decide), leN, List.reverse_reverse]
theorem take_succ' {α : Type} {l : List α} {k : Nat} {x : α} (h : l[k]? = some x) : l.take (k + 1) = l.take k ++ [x] := by
  obtain ⟨hk, he⟩ := List.getElem?_eq_some_iff.1 h
  rw [List.take_succ_eq_append_getElem hk, he]


set_option maxRecDepth 100000 in
theorem codec_Get (order : Int) (a : Option Addr) (len cap : Nat) (bs : List UInt8) (w : World) (hlen : len = bs.length) (hl : RdL w a (B bs)) (hb : bs.length ≤ 140737488351232) (at_ width : Int) :
    Ret Try.prog 40 [i64 order, .slice a len cap, i64 at_, i64 width] w (fun v _ => v = .tuple #[u64 (getR order bs at_ width).1, i64 (getR order bs at_ width).2]) := by
  subst hlen
  refine enter [] (Mem.nil _) Try.func40 rfl Try.ntmps40 rfl (fun X hX => ?_)
  have hw := hX.w0; subst hw
  refine G.seq <| G.reg <| W.q (sa rfl) rfl <| W.q (sa rfl) rfl <| W.nil <| G.seq <| G.seq <| G.reg <| W.q (mv rfl) rfl <| W.q (mv rfl) rfl <| W.fv Try.ca72 rfl (fun w hm => codec_shape order width w) rfl <| W.q (sa rfl) rfl <| W.nil <| G.seq <| G.join [(22, .bool (decide (shapeR order width = false ∨ at_ < 0)))] [(0, _), (1, _), (2, _), (3, _)] (Sub.cons rfl <| Sub.cons rfl <| Sub.cons rfl <| Sub.cons rfl <| Sub.nil _) (fun key2 => ?_) ?_
  · -- region 2
    refine G.reg <| W.q (mv rfl) rfl <| W.q (ne rfl rfl) rfl <| W.q (mv rfl) rfl <| W.sp (t := _) 19 rfl (fun g1 => ?_) (fun g1 => ?_)
    · -- True
      refine W.sk rfl rfl g1 rfl <| W.sk rfl rfl g1 rfl <| W.q (pkt rfl g1 rfl) rfl <| W.nil <| key2.weak (Sub.co rfl ?_ <| Sub.cons rfl <| Sub.cons rfl <| Sub.cons rfl <| Sub.cons rfl <| Sub.nil _) .rfl
      all_goals (show Value.bool _ = Value.bool _; congr 1; grind)
    · -- False
      refine W.qg rfl rfl g1 (mv rfl) rfl <| W.qg rfl rfl g1 (lt rfl rfl) rfl <| W.q (pkf rfl g1 rfl) rfl <| W.nil <| key2.weak (Sub.co rfl ?_ <| Sub.cons rfl <| Sub.cons rfl <| Sub.cons rfl <| Sub.cons rfl <| Sub.nil _) .rfl
      all_goals (show Value.bool _ = Value.bool _; congr 1; grind)
  refine G.cdd rfl (fun h2 => ?_) (fun h2 => ?_)
  · -- h2 True
    refine G.seq <| G.reg <| W.q (sa rfl) rfl <| W.q (sa rfl) rfl <| W.nil <| ret2 hX Try.results40 rfl rfl fun w hm => done rfl ?_ hm
    rw [getR, if_pos h2]; rfl
  · -- h2 False
    have hs : shapeR order width = true := by cases h : shapeR order width <;> simp_all
    have hs2 := hs
    rw [shapeR, decide_eq_true_eq] at hs2
    obtain ⟨hs1, hs2, hs3⟩ := hs2
    have hat0 : 0 ≤ at_ := by omega
    refine G.skip <| G.seq <| G.seq <| G.join [(34, .bool (decide ((bs.length : Int) < at_ ∨ (bs.length : Int) - at_ < width)))] [(0, _), (1, _), (2, _), (3, _)] (Sub.cons rfl <| Sub.cons rfl <| Sub.cons rfl <| Sub.cons rfl <| Sub.nil _) (fun key4 => ?_) ?_
    · -- region 4
      refine G.reg <| W.q (mv rfl) rfl <| W.q (mv rfl) rfl <| W.q (ln Try.esl22 rfl) rfl <| W.q (gt rfl rfl) rfl <| W.q (mv rfl) rfl <| W.sp (t := _) 27 rfl (fun g3 => ?_) (fun g3 => ?_)
      · -- True
        refine W.sk rfl rfl g3 rfl <| W.sk rfl rfl g3 rfl <| W.sk rfl rfl g3 rfl <| W.sk rfl rfl g3 rfl <| W.sk rfl rfl g3 rfl <| W.sk rfl rfl g3 rfl <| W.q (pkt rfl g3 rfl) rfl <| W.nil <| key4.weak (Sub.co rfl ?_ <| Sub.cons rfl <| Sub.cons rfl <| Sub.cons rfl <| Sub.cons rfl <| Sub.nil _) .rfl
        all_goals (show Value.bool _ = Value.bool _; congr 1; grind)
      · -- False
        refine W.qg rfl rfl g3 (mv rfl) rfl <| W.qg rfl rfl g3 (mv rfl) rfl <| W.qg rfl rfl g3 (ln Try.esl22 rfl) rfl <| W.qg rfl rfl g3 (mv rfl) rfl <| W.qg rfl rfl g3 (sb rfl rfl (by simp at g3; omega)) rfl <| W.qg rfl rfl g3 (gt rfl rfl) rfl <| W.q (pkf rfl g3 rfl) rfl <| W.nil <| key4.weak (Sub.co rfl ?_ <| Sub.cons rfl <| Sub.cons rfl <| Sub.cons rfl <| Sub.cons rfl <| Sub.nil _) .rfl
        all_goals (show Value.bool _ = Value.bool _; congr 1; grind)
    refine G.cdd rfl (fun h4 => ?_) (fun h4 => ?_)
    · -- h4 True
      refine G.seq <| G.reg <| W.q (sa rfl) rfl <| W.q (sa rfl) rfl <| W.nil <| ret2 hX Try.results40 rfl rfl fun w hm => done rfl ?_ hm
      rw [getR, if_neg h2, if_pos h4]; rfl
    · -- h4 False
      obtain ⟨p, rfl⟩ : ∃ p : Nat, at_ = p := ⟨at_.toNat, by omega⟩
      obtain ⟨m, rfl⟩ : ∃ m : Nat, width = m := ⟨width.toNat, by omega⟩
      refine G.skip <| G.seq <| G.reg <| W.q (sa rfl) rfl <| W.nil <| G.seq <| G.seq <| G.reg <| W.q (mv rfl) rfl <| W.q (mv rfl) rfl <| W.nil <| G.blk <| G.loop1 (α := Nat) (fun k => k ≤ m) (fun k => [(11, u64 (UInt64.ofNat (beN ((ordB order ((bs.drop p).take m)).take k)))), (36, i64 k)]) (fun k => []) (fun k => m - k) [(0, _), (1, _), (2, _), (3, _), (35, _)] _ 0 (by omega) (Sub.cons rfl <| Sub.cons rfl <| Sub.cons rfl <| Sub.cons rfl <| Sub.cons rfl <| Sub.cons rfl <| Sub.cons rfl <| Sub.nil _) .rfl (fun k hk ih => ?_)
      refine G.seq <| G.reg <| W.q (lt rfl rfl) rfl <| W.nil <| G.seq <| G.cdd rfl (fun h5 => ?_) (fun h5 => ?_)
      · -- h5 True
        have hk2 : k < m := by omega
        obtain ⟨x, hx⟩ : ∃ x, (ordB order ((bs.drop p).take m))[k]? = some x := ⟨_, List.getElem?_eq_getElem (by rw [ordB_len]; simp; omega)⟩
        have hg := ordB_get order bs p m k (by omega) hk2
        have hlt : beN ((ordB order ((bs.drop p).take m)).take k) < 72057594037927936 := by
          have h1 := beN_lt ((ordB order ((bs.drop p).take m)).take k)
          have h2 : ((ordB order ((bs.drop p).take m)).take k).length = k := by rw [List.length_take, ordB_len]; simp; omega
          rw [h2] at h1
          exact Nat.lt_of_lt_of_le h1 (show 256 ^ k ≤ 256 ^ 7 from Nat.pow_le_pow_right (by omega) (by omega))
        refine G.skip <| G.seq <| G.blk <| G.seq <| G.reg <| W.q (mv rfl) rfl <| W.q (sa rfl) rfl <| W.nil <| G.seq <| G.reg <| W.q (mv rfl) rfl <| W.q (mv rfl) rfl <| W.q (ad rfl rfl (by omega)) rfl <| W.q (sa rfl) rfl <| W.nil <| G.seq <| G.seq <| G.reg <| W.q (mv rfl) rfl <| W.q (eq rfl rfl) rfl <| W.nil <| G.cdd rfl (fun h6 => ?_) (fun h6 => ?_)
        · -- h6 True
          rw [if_pos (by omega), hx] at hg
          obtain ⟨zb, zo, rfl, hc⟩ := hl (p + m - 1 - k) (u8 x) (B_get hg.symm)
          have e1 : ((p : Int) + m - 1 - k).toNat = p + m - 1 - k := by omega
          refine G.reg <| W.q (mv rfl) rfl <| W.q (mv rfl) rfl <| W.q (ad rfl rfl (by omega)) rfl <| W.q (sb rfl rfl (by omega)) rfl <| W.q (mv rfl) rfl <| W.q (sb rfl rfl (by omega)) rfl <| W.q (sa rfl) rfl <| W.nil <| G.reg <| W.q (mv rfl) rfl <| W.q (shl_u64 rfl rfl (by omega)) rfl <| W.q (mv rfl) rfl <| W.q (mv rfl) rfl <| W.q (ia Try.esl22 rfl rfl (by omega) (by omega)) rfl <| W.q (ld Try.sc5 rfl (Cell.old rfl (by simpa [e1] using hc))) rfl <| W.q (cv_u8_u64 Try.underlying5 Try.underlying29 rfl) rfl <| W.q (or_u64 rfl rfl) rfl <| W.q (sa rfl) rfl <| W.nil <| G.inb <| G.reg <| W.q (ad rfl rfl (by omega)) rfl <| W.q (mv rfl) rfl <| W.nil <| (ih (k + 1) (by omega) (by omega)).weak (Sub.co rfl ?_ <| Sub.cons rfl <| Sub.cons rfl <| Sub.cons rfl <| Sub.cons rfl <| Sub.cons rfl <| Sub.cons rfl <| Sub.nil _) .rfl
          all_goals clear ih
          · show u64 _ = u64 _; rw [take_succ' hx, beN_snoc, shl_or _ _ hlt]
        · -- h6 False
          rw [if_neg (by omega), hx] at hg
          obtain ⟨zb, zo, rfl, hc⟩ := hl (p + k) (u8 x) (B_get hg.symm)
          have e1 : ((p : Int) + k).toNat = p + k := by omega
          refine G.skip <| G.reg <| W.q (mv rfl) rfl <| W.q (shl_u64 rfl rfl (by omega)) rfl <| W.q (mv rfl) rfl <| W.q (mv rfl) rfl <| W.q (ia Try.esl22 rfl rfl (by omega) (by omega)) rfl <| W.q (ld Try.sc5 rfl (Cell.old rfl (by simpa [e1] using hc))) rfl <| W.q (cv_u8_u64 Try.underlying5 Try.underlying29 rfl) rfl <| W.q (or_u64 rfl rfl) rfl <| W.q (sa rfl) rfl <| W.nil <| G.inb <| G.reg <| W.q (ad rfl rfl (by omega)) rfl <| W.q (mv rfl) rfl <| W.nil <| (ih (k + 1) (by omega) (by omega)).weak (Sub.co rfl ?_ <| Sub.cons rfl <| Sub.cons rfl <| Sub.cons rfl <| Sub.cons rfl <| Sub.cons rfl <| Sub.cons rfl <| Sub.nil _) .rfl
          all_goals clear ih
          · show u64 _ = u64 _; rw [take_succ' hx, beN_snoc, shl_or _ _ hlt]
      · -- h5 False
        refine G.exit rfl <| G.seq <| G.reg <| W.q (mv rfl) rfl <| W.q (sa rfl) rfl <| W.q (sa rfl) rfl <| W.nil <| ret2 hX Try.results40 rfl rfl fun w hm => done rfl ?_ hm
        rw [getR, if_neg h2, if_neg h4, List.take_of_length_le (by rw [ordB_len]; simp; omega)]; rfl


set_option maxRecDepth 100000 in
theorem ref01_Get (order : Int) (a : Option Addr) (len cap : Nat) (bs : List UInt8) (w : World) (hlen : len = bs.length) (hl : RdL w a (B bs)) (hb : bs.length ≤ 140737488351232) (at_ width : Int) :
    Ret Try.prog 165 [i64 order, .slice a len cap, i64 at_, i64 width] w (fun v _ => v = .tuple #[u64 (getR order bs at_ width).1, i64 (getR order bs at_ width).2]) := by
  subst hlen
  refine enter [] (Mem.nil _) Try.func165 rfl Try.ntmps165 rfl (fun X hX => ?_)
  have hw := hX.w0; subst hw
  refine G.seq <| G.reg <| W.q (sa rfl) rfl <| W.q (sa rfl) rfl <| W.nil <| G.seq <| G.seq <| G.join [(21, .bool (decide (shapeR order width = false ∨ at_ < 0)))] [(0, _), (1, _), (2, _), (3, _)] (Sub.cons rfl <| Sub.cons rfl <| Sub.cons rfl <| Sub.cons rfl <| Sub.nil _) (fun key1 => ?_) ?_
  · -- region 1
    refine G.reg <| W.q (mv rfl) rfl <| W.q (mv rfl) rfl <| W.fv Try.ca167 rfl (fun w hm => ref01_shape order width w) rfl <| W.q (nt rfl) rfl <| W.q (mv rfl) rfl <| W.sp (t := _) 18 rfl (fun g1 => ?_) (fun g1 => ?_)
    · -- True
      refine W.sk rfl rfl g1 rfl <| W.sk rfl rfl g1 rfl <| W.q (pkt rfl g1 rfl) rfl <| W.nil <| key1.weak (Sub.co rfl ?_ <| Sub.cons rfl <| Sub.cons rfl <| Sub.cons rfl <| Sub.cons rfl <| Sub.nil _) .rfl
      all_goals (show Value.bool _ = Value.bool _; congr 1; grind)
    · -- False
      refine W.qg rfl rfl g1 (mv rfl) rfl <| W.qg rfl rfl g1 (lt rfl rfl) rfl <| W.q (pkf rfl g1 rfl) rfl <| W.nil <| key1.weak (Sub.co rfl ?_ <| Sub.cons rfl <| Sub.cons rfl <| Sub.cons rfl <| Sub.cons rfl <| Sub.nil _) .rfl
      all_goals (show Value.bool _ = Value.bool _; congr 1; grind)
  refine G.cdd rfl (fun h2 => ?_) (fun h2 => ?_)
  · -- h2 True
    refine G.seq <| G.reg <| W.q (sa rfl) rfl <| W.q (sa rfl) rfl <| W.nil <| ret2 hX Try.results165 rfl rfl fun w hm => done rfl ?_ hm
    rw [getR, if_pos h2]; rfl
  · -- h2 False
    have hs : shapeR order width = true := by cases h : shapeR order width <;> simp_all
    have hs2 := hs
    rw [shapeR, decide_eq_true_eq] at hs2
    obtain ⟨hs1, hs2, hs3⟩ := hs2
    have hat0 : 0 ≤ at_ := by omega
    refine G.skip <| G.seq <| G.seq <| G.join [(33, .bool (decide ((bs.length : Int) < at_ ∨ (bs.length : Int) - at_ < width)))] [(0, _), (1, _), (2, _), (3, _)] (Sub.cons rfl <| Sub.cons rfl <| Sub.cons rfl <| Sub.cons rfl <| Sub.nil _) (fun key3 => ?_) ?_
    · -- region 3
      refine G.reg <| W.q (mv rfl) rfl <| W.q (mv rfl) rfl <| W.q (ln Try.esl22 rfl) rfl <| W.q (gt rfl rfl) rfl <| W.q (mv rfl) rfl <| W.sp (t := _) 26 rfl (fun g3 => ?_) (fun g3 => ?_)
      · -- True
        refine W.sk rfl rfl g3 rfl <| W.sk rfl rfl g3 rfl <| W.sk rfl rfl g3 rfl <| W.sk rfl rfl g3 rfl <| W.sk rfl rfl g3 rfl <| W.sk rfl rfl g3 rfl <| W.q (pkt rfl g3 rfl) rfl <| W.nil <| key3.weak (Sub.co rfl ?_ <| Sub.cons rfl <| Sub.cons rfl <| Sub.cons rfl <| Sub.cons rfl <| Sub.nil _) .rfl
        all_goals (clear key3; show Value.bool _ = Value.bool _; congr 1; grind)
      · -- False
        refine W.qg rfl rfl g3 (mv rfl) rfl <| W.qg rfl rfl g3 (mv rfl) rfl <| W.qg rfl rfl g3 (ln Try.esl22 rfl) rfl <| W.qg rfl rfl g3 (mv rfl) rfl <| W.qg rfl rfl g3 (sb rfl rfl (by simp at g3; omega)) rfl <| W.qg rfl rfl g3 (gt rfl rfl) rfl <| W.q (pkf rfl g3 rfl) rfl <| W.nil <| key3.weak (Sub.co rfl ?_ <| Sub.cons rfl <| Sub.cons rfl <| Sub.cons rfl <| Sub.cons rfl <| Sub.nil _) .rfl
        all_goals (clear key3; show Value.bool _ = Value.bool _; congr 1; grind)
    refine G.cdd rfl (fun h4 => ?_) (fun h4 => ?_)
    · -- h4 True
      refine G.seq <| G.reg <| W.q (sa rfl) rfl <| W.q (sa rfl) rfl <| W.nil <| ret2 hX Try.results165 rfl rfl fun w hm => done rfl ?_ hm
      rw [getR, if_neg h2, if_pos h4]; rfl
    · -- h4 False
      obtain ⟨p, rfl⟩ : ∃ p : Nat, at_ = p := ⟨at_.toNat, by omega⟩
      obtain ⟨m, rfl⟩ : ∃ m : Nat, width = m := ⟨width.toNat, by omega⟩
      refine G.skip <| G.seq <| G.reg <| W.q (sa rfl) rfl <| W.nil <| G.seq <| G.reg <| W.q (sa rfl) rfl <| W.nil <| G.seq <| G.seq <| G.reg <| W.q (sa rfl) rfl <| W.nil <| G.blk <| G.loop1 (α := Nat) (fun k => k ≤ m) (fun k => [(10, u64 (UInt64.ofNat (leN ((ordB (3 - order) ((bs.drop p).take m)).take k)))), (11, u64 (UInt64.ofNat (256 ^ k))), (12, i64 k)]) (fun k => []) (fun k => m - k) [(0, _), (1, _), (2, _), (3, _)] _ 0 (by omega) (Sub.cons rfl <| Sub.cons rfl <| Sub.cons rfl <| Sub.cons rfl <| Sub.cons rfl <| Sub.cons rfl <| Sub.cons rfl <| Sub.nil _) .rfl (fun k hk ih => ?_)
      refine G.seq <| G.seq <| G.reg <| W.q (mv rfl) rfl <| W.q (mv rfl) rfl <| W.q (lt rfl rfl) rfl <| W.nil <| G.cdd rfl (fun h5 => ?_) (fun h5 => ?_)
      · -- h5 True
        have hk2 : k < m := by omega
        obtain ⟨x, hx⟩ : ∃ x, (ordB (3 - order) ((bs.drop p).take m))[k]? = some x := ⟨_, List.getElem?_eq_getElem (by rw [ordB_len]; simp; omega)⟩
        have hg := ordB_get (3 - order) bs p m k (by omega) hk2
        have hlt : beN ((ordB order ((bs.drop p).take m)).take k) < 72057594037927936 := by
          have h1 := beN_lt ((ordB order ((bs.drop p).take m)).take k)
          have h2 : ((ordB order ((bs.drop p).take m)).take k).length = k := by rw [List.length_take, ordB_len]; simp; omega
          rw [h2] at h1
          exact Nat.lt_of_lt_of_le h1 (show 256 ^ k ≤ 256 ^ 7 from Nat.pow_le_pow_right (by omega) (by omega))
        refine G.skip <| G.seq <| G.blk <| G.seq <| G.reg <| W.q (mv rfl) rfl <| W.q (mv rfl) rfl <| W.q (ad rfl rfl (by omega)) rfl <| W.q (sa rfl) rfl <| W.nil <| G.seq <| G.seq <| G.reg <| W.q (mv rfl) rfl <| W.q (eq rfl rfl) rfl <| W.nil <| G.cdd rfl (fun h6 => ?_) (fun h6 => ?_)
        · -- h6 True
          rw [if_pos (by omega), hx] at hg
          obtain ⟨zb, zo, rfl, hc⟩ := hl (p + m - 1 - k) (u8 x) (B_get hg.symm)
          have e1 : ((p : Int) + m - 1 - k).toNat = p + m - 1 - k := by omega
          refine G.reg <| W.q (mv rfl) rfl <| W.q (mv rfl) rfl <| W.q (ad rfl rfl (by omega)) rfl <| W.q (sb rfl rfl (by omega)) rfl <| W.q (mv rfl) rfl <| W.q (sb rfl rfl (by omega)) rfl <| W.q (sa rfl) rfl <| W.nil <| G.seq <| G.reg <| W.q (mv rfl) rfl <| W.q (mv rfl) rfl <| W.q (mv rfl) rfl <| W.q (mv rfl) rfl <| W.q (ia Try.esl22 rfl rfl (by omega) (by omega)) rfl <| W.q (ld Try.sc5 rfl (Cell.old rfl (by simpa [e1] using hc))) rfl <| W.q (cv_u8_u64 Try.underlying5 Try.underlying29 rfl) rfl <| W.q (mul_u64 rfl rfl) rfl <| W.q (add_u64 rfl rfl) rfl <| W.q (sa rfl) rfl <| W.nil <| G.reg <| W.q (mv rfl) rfl <| W.q (mul_u64 (b := 256) rfl rfl) rfl <| W.q (sa rfl) rfl <| W.nil <| G.inb <| G.reg <| W.q (mv rfl) rfl <| W.q (ad rfl rfl (by omega)) rfl <| W.q (sa rfl) rfl <| W.nil <| (ih (k + 1) (by omega) (by omega)).weak (Sub.co rfl ?_ <| Sub.co rfl ?_ <| Sub.cons rfl <| Sub.cons rfl <| Sub.cons rfl <| Sub.cons rfl <| Sub.cons rfl <| Sub.nil _) .rfl
          all_goals clear ih
          · show u64 _ = u64 _; rw [take_succ' hx, leN_snoc, List.length_take, Nat.min_eq_left (by rw [ordB_len]; simp; omega), UInt64.ofNat_add, UInt64.ofNat_mul, of_u8]
          · show u64 _ = u64 _; rw [Nat.pow_succ, UInt64.ofNat_mul]; rfl
        · -- h6 False
          rw [if_neg (by omega), hx] at hg
          obtain ⟨zb, zo, rfl, hc⟩ := hl (p + k) (u8 x) (B_get hg.symm)
          have e1 : ((p : Int) + k).toNat = p + k := by omega
          refine G.skip <| G.seq <| G.reg <| W.q (mv rfl) rfl <| W.q (mv rfl) rfl <| W.q (mv rfl) rfl <| W.q (mv rfl) rfl <| W.q (ia Try.esl22 rfl rfl (by omega) (by omega)) rfl <| W.q (ld Try.sc5 rfl (Cell.old rfl (by simpa [e1] using hc))) rfl <| W.q (cv_u8_u64 Try.underlying5 Try.underlying29 rfl) rfl <| W.q (mul_u64 rfl rfl) rfl <| W.q (add_u64 rfl rfl) rfl <| W.q (sa rfl) rfl <| W.nil <| G.reg <| W.q (mv rfl) rfl <| W.q (mul_u64 (b := 256) rfl rfl) rfl <| W.q (sa rfl) rfl <| W.nil <| G.inb <| G.reg <| W.q (mv rfl) rfl <| W.q (ad rfl rfl (by omega)) rfl <| W.q (sa rfl) rfl <| W.nil <| (ih (k + 1) (by omega) (by omega)).weak (Sub.co rfl ?_ <| Sub.co rfl ?_ <| Sub.cons rfl <| Sub.cons rfl <| Sub.cons rfl <| Sub.cons rfl <| Sub.cons rfl <| Sub.nil _) .rfl
          all_goals clear ih
          · show u64 _ = u64 _; rw [take_succ' hx, leN_snoc, List.length_take, Nat.min_eq_left (by rw [ordB_len]; simp; omega), UInt64.ofNat_add, UInt64.ofNat_mul, of_u8]
          · show u64 _ = u64 _; rw [Nat.pow_succ, UInt64.ofNat_mul]; rfl
      · -- h5 False
        refine G.exit rfl <| G.seq <| G.reg <| W.q (mv rfl) rfl <| W.q (sa rfl) rfl <| W.q (sa rfl) rfl <| W.nil <| ret2 hX Try.results165 rfl rfl fun w hm => done rfl ?_ hm
        rw [getR, if_neg h2, if_neg h4, List.take_of_length_le (by rw [ordB_len]; simp; omega), leN_ord order _ hs1]; rfl
end Go.Proofs.Ytjalojbihpdghaa
