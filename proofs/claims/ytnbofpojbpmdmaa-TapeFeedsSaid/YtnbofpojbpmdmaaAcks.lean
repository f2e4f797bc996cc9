/- Acknowledgements: what each function of layer 8 and of its reference answers. -/
import Derived.Test.YtnbofpojbpmdmaaTab
namespace Go.Proofs.Ytnbofpojbpmdmaa
open Go Go.Eng
set_option linter.unusedVariables false

def ackC (x : Int × Int) : List Value := [.int .i64 x.1, .int .u64 x.2]
theorem ackC_len (x : Int × Int) : (ackC x).length = 2 := rfl
def firstStep (id : Int) (s : Int × Bool) (x : Int × Int) : Int × Bool := if x.2 = id ∧ (s.2 = false ∨ x.1 < s.1) then (x.1, true) else s
def firstR (xs : List (Int × Int)) (id : Int) : Int × Bool := xs.foldl (firstStep id) (0, false)
theorem firstR_snoc (xs : List (Int × Int)) (id : Int) (k : Nat) (h : k < xs.length) : firstR (xs.take (k + 1)) id = firstStep id (firstR (xs.take k) id) xs[k] := by
  unfold firstR; rw [List.take_succ_eq_append_getElem h, List.foldl_append]; rfl
def acksR (xs : List (Int × Int)) : Int := if ∃ x ∈ xs, x.1 < 0 then 1 else if 256 < xs.length then 2 else 0


set_option maxRecDepth 100000 in
theorem ref08_First (a : Option Addr) (cap : Nat) (xs : List (Int × Int)) (w : World) (hl : RdL w a (xs.flatMap ackC)) (hb : xs.length * 16 ≤ 140737488351232) (id : Int) :
    Ret Try.prog 17 [.slice a xs.length cap, .int .u64 id] w (fun v _ => v = .tuple #[i64 (firstR xs id).1, .bool (firstR xs id).2]) := by
  refine enter [] (Mem.nil _) Try.func17 rfl Try.ntmps17 rfl (fun X hX => ?_)
  have hw := hX.w0; subst hw
  refine G.seq <| G.reg <| W.q (sa rfl) rfl <| W.q (sa rfl) rfl <| W.nil <| G.seq <| G.reg <| W.q (sa rfl) rfl <| W.nil <| G.seq <| G.reg <| W.q (sa rfl) rfl <| W.nil <| G.seq <| G.seq <| G.reg <| W.q (sa rfl) rfl <| W.nil <| G.blk <| G.loop1 (α := Nat) (fun k => k ≤ xs.length) (fun k => [(6, i64 (firstR (xs.take k) id).1), (7, .bool (firstR (xs.take k) id).2), (8, i64 k)]) (fun k => []) (fun k => xs.length - k) [(0, _), (1, _)] _ 0 (by omega) (Sub.cons rfl <| Sub.cons rfl <| Sub.cons rfl <| Sub.cons rfl <| Sub.cons rfl <| Sub.nil _) .rfl (fun k hk ih => ?_)
  refine G.seq <| G.seq <| G.reg <| W.q (mv rfl) rfl <| W.q (mv rfl) rfl <| W.q (ln Try.esl22 rfl) rfl <| W.q (lt rfl rfl) rfl <| W.nil <| G.cdd rfl (fun h1 => ?_) (fun h1 => ?_)
  · -- h1 True
    have h1' : k < xs.length := by omega
    obtain ⟨b, o, rfl, hc⟩ := hl.el ackC_len (by omega) k h1'
    have hs := firstR_snoc xs id k h1'
    have hid : Cell X.w0 [] ⟨b, o + (k : Int).toNat * 2 + 1, none⟩ (.int .u64 xs[k].2) := Cell.old rfl (hc 1 _ rfl)
    have hat : Cell X.w0 [] ⟨b, o + (k : Int).toNat * 2 + 0, none⟩ (.int .i64 xs[k].1) := Cell.old rfl (hc 0 _ rfl)
    refine G.skip <| G.seq <| G.blk <| G.seq <| G.reg <| W.q (mv rfl) rfl <| W.q (mv rfl) rfl <| W.q (ia Try.esl22 rfl rfl (by omega) (by omega)) rfl <| W.q (fa Try.fof135_1 rfl) rfl <| W.q (ld Try.sc30 rfl hid) rfl <| W.q (mv rfl) rfl <| W.q (eq rfl rfl) rfl <| W.q (mv rfl) rfl <| W.sp (t := _) 22 rfl (fun g2 => ?_) (fun g2 => ?_)
    · -- True
      refine W.qg rfl rfl g2 (mv rfl) rfl <| W.qg rfl rfl g2 (nt rfl) rfl <| W.qg rfl rfl g2 (mv rfl) rfl <| W.sp (t := _) 25 rfl (fun g3 => ?_) (fun g3 => ?_)
      · -- True
        refine W.sk rfl rfl g3 rfl <| W.sk rfl rfl g3 rfl <| W.sk rfl rfl g3 rfl <| W.sk rfl rfl g3 rfl <| W.sk rfl rfl g3 rfl <| W.sk rfl rfl g3 rfl <| W.sk rfl rfl g3 rfl <| W.qg rfl rfl g2 (pkt rfl g3 rfl) rfl <| W.q (pkt rfl g2 rfl) rfl <| W.nil <| G.cdt rfl rfl <| G.seq <| G.reg <| W.q (mv rfl) rfl <| W.q (mv rfl) rfl <| W.q (ia Try.esl22 rfl rfl (by omega) (by omega)) rfl <| W.q (fa Try.fof135_0 rfl) rfl <| W.q (ld Try.sc3 rfl hat) rfl <| W.q (sa rfl) rfl <| W.nil <| G.reg <| W.q (sa rfl) rfl <| W.nil <| G.inb <| G.reg <| W.q (mv rfl) rfl <| W.q (ad rfl rfl (by omega)) rfl <| W.q (sa rfl) rfl <| W.nil <| (ih (k + 1) (by omega) (by omega)).weak (Sub.co rfl ?_ <| Sub.co rfl ?_ <| Sub.cons rfl <| Sub.cons rfl <| Sub.cons rfl <| Sub.nil _) .rfl
        all_goals clear ih
        all_goals (rw [hs]; simp only [firstStep]; grind)
      · -- False
        refine W.qg rfl rfl g3 (mv rfl) rfl <| W.qg rfl rfl g3 (mv rfl) rfl <| W.qg rfl rfl g3 (ia Try.esl22 rfl rfl (by omega) (by omega)) rfl <| W.qg rfl rfl g3 (fa Try.fof135_0 rfl) rfl <| W.qg rfl rfl g3 (ld Try.sc3 rfl hat) rfl <| W.qg rfl rfl g3 (mv rfl) rfl <| W.qg rfl rfl g3 (lt rfl rfl) rfl <| W.qg rfl rfl g2 (pkf rfl g3 rfl) rfl <| W.q (pkt rfl g2 rfl) rfl <| W.nil <| G.cdd rfl (fun h4 => ?_) (fun h4 => ?_)
        · -- h4 True
          refine G.seq <| G.reg <| W.q (mv rfl) rfl <| W.q (mv rfl) rfl <| W.q (ia Try.esl22 rfl rfl (by omega) (by omega)) rfl <| W.q (fa Try.fof135_0 rfl) rfl <| W.q (ld Try.sc3 rfl hat) rfl <| W.q (sa rfl) rfl <| W.nil <| G.reg <| W.q (sa rfl) rfl <| W.nil <| G.inb <| G.reg <| W.q (mv rfl) rfl <| W.q (ad rfl rfl (by omega)) rfl <| W.q (sa rfl) rfl <| W.nil <| (ih (k + 1) (by omega) (by omega)).weak (Sub.co rfl ?_ <| Sub.co rfl ?_ <| Sub.cons rfl <| Sub.cons rfl <| Sub.cons rfl <| Sub.nil _) .rfl
          all_goals clear ih
          all_goals (rw [hs]; simp only [firstStep]; grind)
        · -- h4 False
          refine G.skip <| G.inb <| G.reg <| W.q (mv rfl) rfl <| W.q (ad rfl rfl (by omega)) rfl <| W.q (sa rfl) rfl <| W.nil <| (ih (k + 1) (by omega) (by omega)).weak (Sub.co rfl ?_ <| Sub.co rfl ?_ <| Sub.cons rfl <| Sub.cons rfl <| Sub.cons rfl <| Sub.nil _) .rfl
          all_goals clear ih
          all_goals (rw [hs]; simp only [firstStep]; grind)
    · -- False
      refine W.sk rfl rfl g2 rfl <| W.sk rfl rfl g2 rfl <| W.sk rfl rfl g2 rfl <| W.sku rfl rfl rfl <| W.sku rfl rfl rfl <| W.sku rfl rfl rfl <| W.sku rfl rfl rfl <| W.sku rfl rfl rfl <| W.sku rfl rfl rfl <| W.sku rfl rfl rfl <| W.sk rfl rfl g2 rfl <| W.q (pkf rfl g2 rfl) rfl <| W.nil <| G.cdf rfl rfl <| G.skip <| G.inb <| G.reg <| W.q (mv rfl) rfl <| W.q (ad rfl rfl (by omega)) rfl <| W.q (sa rfl) rfl <| W.nil <| (ih (k + 1) (by omega) (by omega)).weak (Sub.co rfl ?_ <| Sub.co rfl ?_ <| Sub.cons rfl <| Sub.cons rfl <| Sub.cons rfl <| Sub.nil _) .rfl
      all_goals clear ih
      all_goals (rw [hs]; simp only [firstStep]; grind)
  · -- h1 False
    refine G.exit rfl <| G.seq <| G.reg <| W.q (mv rfl) rfl <| W.q (mv rfl) rfl <| W.q (sa rfl) rfl <| W.q (sa rfl) rfl <| W.nil <| ret2 hX Try.results17 rfl rfl fun w hm => done rfl ?_ hm
    rw [List.take_of_length_le (by omega)]


set_option maxRecDepth 100000 in
theorem tape_First (a : Option Addr) (cap : Nat) (xs : List (Int × Int)) (w : World) (hl : RdL w a (xs.flatMap ackC)) (hb : xs.length * 16 ≤ 140737488351232) (id : Int) :
    Ret Try.prog 16 [.agg #[.slice a xs.length cap], .int .u64 id] w (fun v _ => v = .tuple #[i64 (firstR xs id).1, .bool (firstR xs id).2]) := by
  refine enter [] (Mem.nil _) Try.func16 rfl Try.ntmps16 rfl (fun X hX => ?_)
  have hw := hX.w0; subst hw
  refine G.seq <| G.reg <| W.bxa rfl rfl fun b1 => W.q (sa rfl) rfl <| W.q (sa rfl) rfl <| W.nil <| G.seq <| G.reg <| W.q (sa rfl) rfl <| W.q (sa rfl) rfl <| W.nil <| G.seq <| G.seq <| G.reg <| W.q (fa Try.fof26_0 rfl) rfl <| W.q (ld Try.sc24 rfl (Cell.at .hd rfl)) rfl <| W.q (ln Try.esl24 rfl) rfl <| W.q (mv rfl) rfl <| W.nil <| G.blk <| G.loop1 (α := Nat) (fun k => k ≤ xs.length) (fun k => [(6, i64 (firstR (xs.take k) id).1), (7, .bool (firstR (xs.take k) id).2), (13, i64 k)]) (fun k => []) (fun k => xs.length - k) [(1, _), (11, _), (12, _)] _ 0 (by omega) (Sub.cons rfl <| Sub.cons rfl <| Sub.cons rfl <| Sub.cons rfl <| Sub.cons rfl <| Sub.cons rfl <| Sub.nil _) .rfl (fun k hk ih => ?_)
  refine G.seq <| G.reg <| W.q (lt rfl rfl) rfl <| W.nil <| G.seq <| G.cdd rfl (fun h1 => ?_) (fun h1 => ?_)
  · -- h1 True
    have h1' : k < xs.length := by omega
    obtain ⟨b, o, rfl, hc⟩ := hl.el ackC_len (by omega) k h1'
    have hs := firstR_snoc xs id k h1'
    have hat : ∀ H, allNew H = true → Cells X.w0 H b (o + (k : Int).toNat * 2) [i64 xs[k].1, .int .u64 xs[k].2] := fun H hn => Cells.old hn hc
    refine G.skip <| G.seq <| G.blk <| G.seq <| G.reg <| W.q (ia Try.esl24 rfl rfl (by omega) (by omega)) rfl <| W.q (lda Try.agg32 Try.sz32 rfl (hat _ rfl) rfl) rfl <| W.al Try.zrl32 rfl fun b2 => W.sta Try.sz32 rfl rfl rfl rfl .hd rfl <| W.nil <| G.seq <| G.reg <| W.q (fa Try.fof32_1 rfl) rfl <| W.q (ld Try.sc30 rfl (Cell.at .hd rfl)) rfl <| W.q (mv rfl) rfl <| W.q (eq rfl rfl) rfl <| W.q (mv rfl) rfl <| W.sp (t := _) 21 rfl (fun g2 => ?_) (fun g2 => ?_)
    · -- True
      refine W.qg rfl rfl g2 (mv rfl) rfl <| W.qg rfl rfl g2 (nt rfl) rfl <| W.qg rfl rfl g2 (mv rfl) rfl <| W.sp (t := _) 24 rfl (fun g3 => ?_) (fun g3 => ?_)
      · -- True
        refine W.sk rfl rfl g3 rfl <| W.sk rfl rfl g3 rfl <| W.sk rfl rfl g3 rfl <| W.sk rfl rfl g3 rfl <| W.qg rfl rfl g2 (pkt rfl g3 rfl) rfl <| W.q (pkt rfl g2 rfl) rfl <| W.nil <| G.cdt rfl rfl <| G.reg <| W.q (fa Try.fof32_0 rfl) rfl <| W.q (ld Try.sc3 rfl (Cell.at .hd rfl)) rfl <| W.q (sa rfl) rfl <| W.q (sa rfl) rfl <| W.nil <| G.inb <| G.reg <| W.q (ad rfl rfl (by omega)) rfl <| W.q (mv rfl) rfl <| W.nil <| (ih (k + 1) (by omega) (by omega)).weak (Sub.co rfl ?_ <| Sub.co rfl ?_ <| Sub.cons rfl <| Sub.cons rfl <| Sub.cons rfl <| Sub.cons rfl <| Sub.nil _) (Dr.ent <| Dr.drop rfl <| Dr.keep <| .rfl)
        all_goals clear ih
        all_goals (rw [hs]; simp only [firstStep]; grind)
      · -- False
        refine W.qg rfl rfl g3 (fa Try.fof32_0 rfl) rfl <| W.qg rfl rfl g3 (ld Try.sc3 rfl (Cell.at .hd rfl)) rfl <| W.qg rfl rfl g3 (mv rfl) rfl <| W.qg rfl rfl g3 (lt rfl rfl) rfl <| W.qg rfl rfl g2 (pkf rfl g3 rfl) rfl <| W.q (pkt rfl g2 rfl) rfl <| W.nil <| G.cdd rfl (fun h4 => ?_) (fun h4 => ?_)
        · -- h4 True
          refine G.reg <| W.q (fa Try.fof32_0 rfl) rfl <| W.q (ld Try.sc3 rfl (Cell.at .hd rfl)) rfl <| W.q (sa rfl) rfl <| W.q (sa rfl) rfl <| W.nil <| G.inb <| G.reg <| W.q (ad rfl rfl (by omega)) rfl <| W.q (mv rfl) rfl <| W.nil <| (ih (k + 1) (by omega) (by omega)).weak (Sub.co rfl ?_ <| Sub.co rfl ?_ <| Sub.cons rfl <| Sub.cons rfl <| Sub.cons rfl <| Sub.cons rfl <| Sub.nil _) (Dr.ent <| Dr.drop rfl <| Dr.keep <| .rfl)
          all_goals clear ih
          all_goals (rw [hs]; simp only [firstStep]; grind)
        · -- h4 False
          refine G.skip <| G.inb <| G.reg <| W.q (ad rfl rfl (by omega)) rfl <| W.q (mv rfl) rfl <| W.nil <| (ih (k + 1) (by omega) (by omega)).weak (Sub.co rfl ?_ <| Sub.co rfl ?_ <| Sub.cons rfl <| Sub.cons rfl <| Sub.cons rfl <| Sub.cons rfl <| Sub.nil _) (Dr.ent <| Dr.drop rfl <| Dr.keep <| .rfl)
          all_goals clear ih
          all_goals (rw [hs]; simp only [firstStep]; grind)
    · -- False
      refine W.sk rfl rfl g2 rfl <| W.sk rfl rfl g2 rfl <| W.sk rfl rfl g2 rfl <| W.sku rfl rfl rfl <| W.sku rfl rfl rfl <| W.sku rfl rfl rfl <| W.sku rfl rfl rfl <| W.sk rfl rfl g2 rfl <| W.q (pkf rfl g2 rfl) rfl <| W.nil <| G.cdf rfl rfl <| G.skip <| G.inb <| G.reg <| W.q (ad rfl rfl (by omega)) rfl <| W.q (mv rfl) rfl <| W.nil <| (ih (k + 1) (by omega) (by omega)).weak (Sub.co rfl ?_ <| Sub.co rfl ?_ <| Sub.cons rfl <| Sub.cons rfl <| Sub.cons rfl <| Sub.cons rfl <| Sub.nil _) (Dr.ent <| Dr.drop rfl <| Dr.keep <| .rfl)
      all_goals clear ih
      all_goals (rw [hs]; simp only [firstStep]; grind)
  · -- h1 False
    refine G.exit rfl <| G.seq <| G.reg <| W.q (mv rfl) rfl <| W.q (mv rfl) rfl <| W.q (sa rfl) rfl <| W.q (sa rfl) rfl <| W.nil <| ret2 hX Try.results16 rfl rfl fun w hm => done rfl ?_ hm
    rw [List.take_of_length_le (by omega)]


set_option maxRecDepth 100000 in
theorem tape_Acked (a : Option Addr) (cap : Nat) (xs : List (Int × Int)) (w : World) (hl : RdL w a (xs.flatMap ackC)) (hb : xs.length * 16 ≤ 140737488351232) (id now : Int) :
    Ret Try.prog 13 [.agg #[.slice a xs.length cap], .int .u64 id, i64 now] w (fun v _ => v = .bool ((firstR xs id).2 && decide ((firstR xs id).1 ≤ now))) := by
  refine enter [] (Mem.nil _) Try.func13 rfl Try.ntmps13 rfl (fun X hX => ?_)
  have hw := hX.w0; subst hw
  refine G.seq <| G.reg <| W.bxa rfl rfl fun b1 => W.q (sa rfl) rfl <| W.nil <| G.seq <| G.reg <| W.q (lda Try.agg26 Try.sz26 rfl (Cells.whole .hd) rfl) rfl <| W.q (mv rfl) rfl <| W.fv Try.ca16 rfl (fun w hm => tape_First a cap xs w (hm.rd rfl hl) hb id) rfl <| W.q (mv rfl) rfl <| W.q (ex rfl rfl) rfl <| W.q (ex rfl rfl) rfl <| W.q (sa rfl) rfl <| W.q (sa rfl) rfl <| W.nil <| G.seq <| G.reg <| W.q (mv rfl) rfl <| W.q (mv rfl) rfl <| W.sp (t := _) 16 rfl (fun g1 => ?_) (fun g1 => ?_)
  · -- True
    refine W.qg rfl rfl g1 (mv rfl) rfl <| W.qg rfl rfl g1 (mv rfl) rfl <| W.qg rfl rfl g1 (le rfl rfl) rfl <| W.q (pkt rfl g1 rfl) rfl <| W.q (sa rfl) rfl <| W.nil <| ret1 hX Try.results13 rfl fun w hm => done rfl ?_ hm
    simp [g1]
  · -- False
    refine W.sk rfl rfl g1 rfl <| W.sk rfl rfl g1 rfl <| W.sk rfl rfl g1 rfl <| W.q (pkf rfl g1 rfl) rfl <| W.q (sa rfl) rfl <| W.nil <| ret1 hX Try.results13 rfl fun w hm => done rfl ?_ hm
    simp [g1]


set_option maxRecDepth 100000 in
theorem ref08_Acks (a : Option Addr) (cap : Nat) (xs : List (Int × Int)) (w : World) (hl : RdL w a (xs.flatMap ackC)) (hb : xs.length * 16 ≤ 140737488351232) :
    Ret Try.prog 15 [.slice a xs.length cap] w (fun v _ => v = i64 (acksR xs)) := by
  refine enter [] (Mem.nil _) Try.func15 rfl Try.ntmps15 rfl (fun X hX => ?_)
  have hw := hX.w0; subst hw
  refine G.seq <| G.reg <| W.q (sa rfl) rfl <| W.nil <| G.seq <| G.seq <| G.reg <| W.q (sa rfl) rfl <| W.nil <| G.blk <| G.loop1 (α := Nat) (fun k => k ≤ xs.length ∧ ∀ x ∈ xs.take k, ¬ x.1 < 0) (fun k => [(3, i64 k)]) (fun k => []) (fun k => xs.length - k) [(0, _)] _ 0 (by simp) (Sub.cons rfl <| Sub.cons rfl <| Sub.nil _) .rfl (fun k hk ih => ?_)
  refine G.seq <| G.seq <| G.reg <| W.q (mv rfl) rfl <| W.q (mv rfl) rfl <| W.q (ln Try.esl22 rfl) rfl <| W.q (lt rfl rfl) rfl <| W.nil <| G.cdd rfl (fun h1 => ?_) (fun h1 => ?_)
  · -- h1 True
    have h1' : k < xs.length := by omega
    obtain ⟨b, o, rfl, hc⟩ := hl.el ackC_len (by omega) k h1'
    have hat : Cell X.w0 [] ⟨b, o + (k : Int).toNat * 2 + 0, none⟩ (.int .i64 xs[k].1) := Cell.old rfl (hc 0 _ rfl)
    refine G.skip <| G.seq <| G.blk <| G.seq <| G.reg <| W.q (mv rfl) rfl <| W.q (mv rfl) rfl <| W.q (ia Try.esl22 rfl rfl (by omega) (by omega)) rfl <| W.q (fa Try.fof135_0 rfl) rfl <| W.q (ld Try.sc3 rfl hat) rfl <| W.q (lt rfl rfl) rfl <| W.nil <| G.cdd rfl (fun h2 => ?_) (fun h2 => ?_)
    · -- h2 True
      refine G.seq <| G.reg <| W.q (sa rfl) rfl <| W.nil <| ret1 hX Try.results15 rfl fun w hm => done rfl ?_ hm
      rw [acksR, if_pos ⟨xs[k], List.getElem_mem h1', h2⟩]
    · -- h2 False
      refine G.skip <| G.inb <| G.reg <| W.q (mv rfl) rfl <| W.q (ad rfl rfl (by omega)) rfl <| W.q (sa rfl) rfl <| W.nil <| (ih (k + 1) ⟨by omega, by
            intro x hx
            rw [List.take_succ_eq_append_getElem h1'] at hx
            rcases List.mem_append.1 hx with hx | hx
            · exact hk.2 x hx
            · simp at hx; subst hx; exact h2⟩ (by omega)).weak (Sub.cons rfl <| Sub.cons rfl <| Sub.nil _) .rfl
  · -- h1 False
    refine G.exit rfl <| G.seq <| G.seq <| G.reg <| W.q (mv rfl) rfl <| W.q (ln Try.esl22 rfl) rfl <| W.q (gt rfl rfl) rfl <| W.nil <| G.cdd rfl (fun h3 => ?_) (fun h3 => ?_)
    · -- h3 True
      refine G.seq <| G.reg <| W.q (sa rfl) rfl <| W.nil <| ret1 hX Try.results15 rfl fun w hm => done rfl ?_ hm
      have hall : ¬ ∃ x ∈ xs, x.1 < 0 := by
        rintro ⟨x, hx, hlt⟩
        exact hk.2 x (by rw [List.take_of_length_le (by omega)]; exact hx) hlt
      rw [acksR, if_neg hall]
      first | rw [if_pos (by omega)] | rw [if_neg (by omega)]
    · -- h3 False
      refine G.skip <| G.seq <| G.reg <| W.q (sa rfl) rfl <| W.nil <| ret1 hX Try.results15 rfl fun w hm => done rfl ?_ hm
      have hall : ¬ ∃ x ∈ xs, x.1 < 0 := by
        rintro ⟨x, hx, hlt⟩
        exact hk.2 x (by rw [List.take_of_length_le (by omega)]; exact hx) hlt
      rw [acksR, if_neg hall]
      first | rw [if_pos (by omega)] | rw [if_neg (by omega)]


set_option maxRecDepth 100000 in
theorem law08_acks (a : Option Addr) (cap : Nat) (xs : List (Int × Int)) (w : World) (hl : RdL w a (xs.flatMap ackC)) (hb : xs.length * 16 ≤ 140737488351232) :
    Ret Try.prog 14 [.slice a xs.length cap] w (fun v J => ∃ a' cap', v = .slice a' xs.length cap' ∧ J = [sl a' xs.length cap' 32 2 (xs.flatMap ackC)]) := by
  refine enter [] (Mem.nil _) Try.func14 rfl Try.ntmps14 rfl (fun X hX => ?_)
  have hw := hX.w0; subst hw
  refine G.seq <| G.reg <| W.q (sa rfl) rfl <| W.nil <| G.seq <| G.reg <| W.q (sa rfl) rfl <| W.nil <| G.seq <| G.seq <| G.reg <| W.q (mv rfl) rfl <| W.q (ln Try.esl22 rfl) rfl <| W.q (mv rfl) rfl <| W.nil <| G.blk <| G.loop3 (fun k a1 c1 => k ≤ xs.length) (fun k a1 c1 => [(3, .slice a1 k c1), (8, i64 k)]) (fun k a1 c1 => [sl a1 k c1 32 2 ((xs.take k).flatMap ackC)]) (fun k a1 c1 => xs.length - k) [(6, _), (7, _)] [] 0 none 0 (by omega) (Sub.cons rfl <| Sub.cons rfl <| Sub.cons rfl <| Sub.cons rfl <| Sub.nil _) (Ent.slNil _ _) (fun k a1 c1 hk ih => ?_)
  refine G.seq <| G.reg <| W.q (lt rfl rfl) rfl <| W.nil <| G.seq <| G.cdd rfl (fun h1 => ?_) (fun h1 => ?_)
  · -- h1 True
    have h1' : k < xs.length := by omega
    obtain ⟨b, o, rfl, hc⟩ := hl.el ackC_len (by omega) k h1'
    have hat : ∀ H, allNew H = true → Cells X.w0 H b (o + (k : Int).toNat * 2) [i64 xs[k].1, .int .u64 xs[k].2] := fun H hn => Cells.old hn hc
    refine G.skip <| G.seq <| G.blk <| G.seq <| G.reg <| W.q (ia Try.esl22 rfl rfl (by omega) (by omega)) rfl <| W.q (lda Try.agg135 Try.sz135 rfl (hat _ rfl) rfl) rfl <| W.al Try.zrl135 rfl fun b1 => W.sta Try.sz135 rfl rfl rfl rfl .hd rfl <| W.nil <| G.reg <| W.q (mv rfl) rfl <| W.q (fa Try.fof135_0 rfl) rfl <| W.q (ld Try.sc3 rfl (Cell.at .hd rfl)) rfl <| W.q (fa Try.fof135_1 rfl) rfl <| W.q (ld Try.sc30 rfl (Cell.at .hd rfl)) rfl <| W.q (bld (cs := [_, _]) Try.stp32 rfl rfl) rfl <| W.bs (cs := [_, _]) Try.underlying24 Try.sz32 Try.zrl32 rfl rfl rfl rfl fun b2 => W.ap (news := [_, _]) Try.underlying24 Try.underlying24 Try.sz32 Try.zln32 Try.by32 rfl rfl (fun _ _ => .tl <| .tl <| .hd) (RdS.row .hd) rfl rfl (by simp) (by omega) (by omega) rfl fun a2 c2 => W.q (sa rfl) rfl <| W.nil <| G.inb <| G.reg <| W.q (ad rfl rfl (by omega)) rfl <| W.q (mv rfl) rfl <| W.nil <| ?_
    have hxs : (xs.take k).flatMap ackC ++ [Value.int .i64 xs[k].1, .int .u64 xs[k].2] = (xs.take (k+1)).flatMap ackC := by rw [List.take_succ_eq_append_getElem h1', List.flatMap_append]; rfl
    rw [hxs]
    refine (ih (k + 1) a2 c2 (by omega) (by omega)).weak (Sub.cons rfl <| Sub.cons rfl <| Sub.cons rfl <| Sub.cons rfl <| Sub.nil _) (Dr.ent <| Dr.drop rfl <| Dr.drop rfl <| Dr.keep <| .rfl)
  · -- h1 False
    refine G.exit rfl <| G.seq <| G.reg <| W.q (mv rfl) rfl <| W.q (sa rfl) rfl <| W.nil <| ret1 hX Try.results14 rfl fun w hm => done rfl ⟨a1, c1, ?_, ?_⟩ hm
    · rw [show k = xs.length by omega]
    · rw [show k = xs.length by omega]; simp


set_option maxRecDepth 100000 in
theorem clone_Ack (a : Option Addr) (cap : Nat) (xs : List (Int × Int)) (w : World) (hl : RdL w a (xs.flatMap ackC)) (hb : xs.length * 16 ≤ 140737488351232) :
    Ret Try.prog 66 [.slice a xs.length cap] w (fun v J => ∃ a' cap', v = .slice a' xs.length cap' ∧ J = [sl a' xs.length cap' 32 2 (xs.flatMap ackC)]) := by
  refine enter [] (Mem.nil _) Try.func66 rfl Try.ntmps66 rfl (fun X hX => ?_)
  have hw := hX.w0; subst hw
  refine G.seq <| G.reg <| W.q (sa rfl) rfl <| W.nil <| G.seq <| G.seq <| G.reg <| W.q (mv rfl) rfl <| W.q (eqnil Try.underlying24 rfl) rfl <| W.nil <| G.cdd rfl (fun h1 => ?_) (fun h1 => ?_)
  · -- h1 True
    refine G.seq <| G.reg <| W.q (sa rfl) rfl <| W.nil <| ret1 hX Try.results66 rfl fun w hm => done (H := [sl none 0 0 32 2 []]) rfl ?_ (hm.slNil _ _)
    subst h1
    have : xs = [] := by
      cases xs with
      | nil => rfl
      | cons x xs => obtain ⟨b, o, h, _⟩ := hl 0 (.int .i64 x.1) rfl; cases h
    subst this
    exact ⟨none, 0, rfl, rfl⟩
  · -- h1 False
    refine G.skip <| G.seq <| G.reg <| W.bs Try.underlying24 Try.sz32 Try.zrl32 rfl rfl rfl rfl fun b1 => W.q (mv rfl) rfl <| W.ent (Ent.rowSl (m := 0) (cap := 0) (s := 2) (Nat.le_refl _) (by omega) (by simp [maxLen])) <| W.ap Try.underlying24 Try.underlying24 Try.sz32 Try.zln32 Try.by32 rfl rfl (fun _ _ => .hd) (RdS.old rfl hl) (flat_len ackC 2 ackC_len xs) (by simp [ackC, Value.oneCell']) (fun h => absurd h h1) (by omega) (by omega) rfl fun a1 cap1 => W.q (sa rfl) rfl <| W.nil <| ret1 hX Try.results66 rfl fun w hm => done rfl ⟨a1, cap1, ?_, ?_⟩ hm
    · rw [Nat.zero_add]
    · rw [Nat.zero_add]; rfl


set_option maxRecDepth 100000 in
theorem NewAcks_1 (x : Int × Int) (w : World) :
    Ret Try.prog 65 [.agg #[.int .i64 x.1, .int .u64 x.2]] w (fun v _ => v = .bool (decide (x.1 < 0))) := by
  refine enter [] (Mem.nil _) Try.func65 rfl Try.ntmps65 rfl (fun X hX => ?_)
  have hw := hX.w0; subst hw
  refine G.seq <| G.reg <| W.bxa rfl rfl fun b1 => W.q (sa rfl) rfl <| W.nil <| G.seq <| G.reg <| W.q (fa Try.fof32_0 rfl) rfl <| W.q (ld Try.sc3 rfl (Cell.at .hd rfl)) rfl <| W.q (lt rfl rfl) rfl <| W.q (sa rfl) rfl <| W.nil <| ret1 hX Try.results65 rfl fun w hm => done rfl rfl hm


set_option maxRecDepth 100000 in
theorem indexFunc_Ack (a : Option Addr) (cap : Nat) (xs : List (Int × Int)) (w : World) (hl : RdL w a (xs.flatMap ackC)) (hb : xs.length * 16 ≤ 140737488351232) :
    Ret Try.prog 83 [.slice a xs.length cap, .func (.func 65) #[] #[]] w (fun v _ => ∃ i, v = i64 i ∧ (0 ≤ i ↔ ∃ x ∈ xs, x.1 < 0)) := by
  refine enter [] (Mem.nil _) Try.func83 rfl Try.ntmps83 rfl (fun X hX => ?_)
  have hw := hX.w0; subst hw
  refine G.seq <| G.reg <| W.q (sa rfl) rfl <| W.nil <| G.seq <| G.seq <| G.reg <| W.q (mv rfl) rfl <| W.q (ln Try.esl24 rfl) rfl <| W.q (mv rfl) rfl <| W.nil <| G.blk <| G.loop1 (α := Nat) (fun k => k ≤ xs.length ∧ ∀ x ∈ xs.take k, ¬ x.1 < 0) (fun k => [(8, i64 k)]) (fun k => []) (fun k => xs.length - k) [(0, _), (1, _), (7, _)] _ 0 (by simp) (Sub.cons rfl <| Sub.cons rfl <| Sub.cons rfl <| Sub.cons rfl <| Sub.nil _) .rfl (fun k hk ih => ?_)
  refine G.seq <| G.reg <| W.q (lt rfl rfl) rfl <| W.nil <| G.seq <| G.cdd rfl (fun h1 => ?_) (fun h1 => ?_)
  · -- h1 True
    have h1' : k < xs.length := by omega
    obtain ⟨b, o, rfl, hc⟩ := hl.el ackC_len (by omega) k h1'
    have hat : ∀ H, allNew H = true → Cells X.w0 H b (o + (k : Int).toNat * 2) [i64 xs[k].1, .int .u64 xs[k].2] := fun H hn => Cells.old hn hc
    refine G.skip <| G.seq <| G.blk <| G.seq <| G.reg <| W.q (mv rfl) rfl <| W.q (sa rfl) rfl <| W.nil <| G.seq <| G.reg <| W.q (mv rfl) rfl <| W.q (mv rfl) rfl <| W.q (mv rfl) rfl <| W.q (ia Try.esl24 rfl rfl (by omega) (by omega)) rfl <| W.q (lda Try.agg32 Try.sz32 rfl (hat _ rfl) rfl) rfl <| W.cvv Try.ca65 rfl rfl (fun w hm => NewAcks_1 xs[k] w) rfl <| W.nil <| G.cd rfl (fun h2 => ?_) (fun h2 => ?_)
    · -- h2 True
      refine G.seq <| G.reg <| W.q (mv rfl) rfl <| W.q (sa rfl) rfl <| W.nil <| ret1 hX Try.results83 rfl fun w hm => done rfl ⟨_, rfl, ?_⟩ hm
      exact ⟨fun _ => ⟨xs[k], List.getElem_mem h1', by simpa using h2⟩, fun _ => by omega⟩
    · -- h2 False
      refine G.skip <| G.inb <| G.reg <| W.q (ad rfl rfl (by omega)) rfl <| W.q (mv rfl) rfl <| W.nil <| (ih (k + 1) ⟨by omega, by
            intro x hx
            rw [List.take_succ_eq_append_getElem h1'] at hx
            rcases List.mem_append.1 hx with hx | hx
            · exact hk.2 x hx
            · simp at hx; subst hx; simpa using h2⟩ (by omega)).weak (Sub.cons rfl <| Sub.cons rfl <| Sub.cons rfl <| Sub.cons rfl <| Sub.nil _) .rfl
  · -- h1 False
    refine G.exit rfl <| G.seq <| G.reg <| W.q (sa rfl) rfl <| W.nil <| ret1 hX Try.results83 rfl fun w hm => done rfl ⟨_, rfl, ?_⟩ hm
    refine ⟨fun h => by omega, fun ⟨x, hx, hlt⟩ => absurd hlt (hk.2 x (by rw [List.take_of_length_le (by omega)]; exact hx))⟩


set_option maxRecDepth 100000 in
theorem containsFunc_Ack (a : Option Addr) (cap : Nat) (xs : List (Int × Int)) (w : World) (hl : RdL w a (xs.flatMap ackC)) (hb : xs.length * 16 ≤ 140737488351232) :
    Ret Try.prog 64 [.slice a xs.length cap, .func (.func 65) #[] #[]] w (fun v _ => v = .bool (decide (∃ x ∈ xs, x.1 < 0))) := by
  refine enter [] (Mem.nil _) Try.func64 rfl Try.ntmps64 rfl (fun X hX => ?_)
  have hw := hX.w0; subst hw
  refine G.seq <| G.reg <| W.q (sa rfl) rfl <| W.nil <| G.seq <| G.reg <| W.q (mv rfl) rfl <| W.q (mv rfl) rfl <| W.fn Try.ca83 rfl (fun w hm => indexFunc_Ack a cap xs w (hm.rd rfl hl) hb) rfl fun v J hv hJ => ?_
  obtain ⟨i, rfl, hi⟩ := hv
  refine W.q (ge rfl rfl) rfl <| W.q (sa rfl) rfl <| W.nil <| ret1 hX Try.results64 rfl fun w hm => done (H := []) rfl ?_ (Dr.ent (Dr.all hJ Dr.rfl) w hm)
  congr 1; simp [hi]


set_option maxRecDepth 100000 in
theorem tape_NewAcks (a : Option Addr) (cap : Nat) (xs : List (Int × Int)) (w : World) (hl : RdL w a (xs.flatMap ackC)) (hb : xs.length * 16 ≤ 140737488351232) :
    Ret Try.prog 12 [.slice a xs.length cap] w (fun v J => ∃ a' cap', v = .tuple #[.agg #[.slice a' (if acksR xs = 0 then xs else []).length cap'], i64 (acksR xs)] ∧ J = [sl a' (if acksR xs = 0 then xs else []).length cap' 32 2 ((if acksR xs = 0 then xs else []).flatMap ackC)]) := by
  refine enter [] (Mem.nil _) Try.func12 rfl Try.ntmps12 rfl (fun X hX => ?_)
  have hw := hX.w0; subst hw
  refine G.seq <| G.reg <| W.al Try.zrl26 rfl fun b1 => W.q (sa rfl) rfl <| W.nil <| G.seq <| G.seq <| G.reg <| W.q (mv rfl) rfl <| W.fv Try.ca64 rfl (fun w hm => containsFunc_Ack a cap xs w (hm.rd rfl hl) hb) rfl <| W.nil <| G.cd rfl (fun h1 => ?_) (fun h1 => ?_)
  · -- h1 True
    refine G.seq <| G.reg <| W.q (bld (cs := [_]) Try.stp26 rfl rfl) rfl <| W.sta Try.sz26 rfl rfl rfl rfl .hd rfl <| W.q (sa rfl) rfl <| W.nil <| ret hX Try.results12 (RA.cella rfl Try.agg26 Try.sz26 (Cells.whole .hd) rfl <| RA.tmp rfl <| RA.nil) fun w hm => done (H := [sl none 0 0 32 2 []]) rfl ?_ ((hm.drop rfl).slNil _ _)
    have h : acksR xs = 1 := by rw [acksR, if_pos (by simpa using h1)]
    rw [h]; exact ⟨none, 0, rfl, rfl⟩
  · -- h1 False
    refine G.skip <| G.seq <| G.seq <| G.reg <| W.q (mv rfl) rfl <| W.q (ln Try.esl24 rfl) rfl <| W.q (gt rfl rfl) rfl <| W.nil <| G.cdd rfl (fun h2 => ?_) (fun h2 => ?_)
    · -- h2 True
      refine G.seq <| G.reg <| W.q (bld (cs := [_]) Try.stp26 rfl rfl) rfl <| W.sta Try.sz26 rfl rfl rfl rfl .hd rfl <| W.q (sa rfl) rfl <| W.nil <| ret hX Try.results12 (RA.cella rfl Try.agg26 Try.sz26 (Cells.whole .hd) rfl <| RA.tmp rfl <| RA.nil) fun w hm => done (H := [sl none 0 0 32 2 []]) rfl ?_ ((hm.drop rfl).slNil _ _)
      have h : acksR xs = 2 := by rw [acksR, if_neg (by simpa using h1), if_pos (by omega)]
      rw [h]; exact ⟨none, 0, rfl, rfl⟩
    · -- h2 False
      refine G.skip <| G.seq <| G.reg <| W.q (mv rfl) rfl <| W.fn Try.ca66 rfl (fun w hm => clone_Ack a cap xs w (hm.rd rfl hl) hb) rfl fun v J hv hJ => ?_
      obtain ⟨a1, c1, rfl, rfl⟩ := hv
      refine W.q (bld (cs := [_]) Try.stp26 rfl rfl) rfl <| W.sta Try.sz26 rfl rfl rfl rfl (.tl <| .hd) rfl <| W.q (sa rfl) rfl <| W.nil <| ret hX Try.results12 (RA.cella rfl Try.agg26 Try.sz26 (Cells.whole (.tl <| .hd)) rfl <| RA.tmp rfl <| RA.nil) fun w hm => done (H := [sl a1 xs.length c1 32 2 (xs.flatMap ackC)]) rfl ?_ (Dr.ent (Dr.keep <| Dr.drop rfl .rfl) w hm)
      have h : acksR xs = 0 := by rw [acksR, if_neg (by simpa using h1), if_neg (by omega)]
      rw [h]; exact ⟨a1, c1, rfl, rfl⟩
end Go.Proofs.Ytnbofpojbpmdmaa
