/- The least of several errors. -/
import Derived.Test.YtnbofpojbpmdmaaBytes1
namespace Go.Proofs.Ytnbofpojbpmdmaa
open Go Go.Eng
set_option linter.unusedVariables false

def stepL (least e : Int) : Int := if e ≠ 0 ∧ (least = 0 ∨ e < least) then e else least
def leastR (xs : List Int) : Int := xs.foldl stepL 0
theorem leastR_succ (xs : List Int) (k : Nat) (h : k < xs.length) : leastR (xs.take (k + 1)) = stepL (leastR (xs.take k)) xs[k] := by
  rw [List.take_succ_eq_append_getElem h, leastR, List.foldl_append]; rfl


set_option maxRecDepth 100000 in
theorem packet_Least (a : Option Addr) (cap : Nat) (xs : List Int) (w : World) (hl : RdL w a (xs.map i64)) (hb : xs.length ≤ 140737488351232) :
    Ret Try.prog 19 [.slice a xs.length cap] w (fun v _ => v = i64 (leastR xs)) := by
  refine enter [] (Mem.nil _) Try.func19 rfl Try.ntmps19 rfl (fun X hX => ?_)
  have hw := hX.w0; subst hw
  refine G.seq <| G.reg <| W.q (sa rfl) rfl <| W.nil <| G.seq <| G.reg <| W.q (sa rfl) rfl <| W.nil <| G.seq <| G.seq <| G.reg <| W.q (mv rfl) rfl <| W.q (ln Try.esl42 rfl) rfl <| W.q (mv rfl) rfl <| W.nil <| G.blk <| G.loop1 (α := Nat) (fun k => k ≤ xs.length) (fun k => [(3, i64 (leastR (xs.take k))), (8, i64 k)]) (fun k => []) (fun k => xs.length - k) [(6, _), (7, _)] _ 0 (by omega) (Sub.cons rfl <| Sub.cons rfl <| Sub.cons rfl <| Sub.cons rfl <| Sub.nil _) .rfl (fun k hk ih => ?_)
  refine G.seq <| G.reg <| W.q (lt rfl rfl) rfl <| W.nil <| G.seq <| G.cdd rfl (fun h1 => ?_) (fun h1 => ?_)
  · -- h1 True
    have h1' : k < xs.length := by omega
    obtain ⟨b, o, rfl, hc⟩ := hl.at k h1'
    have hst := leastR_succ xs k h1'
    generalize xs[k] = e at hc hst
    generalize leastR (xs.take k) = least at hst
    refine G.skip <| G.seq <| G.blk <| G.seq <| G.reg <| W.q (ia Try.esl42 rfl rfl (by omega) (by omega)) rfl <| W.q (ld Try.sc27 rfl (Cell.old rfl (by simpa using hc))) rfl <| W.q (sa rfl) rfl <| W.nil <| G.seq <| G.reg <| W.q (mv rfl) rfl <| W.q (ne rfl rfl) rfl <| W.q (mv rfl) rfl <| W.sp (t := _) 14 rfl (fun g2 => ?_) (fun g2 => ?_)
    · -- True
      refine W.qg rfl rfl g2 (mv rfl) rfl <| W.qg rfl rfl g2 (eq rfl rfl) rfl <| W.qg rfl rfl g2 (mv rfl) rfl <| W.sp (t := _) 17 rfl (fun g3 => ?_) (fun g3 => ?_)
      · -- True
        refine W.sk rfl rfl g3 rfl <| W.sk rfl rfl g3 rfl <| W.sk rfl rfl g3 rfl <| W.qg rfl rfl g2 (pkt rfl g3 rfl) rfl <| W.q (pkt rfl g2 rfl) rfl <| W.nil <| G.cdt rfl rfl <| G.reg <| W.q (mv rfl) rfl <| W.q (sa rfl) rfl <| W.nil <| G.inb <| G.reg <| W.q (ad rfl rfl (by omega)) rfl <| W.q (mv rfl) rfl <| W.nil <| (ih (k + 1) (by omega) (by omega)).weak (Sub.co rfl ?_ <| Sub.cons rfl <| Sub.cons rfl <| Sub.cons rfl <| Sub.nil _) .rfl
        all_goals clear ih
        · show i64 _ = i64 _; rw [hst, stepL, if_pos ⟨of_decide_eq_true g2, .inl (of_decide_eq_true g3)⟩]
      · -- False
        refine W.qg rfl rfl g3 (mv rfl) rfl <| W.qg rfl rfl g3 (mv rfl) rfl <| W.qg rfl rfl g3 (lt rfl rfl) rfl <| W.qg rfl rfl g2 (pkf rfl g3 rfl) rfl <| W.q (pkt rfl g2 rfl) rfl <| W.nil <| G.cdd rfl (fun h4 => ?_) (fun h4 => ?_)
        · -- h4 True
          refine G.reg <| W.q (mv rfl) rfl <| W.q (sa rfl) rfl <| W.nil <| G.inb <| G.reg <| W.q (ad rfl rfl (by omega)) rfl <| W.q (mv rfl) rfl <| W.nil <| (ih (k + 1) (by omega) (by omega)).weak (Sub.co rfl ?_ <| Sub.cons rfl <| Sub.cons rfl <| Sub.cons rfl <| Sub.nil _) .rfl
          all_goals clear ih
          · show i64 _ = i64 _; rw [hst, stepL, if_pos ⟨of_decide_eq_true g2, .inr h4⟩]
        · -- h4 False
          refine G.skip <| G.inb <| G.reg <| W.q (ad rfl rfl (by omega)) rfl <| W.q (mv rfl) rfl <| W.nil <| (ih (k + 1) (by omega) (by omega)).weak (Sub.co rfl ?_ <| Sub.cons rfl <| Sub.cons rfl <| Sub.cons rfl <| Sub.nil _) .rfl
          all_goals clear ih
          · show i64 _ = i64 _; rw [hst, stepL, if_neg (fun h => h.2.elim (of_decide_eq_false g3) h4)]
    · -- False
      refine W.sk rfl rfl g2 rfl <| W.sk rfl rfl g2 rfl <| W.sk rfl rfl g2 rfl <| W.sku rfl rfl rfl <| W.sku rfl rfl rfl <| W.sku rfl rfl rfl <| W.sk rfl rfl g2 rfl <| W.q (pkf rfl g2 rfl) rfl <| W.nil <| G.cdf rfl rfl <| G.skip <| G.inb <| G.reg <| W.q (ad rfl rfl (by omega)) rfl <| W.q (mv rfl) rfl <| W.nil <| (ih (k + 1) (by omega) (by omega)).weak (Sub.co rfl ?_ <| Sub.cons rfl <| Sub.cons rfl <| Sub.cons rfl <| Sub.nil _) .rfl
      all_goals clear ih
      · show i64 _ = i64 _; rw [hst, stepL, if_neg (fun h => of_decide_eq_false g2 h.1)]
  · -- h1 False
    refine G.exit rfl <| G.seq <| G.reg <| W.q (mv rfl) rfl <| W.q (sa rfl) rfl <| W.nil <| ret1 hX Try.results19 rfl fun w hm => done rfl ?_ hm
    rw [List.take_of_length_le (by omega)]


set_option maxRecDepth 100000 in
theorem ref14_Least (a : Option Addr) (cap : Nat) (xs : List Int) (w : World) (hl : RdL w a (xs.map i64)) (hb : xs.length ≤ 140737488351232) :
    Ret Try.prog 20 [.slice a xs.length cap] w (fun v _ => v = i64 (leastR xs)) := by
  refine enter [] (Mem.nil _) Try.func20 rfl Try.ntmps20 rfl (fun X hX => ?_)
  have hw := hX.w0; subst hw
  refine G.seq <| G.reg <| W.q (sa rfl) rfl <| W.nil <| G.seq <| G.reg <| W.q (sa rfl) rfl <| W.nil <| G.seq <| G.seq <| G.reg <| W.q (sa rfl) rfl <| W.nil <| G.blk <| G.loop1 (α := Nat) (fun k => k ≤ xs.length) (fun k => [(3, i64 (leastR (xs.take k))), (4, i64 k)]) (fun k => []) (fun k => xs.length - k) [(0, _)] _ 0 (by omega) (Sub.cons rfl <| Sub.cons rfl <| Sub.cons rfl <| Sub.nil _) .rfl (fun k hk ih => ?_)
  refine G.seq <| G.seq <| G.reg <| W.q (mv rfl) rfl <| W.q (mv rfl) rfl <| W.q (ln Try.esl40 rfl) rfl <| W.q (lt rfl rfl) rfl <| W.nil <| G.cdd rfl (fun h1 => ?_) (fun h1 => ?_)
  · -- h1 True
    have h1' : k < xs.length := by omega
    obtain ⟨b, o, rfl, hc⟩ := hl.at k h1'
    have hst := leastR_succ xs k h1'
    generalize xs[k] = e at hc hst
    generalize leastR (xs.take k) = least at hst
    refine G.skip <| G.seq <| G.blk <| G.seq <| G.reg <| W.q (mv rfl) rfl <| W.q (mv rfl) rfl <| W.q (ia Try.esl40 rfl rfl (by omega) (by omega)) rfl <| W.q (ld Try.sc3 rfl (Cell.old rfl (by simpa using hc))) rfl <| W.q (ne rfl rfl) rfl <| W.q (mv rfl) rfl <| W.sp (t := _) 16 rfl (fun g2 => ?_) (fun g2 => ?_)
    · -- True
      refine W.qg rfl rfl g2 (mv rfl) rfl <| W.qg rfl rfl g2 (eq rfl rfl) rfl <| W.qg rfl rfl g2 (mv rfl) rfl <| W.sp (t := _) 19 rfl (fun g3 => ?_) (fun g3 => ?_)
      · -- True
        refine W.sk rfl rfl g3 rfl <| W.sk rfl rfl g3 rfl <| W.sk rfl rfl g3 rfl <| W.sk rfl rfl g3 rfl <| W.sk rfl rfl g3 rfl <| W.sk rfl rfl g3 rfl <| W.qg rfl rfl g2 (pkt rfl g3 rfl) rfl <| W.q (pkt rfl g2 rfl) rfl <| W.nil <| G.cdt rfl rfl <| G.reg <| W.q (mv rfl) rfl <| W.q (mv rfl) rfl <| W.q (ia Try.esl40 rfl rfl (by omega) (by omega)) rfl <| W.q (ld Try.sc3 rfl (Cell.old rfl (by simpa using hc))) rfl <| W.q (sa rfl) rfl <| W.nil <| G.inb <| G.reg <| W.q (mv rfl) rfl <| W.q (ad rfl rfl (by omega)) rfl <| W.q (sa rfl) rfl <| W.nil <| (ih (k + 1) (by omega) (by omega)).weak (Sub.co rfl ?_ <| Sub.cons rfl <| Sub.cons rfl <| Sub.nil _) .rfl
        all_goals clear ih
        · show i64 _ = i64 _; rw [hst, stepL, if_pos ⟨of_decide_eq_true g2, .inl (of_decide_eq_true g3)⟩]
      · -- False
        refine W.qg rfl rfl g3 (mv rfl) rfl <| W.qg rfl rfl g3 (mv rfl) rfl <| W.qg rfl rfl g3 (ia Try.esl40 rfl rfl (by omega) (by omega)) rfl <| W.qg rfl rfl g3 (ld Try.sc3 rfl (Cell.old rfl (by simpa using hc))) rfl <| W.qg rfl rfl g3 (mv rfl) rfl <| W.qg rfl rfl g3 (lt rfl rfl) rfl <| W.qg rfl rfl g2 (pkf rfl g3 rfl) rfl <| W.q (pkt rfl g2 rfl) rfl <| W.nil <| G.cdd rfl (fun h4 => ?_) (fun h4 => ?_)
        · -- h4 True
          refine G.reg <| W.q (mv rfl) rfl <| W.q (mv rfl) rfl <| W.q (ia Try.esl40 rfl rfl (by omega) (by omega)) rfl <| W.q (ld Try.sc3 rfl (Cell.old rfl (by simpa using hc))) rfl <| W.q (sa rfl) rfl <| W.nil <| G.inb <| G.reg <| W.q (mv rfl) rfl <| W.q (ad rfl rfl (by omega)) rfl <| W.q (sa rfl) rfl <| W.nil <| (ih (k + 1) (by omega) (by omega)).weak (Sub.co rfl ?_ <| Sub.cons rfl <| Sub.cons rfl <| Sub.nil _) .rfl
          all_goals clear ih
          · show i64 _ = i64 _; rw [hst, stepL, if_pos ⟨of_decide_eq_true g2, .inr h4⟩]
        · -- h4 False
          refine G.skip <| G.inb <| G.reg <| W.q (mv rfl) rfl <| W.q (ad rfl rfl (by omega)) rfl <| W.q (sa rfl) rfl <| W.nil <| (ih (k + 1) (by omega) (by omega)).weak (Sub.co rfl ?_ <| Sub.cons rfl <| Sub.cons rfl <| Sub.nil _) .rfl
          all_goals clear ih
          · show i64 _ = i64 _; rw [hst, stepL, if_neg (fun h => h.2.elim (of_decide_eq_false g3) h4)]
    · -- False
      refine W.sk rfl rfl g2 rfl <| W.sk rfl rfl g2 rfl <| W.sk rfl rfl g2 rfl <| W.sku rfl rfl rfl <| W.sku rfl rfl rfl <| W.sku rfl rfl rfl <| W.sku rfl rfl rfl <| W.sku rfl rfl rfl <| W.sku rfl rfl rfl <| W.sk rfl rfl g2 rfl <| W.q (pkf rfl g2 rfl) rfl <| W.nil <| G.cdf rfl rfl <| G.skip <| G.inb <| G.reg <| W.q (mv rfl) rfl <| W.q (ad rfl rfl (by omega)) rfl <| W.q (sa rfl) rfl <| W.nil <| (ih (k + 1) (by omega) (by omega)).weak (Sub.co rfl ?_ <| Sub.cons rfl <| Sub.cons rfl <| Sub.nil _) .rfl
      all_goals clear ih
      · show i64 _ = i64 _; rw [hst, stepL, if_neg (fun h => of_decide_eq_false g2 h.1)]
  · -- h1 False
    refine G.exit rfl <| G.seq <| G.reg <| W.q (mv rfl) rfl <| W.q (sa rfl) rfl <| W.nil <| ret1 hX Try.results20 rfl fun w hm => done rfl ?_ hm
    rw [List.take_of_length_le (by omega)]
end Go.Proofs.Ytnbofpojbpmdmaa
