/- Marks; bytes with marked spare room behind them. -/
import Derived.Test.YtjalojbihpdghaaJoin
import Derived.Test.YtjalojbihpdghaaEngV
namespace Go.Proofs.Ytjalojbihpdghaa
open Go Go.Eng
set_option linter.unusedVariables false

/-- What list i holds at place j. -/
def mk (i j : Nat) : UInt8 := Eng.byteOf (17 * (i : Int) + 3 * (j : Int) + 1)
def spb (n : Nat) : UInt8 := Eng.byteOf (160 + (n : Int) % 31)
/-- The bytes with the spare room behind them. -/
def spareB (bs : List UInt8) : List UInt8 := bs ++ (List.range 40).map fun j => spb (bs.length + j)
theorem spareB_len (bs : List UInt8) : (spareB bs).length = bs.length + 40 := by simp [spareB]
theorem spareB_lo {bs : List UInt8} {k : Nat} (h : k < bs.length) : (spareB bs)[k]? = some bs[k] := by
  rw [spareB, List.getElem?_append_left h, List.getElem?_eq_getElem h]
theorem spareB_hi {bs : List UInt8} {k : Nat} (h : bs.length ≤ k) (h2 : k < bs.length + 40) : (spareB bs)[k]? = some (spb k) := by
  rw [spareB, List.getElem?_append_right h, List.getElem?_map, List.getElem?_range (by omega)]
  simp only [Option.map_some]
  rw [show bs.length + (k - bs.length) = k by omega]
def spk (bs : List UInt8) (k : Nat) : List UInt8 := bs ++ ((List.range k).map (fun j => spb (bs.length + j)) ++ List.replicate (40 - k) 0)
theorem spk_len (bs : List UInt8) (k : Nat) (h : k ≤ 40) : (spk bs k).length = bs.length + 40 := by simp [spk]; omega
theorem spk_cp (bs : List UInt8) : setAt (B (List.replicate (bs.length + 40) 0)) 0 (B bs) = B (spk bs 0) := by
  rw [setAt_hd _ _ (by simp)]
  simp [B, spk]
theorem spk_end (bs : List UInt8) (k : Nat) (h : k = 40) : spk bs k = spareB bs := by subst h; simp [spk, spareB]
theorem spk_set (bs : List UInt8) (k : Nat) (h : k < 40) : (spk bs k).set (bs.length + k) (spb (bs.length + k)) = spk bs (k + 1) := by
  unfold spk
  rw [List.set_append_right _ _ (by omega), List.set_append_right _ _ (by simp), List.range_succ, List.map_append, List.append_assoc]
  simp only [List.length_map, List.length_range, List.map_cons, List.map_nil]
  rw [show bs.length + k - bs.length - k = 0 by omega, show 40 - k = (40 - (k + 1)) + 1 by omega, List.replicate_succ]
  rfl


set_option maxRecDepth 100000 in
theorem ref01_mark (i j : Nat) (hi : i ≤ 1000000) (hj : j ≤ 1000000000000000) (w : World) :
    Ret Try.prog 66 [i64 i, i64 j] w (fun v _ => v = u8 (mk i j)) := by
  refine enter [] (Mem.nil _) Try.func66 rfl Try.ntmps66 rfl (fun X hX => ?_)
  have hw := hX.w0; subst hw
  refine G.seq <| G.reg <| W.q (sa rfl) rfl <| W.nil <| G.seq <| G.reg <| W.q (mv rfl) rfl <| W.q (ml rfl rfl (by omega)) rfl <| W.q (mv rfl) rfl <| W.q (ml rfl rfl (by omega)) rfl <| W.q (ad rfl rfl (by omega)) rfl <| W.q (ad rfl rfl (by omega)) rfl <| W.q (cv_i64_u8 Try.underlying3 Try.underlying5 rfl) rfl <| W.q (sa rfl) rfl <| W.nil <| ret1 hX Try.results66 rfl fun w hm => done rfl rfl hm


set_option maxRecDepth 100000 in
theorem ref01_Spare (a : Option Addr) (cap : Nat) (bs : List UInt8) (w : World) (hl : RdL w a (B bs)) (hb : bs.length ≤ 140737488351232) :
    Ret Try.prog 27 [.slice a bs.length cap] w (fun v J => ∃ b, v = .tuple #[.slice (some ⟨b, 0, none⟩) bs.length (bs.length + 40), .slice (some ⟨b, 0, none⟩) (bs.length + 40) (bs.length + 40)] ∧ J = [sl (some ⟨b, 0, none⟩) (bs.length + 40) (bs.length + 40) 5 1 (B (spareB bs))]) := by
  refine enter [] (Mem.nil _) Try.func27 rfl Try.ntmps27 rfl (fun X hX => ?_)
  have hw := hX.w0; subst hw
  refine G.seq <| G.reg <| W.q (sa rfl) rfl <| W.q (sa rfl) rfl <| W.nil <| G.seq <| G.reg <| W.q (mv rfl) rfl <| W.q (ln Try.esl22 rfl) rfl <| W.q (ad rfl rfl (by omega)) rfl <| W.mkB (m := bs.length + 40) Try.underlying22 Try.sz5 Try.zrl5 Try.by5 rfl rfl (by omega) (by omega) rfl fun b1 => W.q (sa rfl) rfl <| W.nil <| G.seq <| G.reg <| W.q (mv rfl) rfl <| W.q (mv rfl) rfl <| W.cp Try.underlying22 Try.sz5 rfl rfl (RdS.old rfl hl) (by simp) (B_one _) (RdL.nilB hl) .hd (by simp) (spk_cp bs) rfl <| W.nil <| G.seq <| G.seq <| G.reg <| W.q (mv rfl) rfl <| W.q (ln Try.esl22 rfl) rfl <| W.q (sa rfl) rfl <| W.nil <| G.blk <| G.loop1 (α := Nat) (fun k => k ≤ 40) (fun k => [(5, i64 ((bs.length : Int) + (k : Int)))]) (fun k => [nb b1 (B (spk bs k)) 5]) (fun k => 40 - k) [(0, _), (4, _)] [] 0 (by omega) (Sub.co rfl ?_ <| Sub.cons rfl <| Sub.cons rfl <| Sub.nil _) .rfl (fun k hk ih => ?_)
  · simp
  refine G.seq <| G.seq <| G.reg <| W.q (mv rfl) rfl <| W.q (mv rfl) rfl <| W.q (ln Try.esl22 rfl) rfl <| W.q (lt rfl rfl) rfl <| W.nil <| G.cdd rfl (fun h1 => ?_) (fun h1 => ?_)
  · -- h1 True
    refine G.skip <| G.seq <| G.blk <| G.reg <| W.q (mv rfl) rfl <| W.q (mv rfl) rfl <| W.q (mv rfl) rfl <| W.q (rm rfl rfl (by omega) (by omega)) rfl <| W.q (ad rfl rfl (by omega)) rfl <| W.q (cv_i64_u8 Try.underlying3 Try.underlying5 rfl) rfl <| W.q (ia Try.esl22 rfl rfl (by omega) (by omega)) rfl <| W.st (cs' := B (spk bs (k + 1))) Try.sz5 rfl rfl rfl rfl rfl .hd (by rw [Bl, spk_len bs k (by omega)]; omega) (by rw [show (0 + ((bs.length : Int) + (k : Int)).toNat * 1) = bs.length + k by omega]; exact (setAt_B _ _ (spb (bs.length + k)) (by rw [spk_len bs k (by omega)]; omega)).trans (by rw [spk_set bs k (by omega)])) <| W.nil <| G.inb <| G.reg <| W.q (mv rfl) rfl <| W.q (ad rfl rfl (by omega)) rfl <| W.q (sa rfl) rfl <| W.nil <| (ih (k + 1) (by omega) (by omega)).weak (Sub.co rfl ?_ <| Sub.cons rfl <| Sub.cons rfl <| Sub.nil _) .rfl
    all_goals clear ih
    · show i64 _ = i64 _; grind
  · -- h1 False
    refine G.exit rfl <| G.seq <| G.reg <| W.q (mv rfl) rfl <| W.q (mv rfl) rfl <| W.q (ln Try.esl22 rfl) rfl <| W.q (shi Try.esl22 rfl rfl (by omega) (by omega)) rfl <| W.q (mv rfl) rfl <| W.q (sa rfl) rfl <| W.q (sa rfl) rfl <| W.nil <| ret2 hX Try.results27 rfl rfl fun w hm => done (H := [sl (some ⟨b1, 0, none⟩) (bs.length + 40) (bs.length + 40) 5 1 (B (spareB bs))]) rfl ⟨b1, rfl, rfl⟩ (by have := hm.rowB (by rw [spk_len bs _ (by omega)]; omega); rwa [spk_len bs _ (by omega), spk_end bs k (by omega)] at this)


set_option maxRecDepth 100000 in
theorem ref01_Kept (a : Option Addr) (len cap : Nat) (bs : List UInt8) (w : World) (hl : RdL w a (B (spareB bs))) (hlen : len = bs.length + 40) (hb : bs.length ≤ 140737488351232) (a2 : Option Addr) (cap2 : Nat) (hl2 : RdL w a2 (B bs)) :
    Ret Try.prog 28 [.slice a len cap, .slice a2 bs.length cap2] w (fun v _ => v = .bool true) := by
  refine enter [] (Mem.nil _) Try.func28 rfl Try.ntmps28 rfl (fun X hX => ?_)
  have hw := hX.w0; subst hw
  refine G.seq <| G.reg <| W.q (sa rfl) rfl <| W.nil <| G.seq <| G.seq <| G.reg <| W.q (mv rfl) rfl <| W.q (ln Try.esl22 rfl) rfl <| W.q (mv rfl) rfl <| W.q (ln Try.esl22 rfl) rfl <| W.q (ad rfl rfl (by omega)) rfl <| W.q (ne rfl rfl) rfl <| W.nil <| G.cdd rfl (fun h1 => ?_) (fun h1 => ?_)
  · -- h1 True
    omega
  · -- h1 False
    refine G.skip <| G.seq <| G.seq <| G.reg <| W.q (sa rfl) rfl <| W.nil <| G.blk <| G.loop1 (α := Nat) (fun k => k ≤ len) (fun k => [(5, i64 k)]) (fun k => []) (fun k => len - k) [(0, _), (1, _)] _ 0 (by omega) (Sub.cons rfl <| Sub.cons rfl <| Sub.cons rfl <| Sub.nil _) .rfl (fun k hk ih => ?_)
    refine G.seq <| G.seq <| G.reg <| W.q (mv rfl) rfl <| W.q (mv rfl) rfl <| W.q (ln Try.esl22 rfl) rfl <| W.q (lt rfl rfl) rfl <| W.nil <| G.cdd rfl (fun h2 => ?_) (fun h2 => ?_)
    · -- h2 True
      have hk40 : k < (spareB bs).length := by rw [spareB_len]; omega
      obtain ⟨b, o, rfl, hx⟩ := hl.at k hk40
      generalize hxe : (spareB bs)[k] = x at hx
      have hxg : (spareB bs)[k]? = some x := by rw [← hxe]; exact List.getElem?_eq_getElem hk40
      refine G.skip <| G.seq <| G.blk <| G.seq <| G.regq Try.mixed (by kernel_rfl) <| W.q (mv rfl) rfl <| W.q (mv rfl) rfl <| W.q (ln Try.esl22 rfl) rfl <| W.q (lt rfl rfl) rfl <| W.q (mv rfl) rfl <| W.sp (t := _) 22 rfl (fun g3 => ?_) (fun g3 => ?_)
      · -- True
        have g3' : k < bs.length := by simpa using g3
        obtain ⟨b', o', rfl, hy⟩ := hl2.at k g3'
        rw [spareB_lo g3'] at hxg
        obtain rfl := Option.some.inj hxg
        refine W.qg rfl rfl g3 (mv rfl) rfl <| W.qg rfl rfl g3 (mv rfl) rfl <| W.qg rfl rfl g3 (ia Try.esl22 rfl rfl (by omega) (by omega)) rfl <| W.qg rfl rfl g3 (ld Try.sc5 rfl (Cell.old rfl (by simpa using hx))) rfl <| W.qg rfl rfl g3 (mv rfl) rfl <| W.qg rfl rfl g3 (mv rfl) rfl <| W.qg rfl rfl g3 (ia Try.esl22 rfl rfl (by omega) (by omega)) rfl <| W.qg rfl rfl g3 (ld Try.sc5 rfl (Cell.old rfl (by simpa using hy))) rfl <| W.qg rfl rfl g3 (ne rfl rfl) rfl <| W.q (pkt rfl g3 rfl) rfl <| W.q (mv rfl) rfl <| W.sp (t := _) 33 rfl (fun g4 => ?_) (fun g4 => ?_)
        · -- True
          simp at g4
        · -- False
          refine W.qg rfl rfl g4 (mv rfl) rfl <| W.qg rfl rfl g4 (mv rfl) rfl <| W.qg rfl rfl g4 (ln Try.esl22 rfl) rfl <| W.qg rfl rfl g4 (ge rfl rfl) rfl <| W.qg rfl rfl g4 (mv rfl) rfl <| W.sp (t := _) 38 rfl (fun g5 => ?_) (fun g5 => ?_)
          · -- True
            simp at g5; omega
          · -- False
            refine W.sk rfl rfl g5 rfl <| W.sk rfl rfl g5 rfl <| W.sk rfl rfl g5 rfl <| W.sk rfl rfl g5 rfl <| W.sk rfl rfl g5 rfl <| W.sk rfl rfl g5 rfl <| W.sk rfl rfl g5 rfl <| W.sk rfl rfl g5 rfl <| W.sk rfl rfl g5 rfl <| W.qg rfl rfl g4 (pkf rfl g5 rfl) rfl <| W.q (pkf rfl g4 rfl) rfl <| W.nilq <| G.cdf rfl rfl <| G.skip <| G.inb <| G.reg <| W.q (mv rfl) rfl <| W.q (ad rfl rfl (by omega)) rfl <| W.q (sa rfl) rfl <| W.nil <| (ih (k + 1) (by omega) (by omega)).weak (Sub.cons rfl <| Sub.cons rfl <| Sub.cons rfl <| Sub.nil _) .rfl
      · -- False
        refine W.sk rfl rfl g3 rfl <| W.sk rfl rfl g3 rfl <| W.sk rfl rfl g3 rfl <| W.sk rfl rfl g3 rfl <| W.sk rfl rfl g3 rfl <| W.sk rfl rfl g3 rfl <| W.sk rfl rfl g3 rfl <| W.sk rfl rfl g3 rfl <| W.sk rfl rfl g3 rfl <| W.q (pkf rfl g3 rfl) rfl <| W.q (mv rfl) rfl <| W.qg rfl rfl rfl (mv rfl) rfl <| W.qg rfl rfl rfl (mv rfl) rfl <| W.qg rfl rfl rfl (ln Try.esl22 rfl) rfl <| W.qg rfl rfl rfl (ge rfl rfl) rfl <| W.qg rfl rfl rfl (mv rfl) rfl <| W.sp (t := _) 38 rfl (fun g6 => ?_) (fun g6 => ?_)
        · -- True
          have g7' : bs.length ≤ k := by simpa using g6
          rw [spareB_hi g7' (by omega), spb] at hxg
          obtain rfl := Option.some.inj hxg
          refine W.qg rfl rfl g6 (mv rfl) rfl <| W.qg rfl rfl g6 (mv rfl) rfl <| W.qg rfl rfl g6 (ia Try.esl22 rfl rfl (by omega) (by omega)) rfl <| W.qg rfl rfl g6 (ld Try.sc5 rfl (Cell.old rfl (by simpa using hx))) rfl <| W.qg rfl rfl g6 (mv rfl) rfl <| W.qg rfl rfl g6 (rm rfl rfl (by omega) (by omega)) rfl <| W.qg rfl rfl g6 (ad rfl rfl (by omega)) rfl <| W.qg rfl rfl g6 (cv_i64_u8 Try.underlying3 Try.underlying5 rfl) rfl <| W.qg rfl rfl g6 (ne rfl rfl) rfl <| W.qg rfl rfl rfl (pkt rfl g6 rfl) rfl <| W.q (pkf rfl rfl rfl) rfl <| W.nilq <| G.cdd rfl (fun h7 => ?_) (fun h7 => ?_)
          · -- h7 True
            exact absurd rfl h7
          · -- h7 False
            refine G.skip <| G.inb <| G.reg <| W.q (mv rfl) rfl <| W.q (ad rfl rfl (by omega)) rfl <| W.q (sa rfl) rfl <| W.nil <| (ih (k + 1) (by omega) (by omega)).weak (Sub.cons rfl <| Sub.cons rfl <| Sub.cons rfl <| Sub.nil _) .rfl
        · -- False
          refine W.sk rfl rfl g6 rfl <| W.sk rfl rfl g6 rfl <| W.sk rfl rfl g6 rfl <| W.sk rfl rfl g6 rfl <| W.sk rfl rfl g6 rfl <| W.sk rfl rfl g6 rfl <| W.sk rfl rfl g6 rfl <| W.sk rfl rfl g6 rfl <| W.sk rfl rfl g6 rfl <| W.qg rfl rfl rfl (pkf rfl g6 rfl) rfl <| W.q (pkf rfl rfl rfl) rfl <| W.nilq <| G.cdf rfl rfl <| G.skip <| G.inb <| G.reg <| W.q (mv rfl) rfl <| W.q (ad rfl rfl (by omega)) rfl <| W.q (sa rfl) rfl <| W.nil <| (ih (k + 1) (by omega) (by omega)).weak (Sub.cons rfl <| Sub.cons rfl <| Sub.cons rfl <| Sub.nil _) .rfl
    · -- h2 False
      refine G.exit rfl <| G.seq <| G.reg <| W.q (sa rfl) rfl <| W.nil <| ret1 hX Try.results28 rfl fun w hm => done rfl rfl hm
end Go.Proofs.Ytjalojbihpdghaa
