/- Bytes cut into pieces. -/
import Derived.Test.YtjalojbihpdghaaTape2
namespace Go.Proofs.Ytjalojbihpdghaa
open Go Go.Eng
set_option linter.unusedVariables false

def cutR (bs : List UInt8) (sizes : List Int) : List (List UInt8) × Int :=
  if ∃ n ∈ sizes, n < 0 then ([], 1) else if upTo sizes sizes.length = bs.length then (cuts bs 0 (sizes.map Int.toNat), 0) else ([], 2)
theorem RdL.subd {w : World} {a : Option Addr} {bs : List UInt8} (h : RdL w a (B bs)) (l cap : Nat) (hl : bs.length ≤ cap) : RdL w (slA a l cap 1) (B (bs.drop l)) := by
  have := h.slA (l := l) (cap := cap) (s := 1) (by simp; omega)
  simpa [B, List.map_drop] using this


set_option maxRecDepth 100000 in
theorem codec_Cut (a : Option Addr) (cap : Nat) (bs : List UInt8) (w : World) (hl : RdL w a (B bs)) (hb : bs.length ≤ 140737488351232) (hcap : bs.length ≤ cap) (qa : Option Addr) (scap : Nat) (sizes : List Int) (hs : RdL w qa (sizes.map i64)) (hn : ∀ n ∈ sizes, n ≤ 9223372036854775807) (hsl : sizes.length * 24 ≤ 140737488351232) :
    Ret Try.prog 39 [.slice a bs.length cap, .slice qa sizes.length scap] w (fun v J => ∃ v1, NewBB (cutR bs sizes).1 v1 J ∧ v = .tuple #[v1, i64 (cutR bs sizes).2]) := by
  refine enter [] (Mem.nil _) Try.func39 rfl Try.ntmps39 rfl (fun X hX => ?_)
  have hw := hX.w0; subst hw
  have hu0 : upTo sizes 0 = 0 := rfl
  refine G.seq <| G.reg <| W.q (sa rfl) rfl <| W.q (sa rfl) rfl <| W.nil <| G.seq <| G.seq <| G.reg <| W.q (mv rfl) rfl <| W.q (ln Try.esl62 rfl) rfl <| W.q (mv rfl) rfl <| W.nil <| G.blk <| G.loop1 (α := Nat) (fun k => k ≤ sizes.length ∧ ∀ n ∈ sizes.take k, ¬ n < 0) (fun k => [(13, i64 k)]) (fun k => []) (fun k => sizes.length - k) [(0, _), (1, _), (11, _), (12, _)] _ 0 (by simp) (Sub.cons rfl <| Sub.cons rfl <| Sub.cons rfl <| Sub.cons rfl <| Sub.cons rfl <| Sub.nil _) .rfl (fun k hk ih => ?_)
  refine G.seq <| G.reg <| W.q (lt rfl rfl) rfl <| W.nil <| G.seq <| G.cdd rfl (fun h1 => ?_) (fun h1 => ?_)
  · -- h1 True
    have h1' : k < sizes.length := by omega
    obtain ⟨zb, zo, rfl, hx⟩ := hs.at k h1'
    refine G.skip <| G.seq <| G.blk <| G.seq <| G.reg <| W.q (ia Try.esl62 rfl rfl (by omega) (by omega)) rfl <| W.q (ld Try.sc3 rfl (Cell.old rfl (by simpa using hx))) rfl <| W.q (sa rfl) rfl <| W.nil <| G.seq <| G.reg <| W.q (mv rfl) rfl <| W.q (lt rfl rfl) rfl <| W.nil <| G.cdd rfl (fun h2 => ?_) (fun h2 => ?_)
    · -- h2 True
      refine G.seq <| G.reg <| W.q (sa rfl) rfl <| W.q (sa rfl) rfl <| W.nil <| ret2 hX Try.results39 rfl rfl fun w hm => done rfl ⟨_, ⟨none, 0, [], ?_, rfl, rfl⟩, ?_⟩ (hm.slNil 22 1)
      all_goals have e : cutR bs sizes = ([], 1) := by rw [cutR, if_pos ⟨_, List.getElem_mem h1', h2⟩]
      all_goals rw [e]
      all_goals rfl
    · -- h2 False
      refine G.skip <| G.inb <| G.reg <| W.q (ad rfl rfl (by omega)) rfl <| W.q (mv rfl) rfl <| W.nil <| (ih (k + 1) ⟨by omega, neg_step hk.2 h1' h2⟩ (by omega)).weak (Sub.cons rfl <| Sub.cons rfl <| Sub.cons rfl <| Sub.cons rfl <| Sub.cons rfl <| Sub.nil _) .rfl
  · -- h1 False
    have hneg : ∀ n ∈ sizes, ¬ n < 0 := by
      have := hk.2
      rwa [List.take_of_length_le (by omega)] at this
    refine G.exit rfl <| G.seq <| G.reg <| W.q (sa rfl) rfl <| W.nil <| G.seq <| G.seq <| G.reg <| W.q (mv rfl) rfl <| W.q (ln Try.esl62 rfl) rfl <| W.q (mv rfl) rfl <| W.nil <| G.blk <| G.loop6 (α := Nat) (β := Option Addr) (γ := Nat) (δ := List Pc) (ε := Option Addr) (ζ := Nat) (fun k a1 c1 ps a0 c0 => k ≤ sizes.length ∧ ps.length = k ∧ ps.map (fun p => p.2.2) = cuts bs 0 ((sizes.take k).map Int.toNat) ∧ upTo sizes k ≤ bs.length ∧ RdL X.w0 a0 (B (bs.drop (upTo sizes k))) ∧ bs.length - upTo sizes k ≤ c0) (fun k a1 c1 ps a0 c0 => [(0, .slice a0 (bs.length - upTo sizes k) c0), (8, .slice a1 ps.length c1), (22, i64 k)]) (fun k a1 c1 ps a0 c0 => [sl a1 ps.length c1 22 1 (ps.map pcV)] ++ ps.map pcI) (fun k a1 c1 ps a0 c0 => sizes.length - k) [(20, _), (21, _)] [] 0 none 0 [] a cap ⟨by omega, rfl, rfl, by rw [hu0]; omega, by rw [hu0]; exact hl, by omega⟩ (Sub.cons rfl <| Sub.cons rfl <| Sub.cons rfl <| Sub.cons rfl <| Sub.cons rfl <| Sub.nil _) (fun w hm => hm.slNil 22 1) (fun k a1 c1 ps a0 c0 hk ih2 => ?_)
    refine G.seq <| G.reg <| W.q (lt rfl rfl) rfl <| W.nil <| G.seq <| G.cdd rfl (fun h3 => ?_) (fun h3 => ?_)
    · -- h3 True
      have h3' : k < sizes.length := by omega
      obtain ⟨zb, zo, rfl, hx⟩ := hs.at k h3'
      have hneg1 := hneg _ (List.getElem_mem h3')
      have hle := hn _ (List.getElem_mem h3')
      have hup := upTo_succ sizes k h3'
      have hmo := upTo_mono sizes (k + 1)
      have hN : ∀ L, allNew L = true → allNew (L ++ (([sl a1 ps.length c1 22 1 (ps.map pcV)] ++ ps.map pcI) ++ [])) = true := fun L hL => allNew_append hL (allNew_append (allNew_append rfl (pcI_new ps)) rfl)
      generalize hsk : sizes[k] = sk at hx hle hup hneg1
      refine G.skip <| G.seq <| G.blk <| G.seq <| G.reg <| W.q (ia Try.esl62 rfl rfl (by omega) (by omega)) rfl <| W.q (ld Try.sc3 rfl (Cell.old (hN [] rfl) (by simpa using hx))) rfl <| W.q (sa rfl) rfl <| W.nil <| G.seq <| G.seq <| G.reg <| W.q (mv rfl) rfl <| W.q (mv rfl) rfl <| W.q (ln Try.esl22 rfl) rfl <| W.q (gt rfl rfl) rfl <| W.nil <| G.cdd rfl (fun h4 => ?_) (fun h4 => ?_)
      · -- h4 True
        refine G.seq <| G.reg <| W.q (sa rfl) rfl <| W.q (sa rfl) rfl <| W.nil <| ret2 hX Try.results39 rfl rfl fun w hm => done rfl ⟨_, ⟨none, 0, [], ?_, rfl, rfl⟩, ?_⟩ (Mem.slNil ((hm.sublist (H' := []) (by simp) (fun it hi => .inr (List.all_eq_true.1 (hN [] rfl) it (by simpa using hi))))) 22 1)
        all_goals have e : cutR bs sizes = ([], 2) := by rw [cutR, if_neg (by rintro ⟨n, h6, h7⟩; exact hneg n h6 h7), if_neg (by have := hneg1; omega)]
        all_goals rw [e]
        all_goals rfl
      · -- h4 False
        have hlen : sk.toNat = ((bs.drop (upTo sizes k)).take sk.toNat).length := by simp; omega
        refine G.skip <| G.seq <| G.reg <| W.q (mv rfl) rfl <| W.q (mv rfl) rfl <| W.q (mv rfl) rfl <| W.q (shi Try.esl22 rfl rfl (by omega) (by omega)) rfl <| ?_
        rw [hlen]
        refine W.fn Try.ca57 rfl (fun w hm => bytes_Clone a0 c0 ((bs.drop (upTo sizes k)).take sk.toNat) w (by have := (hm.rd (hN [] rfl) hk.2.2.2.2.1).take sk.toNat; simpa [B, List.map_take] using this) (by simp; omega)) rfl fun v J hv hJ => ?_
        obtain ⟨a2, c2, rfl, rfl⟩ := hv
        refine W.bs (cs := [_]) Try.underlying73 Try.sz22 Try.zrl22 rfl rfl rfl rfl fun b1 => W.ap Try.underlying73 Try.underlying73 Try.sz22 Try.zln22 Try.by22 rfl rfl (fun _ _ => (.tl <| .tl <| .hd)) (RdS.row .hd) rfl rfl (by simp) (by omega) (by omega) rfl fun a3 c3 => W.q (sa rfl) rfl <| W.nil <| G.reg <| W.q (mv rfl) rfl <| W.q (mv rfl) rfl <| W.q (slo Try.esl22 rfl rfl (by omega) (by omega)) rfl <| W.q (sa rfl) rfl <| W.nil <| G.inb <| G.reg <| W.q (ad rfl rfl (by omega)) rfl <| W.q (mv rfl) rfl <| W.nil <| (ih2 (k + 1) a3 c3 (ps ++ [(a2, c2, (bs.drop (upTo sizes k)).take sk.toNat)]) (slA a0 sk.toNat c0 1) (c0 - sk.toNat) ⟨by omega, by simp; omega, by rw [List.map_append, hk.2.2.1, List.take_succ_eq_append_getElem h3', List.map_append, hsk]; simp only [List.map_cons, List.map_nil]; rw [cuts_snoc]; simp [upTo], by omega, by rw [hup, ← List.drop_drop]; exact RdL.subd hk.2.2.2.2.1 _ _ (by simp; omega), by omega⟩ (by omega)).weak (Sub.co rfl ?_ <| Sub.co rfl ?_ <| Sub.cons rfl <| Sub.cons rfl <| Sub.cons rfl <| Sub.nil _) (fun w hm => ent_bb0 ps _ [] (Dr.ent (.drop rfl .rfl) w hm))
        all_goals clear ih2
        · show Value.slice _ _ _ = Value.slice _ _ _; rw [hup]; congr 1; omega
        · show Value.slice _ _ _ = _; rw [List.length_append]; rfl
    · -- h3 False
      refine G.exit rfl <| G.seq <| G.seq <| G.reg <| W.q (mv rfl) rfl <| W.q (ln Try.esl22 rfl) rfl <| W.q (gt rfl rfl) rfl <| W.nil <| G.cdd rfl (fun h5 => ?_) (fun h5 => ?_)
      · -- h5 True
        refine G.seq <| G.reg <| W.q (sa rfl) rfl <| W.q (sa rfl) rfl <| W.nil <| ret2 hX Try.results39 rfl rfl fun w hm => done rfl ⟨_, ⟨none, 0, [], ?_, rfl, rfl⟩, ?_⟩ (Mem.slNil ((hm.sublist (H' := []) (by simp) (fun it hi => .inr (List.all_eq_true.1 (allNew_append (allNew_append (H := [sl a1 ps.length c1 22 1 (ps.map pcV)]) rfl (pcI_new ps)) (J := []) rfl) it (by simpa using hi))))) 22 1)
        all_goals have hkl : k = sizes.length := by omega
        all_goals have e : cutR bs sizes = ([], 2) := by rw [cutR, if_neg (by rintro ⟨n, h6, h7⟩; exact hneg n h6 h7), if_neg (by rw [← hkl]; omega)]
        all_goals rw [e]
        all_goals rfl
      · -- h5 False
        refine G.skip <| G.seq <| G.reg <| W.q (mv rfl) rfl <| W.q (sa rfl) rfl <| W.q (sa rfl) rfl <| W.nil <| ret2 hX Try.results39 rfl rfl fun w hm => done (H := sl a1 ps.length c1 22 1 (ps.map pcV) :: ps.map pcI) (allNew_append (H := [_]) rfl (pcI_new ps)) ⟨_, ⟨a1, c1, ps, ?_, rfl, rfl⟩, ?_⟩ (by simpa using hm)
        all_goals have hkl : k = sizes.length := by omega
        all_goals have e : cutR bs sizes = (cuts bs 0 (sizes.map Int.toNat), 0) := by rw [cutR, if_neg (by rintro ⟨n, h6, h7⟩; exact hneg n h6 h7), if_pos (by rw [← hkl]; omega)]
        all_goals rw [e]
        rw [hk.2.2.1, List.take_of_length_le (by omega)]
end Go.Proofs.Ytjalojbihpdghaa
