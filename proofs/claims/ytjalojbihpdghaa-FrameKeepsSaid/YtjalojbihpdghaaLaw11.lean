/- FrameSplits: the law's walk. -/
import Derived.Test.YtjalojbihpdghaaFrame3
namespace Go.Proofs.Ytjalojbihpdghaa
open Go Go.Eng
set_option linter.unusedVariables false

theorem RdPP.of {w0 w : World} {H : List It} {a : Option Addr} {cap : Nat} {ps : List Pp} (hm : Mem w0 w H) (hs : ∀ it ∈ (sl a ps.length cap 66 5 (ps.flatMap ppC) :: ps.map ppI), it ∈ H) (hb : ∀ x ∈ ps.map (·.1), x.data.length ≤ 140737488351232) : RdPP w a ps :=
  ⟨hm.slRd (m := ps.length) (cap := cap) (E := 66) (s := 5) (hs _ List.mem_cons_self), fun p hp => ⟨hm.slRd (hs (ppI p) (List.mem_cons_of_mem _ (List.mem_map_of_mem hp))), hb _ (List.mem_map_of_mem (f := (·.1)) hp)⟩⟩
theorem splitR_data (id : UInt64) (msg : List UInt8) : ∀ x ∈ (splitR id msg).1, x.data.length ≤ 450 := by
  unfold splitR
  split
  · simp
  · intro x hx
    obtain ⟨i, _, rfl⟩ := List.mem_map.1 hx
    simp [partAt]; omega
theorem splitR_len (id : UInt64) (msg : List UInt8) : (splitR id msg).1.length ≤ 16 := by
  unfold splitR
  split
  · simp
  · rename_i h
    obtain ⟨m, h1, _, h3, _⟩ := count_ok (n := msg.length) (Classical.byContradiction h)
    rw [h1]; simp; omega
def p11 : Pt := ⟨1, 258, 0, 1, [9]⟩
theorem p11_at : frameR p11 = (frameB p11, 0) ∧ (frameB p11).length = 480 ∧ (frameB p11)[16]? = some 1 ∧ (frameB p11)[18]? = some 1 ∧ (frameB p11)[26]? = some 1 ∧ (frameB p11)[27]? = some 2 ∧ (frameB p11)[29]? = some 1 ∧ (frameB p11)[30]? = some 9 := by
  refine ⟨?_, ?_⟩
  · rw [frameR, if_neg (by decide +kernel)]
  · decide +kernel
theorem count_451 : countR 451 = (2, 0) := by decide
theorem frame_Frame11 (b : Nat) (w : World) (hl : RdL w (some ⟨b, 0, none⟩) (B p11.data)) : Ret Try.prog 29 [.agg (ptC p11 (some ⟨b, 0, none⟩) 1).toArray] w (fun v J => ∃ v1, NewB (frameB p11) v1 J ∧ v = .tuple #[v1, i64 0]) := by
  have := frame_Frame p11 (some ⟨b, 0, none⟩) 1 w hl (by decide) (by decide)
  rwa [p11_at.1] at this
theorem frame_Count451 (w : World) : Ret Try.prog 51 [i64 451] w (fun v _ => v = .tuple #[i64 2, i64 0]) := by
  have := frame_Count 451 w
  rwa [count_451] at this


set_option maxRecDepth 100000 in
theorem law11_awake (w : World) :
    Ret Try.prog 22 [] w (fun v _ => v = .bool true) := by
  refine enter [] (Mem.nil _) Try.func22 rfl Try.ntmps22 rfl (fun X hX => ?_)
  have hw := hX.w0; subst hw
  refine G.seq <| G.reg <| W.q (sa rfl) rfl <| W.nil <| G.seq <| G.reg <| W.bs (cs := [_]) Try.underlying22 Try.sz5 Try.zrl5 rfl rfl rfl rfl fun b1 => W.q (bld (cs := [_, _, _, _, _]) Try.stp66 rfl rfl) rfl <| W.fn Try.ca29 rfl (fun w hm => frame_Frame11 b1 w (hm.rowRd .hd)) rfl fun v J hv hJ => ?_
  obtain ⟨v1, ⟨a1, c1, rfl, rfl⟩, rfl⟩ := hv
  obtain ⟨_, el, e1, e2, e3, e4, e5, e6⟩ := p11_at
  refine W.rdA (a := a1) (cells := B (frameB p11)) (Rdf.sl (m := (frameB p11).length) (cap := c1) (E := 5) (s := 1) (.head _)) (by rw [Bl]; omega) (fun ob oo ho => ?_)
  subst ho
  refine W.q (mv rfl) rfl <| W.q (ex rfl rfl) rfl <| W.q (ex rfl rfl) rfl <| W.q (sa rfl) rfl <| W.q (sa rfl) rfl <| W.nil <| G.seq <| G.reg <| W.fv Try.ca51 rfl (fun w hm => frame_Count451 w) rfl <| W.q (mv rfl) rfl <| W.q (ex rfl rfl) rfl <| W.q (ex rfl rfl) rfl <| W.q (sa rfl) rfl <| W.q (sa rfl) rfl <| W.nil <| G.seq <| G.reg <| W.q (mv rfl) rfl <| W.q (eq rfl rfl) rfl <| W.q (mv rfl) rfl <| W.sp (t := _) 17 rfl (fun g1 => ?_) (fun g1 => ?_)
  · -- True
    refine W.qg rfl rfl g1 (mv rfl) rfl <| W.qg rfl rfl g1 (eq rfl rfl) rfl <| W.q (pkt rfl g1 rfl) rfl <| W.q (mv rfl) rfl <| W.sp (t := _) 21 rfl (fun g2 => ?_) (fun g2 => ?_)
    · -- True
      refine W.qg rfl rfl g2 (mv rfl) rfl <| W.qg rfl rfl g2 (eq rfl rfl) rfl <| W.q (pkt rfl g2 rfl) rfl <| W.q (mv rfl) rfl <| W.sp (t := _) 25 rfl (fun g3 => ?_) (fun g3 => ?_)
      · -- True
        refine W.qg rfl rfl g3 (mv rfl) rfl <| W.qg rfl rfl g3 (ln Try.esl22 rfl) rfl <| W.qg rfl rfl g3 (eq rfl rfl) rfl <| W.q (pkt rfl g3 rfl) rfl <| W.q (mv rfl) rfl <| W.sp (t := _) 30 rfl (fun g4 => ?_) (fun g4 => ?_)
        · -- True
          refine W.qg rfl rfl g4 (mv rfl) rfl <| W.qg rfl rfl g4 (ia Try.esl22 rfl rfl (by omega) (by omega)) rfl <| W.qg rfl rfl g4 (ld Try.sc5 rfl ((Rdf.sl (m := (frameB p11).length) (cap := c1) (E := 5) (s := 1) (xs := B (frameB p11)) (.head _)).cellOf (B_get e1))) rfl <| W.qg rfl rfl g4 (eq rfl rfl) rfl <| W.q (pkt rfl g4 rfl) rfl <| W.q (mv rfl) rfl <| W.sp (t := _) 36 rfl (fun g5 => ?_) (fun g5 => ?_)
          · -- True
            refine W.qg rfl rfl g5 (mv rfl) rfl <| W.qg rfl rfl g5 (ia Try.esl22 rfl rfl (by omega) (by omega)) rfl <| W.qg rfl rfl g5 (ld Try.sc5 rfl ((Rdf.sl (m := (frameB p11).length) (cap := c1) (E := 5) (s := 1) (xs := B (frameB p11)) (.head _)).cellOf (B_get e2))) rfl <| W.qg rfl rfl g5 (eq rfl rfl) rfl <| W.q (pkt rfl g5 rfl) rfl <| W.q (mv rfl) rfl <| W.sp (t := _) 42 rfl (fun g6 => ?_) (fun g6 => ?_)
            · -- True
              refine W.qg rfl rfl g6 (mv rfl) rfl <| W.qg rfl rfl g6 (ia Try.esl22 rfl rfl (by omega) (by omega)) rfl <| W.qg rfl rfl g6 (ld Try.sc5 rfl ((Rdf.sl (m := (frameB p11).length) (cap := c1) (E := 5) (s := 1) (xs := B (frameB p11)) (.head _)).cellOf (B_get e3))) rfl <| W.qg rfl rfl g6 (eq rfl rfl) rfl <| W.q (pkt rfl g6 rfl) rfl <| W.q (mv rfl) rfl <| W.sp (t := _) 48 rfl (fun g7 => ?_) (fun g7 => ?_)
              · -- True
                refine W.qg rfl rfl g7 (mv rfl) rfl <| W.qg rfl rfl g7 (ia Try.esl22 rfl rfl (by omega) (by omega)) rfl <| W.qg rfl rfl g7 (ld Try.sc5 rfl ((Rdf.sl (m := (frameB p11).length) (cap := c1) (E := 5) (s := 1) (xs := B (frameB p11)) (.head _)).cellOf (B_get e4))) rfl <| W.qg rfl rfl g7 (eq rfl rfl) rfl <| W.q (pkt rfl g7 rfl) rfl <| W.q (mv rfl) rfl <| W.sp (t := _) 54 rfl (fun g8 => ?_) (fun g8 => ?_)
                · -- True
                  refine W.qg rfl rfl g8 (mv rfl) rfl <| W.qg rfl rfl g8 (ia Try.esl22 rfl rfl (by omega) (by omega)) rfl <| W.qg rfl rfl g8 (ld Try.sc5 rfl ((Rdf.sl (m := (frameB p11).length) (cap := c1) (E := 5) (s := 1) (xs := B (frameB p11)) (.head _)).cellOf (B_get e5))) rfl <| W.qg rfl rfl g8 (eq rfl rfl) rfl <| W.q (pkt rfl g8 rfl) rfl <| W.q (mv rfl) rfl <| W.sp (t := _) 60 rfl (fun g9 => ?_) (fun g9 => ?_)
                  · -- True
                    refine W.qg rfl rfl g9 (mv rfl) rfl <| W.qg rfl rfl g9 (ia Try.esl22 rfl rfl (by omega) (by omega)) rfl <| W.qg rfl rfl g9 (ld Try.sc5 rfl ((Rdf.sl (m := (frameB p11).length) (cap := c1) (E := 5) (s := 1) (xs := B (frameB p11)) (.head _)).cellOf (B_get e6))) rfl <| W.qg rfl rfl g9 (eq rfl rfl) rfl <| W.q (pkt rfl g9 rfl) rfl <| W.q (sa rfl) rfl <| W.nil <| ret1 hX Try.results22 rfl fun w hm => done (H := []) rfl rfl (Dr.ent (Dr.new rfl) w hm)
                  · -- False
                    simp at g9
                · -- False
                  simp at g8
              · -- False
                simp at g7
            · -- False
              simp at g6
          · -- False
            simp at g5
        · -- False
          simp at g4; omega
      · -- False
        simp at g3
    · -- False
      simp at g2
  · -- False
    simp at g1


end Go.Proofs.Ytjalojbihpdghaa
