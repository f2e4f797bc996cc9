/- Bytes copied, compared and turned. -/
import Derived.Test.YtjalojbihpdghaaTab
namespace Go.Proofs.Ytjalojbihpdghaa
open Go Go.Eng
set_option linter.unusedVariables false

/-- A new row of bytes. -/
def NewB (bs : List UInt8) (v : Value) (J : List It) : Prop := ∃ a cap, v = .slice a bs.length cap ∧ J = [sl a bs.length cap 5 1 (B bs)]
theorem RdL.none_nil {w : World} {cs : List Value} (h : RdL w none cs) : cs = [] := by
  cases cs with
  | nil => rfl
  | cons c cs => obtain ⟨b, o, h, _⟩ := h 0 c rfl; cases h
theorem RdL.none_nilB {w : World} {bs : List UInt8} (h : RdL w none (B bs)) : bs = [] := by
  have := RdL.none_nil h
  simpa using this
theorem nil_len {w : World} {a : Option Addr} {bs : List UInt8} (h : RdL w a (B bs)) : a = none → bs.length = 0 := by
  rintro rfl; rw [RdL.none_nilB h]; rfl


set_option maxRecDepth 100000 in
theorem bytes_Clone (a : Option Addr) (cap : Nat) (bs : List UInt8) (w : World) (hl : RdL w a (B bs)) (hb : bs.length ≤ 140737488351232) :
    Ret Try.prog 57 [.slice a bs.length cap] w (NewB bs) := by
  refine enter [] (Mem.nil _) Try.func57 rfl Try.ntmps57 rfl (fun X hX => ?_)
  have hw := hX.w0; subst hw
  refine G.seq <| G.reg <| W.q (sa rfl) rfl <| W.nil <| G.seq <| G.seq <| G.reg <| W.q (mv rfl) rfl <| W.q (eqnil Try.underlying22 rfl) rfl <| W.nil <| G.cdd rfl (fun h1 => ?_) (fun h1 => ?_)
  · -- h1 True
    refine G.seq <| G.reg <| W.q (sa rfl) rfl <| W.nil <| ret1 hX Try.results57 rfl fun w hm => done (H := [sl none 0 0 5 1 []]) rfl ?_ (hm.slNil _ _)
    subst h1
    rw [RdL.none_nilB hl]
    exact ⟨none, 0, rfl, rfl⟩
  · -- h1 False
    refine G.skip <| G.seq <| G.reg <| W.bs Try.underlying22 Try.sz5 Try.zrl5 rfl rfl rfl rfl fun b1 => W.q (mv rfl) rfl <| W.ent (Ent.rowSl (m := 0) (cap := 0) (s := 1) (Nat.le_refl _) (by omega) (by simp [maxLen])) <| W.ap Try.underlying22 Try.underlying22 Try.sz5 Try.zln5 Try.by5 rfl rfl (fun _ _ => .hd) (RdS.old rfl hl) (B_len bs) (B_one bs) (nil_len hl) (by omega) (by omega) rfl fun a1 cap1 => W.q (sa rfl) rfl <| W.nil <| ret1 hX Try.results57 rfl fun w hm => done rfl ⟨a1, cap1, ?_, ?_⟩ hm
    · rw [Nat.zero_add]
    · rw [Nat.zero_add]; rfl


set_option maxRecDepth 100000 in
theorem ref01_Copy (a : Option Addr) (cap : Nat) (bs : List UInt8) (w : World) (hl : RdL w a (B bs)) (hb : bs.length ≤ 140737488351232) :
    Ret Try.prog 13 [.slice a bs.length cap] w (NewB bs) := by
  refine enter [] (Mem.nil _) Try.func13 rfl Try.ntmps13 rfl (fun X hX => ?_)
  have hw := hX.w0; subst hw
  refine G.seq <| G.reg <| W.q (sa rfl) rfl <| W.nil <| G.seq <| G.reg <| W.bs Try.underlying22 Try.sz5 Try.zrl5 rfl rfl rfl rfl fun b1 => W.q (mv rfl) rfl <| W.ent (Ent.rowSl (m := 0) (cap := 0) (s := 1) (Nat.le_refl _) (by omega) (by simp [maxLen])) <| W.ap Try.underlying22 Try.underlying22 Try.sz5 Try.zln5 Try.by5 rfl rfl (fun _ _ => .hd) (RdS.old rfl hl) (B_len bs) (B_one bs) (nil_len hl) (by omega) (by omega) rfl fun a1 cap1 => W.q (sa rfl) rfl <| W.nil <| ret1 hX Try.results13 rfl fun w hm => done rfl ⟨a1, cap1, ?_, ?_⟩ hm
  · rw [Nat.zero_add]
  · rw [Nat.zero_add]; rfl


set_option maxRecDepth 100000 in
theorem ref01_Equal (a : Option Addr) (cap : Nat) (bs : List UInt8) (w : World) (hl : RdL w a (B bs)) (hb : bs.length ≤ 140737488351232) (a2 : Option Addr) (cap2 : Nat) (cs : List UInt8) (hl2 : RdL w a2 (B cs)) :
    Ret Try.prog 15 [.slice a bs.length cap, .slice a2 cs.length cap2] w (fun v _ => v = .bool (decide (bs = cs))) := by
  refine enter [] (Mem.nil _) Try.func15 rfl Try.ntmps15 rfl (fun X hX => ?_)
  have hw := hX.w0; subst hw
  refine G.seq <| G.reg <| W.q (sa rfl) rfl <| W.nil <| G.seq <| G.seq <| G.reg <| W.q (mv rfl) rfl <| W.q (ln Try.esl22 rfl) rfl <| W.q (mv rfl) rfl <| W.q (ln Try.esl22 rfl) rfl <| W.q (ne rfl rfl) rfl <| W.nil <| G.cdd rfl (fun h1 => ?_) (fun h1 => ?_)
  · -- h1 True
    refine G.seq <| G.reg <| W.q (sa rfl) rfl <| W.nil <| ret1 hX Try.results15 rfl fun w hm => done rfl ?_ hm
    rw [decide_eq_false (fun h => h1 (by rw [h]))]
  · -- h1 False
    have h1' : bs.length = cs.length := by omega
    refine G.skip <| G.seq <| G.seq <| G.reg <| W.q (sa rfl) rfl <| W.nil <| G.blk <| G.loop1 (α := Nat) (fun k => k ≤ bs.length ∧ bs.take k = cs.take k) (fun k => [(5, i64 k)]) (fun k => []) (fun k => bs.length - k) [(0, _), (1, _)] _ 0 (by simp) (Sub.cons rfl <| Sub.cons rfl <| Sub.cons rfl <| Sub.nil _) .rfl (fun k hk ih => ?_)
    refine G.seq <| G.seq <| G.reg <| W.q (mv rfl) rfl <| W.q (mv rfl) rfl <| W.q (ln Try.esl22 rfl) rfl <| W.q (lt rfl rfl) rfl <| W.nil <| G.cdd rfl (fun h2 => ?_) (fun h2 => ?_)
    · -- h2 True
      have h2' : k < bs.length := by omega
      have h2'' : k < cs.length := by omega
      obtain ⟨b, o, rfl, hc⟩ := hl.at k h2'
      obtain ⟨b', o', rfl, hc'⟩ := hl2.at k h2''
      generalize hx : bs[k] = x at hc
      generalize hy : cs[k] = y at hc'
      refine G.skip <| G.seq <| G.blk <| G.seq <| G.regq Try.mixed (by kernel_rfl) <| W.q (mv rfl) rfl <| W.q (mv rfl) rfl <| W.q (ia Try.esl22 rfl rfl (by omega) (by omega)) rfl <| W.q (ld Try.sc5 rfl (Cell.old rfl (by simpa using hc))) rfl <| W.q (mv rfl) rfl <| W.q (mv rfl) rfl <| W.q (ia Try.esl22 rfl rfl (by omega) (by omega)) rfl <| W.q (ld Try.sc5 rfl (Cell.old rfl (by simpa using hc'))) rfl <| W.q (ne rfl rfl) rfl <| W.nilq <| G.cdd rfl (fun h3 => ?_) (fun h3 => ?_)
      · -- h3 True
        refine G.seq <| G.reg <| W.q (sa rfl) rfl <| W.nil <| ret1 hX Try.results15 rfl fun w hm => done rfl ?_ hm
        rw [decide_eq_false]
        rintro rfl
        rw [hx] at hy
        exact h3 (by rw [hy])
      · -- h3 False
        have q : bs[k] = cs[k] := by
          rw [hx, hy]; apply UInt8.toNat_inj.1; omega
        refine G.skip <| G.inb <| G.reg <| W.q (mv rfl) rfl <| W.q (ad rfl rfl (by omega)) rfl <| W.q (sa rfl) rfl <| W.nil <| (ih (k + 1) ⟨by omega, by rw [List.take_succ_eq_append_getElem h2', List.take_succ_eq_append_getElem h2'', hk.2, q]⟩ (by omega)).weak (Sub.cons rfl <| Sub.cons rfl <| Sub.cons rfl <| Sub.nil _) .rfl
    · -- h2 False
      refine G.exit rfl <| G.seq <| G.reg <| W.q (sa rfl) rfl <| W.nil <| ret1 hX Try.results15 rfl fun w hm => done rfl ?_ hm
      rw [decide_eq_true]
      have := hk.2
      rw [List.take_of_length_le (by omega), List.take_of_length_le (by omega)] at this
      exact this
end Go.Proofs.Ytjalojbihpdghaa
