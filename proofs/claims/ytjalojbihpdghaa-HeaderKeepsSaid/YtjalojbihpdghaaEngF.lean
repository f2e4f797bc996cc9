/- The engine, eighth part: contracts of functions that turn items of their caller's, the rest of its list being a frame. -/
import Derived.Test.YtjalojbihpdghaaEngT
namespace Go.Eng
open Go

theorem Dr.allS {J L H H' : List It} (hn : allNew J = true) (hL : L = J ++ H) (h : Dr H H') : Dr L H' := hL ▸ Dr.all hn h
/-- A reading that the list's tail bears. -/
def Rdf (w0 : World) (H : List It) (a : Option Addr) (cells : List Value) : Prop := ∀ L w, allNew L = true → Mem w0 w (L ++ H) → RdL w a cells
section
variable {w0 : World} {H : List It} {a : Option Addr} {cells : List Value}
theorem Rdf.rd (h : Rdf w0 H a cells) : RdS w0 H a cells := fun w hm => h [] w rfl hm
theorem Rdf.at {w : World} (h : Rdf w0 H a cells) (hm : Mem w0 w H) : RdL w a cells := h [] w rfl hm
theorem Rdf.up {it : It} (h : Rdf w0 H a cells) (hn : it.new = true) : Rdf w0 (it :: H) a cells := fun L w hL hm =>
  h (L ++ [it]) w (allNew_append hL (by simp [allNew, hn])) (by simpa using hm)
theorem Rdf.upJ {J : List It} (h : Rdf w0 H a cells) (hn : allNew J = true) : Rdf w0 (J ++ H) a cells := fun L w hL hm =>
  h (L ++ J) w (allNew_append hL hn) (by simpa using hm)
theorem Rdf.old (hn : allNew H = true) (h : RdL w0 a cells) : Rdf w0 H a cells := fun _ _ hL hm => hm.rd (allNew_append hL hn) h
theorem Rdf.sl {m cap E s : Nat} {xs : List Value} (hi : sl a m cap E s xs ∈ H) : Rdf w0 H a xs := fun L _ _ hm => hm.slRd (List.mem_append_right L hi)
theorem Rdf.row {b E : Nat} {fr : Nat × Nat} {cs : List Value} (h : Has H b (.cells cs.toArray E fr)) : Rdf w0 H (some ⟨b, 0, none⟩) cs := fun L _ _ hm =>
  hm.rowRd (let ⟨f, hf⟩ := h; ⟨f, List.mem_append_right L hf⟩)
theorem Rdf.take (h : Rdf w0 H a cells) (k : Nat) : Rdf w0 H a (cells.take k) := fun L w hL hm => (h L w hL hm).take k
theorem Rdf.slA {l cap s : Nat} (h : Rdf w0 H a cells) (hl : cells.length ≤ cap * s) : Rdf w0 H (slA a l cap s) (cells.drop (l * s)) := fun L w hL hm => (h L w hL hm).slA hl
theorem Rdf.nil : Rdf w0 H a [] := fun _ _ _ _ i v hv => by simp at hv
theorem Rdf.cellOf {b o i : Nat} {v : Value} (h : Rdf w0 H (some ⟨b, o, none⟩) cells) (hv : cells[i]? = some v) : Cell w0 H ⟨b, o + i, none⟩ v := fun w hm => by
  obtain ⟨b', o', h1, h2⟩ := h.at hm i v hv; cases h1; exact h2
theorem Rdf.cl {b o : Nat} (h : Rdf w0 H (some ⟨b, o, none⟩) cells) : Cells w0 H b o cells := fun _ _ hv => h.cellOf hv
theorem G.rdA {P : Program} {n : Nat} {X : Cx} {todo : List Item} {e : Env} (h : Rdf X.w0 H a cells) (hc : 0 < cells.length) (hk : ∀ b o, a = some ⟨b, o, none⟩ → G P n X todo e H) : G P n X todo e H := fun ac w hf hm => by
  obtain ⟨b', o', h1, h2⟩ := h.at hm 0 _ (List.getElem?_eq_getElem hc); exact hk b' o' h1 ac w hf hm
theorem W.rdA {P : Program} {n : Nat} {X : Cx} {todo : List Item} {e : Env} {ops : Array Oper} {l : List Oper} {K : Kt} (h : Rdf X.w0 H a cells) (hc : 0 < cells.length) (hk : ∀ b o, a = some ⟨b, o, none⟩ → W (.sq K) P n X ops todo l e H) : W (.sq K) P n X ops todo l e H := fun ac w hf hm => by
  obtain ⟨b', o', h1, h2⟩ := h.at hm 0 _ (List.getElem?_eq_getElem hc); exact hk b' o' h1 ac w hf hm
theorem Rdf.perm {H' : List It} (h : Rdf w0 H a cells) (hp : H'.Perm H) : Rdf w0 H' a cells := fun L w hL hm => h L w hL (hm.perm (List.Perm.append_left L hp))
end

def RetF (P : Program) (f : FuncId) (vs : List Value) (w0 : World) (H Pre : List It) (Post : Value → List It → Prop) : Prop :=
  ∀ w, Mem w0 w (Pre ++ H) → Calls P f vs.toArray w fun en w' => ∃ v Pre', en = .returned v ∧ Mem w0 w' (Pre' ++ H) ∧ allNew Pre' = true ∧ Post v Pre'

section
variable {P : Program} {n : Nat} {X : Cx} {todo : List Item} {e : Env} {H : List It} {ops : Array Oper} {l : List Oper} {d : Nat} {T : TypeId} {p : String} {af : Array Edge} {v : Value} {K : Kt} {w0 : World}

theorem enterF {f : FuncId} {fn : Func} {c : Code} {vs : List Value} {Pre : List It} {Post : Value → List It → Prop} (hf : P.funcs[f]? = some fn) (hb : fn.body = some c) (hn : fn.ntmps = n) (hle : Nat.ble vs.length n = true)
    (h : ∀ X : Cx, X.Ok P fn w0 (fun en w' => ∃ v Pre', en = .returned v ∧ Mem w0 w' (Pre' ++ H) ∧ allNew Pre' = true ∧ Post v Pre') → G P n X [.code c] (argEnv 0 vs) (Pre ++ H)) : RetF P f vs w0 H Pre Post := by
  intro w hm cs
  have hle' : vs.length ≤ n := by simpa using hle
  let b : Frame := { (default : Frame) with fn := f, kind := .normal, roundOf := none }
  have henter : Frame.enter P f vs.toArray .normal = b.atR { tmps := vs.toArray ++ Array.replicate (fn.ntmps - vs.toArray.size) undef, defers := [] } [.code c] := by
    simp [Frame.enter, Frame.atR, hf, hb, b]
  have := h ⟨b, cs, _, w0, [], fun m en w' => ∃ fr, m = lone fr cs w' ∧ fr.fn = b.fn ∧ fr.leaving P w' en⟩ ⟨hf, rfl, rfl, rfl, rfl, rfl, fun fr en w' h1 h2 => ⟨fr, rfl, h1, h2⟩⟩ { tmps := vs.toArray ++ Array.replicate (fn.ntmps - vs.toArray.size) undef, defers := [] } w ?_ hm
  · obtain ⟨en, w', m, h1, h2, fr, rfl, h3, h4⟩ := this
    rw [henter]
    exact ⟨en, w', fr, h1, h2, h3, h4⟩
  · refine ⟨by simp [hn]; omega, rfl, ?_⟩
    intro t v ht
    obtain ⟨j, rfl, hj⟩ := look_argEnv vs 0 t v ht
    have hjl : j < vs.length := (List.getElem?_eq_some_iff.1 hj).1
    have := (List.getElem?_eq_some_iff.1 hj).2
    simp [Array.getElem?_append, hjl, this]

/-- At a return: the post of 'RetF'. -/
theorem doneF {w : World} {v : Value} {Post : Value → List It → Prop} {Pre' L : List It} (hn : allNew Pre' = true) (hp : Post v Pre') (hm : Mem w0 w L) (hL : Ent w0 L (Pre' ++ H)) :
    ∃ v' J, Ending.returned v = .returned v' ∧ Mem w0 w (J ++ H) ∧ allNew J = true ∧ Post v' J := ⟨v, Pre', rfl, hL w hm, hn, hp⟩

theorem W.ff {f : FuncId} {as : List Operand} {vs : List Value} {ats : Array TypeId} {Pre L H' : List It} {Post : Value → List It → Prop} (hf : Callable P f) (hv : evs e as = some vs) (hp : Ent X.w0 H L) (hc : RetF P f vs X.w0 H' Pre Post) (hL : Pre ++ H' = L) (hd : Nat.blt d n = true)
    (hk : ∀ v Pre', Post v Pre' → allNew Pre' = true → W (.sq K) P n X ops todo l ((d, v) :: e) (Pre' ++ H')) : W (.sq K) P n X ops todo (⟨some d, .call ⟨.value (.func f), as.toArray, ats⟩, T, p, af, none⟩ :: l) e H :=
  W.call hf hv fun w hm => Calls.mono (hc w (hL ▸ hp w hm)) fun _ w' ⟨v, Pre', h1, h2, h3, h4⟩ => ⟨v, h1, fun _ hfit => hk v Pre' h4 h3 _ w' (hfit.put v hd) h2⟩
/-- A contract that turns nothing, behind a frame. -/
theorem Ret.f {f : FuncId} {vs : List Value} {Post : Value → List It → Prop} (h : ∀ w, Mem w0 w H → Ret P f vs w Post) : RetF P f vs w0 H [] Post := fun w hm =>
  Calls.mono (h w hm) fun _ _ ⟨v, J, h1, h2, h3, h4⟩ => ⟨v, J, h1, hm.merge h2 h3, h3, h4⟩
end
end Go.Eng
