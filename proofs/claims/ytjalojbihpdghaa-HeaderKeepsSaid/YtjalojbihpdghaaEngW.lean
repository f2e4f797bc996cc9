/- The engine, second part: the steps of a body, and the rule of each operation. -/
import Derived.Test.YtjalojbihpdghaaEng
import Derived.StillTail
import Derived.RangeFuncRecord
import Derived.OrdersIn
import Derived.TacticsIn
namespace Go.Eng
open Go

/-- No operation defers a call. -/
def noDeferB : List Oper → Bool
  | [] => true
  | o :: l => (match o.op with | .defer _ => false | _ => true) && noDeferB l
theorem noDefer_of : ∀ {l : List Oper}, noDeferB l = true → ∀ {i : Nat} {o : Oper}, l[i]? = some o → ∀ c, o.op ≠ .defer c
  | [], _, i, o, ho, c => by simp at ho
  | x :: l, h, i, o, ho, c => by
    simp only [noDeferB, Bool.and_eq_true] at h
    cases i with
    | zero =>
      obtain rfl : x = o := by simpa using ho
      intro hc
      rw [hc] at h; exact absurd h.1 (by simp)
    | succ i => exact noDefer_of h.2 (i := i) (by simpa using ho) c
/-- No fence, in a round or in none. -/
def WF (ro : Option Nat) : Fence := { Fence.wide with round := ro }
def QA (K : Act → World → Prop) : Exit → Act → World → Prop := fun ex a w => ex = .normal ∧ K a w
theorem QA_out (K : Act → World → Prop) : ¬ LetsOut (QA K) := fun ⟨_, _, h, _⟩ => by cases h
theorem wp_wide {P : Program} {o : Oper} {ro : Option Nat} {n : Nat} {a : Act} {w : World} {N N' : Act → World → Prop} {K : Act → World → Prop} (hnd : ∀ c, o.op ≠ .defer c) (hN : ∀ a w, N a w → N' a w) (h : o.wp P a w N (QA K)) : o.wpIn (WF ro) n P a w N' (QA K) := by
  refine ⟨fun _ _ => trivial, ?_⟩
  rw [Oper.semAt_eq _ _ _ hnd]
  unfold Oper.wp at h
  generalize (execOp a.eval o).run P w = r at *
  cases r with
  | ok x w' =>
    cases x <;> simp only [Oper.upon, Oper.uponIn] at h ⊢
    case value v => exact hN _ _ h
    case skip => exact hN _ _ h
    case defer d => exact hN _ _ h
    case enter f args =>
      refine ⟨fun h => (by cases h), callsIn_wide.2 (Calls.mono h fun en w'' he => ?_)⟩
      cases en with
      | returned v => exact hN _ _ he
      | panicked c => exact he
      | outgrown => exact he
    case row row args =>
      exact ⟨fun h => (by cases h), fun c cs _ => let ⟨v, w'', hR, hs⟩ := h c cs; ⟨v, w'', hN _ _ hR, stepsIn_wide.2 hs⟩⟩
  | halt x w' =>
    cases x <;> simp only [Oper.upon, Oper.uponIn] at h ⊢
    exact h
theorem wpListIn_wide {P : Program} {ops : Array Oper} {ro : Option Nat} {n : Nat} {K : Act → World → Prop} : ∀ (l : List Oper), noDeferB l = true → ∀ a w, wpList P ops (QA K) l a w → wpListIn (WF ro) n P ops (QA K) l a w
  | [], _, a, w, h => h
  | o :: l, hnd, a, w, h => by
    have h0 := fun c => noDefer_of hnd (i := 0) (o := o) rfl c
    simp only [noDeferB, Bool.and_eq_true] at hnd
    unfold wpList at h
    unfold wpListIn
    split
    · rename_i hw
      rw [if_pos hw] at h
      rcases h with h | ⟨_, h⟩
      · exact wp_wide h0 (fun a w h => wpListIn_wide l hnd.2 a w h) h
      · exact absurd h (QA_out K)
    · rename_i hw
      rw [if_neg hw] at h
      exact ⟨fun _ _ => trivial, wpListIn_wide l hnd.2 _ _ h⟩
theorem wpOpsIn_wide {P : Program} {ops : Array Oper} {ro : Option Nat} {n : Nat} {K : Act → World → Prop} (hnd : ∀ (i : Nat) (o : Oper), ops[i]? = some o → ∀ c, o.op ≠ .defer c) : ∀ (l : List Nat) a w, wpOps P ops (QA K) l a w → wpOpsIn (WF ro) n P ops (QA K) l a w
  | [], a, w, h => h
  | i :: l, a, w, h => by
    unfold wpOps at h
    unfold wpOpsIn
    cases ho : ops[i]? with
    | none =>
      simp only [ho] at h ⊢
      exact wpOpsIn_wide hnd l a w h
    | some o =>
      simp only [ho] at h ⊢
      split
      · rename_i hw
        rw [if_pos hw] at h
        rcases h with h | ⟨_, h⟩
        · exact wp_wide (hnd i o ho) (fun a w h => wpOpsIn_wide hnd l a w h) h
        · exact absurd h (QA_out K)
      · rename_i hw
        rw [if_neg hw] at h
        exact ⟨fun _ _ => trivial, wpOpsIn_wide hnd l _ _ h⟩

structure Cx where
  b : Frame
  cs : List Frame
  R : Ending → World → Prop
  w0 : World
  ds : List Deferred
  goal : Machine → Ending → World → Prop

/-- From this state the call ends as R says. -/
def Cx.Ends (X : Cx) (P : Program) (todo : List Item) (a : Act) (w : World) : Prop :=
  ∃ en w' m, X.R en w' ∧ Comes P (lone (X.b.atR a todo) X.cs w) m en ∧ X.goal m en w'

structure Cx.Ok (X : Cx) (P : Program) (fn : Func) (w0 : World) (R : Ending → World → Prop) : Prop where
  func : P.funcs[X.b.fn]? = some fn
  kind : X.b.kind = .normal
  w0 : X.w0 = w0
  R : X.R = R
  ds : X.ds = []
  round : X.b.roundOf = none
  goal : ∀ fr en w', fr.fn = X.b.fn → fr.leaving P w' en → X.goal (lone fr X.cs w') en w'

def G (P : Program) (n : Nat) (X : Cx) (todo : List Item) (e : Env) (H : List It) : Prop :=
  ∀ a w, Fits X.ds n e a → Mem X.w0 w H → X.Ends P todo a w

def QK (P : Program) (X : Cx) (todo : List Item) : Exit → Act → World → Prop := fun ex a w => ex = .normal ∧ X.Ends P todo a w

abbrev Kt := Act → World → Prop
/-- What follows a region's last operation. -/
def KX (P : Program) (X : Cx) (todo : List Item) : Kt := fun a w => X.Ends P todo a w
/-- How operations are gone through: 'sq': in their order, then K; 'qt': in any order, all quiet; 'st': in any order, all still, then K. -/
inductive Md where
  | sq (K : Kt)
  | qt (K : Kt)
  | st (K : Kt)
def W (q : Md) (P : Program) (n : Nat) (X : Cx) (ops : Array Oper) (todo : List Item) (l : List Oper) (e : Env) (H : List It) : Prop :=
  match q with
  | .sq K => ∀ a w, Fits X.ds n e a → Mem X.w0 w H → wpList P ops (QA K) l a w
  | .qt K => ∀ a, Fits X.ds n e a → wpQuiet P ops (fun w => Mem X.w0 w H) (fun a' => ∀ w, Mem X.w0 w H → K a' w) l a
  | .st K => ∀ a w, Fits X.ds n e a → Mem X.w0 w H → wpStill P ops w (fun a' => K a' w) l a

section
variable {P : Program} {n : Nat} {X : Cx} {todo : List Item} {e : Env} {H : List It}

theorem Cx.Ends.of_in {c : Code} {a : Act} {w : World} (h : c.wpIn (WF X.b.roundOf) 0 P (QK P X todo) a w) : X.Ends P (.code c :: todo) a w := by
  obtain ⟨ex, a', w', ⟨rfl, en, w2, m, hR, hc, hg⟩, hs⟩ := h X.b todo X.cs rfl trivial (room_wide _)
  exact ⟨en, w2, m, hR, Comes.of_steps (StepsIn.steps hs) hc, hg⟩
theorem Cx.Ends.of_list {l : List Oper} {id : Nat} {a : Act} {w : World} (hnd : noDeferB l = true) (h : wpList P l.toArray (QA (KX P X todo)) l a w) : X.Ends P (.code (.region id l.toArray false) :: todo) a w :=
  .of_in (wpIn_region_lit (wpListIn_wide l hnd a w h))
theorem Cx.Ends.of_any {l : List Oper} {id : Nat} {a : Act} {w : World} (hnd : noDeferB l = true) (hm : P.follows .mixedOrders = true) (h : wpAny P .any l.toArray (QA (KX P X todo)) l.toArray.size (Array.replicate l.toArray.size false) a { w with drawn := w.drawn + 1 }) : X.Ends P (.code (.region id l.toArray true) :: todo) a w :=
  .of_in (wpIn_region_draw fun t => wpOpsIn_wide (fun i o ho => noDefer_of hnd (by simpa using ho)) _ _ _ (by
    simp only [Region.schedule, hm, Bool.true_or, if_true]
    exact wpAny_sound l.toArray.size t _ a _ h))

theorem Cx.Ends.of_step {todo' : List Item} {a a' : Act} {w w' : World} (hs : step P (lone (X.b.atR a todo) X.cs w) = .next (lone (X.b.atR a' todo') X.cs w')) (h : X.Ends P todo' a' w') : X.Ends P todo a w := by
  obtain ⟨en, w2, m, hR, hc, hg⟩ := h
  exact ⟨en, w2, m, hR, Comes.of_steps (.one hs) hc, hg⟩

theorem G.reg {id : Nat} {l : List Oper} (h : W (.sq (KX P X todo)) P n X l.toArray todo l e H) (hnd : noDeferB l = true := by rfl) : G P n X (.code (.region id l.toArray false) :: todo) e H :=
  fun a w hf hm => .of_list hnd (h a w hf hm)
theorem wpQuiet_mono {ops : Array Oper} {C : World → Prop} {Q Q' : Act → Prop} (hq : ∀ a, Q a → Q' a) : ∀ {l : List Oper} {a : Act}, wpQuiet P ops C Q l a → wpQuiet P ops C Q' l a
  | [], _, h => hq _ h
  | o :: rest, a, h => by
    simp only [wpQuiet] at h ⊢
    split
    · rename_i hw; simp only [hw, if_true] at h; exact Oper.quiet_mono (fun _ h' => wpQuiet_mono hq h') h
    · rename_i hw; simp only [hw, if_false, Bool.false_eq_true] at h; exact wpQuiet_mono hq h
theorem G.regq {id : Nat} {l : List Oper} (hm : P.follows .mixedOrders = true) (hB : Region.lexB .any l.toArray = true) (h : W (.qt (KX P X todo)) P n X l.toArray todo l e H) (hnd : noDeferB l = true := by rfl) : G P n X (.code (.region id l.toArray true) :: todo) e H := fun a w hf hw => by
  refine .of_any hnd hm ?_
  have hq : wpQuiet P l.toArray (fun w => Mem X.w0 w H) (fun a' => ∀ w', Mem X.w0 w' H → QA (KX P X todo) .normal a' w') l.toArray.toList a := wpQuiet_mono (Q := fun a' => ∀ w, Mem X.w0 w H → X.Ends P todo a' w) (fun _ h' w' hw' => ⟨rfl, h' w' hw'⟩) (by simpa [KX] using h a hf)
  simp only [Region.lexB, Bool.and_eq_true] at hB
  refine wpAny_of_quiet (Q := fun a' => ∀ w', Mem X.w0 w' H → QA (KX P X todo) .normal a' w') (fun _ w' hw' h => h w' hw') _ _ _ _ hw.drew ?_
  have := wpAnyQ_lex (C := fun w => Mem X.w0 w H) (md := .any) hB.1 l.toArray.toList 0 (Array.replicate l.toArray.size false) a (by simp) (by simpa using hB.2) hq
  simpa using this
theorem still_any {Q : Exit → Act → World → Prop} {a : Act} {w : World} {l : List Oper} (n : Nat) (hB : Region.lexTailB .any l.toArray n = true)
    (h : wpStill P l.toArray { w with drawn := w.drawn + 1 } (fun a' => wpList P l.toArray Q (l.drop n) a' { w with drawn := w.drawn + 1 }) (l.take n) a) : wpAny P .any l.toArray Q l.toArray.size (Array.replicate l.toArray.size false) a { w with drawn := w.drawn + 1 } := by
  simp only [Region.lexTailB, Bool.and_eq_true, decide_eq_true_eq] at hB
  obtain ⟨⟨⟨⟨hsel, hn⟩, hs⟩, hc⟩, hlex⟩ := hB
  have hn' : n < l.length := by simpa using hn
  have htl : (l.take n).length = n := by simp; omega
  have hdl : (l.drop n).length = l.toArray.size - n := by simp
  have inv0 : HeadInv .any l.toArray n (Array.replicate l.toArray.size false) :=
    ⟨by simp, fun j oj _ hl => (by rw [getD_replicate_false] at hl; cases hl), fun t _ ht => getD_in (by simpa using ht) (getD_replicate_false _ _)⟩
  have H := wpAnyL_lex (md := .any) (g := l.toArray.size - n) hsel hs hc hn (l.take n) 0 _ a (fun j hj => by
    have hj' : j < n := by rw [htl] at hj; exact hj
    simp [hj']) (by simpa using htl) inv0 (by rw [htl]; exact hlex) h
  have := wpAny_of_head (Q' := Q) (g := l.toArray.size - n) (fun listed a' hL => by
    have := wpAny_of_seq (md := .any) (Q' := Q) (l.drop n) n listed a' { w with drawn := w.drawn + 1 } (fun j => by simp [List.getElem?_drop]) (by rw [hdl]; exact hL.1) hL.2
    rwa [hdl] at this) _ _ _ H
  rw [htl, show n + (l.toArray.size - n) = l.toArray.size by omega] at this
  exact this
theorem G.regt {id : Nat} {l : List Oper} (k : Nat) (hm : P.follows .mixedOrders = true) (hB : Region.lexTailB .any l.toArray k = true) (h : W (.st (fun a w => wpList P l.toArray (QA (KX P X todo)) (l.drop k) a w)) P n X l.toArray todo (l.take k) e H) (hnd : noDeferB l = true := by rfl) : G P n X (.code (.region id l.toArray true) :: todo) e H :=
  fun a _ hf hw => .of_any hnd hm (still_any k hB (h a _ hf hw.drew))

theorem W.nil {ops : Array Oper} (h : G P n X todo e H) : W (.sq (KX P X todo)) P n X ops todo [] e H := fun a w hf hm => ⟨rfl, h a w hf hm⟩
theorem W.nilq {ops : Array Oper} (h : G P n X todo e H) : W (.qt (KX P X todo)) P n X ops todo [] e H := fun a hf w hm => h a w hf hm
theorem W.nilt {ops : Array Oper} {rest : List Oper} {K : Kt} (h : W (.sq K) P n X ops todo rest e H) : W (.st (fun a w => wpList P ops (QA K) rest a w)) P n X ops todo [] e H := fun a w hf hm => h a w hf hm

theorem G.seq {x y : Code} (h : G P n X (.code x :: .code y :: todo) e H) : G P n X (.code (.seq x y) :: todo) e H := fun a w hf hm => .of_step stepR_seq (h a w hf hm)
theorem G.blk {id : Nat} {c : Code} (h : G P n X (.code c :: .inBlock id :: todo) e H) : G P n X (.code (.block id c) :: todo) e H := fun a w hf hm => .of_step stepR_block (h a w hf hm)
theorem G.inb {id : Nat} (h : G P n X todo e H) : G P n X (.inBlock id :: todo) e H := fun a w hf hm => .of_step stepR_inBlock (h a w hf hm)
theorem G.skip (h : G P n X todo e H) : G P n X (.code .skip :: todo) e H := fun a w hf hm => .of_step stepR_skip (h a w hf hm)
theorem G.exit {id : Nat} {todo' : List Item} (hx : exitTo id todo = some todo') (h : G P n X todo' e H) : G P n X (.code (.exit id) :: todo) e H := fun a w hf hm => .of_step (stepR_exit hx) (h a w hf hm)
theorem G.cd {c : Operand} {x y : Code} {t : Bool} (hv : ev e c = some (.bool t)) (ht : t = true → G P n X (.code x :: todo) e H) (hf : t = false → G P n X (.code y :: todo) e H) : G P n X (.code (.cond c x y) :: todo) e H := by
  intro a w hfit hm
  refine .of_step (stepR_cond (hfit.eval hv)) ?_
  cases t
  · exact hf rfl a w hfit hm
  · exact ht rfl a w hfit hm
theorem G.cdd {c : Operand} {x y : Code} {p : Prop} [Decidable p] (hv : ev e c = some (.bool (decide p))) (ht : p → G P n X (.code x :: todo) e H) (hf : ¬ p → G P n X (.code y :: todo) e H) : G P n X (.code (.cond c x y) :: todo) e H :=
  .cd hv (fun h => ht (of_decide_eq_true h)) (fun h => hf (of_decide_eq_false h))
theorem G.cdn {c : Operand} {x y : Code} {t : Bool} (hv : ev e c = some (.bool (!t))) (ht : t = false → G P n X (.code x :: todo) e H) (hf : t = true → G P n X (.code y :: todo) e H) : G P n X (.code (.cond c x y) :: todo) e H :=
  .cd hv (fun h => ht (by simpa using h)) (fun h => hf (by simpa using h))
theorem G.cdt {c : Operand} {x y : Code} {t : Bool} (hv : ev e c = some (.bool t)) (h : t = true) (ht : G P n X (.code x :: todo) e H) : G P n X (.code (.cond c x y) :: todo) e H :=
  .cd hv (fun _ => ht) (fun h' => absurd (h.symm.trans h') (by simp))
theorem G.cdf {c : Operand} {x y : Code} {t : Bool} (hv : ev e c = some (.bool t)) (h : t = false) (hf : G P n X (.code y :: todo) e H) : G P n X (.code (.cond c x y) :: todo) e H :=
  .cd hv (fun h' => absurd (h.symm.trans h') (by simp)) (fun _ => hf)

def Ent (w0 : World) (H H' : List It) : Prop := ∀ w, Mem w0 w H → Mem w0 w H'
theorem Ent.rfl {w0 : World} {H : List It} : Ent w0 H H := fun _ h => h
theorem Ent.trans {w0 : World} {A B C : List It} (h : Ent w0 A B) (k : Ent w0 B C) : Ent w0 A C := fun w hw => k w (h w hw)
theorem Ent.eq {w0 : World} {H H' : List It} (h : H = H') : Ent w0 H H' := fun _ hm => h ▸ hm
theorem Ent.drop {w0 : World} {it : It} {H : List It} (hn : it.new = true) : Ent w0 (it :: H) H := fun _ h => h.drop hn
theorem Ent.perm {w0 : World} {H H' : List It} (h : H.Perm H') : Ent w0 H H' := fun _ hm => hm.perm h
theorem G.weak {e' : Env} {H' : List It} (h : G P n X todo e' H') (hs : Sub e' e) (hm : Ent X.w0 H H') : G P n X todo e H := fun a w hf hw => h a w (hf.sub hs) (hm w hw)

theorem G.loop {α : Type} {c : Code} (I : α → Prop) (E : α → Env) (Hs : α → List It) (m : α → Nat) (x0 : α) (h0 : I x0) (hs : Sub (E x0) e) (hm : Ent X.w0 H (Hs x0))
    (h : ∀ x, I x → (∀ y, I y → m y < m x → G P n X (.inLoop c :: todo) (E y) (Hs y)) → G P n X (.code c :: .inLoop c :: todo) (E x) (Hs x)) :
    G P n X (.code (.loop c) :: todo) e H := by
  have key : ∀ k x, I x → m x < k → G P n X (.code c :: .inLoop c :: todo) (E x) (Hs x) := by
    intro k
    induction k with
    | zero => intro x _ hk; omega
    | succ k ih =>
      intro x hx hk
      refine h x hx fun y hy hlt => ?_
      intro a w hf hw
      exact .of_step stepR_inLoop (ih y hy (by omega) a w hf hw)
  intro a w hf hw
  exact .of_step stepR_loop ((key (m x0 + 1) x0 h0 (by omega)) a w (hf.sub hs) (hm w hw))

/-- Loops whose temporaries and memory fall into a part that turns and one that stays. -/
theorem G.loop1 {α : Type} {c : Code} (I : α → Prop) (E : α → Env) (Hs : α → List It) (m : α → Nat) (C : Env) (HC : List It) (x0 : α) (h0 : I x0) (hs : Sub (E x0 ++ C) e) (hm : Ent X.w0 H (Hs x0 ++ HC))
    (h : ∀ x, I x → (∀ y, I y → m y < m x → G P n X (.inLoop c :: todo) (E y ++ C) (Hs y ++ HC)) → G P n X (.code c :: .inLoop c :: todo) (E x ++ C) (Hs x ++ HC)) :
    G P n X (.code (.loop c) :: todo) e H := G.loop I (fun x => E x ++ C) (fun x => Hs x ++ HC) m x0 h0 hs hm h
theorem G.loop2 {α β : Type} {c : Code} (I : α → β → Prop) (E : α → β → Env) (Hs : α → β → List It) (m : α → β → Nat) (C : Env) (HC : List It) (x0 : α) (y0 : β) (h0 : I x0 y0) (hs : Sub (E x0 y0 ++ C) e) (hm : Ent X.w0 H (Hs x0 y0 ++ HC))
    (h : ∀ x y, I x y → (∀ x' y', I x' y' → m x' y' < m x y → G P n X (.inLoop c :: todo) (E x' y' ++ C) (Hs x' y' ++ HC)) → G P n X (.code c :: .inLoop c :: todo) (E x y ++ C) (Hs x y ++ HC)) :
    G P n X (.code (.loop c) :: todo) e H :=
  G.loop (α := α × β) (fun x => I x.1 x.2) (fun x => E x.1 x.2 ++ C) (fun x => Hs x.1 x.2 ++ HC) (fun x => m x.1 x.2) (x0, y0) h0 hs hm
    (fun x hx ih => h x.1 x.2 hx (fun x' y' hi hl => ih (x', y') hi hl))
theorem G.loop3 {α β γ : Type} {c : Code} (I : α → β → γ → Prop) (E : α → β → γ → Env) (Hs : α → β → γ → List It) (m : α → β → γ → Nat) (C : Env) (HC : List It) (x0 : α) (y0 : β) (z0 : γ) (h0 : I x0 y0 z0) (hs : Sub (E x0 y0 z0 ++ C) e) (hm : Ent X.w0 H (Hs x0 y0 z0 ++ HC))
    (h : ∀ x y z, I x y z → (∀ x' y' z', I x' y' z' → m x' y' z' < m x y z → G P n X (.inLoop c :: todo) (E x' y' z' ++ C) (Hs x' y' z' ++ HC)) → G P n X (.code c :: .inLoop c :: todo) (E x y z ++ C) (Hs x y z ++ HC)) :
    G P n X (.code (.loop c) :: todo) e H :=
  G.loop (α := α × β × γ) (fun x => I x.1 x.2.1 x.2.2) (fun x => E x.1 x.2.1 x.2.2 ++ C) (fun x => Hs x.1 x.2.1 x.2.2 ++ HC) (fun x => m x.1 x.2.1 x.2.2) (x0, y0, z0) h0 hs hm
    (fun x hx ih => h x.1 x.2.1 x.2.2 hx (fun x' y' z' hi hl => ih (x', y', z') hi hl))
theorem G.loop4 {α β γ δ : Type} {c : Code} (I : α → β → γ → δ → Prop) (E : α → β → γ → δ → Env) (Hs : α → β → γ → δ → List It) (m : α → β → γ → δ → Nat) (C : Env) (HC : List It) (x0 : α) (y0 : β) (z0 : γ) (u0 : δ) (h0 : I x0 y0 z0 u0) (hs : Sub (E x0 y0 z0 u0 ++ C) e) (hm : Ent X.w0 H (Hs x0 y0 z0 u0 ++ HC))
    (h : ∀ x y z u, I x y z u → (∀ x' y' z' u', I x' y' z' u' → m x' y' z' u' < m x y z u → G P n X (.inLoop c :: todo) (E x' y' z' u' ++ C) (Hs x' y' z' u' ++ HC)) → G P n X (.code c :: .inLoop c :: todo) (E x y z u ++ C) (Hs x y z u ++ HC)) :
    G P n X (.code (.loop c) :: todo) e H :=
  G.loop (α := α × β × γ × δ) (fun x => I x.1 x.2.1 x.2.2.1 x.2.2.2) (fun x => E x.1 x.2.1 x.2.2.1 x.2.2.2 ++ C) (fun x => Hs x.1 x.2.1 x.2.2.1 x.2.2.2 ++ HC) (fun x => m x.1 x.2.1 x.2.2.1 x.2.2.2) (x0, y0, z0, u0) h0 hs hm
    (fun x hx ih => h x.1 x.2.1 x.2.2.1 x.2.2.2 hx (fun x' y' z' u' hi hl => ih (x', y', z', u') hi hl))
theorem G.loop5 {α β γ δ ε : Type} {c : Code} (I : α → β → γ → δ → ε → Prop) (E : α → β → γ → δ → ε → Env) (Hs : α → β → γ → δ → ε → List It) (m : α → β → γ → δ → ε → Nat) (C : Env) (HC : List It) (x0 : α) (y0 : β) (z0 : γ) (u0 : δ) (s0 : ε) (h0 : I x0 y0 z0 u0 s0) (hs : Sub (E x0 y0 z0 u0 s0 ++ C) e) (hm : Ent X.w0 H (Hs x0 y0 z0 u0 s0 ++ HC))
    (h : ∀ x y z u s, I x y z u s → (∀ x' y' z' u' s', I x' y' z' u' s' → m x' y' z' u' s' < m x y z u s → G P n X (.inLoop c :: todo) (E x' y' z' u' s' ++ C) (Hs x' y' z' u' s' ++ HC)) → G P n X (.code c :: .inLoop c :: todo) (E x y z u s ++ C) (Hs x y z u s ++ HC)) :
    G P n X (.code (.loop c) :: todo) e H :=
  G.loop (α := α × β × γ × δ × ε) (fun q => I q.1 q.2.1 q.2.2.1 q.2.2.2.1 q.2.2.2.2) (fun q => E q.1 q.2.1 q.2.2.1 q.2.2.2.1 q.2.2.2.2 ++ C) (fun q => Hs q.1 q.2.1 q.2.2.1 q.2.2.2.1 q.2.2.2.2 ++ HC) (fun q => m q.1 q.2.1 q.2.2.1 q.2.2.2.1 q.2.2.2.2) (x0, y0, z0, u0, s0) h0 hs hm
    (fun q hx ih => h q.1 q.2.1 q.2.2.1 q.2.2.2.1 q.2.2.2.2 hx (fun x' y' z' u' s' hi hl => ih (x', y', z', u', s') hi hl))
theorem G.loop6 {α β γ δ ε ζ : Type} {c : Code} (I : α → β → γ → δ → ε → ζ → Prop) (E : α → β → γ → δ → ε → ζ → Env) (Hs : α → β → γ → δ → ε → ζ → List It) (m : α → β → γ → δ → ε → ζ → Nat) (C : Env) (HC : List It) (x0 : α) (y0 : β) (z0 : γ) (u0 : δ) (s0 : ε) (r0 : ζ) (h0 : I x0 y0 z0 u0 s0 r0) (hs : Sub (E x0 y0 z0 u0 s0 r0 ++ C) e) (hm : Ent X.w0 H (Hs x0 y0 z0 u0 s0 r0 ++ HC))
    (h : ∀ x y z u s r, I x y z u s r → (∀ x' y' z' u' s' r', I x' y' z' u' s' r' → m x' y' z' u' s' r' < m x y z u s r → G P n X (.inLoop c :: todo) (E x' y' z' u' s' r' ++ C) (Hs x' y' z' u' s' r' ++ HC)) → G P n X (.code c :: .inLoop c :: todo) (E x y z u s r ++ C) (Hs x y z u s r ++ HC)) :
    G P n X (.code (.loop c) :: todo) e H :=
  G.loop (α := α × β × γ × δ × ε × ζ) (fun q => I q.1 q.2.1 q.2.2.1 q.2.2.2.1 q.2.2.2.2.1 q.2.2.2.2.2) (fun q => E q.1 q.2.1 q.2.2.1 q.2.2.2.1 q.2.2.2.2.1 q.2.2.2.2.2 ++ C) (fun q => Hs q.1 q.2.1 q.2.2.1 q.2.2.2.1 q.2.2.2.2.1 q.2.2.2.2.2 ++ HC) (fun q => m q.1 q.2.1 q.2.2.1 q.2.2.2.1 q.2.2.2.2.1 q.2.2.2.2.2) (x0, y0, z0, u0, s0, r0) h0 hs hm
    (fun q hx ih => h q.1 q.2.1 q.2.2.1 q.2.2.2.1 q.2.2.2.2.1 q.2.2.2.2.2 hx (fun x' y' z' u' s' r' hi hl => ih (x', y', z', u', s', r') hi hl))
/-- Items let go. -/
def Dr (H H' : List It) : Prop := H'.Sublist H ∧ ∀ it ∈ H, it ∈ H' ∨ it.new = true
theorem Dr.rfl {H : List It} : Dr H H := ⟨List.Sublist.refl _, fun _ h => .inl h⟩
theorem Dr.drop {it : It} {H H' : List It} (hn : it.new = true) (h : Dr H H') : Dr (it :: H) H' := ⟨h.1.cons it, fun x hx => by
  rcases List.mem_cons.1 hx with rfl | hx
  · exact .inr hn
  · exact h.2 x hx⟩
theorem Dr.keep {it : It} {H H' : List It} (h : Dr H H') : Dr (it :: H) (it :: H') := ⟨h.1.cons_cons it, fun x hx => by
  rcases List.mem_cons.1 hx with rfl | hx
  · exact .inl List.mem_cons_self
  · rcases h.2 x hx with h | h
    · exact .inl (List.mem_cons_of_mem _ h)
    · exact .inr h⟩
theorem Dr.all {J H H' : List It} (hn : allNew J = true) (h : Dr H H') : Dr (J ++ H) H' := by
  induction J with
  | nil => exact h
  | cons it J ih =>
    have := allNew_mem hn
    exact Dr.drop (this it List.mem_cons_self) (ih (by simp [allNew] at hn ⊢; exact hn.2))
theorem Dr.ent {w0 : World} {H H' : List It} (h : Dr H H') : Ent w0 H H' := fun _ hm => hm.sublist h.1 h.2
theorem Dr.new {H : List It} (hn : allNew H = true) : Dr H [] := ⟨List.nil_sublist _, fun it hi => .inr (allNew_mem hn it hi)⟩

/-! ### Entering and leaving a function -/
def argEnv (k : Nat) : List Value → Env
  | [] => []
  | v :: vs => (k, v) :: argEnv (k + 1) vs

theorem look_argEnv : ∀ (vs : List Value) (k t : Nat) (v : Value), look (argEnv k vs) t = some v → ∃ j, t = k + j ∧ vs[j]? = some v
  | [], _, _, _, h => by simp [argEnv, look] at h
  | u :: us, k, t, v, h => by
    simp only [argEnv, look] at h
    cases hk : Nat.beq k t with
    | true =>
      have := Nat.eq_of_beq_eq_true hk
      simp [hk] at h
      exact ⟨0, by omega, by simp [h]⟩
    | false =>
      simp [hk] at h
      obtain ⟨j, hj, hv⟩ := look_argEnv us (k + 1) t v h
      exact ⟨j + 1, by omega, by simpa using hv⟩

theorem enter {f : FuncId} {fn : Func} {c : Code} {vs : List Value} {w : World} {R : Ending → World → Prop} (B : List It) (hB : Mem w w B) (hf : P.funcs[f]? = some fn) (hb : fn.body = some c) (hn : fn.ntmps = n) (hle : Nat.ble vs.length n = true)
    (h : ∀ X : Cx, X.Ok P fn w R → G P n X [.code c] (argEnv 0 vs) B) : Calls P f vs.toArray w R := by
  intro cs
  have hle' : vs.length ≤ n := by simpa using hle
  let b : Frame := { (default : Frame) with fn := f, kind := .normal, roundOf := none }
  have henter : Frame.enter P f vs.toArray .normal = b.atR { tmps := vs.toArray ++ Array.replicate (fn.ntmps - vs.toArray.size) undef, defers := [] } [.code c] := by
    simp [Frame.enter, Frame.atR, hf, hb, b]
  have := h ⟨b, cs, R, w, [], fun m en w' => ∃ fr, m = lone fr cs w' ∧ fr.fn = b.fn ∧ fr.leaving P w' en⟩ ⟨hf, rfl, rfl, rfl, rfl, rfl, fun fr en w' h1 h2 => ⟨fr, rfl, h1, h2⟩⟩ { tmps := vs.toArray ++ Array.replicate (fn.ntmps - vs.toArray.size) undef, defers := [] } w ?_ hB
  · obtain ⟨en, w', m, h1, h2, fr, rfl, h3, h4⟩ := this
    rw [henter]
    exact ⟨en, w', fr, h1, h2, h3, h4⟩
  · refine ⟨by simp [hn]; omega, rfl, ?_⟩
    intro t v ht
    obtain ⟨j, rfl, hj⟩ := look_argEnv vs 0 t v ht
    have hjl : j < vs.length := (List.getElem?_eq_some_iff.1 hj).1
    have := (List.getElem?_eq_some_iff.1 hj).2
    simp [Array.getElem?_append, hjl, this]

theorem G.retR {fn : Func} {w0 : World} {R : Ending → World → Prop} {v : Value} (hX : X.Ok P fn w0 R) (hr : ∀ a w, Fits X.ds n e a → Mem w0 w H → (results fn a.tmps).run P w = .ok v w) (h : ∀ w, Mem w0 w H → R (.returned v) w) :
    G P n X (.code .ret :: todo) e H := by
  intro a w hf hm
  have hm' : Mem w0 w H := hX.w0 ▸ hm
  refine ⟨.returned v, w, lone { X.b.atR a (.code .ret :: todo) with mode := .returning } X.cs w, by rw [hX.R]; exact h w hm', .one (stepR_ret hX.round), hX.goal _ _ _ rfl ?_⟩
  exact ⟨rfl, hf.defs.trans hX.ds, hX.kind, fn, hX.func, hr a w hf hm'⟩
theorem G.endR {fn : Func} {w0 : World} {R : Ending → World → Prop} {v : Value} (hX : X.Ok P fn w0 R) (hr : ∀ a w, Fits X.ds n e a → Mem w0 w H → (results fn a.tmps).run P w = .ok v w) (h : ∀ w, Mem w0 w H → R (.returned v) w) :
    G P n X [] e H := by
  intro a w hf hm
  have hm' : Mem w0 w H := hX.w0 ▸ hm
  refine ⟨.returned v, w, lone { X.b.atR a [] with mode := .returning } X.cs w, by rw [hX.R]; exact h w hm', .one (stepR_end hX.round), hX.goal _ _ _ rfl ?_⟩
  exact ⟨rfl, hf.defs.trans hX.ds, hX.kind, fn, hX.func, hr a w hf hm'⟩

theorem Fits.getD {ds : List Deferred} {a : Act} {t : Nat} {v : Value} (h : Fits ds n e a) (hv : look e t = some v) : a.tmps.getD t undef = v := by
  have := h.val t v hv
  simp [this]

/-- What a call of a function that turns nothing old leaves: a value and new items. -/
def Ret (P : Program) (f : FuncId) (vs : List Value) (w : World) (Post : Value → List It → Prop) : Prop :=
  Calls P f vs.toArray w fun en w' => ∃ v J, en = .returned v ∧ Mem w w' J ∧ allNew J = true ∧ Post v J
/-- The same, where one borrowed block is turned. -/
def RetB (P : Program) (f : FuncId) (vs : List Value) (w : World) (b : Nat) (Post : Value → Obj → List It → Prop) : Prop :=
  Calls P f vs.toArray w fun en w' => ∃ v o' J, en = .returned v ∧ Mem w w' (blk false b o' :: J) ∧ allNew J = true ∧ Post v o' J

theorem Ret.mono {f : FuncId} {vs : List Value} {w : World} {Q Q' : Value → List It → Prop} (h : Ret P f vs w Q) (hq : ∀ v J, Q v J → Q' v J) : Ret P f vs w Q' :=
  Calls.mono h fun _ _ ⟨v, J, h1, h2, h3, h4⟩ => ⟨v, J, h1, h2, h3, hq v J h4⟩

theorem ret0 {fn : Func} {w0 : World} {R : Ending → World → Prop} (hX : X.Ok P fn w0 R) (hr : fn.results = #[]) (h : ∀ w, Mem w0 w H → R (.returned (.tuple #[])) w) : G P n X [] e H :=
  .endR hX (fun _ _ _ _ => by simp [results, hr]) h
theorem ret0' {fn : Func} {w0 : World} {R : Ending → World → Prop} (hX : X.Ok P fn w0 R) (hr : fn.results = #[]) (h : ∀ w, Mem w0 w H → R (.returned (.tuple #[])) w) : G P n X (.code .ret :: todo) e H :=
  .retR hX (fun _ _ _ _ => by simp [results, hr]) h
theorem ret1 {fn : Func} {w0 : World} {R : Ending → World → Prop} {t : Nat} {v : Value} (hX : X.Ok P fn w0 R) (hr : fn.results = #[.tmp t]) (hv : look e t = some v) (h : ∀ w, Mem w0 w H → R (.returned v) w) : G P n X (.code .ret :: todo) e H :=
  .retR hX (fun a w hf _ => by rw [results_tmp hr, hf.getD hv]) h
theorem ret2 {fn : Func} {w0 : World} {R : Ending → World → Prop} {t u : Nat} {v x : Value} (hX : X.Ok P fn w0 R) (hr : fn.results = #[.tmp t, .tmp u]) (hv : look e t = some v) (hx : look e u = some x) (h : ∀ w, Mem w0 w H → R (.returned (.tuple #[v, x])) w) : G P n X (.code .ret :: todo) e H :=
  .retR hX (fun a w hf _ => by rw [results_tmp2 hr, hf.getD hv, hf.getD hx]) h
theorem ret3 {fn : Func} {w0 : World} {R : Ending → World → Prop} {t u s : Nat} {v x y : Value} (hX : X.Ok P fn w0 R) (hr : fn.results = #[.tmp t, .tmp u, .tmp s]) (hv : look e t = some v) (hx : look e u = some x) (hy : look e s = some y) (h : ∀ w, Mem w0 w H → R (.returned (.tuple #[v, x, y])) w) : G P n X (.code .ret :: todo) e H :=
  .retR hX (fun a w hf _ => by rw [results_tmp3 hr, hf.getD hv, hf.getD hx, hf.getD hy]) h
/-- At a return: the post of 'Ret'. -/
theorem done {w0 w : World} {v : Value} {Post : Value → List It → Prop} (hn : allNew H = true) (hp : Post v H) (hm : Mem w0 w H) :
    ∃ v' J, Ending.returned v = .returned v' ∧ Mem w0 w J ∧ allNew J = true ∧ Post v' J := ⟨v, H, rfl, hm, hn, hp⟩
end

/-! ### The rules of the operations -/
def Rho (e : Env) (ρ : Operand → Value) : Prop := ∀ x v, ev e x = some v → ρ x = v
def OpV (P : Program) (w0 : World) (op : Op) (T : TypeId) (e : Env) (H : List It) (v : Value) : Prop :=
  ∀ (ρ : Operand → Value) (w : World) (d : Option Tmp) (p : String) (af : Array Edge) (g : Option (Nat × Bool)), Rho e ρ → Mem w0 w H → (execOp ρ ⟨d, op, T, p, af, g⟩).run P w = .ok (.value v) w

section
variable {P : Program} {n : Nat} {X : Cx} {todo : List Item} {e : Env} {H : List It} {qq : Md} {K : Kt} {ops : Array Oper} {l : List Oper} {d : Nat} {op : Op} {T : TypeId} {p : String} {af : Array Edge} {v : Value}

theorem W.step_false (o : Oper) (hw : ∀ a, Fits X.ds n e a → Region.wanted o (yielded ops a.tmps) = true) (hr : ∀ a w, Fits X.ds n e a → Mem X.w0 w H → (execOp a.eval o).run P w = .ok (.value v) w)
    (hk : ∀ a, Fits X.ds n e a → ∀ w, Mem X.w0 w H → wpList P ops (QA K) l (a.put o.dst v) w) : W (.sq K) P n X ops todo (o :: l) e H := by
  intro a w hf hm
  unfold wpList
  rw [if_pos (hw a hf)]
  left
  simp only [Oper.wp, hr a w hf hm, Oper.upon]
  exact hk a hf w hm
theorem W.step_true (o : Oper) (hw : ∀ a, Fits X.ds n e a → Region.wanted o (yielded ops a.tmps) = true) (hr : ∀ a w, Fits X.ds n e a → Mem X.w0 w H → (execOp a.eval o).run P w = .ok (.value v) w)
    (hk : ∀ a, Fits X.ds n e a → wpQuiet P ops (fun w => Mem X.w0 w H) (fun a' => ∀ w, Mem X.w0 w H → K a' w) l (a.put o.dst v)) : W (.qt K) P n X ops todo (o :: l) e H := by
  intro a hf
  unfold wpQuiet
  rw [if_pos (hw a hf)]
  refine ⟨v, fun w hm => ?_, hk a hf⟩
  simp only [Oper.quietAt, hr a w hf hm, Oper.quietUpon, and_self]

theorem W.step_still (o : Oper) (hw : ∀ a, Fits X.ds n e a → Region.wanted o (yielded ops a.tmps) = true) (hr : ∀ a w, Fits X.ds n e a → Mem X.w0 w H → (execOp a.eval o).run P w = .ok (.value v) w)
    (hk : ∀ a, Fits X.ds n e a → ∀ w, Mem X.w0 w H → wpStill P ops w (fun a' => K a' w) l (a.put o.dst v)) : W (.st K) P n X ops todo (o :: l) e H := by
  intro a w hf hm
  unfold wpStill
  rw [if_pos (hw a hf)]
  simp only [Oper.still, hr a w hf hm, Oper.stillUpon_value]
  exact hk a hf w hm
/-- A quiet operation. -/
theorem W.q (ho : OpV P X.w0 op T e H v) (hd : Nat.blt d n = true) (hk : W qq P n X ops todo l ((d, v) :: e) H) : W qq P n X ops todo (⟨some d, op, T, p, af, none⟩ :: l) e H := by
  match qq with
  | .sq K => exact W.step_false _ (fun _ _ => rfl) (fun a w hf hm => ho _ _ _ _ _ _ (fun x v hx => hf.eval hx) hm) (fun a hf w hm => hk _ w (hf.put v hd) hm)
  | .qt K => exact W.step_true _ (fun _ _ => rfl) (fun a w hf hm => ho _ _ _ _ _ _ (fun x v hx => hf.eval hx) hm) (fun a hf => hk _ (hf.put v hd))
  | .st K => exact W.step_still _ (fun _ _ => rfl) (fun a w hf hm => ho _ _ _ _ _ _ (fun x v hx => hf.eval hx) hm) (fun a hf w hm => hk _ w (hf.put v hd) hm)

theorem yielded_of {ds : List Deferred} {a : Act} {j dj : Nat} {t : Bool} (hf : Fits ds n e a) (hj : (ops[j]?).bind (·.dst) = some dj) (hv : look e dj = some (.bool t)) : yielded ops a.tmps j = some t := by
  simp [yielded, hj, hf.val dj _ hv]

/-- A guarded quiet operation that is run. -/
theorem W.qg {j dj : Nat} {bv t : Bool} (hj : (ops[j]?).bind (·.dst) = some dj) (hv : look e dj = some (.bool t)) (ht : t = bv) (ho : OpV P X.w0 op T e H v) (hd : Nat.blt d n = true) (hk : W qq P n X ops todo l ((d, v) :: e) H) : W qq P n X ops todo (⟨some d, op, T, p, af, some (j, bv)⟩ :: l) e H := by
  subst ht
  match qq with
  | .sq K => exact W.step_false _ (fun a hf => by simp [Region.wanted, yielded_of hf hj hv]) (fun a w hf hm => ho _ _ _ _ _ _ (fun x v hx => hf.eval hx) hm) (fun a hf w hm => hk _ w (hf.put v hd) hm)
  | .qt K => exact W.step_true _ (fun a hf => by simp [Region.wanted, yielded_of hf hj hv]) (fun a w hf hm => ho _ _ _ _ _ _ (fun x v hx => hf.eval hx) hm) (fun a hf => hk _ (hf.put v hd))
  | .st K => exact W.step_still _ (fun a hf => by simp [Region.wanted, yielded_of hf hj hv]) (fun a w hf hm => ho _ _ _ _ _ _ (fun x v hx => hf.eval hx) hm) (fun a hf w hm => hk _ w (hf.put v hd) hm)

/-- A guarded operation that is passed over. -/
theorem W.sk {j dj : Nat} {bv t : Bool} (hj : (ops[j]?).bind (·.dst) = some dj) (hv : look e dj = some (.bool t)) (ht : t = !bv) (hd : Nat.blt d n = true) (hk : W qq P n X ops todo l ((d, undef) :: e) H) : W qq P n X ops todo (⟨some d, op, T, p, af, some (j, bv)⟩ :: l) e H := by
  have hw : ∀ a, Fits X.ds n e a → Region.wanted ⟨some d, op, T, p, af, some (j, bv)⟩ (yielded ops a.tmps) = false := fun a hf => by
    simp [Region.wanted, yielded_of hf hj hv, ht]
  match qq with
  | .sq K =>
    intro a w hf hm
    unfold wpList
    rw [hw a hf]
    exact hk _ w (hf.put undef hd) hm
  | .qt K =>
    intro a hf
    unfold wpQuiet
    rw [hw a hf]
    exact hk _ (hf.put undef hd)
  | .st K =>
    intro a w hf hm
    unfold wpStill
    rw [hw a hf]
    exact hk _ w (hf.put undef hd) hm

theorem W.sku {j dj : Nat} {bv : Bool} (hj : (ops[j]?).bind (·.dst) = some dj) (hv : look e dj = some undef) (hd : Nat.blt d n = true) (hk : W qq P n X ops todo l ((d, undef) :: e) H) : W qq P n X ops todo (⟨some d, op, T, p, af, some (j, bv)⟩ :: l) e H := by
  have hw : ∀ a, Fits X.ds n e a → Region.wanted ⟨some d, op, T, p, af, some (j, bv)⟩ (yielded ops a.tmps) = false := fun a hf => by
    simp [Region.wanted, yielded, hj, hf.val dj _ hv, undef]
  match qq with
  | .sq K =>
    intro a w hf hm
    unfold wpList
    rw [hw a hf]
    exact hk _ w (hf.put undef hd) hm
  | .qt K =>
    intro a hf
    unfold wpQuiet
    rw [hw a hf]
    exact hk _ (hf.put undef hd)
  | .st K =>
    intro a w hf hm
    unfold wpStill
    rw [hw a hf]
    exact hk _ w (hf.put undef hd) hm

theorem W.sp {t : Bool} (dj : Nat) (_hv : look e dj = some (.bool t)) (h1 : t = true → W qq P n X ops todo l e H) (h2 : t = false → W qq P n X ops todo l e H) : W qq P n X ops todo l e H := by
  cases t
  · exact h2 rfl
  · exact h1 rfl
/-- A test's two ways. -/
theorem W.cases (t : Bool) (h1 : t = true → W qq P n X ops todo l e H) (h2 : t = false → W qq P n X ops todo l e H) : W qq P n X ops todo l e H := by
  cases t
  · exact h2 rfl
  · exact h1 rfl
end

end Go.Eng
