/- The engine, last part: a range over a function, its rounds, functions with captured cells. -/
import Derived.Test.YtjalojbihpdghaaEngG
import Derived.RangeFuncIn
namespace Go.Eng
open Go
set_option linter.unusedVariables false

/-- The loop's record, and the block for the rounds' deferred calls. -/
abbrev lpI (l : Nat) (rc : Loop) (st : LoopState) : It := blk true l (.loop { rc with state := st, pending := none })
abbrev dfI (D : Nat) : It := blk true D (.deferred (some []))
abbrev mark (D : Nat) : Deferred := { target := .collected D, args := #[] }

structure Cx.OkD (X : Cx) (P : Program) (fn : Func) (w0 : World) (R : Ending → World → Prop) (D : Nat) : Prop where
  func : P.funcs[X.b.fn]? = some fn
  kind : X.b.kind = .normal
  w0 : X.w0 = w0
  R : X.R = R
  ds : X.ds = [mark D]
  round : X.b.roundOf = none
  goal : ∀ fr en w', fr.fn = X.b.fn → fr.leaving P w' en → X.goal (lone fr X.cs w') en w'
/-- A round's frame. -/
structure Cx.Rd (X : Cx) (P : Program) (l : Nat) (w0 : World) (Q : World → Prop) : Prop where
  kind : X.b.kind = .normal
  w0 : X.w0 = w0
  ds : X.ds = []
  round : X.b.roundOf = some l
  fin : ∃ c cs, X.cs = c :: cs ∧ ∀ w', Q w' → X.R (.returned (.bool true)) w' ∧ X.goal (lone (c.finish (.bool true)) cs w') (.returned (.bool true)) w'

/-- A call of yield, where the round hands back true. -/
def Yields (P : Program) (l : Nat) (args : List Value) (w : World) (Q : World → Prop) : Prop :=
  ∃ fn tmps assign body, (Instr.yield l args.toArray).run P w = .ok (.round l fn tmps assign body) w ∧ ∀ ro n, RoundIn (WF ro) n P l fn tmps assign body w (fun en w' => en = .returned (.bool true) ∧ Q w')

section
variable {P : Program} {n : Nat} {X : Cx} {todo : List Item} {e : Env} {H H1 : List It} {ops : Array Oper} {l : List Oper} {d : Nat} {T : TypeId} {p : String} {af : Array Edge} {v : Value} {K : Kt} {w0 : World}

theorem Mem.putObj {w0 w : World} {H H' : List It} {b : Nat} {o o' : Obj} (h : Mem w0 w H) (hu : Upd H b o o' H') : Mem w0 (w.putObj b o') H' := by
  have hb : w.heap[b]? = some o := by
    obtain ⟨H1, H2, f, rfl, rfl⟩ := hu
    exact h.holds (blk f b o) (by simp)
  exact h.upd hu rfl rfl rfl (by simp) (World.putObj_heap_same (Array.getElem?_eq_some_iff.1 hb).1) (fun k hk => World.putObj_heap_other hk)

theorem G.begin {L : Nat} {rc : Loop} {H' : List It} {Q : World → Prop} (hX : X.Rd P L w0 Q) (hu : Upd H L (.loop { rc with state := .ready, pending := none }) (.loop { rc with state := .busy, pending := none }) H') (h : G P n X todo e H') : G P n X (.beginRound :: todo) e H := fun a w hf hm => by
  have hl : w.heap[L]? = some (.loop { rc with state := .ready, pending := none }) := by
    obtain ⟨H1, H2, f, rfl, rfl⟩ := hu
    exact hm.holds (Eng.blk f L (.loop { rc with state := .ready, pending := none })) (by simp)
  exact .of_step (stepR_beginRound hX.round (run_beginRound hl rfl)) (h a _ hf (hm.putObj hu))
theorem G.endRound {L : Nat} {rc : Loop} {Q : World → Prop} (hX : X.Rd P L w0 Q) (hE : Ent w0 H (lpI L rc .busy :: H1)) (hQ : ∀ w, Mem w0 w (lpI L rc .ready :: H1) → Q w) : G P n X [] e H := fun a w hf hm => by
  have hm' := hE w (hX.w0 ▸ hm)
  have hl : w.heap[L]? = some (.loop { rc with state := .busy, pending := none }) := hm'.holds _ List.mem_cons_self
  obtain ⟨c, cs, hcs, hfin⟩ := hX.fin
  obtain ⟨h1, h2⟩ := hfin (w.putObj L (.loop { rc with state := .ready, pending := none })) (hQ _ (hm'.putObj .hd))
  refine ⟨.returned (.bool true), _, _, h1, ?_, h2⟩
  rw [hcs]
  exact .one (stepR_round_end hX.round hX.kind (run_endRound (P := P) (r := { rc with state := .busy, pending := none }) none hl))

/-- A round, out of its walk. -/
theorem Yields.of {L : Nat} {rc : Loop} {st : LoopState} {args : List Value} {w : World} {Q : World → Prop} (hm : Mem w0 w (lpI L rc .ready :: H)) (hs : args.length = rc.params.size) (a : Act) (ha : a = { tmps := (rc.params.zip args.toArray).foldl (fun tmps (t, a) => tmps.setIfInBounds t a) rc.tmps, defers := [] })
    (hf : Fits [] n e a) (h : ∀ X : Cx, X.Rd P L w0 Q → G P n X [.code rc.assign, .beginRound, .code rc.body] e (lpI L rc .ready :: H)) : Yields P L args w Q := by
  have hl : w.heap[L]? = some (.loop { rc with state := .ready, pending := none }) := hm.holds _ List.mem_cons_self
  refine ⟨rc.fn, _, rc.assign, rc.body, run_yield (r := { rc with state := .ready, pending := none }) hl (by simpa using hs), fun ro n' => ⟨trivial, fun c cs _ => ?_⟩⟩
  let b : Frame := { (default : Frame) with fn := rc.fn, kind := .normal, roundOf := some L }
  let X : Cx := ⟨b, c :: cs, fun en w' => en = .returned (.bool true) ∧ Q w', w0, [], fun m en w' => en = .returned (.bool true) → m = lone (c.finish (.bool true)) cs w'⟩
  have hX : X.Rd P L w0 Q := ⟨rfl, rfl, rfl, rfl, c, cs, rfl, fun w' hq => ⟨⟨rfl, hq⟩, fun _ => rfl⟩⟩
  obtain ⟨en, w', m, ⟨rfl, hq⟩, hc, hg⟩ := h X hX a w hf hm
  obtain rfl := hg rfl
  refine ⟨.returned (.bool true), w', ⟨rfl, hq⟩, ?_⟩
  have hb : Frame.round L rc.fn ((rc.params.zip args.toArray).foldl (fun tmps (t, a) => tmps.setIfInBounds t a) rc.tmps) rc.assign rc.body .normal = b.atR a [.code rc.assign, .beginRound, .code rc.body] := by
    subst ha; simp [Frame.round, Frame.atR, b]
  rw [hb]
  exact comesIn_wide.2 hc

/-- The operation that calls yield, within a region in the list's order. -/
def KY (P : Program) (X : Cx) (todo : List Item) (ops : Array Oper) (o : Oper) (post : List Oper) : Kt := fun a w => wpListIn (WF X.b.roundOf) 0 P ops (QA (KX P X todo)) (o :: post) a w
theorem wpListIn_app {ro : Option Nat} {K : Act → World → Prop} {rest : List Oper} : ∀ (l : List Oper), noDeferB l = true → ∀ a w, wpList P ops (QA fun a w => wpListIn (WF ro) 0 P ops (QA K) rest a w) l a w → wpListIn (WF ro) 0 P ops (QA K) (l ++ rest) a w
  | [], _, a, w, h => h.2
  | o :: l, hnd, a, w, h => by
    have h0 := fun c => noDefer_of hnd (i := 0) (o := o) rfl c
    simp only [noDeferB, Bool.and_eq_true] at hnd
    unfold wpList at h
    rw [List.cons_append]
    unfold wpListIn
    split
    · rename_i hw
      rw [if_pos hw] at h
      rcases h with h | ⟨_, h⟩
      · have h1 := wp_wide (ro := ro) (n := 0) h0 (fun a w h => wpListIn_app l hnd.2 a w h) h
        refine ⟨h1.1, ?_⟩
        have h2 := h1.2
        generalize (o.semAt (WF ro).round a.eval).run P w = r at *
        revert h2
        cases r with
        | ok x w' =>
          cases x <;> simp only [Oper.uponIn] <;> try exact id
          · rintro ⟨q1, q2⟩
            refine ⟨q1, q2.mono fun en w'' he => ?_⟩
            cases en with
            | returned u => exact he
            | panicked c => exact absurd he.1 (by simp)
            | outgrown => exact absurd he (QA_out _)
          · rintro ⟨q1, q2⟩
            refine ⟨q1, q2.mono fun en w'' he => ?_⟩
            cases en with
            | returned u => exact he
            | panicked c => exact absurd he.1 (by simp)
            | outgrown => exact absurd he (QA_out _)
        | halt x w' =>
          cases x <;> simp only [Oper.uponIn] <;> try exact id
          intro q; exact absurd q.1 (by simp)
      · exact absurd h (QA_out _)
    · rename_i hw
      rw [if_neg hw] at h
      exact ⟨fun _ _ => trivial, wpListIn_app l hnd.2 _ _ h⟩
theorem G.regY {id : Nat} {l : List Oper} {o : Oper} (k : Nat) (ho : l[k]? = some o) (h : W (.sq (KY P X todo l.toArray o (l.drop (k + 1)))) P n X l.toArray todo (l.take k) e H) (hnd : noDeferB (l.take k) = true := by rfl) : G P n X (.code (.region id l.toArray false) :: todo) e H := fun a w hf hm => by
  refine .of_in (wpIn_region_lit ?_)
  have hl : l = l.take k ++ (o :: l.drop (k + 1)) := by
    have hk := (List.getElem?_eq_some_iff.1 ho).1
    rw [← (List.getElem?_eq_some_iff.1 ho).2, ← List.drop_eq_getElem_cons hk, List.take_append_drop]
  have := wpListIn_app (rest := o :: l.drop (k + 1)) (l.take k) hnd a w (h a w hf hm)
  rw [← hl] at this
  exact this
/-- The call of yield itself; the rest of the region. -/
theorem W.yield {L : Nat} {x : Operand} {as : List Operand} {vs : List Value} {ats : Array TypeId} {post : List Oper} {σ : Type} {H2 : σ → List It} (hx : ev e x = some (.func (.yield L) #[] #[])) (hv : evs e as = some vs)
    (hy : ∀ w, Mem X.w0 w H → Yields P L vs w fun w' => ∃ s, Mem X.w0 w' (H2 s)) (hd : Nat.blt d n = true)
    (hk : ∀ s, W (.sq (KX P X todo)) P n X ops todo post ((d, .bool true) :: e) (H2 s)) (hnd : noDeferB post = true := by rfl) : W (.sq (KY P X todo ops ⟨some d, .call ⟨.value x, as.toArray, ats⟩, T, p, af, none⟩ post)) P n X ops todo [] e H := fun a w hf hm => by
  refine ⟨rfl, ?_⟩
  unfold KY wpListIn
  rw [if_pos (by simp [Region.wanted])]
  refine ⟨fun _ _ => trivial, ?_⟩
  obtain ⟨fn, tmps, assign, body, hrun, hR⟩ := hy w hm
  have hvs := hf.evals hv
  have he : (Oper.semAt (WF X.b.roundOf).round a.eval ⟨some d, .call ⟨.value x, as.toArray, ats⟩, T, p, af, none⟩).run P w = .ok (.round L fn tmps assign body) w := by
    rw [Oper.semAt_eq _ _ _ (fun c h => by cases h)]
    simp [execOp, resolve, Deferred.ofValue, invoke, hf.eval hx, hvs, hrun]
  rw [he, Oper.uponIn_round]
  refine ⟨fun h => (by cases h), (hR _ _).mono ?_⟩
  rintro en w' ⟨rfl, s, hm'⟩
  exact wpListIn_wide post hnd _ _ (hk s _ w' (hf.put _ hd) hm')

/-- A function's value with captured cells. -/
theorem mkf {f : FuncId} {xs : List Operand} {cap : List Value} (hx : evs e xs = some cap) : OpV P w0 (.makeFunc (.func f) #[] xs.toArray) T e H (.func (.func f) #[] cap.toArray) := fun ρ w _ _ _ _ hρ _ => by
  have : xs.map ρ = cap := by
    induction xs generalizing cap with
    | nil => simp [evs] at hx; simp [hx]
    | cons x xs ih =>
      simp only [evs] at hx
      cases h1 : ev e x with
      | none => simp [h1] at hx
      | some v =>
        cases h2 : evs e xs with
        | none => simp [h1, h2] at hx
        | some us =>
          simp [h1, h2] at hx
          subst hx
          simp [hρ _ _ h1, ih h2]
  simp [execOp, Instr.makeFunc, this]
/-- A call of such a function, whose value is known. -/
theorem W.cvc {f : FuncId} {x : Operand} {as : List Operand} {vs cap : List Value} {ats : Array TypeId} (hf : Callable P f) (hx : ev e x = some (.func (.func f) #[] cap.toArray)) (hv : evs e as = some vs) (hc : ∀ w, Mem X.w0 w H → Ret P f (vs ++ cap) w fun v' _ => v' = v) (hd : Nat.blt d n = true)
    (hk : W (.sq K) P n X ops todo l ((d, v) :: e) H) : W (.sq K) P n X ops todo (⟨some d, .call ⟨.value x, as.toArray, ats⟩, T, p, af, none⟩ :: l) e H := by
  intro a w hfit hm
  unfold wpList
  rw [if_pos (by simp [Region.wanted])]
  left
  have hrun : (execOp a.eval ⟨some d, .call ⟨.value x, as.toArray, ats⟩, T, p, af, none⟩).run P w = .ok (.enter f (vs ++ cap).toArray) w := by
    obtain ⟨fn, h1, h2, h3⟩ := hf
    have h2' : ¬ fn.body = none := fun h => by simp [h] at h2
    have hvs := hfit.evals hv
    simp at h3
    simp [execOp, resolve, Deferred.ofValue, invoke, hfit.eval hx, hvs, callFunc, h1, h2', h3]
  simp only [Oper.wp, hrun, Oper.upon]
  refine Calls.mono (hc w hm) ?_
  rintro en w' ⟨v', J, rfl, h2, h3, rfl⟩
  exact hk _ w' (hfit.put _ hd) (hm.merge' h2 h3)

/-! ### Leaving with the mark -/
theorem G.retRD {fn : Func} {R : Ending → World → Prop} {D : Nat} (hX : X.OkD P fn w0 R D) (hE : Ent w0 H (dfI D :: H1)) (hr : ∀ a w, Fits X.ds n e a → Mem w0 w H1 → (results fn a.tmps).run P w = .ok v w) (h : ∀ w, Mem w0 w H1 → R (.returned v) w) :
    G P n X (.code .ret :: todo) e H := by
  intro a w hf hm
  have hm1 : Mem w0 w (dfI D :: H1) := hE w (hX.w0 ▸ hm)
  have hd : w.heap[D]? = some (.deferred (some [])) := hm1.holds _ List.mem_cons_self
  have hm2 : Mem w0 (w.putObj D (.deferred none)) H1 := (hm1.putObj .hd).drop rfl
  refine ⟨.returned v, _, lone { { X.b.atR a (.code .ret :: todo) with mode := .returning } with defers := [] ++ [] } X.cs _, by rw [hX.R]; exact h _ hm2, ?_, hX.goal _ _ _ rfl ?_⟩
  · refine Steps.trans (.one (stepR_ret hX.round)) (.one (step_collected (d := mark D) (ds := []) (calls := []) (by simp) ?_ rfl (run_takeDeferred hd)))
    show a.defers = _
    rw [hf.defs, hX.ds]
  · exact ⟨rfl, rfl, hX.kind, fn, hX.func, hr a _ hf hm2⟩
theorem G.endRD {fn : Func} {R : Ending → World → Prop} {D : Nat} (hX : X.OkD P fn w0 R D) (hE : Ent w0 H (dfI D :: H1)) (hr : ∀ a w, Fits X.ds n e a → Mem w0 w H1 → (results fn a.tmps).run P w = .ok v w) (h : ∀ w, Mem w0 w H1 → R (.returned v) w) :
    G P n X [] e H := by
  intro a w hf hm
  have hm1 : Mem w0 w (dfI D :: H1) := hE w (hX.w0 ▸ hm)
  have hd : w.heap[D]? = some (.deferred (some [])) := hm1.holds _ List.mem_cons_self
  have hm2 : Mem w0 (w.putObj D (.deferred none)) H1 := (hm1.putObj .hd).drop rfl
  refine ⟨.returned v, _, lone { { X.b.atR a [] with mode := .returning } with defers := [] ++ [] } X.cs _, by rw [hX.R]; exact h _ hm2, ?_, hX.goal _ _ _ rfl ?_⟩
  · refine Steps.trans (.one (stepR_end hX.round)) (.one (step_collected (d := mark D) (ds := []) (calls := []) (by simp) ?_ rfl (run_takeDeferred hd)))
    show a.defers = _
    rw [hf.defs, hX.ds]
  · exact ⟨rfl, rfl, hX.kind, fn, hX.func, hr a _ hf hm2⟩
theorem retD1 {fn : Func} {R : Ending → World → Prop} {D t : Nat} (hX : X.OkD P fn w0 R D) (hE : Ent w0 H (dfI D :: H1)) (hr : fn.results = #[.tmp t]) (hv : look e t = some v) (h : ∀ w, Mem w0 w H1 → R (.returned v) w) : G P n X (.code .ret :: todo) e H :=
  .retRD hX hE (fun a w hf _ => by rw [results_tmp hr, hf.getD hv]) h
theorem retD2 {fn : Func} {R : Ending → World → Prop} {D t u : Nat} {x : Value} (hX : X.OkD P fn w0 R D) (hE : Ent w0 H (dfI D :: H1)) (hr : fn.results = #[.tmp t, .tmp u]) (hv : look e t = some v) (hx : look e u = some x) (h : ∀ w, Mem w0 w H1 → R (.returned (.tuple #[v, x])) w) : G P n X (.code .ret :: todo) e H :=
  .retRD hX hE (fun a w hf _ => by rw [results_tmp2 hr, hf.getD hv, hf.getD hx]) h
theorem retDA {fn : Func} {R : Ending → World → Prop} {D : Nat} {rs : List ResultVar} {vs : List Value} (hX : X.OkD P fn w0 R D) (hE : Ent w0 H (dfI D :: H1)) (hr : fn.results = rs.toArray) (ha : RA P n w0 e H1 rs vs) (h : ∀ w, Mem w0 w H1 → R (.returned (tup vs)) w) : G P n X (.code .ret :: todo) e H := by
  refine .retRD hX hE (fun a w hf hm => ?_) h
  have h1 : (rs.toArray.mapM (rvSem a)).run P w = .ok vs.toArray w := by
    rw [Array.mapM_eq_mapM_toList]; simp [ha _ a w hf hm]
  have h2 : results fn a.tmps = (do let vs ← rs.toArray.mapM (rvSem a); pure (if h : vs.size = 1 then vs[0] else .tuple vs)) := by
    unfold results
    rw [hr]
    congr 1
  rw [h2]
  simp only [Sem.run_bind, h1, Result.andThen_ok, Sem.run_pure]
  match vs with
  | [] => simp [tup]
  | [v] => simp [tup]
  | v :: u :: us => simp [tup]

/-! ### The statement -/
/-- Yield's parameters, laid into the temporaries. -/
def putPs : List Nat → List Value → Env → Env
  | t :: ts, v :: vs, e => putPs ts vs ((t, v) :: e)
  | _, _, e => e
theorem Fits.ps {ds : List Deferred} : ∀ (ps : List Nat) (vs : List Value) (e : Env) (t : Array Value) (a : Act), (∀ x ∈ ps, x < n) → Fits ds n e a → Fits ds n (putPs ps vs e) { a with tmps := (ps.zip vs).foldl (fun tmps x => tmps.setIfInBounds x.1 x.2) a.tmps }
  | [], _, e, t, a, _, h => by simpa [putPs] using h
  | p :: ps, [], e, t, a, _, h => by simpa [putPs] using h
  | p :: ps, v :: vs, e, t, a, hp, h => by
    have h1 := h.put (d := p) v (by simpa [Nat.blt_eq] using hp p List.mem_cons_self)
    have := Fits.ps ps vs ((p, v) :: e) t (a.put (some p) v) (fun x hx => hp x (List.mem_cons_of_mem _ hx)) h1
    simpa [putPs, Act.put] using this

theorem G.rf {fn : Func} {R : Ending → World → Prop} {g : Operand} {ps : List Nat} {assign body : Code} {f : FuncId} {lb : List Value} (hX : X.Ok P fn w0 R) (hg : ev e g = some (.func (.func f) #[] lb.toArray)) (hf : Callable P f)
    {σ : Type} (Hs : Nat → σ → List It) (HC : List It) (N : Nat) (vals : Nat → List Value) (s0 : σ) (hlen : ∀ k, (vals k).length = ps.length) (hps : (ps.all fun x => Nat.blt x n) = true) (h0 : Ent w0 H (Hs 0 s0 ++ HC))
    (hit : ∀ (L D : Nat) (rc : Loop), (∀ k s, k < N → ∀ w, Mem w0 w ((lpI L rc .ready :: Hs k s) ++ (dfI D :: HC)) → Yields P L (vals k) w fun w' => ∃ s', Mem w0 w' ((lpI L rc .ready :: Hs (k + 1) s') ++ (dfI D :: HC))) →
      RetF P f (.func (.yield L) #[] #[] :: lb) w0 (dfI D :: HC) (lpI L rc .ready :: Hs 0 s0) (fun _ J => ∃ s, J = lpI L rc .ready :: Hs N s))
    (hround : ∀ (L D : Nat) (rc : Loop) (k : Nat) (s : σ), k < N → ∀ X : Cx, X.Rd P L w0 (fun w' => ∃ s', Mem w0 w' ((lpI L rc .ready :: Hs (k + 1) s') ++ (dfI D :: HC))) → G P n X [.code assign, .beginRound, .code body] (putPs ps (vals k) e) ((lpI L rc .ready :: Hs k s) ++ (dfI D :: HC)))
    (hrest : ∀ (D : Nat) (s : σ) (X : Cx), X.OkD P fn w0 R D → G P n X todo e (Hs N s ++ (dfI D :: HC))) : G P n X (.code (.rangeFunc g ps.toArray assign body) :: todo) e H := by
  intro a w hfit hm
  have hm0 : Mem w0 w (Hs 0 s0 ++ HC) := h0 w (hX.w0 ▸ hm)
  rw [hX.ds] at hfit
  let rc : Loop := { state := .ready, pending := none, fn := X.b.fn, tmps := a.tmps, params := ps.toArray, assign, body, defers := w.heap.size }
  have he : (Instr.enterLoop X.b.fn a.tmps ps.toArray assign body X.b.roundOf).run P w = .ok (w.heap.size + 1, [mark w.heap.size]) ((w.alloc (.deferred (some []))).alloc (.loop rc)) := by
    rw [hX.round]; exact run_enterLoop_outer _ _ _ _ _
  have hres : (resolve a.eval (rangeCall g (w.heap.size + 1)) 0).run P ((w.alloc (.deferred (some []))).alloc (.loop rc)) = .ok { target := .fn (.func f) lb.toArray, args := #[.func (.yield (w.heap.size + 1)) #[] #[]] } ((w.alloc (.deferred (some []))).alloc (.loop rc)) := by
    simp only [resolve, hfit.eval hg]
    simp [go_sem]
  have hinv : (invoke (.fn (.func f) lb.toArray) #[.func (.yield (w.heap.size + 1)) #[] #[]]).run P ((w.alloc (.deferred (some []))).alloc (.loop rc)) = .ok (.enter f (.func (.yield (w.heap.size + 1)) #[] #[] :: lb).toArray) ((w.alloc (.deferred (some []))).alloc (.loop rc)) := by
    obtain ⟨fn, h1, h2, h3⟩ := hf
    have h2' : ¬ fn.body = none := fun h => by simp [h] at h2
    simp at h3
    simp [invoke, callFunc, h1, h2', h3]
  have henter := stepR_rangeFunc (P := P) (b := X.b) (a := a) (k := todo) (cs := X.cs) (w := w) he hres hinv
  have hm1 : Mem w0 ((w.alloc (.deferred (some []))).alloc (.loop rc)) ((lpI (w.heap.size + 1) rc .ready :: Hs 0 s0) ++ (dfI w.heap.size :: HC)) := by
    have := (hm0.alloc (.deferred (some []))).alloc (.loop rc)
    rw [World.size_alloc] at this
    exact this.perm (.cons _ (List.perm_middle.symm))
  have hits := hit (w.heap.size + 1) w.heap.size rc (fun k s hk w' hw' => Yields.of (n := n) (e := putPs ps (vals k) e) (st := .ready) hw' (by simp [rc, hlen]) _ rfl (by
      have := Fits.ps ps (vals k) e #[] { tmps := a.tmps, defers := [] } (fun x hx => by have := List.all_eq_true.1 hps x hx; simpa [Nat.blt_eq] using this) ⟨hfit.size, rfl, hfit.val⟩
      have e1 : (rc.params.zip (vals k).toArray).foldl (fun tmps (x : Nat × Value) => tmps.setIfInBounds x.1 x.2) rc.tmps = (ps.zip (vals k)).foldl (fun tmps x => tmps.setIfInBounds x.1 x.2) a.tmps := by
        show (ps.toArray.zip (vals k).toArray).foldl _ a.tmps = _
        rw [List.zip_toArray, List.foldl_toArray]
      rw [← e1] at this
      exact this) (hround _ _ rc k s hk)) _ hm1
  obtain ⟨en, w2, fr, ⟨v, Pre', rfl, hm2, hn2, s, rfl⟩, hsteps, hfn, hleave⟩ := hits (X.b.atR { a with defers := [mark w.heap.size] ++ a.defers } (.inRangeFunc (w.heap.size + 1) :: todo) :: X.cs)
  have hl2 : w2.heap[w.heap.size + 1]? = some (.loop { rc with state := .ready, pending := none }) := hm2.holds (lpI (w.heap.size + 1) rc .ready) (by simp)
  have hm3 : Mem w0 (w2.putObj (w.heap.size + 1) (.loop { rc with state := .exhausted, pending := none })) (Hs N s ++ (dfI w.heap.size :: HC)) := Mem.drop (it := Eng.blk true (w.heap.size + 1) (.loop { rc with state := .exhausted, pending := none })) (hm2.putObj .hd) rfl
  let X' : Cx := { X with ds := [mark w.heap.size] }
  have hX' : X'.OkD P fn w0 R w.heap.size := ⟨hX.func, hX.kind, hX.w0, hX.R, rfl, hX.round, hX.goal⟩
  obtain ⟨en, w4, m, hR, hc, hgo⟩ := hrest w.heap.size s X' hX' { a with defers := [mark w.heap.size] ++ a.defers } _ ⟨hfit.size, by simp [X', hfit.defs], hfit.val⟩ (by rw [show X'.w0 = w0 from hX.w0]; exact hm3)
  refine ⟨en, w4, m, hR, Comes.of_steps (.one henter) (Comes.of_steps hsteps (Comes.of_steps (.one ?_) (Comes.of_steps (.one (stepR_endRangeFunc (run_endLoop hl2 (by simp)))) hc))), hgo⟩
  rw [← finish_atR_inRangeFunc (w.heap.size + 1) v]
  exact step_leave_returned hleave
end
end Go.Eng
