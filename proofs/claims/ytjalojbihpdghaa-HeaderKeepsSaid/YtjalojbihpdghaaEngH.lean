/- The engine, tenth part: in a drawn region a load may be taken first where only loads and new blocks may come ahead of it. -/
import Derived.Test.YtjalojbihpdghaaEngA
import Derived.OrdersHeld
namespace Go.Eng
open Go
set_option linter.unusedVariables false

/-- It reads and makes new blocks, and does nothing else. -/
def Mild {α : Type} : Sem α → Prop
  | .pure _ => True
  | .load _ _ k => ∀ v, Mild (k v)
  | .new _ k => ∀ r, Mild (k r)
  | .program k => ∀ p, Mild (k p)
  | .mark _ k => Mild k
  | .choose _ k => ∀ n, Mild (k n)
  | .shape _ k => ∀ n, Mild (k n)
  | .halt _ => True
  | _ => False
theorem Mild.bind' {α β : Type} {f : α → Sem β} (hf : ∀ a, Mild (f a)) : ∀ m : Sem α, Mild m → Mild (m.bind f)
  | .pure a, _ => hf a
  | .load _ _ k, h => fun v => Mild.bind' hf (k v) (h v)
  | .new _ k, h => fun v => Mild.bind' hf (k v) (h v)
  | .program k, h => fun v => Mild.bind' hf (k v) (h v)
  | .mark _ k, h => Mild.bind' hf k h
  | .choose _ k, h => fun v => Mild.bind' hf (k v) (h v)
  | .shape _ k, h => fun v => Mild.bind' hf (k v) (h v)
  | .halt _, _ => trivial
  | .store .., h => h.elim
  | .freeze .., h => h.elim
  | .frozen .., h => h.elim
  | .getObj .., h => h.elim
  | .setObj .., h => h.elim
  | .sys .., h => h.elim
theorem Mild.bind {α β : Type} {f : α → Sem β} {m : Sem α} (h : Mild m) (hf : ∀ a, Mild (f a)) : Mild (m >>= f) := Mild.bind' hf m h
theorem Mild.mem {α : Type} {P : Program} {w0 : World} {H : List It} {v : α} {w' : World} : ∀ (m : Sem α) (w : World), Mild m → Mem w0 w H → m.run P w = .ok v w' → Mem w0 w' H
  | .pure a, w, _, hm, hr => by cases hr; exact hm
  | .load md a k, w, h, hm, hr => by
    simp only [Sem.run] at hr
    split at hr
    · exact Mild.mem (k _) w (h _) hm hr
    · split at hr
      · exact Mild.mem (k _) w (h _) hm hr
      · cases hr
  | .new o k, w, h, hm, hr => Mild.mem (k _) (w.alloc o) (h _) ((hm.alloc o).drop rfl) hr
  | .program k, w, h, hm, hr => Mild.mem (k _) w (h _) hm hr
  | .mark _ k, w, h, hm, hr => Mild.mem k w h hm hr
  | .halt _, w, _, _, hr => by cases hr
  | .choose q k, w, h, hm, hr => by
    simp only [Sem.run] at hr
    split at hr
    · exact Mild.mem (k _) w (h _) hm hr
    · exact Mild.mem (k _) w.drew (h _) hm.drew hr
  | .shape r k, w, h, hm, hr => Mild.mem (k _) w (h _) hm hr
  | .store .., _, h, _, _ => h.elim
  | .freeze .., _, h, _, _ => h.elim
  | .frozen .., _, h, _, _ => h.elim
  | .getObj .., _, h, _, _ => h.elim
  | .setObj .., _, h, _, _ => h.elim
  | .sys .., _, h, _, _ => h.elim

theorem mild_underlying (T : TypeId) : Mild (underlying T) := by
  unfold underlying
  refine Mild.bind (fun _ => trivial) fun p => ?_
  split <;> exact trivial
theorem mild_typeInfo (T : TypeId) : Mild (typeInfo T) := by
  unfold typeInfo
  refine Mild.bind (fun _ => trivial) fun p => ?_
  split <;> exact trivial
theorem mild_sizeOf (T : TypeId) : Mild (sizeOf T) := Mild.bind (mild_typeInfo T) fun _ => trivial
theorem mild_isAgg (T : TypeId) : Mild (isAgg T) := by
  unfold isAgg
  refine Mild.bind (mild_underlying T) fun d => ?_
  split <;> exact trivial
theorem mild_zeroValue (T : TypeId) : Mild (zeroValue T) := by
  unfold zeroValue
  refine Mild.bind (mild_typeInfo T) fun i => ?_
  split <;> exact trivial
theorem mild_newRow (T : TypeId) (cs : Array Value) : Mild (newRow T cs) := Mild.bind (m := newObj _) (fun _ => trivial) fun _ => trivial
theorem mild_newVar (T : TypeId) (v : Value) : Mild (newVar T v) := mild_newRow _ _
theorem mild_loadCells (a : Addr) : ∀ (k i : Nat) (acc : Array Value), Mild (loadCellsFrom a i k acc)
  | 0, _, _ => trivial
  | k + 1, i, acc => Mild.bind (m := load _ _) (fun _ => trivial) fun v => mild_loadCells a k (i + 1) _
theorem mild_loadVar (T : TypeId) (a : Addr) : Mild (loadVar T a) := by
  unfold loadVar
  refine Mild.bind (mild_isAgg T) fun b => ?_
  split
  · exact Mild.bind (mild_sizeOf T) fun k => Mild.bind (mild_loadCells a k 0 _) fun _ => trivial
  · exact fun _ => trivial
theorem mild_loadAt (T : TypeId) (v : Value) : Mild (Instr.loadAt T v) := by
  unfold Instr.loadAt
  refine Mild.bind ?_ fun a => mild_loadVar T a
  unfold Instr.sureAddr
  split <;> exact trivial
theorem mild_alloc (T : TypeId) : Mild (Instr.alloc T true (.tuple #[])) := by
  unfold Instr.alloc
  exact Mild.bind (mild_zeroValue T) fun z => Mild.bind (mild_newVar _ _) fun _ => trivial
theorem mild_box (T : TypeId) (v : Value) : Mild (Instr.box T v) := Mild.bind (mild_newVar _ _) fun _ => trivial
theorem mild_buildSlice (T : TypeId) (k : Nat) (ps : Array (Nat × Value)) : Mild (Instr.buildSlice T k ps) := by
  unfold Instr.buildSlice
  refine Mild.bind (mild_underlying T) fun d => ?_
  split
  · rename_i el0
    refine Mild.bind (mild_sizeOf _) fun s => ?_
    have tail : ∀ (el : TypeId) (z : Array Value), Mild (do
        let some cells := Instr.fill (fun i => some (i * s, s)) ((Array.range (k * s)).map (z[· % z.size]!)) ps.toList | stuck "buildSlice: a part of the wrong size"
        pure (Value.slice (some (← newRow el cells)) k k) : Sem Value) := fun el z => by
      split
      · exact Mild.bind (mild_newRow el _) fun _ => trivial
      · exact trivial
    have z2 : Mild (do
        let zero ← if k * s = 0 then pure #[] else do pure (← zeroValue el0).cells
        let some cells := Instr.fill (fun i => some (i * s, s)) ((Array.range (k * s)).map (zero[· % zero.size]!)) ps.toList | stuck "buildSlice: a part of the wrong size"
        pure (Value.slice (some (← newRow el0 cells)) k k) : Sem Value) := by
      by_cases hks : k * s = 0
      · simp only [hks, if_true]
        refine Mild.bind (m := pure #[]) trivial fun z => ?_
        have := tail el0 z
        rw [hks] at this
        exact this
      · simp only [hks, if_false]
        first
          | exact Mild.bind (m := zeroValue el0) (mild_zeroValue el0) fun z => tail el0 z.cells
          | exact Mild.bind (m := (do pure (← zeroValue el0).cells)) (Mild.bind (m := zeroValue el0) (mild_zeroValue el0) fun _ => trivial) fun z => tail el0 z
    by_cases hb : k * s > 2 ^ 24
    · simp only [hb, if_true]; exact trivial
    · simp only [hb, if_false]; exact z2
  · exact trivial

theorem mild_error {α : Type} (m : String) : Mild (runtimePanic (.error m) : Sem α) := by
  unfold runtimePanic
  exact Mild.bind (m := program) (fun _ => trivial) fun p => trivial
theorem mild_asIntOf (v : Value) : Mild (asIntOf v) := by cases v <;> first | exact trivial | (rename_i x; cases x <;> exact trivial)
theorem mild_asInt (v : Value) : Mild (asInt v) := Mild.bind (mild_asIntOf v) fun _ => trivial
theorem mild_extract (x : Value) (i : Nat) : Mild (Instr.extract x i) := by
  unfold Instr.extract
  split
  · split <;> exact trivial
  · exact trivial
theorem mild_makeSlice (T : TypeId) (x y : Value) : Mild (Instr.makeSlice T x y) := by
  unfold Instr.makeSlice
  refine Mild.bind (mild_underlying T) fun d => ?_
  split
  · rename_i el
    refine Mild.bind (mild_asInt x) fun l => Mild.bind (mild_asInt y) fun c => Mild.bind (mild_typeInfo _) fun i => ?_
    have tail : ∀ (n : Nat) (z : Array Value) (a b : Nat), Mild (do let r ← newRow el ((Array.range n).map (z[· % z.size]!)); pure (Value.slice (some r) a b) : Sem Value) := fun n z a b => Mild.bind (mild_newRow _ _) fun _ => trivial
    have rest : Mild (do
        askRoom ((IntKind.i64.wrap c).toNat * i.bytes)
        let n := (IntKind.i64.wrap c).toNat * (← sizeOf el)
        let zero ← if n = 0 then pure #[] else do pure (← zeroValue el).cells
        let a ← newRow el ((Array.range n).map (zero[· % zero.size]!))
        pure (Value.slice (some a) (IntKind.i64.wrap l).toNat (IntKind.i64.wrap c).toNat) : Sem Value) := by
      refine Mild.bind ?_ fun _ => Mild.bind (mild_sizeOf _) fun s => ?_
      · unfold askRoom; split <;> exact trivial
      · by_cases h : (IntKind.i64.wrap c).toNat * s = 0
        · simp only [h, if_true]
          exact Mild.bind (m := pure #[]) trivial fun z => tail _ _ _ _
        · simp only [h, if_false]
          exact Mild.bind (mild_zeroValue el) fun z0 => Mild.bind (m := pure z0.cells) trivial fun z => tail _ _ _ _
    simp only []
    split
    · split
      · exact mild_error _
      · split
        · exact mild_error _
        · exact Mild.bind (m := choose _) (fun _ => trivial) fun n => by split <;> exact mild_error _
    · exact rest
  · exact trivial
theorem mild_bounds {α : Type} (k : IntKind) (i y : Int) (c : BoundsCode) : Mild (boundsPanic k i y c : Sem α) := by
  unfold boundsPanic
  dsimp only
  split
  · refine Mild.bind (m := (· == 1) <$> choose _) (Mild.bind (m := choose _) (fun _ => trivial) fun _ => trivial) fun s => ?_
    unfold runtimePanic
    exact Mild.bind (m := program) (fun _ => trivial) fun p => trivial
  · refine Mild.bind (m := pure _) trivial fun s => ?_
    unfold runtimePanic
    exact Mild.bind (m := program) (fun _ => trivial) fun p => trivial
theorem mild_indexAt (T : TypeId) (x y : Value) : Mild (Instr.indexAt T x y) := by
  unfold Instr.indexAt
  refine Mild.bind (mild_asIntOf y) fun p => ?_
  obtain ⟨k, i⟩ := p
  refine Mild.bind (mild_underlying T) fun D => ?_
  dsimp only
  split
  · refine Mild.bind ?_ fun a => ?_
    · unfold Instr.sureAddr
      split <;> exact trivial
    · refine Mild.bind (m := pure _) trivial fun q => ?_
      obtain ⟨base, len, elem⟩ := q
      refine Mild.bind (mild_underlying T) fun D2 => ?_
      dsimp only
      (repeat' split) <;> first | exact trivial | exact Mild.bind (mild_sizeOf _) fun _ => trivial | exact mild_bounds _ _ _ _
  · refine Mild.bind (m := pure _) trivial fun q => ?_
    obtain ⟨base, len, elem⟩ := q
    refine Mild.bind (mild_underlying T) fun D2 => ?_
    dsimp only
    (repeat' split) <;> first | exact trivial | exact Mild.bind (mild_sizeOf _) fun _ => trivial | exact mild_bounds _ _ _ _
  · exact trivial
/-- A conversion between integers. -/
theorem convert_same {P : Program} {T1 T2 : TypeId} {k1 k2 : IntKind} (h1 : P.underlying T1 = some (.int k1)) (h2 : P.underlying T2 = some (.int k2)) (x : Value) {w w' : World} {v : Value} (hr : (convert T1 T2 x).run P w = .ok v w') {w0 : World} {H : List It} (hm : Mem w0 w H) : Mem w0 w' H := by
  cases x
  case int k n => simp [convert, und_run h1, und_run h2, Conv.intToInt] at hr; rw [← hr.2]; exact hm
  case float k b =>
    simp only [convert, Sem.run_bind, und_run h1, und_run h2, Result.andThen_ok] at hr
    refine Mild.mem _ w ?_ hm hr
    unfold Conv.floatToInt
    have hany : Mild (do pure (Value.int k2 (k2.wrap (← choose (.floatToInt k b k2)))) : Sem Value) := Mild.bind (m := choose _) (fun _ => trivial) fun _ => trivial
    simp only []
    split
    · split
      · exact trivial
      · exact hany
    · exact hany
  case pointer q =>
    cases q <;> simp [convert, und_run h1, und_run h2, unsupported] at hr
  all_goals (simp [convert, und_run h1, und_run h2, unsupported] at hr)
/-- Operations that only read or make new blocks. -/
def mildB (P : Program) (o : Oper) : Bool := match o.op with
  | .load .. | .alloc .. | .box .. | .buildSlice .. | .move .. | .assign .. | .makeSlice .. | .extract .. | .indexAddr .. => true
  | .convert T1 T2 _ => match P.underlying T1, P.underlying T2 with
    | some (.int _), some (.int _) => true
    | _, _ => false
  | _ => false
theorem mild_op {P : Program} {o : Oper} (h : mildB P o = true) (ρ : Operand → Value) : ∃ m : Sem Value, execOp ρ o = (m >>= fun v => pure (.value v)) ∧ ∀ (w w' : World) (v : Value), m.run P w = .ok v w' → ∀ (w0 : World) (H : List It), Mem w0 w H → Mem w0 w' H := by
  have key : ∀ {m : Sem Value}, Mild m → ∀ (w w' : World) (v : Value), m.run P w = .ok v w' → ∀ (w0 : World) (H : List It), Mem w0 w H → Mem w0 w' H := fun {m} hM w w' v hr w0 H hm => Mild.mem m w hM hm hr
  unfold mildB at h
  split at h
  · rename_i T x hop; exact ⟨Instr.loadAt T (ρ x), by simp only [execOp, hop], key (mild_loadAt _ _)⟩
  · rename_i T hop; exact ⟨Instr.alloc T true (.tuple #[]), by simp only [execOp, hop], key (mild_alloc _)⟩
  · rename_i T x hop; exact ⟨Instr.box T (ρ x), by simp only [execOp, hop], key (mild_box _ _)⟩
  · rename_i T k x hop; exact ⟨Instr.buildSlice T k (x.map fun (i, x) => (i, ρ x)), by simp only [execOp, hop], key (mild_buildSlice _ _ _)⟩
  · rename_i x hop; exact ⟨pure (ρ x), by simp only [execOp, hop]; rfl, key trivial⟩
  · rename_i x hop; exact ⟨pure (ρ x), by simp only [execOp, hop]; rfl, key trivial⟩
  · rename_i T x y hop; exact ⟨Instr.makeSlice T (ρ x) (ρ y), by simp only [execOp, hop], key (mild_makeSlice _ _ _)⟩
  · rename_i x i hop; exact ⟨Instr.extract (ρ x) i, by simp only [execOp, hop], key (mild_extract _ _)⟩
  · rename_i T x y hop; exact ⟨Instr.indexAt T (ρ x) (ρ y), by simp only [execOp, hop], key (mild_indexAt _ _ _)⟩
  · rename_i T1 T2 x hop
    split at h
    · rename_i k1 k2 h1 h2
      exact ⟨convert T1 T2 (ρ x), by simp only [execOp, hop], fun w w' v hr w0 H hm => convert_same h1 h2 (ρ x) hr hm⟩
    · cases h
  · cases h

section
variable {P : Program} {ops : Array Oper} {md : Region.Mode} {w0 : World} {H : List It}
theorem wpOp_mild {j : Nat} {o : Oper} {Q : Exit → Act → World → Prop} {K : Act → World → Prop} {a : Act} {w : World} (hj : ops[j]? = some o) (hmild : mildB P o = true) (hQ : ¬ LetsOut Q) (hm : Mem w0 w H) (h : wpOp P ops Q j K a w) :
    wpOp P ops Q j (fun a' w' => Mem w0 w' H ∧ K a' w') a w := by
  unfold wpOp at *
  simp only [hj] at *
  split
  · rename_i hw
    simp only [hw, if_true] at h
    rcases h with h | ⟨_, h⟩
    · refine .inl ?_
      unfold Oper.wp at *
      obtain ⟨m, he, hmm⟩ := mild_op hmild a.eval
      rw [he] at h ⊢
      simp only [Sem.run_bind] at h ⊢
      cases hr : m.run P w with
      | ok v w' =>
        rw [hr] at h
        have hm' := hmm w w' v hr w0 H hm
        simp only [Result.andThen] at h ⊢
        exact ⟨hm', h⟩
      | halt x w' =>
        rw [hr] at h
        cases x <;> simp only [Result.andThen, Oper.upon] at h ⊢
        exact h
    · exact absurd h hQ
  · rename_i hw
    simp only [hw, Bool.false_eq_true, if_false] at h
    exact ⟨hm, h⟩

def heldB (P : Program) (ops : Array Oper) (done : List Nat) (i : Nat) (R : List Nat) : Bool :=
  takeB ops done i && (R.all fun j => decide (j ≠ i) && match ops[j]? with | some o => mildB P o | none => false) &&
  (List.range ops.size).all fun t => (listedOf ops.size done).getD t false || t == i || R.contains t || match ops[t]? with
    | some o => o.after.any fun e => Region.binds .any e && (e.on == i || (!(listedOf ops.size done).getD e.on false && !R.contains e.on))
    | none => true

theorem wpAny_held {i : Nat} {oi : Oper} {v : Value} {l0 : Array Bool} {R : List Nat} {Q : Exit → Act → World → Prop} (hi : ops[i]? = some oi) (hsel : ∀ (j : Nat) (o : Oper) cs b, ops[j]? = some o → o.op ≠ .select cs b)
    (hQ : ∀ c a w, ¬ Q (.panic c) a w) (hQ2 : ¬ LetsOut Q) (hblk : ∀ l, BInv md ops l0 R l → l.getD i false = false → ∀ t ∈ Region.ready md ops l, t = i ∨ t ∈ R) (hR : ∀ j ∈ R, ∃ o, ops[j]? = some o ∧ mildB P o = true) :
    ∀ (f : Nat) (l : Array Bool) (a : Act) (w : World), BInv md ops l0 R l →
      (∀ j oj, ops[j]? = some oj → j ≠ i → l.getD j true = false → (∀ e ∈ oj.after, Region.binds md e = true → e.on ≠ i) → oi.apart ops oj = true) →
      i ∈ Region.ready md ops l → YieldsIf P ops (fun w => Mem w0 w H) oi v a → Mem w0 w H → wpAny P md ops Q f (l.setIfInBounds i true) (a.put oi.dst v) w → wpAny P md ops Q (f + 1) l a w := by
  intro f
  induction f with
  | zero =>
    intro l a w inv _ hr hy hm H'
    refine ⟨fun h => (by rw [h] at hr; cases hr), fun j hj => ?_⟩
    by_cases hji : j = i
    · subst hji; exact hy.wpOp hi hm H'
    · have := ready_mono hj hji
      rw [H'.1] at this; cases this
  | succ f ih =>
    intro l a w inv hfree hr hy hm H'
    refine ⟨fun h => (by rw [h] at hr; cases hr), fun j hj => ?_⟩
    by_cases hji : j = i
    · subst hji; exact hy.wpOp hi hm H'
    · have h1 := H'.2 j (ready_mono hj hji)
      have hun := getD_both (mem_ready.1 hr).1
      have hjR : j ∈ R := (hblk l inv hun j hj).resolve_left hji
      obtain ⟨hjun, oj, hoj, hall⟩ := mem_ready.1 hj
      have hnot : ∀ e ∈ oj.after, Region.binds md e = true → e.on ≠ i := fun e he hb heq => by
        have h3 := hall e he hb
        rw [heq, hun] at h3; cases h3
      have h2 := wpOp_putIf hoj (hfree j oj hoj hji hjun hnot) (fun cs b => hsel i oi cs b hi) (fun cs b => hsel j oj cs b hoj) (fun c a w h => absurd h (hQ c _ w)) hy h1
      obtain ⟨o', ho', hmild⟩ := hR j hjR
      have : o' = oj := Option.some.inj (ho'.symm.trans hoj)
      subst this
      refine wpOp_mono (fun a' w' h3 => ?_) (wpOp_mild hoj hmild hQ2 hm h2)
      refine ih (l.setIfInBounds j true) a' w' (inv.set hj hjR) (fun k ok hk hki hku hno => ?_) (ready_mono hr (Ne.symm hji)) h3.2.1 h3.1 ?_
      · refine hfree k ok hk hki ?_ hno
        by_cases hjk : j = k
        · subst hjk; exact hjun
        · rw [getD_set_ne true hjk] at hku; exact hku
      · rw [Array.setIfInBounds_comm _ _ hji]; exact h3.2.2
end

section
variable {P : Program} {n : Nat} {X : Cx} {todo : List Item} {e : Env} {H : List It} {ops : Array Oper} {d : Nat} {op : Op} {T : TypeId} {p : String} {af : Array Edge} {v : Value} {fuel : Nat} {done : List Nat}
/-- A load is taken first. -/
theorem A.held (i : Nat) (R : List Nat) (hi : ops[i]? = some ⟨some d, op, T, p, af, none⟩) (hc : heldB P ops done i R = true) (ho : OpV P X.w0 op T e H v) (hd : Nat.blt d n = true) (h : A P n X ops todo fuel (i :: done) ((d, v) :: e) H) : A P n X ops todo (fuel + 1) done e H := by
  simp only [heldB, takeB, Bool.and_eq_true] at hc
  obtain ⟨⟨⟨⟨hs, hf⟩, hr⟩, hR⟩, hB⟩ := hc
  intro a w hfit hm
  refine wpAny_held (md := .any) (l0 := listedOf ops.size done) (R := R) (w0 := X.w0) (H := H) hi (Region.noSelect_spec hs) (fun c a w hq => by cases hq.1) (QA_out _) (fun l inv hun t ht => ?_) (fun j hj => ?_) fuel _ a w
    ⟨size_listedOf _ _, fun j oj hj hl e he hb => .inr hl, fun _ _ => rfl, fun _ h => h⟩ (Region.free_spec hi hf) (by simpa using hr) (.inl ⟨rfl, fun w' hw' => ho _ _ _ _ _ _ (fun x v hx => hfit.eval hx) hw'⟩) hm (h _ w (hfit.put v hd) hm)
  · refine Classical.byContradiction fun hnt => ?_
    simp only [not_or] at hnt
    obtain ⟨htu, ot, hot, hall⟩ := mem_ready.1 ht
    have htlt : t < ops.size := (Array.getElem?_eq_some_iff.1 hot).1
    have h2 := List.all_eq_true.1 hB t (List.mem_range.2 htlt)
    simp only [hot, Bool.or_eq_true, beq_iff_eq] at h2
    rcases h2 with ((h2 | h2) | h2) | h2
    · rw [← inv.out t hnt.2, getD_both htu] at h2; cases h2
    · exact hnt.1 h2
    · exact hnt.2 (by simpa using h2)
    · obtain ⟨e, he, hb⟩ := Array.any_eq_true'.1 h2
      simp only [Bool.and_eq_true, Bool.or_eq_true, beq_iff_eq, Bool.not_eq_true'] at hb
      have h3 := hall e he hb.1
      rcases hb.2 with hb2 | hb2
      · rw [hb2, hun] at h3; cases h3
      · rw [inv.out e.on (by simpa using hb2.2), hb2.1] at h3; cases h3
  · have h2 := List.all_eq_true.1 hR j hj
    simp only [Bool.and_eq_true] at h2
    cases hoj : ops[j]? with
    | none => rw [hoj] at h2; cases h2.2
    | some o => rw [hoj] at h2; exact ⟨o, rfl, h2.2⟩
end
end Go.Eng
