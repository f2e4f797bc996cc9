/- The engine, ninth part: a region whose order is drawn, its operations taken one by one. -/
import Derived.Test.YtjalojbihpdghaaEngF
namespace Go.Eng
open Go
set_option linter.unusedVariables false

/-- What has come up. -/
def listedOf (m : Nat) (done : List Nat) : Array Bool := done.foldr (fun i l => l.setIfInBounds i true) (Array.replicate m false)
/-- From here on a drawn region goes through in whatever order. -/
def A (P : Program) (n : Nat) (X : Cx) (ops : Array Oper) (todo : List Item) (fuel : Nat) (done : List Nat) (e : Env) (H : List It) : Prop :=
  ∀ a w, Fits X.ds n e a → Mem X.w0 w H → wpAny P .any ops (QA (KX P X todo)) fuel (listedOf ops.size done) a w
def KA (P : Program) (X : Cx) (ops : Array Oper) (todo : List Item) (fuel : Nat) (done : List Nat) : Kt := fun a w => wpAny P .any ops (QA (KX P X todo)) fuel (listedOf ops.size done) a w

def takeB (ops : Array Oper) (done : List Nat) (i : Nat) : Bool := Region.noSelect ops && Region.free .any ops (listedOf ops.size done) i && (Region.ready .any ops (listedOf ops.size done)).contains i
def oneB (ops : Array Oper) (done : List Nat) (i : Nat) : Bool := Region.ready .any ops (listedOf ops.size done) == [i]

section
variable {P : Program} {n : Nat} {X : Cx} {todo : List Item} {e : Env} {H : List It} {ops : Array Oper} {d : Nat} {op : Op} {T : TypeId} {p : String} {af : Array Edge} {v : Value} {fuel i : Nat} {done : List Nat}

theorem G.rega {id : Nat} {l : List Oper} (m : Nat) (hl : l.length = m) (hm : P.follows .mixedOrders = true) (h : A P n X l.toArray todo m [] e H) (hnd : noDeferB l = true := by rfl) : G P n X (.code (.region id l.toArray true) :: todo) e H :=
  fun a w hf hw => .of_any hnd hm (by subst hl; exact h a _ hf hw.drew)
theorem A.nil (hr : Region.ready .any ops (listedOf ops.size done) = []) (h : G P n X todo e H) : A P n X ops todo fuel done e H := fun a w hf hm => by
  cases fuel with
  | zero => exact ⟨hr, rfl, h a w hf hm⟩
  | succ f => exact ⟨fun _ => ⟨rfl, h a w hf hm⟩, by rw [hr]; simp⟩
/-- An operation that yields its value in whatever world. -/
theorem A.q (i : Nat) (hi : ops[i]? = some ⟨some d, op, T, p, af, none⟩) (hc : takeB ops done i = true) (ho : ∀ w0, OpV P w0 op T e [] v) (hd : Nat.blt d n = true) (h : A P n X ops todo fuel (i :: done) ((d, v) :: e) H) : A P n X ops todo (fuel + 1) done e H := by
  simp only [takeB, Bool.and_eq_true] at hc
  intro a w hf hm
  refine wpAny_take hi hc.1.1 hc.1.2 hc.2 (fun c a w hq => by simp [QA] at hq) (v := v) (.inl ⟨rfl, fun w' => ?_⟩) (h _ w (hf.put v hd) hm)
  exact ho w' _ _ _ _ _ _ (fun x v hx => hf.eval hx) (Mem.nil w')
theorem A.qg (i : Nat) {j dj : Nat} {bv t : Bool} (hi : ops[i]? = some ⟨some d, op, T, p, af, some (j, bv)⟩) (hc : takeB ops done i = true) (hj : (ops[j]?).bind (·.dst) = some dj) (hv : look e dj = some (.bool t)) (ht : t = bv) (ho : ∀ w0, OpV P w0 op T e [] v) (hd : Nat.blt d n = true) (h : A P n X ops todo fuel (i :: done) ((d, v) :: e) H) : A P n X ops todo (fuel + 1) done e H := by
  simp only [takeB, Bool.and_eq_true] at hc
  subst ht
  intro a w hf hm
  refine wpAny_take hi hc.1.1 hc.1.2 hc.2 (fun c a w hq => by simp [QA] at hq) (v := v) (.inl ⟨by simp [Region.wanted, yielded_of hf hj hv], fun w' => ?_⟩) (h _ w (hf.put v hd) hm)
  exact ho w' _ _ _ _ _ _ (fun x v hx => hf.eval hx) (Mem.nil w')
theorem A.sk (i : Nat) {j dj : Nat} {bv t : Bool} (hi : ops[i]? = some ⟨some d, op, T, p, af, some (j, bv)⟩) (hc : takeB ops done i = true) (hj : (ops[j]?).bind (·.dst) = some dj) (hv : look e dj = some (.bool t)) (ht : t = !bv) (hd : Nat.blt d n = true) (h : A P n X ops todo fuel (i :: done) ((d, undef) :: e) H) : A P n X ops todo (fuel + 1) done e H := by
  simp only [takeB, Bool.and_eq_true] at hc
  intro a w hf hm
  exact wpAny_take hi hc.1.1 hc.1.2 hc.2 (fun c a w hq => by simp [QA] at hq) (v := undef) (.inr ⟨by simp [Region.wanted, yielded_of hf hj hv, ht], rfl⟩) (h _ w (hf.put undef hd) hm)
theorem A.sku (i : Nat) {j dj : Nat} {bv : Bool} (hi : ops[i]? = some ⟨some d, op, T, p, af, some (j, bv)⟩) (hc : takeB ops done i = true) (hj : (ops[j]?).bind (·.dst) = some dj) (hv : look e dj = some undef) (hd : Nat.blt d n = true) (h : A P n X ops todo fuel (i :: done) ((d, undef) :: e) H) : A P n X ops todo (fuel + 1) done e H := by
  simp only [takeB, Bool.and_eq_true] at hc
  intro a w hf hm
  exact wpAny_take hi hc.1.1 hc.1.2 hc.2 (fun c a w hq => by simp [QA] at hq) (v := undef) (.inr ⟨by simp [Region.wanted, yielded, hj, hf.val dj _ hv, undef], rfl⟩) (h _ w (hf.put undef hd) hm)
theorem A.sp {t : Bool} (dj : Nat) (_hv : look e dj = some (.bool t)) (h1 : t = true → A P n X ops todo fuel done e H) (h2 : t = false → A P n X ops todo fuel done e H) : A P n X ops todo fuel done e H := by
  cases t
  · exact h2 rfl
  · exact h1 rfl

theorem wp_turn {o : Oper} {K K' : Kt} {N : Act → World → Prop} {a : Act} {w : World} (h : o.wp P a w N (QA K)) : o.wp P a w N (QA K') := by
  unfold Oper.wp at *
  generalize (execOp a.eval o).run P w = r at *
  cases r with
  | ok x w' =>
    cases x <;> simp only [Oper.upon] at h ⊢ <;> try exact h
    refine Calls.mono h fun en w'' he => ?_
    cases en with
    | returned u => exact he
    | panicked c => exact absurd he.1 (by simp)
    | outgrown => exact absurd he (QA_out K)
  | halt x w' =>
    cases x <;> simp only [Oper.upon] at h ⊢
    exact absurd h.1 (by simp)
/-- An operation's step in whatever order, from the step in the list's order. -/
theorem wpOp_of_list {o : Oper} {K K' : Kt} {a : Act} {w : World} (hi : ops[i]? = some o) (h : wpList P ops (QA K) [o] a w) : wpOp P ops (QA K') i K a w := by
  unfold wpOp
  simp only [hi]
  unfold wpList at h
  have hn : wpList P ops (QA K) [] = K := by funext a w; simp [wpList, QA]
  rw [hn] at h
  split
  · rename_i hw
    rw [if_pos hw] at h
    rcases h with h | ⟨_, h⟩
    · exact .inl (wp_turn h)
    · exact absurd h (QA_out K)
  · rename_i hw
    rw [if_neg hw] at h
    exact h
/-- The one operation that can come up now. -/
theorem A.one (i : Nat) {o : Oper} (hi : ops[i]? = some o) (hc : oneB ops done i = true) (h : W (.sq (KA P X ops todo fuel (i :: done))) P n X ops todo [o] e H) : A P n X ops todo (fuel + 1) done e H := fun a w hf hm =>
  wpAny_all (rs := [i]) (by simpa [oneB] using hc) (by simp) (by
    intro j hj
    obtain rfl : j = i := by simpa using hj
    exact wpOp_of_list hi (h a w hf hm))
theorem A.two (i j : Nat) {o o' : Oper} (hi : ops[i]? = some o) (hj : ops[j]? = some o') (hc : (Region.ready .any ops (listedOf ops.size done) == [i, j]) = true) (h : W (.sq (KA P X ops todo fuel (i :: done))) P n X ops todo [o] e H) (h' : W (.sq (KA P X ops todo fuel (j :: done))) P n X ops todo [o'] e H) : A P n X ops todo (fuel + 1) done e H := fun a w hf hm =>
  wpAny_all (rs := [i, j]) (by simpa using hc) (by simp) (by
    intro k hk
    rcases List.mem_cons.1 hk with rfl | hk
    · exact wpOp_of_list hi (h a w hf hm)
    · obtain rfl : k = j := by simpa using hk
      exact wpOp_of_list hj (h' a w hf hm))
theorem A.backs (h : A P n X ops todo fuel done e H) : W (.st (KA P X ops todo fuel done)) P n X ops todo [] e H := fun a w hf hm => h a w hf hm
theorem A.back (h : A P n X ops todo fuel done e H) : W (.sq (KA P X ops todo fuel done)) P n X ops todo [] e H := fun a w hf hm => ⟨rfl, h a w hf hm⟩
end

/-! ### A batch of still operations -/
section
variable {P : Program} {ops : Array Oper} {md : Region.Mode} {w : World}

def headsB (md : Region.Mode) (ops : Array Oper) : List Nat → Array Bool → Bool
  | [], _ => true
  | i :: r, l => (Region.ready md ops l).contains i && Region.free md ops l i && headsB md ops r (l.setIfInBounds i true)
def sinksB (md : Region.Mode) (ops : Array Oper) (l0 : Array Bool) (hd : List Nat) (t0 : Nat) : Bool :=
  (hd.all fun b => decide (b < ops.size) && (t0 :: hd).any fun j => decide (b < j) && Region.waitsFor md ops j b) &&
  (List.range ops.size).all fun t => l0.getD t false || hd.contains t || t == t0 || match ops[t]? with
    | some o => o.after.any fun e => Region.binds md e && !l0.getD e.on false && !hd.contains e.on
    | none => true
def batchB (md : Region.Mode) (ops : Array Oper) (l0 : Array Bool) (hd : List Nat) (t0 : Nat) : Bool :=
  Region.noSelect ops && hd.all (fun b => decide (b < ops.size) && !l0.getD b false) && headsB md ops hd l0 && sinksB md ops l0 hd t0

structure BInv (md : Region.Mode) (ops : Array Oper) (l0 : Array Bool) (hd : List Nat) (l : Array Bool) : Prop where
  size : l.size = ops.size
  closed : ∀ j oj, ops[j]? = some oj → l.getD j false = true → ∀ e ∈ oj.after, Region.binds md e = true → l.getD e.on false = true ∨ l0.getD j false = true
  out : ∀ t, t ∉ hd → l.getD t false = l0.getD t false
  old : ∀ t, l0.getD t false = true → l.getD t false = true

theorem sinks_block {l0 l : Array Bool} {hd : List Nat} {t0 : Nat} (hB : sinksB md ops l0 hd t0 = true) (h00 : ∀ b ∈ hd, l0.getD b false = false) (inv : BInv md ops l0 hd l) :
    ∀ (k i : Nat), ops.size - i = k → i ∈ hd → l.getD i false = false → ∀ t ∈ Region.ready md ops l, t ∈ hd := by
  simp only [sinksB, Bool.and_eq_true] at hB
  obtain ⟨hB1, hB2⟩ := hB
  intro k
  induction k using Nat.strongRecOn with
  | _ k ih =>
    intro i hk hi hun t ht
    refine Classical.byContradiction fun hnt => ?_
    obtain ⟨htu, ot, hot, hall⟩ := mem_ready.1 ht
    have htlt : t < ops.size := (Array.getElem?_eq_some_iff.1 hot).1
    have h2 := List.all_eq_true.1 hB2 t (List.mem_range.2 htlt)
    simp only [hot, Bool.or_eq_true, beq_iff_eq] at h2
    have hl0t : l0.getD t false = false := by rw [← inv.out t hnt]; exact getD_both htu
    rcases h2 with ((h2 | h2) | h2) | h2
    · rw [hl0t] at h2; cases h2
    · exact hnt (by simpa using h2)
    · subst h2
      have h1 := List.all_eq_true.1 hB1 i hi
      simp only [Bool.and_eq_true, decide_eq_true_eq] at h1
      obtain ⟨his, h1⟩ := h1
      obtain ⟨j, hj, hj2⟩ := List.any_eq_true.1 h1
      simp only [Bool.and_eq_true, decide_eq_true_eq] at hj2
      obtain ⟨oj, hoj, e, he, hb, hon⟩ := Region.waitsFor_spec hj2.2
      have hjs : j < ops.size := (Array.getElem?_eq_some_iff.1 hoj).1
      rcases List.mem_cons.1 hj with rfl | hjh
      · have : oj = ot := Option.some.inj (hoj.symm.trans hot)
        subst this
        have h3 := hall e he hb
        rw [hon, hun] at h3; cases h3
      · cases hlj : l.getD j false with
        | true =>
          rcases inv.closed j oj hoj hlj e he hb with h3 | h3
          · rw [hon, hun] at h3; cases h3
          · rw [h00 j hjh] at h3; cases h3
        | false => exact hnt (ih (ops.size - j) (by omega) j rfl hjh hlj t ht)
    · obtain ⟨e, he, hb⟩ := Array.any_eq_true'.1 h2
      simp only [Bool.and_eq_true, Bool.not_eq_true'] at hb
      have h3 := hall e he hb.1.1
      rw [inv.out e.on (by simpa using hb.2), hb.1.2] at h3
      cases h3

def anyL (P : Program) (md : Region.Mode) (ops : Array Oper) (w : World) (hd : List Nat) (L : Array Bool → Act → Prop) : Nat → Array Bool → Act → Prop
  | 0, l, a => L l a
  | f + 1, l, a => Region.ready md ops l ≠ [] ∧ ∀ i ∈ Region.ready md ops l, i ∈ hd ∧ stOp P ops w i (anyL P md ops w hd L f (l.setIfInBounds i true)) a
theorem any_of_L {hd : List Nat} {g : Nat} {L : Array Bool → Act → Prop} {Q : Exit → Act → World → Prop} (hL : ∀ l a, L l a → wpAny P md ops Q g l a w) : ∀ (f : Nat) (l : Array Bool) (a : Act), anyL P md ops w hd L f l a → wpAny P md ops Q (f + g) l a w
  | 0, l, a, h => by rw [Nat.zero_add]; exact hL _ _ h
  | f + 1, l, a, h => by
    rw [show f + 1 + g = (f + g) + 1 by omega]
    exact ⟨fun h0 => absurd h0 h.1, fun i hi => wpOp_of_stOp (fun a' h' => any_of_L hL f _ a' h') (h.2 i hi).2⟩

theorem BInv.set {l0 l : Array Bool} {hd : List Nat} {j : Nat} (inv : BInv md ops l0 hd l) (hj : j ∈ Region.ready md ops l) (hjh : j ∈ hd) : BInv md ops l0 hd (l.setIfInBounds j true) := by
  obtain ⟨hun, o, ho, hall⟩ := mem_ready.1 hj
  refine ⟨by simp [inv.size], fun k ok hk hl e he hb => ?_, fun t ht => ?_, fun t ht => getD_set_true (inv.old t ht)⟩
  · by_cases hjk : j = k
    · subst hjk
      have : ok = o := Option.some.inj (hk.symm.trans ho)
      subst this
      exact .inl (getD_set_true (hall e he hb))
    · rw [getD_set_ne false hjk] at hl
      rcases inv.closed k ok hk hl e he hb with h | h
      · exact .inl (getD_set_true h)
      · exact .inr h
  · rw [getD_set_ne false (by rintro rfl; exact ht hjh)]; exact inv.out t ht

theorem anyL_first {l0 : Array Bool} {hd : List Nat} {t0 i : Nat} {oi : Oper} {v : Value} {L : Array Bool → Act → Prop} (hi : ops[i]? = some oi) (hsel : ∀ (j : Nat) (o : Oper) cs b, ops[j]? = some o → o.op ≠ .select cs b) (hih : i ∈ hd)
    (hblk : ∀ l, BInv md ops l0 hd l → l.getD i false = false → ∀ t ∈ Region.ready md ops l, t ∈ hd) (hdone : ∀ l a, L l a → ∀ j ∈ Region.ready md ops l, j ∉ hd) :
    ∀ (f : Nat) (l : Array Bool) (a : Act), BInv md ops l0 hd l →
      (∀ j oj, ops[j]? = some oj → j ≠ i → l.getD j true = false → (∀ e ∈ oj.after, Region.binds md e = true → e.on ≠ i) → oi.apart ops oj = true) →
      i ∈ Region.ready md ops l → YieldsAt P ops w oi v a → anyL P md ops w hd L f (l.setIfInBounds i true) (a.put oi.dst v) → anyL P md ops w hd L (f + 1) l a
  | 0, l, a, inv, _, hr, hy, H => by
    have hun := getD_both (mem_ready.1 hr).1
    refine ⟨fun h => (by rw [h] at hr; cases hr), fun j hj => ?_⟩
    have hjh := hblk l inv hun j hj
    by_cases hji : j = i
    · subst hji; exact ⟨hjh, hy.stOp hi H⟩
    · exact absurd hjh (hdone _ _ H j (ready_mono hj hji))
  | f + 1, l, a, inv, hfree, hr, hy, H => by
    have hun := getD_both (mem_ready.1 hr).1
    refine ⟨fun h => (by rw [h] at hr; cases hr), fun j hj => ?_⟩
    have hjh := hblk l inv hun j hj
    refine ⟨hjh, ?_⟩
    by_cases hji : j = i
    · subst hji; exact hy.stOp hi H
    · have h1 := (H.2 j (ready_mono hj hji)).2
      obtain ⟨hjun, oj, hoj, hall⟩ := mem_ready.1 hj
      have hnot : ∀ e ∈ oj.after, Region.binds md e = true → e.on ≠ i := fun e he hb heq => by
        have h3 := hall e he hb
        rw [heq, hun] at h3; cases h3
      have h2 := stOp_put hoj (hfree j oj hoj hji hjun hnot) (fun cs b => hsel i oi cs b hi) (fun cs b => hsel j oj cs b hoj) hy h1
      refine stOp_mono (fun a' h3 => anyL_first (t0 := t0) hi hsel hih hblk hdone f (l.setIfInBounds j true) a' (inv.set hj hjh) (fun k ok hk hki hku hno => ?_) (ready_mono hr (Ne.symm hji)) h3.1 ?_) h2
      · refine hfree k ok hk hki ?_ hno
        by_cases hjk : j = k
        · subst hjk; exact hjun
        · rw [getD_set_ne true hjk] at hku; exact hku
      · rw [Array.setIfInBounds_comm _ _ hji]; exact h3.2
theorem anyL_heads {l0 : Array Bool} {hd : List Nat} {t0 : Nat} {Lq : Act → Prop} (fin : Array Bool) (hsel : Region.noSelect ops = true)
    (hblk : ∀ l, BInv md ops l0 hd l → ∀ i ∈ hd, l.getD i false = false → ∀ t ∈ Region.ready md ops l, t ∈ hd) (hfin : ∀ j ∈ Region.ready md ops fin, j ∉ hd) :
    ∀ (r : List Nat) (os : List Oper) (l : Array Bool) (a : Act), r.map (fun i => ops[i]?) = os.map some → (∀ i ∈ r, i ∈ hd) → r.foldl (fun l i => l.setIfInBounds i true) l = fin → BInv md ops l0 hd l → headsB md ops r l = true → wpStill P ops w Lq os a →
      anyL P md ops w hd (fun l' a' => l' = fin ∧ Lq a') r.length l a := by
  intro r
  induction r with
  | nil =>
    intro os l a hm hr hf inv hB h
    cases os with
    | nil => exact ⟨hf, h⟩
    | cons o os => simp at hm
  | cons i r ih =>
    intro os l a hm hr hf inv hB h
    cases os with
    | nil => simp at hm
    | cons o os =>
      simp only [List.map_cons, List.cons.injEq] at hm
      simp only [headsB, Bool.and_eq_true] at hB
      obtain ⟨⟨hB1, hB2⟩, hB3⟩ := hB
      have hir : i ∈ Region.ready md ops l := by simpa using hB1
      have hst : stOp P ops w i (wpStill P ops w Lq os) a := by unfold stOp; simp only [hm.1]; exact h
      obtain ⟨v, hy, hK⟩ := yieldsAt_of_stOp hm.1 hst
      have hih := hr i (by simp)
      refine anyL_first (l0 := l0) (t0 := t0) hm.1 (Region.noSelect_spec hsel) hih (fun l hl hu => hblk l hl i hih hu) (fun l' a' hl' => ?_) r.length l a inv (Region.free_spec hm.1 hB2) hir hy (ih os _ _ hm.2 (fun j hj => hr j (by simp [hj])) hf (inv.set hir hih) hB3 hK)
      obtain ⟨rfl, _⟩ := hl'
      exact hfin

theorem size_listedOf (m : Nat) : ∀ done : List Nat, (listedOf m done).size = m
  | [] => by simp [listedOf]
  | i :: r => by
    have := size_listedOf m r
    simpa [listedOf] using this
theorem getD_fold (hd : List Nat) : ∀ (l : Array Bool), (∀ b ∈ hd, b < l.size) → ∀ b ∈ hd, (hd.foldl (fun l i => l.setIfInBounds i true) l).getD b true = true := by
  have keep : ∀ (r : List Nat) (l : Array Bool) (b : Nat), l.getD b true = true → (r.foldl (fun l i => l.setIfInBounds i true) l).getD b true = true := by
    intro r
    induction r with
    | nil => intro l b h; exact h
    | cons i r ih =>
      intro l b h
      refine ih _ b ?_
      by_cases hib : i = b
      · subst hib
        rcases Nat.lt_or_ge i l.size with h' | h'
        · simp [h']
        · simp [Array.getElem?_eq_none (show (l.setIfInBounds i true).size ≤ i by simpa using h')]
      · rw [getD_set_ne true hib]; exact h
  induction hd with
  | nil => intro l _ b hb; simp at hb
  | cons i r ih =>
    intro l hs b hb
    rcases List.mem_cons.1 hb with rfl | hb
    · refine keep r _ b ?_
      simp [hs b (by simp)]
    · exact ih _ (fun c hc => by simpa using hs c (by simp [hc])) b hb
theorem listed_fold (m : Nat) : ∀ (hd done : List Nat), hd.foldl (fun l i => l.setIfInBounds i true) (listedOf m done) = listedOf m (hd.reverse ++ done)
  | [], _ => rfl
  | i :: r, done => by
    have := listed_fold m r (i :: done)
    simp only [List.foldl_cons, List.reverse_cons, List.append_assoc, List.singleton_append]
    exact this
end
section
variable {P : Program} {n : Nat} {X : Cx} {todo : List Item} {e : Env} {H : List It} {ops : Array Oper} {fuel : Nat} {done : List Nat}
/-- A batch of still operations, ahead of all the rest. -/
theorem A.still (hd : List Nat) (t0 : Nat) {m : Nat} {os : List Oper} (hlen : hd.length + fuel = m) (hos : hd.map (fun i => ops[i]?) = os.map some) (hc : batchB .any ops (listedOf ops.size done) hd t0 = true) (h : W (.st (KA P X ops todo fuel (hd.reverse ++ done))) P n X ops todo os e H) : A P n X ops todo m done e H := by
  subst hlen
  simp only [batchB, Bool.and_eq_true] at hc
  obtain ⟨⟨⟨hsel, h0⟩, hB⟩, hsk⟩ := hc
  have h00 : ∀ b ∈ hd, b < ops.size ∧ (listedOf ops.size done).getD b false = false := fun b hb => by
    have := List.all_eq_true.1 h0 b hb
    simpa only [Bool.and_eq_true, decide_eq_true_eq, Bool.not_eq_true'] using this
  intro a w hf hm
  have inv0 : BInv .any ops (listedOf ops.size done) hd (listedOf ops.size done) := ⟨size_listedOf _ _, fun j oj hj hl e he hb => .inr hl, fun _ _ => rfl, fun _ h => h⟩
  have hfin : ∀ j ∈ Region.ready .any ops (listedOf ops.size (hd.reverse ++ done)), j ∉ hd := fun j hj hjh => by
    have h1 := (mem_ready.1 hj).1
    have h2 := getD_fold hd (listedOf ops.size done) (fun b hb => by rw [size_listedOf]; exact (h00 b hb).1) j hjh
    rw [listed_fold] at h2
    rw [h2] at h1; cases h1
  have H := anyL_heads (P := P) (w := w) (t0 := t0) (l0 := listedOf ops.size done) (Lq := fun a' => KA P X ops todo fuel (hd.reverse ++ done) a' w) _ hsel
    (fun l hl i hi hu => sinks_block hsk (fun b hb => (h00 b hb).2) hl _ i rfl hi hu) hfin hd os _ a hos (fun _ h => h) (listed_fold _ _ _) inv0 hB (h a w hf hm)
  exact any_of_L (fun l' a' hl' => by obtain ⟨rfl, h'⟩ := hl'; exact h') _ _ _ H
end
end Go.Eng
