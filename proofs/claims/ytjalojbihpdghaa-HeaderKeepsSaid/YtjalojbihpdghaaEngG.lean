/- The engine: in a drawn region a batch of quiet operations, calls whose value is known among them, ahead of all the rest. -/
import Derived.Test.YtjalojbihpdghaaEngX
namespace Go.Eng
open Go
set_option linter.unusedVariables false

section
variable {P : Program} {ops : Array Oper} {md : Region.Mode} {C : World → Prop}

def anyC (P : Program) (md : Region.Mode) (ops : Array Oper) (C : World → Prop) (hd : List Nat) (L : Array Bool → Act → Prop) : Nat → Array Bool → Act → Prop
  | 0, l, a => L l a
  | f + 1, l, a => Region.ready md ops l ≠ [] ∧ ∀ i ∈ Region.ready md ops l, i ∈ hd ∧ qOp P ops C i (anyC P md ops C hd L f (l.setIfInBounds i true)) a
theorem any_of_C {hd : List Nat} {g : Nat} {L : Array Bool → Act → Prop} {Q : Exit → Act → World → Prop} (hL : ∀ l a w, C w → L l a → wpAny P md ops Q g l a w) : ∀ (f : Nat) (l : Array Bool) (a : Act) (w : World), C w → anyC P md ops C hd L f l a → wpAny P md ops Q (f + g) l a w
  | 0, l, a, w, hw, h => by rw [Nat.zero_add]; exact hL _ _ _ hw h
  | f + 1, l, a, w, hw, h => by
    rw [show f + 1 + g = (f + g) + 1 by omega]
    exact ⟨fun h0 => absurd h0 h.1, fun i hi => wpOp_of_qOp hw (fun a' w' hw' h' => any_of_C hL f _ a' w' hw' h') (h.2 i hi).2⟩

theorem anyC_first {l0 : Array Bool} {hd : List Nat} {t0 i : Nat} {oi : Oper} {v : Value} {L : Array Bool → Act → Prop} (hi : ops[i]? = some oi) (hsel : ∀ (j : Nat) (o : Oper) cs b, ops[j]? = some o → o.op ≠ .select cs b) (hih : i ∈ hd)
    (hblk : ∀ l, BInv md ops l0 hd l → l.getD i false = false → ∀ t ∈ Region.ready md ops l, t ∈ hd) (hdone : ∀ l a, L l a → ∀ j ∈ Region.ready md ops l, j ∉ hd) :
    ∀ (f : Nat) (l : Array Bool) (a : Act), BInv md ops l0 hd l →
      (∀ j oj, ops[j]? = some oj → j ≠ i → l.getD j true = false → (∀ e ∈ oj.after, Region.binds md e = true → e.on ≠ i) → oi.apart ops oj = true) →
      i ∈ Region.ready md ops l → YieldsIn P ops C oi v a → anyC P md ops C hd L f (l.setIfInBounds i true) (a.put oi.dst v) → anyC P md ops C hd L (f + 1) l a
  | 0, l, a, inv, _, hr, hy, H => by
    have hun := getD_both (mem_ready.1 hr).1
    refine ⟨fun h => (by rw [h] at hr; cases hr), fun j hj => ?_⟩
    have hjh := hblk l inv hun j hj
    by_cases hji : j = i
    · subst hji; exact ⟨hjh, hy.qOp hi H⟩
    · exact absurd hjh (hdone _ _ H j (ready_mono hj hji))
  | f + 1, l, a, inv, hfree, hr, hy, H => by
    have hun := getD_both (mem_ready.1 hr).1
    refine ⟨fun h => (by rw [h] at hr; cases hr), fun j hj => ?_⟩
    have hjh := hblk l inv hun j hj
    refine ⟨hjh, ?_⟩
    by_cases hji : j = i
    · subst hji; exact hy.qOp hi H
    · have h1 := (H.2 j (ready_mono hj hji)).2
      obtain ⟨hjun, oj, hoj, hall⟩ := mem_ready.1 hj
      have hnot : ∀ e ∈ oj.after, Region.binds md e = true → e.on ≠ i := fun e he hb heq => by
        have h3 := hall e he hb
        rw [heq, hun] at h3; cases h3
      have h2 := qOp_put hoj (hfree j oj hoj hji hjun hnot) (fun cs b => hsel i oi cs b hi) (fun cs b => hsel j oj cs b hoj) hy h1
      refine qOp_mono (fun a' h3 => anyC_first (t0 := t0) hi hsel hih hblk hdone f (l.setIfInBounds j true) a' (inv.set hj hjh) (fun k ok hk hki hku hno => ?_) (ready_mono hr (Ne.symm hji)) h3.1 ?_) h2
      · refine hfree k ok hk hki ?_ hno
        by_cases hjk : j = k
        · subst hjk; exact hjun
        · rw [getD_set_ne true hjk] at hku; exact hku
      · rw [Array.setIfInBounds_comm _ _ hji]; exact h3.2
theorem anyC_heads {l0 : Array Bool} {hd : List Nat} {t0 : Nat} {Lq : Act → Prop} (fin : Array Bool) (hsel : Region.noSelect ops = true)
    (hblk : ∀ l, BInv md ops l0 hd l → ∀ i ∈ hd, l.getD i false = false → ∀ t ∈ Region.ready md ops l, t ∈ hd) (hfin : ∀ j ∈ Region.ready md ops fin, j ∉ hd) :
    ∀ (r : List Nat) (os : List Oper) (l : Array Bool) (a : Act), r.map (fun i => ops[i]?) = os.map some → (∀ i ∈ r, i ∈ hd) → r.foldl (fun l i => l.setIfInBounds i true) l = fin → BInv md ops l0 hd l → headsB md ops r l = true → wpQuiet P ops C Lq os a →
      anyC P md ops C hd (fun l' a' => l' = fin ∧ Lq a') r.length l a := by
  intro r
  induction r with
  | nil =>
    intro os l a hm hr hf inv hB h
    cases os with
    | nil => exact ⟨hf, h⟩
    | cons o os => simp at hm
  | cons i r ih =>
    intro os l a hm hr hf inv hB h
    cases os with
    | nil => simp at hm
    | cons o os =>
      simp only [List.map_cons, List.cons.injEq] at hm
      simp only [headsB, Bool.and_eq_true] at hB
      obtain ⟨⟨hB1, hB2⟩, hB3⟩ := hB
      have hir : i ∈ Region.ready md ops l := by simpa using hB1
      have hst : qOp P ops C i (wpQuiet P ops C Lq os) a := by unfold qOp; simp only [hm.1]; exact h
      obtain ⟨v, hy, hK⟩ := yieldsIn_of_qOp hm.1 hst
      have hih := hr i (by simp)
      refine anyC_first (l0 := l0) (t0 := t0) hm.1 (Region.noSelect_spec hsel) hih (fun l hl hu => hblk l hl i hih hu) (fun l' a' hl' => ?_) r.length l a inv (Region.free_spec hm.1 hB2) hir hy (ih os _ _ hm.2 (fun j hj => hr j (by simp [hj])) hf (inv.set hir hih) hB3 hK)
      obtain ⟨rfl, _⟩ := hl'
      exact hfin

end
section
variable {P : Program} {n : Nat} {X : Cx} {todo : List Item} {e : Env} {H : List It} {ops : Array Oper} {fuel : Nat} {done : List Nat}
/-- A batch of quiet operations, ahead of all the rest. -/
theorem A.quiet (hd : List Nat) (t0 : Nat) {m : Nat} {os : List Oper} (hlen : hd.length + fuel = m) (hos : hd.map (fun i => ops[i]?) = os.map some) (hc : batchB .any ops (listedOf ops.size done) hd t0 = true) (h : W (.qt (KA P X ops todo fuel (hd.reverse ++ done))) P n X ops todo os e H) : A P n X ops todo m done e H := by
  subst hlen
  simp only [batchB, Bool.and_eq_true] at hc
  obtain ⟨⟨⟨hsel, h0⟩, hB⟩, hsk⟩ := hc
  have h00 : ∀ b ∈ hd, b < ops.size ∧ (listedOf ops.size done).getD b false = false := fun b hb => by
    have := List.all_eq_true.1 h0 b hb
    simpa only [Bool.and_eq_true, decide_eq_true_eq, Bool.not_eq_true'] using this
  intro a w hf hm
  have inv0 : BInv .any ops (listedOf ops.size done) hd (listedOf ops.size done) := ⟨size_listedOf _ _, fun j oj hj hl e he hb => .inr hl, fun _ _ => rfl, fun _ h => h⟩
  have hfin : ∀ j ∈ Region.ready .any ops (listedOf ops.size (hd.reverse ++ done)), j ∉ hd := fun j hj hjh => by
    have h1 := (mem_ready.1 hj).1
    have h2 := getD_fold hd (listedOf ops.size done) (fun b hb => by rw [size_listedOf]; exact (h00 b hb).1) j hjh
    rw [listed_fold] at h2
    rw [h2] at h1; cases h1
  have H' := anyC_heads (P := P) (C := fun w => Mem X.w0 w H) (t0 := t0) (l0 := listedOf ops.size done) (Lq := fun a' => ∀ w, Mem X.w0 w H → KA P X ops todo fuel (hd.reverse ++ done) a' w) _ hsel
    (fun l hl i hi hu => sinks_block hsk (fun b hb => (h00 b hb).2) hl _ i rfl hi hu) hfin hd os _ a hos (fun _ h => h) (listed_fold _ _ _) inv0 hB (h a hf)
  exact any_of_C (C := fun w => Mem X.w0 w H) (fun l' a' w' hw' hl' => by obtain ⟨rfl, h'⟩ := hl'; exact h' w' hw') _ _ _ w hm H'
theorem A.backq (h : A P n X ops todo fuel done e H) : W (.qt (KA P X ops todo fuel done)) P n X ops todo [] e H := fun a hf w hm => h a w hf hm
end
section
variable {P : Program} {n : Nat} {X : Cx} {todo : List Item} {e : Env} {H : List It} {ops : Array Oper} {l : List Oper} {d : Nat} {T : TypeId} {p : String} {af : Array Edge} {K : Kt}
/-- A slice of bytes as its own type: its row is marked. -/
theorem W.cvss {T1 E' E b o len cap : Nat} {x : Operand} {cs : List Value} {H' : List It} (hU : P.underlying T1 = some (.slice E')) (hE : P.underlying E' = some (.int .u8)) (hx : ev e x = some (slc b o len cap)) (hu : Upd H b (.cells cs.toArray E (0, 0)) (.cells cs.toArray E (cs.length, cs.length + 1)) H') (hd : Nat.blt d n = true)
    (hk : W (.sq K) P n X ops todo l ((d, slc b o len cap) :: e) H') : W (.sq K) P n X ops todo (⟨some d, .convert T1 T1 x, T, p, af, none⟩ :: l) e H := by
  refine W.eff rfl fun a w hf hm => ?_
  have hb : w.heap[b]? = some (.cells cs.toArray E (0, 0)) := by
    obtain ⟨f, hr⟩ := hu.rep
    exact hm.holds _ hr.mem
  have hsh : w.shape? b = some (E, cs.length) := by simp [World.shape?, hb]
  have hbl : b < w.heap.size := (Array.getElem?_eq_some_iff.1 hb).1
  have hbe : w.heap[b] = .cells cs.toArray E (0, 0) := (Array.getElem?_eq_some_iff.1 hb).2
  have hfr : (w.freeze ⟨b, cs.length, none⟩ 1).heap[b]? = some (.cells cs.toArray E (cs.length, cs.length + 1)) := by
    simp [World.freeze, Array.getElem?_modify, hb]
  refine ⟨w.freeze ⟨b, cs.length, none⟩ 1, .value (slc b o len cap), ?_, .inl ⟨_, rfl, hk _ _ (hf.put _ hd) ?_⟩⟩
  · simp [execOp, hf.eval hx, convert, und_run hU, und_run hE, markStringish, hsh]
  · refine hm.upd hu ?_ ?_ ?_ ?_ hfr (fun k hk' => ?_)
    · simp [World.freeze]
    · simp [World.freeze]
    · simp [World.freeze]
    · simp [World.freeze]
    · simp [World.freeze, Array.getElem?_modify, Ne.symm hk']
/-- A slice literal of one element. -/
theorem W.bs1 {S E s : Nat} {x : Operand} {v : Value} {zs cs : List Value} (hS : P.underlying S = some (.slice E)) (hs : sz P E = some s) (hz : zrl P E = some zs) (hbig : Nat.ble s 16777216 = true) (hx : ev e x = some v) (hc : cellsL v = cs) (hl : cs.length = s) (hd : Nat.blt d n = true)
    (hk : ∀ b, W (.sq K) P n X ops todo l ((d, slc b 0 1 1) :: e) (nb b cs E :: H)) : W (.sq K) P n X ops todo (⟨some d, .buildSlice S 1 [(0, x)].toArray, T, p, af, none⟩ :: l) e H := by
  refine W.bs (len := 1) (vs := [(0, v)]) (cs := cs) hS hs hz (by simpa using hbig) (by simp [evp, hx]) ?_ hd hk
  simp only [fillL, hc]
  rw [if_pos ⟨hl, by simp [hl]⟩]
  simp [setAt, hl]
/-- make([]T, l, m). -/
theorem W.mkLC {S E s by_ : Nat} {x y : Operand} {lo m : Nat} {k k' : IntKind} {zs : List Value} (hS : P.underlying S = some (.slice E)) (hs : sz P E = some s) (hz : zrl P E = some zs) (hby : (P.info? E).map (·.bytes) = some by_) (hx : ev e x = some (.int k lo)) (hy : ev e y = some (.int k' m)) (hlo : lo ≤ m)
    (hb : by_ * m ≤ 281474976710656) (hm63 : m ≤ 9223372036854775807) (hd : Nat.blt d n = true) (hk : ∀ b, W (.sq K) P n X ops todo l ((d, slc b 0 lo m) :: e) (nb b ((List.range (m * s)).map fun i => zs.getD (i % zs.length) default) E :: H)) : W (.sq K) P n X ops todo (⟨some d, .makeSlice S x y, T, p, af, none⟩ :: l) e H := by
  refine W.eff rfl fun a w hf hm => ?_
  refine ⟨w.alloc (.cells ((List.range (m * s)).map fun i => zs.getD (i % zs.length) default).toArray E), .value (slc w.heap.size 0 lo m), ?_, .inl ⟨_, rfl, hk w.heap.size _ _ (hf.put _ hd) (hm.alloc _)⟩⟩
  unfold zrl zr at hz
  unfold sz at hs
  cases hi : P.info? E with
  | none => simp [hi] at hs
  | some i =>
    simp [hi] at hs hby hz
    obtain ⟨z, hz1, hz2⟩ := hz
    have hbb : (i.bytes : Int) * (m : Int) ≤ 281474976710656 := by
      have h : ((i.bytes * m : Nat) : Int) ≤ 281474976710656 := by rw [hby]; omega
      rwa [Int.natCast_mul] at h
    have hr := run_make (P := P) w S E i z hS hi hz1 k k' (lo : Int) (m : Int) (by omega) (by omega) hbb (by omega)
    simp only [Int.toNat_natCast, hs] at hr
    have key : madeCells z.cells (m * s) = ((List.range (m * s)).map fun i => zs.getD (i % zs.length) default).toArray := by
      apply Array.ext'
      simp [madeCells, cellsL_eq, hz2, Array.getElem!_eq_getD, List.getD]
    rw [key] at hr
    simp [execOp, hf.eval hx, hf.eval hy, hr]
/-- make([]byte, 0, m), as a slice's own row. -/
theorem W.mk0 {S E by_ : Nat} {x y : Operand} {m : Nat} {k k' : IntKind} (hS : P.underlying S = some (.slice E)) (hs : sz P E = some 1) (hz : zrl P E = some [.int .u8 0]) (hby : (P.info? E).map (·.bytes) = some by_) (hx : ev e x = some (.int k 0)) (hy : ev e y = some (.int k' m))
    (hb : by_ * m ≤ 281474976710656) (hm63 : m ≤ 140737488355328) (hd : Nat.blt d n = true) (hk : ∀ b, W (.sq K) P n X ops todo l ((d, slc b 0 0 m) :: e) (sl (some ⟨b, 0, none⟩) 0 m E 1 (B []) :: H)) : W (.sq K) P n X ops todo (⟨some d, .makeSlice S x y, T, p, af, none⟩ :: l) e H :=
  W.mkLC (lo := 0) hS hs hz hby hx hy (Nat.zero_le _) hb (by omega) hd fun b => W.ent (Ent.rowSl (m := 0) (cap := m) (s := 1) (by simp) (Nat.zero_le _) (by simp only [maxLen]; omega)) (by simpa using hk b)
end
section
variable {P : Program} {n : Nat} {X : Cx} {todo : List Item} {e : Env} {H : List It} {ops : Array Oper} {fuel : Nat} {done : List Nat}
theorem A.turn {di dj : Nat} {vi vj : Value} (hd : Nat.beq di dj = false) {i j : Nat} (h : A P n X ops todo fuel (j :: i :: done) ((dj, vj) :: (di, vi) :: e) H) : A P n X ops todo fuel (i :: j :: done) ((di, vi) :: (dj, vj) :: e) H := by
  intro a w hf hm
  have h1 := h a w (hf.sub ?_) hm
  · rw [listedOf_swap] at h1; exact h1
  · intro t v ht
    simp only [look] at ht ⊢
    by_cases h : Nat.beq di t = true
    · have h' : Nat.beq dj t = false := by
        have := Nat.eq_of_beq_eq_true h
        subst this
        cases hx : Nat.beq dj di with
        | false => rfl
        | true => rw [Nat.eq_of_beq_eq_true hx] at hd; simp at hd
      simp only [h, h', cond_true, cond_false] at ht ⊢
      exact ht
    · simp only [h, cond_false] at ht ⊢
      exact ht
/-- A call whose value is known and a new block, in whatever order. -/
theorem A.swapc (r : List Nat) (i j : Nat) {oi oj : Oper} (hi : ops[i]? = some oi) (hj : ops[j]? = some oj) (hr : r = [i, j] ∨ r = [j, i]) (hc : (Region.ready .any ops (listedOf ops.size done) == r) = true) (hci : oneB ops (i :: done) j = true) (hcj : oneB ops (j :: done) i = true)
    {di dj : Nat} {vi : Value} {vj : Nat → Value} {Ij : Nat → It} (hd : Nat.beq di dj = false)
    (si1 : ∀ K : Kt, W (.sq K) P n X ops todo [] ((di, vi) :: e) H → W (.sq K) P n X ops todo [oi] e H)
    (sj1 : ∀ K : Kt, (∀ b, W (.sq K) P n X ops todo [] ((dj, vj b) :: (di, vi) :: e) (Ij b :: H)) → W (.sq K) P n X ops todo [oj] ((di, vi) :: e) H)
    (sj2 : ∀ K : Kt, (∀ b, W (.sq K) P n X ops todo [] ((dj, vj b) :: e) (Ij b :: H)) → W (.sq K) P n X ops todo [oj] e H)
    (si2 : ∀ (b' : Nat) (K : Kt), W (.sq K) P n X ops todo [] ((di, vi) :: (dj, vj b') :: e) (Ij b' :: H) → W (.sq K) P n X ops todo [oi] ((dj, vj b') :: e) (Ij b' :: H))
    (k : ∀ bj, A P n X ops todo fuel (j :: i :: done) ((dj, vj bj) :: (di, vi) :: e) (Ij bj :: H)) : A P n X ops todo (fuel + 2) done e H := by
  have w1 : W (.sq (KA P X ops todo (fuel + 1) (i :: done))) P n X ops todo [oi] e H := si1 _ (A.back (A.one j hj hci (sj1 _ fun bj => A.back (k bj))))
  have w2 : W (.sq (KA P X ops todo (fuel + 1) (j :: done))) P n X ops todo [oj] e H := sj2 _ fun bj => A.back (A.one i hi hcj (si2 bj _ (A.back (A.turn hd (k bj)))))
  rcases hr with rfl | rfl
  · exact A.two i j hi hj hc w1 w2
  · exact A.two j i hj hi hc w2 w1
end
end Go.Eng
