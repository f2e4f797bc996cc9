/- The engine: stepping through a function's body with its temporaries as a list and its memory as a list of items. -/
import Derived.WalkKit
import Derived.Deep.Quiet
import Derived.Deep.AppendSrc
namespace Go.Eng
open Go

abbrev Env := List (Nat × Value)

def look : Env → Nat → Option Value
  | [], _ => none
  | (k, v) :: e, t => bif Nat.beq k t then some v else look e t

def ev (e : Env) : Operand → Option Value
  | .tmp t => look e t
  | .const v => some v
  | .global g => some (.pointer (some ⟨g, 0, none⟩))
  | .func f => some (.func (.func f) #[] #[])

def evs (e : Env) : List Operand → Option (List Value)
  | [] => some []
  | x :: xs => match ev e x with
    | some v => match evs e xs with
      | some vs => some (v :: vs)
      | none => none
    | none => none

/-- The temporaries are at least as listed. -/
structure Fits (ds : List Deferred) (n : Nat) (e : Env) (a : Act) : Prop where
  size : a.tmps.size = n
  defs : a.defers = ds
  val : ∀ t v, look e t = some v → a.tmps[t]? = some v

theorem Fits.eval {ds : List Deferred} {n : Nat} {e : Env} {a : Act} (h : Fits ds n e a) {x : Operand} {v : Value} (hx : ev e x = some v) : a.eval x = v := by
  cases x with
  | tmp t =>
    have := h.val t v hx
    simp [Act.eval, this]
  | const u => simpa [ev, Act.eval] using hx
  | global g => simpa [ev, Act.eval] using hx
  | func f => simpa [ev, Act.eval] using hx

theorem Fits.evals {ds : List Deferred} {n : Nat} {e : Env} {a : Act} (h : Fits ds n e a) : ∀ {xs : List Operand} {vs : List Value}, evs e xs = some vs → xs.map a.eval = vs
  | [], vs, hx => by simp [evs] at hx; simp [hx]
  | x :: xs, vs, hx => by
    simp only [evs] at hx
    cases h1 : ev e x with
    | none => simp [h1] at hx
    | some v =>
      cases h2 : evs e xs with
      | none => simp [h1, h2] at hx
      | some us =>
        simp [h1, h2] at hx
        subst hx
        simp [h.eval h1, h.evals h2]

theorem Fits.put {ds : List Deferred} {n : Nat} {e : Env} {a : Act} (h : Fits ds n e a) {d : Nat} (v : Value) (hd : Nat.blt d n = true) : Fits ds n ((d, v) :: e) (a.put (some d) v) := by
  have hd' : d < n := by simpa [Nat.blt_eq] using hd
  refine ⟨by simp [Act.put, h.size], by simp [Act.put, h.defs], ?_⟩
  intro t u ht
  simp only [look] at ht
  by_cases htd : d = t
  · subst htd
    simp at ht
    simp [Act.put, h.size, hd', ht]
  · have hb : Nat.beq d t = false := by cases h' : Nat.beq d t with | false => rfl | true => exact absurd (Nat.eq_of_beq_eq_true h') htd
    simp [hb] at ht
    have := h.val t u ht
    simp [Act.put, htd, this]

/-- Fewer facts on the temporaries. -/
def Sub (e' e : Env) : Prop := ∀ t v, look e' t = some v → look e t = some v
theorem Fits.sub {ds : List Deferred} {n : Nat} {e e' : Env} {a : Act} (h : Fits ds n e a) (hs : Sub e' e) : Fits ds n e' a := ⟨h.size, h.defs, fun t v ht => h.val t v (hs t v ht)⟩
theorem Sub.nil (e : Env) : Sub [] e := fun _ _ h => by simp [look] at h
theorem Sub.cons {e' e : Env} {t : Nat} {v : Value} (h : look e t = some v) (hs : Sub e' e) : Sub ((t, v) :: e') e := by
  intro t' v' h'
  simp only [look] at h'
  by_cases htt : t = t'
  · subst htt
    simp at h'
    rw [h, h']
  · have hb : Nat.beq t t' = false := by cases h' : Nat.beq t t' with | false => rfl | true => exact absurd (Nat.eq_of_beq_eq_true h') htt
    simp [hb] at h'
    exact hs t' v' h'

theorem Sub.co {e' e : Env} {t : Nat} {u v : Value} (h : look e t = some u) (huv : u = v) (hs : Sub e' e) : Sub ((t, v) :: e') e := Sub.cons (huv ▸ h) hs

/-! ### Memory -/

/-- An assertion on the blocks of a footprint. 'new': its blocks are new since the base world. -/
structure It where
  new : Bool
  fp : Nat → Prop
  A : World → Prop
  stable : ∀ w w' : World, (∀ b, fp b → w'.heap[b]? = w.heap[b]?) → A w → A w'

def blk (f : Bool) (b : Nat) (o : Obj) : It := ⟨f, (· = b), fun w => w.heap[b]? = some o, fun w w' h hA => by rw [h b rfl]; exact hA⟩
abbrev nb (b : Nat) (cs : List Value) (T : TypeId) : It := blk true b (.cells cs.toArray T (0, 0))
abbrev bb (b : Nat) (cs : List Value) (T : TypeId) : It := blk false b (.cells cs.toArray T (0, 0))

/-- World w, begun at w0: it has the items; whatever else was there at w0 is unchanged. -/
structure Mem (w0 w : World) (H : List It) : Prop where
  os : w.os = w0.os
  tape : w.tape = w0.tape
  output : w.output = w0.output
  size : w0.heap.size ≤ w.heap.size
  other : ∀ b, b < w0.heap.size → (∀ it ∈ H, ¬ it.fp b) → w.heap[b]? = w0.heap[b]?
  holds : ∀ it ∈ H, it.A w
  inb : ∀ it ∈ H, ∀ b, it.fp b → b < w.heap.size
  fresh : ∀ it ∈ H, it.new = true → ∀ b, it.fp b → w0.heap.size ≤ b
  disj : H.Pairwise fun x y => ∀ b, x.fp b → ¬ y.fp b

theorem Mem.nil (w : World) : Mem w w [] := ⟨rfl, rfl, rfl, Nat.le_refl _, fun _ _ _ => rfl, by simp, by simp, by simp, .nil⟩

theorem Mem.drew {w0 w : World} {H : List It} (h : Mem w0 w H) : Mem w0 w.drew H :=
  ⟨h.os, h.tape, h.output, h.size, h.other, fun it hi => it.stable w w.drew (fun _ _ => rfl) (h.holds it hi), h.inb, h.fresh, h.disj⟩

/-- One item that lies in one block, borrowed at the call. -/
theorem Mem.borrow {w : World} {b : Nat} {o : Obj} (h : w.heap[b]? = some o) : Mem w w [blk false b o] :=
  ⟨rfl, rfl, rfl, Nat.le_refl _, fun _ _ _ => rfl, by simp [blk, h], by simp only [List.mem_singleton, forall_eq, blk]; exact (Array.getElem?_eq_some_iff.1 h).1, by simp [blk], by simp⟩
theorem Mem.borrow_cons {w : World} {H : List It} {b : Nat} {o : Obj} (hm : Mem w w H) (h : w.heap[b]? = some o) (hd : ∀ it ∈ H, ¬ it.fp b) : Mem w w (blk false b o :: H) := by
  refine ⟨rfl, rfl, rfl, Nat.le_refl _, fun _ _ _ => rfl, ?_, ?_, ?_, ?_⟩
  · intro it hi
    rcases List.mem_cons.1 hi with rfl | hi
    · exact h
    · exact hm.holds it hi
  · intro it hi
    rcases List.mem_cons.1 hi with rfl | hi
    · rintro b rfl; exact (Array.getElem?_eq_some_iff.1 h).1
    · exact hm.inb it hi
  · intro it hi
    rcases List.mem_cons.1 hi with rfl | hi
    · simp [blk]
    · exact hm.fresh it hi
  · refine List.Pairwise.cons ?_ hm.disj
    rintro it hi b' rfl
    exact hd it hi

/-- New items may be let go. -/
theorem Mem.sublist {w0 w : World} {H H' : List It} (h : Mem w0 w H) (hs : H'.Sublist H) (hn : ∀ it ∈ H, it ∈ H' ∨ it.new = true) : Mem w0 w H' := by
  refine ⟨h.os, h.tape, h.output, h.size, ?_, fun it hi => h.holds it (hs.subset hi), fun it hi => h.inb it (hs.subset hi), fun it hi => h.fresh it (hs.subset hi), h.disj.sublist hs⟩
  intro b hb hno
  refine h.other b hb fun it hi hf => ?_
  rcases hn it hi with h' | h'
  · exact hno it h' hf
  · exact absurd (h.fresh it hi h' b hf) (by omega)

theorem Mem.drop {w0 w : World} {H : List It} {it : It} (h : Mem w0 w (it :: H)) (hn : it.new = true) : Mem w0 w H :=
  h.sublist (List.sublist_cons_self _ _) (by intro x hx; rcases List.mem_cons.1 hx with rfl | hx; exact .inr hn; exact .inl hx)

theorem Mem.perm {w0 w : World} {H H' : List It} (h : Mem w0 w H) (hp : H.Perm H') : Mem w0 w H' := by
  refine ⟨h.os, h.tape, h.output, h.size, fun b hb hno => h.other b hb fun it hi => hno it (hp.mem_iff.1 hi), fun it hi => h.holds it (hp.mem_iff.2 hi), fun it hi => h.inb it (hp.mem_iff.2 hi), fun it hi => h.fresh it (hp.mem_iff.2 hi), ?_⟩
  exact (hp.pairwise_iff (fun {x y} hxy b hy hx => hxy b hx hy)).1 h.disj

/-- A new block. -/
theorem Mem.alloc {w0 w : World} {H : List It} (h : Mem w0 w H) (o : Obj) : Mem w0 (w.alloc o) (blk true w.heap.size o :: H) := by
  have old : ∀ b, b < w.heap.size → (w.alloc o).heap[b]? = w.heap[b]? := fun b hb => RowKit.Below.heap_alloc w o b hb
  refine ⟨h.os, h.tape, h.output, by simp; have := h.size; omega, ?_, ?_, ?_, ?_, ?_⟩
  · intro b hb hno
    rw [old b (by have := h.size; omega)]
    exact h.other b hb fun it hi => hno it (List.mem_cons_of_mem _ hi)
  · intro it hi
    rcases List.mem_cons.1 hi with rfl | hi
    · exact heap_alloc_new w o
    · exact it.stable w _ (fun b hb => old b (h.inb it hi b hb)) (h.holds it hi)
  · intro it hi b hb
    rcases List.mem_cons.1 hi with rfl | hi
    · cases hb; simp
    · have := h.inb it hi b hb; simp; omega
  · intro it hi hn b hb
    rcases List.mem_cons.1 hi with rfl | hi
    · cases hb; exact h.size
    · exact h.fresh it hi hn b hb
  · refine List.Pairwise.cons ?_ h.disj
    rintro it hi b rfl hf
    exact absurd (h.inb it hi _ hf) (by omega)

/-- Where a block lies in the list, and the list with the block turned. -/
def Upd (H : List It) (b : Nat) (o o' : Obj) (H' : List It) : Prop := ∃ H1 H2 f, H = H1 ++ blk f b o :: H2 ∧ H' = H1 ++ blk f b o' :: H2
theorem Upd.hd {H : List It} {f : Bool} {b : Nat} {o o' : Obj} : Upd (blk f b o :: H) b o o' (blk f b o' :: H) := ⟨[], H, f, rfl, rfl⟩
theorem Upd.tl {H H' : List It} {it : It} {b : Nat} {o o' : Obj} (h : Upd H b o o' H') : Upd (it :: H) b o o' (it :: H') := by
  obtain ⟨H1, H2, f, rfl, rfl⟩ := h
  exact ⟨it :: H1, H2, f, rfl, rfl⟩

def Has (H : List It) (b : Nat) (o : Obj) : Prop := ∃ f, blk f b o ∈ H
theorem Has.hd {H : List It} {f : Bool} {b : Nat} {o : Obj} : Has (blk f b o :: H) b o := ⟨f, List.mem_cons_self⟩
theorem Has.tl {H : List It} {it : It} {b : Nat} {o : Obj} (h : Has H b o) : Has (it :: H) b o := let ⟨f, h⟩ := h; ⟨f, List.mem_cons_of_mem _ h⟩
theorem Mem.at {w0 w : World} {H : List It} {b : Nat} {o : Obj} (h : Mem w0 w H) (hb : Has H b o) : w.heap[b]? = some o := let ⟨_, hm⟩ := hb; h.holds _ hm

/-- A block of the list is written. -/
theorem Mem.upd {w0 w w' : World} {H H' : List It} {b : Nat} {o o' : Obj} (h : Mem w0 w H) (hu : Upd H b o o' H') (hos : w'.os = w.os) (htape : w'.tape = w.tape) (hout : w'.output = w.output)
    (hsize : w'.heap.size = w.heap.size) (hb : w'.heap[b]? = some o') (hother : ∀ k, k ≠ b → w'.heap[k]? = w.heap[k]?) : Mem w0 w' H' := by
  obtain ⟨H1, H2, f, rfl, rfl⟩ := hu
  have hd := h.disj
  rw [List.pairwise_append] at hd
  obtain ⟨hd1, hd2, hd3⟩ := hd
  rw [List.pairwise_cons] at hd2
  have apart : ∀ it, it ∈ H1 ∨ it ∈ H2 → ¬ it.fp b := by
    rintro it (hi | hi) hf
    · exact hd3 it hi (blk f b o) List.mem_cons_self b hf rfl
    · exact hd2.1 it hi b rfl hf
  have memc : ∀ it, it ∈ H1 ++ blk f b o' :: H2 → (it = blk f b o') ∨ ((it ∈ H1 ∨ it ∈ H2) ∧ it ∈ H1 ++ blk f b o :: H2) := by
    intro it hi
    simp only [List.mem_append, List.mem_cons] at hi ⊢
    rcases hi with hi | rfl | hi
    · exact .inr ⟨.inl hi, .inl hi⟩
    · exact .inl rfl
    · exact .inr ⟨.inr hi, .inr (.inr hi)⟩
  have hin : blk f b o ∈ H1 ++ blk f b o :: H2 := by simp
  refine ⟨hos.trans h.os, htape.trans h.tape, hout.trans h.output, hsize ▸ h.size, ?_, ?_, ?_, ?_, ?_⟩
  · intro k hk hno
    have hkb : k ≠ b := by
      rintro rfl
      exact hno (blk f k o') (by simp) rfl
    rw [hother k hkb]
    refine h.other k hk fun it hi hf => ?_
    simp only [List.mem_append, List.mem_cons] at hi
    rcases hi with hi | rfl | hi
    · exact hno it (by simp [hi]) hf
    · exact hkb hf
    · exact hno it (by simp [hi]) hf
  · intro it hi
    rcases memc it hi with rfl | ⟨hm, hi⟩
    · exact hb
    · exact it.stable w w' (fun k hk => hother k (by rintro rfl; exact apart it hm hk)) (h.holds it hi)
  · intro it hi k hk
    rw [hsize]
    rcases memc it hi with rfl | ⟨_, hi⟩
    · exact h.inb _ hin k hk
    · exact h.inb it hi k hk
  · intro it hi hn k hk
    rcases memc it hi with rfl | ⟨_, hi⟩
    · exact h.fresh _ hin hn k hk
    · exact h.fresh it hi hn k hk
  · rw [List.pairwise_append]
    refine ⟨hd1, ?_, ?_⟩
    · rw [List.pairwise_cons]; exact ⟨hd2.1, hd2.2⟩
    · intro x hx y hy k hxk hyk
      rcases List.mem_cons.1 hy with rfl | hy
      · exact hd3 x hx (blk f b o) List.mem_cons_self k hxk hyk
      · exact hd3 x hx y (List.mem_cons_of_mem _ hy) k hxk hyk

def allNew (H : List It) : Bool := H.all (·.new)
theorem allNew_cons {it : It} {H : List It} (h : it.new = true) (hs : allNew H = true) : allNew (it :: H) = true := by simp [allNew, h] at *; exact hs
theorem allNew_mem {H : List It} (h : allNew H = true) : ∀ it ∈ H, it.new = true := by simpa [allNew] using h
theorem allNew_append {H J : List It} (h : allNew H = true) (hj : allNew J = true) : allNew (H ++ J) = true := by simp [allNew] at *; exact ⟨h, hj⟩

/-- Behind a callee that leaves new items and turns nothing else. -/
theorem Mem.merge {w0 w w' : World} {H J : List It} (h : Mem w0 w H) (hj : Mem w w' J) (hn : allNew J = true) : Mem w0 w' (J ++ H) := by
  have hn := allNew_mem hn
  have same : ∀ b, b < w.heap.size → w'.heap[b]? = w.heap[b]? := fun b hb => hj.other b hb fun it hi hf => absurd (hj.fresh it hi (hn it hi) b hf) (by omega)
  refine ⟨hj.os.trans h.os, hj.tape.trans h.tape, hj.output.trans h.output, Nat.le_trans h.size hj.size, ?_, ?_, ?_, ?_, ?_⟩
  · intro b hb hno
    rw [same b (by have := h.size; omega)]
    exact h.other b hb fun it hi => hno it (List.mem_append_right _ hi)
  · intro it hi
    rcases List.mem_append.1 hi with hi | hi
    · exact hj.holds it hi
    · exact it.stable w w' (fun b hb => same b (h.inb it hi b hb)) (h.holds it hi)
  · intro it hi b hb
    rcases List.mem_append.1 hi with hi | hi
    · exact hj.inb it hi b hb
    · have := h.inb it hi b hb; have := hj.size; omega
  · intro it hi hnew b hb
    rcases List.mem_append.1 hi with hi | hi
    · have := hj.fresh it hi hnew b hb; have := h.size; omega
    · exact h.fresh it hi hnew b hb
  · rw [List.pairwise_append]
    refine ⟨hj.disj, h.disj, fun x hx y hy b hxb hyb => ?_⟩
    have := hj.fresh x hx (hn x hx) b hxb
    have := h.inb y hy b hyb
    omega

/-- Behind a callee that has turned one borrowed block, and leaves new items. -/
theorem Mem.merge1 {w0 w w' : World} {H H' J : List It} {b : Nat} {o o' : Obj} (h : Mem w0 w H) (hu : Upd H b o o' H') (hj : Mem w w' (blk false b o' :: J)) (hn : allNew J = true) : Mem w0 w' (J ++ H') := by
  have hbl : b < w.heap.size := by
    obtain ⟨H1, H2, f, rfl, rfl⟩ := hu
    exact h.inb (blk f b o) (by simp) b rfl
  have hb' : w'.heap[b]? = some o' := hj.holds _ List.mem_cons_self
  have hbw' : b < w'.heap.size := (Array.getElem?_eq_some_iff.1 hb').1
  have hnj := allNew_mem hn
  have sameb : ∀ k, k < w.heap.size → k ≠ b → w'.heap[k]? = w.heap[k]? := fun k hk hkb => hj.other k hk fun it hi hf => by
    rcases List.mem_cons.1 hi with rfl | hi
    · exact hkb hf
    · exact absurd (hj.fresh it (List.mem_cons_of_mem _ hi) (hnj it hi) k hf) (by omega)
  -- an intermediate world: w with the block turned
  let w1 : World := { w with heap := w.heap.set! b o' }
  have hw1b : w1.heap[b]? = some o' := by simp [w1, Array.set!, hbl]
  have hw1o : ∀ k, k ≠ b → w1.heap[k]? = w.heap[k]? := fun k hk => by simp [w1, Array.set!, Ne.symm hk]
  have hm1 : Mem w0 w1 H' := h.upd hu rfl rfl rfl (by simp [w1]) hw1b hw1o
  have hj1 : Mem w1 w' J := by
    refine ⟨hj.os, hj.tape, hj.output, by simpa [w1] using hj.size, ?_, fun it hi => hj.holds it (List.mem_cons_of_mem _ hi), fun it hi => hj.inb it (List.mem_cons_of_mem _ hi), ?_, (List.pairwise_cons.1 hj.disj).2⟩
    · intro k hk _
      by_cases hkb : k = b
      · subst hkb; rw [hb', hw1b]
      · rw [hw1o k hkb]; exact sameb k (by simpa [w1] using hk) hkb
    · intro it hi hnew k hk
      have := hj.fresh it (List.mem_cons_of_mem _ hi) hnew k hk
      simpa [w1] using this
  exact hm1.merge hj1 hn

/-- Old memory reads as it did at the base. -/
theorem Mem.old {w0 w : World} {H : List It} (h : Mem w0 w H) (hn : allNew H = true) {b : Nat} (hb : b < w0.heap.size) : w.heap[b]? = w0.heap[b]? :=
  h.other b hb fun it hi hf => absurd (h.fresh it hi (allNew_mem hn it hi) b hf) (by omega)
theorem Mem.below {w0 w : World} {H : List It} (h : Mem w0 w H) (hn : allNew H = true) : RowKit.Below w0.heap.size w0 w :=
  ⟨h.os, h.tape, h.output, h.size, fun _ hb => h.old hn hb⟩
theorem Mem.cellOld {w0 w : World} {H : List It} (h : Mem w0 w H) (hn : allNew H = true) {p : Addr} {v : Value} (hc : w0.cell? p = some v) : w.cell? p = some v := by
  rw [World.cell?_of_block (w := w0) (h.old hn (block_lt_of_cell hc))]; exact hc

end Go.Eng
