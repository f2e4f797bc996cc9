/- The engine, fifth part: operations that make or write memory; calls; results. -/
import Derived.Test.YtjalojbihpdghaaEngE
namespace Go.Eng
open Go

section
variable {P : Program} {n : Nat} {X : Cx} {todo : List Item} {e : Env} {H : List It} {ops : Array Oper} {l : List Oper} {d : Nat} {T : TypeId} {p : String} {af : Array Edge} {v : Value} {K : Kt}

theorem W.eff {o : Oper} (hg : o.guard = none) (h : ∀ a w, Fits X.ds n e a → Mem X.w0 w H → ∃ w' x, (execOp a.eval o).run P w = .ok x w' ∧ ((∃ v, x = .value v ∧ wpList P ops (QA K) l (a.put o.dst v) w') ∨ (x = .skip ∧ wpList P ops (QA K) l (a.put o.dst undef) w'))) : W (.sq K) P n X ops todo (o :: l) e H := by
  intro a w hf hm
  obtain ⟨w', x, hr, hx⟩ := h a w hf hm
  unfold wpList
  rw [if_pos (by simp [Region.wanted, hg])]
  left
  simp only [Oper.wp, hr]
  rcases hx with ⟨v, rfl, hk⟩ | ⟨rfl, hk⟩
  · exact hk
  · exact hk

/-- A guard that is met. -/
theorem W.ug {dst : Option Tmp} {op : Op} {j dj : Nat} {bv t : Bool} (hj : (ops[j]?).bind (·.dst) = some dj) (hg : look e dj = some (.bool t)) (ht : t = bv) (h : W (.sq K) P n X ops todo (⟨dst, op, T, p, af, none⟩ :: l) e H) : W (.sq K) P n X ops todo (⟨dst, op, T, p, af, some (j, bv)⟩ :: l) e H := by
  subst ht
  intro a w hf hm
  have := h a w hf hm
  unfold wpList at this ⊢
  rw [if_pos (by simp [Region.wanted])] at this
  rw [if_pos (by simp [Region.wanted, yielded_of hf hj hg])]
  exact this
/-- Of a type: its zero's cells. -/
def zrl (P : Program) (T : TypeId) : Option (List Value) := (zr P T).map cellsL
theorem zrl_run {zs : List Value} (h : zrl P T = some zs) (w : World) : ∃ z, (zeroValue T).run P w = .ok z w ∧ z.cells = zs.toArray := by
  unfold zrl at h
  cases hz : zr P T with
  | none => simp [hz] at h
  | some z => simp [hz] at h; exact ⟨z, zr_run hz w, by rw [cellsL_eq, h]⟩
theorem W.al {E : TypeId} {zs : List Value} (hz : zrl P E = some zs) (hd : Nat.blt d n = true) (hk : ∀ b, W (.sq K) P n X ops todo l ((d, ptr b 0) :: e) (nb b zs E :: H)) : W (.sq K) P n X ops todo (⟨some d, .alloc E, T, p, af, none⟩ :: l) e H := by
  refine W.eff rfl fun a w hf hm => ?_
  obtain ⟨z, h1, h2⟩ := zrl_run hz w
  refine ⟨w.alloc (.cells zs.toArray E), .value (ptr w.heap.size 0), ?_, .inl ⟨_, rfl, hk w.heap.size _ _ (hf.put _ hd) (hm.alloc _)⟩⟩
  simp [execOp, Instr.alloc, h1, newVar, newRow, h2]
theorem W.bx {E : TypeId} {x : Operand} {cs : List Value} (hx : ev e x = some v) (hc : cellsL v = cs) (hd : Nat.blt d n = true) (hk : ∀ b, W (.sq K) P n X ops todo l ((d, ptr b 0) :: e) (nb b cs E :: H)) : W (.sq K) P n X ops todo (⟨some d, .box E x, T, p, af, none⟩ :: l) e H := by
  refine W.eff rfl fun a w hf hm => ?_
  refine ⟨w.alloc (.cells cs.toArray E), .value (ptr w.heap.size 0), ?_, .inl ⟨_, rfl, hk w.heap.size _ _ (hf.put _ hd) (hm.alloc _)⟩⟩
  simp [execOp, Instr.box, newVar, newRow, hf.eval hx, cellsL_eq, hc]

/-- A store of cells into a block of the list. -/
theorem W.st {T' : TypeId} {x y : Operand} {b o s : Nat} {cs ds cs' : List Value} {E : TypeId} {H' : List It} (hs : sz P T' = some s) (hx : ev e x = some (ptr b o)) (hy : ev e y = some v) (hv : cellsL v = ds) (hl : ds.length = s) (h1 : ds.all (·.oneCell') = true)
    (hu : Upd H b (.cells cs.toArray E (0, 0)) (.cells cs'.toArray E (0, 0)) H') (ho : o + s ≤ cs.length) (hc : setAt cs o ds = cs') (hk : W (.sq K) P n X ops todo l e H') : W (.sq K) P n X ops todo (⟨none, .store T' x y, T, p, af, none⟩ :: l) e H := by
  refine W.eff rfl fun a w hf hm => ?_
  have hb : w.heap[b]? = some (.cells cs.toArray E (0, 0)) := by
    obtain ⟨f, hr⟩ := hu.rep
    exact hm.holds _ hr.mem
  have hst := run_storeCells_at P b o E ds 0 cs.toArray w hb (by simpa [hl] using ho) (by simpa using h1)
  refine ⟨w.setRow b cs'.toArray, .skip, ?_, .inr ⟨rfl, hk a _ hf ?_⟩⟩
  · have hcs : (cs.toArray.toList.take (o + 0) ++ ds ++ cs.toArray.toList.drop (o + 0 + ds.length)).toArray = cs'.toArray := by rw [← hc]; simp [setAt]
    rw [hcs] at hst
    simp [execOp, Instr.storeAt, Instr.sureAddr, storeVar, hf.eval hx, hf.eval hy, cellsL_eq, hv, hl, sz_run hs, hst]
  · exact hm.upd hu rfl rfl rfl (by simp) (setRow_heap w b _ _ E (0, 0) hb) (fun k hk => setRow_other w b k _ hk)

/-- A whole variable of a struct's or an array's type is stored. -/
theorem W.sta {T' : TypeId} {x y : Operand} {b s : Nat} {cs ds : List Value} {E : TypeId} {H' : List It} (hs : sz P T' = some s) (hx : ev e x = some (ptr b 0)) (hy : ev e y = some (.agg ds.toArray)) (hl : ds.length = s) (h1 : ds.all (·.oneCell') = true)
    (hu : Upd H b (.cells cs.toArray E (0, 0)) (.cells ds.toArray E (0, 0)) H') (ho : cs.length = s) (hk : W (.sq K) P n X ops todo l e H') : W (.sq K) P n X ops todo (⟨none, .store T' x y, T, p, af, none⟩ :: l) e H :=
  W.st hs hx hy (by simp [cellsL]) hl h1 hu (by omega) (by simp [setAt]; omega) hk
theorem W.bxa {E : TypeId} {x : Operand} {cs : List Value} (hx : ev e x = some (.agg cs.toArray)) (hd : Nat.blt d n = true) (hk : ∀ b, W (.sq K) P n X ops todo l ((d, ptr b 0) :: e) (nb b cs E :: H)) : W (.sq K) P n X ops todo (⟨some d, .box E x, T, p, af, none⟩ :: l) e H :=
  W.bx hx (by simp [cellsL]) hd hk
theorem W.bxs {E : TypeId} {x : Operand} (hx : ev e x = some v) (hc : cellsL v = [v]) (hd : Nat.blt d n = true) (hk : ∀ b, W (.sq K) P n X ops todo l ((d, ptr b 0) :: e) (nb b [v] E :: H)) : W (.sq K) P n X ops todo (⟨some d, .box E x, T, p, af, none⟩ :: l) e H :=
  W.bx hx hc hd hk

theorem run_buildSlice {S E s len : Nat} {vs : List (Nat × Value)} {zs cs : List Value} (hS : P.underlying S = some (.slice E)) (hs : sz P E = some s) (hz : zrl P E = some zs) (hbig : len * s ≤ 16777216)
    (hc : fillL (fun i => some (i * s, s)) ((List.range (len * s)).map fun i => zs.getD (i % zs.length) default) vs = some cs) (w : World) :
    (Instr.buildSlice S len vs.toArray).run P w = .ok (slc w.heap.size 0 len len) (w.alloc (.cells cs.toArray E)) := by
  obtain ⟨z, h1, h2⟩ := zrl_run hz w
  have hsz := sz_run hs w
  have hb : ¬ 16777216 < len * s := by omega
  have key : ((Array.range (len * s)).map fun i => zs.toArray[i % zs.toArray.size]!) = ((List.range (len * s)).map fun i => zs.getD (i % zs.length) default).toArray := by
    apply Array.ext'
    simp [Array.getElem!_eq_getD, List.getD]
  by_cases h0 : len * s = 0
  · have hf := fill_eq (fun i => some (i * s, s)) vs ((List.range (len * s)).map fun i => zs.getD (i % zs.length) default)
    rw [hc] at hf
    simp only [h0, List.range_zero, List.map_nil] at hf
    simp [Instr.buildSlice, run_underlying hS, hsz, h0, newRow]
    have hf' : Instr.fill (fun i => some (i * s, s)) #[] vs = some cs.toArray := hf
    have hz' : (Array.map (fun _ : Nat => (default : Value)) (Array.range 0)) = #[] := by simp
    rw [hz', hf']
    simp
  · have hf := fill_eq (fun i => some (i * s, s)) vs ((List.range (len * s)).map fun i => zs.getD (i % zs.length) default)
    rw [hc, ← key] at hf
    have hf' : Instr.fill (fun i => some (i * s, s)) ((Array.range (len * s)).map fun i => zs.toArray[i % zs.toArray.size]!) vs = some cs.toArray := hf
    simp [Instr.buildSlice, run_underlying hS, hsz, hb, h0, h1, h2, newRow] at hf' ⊢
    simp [hf']
theorem W.bs {S E s len : Nat} {ps : List (Nat × Operand)} {vs : List (Nat × Value)} {zs cs : List Value} (hS : P.underlying S = some (.slice E)) (hs : sz P E = some s) (hz : zrl P E = some zs) (hbig : Nat.ble (len * s) 16777216 = true) (hp : evp e ps = some vs)
    (hc : fillL (fun i => some (i * s, s)) ((List.range (len * s)).map fun i => zs.getD (i % zs.length) default) vs = some cs) (hd : Nat.blt d n = true)
    (hk : ∀ b, W (.sq K) P n X ops todo l ((d, slc b 0 len len) :: e) (nb b cs E :: H)) : W (.sq K) P n X ops todo (⟨some d, .buildSlice S len ps.toArray, T, p, af, none⟩ :: l) e H := by
  refine W.eff rfl fun a w hf hm => ?_
  refine ⟨w.alloc (.cells cs.toArray E), .value (slc w.heap.size 0 len len), ?_, .inl ⟨_, rfl, hk w.heap.size _ _ (hf.put _ hd) (hm.alloc _)⟩⟩
  have hparts := evp_map (ρ := a.eval) (fun x v hx => hf.eval hx) hp
  simp [execOp, hparts, run_buildSlice hS hs hz (by simpa using hbig) hc w]

/-- make([]T, n). -/
theorem W.mk {S E s by_ : Nat} {x y : Operand} {m : Nat} {k k' : IntKind} {zs : List Value} (hS : P.underlying S = some (.slice E)) (hs : sz P E = some s) (hz : zrl P E = some zs) (hby : (P.info? E).map (·.bytes) = some by_) (hx : ev e x = some (.int k m)) (hy : ev e y = some (.int k' m))
    (hb : by_ * m ≤ 281474976710656) (hm63 : m ≤ 9223372036854775807) (hd : Nat.blt d n = true) (hk : ∀ b, W (.sq K) P n X ops todo l ((d, slc b 0 m m) :: e) (nb b ((List.range (m * s)).map fun i => zs.getD (i % zs.length) default) E :: H)) : W (.sq K) P n X ops todo (⟨some d, .makeSlice S x y, T, p, af, none⟩ :: l) e H := by
  refine W.eff rfl fun a w hf hm => ?_
  refine ⟨w.alloc (.cells ((List.range (m * s)).map fun i => zs.getD (i % zs.length) default).toArray E), .value (slc w.heap.size 0 m m), ?_, .inl ⟨_, rfl, hk w.heap.size _ _ (hf.put _ hd) (hm.alloc _)⟩⟩
  unfold zrl zr at hz
  unfold sz at hs
  cases hi : P.info? E with
  | none => simp [hi] at hs
  | some i =>
    simp [hi] at hs hby hz
    obtain ⟨z, hz1, hz2⟩ := hz
    have hr := run_make (P := P) w S E i z hS hi hz1 k k' (m : Int) (m : Int) (by omega) (Int.le_refl _) (by have h : ((i.bytes * m : Nat) : Int) ≤ 281474976710656 := by rw [hby]; omega
                                                                                                             rwa [Int.natCast_mul] at h) (by omega)
    simp only [Int.toNat_natCast, hs] at hr
    have key : madeCells z.cells (m * s) = ((List.range (m * s)).map fun i => zs.getD (i % zs.length) default).toArray := by
      apply Array.ext'
      simp [madeCells, cellsL_eq, hz2, Array.getElem!_eq_getD, List.getD]
    rw [key] at hr
    simp [execOp, hf.eval hx, hf.eval hy, hr]

/-! ### Slices of the call's own, that are appended to -/
def Own (w : World) (a : Option Addr) (m cap : Nat) (E s : Nat) (xs : List Value) : Prop :=
  xs.length = m * s ∧ m ≤ cap ∧ cap ≤ maxLen ∧ ((a = none ∧ cap = 0) ∨ ∃ g junk, a = some ⟨g, 0, none⟩ ∧ w.heap[g]? = some (.cells (xs ++ junk).toArray E (0, 0)) ∧ cap * s ≤ (xs ++ junk).length)
def sl (a : Option Addr) (m cap E s : Nat) (xs : List Value) : It :=
  ⟨true, fun b => ∃ q, a = some q ∧ q.block = b, fun w => Own w a m cap E s xs, fun w w' h hA => by
    obtain ⟨h1, h2, h3, h4⟩ := hA
    refine ⟨h1, h2, h3, ?_⟩
    rcases h4 with h4 | ⟨g, junk, rfl, hg, hl⟩
    · exact .inl h4
    · exact .inr ⟨g, junk, rfl, by rw [h g ⟨_, rfl, rfl⟩]; exact hg, hl⟩⟩
theorem Mem.slNil {w0 w : World} {H : List It} (h : Mem w0 w H) (E s : Nat) : Mem w0 w (sl none 0 0 E s [] :: H) := by
  refine ⟨h.os, h.tape, h.output, h.size, fun b hb hno => h.other b hb fun it hi => hno it (List.mem_cons_of_mem _ hi), ?_, ?_, ?_, ?_⟩
  · intro it hi
    rcases List.mem_cons.1 hi with rfl | hi
    · exact ⟨by simp, Nat.le_refl _, Nat.zero_le _, .inl ⟨rfl, rfl⟩⟩
    · exact h.holds it hi
  · intro it hi b hb
    rcases List.mem_cons.1 hi with rfl | hi
    · obtain ⟨q, hq, _⟩ := hb; cases hq
    · exact h.inb it hi b hb
  · intro it hi hn b hb
    rcases List.mem_cons.1 hi with rfl | hi
    · obtain ⟨q, hq, _⟩ := hb; cases hq
    · exact h.fresh it hi hn b hb
  · refine List.Pairwise.cons ?_ h.disj
    rintro it hi b ⟨q, hq, _⟩
    cases hq
theorem Ent.slNil {w0 : World} {H : List It} (E s : Nat) : Ent w0 H (sl none 0 0 E s [] :: H) := fun _ h => h.slNil E s

/-- What a slice's value yields as a source. -/
def RdS (w0 : World) (H : List It) (a : Option Addr) (cells : List Value) : Prop := ∀ w, Mem w0 w H → RdL w a cells
theorem RdS.cells {w0 : World} {H : List It} {b o : Nat} {cs : List Value} (h : Cells w0 H b o cs) : RdS w0 H (some ⟨b, o, none⟩) cs := fun w hm i v hv => ⟨b, o, rfl, h i v hv w hm⟩
theorem RdS.nil {w0 : World} {H : List It} {a : Option Addr} : RdS w0 H a [] := fun w hm i v hv => by simp at hv
theorem RdS.old {w0 : World} {H : List It} {a : Option Addr} {cs : List Value} (hn : allNew H = true) (h : RdL w0 a cs) : RdS w0 H a cs := fun w hm i v hv => by
  obtain ⟨b, o, h1, h2⟩ := h i v hv
  exact ⟨b, o, h1, hm.cellOld hn h2⟩

theorem src_of {S' E' s m c : Nat} {a : Option Addr} {news : List Value} {w : World} (hk : P.underlying S' = some (.slice E')) (hr : RdL w a news) (hl : news.length = m * s) (h1 : ∀ u ∈ news, u.oneCell' = true) (hnil : a = none → m = 0) : Src P s S' (.slice a m c) m news w := by
  cases a with
  | none =>
    have := hnil rfl; subst this
    have : news = [] := List.eq_nil_of_length_eq_zero (by simpa using hl)
    subst this
    exact .ofNil w hk c
  | some q =>
    refine .ofSlice w hk q m c news hl (fun j u hu => ?_) h1
    obtain ⟨b, o, hq, hc⟩ := hr j u hu
    cases hq
    rw [add_ad]; exact hc

theorem run_append_sl {S S' E s m k cap by_ : Nat} {a : Option Addr} {xs news : List Value} {x : Value} {w : World} {ty : TypeId} (hS : P.underlying S = some (.slice E)) (hs : sz P E = some s) (hz : (zrl P E).map List.length = some s) (hby : (P.info? E).map (·.bytes) = some by_)
    (hown : Own w a m cap E s xs) (hsrc : Src P s S' x k news w) (hb : (m + k) * by_ ≤ 140737488355328) (h63 : m + k ≤ maxLen) :
    ∃ a' cap' w', (Builtin.append_ #[S, S'] ty #[.slice a m cap, x]).run P w = .ok (.slice a' (m + k) cap') w' ∧ Own w' a' (m + k) cap' E s (xs ++ news) ∧ w'.os = w.os ∧ w'.tape = w.tape ∧ w'.output = w.output ∧ w.heap.size ≤ w'.heap.size ∧
      (∀ q, a' = some q → (a = some q ∨ w.heap.size ≤ q.block) ∧ q.block < w'.heap.size) ∧ (∀ b, b < w.heap.size → (∀ q, a = some q → q.block ≠ b) → w'.heap[b]? = w.heap[b]?) := by
  obtain ⟨hx, hmc, hcm, hrow⟩ := hown
  have hl := hsrc.newsLen
  unfold zrl zr at hz
  unfold sz at hs
  cases hi : P.info? E with
  | none => simp [hi] at hs
  | some i =>
    simp [hi] at hs hby hz
    obtain ⟨z, hz1, hz2⟩ := hz
    have hzc : z.cells.size = s := by rw [cellsL_eq]; simpa using hz2
    subst hs; subst hby
    have hlen : (xs ++ news).length = (m + k) * i.size := by rw [List.length_append, hx, hl, Nat.add_mul]
    by_cases hroom : m + k ≤ cap
    · rcases hrow with ⟨rfl, rfl⟩ | ⟨g, junk, rfl, hg, hgl⟩
      · have hm0 : m = 0 := by omega
        have hk0 : k = 0 := by omega
        subst hm0; subst hk0
        have hn : news = [] := List.eq_nil_of_length_eq_zero (by simpa using hl)
        subst hn
        refine ⟨none, 0, w, ?_, ⟨hlen, by omega, hcm, .inl ⟨rfl, rfl⟩⟩, rfl, rfl, rfl, Nat.le_refl _, by simp, fun _ _ _ => rfl⟩
        have h1 := hsrc.len w
        have h2 := hsrc.cells
        rcases hsrc.kind with ⟨e', hk⟩ | hk <;> simp [Builtin.append_, run_underlying hS, run_underlying hk, sizeOf, typeInfo, hi, h1, h2]
      · have hst := run_storeCells_at P g (m * i.size) E news 0 (xs ++ junk).toArray w hg (by
            simp only [List.size_toArray]; rw [hl, Nat.add_zero, ← Nat.add_mul]; exact Nat.le_trans (Nat.mul_le_mul_right _ hroom) hgl) hsrc.one
        have hcell : ((xs ++ junk).toArray.toList.take (m * i.size + 0) ++ news ++ (xs ++ junk).toArray.toList.drop (m * i.size + 0 + news.length)).toArray = ((xs ++ news) ++ junk.drop news.length).toArray := by
          congr 1
          simp only [Nat.add_zero, ← hx]
          rw [List.take_left, List.drop_append, List.drop_eq_nil_of_le (by omega), List.nil_append, Nat.add_sub_cancel_left]
        rw [hcell] at hst
        refine ⟨some ⟨g, 0, none⟩, cap, w.setRow g ((xs ++ news) ++ junk.drop news.length).toArray, ?_, ⟨hlen, hroom, hcm, .inr ⟨g, junk.drop news.length, rfl, setRow_heap w g _ _ E (0, 0) hg, ?_⟩⟩, rfl, rfl, rfl, by simp, ?_, ?_⟩
        · have h1 := hsrc.len w
          have h2 := hsrc.cells
          rcases hsrc.kind with ⟨e', hk⟩ | hk <;> simp [Builtin.append_, run_underlying hS, run_underlying hk, sizeOf, typeInfo, hi, h1, hroom, h2, add_ad, hst]
        · rw [List.length_append, hlen, List.length_drop]
          have e2 : (m + k) * i.size ≤ cap * i.size := Nat.mul_le_mul_right _ hroom
          rw [List.length_append, hx] at hgl
          rw [hl]
          rw [Nat.add_mul] at *
          omega
        · intro q hq
          cases hq
          exact ⟨.inl rfl, by simpa using (Array.getElem?_eq_some_iff.1 hg).1⟩
        · intro b _ hne
          exact setRow_other w g b _ (fun h => hne _ rfl h.symm)
    · have hg : cap < m + k := by omega
      have hold : (Builtin.firstCells i.size m (.slice a m cap)).run P w.drew = .ok xs.toArray w.drew := by
        rcases hrow with ⟨rfl, rfl⟩ | ⟨g, junk, rfl, hg, hgl⟩
        · have hm0 : m = 0 := by omega
          subst hm0
          have hn : xs = [] := List.eq_nil_of_length_eq_zero (by simpa using hx)
          subst hn
          exact run_firstCells_none w.drew i.size 0 0 0
        · refine run_firstCells_some w.drew i.size m ⟨g, 0, none⟩ m cap xs hx (fun j u hu => ?_)
          rw [add_ad, Nat.zero_add, cell_of_row w.drew g j (xs ++ junk).toArray E (0, 0) hg]
          have hj := (List.getElem?_eq_some_iff.1 hu).1
          simp [List.getElem?_append, hj] at hu ⊢
          exact hu
      have hmax : (((m + k : Nat)) : Int) ≤ 9223372036854775807 := by have h := h63; simp [maxLen] at h; omega
      have hr := run_append_grow_src (P := P) w S S' ty E i z hS hi hz1 a m cap xs hold x k news hsrc hg hmax (growslice_fits hg hb)
      refine ⟨_, _, _, hr, ⟨hlen, grownCap_ge w _ _ _, grownCap_le_maxLen w _ _ _ h63, .inr ⟨w.heap.size, (Builtin.zeroCells z.cells (grownCap w (m + k) cap E - (m + k))).toList, rfl, ?_, ?_⟩⟩, rfl, rfl, rfl, by simp, ?_, ?_⟩
      · have := heap_alloc_new w.drew (.cells ((xs ++ news).toArray ++ Builtin.zeroCells z.cells (grownCap w (m + k) cap E - (m + k))) E)
        rw [World.size_drew] at this
        rw [this]
        congr 2
        apply Array.ext'
        simp
      · rw [List.length_append, hlen, Array.length_toList, size_zeroCells, hzc, ← Nat.add_mul]
        have := grownCap_ge w (m + k) cap E
        refine Nat.mul_le_mul_right _ ?_
        omega
      · intro q hq
        cases hq
        exact ⟨.inr (Nat.le_refl _), by simp⟩
      · intro b hb _
        exact RowKit.Below.heap_alloc w.drew _ b hb

/-- append onto a slice of the call's own. -/
theorem W.ap {S S' E E' s m k c cap by_ : Nat} {x y : Operand} {a a2 : Option Addr} {xs news : List Value} {H1 : Option Addr → Nat → List It} (hS : P.underlying S = some (.slice E)) (hS' : P.underlying S' = some (.slice E')) (hs : sz P E = some s) (hz : (zrl P E).map List.length = some s) (hby : (P.info? E).map (·.bytes) = some by_)
    (hx : ev e x = some (.slice a m cap)) (hy : ev e y = some (.slice a2 k c)) (hu : ∀ a' cap', Rep H (sl a m cap E s xs) (sl a' (m + k) cap' E s (xs ++ news)) (H1 a' cap'))
    (hsrc : RdS X.w0 H a2 news) (hl : news.length = k * s) (h1 : news.all (·.oneCell') = true) (hnil : a2 = none → k = 0) (hb : (m + k) * by_ ≤ 140737488355328) (h63 : m + k ≤ 9223372036854775807) (hd : Nat.blt d n = true)
    (hk : ∀ a' cap', W (.sq K) P n X ops todo l ((d, .slice a' (m + k) cap') :: e) (H1 a' cap')) : W (.sq K) P n X ops todo (⟨some d, .call ⟨.builtin .append, #[x, y], #[S, S']⟩, T, p, af, none⟩ :: l) e H := by
  refine W.eff rfl fun ac w hf hm => ?_
  have hown : Own w a m cap E s xs := hm.holds _ (hu none 0).mem
  obtain ⟨a', cap', w', hr, hown', e1, e2, e3, e4, e5, e6⟩ := run_append_sl (ty := T) hS hs hz hby hown (src_of (c := c) hS' (hsrc w hm) hl (by simpa using h1) hnil) hb (by simp only [maxLen]; omega)
  refine ⟨w', .value (.slice a' (m + k) cap'), ?_, .inl ⟨_, rfl, hk a' cap' _ _ (hf.put _ hd) ?_⟩⟩
  · simp [execOp, resolve, invoke, builtin, hf.eval hx, hf.eval hy, hr]
  · refine hm.rep (hu a' cap') e1 e2 e3 e4 rfl hown' ?_ ?_ (by simp [sl]) ?_
    · rintro b ⟨q, hq, rfl⟩; exact (e5 q hq).2
    · rintro b ⟨q, hq, rfl⟩
      rcases (e5 q hq).1 with h | h
      · exact .inl ⟨q, h, rfl⟩
      · exact .inr h
    · intro b hb hno
      exact e6 b hb fun q hq hqb => hno ⟨q, hq, hqb⟩

/-! ### Calls -/
def Callable (P : Program) (f : FuncId) : Prop := ∃ fn, P.funcs[f]? = some fn ∧ fn.body.isNone = false ∧ (fn.name == "runtime.NumGoroutine") = false
theorem call_run {f : FuncId} {as : List Operand} {vs : List Value} {ats : Array TypeId} {a : Act} {dst : Option Tmp} {g : Option (Nat × Bool)} {ds : List Deferred} (hf : Callable P f) (hfit : Fits ds n e a) (hv : evs e as = some vs) (w : World) :
    (execOp a.eval ⟨dst, .call ⟨.value (.func f), as.toArray, ats⟩, T, p, af, g⟩).run P w = .ok (.enter f vs.toArray) w := by
  obtain ⟨fn, h1, h2, h3⟩ := hf
  rw [execOp_call_go]
  have : (#[] ++ as.toArray.map a.eval ++ #[]) = vs.toArray := by simp [hfit.evals hv]
  rw [this]
  have h2' : ¬ fn.body = none := fun h => by simp [h] at h2
  simp at h3
  simp [callFunc, h1, h2', h3]

theorem W.call {f : FuncId} {as : List Operand} {vs : List Value} {ats : Array TypeId} {dst : Option Tmp} (hf : Callable P f) (hv : evs e as = some vs)
    (hc : ∀ w, Mem X.w0 w H → Calls P f vs.toArray w fun en w' => ∃ v, en = .returned v ∧ ∀ a, Fits X.ds n e a → wpList P ops (QA K) l (a.put dst v) w') : W (.sq K) P n X ops todo (⟨dst, .call ⟨.value (.func f), as.toArray, ats⟩, T, p, af, none⟩ :: l) e H := by
  intro a w hfit hm
  unfold wpList
  rw [if_pos (by simp [Region.wanted])]
  left
  simp only [Oper.wp, call_run hf hfit hv w, Oper.upon]
  refine (hc w hm).mono ?_
  rintro en w' ⟨v, rfl, hk⟩
  exact hk a hfit

/-- A call of a function that leaves new items. -/
theorem W.fn {f : FuncId} {as : List Operand} {vs : List Value} {ats : Array TypeId} {Post : Value → List It → Prop} (hf : Callable P f) (hv : evs e as = some vs) (hc : ∀ w, Mem X.w0 w H → Ret P f vs w Post) (hd : Nat.blt d n = true)
    (hk : ∀ v J, Post v J → allNew J = true → W (.sq K) P n X ops todo l ((d, v) :: e) (J ++ H)) : W (.sq K) P n X ops todo (⟨some d, .call ⟨.value (.func f), as.toArray, ats⟩, T, p, af, none⟩ :: l) e H :=
  W.call hf hv fun w hm => Calls.mono (hc w hm) fun _ w' ⟨v, J, h1, h2, h3, h4⟩ => ⟨v, h1, fun _ hfit => hk v J h4 h3 _ w' (hfit.put v hd) (hm.merge h2 h3)⟩

theorem Mem.merge' {w0 w w' : World} {H J : List It} (h : Mem w0 w H) (hj : Mem w w' J) (hn : allNew J = true) : Mem w0 w' H :=
  (h.merge hj hn).sublist (List.sublist_append_right J H) fun it hi => by
    rcases List.mem_append.1 hi with hi | hi
    · exact .inr (allNew_mem hn it hi)
    · exact .inl hi
/-- A call whose value is known; what it leaves is let go. In a region in its order (fv), and in one of any order (fvq). -/
theorem W.fv {f : FuncId} {as : List Operand} {vs : List Value} {ats : Array TypeId} (hf : Callable P f) (hv : evs e as = some vs) (hc : ∀ w, Mem X.w0 w H → Ret P f vs w fun v' _ => v' = v) (hd : Nat.blt d n = true)
    (hk : W (.sq K) P n X ops todo l ((d, v) :: e) H) : W (.sq K) P n X ops todo (⟨some d, .call ⟨.value (.func f), as.toArray, ats⟩, T, p, af, none⟩ :: l) e H :=
  W.call hf hv fun w hm => Calls.mono (hc w hm) fun _ w' ⟨v', J, h1, h2, h3, h4⟩ => ⟨v', h1, fun _ hfit => by subst h4; exact hk _ w' (hfit.put _ hd) (hm.merge' h2 h3)⟩
theorem W.fvq {f : FuncId} {as : List Operand} {vs : List Value} {ats : Array TypeId} (hf : Callable P f) (hv : evs e as = some vs) (hc : ∀ w, Mem X.w0 w H → Ret P f vs w fun v' _ => v' = v) (hd : Nat.blt d n = true)
    (hk : W (.qt K) P n X ops todo l ((d, v) :: e) H) : W (.qt K) P n X ops todo (⟨some d, .call ⟨.value (.func f), as.toArray, ats⟩, T, p, af, none⟩ :: l) e H := by
  intro a hfit
  unfold wpQuiet
  rw [if_pos (by simp [Region.wanted])]
  refine ⟨v, fun w hm => ?_, hk _ (hfit.put v hd)⟩
  simp only [Oper.quietAt, call_run hf hfit hv w, Oper.quietUpon]
  exact ⟨trivial, Calls.mono (hc w hm) fun _ w' ⟨v', J, h1, h2, h3, h4⟩ => ⟨by rw [h1, h4], hm.merge' h2 h3⟩⟩
theorem W.fvg {f : FuncId} {as : List Operand} {vs : List Value} {ats : Array TypeId} {j dj : Nat} {bv t : Bool} (hj : (ops[j]?).bind (·.dst) = some dj) (hg : look e dj = some (.bool t)) (ht : t = bv) (hf : Callable P f) (hv : evs e as = some vs) (hc : ∀ w, Mem X.w0 w H → Ret P f vs w fun v' _ => v' = v) (hd : Nat.blt d n = true)
    (hk : W (.sq K) P n X ops todo l ((d, v) :: e) H) : W (.sq K) P n X ops todo (⟨some d, .call ⟨.value (.func f), as.toArray, ats⟩, T, p, af, some (j, bv)⟩ :: l) e H := by
  subst ht
  intro a w hfit hm
  unfold wpList
  rw [if_pos (by simp [Region.wanted, yielded_of hfit hj hg])]
  left
  simp only [Oper.wp, call_run hf hfit hv w, Oper.upon]
  refine Calls.mono (hc w hm) ?_
  rintro en w' ⟨v', J, rfl, h2, h3, rfl⟩
  exact hk _ w' (hfit.put _ hd) (hm.merge' h2 h3)
theorem W.fvgq {f : FuncId} {as : List Operand} {vs : List Value} {ats : Array TypeId} {j dj : Nat} {bv t : Bool} (hj : (ops[j]?).bind (·.dst) = some dj) (hg : look e dj = some (.bool t)) (ht : t = bv) (hf : Callable P f) (hv : evs e as = some vs) (hc : ∀ w, Mem X.w0 w H → Ret P f vs w fun v' _ => v' = v) (hd : Nat.blt d n = true)
    (hk : W (.qt K) P n X ops todo l ((d, v) :: e) H) : W (.qt K) P n X ops todo (⟨some d, .call ⟨.value (.func f), as.toArray, ats⟩, T, p, af, some (j, bv)⟩ :: l) e H := by
  subst ht
  intro a hfit
  unfold wpQuiet
  rw [if_pos (by simp [Region.wanted, yielded_of hfit hj hg])]
  refine ⟨v, fun w hm => ?_, hk _ (hfit.put v hd)⟩
  simp only [Oper.quietAt, call_run hf hfit hv w, Oper.quietUpon]
  exact ⟨trivial, Calls.mono (hc w hm) fun _ w' ⟨v', J, h1, h2, h3, h4⟩ => ⟨by rw [h1, h4], hm.merge' h2 h3⟩⟩
/-- A guarded call of a function that leaves new items. -/
theorem W.fng {f : FuncId} {as : List Operand} {vs : List Value} {ats : Array TypeId} {j dj : Nat} {bv t : Bool} {Post : Value → List It → Prop} (hj : (ops[j]?).bind (·.dst) = some dj) (hg : look e dj = some (.bool t)) (ht : t = bv) (hf : Callable P f) (hv : evs e as = some vs) (hc : ∀ w, Mem X.w0 w H → Ret P f vs w Post) (hd : Nat.blt d n = true)
    (hk : ∀ v J, Post v J → allNew J = true → W (.sq K) P n X ops todo l ((d, v) :: e) (J ++ H)) : W (.sq K) P n X ops todo (⟨some d, .call ⟨.value (.func f), as.toArray, ats⟩, T, p, af, some (j, bv)⟩ :: l) e H := by
  subst ht
  intro a w hfit hm
  unfold wpList
  rw [if_pos (by simp [Region.wanted, yielded_of hfit hj hg])]
  left
  simp only [Oper.wp, call_run hf hfit hv w, Oper.upon]
  refine Calls.mono (hc w hm) ?_
  rintro en w' ⟨v', J, rfl, h2, h3, h4⟩
  exact hk v' J h4 h3 _ w' (hfit.put _ hd) (hm.merge h2 h3)

/-- A call of a function that turns one block of the list, and leaves new items. -/
theorem W.fb {f : FuncId} {as : List Operand} {vs : List Value} {ats : Array TypeId} {b : Nat} {o : Obj} {H1 : Obj → List It} {Post : Value → Obj → List It → Prop} (hf : Callable P f) (hv : evs e as = some vs) (hu : ∀ o', Upd H b o o' (H1 o')) (hc : ∀ w, Mem X.w0 w H → RetB P f vs w b Post) (hd : Nat.blt d n = true)
    (hk : ∀ v o' J, Post v o' J → allNew J = true → W (.sq K) P n X ops todo l ((d, v) :: e) (J ++ H1 o')) : W (.sq K) P n X ops todo (⟨some d, .call ⟨.value (.func f), as.toArray, ats⟩, T, p, af, none⟩ :: l) e H :=
  W.call hf hv fun w hm => Calls.mono (hc w hm) fun _ w' ⟨v, o', J, h1, h2, h3, h4⟩ => ⟨v, h1, fun _ hfit => hk v o' J h4 h3 _ w' (hfit.put v hd) (hm.merge1 (hu o') h2 h3)⟩
end

/-! ### Results -/
section
variable {P : Program} {n : Nat} {X : Cx} {todo : List Item} {e : Env} {H : List It}
def rvSem (a : Act) : ResultVar → Sem Value
  | .tmp t => pure (a.tmps.getD t undef)
  | .cell b t => do loadVar t (← asAddr (a.tmps.getD b undef))
def RA (P : Program) (n : Nat) (w0 : World) (e : Env) (H : List It) (rs : List ResultVar) (vs : List Value) : Prop :=
  ∀ ds a w, Fits ds n e a → Mem w0 w H → (rs.mapM (rvSem a)).run P w = .ok vs w
theorem RA.nil {w0 : World} : RA P n w0 e H [] [] := fun _ a w _ _ => by simp
theorem RA.cons {w0 : World} {r : ResultVar} {v : Value} {rs : List ResultVar} {vs : List Value} (h1 : ∀ ds a w, Fits ds n e a → Mem w0 w H → (rvSem a r).run P w = .ok v w) (h : RA P n w0 e H rs vs) : RA P n w0 e H (r :: rs) (v :: vs) := fun ds a w hf hm => by
  simp only [List.mapM_cons, Sem.run_bind, h1 ds a w hf hm, Result.andThen_ok, h ds a w hf hm, Sem.run_pure]
theorem RA.tmp {w0 : World} {t : Nat} {v : Value} {rs : List ResultVar} {vs : List Value} (hv : look e t = some v) (h : RA P n w0 e H rs vs) : RA P n w0 e H (.tmp t :: rs) (v :: vs) :=
  .cons (fun _ a w hf _ => by simp only [rvSem, hf.getD hv, Sem.run_pure]) h
theorem RA.cella {w0 : World} {t b o s : Nat} {T : TypeId} {cs : List Value} {rs : List ResultVar} {vs : List Value} (hv : look e t = some (ptr b o)) (hT : aggT P T = true) (hs : sz P T = some s) (hc : Cells w0 H b o cs) (hl : cs.length = s) (h : RA P n w0 e H rs vs) : RA P n w0 e H (.cell t T :: rs) (.agg cs.toArray :: vs) :=
  .cons (fun _ a w hf hm => by
    have hg := hf.getD hv
    have hr : (loadCells ⟨b, o, none⟩ s).run P w = .ok cs.toArray w := by
      rw [← hl]; exact run_loadCells_list (P := P) (w := w) ⟨b, o, none⟩ cs (fun j v hv => by rw [add_ad]; exact hc j v hv w hm)
    simp only [rvSem, Sem.run_bind, hg, asAddr, Sem.run_pure, Result.andThen_ok, loadVar, aggT_run hT, if_true, sz_run hs, hr]) h
theorem RA.scal {w0 : World} {t : Nat} {q : Addr} {T : TypeId} {v : Value} {rs : List ResultVar} {vs : List Value} (hv : look e t = some (.pointer (some q))) (hT : scal P T = true) (hc : Cell w0 H q v) (h : RA P n w0 e H rs vs) : RA P n w0 e H (.cell t T :: rs) (v :: vs) :=
  .cons (fun _ a w hf hm => by
    have hg := hf.getD hv
    simp only [rvSem, Sem.run_bind, hg, asAddr, Sem.run_pure, Result.andThen_ok, loadVar, scal_agg hT, Bool.false_eq_true, if_false, run_load, hc w hm]) h
def tup : List Value → Value
  | [v] => v
  | vs => .tuple vs.toArray
theorem ret {fn : Func} {w0 : World} {R : Ending → World → Prop} {rs : List ResultVar} {vs : List Value} (hX : X.Ok P fn w0 R) (hr : fn.results = rs.toArray) (ha : RA P n w0 e H rs vs) (h : ∀ w, Mem w0 w H → R (.returned (tup vs)) w) : G P n X (.code .ret :: todo) e H := by
  refine .retR hX (fun a w hf hm => ?_) h
  have h1 : (rs.toArray.mapM (rvSem a)).run P w = .ok vs.toArray w := by
    rw [Array.mapM_eq_mapM_toList]; simp [ha _ a w hf hm]
  have h2 : results fn a.tmps = (do let vs ← rs.toArray.mapM (rvSem a); pure (if h : vs.size = 1 then vs[0] else .tuple vs)) := by
    unfold results
    rw [hr]
    congr 1
  rw [h2]
  simp only [Sem.run_bind, h1, Result.andThen_ok, Sem.run_pure]
  match vs with
  | [] => simp [tup]
  | [v] => simp [tup]
  | v :: u :: us => simp [tup]
end
end Go.Eng
