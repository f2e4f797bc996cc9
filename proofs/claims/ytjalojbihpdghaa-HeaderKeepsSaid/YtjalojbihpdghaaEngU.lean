/- The engine: slices of the call's own that begin behind their row's beginning. -/
import Derived.Test.YtjalojbihpdghaaEngV
namespace Go.Eng
open Go

def OwnV (w : World) (a : Option Addr) (m cap : Nat) (E s : Nat) (xs : List Value) : Prop :=
  xs.length = m * s ∧ m ≤ cap ∧ cap ≤ maxLen ∧ ((a = none ∧ cap = 0) ∨ ∃ g o pre junk, a = some ⟨g, o, none⟩ ∧ pre.length = o ∧ w.heap[g]? = some (.cells (pre ++ (xs ++ junk)).toArray E (0, 0)) ∧ cap * s ≤ (xs ++ junk).length)
def sv (a : Option Addr) (m cap E s : Nat) (xs : List Value) : It :=
  ⟨true, fun b => ∃ q, a = some q ∧ q.block = b, fun w => OwnV w a m cap E s xs, fun w w' h hA => by
    obtain ⟨h1, h2, h3, h4⟩ := hA
    refine ⟨h1, h2, h3, ?_⟩
    rcases h4 with h4 | ⟨g, o, pre, junk, rfl, hp, hg, hl⟩
    · exact .inl h4
    · exact .inr ⟨g, o, pre, junk, rfl, hp, by rw [h g ⟨_, rfl, rfl⟩]; exact hg, hl⟩⟩
theorem OwnV.of {w : World} {a : Option Addr} {m cap E s : Nat} {xs : List Value} (h : Own w a m cap E s xs) : OwnV w a m cap E s xs := by
  obtain ⟨h1, h2, h3, h4⟩ := h
  refine ⟨h1, h2, h3, ?_⟩
  rcases h4 with h4 | ⟨g, junk, rfl, hg, hl⟩
  · exact .inl h4
  · exact .inr ⟨g, 0, [], junk, rfl, rfl, hg, hl⟩
variable {P : Program} {n : Nat} {X : Cx} {todo : List Item} {e : Env} {H : List It} {ops : Array Oper} {l : List Oper} {d : Nat} {T : TypeId} {p : String} {af : Array Edge} {v : Value} {K : Kt} {w0 w : World}

theorem Mem.slSv {a : Option Addr} {m cap E s : Nat} {xs : List Value} {H' : List It} (h : Mem w0 w H) (hr : Rep H (sl a m cap E s xs) (sv a m cap E s xs) H') : Mem w0 w H' :=
  h.rep hr rfl rfl rfl (Nat.le_refl _) rfl (OwnV.of (h.holds _ hr.mem)) (fun b hb => h.inb _ hr.mem b hb) (fun b hb => .inl hb) (by simp [sl]) (fun _ _ _ => rfl)
theorem slA_block {a : Option Addr} {l cap s : Nat} {q : Addr} (h : slA a l cap s = some q) : ∃ q', a = some q' ∧ q'.block = q.block := by
  unfold slA at h
  split at h
  · exact ⟨q, h, rfl⟩
  · cases a with
    | none => cases h
    | some q' =>
      simp at h
      refine ⟨q', rfl, ?_⟩
      rw [← h]; unfold Addr.add; split <;> rfl
theorem OwnV.dropV {a : Option Addr} {m cap E s : Nat} {xs : List Value} (h : OwnV w a m cap E s xs) (k : Nat) (hk : k ≤ m) : OwnV w (slA a k cap s) (m - k) (cap - k) E s (xs.drop (k * s)) := by
  obtain ⟨h1, h2, h3, h4⟩ := h
  have hks : k * s ≤ m * s := Nat.mul_le_mul_right _ hk
  refine ⟨by rw [List.length_drop, h1, Nat.sub_mul], by omega, by omega, ?_⟩
  rcases h4 with ⟨rfl, rfl⟩ | ⟨g, o, pre, junk, rfl, hp, hg, hl⟩
  · exact .inl ⟨slA_none.2 rfl, by omega⟩
  · right
    unfold slA
    by_cases hc : cap = k
    · rw [if_pos hc]
      have hm : m = k := by omega
      have hx : xs.drop (k * s) = [] := List.drop_eq_nil_of_le (by rw [h1, hm]; exact Nat.le_refl _)
      refine ⟨g, o, pre, xs ++ junk, rfl, hp, by rw [hx, List.nil_append]; exact hg, by rw [hc, Nat.sub_self, Nat.zero_mul]; exact Nat.zero_le _⟩
    · rw [if_neg hc]
      refine ⟨g, o + k * s, pre ++ xs.take (k * s), junk, by simp [add_ad], by rw [List.length_append, hp, List.length_take, Nat.min_eq_left (by omega)], ?_, ?_⟩
      · rw [List.append_assoc, ← List.append_assoc (xs.take _), List.take_append_drop]; exact hg
      · rw [List.length_append] at hl ⊢
        rw [List.length_drop, Nat.sub_mul]; omega
theorem Mem.svDrop {a : Option Addr} {m cap E s k : Nat} {xs : List Value} {H' : List It} (h : Mem w0 w H) (hr : Rep H (sv a m cap E s xs) (sv (slA a k cap s) (m - k) (cap - k) E s (xs.drop (k * s))) H') (hk : k ≤ m) : Mem w0 w H' :=
  h.rep hr rfl rfl rfl (Nat.le_refl _) rfl (OwnV.dropV (h.holds _ hr.mem) k hk) (fun b hb => by
    obtain ⟨q, hq, rfl⟩ := hb
    obtain ⟨q', h1, h2⟩ := slA_block hq
    rw [← h2]; exact h.inb _ hr.mem _ ⟨q', h1, rfl⟩) (fun b hb => by
    obtain ⟨q, hq, rfl⟩ := hb
    obtain ⟨q', h1, h2⟩ := slA_block hq
    exact .inl ⟨q', h1, h2⟩) (by simp [sv]) (fun _ _ _ => rfl)
theorem RdS.sv {a : Option Addr} {m cap E s : Nat} {xs : List Value} (hi : sv a m cap E s xs ∈ H) : RdS w0 H a xs := fun w hm i v hv => by
  obtain ⟨h1, h2, h3, h4⟩ : OwnV w a m cap E s xs := hm.holds _ hi
  rcases h4 with ⟨rfl, rfl⟩ | ⟨g, o, pre, junk, rfl, hp, hg, hl⟩
  · have : m = 0 := by omega
    subst this
    have := (List.getElem?_eq_some_iff.1 hv).1
    omega
  · refine ⟨g, o, rfl, ?_⟩
    rw [cell_of_row w g (o + i) (pre ++ (xs ++ junk)).toArray E (0, 0) hg]
    have hil := (List.getElem?_eq_some_iff.1 hv).1
    simp only [List.getElem?_toArray]
    rw [List.getElem?_append_right (by omega), hp, Nat.add_sub_cancel_left, List.getElem?_append_left hil]
    exact hv
theorem Mem.svRd {a : Option Addr} {m cap E s : Nat} {xs : List Value} (hm : Mem w0 w H) (hi : sv a m cap E s xs ∈ H) : RdL w a xs := RdS.sv hi w hm
theorem Rdf.sv {a : Option Addr} {m cap E s : Nat} {xs : List Value} (hi : sv a m cap E s xs ∈ H) : Rdf w0 H a xs := fun L _ _ hm => hm.svRd (List.mem_append_right L hi)
theorem Mem.svAt {a : Option Addr} {m cap E s : Nat} {xs : List Value} (h : Mem w0 w H) (hi : sv a m cap E s xs ∈ H) : xs.length = m * s ∧ m ≤ cap ∧ cap ≤ maxLen ∧ (a = none → cap = 0) := by
  obtain ⟨h1, h2, h3, h4⟩ : OwnV w a m cap E s xs := h.holds _ hi
  refine ⟨h1, h2, h3, fun ha => ?_⟩
  rcases h4 with ⟨h4, h5⟩ | ⟨g, o, pre, junk, h4, _⟩
  · exact h5
  · rw [h4] at ha; cases ha
theorem G.svAt {a : Option Addr} {m cap E s : Nat} {xs : List Value} (hi : sv a m cap E s xs ∈ H) (h : xs.length = m * s → m ≤ cap → cap ≤ maxLen → (a = none → cap = 0) → G P n X todo e H) : G P n X todo e H := fun ac w hf hm =>
  let ⟨h1, h2, h3, h4⟩ := hm.svAt hi; h h1 h2 h3 h4 ac w hf hm
theorem W.svAt {a : Option Addr} {m cap E s : Nat} {xs : List Value} (hi : sv a m cap E s xs ∈ H) (h : xs.length = m * s → m ≤ cap → cap ≤ maxLen → (a = none → cap = 0) → W (.sq K) P n X ops todo l e H) : W (.sq K) P n X ops todo l e H := fun ac w hf hm =>
  let ⟨h1, h2, h3, h4⟩ := hm.svAt hi; h h1 h2 h3 h4 ac w hf hm

theorem run_append_sv {S S' E s m k cap by_ : Nat} {a : Option Addr} {xs news : List Value} {x : Value} {w : World} {ty : TypeId} (hS : P.underlying S = some (.slice E)) (hs : sz P E = some s) (hz : (zrl P E).map List.length = some s) (hby : (P.info? E).map (·.bytes) = some by_)
    (hown : OwnV w a m cap E s xs) (hsrc : Src P s S' x k news w) (hb : (m + k) * by_ ≤ 140737488355328) (h63 : m + k ≤ maxLen) :
    ∃ a' cap' w', (Builtin.append_ #[S, S'] ty #[.slice a m cap, x]).run P w = .ok (.slice a' (m + k) cap') w' ∧ OwnV w' a' (m + k) cap' E s (xs ++ news) ∧ w'.os = w.os ∧ w'.tape = w.tape ∧ w'.output = w.output ∧ w.heap.size ≤ w'.heap.size ∧
      (∀ q, a' = some q → (a = some q ∨ w.heap.size ≤ q.block) ∧ q.block < w'.heap.size) ∧ (∀ b, b < w.heap.size → (∀ q, a = some q → q.block ≠ b) → w'.heap[b]? = w.heap[b]?) := by
  obtain ⟨hx, hmc, hcm, hrow⟩ := hown
  have hl := hsrc.newsLen
  unfold zrl zr at hz
  unfold sz at hs
  cases hi : P.info? E with
  | none => simp [hi] at hs
  | some i =>
    simp [hi] at hs hby hz
    obtain ⟨z, hz1, hz2⟩ := hz
    have hzc : z.cells.size = s := by rw [cellsL_eq]; simpa using hz2
    subst hs; subst hby
    have hlen : (xs ++ news).length = (m + k) * i.size := by rw [List.length_append, hx, hl, Nat.add_mul]
    by_cases hroom : m + k ≤ cap
    · rcases hrow with ⟨rfl, rfl⟩ | ⟨g, o, pre, junk, rfl, hp, hg, hgl⟩
      · have hm0 : m = 0 := by omega
        have hk0 : k = 0 := by omega
        subst hm0; subst hk0
        have hn : news = [] := List.eq_nil_of_length_eq_zero (by simpa using hl)
        subst hn
        refine ⟨none, 0, w, ?_, ⟨hlen, by omega, hcm, .inl ⟨rfl, rfl⟩⟩, rfl, rfl, rfl, Nat.le_refl _, by simp, fun _ _ _ => rfl⟩
        have h1 := hsrc.len w
        have h2 := hsrc.cells
        rcases hsrc.kind with ⟨e', hk⟩ | hk <;> simp [Builtin.append_, run_underlying hS, run_underlying hk, sizeOf, typeInfo, hi, h1, h2]
      · have hroomS : (m + k) * i.size ≤ (xs ++ junk).length := Nat.le_trans (Nat.mul_le_mul_right _ hroom) hgl
        have hst := run_storeCells_at P g (o + m * i.size) E news 0 (pre ++ (xs ++ junk)).toArray w hg (by
            simp only [List.size_toArray]; rw [List.length_append, hl, hp, Nat.add_zero]; rw [Nat.add_mul] at hroomS; omega) hsrc.one
        have hcell : ((pre ++ (xs ++ junk)).toArray.toList.take (o + m * i.size + 0) ++ news ++ (pre ++ (xs ++ junk)).toArray.toList.drop (o + m * i.size + 0 + news.length)).toArray = (pre ++ ((xs ++ news) ++ junk.drop news.length)).toArray := by
          congr 1
          simp only [Nat.add_zero, ← hx, ← hp]
          rw [← List.append_assoc pre xs junk, ← List.length_append, List.take_left, List.drop_append, List.drop_eq_nil_of_le (by omega), List.nil_append, Nat.add_sub_cancel_left]
          simp only [List.append_assoc]
        rw [hcell] at hst
        refine ⟨some ⟨g, o, none⟩, cap, w.setRow g (pre ++ ((xs ++ news) ++ junk.drop news.length)).toArray, ?_, ⟨hlen, hroom, hcm, .inr ⟨g, o, pre, junk.drop news.length, rfl, hp, setRow_heap w g _ _ E (0, 0) hg, ?_⟩⟩, rfl, rfl, rfl, by simp, ?_, ?_⟩
        · have h1 := hsrc.len w
          have h2 := hsrc.cells
          rcases hsrc.kind with ⟨e', hk⟩ | hk <;> simp [Builtin.append_, run_underlying hS, run_underlying hk, sizeOf, typeInfo, hi, h1, hroom, h2, add_ad, hst]
        · rw [List.length_append, hlen, List.length_drop]
          have e2 : (m + k) * i.size ≤ cap * i.size := Nat.mul_le_mul_right _ hroom
          rw [List.length_append, hx] at hgl
          rw [hl]
          rw [Nat.add_mul] at *
          omega
        · intro q hq
          cases hq
          exact ⟨.inl rfl, by simpa using (Array.getElem?_eq_some_iff.1 hg).1⟩
        · intro b _ hne
          exact setRow_other w g b _ (fun h => hne _ rfl h.symm)
    · have hg : cap < m + k := by omega
      have hold : (Builtin.firstCells i.size m (.slice a m cap)).run P w.drew = .ok xs.toArray w.drew := by
        rcases hrow with ⟨rfl, rfl⟩ | ⟨g, o, pre, junk, rfl, hp, hg, hgl⟩
        · have hm0 : m = 0 := by omega
          subst hm0
          have hn : xs = [] := List.eq_nil_of_length_eq_zero (by simpa using hx)
          subst hn
          exact run_firstCells_none w.drew i.size 0 0 0
        · refine run_firstCells_some w.drew i.size m ⟨g, o, none⟩ m cap xs hx (fun j u hu => ?_)
          rw [add_ad, cell_of_row w.drew g (o + j) (pre ++ (xs ++ junk)).toArray E (0, 0) hg]
          have hj := (List.getElem?_eq_some_iff.1 hu).1
          simp only [List.getElem?_toArray]
          rw [List.getElem?_append_right (by omega), hp, Nat.add_sub_cancel_left, List.getElem?_append_left hj]
          exact hu
      have hmax : (((m + k : Nat)) : Int) ≤ 9223372036854775807 := by have h := h63; simp [maxLen] at h; omega
      have hr := run_append_grow_src (P := P) w S S' ty E i z hS hi hz1 a m cap xs hold x k news hsrc hg hmax (growslice_fits hg hb)
      refine ⟨_, _, _, hr, ⟨hlen, grownCap_ge w _ _ _, grownCap_le_maxLen w _ _ _ h63, .inr ⟨w.heap.size, 0, [], (Builtin.zeroCells z.cells (grownCap w (m + k) cap E - (m + k))).toList, rfl, rfl, ?_, ?_⟩⟩, rfl, rfl, rfl, by simp, ?_, ?_⟩
      · have := heap_alloc_new w.drew (.cells ((xs ++ news).toArray ++ Builtin.zeroCells z.cells (grownCap w (m + k) cap E - (m + k))) E)
        rw [World.size_drew] at this
        rw [this]
        congr 2
        apply Array.ext'
        simp
      · rw [List.length_append, hlen, Array.length_toList, size_zeroCells, hzc, ← Nat.add_mul]
        have := grownCap_ge w (m + k) cap E
        refine Nat.mul_le_mul_right _ ?_
        omega
      · intro q hq
        cases hq
        exact ⟨.inr (Nat.le_refl _), by simp⟩
      · intro b hb _
        exact RowKit.Below.heap_alloc w.drew _ b hb

/-- append onto such a slice. -/
theorem W.apu {S S' E E' s m k c cap by_ : Nat} {x y : Operand} {a a2 : Option Addr} {xs news : List Value} {H1 : Option Addr → Nat → List It} (hS : P.underlying S = some (.slice E)) (hS' : P.underlying S' = some (.slice E')) (hs : sz P E = some s) (hz : (zrl P E).map List.length = some s) (hby : (P.info? E).map (·.bytes) = some by_)
    (hx : ev e x = some (.slice a m cap)) (hy : ev e y = some (.slice a2 k c)) (hu : ∀ a' cap', Rep H (sv a m cap E s xs) (sv a' (m + k) cap' E s (xs ++ news)) (H1 a' cap'))
    (hsrc : RdS X.w0 H a2 news) (hl : news.length = k * s) (h1 : news.all (·.oneCell') = true) (hnil : a2 = none → k = 0) (hb : (m + k) * by_ ≤ 140737488355328) (h63 : m + k ≤ 9223372036854775807) (hd : Nat.blt d n = true)
    (hk : ∀ a' cap', W (.sq K) P n X ops todo l ((d, .slice a' (m + k) cap') :: e) (H1 a' cap')) : W (.sq K) P n X ops todo (⟨some d, .call ⟨.builtin .append, #[x, y], #[S, S']⟩, T, p, af, none⟩ :: l) e H := by
  refine W.eff rfl fun ac w hf hm => ?_
  have hown : OwnV w a m cap E s xs := hm.holds _ (hu none 0).mem
  obtain ⟨a', cap', w', hr, hown', e1, e2, e3, e4, e5, e6⟩ := run_append_sv (ty := T) hS hs hz hby hown (src_of (c := c) hS' (hsrc w hm) hl (by simpa using h1) hnil) hb (by simp only [maxLen]; omega)
  refine ⟨w', .value (.slice a' (m + k) cap'), ?_, .inl ⟨_, rfl, hk a' cap' _ _ (hf.put _ hd) ?_⟩⟩
  · simp [execOp, resolve, invoke, builtin, hf.eval hx, hf.eval hy, hr]
  · refine hm.rep (hu a' cap') e1 e2 e3 e4 rfl hown' ?_ ?_ (by simp [sv]) ?_
    · rintro b ⟨q, hq, rfl⟩; exact (e5 q hq).2
    · rintro b ⟨q, hq, rfl⟩
      rcases (e5 q hq).1 with h | h
      · exact .inl ⟨q, h, rfl⟩
      · exact .inr h
    · intro b hb hno
      exact e6 b hb fun q hq hqb => hno ⟨q, hq, hqb⟩
/-- What a piece of code comes to, whatever way it takes; its memory too. -/
theorem G.joinH {it : Item} (E C : Env) (H' : List It) (hC : Sub C e) (h : G P n X todo (E ++ C) H' → G P n X (it :: todo) e H) (k : G P n X todo (E ++ C) H') : G P n X (it :: todo) e H := h k
theorem Mem.svNil (h : Mem w0 w H) (E s : Nat) : Mem w0 w (sv none 0 0 E s [] :: H) := (h.slNil E s).slSv .hd
theorem Ent.svNil (E s : Nat) : Ent w0 H (sv none 0 0 E s [] :: H) := fun _ h => h.svNil E s
theorem Ent.slSv {a : Option Addr} {m cap E s : Nat} {xs : List Value} {H' : List It} (hr : Rep H (sl a m cap E s xs) (sv a m cap E s xs) H') : Ent w0 H H' := fun _ h => h.slSv hr
theorem Ent.svDrop {a : Option Addr} {m cap E s k : Nat} {xs : List Value} {H' : List It} (hr : Rep H (sv a m cap E s xs) (sv (slA a k cap s) (m - k) (cap - k) E s (xs.drop (k * s))) H') (hk : k ≤ m) : Ent w0 H H' := fun _ h => h.svDrop hr hk
end Go.Eng
