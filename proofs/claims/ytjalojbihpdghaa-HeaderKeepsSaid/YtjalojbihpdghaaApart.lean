/- Lists of bytes that share no memory. -/
import Derived.Test.YtjalojbihpdghaaKeeps1
import Derived.Test.YtjalojbihpdghaaTape2
namespace Go.Proofs.Ytjalojbihpdghaa
open Go Go.Eng
set_option linter.unusedVariables false

def mks (i m : Nat) : List UInt8 := (List.range m).map (mk i)
theorem mks_len (i m : Nat) : (mks i m).length = m := by simp [mks]
theorem mks_get {i m j : Nat} (h : j < m) : (mks i m)[j]? = some (mk i j) := by simp [mks, h]
theorem mks_take {i m k : Nat} (h : k ≤ m) : (mks i m).take k = mks i k := by
  rw [mks, ← List.map_take, List.take_range, Nat.min_eq_left h]; rfl
theorem mks_of {i : Nat} {bs : List UInt8} (h : ∀ j, j < bs.length → bs[j]? = some (mk i j)) : bs = mks i bs.length := by
  apply List.ext_getElem?
  intro j
  rcases Nat.lt_or_ge j bs.length with q | q
  · rw [h j q, mks_get q]
  · rw [List.getElem?_eq_none q, List.getElem?_eq_none (by rw [mks_len]; exact q)]
/-- A view: address, length, room. -/
abbrev Vw := Option Addr × Nat × Nat
def vwV (x : Vw) : Value := .slice x.1 x.2.1 x.2.2
theorem vwV_one (l : List Vw) : (l.map vwV).all (·.oneCell') = true := by simp [vwV, Value.oneCell']
def pcW (p : Pc) : Vw := (p.1, p.2.2.length, p.2.1)
/-- Rows with the number of their list. -/
abbrev Dt := Pc × Nat
def dI (q : Dt) : It := pcI q.1
theorem dI_new (D : List Dt) : allNew (D.map dI) = true := by simp [allNew, dI, pcI, sl]
theorem dI_zip (D : List Pc) : D.zipIdx.map dI = D.map pcI := by
  have : (dI : Dt → It) = pcI ∘ Prod.fst := rfl
  rw [this, ← List.map_map, List.zipIdx_map_fst]
def hasD (D : List Dt) (i : Nat) (x : Vw) : Prop := ∃ bs, ((x.1, x.2.2, bs), i) ∈ D ∧ x.2.1 ≤ bs.length ∧ bs = mks i bs.length
theorem hasD.rdf {D : List Dt} {i len cap : Nat} {a : Option Addr} (h : hasD D i (a, len, cap)) {w0 : World} {H : List It} : Rdf w0 (D.map dI ++ H) a (B (mks i len)) := by
  obtain ⟨bs, h1, h2, h3⟩ := h
  have := (Rdf.sl (w0 := w0) (H := D.map dI ++ H) (a := a) (m := bs.length) (cap := cap) (E := 5) (s := 1) (xs := B bs) (List.mem_append_left _ (List.mem_map_of_mem (f := dI) h1))).take len
  rw [B, ← List.map_take, h3, mks_take h2] at this
  exact this
theorem hasD.cell {D : List Dt} {i len cap b o j : Nat} (h : hasD D i (some ⟨b, o, none⟩, len, cap)) {w0 : World} {H : List It} (hj : j < len) : Cell w0 (D.map dI ++ H) ⟨b, o + j, none⟩ (u8 (mk i j)) :=
  h.rdf.cellOf (B_get (mks_get hj))
theorem Rep.app {L H H' : List It} {it it' : It} (h : Rep H it it' H') : Rep (L ++ H) it it' (L ++ H') := by
  obtain ⟨H1, H2, rfl, rfl⟩ := h
  exact ⟨L ++ H1, H2, by simp, by simp⟩
theorem Rep.mapSet {D : List Pc} {i : Nat} {p p' : Pc} (h : D[i]? = some p) (R : List It) : Rep (D.map pcI ++ R) (pcI p) (pcI p') ((D.set i p').map pcI ++ R) := by
  obtain ⟨hi, rfl⟩ := List.getElem?_eq_some_iff.1 h
  refine ⟨(D.take i).map pcI, (D.drop (i + 1)).map pcI ++ R, ?_, ?_⟩
  · have e : D = D.take i ++ D[i] :: D.drop (i + 1) := by rw [List.getElem_cons_drop, List.take_append_drop]
    refine (congrArg (fun l : List Pc => l.map pcI ++ R) e).trans ?_
    rw [List.map_append, List.map_cons, List.append_assoc, List.cons_append]
  · rw [List.set_eq_take_append_cons_drop, if_pos hi]; simp
theorem Rep.mapSetL {D : List Pc} {i cap : Nat} {a : Option Addr} {bs bs' : List UInt8} (h : D[i]? = some (a, cap, bs)) (hl : bs'.length = bs.length) (R : List It) : Rep (D.map pcI ++ R) (sl a bs.length cap 5 1 (B bs)) (sl a bs.length cap 5 1 (B bs')) ((D.set i (a, cap, bs')).map pcI ++ R) := by
  have := Rep.mapSet (p' := (a, cap, bs')) h R
  rwa [show pcI (a, cap, bs') = sl a bs.length cap 5 1 (B bs') by simp [pcI, hl]] at this
section
variable {n : Nat} {X : Cx} {todo : List Item} {e : Env} {ops : Array Oper} {l : List Oper} {d : Nat} {T : TypeId} {p : String} {af : Array Edge} {K : Kt}
/-- append of the marks that follow, onto a view. -/
theorem W.apD {D : List Dt} (J : List It) {H0 : List It} {i len cap k c : Nat} {a a2 : Option Addr} {x y : Operand} (hx : ev e x = some (.slice a len cap)) (hy : ev e y = some (.slice a2 k c)) (hd : hasD D i (a, len, cap)) (hsrc : RdS X.w0 (J ++ (D.map dI ++ H0)) a2 (B ((List.range k).map fun j => mk i (len + j)))) (hnil : a2 = none → k = 0) (hk0 : 0 < k) (hb : len + k ≤ 140737488355328) (hdd : Nat.blt d n = true)
    (hk : ∀ D' a' cap', (∀ i x, hasD D i x → hasD D' i x) → hasD D' i (a', len + k, cap') → W (.sq K) Try.prog n X ops todo l ((d, .slice a' (len + k) cap') :: e) (J ++ (D'.map dI ++ H0))) :
    W (.sq K) Try.prog n X ops todo (⟨some d, .call ⟨.builtin .append, #[x, y], #[22, 22]⟩, T, p, af, none⟩ :: l) e (J ++ (D.map dI ++ H0)) := by
  obtain ⟨bs, hmem, hle, hbs⟩ := hd
  simp only at hmem hle
  obtain ⟨D1, D2, rfl⟩ := List.append_of_mem hmem
  have hsplit : ∀ q : Dt, J ++ ((D1 ++ q :: D2).map dI ++ H0) = (J ++ D1.map dI) ++ dI q :: (D2.map dI ++ H0) := fun q => by simp
  have hnl : (B ((List.range k).map fun j => mk i (len + j))).length = k * 1 := by simp
  have hpre : (B bs).take (len * 1) ++ B ((List.range k).map fun j => mk i (len + j)) = B (mks i (len + k)) := by
    rw [B, Nat.mul_one, ← List.map_take, hbs, mks_take hle, ← List.map_append]
    congr 1
    unfold mks
    rw [List.range_add, List.map_append, List.map_map]; rfl
  refine W.apv (m := bs.length) (xs := B bs) (s := 1) (E := 5) (H1 := fun m' xs' => (J ++ D1.map dI) ++ sl a m' cap 5 1 xs' :: (D2.map dI ++ H0)) Try.underlying22 Try.underlying22 Try.sz5 Try.zln5 Try.by5 hx hy
    (fun m' xs' => ⟨J ++ D1.map dI, D2.map dI ++ H0, hsplit _, rfl⟩) hsrc hnl (B_one _) hnil hle hk0 (by omega) (by omega) hdd ?_ (fun a' cap' => ?_)
  · have := hk (D1 ++ ((a, cap, mks i (max bs.length (len + k))), i) :: D2) a cap ?_ ⟨mks i (max bs.length (len + k)), by simp, by rw [mks_len]; simp; omega, by rw [mks_len]⟩
    · rw [hsplit] at this
      have e1 : dI ((a, cap, mks i (max bs.length (len + k))), i) = sl a (max bs.length (len + k)) cap 5 1 ((B bs).take (len * 1) ++ B ((List.range k).map fun j => mk i (len + j)) ++ (B bs).drop ((len + k) * 1)) := by
        rw [hpre]
        show sl a (mks i (max bs.length (len + k))).length cap _ 1 _ = _
        rw [mks_len]
        congr 1
        show (mks i (max bs.length (len + k))).map u8 = _
        rw [B, B, ← List.map_drop, ← List.map_append]
        congr 1
        apply List.ext_getElem?
        intro j
        rcases Nat.lt_or_ge j (len + k) with q | q
        · rw [List.getElem?_append_left (by rw [mks_len]; exact q), mks_get (by omega), mks_get q]
        · rw [List.getElem?_append_right (by rw [mks_len]; exact q), mks_len, List.getElem?_drop, Nat.mul_one, show len + k + (j - (len + k)) = j by omega]
          conv => rhs; rw [hbs]
          rcases Nat.lt_or_ge j bs.length with q2 | q2
          · rw [mks_get (by omega), mks_get q2]
          · rw [List.getElem?_eq_none (by rw [mks_len]; omega), List.getElem?_eq_none (by rw [mks_len]; omega)]
      rw [e1] at this
      exact this
    · rintro i' ⟨x1, x2, x3⟩ ⟨bs', q1, q2, q3⟩
      rcases List.mem_append.1 q1 with q1 | q1
      · exact ⟨bs', List.mem_append_left _ q1, q2, q3⟩
      rcases List.mem_cons.1 q1 with q1 | q1
      · simp only [Prod.mk.injEq] at q1
        obtain ⟨⟨rfl, rfl, rfl⟩, rfl⟩ := q1
        exact ⟨mks i' (max bs'.length (len + k)), by simp, by rw [mks_len]; exact Nat.le_trans q2 (Nat.le_max_left _ _), by rw [mks_len]⟩
      · exact ⟨bs', List.mem_append_right _ (List.mem_cons_of_mem _ q1), q2, q3⟩
  · refine W.ent ?_ (hk (((a', cap', mks i (len + k)), i) :: (D1 ++ ((a, cap, bs), i) :: D2)) a' cap' ?_ ⟨mks i (len + k), by simp, by simp [mks_len], by rw [mks_len]⟩)
    · rw [hpre]
      have e1 : dI ((a', cap', mks i (len + k)), i) = sl a' (len + k) cap' 5 1 (B (mks i (len + k))) := by
        show sl a' (mks i (len + k)).length cap' _ 1 _ = _
        rw [mks_len]
      rw [← e1, List.map_cons, List.cons_append]
      exact Ent.perm List.perm_middle.symm
    · rintro i' x ⟨bs', q1, q2, q3⟩
      exact ⟨bs', List.mem_cons_of_mem _ q1, q2, q3⟩
end
/-- How far the marks are set. -/
def L1 (ps D : List Pc) (i j : Nat) : Prop := D.map pcV = ps.map pcV ∧ ∀ i' p, D[i']? = some p → ∀ j', (i' < i ∧ j' < p.2.2.length ∨ i' = i ∧ j' < j) → p.2.2[j']? = some (mk i' j')
theorem L1.get {ps D : List Pc} {i j k : Nat} (h : L1 ps D i j) (hk : k < ps.length) : ∃ p, D[k]? = some p ∧ (ps.map pcV)[k]? = some (pcV p) := by
  have hl := congrArg List.length h.1
  simp only [List.length_map] at hl
  refine ⟨D[k], List.getElem?_eq_getElem _, ?_⟩
  rw [← h.1, List.getElem?_map, List.getElem?_eq_getElem]; rfl
theorem L1.step {ps D : List Pc} {i j : Nat} {a : Option Addr} {cap : Nat} {bs : List UInt8} (h : L1 ps D i j) (hp : D[i]? = some (a, cap, bs)) (hj : j < bs.length) : L1 ps (D.set i (a, cap, bs.set j (mk i j))) i (j + 1) := by
  obtain ⟨hi, he⟩ := List.getElem?_eq_some_iff.1 hp
  refine ⟨?_, fun i' p hi' j' hj' => ?_⟩
  · rw [← h.1, List.map_set]
    exact set_self (by rw [List.getElem?_map, hp]; simp [pcV])
  · rw [List.getElem?_set] at hi'
    split at hi'
    · rename_i e; subst e
      obtain rfl := Option.some.inj hi'
      simp only [List.length_set] at hj' ⊢
      rw [List.getElem?_set]
      split
      · rename_i e; subst e; rfl
      · refine h.2 i _ hp j' (.inr ⟨rfl, ?_⟩)
        rcases hj' with ⟨q, _⟩ | ⟨_, q⟩ <;> omega
    · exact h.2 i' p hi' j' (by omega)
theorem L1.next {ps D : List Pc} {i j : Nat} {p : Pc} (h : L1 ps D i j) (hp : D[i]? = some p) (hj : p.2.2.length ≤ j) : L1 ps D (i + 1) 0 := ⟨h.1, fun i' p' hi' j' hj' => by
  rcases hj' with ⟨q1, q2⟩ | ⟨_, q2⟩
  · rcases Nat.lt_or_ge i' i with q | q
    · exact h.2 i' p' hi' j' (.inl ⟨q, q2⟩)
    · have : i' = i := by omega
      subst this
      rw [hp] at hi'
      obtain rfl := Option.some.inj hi'
      exact h.2 i' p hp j' (.inr ⟨rfl, by omega⟩)
  · omega⟩
/-- Pieces and grown ones, all with their marks. -/
def L2 (ps : List Pc) (D : List Dt) (gl : List Vw) : Prop := (∀ i p, ps[i]? = some p → hasD D i (pcW p)) ∧ ∀ t x, gl[t]? = some x → hasD D (t % ps.length) x ∧ x.2.1 ≤ 140737488352292
theorem L1.end' {ps D : List Pc} (h : L1 ps D ps.length 0) : L2 ps D.zipIdx [] := ⟨fun i p hp => by
  obtain ⟨p', h1, h2⟩ := h.get (List.getElem?_eq_some_iff.1 hp).1
  rw [List.getElem?_map, hp] at h2
  have h2 := Option.some.inj h2
  obtain ⟨a, cap, bs⟩ := p
  obtain ⟨a', cap', bs'⟩ := p'
  simp only [pcV, Value.slice.injEq] at h2
  obtain ⟨rfl, h3, rfl⟩ := h2
  refine ⟨bs', ?_, ?_, mks_of fun j hj => h.2 i _ h1 j (.inl ⟨(List.getElem?_eq_some_iff.1 hp).1, hj⟩)⟩
  · exact List.mk_mem_zipIdx_iff_getElem?.2 h1
  · exact Nat.le_of_eq h3, fun t x h => by simp at h⟩
theorem L2.up {ps : List Pc} {D D' : List Dt} {gl : List Vw} (h : L2 ps D gl) (hm : ∀ i x, hasD D i x → hasD D' i x) : L2 ps D' gl := ⟨fun i p hp => hm _ _ (h.1 i p hp), fun t x hx => ⟨hm _ _ (h.2 t x hx).1, (h.2 t x hx).2⟩⟩
theorem L2.snoc {ps : List Pc} {D : List Dt} {gl : List Vw} {i : Nat} {x : Vw} (h : L2 ps D gl) (hx : hasD D i x) (hi : gl.length % ps.length = i) (hb : x.2.1 ≤ 140737488352292) : L2 ps D (gl ++ [x]) := ⟨h.1, fun t y hy => by
  rw [List.getElem?_append] at hy
  split at hy
  · exact h.2 t y hy
  · rename_i q
    have ht : t - gl.length = 0 := by
      have := (List.getElem?_eq_some_iff.1 hy).1
      simpa using this
    have : t = gl.length := by omega
    subst this
    simp at hy; subst hy
    rw [hi]; exact ⟨hx, hb⟩⟩
def many (i n k : Nat) : List UInt8 := (List.range k).map (fun j => mk i (n + j)) ++ List.replicate (40 - k) 0
theorem many_len (i n k : Nat) (h : k ≤ 40) : (many i n k).length = 40 := by simp [many]; omega
theorem many_end (i n : Nat) : many i n 40 = (List.range 40).map (fun j => mk i (n + j)) := by simp [many]
theorem many_set (i n k : Nat) (h : k < 40) : (many i n k).set k (mk i (n + k)) = many i n (k + 1) := by
  unfold many
  rw [List.set_append_right _ _ (by simp), List.range_succ, List.map_append, List.append_assoc]
  simp only [List.length_map, List.length_range, List.map_cons, List.map_nil]
  rw [Nat.sub_self, show 40 - k = (40 - (k + 1)) + 1 by omega, List.replicate_succ]
  rfl


set_option maxRecDepth 100000 in
theorem ref01_ApartG (w0 : World) (H : List It) (al : Option Addr) (capl : Nat) (ps : List Pc) (hl : Rdf w0 H al (ps.map pcV)) (hb : ∀ p ∈ ps, p.2.2.length ≤ 140737488352000) (hn : ps.length ≤ 1000) :
    RetF Try.prog 31 [.slice al ps.length capl] w0 H (ps.map pcI) (fun v P => v = .bool true ∧ P = []) := by
  refine enterF Try.func31 rfl Try.ntmps31 rfl (fun X hX => ?_)
  have hw := hX.w0; subst hw
  have hJ0 := pcI_new ps
  have hps : ∀ i, i < ps.length → ∃ a cap bs, ps[i]? = some (a, cap, bs) ∧ bs.length ≤ 140737488352000 := fun i hi => ⟨ps[i].1, ps[i].2.1, ps[i].2.2, List.getElem?_eq_getElem hi, hb _ (List.getElem_mem hi)⟩
  refine G.seq <| G.reg <| W.q (sa rfl) rfl <| W.nil <| G.seq <| G.seq <| G.reg <| W.q (sa rfl) rfl <| W.nil <| G.blk <| G.loop2 (α := Nat) (β := List Pc) (fun i D => i ≤ ps.length ∧ L1 ps D i 0) (fun i D => [(3, i64 i)]) (fun i D => [] ++ D.map pcI) (fun i D => ps.length - i) [(0, _)] H 0 ps ⟨by omega, rfl, fun _ _ _ _ h => by omega⟩ (Sub.cons rfl <| Sub.cons rfl <| Sub.nil _) .rfl (fun i D hk ih => ?_)
  refine G.seq <| G.seq <| G.reg <| W.q (mv rfl) rfl <| W.q (mv rfl) rfl <| W.q (ln Try.esl73 rfl) rfl <| W.q (lt rfl rfl) rfl <| W.nil <| G.cdd rfl (fun h1 => ?_) (fun h1 => ?_)
  · -- h1 True
    have hi : i < ps.length := by omega
    obtain ⟨a, cap, bs, hpi, hbs⟩ := hps i hi
    refine G.rdA (a := al) (cells := ps.map pcV) (hl.upJ (pcI_new D)) (by simp; omega) (fun lb lo hle => ?_)
    subst hle
    have hz : ∀ (D : List Pc) L, allNew L = true → Cell X.w0 (L ++ (D.map pcI ++ H)) ⟨lb, lo + i, none⟩ (.slice a bs.length cap) := fun D L hL => ((hl.upJ (pcI_new D)).upJ hL).cellOf (by rw [List.getElem?_map, hpi]; rfl)
    rw [← show (i : Int).toNat * 1 = i by omega] at hz
    refine G.skip <| G.seq <| G.blk <| G.seq <| G.reg <| W.q (sa rfl) rfl <| W.nil <| G.blk <| G.loop2 (α := Nat) (β := List Pc) (fun j D => L1 ps D i j ∧ j ≤ bs.length) (fun j D => [(4, i64 j)]) (fun j D => [] ++ D.map pcI) (fun j D => bs.length - j) [(0, _), (3, _)] H 0 D ⟨hk.2, by omega⟩ (Sub.cons rfl <| Sub.cons rfl <| Sub.cons rfl <| Sub.nil _) .rfl (fun j D hk2 ih2 => ?_)
    have hJ1 := pcI_new D
    obtain ⟨p, hD, hpe⟩ := hk2.1.get hi
    rw [List.getElem?_map, hpi] at hpe
    obtain ⟨a', cap', bs'⟩ := p
    simp only [Option.map_some, pcV, Option.some.injEq, Value.slice.injEq] at hpe
    obtain ⟨rfl, hbe, rfl⟩ := hpe
    refine G.seq <| G.seq <| G.reg <| W.q (mv rfl) rfl <| W.q (mv rfl) rfl <| W.q (mv rfl) rfl <| W.q (ia Try.esl73 rfl rfl (by omega) (by omega)) rfl <| W.q (ld Try.sc22 rfl (hz D [] rfl)) rfl <| W.q (ln Try.esl22 rfl) rfl <| W.q (lt rfl rfl) rfl <| W.nil <| G.cdd rfl (fun h2 => ?_) (fun h2 => ?_)
    · -- h2 True
      refine G.slAt (a := a) (m := bs'.length) (cap := cap) (E := 5) (s := 1) (xs := B bs') (List.mem_append_left _ (List.mem_map_of_mem (f := pcI) (List.mem_of_getElem? hD))) (fun q1 q2 q3 q4 => ?_)
      rcases q4 with ⟨_, _, q4⟩ | ⟨g, rfl⟩
      · omega
      refine G.skip <| G.seq <| G.blk <| G.rega 10 rfl Try.mixed <| A.q 0 rfl (by kernel_rfl) (fun _ => (mv rfl)) rfl <| A.q 1 rfl (by kernel_rfl) (fun _ => (mv rfl)) rfl <| A.q 2 rfl (by kernel_rfl) (fun _ => (ia Try.esl73 rfl rfl (by omega) (by omega))) rfl <| A.q 4 rfl (by kernel_rfl) (fun _ => (mv rfl)) rfl <| A.q 5 rfl (by kernel_rfl) (fun _ => (mv rfl)) rfl <| A.q 6 rfl (by kernel_rfl) (fun _ => (mv rfl)) rfl <| A.two 3 7 rfl rfl (by kernel_rfl) ?_ ?_
      · -- o3: 3 first
        refine W.q (ld Try.sc22 rfl (hz D [] rfl)) rfl <| A.back <| A.one 7 rfl (by kernel_rfl) <| W.fv Try.ca66 rfl (fun w hm => ref01_mark i j (by omega) (by omega) w) rfl <| A.back <| A.q 8 rfl (by kernel_rfl) (fun _ => (ia Try.esl22 rfl rfl (by omega) (by omega))) rfl <| A.one 9 rfl (by kernel_rfl) <| W.stS (xs' := B (bs'.set j (mk i j))) Try.sz5 rfl rfl rfl rfl rfl (Rep.mapSetL hD (by simp) _) (by omega) (by rw [show 0 + (j : Int).toNat * 1 = j by omega]; exact setAt_B _ _ _ (by omega)) <| A.back <| A.nil (by kernel_rfl) <| G.inb <| G.reg <| W.q (mv rfl) rfl <| W.q (ad rfl rfl (by omega)) rfl <| W.q (sa rfl) rfl <| W.nil <| (ih2 (j + 1) (D.set i (some ⟨g, 0, none⟩, cap, bs'.set j (mk i j))) ⟨hk2.1.step hD (by omega), by omega⟩ (by omega)).weak (Sub.cons rfl <| Sub.cons rfl <| Sub.cons rfl <| Sub.nil _) .rfl
      · -- o3: 7 first
        refine W.fv Try.ca66 rfl (fun w hm => ref01_mark i j (by omega) (by omega) w) rfl <| A.back <| A.held 3 [] rfl (by kernel_rfl) (ld Try.sc22 rfl (hz D [] rfl)) rfl <| A.q 8 rfl (by kernel_rfl) (fun _ => (ia Try.esl22 rfl rfl (by omega) (by omega))) rfl <| A.one 9 rfl (by kernel_rfl) <| W.stS (xs' := B (bs'.set j (mk i j))) Try.sz5 rfl rfl rfl rfl rfl (Rep.mapSetL hD (by simp) _) (by omega) (by rw [show 0 + (j : Int).toNat * 1 = j by omega]; exact setAt_B _ _ _ (by omega)) <| A.back <| A.nil (by kernel_rfl) <| G.inb <| G.reg <| W.q (mv rfl) rfl <| W.q (ad rfl rfl (by omega)) rfl <| W.q (sa rfl) rfl <| W.nil <| (ih2 (j + 1) (D.set i (some ⟨g, 0, none⟩, cap, bs'.set j (mk i j))) ⟨hk2.1.step hD (by omega), by omega⟩ (by omega)).weak (Sub.cons rfl <| Sub.cons rfl <| Sub.cons rfl <| Sub.nil _) .rfl
    · -- h2 False
      refine G.exit rfl <| G.inb <| G.reg <| W.q (mv rfl) rfl <| W.q (ad rfl rfl (by omega)) rfl <| W.q (sa rfl) rfl <| W.nil <| (ih (i + 1) D ⟨by omega, hk2.1.next hD (by simp only; omega)⟩ (by omega)).weak (Sub.cons rfl <| Sub.cons rfl <| Sub.nil _) .rfl
  · -- h1 False
    have h12 := L1.end' (show L1 ps D ps.length 0 by have := hk.2; rwa [show i = ps.length by omega] at this)
    refine G.ent (H' := D.zipIdx.map dI ++ H) (Ent.eq (by rw [dI_zip]; rfl)) ?_
    generalize D.zipIdx = D0 at h12 ⊢
    clear ih hk
    refine G.exit rfl <| G.seq <| G.reg <| W.q (sa rfl) rfl <| W.nil <| G.seq <| G.seq <| G.reg <| W.q (sa rfl) rfl <| W.nil <| G.blk <| G.loop5 (α := Nat) (β := List Dt) (γ := List Vw) (δ := Option Addr) (ε := Nat) (fun i D gl ag cg => i ≤ ps.length ∧ L2 ps D gl ∧ gl.length = i) (fun i D gl ag cg => [(5, .slice ag gl.length cg), (6, i64 i)]) (fun i D gl ag cg => [sl ag gl.length cg 22 1 (gl.map vwV)] ++ D.map dI) (fun i D gl ag cg => ps.length - i) [(0, _)] H 0 D0 [] none 0 ⟨by omega, h12, rfl⟩ (Sub.cons rfl <| Sub.cons rfl <| Sub.cons rfl <| Sub.nil _) (fun w hm => hm.slNil 22 1) (fun i D gl ag cg hk ih3 => ?_)
    refine G.seq <| G.seq <| G.reg <| W.q (mv rfl) rfl <| W.q (mv rfl) rfl <| W.q (ln Try.esl73 rfl) rfl <| W.q (lt rfl rfl) rfl <| W.nil <| G.cdd rfl (fun h4 => ?_) (fun h4 => ?_)
    · -- h4 True
      have hi : i < ps.length := by omega
      obtain ⟨a, cap, bs, hpi, hbs⟩ := hps i hi
      refine G.rdA (a := al) (cells := ps.map pcV) ((hl.upJ (dI_new D)).up rfl) (by simp; omega) (fun lb lo hle => ?_)
      subst hle
      have hz : ∀ (D : List Dt) L, allNew L = true → Cell X.w0 (L ++ (D.map dI ++ H)) ⟨lb, lo + i, none⟩ (.slice a bs.length cap) := fun D L hL => ((hl.upJ (dI_new D)).upJ hL).cellOf (by rw [List.getElem?_map, hpi]; rfl)
      rw [← show (i : Int).toNat * 1 = i by omega] at hz
      refine G.skip <| G.seq <| G.blk <| G.seq <| G.reg <| W.q (mv rfl) rfl <| W.q (mv rfl) rfl <| W.q (ia Try.esl73 rfl rfl (by omega) (by omega)) rfl <| W.q (ld Try.sc22 rfl (hz D [_] rfl)) rfl <| W.q (sa rfl) rfl <| W.nil <| G.seq <| G.seq <| G.reg <| W.q (sa rfl) rfl <| W.nil <| G.blk <| G.loop4 (α := Nat) (β := List Dt) (γ := Option Addr) (δ := Nat) (fun k D a1 c1 => k ≤ 16 ∧ L2 ps D gl ∧ hasD D i (a1, bs.length + k, c1)) (fun k D a1 c1 => [(7, .slice a1 (bs.length + k) c1), (8, i64 k)]) (fun k D a1 c1 => [sl ag gl.length cg 22 1 (gl.map vwV)] ++ D.map dI) (fun k D a1 c1 => 16 - k) [(0, _), (5, _), (6, _)] H 0 D a cap ⟨by omega, hk.2.1, hk.2.1.1 i _ hpi⟩ (Sub.cons rfl <| Sub.cons rfl <| Sub.cons rfl <| Sub.cons rfl <| Sub.cons rfl <| Sub.nil _) .rfl (fun k D a1 c1 hk3 ih4 => ?_)
      refine G.seq <| G.seq <| G.reg <| W.q (mv rfl) rfl <| W.q (lt rfl rfl) rfl <| W.nil <| G.cdd rfl (fun h5 => ?_) (fun h5 => ?_)
      · -- h5 True
        refine G.skip <| G.seq <| G.blk <| G.reg <| W.q (mv rfl) rfl <| W.q (mv rfl) rfl <| W.q (mv rfl) rfl <| W.q (mv rfl) rfl <| W.q (ia Try.esl73 rfl rfl (by omega) (by omega)) rfl <| W.q (ld Try.sc22 rfl (hz D [_] rfl)) rfl <| W.q (ln Try.esl22 rfl) rfl <| W.q (mv rfl) rfl <| W.q (ad rfl rfl (by omega)) rfl <| W.fv Try.ca66 rfl (fun w hm => ref01_mark i (bs.length + k) (by omega) (by omega) w) rfl <| W.bs (cs := [_]) Try.underlying22 Try.sz5 Try.zrl5 rfl rfl rfl rfl fun b1 => W.apD (i := i) [_, _] rfl rfl hk3.2.2 (RdS.row .hd) (by simp) (by decide) (by omega) rfl fun D2 a2 c2 hup hnew => W.q (sa rfl) rfl <| W.nil <| G.inb <| G.reg <| W.q (mv rfl) rfl <| W.q (ad rfl rfl (by omega)) rfl <| W.q (sa rfl) rfl <| W.nil <| (ih4 (k + 1) D2 a2 c2 ⟨by omega, hk3.2.1.up hup, hnew⟩ (by omega)).weak (Sub.cons rfl <| Sub.cons rfl <| Sub.cons rfl <| Sub.cons rfl <| Sub.cons rfl <| Sub.nil _) (Dr.ent <| Dr.drop rfl <| .rfl)
      · -- h5 False
        refine G.exit rfl <| G.reg <| W.q (mv rfl) rfl <| W.q (mv rfl) rfl <| W.bs (cs := [_]) Try.underlying73 Try.sz22 Try.zrl22 rfl rfl rfl rfl fun b2 => W.ap Try.underlying73 Try.underlying73 Try.sz22 Try.zln22 Try.by22 rfl rfl (fun _ _ => (.tl <| .hd)) (RdS.row .hd) rfl rfl (by simp) (by omega) (by omega) rfl fun a3 c3 => W.q (sa rfl) rfl <| W.nil <| G.inb <| G.reg <| W.q (mv rfl) rfl <| W.q (ad rfl rfl (by omega)) rfl <| W.q (sa rfl) rfl <| W.nil <| (ih3 (i + 1) D (gl ++ [(a1, bs.length + k, c1)]) a3 c3 ⟨by omega, hk3.2.1.snoc hk3.2.2 (by rw [hk.2.2]; exact Nat.mod_eq_of_lt hi) (by simp only; omega), by simp; omega⟩ (by omega)).weak (Sub.co rfl ?_ <| Sub.cons rfl <| Sub.cons rfl <| Sub.nil _) (fun w hm => by have := (Dr.ent (.drop rfl .rfl) w hm); simpa [vwV] using this)
        all_goals clear ih3
        · show Value.slice _ _ _ = _; rw [List.length_append]; rfl
    · -- h4 False
      refine G.exit rfl <| G.seq <| G.seq <| G.reg <| W.q (sa rfl) rfl <| W.nil <| G.blk <| G.loop5 (α := Nat) (β := List Dt) (γ := List Vw) (δ := Option Addr) (ε := Nat) (fun i D gl ag cg => i ≤ ps.length ∧ L2 ps D gl ∧ gl.length = ps.length + i) (fun i D gl ag cg => [(5, .slice ag gl.length cg), (9, i64 i)]) (fun i D gl ag cg => [sl ag gl.length cg 22 1 (gl.map vwV)] ++ D.map dI) (fun i D gl ag cg => ps.length - i) [(0, _)] H 0 D gl ag cg ⟨by omega, hk.2.1, by omega⟩ (Sub.cons rfl <| Sub.cons rfl <| Sub.cons rfl <| Sub.nil _) .rfl (fun i D gl ag cg hk ih5 => ?_)
      refine G.seq <| G.seq <| G.reg <| W.q (mv rfl) rfl <| W.q (mv rfl) rfl <| W.q (ln Try.esl73 rfl) rfl <| W.q (lt rfl rfl) rfl <| W.nil <| G.cdd rfl (fun h6 => ?_) (fun h6 => ?_)
      · -- h6 True
        have hi : i < ps.length := by omega
        obtain ⟨a, cap, bs, hpi, hbs⟩ := hps i hi
        refine G.rdA (a := al) (cells := ps.map pcV) ((hl.upJ (dI_new D)).up rfl) (by simp; omega) (fun lb lo hle => ?_)
        subst hle
        have hz : ∀ (D : List Dt) L, allNew L = true → Cell X.w0 (L ++ (D.map dI ++ H)) ⟨lb, lo + i, none⟩ (.slice a bs.length cap) := fun D L hL => ((hl.upJ (dI_new D)).upJ hL).cellOf (by rw [List.getElem?_map, hpi]; rfl)
        rw [← show (i : Int).toNat * 1 = i by omega] at hz
        refine G.skip <| G.seq <| G.blk <| G.seq <| G.reg <| W.mkB (m := 40) Try.underlying22 Try.sz5 Try.zrl5 Try.by5 rfl rfl (by omega) (by omega) rfl fun b3 => W.q (sa rfl) rfl <| W.nil <| G.seq <| G.seq <| G.reg <| W.q (sa rfl) rfl <| W.nil <| G.blk <| G.loop1 (α := Nat) (fun k => k ≤ 40) (fun k => [(11, i64 k)]) (fun k => [nb b3 (B (many i bs.length k)) 5, sl ag gl.length cg 22 1 (gl.map vwV)] ++ D.map dI) (fun k => 40 - k) [(0, _), (5, _), (9, _), (10, _)] H 0 (by omega) (Sub.cons rfl <| Sub.cons rfl <| Sub.cons rfl <| Sub.cons rfl <| Sub.cons rfl <| Sub.nil _) .rfl (fun k hk4 ih6 => ?_)
        refine G.seq <| G.seq <| G.reg <| W.q (mv rfl) rfl <| W.q (lt rfl rfl) rfl <| W.nil <| G.cdd rfl (fun h7 => ?_) (fun h7 => ?_)
        · -- h7 True
          refine G.skip <| G.seq <| G.blk <| G.reg <| W.q (mv rfl) rfl <| W.q (mv rfl) rfl <| W.q (mv rfl) rfl <| W.q (mv rfl) rfl <| W.q (mv rfl) rfl <| W.q (ia Try.esl73 rfl rfl (by omega) (by omega)) rfl <| W.q (ld Try.sc22 rfl (hz D [_, _] rfl)) rfl <| W.q (ln Try.esl22 rfl) rfl <| W.q (mv rfl) rfl <| W.q (ad rfl rfl (by omega)) rfl <| W.fv Try.ca66 rfl (fun w hm => ref01_mark i (bs.length + k) (by omega) (by omega) w) rfl <| W.q (ia Try.esl22 rfl rfl (by omega) (by omega)) rfl <| W.st (cs' := B (many i bs.length (k + 1))) Try.sz5 rfl rfl rfl rfl rfl .hd (by rw [Bl, many_len _ _ _ (by omega)]; omega) (by rw [show 0 + (k : Int).toNat * 1 = k by omega]; exact (setAt_B _ _ _ (by rw [many_len _ _ _ (by omega)]; omega)).trans (by rw [many_set _ _ _ (by omega)])) <| W.nil <| G.inb <| G.reg <| W.q (mv rfl) rfl <| W.q (ad rfl rfl (by omega)) rfl <| W.q (sa rfl) rfl <| W.nil <| (ih6 (k + 1) (by omega) (by omega)).weak (Sub.cons rfl <| Sub.cons rfl <| Sub.cons rfl <| Sub.cons rfl <| Sub.cons rfl <| Sub.nil _) .rfl
        · -- h7 False
          have hk40 : k = 40 := by omega
          subst hk40
          rw [many_end]
          refine G.exit rfl <| G.reg <| W.q (mv rfl) rfl <| W.q (mv rfl) rfl <| W.q (mv rfl) rfl <| W.q (ia Try.esl73 rfl rfl (by omega) (by omega)) rfl <| W.q (ld Try.sc22 rfl (hz D [_, _] rfl)) rfl <| W.q (mv rfl) rfl <| W.apD (i := i) [_, _] rfl rfl (hk.2.1.1 i _ hpi) (RdS.row .hd) (by simp) (by decide) (by omega) rfl fun D2 a2 c2 hup hnew => W.bs (cs := [_]) Try.underlying73 Try.sz22 Try.zrl22 rfl rfl rfl rfl fun b4 => W.ap Try.underlying73 Try.underlying73 Try.sz22 Try.zln22 Try.by22 rfl rfl (fun _ _ => (.tl <| .tl <| .hd)) (RdS.row .hd) rfl rfl (by simp) (by omega) (by omega) rfl fun a4 c4 => W.q (sa rfl) rfl <| W.nil <| G.inb <| G.reg <| W.q (mv rfl) rfl <| W.q (ad rfl rfl (by omega)) rfl <| W.q (sa rfl) rfl <| W.nil <| (ih5 (i + 1) D2 (gl ++ [(a2, bs.length + 40, c2)]) a4 c4 ⟨by omega, (hk.2.1.up hup).snoc hnew (by rw [hk.2.2, Nat.add_mod_left]; exact Nat.mod_eq_of_lt hi) (by simp only; omega), by simp; omega⟩ (by omega)).weak (Sub.co rfl ?_ <| Sub.cons rfl <| Sub.cons rfl <| Sub.nil _) (fun w hm => by have := (Dr.ent (.drop rfl <| .drop rfl .rfl) w hm); simpa [vwV] using this)
          all_goals clear ih5
          · show Value.slice _ _ _ = _; rw [List.length_append]; rfl
      · -- h6 False
        refine G.exit rfl <| G.seq <| G.seq <| G.reg <| W.q (sa rfl) rfl <| W.nil <| G.blk <| G.loop1 (α := Nat) (fun t => t ≤ gl.length) (fun t => [(12, i64 t)]) (fun t => []) (fun t => gl.length - t) [(0, _), (5, _)] _ 0 (by omega) (Sub.cons rfl <| Sub.cons rfl <| Sub.cons rfl <| Sub.nil _) .rfl (fun t hk5 ih7 => ?_)
        refine G.seq <| G.seq <| G.reg <| W.q (mv rfl) rfl <| W.q (mv rfl) rfl <| W.q (ln Try.esl73 rfl) rfl <| W.q (lt rfl rfl) rfl <| W.nil <| G.cdd rfl (fun h8 => ?_) (fun h8 => ?_)
        · -- h8 True
          have ht : t < gl.length := by omega
          obtain ⟨ga, len, cap, hgt⟩ : ∃ a l c, gl[t]? = some (a, l, c) := ⟨gl[t].1, gl[t].2.1, gl[t].2.2, List.getElem?_eq_getElem ht⟩
          obtain ⟨hgd, hgb⟩ := hk.2.1.2 t _ hgt
          simp only at hgb
          refine G.rdA (a := ag) (cells := gl.map vwV) (Rdf.sl (m := gl.length) (cap := cg) (E := 22) (s := 1) (by simp)) (by simp; omega) (fun gb go hge => ?_)
          subst hge
          have hz : ∀ H', sl (some ⟨gb, go, none⟩) gl.length cg 22 1 (gl.map vwV) ∈ H' → Cell X.w0 H' ⟨gb, go + t, none⟩ (.slice ga len cap) := fun H' hi => (Rdf.sl (w0 := X.w0) hi).cellOf (by rw [List.getElem?_map, hgt]; rfl)
          rw [← show (t : Int).toNat * 1 = t by omega] at hz
          refine G.skip <| G.seq <| G.blk <| G.seq <| G.reg <| W.q (sa rfl) rfl <| W.nil <| G.blk <| G.loop1 (α := Nat) (fun j => j ≤ len) (fun j => [(13, i64 j)]) (fun j => []) (fun j => len - j) [(0, _), (5, _), (12, _)] _ 0 (by omega) (Sub.cons rfl <| Sub.cons rfl <| Sub.cons rfl <| Sub.cons rfl <| Sub.nil _) .rfl (fun j hk6 ih8 => ?_)
          refine G.seq <| G.seq <| G.reg <| W.q (mv rfl) rfl <| W.q (mv rfl) rfl <| W.q (mv rfl) rfl <| W.q (ia Try.esl73 rfl rfl (by omega) (by omega)) rfl <| W.q (ld Try.sc22 rfl (hz _ (by simp))) rfl <| W.q (ln Try.esl22 rfl) rfl <| W.q (lt rfl rfl) rfl <| W.nil <| G.cdd rfl (fun h9 => ?_) (fun h9 => ?_)
          · -- h9 True
            refine G.rdA (a := ga) (cells := B (mks (t % ps.length) len)) (hgd.rdf.up rfl) (by rw [Bl, mks_len]; omega) (fun xb xo hxe => ?_)
            subst hxe
            have hy : ∀ k, k = j → Cell X.w0 (sl (some ⟨gb, go, none⟩) gl.length cg 22 1 (gl.map vwV) :: (D.map dI ++ H)) ⟨xb, xo + k, none⟩ (u8 (mk (t % ps.length) j)) := fun k hk => by rw [hk]; exact (hgd.rdf.up rfl).cellOf (B_get (mks_get (show j < len by omega)))
            refine G.skip <| G.seq <| G.blk <| G.seq <| G.regq Try.mixed (by kernel_rfl) <| W.q (mv rfl) rfl <| W.q (mv rfl) rfl <| W.q (ia Try.esl73 rfl rfl (by omega) (by omega)) rfl <| W.q (ld Try.sc22 rfl (hz _ (by simp))) rfl <| W.q (mv rfl) rfl <| W.q (ia Try.esl22 rfl rfl (by omega) (by omega)) rfl <| W.q (ld Try.sc5 rfl (hy _ (by omega))) rfl <| W.q (mv rfl) rfl <| W.q (mv rfl) rfl <| W.q (ln Try.esl73 rfl) rfl <| W.q (rm rfl rfl (by omega) (by omega)) rfl <| W.q (mv rfl) rfl <| W.fvq Try.ca66 rfl (fun w hm => ref01_mark (t % ps.length) j (by have := Nat.mod_lt t (show 0 < ps.length by omega); omega) (by omega) w) rfl <| W.q (ne rfl rfl) rfl <| W.nilq <| G.cdd rfl (fun h10 => ?_) (fun h10 => ?_)
            · -- h10 True
              exact absurd rfl h10
            · -- h10 False
              refine G.skip <| G.inb <| G.reg <| W.q (mv rfl) rfl <| W.q (ad rfl rfl (by omega)) rfl <| W.q (sa rfl) rfl <| W.nil <| (ih8 (j + 1) (by omega) (by omega)).weak (Sub.cons rfl <| Sub.cons rfl <| Sub.cons rfl <| Sub.cons rfl <| Sub.nil _) .rfl
          · -- h9 False
            refine G.exit rfl <| G.inb <| G.reg <| W.q (mv rfl) rfl <| W.q (ad rfl rfl (by omega)) rfl <| W.q (sa rfl) rfl <| W.nil <| (ih7 (t + 1) (by omega) (by omega)).weak (Sub.cons rfl <| Sub.cons rfl <| Sub.cons rfl <| Sub.nil _) .rfl
        · -- h8 False
          refine G.exit rfl <| G.seq <| G.seq <| G.reg <| W.q (sa rfl) rfl <| W.nil <| G.blk <| G.loop1 (α := Nat) (fun i => i ≤ ps.length) (fun i => [(14, i64 i)]) (fun i => []) (fun i => ps.length - i) [(0, _)] _ 0 (by omega) (Sub.cons rfl <| Sub.cons rfl <| Sub.nil _) .rfl (fun i hk7 ih9 => ?_)
          refine G.seq <| G.seq <| G.reg <| W.q (mv rfl) rfl <| W.q (mv rfl) rfl <| W.q (ln Try.esl73 rfl) rfl <| W.q (lt rfl rfl) rfl <| W.nil <| G.cdd rfl (fun h11 => ?_) (fun h11 => ?_)
          · -- h11 True
            have hi : i < ps.length := by omega
            obtain ⟨a, cap, bs, hpi, hbs⟩ := hps i hi
            refine G.rdA (a := al) (cells := ps.map pcV) ((hl.upJ (dI_new D)).up rfl) (by simp; omega) (fun lb lo hle => ?_)
            subst hle
            have hz : ∀ (D : List Dt) L, allNew L = true → Cell X.w0 (L ++ (D.map dI ++ H)) ⟨lb, lo + i, none⟩ (.slice a bs.length cap) := fun D L hL => ((hl.upJ (dI_new D)).upJ hL).cellOf (by rw [List.getElem?_map, hpi]; rfl)
            rw [← show (i : Int).toNat * 1 = i by omega] at hz
            refine G.skip <| G.seq <| G.blk <| G.seq <| G.reg <| W.q (sa rfl) rfl <| W.nil <| G.blk <| G.loop1 (α := Nat) (fun j => j ≤ bs.length) (fun j => [(15, i64 j)]) (fun j => []) (fun j => bs.length - j) [(0, _), (14, _)] _ 0 (by omega) (Sub.cons rfl <| Sub.cons rfl <| Sub.cons rfl <| Sub.nil _) .rfl (fun j hk8 ih10 => ?_)
            refine G.seq <| G.seq <| G.reg <| W.q (mv rfl) rfl <| W.q (mv rfl) rfl <| W.q (mv rfl) rfl <| W.q (ia Try.esl73 rfl rfl (by omega) (by omega)) rfl <| W.q (ld Try.sc22 rfl (hz D [_] rfl)) rfl <| W.q (ln Try.esl22 rfl) rfl <| W.q (lt rfl rfl) rfl <| W.nil <| G.cdd rfl (fun h12 => ?_) (fun h12 => ?_)
            · -- h12 True
              have hgd : hasD D i (a, bs.length, cap) := hk.2.1.1 i _ hpi
              refine G.rdA (a := a) (cells := B (mks i bs.length)) (hgd.rdf.up rfl) (by rw [Bl, mks_len]; omega) (fun xb xo hxe => ?_)
              subst hxe
              have hy : ∀ k, k = j → ∀ it : It, it.new = true → Cell X.w0 (it :: (D.map dI ++ H)) ⟨xb, xo + k, none⟩ (u8 (mk i j)) := fun k hk it hn => by rw [hk]; exact (hgd.rdf.up hn).cellOf (B_get (mks_get (show j < bs.length by omega)))
              refine G.skip <| G.seq <| G.blk <| G.seq <| G.regq Try.mixed (by kernel_rfl) <| W.q (mv rfl) rfl <| W.q (mv rfl) rfl <| W.q (ia Try.esl73 rfl rfl (by omega) (by omega)) rfl <| W.q (ld Try.sc22 rfl (hz D [_] rfl)) rfl <| W.q (mv rfl) rfl <| W.q (ia Try.esl22 rfl rfl (by omega) (by omega)) rfl <| W.q (ld Try.sc5 rfl (hy _ (by omega) _ rfl)) rfl <| W.q (mv rfl) rfl <| W.q (mv rfl) rfl <| W.fvq Try.ca66 rfl (fun w hm => ref01_mark i j (by omega) (by omega) w) rfl <| W.q (ne rfl rfl) rfl <| W.nilq <| G.cdd rfl (fun h13 => ?_) (fun h13 => ?_)
              · -- h13 True
                exact absurd rfl h13
              · -- h13 False
                refine G.skip <| G.inb <| G.reg <| W.q (mv rfl) rfl <| W.q (ad rfl rfl (by omega)) rfl <| W.q (sa rfl) rfl <| W.nil <| (ih10 (j + 1) (by omega) (by omega)).weak (Sub.cons rfl <| Sub.cons rfl <| Sub.cons rfl <| Sub.nil _) .rfl
            · -- h12 False
              refine G.exit rfl <| G.inb <| G.reg <| W.q (mv rfl) rfl <| W.q (ad rfl rfl (by omega)) rfl <| W.q (sa rfl) rfl <| W.nil <| (ih9 (i + 1) (by omega) (by omega)).weak (Sub.cons rfl <| Sub.cons rfl <| Sub.nil _) .rfl
          · -- h11 False
            refine G.exit rfl <| G.seq <| G.reg <| W.q (sa rfl) rfl <| W.nil <| ret1 hX Try.results31 rfl fun w hm => doneF (Pre' := []) rfl ⟨rfl, rfl⟩ hm (Dr.ent (.drop rfl <| .allS (dI_new D) rfl <| .rfl))
theorem ref01_Apart (w0 : World) (H : List It) (al : Option Addr) (capl : Nat) (ps : List Pc) (hl : Rdf w0 H al (ps.map pcV)) (hb : ∀ p ∈ ps, p.2.2.length ≤ 140737488351232) (hn : ps.length ≤ 1000) :
    RetF Try.prog 31 [.slice al ps.length capl] w0 H (ps.map pcI) (fun v P => v = .bool true ∧ P = []) :=
  ref01_ApartG w0 H al capl ps hl (fun p hp => Nat.le_trans (hb p hp) (by omega)) hn
end Go.Proofs.Ytjalojbihpdghaa
