/- The engine, fourth part: operations that make or write memory; calls; results. -/
import Derived.Test.YtjalojbihpdghaaEngO
namespace Go.Eng
open Go

/-- One item of the list in another's place. -/
def Rep (H : List It) (it it' : It) (H' : List It) : Prop := ∃ H1 H2, H = H1 ++ it :: H2 ∧ H' = H1 ++ it' :: H2
theorem Rep.hd {H : List It} {it it' : It} : Rep (it :: H) it it' (it' :: H) := ⟨[], H, rfl, rfl⟩
theorem Rep.tl {H H' : List It} {x it it' : It} (h : Rep H it it' H') : Rep (x :: H) it it' (x :: H') := by
  obtain ⟨H1, H2, rfl, rfl⟩ := h
  exact ⟨x :: H1, H2, rfl, rfl⟩
theorem Rep.mem {H H' : List It} {it it' : It} (h : Rep H it it' H') : it ∈ H := by obtain ⟨H1, H2, rfl, rfl⟩ := h; simp
theorem Upd.rep {H H' : List It} {b : Nat} {o o' : Obj} (h : Upd H b o o' H') : ∃ f, Rep H (blk f b o) (blk f b o') H' := by
  obtain ⟨H1, H2, f, h1, h2⟩ := h
  exact ⟨f, H1, H2, h1, h2⟩

theorem Mem.rep {w0 w w' : World} {H H' : List It} {it it' : It} (h : Mem w0 w H) (hu : Rep H it it' H') (hos : w'.os = w.os) (htape : w'.tape = w.tape) (hout : w'.output = w.output) (hsize : w.heap.size ≤ w'.heap.size)
    (hnew : it'.new = it.new) (hA : it'.A w') (hin : ∀ b, it'.fp b → b < w'.heap.size) (hfp : ∀ b, it'.fp b → it.fp b ∨ w.heap.size ≤ b) (hkeep : it.new = false → ∀ b, it.fp b → it'.fp b) (hother : ∀ b, b < w.heap.size → ¬ it.fp b → w'.heap[b]? = w.heap[b]?) : Mem w0 w' H' := by
  obtain ⟨H1, H2, rfl, rfl⟩ := hu
  have hd := h.disj
  rw [List.pairwise_append] at hd
  obtain ⟨hd1, hd2, hd3⟩ := hd
  rw [List.pairwise_cons] at hd2
  have hin0 : it ∈ H1 ++ it :: H2 := by simp
  have apart : ∀ x, x ∈ H1 ∨ x ∈ H2 → ∀ b, x.fp b → ¬ it.fp b := by
    rintro x (hx | hx) b hb hf
    · exact hd3 x hx it List.mem_cons_self b hb hf
    · exact hd2.1 x hx b hf hb
  have memc : ∀ x, x ∈ H1 ++ it' :: H2 → x = it' ∨ ((x ∈ H1 ∨ x ∈ H2) ∧ x ∈ H1 ++ it :: H2) := by
    intro x hx
    simp only [List.mem_append, List.mem_cons] at hx ⊢
    rcases hx with hx | rfl | hx
    · exact .inr ⟨.inl hx, .inl hx⟩
    · exact .inl rfl
    · exact .inr ⟨.inr hx, .inr (.inr hx)⟩
  have apart' : ∀ x, (x ∈ H1 ∨ x ∈ H2) → x ∈ H1 ++ it :: H2 → ∀ b, x.fp b → ¬ it'.fp b := by
    intro x hx hm b hb hf
    rcases hfp b hf with hf | hf
    · exact apart x hx b hb hf
    · have := h.inb x hm b hb; omega
  refine ⟨hos.trans h.os, htape.trans h.tape, hout.trans h.output, Nat.le_trans h.size hsize, ?_, ?_, ?_, ?_, ?_⟩
  · intro k hk hno
    have hni : ¬ it.fp k := by
      intro hf
      cases hn : it.new with
      | true => have := h.fresh it hin0 hn k hf; omega
      | false => exact hno it' (by simp) (hkeep hn k hf)
    rw [hother k (by have := h.size; omega) hni]
    refine h.other k hk fun x hx hf => ?_
    simp only [List.mem_append, List.mem_cons] at hx
    rcases hx with hx | rfl | hx
    · exact hno x (by simp [hx]) hf
    · exact hni hf
    · exact hno x (by simp [hx]) hf
  · intro x hx
    rcases memc x hx with rfl | ⟨hm, hx⟩
    · exact hA
    · exact x.stable w w' (fun k hk => hother k (h.inb x hx k hk) (apart x hm k hk)) (h.holds x hx)
  · intro x hx k hk
    rcases memc x hx with rfl | ⟨_, hx⟩
    · exact hin k hk
    · have := h.inb x hx k hk; omega
  · intro x hx hn k hk
    rcases memc x hx with rfl | ⟨_, hx⟩
    · rcases hfp k hk with hf | hf
      · exact h.fresh it hin0 (hnew ▸ hn) k hf
      · have := h.size; omega
    · exact h.fresh x hx hn k hk
  · rw [List.pairwise_append]
    refine ⟨hd1, ?_, ?_⟩
    · rw [List.pairwise_cons]
      refine ⟨fun y hy b hb hyb => apart' y (.inr hy) (by simp [hy]) b hyb hb, hd2.2⟩
    · intro x hx y hy k hxk hyk
      rcases List.mem_cons.1 hy with rfl | hy
      · exact apart' x (.inl hx) (by simp [hx]) k hxk hyk
      · exact hd3 x hx y (List.mem_cons_of_mem _ hy) k hxk hyk

/-! ### Cells in a row -/
/-- From here on these cells are read. -/
def Cells (w0 : World) (H : List It) (b o : Nat) (cs : List Value) : Prop := ∀ i v, cs[i]? = some v → Cell w0 H ⟨b, o + i, none⟩ v
theorem Cells.whole {w0 : World} {H : List It} {b : Nat} {cs : List Value} {T : TypeId} {fr : Nat × Nat} (h : Has H b (.cells cs.toArray T fr)) : Cells w0 H b 0 cs := fun i v hv => by
  rw [Nat.zero_add]; exact Cell.at h hv
theorem Cells.part {w0 : World} {H : List It} {b o : Nat} {cs ds : List Value} {T : TypeId} {fr : Nat × Nat} (h : Has H b (.cells cs.toArray T fr)) (hd : ∀ i v, ds[i]? = some v → cs[o + i]? = some v) : Cells w0 H b o ds := fun i v hv =>
  Cell.at h (hd i v hv)
theorem Cells.old {w0 : World} {H : List It} {b o : Nat} {cs : List Value} (hn : allNew H = true) (h : ∀ i v, cs[i]? = some v → w0.cell? ⟨b, o + i, none⟩ = some v) : Cells w0 H b o cs := fun i v hv => Cell.old hn (h i v hv)
theorem Cells.nil {w0 : World} {H : List It} {b o : Nat} : Cells w0 H b o [] := fun i v hv => by simp at hv

def aggT (P : Program) (T : TypeId) : Bool := match P.underlying T with | some (.struct _) | some (.array ..) => true | _ => false
section
variable {P : Program} {w0 : World} {e : Env} {H : List It} {T : TypeId}
theorem aggT_run (h : aggT P T = true) (w : World) : (isAgg T).run P w = .ok true w := by
  unfold aggT at h
  cases hu : P.underlying T with
  | none => simp [hu] at h
  | some d => simp [hu] at h; cases d <;> simp_all [isAgg, run_underlying hu]
theorem lda {x : Operand} {b o s : Nat} {cs : List Value} {T' : TypeId} (hT : aggT P T' = true) (hs : sz P T' = some s) (hx : ev e x = some (ptr b o)) (hc : Cells w0 H b o cs) (hl : cs.length = s) : OpV P w0 (.load T' x) T e H (.agg cs.toArray) := fun ρ w _ _ _ _ hρ hm => by
  have hr : (loadCells ⟨b, o, none⟩ s).run P w = .ok cs.toArray w := by
    rw [← hl]; exact run_loadCells_list (P := P) (w := w) ⟨b, o, none⟩ cs (fun j v hv => by rw [add_ad]; exact hc j v hv w hm)
  simp [execOp, hρ _ _ hx, Instr.loadAt, Instr.sureAddr, loadVar, aggT_run hT, sz_run hs, hr]

/-! ### Structs and arrays that are built -/
def setAt (cs : List Value) (off : Nat) (vs : List Value) : List Value := cs.take off ++ vs ++ cs.drop (off + vs.length)
def cellsL : Value → List Value
  | .agg cs => cs.toList
  | v => [v]
theorem cellsL_eq (v : Value) : v.cells = (cellsL v).toArray := by cases v <;> simp [Value.cells, cellsL]
def fillL (place : Nat → Option (Nat × Nat)) (cs : List Value) : List (Nat × Value) → Option (List Value)
  | [] => some cs
  | (i, v) :: rest => match place i with
    | none => none
    | some (off, size) => if (cellsL v).length = size ∧ off + (cellsL v).length ≤ cs.length then fillL place (setAt cs off (cellsL v)) rest else none
theorem foldl_set : ∀ (vs : List Value) (k off : Nat) (cs : Array Value), off + k + vs.length ≤ cs.size →
    ((vs.zipIdx k).foldl (fun (cs : Array Value) (p : Value × Nat) => cs.setIfInBounds (off + p.2) p.1) cs).toList = setAt cs.toList (off + k) vs
  | [], k, off, cs, _ => by simp [setAt]
  | v :: vs, k, off, cs, h => by
    simp only [List.zipIdx_cons, List.foldl_cons]
    rw [foldl_set vs (k + 1) off _ (by simp at h ⊢; omega)]
    simp at h
    simp only [setAt, Array.toList_setIfInBounds, List.length_cons]
    apply List.ext_getElem?
    intro j
    simp only [List.append_assoc, List.getElem?_append, List.length_take, List.length_set, Array.length_toList, List.getElem?_take, List.getElem?_set, List.getElem?_drop, List.cons_append, List.getElem?_cons]
    have e1 : min (off + (k + 1)) cs.size = off + k + 1 := by omega
    have e2 : min (off + k) cs.size = off + k := by omega
    rw [e1, e2]
    by_cases hj : j < off + k
    · simp [show j < off + k + 1 by omega, hj, show off + k ≠ j by omega, show j < off + (k + 1) by omega]
    · by_cases hj2 : j = off + k
      · subst hj2
        simp [show off + k < off + (k + 1) by omega, show off + k < cs.size by omega]
      · simp only [show ¬ j < off + k + 1 by omega, hj, show j - (off + k) ≠ 0 by omega, if_false]
        have e3 : j - (off + k + 1) = j - (off + k) - 1 := by omega
        rw [e3]
        split
        · rfl
        · congr 1
          · rw [if_neg (by omega)]; congr 1; omega
theorem fill_eq (place : Nat → Option (Nat × Nat)) : ∀ (parts : List (Nat × Value)) (cs : List Value), Instr.fill place cs.toArray parts = (fillL place cs parts).map List.toArray
  | [], cs => rfl
  | (i, v) :: rest, cs => by
    simp only [Instr.fill, fillL]
    cases place i with
    | none => rfl
    | some p =>
      obtain ⟨off, size⟩ := p
      simp only [cellsL_eq v, List.size_toArray]
      by_cases h : (cellsL v).length = size ∧ off + (cellsL v).length ≤ cs.length
      · rw [if_pos h, if_neg (by simp [h.1]; have := h.2; omega)]
        have hf := foldl_set (cellsL v) 0 off cs.toArray (by simpa using h.2)
        have : Array.foldl (fun cs (x : Value × Nat) => cs.setIfInBounds (off + x.2) x.1) cs.toArray (cellsL v).toArray.zipIdx = (setAt cs off (cellsL v)).toArray := by
          apply Array.ext'
          rw [← Array.foldl_toList]
          simpa using hf
        rw [← fill_eq place rest, ← this]
      · rw [if_neg h]
        by_cases h1 : (cellsL v).length = size
        · have h2 : ¬ off + (cellsL v).length ≤ cs.length := fun h' => h ⟨h1, h'⟩
          rw [if_pos (by simp [h1] at h2 ⊢; omega)]; rfl
        · rw [if_pos (by simp [h1])]; rfl
/-- Of a struct's type: its zero's cells, and where its fields lie. -/
def stp (P : Program) (T : TypeId) : Option (List Value × List (Nat × Nat)) :=
  match P.underlying T, P.info? T with
  | some (.struct fs), some i => match i.zero, fs.toList.mapM (fun f => (P.info? f.type).map fun j => (f.offset, j.size)) with
    | some z, some pl => some (z.cells.toList, pl)
    | _, _ => none
  | _, _ => none
/-- Of an array's type: its zero's cells, its elements' size. -/
def arp (P : Program) (T : TypeId) : Option (List Value × Nat) :=
  match P.underlying T, P.info? T with
  | some (.array _ E), some i => match i.zero, P.info? E with
    | some z, some j => some (z.cells.toList, j.size)
    | _, _ => none
  | _, _ => none
def evp (e : Env) : List (Nat × Operand) → Option (List (Nat × Value))
  | [] => some []
  | (i, x) :: xs => match ev e x with
    | some v => match evp e xs with
      | some vs => some ((i, v) :: vs)
      | none => none
    | none => none
theorem evp_map {ρ : Operand → Value} (hρ : Rho e ρ) : ∀ {ps : List (Nat × Operand)} {vs : List (Nat × Value)}, evp e ps = some vs → ps.map (fun (i, x) => (i, ρ x)) = vs
  | [], vs, hx => by simp [evp] at hx; simp [hx]
  | (i, x) :: xs, vs, hx => by
    simp only [evp] at hx
    cases h1 : ev e x with
    | none => simp [h1] at hx
    | some v =>
      cases h2 : evp e xs with
      | none => simp [h1, h2] at hx
      | some us =>
        simp [h1, h2] at hx
        subst hx
        simp [hρ _ _ h1, evp_map hρ h2]
theorem mapM_sizes (w : World) : ∀ (fs : List Field) (pl : List (Nat × Nat)), fs.mapM (fun f => (P.info? f.type).map fun j => (f.offset, j.size)) = some pl →
    (fs.mapM (m := Sem) fun f => Prod.mk f.offset <$> sizeOf f.type).run P w = .ok pl w
  | [], pl, h => by simp at h; subst h; simp
  | f :: fs, pl, h => by
    simp only [List.mapM_cons] at h
    cases hi : P.info? f.type with
    | none => simp [hi] at h
    | some j =>
      cases hr : fs.mapM (fun f => (P.info? f.type).map fun j => (f.offset, j.size)) with
      | none => simp [hi, hr] at h
      | some ps =>
        simp [hi, hr] at h
        subst h
        simp [List.mapM_cons, sizeOf, typeInfo, hi]
        have := mapM_sizes w fs ps hr
        simp [sizeOf, typeInfo] at this
        simp [this]
theorem bld {T' : TypeId} {ps : List (Nat × Operand)} {vs : List (Nat × Value)} {zs cs : List Value} {pl : List (Nat × Nat)} (hT : stp P T' = some (zs, pl)) (hp : evp e ps = some vs) (hc : fillL (pl[·]?) zs vs = some cs) : OpV P w0 (.build T' ps.toArray) T e H (.agg cs.toArray) := fun ρ w _ _ _ _ hρ hm => by
  unfold stp at hT
  cases hu : P.underlying T' with
  | none => simp [hu] at hT
  | some D =>
    cases D <;> simp [hu] at hT
    rename_i fs
    cases hi : P.info? T' with
    | none => simp [hi] at hT
    | some i =>
      cases hz : i.zero with
      | none => simp [hi, hz] at hT
      | some z =>
        cases hm : fs.toList.mapM (fun f => (P.info? f.type).map fun j => (f.offset, j.size)) with
        | none => simp [hi, hz, hm] at hT
        | some pl' =>
          simp [hi, hz, hm] at hT
          obtain ⟨rfl, rfl⟩ := hT
          have hms := mapM_sizes (P := P) w fs.toList pl' hm
          have hparts := evp_map hρ hp
          have hf := fill_eq (pl'[·]?) vs z.cells.toList
          rw [hc] at hf
          have hma : (fs.mapM (m := Sem) fun f => Prod.mk f.offset <$> sizeOf f.type).run P w = .ok pl'.toArray w := by
            rw [Array.mapM_eq_mapM_toList]; simp [hms]
          have hzv := zr_run (P := P) (T := T') (z := z) (by simp [zr, hi, hz]) w
          simp at hf
          simp [execOp, Instr.build, hzv, run_underlying hu, hma, hparts, hf]
end
end Go.Eng
