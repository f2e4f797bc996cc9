/- The engine, third part: the rule of each operation. -/
import Derived.Test.YtjalojbihpdghaaEngW
namespace Go.Eng
open Go

abbrev i64 (x : Int) : Value := .int .i64 x
abbrev u8 (x : UInt8) : Value := .int .u8 (x.toNat : Int)
abbrev u32 (x : UInt32) : Value := .int .u32 (x.toNat : Int)
abbrev u64 (x : UInt64) : Value := .int .u64 (x.toNat : Int)
abbrev ptr (b o : Nat) : Value := .pointer (some ⟨b, o, none⟩)
abbrev slc (b o len cap : Nat) : Value := .slice (some ⟨b, o, none⟩) len cap
abbrev nilS : Value := .slice none 0 0

/-! ### What the program's tables say of a type -/
def scal (P : Program) (T : TypeId) : Bool := match P.underlying T with | some (.struct _) | some (.array ..) | none => false | _ => true
def sz (P : Program) (T : TypeId) : Option Nat := (P.info? T).map (·.size)
def zr (P : Program) (T : TypeId) : Option Value := (P.info? T).bind (·.zero)
/-- The offset of a field. -/
def fof (P : Program) (S f : Nat) : Option Nat :=
  match P.underlying S with
  | some (.struct fs) => match fs[f]? with
    | some fl => match P.info? fl.type with
      | some i => if i.size = 0 then none else some fl.offset
      | none => none
    | none => none
  | _ => none
/-- Of a slice's type: its elements' size. -/
def esl (P : Program) (T : TypeId) : Option Nat := match P.underlying T with | some (.slice E) => sz P E | _ => none
/-- Of an array's type: its length, its elements' size. -/
def ear (P : Program) (T : TypeId) : Option (Nat × Nat) := match P.underlying T with | some (.array m E) => (sz P E).map (m, ·) | _ => none

section
variable {P : Program} {w0 : World} {e : Env} {H : List It} {T : TypeId}

theorem scal_agg (h : scal P T = true) (w : World) : (isAgg T).run P w = .ok false w := by
  unfold scal at h
  cases hu : P.underlying T with
  | none => simp [hu] at h
  | some d => simp [hu] at h; cases d <;> simp_all [isAgg, run_underlying hu]
theorem sz_run {s : Nat} (h : sz P T = some s) (w : World) : (sizeOf T).run P w = .ok s w := by
  unfold sz at h
  cases hi : P.info? T with
  | none => simp [hi] at h
  | some i => simp [hi] at h; simp [sizeOf, typeInfo, hi, h]
theorem zr_run {z : Value} (h : zr P T = some z) (w : World) : (zeroValue T).run P w = .ok z w := by
  unfold zr at h
  cases hi : P.info? T with
  | none => simp [hi] at h
  | some i => simp [hi] at h; simp [zeroValue, typeInfo, hi, h]
theorem und_run {D : TypeDesc} (h : P.underlying T = some D) (w : World) : (underlying T).run P w = .ok D w := run_underlying h w

theorem add_ad (b o k : Nat) : (⟨b, o, none⟩ : Addr).add k = ⟨b, o + k, none⟩ := by unfold Addr.add; split <;> simp_all

theorem mv {x : Operand} {v : Value} (hx : ev e x = some v) : OpV P w0 (.move x) T e H v := fun ρ w _ _ _ _ hρ _ => by simp [execOp, hρ x v hx]
theorem sa {x : Operand} {v : Value} (hx : ev e x = some v) : OpV P w0 (.assign x) T e H v := fun ρ w _ _ _ _ hρ _ => by simp [execOp, hρ x v hx]
theorem pk {c x y : Operand} {t : Bool} {v u : Value} (hc : ev e c = some (.bool t)) (hx : ev e x = some v) (hy : ev e y = some u) : OpV P w0 (.pick c x y) T e H (bif t then v else u) := fun ρ w _ _ _ _ hρ _ => by
  simp [execOp, hρ _ _ hc, hρ _ _ hx, hρ _ _ hy, asBool]
theorem pkt {c x y : Operand} {t : Bool} {v : Value} (hc : ev e c = some (.bool t)) (ht : t = true) (hx : ev e x = some v) : OpV P w0 (.pick c x y) T e H v := fun ρ w _ _ _ _ hρ _ => by
  simp [execOp, hρ _ _ hc, hρ _ _ hx, asBool, ht]
theorem pkf {c x y : Operand} {t : Bool} {v : Value} (hc : ev e c = some (.bool t)) (ht : t = false) (hy : ev e y = some v) : OpV P w0 (.pick c x y) T e H v := fun ρ w _ _ _ _ hρ _ => by
  simp [execOp, hρ _ _ hc, hρ _ _ hy, asBool, ht]
theorem ex {x : Operand} {i : Nat} {vs : List Value} {v : Value} (hx : ev e x = some (.tuple vs.toArray)) (hv : vs[i]? = some v) : OpV P w0 (.extract x i) T e H v := fun ρ w _ _ _ _ hρ _ => by
  simp [execOp, hρ _ _ hx, Instr.extract, hv]
theorem nt {x : Operand} {t : Bool} {T' : TypeId} (hx : ev e x = some (.bool t)) : OpV P w0 (.unOp .not T' x) T e H (.bool (!t)) := fun ρ w _ _ _ _ hρ _ => by
  simp [execOp, hρ _ _ hx, Op.unary]

/-! integers -/
theorem eqg {op : BinOp} {t : TypeId} {x y : Operand} {k k' : IntKind} {a b : Int} (w : World) : (eqGuard op t x y (.int k a) (.int k' b)).run P w = .ok () w := by
  unfold eqGuard; cases op <;> simp
theorem ar {op : BinOp} {x y : Operand} {k : IntKind} {a b : Int} {T1 T2 : TypeId} {v : Value} (hx : ev e x = some (.int k a)) (hy : ev e y = some (.int k b)) (hop : ∀ w, (binOp op T1 (.int k a) (.int k b)).run P w = .ok v w) : OpV P w0 (.binOp op T1 x y T2) T e H v := fun ρ w _ _ _ _ hρ _ => by
  simp [execOp, hρ _ _ hx, hρ _ _ hy, eqg, hop]
theorem adw {x y : Operand} {k : IntKind} {a b : Int} {T1 T2 : TypeId} (hx : ev e x = some (.int k a)) (hy : ev e y = some (.int k b)) : OpV P w0 (.binOp .add T1 x y T2) T e H (.int k (k.wrap (a + b))) := ar hx hy fun w => by simp [binOp, Op.intArith]
theorem sbw {x y : Operand} {k : IntKind} {a b : Int} {T1 T2 : TypeId} (hx : ev e x = some (.int k a)) (hy : ev e y = some (.int k b)) : OpV P w0 (.binOp .sub T1 x y T2) T e H (.int k (k.wrap (a - b))) := ar hx hy fun w => by simp [binOp, Op.intArith]
theorem mlw {x y : Operand} {k : IntKind} {a b : Int} {T1 T2 : TypeId} (hx : ev e x = some (.int k a)) (hy : ev e y = some (.int k b)) : OpV P w0 (.binOp .mul T1 x y T2) T e H (.int k (k.wrap (a * b))) := ar hx hy fun w => by simp [binOp, Op.intArith]
def R64 (x : Int) : Prop := -9223372036854775808 ≤ x ∧ x < 9223372036854775808
theorem wrap64 {x : Int} (h : R64 x) : IntKind.i64.wrap x = x := IntWalk.i64_in x ⟨h.1, by have := h.2; omega⟩
theorem ad {x y : Operand} {a b : Int} {T1 T2 : TypeId} (hx : ev e x = some (i64 a)) (hy : ev e y = some (i64 b)) (h : -9223372036854775808 ≤ a + b ∧ a + b < 9223372036854775808) : OpV P w0 (.binOp .add T1 x y T2) T e H (i64 (a + b)) := by
  have := adw (P := P) (w0 := w0) (H := H) (T := T) (T1 := T1) (T2 := T2) hx hy; rwa [wrap64 h] at this
theorem sb {x y : Operand} {a b : Int} {T1 T2 : TypeId} (hx : ev e x = some (i64 a)) (hy : ev e y = some (i64 b)) (h : -9223372036854775808 ≤ a - b ∧ a - b < 9223372036854775808) : OpV P w0 (.binOp .sub T1 x y T2) T e H (i64 (a - b)) := by
  have := sbw (P := P) (w0 := w0) (H := H) (T := T) (T1 := T1) (T2 := T2) hx hy; rwa [wrap64 h] at this
theorem ml {x y : Operand} {a b : Int} {T1 T2 : TypeId} (hx : ev e x = some (i64 a)) (hy : ev e y = some (i64 b)) (h : -9223372036854775808 ≤ a * b ∧ a * b < 9223372036854775808) : OpV P w0 (.binOp .mul T1 x y T2) T e H (i64 (a * b)) := by
  have := mlw (P := P) (w0 := w0) (H := H) (T := T) (T1 := T1) (T2 := T2) hx hy; rwa [wrap64 h] at this
theorem qo {x y : Operand} {a b : Int} {T1 T2 : TypeId} (hx : ev e x = some (i64 a)) (hy : ev e y = some (i64 b)) (h0 : 0 ≤ a) (h1 : 0 < b) (h : a < 9223372036854775808) : OpV P w0 (.binOp .quo T1 x y T2) T e H (i64 (a / b)) := ar hx hy fun w => by
  have hr : R64 (a / b) := ⟨by have := Int.ediv_nonneg h0 (Int.le_of_lt h1); omega, by have := Int.ediv_le_self b h0; omega⟩
  simp [binOp, Op.intDiv, show b ≠ 0 by omega, Int.tdiv_eq_ediv_of_nonneg h0, wrap64 hr]
theorem rm {x y : Operand} {a b : Int} {T1 T2 : TypeId} (hx : ev e x = some (i64 a)) (hy : ev e y = some (i64 b)) (h0 : 0 ≤ a) (h1 : 0 < b) : OpV P w0 (.binOp .rem T1 x y T2) T e H (i64 (a % b)) := ar hx hy fun w => by
  simp [binOp, Op.intDiv, show b ≠ 0 by omega, Int.tmod_eq_emod_of_nonneg h0]
theorem lt {x y : Operand} {k : IntKind} {a b : Int} {T1 T2 : TypeId} (hx : ev e x = some (.int k a)) (hy : ev e y = some (.int k b)) : OpV P w0 (.binOp .lss T1 x y T2) T e H (.bool (decide (a < b))) := ar hx hy fun w => by simp [binOp, Op.intCmp]
theorem le {x y : Operand} {k : IntKind} {a b : Int} {T1 T2 : TypeId} (hx : ev e x = some (.int k a)) (hy : ev e y = some (.int k b)) : OpV P w0 (.binOp .leq T1 x y T2) T e H (.bool (decide (a ≤ b))) := ar hx hy fun w => by simp [binOp, Op.intCmp]
theorem gt {x y : Operand} {k : IntKind} {a b : Int} {T1 T2 : TypeId} (hx : ev e x = some (.int k a)) (hy : ev e y = some (.int k b)) : OpV P w0 (.binOp .gtr T1 x y T2) T e H (.bool (decide (b < a))) := ar hx hy fun w => by simp [binOp, Op.intCmp]
theorem ge {x y : Operand} {k : IntKind} {a b : Int} {T1 T2 : TypeId} (hx : ev e x = some (.int k a)) (hy : ev e y = some (.int k b)) : OpV P w0 (.binOp .geq T1 x y T2) T e H (.bool (decide (b ≤ a))) := ar hx hy fun w => by simp [binOp, Op.intCmp]
theorem eq {x y : Operand} {k : IntKind} {a b : Int} {T1 T2 : TypeId} (hx : ev e x = some (.int k a)) (hy : ev e y = some (.int k b)) : OpV P w0 (.binOp .eql T1 x y T2) T e H (.bool (decide (a = b))) := ar hx hy fun w => by
  by_cases h : a = b <;> simp [binOp, Op.intCmp, h]
theorem ne {x y : Operand} {k : IntKind} {a b : Int} {T1 T2 : TypeId} (hx : ev e x = some (.int k a)) (hy : ev e y = some (.int k b)) : OpV P w0 (.binOp .neq T1 x y T2) T e H (.bool (decide (a ≠ b))) := ar hx hy fun w => by
  by_cases h : a = b <;> simp [binOp, Op.intCmp, h]
/-- A conversion between integers: wrapped, and where it fits. -/
theorem cvw {x : Operand} {k k' : IntKind} {a : Int} {T1 T2 : TypeId} {D1 : TypeDesc} (hT1 : P.underlying T1 = some D1) (hT2 : P.underlying T2 = some (.int k')) (hx : ev e x = some (.int k a)) : OpV P w0 (.convert T1 T2 x) T e H (.int k' (k'.wrap a)) := fun ρ w _ _ _ _ hρ _ => by
  simp [execOp, hρ _ _ hx, convert, und_run hT1, und_run hT2, Conv.intToInt]
theorem cv {x : Operand} {k k' : IntKind} {a : Int} {T1 T2 : TypeId} {D1 : TypeDesc} (hT1 : P.underlying T1 = some D1) (hT2 : P.underlying T2 = some (.int k')) (hx : ev e x = some (.int k a)) (h : k'.wrap a = a) : OpV P w0 (.convert T1 T2 x) T e H (.int k' a) := by
  have := cvw (w0 := w0) (H := H) (T := T) hT1 hT2 hx; rwa [h] at this

/-! addresses, loads -/
theorem fa {x : Operand} {S f b o off : Nat} (hS : fof P S f = some off) (hx : ev e x = some (ptr b o)) : OpV P w0 (.fieldAddr S x f) T e H (ptr b (o + off)) := fun ρ w _ _ _ _ hρ _ => by
  unfold fof at hS
  cases hu : P.underlying S with
  | none => simp [hu] at hS
  | some D =>
    cases D <;> simp [hu] at hS
    rename_i fs
    cases hf : fs[f]? with
    | none => simp [hf] at hS
    | some fl =>
      cases hi : P.info? fl.type with
      | none => simp [hf, hi] at hS
      | some i =>
        simp [hf, hi] at hS
        obtain ⟨h1, h2⟩ := hS
        simp [execOp, hρ _ _ hx, Instr.fieldAt, und_run hu, hf, Instr.sureAddr, fieldPlace, sizeOf, typeInfo, hi, h1, ← h2, add_ad]
theorem esl_parts {s : Nat} (h : esl P T = some s) : ∃ E, P.underlying T = some (.slice E) ∧ sz P E = some s := by
  unfold esl at h
  cases hu : P.underlying T with
  | none => simp [hu] at h
  | some D => cases D <;> simp [hu] at h; exact ⟨_, rfl, h⟩
theorem ear_parts {m s : Nat} (h : ear P T = some (m, s)) : ∃ E, P.underlying T = some (.array m E) ∧ sz P E = some s := by
  unfold ear at h
  cases hu : P.underlying T with
  | none => simp [hu] at h
  | some D => cases D <;> simp [hu] at h; obtain ⟨h1, h2⟩ := h; subst h2; exact ⟨_, rfl, h1⟩
theorem ia {x y : Operand} {k : IntKind} {i : Int} {S b o len cap s : Nat} (hS : esl P S = some s) (hx : ev e x = some (slc b o len cap)) (hy : ev e y = some (.int k i)) (h0 : 0 ≤ i) (h1 : i < len) : OpV P w0 (.indexAddr S x y) T e H (ptr b (o + i.toNat * s)) := fun ρ w _ _ _ _ hρ _ => by
  obtain ⟨E, hu, hs⟩ := esl_parts hS
  simp [execOp, hρ _ _ hx, hρ _ _ hy, Instr.indexAt, asIntOf, und_run hu, sz_run hs, h0, h1, add_ad]
theorem iaa {x y : Operand} {k : IntKind} {i : Int} {S b o m s : Nat} (hS : ear P S = some (m, s)) (hx : ev e x = some (ptr b o)) (hy : ev e y = some (.int k i)) (h0 : 0 ≤ i) (h1 : i < m) : OpV P w0 (.indexAddr S x y) T e H (ptr b (o + i.toNat * s)) := fun ρ w _ _ _ _ hρ _ => by
  obtain ⟨E, hu, hs⟩ := ear_parts hS
  simp [execOp, hρ _ _ hx, hρ _ _ hy, Instr.indexAt, asIntOf, und_run hu, sz_run hs, h0, h1, add_ad, Instr.sureAddr]
def Cell (w0 : World) (H : List It) (p : Addr) (v : Value) : Prop := ∀ w, Mem w0 w H → w.cell? p = some v
theorem Cell.at {b o : Nat} {cs : List Value} {T' : TypeId} {fr : Nat × Nat} {v : Value} (h : Has H b (.cells cs.toArray T' fr)) (hc : cs[o]? = some v) : Cell w0 H ⟨b, o, none⟩ v := fun w hm => by
  rw [cell_of_row w b o cs.toArray T' fr (hm.at h)]; simpa using hc
theorem Cell.old {p : Addr} {v : Value} (hn : allNew H = true) (h : w0.cell? p = some v) : Cell w0 H p v := fun _ hm => hm.cellOld hn h
theorem ld {x : Operand} {p : Addr} {v : Value} {T' : TypeId} (hT : scal P T' = true) (hx : ev e x = some (.pointer (some p))) (hc : Cell w0 H p v) : OpV P w0 (.load T' x) T e H v := fun ρ w _ _ _ _ hρ hm => by
  simp [execOp, hρ _ _ hx, Instr.loadAt, Instr.sureAddr, loadVar, scal_agg hT, hc w hm]
theorem ncp {x : Operand} {p : Addr} (hx : ev e x = some (.pointer (some p))) : OpV P w0 (.nilCheck x) T e H (.pointer (some p)) := fun ρ w _ _ _ _ hρ _ => by
  simp [execOp, hρ _ _ hx]
theorem ln {x : Operand} {S s len cap : Nat} {a : Option Addr} (hS : esl P S = some s) (hx : ev e x = some (.slice a len cap)) : OpV P w0 (.call ⟨.builtin .len, #[x], #[S]⟩) T e H (i64 len) := fun ρ w _ _ _ _ hρ _ => by
  obtain ⟨E, hu, hs⟩ := esl_parts hS
  simp [execOp, resolve, invoke, hρ _ _ hx, builtin, Builtin.len_, und_run hu, goInt]
theorem mx {x y : Operand} {S S' : Nat} {k k' : IntKind} {a b : Int} (hx : ev e x = some (.int k a)) (hy : ev e y = some (.int k' b)) : OpV P w0 (.call ⟨.builtin .max, #[x, y], #[S, S']⟩) T e H (.int k (max a b)) := fun ρ w _ _ _ _ hρ _ => by
  simp [execOp, resolve, invoke, hρ _ _ hx, hρ _ _ hy, builtin, run_max_int2]; rw [Int.max_def]; split <;> split <;> first | rfl | omega
theorem mn {x y : Operand} {S S' : Nat} {k k' : IntKind} {a b : Int} (hx : ev e x = some (.int k a)) (hy : ev e y = some (.int k' b)) : OpV P w0 (.call ⟨.builtin .min, #[x, y], #[S, S']⟩) T e H (.int k (min a b)) := fun ρ w _ _ _ _ hρ _ => by
  simp [execOp, resolve, invoke, hρ _ _ hx, hρ _ _ hy, builtin, run_min_int2]; rw [Int.min_def]; split <;> split <;> first | rfl | omega
end
/-- A slice that reads as these cells. -/
def RdL (w : World) (a : Option Addr) (cells : List Value) : Prop := ∀ i v, cells[i]? = some v → ∃ b o, a = some ⟨b, o, none⟩ ∧ w.cell? ⟨b, o + i, none⟩ = some v
theorem Mem.rd {w0 w : World} {H : List It} {a : Option Addr} {cells : List Value} (h : Mem w0 w H) (hn : allNew H = true) (hr : RdL w0 a cells) : RdL w a cells := fun i v hv =>
  let ⟨b, o, h1, h2⟩ := hr i v hv; ⟨b, o, h1, h.cellOld hn h2⟩
theorem RdL.at {w : World} {a : Option Addr} {α : Type} {f : α → Value} {xs : List α} (h : RdL w a (xs.map f)) (k : Nat) (hk : k < xs.length) : ∃ b o, a = some ⟨b, o, none⟩ ∧ w.cell? ⟨b, o + k, none⟩ = some (f xs[k]) :=
  h k _ (by simp [hk])
end Go.Eng
