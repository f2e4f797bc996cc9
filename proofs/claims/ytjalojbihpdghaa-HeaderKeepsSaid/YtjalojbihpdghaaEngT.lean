/- The engine, seventh part: typed integers, slice expressions, copies, new byte rows. -/
import Derived.Test.YtjalojbihpdghaaEngS
import Derived.Lib.MakeNoZero
import Derived.Laws.CopyOwn
namespace Go.Eng
open Go

/-- The cells of a list of bytes. -/
abbrev B (l : List UInt8) : List Value := l.map u8
theorem B_one (l : List UInt8) : (B l).all (·.oneCell') = true := by simp [Value.oneCell']
theorem B_len (l : List UInt8) : (B l).length = l.length * 1 := by simp

section
variable {P : Program} {w0 : World} {e : Env} {H : List It} {T : TypeId}

/-! ### Typed integers -/
def byteOf (n : Int) : UInt8 := UInt8.ofNat (n % 256).toNat
theorem byteOf_toNat (n : Int) : ((byteOf n).toNat : Int) = n % 256 := by
  unfold byteOf; rw [UInt8.toNat_ofNat']; omega
def u64Of (n : Int) : UInt64 := UInt64.ofNat (n % 18446744073709551616).toNat
theorem u64Of_toNat (n : Int) : ((u64Of n).toNat : Int) = n % 18446744073709551616 := by
  unfold u64Of; rw [UInt64.toNat_ofNat']; omega
def u32Of (n : Int) : UInt32 := UInt32.ofNat (n % 4294967296).toNat
theorem u32Of_toNat (n : Int) : ((u32Of n).toNat : Int) = n % 4294967296 := by
  unfold u32Of; rw [UInt32.toNat_ofNat']; omega
theorem wrap_u8 (n : Int) : IntKind.u8.wrap n = ((byteOf n).toNat : Int) := by rw [byteOf_toNat]; rfl
theorem wrap_u32 (n : Int) : IntKind.u32.wrap n = ((u32Of n).toNat : Int) := by rw [u32Of_toNat]; rfl
theorem wrap_u64 (n : Int) : IntKind.u64.wrap n = ((u64Of n).toNat : Int) := by rw [u64Of_toNat]; rfl
theorem byteOf_nat (x : UInt8) : byteOf (x.toNat : Int) = x := by
  apply UInt8.toNat_inj.1; have := byteOf_toNat x.toNat; have := x.toNat_lt; omega
theorem u64Of_nat (x : UInt64) : u64Of (x.toNat : Int) = x := by
  apply UInt64.toNat_inj.1; have := u64Of_toNat x.toNat; have := x.toNat_lt; omega
theorem u32Of_nat (x : UInt32) : u32Of (x.toNat : Int) = x := by
  apply UInt32.toNat_inj.1; have := u32Of_toNat x.toNat; have := x.toNat_lt; omega

theorem add_u8 {x y : Operand} {a b : UInt8} {T1 T2 : TypeId} (hx : ev e x = some (u8 a)) (hy : ev e y = some (u8 b)) : OpV P w0 (.binOp .add T1 x y T2) T e H (u8 (a + b)) := by
  have := adw (P := P) (w0 := w0) (H := H) (T := T) (T1 := T1) (T2 := T2) hx hy
  rwa [wrap_u8, show byteOf ((a.toNat : Int) + b.toNat) = a + b from by apply UInt8.toNat_inj.1; have := byteOf_toNat ((a.toNat : Int) + b.toNat); rw [UInt8.toNat_add]; omega] at this
theorem sub_u8 {x y : Operand} {a b : UInt8} {T1 T2 : TypeId} (hx : ev e x = some (u8 a)) (hy : ev e y = some (u8 b)) : OpV P w0 (.binOp .sub T1 x y T2) T e H (u8 (a - b)) := by
  have := sbw (P := P) (w0 := w0) (H := H) (T := T) (T1 := T1) (T2 := T2) hx hy
  rwa [wrap_u8, show byteOf ((a.toNat : Int) - b.toNat) = a - b from by apply UInt8.toNat_inj.1; have := byteOf_toNat ((a.toNat : Int) - b.toNat); rw [UInt8.toNat_sub]; have := a.toNat_lt; have := b.toNat_lt; omega] at this
theorem add_u32 {x y : Operand} {a b : UInt32} {T1 T2 : TypeId} (hx : ev e x = some (u32 a)) (hy : ev e y = some (u32 b)) : OpV P w0 (.binOp .add T1 x y T2) T e H (u32 (a + b)) := by
  have := adw (P := P) (w0 := w0) (H := H) (T := T) (T1 := T1) (T2 := T2) hx hy
  rwa [wrap_u32, show u32Of ((a.toNat : Int) + b.toNat) = a + b from by apply UInt32.toNat_inj.1; have := u32Of_toNat ((a.toNat : Int) + b.toNat); rw [UInt32.toNat_add]; omega] at this
theorem add_u64 {x y : Operand} {a b : UInt64} {T1 T2 : TypeId} (hx : ev e x = some (u64 a)) (hy : ev e y = some (u64 b)) : OpV P w0 (.binOp .add T1 x y T2) T e H (u64 (a + b)) := by
  have := adw (P := P) (w0 := w0) (H := H) (T := T) (T1 := T1) (T2 := T2) hx hy
  rwa [wrap_u64, show u64Of ((a.toNat : Int) + b.toNat) = a + b from by apply UInt64.toNat_inj.1; have := u64Of_toNat ((a.toNat : Int) + b.toNat); rw [UInt64.toNat_add]; omega] at this
theorem sub_u64 {x y : Operand} {a b : UInt64} {T1 T2 : TypeId} (hx : ev e x = some (u64 a)) (hy : ev e y = some (u64 b)) : OpV P w0 (.binOp .sub T1 x y T2) T e H (u64 (a - b)) := by
  have := sbw (P := P) (w0 := w0) (H := H) (T := T) (T1 := T1) (T2 := T2) hx hy
  rwa [wrap_u64, show u64Of ((a.toNat : Int) - b.toNat) = a - b from by apply UInt64.toNat_inj.1; have := u64Of_toNat ((a.toNat : Int) - b.toNat); rw [UInt64.toNat_sub]; have := a.toNat_lt; have := b.toNat_lt; omega] at this
theorem mul_u64 {x y : Operand} {a b : UInt64} {T1 T2 : TypeId} (hx : ev e x = some (u64 a)) (hy : ev e y = some (u64 b)) : OpV P w0 (.binOp .mul T1 x y T2) T e H (u64 (a * b)) := by
  have := mlw (P := P) (w0 := w0) (H := H) (T := T) (T1 := T1) (T2 := T2) hx hy
  rwa [wrap_u64, show u64Of ((a.toNat : Int) * b.toNat) = a * b from by apply UInt64.toNat_inj.1; have := u64Of_toNat ((a.toNat : Int) * b.toNat); rw [UInt64.toNat_mul]; rw [← Int.natCast_mul] at this ⊢; omega] at this
theorem ofInt_nat (w : Nat) (x : Nat) : (BitVec.ofInt w (x : Int)) = BitVec.ofNat w x := by
  apply BitVec.eq_of_toNat_eq; simp
theorem bits_u8 {f : BitVec 8 → BitVec 8 → BitVec 8} (a b : UInt8) : IntKind.u8.wrap (((f (BitVec.ofInt 8 a.toNat) (BitVec.ofInt 8 b.toNat)).toNat : Nat) : Int) = ((UInt8.ofBitVec (f a.toBitVec b.toBitVec)).toNat : Int) := by
  rw [ofInt_nat, ofInt_nat, wrap_u8, byteOf_toNat]
  have h1 : BitVec.ofNat 8 a.toNat = a.toBitVec := by apply BitVec.eq_of_toNat_eq; simp
  have h2 : BitVec.ofNat 8 b.toNat = b.toBitVec := by apply BitVec.eq_of_toNat_eq; simp
  rw [h1, h2]
  have := (f a.toBitVec b.toBitVec).isLt
  rw [UInt8.toNat_ofBitVec]
  omega
theorem bits_u32 {f : BitVec 32 → BitVec 32 → BitVec 32} (a b : UInt32) : IntKind.u32.wrap (((f (BitVec.ofInt 32 a.toNat) (BitVec.ofInt 32 b.toNat)).toNat : Nat) : Int) = ((UInt32.ofBitVec (f a.toBitVec b.toBitVec)).toNat : Int) := by
  rw [ofInt_nat, ofInt_nat, wrap_u32, u32Of_toNat]
  have h1 : BitVec.ofNat 32 a.toNat = a.toBitVec := by apply BitVec.eq_of_toNat_eq; simp
  have h2 : BitVec.ofNat 32 b.toNat = b.toBitVec := by apply BitVec.eq_of_toNat_eq; simp
  rw [h1, h2]
  have := (f a.toBitVec b.toBitVec).isLt
  rw [UInt32.toNat_ofBitVec]
  omega
theorem bits_u64 {f : BitVec 64 → BitVec 64 → BitVec 64} (a b : UInt64) : IntKind.u64.wrap (((f (BitVec.ofInt 64 a.toNat) (BitVec.ofInt 64 b.toNat)).toNat : Nat) : Int) = ((UInt64.ofBitVec (f a.toBitVec b.toBitVec)).toNat : Int) := by
  rw [ofInt_nat, ofInt_nat, wrap_u64, u64Of_toNat]
  have h1 : BitVec.ofNat 64 a.toNat = a.toBitVec := by apply BitVec.eq_of_toNat_eq; simp
  have h2 : BitVec.ofNat 64 b.toNat = b.toBitVec := by apply BitVec.eq_of_toNat_eq; simp
  rw [h1, h2]
  have := (f a.toBitVec b.toBitVec).isLt
  rw [UInt64.toNat_ofBitVec]
  omega
theorem xor_u8 {x y : Operand} {a b : UInt8} {T1 T2 : TypeId} (hx : ev e x = some (u8 a)) (hy : ev e y = some (u8 b)) : OpV P w0 (.binOp .xor T1 x y T2) T e H (u8 (a ^^^ b)) := ar hx hy fun w => by
  simp only [binOp, ne_eq, not_true_eq_false, if_false, Op.intBits, Sem.run_pure]; exact congrArg (fun z => Result.ok (Value.int .u8 z) w) (bits_u8 (f := (· ^^^ ·)) a b)
theorem or_u8 {x y : Operand} {a b : UInt8} {T1 T2 : TypeId} (hx : ev e x = some (u8 a)) (hy : ev e y = some (u8 b)) : OpV P w0 (.binOp .or T1 x y T2) T e H (u8 (a ||| b)) := ar hx hy fun w => by
  simp only [binOp, ne_eq, not_true_eq_false, if_false, Op.intBits, Sem.run_pure]; exact congrArg (fun z => Result.ok (Value.int .u8 z) w) (bits_u8 (f := (· ||| ·)) a b)
theorem and_u8 {x y : Operand} {a b : UInt8} {T1 T2 : TypeId} (hx : ev e x = some (u8 a)) (hy : ev e y = some (u8 b)) : OpV P w0 (.binOp .and T1 x y T2) T e H (u8 (a &&& b)) := ar hx hy fun w => by
  simp only [binOp, ne_eq, not_true_eq_false, if_false, Op.intBits, Sem.run_pure]; exact congrArg (fun z => Result.ok (Value.int .u8 z) w) (bits_u8 (f := (· &&& ·)) a b)
theorem xor_u32 {x y : Operand} {a b : UInt32} {T1 T2 : TypeId} (hx : ev e x = some (u32 a)) (hy : ev e y = some (u32 b)) : OpV P w0 (.binOp .xor T1 x y T2) T e H (u32 (a ^^^ b)) := ar hx hy fun w => by
  simp only [binOp, ne_eq, not_true_eq_false, if_false, Op.intBits, Sem.run_pure]; exact congrArg (fun z => Result.ok (Value.int .u32 z) w) (bits_u32 (f := (· ^^^ ·)) a b)
theorem or_u32 {x y : Operand} {a b : UInt32} {T1 T2 : TypeId} (hx : ev e x = some (u32 a)) (hy : ev e y = some (u32 b)) : OpV P w0 (.binOp .or T1 x y T2) T e H (u32 (a ||| b)) := ar hx hy fun w => by
  simp only [binOp, ne_eq, not_true_eq_false, if_false, Op.intBits, Sem.run_pure]; exact congrArg (fun z => Result.ok (Value.int .u32 z) w) (bits_u32 (f := (· ||| ·)) a b)
theorem and_u32 {x y : Operand} {a b : UInt32} {T1 T2 : TypeId} (hx : ev e x = some (u32 a)) (hy : ev e y = some (u32 b)) : OpV P w0 (.binOp .and T1 x y T2) T e H (u32 (a &&& b)) := ar hx hy fun w => by
  simp only [binOp, ne_eq, not_true_eq_false, if_false, Op.intBits, Sem.run_pure]; exact congrArg (fun z => Result.ok (Value.int .u32 z) w) (bits_u32 (f := (· &&& ·)) a b)
theorem xor_u64 {x y : Operand} {a b : UInt64} {T1 T2 : TypeId} (hx : ev e x = some (u64 a)) (hy : ev e y = some (u64 b)) : OpV P w0 (.binOp .xor T1 x y T2) T e H (u64 (a ^^^ b)) := ar hx hy fun w => by
  simp only [binOp, ne_eq, not_true_eq_false, if_false, Op.intBits, Sem.run_pure]; exact congrArg (fun z => Result.ok (Value.int .u64 z) w) (bits_u64 (f := (· ^^^ ·)) a b)
theorem or_u64 {x y : Operand} {a b : UInt64} {T1 T2 : TypeId} (hx : ev e x = some (u64 a)) (hy : ev e y = some (u64 b)) : OpV P w0 (.binOp .or T1 x y T2) T e H (u64 (a ||| b)) := ar hx hy fun w => by
  simp only [binOp, ne_eq, not_true_eq_false, if_false, Op.intBits, Sem.run_pure]; exact congrArg (fun z => Result.ok (Value.int .u64 z) w) (bits_u64 (f := (· ||| ·)) a b)
theorem and_u64 {x y : Operand} {a b : UInt64} {T1 T2 : TypeId} (hx : ev e x = some (u64 a)) (hy : ev e y = some (u64 b)) : OpV P w0 (.binOp .and T1 x y T2) T e H (u64 (a &&& b)) := ar hx hy fun w => by
  simp only [binOp, ne_eq, not_true_eq_false, if_false, Op.intBits, Sem.run_pure]; exact congrArg (fun z => Result.ok (Value.int .u64 z) w) (bits_u64 (f := (· &&& ·)) a b)

/-- Shifts by a count of whatever kind. -/
def shlU64 (x : UInt64) (n : Int) : UInt64 := UInt64.ofNat (x.toNat * 2 ^ (min n.toNat 64) % 18446744073709551616)
def shrU64 (x : UInt64) (n : Int) : UInt64 := UInt64.ofNat (x.toNat / 2 ^ (min n.toNat 64))
def shlU32 (x : UInt32) (n : Int) : UInt32 := UInt32.ofNat (x.toNat * 2 ^ (min n.toNat 32) % 4294967296)
def shrU32 (x : UInt32) (n : Int) : UInt32 := UInt32.ofNat (x.toNat / 2 ^ (min n.toNat 32))
def shrU8 (x : UInt8) (n : Int) : UInt8 := UInt8.ofNat (x.toNat / 2 ^ (min n.toNat 8))
def shlU8 (x : UInt8) (n : Int) : UInt8 := UInt8.ofNat (x.toNat * 2 ^ (min n.toNat 8) % 256)
theorem fdiv_nat (a k : Nat) (hk : 0 < k) : Int.fdiv (a : Int) (k : Int) = ((a / k : Nat) : Int) := by
  rw [Int.fdiv_eq_ediv_of_nonneg _ (by omega)]; rfl
theorem sh {op : BinOp} {x y : Operand} {k k' : IntKind} {a b : Int} {T1 T2 : TypeId} {v : Value} (hop : op = .shl ∨ op = .shr) (hx : ev e x = some (.int k a)) (hy : ev e y = some (.int k' b)) (h : ∀ w, (Op.shift op k a k' b).run P w = .ok v w) : OpV P w0 (.binOp op T1 x y T2) T e H v := fun ρ w _ _ _ _ hρ _ => by
  rcases hop with rfl | rfl <;> simp [execOp, hρ _ _ hx, hρ _ _ hy, eqg, binOp, h]
theorem shr_u64 {x y : Operand} {k' : IntKind} {a : UInt64} {b : Int} {T1 T2 : TypeId} (hx : ev e x = some (u64 a)) (hy : ev e y = some (.int k' b)) (h0 : 0 ≤ b) : OpV P w0 (.binOp .shr T1 x y T2) T e H (u64 (shrU64 a b)) := sh (.inr rfl) hx hy fun w => by
  have h1 : ¬ b < 0 := by omega
  have hlt : a.toNat / 2 ^ (min b.toNat 64) < 18446744073709551616 := Nat.lt_of_le_of_lt (Nat.div_le_self _ _) a.toNat_lt
  have e1 := fdiv_nat a.toNat (2 ^ (min b.toNat 64)) (Nat.two_pow_pos _)
  have e2 : ((2 ^ (min b.toNat 64) : Nat) : Int) = 2 ^ (min b.toNat 64) := by simp
  rw [e2] at e1
  simp only [Op.shift, h1, if_false, Sem.run_pure, IntKind.bits, shrU64]
  rw [e1]; congr 2; rw [UInt64.toNat_ofNat_of_lt' hlt]
theorem shl_u64 {x y : Operand} {k' : IntKind} {a : UInt64} {b : Int} {T1 T2 : TypeId} (hx : ev e x = some (u64 a)) (hy : ev e y = some (.int k' b)) (h0 : 0 ≤ b) : OpV P w0 (.binOp .shl T1 x y T2) T e H (u64 (shlU64 a b)) := sh (.inl rfl) hx hy fun w => by
  have h1 : ¬ b < 0 := by omega
  simp only [Op.shift, h1, if_false, Sem.run_pure, IntKind.bits, shlU64]
  congr 2
  rw [UInt64.toNat_ofNat_of_lt' (Nat.mod_lt _ (by decide)), wrap_u64, u64Of_toNat, Int.natCast_emod, Int.natCast_mul]
  simp
theorem shr_u32 {x y : Operand} {k' : IntKind} {a : UInt32} {b : Int} {T1 T2 : TypeId} (hx : ev e x = some (u32 a)) (hy : ev e y = some (.int k' b)) (h0 : 0 ≤ b) : OpV P w0 (.binOp .shr T1 x y T2) T e H (u32 (shrU32 a b)) := sh (.inr rfl) hx hy fun w => by
  have h1 : ¬ b < 0 := by omega
  have hlt : a.toNat / 2 ^ (min b.toNat 32) < 4294967296 := Nat.lt_of_le_of_lt (Nat.div_le_self _ _) a.toNat_lt
  have e1 := fdiv_nat a.toNat (2 ^ (min b.toNat 32)) (Nat.two_pow_pos _)
  have e2 : ((2 ^ (min b.toNat 32) : Nat) : Int) = 2 ^ (min b.toNat 32) := by simp
  rw [e2] at e1
  simp only [Op.shift, h1, if_false, Sem.run_pure, IntKind.bits, shrU32]
  rw [e1]; congr 2; rw [UInt32.toNat_ofNat_of_lt' hlt]
theorem shl_u32 {x y : Operand} {k' : IntKind} {a : UInt32} {b : Int} {T1 T2 : TypeId} (hx : ev e x = some (u32 a)) (hy : ev e y = some (.int k' b)) (h0 : 0 ≤ b) : OpV P w0 (.binOp .shl T1 x y T2) T e H (u32 (shlU32 a b)) := sh (.inl rfl) hx hy fun w => by
  have h1 : ¬ b < 0 := by omega
  simp only [Op.shift, h1, if_false, Sem.run_pure, IntKind.bits, shlU32]
  congr 2
  rw [UInt32.toNat_ofNat_of_lt' (Nat.mod_lt _ (by decide)), wrap_u32, u32Of_toNat, Int.natCast_emod, Int.natCast_mul]
  simp
theorem shr_u8 {x y : Operand} {k' : IntKind} {a : UInt8} {b : Int} {T1 T2 : TypeId} (hx : ev e x = some (u8 a)) (hy : ev e y = some (.int k' b)) (h0 : 0 ≤ b) : OpV P w0 (.binOp .shr T1 x y T2) T e H (u8 (shrU8 a b)) := sh (.inr rfl) hx hy fun w => by
  have h1 : ¬ b < 0 := by omega
  have hlt : a.toNat / 2 ^ (min b.toNat 8) < 256 := Nat.lt_of_le_of_lt (Nat.div_le_self _ _) a.toNat_lt
  have e1 := fdiv_nat a.toNat (2 ^ (min b.toNat 8)) (Nat.two_pow_pos _)
  have e2 : ((2 ^ (min b.toNat 8) : Nat) : Int) = 2 ^ (min b.toNat 8) := by simp
  rw [e2] at e1
  simp only [Op.shift, h1, if_false, Sem.run_pure, IntKind.bits, shrU8]
  rw [e1]; congr 2; rw [UInt8.toNat_ofNat_of_lt' hlt]

/-! conversions -/
section
variable {x : Operand} {T1 T2 : TypeId} {D1 : TypeDesc} {k : IntKind}
theorem cvi (hT1 : P.underlying T1 = some D1) (hT2 : P.underlying T2 = some (.int .i64)) {n : Int} (hx : ev e x = some (.int k n)) (h : -9223372036854775808 ≤ n ∧ n < 9223372036854775808) : OpV P w0 (.convert T1 T2 x) T e H (i64 n) := cv hT1 hT2 hx (wrap64 h)
theorem cv_i64_u8 (hT1 : P.underlying T1 = some D1) (hT2 : P.underlying T2 = some (.int .u8)) {n : Int} (hx : ev e x = some (.int k n)) : OpV P w0 (.convert T1 T2 x) T e H (u8 (byteOf n)) := by
  have := cvw (w0 := w0) (H := H) (T := T) hT1 hT2 hx; rwa [wrap_u8] at this
theorem cv_i64_u32 (hT1 : P.underlying T1 = some D1) (hT2 : P.underlying T2 = some (.int .u32)) {n : Int} (hx : ev e x = some (.int k n)) : OpV P w0 (.convert T1 T2 x) T e H (u32 (u32Of n)) := by
  have := cvw (w0 := w0) (H := H) (T := T) hT1 hT2 hx; rwa [wrap_u32] at this
theorem cv_i64_u64 (hT1 : P.underlying T1 = some D1) (hT2 : P.underlying T2 = some (.int .u64)) {n : Int} (hx : ev e x = some (.int k n)) : OpV P w0 (.convert T1 T2 x) T e H (u64 (u64Of n)) := by
  have := cvw (w0 := w0) (H := H) (T := T) hT1 hT2 hx; rwa [wrap_u64] at this
theorem cv_u8_i64 (hT1 : P.underlying T1 = some D1) (hT2 : P.underlying T2 = some (.int .i64)) {a : UInt8} (hx : ev e x = some (u8 a)) : OpV P w0 (.convert T1 T2 x) T e H (i64 a.toNat) := cvi hT1 hT2 hx (by have := a.toNat_lt; omega)
theorem cv_u32_i64 (hT1 : P.underlying T1 = some D1) (hT2 : P.underlying T2 = some (.int .i64)) {a : UInt32} (hx : ev e x = some (u32 a)) : OpV P w0 (.convert T1 T2 x) T e H (i64 a.toNat) := cvi hT1 hT2 hx (by have := a.toNat_lt; omega)
theorem cv_u8_u64 (hT1 : P.underlying T1 = some D1) (hT2 : P.underlying T2 = some (.int .u64)) {a : UInt8} (hx : ev e x = some (u8 a)) : OpV P w0 (.convert T1 T2 x) T e H (u64 a.toUInt64) := by
  have := cv_i64_u64 (w0 := w0) (H := H) (T := T) hT1 hT2 hx
  rwa [show u64Of (a.toNat : Int) = a.toUInt64 from by apply UInt64.toNat_inj.1; have := u64Of_toNat a.toNat; have := a.toNat_lt; rw [UInt8.toNat_toUInt64]; omega] at this
theorem cv_u8_u32 (hT1 : P.underlying T1 = some D1) (hT2 : P.underlying T2 = some (.int .u32)) {a : UInt8} (hx : ev e x = some (u8 a)) : OpV P w0 (.convert T1 T2 x) T e H (u32 a.toUInt32) := by
  have := cv_i64_u32 (w0 := w0) (H := H) (T := T) hT1 hT2 hx
  rwa [show u32Of (a.toNat : Int) = a.toUInt32 from by apply UInt32.toNat_inj.1; have := u32Of_toNat a.toNat; have := a.toNat_lt; rw [UInt8.toNat_toUInt32]; omega] at this
theorem cv_u32_u64 (hT1 : P.underlying T1 = some D1) (hT2 : P.underlying T2 = some (.int .u64)) {a : UInt32} (hx : ev e x = some (u32 a)) : OpV P w0 (.convert T1 T2 x) T e H (u64 a.toUInt64) := by
  have := cv_i64_u64 (w0 := w0) (H := H) (T := T) hT1 hT2 hx
  rwa [show u64Of (a.toNat : Int) = a.toUInt64 from by apply UInt64.toNat_inj.1; have := u64Of_toNat a.toNat; have := a.toNat_lt; rw [UInt32.toNat_toUInt64]; omega] at this
theorem cv_u64_u8 (hT1 : P.underlying T1 = some D1) (hT2 : P.underlying T2 = some (.int .u8)) {a : UInt64} (hx : ev e x = some (u64 a)) : OpV P w0 (.convert T1 T2 x) T e H (u8 a.toUInt8) := by
  have := cv_i64_u8 (w0 := w0) (H := H) (T := T) hT1 hT2 hx
  rwa [show byteOf (a.toNat : Int) = a.toUInt8 from by apply UInt8.toNat_inj.1; have := byteOf_toNat a.toNat; rw [UInt64.toNat_toUInt8]; omega] at this
theorem cv_u32_u8 (hT1 : P.underlying T1 = some D1) (hT2 : P.underlying T2 = some (.int .u8)) {a : UInt32} (hx : ev e x = some (u32 a)) : OpV P w0 (.convert T1 T2 x) T e H (u8 a.toUInt8) := by
  have := cv_i64_u8 (w0 := w0) (H := H) (T := T) hT1 hT2 hx
  rwa [show byteOf (a.toNat : Int) = a.toUInt8 from by apply UInt8.toNat_inj.1; have := byteOf_toNat a.toNat; rw [UInt32.toNat_toUInt8]; omega] at this
theorem cv_u64_u32 (hT1 : P.underlying T1 = some D1) (hT2 : P.underlying T2 = some (.int .u32)) {a : UInt64} (hx : ev e x = some (u64 a)) : OpV P w0 (.convert T1 T2 x) T e H (u32 a.toUInt32) := by
  have := cv_i64_u32 (w0 := w0) (H := H) (T := T) hT1 hT2 hx
  rwa [show u32Of (a.toNat : Int) = a.toUInt32 from by apply UInt32.toNat_inj.1; have := u32Of_toNat a.toNat; rw [UInt64.toNat_toUInt32]; omega] at this
/-- A named integer type and its own: the same number. -/
theorem cvs (hT1 : P.underlying T1 = some D1) {D2 : TypeDesc} (hT2 : P.underlying T2 = some D2) {n : Int} (hx : ev e x = some (.int k n)) (h2 : D2 = .int k) (h : k.wrap n = n) : OpV P w0 (.convert T1 T2 x) T e H (.int k n) := cv hT1 (h2 ▸ hT2) hx h
end

/-! ### Slice expressions -/
/-- Where a slice's part begins. -/
def slA (a : Option Addr) (l cap s : Nat) : Option Addr := if cap = l then a else a.map (·.add (l * s))
theorem RdL.slA {w : World} {a : Option Addr} {cells : List Value} {l cap s : Nat} (h : RdL w a cells) (hl : cells.length ≤ cap * s) : RdL w (slA a l cap s) (cells.drop (l * s)) := by
  intro i v hv
  rw [List.getElem?_drop] at hv
  obtain ⟨b, o, rfl, hc⟩ := h _ _ hv
  have hi := (List.getElem?_eq_some_iff.1 hv).1
  unfold Eng.slA
  by_cases hcl : cap = l
  · subst hcl; omega
  · rw [if_neg hcl]
    exact ⟨b, o + l * s, by simp [add_ad], by rw [Nat.add_assoc]; exact hc⟩
theorem RdL.take {w : World} {a : Option Addr} {cells : List Value} (h : RdL w a cells) (k : Nat) : RdL w a (cells.take k) := fun i v hv => h i v (by rw [List.getElem?_take] at hv; split at hv; exact hv; cases hv)
theorem slA_none {a : Option Addr} {l cap s : Nat} : slA a l cap s = none ↔ a = none := by unfold slA; split <;> simp
theorem slA_zero {a : Option Addr} {cap s : Nat} : slA a 0 cap s = a := by
  unfold slA; split
  · rfl
  · cases a <;> simp [Addr.add]
theorem slA_some {b o l cap s : Nat} (h : l < cap) : slA (some ⟨b, o, none⟩) l cap s = some ⟨b, o + l * s, none⟩ := by
  unfold slA; rw [if_neg (by omega)]; simp [add_ad]

theorem bound_run {k : IntKind} {i : Int} {y : Nat} {code : BoundsCode} (h0 : 0 ≤ i) (h1 : i ≤ y) (w : World) : (Instr.sliceBound (.int k i) y code).run P w = .ok i.toNat w := run_sliceBound (P := P) (w := w) k i y code h0 h1
section
variable {x y z u : Operand} {S len cap s : Nat} {a : Option Addr} {k k' k'' : IntKind} {lo hi mx : Int}
theorem slA_eq (l : Nat) : (if cap = l then a else a.map (·.add (l * s))) = slA a l cap s := rfl
/-- x[lo:hi] -/
theorem slh (hS : esl P S = some s) (hx : ev e x = some (.slice a len cap)) (hy : ev e y = some (.int k lo)) (hz : ev e z = some (.int k' hi)) (h0 : 0 ≤ lo) (h1 : lo ≤ hi) (h2 : hi ≤ cap) : OpV P w0 (.slice S x (some y) (some z) none) T e H (.slice (slA a lo.toNat cap s) (hi.toNat - lo.toNat) (cap - lo.toNat)) := fun ρ w _ _ _ _ hρ _ => by
  obtain ⟨E, hu, hs⟩ := esl_parts hS
  have e1 : (hi.toNat : Int) = hi := Int.toNat_of_nonneg (by omega)
  simp [execOp, hρ _ _ hx, hρ _ _ hy, hρ _ _ hz, Instr.sliceAt, und_run hu, Instr.slice, Instr.sliceBounds, bound_run (P := P) (show 0 ≤ hi by omega) h2, bound_run (P := P) (y := hi.toNat) h0 (by omega), sz_run hs, slA]
/-- x[lo:] -/
theorem slo (hS : esl P S = some s) (hx : ev e x = some (.slice a len cap)) (hy : ev e y = some (.int k lo)) (h0 : 0 ≤ lo) (h1 : lo ≤ len) : OpV P w0 (.slice S x (some y) none none) T e H (.slice (slA a lo.toNat cap s) (len - lo.toNat) (cap - lo.toNat)) := fun ρ w _ _ _ _ hρ _ => by
  obtain ⟨E, hu, hs⟩ := esl_parts hS
  simp [execOp, hρ _ _ hx, hρ _ _ hy, Instr.sliceAt, und_run hu, Instr.slice, Instr.sliceBounds, bound_run (P := P) (y := len) h0 h1, sz_run hs, slA]
/-- x[:hi] -/
theorem shi (hS : esl P S = some s) (hx : ev e x = some (.slice a len cap)) (hz : ev e z = some (.int k' hi)) (h0 : 0 ≤ hi) (h2 : hi ≤ cap) : OpV P w0 (.slice S x none (some z) none) T e H (.slice a hi.toNat cap) := fun ρ w _ _ _ _ hρ _ => by
  obtain ⟨E, hu, hs⟩ := esl_parts hS
  have h3 := slA_zero (a := a) (cap := cap) (s := s)
  unfold slA at h3
  simp [execOp, hρ _ _ hx, hρ _ _ hz, Instr.sliceAt, und_run hu, Instr.slice, Instr.sliceBounds, bound_run (P := P) h0 h2, sz_run hs] at h3 ⊢
  exact h3
/-- x[:hi:mx] -/
theorem shm (hS : esl P S = some s) (hx : ev e x = some (.slice a len cap)) (hz : ev e z = some (.int k' hi)) (hu : ev e u = some (.int k'' mx)) (h0 : 0 ≤ hi) (h1 : hi ≤ mx) (h2 : mx ≤ cap) : OpV P w0 (.slice S x none (some z) (some u)) T e H (.slice a hi.toNat mx.toNat) := fun ρ w _ _ _ _ hρ _ => by
  obtain ⟨E, hu', hs⟩ := esl_parts hS
  have e1 : (mx.toNat : Int) = mx := Int.toNat_of_nonneg (by omega)
  have h3 := slA_zero (a := a) (cap := mx.toNat) (s := s)
  unfold slA at h3
  simp [execOp, hρ _ _ hx, hρ _ _ hz, hρ _ _ hu, Instr.sliceAt, und_run hu', Instr.slice, Instr.sliceBounds, bound_run (P := P) (show 0 ≤ mx by omega) h2, bound_run (P := P) (y := mx.toNat) h0 (by omega), sz_run hs] at h3 ⊢
  exact h3
/-- x[lo:hi:mx] -/
theorem slm (hS : esl P S = some s) (hx : ev e x = some (.slice a len cap)) (hy : ev e y = some (.int k lo)) (hz : ev e z = some (.int k' hi)) (hu : ev e u = some (.int k'' mx)) (h0 : 0 ≤ lo) (h1 : lo ≤ hi) (h2 : hi ≤ mx) (h3 : mx ≤ cap) : OpV P w0 (.slice S x (some y) (some z) (some u)) T e H (.slice (slA a lo.toNat mx.toNat s) (hi.toNat - lo.toNat) (mx.toNat - lo.toNat)) := fun ρ w _ _ _ _ hρ _ => by
  obtain ⟨E, hu', hs⟩ := esl_parts hS
  have e1 : (mx.toNat : Int) = mx := Int.toNat_of_nonneg (by omega)
  have e2 : (hi.toNat : Int) = hi := Int.toNat_of_nonneg (by omega)
  simp [execOp, hρ _ _ hx, hρ _ _ hy, hρ _ _ hz, hρ _ _ hu, Instr.sliceAt, und_run hu', Instr.slice, Instr.sliceBounds, bound_run (P := P) (show 0 ≤ mx by omega) h3, bound_run (P := P) (y := mx.toNat) (show 0 ≤ hi by omega) (by omega), bound_run (P := P) (y := hi.toNat) h0 (by omega), sz_run hs, slA]
/-- An array behind a pointer: p[lo:hi] and its kin. -/
theorem salh {m b o : Nat} (hS : ear P S = some (m, s)) (hx : ev e x = some (ptr b o)) (hy : ev e y = some (.int k lo)) (hz : ev e z = some (.int k' hi)) (h0 : 0 ≤ lo) (h1 : lo ≤ hi) (h2 : hi ≤ m) : OpV P w0 (.slice S x (some y) (some z) none) T e H (.slice (slA (some ⟨b, o, none⟩) lo.toNat m s) (hi.toNat - lo.toNat) (m - lo.toNat)) := fun ρ w _ _ _ _ hρ _ => by
  obtain ⟨E, hu, hs⟩ := ear_parts hS
  have e1 : (hi.toNat : Int) = hi := Int.toNat_of_nonneg (by omega)
  simp [execOp, hρ _ _ hx, hρ _ _ hy, hρ _ _ hz, Instr.sliceAt, und_run hu, Instr.sureAddr, Instr.sliceBounds, bound_run (P := P) (show 0 ≤ hi by omega) h2, bound_run (P := P) (y := hi.toNat) h0 (by omega), sz_run hs, slA]
  split <;> rfl
theorem salo {m b o : Nat} (hS : ear P S = some (m, s)) (hx : ev e x = some (ptr b o)) (hy : ev e y = some (.int k lo)) (h0 : 0 ≤ lo) (h1 : lo ≤ m) : OpV P w0 (.slice S x (some y) none none) T e H (.slice (slA (some ⟨b, o, none⟩) lo.toNat m s) (m - lo.toNat) (m - lo.toNat)) := fun ρ w _ _ _ _ hρ _ => by
  obtain ⟨E, hu, hs⟩ := ear_parts hS
  simp [execOp, hρ _ _ hx, hρ _ _ hy, Instr.sliceAt, und_run hu, Instr.sureAddr, Instr.sliceBounds, bound_run (P := P) (y := m) h0 h1, sz_run hs, slA]
  split <;> rfl
theorem sahi {m b o : Nat} (hS : ear P S = some (m, s)) (hx : ev e x = some (ptr b o)) (hz : ev e z = some (.int k' hi)) (h0 : 0 ≤ hi) (h2 : hi ≤ m) : OpV P w0 (.slice S x none (some z) none) T e H (slc b o hi.toNat m) := fun ρ w _ _ _ _ hρ _ => by
  obtain ⟨E, hu, hs⟩ := ear_parts hS
  simp [execOp, hρ _ _ hx, hρ _ _ hz, Instr.sliceAt, und_run hu, Instr.sureAddr, Instr.sliceBounds, bound_run (P := P) h0 h2, sz_run hs, Addr.add]
theorem sahm {m b o : Nat} (hS : ear P S = some (m, s)) (hx : ev e x = some (ptr b o)) (hz : ev e z = some (.int k' hi)) (hu : ev e u = some (.int k'' mx)) (h0 : 0 ≤ hi) (h1 : hi ≤ mx) (h2 : mx ≤ m) : OpV P w0 (.slice S x none (some z) (some u)) T e H (slc b o hi.toNat mx.toNat) := fun ρ w _ _ _ _ hρ _ => by
  obtain ⟨E, hu', hs⟩ := ear_parts hS
  have e1 : (mx.toNat : Int) = mx := Int.toNat_of_nonneg (by omega)
  simp [execOp, hρ _ _ hx, hρ _ _ hz, hρ _ _ hu, Instr.sliceAt, und_run hu', Instr.sureAddr, Instr.sliceBounds, bound_run (P := P) (show 0 ≤ mx by omega) h2, bound_run (P := P) (y := mx.toNat) h0 (by omega), sz_run hs, Addr.add]
theorem saa {m b o : Nat} (hS : ear P S = some (m, s)) (hx : ev e x = some (ptr b o)) : OpV P w0 (.slice S x none none none) T e H (slc b o m m) := fun ρ w _ _ _ _ hρ _ => by
  obtain ⟨E, hu, hs⟩ := ear_parts hS
  simp [execOp, hρ _ _ hx, Instr.sliceAt, und_run hu, Instr.sureAddr, Instr.sliceBounds, sz_run hs, Addr.add]
/-- A slice as a pointer to an array. -/
theorem stp_ {m : Nat} (hS : ear P S = some (m, s)) (hx : ev e x = some (.slice a len cap)) (h : m ≤ len) : OpV P w0 (.sliceToArrayPointer S x) T e H (.pointer a) := fun ρ w _ _ _ _ hρ _ => by
  obtain ⟨E, hu, hs⟩ := ear_parts hS
  simp [execOp, hρ _ _ hx, Instr.arrayAt, und_run hu, show ¬ len < m by omega]
end
end

section
variable {P : Program} {n : Nat} {X : Cx} {todo : List Item} {e : Env} {H : List It} {ops : Array Oper} {l : List Oper} {d : Nat} {T : TypeId} {p : String} {af : Array Edge} {v : Value} {K : Kt} {w0 : World}
/-- copy into a block of the list. -/
theorem W.cp {S S' E E' s b o dl dc k c : Nat} {x y : Operand} {a2 : Option Addr} {cs news : List Value} {H' : List It} {cs' : List Value} (hS : P.underlying S = some (.slice E)) (hs : sz P E = some s) (hx : ev e x = some (slc b o dl dc)) (hy : ev e y = some (.slice a2 k c))
    (hsrc : RdS X.w0 H a2 news) (hl : news.length = min k dl * s) (h1 : news.all (·.oneCell') = true) (hnil : a2 = none → k = 0)
    (hu : Upd H b (.cells cs.toArray E' (0, 0)) (.cells cs'.toArray E' (0, 0)) H') (ho : o + news.length ≤ cs.length) (hc : setAt cs o news = cs') (hd : Nat.blt d n = true)
    (hk : W (.sq K) P n X ops todo l ((d, i64 (min k dl : Nat)) :: e) H') : W (.sq K) P n X ops todo (⟨some d, .call ⟨.builtin .copy, #[x, y], #[S, S']⟩, T, p, af, none⟩ :: l) e H := by
  refine W.eff rfl fun a w hf hm => ?_
  have hb : w.heap[b]? = some (.cells cs.toArray E' (0, 0)) := by
    obtain ⟨f, hr⟩ := hu.rep
    exact hm.holds _ hr.mem
  have hst := run_storeCells_at P b o E' news 0 cs.toArray w hb (by simpa using ho) (by simpa using h1)
  have hcs : (cs.toArray.toList.take (o + 0) ++ news ++ cs.toArray.toList.drop (o + 0 + news.length)).toArray = cs'.toArray := by rw [← hc]; simp [setAt]
  rw [hcs] at hst
  have hfc : (Builtin.firstCells s (min k dl) (.slice a2 k c)).run P w = .ok news.toArray w := by
    cases a2 with
    | none =>
      have hk0 := hnil rfl
      subst hk0
      have : news = [] := List.eq_nil_of_length_eq_zero (by simpa using hl)
      subst this
      exact run_firstCells_none w s _ 0 c
    | some q =>
      refine run_firstCells_some w s (min k dl) q k c news hl (fun j u hu => ?_)
      obtain ⟨b', o', hq, hc'⟩ := hsrc w hm j u hu
      cases hq
      rw [add_ad]; exact hc'
  refine ⟨w.setRow b cs'.toArray, .value (i64 (min k dl : Nat)), ?_, .inl ⟨_, rfl, hk _ _ (hf.put _ hd) ?_⟩⟩
  · have hmin : Nat.min k dl = min k dl := rfl
    simp [execOp, resolve, invoke, builtin, hf.eval hx, hf.eval hy, Builtin.copy_, run_underlying hS, Builtin.lenOf, sz_run hs, hmin, hfc, hst, goInt]
  · exact hm.upd hu rfl rfl rfl (by simp) (setRow_heap w b _ _ E' (0, 0) hb) (fun k hk => setRow_other w b k _ hk)

/-- The library's own new row of bytes. -/
theorem W.mnz {f : FuncId} {x : Operand} {ats : Array TypeId} {S E m : Nat} {ps : Array TypeId} (hcall : ∀ (w : World) (v : Value), (callFunc f #[v]).run P w = ((Extern.BytealgMakeNoZero.makeNoZero ps #[S] #[v]).run P w).andThen fun a w' => .ok (.value a) w') (hS : P.underlying S = some (.slice E)) (hx : ev e x = some (i64 m)) (hm : m ≤ 140737488355328) (hd : Nat.blt d n = true)
    (hk : ∀ b cs, m ≤ cs.length → cs.length ≤ maxLen → W (.sq K) P n X ops todo l ((d, slc b 0 m cs.length) :: e) (nb b cs E :: H)) : W (.sq K) P n X ops todo (⟨some d, .call ⟨.value (.func f), #[x], ats⟩, T, p, af, none⟩ :: l) e H := by
  refine W.eff rfl fun a w hf hm' => ?_
  obtain ⟨cs, h1, h2, h3⟩ := Lib.run_makeNoZero (P := P) w ps S E hS m (by omega)
  have hx' := hf.eval hx
  refine ⟨w.drew.drew.alloc (.cells cs E), .value (slc w.heap.size 0 m cs.size), ?_, .inl ⟨_, rfl, ?_⟩⟩
  · rw [execOp_call_go]
    have e1 : (#[] ++ (#[x] : Array Operand).map a.eval ++ #[]) = #[i64 m] := by simp [hx']
    rw [e1, hcall, h1]
    rfl
  · have hh := hk w.heap.size cs.toList (by simpa using h2) (by simpa using h3 (by simp [maxLen]; omega)) _ (w.drew.drew.alloc (.cells cs E)) (hf.put _ hd) (by have := hm'.drew.drew.alloc (.cells cs E); simpa using this)
    simpa using hh
end
end Go.Eng
