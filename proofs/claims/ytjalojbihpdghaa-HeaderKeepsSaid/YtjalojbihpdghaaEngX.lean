/- The engine: further operations: arrays built and indexed, complements, products of 32 bits, bytes of strings. -/
import Derived.Test.YtjalojbihpdghaaEngU
import Derived.Lib.ConvBytes
namespace Go.Eng
open Go

section
variable {P : Program} {w0 : World} {e : Env} {H : List It} {T : TypeId}
theorem cpl_u32 {x : Operand} {a : UInt32} {T' : TypeId} (hx : ev e x = some (u32 a)) : OpV P w0 (.unOp .xor T' x) T e H (u32 (~~~a)) := fun ρ w _ _ _ _ hρ _ => by
  have h1 : IntKind.u32.max = (((0xFFFFFFFF : UInt32).toNat : Nat) : Int) := by decide
  have h2 : (0xFFFFFFFF : UInt32) ^^^ a = ~~~a := by
    apply UInt32.toBitVec_inj.1
    rw [UInt32.toBitVec_xor, UInt32.toBitVec_not]
    have : (0xFFFFFFFF : UInt32).toBitVec = BitVec.allOnes 32 := by decide
    rw [this, BitVec.allOnes_xor]
  have h3 := bits_u32 (f := (· ^^^ ·)) 0xFFFFFFFF a
  have h4 : UInt32.ofBitVec ((0xFFFFFFFF : UInt32).toBitVec ^^^ a.toBitVec) = ~~~a := by rw [← h2]; rfl
  simp only [h4] at h3
  have h6 : (Op.unary .xor (.int .u32 (a.toNat : Int))).run P w = .ok (u32 (~~~a)) w := by
    show Result.ok (Value.int .u32 (IntKind.u32.wrap ((BitVec.ofInt 32 IntKind.u32.max ^^^ BitVec.ofInt 32 (a.toNat : Int)).toNat : Nat))) w = _
    rw [h1, h3]
  simp [execOp, hρ _ _ hx, h6]
theorem mul_u32 {x y : Operand} {a b : UInt32} {T1 T2 : TypeId} (hx : ev e x = some (u32 a)) (hy : ev e y = some (u32 b)) : OpV P w0 (.binOp .mul T1 x y T2) T e H (u32 (a * b)) := by
  have := mlw (P := P) (w0 := w0) (H := H) (T := T) (T1 := T1) (T2 := T2) hx hy
  rwa [wrap_u32, show u32Of ((a.toNat : Int) * b.toNat) = a * b from by apply UInt32.toNat_inj.1; have := u32Of_toNat ((a.toNat : Int) * b.toNat); rw [UInt32.toNat_mul]; rw [← Int.natCast_mul] at this ⊢; omega] at this
theorem sub_u32 {x y : Operand} {a b : UInt32} {T1 T2 : TypeId} (hx : ev e x = some (u32 a)) (hy : ev e y = some (u32 b)) : OpV P w0 (.binOp .sub T1 x y T2) T e H (u32 (a - b)) := by
  have := sbw (P := P) (w0 := w0) (H := H) (T := T) (T1 := T1) (T2 := T2) hx hy
  rwa [wrap_u32, show u32Of ((a.toNat : Int) - b.toNat) = a - b from by apply UInt32.toNat_inj.1; have := u32Of_toNat ((a.toNat : Int) - b.toNat); rw [UInt32.toNat_sub]; have := a.toNat_lt; have := b.toNat_lt; omega] at this
theorem mul_u8 {x y : Operand} {a b : UInt8} {T1 T2 : TypeId} (hx : ev e x = some (u8 a)) (hy : ev e y = some (u8 b)) : OpV P w0 (.binOp .mul T1 x y T2) T e H (u8 (a * b)) := by
  have := mlw (P := P) (w0 := w0) (H := H) (T := T) (T1 := T1) (T2 := T2) hx hy
  rwa [wrap_u8, show byteOf ((a.toNat : Int) * b.toNat) = a * b from by apply UInt8.toNat_inj.1; have := byteOf_toNat ((a.toNat : Int) * b.toNat); rw [UInt8.toNat_mul]; rw [← Int.natCast_mul] at this ⊢; omega] at this
/-- Unsigned division and remainder. -/
theorem quo_u64 {x y : Operand} {a b : UInt64} {T1 T2 : TypeId} (hx : ev e x = some (u64 a)) (hy : ev e y = some (u64 b)) (h : b.toNat ≠ 0) : OpV P w0 (.binOp .quo T1 x y T2) T e H (u64 (a / b)) := ar hx hy fun w => by
  have h0 : ((b.toNat : Nat) : Int) ≠ 0 := by omega
  have e1 : ((a.toNat : Int).tdiv (b.toNat : Int)) = ((a.toNat / b.toNat : Nat) : Int) := by rw [Int.tdiv_eq_ediv_of_nonneg (by omega)]; rfl
  have hlt : a.toNat / b.toNat < 18446744073709551616 := Nat.lt_of_le_of_lt (Nat.div_le_self _ _) a.toNat_lt
  simp only [binOp, Op.intDiv]
  simp only [h0, if_false, ne_eq, not_true_eq_false, e1, Sem.run_pure]
  rw [wrap_u64, u64Of_toNat]
  show _ = Result.ok (Value.int .u64 (((a / b).toNat : Nat) : Int)) w
  rw [UInt64.toNat_div]
  clear e1
  generalize a.toNat / b.toNat = q at *
  congr 2; omega
theorem rem_u64 {x y : Operand} {a b : UInt64} {T1 T2 : TypeId} (hx : ev e x = some (u64 a)) (hy : ev e y = some (u64 b)) (h : b.toNat ≠ 0) : OpV P w0 (.binOp .rem T1 x y T2) T e H (u64 (a % b)) := ar hx hy fun w => by
  have h0 : ((b.toNat : Nat) : Int) ≠ 0 := by omega
  have e1 : ((a.toNat : Int).tmod (b.toNat : Int)) = ((a.toNat % b.toNat : Nat) : Int) := by rw [Int.tmod_eq_emod_of_nonneg (by omega)]; rfl
  simp only [binOp, Op.intDiv]
  simp only [h0, if_false, ne_eq, not_true_eq_false, e1, Sem.run_pure]
  show _ = Result.ok (Value.int .u64 (((a % b).toNat : Nat) : Int)) w
  rw [UInt64.toNat_mod]
/-- An element of an array that is a value. -/
theorem ixs {x y : Operand} {k : IntKind} {i : Int} {S E m : Nat} {cs : List Value} {v : Value} (hU : P.underlying S = some (.array m E)) (hs : sz P E = some 1) (hsc : scal P E = true) (hx : ev e x = some (.agg cs.toArray)) (hy : ev e y = some (.int k i)) (h0 : 0 ≤ i) (h1 : i < m) (hc : cs[i.toNat]? = some v) : OpV P w0 (.index S x y) T e H v := fun ρ w _ _ _ _ hρ _ => by
  simp [execOp, hρ _ _ hx, hρ _ _ hy, Instr.index, asIntOf, und_run hU, h0, h1, sz_run hs, part, scal_agg hsc, hc]
theorem ixstr {x y : Operand} {k : IntKind} {i : Int} {S : Nat} {s : ByteArray} {b : UInt8} (hU : P.underlying S = some .string) (hx : ev e x = some (.string s)) (hy : ev e y = some (.int k i)) (h0 : 0 ≤ i) (hc : s[i.toNat]? = some b) : OpV P w0 (.index S x y) T e H (u8 b) := fun ρ w _ _ _ _ hρ _ => by
  simp [execOp, hρ _ _ hx, hρ _ _ hy, Instr.index, asIntOf, und_run hU, h0, hc]
theorem arp_parts {T' : TypeId} {zs : List Value} {s : Nat} (h : arp P T' = some (zs, s)) : ∃ m E z, P.underlying T' = some (.array m E) ∧ sz P E = some s ∧ zr P T' = some z ∧ z.cells.toList = zs := by
  unfold arp at h
  cases hu : P.underlying T' with
  | none => simp [hu] at h
  | some D =>
    cases D <;> simp [hu] at h
    rename_i m E
    cases hi : P.info? T' with
    | none => simp [hi] at h
    | some i =>
      cases hz : i.zero with
      | none => simp [hi, hz] at h
      | some z =>
        cases hj : P.info? E with
        | none => simp [hi, hz, hj] at h
        | some j =>
          simp [hi, hz, hj] at h
          exact ⟨m, E, z, rfl, by simp [sz, hj, h.2], by simp [zr, hi, hz], h.1⟩
/-- An array that is built. -/
theorem blda {T' : TypeId} {ps : List (Nat × Operand)} {vs : List (Nat × Value)} {zs cs : List Value} {s : Nat} (hT : arp P T' = some (zs, s)) (hp : evp e ps = some vs) (hc : fillL (fun i => some (i * s, s)) zs vs = some cs) : OpV P w0 (.build T' ps.toArray) T e H (.agg cs.toArray) := fun ρ w _ _ _ _ hρ hm => by
  obtain ⟨m, E, z, hu, hs, hz, rfl⟩ := arp_parts hT
  have hparts := evp_map hρ hp
  have hf := fill_eq (fun i => some (i * s, s)) vs z.cells.toList
  rw [hc] at hf
  simp at hf
  simp [execOp, Instr.build, zr_run hz, run_underlying hu, sz_run hs, hparts, hf]
def seqN : Nat → List (Nat × Value) → Bool
  | _, [] => true
  | k, (i, v) :: r => Nat.beq i k && (match v with | .agg _ => false | _ => true) && seqN (k + 1) r
theorem fill_seqN : ∀ (vs : List (Nat × Value)) (k : Nat) (done rest : List Value), seqN k vs = true → done.length = k → rest.length = vs.length →
    fillL (fun i => some (i * 1, 1)) (done ++ rest) vs = some (done ++ vs.map (·.2))
  | [], k, done, rest, _, _, h => by
    have : rest = [] := List.eq_nil_of_length_eq_zero (by simpa using h)
    subst this; simp [fillL]
  | (i, v) :: vs, k, done, rest, hs, hd, h => by
    simp only [seqN, Bool.and_eq_true] at hs
    have hik := Nat.eq_of_beq_eq_true hs.1.1
    subst hik
    have hv : cellsL v = [v] := by
      have := hs.1.2
      cases v <;> simp [cellsL] at this ⊢
    simp only [List.length_cons] at h
    simp only [fillL, hv]
    rw [if_pos ⟨rfl, by simp; omega⟩, Nat.mul_one, ← hd, setAt_mid _ _ _ (by simp; omega)]
    have ih := fill_seqN vs (i + 1) (done ++ [v]) (rest.drop 1) hs.2 (by simp [hd]) (by simp; omega)
    simp only [List.length_singleton]
    rw [ih]; simp
/-- An array built of all its elements, in their order. -/
theorem bldas {T' : TypeId} {ps : List (Nat × Operand)} {vs : List (Nat × Value)} {zs cs : List Value} (hT : arp P T' = some (zs, 1)) (hp : evp e ps = some vs) (hq : seqN 0 vs = true) (hl : vs.length = zs.length) (hc : vs.map (·.2) = cs) : OpV P w0 (.build T' ps.toArray) T e H (.agg cs.toArray) :=
  blda hT hp (by have := fill_seqN vs 0 [] zs hq rfl hl.symm; rw [List.nil_append, List.nil_append, hc] at this; exact this)
end

section
variable {P : Program} {n : Nat} {X : Cx} {todo : List Item} {e : Env} {H : List It} {ops : Array Oper} {l : List Oper} {d : Nat} {T : TypeId} {p : String} {af : Array Edge} {K : Kt}
/-- The bytes of a string. -/
def strB (s : ByteArray) : List UInt8 := s.data.toList
theorem strB_len (s : ByteArray) : (strB s).length = s.size := by unfold strB ByteArray.size; exact Array.length_toList
theorem W.cvsb {T1 T2 E : TypeId} {x : Operand} {s : ByteArray} {u : TypeDesc} (h1 : P.underlying T1 = some u) (h2 : P.underlying T2 = some (.slice E)) (h3 : P.underlying E = some (.int .u8)) (hx : ev e x = some (.string s)) (hd : Nat.blt d n = true)
    (hk : ∀ b cap junk, (strB s).length ≤ cap → W (.sq K) P n X ops todo l ((d, slc b 0 (strB s).length cap) :: e) (blk true b (.cells (B (strB s) ++ junk).toArray E (cap, cap + 1)) :: H)) : W (.sq K) P n X ops todo (⟨some d, .convert T1 T2 x, T, p, af, none⟩ :: l) e H := by
  refine W.eff rfl fun a w hf hm => ?_
  have hr := Lib.run_convert_string_bytes (P := P) w T1 T2 E s h1 h2 h3
  have hrow := Lib.bytesWorld_at_new w E s
  have hge := grownCap_ge w s.size 0 E
  have hlen : (Lib.bytesCells w E s).size = grownCap w s.size 0 E := by
    unfold Lib.bytesCells
    rw [Array.size_append, Array.size_map, Array.size_replicate]
    show s.size + _ = _
    omega
  have hcs : (Lib.bytesCells w E s) = (B (strB s) ++ List.replicate (grownCap w s.size 0 E - s.size) (Value.int .u8 0)).toArray := by
    apply Array.ext'
    unfold Lib.bytesCells
    rw [Array.toList_append, Array.toList_map, Array.toList_replicate]
    rfl
  rw [hlen, hcs] at hrow
  refine ⟨Lib.bytesWorld w E s, .value (slc w.heap.size 0 s.size (grownCap w s.size 0 E)), ?_, .inl ⟨_, rfl, ?_⟩⟩
  · simp [execOp, hf.eval hx, hr]
  · rw [← strB_len s]
    refine hk w.heap.size (grownCap w (strB s).length 0 E) (List.replicate (grownCap w (strB s).length 0 E - (strB s).length) (Value.int .u8 0)) (grownCap_ge _ _ _ _) _ _ (hf.put _ hd) ?_
    rw [strB_len s]
    have hsz := Lib.bytesWorld_size w E s
    refine ⟨hm.os, hm.tape, hm.output, by rw [hsz]; have := hm.size; omega, ?_, ?_, ?_, ?_, ?_⟩
    · intro b hb hno
      rw [Lib.bytesWorld_at_old w E s b (by have := hm.size; omega)]
      exact hm.other b hb fun it hi => hno it (List.mem_cons_of_mem _ hi)
    · intro it hi
      rcases List.mem_cons.1 hi with rfl | hi
      · exact hrow
      · exact it.stable w _ (fun b hb => Lib.bytesWorld_at_old w E s b (hm.inb it hi b hb)) (hm.holds it hi)
    · intro it hi b hb
      rw [hsz]
      rcases List.mem_cons.1 hi with rfl | hi
      · cases hb; omega
      · have := hm.inb it hi b hb; omega
    · intro it hi hn b hb
      rcases List.mem_cons.1 hi with rfl | hi
      · cases hb; exact hm.size
      · exact hm.fresh it hi hn b hb
    · refine List.Pairwise.cons ?_ hm.disj
      rintro it hi b rfl hf
      exact absurd (hm.inb it hi _ hf) (by omega)
end
end Go.Eng
