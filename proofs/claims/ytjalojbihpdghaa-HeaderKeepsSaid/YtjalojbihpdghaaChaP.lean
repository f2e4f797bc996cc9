/- ChaCha20 as a plain function of lists. -/
import Derived.Test.YtjalojbihpdghaaMac2
namespace Go.Proofs.Ytjalojbihpdghaa
open Go Go.Eng

structure Q4 where
  (a b c d : UInt32)
def Q4.l (q : Q4) : List UInt32 := [q.a, q.b, q.c, q.d]
def trn (i : Nat) : Int := [16, 12, 8, 7].getD i 0
def qstep (i : Nat) (q : Q4) : Q4 :=
  if i % 2 = 0 then ⟨q.a + q.b, q.b, q.c, rotl (q.d ^^^ (q.a + q.b)) (trn i)⟩ else ⟨q.a, rotl (q.b ^^^ (q.c + q.d)) (trn i), q.c + q.d, q.d⟩
def qn (q : Q4) : Nat → Q4
  | 0 => q
  | i + 1 => qstep i (qn q i)
/-- The four places of a quarter round. -/
def plc (j : Nat) : List Nat := if j < 4 then [j, 4 + j, 8 + j, 12 + j] else [j - 4, 4 + (j - 4 + 1) % 4, 8 + (j - 4 + 2) % 4, 12 + (j - 4 + 3) % 4]
def sets4 (s : List UInt32) (p : List Nat) (q : List UInt32) : Nat → List UInt32
  | 0 => s
  | k + 1 => (sets4 s p q k).set (p.getD k 0) (q.getD k 0)
theorem sets4_len (s : List UInt32) (p : List Nat) (q : List UInt32) (k : Nat) : (sets4 s p q k).length = s.length := by
  induction k with
  | zero => rfl
  | succ k ih => simp [sets4, ih]
def gat (s : List UInt32) (p : List Nat) : Q4 := ⟨s.getD (p.getD 0 0) 0, s.getD (p.getD 1 0) 0, s.getD (p.getD 2 0) 0, s.getD (p.getD 3 0) 0⟩
def cqr (s : List UInt32) (p : List Nat) : List UInt32 := sets4 s p (qn (gat s p) 4).l 4
theorem cqr_len (s : List UInt32) (p : List Nat) : (cqr s p).length = s.length := sets4_len _ _ _ _
def crun (s : List UInt32) : Nat → List UInt32
  | 0 => s
  | n + 1 => cqr (crun s n) (plc (n % 8))
theorem crun_len (s : List UInt32) (n : Nat) : (crun s n).length = s.length := by
  induction n with
  | zero => rfl
  | succ n ih => rw [crun, cqr_len, ih]
theorem plc_lt (j k : Nat) (hj : j < 8) (hk : k < 4) : (plc j).getD k 0 < 16 := by
  unfold plc
  split <;> (rcases (show k = 0 ∨ k = 1 ∨ k = 2 ∨ k = 3 by omega) with rfl | rfl | rfl | rfl <;> simp <;> omega)
theorem plc_len (j : Nat) : (plc j).length = 4 := by unfold plc; split <;> rfl
theorem plc_lo (j : Nat) (h : j < 4) : plc j = [j, 4 + j, 8 + j, 12 + j] := if_pos h
theorem plc_hi (i : Nat) : plc (4 + i) = [i, 4 + (i + 1) % 4, 8 + (i + 2) % 4, 12 + (i + 3) % 4] := by
  rw [plc, if_neg (by omega), show 4 + i - 4 = i by omega]
/-- Four bytes, the least first. -/
def leW (bs : List UInt8) (t : Nat) : UInt32 := UInt32.ofNat (leN ((bs.drop (4 * t)).take 4))
def chC : List UInt32 := [0x61707865, 0x3320646e, 0x79622d32, 0x6b206574]
def chInit (key nonce : List UInt8) (ctr : UInt32) : List UInt32 := chC ++ ((List.range 8).map (leW key) ++ (ctr :: (List.range 3).map (leW nonce)))
theorem chInit_len (key nonce : List UInt8) (ctr : UInt32) : (chInit key nonce ctr).length = 16 := by simp [chInit, chC]
def chSum (s : List UInt32) : List UInt32 := List.zipWith (· + ·) (crun s 80) s
theorem chSum_len (s : List UInt32) (h : s.length = 16) : (chSum s).length = 16 := by simp [chSum, crun_len, h]
def chOut (l : List UInt32) : List UInt8 := l.flatMap fun x => leB 4 x.toNat
theorem chOut_len (l : List UInt32) : (chOut l).length = 4 * l.length := by
  induction l with
  | nil => rfl
  | cons x l ih =>
    rw [show chOut (x :: l) = leB 4 x.toNat ++ chOut l from rfl, List.length_append, ih, leB_len, List.length_cons]; omega
def chBlock (key nonce : List UInt8) (ctr : UInt32) : List UInt8 := chOut (chSum (chInit key nonce ctr))
theorem chBlock_len (key nonce : List UInt8) (ctr : UInt32) : (chBlock key nonce ctr).length = 64 := by rw [chBlock, chOut_len, chSum_len _ (chInit_len _ _ _)]
theorem chOut_get (l : List UInt32) (k r : Nat) (hk : k < l.length) (hr : r < 4) : (chOut l)[4 * k + r]? = some (byteAt (l.getD k 0).toNat r) := by
  have e : ∀ (n : Nat), (leB 4 n)[r]? = some (byteAt n r) := fun n => by rw [leB, List.getElem?_map, List.getElem?_range (by omega)]; rfl
  induction l generalizing k with
  | nil => simp at hk
  | cons x l ih =>
    rw [show chOut (x :: l) = leB 4 x.toNat ++ chOut l from rfl]
    cases k with
    | zero => rw [List.getElem?_append_left (by rw [leB_len]; omega)]; simpa using e x.toNat
    | succ k =>
      rw [List.getElem?_append_right (by rw [leB_len]; omega), leB_len, show 4 * (k + 1) + r - 4 = 4 * k + r by omega, ih k (by simpa using hk)]
      simp
theorem chOut_take (l : List UInt32) (k : Nat) (hk : k < l.length) : (chOut l).take (4 * (k + 1)) = (chOut l).take (4 * k) ++ leB 4 (l.getD k 0).toNat := by
  have e : leB 4 (l.getD k 0).toNat = [byteAt (l.getD k 0).toNat 0, byteAt (l.getD k 0).toNat 1, byteAt (l.getD k 0).toNat 2, byteAt (l.getD k 0).toNat 3] := rfl
  rw [e, show 4 * (k + 1) = 4 * k + 3 + 1 by omega, take_succ' (chOut_get l k 3 hk (by omega)), take_succ' (chOut_get l k 2 hk (by omega)), take_succ' (chOut_get l k 1 hk (by omega)), take_succ' (by have := chOut_get l k 0 hk (by omega); simpa using this)]
  simp
theorem shr_byte32 (x : UInt32) (k : Nat) (hk : k < 4) : (shrU32 x (8 * (k : Int))).toUInt8 = byteAt x.toNat k := by
  apply UInt8.toNat_inj.1
  have h : min (8 * (k : Int)).toNat 32 = 8 * k := by omega
  have hlt : x.toNat / 256 ^ k < 4294967296 := Nat.lt_of_le_of_lt (Nat.div_le_self _ _) x.toNat_lt
  rw [UInt32.toNat_toUInt8, shrU32, h, pow256, UInt32.toNat_ofNat_of_lt' hlt, byteAt, UInt8.toNat_ofNat']; omega
theorem byte32_0 (x : UInt32) : x.toUInt8 = byteAt x.toNat 0 := by
  apply UInt8.toNat_inj.1
  rw [UInt32.toNat_toUInt8, byteAt, UInt8.toNat_ofNat']; simp
theorem setAt_Us (s : List UInt32) (k o : Nat) (x : UInt32) (h : k < s.length) (ho : o = k) : setAt (U s) o [u32 x] = U (s.set k x) := by
  subst ho
  simp only [setAt, U, List.map_set]
  rw [List.set_eq_take_append_cons_drop, if_pos (by simpa using h)]; simp
theorem outU_set (l : List UInt32) (n i o : Nat) (x : UInt32) (hl : l.length = n) (hx : l[i]? = some x) (ho : o = i) : setAt (U (l.take i ++ List.replicate (n - i) 0)) o [u32 x] = U (l.take (i + 1) ++ List.replicate (n - (i + 1)) 0) := by
  subst ho
  have hi := (List.getElem?_eq_some_iff.1 hx).1
  have h := setAt_U (l.take o) (n - (o + 1)) x o (by simp; omega)
  rw [show n - (o + 1) + 1 = n - o by omega] at h
  rw [h, take_succ' hx]
theorem word4l (a b c d : UInt8) : (a.toUInt32 ||| shlU32 b.toUInt32 8 ||| shlU32 c.toUInt32 16 ||| shlU32 d.toUInt32 24) = UInt32.ofNat (leN [a, b, c, d]) := by
  have h := word4 d c b a
  rw [show leN [a, b, c, d] = beN [d, c, b, a] from rfl, ← h]
  simp only [UInt32.or_assoc, UInt32.or_comm, ← UInt32.or_assoc]
end Go.Proofs.Ytjalojbihpdghaa
