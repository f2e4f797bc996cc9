/- SHA-256 as a plain function of lists. -/
import Derived.Test.YtjalojbihpdghaaNums
namespace Go.Proofs.Ytjalojbihpdghaa
open Go Go.Eng

structure S8 where
  (a b c d e f g h : UInt32)
def S8.l (s : S8) : List UInt32 := [s.a, s.b, s.c, s.d, s.e, s.f, s.g, s.h]
abbrev U (l : List UInt32) : List Value := l.map u32
theorem U_one (l : List UInt32) : (U l).all (·.oneCell') = true := by simp [Value.oneCell']
theorem U_len (l : List UInt32) : (U l).length = l.length := by simp
def rotr (x : UInt32) (n : Int) : UInt32 := shrU32 x n ||| shlU32 x (32 - n)
def rotl (x : UInt32) (n : Int) : UInt32 := shlU32 x n ||| shrU32 x (32 - n)
def sS1 (e : UInt32) : UInt32 := rotr e 6 ^^^ rotr e 11 ^^^ rotr e 25
def sS0 (a : UInt32) : UInt32 := rotr a 2 ^^^ rotr a 13 ^^^ rotr a 22
def sg0 (x : UInt32) : UInt32 := rotr x 7 ^^^ rotr x 18 ^^^ shrU32 x 3
def sg1 (y : UInt32) : UInt32 := rotr y 17 ^^^ rotr y 19 ^^^ shrU32 y 10
def sCh (e f g : UInt32) : UInt32 := (e &&& f) ^^^ (~~~e &&& g)
def sMaj (a b c : UInt32) : UInt32 := (a &&& b) ^^^ (a &&& c) ^^^ (b &&& c)
def sT1 (s : S8) (k w : UInt32) : UInt32 := s.h + sS1 s.e + sCh s.e s.f s.g + k + w
def sT2 (s : S8) : UInt32 := sS0 s.a + sMaj s.a s.b s.c
def shaStep (s : S8) (k w : UInt32) : S8 := ⟨sT1 s k w + sT2 s, s.a, s.b, s.c, s.d + sT1 s k w, s.e, s.f, s.g⟩
def shaK : List UInt32 := [
  0x428a2f98, 0x71374491, 0xb5c0fbcf, 0xe9b5dba5, 0x3956c25b, 0x59f111f1, 0x923f82a4, 0xab1c5ed5,
  0xd807aa98, 0x12835b01, 0x243185be, 0x550c7dc3, 0x72be5d74, 0x80deb1fe, 0x9bdc06a7, 0xc19bf174,
  0xe49b69c1, 0xefbe4786, 0x0fc19dc6, 0x240ca1cc, 0x2de92c6f, 0x4a7484aa, 0x5cb0a9dc, 0x76f988da,
  0x983e5152, 0xa831c66d, 0xb00327c8, 0xbf597fc7, 0xc6e00bf3, 0xd5a79147, 0x06ca6351, 0x14292967,
  0x27b70a85, 0x2e1b2138, 0x4d2c6dfc, 0x53380d13, 0x650a7354, 0x766a0abb, 0x81c2c92e, 0x92722c85,
  0xa2bfe8a1, 0xa81a664b, 0xc24b8b70, 0xc76c51a3, 0xd192e819, 0xd6990624, 0xf40e3585, 0x106aa070,
  0x19a4c116, 0x1e376c08, 0x2748774c, 0x34b0bcb5, 0x391c0cb3, 0x4ed8aa4a, 0x5b9cca4f, 0x682e6ff3,
  0x748f82ee, 0x78a5636f, 0x84c87814, 0x8cc70208, 0x90befffa, 0xa4506ceb, 0xbef9a3f7, 0xc67178f2]
theorem shaK_len : shaK.length = 64 := by decide
def shaI : S8 := ⟨0x6a09e667, 0xbb67ae85, 0x3c6ef372, 0xa54ff53a, 0x510e527f, 0x9b05688c, 0x1f83d9ab, 0x5be0cd19⟩
def shaWord (bs : List UInt8) (t : Nat) : UInt32 := UInt32.ofNat (beN ((bs.drop (4 * t)).take 4))
def shaNext (l : List UInt32) (t : Nat) : UInt32 := sg1 (l.getD (t - 2) 0) + l.getD (t - 7) 0 + sg0 (l.getD (t - 15) 0) + l.getD (t - 16) 0
def shaW (bs : List UInt8) (l : List UInt32) (t : Nat) : UInt32 := if t < 16 then shaWord bs t else shaNext l t
def schedL (bs : List UInt8) : Nat → List UInt32
  | 0 => []
  | t + 1 => schedL bs t ++ [shaW bs (schedL bs t) t]
theorem schedL_len (bs : List UInt8) (t : Nat) : (schedL bs t).length = t := by
  induction t with
  | zero => rfl
  | succ t ih => simp [schedL, ih]
theorem schedL_pre (bs : List UInt8) (t k : Nat) : ∃ r, schedL bs (t + k) = schedL bs t ++ r := by
  induction k with
  | zero => exact ⟨[], by simp⟩
  | succ k ih =>
    obtain ⟨r, hr⟩ := ih
    exact ⟨r ++ [shaW bs (schedL bs (t + k)) (t + k)], by rw [← Nat.add_assoc, schedL, ← List.append_assoc, ← hr]⟩
theorem schedL_at (bs : List UInt8) (t n : Nat) (h : t < n) : (schedL bs n).getD t 0 = shaW bs (schedL bs t) t := by
  obtain ⟨r, hr⟩ := schedL_pre bs (t + 1) (n - (t + 1))
  rw [show t + 1 + (n - (t + 1)) = n by omega] at hr
  rw [hr, List.getD_eq_getElem?_getD, List.getElem?_append_left (by rw [schedL_len]; omega), schedL, List.getElem?_append_right (by rw [schedL_len]; omega), schedL_len]
  simp
def shaRounds (bs : List UInt8) (s : S8) : Nat → S8
  | 0 => s
  | t + 1 => shaStep (shaRounds bs s t) (shaK.getD t 0) ((schedL bs 64).getD t 0)
def addS (s t : S8) : S8 := ⟨s.a + t.a, s.b + t.b, s.c + t.c, s.d + t.d, s.e + t.e, s.f + t.f, s.g + t.g, s.h + t.h⟩
def shaC (s : S8) (bs : List UInt8) : S8 := addS s (shaRounds bs s 64)
/-- Behind the first k blocks. -/
def shaBlocks (s : S8) (bs : List UInt8) : Nat → S8
  | 0 => s
  | k + 1 => shaC (shaBlocks s bs k) ((bs.drop (64 * k)).take 64)
theorem shaBlocks_app (s : S8) (m b : List UInt8) : ∀ k, 64 * k ≤ m.length → shaBlocks s (m ++ b) k = shaBlocks s m k
  | 0, _ => rfl
  | k + 1, h => by
    rw [shaBlocks, shaBlocks, shaBlocks_app s m b k (by omega), List.drop_append_of_le_length (by omega), List.take_append_of_le_length (by simp; omega)]
def shaPad (n : Nat) : List UInt8 := 128 :: (List.replicate ((119 - n % 64) % 64) 0 ++ (leB 8 (n * 8 % 18446744073709551616)).reverse)
theorem shaPad_len (n : Nat) : (shaPad n).length = 9 + (119 - n % 64) % 64 := by simp [shaPad, leB_len]; omega
theorem shaPad_mod (n : Nat) : (n + (shaPad n).length) % 64 = 0 := by rw [shaPad_len]; omega
def outB (s : S8) : List UInt8 := s.l.flatMap fun x => (leB 4 x.toNat).reverse
theorem outB_len (s : S8) : (outB s).length = 32 := by simp [outB, S8.l, leB_len]
def sha256 (m : List UInt8) : List UInt8 := outB (shaBlocks shaI (m ++ shaPad m.length) ((m ++ shaPad m.length).length / 64))
theorem sha256_len (m : List UInt8) : (sha256 m).length = 32 := outB_len _
theorem word4 (a b c d : UInt8) : (shlU32 a.toUInt32 24 ||| shlU32 b.toUInt32 16 ||| shlU32 c.toUInt32 8 ||| d.toUInt32) = UInt32.ofNat (beN [a, b, c, d]) := by
  apply UInt32.toNat_inj.1
  have ha := a.toNat_lt
  have hb := b.toNat_lt
  have hc := c.toNat_lt
  have hd := d.toNat_lt
  have p24 : (2 : Nat) ^ 24 = 16777216 := by decide
  have p16 : (2 : Nat) ^ 16 = 65536 := by decide
  have p8 : (2 : Nat) ^ 8 = 256 := by decide
  have g24 : (shlU32 a.toUInt32 24).toNat = a.toNat * 16777216 := by
    unfold shlU32
    rw [show min (24 : Int).toNat 32 = 24 by decide, UInt8.toNat_toUInt32, p24, Nat.mod_eq_of_lt (by omega), UInt32.toNat_ofNat_of_lt' (show a.toNat * 16777216 < 4294967296 by omega)]
  have g16 : (shlU32 b.toUInt32 16).toNat = b.toNat * 65536 := by
    unfold shlU32
    rw [show min (16 : Int).toNat 32 = 16 by decide, UInt8.toNat_toUInt32, p16, Nat.mod_eq_of_lt (by omega), UInt32.toNat_ofNat_of_lt' (show b.toNat * 65536 < 4294967296 by omega)]
  have g8 : (shlU32 c.toUInt32 8).toNat = c.toNat * 256 := by
    unfold shlU32
    rw [show min (8 : Int).toNat 32 = 8 by decide, UInt8.toNat_toUInt32, p8, Nat.mod_eq_of_lt (by omega), UInt32.toNat_ofNat_of_lt' (show c.toNat * 256 < 4294967296 by omega)]
  have e : beN [a, b, c, d] = ((a.toNat * 256 + b.toNat) * 256 + c.toNat) * 256 + d.toNat := by simp [beN]
  rw [e, UInt32.toNat_ofNat_of_lt' (show _ < 4294967296 by omega)]
  rw [UInt32.toNat_or, UInt32.toNat_or, UInt32.toNat_or, g24, g16, g8, UInt8.toNat_toUInt32]
  have o1 : a.toNat * 16777216 ||| b.toNat * 65536 = a.toNat * 16777216 + b.toNat * 65536 := by
    have := Nat.shiftLeft_add_eq_or_of_lt (b := b.toNat * 65536) (i := 24) (by rw [p24]; omega) a.toNat
    rw [Nat.shiftLeft_eq, p24] at this; exact this.symm
  have o2 : (a.toNat * 16777216 + b.toNat * 65536) ||| c.toNat * 256 = a.toNat * 16777216 + b.toNat * 65536 + c.toNat * 256 := by
    have := Nat.shiftLeft_add_eq_or_of_lt (b := c.toNat * 256) (i := 16) (by rw [p16]; omega) (a.toNat * 256 + b.toNat)
    rw [Nat.shiftLeft_eq, p16] at this
    have e2 : (a.toNat * 256 + b.toNat) * 65536 = a.toNat * 16777216 + b.toNat * 65536 := by rw [Nat.add_mul, Nat.mul_assoc]
    rw [e2] at this; exact this.symm
  have o3 : (a.toNat * 16777216 + b.toNat * 65536 + c.toNat * 256) ||| d.toNat = a.toNat * 16777216 + b.toNat * 65536 + c.toNat * 256 + d.toNat := by
    have := Nat.shiftLeft_add_eq_or_of_lt (b := d.toNat) (i := 8) (by rw [p8]; omega) (a.toNat * 65536 + b.toNat * 256 + c.toNat)
    rw [Nat.shiftLeft_eq, p8] at this
    have e2 : (a.toNat * 65536 + b.toNat * 256 + c.toNat) * 256 = a.toNat * 16777216 + b.toNat * 65536 + c.toNat * 256 := by rw [Nat.add_mul, Nat.add_mul, Nat.mul_assoc, Nat.mul_assoc]
    rw [e2] at this; exact this.symm
  rw [o1, o2, o3]
  omega
theorem take4 (bs : List UInt8) (t : Nat) (h : 4 * t + 3 < bs.length) : (bs.drop (4 * t)).take 4 = [bs.getD (4 * t) 0, bs.getD (4 * t + 1) 0, bs.getD (4 * t + 2) 0, bs.getD (4 * t + 3) 0] := by
  have hg : ∀ i, i < 4 → ((bs.drop (4 * t)).take 4)[i]? = some (bs.getD (4 * t + i) 0) := fun i hi => by
    rw [List.getElem?_take, if_pos hi, List.getElem?_drop, List.getElem?_eq_getElem (by omega), List.getD_eq_getElem?_getD, List.getElem?_eq_getElem (by omega)]; rfl
  apply List.ext_getElem?
  intro i
  match i with
  | 0 => exact hg 0 (by decide)
  | 1 => exact hg 1 (by decide)
  | 2 => exact hg 2 (by decide)
  | 3 => exact hg 3 (by decide)
  | i + 4 => rw [List.getElem?_eq_none (by simp; omega), List.getElem?_eq_none (by simp)]
theorem getD_someB (bs : List UInt8) (i : Nat) (h : i < bs.length) : bs[i]? = some (bs.getD i 0) := by
  rw [List.getD_eq_getElem?_getD, List.getElem?_eq_getElem h]; rfl
theorem getD_someU (l : List UInt32) (i : Nat) (h : i < l.length) : l[i]? = some (l.getD i 0) := by
  rw [List.getD_eq_getElem?_getD, List.getElem?_eq_getElem h]; rfl
theorem U_get {l : List UInt32} {i : Nat} {x : UInt32} (h : l[i]? = some x) : (U l)[i]? = some (u32 x) := by simp [U, h]
theorem U_getD (l : List UInt32) (i : Nat) (h : i < l.length) : (U l)[i]? = some (u32 (l.getD i 0)) := U_get (getD_someU l i h)
theorem setAt_U (A : List UInt32) (n : Nat) (x : UInt32) (k : Nat) (h : k = A.length) : setAt (U (A ++ List.replicate (n + 1) 0)) k [u32 x] = U ((A ++ [x]) ++ List.replicate n 0) := by
  subst h
  have := setAt_mid (U A) (U (List.replicate (n + 1) 0)) [u32 x] (by simp)
  rw [U_len] at this
  rw [show U (A ++ List.replicate (n + 1) 0) = U A ++ U (List.replicate (n + 1) 0) from List.map_append, this]
  simp [U, List.drop_replicate]
theorem U_zeros (n : Nat) : U (List.replicate n 0) = List.replicate n (.int .u32 0) := by simp [U]
theorem getD_app (A R : List UInt32) (i : Nat) (h : i < A.length) : (A ++ R)[i]? = some (A.getD i 0) := by
  rw [List.getElem?_append_left h]; exact getD_someU A i h
theorem rotl_neg (x : UInt32) (n : Nat) (h0 : 0 < n) (h : n < 32) : shlU32 x ((32 - n : Nat) : Int) ||| shrU32 x ((n : Nat) : Int) = rotr x n := by
  unfold rotr
  rw [show ((32 - n : Nat) : Int) = 32 - (n : Int) by omega, UInt32.or_comm]
theorem zip_step (A Q : List UInt32) (i o : Nat) (ho : o = i) (h : i < A.length) (h2 : Q.length = A.length) : setAt (U ((List.zipWith (· + ·) A Q).take i ++ A.drop i)) o [u32 (A.getD i 0 + Q.getD i 0)] = U ((List.zipWith (· + ·) A Q).take (i + 1) ++ A.drop (i + 1)) := by
  subst ho
  have hz : (List.zipWith (· + ·) A Q).length = A.length := by simp [h2]
  have hl : (U ((List.zipWith (· + ·) A Q).take o)).length = o := by rw [U_len, List.length_take, hz]; omega
  have e1 : A.drop o = A.getD o 0 :: A.drop (o + 1) := by
    rw [List.drop_eq_getElem_cons h, List.getD_eq_getElem?_getD, List.getElem?_eq_getElem h]; rfl
  have e2 : (List.zipWith (· + ·) A Q).take (o + 1) = (List.zipWith (· + ·) A Q).take o ++ [A.getD o 0 + Q.getD o 0] := by
    have : o < (List.zipWith (· + ·) A Q).length := by omega
    rw [List.take_succ_eq_append_getElem this, List.getElem_zipWith, List.getD_eq_getElem?_getD, List.getD_eq_getElem?_getD, List.getElem?_eq_getElem h, List.getElem?_eq_getElem (by omega : o < Q.length)]; rfl
  rw [show U ((List.zipWith (· + ·) A Q).take o ++ A.drop o) = U ((List.zipWith (· + ·) A Q).take o) ++ U (A.drop o) from List.map_append]
  have := setAt_mid (U ((List.zipWith (· + ·) A Q).take o)) (U (A.drop o)) [u32 (A.getD o 0 + Q.getD o 0)] (by simp; omega)
  rw [hl] at this
  rw [this, e2, e1]
  simp [U]
theorem zip_get (A Q : List UInt32) (i o : Nat) (ho : o = i) (h : i < A.length) (h2 : Q.length = A.length) : (U ((List.zipWith (· + ·) A Q).take i ++ A.drop i))[o]? = some (u32 (A.getD i 0)) := by
  subst ho
  refine U_get ?_
  rw [List.getElem?_append_right (by simp; omega), List.length_take]
  have hz : (List.zipWith (· + ·) A Q).length = A.length := by simp [h2]
  rw [hz, Nat.min_eq_left (by omega), Nat.sub_self, List.getElem?_drop, Nat.add_zero]
  exact getD_someU A o h
theorem sha_put8 (n : UInt64) (w : World) : Ret Try.prog 59 [i64 2, i64 8, u64 n] w (fun v J => ∃ v1, NewB (leB 8 n.toNat).reverse v1 J ∧ v = .tuple #[v1, i64 0]) := by
  have := codec_Put 2 8 n w
  rwa [show putR 2 8 n = ((leB 8 n.toNat).reverse, 0) by rw [putR, if_neg (by simp [shapeR]), if_neg (by omega), if_pos rfl]; rfl] at this
theorem sha_put4 (x : UInt32) (w : World) : Ret Try.prog 59 [i64 2, i64 4, u64 x.toUInt64] w (fun v J => ∃ v1, NewB (leB 4 x.toNat).reverse v1 J ∧ v = .tuple #[v1, i64 0]) := by
  have := codec_Put 2 4 x.toUInt64 w
  have h4 := x.toNat_lt
  rwa [show putR 2 4 x.toUInt64 = ((leB 4 x.toNat).reverse, 0) by
    rw [putR, if_neg (by simp [shapeR]), if_neg (by rw [UInt32.toNat_toUInt64]; have : 256 ^ (4 : Int).toNat = 4294967296 := by decide
                                                    omega), if_pos rfl, UInt32.toNat_toUInt64]; rfl] at this
theorem sha_pad_n (n : Nat) (h : n ≤ 140737488351232) : (u64Of (n : Int) * 8).toNat = n * 8 % 18446744073709551616 := by
  have := u64Of_toNat (n : Int)
  rw [UInt64.toNat_mul]
  have h8 : (8 : UInt64).toNat = 8 := by decide
  rw [h8]; omega
def restB (m : List UInt8) : List UInt8 := m.drop (64 * (m.length / 64))
theorem restB_len (m : List UInt8) : (restB m).length = m.length % 64 := by simp [restB]; omega
def shaZ : S8 := ⟨0, 0, 0, 0, 0, 0, 0, 0⟩
def shaSt (m : List UInt8) : S8 := if m.length = 0 then shaZ else shaBlocks shaI m (m.length / 64)
/-- A hash's cells: the state, what is behind all whole blocks, the size. -/
def hsC (s : S8) (a : Option Addr) (k cap n : Nat) (ext : List Value) : List Value := U s.l ++ (.slice a k cap :: i64 n :: ext)
def hashI (b T : Nat) (ext : List Value) (m : List UInt8) (a : Option Addr) (cap : Nat) : List It := [nb b (hsC (shaSt m) a (m.length % 64) cap m.length ext) T, sv a (m.length % 64) cap 5 1 (B (restB m))]
theorem out_step (s : S8) (i o : Nat) (x : UInt32) (hx : s.l[i]? = some x) (ho : o = 4 * i) : setAt (B ((s.l.take i).flatMap (fun x => (leB 4 x.toNat).reverse) ++ List.replicate (32 - 4 * i) 0)) o (B (leB 4 x.toNat).reverse) = B ((s.l.take (i + 1)).flatMap (fun x => (leB 4 x.toNat).reverse) ++ List.replicate (32 - 4 * (i + 1)) 0) := by
  subst ho
  obtain ⟨hi, he⟩ := List.getElem?_eq_some_iff.1 hx
  have h8 : s.l.length = 8 := rfl
  have hl : ((s.l.take i).flatMap (fun x => (leB 4 x.toNat).reverse)).length = 4 * i := by
    have := Eng.flat_len (fun x : UInt32 => ((leB 4 x.toNat).reverse.map u8)) 4 (by simp [leB_len]) (s.l.take i)
    rw [← List.map_flatMap, List.length_map, List.length_take, h8] at this
    omega
  have := setAt_mid (B ((s.l.take i).flatMap (fun x => (leB 4 x.toNat).reverse))) (B (List.replicate (32 - 4 * i) 0)) (B (leB 4 x.toNat).reverse) (by simp [leB_len]; omega)
  rw [Bl, hl] at this
  rw [show B ((s.l.take i).flatMap (fun x => (leB 4 x.toNat).reverse) ++ List.replicate (32 - 4 * i) 0) = B ((s.l.take i).flatMap (fun x => (leB 4 x.toNat).reverse)) ++ B (List.replicate (32 - 4 * i) 0) from List.map_append, this, List.take_succ_eq_append_getElem hi, he]
  simp only [Bl, List.length_reverse, leB_len, B, List.map_append, List.flatMap_append, List.flatMap_cons, List.flatMap_nil, List.append_nil, List.map_replicate, List.drop_replicate]
  congr 2
end Go.Proofs.Ytjalojbihpdghaa
