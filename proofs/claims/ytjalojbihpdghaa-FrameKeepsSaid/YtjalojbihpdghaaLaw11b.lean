/- FrameFrames, FrameParses: the laws' walks. -/
import Derived.Test.YtjalojbihpdghaaFrame4
import Derived.Test.YtjalojbihpdghaaLaw11
namespace Go.Proofs.Ytjalojbihpdghaa
open Go Go.Eng
set_option linter.unusedVariables false

theorem beN_leB : ∀ (w n : Nat), n < 256 ^ w → beN (leB w n).reverse = n
  | 0, n, h => by simp at h; subst h; rfl
  | w + 1, n, h => by
    have h1 : (byteAt n 0).toNat = n % 256 := by rw [byteAt, UInt8.toNat_ofNat']; omega
    rw [leB_cons, List.reverse_cons, beN_snoc, beN_leB w (n / 256) (by rw [Nat.pow_succ] at h; omega), h1]
    omega
theorem frame_parts (p : Pt) : frameB p = (List.replicate 16 0 ++ frameH p) ++ ((leB 8 p.id.toNat).reverse ++ ((leB 2 p.data.length).reverse ++ (p.data ++ List.replicate (450 - p.data.length) 0))) := by
  simp only [frameB, frameH, List.append_assoc]
theorem frame_head (p : Pt) (i : Nat) (h : i < 4) : (frameB p).getD (16 + i) 0 = (frameH p).getD i 0 := by
  have hl : (frameH p).length = 4 := rfl
  rw [frame_parts, List.getD_eq_getElem?_getD, List.getElem?_append_left (by simp [hl]; omega), List.getElem?_append_right (by simp), List.getD_eq_getElem?_getD]
  simp
theorem drop_at {α : Type} (A R : List α) (n : Nat) (h : A.length = n) : (A ++ R).drop n = R := List.drop_left' h
theorem frame_drops (p : Pt) : (frameB p).drop 20 = (leB 8 p.id.toNat).reverse ++ ((leB 2 p.data.length).reverse ++ (p.data ++ List.replicate (450 - p.data.length) 0)) ∧ (frameB p).drop 28 = (leB 2 p.data.length).reverse ++ (p.data ++ List.replicate (450 - p.data.length) 0) ∧ (frameB p).drop 30 = p.data ++ List.replicate (450 - p.data.length) 0 := by
  have h1 : (frameB p).drop 20 = (leB 8 p.id.toNat).reverse ++ ((leB 2 p.data.length).reverse ++ (p.data ++ List.replicate (450 - p.data.length) 0)) := by
    rw [frame_parts]; exact drop_at _ _ 20 (by simp [frameH])
  have h2 : (frameB p).drop 28 = (leB 2 p.data.length).reverse ++ (p.data ++ List.replicate (450 - p.data.length) 0) := by
    rw [show (frameB p).drop 28 = ((frameB p).drop 20).drop 8 by simp, h1]; exact drop_at _ _ 8 (by simp [leB_len])
  refine ⟨h1, h2, ?_⟩
  rw [show (frameB p).drop 30 = ((frameB p).drop 28).drop 2 by simp, h2]; exact drop_at _ _ 2 (by simp [leB_len])
theorem byte_small (n : Int) (h0 : 0 ≤ n) (h : n ≤ 16) : ((Eng.byteOf n).toNat : Int) = n := by have := byteOf_toNat n; omega
theorem parse_frame (p : Pt) (hc : checkR p = 0) : parseR (frameB p) = (p, 0) := by
  obtain ⟨⟨hk1, hk3⟩, hd, hc1, hc16, hi0, hic⟩ := check_ok hc
  have hlen := frameB_len p hd
  obtain ⟨d20, d28, d30⟩ := frame_drops p
  have hs : sizeOfB (frameB p) = p.data.length := by
    rw [sizeOfB, d28, List.take_left' (by simp [leB_len]), beN_leB 2 _ (by omega)]
  have g0 : (frameB p).getD 16 0 = p.kind := frame_head p 0 (by decide)
  have g1 : (frameB p).getD 17 0 = Eng.byteOf p.index := frame_head p 1 (by decide)
  have g2 : (frameB p).getD 18 0 = Eng.byteOf p.count := frame_head p 2 (by decide)
  have g3 : (frameB p).getD 19 0 = 0 := frame_head p 3 (by decide)
  have hp : partOf (frameB p) = p := by
    unfold partOf
    rw [g0, g1, g2, hs, d30, List.take_left' rfl, d20, List.take_left' (by simp [leB_len]), beN_leB 8 _ (by have := p.id.toNat_lt; omega), byte_small _ hi0 (by omega), byte_small _ (by omega) hc16, UInt64.ofNat_toNat]
  have hz : (frameB p).take 16 = List.replicate 16 0 := by rw [frame_parts, List.append_assoc, List.take_left' (by simp)]
  have hr : (frameB p).drop (30 + p.data.length) = List.replicate (450 - p.data.length) 0 := by
    rw [show (frameB p).drop (30 + p.data.length) = ((frameB p).drop 30).drop p.data.length by simp, d30]; exact drop_at _ _ _ rfl
  rw [parseR, if_neg (by omega), if_neg (by simpa using hz), if_neg (by unfold badKind; rw [g0]; omega), hs, if_neg (by rw [g3]; simp; omega), if_neg (by rw [hr, hp]; simp [hc]), hp]
theorem parse_data (bs : List UInt8) : (parseR bs).1.data.length ≤ 65536 := by
  have h0 : (pt0 : Pt).data.length = 0 := rfl
  have h1 : (partOf bs).data.length ≤ 65536 := by have := size_lt bs; simp [partOf]; omega
  unfold parseR
  repeat' split
  all_goals (simp only []; omega)
theorem parse_ok {bs : List UInt8} (h : (parseR bs).2 = 0) : parseR bs = (partOf bs, 0) ∧ frameR (partOf bs) = (bs, 0) ∧ bs.length = 480 := by
  unfold parseR at *
  split at h
  · simp at h
  split at h
  · simp at h
  split at h
  · simp at h
  split at h
  · simp at h
  split at h
  · simp at h
  rename_i h1 h2 h3 h4 h5
  rw [if_neg h1, if_neg h2, if_neg h3, if_neg h4, if_neg h5]
  refine ⟨rfl, ?_, by omega⟩
  have hc : checkR (partOf bs) = 0 := Classical.byContradiction fun h' => h5 (.inr h')
  rw [frameR, if_neg (by simpa using hc), (frame_same bs (by omega) (Classical.byContradiction fun h' => h2 h') (by omega)).2 ⟨Classical.byContradiction fun h' => h4 (.inl h'), Classical.byContradiction fun h' => h5 (.inl h')⟩]


end Go.Proofs.Ytjalojbihpdghaa
