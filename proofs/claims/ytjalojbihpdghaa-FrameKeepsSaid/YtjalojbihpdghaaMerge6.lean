/- FrameOrders: the law's walk. -/
import Derived.Test.YtjalojbihpdghaaMerge5
namespace Go.Proofs.Ytjalojbihpdghaa
open Go Go.Eng
set_option linter.unusedVariables false

theorem takeT_fresh {id : UInt64} : ∀ (ps kept : List Pt), (∀ p ∈ ps, p.kind = 1 ∧ checkR p = 0 ∧ p.id = id) → (kept ++ ps).Pairwise (fun a b => a.count = b.count ∧ a.index ≠ b.index) → ps.foldl (takeS id) (kept, 0) = (kept ++ ps, 0)
  | [], kept, _, _ => by simp
  | p :: ps, kept, h, hp => by
    obtain ⟨h1, h2, h3⟩ := h p List.mem_cons_self
    have h4 : kept.any (clash p) = false := by
      rw [List.any_eq_false]
      intro q hq
      have := (List.pairwise_append.1 hp).2.2 q hq p List.mem_cons_self
      simp [clash, this.1, this.2]
    have e : takeE id kept p = 0 := by rw [takeE_eq, if_neg (by rw [h1]; simp [h2]), if_neg (by rw [h3]; simp), if_neg (by simp [h4])]
    have e2 : takeS id (kept, 0) p = (kept ++ [p], 0) := by simp [takeS, e]
    rw [List.foldl_cons, e2, takeT_fresh ps (kept ++ [p]) (fun q hq => h q (List.mem_cons_of_mem _ hq)) (by simpa using hp)]
    simp
theorem chunks (msg : List UInt8) : ∀ k, (List.range k).flatMap (fun i => (msg.drop (i * 450)).take 450) = msg.take (k * 450)
  | 0 => by simp
  | k + 1 => by
    rw [List.range_succ, List.flatMap_append, chunks msg k, show (k + 1) * 450 = k * 450 + 450 by omega, List.take_add]; simp
theorem part_ok {id : UInt64} {msg : List UInt8} {m i : Nat} (h1 : 1 ≤ m) (h2 : m ≤ 16) (hi : i < m) : checkR (partAt id msg m i) = 0 := by
  have hd : (partAt id msg m i).data.length ≤ 450 := by simp [partAt]; omega
  have hc : (partAt id msg m i).count = m := rfl
  have hx : (partAt id msg m i).index = i := rfl
  have hk : (partAt id msg m i).kind = 1 := rfl
  unfold checkR
  rw [hk, hc, hx]
  rw [if_neg (by decide), if_neg (by omega), if_neg (by omega), if_neg (by simp)]
/-- The parts of a message. -/
structure Cut (id : UInt64) (msg : List UInt8) (ps : List Pt) (m : Nat) : Prop where
  eq : ps = (List.range m).map (partAt id msg m)
  lo : 1 ≤ m
  hi : m ≤ 16
  len : msg.length ≤ m * 450
theorem cut_of {id : UInt64} {msg : List UInt8} (h : msg.length ≤ 7200) : ∃ m, Cut id msg (splitR id msg).1 m ∧ (splitR id msg).2 = 0 := by
  have h0 : (countR (msg.length : Int)).2 = 0 := by rw [countR, if_neg (by omega), if_neg (by omega)]
  obtain ⟨m, hcm, h1, h2, h3, _⟩ := count_ok h0
  have e : splitR id msg = ((List.range m).map (partAt id msg m), 0) := by rw [splitR, if_neg (by simp [h0]), hcm]; rfl
  exact ⟨m, ⟨by rw [e], h1, h2, h3⟩, by rw [e]⟩
theorem Cut.length {id : UInt64} {msg : List UInt8} {ps : List Pt} {m : Nat} (h : Cut id msg ps m) : ps.length = m := by rw [h.eq]; simp
theorem Cut.each {id : UInt64} {msg : List UInt8} {ps : List Pt} {m : Nat} (h : Cut id msg ps m) : ∀ p ∈ ps, p.kind = 1 ∧ checkR p = 0 ∧ p.id = id ∧ p.count = (m : Int) := by
  intro p hp
  rw [h.eq] at hp
  obtain ⟨i, hi, rfl⟩ := List.mem_map.1 hp
  exact ⟨rfl, part_ok h.lo h.hi (List.mem_range.1 hi), rfl, rfl⟩
theorem Cut.pairs {id : UInt64} {msg : List UInt8} {ps : List Pt} {m : Nat} (h : Cut id msg ps m) : ps.Pairwise (fun a b => a.count = b.count ∧ a.index ≠ b.index) := by
  rw [h.eq, List.pairwise_map]
  refine List.pairwise_lt_range.imp fun {a b} hab => ⟨rfl, ?_⟩
  show (a : Int) ≠ (b : Int); omega
theorem Cut.pairsP {id : UInt64} {msg : List UInt8} {ps qs : List Pt} {m : Nat} (h : Cut id msg ps m) (hp : qs.Perm ps) : qs.Pairwise (fun a b => a.count = b.count ∧ a.index ≠ b.index) :=
  (hp.pairwise_iff (fun {x y} hh => ⟨hh.1.symm, Ne.symm hh.2⟩)).2 h.pairs
theorem Cut.merge {id : UInt64} {msg : List UInt8} {ps qs : List Pt} {m : Nat} (h : Cut id msg ps m) (hp : qs.Perm ps) : mergeR qs = (msg, 0) := by
  have hl : qs.length = m := hp.length_eq.trans h.length
  cases qs with
  | nil => have := h.lo; simp at hl; omega
  | cons q l =>
    obtain ⟨_, _, h3, h4⟩ := h.each q (hp.mem_iff.1 List.mem_cons_self)
    have ht : takeT q.id [] (q :: l) = (q :: l, 0) := takeT_fresh (q :: l) [] (fun p hpm => by
      obtain ⟨a, b, c, _⟩ := h.each p (hp.mem_iff.1 hpm)
      exact ⟨a, b, c.trans h3.symm⟩) (h.pairsP hp)
    rw [merge_cons (by rw [h4, hl]), ht]
    have hw : whole (q :: l) = msg := by
      rw [whole_sorted hp.symm (fun i hi => by
        have : ps[i] = ((List.range m).map (partAt id msg m))[i]'(by rw [← h.eq]; exact hi) := by simp only [h.eq]
        rw [this]; simp [partAt])]
      rw [h.eq, List.flatMap_map]
      have := chunks msg m
      simp only [partAt]
      rw [this, List.take_of_length_le h.len]
    simp [hw]
theorem Cut.drop {id : UInt64} {msg : List UInt8} {ps : List Pt} {q : Pt} {l : List Pt} {m : Nat} (h : Cut id msg ps m) (hp : (q :: l).Perm ps) : mergeR l = ([], 2) := by
  have hl : (q :: l).length = m := hp.length_eq.trans h.length
  cases l with
  | nil => rfl
  | cons p l =>
    obtain ⟨_, _, _, h4⟩ := h.each p (hp.mem_iff.1 (by simp))
    show (if _ then _ else _) = _
    rw [if_pos (by rw [h4, ← hl]; simp only [List.length_cons]; omega)]
theorem Cut.dup {id : UInt64} {msg : List UInt8} {ps : List Pt} {q p : Pt} {l : List Pt} {m : Nat} (h : Cut id msg ps m) (hp : (q :: p :: l).Perm ps) : mergeR (p :: p :: l) = ([], 3) := by
  have hl : (q :: p :: l).length = m := hp.length_eq.trans h.length
  obtain ⟨_, _, _, h4⟩ := h.each p (hp.mem_iff.1 (by simp))
  rw [merge_cons (by rw [h4, ← hl]; rfl), if_pos]
  intro ht
  have := (takeT_ok ht).2.2
  exact ((List.pairwise_cons.1 this).1 p (by simp)).2 rfl
theorem swap_perm {α : Type} {qs : List α} {a b : Nat} (ha : a < qs.length) (hb : b < qs.length) : ((qs.set a qs[b]).set b qs[a]).Perm qs := by
  have h := Array.swap_perm (xs := qs.toArray) (i := a) (j := b) (by simpa using ha) (by simpa using hb)
  have := Array.perm_iff_toList_perm.1 h
  simpa [Array.swap] using this
theorem set_flat {qs : List Pp} {a : Nat} (ha : a < qs.length) (z : Pp) (o : Nat) (ho : o = a * 5) : setAt (qs.flatMap ppC) o (ppC z) = (qs.set a z).flatMap ppC := by
  subst ho
  have e : qs.flatMap ppC = (qs.take a).flatMap ppC ++ (ppC qs[a] ++ (qs.drop (a + 1)).flatMap ppC) := by
    rw [← List.flatMap_cons, ← List.flatMap_append, List.getElem_cons_drop, List.take_append_drop]
  have hl : ((qs.take a).flatMap ppC).length = a * 5 := by rw [flen, List.length_take, Nat.min_eq_left (by omega)]
  rw [List.set_eq_take_append_cons_drop, if_pos ha, List.flatMap_append, List.flatMap_cons, e]
  have e2 := setAt_mid ((qs.take a).flatMap ppC) (ppC qs[a] ++ (qs.drop (a + 1)).flatMap ppC) (ppC z) (by simp [ppC_len])
  rw [hl] at e2
  rw [e2, ppC_len, List.append_assoc]
  congr 2
theorem ppC_all (z : Pp) : (ppC z).all (·.oneCell') = true := by simp [ppC, ptC, Value.oneCell']
def swB (x : Int) (n : Nat) : Nat := if 0 ≤ x then (x % n).toNat else 0
theorem swB_lt {x : Int} {n : Nat} (h : 0 < n) : swB x n < n := by
  unfold swB
  split
  · have := Int.emod_lt_of_pos x (b := (n : Int)) (by omega)
    have := Int.emod_nonneg x (b := (n : Int)) (by omega)
    omega
  · exact h

theorem memI {x : It} {ps : List Pp} {L R : List It} (e : L = ps.map ppI ++ R) (h : x ∈ ps.map ppI) : x ∈ L := e ▸ List.mem_append_left _ h
theorem frame_MergeN (ps : List Pp) (n : Nat) (h : n = ps.length) (pa : Option Addr) (pc : Nat) (w : World) (hn : ps.length * 56 ≤ 140737488355328) (hp : RdPP w pa ps) :
    Ret Try.prog 23 [.slice pa n pc] w (fun v J => ∃ v1, NewB (mergeR (ps.map (·.1))).1 v1 J ∧ v = .tuple #[v1, i64 (mergeR (ps.map (·.1))).2]) := by
  subst h; exact frame_Merge ps pa pc w hn hp


set_option maxRecDepth 100000 in
theorem law_FrameOrders (id : UInt64) (a : Option Addr) (cap : Nat) (msg : List UInt8) (xa : Option Addr) (xc : Nat) (xs : List Int) (w : World) (hl : RdL w a (B msg)) (hb : msg.length ≤ 140737488351232) (hcap : msg.length ≤ cap) (hx : RdL w xa (xs.map i64)) (hxb : xs.length ≤ 1000000000000000) :
    Ret Try.prog 6 [u64 id, .slice a msg.length cap, .slice xa xs.length xc] w (fun v _ => v = .bool true) := by
  refine enter [] (Mem.nil _) Try.func6 rfl Try.ntmps6 rfl (fun X hX => ?_)
  have hw := hX.w0; subst hw
  refine G.seq <| G.reg <| W.q (sa rfl) rfl <| W.nil <| G.seq <| G.seq <| G.reg <| W.fv Try.ca22 rfl (fun w hm => law11_awake w) rfl <| W.q (nt rfl) rfl <| W.nil <| G.cdf rfl rfl <| G.skip <| G.seq <| G.seq <| G.reg <| W.q (mv rfl) rfl <| W.q (ln Try.esl22 rfl) rfl <| W.q (gt rfl rfl) rfl <| W.nil <| G.joinH [(1, .slice a (msg.take 7200).length cap)] [(0, _), (2, _)] ([]) (Sub.cons rfl <| Sub.cons rfl <| Sub.nil _) (fun ckey1 => ?_) ?_
  · -- cond 1
    refine G.cdd rfl (fun h1 => ?_) (fun h1 => ?_)
    · -- h1 True
      refine G.reg <| W.q (mv rfl) rfl <| W.q (shi Try.esl22 rfl rfl (by omega) (by omega)) rfl <| W.q (sa rfl) rfl <| W.nil <| ckey1.weak (Sub.co rfl ?_ <| Sub.cons rfl <| Sub.cons rfl <| Sub.nil _) .rfl
      · show Value.slice _ _ _ = _; congr 1; simp; omega
    · -- h1 False
      refine G.skip <| ckey1.weak (Sub.co rfl ?_ <| Sub.cons rfl <| Sub.cons rfl <| Sub.nil _) .rfl
      · show Value.slice _ _ _ = _; congr 1; simp; omega
  obtain ⟨ms, hmse⟩ : ∃ ms, msg.take 7200 = ms := ⟨_, rfl⟩
  have hml : ms.length ≤ 7200 := by rw [← hmse]; simp; omega
  have hmc : ms.length ≤ cap := by rw [← hmse]; simp; omega
  have hms : RdL X.w0 a (B ms) := by have := hl.take 7200; rw [← hmse]; simpa [B, List.map_take] using this
  rw [hmse]
  obtain ⟨m, hcut, hcut0⟩ := cut_of (id := id) (msg := ms) hml
  refine G.seq <| G.reg <| W.q (mv rfl) rfl <| W.q (mv rfl) rfl <| W.fn Try.ca13 rfl (fun w hm => ref01_Copy a cap ms w (hm.rd rfl hms) (by omega)) rfl fun v J hv hJ => ?_
  obtain ⟨a1, c1, rfl, rfl⟩ := hv
  refine W.slAt (a := a1) (m := _) (cap := c1) (E := 5) (s := 1) (xs := _) (.head _) (fun q1 q2 q3 q4 => ?_)
  refine W.fn Try.ca26 rfl (fun w hm => frame_Split id a1 c1 ms w (hm.slRd (.head _)) (by omega) q2) rfl fun v J hv hJ => ?_
  rw [hcut0] at hv
  obtain ⟨v1, ⟨a2, c2, ps, hps, rfl, rfl⟩, rfl⟩ := hv
  have hpl : ps.length = m := by have := congrArg List.length hps; rw [List.length_map, hcut.length] at this; exact this
  have hpos : 0 < ps.length := by have := hcut.lo; omega
  have hp16 : ps.length ≤ 16 := by have := hcut.hi; omega
  have hdl : ∀ p ∈ ps, p.1.data.length ≤ 140737488351232 := fun p hp => by
    have := check_ok (hcut.each p.1 (by rw [← hps]; exact List.mem_map_of_mem hp)).2.1
    omega
  refine W.slAt (a := a2) (m := ps.length) (cap := c2) (E := 66) (s := 5) (xs := ps.flatMap ppC) (.head _) (fun r1 r2 r3 r4 => ?_)
  obtain ⟨g, rfl⟩ : ∃ g, a2 = some ⟨g, 0, none⟩ := r4.elim (fun h => absurd h.2.2 (by omega)) (fun h => h)
  refine W.q (mv rfl) rfl <| W.q (ex rfl rfl) rfl <| W.q (ex rfl rfl) rfl <| W.q (sa rfl) rfl <| W.q (sa rfl) rfl <| W.nil <| G.seq <| G.seq <| G.reg <| W.q (mv rfl) rfl <| W.q (ne rfl rfl) rfl <| W.q (mv rfl) rfl <| W.sp (t := _) 30 rfl (fun g2 => ?_) (fun g2 => ?_)
  · -- True
    simp at g2
  · -- False
    refine W.qg rfl rfl g2 (mv rfl) rfl <| W.qg rfl rfl g2 (ln Try.esl57 rfl) rfl <| W.qg rfl rfl g2 (eq rfl rfl) rfl <| W.q (pkf rfl g2 rfl) rfl <| W.nil <| G.cdd rfl (fun h3 => ?_) (fun h3 => ?_)
    · -- h3 True
      exact absurd h3 (by omega)
    · -- h3 False
      refine G.skip <| G.seq <| G.seq <| G.reg <| W.q (mv rfl) rfl <| W.q (ln Try.esl62 rfl) rfl <| W.q (mv rfl) rfl <| W.nil <| G.blk <| G.loop2 (α := Nat) (β := List Pp) (fun k qs => k ≤ xs.length ∧ qs.Perm ps) (fun k qs => [(37, i64 k)]) (fun k qs => [sl (some ⟨g, 0, none⟩) ps.length c2 66 5 (qs.flatMap ppC)]) (fun k qs => xs.length - k) [(1, _), (7, _), (35, _), (36, _)] _ 0 ps ⟨by omega, .refl _⟩ (Sub.cons rfl <| Sub.cons rfl <| Sub.cons rfl <| Sub.cons rfl <| Sub.cons rfl <| Sub.nil _) .rfl (fun k qs hk ih => ?_)
      refine G.seq <| G.reg <| W.q (lt rfl rfl) rfl <| W.nil <| G.seq <| G.cdd rfl (fun h4 => ?_) (fun h4 => ?_)
      · -- h4 True
        have hk' : k < xs.length := by omega
        obtain ⟨xb, xo, rfl, hxc⟩ := hx k (i64 xs[k]) (by rw [List.getElem?_map, List.getElem?_eq_getElem hk']; rfl)
        obtain ⟨i1, hi1, hi1l⟩ : ∃ i1 : Nat, (k : Int) % (ps.length : Int) = (i1 : Int) ∧ i1 < ps.length := ⟨k % ps.length, by omega, Nat.mod_lt _ hpos⟩
        generalize xs[k] = xv at hxc
        have hxc : X.w0.cell? ⟨xb, xo + (k : Int).toNat * 1, none⟩ = some (i64 xv) := by simpa using hxc
        refine G.skip <| G.seq <| G.blk <| G.seq <| G.reg <| W.q (mv rfl) rfl <| W.q (ia Try.esl62 rfl rfl (by omega) (by omega)) rfl <| W.q (ld Try.sc3 rfl (Cell.old (by simp [allNew, ppI, sl]) hxc)) rfl <| W.q (sa rfl) rfl <| W.q (sa rfl) rfl <| W.nil <| G.seq <| G.reg <| W.q (mv rfl) rfl <| W.q (mv rfl) rfl <| W.q (ln Try.esl57 rfl) rfl <| W.q (rm rfl rfl (by omega) (by omega)) rfl <| W.q (sa rfl) rfl <| W.q (sa rfl) rfl <| W.nil <| G.seq <| G.seq <| ?_
        rw [hi1]
        refine G.reg <| W.q (mv rfl) rfl <| W.q (ge rfl rfl) rfl <| W.nil <| G.joinH [(12, i64 ((swB xv ps.length : Nat) : Int))] [(1, _), (7, _), (11, _), (35, _), (36, _), (37, _)] (sl (some ⟨g, 0, none⟩) ps.length c2 66 5 (qs.flatMap ppC) :: (ps.map ppI ++ [sl a1 ms.length c1 5 1 (B ms)])) (Sub.cons rfl <| Sub.cons rfl <| Sub.cons rfl <| Sub.cons rfl <| Sub.cons rfl <| Sub.cons rfl <| Sub.nil _) (fun ckey4 => ?_) ?_
        · -- cond 4
          refine G.cdd rfl (fun h5 => ?_) (fun h5 => ?_)
          · -- h5 True
            refine G.reg <| W.q (mv rfl) rfl <| W.q (mv rfl) rfl <| W.q (ln Try.esl57 rfl) rfl <| W.q (rm rfl rfl (by omega) (by omega)) rfl <| W.q (sa rfl) rfl <| W.nil <| ckey4.weak (Sub.co rfl ?_ <| Sub.cons rfl <| Sub.cons rfl <| Sub.cons rfl <| Sub.cons rfl <| Sub.cons rfl <| Sub.cons rfl <| Sub.nil _) .rfl
            · have hnn := Int.emod_nonneg xv (b := (ps.length : Int)) (by omega)
              show i64 _ = i64 _; congr 1; rw [swB, if_pos h5]; omega
          · -- h5 False
            refine G.skip <| ckey4.weak (Sub.co rfl ?_ <| Sub.cons rfl <| Sub.cons rfl <| Sub.cons rfl <| Sub.cons rfl <| Sub.cons rfl <| Sub.cons rfl <| Sub.nil _) .rfl
            · show i64 _ = i64 _; rw [swB, if_neg h5]; rfl
        have hi2 := swB_lt (x := xv) hpos
        generalize swB xv ps.length = i2 at hi2 ⊢
        have hql := hk.2.length_eq
        have hZ2 := Rdf.el (w0 := X.w0) (H := sl (some ⟨g, 0, none⟩) ps.length c2 66 5 (qs.flatMap ppC) :: (ps.map ppI ++ [sl a1 ms.length c1 5 1 (B ms)])) (Rdf.sl (.head _)) i2 (by omega) (0 + (i2 : Int).toNat * 5) (by omega)
        have hZ1 := Rdf.el (w0 := X.w0) (H := sl (some ⟨g, 0, none⟩) ps.length c2 66 5 (qs.flatMap ppC) :: (ps.map ppI ++ [sl a1 ms.length c1 5 1 (B ms)])) (Rdf.sl (.head _)) i1 (by omega) (0 + (i1 : Int).toNat * 5) (by omega)
        have hperm := (swap_perm (qs := qs) (a := i1) (b := i2) (by omega) (by omega)).trans hk.2
        have hs1 := set_flat (qs := qs) (a := i1) (by omega) (qs[i2]'(by omega)) (0 + (i1 : Int).toNat * 5) (by omega)
        have hs2 := set_flat (qs := qs.set i1 (qs[i2]'(by omega))) (a := i2) (by simp; omega) (qs[i1]'(by omega)) (0 + (i2 : Int).toNat * 5) (by omega)
        generalize qs[i2] = z2 at hZ2 hperm hs1 hs2
        generalize qs[i1] = z1 at hZ1 hperm hs2
        refine G.rega 16 rfl Try.mixed <| A.q 0 rfl (by kernel_rfl) (fun _ => (mv rfl)) rfl <| A.q 1 rfl (by kernel_rfl) (fun _ => (mv rfl)) rfl <| A.q 2 rfl (by kernel_rfl) (fun _ => (mv rfl)) rfl <| A.q 3 rfl (by kernel_rfl) (fun _ => (mv rfl)) rfl <| A.q 4 rfl (by kernel_rfl) (fun _ => (mv rfl)) rfl <| A.q 5 rfl (by kernel_rfl) (fun _ => (mv rfl)) rfl <| A.q 6 rfl (by kernel_rfl) (fun _ => (ia Try.esl57 rfl rfl (by omega) (by omega))) rfl <| A.q 8 rfl (by kernel_rfl) (fun _ => (mv rfl)) rfl <| A.q 9 rfl (by kernel_rfl) (fun _ => (mv rfl)) rfl <| A.q 10 rfl (by kernel_rfl) (fun _ => (ia Try.esl57 rfl rfl (by omega) (by omega))) rfl <| A.held 7 [11] rfl (by kernel_rfl) (lda Try.agg66 Try.sz66 rfl hZ2 rfl) rfl <| A.held 11 [] rfl (by kernel_rfl) (lda Try.agg66 Try.sz66 rfl hZ1 rfl) rfl <| A.q 12 rfl (by kernel_rfl) (fun _ => (ia Try.esl57 rfl rfl (by omega) (by omega))) rfl <| A.one 13 rfl (by kernel_rfl) <| W.stS (xs' := (qs.set i1 z2).flatMap ppC) Try.sz66 rfl rfl rfl (ppC_len _) (ppC_all z2) .hd (by omega) hs1 <| A.back <| A.q 14 rfl (by kernel_rfl) (fun _ => (ia Try.esl57 rfl rfl (by omega) (by omega))) rfl <| A.one 15 rfl (by kernel_rfl) <| W.stS (xs' := ((qs.set i1 z2).set i2 z1).flatMap ppC) Try.sz66 rfl rfl rfl (ppC_len _) (ppC_all z1) .hd (by omega) hs2 <| A.back <| A.nil (by kernel_rfl) <| G.inb <| G.reg <| W.q (ad rfl rfl (by omega)) rfl <| W.q (mv rfl) rfl <| W.nil <| (ih (k + 1) ((qs.set i1 z2).set i2 z1) ⟨by omega, hperm⟩ (by omega)).weak (Sub.cons rfl <| Sub.cons rfl <| Sub.cons rfl <| Sub.cons rfl <| Sub.cons rfl <| Sub.nil _) .rfl
      · -- h4 False
        have hql := hk.2.length_eq
        have hpm : (qs.map (·.1)).Perm (splitR id ms).1 := by rw [← hps]; exact hk.2.map (fun x : Pp => x.1)
        refine G.exit rfl <| G.seq <| G.reg <| W.q (mv rfl) rfl <| W.fn Try.ca23 rfl (fun w hm => frame_MergeN qs ps.length hql.symm (some ⟨g, 0, none⟩) c2 w (by omega) ⟨hm.slRd (m := ps.length) (cap := c2) (E := 66) (s := 5) (.head _), fun p hp => ⟨hm.slRd (.tail _ (memI (ps := ps) (R := _) rfl (List.mem_map_of_mem (f := ppI) (hk.2.mem_iff.1 hp)))), hdl p (hk.2.mem_iff.1 hp)⟩⟩) rfl fun v J hv hJ => ?_
        rw [hcut.merge hpm] at hv
        obtain ⟨v1, ⟨a5, c5, rfl, rfl⟩, rfl⟩ := hv
        refine W.q (mv rfl) rfl <| W.q (ex rfl rfl) rfl <| W.q (ex rfl rfl) rfl <| W.q (sa rfl) rfl <| W.q (sa rfl) rfl <| W.nil <| G.seq <| G.seq <| G.reg <| W.q (mv rfl) rfl <| W.q (ne rfl rfl) rfl <| W.q (mv rfl) rfl <| W.sp (t := _) 74 rfl (fun g6 => ?_) (fun g6 => ?_)
        · -- True
          simp at g6
        · -- False
          refine W.qg rfl rfl g6 (mv rfl) rfl <| W.qg rfl rfl g6 (mv rfl) rfl <| W.fvg rfl rfl g6 Try.ca15 rfl (fun w hm => ref01_EqualT (hm.slRd (.head _)) (by show ms.length ≤ _; omega) (hm.rd (by simp [allNew, ppI, sl]) hms) rfl rfl rfl) rfl <| W.qg rfl rfl g6 (nt rfl) rfl <| W.q (pkf rfl g6 rfl) rfl <| W.nil <| G.cdf rfl rfl <| G.skip <| G.seq <| G.reg <| W.q (mv rfl) rfl <| W.q (slo Try.esl57 rfl rfl (by omega) (by omega)) rfl <| ?_
          obtain ⟨z, l, rfl⟩ : ∃ z l, qs = z :: l := by
            cases qs with
            | nil => (have := hql; simp at this; omega)
            | cons z l => exact ⟨z, l, rfl⟩
          refine W.fn Try.ca23 rfl (fun w hm => frame_MergeN l _ (by simp only [List.length_cons] at hql; simp; omega) (slA (some ⟨g, 0, none⟩) 1 c2 5) _ w (by simp only [List.length_cons] at hql; omega) ⟨by have := (hm.slRd (m := ps.length) (cap := c2) (E := 66) (s := 5) (.tail _ <| .head _)).slA (l := 1) (cap := c2) (s := 5) (by rw [flen]; omega); exact this, fun p hp => ⟨hm.slRd (.tail _ (.tail _ (memI (ps := ps) (R := _) rfl (List.mem_map_of_mem (f := ppI) (hk.2.mem_iff.1 (.tail _ hp)))))), hdl p (hk.2.mem_iff.1 (.tail _ hp))⟩⟩) rfl fun v J hv hJ => ?_
          rw [hcut.drop hpm] at hv
          obtain ⟨v1, ⟨a6, c6, rfl, rfl⟩, rfl⟩ := hv
          refine W.q (mv rfl) rfl <| W.q (ex rfl rfl) rfl <| W.q (ex rfl rfl) rfl <| W.q (sa rfl) rfl <| W.nil <| G.seq <| G.seq <| G.reg <| W.q (mv rfl) rfl <| W.q (ne rfl rfl) rfl <| W.nil <| G.cdd rfl (fun h7 => ?_) (fun h7 => ?_)
          · -- h7 True
            simp at h7
          · -- h7 False
            refine G.skip <| G.seq <| G.seq <| G.reg <| W.q (mv rfl) rfl <| W.q (ln Try.esl57 rfl) rfl <| W.q (gt rfl rfl) rfl <| W.nil <| G.cdd rfl (fun h8 => ?_) (fun h8 => ?_)
            · -- h8 True
              obtain ⟨p, l, rfl⟩ : ∃ p l', l = p :: l' := by
                cases l with
                | nil => (have := hql; simp at this; omega)
                | cons z l => exact ⟨z, l, rfl⟩
              have hZ3 := fun (H' : List It) (hi : sl (some ⟨g, 0, none⟩) ps.length c2 66 5 ((z :: p :: l).flatMap ppC) ∈ H') => Rdf.el (w0 := X.w0) (H := H') (Rdf.sl hi) 1 (by simp) (0 + (1 : Int).toNat * 5) (by simp)
              have hs3 := set_flat (qs := z :: p :: l) (a := 0) (by simp) p (0 + (0 : Int).toNat * 5) (by simp)
              have hqm : ∀ q ∈ p :: p :: l, q ∈ z :: p :: l := fun q hq => by
                rcases List.mem_cons.1 hq with rfl | hq
                · exact .tail _ (.head _)
                · exact .tail _ hq
              refine G.seq <| G.reg <| W.q (mv rfl) rfl <| W.q (mv rfl) rfl <| W.q (ia Try.esl57 rfl rfl (by omega) (by omega)) rfl <| W.q (lda Try.agg66 Try.sz66 rfl (hZ3 _ (.tail _ <| .tail _ <| .head _)) rfl) rfl <| W.q (ia Try.esl57 rfl rfl (by omega) (by omega)) rfl <| W.stS (xs' := (p :: p :: l).flatMap ppC) Try.sz66 rfl rfl rfl (ppC_len _) (ppC_all p) (.tl <| .tl <| .hd) (by simp; omega) hs3 <| W.nil <| G.seq <| G.reg <| W.q (mv rfl) rfl <| W.fn Try.ca23 rfl (fun w hm => frame_MergeN (p :: p :: l) ps.length (by rw [← hql]; rfl) (some ⟨g, 0, none⟩) c2 w (by simp only [List.length_cons] at hql ⊢; omega) ⟨hm.slRd (m := ps.length) (cap := c2) (E := 66) (s := 5) (.tail _ <| .tail _ <| .head _), fun q hq => ⟨hm.slRd (.tail _ (.tail _ (.tail _ (memI (ps := ps) (R := _) rfl (List.mem_map_of_mem (f := ppI) (hk.2.mem_iff.1 (hqm q hq))))))), hdl q (hk.2.mem_iff.1 (hqm q hq))⟩⟩) rfl fun v J hv hJ => ?_
              rw [show ((p :: p :: l).map (·.1)) = p.1 :: p.1 :: l.map (·.1) from rfl, hcut.dup hpm] at hv
              obtain ⟨v1, ⟨a7, c7, rfl, rfl⟩, rfl⟩ := hv
              refine W.q (mv rfl) rfl <| W.q (ex rfl rfl) rfl <| W.q (ex rfl rfl) rfl <| W.q (sa rfl) rfl <| W.nil <| G.seq <| G.reg <| W.q (mv rfl) rfl <| W.q (eq rfl rfl) rfl <| W.q (sa rfl) rfl <| W.nil <| ret1 hX Try.results6 rfl fun w hm => done (H := []) rfl ?_ (Dr.ent (Dr.new (by simp [allNew, ppI, sl])) w hm)
              rfl
            · -- h8 False
              refine G.skip <| G.seq <| G.reg <| W.q (sa rfl) rfl <| W.nil <| ret1 hX Try.results6 rfl fun w hm => done (H := []) rfl ?_ (Dr.ent (Dr.new (by simp [allNew, ppI, sl])) w hm)
              rfl
end Go.Proofs.Ytjalojbihpdghaa
