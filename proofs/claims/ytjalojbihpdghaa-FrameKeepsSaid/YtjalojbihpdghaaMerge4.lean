/- Parts sorted and put together: the program's. -/
import Derived.Test.YtjalojbihpdghaaMerge3
namespace Go.Proofs.Ytjalojbihpdghaa
open Go Go.Shelf Go.RowKit Go.Lib Go.Sort Go.Eng

set_option maxRecDepth 100000 in
theorem slv_sort (w0 : World) (H : List It) (g cap : Nat) (ps : List Pp) (hsz : ps.length < 4611686018427387904) :
    RetF Try.prog 104 [.slice (some ⟨g, 0, none⟩) ps.length cap, .func (.func 82) #[] #[]] w0 H [sl (some ⟨g, 0, none⟩) ps.length cap 66 5 (ps.flatMap ppC)]
      (fun v J => ∃ qs : List Pp, qs.length = ps.length ∧ qs.Perm ps ∧ (∀ i j (hi : i < j) (hj : j < qs.length), ¬ qs[j].1.index < (qs[i]'(by omega)).1.index) ∧ J = [sl (some ⟨g, 0, none⟩) ps.length cap 66 5 (qs.flatMap ppC)] ∧ v = .tuple #[]) := by
  intro w hm
  have hown := hm.holds _ List.mem_cons_self
  obtain ⟨hH, hb⟩ := Own.holdsK (k := 5) (enc := ppC) (d := ps.toArray) ppC_len rfl hown
  have eg : ∀ args w, (callFunc 82 args).run Try.prog w = .ok (.enter 82 args) w := enters_of Try.func82 (by kernel_rfl) rfl
  have hcmp : CmpLays Try.prog 82 #[] ppC 5 cfI g 0 ps.toArray.size w := fun _ _ _ _ x y => cmp_clo x y _
  have h1 : ∀ x : Pp, ∀ v ∈ ppC x, v.oneCell' = true := fun x v hv => by
    have := List.all_eq_true.1 (ppC_one [x]) v (by simpa using hv)
    exact this
  have hcon := AnyQ.slices_SortFunc Try.sortPt 5 Try.isAgg66 Try.sizeOf66 ppC ppC_len h1 cfI swoI 82 #[] g 0 cap ps.toArray w eg hcmp hH hb (by simpa using hsz)
  change Calls Try.prog 104 _ _ _ at hcon
  refine Calls.mono hcon fun en w' ⟨he, d', n, os, hp, hs, hw⟩ => ?_
  subst he; subst hw
  have hsize : d'.size = ps.length := by have := hp.1; simpa using this
  have hperm : d'.toList.Perm ps := by
    have h2 := hp.2.2
    simp only [List.size_toArray] at h2
    rw [← hsize] at h2
    simp [hsize] at h2
    rwa [List.take_of_length_le (by simp [hsize])] at h2
  refine ⟨_, [sl (some ⟨g, 0, none⟩) ps.length cap 66 5 (d'.toList.flatMap ppC)], rfl, ?_, rfl, d'.toList, by simpa using hsize, hperm, ?_, rfl, rfl⟩
  · exact sort_mem ppC_len (d := ps.toArray) hp.1 hm
  · intro i j hi hj
    have hj' : j < d'.size := by simpa using hj
    have := hs i j (Nat.zero_le _) hi (by simpa [hsize] using hj')
    rw [ltI, getElem!_pos d' j hj', getElem!_pos d' i (by omega)] at this
    simpa using this
def missR (ps : List Pt) : Int := match ps with | [] => 1 | p :: l => p.count - ((p :: l).length : Int)
def bytesR (ps : List Pt) : List UInt8 × Int := if 0 < missR ps then ([], 2) else (whole ps, 0)
theorem KInv.counts {ps : List Pt} (h : KInv ps) (hm : ¬ 0 < missR ps) : ∀ p ∈ ps, p.count ≤ (ps.length : Int) := by
  cases ps with
  | nil => simp
  | cons q l =>
    intro p hp
    have h0 : q.count ≤ ((q :: l).length : Int) := by
      have e : missR (q :: l) = q.count - ((q :: l).length : Int) := rfl
      rw [e] at hm; omega
    rcases List.mem_cons.1 hp with rfl | hp
    · exact h0
    · have := ((List.pairwise_cons.1 h.2).1 p hp).1
      omega


set_option maxRecDepth 100000 in
theorem slv_sorted (bx : Nat) (a : Option Addr) (m cap : Nat) (ps : List Pp) (w : World) (hm : m = ps.length) (hmb : m * 56 ≤ 140737488351232) (hbox : RdL w (some ⟨bx, 0, none⟩) [.slice a m cap]) (hel : RdL w a (ps.flatMap ppC)) (hpos : 0 < m) :
    Ret Try.prog 80 [.func (.func 105) #[] [ptr bx 0].toArray, .func (.func 82) #[] #[]] w (fun v J => ∃ (a' : Option Addr) (c' : Nat) (qs : List Pp), qs.length = m ∧ qs.Perm ps ∧ (∀ i j (hi : i < j) (hj : j < qs.length), ¬ qs[j].1.index < (qs[i]'(by omega)).1.index) ∧ v = .slice a' m c' ∧ J = [sl a' m c' 66 5 (qs.flatMap ppC)]) := by
  refine enter [] (Mem.nil _) Try.func80 rfl Try.ntmps80 rfl (fun X hX => ?_)
  have hw := hX.w0; subst hw
  have hm0 := hm
  subst hm
  refine G.seq <| G.reg <| W.q (sa rfl) rfl <| W.nil <| G.seq <| G.reg <| W.q (mv rfl) rfl <| W.fn Try.ca103 rfl (fun w hm => slv_collect bx a ps.length cap ps w rfl hmb (hm.rd rfl hbox) (hm.rd rfl hel)) rfl fun v J hv hJ => ?_
  obtain ⟨a1, c1, rfl, rfl⟩ := hv
  refine W.slAt (a := a1) (m := ps.length) (cap := c1) (E := 66) (s := 5) (xs := ps.flatMap ppC) (.head _) (fun p1 p2 p3 p4 => ?_)
  obtain ⟨g, rfl⟩ : ∃ g, a1 = some ⟨g, 0, none⟩ := p4.elim (fun h => absurd h.2.2 (by omega)) id
  refine W.q (sa rfl) rfl <| W.nil <| G.seq <| G.reg <| W.q (mv rfl) rfl <| W.q (mv rfl) rfl <| W.ff Try.ca104 rfl (Ent.perm (.refl _)) (slv_sort X.w0 [] g c1 ps (by omega)) rfl rfl fun v J hv hJ => ?_
  obtain ⟨qs, hql, hqp, hqs, rfl, rfl⟩ := hv
  refine W.nil <| G.seq <| G.reg <| W.q (mv rfl) rfl <| W.q (sa rfl) rfl <| W.nil <| ret1 hX Try.results80 rfl fun w hm => done (H := [sl (some ⟨g, 0, none⟩) ps.length c1 66 5 (qs.flatMap ppC)]) rfl ⟨_, c1, qs, hql, hqp, hqs, rfl, rfl⟩ hm


set_option maxRecDepth 100000 in
theorem msg_Missing (w0 : World) (H : List It) (b : Nat) (id : UInt64) (a : Option Addr) (c : Nat) (ps : List Pp) (hn : ps.length ≤ 1000000000000) (hk : KInv (ps.map (·.1))) :
    RetF Try.prog 79 [ptr b 0] w0 H (msI b id a c ps) (fun v J => v = i64 (missR (ps.map (·.1))) ∧ J = msI b id a c ps) := by
  refine enterF Try.func79 rfl Try.ntmps79 rfl (fun X hX => ?_)
  have hw := hX.w0; subst hw
  refine G.seq <| G.reg <| W.q (sa rfl) rfl <| W.nil <| G.seq <| G.seq <| G.reg <| W.q (mv rfl) rfl <| W.q (ncp rfl) rfl <| W.q (fa Try.fof108_1 rfl) rfl <| W.q (ld Try.sc57 rfl (Cell.at .hd rfl)) rfl <| W.q (ln Try.esl57 rfl) rfl <| W.q (eq rfl rfl) rfl <| W.nil <| G.cdd rfl (fun h1 => ?_) (fun h1 => ?_)
  · -- h1 True
    refine G.seq <| G.reg <| W.q (sa rfl) rfl <| W.nil <| ret1 hX Try.results79 rfl fun w hm => doneF (Pre' := msI b id a c ps) (msI_new _ _ _ _ _) ⟨?_, rfl⟩ hm .rfl
    cases ps with | nil => rfl | cons q l => (have := h1; simp at this; omega)
  · -- h1 False
    obtain ⟨q, l, rfl⟩ : ∃ q l, ps = q :: l := by
      cases ps with
      | nil => simp at h1
      | cons q l => exact ⟨q, l, rfl⟩
    obtain ⟨q1, q2, q3⟩ := q
    have hlpos : 0 < ((q1, q2, q3) :: l).length := by simp
    refine G.rdB (a := a) (Rdf.sl (m := ((q1, q2, q3) :: l).length) (cap := c) (E := 66) (s := 5) (xs := ((q1, q2, q3) :: l).flatMap ppC) (.tail _ <| .head _)) (by rw [flen]; omega) (fun zb zo ho hRd => ?_)
    subst ho
    have hC := Rdf.el hRd 0 hlpos (zo + (0 : Int).toNat * 5) (by simp)
    have hC : Cells X.w0 _ zb (zo + (0 : Int).toNat * 5) (ptC q1 q2 q3) := hC
    have hcnt := check_ok (hk.1 q1 (by simp))
    refine G.skip <| G.seq <| G.regq Try.mixed (by kernel_rfl) <| W.q (mv rfl) rfl <| W.q (ncp rfl) rfl <| W.q (fa Try.fof108_1 rfl) rfl <| W.q (ld Try.sc57 rfl (Cell.at .hd rfl)) rfl <| W.q (ia Try.esl57 rfl rfl (by omega) (by omega)) rfl <| W.q (fa Try.fof66_3 rfl) rfl <| W.q (ld Try.sc3 rfl (hC 3 _ rfl)) rfl <| W.q (mv rfl) rfl <| W.q (ncp rfl) rfl <| W.q (fa Try.fof108_1 rfl) rfl <| W.q (ld Try.sc57 rfl (Cell.at .hd rfl)) rfl <| W.q (ln Try.esl57 rfl) rfl <| W.q (sb rfl rfl (by omega)) rfl <| W.q (sa rfl) rfl <| W.nilq <| ret1 hX Try.results79 rfl fun w hm => doneF (Pre' := msI b id _ c ((q1, q2, q3) :: l)) (msI_new _ _ _ _ _) ⟨?_, rfl⟩ hm .rfl
    show i64 _ = i64 _; simp [missR]

theorem dat_step {l : List Pt} {k : Nat} (hk : k < l.length) : (l.take (k + 1)).flatMap (·.data) = (l.take k).flatMap (·.data) ++ l[k].data := by
  rw [List.take_succ_eq_append_getElem hk, List.flatMap_append]; simp
theorem dat_len {l : List Pt} (h : ∀ p ∈ l, p.data.length ≤ 450) (k : Nat) : ((l.take k).flatMap (·.data)).length ≤ l.length * 450 := by
  have h1 := flat_len (l := l.take k) (fun p hp => h p (List.mem_of_mem_take hp))
  rw [List.length_take] at h1
  exact Nat.le_trans h1 (Nat.mul_le_mul_right _ (Nat.min_le_right _ _))
set_option maxRecDepth 100000 in
theorem whole_qs {ps qs : List Pp} (hk : KInv (ps.map (·.1))) (hm : ¬ 0 < missR (ps.map (·.1))) (hp : qs.Perm ps) (hs : ∀ i j (hi : i < j) (hj : j < qs.length), ¬ qs[j].1.index < (qs[i]'(by omega)).1.index) : whole (ps.map (·.1)) = (qs.map (·.1)).flatMap (·.data) := by
  have h1 := hk.counts hm
  have h2 : (qs.map (·.1)).Perm (ps.map (·.1)) := hp.map (fun x : Pp => x.1)
  exact whole_of_sort hk h1 h2 (fun i j hi hj => by
    rw [List.getElem_map, List.getElem_map]
    exact hs i j hi (by simpa using hj))


set_option maxRecDepth 100000 in
theorem msg_Bytes (w0 : World) (H : List It) (hH : allNew H = true) (b : Nat) (id : UInt64) (a : Option Addr) (c : Nat) (ps : List Pp) (hn : ps.length ≤ 1000000) (hk : KInv (ps.map (·.1))) :
    RetF Try.prog 53 [ptr b 0] w0 H (msI b id a c ps) (fun v J => ∃ a' c', v = .tuple #[.slice a' (bytesR (ps.map (·.1))).1.length c', i64 (bytesR (ps.map (·.1))).2] ∧ J = sl a' (bytesR (ps.map (·.1))).1.length c' 5 1 (B (bytesR (ps.map (·.1))).1) :: msI b id a c ps) := by
  refine enterF Try.func53 rfl Try.ntmps53 rfl (fun X hX => ?_)
  have hw := hX.w0; subst hw
  refine G.seq <| G.reg <| W.q (sa rfl) rfl <| W.q (sa rfl) rfl <| W.nil <| G.seq <| G.seq <| G.reg <| W.q (mv rfl) rfl <| W.ff Try.ca79 rfl (Ent.perm (.trans (.trans (.cons _ (.refl _)) (.swap _ _ _)) (.trans (.cons _ (.refl _)) (.swap _ _ _)))) (msg_Missing X.w0 H b id a c ps (by omega) hk) rfl rfl fun v J hv hJ => ?_
  obtain ⟨rfl, rfl⟩ := hv
  refine W.q (gt rfl rfl) rfl <| W.nil <| G.cdd rfl (fun h1 => ?_) (fun h1 => ?_)
  · -- h1 True
    refine G.seq <| G.reg <| W.q (sa rfl) rfl <| W.q (sa rfl) rfl <| W.nil <| ret2 hX Try.results53 rfl rfl fun w hm => doneF (Pre' := sl none 0 0 5 1 [] :: msI b id a c ps) (allNew_cons rfl (msI_new _ _ _ _ _)) ?_ (Mem.slNil hm 5 1) .rfl
    have e : bytesR (ps.map (·.1)) = ([], 2) := by rw [bytesR, if_pos h1]
    rw [e]; exact ⟨none, 0, rfl, rfl⟩
  · -- h1 False
    have hpos : 0 < ps.length := by
      cases ps with
      | nil => exact absurd (show (0 : Int) < missR [] by decide) h1
      | cons q l => simp
    refine G.skip <| G.seq <| G.reg <| W.q (mv rfl) rfl <| W.q (ncp rfl) rfl <| W.q (fa Try.fof108_1 rfl) rfl <| W.q (ld Try.sc57 rfl (Cell.at .hd rfl)) rfl <| W.fn Try.ca81 rfl (fun w hm => slv_make a ps.length c w) rfl fun v J hv hJ => ?_
    obtain ⟨bx, rfl, rfl⟩ := hv
    refine W.fn Try.ca80 rfl (fun w hm => slv_sorted bx a ps.length c ps w rfl (by omega) (hm.rowRd .hd) (hm.slRd (m := ps.length) (cap := c) (E := 66) (s := 5) (.tail _ <| .tail _ <| .head _)) hpos) rfl fun v J hv hJ => ?_
    obtain ⟨a1, c1, qs, hql, hqp, hqs, rfl, rfl⟩ := hv
    rw [← hql]
    have hwq := whole_qs hk h1 hqp hqs
    have hd450 : ∀ p ∈ qs.map (·.1), p.data.length ≤ 450 := fun p hpm => (check_ok (hk.1 p ((hqp.map _).mem_iff.1 hpm))).2.1
    have hlm : (qs.map (·.1)).length = qs.length := List.length_map ..
    refine W.q (sa rfl) rfl <| W.nil <| G.seq <| G.reg <| W.q (sa rfl) rfl <| W.nil <| G.seq <| G.seq <| G.reg <| W.q (mv rfl) rfl <| W.q (ln Try.esl57 rfl) rfl <| W.q (mv rfl) rfl <| W.nil <| G.blk <| G.loop3 (α := Nat) (β := Option Addr) (γ := Nat) (fun k a2 c2 => k ≤ qs.length) (fun k a2 c2 => [(5, .slice a2 (((qs.map (·.1)).take k).flatMap (·.data)).length c2), (19, i64 k)]) (fun k a2 c2 => [sl a2 (((qs.map (·.1)).take k).flatMap (·.data)).length c2 5 1 (B (((qs.map (·.1)).take k).flatMap (·.data)))]) (fun k a2 c2 => qs.length - k) [(17, _), (18, _)] _ 0 none 0 (by omega) (Sub.cons rfl <| Sub.cons rfl <| Sub.cons rfl <| Sub.cons rfl <| Sub.nil _) (fun w hm => hm.slNil 5 1) (fun k a2 c2 hkk ih => ?_)
    refine G.seq <| G.reg <| W.q (lt rfl rfl) rfl <| W.nil <| G.seq <| G.cdd rfl (fun h2 => ?_) (fun h2 => ?_)
    · -- h2 True
      have hk' : k < qs.length := by omega
      have hkm : k < (qs.map (·.1)).length := by omega
      refine G.rdB (a := a1) (Rdf.sl (m := qs.length) (cap := c1) (E := 66) (s := 5) (xs := qs.flatMap ppC) (.tail _ <| .head _)) (by rw [flen]; omega) (fun zb zo ho hRd => ?_)
      subst ho
      have hC := Rdf.el hRd k hk' (zo + (k : Int).toNat * 5) (by omega)
      have hst := dat_step hkm
      have hdl := dat_len hd450 k
      have hdz := hd450 _ (List.getElem_mem hkm)
      rw [List.getElem_map] at hst hdz
      have hmem : qs[k] ∈ ps := hqp.mem_iff.1 (List.getElem_mem hk')
      generalize qs[k] = z at hC hst hdz hmem
      obtain ⟨z1, z2, z3⟩ := z
      have hzI := List.mem_map_of_mem (f := ppI) hmem
      refine G.slAt (a := z2) (m := z1.data.length) (cap := z3) (E := 5) (s := 1) (xs := B z1.data) (.tail _ <| .tail _ <| .tail _ <| .tail _ <| .tail _ <| List.mem_append_left _ hzI) (fun y1 y2 y3 y4 => ?_)
      refine G.skip <| G.seq <| G.blk <| G.seq <| G.reg <| W.q (ia Try.esl57 rfl rfl (by omega) (by omega)) rfl <| W.q (lda Try.agg66 Try.sz66 rfl hC rfl) rfl <| W.al Try.zrl66 rfl fun b1 => W.sta Try.sz66 rfl rfl rfl rfl .hd rfl <| W.nil <| G.reg <| W.q (mv rfl) rfl <| W.q (fa Try.fof66_4 rfl) rfl <| W.q (ld Try.sc22 rfl (Cell.at .hd rfl)) rfl <| W.ap (news := B z1.data) Try.underlying22 Try.underlying22 Try.sz5 Try.zln5 Try.by5 rfl rfl (fun _ _ => (.tl <| .hd)) (Rdf.sl (m := z1.data.length) (cap := z3) (E := 5) (s := 1) (xs := B z1.data) (.tail _ <| .tail _ <| .tail _ <| .tail _ <| .tail _ <| .tail _ <| List.mem_append_left _ hzI)).rd (by rw [Bl]; simp) (B_one _) (fun h => y4.elim (fun h => h.2.2) (fun ⟨g, hg⟩ => by cases h.symm.trans hg)) (by omega) (by omega) rfl fun a3 c3 => W.q (sa rfl) rfl <| W.nil <| G.inb <| G.reg <| W.q (ad rfl rfl (by omega)) rfl <| W.q (mv rfl) rfl <| W.nil <| (ih (k + 1) a3 c3 (by omega) (by omega)).weak (Sub.co rfl ?_ <| Sub.cons rfl <| Sub.cons rfl <| Sub.cons rfl <| Sub.nil _) (fun w hm => ent_b hst rfl w (Dr.ent (.drop rfl <| .keep <| .keep <| .keep <| .keep <| .keep <| .rfl) w hm))
      all_goals clear ih
      · show Value.slice _ _ _ = _; rw [hst, List.length_append]
    · -- h2 False
      have hke : k = qs.length := by omega
      have hall : (qs.map (·.1)).take k = qs.map (·.1) := List.take_of_length_le (by omega)
      refine G.exit rfl <| G.seq <| G.reg <| W.q (mv rfl) rfl <| W.q (sa rfl) rfl <| W.q (sa rfl) rfl <| W.nil <| ret2 hX Try.results53 rfl rfl fun w hm => doneF (Pre' := sl a2 (((qs.map (fun x : Pp => x.1)).take k).flatMap (fun x : Pt => x.data)).length c2 5 1 (B (((qs.map (fun x : Pp => x.1)).take k).flatMap (fun x : Pt => x.data))) :: msI b id a c ps) (allNew_cons rfl (msI_new _ _ _ _ _)) ?_ hm (Dr.ent (.keep <| .drop rfl <| .drop rfl <| .keep <| .keep <| .rfl))
      have e : bytesR (ps.map (·.1)) = ((((qs.map (·.1)).take k).flatMap (·.data)), 0) := by rw [bytesR, if_neg h1, hwq, hall]
      rw [e]; exact ⟨a2, c2, rfl, rfl⟩
end Go.Proofs.Ytjalojbihpdghaa
