/- Parts put together: the document's walks; the sorting. -/
import Derived.Test.YtjalojbihpdghaaMerge1
namespace Go.Proofs.Ytjalojbihpdghaa
open Go Go.Eng
set_option linter.unusedVariables false

/-- The whole's bytes, up to part j of those that bear place i. -/
def woI (pts : List Pt) (i j : Nat) : List UInt8 := (List.range i).flatMap (wholeAt pts) ++ ((pts.take j).filter fun q => decide (q.index = (i : Int))).flatMap (·.data)
theorem wo_next (pts : List Pt) (i : Nat) : woI pts i pts.length = woI pts (i + 1) 0 := by
  simp [woI, List.range_succ, wholeAt]
theorem wo_step {pts : List Pt} {i j : Nat} (hj : j < pts.length) : woI pts i (j + 1) = woI pts i j ++ (if pts[j].index = (i : Int) then pts[j].data else []) := by
  unfold woI
  rw [List.take_succ_eq_append_getElem hj, List.filter_append, List.flatMap_append, List.append_assoc]
  congr 2
  by_cases h : pts[j].index = (i : Int) <;> simp [h]
theorem wo_end (pts : List Pt) : woI pts pts.length 0 = whole pts := by simp [woI, whole]
theorem flat_len {l : List Pt} (h : ∀ p ∈ l, p.data.length ≤ 450) : (l.flatMap (·.data)).length ≤ l.length * 450 := by
  induction l with
  | nil => simp
  | cons x l ih =>
    have h1 := h x List.mem_cons_self
    have h2 := ih fun p hp => h p (List.mem_cons_of_mem _ hp)
    rw [List.flatMap_cons, List.length_append, List.length_cons]; omega
theorem wo_len {pts : List Pt} (h : ∀ p ∈ pts, p.data.length ≤ 450) (hn : pts.length ≤ 16) (i j : Nat) (hi : i ≤ 16) : (woI pts i j).length ≤ 16 * 7200 + 7200 := by
  have hf : ∀ (l : List Pt) (k : Nat), (∀ p ∈ l, p.data.length ≤ 450) → l.length ≤ 16 → ((l.filter fun q => decide (q.index = (k : Int))).flatMap (·.data)).length ≤ 7200 := fun l k hl hll => by
    have h1 := flat_len (l := l.filter fun q => decide (q.index = (k : Int))) fun p hp => hl p ((List.mem_filter.1 hp).1)
    have h2 := List.length_filter_le (fun q : Pt => decide (q.index = (k : Int))) l
    omega
  have hr : ∀ k, k ≤ 16 → ((List.range k).flatMap (wholeAt pts)).length ≤ k * 7200 := fun k => by
    induction k with
    | zero => simp
    | succ k ih =>
      intro hk
      have h1 := ih (by omega)
      have h2 := hf pts k h hn
      rw [List.range_succ, List.flatMap_append, List.length_append]
      have : (List.flatMap (wholeAt pts) [k]) = wholeAt pts k := by simp
      rw [this, wholeAt]; omega
  have h1 := hr i hi
  have h2 := hf (pts.take j) i (fun p hp => h p (List.mem_of_mem_take hp)) (by simp; omega)
  unfold woI
  rw [List.length_append]; omega
theorem ent_b {w0 : World} {a : Option Addr} {c m : Nat} {H : List It} {x y z : List UInt8} (hz : z = x ++ y) (hm : m = x.length + y.length) : Ent w0 (sl a m c 5 1 (B x ++ B y) :: H) (sl a z.length c 5 1 (B z) :: H) := fun w hmm => by
  subst hz; subst hm
  rw [List.length_append, show B (x ++ y) = B x ++ B y from List.map_append]; exact hmm


set_option maxRecDepth 100000 in
theorem ref11_Whole (a : Option Addr) (c : Nat) (qs : List Pp) (w : World) (hp : RdPP w a qs) (hn : qs.length ≤ 16) (hd : ∀ p ∈ qs.map (·.1), p.data.length ≤ 450) :
    Ret Try.prog 56 [.slice a qs.length c] w (fun v J => NewB (whole (qs.map (·.1))) v J) := by
  refine enter [] (Mem.nil _) Try.func56 rfl Try.ntmps56 rfl (fun X hX => ?_)
  have hw := hX.w0; subst hw
  have hlm : (qs.map (·.1)).length = qs.length := List.length_map ..
  refine G.seq <| G.reg <| W.q (sa rfl) rfl <| W.nil <| G.seq <| G.reg <| W.q (sa rfl) rfl <| W.nil <| G.seq <| G.seq <| G.reg <| W.q (sa rfl) rfl <| W.nil <| G.blk <| G.loop3 (α := Nat) (β := Option Addr) (γ := Nat) (fun i a1 c1 => i ≤ qs.length) (fun i a1 c1 => [(3, .slice a1 (woI (qs.map (·.1)) i 0).length c1), (4, i64 i)]) (fun i a1 c1 => [sl a1 (woI (qs.map (·.1)) i 0).length c1 5 1 (B (woI (qs.map (·.1)) i 0))]) (fun i a1 c1 => qs.length - i) [(0, _)] [] 0 none 0 (by omega) (Sub.cons rfl <| Sub.cons rfl <| Sub.cons rfl <| Sub.nil _) (fun w hm => hm.slNil 5 1) (fun i a1 c1 hi ih => ?_)
  refine G.seq <| G.seq <| G.reg <| W.q (mv rfl) rfl <| W.q (mv rfl) rfl <| W.q (ln Try.esl57 rfl) rfl <| W.q (lt rfl rfl) rfl <| W.nil <| G.cdd rfl (fun h1 => ?_) (fun h1 => ?_)
  · -- h1 True
    refine G.skip <| G.seq <| G.blk <| G.seq <| G.reg <| W.q (sa rfl) rfl <| W.nil <| G.blk <| G.loop3 (α := Nat) (β := Option Addr) (γ := Nat) (fun j a2 c2 => j ≤ qs.length) (fun j a2 c2 => [(3, .slice a2 (woI (qs.map (·.1)) i j).length c2), (5, i64 j)]) (fun j a2 c2 => [sl a2 (woI (qs.map (·.1)) i j).length c2 5 1 (B (woI (qs.map (·.1)) i j))]) (fun j a2 c2 => qs.length - j) [(0, _), (4, _)] [] 0 a1 c1 (by omega) (Sub.cons rfl <| Sub.cons rfl <| Sub.cons rfl <| Sub.cons rfl <| Sub.nil _) .rfl (fun j a2 c2 hj ih2 => ?_)
    refine G.seq <| G.seq <| G.reg <| W.q (mv rfl) rfl <| W.q (mv rfl) rfl <| W.q (ln Try.esl57 rfl) rfl <| W.q (lt rfl rfl) rfl <| W.nil <| G.cdd rfl (fun h2 => ?_) (fun h2 => ?_)
    · -- h2 True
      have hj' : j < qs.length := by omega
      have hjm : j < (qs.map (·.1)).length := by omega
      have hwl := wo_len hd (by omega) i j (by omega)
      obtain ⟨zb, zo, rfl, hc⟩ := hp.1.el ppC_len (by omega) j hj'
      have hC : ∀ H, allNew H = true → Cells X.w0 H zb (zo + (j : Int).toNat * 5) (ppC qs[j]) := fun H hn => Cells.old hn hc
      have hz := hp.2 _ (List.getElem_mem hj')
      have hdz := hd _ (List.mem_map_of_mem (f := (·.1)) (List.getElem_mem hj'))
      have hws := wo_step (i := i) hjm
      rw [List.getElem_map] at hws
      generalize qs[j] = z at hC hz hws hdz
      obtain ⟨z1, z2, z3⟩ := z
      refine G.skip <| G.seq <| G.blk <| G.seq <| G.reg <| W.q (mv rfl) rfl <| W.q (mv rfl) rfl <| W.q (ia Try.esl57 rfl rfl (by omega) (by omega)) rfl <| W.q (fa Try.fof66_2 rfl) rfl <| W.q (ld Try.sc3 rfl (hC _ rfl 2 _ rfl)) rfl <| W.q (mv rfl) rfl <| W.q (eq rfl rfl) rfl <| W.nil <| G.cdd rfl (fun h3 => ?_) (fun h3 => ?_)
      · -- h3 True
        refine G.reg <| W.q (mv rfl) rfl <| W.q (mv rfl) rfl <| W.q (mv rfl) rfl <| W.q (ia Try.esl57 rfl rfl (by omega) (by omega)) rfl <| W.q (fa Try.fof66_4 rfl) rfl <| W.q (ld Try.sc22 rfl (hC _ rfl 4 _ rfl)) rfl <| W.ap (news := B z1.data) Try.underlying22 Try.underlying22 Try.sz5 Try.zln5 Try.by5 rfl rfl (fun _ _ => .hd) (RdS.old rfl hz.1) (by rw [Bl]; simp) (B_one _) (RdL.nilB hz.1) (by omega) (by omega) rfl fun a3 c3 => W.q (sa rfl) rfl <| W.nil <| G.inb <| G.reg <| W.q (mv rfl) rfl <| W.q (ad rfl rfl (by omega)) rfl <| W.q (sa rfl) rfl <| W.nil <| (ih2 (j + 1) a3 c3 (by omega) (by omega)).weak (Sub.co rfl ?_ <| Sub.cons rfl <| Sub.cons rfl <| Sub.cons rfl <| Sub.nil _) (ent_b (by rw [hws, if_pos h3]) rfl)
        all_goals clear ih2
        · show Value.slice _ _ _ = _; rw [hws, if_pos h3, List.length_append]
      · -- h3 False
        refine G.skip <| G.inb <| G.reg <| W.q (mv rfl) rfl <| W.q (ad rfl rfl (by omega)) rfl <| W.q (sa rfl) rfl <| W.nil <| (ih2 (j + 1) a2 c2 (by omega) (by omega)).weak (Sub.co rfl ?_ <| Sub.cons rfl <| Sub.cons rfl <| Sub.cons rfl <| Sub.nil _) (fun w hm => by rw [hws, if_neg h3]; simp only [List.append_nil]; exact hm)
        all_goals clear ih2
        · show Value.slice _ _ _ = _; rw [hws, if_neg h3, List.append_nil]
    · -- h2 False
      refine G.exit rfl <| G.inb <| G.reg <| W.q (mv rfl) rfl <| W.q (ad rfl rfl (by omega)) rfl <| W.q (sa rfl) rfl <| W.nil <| ?_
      have hjn : j = (qs.map (·.1)).length := by omega
      subst hjn
      have hwn := wo_next (qs.map (·.1)) i
      refine (ih (i + 1) a2 c2 (by omega) (by omega)).weak (Sub.co rfl ?_ <| Sub.cons rfl <| Sub.cons rfl <| Sub.nil _) (fun w hm => by rw [hwn] at hm; exact hm)
      all_goals clear ih
      · show Value.slice _ _ _ = _; rw [hwn]
  · -- h1 False
    refine G.exit rfl <| G.seq <| G.reg <| W.q (mv rfl) rfl <| W.q (sa rfl) rfl <| W.nil <| ret1 hX Try.results56 rfl fun w hm => done (H := [sl a1 (woI (qs.map (·.1)) i 0).length c1 5 1 (B (woI (qs.map (·.1)) i 0))]) rfl ?_ (by exact hm)
    have hin : i = (qs.map (·.1)).length := by omega
    subst hin
    rw [wo_end]; exact ⟨a1, c1, rfl, rfl⟩

theorem merge_cons {p : Pt} {l : List Pt} (h : ((p :: l).length : Int) = p.count) : mergeR (p :: l) = if (takeT p.id [] (p :: l)).2 ≠ 0 then ([], 3) else (whole (takeT p.id [] (p :: l)).1, 0) := by
  show (if ((p :: l).length : Int) ≠ p.count then _ else _) = _
  rw [if_neg (fun h' => h' h)]
theorem takeT_ok {id : UInt64} {ps : List Pt} (h : (takeT id [] ps).2 = 0) : (takeT id [] ps).1 = ps ∧ KInv ps := by
  have h1 := takeT_all ps [] h
  have h2 := KInv.take id ps
  have e : (takeT id [] ps).1 = ps := h1
  rw [e] at h2
  exact ⟨e, h2⟩
theorem RdPP.mv {w0 w : World} {H : List It} {a : Option Addr} {ps : List Pp} (hm : Mem w0 w H) (hn : allNew H = true) (h : RdPP w0 a ps) : RdPP w a ps := ⟨hm.rd hn h.1, fun p hp => ⟨hm.rd hn (h.2 p hp).1, (h.2 p hp).2⟩⟩


set_option maxRecDepth 100000 in
theorem ref11_Merge (ps : List Pp) (pa : Option Addr) (pc : Nat) (w : World) (hn : ps.length * 56 ≤ 140737488355328) (hp : RdPP w pa ps) :
    Ret Try.prog 25 [.slice pa ps.length pc] w (fun v J => ∃ v1, NewB (mergeR (ps.map (·.1))).1 v1 J ∧ v = .tuple #[v1, i64 (mergeR (ps.map (·.1))).2]) := by
  refine enter [] (Mem.nil _) Try.func25 rfl Try.ntmps25 rfl (fun X hX => ?_)
  have hw := hX.w0; subst hw
  refine G.seq <| G.reg <| W.q (sa rfl) rfl <| W.q (sa rfl) rfl <| W.nil <| G.seq <| G.seq <| G.reg <| W.q (mv rfl) rfl <| W.q (ln Try.esl57 rfl) rfl <| W.q (eq rfl rfl) rfl <| W.q (mv rfl) rfl <| W.sp (t := _) 9 rfl (fun g1 => ?_) (fun g1 => ?_)
  · -- True
    refine W.sk rfl rfl g1 rfl <| W.sk rfl rfl g1 rfl <| W.sk rfl rfl g1 rfl <| W.sk rfl rfl g1 rfl <| W.sk rfl rfl g1 rfl <| W.sk rfl rfl g1 rfl <| W.sk rfl rfl g1 rfl <| W.q (pkt rfl g1 rfl) rfl <| W.nil <| G.cdt rfl rfl <| G.seq <| G.reg <| W.q (sa rfl) rfl <| W.q (sa rfl) rfl <| W.nil <| ret2 hX Try.results25 rfl rfl fun w hm => done (H := [sl none 0 0 5 1 []]) rfl ?_ (Mem.slNil (Dr.ent (.rfl) w hm) 5 1)
    have e : mergeR (ps.map (·.1)) = ([], 2) := by cases ps with | nil => rfl | cons q l => (have := g1; simp at this; omega)
    rw [e]; exact ⟨_, ⟨none, 0, rfl, rfl⟩, rfl⟩
  · -- False
    obtain ⟨q, l, rfl⟩ : ∃ q l, ps = q :: l := by
      cases ps with
      | nil => simp at g1
      | cons q l => exact ⟨q, l, rfl⟩
    obtain ⟨q1, q2, q3⟩ := q
    have hlpos : 0 < ((q1, q2, q3) :: l).length := by simp
    obtain ⟨zb, zo, rfl, hc⟩ := hp.1.el ppC_len (by omega) 0 (by simp)
    have hC : ∀ H, allNew H = true → Cells X.w0 H zb (zo + (0 : Int).toNat * 5) (ptC q1 q2 q3) := fun H hn => Cells.old hn hc
    refine W.qg rfl rfl g1 (mv rfl) rfl <| W.qg rfl rfl g1 (ln Try.esl57 rfl) rfl <| W.qg rfl rfl g1 (mv rfl) rfl <| W.qg rfl rfl g1 (ia Try.esl57 rfl rfl (by omega) (by omega)) rfl <| W.qg rfl rfl g1 (fa Try.fof66_3 rfl) rfl <| W.qg rfl rfl g1 (ld Try.sc3 rfl (hC _ rfl 3 _ rfl)) rfl <| W.qg rfl rfl g1 (ne rfl rfl) rfl <| W.q (pkf rfl g1 rfl) rfl <| W.nil <| G.cdd rfl (fun h2 => ?_) (fun h2 => ?_)
    · -- h2 True
      refine G.seq <| G.reg <| W.q (sa rfl) rfl <| W.q (sa rfl) rfl <| W.nil <| ret2 hX Try.results25 rfl rfl fun w hm => done (H := [sl none 0 0 5 1 []]) rfl ?_ (Mem.slNil (Dr.ent (.rfl) w hm) 5 1)
      have e : mergeR (((q1, q2, q3) :: l).map (·.1)) = ([], 2) := by show (if _ then _ else _) = _; rw [if_pos (by simpa using h2)]
      rw [e]; exact ⟨_, ⟨none, 0, rfl, rfl⟩, rfl⟩
    · -- h2 False
      have hlc : (((q1 :: l.map (·.1)).length : Nat) : Int) = q1.count := by simpa using h2
      refine G.skip <| G.seq <| G.reg <| W.q (mv rfl) rfl <| W.q (ia Try.esl57 rfl rfl (by omega) (by omega)) rfl <| W.q (fa Try.fof66_1 rfl) rfl <| W.q (ld Try.sc29 rfl (hC _ rfl 1 _ rfl)) rfl <| W.q (mv rfl) rfl <| W.fn Try.ca55 rfl (fun w hm => ref11_Take q1.id ((q1, q2, q3) :: l) (some ⟨zb, zo, none⟩) pc w hn (hp.mv hm rfl)) rfl fun v J hv hJ => ?_
      obtain ⟨a1, c1, qs, hqs, hsub, rfl, rfl⟩ := hv
      refine W.q (mv rfl) rfl <| W.q (ex rfl rfl) rfl <| W.q (ex rfl rfl) rfl <| W.q (sa rfl) rfl <| W.q (sa rfl) rfl <| W.nil <| G.seq <| G.seq <| G.reg <| W.q (mv rfl) rfl <| W.q (ne rfl rfl) rfl <| W.nil <| G.cdd rfl (fun h3 => ?_) (fun h3 => ?_)
      · -- h3 True
        refine G.seq <| G.reg <| W.q (sa rfl) rfl <| W.q (sa rfl) rfl <| W.nil <| ret2 hX Try.results25 rfl rfl fun w hm => done (H := [sl none 0 0 5 1 []]) rfl ?_ (Mem.slNil (Dr.ent (.drop rfl <| .rfl) w hm) 5 1)
        have e : mergeR (((q1, q2, q3) :: l).map (·.1)) = ([], 3) := by show mergeR (q1 :: l.map (·.1)) = _; rw [merge_cons hlc]; exact if_pos h3
        rw [e]; exact ⟨_, ⟨none, 0, rfl, rfl⟩, rfl⟩
      · -- h3 False
        have htk : (takeT q1.id [] (((q1, q2, q3) :: l).map (·.1))).2 = 0 := Classical.byContradiction h3
        obtain ⟨ht1, hki⟩ := takeT_ok htk
        have hqs' : qs.map (·.1) = ((q1, q2, q3) :: l).map (·.1) := hqs.trans ht1
        have hl16 : qs.length ≤ 16 := by
          have h5 := check_ok (hki.1 q1 (by simp))
          have h6 := congrArg List.length hqs'
          simp only [List.map_cons, List.length_cons, List.length_map] at h6 hlc; omega
        have h450 : ∀ p ∈ qs.map (·.1), p.data.length ≤ 450 := fun p hpm => (check_ok (hki.1 p (hqs' ▸ hpm))).2.1
        refine G.skip <| G.seq <| G.reg <| W.q (mv rfl) rfl <| W.fn Try.ca56 rfl (fun w hm => ref11_Whole a1 c1 qs w ⟨hm.slRd (.head _), fun p hpm => ⟨hm.rd rfl (hp.2 p (hsub p hpm)).1, (hp.2 p (hsub p hpm)).2⟩⟩ hl16 h450) rfl fun v J hv hJ => ?_
        obtain ⟨a2, c2, rfl, rfl⟩ := hv
        refine W.q (sa rfl) rfl <| W.q (sa rfl) rfl <| W.nil <| ret2 hX Try.results25 rfl rfl fun w hm => done (H := [sl a2 (whole (qs.map fun x : Pp => x.1)).length c2 5 1 (B (whole (qs.map fun x : Pp => x.1)))]) rfl ?_ (Dr.ent (.keep <| .drop rfl <| .rfl) w hm)
        have e : mergeR (((q1, q2, q3) :: l).map (·.1)) = (whole (qs.map (·.1)), 0) := by
          show mergeR (q1 :: l.map (·.1)) = _; rw [merge_cons hlc, hqs]; exact if_neg h3
        rw [e]; exact ⟨_, ⟨a2, c2, rfl, rfl⟩, rfl⟩


set_option maxRecDepth 100000 in
theorem ref11_Twins (ps : List Pp) (pa : Option Addr) (pc : Nat) (w : World) (hn : ps.length * 56 ≤ 140737488355328) (hp : RdPP w pa ps) :
    Ret Try.prog 24 [.slice pa ps.length pc] w (fun v J => NewPP (ps.map (·.1)) v J) := by
  refine enter [] (Mem.nil _) Try.func24 rfl Try.ntmps24 rfl (fun X hX => ?_)
  have hw := hX.w0; subst hw
  refine G.seq <| G.reg <| W.q (sa rfl) rfl <| W.nil <| G.seq <| G.reg <| W.q (sa rfl) rfl <| W.nil <| G.seq <| G.seq <| G.reg <| W.q (sa rfl) rfl <| W.nil <| G.blk <| G.loop4 (α := Nat) (β := Option Addr) (γ := Nat) (δ := List Pp) (fun k a1 c1 qs => k ≤ ps.length ∧ qs.map (·.1) = (ps.map (·.1)).take k) (fun k a1 c1 qs => [(3, .slice a1 qs.length c1), (4, i64 k)]) (fun k a1 c1 qs => [sl a1 qs.length c1 66 5 (qs.flatMap ppC)] ++ qs.map ppI) (fun k a1 c1 qs => ps.length - k) [(0, _)] [] 0 none 0 [] ⟨by omega, rfl⟩ (Sub.cons rfl <| Sub.cons rfl <| Sub.cons rfl <| Sub.nil _) (fun w hm => hm.slNil 66 5) (fun k a1 c1 qs hk ih => ?_)
  refine G.seq <| G.seq <| G.reg <| W.q (mv rfl) rfl <| W.q (mv rfl) rfl <| W.q (ln Try.esl57 rfl) rfl <| W.q (lt rfl rfl) rfl <| W.nil <| G.cdd rfl (fun h1 => ?_) (fun h1 => ?_)
  · -- h1 True
    have hk' : k < ps.length := by omega
    have hql : qs.length ≤ k := by
      have h1 := congrArg List.length hk.2
      simp at h1; omega
    obtain ⟨zb, zo, rfl, hc⟩ := hp.1.el ppC_len (by omega) k hk'
    have hC : ∀ H, allNew H = true → Cells X.w0 H zb (zo + (k : Int).toNat * 5) (ppC ps[k]) := fun H hn => Cells.old hn hc
    have hN : ∀ L, allNew L = true → allNew (L ++ (([sl a1 qs.length c1 66 5 (qs.flatMap ppC)] ++ qs.map ppI) ++ [])) = true := fun L hL => allNew_append hL (allNew_append (allNew_append rfl (ppI_new qs)) rfl)
    have hz := hp.2 _ (List.getElem_mem hk')
    have hsu : (ps.map (·.1)).take (k + 1) = (ps.map (·.1)).take k ++ [ps[k].1] := by rw [List.take_succ_eq_append_getElem (by simpa using hk'), List.getElem_map]
    generalize ps[k] = q at hC hz hsu
    obtain ⟨q1, q2, q3⟩ := q
    refine G.skip <| G.seq <| G.blk <| G.reg <| W.q (mv rfl) rfl <| W.q (mv rfl) rfl <| W.q (mv rfl) rfl <| W.q (ia Try.esl57 rfl rfl (by omega) (by omega)) rfl <| W.q (lda Try.agg66 Try.sz66 rfl (hC _ (hN [] rfl)) rfl) rfl <| W.fn Try.ca54 rfl (fun w hm => ref11_Twin q1 q2 q3 w (hm.rd (hN [] rfl) hz.1) hz.2) rfl fun v J hv hJ => ?_
    obtain ⟨a2, c2, rfl, rfl⟩ := hv
    refine W.bs1 Try.underlying57 Try.sz66 Try.zrl66 rfl rfl rfl rfl rfl fun b1 => W.ap (news := [_, _, _, _, _]) Try.underlying57 Try.underlying57 Try.sz66 Try.zln66 Try.by66 rfl rfl (fun _ _ => (.tl <| .tl <| .hd)) (RdS.row .hd) rfl (by simp [Value.oneCell']) (by simp) (by omega) (by omega) rfl fun a3 c3 => W.q (sa rfl) rfl <| W.nil <| G.inb <| G.reg <| W.q (mv rfl) rfl <| W.q (ad rfl rfl (by omega)) rfl <| W.q (sa rfl) rfl <| W.nil <| (ih (k + 1) a3 c3 (qs ++ [(q1, a2, c2)]) ⟨by omega, by rw [hsu, List.map_append, hk.2]; rfl⟩ (by omega)).weak (Sub.co rfl ?_ <| Sub.cons rfl <| Sub.cons rfl <| Sub.nil _) (fun w hm => ent_pp qs (q1, a2, c2) [] (Dr.ent (.drop rfl .rfl) w hm))
    all_goals clear ih
    · show Value.slice _ _ _ = _; rw [List.length_append]; rfl
  · -- h1 False
    have hke : k = ps.length := by omega
    have hall : (ps.map (·.1)).take k = ps.map (·.1) := List.take_of_length_le (by simp; omega)
    refine G.exit rfl <| G.seq <| G.reg <| W.q (mv rfl) rfl <| W.q (sa rfl) rfl <| W.nil <| ret1 hX Try.results24 rfl fun w hm => done (H := sl a1 qs.length c1 66 5 (qs.flatMap ppC) :: qs.map ppI) (allNew_append (H := [_]) rfl (ppI_new qs)) ⟨a1, c1, qs, hk.2.trans hall, rfl, rfl⟩ (by simpa using hm)
end Go.Proofs.Ytjalojbihpdghaa
