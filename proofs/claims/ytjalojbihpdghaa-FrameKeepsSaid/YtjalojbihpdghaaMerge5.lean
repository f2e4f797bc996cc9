/- FrameMerges: the program's Merge, the law's walk. -/
import Derived.Test.YtjalojbihpdghaaMerge4
import Derived.Test.YtjalojbihpdghaaLaw11b
namespace Go.Proofs.Ytjalojbihpdghaa
open Go Go.Eng
set_option linter.unusedVariables false

theorem KInv.nil : KInv [] := ⟨by simp, by simp⟩
theorem bytes_all {id : UInt64} {q : Pt} {l : List Pt} (hl : (((q :: l).length : Nat) : Int) = q.count) (h : (takeT id [] (q :: l)).2 = 0) : bytesR (takeT id [] (q :: l)).1 = (whole (takeT id [] (q :: l)).1, 0) := by
  rw [(takeT_ok h).1]
  have e : missR (q :: l) = q.count - ((q :: l).length : Int) := rfl
  rw [bytesR, if_neg (by rw [e]; omega)]
theorem mergeR_le (ps : List Pt) : (mergeR ps).1.length ≤ 140737488351232 := by
  cases ps with
  | nil => simp [mergeR]
  | cons p l =>
    unfold mergeR
    dsimp only
    split
    · simp
    split
    · simp
    · rename_i h1 h2
      obtain ⟨e, hk⟩ := takeT_ok (Classical.byContradiction h2)
      rw [e, ← wo_end]
      have h5 := check_ok (hk.1 p (by simp))
      have hl : (p :: l).length ≤ 16 := by simp only [List.length_cons] at *; omega
      have := wo_len (fun q hq => (check_ok (hk.1 q hq)).2.1) hl (p :: l).length 0 hl
      dsimp only; omega


set_option maxRecDepth 100000 in
theorem frame_Merge (ps : List Pp) (pa : Option Addr) (pc : Nat) (w : World) (hn : ps.length * 56 ≤ 140737488355328) (hp : RdPP w pa ps) :
    Ret Try.prog 23 [.slice pa ps.length pc] w (fun v J => ∃ v1, NewB (mergeR (ps.map (·.1))).1 v1 J ∧ v = .tuple #[v1, i64 (mergeR (ps.map (·.1))).2]) := by
  refine enter [] (Mem.nil _) Try.func23 rfl Try.ntmps23 rfl (fun X hX => ?_)
  have hw := hX.w0; subst hw
  refine G.seq <| G.reg <| W.q (sa rfl) rfl <| W.q (sa rfl) rfl <| W.nil <| G.seq <| G.seq <| G.reg <| W.q (mv rfl) rfl <| W.q (ln Try.esl57 rfl) rfl <| W.q (eq rfl rfl) rfl <| W.q (mv rfl) rfl <| W.sp (t := _) 8 rfl (fun g1 => ?_) (fun g1 => ?_)
  · -- True
    refine W.sk rfl rfl g1 rfl <| W.sk rfl rfl g1 rfl <| W.sk rfl rfl g1 rfl <| W.sk rfl rfl g1 rfl <| W.sk rfl rfl g1 rfl <| W.sk rfl rfl g1 rfl <| W.sk rfl rfl g1 rfl <| W.q (pkt rfl g1 rfl) rfl <| W.nil <| G.cdt rfl rfl <| G.seq <| G.reg <| W.q (sa rfl) rfl <| W.q (sa rfl) rfl <| W.nil <| ret2 hX Try.results23 rfl rfl fun w hm => done (H := [sl none 0 0 5 1 []]) rfl ?_ (Mem.slNil (Dr.ent (.rfl) w hm) 5 1)
    have e : mergeR (ps.map (·.1)) = ([], 2) := by cases ps with | nil => rfl | cons q l => (have := g1; simp at this; omega)
    rw [e]; exact ⟨_, ⟨none, 0, rfl, rfl⟩, rfl⟩
  · -- False
    obtain ⟨q, l, rfl⟩ : ∃ q l, ps = q :: l := by
      cases ps with
      | nil => simp at g1
      | cons q l => exact ⟨q, l, rfl⟩
    obtain ⟨q1, q2, q3⟩ := q
    have hlpos : 0 < ((q1, q2, q3) :: l).length := by simp
    obtain ⟨zb, zo, rfl, hc⟩ := hp.1.el ppC_len (by omega) 0 (by simp)
    have hC : ∀ H, allNew H = true → Cells X.w0 H zb (zo + (0 : Int).toNat * 5) (ptC q1 q2 q3) := fun H hn => Cells.old hn hc
    refine W.qg rfl rfl g1 (mv rfl) rfl <| W.qg rfl rfl g1 (ln Try.esl57 rfl) rfl <| W.qg rfl rfl g1 (mv rfl) rfl <| W.qg rfl rfl g1 (ia Try.esl57 rfl rfl (by omega) (by omega)) rfl <| W.qg rfl rfl g1 (fa Try.fof66_3 rfl) rfl <| W.qg rfl rfl g1 (ld Try.sc3 rfl (hC _ rfl 3 _ rfl)) rfl <| W.qg rfl rfl g1 (ne rfl rfl) rfl <| W.q (pkf rfl g1 rfl) rfl <| W.nil <| G.cdd rfl (fun h2 => ?_) (fun h2 => ?_)
    · -- h2 True
      refine G.seq <| G.reg <| W.q (sa rfl) rfl <| W.q (sa rfl) rfl <| W.nil <| ret2 hX Try.results23 rfl rfl fun w hm => done (H := [sl none 0 0 5 1 []]) rfl ?_ (Mem.slNil (Dr.ent (.rfl) w hm) 5 1)
      have e : mergeR (((q1, q2, q3) :: l).map (·.1)) = ([], 2) := by show (if _ then _ else _) = _; rw [if_pos (by simpa using h2)]
      rw [e]; exact ⟨_, ⟨none, 0, rfl, rfl⟩, rfl⟩
    · -- h2 False
      have hlc : (((q1 :: l.map (·.1)).length : Nat) : Int) = q1.count := by simpa using h2
      refine G.skip <| G.seq <| G.reg <| W.q (mv rfl) rfl <| W.q (ia Try.esl57 rfl rfl (by omega) (by omega)) rfl <| W.q (fa Try.fof66_1 rfl) rfl <| W.q (ld Try.sc29 rfl (hC _ rfl 1 _ rfl)) rfl <| W.q (bld (cs := [_, _]) Try.stp108 rfl rfl) rfl <| W.al Try.zrl108 rfl fun b1 => W.sta Try.sz108 rfl rfl rfl rfl .hd rfl <| W.nil <| G.seq <| G.seq <| G.reg <| W.q (mv rfl) rfl <| ?_
      refine W.ent (Ent.slNil 66 5) ?_
      refine W.ent (Ent.perm (.swap _ _ _)) ?_
      refine W.ff Try.ca52 rfl (Ent.perm (.trans (.trans (.cons _ (.refl _)) (.swap _ _ _)) (.trans (.cons _ (.refl _)) (.swap _ _ _)))) (msg_Take X.w0 [] b1 q1.id none 0 [] ((q1, q2, q3) :: l) (some ⟨zb, zo, none⟩) pc (by simpa using hn) (Rdf.old rfl hp.1) (fun p hpm => ⟨Rdf.old rfl (hp.2 p hpm).1, (hp.2 p hpm).2⟩)) rfl rfl fun v J hv hJ => ?_
      obtain ⟨a1, c1, qs, hqs, rfl, rfl⟩ := hv
      refine W.q (ne rfl rfl) rfl <| W.nil <| G.cdd rfl (fun h3 => ?_) (fun h3 => ?_)
      · -- h3 True
        refine G.seq <| G.reg <| W.q (sa rfl) rfl <| W.q (sa rfl) rfl <| W.nil <| ret2 hX Try.results23 rfl rfl fun w hm => done (H := [sl none 0 0 5 1 []]) rfl ?_ (Mem.slNil (Dr.ent (Dr.new (allNew_append (msI_new _ _ _ _ _) rfl)) w hm) 5 1)
        have e : mergeR (((q1, q2, q3) :: l).map (·.1)) = ([], 3) := by show mergeR (q1 :: l.map (·.1)) = _; rw [merge_cons hlc]; exact if_pos h3
        rw [e]; exact ⟨_, ⟨none, 0, rfl, rfl⟩, rfl⟩
      · -- h3 False
        have htk : (takeT q1.id [] (((q1, q2, q3) :: l).map (·.1))).2 = 0 := Classical.byContradiction h3
        obtain ⟨ht1, hki⟩ := takeT_ok htk
        have hqs' : qs.map (·.1) = ((q1, q2, q3) :: l).map (·.1) := hqs.trans ht1
        have hl16 : qs.length ≤ 16 := by
          have h5 := check_ok (hki.1 q1 (by simp))
          have h6 := congrArg List.length hqs'
          simp only [List.map_cons, List.length_cons, List.length_map] at h6 hlc; omega
        have hkq : KInv (qs.map (·.1)) := hqs' ▸ hki
        have hbr : bytesR (qs.map (·.1)) = (whole (takeT q1.id [] (q1 :: l.map (·.1))).1, 0) := by rw [hqs]; exact bytes_all hlc htk
        refine G.skip <| G.seq <| G.reg <| W.ff Try.ca53 rfl (Ent.perm (.trans (.trans (.cons _ (.refl _)) (.swap _ _ _)) (.trans (.cons _ (.refl _)) (.swap _ _ _)))) (msg_Bytes X.w0 [] rfl b1 q1.id a1 c1 qs (by omega) hkq) rfl rfl fun v J hv hJ => ?_
        obtain ⟨a2, c2, rfl, rfl⟩ := hv
        rw [hbr]
        refine W.q (ex rfl rfl) rfl <| W.q (ex rfl rfl) rfl <| W.q (sa rfl) rfl <| W.q (sa rfl) rfl <| W.nil <| ret2 hX Try.results23 rfl rfl fun w hm => done (H := [sl a2 (whole (takeT q1.id [] (q1 :: l.map fun x : Pp => x.1)).1).length c2 5 1 (B (whole (takeT q1.id [] (q1 :: l.map fun x : Pp => x.1)).1))]) rfl ?_ (Dr.ent (.keep <| Dr.new (allNew_append (msI_new _ _ _ _ _) rfl)) w hm)
        have e : mergeR (((q1, q2, q3) :: l).map (·.1)) = (whole (takeT q1.id [] (q1 :: l.map (·.1))).1, 0) := by
          show mergeR (q1 :: l.map (·.1)) = _; rw [merge_cons hlc]; exact if_neg h3
        rw [e]; exact ⟨_, ⟨a2, c2, rfl, rfl⟩, rfl⟩


set_option maxRecDepth 100000 in
theorem law_FrameMerges (ps : List Pp) (pa : Option Addr) (pc : Nat) (w : World) (hn : ps.length * 56 ≤ 140737488355328) (hp : RdPP w pa ps) :
    Ret Try.prog 5 [.slice pa ps.length pc] w (fun v _ => v = .bool true) := by
  refine enter [] (Mem.nil _) Try.func5 rfl Try.ntmps5 rfl (fun X hX => ?_)
  have hw := hX.w0; subst hw
  refine G.seq <| G.reg <| W.q (sa rfl) rfl <| W.nil <| G.seq <| G.seq <| G.reg <| W.fv Try.ca22 rfl (fun w hm => law11_awake w) rfl <| W.q (nt rfl) rfl <| W.nil <| G.cdf rfl rfl <| G.skip <| G.seq <| G.reg <| W.q (mv rfl) rfl <| W.fn Try.ca24 rfl (fun w hm => ref11_Twins ps pa pc w hn (hp.mv hm rfl)) rfl fun v J1 hv hJ1 => ?_
  obtain ⟨a1, c1, qs, hqs, rfl, hJe⟩ := hv
  have hql : qs.length = ps.length := by have := congrArg List.length hqs; simpa using this
  refine W.fn Try.ca23 rfl (fun w hm => frame_Merge qs a1 c1 w (by omega) (RdPP.of hm (fun it hi => List.mem_append_left _ (show it ∈ J1 by rw [hJe]; exact hi)) (by rw [hqs]; exact fun x hx => by obtain ⟨p, hpm, rfl⟩ := List.mem_map.1 hx; exact (hp.2 p hpm).2))) rfl fun v J hv hJ => ?_
  rw [hqs] at hv
  obtain ⟨v1, ⟨a2, c2, rfl, rfl⟩, rfl⟩ := hv
  refine W.q (mv rfl) rfl <| W.q (ex rfl rfl) rfl <| W.q (ex rfl rfl) rfl <| W.q (sa rfl) rfl <| W.q (sa rfl) rfl <| W.nil <| G.seq <| G.reg <| W.q (mv rfl) rfl <| W.fn Try.ca25 rfl (fun w hm => ref11_Merge ps pa pc w hn (hp.mv hm (allNew_append rfl (allNew_append hJ1 rfl)))) rfl fun v J hv hJ => ?_
  obtain ⟨v1, ⟨a3, c3, rfl, rfl⟩, rfl⟩ := hv
  refine W.q (mv rfl) rfl <| W.q (ex rfl rfl) rfl <| W.q (ex rfl rfl) rfl <| W.q (sa rfl) rfl <| W.q (sa rfl) rfl <| W.nil <| G.seq <| G.reg <| W.q (mv rfl) rfl <| W.q (mv rfl) rfl <| W.q (eq rfl rfl) rfl <| W.q (mv rfl) rfl <| W.sp (t := _) 23 rfl (fun g1 => ?_) (fun g1 => ?_)
  · -- True
    refine W.qg rfl rfl g1 (mv rfl) rfl <| W.qg rfl rfl g1 (mv rfl) rfl <| W.fvg rfl rfl g1 Try.ca15 rfl (fun w hm => ref01_EqualT (hm.slRd (.tail _ <| .head _)) (mergeR_le _) (hm.slRd (.head _)) rfl rfl rfl) rfl <| W.q (pkt rfl g1 rfl) rfl <| W.q (sa rfl) rfl <| W.nil <| ret1 hX Try.results5 rfl fun w hm => done (H := []) rfl rfl (Dr.ent (Dr.new (allNew_append rfl (allNew_append rfl (allNew_append hJ1 rfl)))) w hm)
  · -- False
    simp at g1
end Go.Proofs.Ytjalojbihpdghaa
