/- Parts that are taken: the walks. -/
import Derived.Test.YtjalojbihpdghaaMerge0
namespace Go.Proofs.Ytjalojbihpdghaa
open Go Go.Eng
set_option linter.unusedVariables false

/-- A message's items: its cells, its row, its parts' data. -/
def msI (b : Nat) (id : UInt64) (a : Option Addr) (c : Nat) (ps : List Pp) : List It := nb b [u64 id, .slice a ps.length c] 108 :: sl a ps.length c 66 5 (ps.flatMap ppC) :: ps.map ppI
theorem msI_new (b : Nat) (id : UInt64) (a : Option Addr) (c : Nat) (ps : List Pp) : allNew (msI b id a c ps) = true := allNew_append (H := [_, _]) rfl (ppI_new ps)
theorem Rdf.el {w0 : World} {H : List It} {b o : Nat} {ps : List Pp} (h : Rdf w0 H (some ⟨b, o, none⟩) (ps.flatMap ppC)) (k : Nat) (hk : k < ps.length) (o' : Nat) (ho : o' = o + k * 5) : Cells w0 H b o' (ppC ps[k]) := fun i v hv => by
  subst ho
  have e : (ps.flatMap ppC)[k * 5 + i]? = some v := by
    have hi := (List.getElem?_eq_some_iff.1 hv).1
    have : ∀ (l : List Pp) (k : Nat) (hk : k < l.length), (l.flatMap ppC)[k * 5 + i]? = (ppC l[k])[i]? := fun l => by
      induction l with
      | nil => intro k hk; simp at hk
      | cons x l ih =>
        intro k hk
        rw [List.flatMap_cons]
        cases k with
        | zero => rw [List.getElem?_append_left (by simpa [ppC_len] using hi)]; simp
        | succ k =>
          rw [List.getElem?_append_right (by rw [ppC_len]; omega), ppC_len, show (k + 1) * 5 + i - 5 = k * 5 + i by omega]
          simpa using ih k (by simpa using hk)
    rw [this ps k hk]; exact hv
  have := h.cellOf e
  rwa [← Nat.add_assoc] at this
def clash (p : Pt) (q : Pt) : Bool := decide (q.count ≠ p.count ∨ q.index = p.index)
theorem takeE_eq (id : UInt64) (kept : List Pt) (p : Pt) : takeE id kept p = if (p.kind.toNat : Int) ≠ 1 ∨ checkR p ≠ 0 then 3 else if (p.id.toNat : Int) ≠ (id.toNat : Int) then 4 else if kept.any (clash p) then 3 else 0 := rfl
theorem any_at {p : Pt} {l : List Pt} {k : Nat} (hk : k < l.length) (h : clash p l[k] = true) : l.any (clash p) = true := List.any_eq_true.2 ⟨_, List.getElem_mem hk, h⟩
theorem any_succ {p : Pt} {l : List Pt} {k : Nat} (hk : k < l.length) (h0 : (l.take k).any (clash p) = false) (h : clash p l[k] = false) : (l.take (k + 1)).any (clash p) = false := by
  rw [List.take_succ_eq_append_getElem hk, List.any_append, h0]; simp [h]
theorem ent_ms {w0 : World} (ps : List Pp) (p : Pp) (b : Nat) (id : UInt64) (a : Option Addr) (c : Nat) (H : List It) : Ent w0 (ppI p :: nb b [u64 id, .slice a (ps.length + 1) c] 108 :: sl a (ps.length + 1) c 66 5 (ps.flatMap ppC ++ ppC p) :: (ps.map ppI ++ H)) (msI b id a c (ps ++ [p]) ++ H) := fun w hm => by
  have e : (ps ++ [p]).flatMap ppC = ps.flatMap ppC ++ ppC p := by simp
  unfold msI
  rw [e, List.length_append, List.map_append]
  refine hm.perm ?_
  simp only [List.cons_append, List.append_assoc, List.map_cons, List.map_nil, List.nil_append, List.length_cons, List.length_nil]
  exact (List.Perm.swap _ _ _).trans (.cons _ ((List.Perm.swap _ _ _).trans (.cons _ List.perm_middle.symm)))
theorem G.rdB {P : Program} {n : Nat} {X : Cx} {todo : List Item} {e : Env} {H : List It} {a : Option Addr} {cells : List Value} (h : Rdf X.w0 H a cells) (hc : 0 < cells.length) (hk : ∀ b o, a = some ⟨b, o, none⟩ → Rdf X.w0 H (some ⟨b, o, none⟩) cells → G P n X todo e H) : G P n X todo e H := G.rdA h hc fun b o ho => hk b o ho (ho ▸ h)
theorem W.rdB {P : Program} {n : Nat} {X : Cx} {todo : List Item} {e : Env} {H : List It} {ops : Array Oper} {l : List Oper} {K : Kt} {a : Option Addr} {cells : List Value} (h : Rdf X.w0 H a cells) (hc : 0 < cells.length) (hk : ∀ b o, a = some ⟨b, o, none⟩ → Rdf X.w0 H (some ⟨b, o, none⟩) cells → W (.sq K) P n X ops todo l e H) : W (.sq K) P n X ops todo l e H := W.rdA h hc fun b o ho => hk b o ho (ho ▸ h)
theorem flen (ps : List Pp) : (ps.flatMap ppC).length = ps.length * 5 := by
  induction ps with
  | nil => rfl
  | cons x l ih => rw [List.flatMap_cons, List.length_append, ppC_len, ih, List.length_cons]; omega
theorem takeT_le {id : UInt64} {ps : List Pt} {k : Nat} {kept : List Pt} : (takeT id kept (ps.take k)).1.length ≤ kept.length + k := by
  have := takeT_len (id := id) (ps.take k) (kept, 0)
  rw [List.length_take] at this
  unfold takeT; simp only [] at this ⊢; omega


set_option maxRecDepth 100000 in
theorem msg_take (w0 : World) (H : List It) (b : Nat) (id : UInt64) (a : Option Addr) (c : Nat) (ps : List Pp) (hn : (ps.length + 1) * 56 ≤ 140737488355328) (p : Pt) (pa : Option Addr) (pc : Nat) (hr0 : Rdf w0 H pa (B p.data)) (hb : p.data.length ≤ 140737488351232) :
    RetF Try.prog 78 [ptr b 0, .agg (ptC p pa pc).toArray] w0 H (msI b id a c ps) (fun v J => ∃ a' c' ps', ps'.map (·.1) = (takeS id (ps.map (·.1), 0) p).1 ∧ v = i64 (takeE id (ps.map (·.1)) p) ∧ J = msI b id a' c' ps') := by
  unfold ptC
  refine enterF Try.func78 rfl Try.ntmps78 rfl (fun X hX => ?_)
  have hw := hX.w0; subst hw
  refine G.seq <| G.reg <| W.bxa rfl rfl fun b1 => W.q (sa rfl) rfl <| W.nil <| G.seq <| G.seq <| G.reg <| W.q (fa Try.fof66_0 rfl) rfl <| W.q (ld Try.sc5 rfl (Cell.at .hd rfl)) rfl <| W.q (ne rfl rfl) rfl <| W.q (mv rfl) rfl <| W.sp (t := _) 10 rfl (fun g1 => ?_) (fun g1 => ?_)
  · -- True
    refine W.sk rfl rfl g1 rfl <| W.sk rfl rfl g1 rfl <| W.sk rfl rfl g1 rfl <| W.q (pkt rfl g1 rfl) rfl <| W.nil <| G.cdt rfl rfl <| G.seq <| G.reg <| W.q (sa rfl) rfl <| W.nil <| ret1 hX Try.results78 rfl fun w hm => doneF (Pre' := msI b id _ c ps) (msI_new _ _ _ _ _) ⟨_, c, ps, ?_, ?_, rfl⟩ hm (Dr.ent (.drop rfl <| .keep <| .keep <| .rfl))
    all_goals have e : takeE id (ps.map (·.1)) p = 3 := by rw [takeE_eq, if_pos (.inl (by simpa using g1))]
    · simp [takeS, e]
    · rw [e]
  · -- False
    refine W.qg rfl rfl g1 (lda Try.agg66 Try.sz66 rfl (Cells.whole .hd) rfl) rfl <| W.fvg rfl rfl g1 Try.ca58 rfl (fun w hm => frame_Check p pa pc w) rfl <| W.qg rfl rfl g1 (ne rfl rfl) rfl <| W.q (pkf rfl g1 rfl) rfl <| W.nil <| G.cdd rfl (fun h2 => ?_) (fun h2 => ?_)
    · -- h2 True
      refine G.seq <| G.reg <| W.q (sa rfl) rfl <| W.nil <| ret1 hX Try.results78 rfl fun w hm => doneF (Pre' := msI b id _ c ps) (msI_new _ _ _ _ _) ⟨_, c, ps, ?_, ?_, rfl⟩ hm (Dr.ent (.drop rfl <| .keep <| .keep <| .rfl))
      all_goals have e : takeE id (ps.map (·.1)) p = 3 := by rw [takeE_eq, if_pos (.inr h2)]
      · simp [takeS, e]
      · rw [e]
    · -- h2 False
      have h2' : ¬ ((p.kind.toNat : Int) ≠ 1 ∨ checkR p ≠ 0) := fun h => h.elim (fun h => by simp [h] at g1) h2
      refine G.skip <| G.seq <| G.seq <| G.regq Try.mixed (by kernel_rfl) <| W.q (fa Try.fof66_1 rfl) rfl <| W.q (ld Try.sc29 rfl (Cell.at .hd rfl)) rfl <| W.q (mv rfl) rfl <| W.q (ncp rfl) rfl <| W.q (fa Try.fof108_0 rfl) rfl <| W.q (ld Try.sc29 rfl (Cell.at (.tl <| .hd) rfl)) rfl <| W.q (ne rfl rfl) rfl <| W.nilq <| G.cdd rfl (fun h3 => ?_) (fun h3 => ?_)
      · -- h3 True
        refine G.seq <| G.reg <| W.q (sa rfl) rfl <| W.nil <| ret1 hX Try.results78 rfl fun w hm => doneF (Pre' := msI b id _ c ps) (msI_new _ _ _ _ _) ⟨_, c, ps, ?_, ?_, rfl⟩ hm (Dr.ent (.drop rfl <| .keep <| .keep <| .rfl))
        all_goals have e : takeE id (ps.map (·.1)) p = 4 := by rw [takeE_eq, if_neg h2', if_pos h3]
        · simp [takeS, e]
        · rw [e]
      · -- h3 False
        refine G.skip <| G.seq <| G.seq <| G.reg <| W.q (mv rfl) rfl <| W.q (ncp rfl) rfl <| W.q (fa Try.fof108_1 rfl) rfl <| W.q (ld Try.sc57 rfl (Cell.at (.tl <| .hd) rfl)) rfl <| W.q (ln Try.esl57 rfl) rfl <| W.q (mv rfl) rfl <| W.nil <| G.blk <| G.loop1 (α := Nat) (fun k => k ≤ ps.length ∧ ((ps.map (·.1)).take k).any (clash p) = false) (fun k => [(27, i64 k)]) (fun k => []) (fun k => ps.length - k) [(0, _), (3, _), (25, _), (26, _)] _ 0 ⟨by omega, rfl⟩ (Sub.cons rfl <| Sub.cons rfl <| Sub.cons rfl <| Sub.cons rfl <| Sub.cons rfl <| Sub.nil _) .rfl (fun k hk ih => ?_)
        refine G.seq <| G.reg <| W.q (lt rfl rfl) rfl <| W.nil <| G.seq <| G.cdd rfl (fun h4 => ?_) (fun h4 => ?_)
        · -- h4 True
          have hk' : k < ps.length := by omega
          have hkm : k < (ps.map (·.1)).length := by simpa using hk'
          refine G.rdB (a := a) (Rdf.sl (m := ps.length) (cap := c) (E := 66) (s := 5) (xs := ps.flatMap ppC) (.tail _ <| .tail _ <| .head _)) (by rw [flen]; omega) (fun zb zo ho hRd => ?_)
          subst ho
          have hC := Rdf.el hRd k hk' (zo + (k : Int).toNat * 5) (by omega)
          have hcl : clash p (ps.map (·.1))[k] = decide (ps[k].1.count ≠ p.count ∨ ps[k].1.index = p.index) := by rw [List.getElem_map]; rfl
          generalize ps[k] = q at hC hcl
          obtain ⟨q1, q2, q3⟩ := q
          refine G.skip <| G.seq <| G.blk <| G.seq <| G.reg <| W.q (ia Try.esl57 rfl rfl (by omega) (by omega)) rfl <| W.q (lda Try.agg66 Try.sz66 rfl hC rfl) rfl <| W.al Try.zrl66 rfl fun b2 => W.sta Try.sz66 rfl rfl rfl rfl .hd rfl <| W.nil <| G.seq <| G.reg <| W.q (fa Try.fof66_3 rfl) rfl <| W.q (ld Try.sc3 rfl (Cell.at .hd rfl)) rfl <| W.q (fa Try.fof66_3 rfl) rfl <| W.q (ld Try.sc3 rfl (Cell.at (.tl <| .hd) rfl)) rfl <| W.q (ne rfl rfl) rfl <| W.q (mv rfl) rfl <| W.sp (t := _) 36 rfl (fun g5 => ?_) (fun g5 => ?_)
          · -- True
            refine W.sk rfl rfl g5 rfl <| W.sk rfl rfl g5 rfl <| W.sk rfl rfl g5 rfl <| W.sk rfl rfl g5 rfl <| W.sk rfl rfl g5 rfl <| W.q (pkt rfl g5 rfl) rfl <| W.nil <| G.cdt rfl rfl <| G.seq <| G.reg <| W.q (sa rfl) rfl <| W.nil <| ret1 hX Try.results78 rfl fun w hm => doneF (Pre' := msI b id _ c ps) (msI_new _ _ _ _ _) ⟨_, c, ps, ?_, ?_, rfl⟩ hm (Dr.ent (.drop rfl <| .drop rfl <| .keep <| .keep <| .rfl))
            all_goals have e : takeE id (ps.map (·.1)) p = 3 := by rw [takeE_eq, if_neg h2', if_neg h3, if_pos (any_at hkm (by rw [hcl]; exact decide_eq_true (.inl (by simpa using g5))))]
            · simp [takeS, e]
            · rw [e]
          · -- False
            refine W.qg rfl rfl g5 (fa Try.fof66_2 rfl) rfl <| W.qg rfl rfl g5 (ld Try.sc3 rfl (Cell.at .hd rfl)) rfl <| W.qg rfl rfl g5 (fa Try.fof66_2 rfl) rfl <| W.qg rfl rfl g5 (ld Try.sc3 rfl (Cell.at (.tl <| .hd) rfl)) rfl <| W.qg rfl rfl g5 (eq rfl rfl) rfl <| W.q (pkf rfl g5 rfl) rfl <| W.nil <| G.cdd rfl (fun h6 => ?_) (fun h6 => ?_)
            · -- h6 True
              refine G.seq <| G.reg <| W.q (sa rfl) rfl <| W.nil <| ret1 hX Try.results78 rfl fun w hm => doneF (Pre' := msI b id _ c ps) (msI_new _ _ _ _ _) ⟨_, c, ps, ?_, ?_, rfl⟩ hm (Dr.ent (.drop rfl <| .drop rfl <| .keep <| .keep <| .rfl))
              all_goals have e : takeE id (ps.map (·.1)) p = 3 := by rw [takeE_eq, if_neg h2', if_neg h3, if_pos (any_at hkm (by rw [hcl]; exact decide_eq_true (.inr h6)))]
              · simp [takeS, e]
              · rw [e]
            · -- h6 False
              have hsu := any_succ hkm hk.2 (by rw [hcl]; exact decide_eq_false (fun h => h.elim (fun h => by simp [h] at g5) h6))
              refine G.skip <| G.inb <| G.reg <| W.q (ad rfl rfl (by omega)) rfl <| W.q (mv rfl) rfl <| W.nil <| (ih (k + 1) ⟨by omega, hsu⟩ (by omega)).weak (Sub.cons rfl <| Sub.cons rfl <| Sub.cons rfl <| Sub.cons rfl <| Sub.cons rfl <| Sub.nil _) (Dr.ent <| Dr.drop rfl <| .rfl)
        · -- h4 False
          have hany : (ps.map (·.1)).any (clash p) = false := by
            have := hk.2
            rwa [List.take_of_length_le (by simp; omega)] at this
          refine G.exit rfl <| G.seq <| G.reg <| W.q (fa Try.fof66_4 rfl) rfl <| W.q (ld Try.sc22 rfl (Cell.at .hd rfl)) rfl <| W.fn Try.ca57 rfl (fun w hm => bytes_Clone pa pc p.data w (hr0 (_ :: msI b id a c ps) w (allNew_cons rfl (msI_new _ _ _ _ _)) hm) hb) rfl fun v J hv hJ => ?_
          obtain ⟨a1, c1, rfl, rfl⟩ := hv
          refine W.q (fa Try.fof66_4 rfl) rfl <| W.st (cs' := [_, _, _, _, _]) Try.sz22 rfl rfl rfl rfl rfl (.tl <| .hd) (by simp) rfl <| W.nil <| G.seq <| G.rega 11 rfl Try.mixed <| A.q 0 rfl (by kernel_rfl) (fun _ => (mv rfl)) rfl <| A.q 1 rfl (by kernel_rfl) (fun _ => (mv rfl)) rfl <| A.q 2 rfl (by kernel_rfl) (fun _ => (ncp rfl)) rfl <| A.q 3 rfl (by kernel_rfl) (fun _ => (fa Try.fof108_1 rfl)) rfl <| A.held 4 [5, 6] rfl (by kernel_rfl) (ld Try.sc57 rfl (Cell.at (.tl <| .tl <| .hd) rfl)) rfl <| A.held 5 [] rfl (by kernel_rfl) (lda Try.agg66 Try.sz66 rfl (Cells.whole (.tl <| .hd)) rfl) rfl <| A.one 6 rfl (by kernel_rfl) <| W.bs1 Try.underlying57 Try.sz66 Try.zrl66 rfl rfl rfl rfl rfl fun b3 => A.back <| A.one 7 rfl (by kernel_rfl) <| W.ap (news := [_, _, _, _, _]) Try.underlying57 Try.underlying57 Try.sz66 Try.zln66 Try.by66 rfl rfl (fun _ _ => (.tl <| .tl <| .tl <| .tl <| .hd)) (RdS.row .hd) rfl (by simp [Value.oneCell']) (by simp) (by omega) (by omega) rfl fun a3 c3 => A.back <| A.q 8 rfl (by kernel_rfl) (fun _ => (ncp rfl)) rfl <| A.q 9 rfl (by kernel_rfl) (fun _ => (fa Try.fof108_1 rfl)) rfl <| A.one 10 rfl (by kernel_rfl) <| W.st Try.sz57 rfl rfl rfl rfl rfl (.tl <| .tl <| .tl <| .hd) (by simp) rfl <| A.back <| A.nil (by kernel_rfl) <| G.seq <| G.reg <| W.q (sa rfl) rfl <| W.nil <| ret1 hX Try.results78 rfl fun w hm => doneF (Pre' := msI b id a3 c3 (ps ++ [(p, a1, c1)])) (msI_new _ _ _ _ _) ⟨a3, c3, _, ?_, ?_, rfl⟩ hm (fun w hm => ent_ms ps (p, a1, c1) b id a3 c3 H w (Dr.ent (.drop rfl <| .keep <| .drop rfl <| .keep <| .keep <| .rfl) w hm))
          all_goals have e : takeE id (ps.map (·.1)) p = 0 := by rw [takeE_eq, if_neg h2', if_neg h3, if_neg (by rw [hany]; simp)]
          · simp [takeS, e]
          · rw [e]


set_option maxRecDepth 100000 in
theorem msg_Take (w0 : World) (H : List It) (b : Nat) (id : UInt64) (a : Option Addr) (c : Nat) (kept : List Pp) (ps : List Pp) (pa : Option Addr) (pc : Nat) (hn : (kept.length + ps.length) * 56 ≤ 140737488355328) (hp : Rdf w0 H pa (ps.flatMap ppC)) (hd : ∀ p ∈ ps, Rdf w0 H p.2.1 (B p.1.data) ∧ p.1.data.length ≤ 140737488351232) :
    RetF Try.prog 52 [ptr b 0, .slice pa ps.length pc] w0 H (msI b id a c kept) (fun v J => ∃ a' c' ps', ps'.map (·.1) = (takeT id (kept.map (·.1)) (ps.map (·.1))).1 ∧ v = i64 (takeT id (kept.map (·.1)) (ps.map (·.1))).2 ∧ J = msI b id a' c' ps') := by
  refine enterF Try.func52 rfl Try.ntmps52 rfl (fun X hX => ?_)
  have hw := hX.w0; subst hw
  refine G.seq <| G.reg <| W.q (sa rfl) rfl <| W.nil <| G.seq <| G.reg <| W.q (sa rfl) rfl <| W.nil <| G.seq <| G.seq <| G.reg <| W.q (mv rfl) rfl <| W.q (ln Try.esl57 rfl) rfl <| W.q (mv rfl) rfl <| W.nil <| G.blk <| G.loop4 (α := Nat) (β := Option Addr) (γ := Nat) (δ := List Pp) (fun k a' c' qs => k ≤ ps.length ∧ qs.map (·.1) = (takeT id (kept.map (·.1)) ((ps.map (·.1)).take k)).1) (fun k a' c' qs => [(5, i64 (takeT id (kept.map (·.1)) ((ps.map (·.1)).take k)).2), (11, i64 k)]) (fun k a' c' qs => [nb b [u64 id, .slice a' qs.length c'] 108, sl a' qs.length c' 66 5 (qs.flatMap ppC)] ++ qs.map ppI) (fun k a' c' qs => ps.length - k) [(0, _), (9, _), (10, _)] H 0 a c kept ⟨by omega, rfl⟩ (Sub.cons rfl <| Sub.cons rfl <| Sub.cons rfl <| Sub.cons rfl <| Sub.cons rfl <| Sub.nil _) .rfl (fun k a' c' qs hk ih => ?_)
  refine G.seq <| G.reg <| W.q (lt rfl rfl) rfl <| W.nil <| G.seq <| G.cdd rfl (fun h1 => ?_) (fun h1 => ?_)
  · -- h1 True
    have hk' : k < ps.length := by omega
    have hql : qs.length ≤ kept.length + k := by
      have h1 := congrArg List.length hk.2
      have h2 := takeT_le (id := id) (ps := ps.map (·.1)) (k := k) (kept := kept.map (·.1))
      simp only [List.length_map] at h1 h2; omega
    have hpJ : Rdf X.w0 (msI b id a' c' qs ++ H) pa (ps.flatMap ppC) := hp.upJ (msI_new _ _ _ _ _)
    refine G.rdA (a := pa) hpJ (by rw [flen]; omega) (fun zb zo ho => ?_)
    subst ho
    have hC := Rdf.el hpJ k hk' (zo + (k : Int).toNat * 5) (by omega)
    have hdk := hd _ (List.getElem_mem hk')
    have hsu : takeT id (kept.map (·.1)) ((ps.map (·.1)).take (k + 1)) = takeS id (takeT id (kept.map (·.1)) ((ps.map (·.1)).take k)) ps[k].1 := by
      rw [takeT_succ _ _ _ k (by simpa using hk'), List.getElem_map]
    generalize ps[k] = q at hC hdk hsu
    obtain ⟨q1, q2, q3⟩ := q
    refine G.skip <| G.seq <| G.blk <| G.seq <| G.reg <| W.q (ia Try.esl57 rfl rfl (by omega) (by omega)) rfl <| W.q (lda Try.agg66 Try.sz66 rfl hC rfl) rfl <| W.al Try.zrl66 rfl fun b1 => W.sta Try.sz66 rfl rfl rfl rfl .hd rfl <| W.nil <| G.seq <| G.reg <| W.q (mv rfl) rfl <| W.q (lda Try.agg66 Try.sz66 rfl (Cells.whole .hd) rfl) rfl <| ?_
    refine W.ent (Dr.ent (.drop rfl <| .keep <| .keep <| .rfl)) ?_
    refine W.ff Try.ca78 rfl (Ent.perm (.trans (.trans (.cons _ (.refl _)) (.swap _ _ _)) (.trans (.cons _ (.refl _)) (.swap _ _ _)))) (msg_take X.w0 H b id a' c' qs (by omega) q1 q2 q3 hdk.1 hdk.2) rfl rfl fun v J hv hJ => ?_
    obtain ⟨a2, c2, qs2, hq2, rfl, rfl⟩ := hv
    rw [hk.2] at hq2
    refine W.q (sa rfl) rfl <| W.nil <| G.seq <| G.reg <| W.q (mv rfl) rfl <| W.q (eq rfl rfl) rfl <| W.nil <| G.cdd rfl (fun h2 => ?_) (fun h2 => ?_)
    · -- h2 True
      refine G.reg <| W.q (mv rfl) rfl <| W.q (sa rfl) rfl <| W.nil <| G.inb <| G.reg <| W.q (ad rfl rfl (by omega)) rfl <| W.q (mv rfl) rfl <| W.nil <| (ih (k + 1) a2 c2 qs2 ⟨by omega, by rw [hsu]; exact hq2⟩ (by omega)).weak (Sub.co rfl ?_ <| Sub.cons rfl <| Sub.cons rfl <| Sub.cons rfl <| Sub.cons rfl <| Sub.nil _) .rfl
      all_goals clear ih
      · show i64 _ = i64 _; rw [hsu]; simp only [takeS]; first | rw [if_pos (by assumption), hk.2] | rw [if_neg (by assumption)]
    · -- h2 False
      refine G.skip <| G.inb <| G.reg <| W.q (ad rfl rfl (by omega)) rfl <| W.q (mv rfl) rfl <| W.nil <| (ih (k + 1) a2 c2 qs2 ⟨by omega, by rw [hsu]; exact hq2⟩ (by omega)).weak (Sub.co rfl ?_ <| Sub.cons rfl <| Sub.cons rfl <| Sub.cons rfl <| Sub.cons rfl <| Sub.nil _) .rfl
      all_goals clear ih
      · show i64 _ = i64 _; rw [hsu]; simp only [takeS]; first | rw [if_pos (by assumption), hk.2] | rw [if_neg (by assumption)]
  · -- h1 False
    have hke : k = ps.length := by omega
    have hall : (ps.map (·.1)).take k = ps.map (·.1) := List.take_of_length_le (by simp; omega)
    rw [hall] at hk ⊢
    refine G.exit rfl <| G.seq <| G.reg <| W.q (mv rfl) rfl <| W.q (sa rfl) rfl <| W.nil <| ret1 hX Try.results52 rfl fun w hm => doneF (Pre' := msI b id a' c' qs) (msI_new _ _ _ _ _) ⟨a', c', qs, hk.2, rfl, rfl⟩ hm .rfl

theorem clash_iff (p q : Pt) : clash p q = true ↔ (q.count ≠ p.count ∨ q.index = p.index) := decide_eq_true_iff
theorem ent_q {w0 : World} {a : Option Addr} {c : Nat} {H : List It} (qs : List Pp) (x : Pp) : Ent w0 (sl a (qs.length + 1) c 66 5 (qs.flatMap ppC ++ ppC x) :: H) (sl a (qs ++ [x]).length c 66 5 ((qs ++ [x]).flatMap ppC) :: H) := fun w hm => by
  have e : (qs ++ [x]).flatMap ppC = qs.flatMap ppC ++ ppC x := by simp
  rw [e, List.length_append]; exact hm
def e0R (id : UInt64) (p : Pt) : Int := if (p.kind.toNat : Int) ≠ 1 ∨ checkR p ≠ 0 then 3 else if (p.id.toNat : Int) ≠ (id.toNat : Int) then 4 else 0
def e1R (id : UInt64) (p : Pt) (l : List Pt) : Int := if e0R id p = 0 ∧ l.any (clash p) = true then 3 else e0R id p
theorem e1R_take (id : UInt64) (p : Pt) (l : List Pt) : e1R id p l = takeE id l p := by
  unfold e1R e0R takeE
  by_cases h1 : (p.kind.toNat : Int) ≠ 1 ∨ checkR p ≠ 0
  · simp [h1]
  · by_cases h2 : (p.id.toNat : Int) ≠ (id.toNat : Int)
    · simp [h1, h2]
    · simp only [if_neg h1, if_neg h2]
      simp [clash]
theorem e1R_step {id : UInt64} {p : Pt} {l : List Pt} {j : Nat} (hj : j < l.length) (h0 : e1R id p (l.take j) = 0) : e1R id p (l.take (j + 1)) = if clash p l[j] = true then 3 else 0 := by
  have h : e0R id p = 0 ∧ (l.take j).any (clash p) = false := by
    unfold e1R at h0
    split at h0
    · simp at h0
    · rename_i hn
      exact ⟨h0, by simpa [h0] using hn⟩
  unfold e1R
  rw [List.take_succ_eq_append_getElem hj, List.any_append, h.2, h.1]
  simp
theorem e1R_end {id : UInt64} {p : Pt} {l : List Pt} {j : Nat} (h : ¬ ((j : Int) < (l.length : Int) ∧ e1R id p (l.take j) = 0)) : e1R id p (l.take j) = takeE id l p := by
  rw [← e1R_take]
  by_cases hj : j < l.length
  · have hne : ¬ e1R id p (l.take j) = 0 := fun h' => h ⟨by omega, h'⟩
    unfold e1R at hne ⊢
    by_cases he : e0R id p = 0
    · have ht : (l.take j).any (clash p) = true := Classical.byContradiction fun h' => hne (by simp [he, h'])
      have hl : l.any (clash p) = true := by
        rw [← List.take_append_drop j l, List.any_append, ht]; rfl
      rw [if_pos ⟨he, ht⟩, if_pos ⟨he, hl⟩]
    · rw [if_neg (fun h => he h.1), if_neg (fun h => he h.1)]
  · rw [List.take_of_length_le (by omega)]


set_option maxRecDepth 100000 in
theorem ref11_Take (id : UInt64) (ps : List Pp) (pa : Option Addr) (pc : Nat) (w : World) (hn : ps.length * 56 ≤ 140737488355328) (hp : RdPP w pa ps) :
    Ret Try.prog 55 [.slice none 0 0, u64 id, .slice pa ps.length pc] w (fun v J => ∃ (a' : Option Addr) (c' : Nat) (qs : List Pp), qs.map (·.1) = (takeT id [] (ps.map (·.1))).1 ∧ (∀ q ∈ qs, q ∈ ps) ∧ v = .tuple #[.slice a' qs.length c', i64 (takeT id [] (ps.map (·.1))).2] ∧ J = [sl a' qs.length c' 66 5 (qs.flatMap ppC)]) := by
  refine enter [] (Mem.nil _) Try.func55 rfl Try.ntmps55 rfl (fun X hX => ?_)
  have hw := hX.w0; subst hw
  refine G.seq <| G.reg <| W.q (sa rfl) rfl <| W.q (sa rfl) rfl <| W.nil <| G.seq <| G.reg <| W.bs (cs := []) Try.underlying57 Try.sz66 Try.zrl66 rfl rfl rfl rfl fun b1 => W.ent (Ent.rowSl (m := 0) (cap := 0) (s := 5) (Nat.le_refl _) (by omega) (by simp [maxLen])) <| W.q (mv rfl) rfl <| W.ap (news := []) Try.underlying57 Try.underlying57 Try.sz66 Try.zln66 Try.by66 rfl rfl (fun _ _ => .hd) RdS.nil rfl rfl (by simp) (by omega) (by omega) rfl fun a0 c0 => W.q (sa rfl) rfl <| W.nil <| G.seq <| G.reg <| W.q (sa rfl) rfl <| W.nil <| G.seq <| G.seq <| G.reg <| W.q (sa rfl) rfl <| W.nil <| G.blk <| G.loop4 (α := Nat) (β := Option Addr) (γ := Nat) (δ := List Pp) (fun k a1 c1 qs => k ≤ ps.length ∧ qs.map (·.1) = (takeT id [] ((ps.map (·.1)).take k)).1 ∧ ∀ q ∈ qs, q ∈ ps) (fun k a1 c1 qs => [(0, .slice a1 qs.length c1), (8, i64 (takeT id [] ((ps.map (·.1)).take k)).2), (9, i64 k)]) (fun k a1 c1 qs => [sl a1 qs.length c1 66 5 (qs.flatMap ppC)]) (fun k a1 c1 qs => ps.length - k) [(1, _), (2, _)] [] 0 a0 c0 [] ⟨by omega, rfl, by simp⟩ (Sub.cons rfl <| Sub.cons rfl <| Sub.cons rfl <| Sub.cons rfl <| Sub.cons rfl <| Sub.nil _) .rfl (fun k a1 c1 qs hk ih => ?_)
  refine G.seq <| G.seq <| G.reg <| W.q (mv rfl) rfl <| W.q (mv rfl) rfl <| W.q (ln Try.esl57 rfl) rfl <| W.q (lt rfl rfl) rfl <| W.nil <| G.cdd rfl (fun h1 => ?_) (fun h1 => ?_)
  · -- h1 True
    have hk' : k < ps.length := by omega
    have hql : qs.length ≤ k := by
      have h1 := congrArg List.length hk.2.1
      have h2 := takeT_le (id := id) (ps := ps.map (·.1)) (k := k) (kept := [])
      simp only [List.length_map] at h1 h2; simp at h2; omega
    obtain ⟨zb, zo, rfl, hc⟩ := hp.1.el ppC_len (by omega) k hk'
    have hC : ∀ H, allNew H = true → Cells X.w0 H zb (zo + (k : Int).toNat * 5) (ppC ps[k]) := fun H hn => Cells.old hn hc
    have hmem := List.getElem_mem hk'
    have hsu : takeT id [] ((ps.map (·.1)).take (k + 1)) = takeS id (takeT id [] ((ps.map (·.1)).take k)) ps[k].1 := by
      rw [takeT_succ _ _ _ k (by simpa using hk'), List.getElem_map]
    generalize ps[k] = q at hC hmem hsu
    obtain ⟨q1, q2, q3⟩ := q
    refine G.skip <| G.seq <| G.blk <| G.seq <| G.reg <| W.q (mv rfl) rfl <| W.q (mv rfl) rfl <| W.q (ia Try.esl57 rfl rfl (by omega) (by omega)) rfl <| W.q (lda Try.agg66 Try.sz66 rfl (hC _ rfl) rfl) rfl <| W.al Try.zrl66 rfl fun b2 => W.sta Try.sz66 rfl rfl rfl rfl .hd rfl <| W.nil <| G.seq <| G.reg <| W.q (sa rfl) rfl <| W.nil <| G.seq <| G.blk <| G.seq <| G.join [(26, .bool (decide ((q1.kind.toNat : Int) ≠ 1 ∨ checkR q1 ≠ 0)))] [(0, _), (1, _), (2, _), (8, _), (9, _), (10, _), (11, _)] (Sub.cons rfl <| Sub.cons rfl <| Sub.cons rfl <| Sub.cons rfl <| Sub.cons rfl <| Sub.cons rfl <| Sub.cons rfl <| Sub.nil _) (fun key8 => ?_) ?_
    · -- region 8
      refine G.reg <| W.q (fa Try.fof66_0 rfl) rfl <| W.q (ld Try.sc5 rfl (Cell.at .hd rfl)) rfl <| W.q (ne rfl rfl) rfl <| W.q (mv rfl) rfl <| W.sp (t := _) 30 rfl (fun g2 => ?_) (fun g2 => ?_)
      · -- True
        refine W.sk rfl rfl g2 rfl <| W.sk rfl rfl g2 rfl <| W.sk rfl rfl g2 rfl <| W.q (pkt rfl g2 rfl) rfl <| W.q (sa rfl) rfl <| W.nil <| key8.weak (Sub.co rfl ?_ <| Sub.cons rfl <| Sub.cons rfl <| Sub.cons rfl <| Sub.cons rfl <| Sub.cons rfl <| Sub.cons rfl <| Sub.cons rfl <| Sub.nil _) .rfl
        all_goals first | rfl | (show Value.bool _ = Value.bool _; congr 1; grind)
      · -- False
        refine W.qg rfl rfl g2 (lda Try.agg66 Try.sz66 rfl (Cells.whole .hd) rfl) rfl <| W.fvg rfl rfl g2 Try.ca74 rfl (fun w hm => ref11_Check q1 q2 q3 w) rfl <| W.qg rfl rfl g2 (ne rfl rfl) rfl <| W.q (pkf rfl g2 rfl) rfl <| W.q (sa rfl) rfl <| W.nil <| key8.weak (Sub.co rfl ?_ <| Sub.cons rfl <| Sub.cons rfl <| Sub.cons rfl <| Sub.cons rfl <| Sub.cons rfl <| Sub.cons rfl <| Sub.cons rfl <| Sub.nil _) .rfl
        all_goals first | rfl | (show Value.bool _ = Value.bool _; congr 1; grind)
    refine G.joinH [(11, i64 (e0R id q1))] [(0, _), (1, _), (2, _), (8, _), (9, _), (10, _)] ([nb b2 (ptC q1 q2 q3) 66, sl a1 qs.length c1 66 5 (qs.flatMap ppC)]) (Sub.cons rfl <| Sub.cons rfl <| Sub.cons rfl <| Sub.cons rfl <| Sub.cons rfl <| Sub.cons rfl <| Sub.nil _) (fun ckey2 => ?_) ?_
    · -- cond 2
      refine G.cdd rfl (fun h3 => ?_) (fun h3 => ?_)
      · -- h3 True
        refine G.reg <| W.q (sa rfl) rfl <| W.nil <| ckey2.weak (Sub.co rfl ?_ <| Sub.cons rfl <| Sub.cons rfl <| Sub.cons rfl <| Sub.cons rfl <| Sub.cons rfl <| Sub.cons rfl <| Sub.nil _) .rfl
        · show i64 _ = i64 _; rw [e0R, if_pos h3]
      · -- h3 False
        refine G.seq <| G.reg <| W.q (fa Try.fof66_1 rfl) rfl <| W.q (ld Try.sc29 rfl (Cell.at .hd rfl)) rfl <| W.q (mv rfl) rfl <| W.q (ne rfl rfl) rfl <| W.q (sa rfl) rfl <| W.nil <| G.cdd rfl (fun h4 => ?_) (fun h4 => ?_)
        · -- h4 True
          refine G.reg <| W.q (sa rfl) rfl <| W.nil <| ckey2.weak (Sub.co rfl ?_ <| Sub.cons rfl <| Sub.cons rfl <| Sub.cons rfl <| Sub.cons rfl <| Sub.cons rfl <| Sub.cons rfl <| Sub.nil _) .rfl
          · show i64 _ = i64 _; rw [e0R, if_neg h3, if_pos h4]
        · -- h4 False
          refine G.skip <| ckey2.weak (Sub.co rfl ?_ <| Sub.cons rfl <| Sub.cons rfl <| Sub.cons rfl <| Sub.cons rfl <| Sub.cons rfl <| Sub.cons rfl <| Sub.nil _) .rfl
          · show i64 _ = i64 _; rw [e0R, if_neg h3, if_neg h4]
    refine G.inb <| G.seq <| G.seq <| G.reg <| W.q (sa rfl) rfl <| W.nil <| G.blk <| G.loop1 (α := Nat) (fun j => j ≤ qs.length) (fun j => [(11, i64 (e1R id q1 ((qs.map (·.1)).take j))), (12, i64 j)]) (fun j => []) (fun j => qs.length - j) [(0, _), (1, _), (2, _), (8, _), (9, _), (10, _)] _ 0 (by omega) (Sub.co rfl ?_ <| Sub.cons rfl <| Sub.cons rfl <| Sub.cons rfl <| Sub.cons rfl <| Sub.cons rfl <| Sub.cons rfl <| Sub.cons rfl <| Sub.nil _) .rfl (fun j hj ih2 => ?_)
    · show i64 _ = i64 _; rw [e1R, if_neg (by simp)]
    refine G.seq <| G.seq <| G.join [(47, .bool (decide ((j : Int) < (qs.length : Int) ∧ e1R id q1 ((qs.map (·.1)).take j) = 0)))] [(0, _), (1, _), (2, _), (8, _), (9, _), (10, _), (11, _), (12, _)] (Sub.cons rfl <| Sub.cons rfl <| Sub.cons rfl <| Sub.cons rfl <| Sub.cons rfl <| Sub.cons rfl <| Sub.cons rfl <| Sub.cons rfl <| Sub.nil _) (fun key13 => ?_) ?_
    · -- region 13
      refine G.reg <| W.q (mv rfl) rfl <| W.q (mv rfl) rfl <| W.q (ln Try.esl57 rfl) rfl <| W.q (lt rfl rfl) rfl <| W.q (mv rfl) rfl <| W.sp (t := _) 44 rfl (fun g5 => ?_) (fun g5 => ?_)
      · -- True
        refine W.qg rfl rfl g5 (mv rfl) rfl <| W.qg rfl rfl g5 (eq rfl rfl) rfl <| W.q (pkt rfl g5 rfl) rfl <| W.nil <| key13.weak (Sub.co rfl ?_ <| Sub.cons rfl <| Sub.cons rfl <| Sub.cons rfl <| Sub.cons rfl <| Sub.cons rfl <| Sub.cons rfl <| Sub.cons rfl <| Sub.cons rfl <| Sub.nil _) .rfl
        all_goals first | rfl | (show Value.bool _ = Value.bool _; congr 1; grind)
      · -- False
        refine W.sk rfl rfl g5 rfl <| W.sk rfl rfl g5 rfl <| W.q (pkf rfl g5 rfl) rfl <| W.nil <| key13.weak (Sub.co rfl ?_ <| Sub.cons rfl <| Sub.cons rfl <| Sub.cons rfl <| Sub.cons rfl <| Sub.cons rfl <| Sub.cons rfl <| Sub.cons rfl <| Sub.cons rfl <| Sub.nil _) .rfl
        all_goals first | rfl | (show Value.bool _ = Value.bool _; congr 1; grind)
    refine G.cdd rfl (fun h6 => ?_) (fun h6 => ?_)
    · -- h6 True
      have hj' : j < qs.length := by omega
      have hjm : j < (qs.map (·.1)).length := by simpa using hj'
      refine G.rdB (a := a1) (Rdf.sl (m := qs.length) (cap := c1) (E := 66) (s := 5) (xs := qs.flatMap ppC) (.tail _ <| .head _)) (by rw [flen]; omega) (fun yb yo yh hRd => ?_)
      subst yh
      have hZ := Rdf.el hRd j hj' (yo + (j : Int).toNat * 5) (by omega)
      have hcl : clash q1 (qs.map (·.1))[j] = decide (qs[j].1.count ≠ q1.count ∨ qs[j].1.index = q1.index) := by rw [List.getElem_map]; rfl
      generalize qs[j] = z at hZ hcl
      obtain ⟨z1, z2, z3⟩ := z
      refine G.skip <| G.seq <| G.blk <| G.seq <| G.join [(67, .bool (decide (z1.count ≠ q1.count ∨ z1.index = q1.index)))] [(0, _), (1, _), (2, _), (8, _), (9, _), (10, _), (11, _), (12, _)] (Sub.cons rfl <| Sub.cons rfl <| Sub.cons rfl <| Sub.cons rfl <| Sub.cons rfl <| Sub.cons rfl <| Sub.cons rfl <| Sub.cons rfl <| Sub.nil _) (fun key15 => ?_) ?_
      · -- region 15
        refine G.regq Try.mixed (by kernel_rfl) <| W.q (mv rfl) rfl <| W.q (mv rfl) rfl <| W.q (ia Try.esl57 rfl rfl (by omega) (by omega)) rfl <| W.q (fa Try.fof66_3 rfl) rfl <| W.q (ld Try.sc3 rfl (hZ 3 _ rfl)) rfl <| W.q (fa Try.fof66_3 rfl) rfl <| W.q (ld Try.sc3 rfl (Cell.at .hd rfl)) rfl <| W.q (ne rfl rfl) rfl <| W.q (mv rfl) rfl <| W.sp (t := _) 58 rfl (fun g7 => ?_) (fun g7 => ?_)
        · -- True
          refine W.sk rfl rfl g7 rfl <| W.sk rfl rfl g7 rfl <| W.sk rfl rfl g7 rfl <| W.sk rfl rfl g7 rfl <| W.sk rfl rfl g7 rfl <| W.sk rfl rfl g7 rfl <| W.sk rfl rfl g7 rfl <| W.sk rfl rfl g7 rfl <| W.q (pkt rfl g7 rfl) rfl <| W.nilq <| key15.weak (Sub.co rfl ?_ <| Sub.cons rfl <| Sub.cons rfl <| Sub.cons rfl <| Sub.cons rfl <| Sub.cons rfl <| Sub.cons rfl <| Sub.cons rfl <| Sub.cons rfl <| Sub.nil _) .rfl
          all_goals first | rfl | (show Value.bool _ = Value.bool _; congr 1; grind)
        · -- False
          refine W.qg rfl rfl g7 (mv rfl) rfl <| W.qg rfl rfl g7 (mv rfl) rfl <| W.qg rfl rfl g7 (ia Try.esl57 rfl rfl (by omega) (by omega)) rfl <| W.qg rfl rfl g7 (fa Try.fof66_2 rfl) rfl <| W.qg rfl rfl g7 (ld Try.sc3 rfl (hZ 2 _ rfl)) rfl <| W.qg rfl rfl g7 (fa Try.fof66_2 rfl) rfl <| W.qg rfl rfl g7 (ld Try.sc3 rfl (Cell.at .hd rfl)) rfl <| W.qg rfl rfl g7 (eq rfl rfl) rfl <| W.q (pkf rfl g7 rfl) rfl <| W.nilq <| key15.weak (Sub.co rfl ?_ <| Sub.cons rfl <| Sub.cons rfl <| Sub.cons rfl <| Sub.cons rfl <| Sub.cons rfl <| Sub.cons rfl <| Sub.cons rfl <| Sub.cons rfl <| Sub.nil _) .rfl
          all_goals first | rfl | (show Value.bool _ = Value.bool _; congr 1; grind)
      refine G.cdd rfl (fun h8 => ?_) (fun h8 => ?_)
      · -- h8 True
        refine G.reg <| W.q (sa rfl) rfl <| W.nil <| G.inb <| G.reg <| W.q (mv rfl) rfl <| W.q (ad rfl rfl (by omega)) rfl <| W.q (sa rfl) rfl <| W.nil <| (ih2 (j + 1) (by omega) (by omega)).weak (Sub.co rfl ?_ <| Sub.cons rfl <| Sub.cons rfl <| Sub.cons rfl <| Sub.cons rfl <| Sub.cons rfl <| Sub.cons rfl <| Sub.cons rfl <| Sub.nil _) .rfl
        all_goals clear ih2
        · show i64 _ = i64 _; rw [e1R_step hjm h6.2, hcl, if_pos (decide_eq_true h8)]
      · -- h8 False
        refine G.skip <| G.inb <| G.reg <| W.q (mv rfl) rfl <| W.q (ad rfl rfl (by omega)) rfl <| W.q (sa rfl) rfl <| W.nil <| (ih2 (j + 1) (by omega) (by omega)).weak (Sub.co rfl ?_ <| Sub.cons rfl <| Sub.cons rfl <| Sub.cons rfl <| Sub.cons rfl <| Sub.cons rfl <| Sub.cons rfl <| Sub.cons rfl <| Sub.nil _) .rfl
        all_goals clear ih2
        · show i64 _ = i64 _; rw [e1R_step hjm h6.2, hcl, if_neg (by simpa using h8), h6.2]
    · -- h6 False
      have he := e1R_end (id := id) (p := q1) (l := qs.map (·.1)) (j := j) (by rw [List.length_map]; exact h6)
      rw [he]
      refine G.exit rfl <| G.seq <| G.reg <| W.q (mv rfl) rfl <| W.q (eq rfl rfl) rfl <| W.nil <| G.cdd rfl (fun h9 => ?_) (fun h9 => ?_)
      · -- h9 True
        refine G.reg <| W.q (mv rfl) rfl <| W.q (lda Try.agg66 Try.sz66 rfl (Cells.whole .hd) rfl) rfl <| W.bs1 Try.underlying57 Try.sz66 Try.zrl66 rfl rfl rfl rfl rfl fun b3 => W.ap (news := [_, _, _, _, _]) Try.underlying57 Try.underlying57 Try.sz66 Try.zln66 Try.by66 rfl rfl (fun _ _ => (.tl <| .tl <| .hd)) (RdS.row .hd) rfl (by simp [Value.oneCell']) (by simp) (by omega) (by omega) rfl fun a3 c3 => W.q (sa rfl) rfl <| W.nil <| G.inb <| G.reg <| W.q (mv rfl) rfl <| W.q (ad rfl rfl (by omega)) rfl <| W.q (sa rfl) rfl <| W.nil <| (ih (k + 1) a3 c3 (qs ++ [(q1, q2, q3)]) ⟨by omega, by rw [hsu]; simp only [takeS, ← hk.2.1, if_pos h9, List.map_append]; rfl, fun q hq => (List.mem_append.1 hq).elim (hk.2.2 q) fun h => (List.mem_singleton.1 h) ▸ hmem⟩ (by omega)).weak (Sub.co rfl ?_ <| Sub.co rfl ?_ <| Sub.cons rfl <| Sub.cons rfl <| Sub.cons rfl <| Sub.nil _) (fun w hm => ent_q qs (q1, q2, q3) w (Dr.ent (.drop rfl <| .drop rfl <| .keep <| .rfl) w hm))
        all_goals clear ih
        · show Value.slice _ _ _ = _; rw [List.length_append]; rfl
        · show i64 _ = i64 _; rw [hsu]; simp only [takeS, ← hk.2.1, h9]; split; (rename_i h; rw [h]); rfl
      · -- h9 False
        refine G.seq <| G.reg <| W.q (mv rfl) rfl <| W.q (eq rfl rfl) rfl <| W.nil <| G.cdd rfl (fun h10 => ?_) (fun h10 => ?_)
        · -- h10 True
          refine G.reg <| W.q (mv rfl) rfl <| W.q (sa rfl) rfl <| W.nil <| G.inb <| G.reg <| W.q (mv rfl) rfl <| W.q (ad rfl rfl (by omega)) rfl <| W.q (sa rfl) rfl <| W.nil <| (ih (k + 1) a1 c1 qs ⟨by omega, by rw [hsu]; simp only [takeS, ← hk.2.1, if_neg h9], hk.2.2⟩ (by omega)).weak (Sub.co rfl ?_ <| Sub.co rfl ?_ <| Sub.cons rfl <| Sub.cons rfl <| Sub.cons rfl <| Sub.nil _) (Dr.ent <| Dr.drop rfl <| .rfl)
          all_goals clear ih
          · rfl
          · show i64 _ = i64 _; rw [hsu]; simp only [takeS, ← hk.2.1, if_pos h10]
        · -- h10 False
          refine G.skip <| G.inb <| G.reg <| W.q (mv rfl) rfl <| W.q (ad rfl rfl (by omega)) rfl <| W.q (sa rfl) rfl <| W.nil <| (ih (k + 1) a1 c1 qs ⟨by omega, by rw [hsu]; simp only [takeS, ← hk.2.1, if_neg h9], hk.2.2⟩ (by omega)).weak (Sub.co rfl ?_ <| Sub.co rfl ?_ <| Sub.cons rfl <| Sub.cons rfl <| Sub.cons rfl <| Sub.nil _) (Dr.ent <| Dr.drop rfl <| .rfl)
          all_goals clear ih
          · rfl
          · show i64 _ = i64 _; rw [hsu]; simp only [takeS, ← hk.2.1, if_neg h10]
  · -- h1 False
    have hke : k = ps.length := by omega
    have hall : (ps.map (·.1)).take k = ps.map (·.1) := List.take_of_length_le (by simp; omega)
    rw [hall] at hk ⊢
    refine G.exit rfl <| G.seq <| G.reg <| W.q (mv rfl) rfl <| W.q (mv rfl) rfl <| W.q (sa rfl) rfl <| W.q (sa rfl) rfl <| W.nil <| ret2 hX Try.results55 rfl rfl fun w hm => done (H := [sl a1 qs.length c1 66 5 (qs.flatMap ppC)]) rfl ⟨a1, c1, qs, hk.2.1, hk.2.2, rfl, rfl⟩ hm
end Go.Proofs.Ytjalojbihpdghaa
