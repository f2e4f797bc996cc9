/- FrameKeeps: the law's walk. -/
import Derived.Test.YtjalojbihpdghaaMerge6
import Derived.Test.YtjalojbihpdghaaApart
namespace Go.Proofs.Ytjalojbihpdghaa
open Go Go.Eng
set_option linter.unusedVariables false

theorem memA {x : It} {P R L : List It} (h : x ∈ P) (e : L = P ++ R) : x ∈ L := e ▸ List.mem_append_left _ h
def pcP (p : Pp) : Pc := (p.2.1, p.2.2, p.1.data)
theorem pcP_I (p : Pp) : pcI (pcP p) = ppI p := rfl
/-- The data of two lists of parts, in turn. -/
def il : List Pp → List Pp → List Pc
  | p :: ps, q :: qs => pcP p :: pcP q :: il ps qs
  | _, _ => []
theorem il_succ : ∀ (ps qs : List Pp) (k : Nat) (h1 : k < ps.length) (h2 : k < qs.length), il (ps.take (k + 1)) (qs.take (k + 1)) = il (ps.take k) (qs.take k) ++ [pcP ps[k], pcP qs[k]]
  | [], _, k, h1, _ => by simp at h1
  | _ :: _, [], k, _, h2 => by simp at h2
  | p :: ps, q :: qs, 0, _, _ => by simp [il]
  | p :: ps, q :: qs, k + 1, h1, h2 => by
    have := il_succ ps qs k (by simpa using h1) (by simpa using h2)
    simp only [List.take_succ_cons, il, this, List.getElem_cons_succ, List.cons_append]
theorem il_len : ∀ (ps qs : List Pp), ps.length = qs.length → (il ps qs).length = 2 * ps.length
  | [], _, _ => rfl
  | _ :: _, [], h => by simp at h
  | p :: ps, q :: qs, h => by simp only [il, List.length_cons, il_len ps qs (by simpa using h)]; omega
theorem il_mem : ∀ (ps qs : List Pp) (x : Pc), x ∈ il ps qs → ∃ p, (p ∈ ps ∨ p ∈ qs) ∧ x = pcP p
  | [], _, x, h => by simp [il] at h
  | _ :: _, [], x, h => by simp [il] at h
  | p :: ps, q :: qs, x, h => by
    simp only [il, List.mem_cons] at h
    rcases h with rfl | rfl | h
    · exact ⟨p, .inl (.head _), rfl⟩
    · exact ⟨q, .inr (.head _), rfl⟩
    · obtain ⟨y, hy, e⟩ := il_mem ps qs x h
      exact ⟨y, hy.elim (fun h => .inl (.tail _ h)) (fun h => .inr (.tail _ h)), e⟩
theorem il_perm : ∀ (ps qs : List Pp), ps.length = qs.length → ((il ps qs).map pcI).Perm (ps.map ppI ++ qs.map ppI)
  | [], [], _ => .refl _
  | [], _ :: _, h => by simp at h
  | _ :: _, [], h => by simp at h
  | p :: ps, q :: qs, h => by
    have ih := il_perm ps qs (by simpa using h)
    simp only [il, List.map_cons, pcP_I, List.cons_append]
    refine .cons _ ?_
    exact (List.Perm.cons _ ih).trans List.perm_middle.symm
open Classical in
theorem keeps_perm {A : List It} {sf s3 s4 s5 s6 ls bx l1 l2 : It} {P1 P2 : List It} (h : A.Perm (P1 ++ P2)) : (ls :: bx :: s6 :: s5 :: s4 :: s3 :: ((l2 :: P2) ++ ((l1 :: P1) ++ [sf]))).Perm ((sf :: s3 :: s4 :: s5 :: s6 :: A) ++ [ls, bx, l2, l1]) := by
  refine List.perm_iff_count.2 fun x => ?_
  have := h.count_eq x
  simp only [List.count_append, List.count_cons, List.count_nil] at this ⊢
  omega


set_option maxRecDepth 100000 in
theorem law_FrameKeeps (a : Option Addr) (cap : Nat) (msg : List UInt8) (id : UInt64) (w : World) (hl : RdL w a (B msg)) (hb : msg.length ≤ 140737488351232) (hcap : msg.length ≤ cap) :
    Ret Try.prog 7 [.slice a msg.length cap, u64 id] w (fun v _ => v = .bool true) := by
  refine enter [] (Mem.nil _) Try.func7 rfl Try.ntmps7 rfl (fun X hX => ?_)
  have hw := hX.w0; subst hw
  refine G.seq <| G.reg <| W.q (sa rfl) rfl <| W.nil <| G.seq <| G.seq <| G.reg <| W.fv Try.ca22 rfl (fun w hm => law11_awake w) rfl <| W.q (nt rfl) rfl <| W.nil <| G.cdf rfl rfl <| G.skip <| G.seq <| G.seq <| G.reg <| W.q (mv rfl) rfl <| W.q (ln Try.esl22 rfl) rfl <| W.q (gt rfl rfl) rfl <| W.nil <| G.joinH [(0, .slice a (msg.take 2000).length cap)] [(1, _)] ([]) (Sub.cons rfl <| Sub.nil _) (fun ckey1 => ?_) ?_
  · -- cond 1
    refine G.cdd rfl (fun h1 => ?_) (fun h1 => ?_)
    · -- h1 True
      refine G.reg <| W.q (mv rfl) rfl <| W.q (shi Try.esl22 rfl rfl (by omega) (by omega)) rfl <| W.q (sa rfl) rfl <| W.nil <| ckey1.weak (Sub.co rfl ?_ <| Sub.cons rfl <| Sub.nil _) .rfl
      · show Value.slice _ _ _ = _; congr 1; simp; omega
    · -- h1 False
      refine G.skip <| ckey1.weak (Sub.co rfl ?_ <| Sub.cons rfl <| Sub.nil _) .rfl
      · show Value.slice _ _ _ = _; congr 1; simp; omega
  obtain ⟨ms, hmse⟩ : ∃ ms, msg.take 2000 = ms := ⟨_, rfl⟩
  have hml : ms.length ≤ 2000 := by rw [← hmse]; simp; omega
  have hms : RdL X.w0 a (B ms) := by have := hl.take 2000; rw [← hmse]; simpa [B, List.map_take] using this
  rw [hmse]
  obtain ⟨m, hcut, hcut0⟩ := cut_of (id := id) (msg := ms) (by omega)
  refine G.seq <| G.reg <| W.q (mv rfl) rfl <| W.fn Try.ca27 rfl (fun w hm => ref01_Spare a cap ms w (hm.rd rfl hms) (by omega)) rfl fun v J hv hJ => ?_
  obtain ⟨bF, rfl, rfl⟩ := hv
  rw [← spareB_len]
  have hF : ∀ w H, Mem X.w0 w H → sl (some ⟨bF, 0, none⟩) (spareB ms).length (spareB ms).length 5 1 (B (spareB ms)) ∈ H → RdL w (some ⟨bF, 0, none⟩) (B ms) := fun w H hm hi => by
    have := (hm.slRd hi).takeB ms.length
    rwa [show (spareB ms).take ms.length = ms by simp [spareB]] at this
  have hsl := spareB_len ms
  refine W.q (mv rfl) rfl <| W.q (ex rfl rfl) rfl <| W.q (ex rfl rfl) rfl <| W.q (sa rfl) rfl <| W.q (sa rfl) rfl <| W.nil <| G.seq <| G.reg <| W.q (mv rfl) rfl <| W.q (mv rfl) rfl <| W.fn Try.ca26 rfl (fun w hm => frame_Split id (some ⟨bF, 0, none⟩) (spareB ms).length ms w (hF w _ hm (.head _)) (by omega) (by omega)) rfl fun v J hv hJ => ?_
  rw [hcut0] at hv
  obtain ⟨v1, ⟨a1, c1, ps, hps, rfl, rfl⟩, rfl⟩ := hv
  refine W.q (mv rfl) rfl <| W.q (ex rfl rfl) rfl <| W.q (ex rfl rfl) rfl <| W.q (sa rfl) rfl <| W.q (sa rfl) rfl <| W.nil <| G.seq <| G.reg <| W.q (mv rfl) rfl <| W.q (mv rfl) rfl <| W.fn Try.ca26 rfl (fun w hm => frame_Split id (some ⟨bF, 0, none⟩) (spareB ms).length ms w (hF w _ hm (by simp)) (by omega) (by omega)) rfl fun v J hv hJ => ?_
  rw [hcut0] at hv
  obtain ⟨v1, ⟨a2, c2, qs, hqs, rfl, rfl⟩, rfl⟩ := hv
  have hpl : ps.length = m := by have := congrArg List.length hps; rw [List.length_map, hcut.length] at this; exact this
  have hql : qs.length = m := by have := congrArg List.length hqs; rw [List.length_map, hcut.length] at this; exact this
  have hpos : 0 < ps.length := by have := hcut.lo; omega
  have hp16 : ps.length ≤ 16 := by have := hcut.hi; omega
  have hdl : ∀ p ∈ (splitR id ms).1, p.data.length ≤ 450 := fun p hp => (check_ok (hcut.each p hp).2.1).2.1
  refine W.q (mv rfl) rfl <| W.q (ex rfl rfl) rfl <| W.q (ex rfl rfl) rfl <| W.q (sa rfl) rfl <| W.q (sa rfl) rfl <| W.nil <| G.seq <| G.reg <| W.q (mv rfl) rfl <| W.fn Try.ca23 rfl (fun w hm => frame_MergeN ps ps.length rfl a1 c1 w (by omega) (RdPP.of hm (fun it hi => List.mem_append_right _ (memA hi rfl)) (by rw [hps]; exact fun x hx => by have := hdl x hx; omega))) rfl fun v J hv hJ => ?_
  rw [hps, hcut.merge (.refl _)] at hv
  obtain ⟨v1, ⟨a3, c3, rfl, rfl⟩, rfl⟩ := hv
  refine W.q (mv rfl) rfl <| W.q (ex rfl rfl) rfl <| W.q (ex rfl rfl) rfl <| W.q (sa rfl) rfl <| W.q (sa rfl) rfl <| W.nil <| G.seq <| G.reg <| W.q (mv rfl) rfl <| W.fn Try.ca23 rfl (fun w hm => frame_MergeN qs qs.length rfl a2 c2 w (by omega) (RdPP.of hm (fun it hi => .tail _ (memA hi rfl)) (by rw [hqs]; exact fun x hx => by have := hdl x hx; omega))) rfl fun v J hv hJ => ?_
  rw [hqs, hcut.merge (.refl _)] at hv
  obtain ⟨v1, ⟨a4, c4, rfl, rfl⟩, rfl⟩ := hv
  refine W.q (mv rfl) rfl <| W.q (ex rfl rfl) rfl <| W.q (ex rfl rfl) rfl <| W.q (sa rfl) rfl <| W.q (sa rfl) rfl <| W.nil <| G.seq <| G.seq <| G.reg <| W.q (mv rfl) rfl <| W.q (ne rfl rfl) rfl <| W.q (mv rfl) rfl <| W.sp (t := _) 57 rfl (fun g2 => ?_) (fun g2 => ?_)
  · -- True
    simp at g2
  · -- False
    refine W.qg rfl rfl g2 (mv rfl) rfl <| W.qg rfl rfl g2 (mv rfl) rfl <| W.fvg rfl rfl g2 Try.ca28 rfl (fun w hm => ref01_Kept (some ⟨bF, 0, none⟩) (spareB ms).length _ ms w (hm.slRd (m := (spareB ms).length) (cap := (spareB ms).length) (E := 5) (s := 1) (by simp)) (spareB_len ms) (by omega) a cap (hm.rd (by simp [allNew, ppI, pcI, sl]) hms)) rfl <| W.qg rfl rfl g2 (nt rfl) rfl <| W.q (pkf rfl g2 rfl) rfl <| W.q (mv rfl) rfl <| W.qg rfl rfl rfl (mv rfl) rfl <| W.qg rfl rfl rfl (mv rfl) rfl <| W.fvg rfl rfl rfl Try.ca15 rfl (fun w hm => ref01_EqualT (hm.slRd (.tail _ <| .head _)) (by show ms.length ≤ _; omega) (hm.rd (by simp [allNew, ppI, pcI, sl]) hms) rfl rfl rfl) rfl <| W.qg rfl rfl rfl (nt rfl) rfl <| W.q (pkf rfl rfl rfl) rfl <| W.q (mv rfl) rfl <| W.qg rfl rfl rfl (mv rfl) rfl <| W.qg rfl rfl rfl (ln Try.esl57 rfl) rfl <| W.qg rfl rfl rfl (eq rfl rfl) rfl <| W.q (pkf rfl rfl rfl) rfl <| W.nil <| G.cdd rfl (fun h3 => ?_) (fun h3 => ?_)
    · -- h3 True
      exact absurd h3 (by omega)
    · -- h3 False
      refine G.skip <| G.seq <| ?_
      refine G.rdB (a := a1) (Rdf.sl (m := ps.length) (cap := c1) (E := 66) (s := 5) (xs := ps.flatMap ppC) (by simp)) (by rw [flen]; omega) (fun zb zo ho hRd => ?_)
      subst ho
      have hZ0 := Rdf.el hRd 0 hpos (zo + (0 : Int).toNat * 5) (by simp)
      have hq0m : ps[0].1 ∈ (splitR id ms).1 := by rw [← hps]; exact List.mem_map_of_mem (List.getElem_mem hpos)
      have hq0I := List.mem_map_of_mem (f := ppI) (List.getElem_mem hpos)
      generalize ps[0] = q at hZ0 hq0m hq0I
      obtain ⟨q0, x0, y0⟩ := q
      have h9 : sl x0 q0.data.length y0 5 1 (B q0.data) ∈ ps.map ppI := hq0I
      refine G.slAt (a := x0) (m := q0.data.length) (cap := y0) (E := 5) (s := 1) (xs := B q0.data) (by simp only [List.mem_append, List.mem_cons, h9, true_or, or_true]) (fun y1 hqc y3 y4 => ?_)
      have hck := (hcut.each q0 hq0m).2.1
      have hfr : frameR q0 = (frameB q0, 0) := by rw [frameR, if_neg (by simp [hck])]
      have hpf := parse_frame q0 hck
      have hfl := frameB_len q0 (hdl q0 hq0m)
      have hq450 := hdl q0 hq0m
      refine G.reg <| W.q (mv rfl) rfl <| W.q (ia Try.esl57 rfl rfl (by omega) (by omega)) rfl <| W.q (lda Try.agg66 Try.sz66 rfl hZ0 rfl) rfl <| W.fn Try.ca29 rfl (fun w hm => frame_Frame q0 x0 y0 w (hm.slRd (m := q0.data.length) (cap := y0) (E := 5) (s := 1) (by simp only [List.mem_append, List.mem_cons, h9, true_or, or_true])) (by omega) hqc) rfl fun v J hv hJ => ?_
      rw [hfr] at hv
      obtain ⟨v1, ⟨a5, c5, rfl, rfl⟩, rfl⟩ := hv
      refine W.q (mv rfl) rfl <| W.q (ex rfl rfl) rfl <| W.q (ex rfl rfl) rfl <| W.q (sa rfl) rfl <| W.q (sa rfl) rfl <| W.nil <| G.seq <| G.reg <| W.q (mv rfl) rfl <| W.fn Try.ca30 rfl (fun w hm => frame_Parse a5 (frameB q0).length c5 (frameB q0) w rfl (hm.slRd (m := (frameB q0).length) (cap := c5) (E := 5) (s := 1) (.head _)) (by rw [hfl]; decide)) rfl fun v J hv hJ => ?_
      rw [hpf] at hv
      obtain ⟨a6, c6, rfl, rfl⟩ := hv
      refine W.q (mv rfl) rfl <| W.q (ex rfl rfl) rfl <| W.q (ex rfl rfl) rfl <| W.al Try.zrl66 rfl fun b1 => W.sta Try.sz66 rfl rfl rfl rfl .hd rfl <| W.q (sa rfl) rfl <| W.nil <| G.seq <| G.reg <| W.q (mv rfl) rfl <| W.q (mv rfl) rfl <| W.q (mv rfl) rfl <| W.q (mv rfl) rfl <| W.q (fa Try.fof66_4 rfl) rfl <| W.q (ld Try.sc22 rfl (Cell.at .hd rfl)) rfl <| W.bs (cs := [_, _, _, _, _]) Try.underlying73 Try.sz22 Try.zrl22 rfl rfl rfl rfl fun b2 => W.q (sa rfl) rfl <| W.nil <| G.seq <| G.seq <| G.reg <| W.q (mv rfl) rfl <| W.q (ln Try.esl57 rfl) rfl <| W.q (mv rfl) rfl <| W.nil <| G.blk <| ?_
      refine G.ent (Ent.rowSl (m := 5) (cap := 5) (s := 1) (Nat.le_refl _) (by omega) (by simp [maxLen])) ?_
      refine G.loop3 (α := Nat) (β := Option Addr) (γ := Nat) (fun k al cl => k ≤ ps.length) (fun k al cl => [(19, .slice al ([(some ⟨bF, 0, none⟩, (spareB ms).length, spareB ms), (a3, c3, ms), (a4, c4, ms), (a5, c5, frameB q0), (a6, c6, q0.data)] ++ il (ps.take (k)) (qs.take (k))).length cl), (95, i64 k)]) (fun k al cl => [sl al ([(some ⟨bF, 0, none⟩, (spareB ms).length, spareB ms), (a3, c3, ms), (a4, c4, ms), (a5, c5, frameB q0), (a6, c6, q0.data)] ++ il (ps.take (k)) (qs.take (k))).length cl 22 1 (([(some ⟨bF, 0, none⟩, (spareB ms).length, spareB ms), (a3, c3, ms), (a4, c4, ms), (a5, c5, frameB q0), (a6, c6, q0.data)] ++ il (ps.take (k)) (qs.take (k))).map pcV)]) (fun k al cl => ps.length - k) [(7, _), (9, _), (94, _)] _ 0 (some ⟨b2, 0, none⟩) 5 (by omega) (Sub.cons rfl <| Sub.cons rfl <| Sub.cons rfl <| Sub.cons rfl <| Sub.cons rfl <| Sub.nil _) .rfl (fun k al cl hk ih => ?_)
      refine G.seq <| G.reg <| W.q (lt rfl rfl) rfl <| W.nil <| G.seq <| G.cdd rfl (fun h4 => ?_) (fun h4 => ?_)
      · -- h4 True
        have hk1 : k < ps.length := by omega
        have hk2 : k < qs.length := by omega
        refine G.rdB (a := a2) (Rdf.sl (m := qs.length) (cap := c2) (E := 66) (s := 5) (xs := qs.flatMap ppC) (by simp)) (by rw [flen]; omega) (fun ub uo hu hRd2 => ?_)
        subst hu
        refine G.rdB (a := some ⟨zb, zo, none⟩) (Rdf.sl (m := ps.length) (cap := c1) (E := 66) (s := 5) (xs := ps.flatMap ppC) (by simp)) (by rw [flen]; omega) (fun zb' zo' hz' hRd1 => ?_)
        cases hz'
        have hZ1 := Rdf.el hRd1 k hk1 (zo + (k : Int).toNat * 5) (by omega)
        have hZ2 := Rdf.el hRd2 k hk2 (uo + (k : Int).toNat * 5) (by omega)
        have hst : ([(some ⟨bF, 0, none⟩, (spareB ms).length, spareB ms), (a3, c3, ms), (a4, c4, ms), (a5, c5, frameB q0), (a6, c6, q0.data)] ++ il (ps.take (k + 1)) (qs.take (k + 1))) = ([(some ⟨bF, 0, none⟩, (spareB ms).length, spareB ms), (a3, c3, ms), (a4, c4, ms), (a5, c5, frameB q0), (a6, c6, q0.data)] ++ il (ps.take (k)) (qs.take (k))) ++ [pcP ps[k], pcP qs[k]] := by rw [il_succ ps qs k hk1 hk2, List.append_assoc]
        generalize ps[k] = z1 at hZ1 hst
        generalize qs[k] = z2 at hZ2 hst
        have hpcl : ([(some ⟨bF, 0, none⟩, (spareB ms).length, spareB ms), (a3, c3, ms), (a4, c4, ms), (a5, c5, frameB q0), (a6, c6, q0.data)] ++ il (ps.take (k)) (qs.take (k))).length = 5 + 2 * k := by
          rw [List.length_append, il_len _ _ (by simp; omega)]; simp; omega
        refine G.skip <| G.seq <| G.blk <| G.seq <| G.reg <| W.q (mv rfl) rfl <| W.q (sa rfl) rfl <| W.nil <| G.rega 14 rfl Try.mixed <| A.q 0 rfl (by kernel_rfl) (fun _ => (mv rfl)) rfl <| A.q 1 rfl (by kernel_rfl) (fun _ => (mv rfl)) rfl <| A.q 2 rfl (by kernel_rfl) (fun _ => (mv rfl)) rfl <| A.q 3 rfl (by kernel_rfl) (fun _ => (ia Try.esl57 rfl rfl (by omega) (by omega))) rfl <| A.q 4 rfl (by kernel_rfl) (fun _ => (fa Try.fof66_4 rfl)) rfl <| A.q 6 rfl (by kernel_rfl) (fun _ => (mv rfl)) rfl <| A.q 7 rfl (by kernel_rfl) (fun _ => (mv rfl)) rfl <| A.q 8 rfl (by kernel_rfl) (fun _ => (ia Try.esl57 rfl rfl (by omega) (by omega))) rfl <| A.q 9 rfl (by kernel_rfl) (fun _ => (fa Try.fof66_4 rfl)) rfl <| A.held 5 [10] rfl (by kernel_rfl) (ld Try.sc22 rfl (hZ1 4 _ rfl)) rfl <| A.held 10 [] rfl (by kernel_rfl) (ld Try.sc22 rfl (hZ2 4 _ rfl)) rfl <| A.one 11 rfl (by kernel_rfl) <| W.bs (cs := [_, _]) Try.underlying73 Try.sz22 Try.zrl22 rfl rfl rfl rfl fun b3 => A.back <| A.one 12 rfl (by kernel_rfl) <| W.ap (news := [_, _]) Try.underlying73 Try.underlying73 Try.sz22 Try.zln22 Try.by22 rfl rfl (fun _ _ => (.tl <| .hd)) (RdS.row .hd) rfl rfl (by simp) (by omega) (by omega) rfl fun a9 c9 => A.back <| A.q 13 rfl (by kernel_rfl) (fun _ => (sa rfl)) rfl <| A.nil (by kernel_rfl) <| G.inb <| G.reg <| W.q (ad rfl rfl (by omega)) rfl <| W.q (mv rfl) rfl <| W.nil <| (ih (k + 1) a9 c9 (by omega) (by omega)).weak (Sub.co rfl ?_ <| Sub.cons rfl <| Sub.cons rfl <| Sub.cons rfl <| Sub.cons rfl <| Sub.nil _) (fun w hm => by have := Dr.ent (.drop rfl <| .keep <| .keep <| .keep <| .keep <| .keep <| .keep <| .keep <| .rfl) w hm; rw [hst, List.length_append (bs := [pcP z1, pcP z2]), List.map_append]; exact this)
        all_goals clear ih
        · show Value.slice _ _ _ = _; rw [hst, List.length_append (bs := [pcP z1, pcP z2])]; rfl
      · -- h4 False
        have hke : k = ps.length := by omega
        refine G.exit rfl <| G.seq <| G.reg <| W.q (mv rfl) rfl <| ?_
        have hpcl : ([(some ⟨bF, 0, none⟩, (spareB ms).length, spareB ms), (a3, c3, ms), (a4, c4, ms), (a5, c5, frameB q0), (a6, c6, q0.data)] ++ il (ps.take (k)) (qs.take (k))).length = 5 + 2 * ps.length := by
          rw [List.length_append, List.take_of_length_le (by omega), List.take_of_length_le (by omega), il_len ps qs (by omega)]; simp
        have hbd : ∀ x ∈ ([(some ⟨bF, 0, none⟩, (spareB ms).length, spareB ms), (a3, c3, ms), (a4, c4, ms), (a5, c5, frameB q0), (a6, c6, q0.data)] ++ il (ps.take (k)) (qs.take (k))), x.2.2.length ≤ 140737488351232 := fun x hx => by
          rcases List.mem_append.1 hx with hx | hx
          · simp at hx
            rcases hx with rfl | rfl | rfl | rfl | rfl <;> (dsimp only; omega)
          · obtain ⟨p, hp, rfl⟩ := il_mem _ _ x hx
            have : p.1 ∈ (splitR id ms).1 := hp.elim (fun h => by rw [← hps]; exact List.mem_map_of_mem (List.mem_of_mem_take h)) (fun h => by rw [← hqs]; exact List.mem_map_of_mem (List.mem_of_mem_take h))
            have := hdl p.1 this
            show p.1.data.length ≤ _; omega
        refine W.ent (H' := ([(some ⟨bF, 0, none⟩, (spareB ms).length, spareB ms), (a3, c3, ms), (a4, c4, ms), (a5, c5, frameB q0), (a6, c6, q0.data)] ++ il (ps.take (k)) (qs.take (k))).map pcI ++ [sl al ([(some ⟨bF, 0, none⟩, (spareB ms).length, spareB ms), (a3, c3, ms), (a4, c4, ms), (a5, c5, frameB q0), (a6, c6, q0.data)] ++ il (ps.take (k)) (qs.take (k))).length cl 22 1 (([(some ⟨bF, 0, none⟩, (spareB ms).length, spareB ms), (a3, c3, ms), (a4, c4, ms), (a5, c5, frameB q0), (a6, c6, q0.data)] ++ il (ps.take (k)) (qs.take (k))).map pcV)]) (fun w hm => ?_) ?_
        · rw [List.take_of_length_le (l := ps) (by omega), List.take_of_length_le (l := qs) (by omega)] at hm ⊢
          have h1 := hm.perm (keeps_perm (il_perm ps qs (by omega)))
          exact h1.sublist (List.Sublist.append (.refl _) (by simp)) (fun it hi => .inr (List.all_eq_true.1 (show allNew _ = true by simp [allNew, pcI, ppI, sl, blk]) it hi))
        refine W.ff Try.ca31 rfl .rfl (ref01_Apart X.w0 [sl al ([(some ⟨bF, 0, none⟩, (spareB ms).length, spareB ms), (a3, c3, ms), (a4, c4, ms), (a5, c5, frameB q0), (a6, c6, q0.data)] ++ il (ps.take (k)) (qs.take (k))).length cl 22 1 (([(some ⟨bF, 0, none⟩, (spareB ms).length, spareB ms), (a3, c3, ms), (a4, c4, ms), (a5, c5, frameB q0), (a6, c6, q0.data)] ++ il (ps.take (k)) (qs.take (k))).map pcV)] al cl ([(some ⟨bF, 0, none⟩, (spareB ms).length, spareB ms), (a3, c3, ms), (a4, c4, ms), (a5, c5, frameB q0), (a6, c6, q0.data)] ++ il (ps.take (k)) (qs.take (k))) (Rdf.sl (.head _)) hbd (by omega)) rfl rfl fun v J hv hJ => ?_
        obtain ⟨rfl, rfl⟩ := hv
        refine W.q (sa rfl) rfl <| W.nil <| ret1 hX Try.results7 rfl fun w hm => done (H := []) rfl ?_ (Dr.ent (Dr.new rfl) w hm)
        rfl
end Go.Proofs.Ytjalojbihpdghaa
