/- SurbDecodes: the law's walk. -/
import Derived.Test.YtjalojbihpdghaaSurb4
namespace Go.Proofs.Ytjalojbihpdghaa
open Go Go.Eng
set_option linter.unusedVariables false

theorem keysC_one (ks : List (List UInt8)) : (keysC ks).all (·.oneCell') = true := by
  induction ks with
  | nil => rfl
  | cons k ks ih => rw [show keysC (k :: ks) = B k ++ keysC ks from rfl, List.all_append, B_one, ih]; rfl
theorem flat_one (sts : List Sto) : (sts.flatMap stV).all (·.oneCell') = true := by
  induction sts with
  | nil => rfl
  | cons k ks ih => rw [List.flatMap_cons, List.all_append, stV_one, ih]; rfl
theorem RdL.nilK {w : World} {a : Option Addr} {ks : List (List UInt8)} (hks : ∀ k ∈ ks, k.length = 32) (h : RdL w a (keysC ks)) (ha : a = none) : ks.length = 0 := by
  subst ha
  have := h.none_nil'
  have hl := keysC_len ks hks
  rw [this] at hl; simp at hl; omega
theorem RdL.nilT {w : World} {a : Option Addr} {sts : List Sto} (hst : ∀ s ∈ sts, StOk s) (h : RdL w a (sts.flatMap stV)) (ha : a = none) : sts.length = 0 := by
  subst ha
  have := h.none_nil'
  have hl := flat_len stV 49 sts (fun s hs => stV_len (hst s hs))
  rw [this] at hl; simp at hl; omega
theorem st_set {mark own : List UInt8} {pa a : Option Addr} {pl pc n c : Nat} (hm : mark.length = 16) (ho : own.length = 32) : setAt (stC mark own pa pl pc) 48 [.slice a n c] = stC mark own a n c := by
  have := Eng.setAt_end (B mark ++ B own) [.slice pa pl pc] [.slice a n c] rfl
  rw [List.length_append, Bl, Bl, hm, ho] at this
  rw [stC, ← List.append_assoc, this, stC, List.append_assoc]
theorem keysC_take (ks : List (List UInt8)) (hks : ∀ k ∈ ks, k.length = 32) (n : Nat) : keysC (ks.take n) = (keysC ks).take (n * 32) := by
  induction ks generalizing n with
  | nil => simp [keysC]
  | cons k ks ih =>
    cases n with
    | zero => simp [keysC]
    | succ n =>
      have hk := hks k List.mem_cons_self
      rw [List.take_succ_cons, show keysC (k :: ks.take n) = B k ++ keysC (ks.take n) from rfl, show keysC (k :: ks) = B k ++ keysC ks from rfl, ih (fun k hk => hks k (List.mem_cons_of_mem _ hk)), List.take_append, List.take_of_length_le (l := B k) (by rw [Bl, hk]; omega), Bl, hk, show (n + 1) * 32 - 32 = n * 32 by omega]
theorem parse_le (bs : List UInt8) : (parseR bs).1.data.length ≤ 480 := by
  unfold parseR
  repeat' split
  all_goals first | (simp [pt0]; done) | (simp only [partOf, List.length_take, List.length_drop]; omega)
theorem dec_le (own : List UInt8) (ks : List (List UInt8)) (body : List UInt8) : (decR own ks body).1.length ≤ 480 := by
  unfold decR
  split
  · simp
  · dsimp only
    repeat' split
    all_goals first | (simp; done) | exact parse_le _
theorem mtR_shift (mark : List UInt8) (l : List Sto) (k : Nat) : mtR mark l (k + 1) = (mtR mark l k).map (· + 1) := by
  induction l generalizing k with
  | nil => rfl
  | cons s l ih =>
    rw [mtR, mtR]
    split
    · rfl
    · exact ih (k + 1)
theorem mtR_lt {mark : List UInt8} {l : List Sto} {k j : Nat} (h : mtR mark l k = some j) : j < k + l.length := by
  induction l generalizing k with
  | nil => cases h
  | cons s l ih =>
    rw [mtR] at h
    split at h
    · cases h; simp
    · have := ih h; simp; omega
theorem mtR_end (mark : List UInt8) (l : List Sto) (s : Sto) (k : Nat) (hs : s.mark = mark) : mtR mark (l ++ [s]) k = some ((mtR mark l k).getD (k + l.length)) := by
  induction l generalizing k with
  | nil => simp [mtR, hs]
  | cons x l ih =>
    rw [List.cons_append, mtR, mtR]
    split
    · rfl
    · rw [ih (k + 1)]; congr 2; simp; omega


set_option maxRecDepth 100000 in
theorem ref16_Twin (st : Sto) (ks : List (List UInt8)) (w : World) (hok : StOk st) (hpl : st.pl = ks.length) (hks : ∀ k ∈ ks, k.length = 32) (hpa : RdL w st.pa (keysC ks)) (hpn : ks.length ≤ 1000000000000) :
    Ret Try.prog 18 [.agg (stV st).toArray] w (fun v J => ∃ a c, v = .agg (stV { st with pa := a, pc := c }).toArray ∧ J = [sl a ks.length c 24 32 (keysC ks)]) := by
  obtain ⟨mark, own, pa, pl, pc⟩ := st
  subst hpl
  obtain ⟨hmk, ho⟩ := hok
  have hmk : mark.length = 16 := hmk
  have ho : own.length = 32 := ho
  have hpa : RdL w pa (keysC ks) := hpa
  show Ret _ _ [.agg (stC mark own pa ks.length pc).toArray] _ _
  refine enter [] (Mem.nil _) Try.func18 rfl Try.ntmps18 rfl (fun X hX => ?_)
  have hw := hX.w0; subst hw
  refine G.seq <| G.reg <| W.bxa rfl rfl fun b1 => W.al Try.zrl47 rfl fun b2 => W.nil <| G.seq <| G.reg <| W.bs (cs := []) Try.underlying45 Try.sz24 Try.zrl24 rfl rfl rfl rfl fun b3 => W.ent (Ent.rowSl (m := 0) (cap := 0) (s := 32) (Nat.le_refl _) (by omega) (by simp [maxLen])) <| W.q (fa Try.fof47_2 rfl) rfl <| W.q (ld Try.sc45 rfl (Cell.at (.tl <| .tl <| .hd) (stC_pay hmk ho))) rfl <| W.ap Try.underlying45 Try.underlying45 Try.sz24 Try.zln24 Try.by24 rfl rfl (fun _ _ => .hd) (RdS.old rfl hpa) (keysC_len ks hks) (keysC_one ks) (RdL.nilK hks hpa) (by omega) (by omega) rfl fun a1 cap1 => W.q (fa Try.fof47_2 rfl) rfl <| W.st (cs' := stC mark own a1 (0 + ks.length) cap1) Try.sz45 rfl rfl rfl rfl rfl (.tl <| .tl <| .hd) (by rw [stC_len hmk ho]; decide) (st_set hmk ho) <| W.nil <| G.seq <| G.reg <| W.q (lda Try.agg47 Try.sz47 rfl (Cells.whole (.tl <| .tl <| .hd)) (stC_len hmk ho)) rfl <| W.sta Try.sz47 rfl rfl (stC_len hmk ho) stC_one (.tl <| .hd) (by simp) <| W.nil <| ret hX Try.results18 (RA.cella rfl Try.agg47 Try.sz47 (Cells.whole (.tl <| .hd)) (stC_len hmk ho) <| RA.nil) fun w hm => done (H := [sl a1 ks.length cap1 24 32 (keysC ks)]) rfl ?_ (by have := Dr.ent (.keep <| .drop rfl <| .drop rfl <| .rfl) w hm; rw [Nat.zero_add, List.take_nil, List.nil_append] at this; exact this)
  refine ⟨a1, cap1, ?_, rfl⟩
  rw [Nat.zero_add]; rfl

theorem surb_MatchEnd (mark : List UInt8) (w : World) (ta : Option Addr) (tc : Nat) (sts : List Sto) (st : Sto) (hst : ∀ s ∈ sts, StOk s) (hok : StOk st) (hs : st.mark = mark) (hta : RdL w ta (sts.flatMap stV ++ stV st)) (htb : sts.length * 72 ≤ 140737488351232) (h2 : mark.length = 16) :
    Ret Try.prog 20 [.agg (B mark).toArray, .slice ta (sts.length + 1) tc] w (fun v _ => v = .tuple #[i64 (((mtR mark sts 0).getD (0 + sts.length) : Nat) : Int), .bool true]) := by
  have hst2 : ∀ s ∈ sts ++ [st], StOk s := fun s hs => by
    rcases List.mem_append.1 hs with hs | hs
    · exact hst s hs
    · rw [List.mem_singleton.1 hs]; exact hok
  have := surb_Match mark w ta (sts.length + 1) tc (sts ++ [st]) (by simp) hst2 (by rw [List.flatMap_append]; simpa using hta) (by simp; omega) h2
  rw [mtR_end mark sts st 0 hs] at this; exact this


set_option maxRecDepth 100000 in
theorem law_SurbDecodes (st : Sto) (ks : List (List UInt8)) (a : Option Addr) (len cap : Nat) (body : List UInt8) (ta : Option Addr) (tn tc : Nat) (sts : List Sto) (w : World) (hok : StOk st) (hpl : st.pl = ks.length) (hpc : st.pl ≤ st.pc) (hks : ∀ k ∈ ks, k.length = 32) (hpa : RdL w st.pa (keysC ks)) (hpn : ks.length ≤ 5000000000000) (hlen : len = body.length) (hl : RdL w a (B body)) (hb : body.length ≤ 140737488351232) (hbc : body.length ≤ cap) (htn : tn = sts.length) (hst : ∀ s ∈ sts, StOk s) (hta : RdL w ta (sts.flatMap stV)) (htb : sts.length * 72 ≤ 140737488351232) :
    Ret Try.prog 4 [.agg (stV st).toArray, .slice a len cap, .slice ta tn tc] w (fun v _ => v = .bool true) := by
  subst hlen; subst htn
  obtain ⟨mark, own, pa, pl, pc⟩ := st
  obtain ⟨hmk, ho⟩ := hok
  have hmk : mark.length = 16 := hmk
  have ho : own.length = 32 := ho
  have hpa : RdL w pa (keysC ks) := hpa
  have hpl : pl = ks.length := hpl
  have hpc : pl ≤ pc := hpc
  subst hpl
  show Ret _ _ [.agg (stC mark own pa ks.length pc).toArray, _, _] _ _
  obtain ⟨k6, hk6⟩ : ∃ k6, k6 = ks.take 6 := ⟨_, rfl⟩
  have hk6l : k6.length = min 6 ks.length := by rw [hk6, List.length_take]
  have hks6 : ∀ k ∈ k6, k.length = 32 := fun k hk => hks k (List.mem_of_mem_take (hk6 ▸ hk))
  have hpa6 : RdL w pa (keysC k6) := by rw [hk6, keysC_take ks hks]; exact hpa.take _
  have hdb : (decR own k6 body).1.length ≤ 140737488351232 := Nat.le_trans (dec_le _ _ _) (by decide)
  refine enter [] (Mem.nil _) Try.func4 rfl Try.ntmps4 rfl (fun X hX => ?_)
  have hw := hX.w0; subst hw
  refine G.seq <| G.reg <| W.bxa rfl rfl fun b1 => W.q (sa rfl) rfl <| W.nil <| G.seq <| G.seq <| G.reg <| W.fv Try.ca10 rfl (fun w hm => law16_awake w) rfl <| W.q (nt rfl) rfl <| W.nil <| G.cdf rfl rfl <| G.skip <| G.seq <| G.seq <| G.reg <| W.q (fa Try.fof47_2 rfl) rfl <| W.q (ld Try.sc45 rfl (Cell.at .hd (stC_pay hmk ho))) rfl <| W.q (ln Try.esl45 rfl) rfl <| W.q (gt rfl rfl) rfl <| W.nil <| G.joinH [] [(1, _), (2, _), (3, _)] ([nb b1 (stC mark own pa k6.length pc) 47]) (Sub.cons rfl <| Sub.cons rfl <| Sub.cons rfl <| Sub.nil _) (fun ckey1 => ?_) ?_
  · -- cond 1
    refine G.cdd rfl (fun h1 => ?_) (fun h1 => ?_)
    · -- h1 True
      refine G.reg <| W.q (fa Try.fof47_2 rfl) rfl <| W.q (ld Try.sc45 rfl (Cell.at .hd (stC_pay hmk ho))) rfl <| W.q (shi Try.esl45 rfl rfl (by omega) (by omega)) rfl <| W.q (fa Try.fof47_2 rfl) rfl <| W.st (cs' := stC mark own pa 6 pc) Try.sz45 rfl rfl rfl rfl rfl .hd (by rw [stC_len hmk ho]; decide) (st_set hmk ho) <| W.nil <| ckey1.weak (Sub.cons rfl <| Sub.cons rfl <| Sub.cons rfl <| Sub.nil _) (Ent.eq (by rw [hk6l, Nat.min_eq_left (by omega)]))
    · -- h1 False
      refine G.skip <| ckey1.weak (Sub.cons rfl <| Sub.cons rfl <| Sub.cons rfl <| Sub.nil _) (Ent.eq (by rw [hk6l, Nat.min_eq_right (by omega)]))
  refine G.seq <| G.reg <| W.q (lda Try.agg47 Try.sz47 rfl (Cells.whole .hd) (stC_len hmk ho)) rfl <| W.fn Try.ca18 rfl (fun w hm => ref16_Twin ⟨mark, own, pa, k6.length, pc⟩ k6 w ⟨hmk, ho⟩ rfl hks6 (hm.rd rfl hpa6) (by omega)) rfl fun v J hv hJ => ?_
  obtain ⟨a1, c1, rfl, rfl⟩ := hv
  refine W.q (mv rfl) rfl <| W.fn Try.ca13 rfl (fun w hm => ref01_Copyx (hm.rd rfl hl) hb rfl) rfl fun v J hv hJ => ?_
  obtain ⟨a2, c2, rfl, rfl⟩ := hv
  refine W.slAt (a := a2) (m := _) (cap := c2) (E := 5) (s := 1) (xs := _) (.head _) (fun q1 q2 q3 q4 => ?_)
  refine W.fn Try.ca17 rfl (fun w hm => surb_Decode mark own a1 k6.length c1 k6 a2 body.length c2 body w hmk ho rfl hks6 (hm.slRd (m := k6.length) (cap := c1) (E := 24) (s := 32) (.tail _ <| .head _)) (by omega) rfl (hm.slRd (.head _)) hb q2) rfl fun v J hv hJ => ?_
  obtain ⟨v1, ⟨a3, c3, rfl, rfl⟩, rfl⟩ := hv
  refine W.q (mv rfl) rfl <| W.q (ex rfl rfl) rfl <| W.q (ex rfl rfl) rfl <| W.q (sa rfl) rfl <| W.q (sa rfl) rfl <| W.nil <| G.seq <| G.reg <| W.q (lda Try.agg47 Try.sz47 rfl (Cells.whole (.tl <| .tl <| .tl <| .hd)) (stC_len hmk ho)) rfl <| W.q (mv rfl) rfl <| W.fn Try.ca19 rfl (fun w hm => ref16_Decode mark own pa k6.length pc k6 a body.length cap body w hmk ho rfl hks6 (hm.rd rfl hpa6) (by omega) rfl (hm.rd rfl hl) hb hbc) rfl fun v J hv hJ => ?_
  obtain ⟨v1, ⟨a4, c4, rfl, rfl⟩, rfl⟩ := hv
  refine W.q (mv rfl) rfl <| W.q (ex rfl rfl) rfl <| W.q (ex rfl rfl) rfl <| W.q (sa rfl) rfl <| W.q (sa rfl) rfl <| W.nil <| G.seq <| G.seq <| G.reg <| W.q (mv rfl) rfl <| W.q (mv rfl) rfl <| W.q (ne rfl rfl) rfl <| W.q (mv rfl) rfl <| W.sp (t := _) 43 rfl (fun g2 => ?_) (fun g2 => ?_)
  · -- True
    exact absurd rfl (of_decide_eq_true g2)
  · -- False
    refine W.qg rfl rfl g2 (mv rfl) rfl <| W.qg rfl rfl g2 (mv rfl) rfl <| W.fvg rfl rfl g2 Try.ca15 rfl (fun w hm => ref01_EqualT (hm.slRd (.tail _ <| .head _)) hdb (hm.slRd (.head _)) rfl rfl rfl) rfl <| W.qg rfl rfl g2 (nt rfl) rfl <| W.q (pkf rfl g2 rfl) rfl <| W.nil <| G.cdf rfl rfl <| G.skip <| G.seq <| G.reg <| W.bs (cs := []) Try.underlying48 Try.sz47 Try.zrl47 rfl rfl rfl rfl fun b2 => W.ent (Ent.rowSl (m := 0) (cap := 0) (s := 49) (Nat.le_refl _) (by omega) (by simp [maxLen])) <| W.q (mv rfl) rfl <| W.ap Try.underlying48 Try.underlying48 Try.sz47 Try.zln47 Try.by47 rfl rfl (fun _ _ => .hd) (RdS.old rfl hta) (flat_len stV 49 sts (fun s hs => stV_len (hst s hs))) (flat_one sts) (RdL.nilT hst hta) (by omega) (by omega) rfl fun a5 c5 => W.q (sa rfl) rfl <| W.nil <| G.seq <| ?_
    rw [Nat.zero_add, List.take_nil, List.nil_append]
    refine G.reg <| W.q (fa Try.fof47_0 rfl) rfl <| W.q (lda Try.agg25 Try.sz25 rfl (Cells.part (ds := B mark) (.tl <| .tl <| .tl <| .tl <| .tl <| .hd) stC_mark) (by rw [Bl, hmk])) rfl <| W.q (mv rfl) rfl <| W.fv Try.ca20 rfl (fun w hm => surb_Match mark w a5 sts.length c5 sts rfl hst (hm.slRd (.head _)) (by omega) hmk) rfl <| W.q (mv rfl) rfl <| W.q (ex rfl rfl) rfl <| W.q (ex rfl rfl) rfl <| W.q (sa rfl) rfl <| W.q (sa rfl) rfl <| W.nil <| G.seq <| G.reg <| W.q (fa Try.fof47_0 rfl) rfl <| W.q (lda Try.agg25 Try.sz25 rfl (Cells.part (ds := B mark) (.tl <| .tl <| .tl <| .tl <| .tl <| .hd) stC_mark) (by rw [Bl, hmk])) rfl <| W.q (mv rfl) rfl <| W.fv Try.ca21 rfl (fun w hm => ref16_Match mark w ta sts.length tc sts rfl hst (hm.rd rfl hta) (by omega) hmk) rfl <| W.q (mv rfl) rfl <| W.q (ex rfl rfl) rfl <| W.q (ex rfl rfl) rfl <| W.q (sa rfl) rfl <| W.q (sa rfl) rfl <| W.nil <| G.seq <| G.seq <| G.reg <| W.q (mv rfl) rfl <| W.q (mv rfl) rfl <| W.q (ne rfl rfl) rfl <| W.q (mv rfl) rfl <| W.sp (t := _) 69 rfl (fun g3 => ?_) (fun g3 => ?_)
    · -- True
      exact absurd rfl (of_decide_eq_true g3)
    · -- False
      refine W.qg rfl rfl g3 (mv rfl) rfl <| W.qg rfl rfl g3 (mv rfl) rfl <| W.qg rfl rfl g3 (neb Try.underlying4 rfl rfl) rfl <| W.q (pkf rfl g3 rfl) rfl <| W.nil <| G.cdf rfl (by simp) <| G.skip <| G.seq <| G.rega 12 rfl Try.mixed <| A.q 0 rfl (by kernel_rfl) (fun _ => (fa Try.fof47_0 rfl)) rfl <| A.q 2 rfl (by kernel_rfl) (fun _ => (mv rfl)) rfl <| A.held 3 [1] rfl (by kernel_rfl) (lda Try.agg47 Try.sz47 rfl (Cells.whole (.tl <| .tl <| .tl <| .tl <| .tl <| .hd)) (stC_len hmk ho)) rfl <| A.two 1 4 rfl rfl (by kernel_rfl) ?_ ?_
      · -- o5: 1 first
        refine W.q (lda Try.agg25 Try.sz25 rfl (Cells.part (ds := B mark) (.tl <| .tl <| .tl <| .tl <| .tl <| .hd) stC_mark) (by rw [Bl, hmk])) rfl <| A.back <| A.one 4 rfl (by kernel_rfl) <| W.bs1 Try.underlying48 Try.sz47 Try.zrl47 rfl rfl rfl (by simp [cellsL, stC_len hmk ho]) rfl fun b3 => A.back <| A.one 5 rfl (by kernel_rfl) <| W.ap Try.underlying48 Try.underlying48 Try.sz47 Try.zln47 Try.by47 rfl rfl (fun _ _ => (.tl <| .hd)) (RdS.row .hd) (by simp [cellsL, stC_len hmk ho]) (by simp [cellsL, stC_one]) (fun h => by cases h) (by omega) (by omega) rfl fun a6 c6 => A.back <| A.one 6 rfl (by kernel_rfl) <| W.fv Try.ca20 rfl (fun w hm => surb_MatchEnd mark w a6 c6 sts (⟨mark, own, pa, k6.length, pc⟩ : Sto) hst ⟨hmk, ho⟩ rfl (hm.slRd (.tail _ <| .head _)) (by omega) hmk) rfl <| A.back <| A.q 7 rfl (by kernel_rfl) (fun _ => (mv rfl)) rfl <| A.q 8 rfl (by kernel_rfl) (fun _ => (ex rfl rfl)) rfl <| A.q 9 rfl (by kernel_rfl) (fun _ => (ex rfl rfl)) rfl <| A.q 10 rfl (by kernel_rfl) (fun _ => (sa rfl)) rfl <| A.q 11 rfl (by kernel_rfl) (fun _ => (sa rfl)) rfl <| A.nil (by kernel_rfl) <| G.seq <| G.reg <| W.q (mv rfl) rfl <| W.q (mv rfl) rfl <| W.sp (t := _) 85 rfl (fun g6 => ?_) (fun g6 => ?_)
        · -- True
          refine W.qg rfl rfl g6 (mv rfl) rfl <| W.qg rfl rfl g6 (mv rfl) rfl <| W.sp (t := _) 87 rfl (fun g7 => ?_) (fun g7 => ?_)
          · -- True
            obtain ⟨j, hj⟩ := Option.isSome_iff_exists.1 g7
            refine W.qg rfl rfl g7 (mv rfl) rfl <| W.qg rfl rfl g7 (mv rfl) rfl <| W.qg rfl rfl g7 (eq rfl rfl) rfl <| W.qg rfl rfl g6 (pkt rfl g7 rfl) rfl <| W.qg rfl rfl g6 (mv rfl) rfl <| W.sp (t := _) 92 rfl (fun g8 => ?_) (fun g8 => ?_)
            · -- True
              refine W.sk rfl rfl g8 rfl <| W.sk rfl rfl g8 rfl <| W.sk rfl rfl g8 rfl <| W.sku rfl rfl rfl <| W.sku rfl rfl rfl <| W.sku rfl rfl rfl <| W.sku rfl rfl rfl <| W.sk rfl rfl g8 rfl <| W.qg rfl rfl g6 (pkt rfl g8 rfl) rfl <| W.q (pkt rfl g6 rfl) rfl <| W.q (sa rfl) rfl <| W.nil <| ret1 hX Try.results4 rfl fun w hm => done (H := []) rfl ?_ (Dr.ent (Dr.new rfl) w hm)
              first | rfl | (refine congrArg Value.bool ?_; assumption) | (refine congrArg Value.bool (decide_eq_true ?_); rw [hno]; simp)
            · -- False
              exact absurd g8 (by rw [hj]; simp)
          · -- False
            have hno : mtR mark sts 0 = none := by simpa using g7
            refine W.sk rfl rfl g7 rfl <| W.sk rfl rfl g7 rfl <| W.sk rfl rfl g7 rfl <| W.qg rfl rfl g6 (pkf rfl g7 rfl) rfl <| W.qg rfl rfl g6 (mv rfl) rfl <| W.qg rfl rfl rfl (mv rfl) rfl <| W.qg rfl rfl rfl (nt rfl) rfl <| W.qg rfl rfl rfl (mv rfl) rfl <| W.qg rfl rfl (by simp [g7]) (mv rfl) rfl <| W.qg rfl rfl (by simp [g7]) (mv rfl) rfl <| W.qg rfl rfl (by simp [g7]) (ln Try.esl48 rfl) rfl <| W.qg rfl rfl (by simp [g7]) (eq rfl rfl) rfl <| W.qg rfl rfl rfl (pkt rfl (by simp [g7]) rfl) rfl <| W.qg rfl rfl g6 (pkf rfl rfl rfl) rfl <| W.q (pkt rfl g6 rfl) rfl <| W.q (sa rfl) rfl <| W.nil <| ret1 hX Try.results4 rfl fun w hm => done (H := []) rfl ?_ (Dr.ent (Dr.new rfl) w hm)
            first | rfl | (refine congrArg Value.bool ?_; assumption) | (refine congrArg Value.bool (decide_eq_true ?_); rw [hno]; simp)
        · -- False
          exact absurd g6 (by simp)
      · -- o5: 4 first
        refine W.bs1 Try.underlying48 Try.sz47 Try.zrl47 rfl rfl rfl (by simp [cellsL, stC_len hmk ho]) rfl fun b4 => A.back <| A.two 1 5 rfl rfl (by kernel_rfl) ?_ ?_
        · -- o9: 1 first
          refine W.q (lda Try.agg25 Try.sz25 rfl (Cells.part (ds := B mark) (.tl <| .tl <| .tl <| .tl <| .tl <| .tl <| .hd) stC_mark) (by rw [Bl, hmk])) rfl <| A.back <| A.one 5 rfl (by kernel_rfl) <| W.ap Try.underlying48 Try.underlying48 Try.sz47 Try.zln47 Try.by47 rfl rfl (fun _ _ => (.tl <| .hd)) (RdS.row .hd) (by simp [cellsL, stC_len hmk ho]) (by simp [cellsL, stC_one]) (fun h => by cases h) (by omega) (by omega) rfl fun a6 c6 => A.back <| A.one 6 rfl (by kernel_rfl) <| W.fv Try.ca20 rfl (fun w hm => surb_MatchEnd mark w a6 c6 sts (⟨mark, own, pa, k6.length, pc⟩ : Sto) hst ⟨hmk, ho⟩ rfl (hm.slRd (.tail _ <| .head _)) (by omega) hmk) rfl <| A.back <| A.q 7 rfl (by kernel_rfl) (fun _ => (mv rfl)) rfl <| A.q 8 rfl (by kernel_rfl) (fun _ => (ex rfl rfl)) rfl <| A.q 9 rfl (by kernel_rfl) (fun _ => (ex rfl rfl)) rfl <| A.q 10 rfl (by kernel_rfl) (fun _ => (sa rfl)) rfl <| A.q 11 rfl (by kernel_rfl) (fun _ => (sa rfl)) rfl <| A.nil (by kernel_rfl) <| G.seq <| G.reg <| W.q (mv rfl) rfl <| W.q (mv rfl) rfl <| W.sp (t := _) 85 rfl (fun g10 => ?_) (fun g10 => ?_)
          · -- True
            refine W.qg rfl rfl g10 (mv rfl) rfl <| W.qg rfl rfl g10 (mv rfl) rfl <| W.sp (t := _) 87 rfl (fun g11 => ?_) (fun g11 => ?_)
            · -- True
              obtain ⟨j, hj⟩ := Option.isSome_iff_exists.1 g11
              refine W.qg rfl rfl g11 (mv rfl) rfl <| W.qg rfl rfl g11 (mv rfl) rfl <| W.qg rfl rfl g11 (eq rfl rfl) rfl <| W.qg rfl rfl g10 (pkt rfl g11 rfl) rfl <| W.qg rfl rfl g10 (mv rfl) rfl <| W.sp (t := _) 92 rfl (fun g12 => ?_) (fun g12 => ?_)
              · -- True
                refine W.sk rfl rfl g12 rfl <| W.sk rfl rfl g12 rfl <| W.sk rfl rfl g12 rfl <| W.sku rfl rfl rfl <| W.sku rfl rfl rfl <| W.sku rfl rfl rfl <| W.sku rfl rfl rfl <| W.sk rfl rfl g12 rfl <| W.qg rfl rfl g10 (pkt rfl g12 rfl) rfl <| W.q (pkt rfl g10 rfl) rfl <| W.q (sa rfl) rfl <| W.nil <| ret1 hX Try.results4 rfl fun w hm => done (H := []) rfl ?_ (Dr.ent (Dr.new rfl) w hm)
                first | rfl | (refine congrArg Value.bool ?_; assumption) | (refine congrArg Value.bool (decide_eq_true ?_); rw [hno]; simp)
              · -- False
                exact absurd g12 (by rw [hj]; simp)
            · -- False
              have hno : mtR mark sts 0 = none := by simpa using g11
              refine W.sk rfl rfl g11 rfl <| W.sk rfl rfl g11 rfl <| W.sk rfl rfl g11 rfl <| W.qg rfl rfl g10 (pkf rfl g11 rfl) rfl <| W.qg rfl rfl g10 (mv rfl) rfl <| W.qg rfl rfl rfl (mv rfl) rfl <| W.qg rfl rfl rfl (nt rfl) rfl <| W.qg rfl rfl rfl (mv rfl) rfl <| W.qg rfl rfl (by simp [g11]) (mv rfl) rfl <| W.qg rfl rfl (by simp [g11]) (mv rfl) rfl <| W.qg rfl rfl (by simp [g11]) (ln Try.esl48 rfl) rfl <| W.qg rfl rfl (by simp [g11]) (eq rfl rfl) rfl <| W.qg rfl rfl rfl (pkt rfl (by simp [g11]) rfl) rfl <| W.qg rfl rfl g10 (pkf rfl rfl rfl) rfl <| W.q (pkt rfl g10 rfl) rfl <| W.q (sa rfl) rfl <| W.nil <| ret1 hX Try.results4 rfl fun w hm => done (H := []) rfl ?_ (Dr.ent (Dr.new rfl) w hm)
              first | rfl | (refine congrArg Value.bool ?_; assumption) | (refine congrArg Value.bool (decide_eq_true ?_); rw [hno]; simp)
          · -- False
            exact absurd g10 (by simp)
        · -- o9: 5 first
          refine W.ap Try.underlying48 Try.underlying48 Try.sz47 Try.zln47 Try.by47 rfl rfl (fun _ _ => (.tl <| .hd)) (RdS.row .hd) (by simp [cellsL, stC_len hmk ho]) (by simp [cellsL, stC_one]) (fun h => by cases h) (by omega) (by omega) rfl fun a6 c6 => A.back <| A.held 1 [] rfl (by kernel_rfl) (lda Try.agg25 Try.sz25 rfl (Cells.part (ds := B mark) (.tl <| .tl <| .tl <| .tl <| .tl <| .tl <| .hd) stC_mark) (by rw [Bl, hmk])) rfl <| A.one 6 rfl (by kernel_rfl) <| W.fv Try.ca20 rfl (fun w hm => surb_MatchEnd mark w a6 c6 sts (⟨mark, own, pa, k6.length, pc⟩ : Sto) hst ⟨hmk, ho⟩ rfl (hm.slRd (.tail _ <| .head _)) (by omega) hmk) rfl <| A.back <| A.q 7 rfl (by kernel_rfl) (fun _ => (mv rfl)) rfl <| A.q 8 rfl (by kernel_rfl) (fun _ => (ex rfl rfl)) rfl <| A.q 9 rfl (by kernel_rfl) (fun _ => (ex rfl rfl)) rfl <| A.q 10 rfl (by kernel_rfl) (fun _ => (sa rfl)) rfl <| A.q 11 rfl (by kernel_rfl) (fun _ => (sa rfl)) rfl <| A.nil (by kernel_rfl) <| G.seq <| G.reg <| W.q (mv rfl) rfl <| W.q (mv rfl) rfl <| W.sp (t := _) 85 rfl (fun g13 => ?_) (fun g13 => ?_)
          · -- True
            refine W.qg rfl rfl g13 (mv rfl) rfl <| W.qg rfl rfl g13 (mv rfl) rfl <| W.sp (t := _) 87 rfl (fun g14 => ?_) (fun g14 => ?_)
            · -- True
              obtain ⟨j, hj⟩ := Option.isSome_iff_exists.1 g14
              refine W.qg rfl rfl g14 (mv rfl) rfl <| W.qg rfl rfl g14 (mv rfl) rfl <| W.qg rfl rfl g14 (eq rfl rfl) rfl <| W.qg rfl rfl g13 (pkt rfl g14 rfl) rfl <| W.qg rfl rfl g13 (mv rfl) rfl <| W.sp (t := _) 92 rfl (fun g15 => ?_) (fun g15 => ?_)
              · -- True
                refine W.sk rfl rfl g15 rfl <| W.sk rfl rfl g15 rfl <| W.sk rfl rfl g15 rfl <| W.sku rfl rfl rfl <| W.sku rfl rfl rfl <| W.sku rfl rfl rfl <| W.sku rfl rfl rfl <| W.sk rfl rfl g15 rfl <| W.qg rfl rfl g13 (pkt rfl g15 rfl) rfl <| W.q (pkt rfl g13 rfl) rfl <| W.q (sa rfl) rfl <| W.nil <| ret1 hX Try.results4 rfl fun w hm => done (H := []) rfl ?_ (Dr.ent (Dr.new rfl) w hm)
                first | rfl | (refine congrArg Value.bool ?_; assumption) | (refine congrArg Value.bool (decide_eq_true ?_); rw [hno]; simp)
              · -- False
                exact absurd g15 (by rw [hj]; simp)
            · -- False
              have hno : mtR mark sts 0 = none := by simpa using g14
              refine W.sk rfl rfl g14 rfl <| W.sk rfl rfl g14 rfl <| W.sk rfl rfl g14 rfl <| W.qg rfl rfl g13 (pkf rfl g14 rfl) rfl <| W.qg rfl rfl g13 (mv rfl) rfl <| W.qg rfl rfl rfl (mv rfl) rfl <| W.qg rfl rfl rfl (nt rfl) rfl <| W.qg rfl rfl rfl (mv rfl) rfl <| W.qg rfl rfl (by simp [g14]) (mv rfl) rfl <| W.qg rfl rfl (by simp [g14]) (mv rfl) rfl <| W.qg rfl rfl (by simp [g14]) (ln Try.esl48 rfl) rfl <| W.qg rfl rfl (by simp [g14]) (eq rfl rfl) rfl <| W.qg rfl rfl rfl (pkt rfl (by simp [g14]) rfl) rfl <| W.qg rfl rfl g13 (pkf rfl rfl rfl) rfl <| W.q (pkt rfl g13 rfl) rfl <| W.q (sa rfl) rfl <| W.nil <| ret1 hX Try.results4 rfl fun w hm => done (H := []) rfl ?_ (Dr.ent (Dr.new rfl) w hm)
              first | rfl | (refine congrArg Value.bool ?_; assumption) | (refine congrArg Value.bool (decide_eq_true ?_); rw [hno]; simp)
          · -- False
            exact absurd g13 (by simp)
end Go.Proofs.Ytjalojbihpdghaa
