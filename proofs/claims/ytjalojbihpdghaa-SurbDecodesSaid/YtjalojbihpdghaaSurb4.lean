/- What comes home: the document's Decode; the first store with a mark; a store of its own. -/
import Derived.Test.YtjalojbihpdghaaSurb3
namespace Go.Proofs.Ytjalojbihpdghaa
open Go Go.Eng
set_option linter.unusedVariables false

structure Sto where
  mark : List UInt8
  own : List UInt8
  pa : Option Addr
  pl : Nat
  pc : Nat
def stV (s : Sto) : List Value := stC s.mark s.own s.pa s.pl s.pc
def StOk (s : Sto) : Prop := s.mark.length = 16 ∧ s.own.length = 32
theorem stV_len {s : Sto} (h : StOk s) : (stV s).length = 49 := stC_len h.1 h.2
theorem stV_one (s : Sto) : (stV s).all (·.oneCell') = true := stC_one
theorem flat_mem {α : Type} (f : α → List Value) (s : Nat) (xs : List α) (h : ∀ x ∈ xs, (f x).length = s) (k : Nat) (hk : k < xs.length) (i : Nat) (v : Value) (hv : (f xs[k])[i]? = some v) : (xs.flatMap f)[k * s + i]? = some v := by
  induction xs generalizing k with
  | nil => simp at hk
  | cons x xs ih =>
    have hx := h x List.mem_cons_self
    rw [List.flatMap_cons]
    cases k with
    | zero =>
      have := (List.getElem?_eq_some_iff.1 hv).1
      rw [List.getElem?_append_left (by simp at this ⊢; omega)]; simpa using hv
    | succ k =>
      rw [List.getElem?_append_right (by rw [hx, Nat.succ_mul]; omega), hx, show (k + 1) * s + i - s = k * s + i by rw [Nat.succ_mul]; omega]
      exact ih (fun k hk => h k (List.mem_cons_of_mem _ hk)) k (by simpa using hk) (by simpa using hv)
theorem flat_len {α : Type} (f : α → List Value) (s : Nat) (xs : List α) (h : ∀ x ∈ xs, (f x).length = s) : (xs.flatMap f).length = xs.length * s := by
  induction xs with
  | nil => simp
  | cons x xs ih => rw [List.flatMap_cons, List.length_append, h x List.mem_cons_self, ih fun k hk => h k (List.mem_cons_of_mem _ hk), List.length_cons, Nat.succ_mul]; omega
theorem rdf_flat {α : Type} {w0 : World} {H : List It} {g o : Nat} (f : α → List Value) (s : Nat) {xs : List α} (h : Rdf w0 H (some ⟨g, o, none⟩) (xs.flatMap f)) (hs : ∀ x ∈ xs, (f x).length = s) (k o' : Nat) (hk : k < xs.length) (ho : o' = o + k * s) : Cells w0 H g o' (f xs[k]) := fun i v hv => by
  subst ho
  have := h.cellOf (flat_mem f s xs hs k hk i v hv)
  rwa [← Nat.add_assoc] at this
theorem Cells.sub {w0 : World} {H : List It} {g o : Nat} {cs ds : List Value} (h : Cells w0 H g o cs) (hd : ∀ (i : Nat) (v : Value), ds[i]? = some v → cs[i]? = some v) : Cells w0 H g o ds := fun i v hv => h i v (hd i v hv)
/-- The first store with the mark. -/
def mtR (mark : List UInt8) : List Sto → Nat → Option Nat
  | [], _ => none
  | s :: l, k => if s.mark = mark then some k else mtR mark l (k + 1)
theorem mtR_app (mark : List UInt8) (l m : List Sto) (k : Nat) (h : ∀ s ∈ l, s.mark ≠ mark) : mtR mark (l ++ m) k = mtR mark m (k + l.length) := by
  induction l generalizing k with
  | nil => rfl
  | cons s l ih =>
    rw [List.cons_append, mtR, if_neg (h s List.mem_cons_self), ih (k + 1) fun s hs => h s (List.mem_cons_of_mem _ hs), List.length_cons]; congr 1; omega
theorem mt_at {mark : List UInt8} {sts : List Sto} {k : Nat} (hk : k < sts.length) (h : ∀ s ∈ sts.take k, s.mark ≠ mark) (he : sts[k].mark = mark) : mtR mark sts 0 = some k := by
  have : sts = sts.take k ++ (sts[k] :: sts.drop (k + 1)) := by rw [← List.drop_eq_getElem_cons hk, List.take_append_drop]
  rw [this, mtR_app _ _ _ _ h, mtR, if_pos he, List.length_take]; congr 1; omega
theorem mt_none {mark : List UInt8} {sts : List Sto} (h : ∀ s ∈ sts, s.mark ≠ mark) : mtR mark sts 0 = none := by
  have := mtR_app mark sts [] 0 h
  rw [List.append_nil] at this; rw [this]; rfl
theorem mt_take {mark : List UInt8} {sts : List Sto} {k : Nat} (hk : k < sts.length) (h : ∀ s ∈ sts.take k, s.mark ≠ mark) (he : sts[k].mark ≠ mark) : ∀ s ∈ sts.take (k + 1), s.mark ≠ mark := fun s hs => by
  rw [List.take_succ_eq_append_getElem hk] at hs
  rcases List.mem_append.1 hs with hs | hs
  · exact h s hs
  · rw [List.mem_singleton.1 hs]; exact he
theorem B_inj {x y : List UInt8} : B x = B y ↔ x = y := by
  constructor
  · intro h
    induction x generalizing y with
    | nil => cases y with
      | nil => rfl
      | cons b y => cases h
    | cons a x ih => cases y with
      | nil => cases h
      | cons b y =>
        have h1 : u8 a :: B x = u8 b :: B y := h
        rw [List.cons.injEq] at h1
        have h2 : (a.toNat : Int) = b.toNat := by have := h1.1; simpa using this
        rw [ih h1.2, show a = b from UInt8.toNat_inj.1 (by omega)]
  · rintro rfl; rfl


set_option maxRecDepth 100000 in
theorem ref16_Decode (mark own : List UInt8) (pa : Option Addr) (pl pc : Nat) (ks : List (List UInt8)) (a : Option Addr) (len cap : Nat) (body : List UInt8) (w : World) (hmk : mark.length = 16) (ho : own.length = 32) (hpl : pl = ks.length) (hks : ∀ k ∈ ks, k.length = 32) (hpa : RdL w pa (keysC ks)) (hpn : ks.length ≤ 1000000000000) (hlen : len = body.length) (hl : RdL w a (B body)) (hb : body.length ≤ 140737488351232) (hcap : body.length ≤ cap) :
    Ret Try.prog 19 [.agg (stC mark own pa pl pc).toArray, .slice a len cap] w (fun v J => ∃ v1, NewB (decR own ks body).1 v1 J ∧ v = .tuple #[v1, i64 (decR own ks body).2]) := by
  subst hlen; subst hpl
  refine enter [] (Mem.nil _) Try.func19 rfl Try.ntmps19 rfl (fun X hX => ?_)
  have hw := hX.w0; subst hw
  refine G.seq <| G.reg <| W.bxa rfl rfl fun b1 => W.q (sa rfl) rfl <| W.q (sa rfl) rfl <| W.nil <| G.seq <| G.seq <| G.reg <| W.q (mv rfl) rfl <| W.q (ln Try.esl22 rfl) rfl <| W.q (ne rfl rfl) rfl <| W.nil <| G.cdd rfl (fun h1 => ?_) (fun h1 => ?_)
  · -- h1 True
    refine G.seq <| G.reg <| W.q (sa rfl) rfl <| W.q (sa rfl) rfl <| W.nil <| ret2 hX Try.results19 rfl rfl fun w hm => done (H := [sl none 0 0 5 1 []]) rfl ?_ (Mem.slNil (Dr.ent (.drop rfl <| .rfl) w hm) 5 1)
    rw [decR, if_pos (by omega)]; exact ⟨_, ⟨none, 0, rfl, rfl⟩, rfl⟩
  · -- h1 False
    have h480 : body.length = 480 := by omega
    refine G.skip <| G.seq <| G.reg <| W.q (mv rfl) rfl <| W.fn Try.ca13 rfl (fun w hm => ref01_Copyx (hm.rd rfl hl) hb rfl) rfl fun v J hv hJ => ?_
    obtain ⟨a4, c4, rfl, rfl⟩ := hv
    rw [h480]
    refine W.q (sa rfl) rfl <| W.nil <| G.seq <| G.seq <| G.reg <| W.q (fa Try.fof47_2 rfl) rfl <| W.q (ld Try.sc45 rfl (Cell.at (.tl <| .hd) (stC_pay hmk ho))) rfl <| W.q (ln Try.esl45 rfl) rfl <| W.q (sb rfl rfl (by omega)) rfl <| W.q (sa rfl) rfl <| W.nil <| G.blk <| G.loop3 (α := Nat) (β := Option Addr) (γ := Nat) (fun k a5 c5 => k ≤ ks.length) (fun k a5 c5 => [(6, .slice a5 480 c5), (7, i64 ((ks.length : Int) - 1 - (k : Int)))]) (fun k a5 c5 => [sl a5 480 c5 5 1 (B (dcs ks body k))]) (fun k a5 c5 => ks.length - k) [(2, _)] _ 0 a4 c4 (by omega) (Sub.cons rfl <| Sub.co rfl ?_ <| Sub.cons rfl <| Sub.nil _) .rfl (fun k a5 c5 hkk ih => ?_)
    · show i64 _ = i64 _; congr 1; omega
    refine G.seq <| G.seq <| G.reg <| W.q (mv rfl) rfl <| W.q (ge rfl rfl) rfl <| W.nil <| G.cdd rfl (fun h2 => ?_) (fun h2 => ?_)
    · -- h2 True
      have hk : k < ks.length := by omega
      have hdl := dcs_len ks body k h480
      have hsu := dcs_succ ks body k hk
      have hgd : ks.getD (ks.length - 1 - k) [] = ks[ks.length - 1 - k]'(by omega) := by rw [List.getD_eq_getElem?_getD, List.getElem?_eq_getElem (by omega)]; rfl
      have hkl : (ks[ks.length - 1 - k]'(by omega)).length = 32 := hks _ (List.getElem_mem _)
      rw [hgd] at hsu
      refine G.rdA (a := pa) (Rdf.old rfl hpa) (by rw [keysC_len ks hks]; omega) (fun zb zo hz => ?_)
      subst hz
      refine G.skip <| G.seq <| G.blk <| G.reg <| W.q (fa Try.fof47_2 rfl) rfl <| W.q (ld Try.sc45 rfl (Cell.at (.tl <| .hd) (stC_pay hmk ho))) rfl <| W.q (mv rfl) rfl <| W.q (ia Try.esl45 rfl rfl (by omega) (by omega)) rfl <| W.q (saa Try.ear24 rfl ) rfl <| W.q (mv rfl) rfl <| ?_
      refine W.slAt (a := a5) (m := 480) (cap := c5) (E := 5) (s := 1) (xs := _) (.head _) (fun p1 p2 p3 p4 => ?_)
      refine W.fn Try.ca43 rfl (fun w hm => ref07_Seal (some ⟨zb, zo + ((ks.length : Int) - 1 - (k : Int)).toNat * 32, none⟩) 32 32 (ks[ks.length - 1 - k]'(by omega)) a5 480 c5 (dcs ks body k) w hkl.symm ((RdS.cells (rdf_key (Rdf.old rfl hpa) hks (ks.length - 1 - k) _ (by omega) (by omega))) w hm) hkl (by omega) hdl.symm (hm.slRd (m := 480) (cap := c5) (E := 5) (s := 1) (.head _)) (by omega) (by omega) (by rw [hdl]; exact p2)) rfl fun v J hv hJ => ?_
      obtain ⟨v1, ⟨a7, c7, rfl, rfl⟩, rfl⟩ := hv
      rw [wideB_len _ _ _ (by omega), hdl, ← hsu]
      refine W.q (mv rfl) rfl <| W.q (ex rfl rfl) rfl <| W.q (ex rfl rfl) rfl <| W.q (sa rfl) rfl <| W.nil <| G.inb <| G.reg <| W.q (mv rfl) rfl <| W.q (sb rfl rfl (by omega)) rfl <| W.q (sa rfl) rfl <| W.nil <| (ih (k + 1) a7 c7 (by omega) (by omega)).weak (Sub.cons rfl <| Sub.co rfl ?_ <| Sub.cons rfl <| Sub.nil _) (fun w hm => (Dr.ent (.keep <| .keep <| .drop rfl <| .rfl)) w ((Ent.perm (.trans (.trans (.cons _ (.trans (.cons _ (.refl _)) (.swap _ _ _))) (.swap _ _ _)) (.trans (.cons _ (.refl _)) (.swap _ _ _)))) w hm))
      all_goals clear ih
      · show i64 _ = i64 _; congr 1; omega
    · -- h2 False
      have hk : k = ks.length := by omega
      subst hk
      have hdl := dcs_len ks body ks.length h480
      have hol := wideB_len own [4, 3, 2, 1] (dcs ks body ks.length) (by omega)
      rw [hdl] at hol
      obtain ⟨r, hpr⟩ : ∃ r, parseR (wideB own [4, 3, 2, 1] (dcs ks body ks.length)) = r := ⟨_, rfl⟩
      refine G.slAt (a := a5) (m := 480) (cap := c5) (E := 5) (s := 1) (xs := _) (.head _) (fun p1 p2 p3 p4 => ?_)
      refine G.exit rfl <| G.seq <| G.reg <| W.q (fa Try.fof47_1 rfl) rfl <| W.q (saa Try.ear24 rfl ) rfl <| W.q (mv rfl) rfl <| W.fn Try.ca47 rfl (fun w hm => ref07_Open (some ⟨b1, 16, none⟩) 32 32 own a5 480 c5 (dcs ks body ks.length) w ho.symm ((RdS.cells (Cells.part (.tl <| .hd) (stC_own hmk))) w hm) ho (by omega) hdl.symm (hm.slRd (m := 480) (cap := c5) (E := 5) (s := 1) (.head _)) (by omega) (by omega) (by rw [hdl]; exact p2)) rfl fun v J hv hJ => ?_
      obtain ⟨v1, ⟨a8, c8, rfl, rfl⟩, rfl⟩ := hv
      rw [hol]
      refine W.slAt (a := a8) (m := 480) (cap := c8) (E := 5) (s := 1) (xs := _) (.head _) (fun q1 q2 q3 q4 => ?_)
      refine W.q (mv rfl) rfl <| W.q (ex rfl rfl) rfl <| W.q (ex rfl rfl) rfl <| W.q (sa rfl) rfl <| W.nil <| G.seq <| G.reg <| W.q (mv rfl) rfl <| W.fn Try.ca48 rfl (fun w hm => ref11_Parse a8 480 c8 (wideB own [4, 3, 2, 1] (dcs ks body ks.length)) w hol.symm (hm.slRd (m := 480) (cap := c8) (E := 5) (s := 1) (.head _)) (by omega) (by rw [hol]; exact q2)) rfl fun v J hv hJ => ?_
      rw [hpr] at hv
      obtain ⟨a9, c9, rfl, rfl⟩ := hv
      refine W.q (mv rfl) rfl <| W.q (ex rfl rfl) rfl <| W.q (ex rfl rfl) rfl <| W.al Try.zrl66 rfl fun b2 => W.sta Try.sz66 rfl rfl rfl (by simp [ptC, Value.oneCell']) .hd (by simp) <| W.q (sa rfl) rfl <| W.nil <| G.seq <| G.seq <| G.reg <| W.q (mv rfl) rfl <| W.q (ne rfl rfl) rfl <| W.nil <| G.cdd rfl (fun h3 => ?_) (fun h3 => ?_)
      · -- h3 True
        refine G.seq <| G.reg <| W.q (mv rfl) rfl <| W.q (sa rfl) rfl <| W.q (sa rfl) rfl <| W.nil <| ret2 hX Try.results19 rfl rfl fun w hm => done (H := [sl none 0 0 5 1 []]) rfl ?_ (Mem.slNil (Dr.ent (.drop rfl <| .drop rfl <| .drop rfl <| .drop rfl <| .drop rfl <| .rfl) w hm) 5 1)
        rw [decR_eq h480 hpr, if_pos h3]; exact ⟨_, ⟨none, 0, rfl, rfl⟩, rfl⟩
      · -- h3 False
        refine G.skip <| G.seq <| G.seq <| G.reg <| W.q (fa Try.fof66_0 rfl) rfl <| W.q (ld Try.sc5 rfl (Cell.at .hd rfl)) rfl <| W.q (ne rfl rfl) rfl <| W.nil <| G.cdd rfl (fun h4 => ?_) (fun h4 => ?_)
        · -- h4 True
          refine G.seq <| G.reg <| W.q (sa rfl) rfl <| W.q (sa rfl) rfl <| W.nil <| ret2 hX Try.results19 rfl rfl fun w hm => done (H := [sl none 0 0 5 1 []]) rfl ?_ (Mem.slNil (Dr.ent (.drop rfl <| .drop rfl <| .drop rfl <| .drop rfl <| .drop rfl <| .rfl) w hm) 5 1)
          rw [decR_eq h480 hpr, if_neg h3, if_pos h4]; exact ⟨_, ⟨none, 0, rfl, rfl⟩, rfl⟩
        · -- h4 False
          refine G.skip <| G.seq <| G.reg <| W.q (fa Try.fof66_4 rfl) rfl <| W.q (ld Try.sc22 rfl (Cell.at .hd rfl)) rfl <| W.q (sa rfl) rfl <| W.q (sa rfl) rfl <| W.nil <| ret2 hX Try.results19 rfl rfl fun w hm => done (H := [sl a9 r.1.data.length c9 5 1 (B r.1.data)]) rfl ?_ (Dr.ent (.drop rfl <| .keep <| .drop rfl <| .drop rfl <| .drop rfl <| .rfl) w hm)
          rw [decR_eq h480 hpr, if_neg h3, if_neg h4]; exact ⟨_, ⟨a9, c9, rfl, rfl⟩, rfl⟩


set_option maxRecDepth 100000 in
theorem surb_Match1 (st : Sto) (b : Nat) (mark : List UInt8) (w : World) (h1 : StOk st) (h2 : mark.length = 16) (hm0 : RdL w (some ⟨b, 0, none⟩) (B mark)) :
    Ret Try.prog 50 [.agg (stV st).toArray, ptr b 0] w (fun v _ => v = .bool (decide (st.mark = mark))) := by
  refine enter [] (Mem.nil _) Try.func50 rfl Try.ntmps50 rfl (fun X hX => ?_)
  have hw := hX.w0; subst hw
  refine G.seq <| G.reg <| W.bxa rfl rfl fun b1 => W.q (sa rfl) rfl <| W.nil <| G.seq <| G.reg <| W.q (fa Try.fof47_0 rfl) rfl <| W.q (lda Try.agg25 Try.sz25 rfl (Cells.part (ds := B st.mark) .hd stC_mark) (by rw [Bl, h1.1])) rfl <| W.q (lda Try.agg25 Try.sz25 rfl (Rdf.cl (Rdf.old rfl hm0)) (by rw [Bl, h2])) rfl <| W.q (eqa Try.ks25 Try.agg25 Try.eg25 rfl rfl (KOk.u8n h1.1) (KOk.u8n h2)) rfl <| W.q (sa rfl) rfl <| W.nil <| ret1 hX Try.results50 rfl fun w hm => done (H := []) rfl ?_ (Dr.ent (Dr.new rfl) w hm)
  exact congrArg Value.bool (decide_eq_decide.2 B_inj)


set_option maxRecDepth 100000 in
theorem surb_Index (w : World) (ta : Option Addr) (tn tc : Nat) (sts : List Sto) (hsn : tn = sts.length) (hst : ∀ s ∈ sts, StOk s) (hsa : RdL w ta (sts.flatMap stV)) (hsb : sts.length ≤ 10000000000000) (b : Nat) (mark : List UInt8) (h2 : mark.length = 16) (hm0 : RdL w (some ⟨b, 0, none⟩) (B mark)) :
    Ret Try.prog 49 [.slice ta tn tc, .func (.func 50) #[] [ptr b 0].toArray] w (fun v _ => v = i64 (match mtR mark sts 0 with | some k => (k : Int) | none => -1)) := by
  subst hsn
  refine enter [] (Mem.nil _) Try.func49 rfl Try.ntmps49 rfl (fun X hX => ?_)
  have hw := hX.w0; subst hw
  refine G.seq <| G.reg <| W.q (sa rfl) rfl <| W.nil <| G.seq <| G.seq <| G.reg <| W.q (mv rfl) rfl <| W.q (ln Try.esl48 rfl) rfl <| W.q (mv rfl) rfl <| W.nil <| G.blk <| G.loop1 (α := Nat) (fun k => k ≤ sts.length ∧ ∀ s ∈ sts.take k, s.mark ≠ mark) (fun k => [(8, i64 k)]) (fun k => []) (fun k => sts.length - k) [(0, _), (1, _), (7, _)] _ 0 ⟨by omega, by simp⟩ (Sub.cons rfl <| Sub.cons rfl <| Sub.cons rfl <| Sub.cons rfl <| Sub.nil _) .rfl (fun k hkk ih => ?_)
  refine G.seq <| G.reg <| W.q (lt rfl rfl) rfl <| W.nil <| G.seq <| G.cdd rfl (fun h1 => ?_) (fun h1 => ?_)
  · -- h1 True
    have hk : k < sts.length := by omega
    have hkk2 := hkk.2
    have hok := hst _ (List.getElem_mem hk)
    refine G.rdA (a := ta) (Rdf.old rfl hsa) (by rw [flat_len stV 49 sts (fun s hs => stV_len (hst s hs))]; omega) (fun zb zo hz => ?_)
    subst hz
    obtain ⟨st, hse⟩ : ∃ st, st = sts[k] := ⟨_, rfl⟩
    have hct := mt_take hk hkk2
    have hat := mt_at hk hkk2
    have hcl := fun (H : List It) (hH : allNew H = true) => rdf_flat (w0 := X.w0) (H := H) stV 49 (Rdf.old hH hsa) (fun s hs => stV_len (hst s hs)) k (zo + (k : Int).toNat * 49) hk (by omega)
    rw [← hse] at hok hct hat hcl
    refine G.skip <| G.seq <| G.blk <| G.seq <| G.reg <| W.q (mv rfl) rfl <| W.q (sa rfl) rfl <| W.nil <| G.seq <| G.reg <| W.q (mv rfl) rfl <| W.q (mv rfl) rfl <| W.q (mv rfl) rfl <| W.q (ia Try.esl48 rfl rfl (by omega) (by omega)) rfl <| W.q (lda Try.agg47 Try.sz47 rfl (hcl _ rfl) (stV_len hok)) rfl <| W.cvc Try.ca50 rfl rfl (fun w hm => surb_Match1 st b mark w hok h2 (hm.rd rfl hm0)) rfl <| W.nil <| G.cd rfl (fun h2 => ?_) (fun h2 => ?_)
    · -- h2 True
      have he := hat (by simpa using h2)
      refine G.seq <| G.reg <| W.q (mv rfl) rfl <| W.q (sa rfl) rfl <| W.nil <| ret1 hX Try.results49 rfl fun w hm => done (H := []) rfl ?_ (Dr.ent (Dr.new rfl) w hm)
      rw [he]
    · -- h2 False
      have he := hct (by simpa using h2)
      refine G.skip <| G.inb <| G.reg <| W.q (ad rfl rfl (by omega)) rfl <| W.q (mv rfl) rfl <| W.nil <| (ih (k + 1) ⟨by omega, he⟩ (by omega)).weak (Sub.cons rfl <| Sub.cons rfl <| Sub.cons rfl <| Sub.cons rfl <| Sub.nil _) .rfl
  · -- h1 False
    have hk : k = sts.length := by omega
    subst hk
    have hno := mt_none (mark := mark) (sts := sts) (by have := hkk.2; rwa [List.take_length] at this)
    refine G.exit rfl <| G.seq <| G.reg <| W.q (sa rfl) rfl <| W.nil <| ret1 hX Try.results49 rfl fun w hm => done (H := []) rfl ?_ (Dr.ent (Dr.new rfl) w hm)
    rw [hno]


set_option maxRecDepth 100000 in
theorem surb_Match (mark : List UInt8) (w : World) (ta : Option Addr) (tn tc : Nat) (sts : List Sto) (hsn : tn = sts.length) (hst : ∀ s ∈ sts, StOk s) (hsa : RdL w ta (sts.flatMap stV)) (hsb : sts.length ≤ 10000000000000) (h2 : mark.length = 16) :
    Ret Try.prog 20 [.agg (B mark).toArray, .slice ta tn tc] w (fun v _ => v = .tuple #[i64 (((mtR mark sts 0).getD 0 : Nat) : Int), .bool (mtR mark sts 0).isSome]) := by
  refine enter [] (Mem.nil _) Try.func20 rfl Try.ntmps20 rfl (fun X hX => ?_)
  have hw := hX.w0; subst hw
  refine G.seq <| G.reg <| W.bxa rfl rfl fun b1 => W.q (sa rfl) rfl <| W.q (sa rfl) rfl <| W.nil <| G.seq <| G.reg <| W.q (mv rfl) rfl <| W.q (mkf rfl) rfl <| W.fv Try.ca49 rfl (fun w hm => surb_Index w ta tn tc sts hsn hst (hm.rd rfl hsa) hsb b1 mark h2 (hm.rowRd .hd)) rfl <| W.q (sa rfl) rfl <| W.nil <| G.seq <| G.reg <| W.q (mv rfl) rfl <| W.q (mx rfl rfl) rfl <| W.q (mv rfl) rfl <| W.q (ge rfl rfl) rfl <| W.q (sa rfl) rfl <| W.q (sa rfl) rfl <| W.nil <| ret2 hX Try.results20 rfl rfl fun w hm => done (H := []) rfl ?_ (Dr.ent (Dr.new rfl) w hm)
  cases mtR mark sts 0 with
  | none => rfl
  | some k => simp


open Classical in
set_option maxRecDepth 100000 in
theorem ref16_Match (mark : List UInt8) (w : World) (ta : Option Addr) (tn tc : Nat) (sts : List Sto) (hsn : tn = sts.length) (hst : ∀ s ∈ sts, StOk s) (hsa : RdL w ta (sts.flatMap stV)) (hsb : sts.length ≤ 10000000000000) (h2 : mark.length = 16) :
    Ret Try.prog 21 [.agg (B mark).toArray, .slice ta tn tc] w (fun v _ => v = .tuple #[i64 (((mtR mark sts 0).getD 0 : Nat) : Int), .bool (mtR mark sts 0).isSome]) := by
  subst hsn
  refine enter [] (Mem.nil _) Try.func21 rfl Try.ntmps21 rfl (fun X hX => ?_)
  have hw := hX.w0; subst hw
  refine G.seq <| G.reg <| W.bxa rfl rfl fun b1 => W.q (sa rfl) rfl <| W.q (sa rfl) rfl <| W.nil <| G.seq <| G.seq <| G.reg <| W.q (sa rfl) rfl <| W.nil <| G.blk <| G.loop1 (α := Nat) (fun k => k ≤ sts.length ∧ ∀ s ∈ sts.take k, s.mark ≠ mark) (fun k => [(6, i64 k)]) (fun k => []) (fun k => sts.length - k) [(1, _), (2, _)] _ 0 ⟨by omega, by simp⟩ (Sub.cons rfl <| Sub.cons rfl <| Sub.cons rfl <| Sub.nil _) .rfl (fun k hkk ih => ?_)
  refine G.seq <| G.seq <| G.reg <| W.q (mv rfl) rfl <| W.q (mv rfl) rfl <| W.q (ln Try.esl48 rfl) rfl <| W.q (lt rfl rfl) rfl <| W.nil <| G.cdd rfl (fun h1 => ?_) (fun h1 => ?_)
  · -- h1 True
    have hk : k < sts.length := by omega
    have hkk2 := hkk.2
    have hok := hst _ (List.getElem_mem hk)
    refine G.rdA (a := ta) (Rdf.old rfl hsa) (by rw [flat_len stV 49 sts (fun s hs => stV_len (hst s hs))]; omega) (fun zb zo hz => ?_)
    subst hz
    obtain ⟨st, hse⟩ : ∃ st, st = sts[k] := ⟨_, rfl⟩
    have hct := mt_take hk hkk2
    have hat := mt_at hk hkk2
    have hcl := fun (H : List It) (hH : allNew H = true) => rdf_flat (w0 := X.w0) (H := H) stV 49 (Rdf.old hH hsa) (fun s hs => stV_len (hst s hs)) k (zo + (k : Int).toNat * 49) hk (by omega)
    rw [← hse] at hok hct hat hcl
    refine G.skip <| G.seq <| G.blk <| G.seq <| G.regq Try.mixed (by kernel_rfl) <| W.q (mv rfl) rfl <| W.q (mv rfl) rfl <| W.q (ia Try.esl48 rfl rfl (by omega) (by omega)) rfl <| W.q (fa Try.fof47_0 rfl) rfl <| W.q (lda Try.agg25 Try.sz25 rfl (Cells.sub (hcl _ rfl) (fun i v h => (by have h' := stC_mark (mark := st.mark) (own := st.own) (pa := st.pa) (pl := st.pl) (pc := st.pc) i v h; rw [Nat.zero_add] at h'; exact h'))) (by rw [Bl, hok.1])) rfl <| W.q (lda Try.agg25 Try.sz25 rfl (Cells.whole .hd) (by rw [Bl, h2])) rfl <| W.q (eqa Try.ks25 Try.agg25 Try.eg25 rfl rfl (KOk.u8n hok.1) (KOk.u8n h2)) rfl <| W.nilq <| G.cdd rfl (fun h2 => ?_) (fun h2 => ?_)
    · -- h2 True
      have he := hat (B_inj.1 h2)
      refine G.seq <| G.reg <| W.q (mv rfl) rfl <| W.q (sa rfl) rfl <| W.q (sa rfl) rfl <| W.nil <| ret2 hX Try.results21 rfl rfl fun w hm => done (H := []) rfl ?_ (Dr.ent (Dr.new rfl) w hm)
      rw [he]; rfl
    · -- h2 False
      have he := hct (fun h => h2 (B_inj.2 h))
      refine G.skip <| G.inb <| G.reg <| W.q (mv rfl) rfl <| W.q (ad rfl rfl (by omega)) rfl <| W.q (sa rfl) rfl <| W.nil <| (ih (k + 1) ⟨by omega, he⟩ (by omega)).weak (Sub.cons rfl <| Sub.cons rfl <| Sub.cons rfl <| Sub.nil _) .rfl
  · -- h1 False
    have hk : k = sts.length := by omega
    subst hk
    have hno := mt_none (mark := mark) (sts := sts) (by have := hkk.2; rwa [List.take_length] at this)
    refine G.exit rfl <| G.seq <| G.reg <| W.q (sa rfl) rfl <| W.q (sa rfl) rfl <| W.nil <| ret2 hX Try.results21 rfl rfl fun w hm => done (H := []) rfl ?_ (Dr.ent (Dr.new rfl) w hm)
    rw [hno]; rfl
end Go.Proofs.Ytjalojbihpdghaa
