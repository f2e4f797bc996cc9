/- A header: the commands' bytes. -/
import Derived.Test.YtjalojbihpdghaaHdr2
namespace Go.Proofs.Ytjalojbihpdghaa
open Go Go.Eng
set_option linter.unusedVariables false

theorem flatF_get {α : Type} (f : α → List Value) (n : Nat) : ∀ (ss : List α) (hss : ∀ s ∈ ss, (f s).length = n) (k : Nat) (hk : k < ss.length) (i : Nat) (v : Value), (f ss[k])[i]? = some v → (ss.flatMap f)[k * n + i]? = some v
  | [], _, k, hk, _, _, _ => by simp at hk
  | s :: ss, hss, 0, _, i, v, h => by
    have h : (f s)[i]? = some v := h
    have hi := (List.getElem?_eq_some_iff.1 h).1
    rw [List.flatMap_cons, Nat.zero_mul, Nat.zero_add, List.getElem?_append_left hi]; exact h
  | s :: ss, hss, k + 1, hk, i, v, h => by
    have hs := hss s List.mem_cons_self
    rw [List.flatMap_cons, List.getElem?_append_right (by rw [hs, Nat.add_mul]; omega), hs, show (k + 1) * n + i - n = k * n + i by rw [Nat.add_mul]; omega]
    exact flatF_get f n ss (fun x hx => hss x (List.mem_cons_of_mem _ hx)) k (by simpa using hk) i v h
theorem rdl_elF {α : Type} {f : α → List Value} {w : World} {a : Option Addr} {n : Nat} {ss : List α} (h : RdL w a (ss.flatMap f)) (hss : ∀ s ∈ ss, (f s).length = n) (hn : 0 < n) (k : Nat) (hk : k < ss.length) : ∃ b o, a = some ⟨b, o, none⟩ ∧ ∀ i v, (f ss[k])[i]? = some v → w.cell? ⟨b, o + k * n + i, none⟩ = some v := by
  have hl := hss _ (List.getElem_mem hk)
  obtain ⟨b, o, h1, h2⟩ := h _ _ (flatF_get f n ss hss k hk 0 _ (List.getElem?_eq_getElem (by omega)))
  refine ⟨b, o, h1, fun i v hv => ?_⟩
  obtain ⟨b', o', h3, h4⟩ := h _ _ (flatF_get f n ss hss k hk i v hv)
  rw [h1] at h3; cases h3
  rwa [← Nat.add_assoc] at h4
open Classical in
/-- The error of one command at its place. -/
noncomputable def encE (n i : Nat) (c : Cm) : Int := if (encR c).2 = 0 ∧ ¬ ((c.kind.toNat : Int) = 1 ↔ (i : Int) + 1 < (n : Int)) then 3 else (encR c).2
def wst (w e : Int) : Int := if e ≠ 0 ∧ (w = 0 ∨ e < w) then e else w
noncomputable def encW (cs : List Cm) (k : Nat) : Int := (List.range k).foldl (fun w i => wst w (encE cs.length i (cs.getD i cm0))) 0
theorem encW_succ (cs : List Cm) (k : Nat) (hk : k < cs.length) : encW cs (k + 1) = wst (encW cs k) (encE cs.length k cs[k]) := by
  have e : cs.getD k cm0 = cs[k] := by rw [List.getD_eq_getElem?_getD, List.getElem?_eq_getElem hk]; rfl
  rw [encW, List.range_succ, List.foldl_append]
  show wst _ (encE _ k (cs.getD k cm0)) = _
  rw [e]; rfl
theorem encR_le (c : Cm) (h : c.mark.length = 16) : (encR c).1.length ≤ 32 := by
  unfold encR; split
  · simp
  · rw [encB_len h]; omega
noncomputable def slotsR (cs : List Cm) : List (List UInt8) := cs.map fun c => (encR c).1


open Classical in
set_option maxRecDepth 100000 in
theorem hdr_encoded (cs : List Cm) (ca : Option Addr) (cc : Nat) (w : World) (hca : RdL w ca (cs.flatMap cmC)) (hcs : ∀ c ∈ cs, c.mark.length = 16) (hn : cs.length ≤ 1000000000000) :
    Ret Try.prog 86 [.slice ca cs.length cc] w (fun v J => ∃ v1, NewBB (slotsR cs) v1 J ∧ v = .tuple #[v1, i64 (encW cs cs.length)]) := by
  refine enter [] (Mem.nil _) Try.func86 rfl Try.ntmps86 rfl (fun X hX => ?_)
  have hw := hX.w0; subst hw
  refine G.seq <| G.reg <| W.q (sa rfl) rfl <| W.q (sa rfl) rfl <| W.nil <| G.seq <| G.reg <| W.q (sa rfl) rfl <| W.nil <| G.seq <| G.reg <| W.q (sa rfl) rfl <| W.nil <| G.seq <| G.seq <| G.reg <| W.q (mv rfl) rfl <| W.q (ln Try.esl128 rfl) rfl <| W.q (mv rfl) rfl <| W.nil <| G.blk <| G.loop4 (α := Nat) (β := Option Addr) (γ := Nat) (δ := List Pc) (fun k a1 c1 ps => k ≤ cs.length ∧ ps.map (fun p : Pc => p.2.2) = slotsR (cs.take k)) (fun k a1 c1 ps => [(4, i64 (encW cs k)), (5, .slice a1 ps.length c1), (12, i64 k)]) (fun k a1 c1 ps => [sl a1 ps.length c1 22 1 (ps.map pcV)] ++ ps.map pcI) (fun k a1 c1 ps => cs.length - k) [(0, _), (10, _), (11, _)] [] 0 none 0 [] ⟨by omega, rfl⟩ (Sub.cons rfl <| Sub.cons rfl <| Sub.cons rfl <| Sub.cons rfl <| Sub.cons rfl <| Sub.cons rfl <| Sub.nil _) (fun w hm => hm.slNil 22 1) (fun k a1 c1 ps hk ih => ?_)
  refine G.seq <| G.reg <| W.q (lt rfl rfl) rfl <| W.nil <| G.seq <| G.cdd rfl (fun h1 => ?_) (fun h1 => ?_)
  · -- h1 True
    have hk' : k < cs.length := by omega
    have hpl : ps.length = k := by
      have h := congrArg List.length hk.2
      simp only [slotsR, List.length_map, List.length_take] at h; omega
    obtain ⟨zb, zo, rfl, hc⟩ := rdl_elF hca (fun c hc => cmC_len (hcs c hc)) (by omega) k hk'
    have hC : ∀ H, allNew H = true → Cells X.w0 H zb (zo + (k : Int).toNat * 20) (cmC cs[k]) := fun H hn => Cells.old hn hc
    have hq16 := hcs _ (List.getElem_mem hk')
    have hsu := encW_succ cs k hk'
    have hst : slotsR (cs.take (k + 1)) = slotsR (cs.take k) ++ [(encR cs[k]).1] := by simp only [slotsR, List.take_succ_eq_append_getElem hk', List.map_append]; rfl
    generalize cs[k] = q at hC hq16 hsu hst
    have hN : ∀ L, allNew L = true → allNew (L ++ (([sl a1 ps.length c1 22 1 (ps.map pcV)] ++ ps.map pcI) ++ [])) = true := fun L hL => allNew_append hL (allNew_append (allNew_append rfl (pcI_new ps)) rfl)
    refine G.skip <| G.seq <| G.blk <| G.seq <| G.reg <| W.q (mv rfl) rfl <| W.q (ia Try.esl128 rfl rfl (by omega) (by omega)) rfl <| W.q (lda Try.agg127 Try.sz127 rfl (hC _ (hN [] rfl)) (cmC_len hq16)) rfl <| W.al Try.zrl127 rfl fun b1 => W.q (sa rfl) rfl <| W.sta Try.sz127 rfl rfl (cmC_len hq16) (cmC_one _) .hd rfl <| W.nil <| G.seq <| G.reg <| W.q (lda Try.agg127 Try.sz127 rfl (Cells.whole .hd) (cmC_len hq16)) rfl <| W.fn Try.ca108 rfl (fun w hm => cmd_Encode q hq16 w) rfl fun v J hv hJ => ?_
    obtain ⟨v1, ⟨a2, c2, rfl, rfl⟩, rfl⟩ := hv
    refine W.q (mv rfl) rfl <| W.q (ex rfl rfl) rfl <| W.q (ex rfl rfl) rfl <| W.q (sa rfl) rfl <| W.q (sa rfl) rfl <| W.nil <| G.seq <| G.seq <| G.join [(34, .bool (decide ((encR q).2 = 0 ∧ ¬ ((q.kind.toNat : Int) = 1 ↔ (k : Int) + 1 < (cs.length : Int)))))] [(0, _), (4, _), (5, _), (8, _), (9, _), (10, _), (11, _), (12, _)] (Sub.cons rfl <| Sub.cons rfl <| Sub.cons rfl <| Sub.cons rfl <| Sub.cons rfl <| Sub.cons rfl <| Sub.cons rfl <| Sub.cons rfl <| Sub.nil _) (fun key7 => ?_) ?_
    · -- region 7
      refine G.reg <| W.q (mv rfl) rfl <| W.q (eq rfl rfl) rfl <| W.q (mv rfl) rfl <| W.sp (t := _) 24 rfl (fun g2 => ?_) (fun g2 => ?_)
      · -- True
        refine W.qg rfl rfl g2 (fa Try.fof127_0 rfl) rfl <| W.qg rfl rfl g2 (ld Try.sc5 rfl (Cell.at (.tl <| .hd) rfl)) rfl <| W.qg rfl rfl g2 (eq rfl rfl) rfl <| W.qg rfl rfl g2 (mv rfl) rfl <| W.qg rfl rfl g2 (ad rfl rfl (by omega)) rfl <| W.qg rfl rfl g2 (mv rfl) rfl <| W.qg rfl rfl g2 (ln Try.esl128 rfl) rfl <| W.qg rfl rfl g2 (lt rfl rfl) rfl <| W.qg rfl rfl g2 (neb Try.underlying4 rfl rfl) rfl <| W.q (pkt rfl g2 rfl) rfl <| W.nil <| key7.weak (Sub.co rfl ?_ <| Sub.cons rfl <| Sub.cons rfl <| Sub.cons rfl <| Sub.cons rfl <| Sub.cons rfl <| Sub.cons rfl <| Sub.cons rfl <| Sub.cons rfl <| Sub.nil _) .rfl
        · show Value.bool (decide _) = _; congr 1; exact decide_eq_decide.2 ⟨fun h => ⟨of_decide_eq_true g2, fun h' => h (decide_eq_decide.2 h')⟩, fun h h' => h.2 (decide_eq_decide.1 h')⟩
      · -- False
        refine W.sk rfl rfl g2 rfl <| W.sk rfl rfl g2 rfl <| W.sk rfl rfl g2 rfl <| W.sk rfl rfl g2 rfl <| W.sk rfl rfl g2 rfl <| W.sk rfl rfl g2 rfl <| W.sk rfl rfl g2 rfl <| W.sk rfl rfl g2 rfl <| W.sk rfl rfl g2 rfl <| W.q (pkf rfl g2 rfl) rfl <| W.nil <| key7.weak (Sub.co rfl ?_ <| Sub.cons rfl <| Sub.cons rfl <| Sub.cons rfl <| Sub.cons rfl <| Sub.cons rfl <| Sub.cons rfl <| Sub.cons rfl <| Sub.cons rfl <| Sub.nil _) .rfl
        · show Value.bool false = _; rw [decide_eq_false (fun h => of_decide_eq_false g2 h.1)]
    refine G.cdd rfl (fun h3 => ?_) (fun h3 => ?_)
    · -- h3 True
      have he : encE cs.length k q = 3 := by rw [encE, if_pos h3]
      refine G.reg <| W.q (sa rfl) rfl <| W.nil <| G.seq <| G.seq <| G.join [(45, .bool (decide (encE cs.length k q ≠ 0 ∧ (encW cs k = 0 ∨ encE cs.length k q < encW cs k))))] [(0, _), (4, _), (5, _), (8, _), (9, _), (10, _), (11, _), (12, _)] (Sub.cons rfl <| Sub.cons rfl <| Sub.cons rfl <| Sub.cons rfl <| Sub.cons rfl <| Sub.cons rfl <| Sub.cons rfl <| Sub.cons rfl <| Sub.nil _) (fun key9 => ?_) ?_
      · -- region 9
        refine G.reg <| W.q (mv rfl) rfl <| W.q (ne rfl rfl) rfl <| W.q (mv rfl) rfl <| W.sp (t := _) 37 rfl (fun g4 => ?_) (fun g4 => ?_)
        · -- True
          refine W.qg rfl rfl g4 (mv rfl) rfl <| W.qg rfl rfl g4 (eq rfl rfl) rfl <| W.qg rfl rfl g4 (mv rfl) rfl <| W.sp (t := _) 40 rfl (fun g5 => ?_) (fun g5 => ?_)
          · -- True
            refine W.sk rfl rfl g5 rfl <| W.sk rfl rfl g5 rfl <| W.sk rfl rfl g5 rfl <| W.qg rfl rfl g4 (pkt rfl g5 rfl) rfl <| W.q (pkt rfl g4 rfl) rfl <| W.nil <| key9.weak (Sub.co rfl ?_ <| Sub.cons rfl <| Sub.cons rfl <| Sub.cons rfl <| Sub.cons rfl <| Sub.cons rfl <| Sub.cons rfl <| Sub.cons rfl <| Sub.cons rfl <| Sub.nil _) .rfl
            all_goals first | rfl | (show Value.bool _ = Value.bool _; congr 1; grind)
          · -- False
            refine W.qg rfl rfl g5 (mv rfl) rfl <| W.qg rfl rfl g5 (mv rfl) rfl <| W.qg rfl rfl g5 (lt rfl rfl) rfl <| W.qg rfl rfl g4 (pkf rfl g5 rfl) rfl <| W.q (pkt rfl g4 rfl) rfl <| W.nil <| key9.weak (Sub.co rfl ?_ <| Sub.cons rfl <| Sub.cons rfl <| Sub.cons rfl <| Sub.cons rfl <| Sub.cons rfl <| Sub.cons rfl <| Sub.cons rfl <| Sub.cons rfl <| Sub.nil _) .rfl
            all_goals first | rfl | (show Value.bool _ = Value.bool _; congr 1; grind)
        · -- False
          refine W.sk rfl rfl g4 rfl <| W.sk rfl rfl g4 rfl <| W.sk rfl rfl g4 rfl <| W.sku rfl rfl rfl <| W.sku rfl rfl rfl <| W.sku rfl rfl rfl <| W.sk rfl rfl g4 rfl <| W.q (pkf rfl g4 rfl) rfl <| W.nil <| key9.weak (Sub.co rfl ?_ <| Sub.cons rfl <| Sub.cons rfl <| Sub.cons rfl <| Sub.cons rfl <| Sub.cons rfl <| Sub.cons rfl <| Sub.cons rfl <| Sub.cons rfl <| Sub.nil _) .rfl
          all_goals first | rfl | (show Value.bool _ = Value.bool _; congr 1; grind)
      refine G.cdd rfl (fun h6 => ?_) (fun h6 => ?_)
      · -- h6 True
        refine G.reg <| W.q (mv rfl) rfl <| W.q (sa rfl) rfl <| W.nil <| G.reg <| W.q (mv rfl) rfl <| W.q (mv rfl) rfl <| W.bs (cs := [_]) Try.underlying73 Try.sz22 Try.zrl22 rfl rfl rfl rfl fun b2 => W.ap (news := [_]) Try.underlying73 Try.underlying73 Try.sz22 Try.zln22 Try.by22 rfl rfl (fun _ _ => (.tl <| .tl <| .tl <| .hd)) (RdS.row .hd) rfl rfl (by simp) (by omega) (by omega) rfl fun a3 c3 => W.q (sa rfl) rfl <| W.nil <| G.inb <| G.reg <| W.q (ad rfl rfl (by omega)) rfl <| W.q (mv rfl) rfl <| W.nil <| (ih (k + 1) a3 c3 (ps ++ [(a2, c2, (encR q).1)]) ⟨by omega, by rw [List.map_append, hk.2, hst]; rfl⟩ (by omega)).weak (Sub.co rfl ?_ <| Sub.co rfl ?_ <| Sub.cons rfl <| Sub.cons rfl <| Sub.cons rfl <| Sub.cons rfl <| Sub.nil _) (fun w hm => ent_bb0 ps (a2, c2, (encR q).1) [] (Dr.ent (.drop rfl <| .keep <| .drop rfl <| .keep <| .rfl) w hm))
        all_goals clear ih
        · show i64 _ = i64 _; rw [hsu, wst, if_pos h6, he]
        · show Value.slice _ _ _ = _; rw [List.length_append]; rfl
      · -- h6 False
        refine G.skip <| G.reg <| W.q (mv rfl) rfl <| W.q (mv rfl) rfl <| W.bs (cs := [_]) Try.underlying73 Try.sz22 Try.zrl22 rfl rfl rfl rfl fun b3 => W.ap (news := [_]) Try.underlying73 Try.underlying73 Try.sz22 Try.zln22 Try.by22 rfl rfl (fun _ _ => (.tl <| .tl <| .tl <| .hd)) (RdS.row .hd) rfl rfl (by simp) (by omega) (by omega) rfl fun a3 c3 => W.q (sa rfl) rfl <| W.nil <| G.inb <| G.reg <| W.q (ad rfl rfl (by omega)) rfl <| W.q (mv rfl) rfl <| W.nil <| (ih (k + 1) a3 c3 (ps ++ [(a2, c2, (encR q).1)]) ⟨by omega, by rw [List.map_append, hk.2, hst]; rfl⟩ (by omega)).weak (Sub.co rfl ?_ <| Sub.co rfl ?_ <| Sub.cons rfl <| Sub.cons rfl <| Sub.cons rfl <| Sub.cons rfl <| Sub.nil _) (fun w hm => ent_bb0 ps (a2, c2, (encR q).1) [] (Dr.ent (.drop rfl <| .keep <| .drop rfl <| .keep <| .rfl) w hm))
        all_goals clear ih
        · show i64 _ = i64 _; rw [hsu, wst, if_neg h6]
        · show Value.slice _ _ _ = _; rw [List.length_append]; rfl
    · -- h3 False
      have he : encE cs.length k q = (encR q).2 := by rw [encE, if_neg h3]
      refine G.skip <| G.seq <| G.seq <| G.join [(45, .bool (decide (encE cs.length k q ≠ 0 ∧ (encW cs k = 0 ∨ encE cs.length k q < encW cs k))))] [(0, _), (4, _), (5, _), (8, _), (9, _), (10, _), (11, _), (12, _)] (Sub.cons rfl <| Sub.cons rfl <| Sub.cons rfl <| Sub.cons rfl <| Sub.cons rfl <| Sub.cons rfl <| Sub.cons rfl <| Sub.cons rfl <| Sub.nil _) (fun key9 => ?_) ?_
      · -- region 9
        refine G.reg <| W.q (mv rfl) rfl <| W.q (ne rfl rfl) rfl <| W.q (mv rfl) rfl <| W.sp (t := _) 37 rfl (fun g7 => ?_) (fun g7 => ?_)
        · -- True
          refine W.qg rfl rfl g7 (mv rfl) rfl <| W.qg rfl rfl g7 (eq rfl rfl) rfl <| W.qg rfl rfl g7 (mv rfl) rfl <| W.sp (t := _) 40 rfl (fun g8 => ?_) (fun g8 => ?_)
          · -- True
            refine W.sk rfl rfl g8 rfl <| W.sk rfl rfl g8 rfl <| W.sk rfl rfl g8 rfl <| W.qg rfl rfl g7 (pkt rfl g8 rfl) rfl <| W.q (pkt rfl g7 rfl) rfl <| W.nil <| key9.weak (Sub.co rfl ?_ <| Sub.cons rfl <| Sub.cons rfl <| Sub.cons rfl <| Sub.cons rfl <| Sub.cons rfl <| Sub.cons rfl <| Sub.cons rfl <| Sub.cons rfl <| Sub.nil _) .rfl
            all_goals first | rfl | (show Value.bool _ = Value.bool _; congr 1; grind)
          · -- False
            refine W.qg rfl rfl g8 (mv rfl) rfl <| W.qg rfl rfl g8 (mv rfl) rfl <| W.qg rfl rfl g8 (lt rfl rfl) rfl <| W.qg rfl rfl g7 (pkf rfl g8 rfl) rfl <| W.q (pkt rfl g7 rfl) rfl <| W.nil <| key9.weak (Sub.co rfl ?_ <| Sub.cons rfl <| Sub.cons rfl <| Sub.cons rfl <| Sub.cons rfl <| Sub.cons rfl <| Sub.cons rfl <| Sub.cons rfl <| Sub.cons rfl <| Sub.nil _) .rfl
            all_goals first | rfl | (show Value.bool _ = Value.bool _; congr 1; grind)
        · -- False
          refine W.sk rfl rfl g7 rfl <| W.sk rfl rfl g7 rfl <| W.sk rfl rfl g7 rfl <| W.sku rfl rfl rfl <| W.sku rfl rfl rfl <| W.sku rfl rfl rfl <| W.sk rfl rfl g7 rfl <| W.q (pkf rfl g7 rfl) rfl <| W.nil <| key9.weak (Sub.co rfl ?_ <| Sub.cons rfl <| Sub.cons rfl <| Sub.cons rfl <| Sub.cons rfl <| Sub.cons rfl <| Sub.cons rfl <| Sub.cons rfl <| Sub.cons rfl <| Sub.nil _) .rfl
          all_goals first | rfl | (show Value.bool _ = Value.bool _; congr 1; grind)
      refine G.cdd rfl (fun h9 => ?_) (fun h9 => ?_)
      · -- h9 True
        refine G.reg <| W.q (mv rfl) rfl <| W.q (sa rfl) rfl <| W.nil <| G.reg <| W.q (mv rfl) rfl <| W.q (mv rfl) rfl <| W.bs (cs := [_]) Try.underlying73 Try.sz22 Try.zrl22 rfl rfl rfl rfl fun b4 => W.ap (news := [_]) Try.underlying73 Try.underlying73 Try.sz22 Try.zln22 Try.by22 rfl rfl (fun _ _ => (.tl <| .tl <| .tl <| .hd)) (RdS.row .hd) rfl rfl (by simp) (by omega) (by omega) rfl fun a3 c3 => W.q (sa rfl) rfl <| W.nil <| G.inb <| G.reg <| W.q (ad rfl rfl (by omega)) rfl <| W.q (mv rfl) rfl <| W.nil <| (ih (k + 1) a3 c3 (ps ++ [(a2, c2, (encR q).1)]) ⟨by omega, by rw [List.map_append, hk.2, hst]; rfl⟩ (by omega)).weak (Sub.co rfl ?_ <| Sub.co rfl ?_ <| Sub.cons rfl <| Sub.cons rfl <| Sub.cons rfl <| Sub.cons rfl <| Sub.nil _) (fun w hm => ent_bb0 ps (a2, c2, (encR q).1) [] (Dr.ent (.drop rfl <| .keep <| .drop rfl <| .keep <| .rfl) w hm))
        all_goals clear ih
        · show i64 _ = i64 _; rw [hsu, wst, if_pos h9, he]
        · show Value.slice _ _ _ = _; rw [List.length_append]; rfl
      · -- h9 False
        refine G.skip <| G.reg <| W.q (mv rfl) rfl <| W.q (mv rfl) rfl <| W.bs (cs := [_]) Try.underlying73 Try.sz22 Try.zrl22 rfl rfl rfl rfl fun b5 => W.ap (news := [_]) Try.underlying73 Try.underlying73 Try.sz22 Try.zln22 Try.by22 rfl rfl (fun _ _ => (.tl <| .tl <| .tl <| .hd)) (RdS.row .hd) rfl rfl (by simp) (by omega) (by omega) rfl fun a3 c3 => W.q (sa rfl) rfl <| W.nil <| G.inb <| G.reg <| W.q (ad rfl rfl (by omega)) rfl <| W.q (mv rfl) rfl <| W.nil <| (ih (k + 1) a3 c3 (ps ++ [(a2, c2, (encR q).1)]) ⟨by omega, by rw [List.map_append, hk.2, hst]; rfl⟩ (by omega)).weak (Sub.co rfl ?_ <| Sub.co rfl ?_ <| Sub.cons rfl <| Sub.cons rfl <| Sub.cons rfl <| Sub.cons rfl <| Sub.nil _) (fun w hm => ent_bb0 ps (a2, c2, (encR q).1) [] (Dr.ent (.drop rfl <| .keep <| .drop rfl <| .keep <| .rfl) w hm))
        all_goals clear ih
        · show i64 _ = i64 _; rw [hsu, wst, if_neg h9]
        · show Value.slice _ _ _ = _; rw [List.length_append]; rfl
  · -- h1 False
    have hke : k = cs.length := by omega
    refine G.exit rfl <| G.seq <| G.reg <| W.q (mv rfl) rfl <| W.q (mv rfl) rfl <| W.q (sa rfl) rfl <| W.q (sa rfl) rfl <| W.nil <| ret2 hX Try.results86 rfl rfl fun w hm => done (H := sl a1 ps.length c1 22 1 (ps.map pcV) :: ps.map pcI) (allNew_append (H := [_]) rfl (pcI_new ps)) ?_ (by simpa using hm)
    subst hke
    exact ⟨_, ⟨a1, c1, ps, by rw [hk.2, List.take_length], rfl, rfl⟩, rfl⟩
end Go.Proofs.Ytjalojbihpdghaa
