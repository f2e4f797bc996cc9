/- HeaderKeeps: the law's walk. -/
import Derived.Test.YtjalojbihpdghaaLaw13
import Derived.Test.YtjalojbihpdghaaApart
namespace Go.Proofs.Ytjalojbihpdghaa
open Go Go.Eng
set_option linter.unusedVariables false

theorem B_append (x y : List UInt8) : B (x ++ y) = B x ++ B y := List.map_append
theorem step_cells (s : List UInt8) (h : s.length = 192) : B ((s.drop 0).take 128) ++ (B ((s.drop 128).take 32) ++ B ((s.drop 160).take 32)) = B s := by
  rw [← B_append, ← B_append]
  congr 1
  rw [List.drop_zero, List.take_of_length_le (l := s.drop 160) (by simp; omega), show s.drop 160 = (s.drop 128).drop 32 by simp, List.take_append_drop, List.take_append_drop]

theorem fl_le (ss : List (List UInt8)) : (fillerR ss).1.length ≤ 192 := by
  unfold fillerR
  split
  · simp
  · show (fil ss.dropLast).length ≤ 192
    rw [dropLast_take ss _ rfl, fil_len ss _ (by omega) (by omega)]; omega
theorem rdf_elB {w0 : World} {H : List It} {b o : Nat} {ss : List (List UInt8)} (h : Rdf w0 H (some ⟨b, o, none⟩) (ss.flatMap B)) (hss : ∀ s ∈ ss, s.length = 192) (k : Nat) (hk : k < ss.length) (o' : Nat) (ho : o' = o + k * 192) : Cells w0 H b o' (B ss[k]) := fun i v hv => by
  subst ho
  have := h.cellOf (flatB_get 192 ss hss k hk i v hv)
  rwa [← Nat.add_assoc] at this


set_option maxRecDepth 100000 in
theorem law13_step (s : List UInt8) (h : s.length = 192) (w : World) :
    Ret Try.prog 37 [.agg (B s).toArray] w (fun v _ => v = .agg (B s).toArray) := by
  refine enter [] (Mem.nil _) Try.func37 rfl Try.ntmps37 rfl (fun X hX => ?_)
  have hw := hX.w0; subst hw
  have h1 : ((s.drop 0).take 128).length = 128 := by rw [List.length_take, List.length_drop]; omega
  have h2 : ((s.drop 128).take 32).length = 32 := by rw [List.length_take, List.length_drop]; omega
  have h3 : ((s.drop 160).take 32).length = 32 := by rw [List.length_take, List.length_drop]; omega
  refine G.seq <| G.reg <| W.bxa rfl rfl fun b1 => W.al Try.zrl86 rfl fun b2 => W.nil <| G.seq <| G.reg <| W.q (fa Try.fof89_0 rfl) rfl <| W.q (lda Try.agg84 Try.sz84 rfl (Cells.rowSub (.tl <| .hd) 0 128) (by rw [Bl]; simp; omega)) rfl <| W.q (fa Try.fof89_1 rfl) rfl <| W.q (lda Try.agg24 Try.sz24 rfl (Cells.rowSub (.tl <| .hd) 128 32) (by rw [Bl]; simp; omega)) rfl <| W.q (fa Try.fof89_2 rfl) rfl <| W.q (lda Try.agg24 Try.sz24 rfl (Cells.rowSub (.tl <| .hd) 160 32) (by rw [Bl]; simp; omega)) rfl <| W.q ((blds (cs := B s) Try.stp86 rfl (by simp only [List.map_cons, List.map_nil, cellsL, List.toList_toArray, Bl, h1, h2, h3]; rfl) (by simp only [List.map_cons, List.map_nil, cellsL, List.toList_toArray, Bl, h1, h2, h3]; rfl) (by rw [← step_cells s h]; simp only [List.flatMap_cons, List.flatMap_nil, cellsL, List.append_nil, List.toList_toArray]))) rfl <| W.sta Try.sz86 rfl rfl (by rw [Bl]; exact h) (B_one _) .hd rfl <| W.nil <| ret hX Try.results37 (RA.cella rfl Try.agg86 Try.sz86 (Cells.whole .hd) (by rw [Bl]; exact h) <| RA.nil) fun w hm => done (H := []) rfl rfl (Dr.ent (Dr.new rfl) w hm)


set_option maxRecDepth 100000 in
theorem law13_steps (ss : List (List UInt8)) (pa : Option Addr) (pc : Nat) (w : World) (hpa : RdL w pa (ss.flatMap B)) (hss : ∀ s ∈ ss, s.length = 192) (hn : ss.length * 192 ≤ 140737488351232) :
    Ret Try.prog 35 [.slice pa ss.length pc] w (fun v J => ∃ (a' : Option Addr) (c' : Nat), v = .slice a' ss.length c' ∧ J = [sl a' ss.length c' 86 192 (ss.flatMap B)]) := by
  refine enter [] (Mem.nil _) Try.func35 rfl Try.ntmps35 rfl (fun X hX => ?_)
  have hw := hX.w0; subst hw
  refine G.seq <| G.reg <| W.q (sa rfl) rfl <| W.nil <| G.seq <| G.reg <| W.q (sa rfl) rfl <| W.nil <| G.seq <| G.seq <| G.reg <| W.q (mv rfl) rfl <| W.q (ln Try.esl79 rfl) rfl <| W.q (mv rfl) rfl <| W.nil <| G.blk <| G.loop3 (α := Nat) (β := Option Addr) (γ := Nat) (fun k a1 c1 => k ≤ ss.length) (fun k a1 c1 => [(3, .slice a1 k c1), (8, i64 k)]) (fun k a1 c1 => [sl a1 k c1 86 192 ((ss.take k).flatMap B)]) (fun k a1 c1 => ss.length - k) [(6, _), (7, _)] [] 0 none 0 (by omega) (Sub.cons rfl <| Sub.cons rfl <| Sub.cons rfl <| Sub.cons rfl <| Sub.nil _) (fun w hm => hm.slNil 86 192) (fun k a1 c1 hk ih => ?_)
  refine G.seq <| G.reg <| W.q (lt rfl rfl) rfl <| W.nil <| G.seq <| G.cdd rfl (fun h1 => ?_) (fun h1 => ?_)
  · -- h1 True
    have hk' : k < ss.length := by omega
    obtain ⟨zb, zo, rfl, hc⟩ := rdl_el hpa hss (by omega) k hk'
    have hC : ∀ H, allNew H = true → Cells X.w0 H zb (zo + (k : Int).toNat * 192) (B ss[k]) := fun H hn => Cells.old hn hc
    have hs := hss _ (List.getElem_mem hk')
    have hst : (ss.take (k + 1)).flatMap B = (ss.take k).flatMap B ++ B ss[k] := by rw [List.take_succ_eq_append_getElem hk', List.flatMap_append]; simp
    generalize ss[k] = s at hC hs hst
    refine G.skip <| G.seq <| G.blk <| G.seq <| G.reg <| W.q (ia Try.esl79 rfl rfl (by omega) (by omega)) rfl <| W.q (lda Try.agg89 Try.sz89 rfl (hC _ rfl) (by rw [Bl]; exact hs)) rfl <| W.al Try.zrl89 rfl fun b1 => W.sta Try.sz89 rfl rfl (by rw [Bl]; exact hs) (B_one _) .hd rfl <| W.nil <| G.reg <| W.q (mv rfl) rfl <| W.q (lda Try.agg89 Try.sz89 rfl (Cells.whole .hd) (by rw [Bl]; exact hs)) rfl <| W.fv Try.ca37 rfl (fun w hm => law13_step s hs w) rfl <| W.bs1 Try.underlying80 Try.sz86 Try.zrl86 rfl rfl rfl (by show (B s).length = 192; rw [Bl]; exact hs) rfl fun b2 => W.ap (news := B s) Try.underlying80 Try.underlying80 Try.sz86 Try.zln86 Try.by86 rfl rfl (fun _ _ => (.tl <| .tl <| .hd)) (RdS.row .hd) (by rw [Bl]; omega) (B_one _) (by simp) (by omega) (by omega) rfl fun a3 c3 => W.q (sa rfl) rfl <| W.nil <| G.inb <| G.reg <| W.q (ad rfl rfl (by omega)) rfl <| W.q (mv rfl) rfl <| W.nil <| (ih (k + 1) a3 c3 (by omega) (by omega)).weak (Sub.cons rfl <| Sub.cons rfl <| Sub.cons rfl <| Sub.cons rfl <| Sub.nil _) (fun w hm => by rw [hst]; exact Dr.ent (.drop rfl <| .drop rfl <| .keep <| .rfl) w hm)
  · -- h1 False
    have hke : k = ss.length := by omega
    subst hke
    refine G.exit rfl <| G.seq <| G.reg <| W.q (mv rfl) rfl <| W.q (sa rfl) rfl <| W.nil <| ret1 hX Try.results35 rfl fun w hm => done (H := [sl a1 ss.length c1 86 192 (ss.flatMap B)]) rfl ⟨a1, c1, rfl, rfl⟩ (by have := hm; rw [List.take_length] at this; exact this)


open Classical in
set_option maxRecDepth 100000 in
theorem law_HeaderKeeps (a : Option Addr) (cap : Nat) (bs : List UInt8) (ss : List (List UInt8)) (pa : Option Addr) (pc : Nat) (w : World) (hl : RdL w a (B bs)) (hb : bs.length ≤ 140737488351232) (hcap : bs.length ≤ cap) (hpa : RdL w pa (ss.flatMap B)) (hss : ∀ s ∈ ss, s.length = 192) (hn : ss.length * 192 ≤ 140737488351232) :
    Ret Try.prog 9 [.slice a bs.length cap, .slice pa ss.length pc] w (fun v _ => v = .bool true) := by
  refine enter [] (Mem.nil _) Try.func9 rfl Try.ntmps9 rfl (fun X hX => ?_)
  have hw := hX.w0; subst hw
  refine G.seq <| G.reg <| W.q (sa rfl) rfl <| W.nil <| G.seq <| G.seq <| G.reg <| W.fv Try.ca32 rfl (fun w hm => law13_awake w) rfl <| W.q (nt rfl) rfl <| W.nil <| G.cdf rfl rfl <| G.skip <| G.seq <| G.reg <| W.q (mv rfl) rfl <| W.fn Try.ca27 rfl (fun w hm => ref01_Spare a cap bs w (hm.rd rfl hl) (by omega)) rfl fun v J hv hJ => ?_
  obtain ⟨bF, rfl, rfl⟩ := hv
  rw [← spareB_len]
  have hF : ∀ w H, Mem X.w0 w H → sl (some ⟨bF, 0, none⟩) (spareB bs).length (spareB bs).length 5 1 (B (spareB bs)) ∈ H → RdL w (some ⟨bF, 0, none⟩) (B bs) := fun w H hm hi => by
    have := (hm.slRd hi).takeB bs.length
    rwa [show (spareB bs).take bs.length = bs by simp [spareB]] at this
  have hsl := spareB_len bs
  have hh8 := bytesOr_len 288 bs
  refine W.q (mv rfl) rfl <| W.q (ex rfl rfl) rfl <| W.q (ex rfl rfl) rfl <| W.q (sa rfl) rfl <| W.q (sa rfl) rfl <| W.nil <| G.seq <| G.reg <| W.q (mv rfl) rfl <| W.fv Try.ca33 rfl (fun w hm => header_Parse (some ⟨bF, 0, none⟩) bs.length _ bs w rfl (hF w _ hm (.head _)) (by omega) (by omega)) rfl <| W.q (mv rfl) rfl <| W.q (ex rfl rfl) rfl <| W.q (ex rfl rfl) rfl <| W.al Try.zrl28 rfl fun b1 => W.sta Try.sz28 rfl rfl (by rw [Bl]; exact hh8) (B_one _) .hd rfl <| W.q (sa rfl) rfl <| W.nil <| G.seq <| G.rega 6 rfl Try.mixed <| A.held 0 [2] rfl (by kernel_rfl) (lda Try.agg28 Try.sz28 rfl (Cells.whole .hd) (by rw [Bl]; exact hh8)) rfl <| A.two 1 2 rfl rfl (by kernel_rfl) ?_ ?_
  · -- o1: 1 first
    refine W.fn Try.ca34 rfl (fun w hm => header_Bytes (bytesOr 288 bs) w hh8) rfl fun v J hv hJ => ?_
    obtain ⟨a2, c2, rfl, rfl⟩ := hv
    refine A.back <| A.held 2 [] rfl (by kernel_rfl) (lda Try.agg28 Try.sz28 rfl (Cells.whole (.tl <| .hd)) (by rw [Bl]; exact hh8)) rfl <| A.one 3 rfl (by kernel_rfl) <| W.fn Try.ca34 rfl (fun w hm => header_Bytes (bytesOr 288 bs) w hh8) rfl fun v J hv hJ => ?_
    obtain ⟨a3, c3, rfl, rfl⟩ := hv
    refine A.back <| A.q 4 rfl (by kernel_rfl) (fun _ => (sa rfl)) rfl <| A.q 5 rfl (by kernel_rfl) (fun _ => (sa rfl)) rfl <| A.nil (by kernel_rfl) <| G.seq <| G.reg <| W.q (mv rfl) rfl <| W.fn Try.ca35 rfl (fun w hm => law13_steps ss pa pc w (hm.rd rfl hpa) hss hn) rfl fun v J hv hJ => ?_
    obtain ⟨a4, c4, rfl, rfl⟩ := hv
    refine W.slAt (a := a4) (m := ss.length) (cap := c4) (E := 86) (s := 192) (xs := ss.flatMap B) (.head _) (fun q1 q2 q3 q4 => ?_)
    refine W.q (sa rfl) rfl <| W.nil <| G.seq <| G.reg <| W.q (mv rfl) rfl <| W.fn Try.ca36 rfl (fun w hm => hdr_Filler ss a4 c4 w (hm.slRd (m := ss.length) (cap := c4) (E := 86) (s := 192) (.head _)) hss q2) rfl fun v J hv hJ => ?_
    obtain ⟨v1, ⟨a5, c5, rfl, rfl⟩, rfl⟩ := hv
    refine W.q (mv rfl) rfl <| W.q (ex rfl rfl) rfl <| W.q (ex rfl rfl) rfl <| W.q (sa rfl) rfl <| W.q (sa rfl) rfl <| W.nil <| G.seq <| G.reg <| W.q (mv rfl) rfl <| W.fn Try.ca36 rfl (fun w hm => hdr_Filler ss a4 c4 w (hm.slRd (m := ss.length) (cap := c4) (E := 86) (s := 192) (.tail _ <| .head _)) hss q2) rfl fun v J hv hJ => ?_
    obtain ⟨v1, ⟨a6, c6, rfl, rfl⟩, rfl⟩ := hv
    refine W.q (mv rfl) rfl <| W.q (ex rfl rfl) rfl <| W.q (ex rfl rfl) rfl <| W.q (sa rfl) rfl <| W.q (sa rfl) rfl <| W.nil <| G.seq <| G.seq <| G.reg <| W.q (mv rfl) rfl <| W.q (ln Try.esl80 rfl) rfl <| W.q (mv rfl) rfl <| W.nil <| G.blk <| G.loop1 (α := Nat) (fun k => k ≤ ss.length) (fun k => [(47, i64 k)]) (fun k => []) (fun k => ss.length - k) [(0, _), (1, _), (6, _), (9, _), (10, _), (11, _), (12, _), (14, _), (46, _)] _ 0 (by omega) (Sub.cons rfl <| Sub.cons rfl <| Sub.cons rfl <| Sub.cons rfl <| Sub.cons rfl <| Sub.cons rfl <| Sub.cons rfl <| Sub.cons rfl <| Sub.cons rfl <| Sub.cons rfl <| Sub.nil _) .rfl (fun k hk ih => ?_)
    refine G.seq <| G.reg <| W.q (lt rfl rfl) rfl <| W.nil <| G.seq <| G.cdd rfl (fun h2 => ?_) (fun h2 => ?_)
    · -- h2 True
      have hk' : k < ss.length := by omega
      obtain ⟨zb, zo, rfl, hc⟩ := rdl_el hpa hss (by omega) k hk'
      have hC : ∀ H, allNew H = true → Cells X.w0 H zb (zo + (k : Int).toNat * 192) (B ss[k]) := fun H hn => Cells.old hn hc
      have hs := hss _ (List.getElem_mem hk')
      refine G.rdC (a := a4) (Rdf.sl (m := ss.length) (cap := c4) (E := 86) (s := 192) (xs := ss.flatMap B) (.tail _ <| .tail _ <| .head _)) (by have := (List.getElem?_eq_some_iff.1 (flatB_get 192 ss hss k hk' 0 _ (List.getElem?_eq_getElem (by rw [Bl]; omega)))).1; omega) (fun yb yo hy hRd => ?_)
      subst hy
      have hZ := rdf_elB hRd hss k hk' (yo + (k : Int).toNat * 192) (by omega)
      generalize ss[k] = s at hC hs hZ
      refine G.skip <| G.seq <| G.blk <| G.seq <| G.reg <| W.q (mv rfl) rfl <| W.q (sa rfl) rfl <| W.nil <| G.seq <| G.regq Try.mixed (by kernel_rfl) <| W.q (mv rfl) rfl <| W.q (mv rfl) rfl <| W.q (ia Try.esl80 rfl rfl (by omega) (by omega)) rfl <| W.q (lda Try.agg86 Try.sz86 rfl hZ (by rw [Bl]; exact hs)) rfl <| W.q (mv rfl) rfl <| W.q (mv rfl) rfl <| W.q (ia Try.esl79 rfl rfl (by omega) (by omega)) rfl <| W.q (lda Try.agg89 Try.sz89 rfl (hC _ rfl) (by rw [Bl]; exact hs)) rfl <| W.fvq Try.ca37 rfl (fun w hm => law13_step s hs w) rfl <| W.q (nea Try.ks86 Try.agg86 Try.eg86 rfl rfl (KOk.u8n hs) (KOk.u8n hs)) rfl <| W.nilq <| G.cdd rfl (fun h3 => ?_) (fun h3 => ?_)
      · -- h3 True
        exact absurd rfl h3
      · -- h3 False
        refine G.skip <| G.inb <| G.reg <| W.q (ad rfl rfl (by omega)) rfl <| W.q (mv rfl) rfl <| W.nil <| (ih (k + 1) (by omega) (by omega)).weak (Sub.cons rfl <| Sub.cons rfl <| Sub.cons rfl <| Sub.cons rfl <| Sub.cons rfl <| Sub.cons rfl <| Sub.cons rfl <| Sub.cons rfl <| Sub.cons rfl <| Sub.cons rfl <| Sub.nil _) .rfl
    · -- h2 False
      have hfl := fl_le ss
      have hbd : ∀ x ∈ [(some ⟨bF, 0, none⟩, (spareB bs).length, spareB bs), (a2, c2, bytesOr 288 bs), (a3, c3, bytesOr 288 bs), (a5, c5, (fillerR ss).1), (a6, c6, (fillerR ss).1)], x.2.2.length ≤ 140737488352000 := fun x hx => by
        simp at hx
        rcases hx with rfl | rfl | rfl | rfl | rfl <;> (dsimp only; omega)
      refine G.exit rfl <| G.seq <| G.reg <| W.q (mv rfl) rfl <| W.q (mv rfl) rfl <| W.fv Try.ca28 rfl (fun w hm => ref01_Kept (some ⟨bF, 0, none⟩) (spareB bs).length _ bs w (hm.slRd (m := (spareB bs).length) (cap := (spareB bs).length) (E := 5) (s := 1) (.tail _ <| .tail _ <| .tail _ <| .tail _ <| .tail _ <| .tail _ <| .head _)) (spareB_len bs) (by omega) a cap (hm.rd rfl hl)) rfl <| W.q (mv rfl) rfl <| W.qg rfl rfl rfl (mv rfl) rfl <| W.qg rfl rfl rfl (mv rfl) rfl <| W.fvg rfl rfl rfl Try.ca15 rfl (fun w hm => ref01_EqualT (hm.slRd (.tail _ <| .head _)) (by have := fl_le ss; omega) (hm.slRd (.head _)) rfl rfl rfl) rfl <| W.q (pkt rfl rfl rfl) rfl <| W.q (mv rfl) rfl <| W.qg rfl rfl rfl (mv rfl) rfl <| W.qg rfl rfl rfl (mv rfl) rfl <| W.qg rfl rfl rfl (mv rfl) rfl <| W.qg rfl rfl rfl (mv rfl) rfl <| W.qg rfl rfl rfl (mv rfl) rfl <| W.ug rfl rfl rfl <| W.bs (cs := [_, _, _, _, _]) Try.underlying73 Try.sz22 Try.zrl22 rfl rfl rfl rfl fun b2 => W.ug rfl rfl rfl <| W.ff Try.ca31 rfl (Ent.perm (.trans (.trans (.trans (.trans (.trans (.cons _ (.refl _)) (.swap _ _ _)) (.trans (.cons _ (.trans (.cons _ (.refl _)) (.swap _ _ _))) (.swap _ _ _))) (.trans (.cons _ (.trans (.cons _ (.trans (.cons _ (.trans (.cons _ (.refl _)) (.swap _ _ _))) (.swap _ _ _))) (.swap _ _ _))) (.swap _ _ _))) (.trans (.cons _ (.trans (.cons _ (.trans (.cons _ (.trans (.cons _ (.trans (.cons _ (.refl _)) (.swap _ _ _))) (.swap _ _ _))) (.swap _ _ _))) (.swap _ _ _))) (.swap _ _ _))) (.trans (.cons _ (.trans (.cons _ (.trans (.cons _ (.trans (.cons _ (.trans (.cons _ (.trans (.cons _ (.trans (.cons _ (.refl _)) (.swap _ _ _))) (.swap _ _ _))) (.swap _ _ _))) (.swap _ _ _))) (.swap _ _ _))) (.swap _ _ _))) (.swap _ _ _)))) (ref01_ApartG X.w0 _ _ 5 [(some ⟨bF, 0, none⟩, (spareB bs).length, spareB bs), (a2, c2, bytesOr 288 bs), (a3, c3, bytesOr 288 bs), (a5, c5, (fillerR ss).1), (a6, c6, (fillerR ss).1)] (Rdf.row .hd) hbd (by simp)) rfl rfl fun v J hv hJ => ?_
      obtain ⟨rfl, rfl⟩ := hv
      refine W.q (pkt rfl rfl rfl) rfl <| W.q (sa rfl) rfl <| W.nil <| ret1 hX Try.results9 rfl fun w hm => done (H := []) rfl rfl (Dr.ent (Dr.new rfl) w hm)
  · -- o1: 2 first
    refine W.q (lda Try.agg28 Try.sz28 rfl (Cells.whole .hd) (by rw [Bl]; exact hh8)) rfl <| A.back <| A.one 1 rfl (by kernel_rfl) <| W.fn Try.ca34 rfl (fun w hm => header_Bytes (bytesOr 288 bs) w hh8) rfl fun v J hv hJ => ?_
    obtain ⟨a2, c2, rfl, rfl⟩ := hv
    refine A.back <| A.one 3 rfl (by kernel_rfl) <| W.fn Try.ca34 rfl (fun w hm => header_Bytes (bytesOr 288 bs) w hh8) rfl fun v J hv hJ => ?_
    obtain ⟨a3, c3, rfl, rfl⟩ := hv
    refine A.back <| A.q 4 rfl (by kernel_rfl) (fun _ => (sa rfl)) rfl <| A.q 5 rfl (by kernel_rfl) (fun _ => (sa rfl)) rfl <| A.nil (by kernel_rfl) <| G.seq <| G.reg <| W.q (mv rfl) rfl <| W.fn Try.ca35 rfl (fun w hm => law13_steps ss pa pc w (hm.rd rfl hpa) hss hn) rfl fun v J hv hJ => ?_
    obtain ⟨a4, c4, rfl, rfl⟩ := hv
    refine W.slAt (a := a4) (m := ss.length) (cap := c4) (E := 86) (s := 192) (xs := ss.flatMap B) (.head _) (fun q1 q2 q3 q4 => ?_)
    refine W.q (sa rfl) rfl <| W.nil <| G.seq <| G.reg <| W.q (mv rfl) rfl <| W.fn Try.ca36 rfl (fun w hm => hdr_Filler ss a4 c4 w (hm.slRd (m := ss.length) (cap := c4) (E := 86) (s := 192) (.head _)) hss q2) rfl fun v J hv hJ => ?_
    obtain ⟨v1, ⟨a5, c5, rfl, rfl⟩, rfl⟩ := hv
    refine W.q (mv rfl) rfl <| W.q (ex rfl rfl) rfl <| W.q (ex rfl rfl) rfl <| W.q (sa rfl) rfl <| W.q (sa rfl) rfl <| W.nil <| G.seq <| G.reg <| W.q (mv rfl) rfl <| W.fn Try.ca36 rfl (fun w hm => hdr_Filler ss a4 c4 w (hm.slRd (m := ss.length) (cap := c4) (E := 86) (s := 192) (.tail _ <| .head _)) hss q2) rfl fun v J hv hJ => ?_
    obtain ⟨v1, ⟨a6, c6, rfl, rfl⟩, rfl⟩ := hv
    refine W.q (mv rfl) rfl <| W.q (ex rfl rfl) rfl <| W.q (ex rfl rfl) rfl <| W.q (sa rfl) rfl <| W.q (sa rfl) rfl <| W.nil <| G.seq <| G.seq <| G.reg <| W.q (mv rfl) rfl <| W.q (ln Try.esl80 rfl) rfl <| W.q (mv rfl) rfl <| W.nil <| G.blk <| G.loop1 (α := Nat) (fun k => k ≤ ss.length) (fun k => [(47, i64 k)]) (fun k => []) (fun k => ss.length - k) [(0, _), (1, _), (6, _), (9, _), (10, _), (11, _), (12, _), (14, _), (46, _)] _ 0 (by omega) (Sub.cons rfl <| Sub.cons rfl <| Sub.cons rfl <| Sub.cons rfl <| Sub.cons rfl <| Sub.cons rfl <| Sub.cons rfl <| Sub.cons rfl <| Sub.cons rfl <| Sub.cons rfl <| Sub.nil _) .rfl (fun k hk ih2 => ?_)
    refine G.seq <| G.reg <| W.q (lt rfl rfl) rfl <| W.nil <| G.seq <| G.cdd rfl (fun h4 => ?_) (fun h4 => ?_)
    · -- h4 True
      have hk' : k < ss.length := by omega
      obtain ⟨zb, zo, rfl, hc⟩ := rdl_el hpa hss (by omega) k hk'
      have hC : ∀ H, allNew H = true → Cells X.w0 H zb (zo + (k : Int).toNat * 192) (B ss[k]) := fun H hn => Cells.old hn hc
      have hs := hss _ (List.getElem_mem hk')
      refine G.rdC (a := a4) (Rdf.sl (m := ss.length) (cap := c4) (E := 86) (s := 192) (xs := ss.flatMap B) (.tail _ <| .tail _ <| .head _)) (by have := (List.getElem?_eq_some_iff.1 (flatB_get 192 ss hss k hk' 0 _ (List.getElem?_eq_getElem (by rw [Bl]; omega)))).1; omega) (fun yb yo hy hRd => ?_)
      subst hy
      have hZ := rdf_elB hRd hss k hk' (yo + (k : Int).toNat * 192) (by omega)
      generalize ss[k] = s at hC hs hZ
      refine G.skip <| G.seq <| G.blk <| G.seq <| G.reg <| W.q (mv rfl) rfl <| W.q (sa rfl) rfl <| W.nil <| G.seq <| G.regq Try.mixed (by kernel_rfl) <| W.q (mv rfl) rfl <| W.q (mv rfl) rfl <| W.q (ia Try.esl80 rfl rfl (by omega) (by omega)) rfl <| W.q (lda Try.agg86 Try.sz86 rfl hZ (by rw [Bl]; exact hs)) rfl <| W.q (mv rfl) rfl <| W.q (mv rfl) rfl <| W.q (ia Try.esl79 rfl rfl (by omega) (by omega)) rfl <| W.q (lda Try.agg89 Try.sz89 rfl (hC _ rfl) (by rw [Bl]; exact hs)) rfl <| W.fvq Try.ca37 rfl (fun w hm => law13_step s hs w) rfl <| W.q (nea Try.ks86 Try.agg86 Try.eg86 rfl rfl (KOk.u8n hs) (KOk.u8n hs)) rfl <| W.nilq <| G.cdd rfl (fun h5 => ?_) (fun h5 => ?_)
      · -- h5 True
        exact absurd rfl h5
      · -- h5 False
        refine G.skip <| G.inb <| G.reg <| W.q (ad rfl rfl (by omega)) rfl <| W.q (mv rfl) rfl <| W.nil <| (ih2 (k + 1) (by omega) (by omega)).weak (Sub.cons rfl <| Sub.cons rfl <| Sub.cons rfl <| Sub.cons rfl <| Sub.cons rfl <| Sub.cons rfl <| Sub.cons rfl <| Sub.cons rfl <| Sub.cons rfl <| Sub.cons rfl <| Sub.nil _) .rfl
    · -- h4 False
      have hfl := fl_le ss
      have hbd : ∀ x ∈ [(some ⟨bF, 0, none⟩, (spareB bs).length, spareB bs), (a2, c2, bytesOr 288 bs), (a3, c3, bytesOr 288 bs), (a5, c5, (fillerR ss).1), (a6, c6, (fillerR ss).1)], x.2.2.length ≤ 140737488352000 := fun x hx => by
        simp at hx
        rcases hx with rfl | rfl | rfl | rfl | rfl <;> (dsimp only; omega)
      refine G.exit rfl <| G.seq <| G.reg <| W.q (mv rfl) rfl <| W.q (mv rfl) rfl <| W.fv Try.ca28 rfl (fun w hm => ref01_Kept (some ⟨bF, 0, none⟩) (spareB bs).length _ bs w (hm.slRd (m := (spareB bs).length) (cap := (spareB bs).length) (E := 5) (s := 1) (.tail _ <| .tail _ <| .tail _ <| .tail _ <| .tail _ <| .tail _ <| .head _)) (spareB_len bs) (by omega) a cap (hm.rd rfl hl)) rfl <| W.q (mv rfl) rfl <| W.qg rfl rfl rfl (mv rfl) rfl <| W.qg rfl rfl rfl (mv rfl) rfl <| W.fvg rfl rfl rfl Try.ca15 rfl (fun w hm => ref01_EqualT (hm.slRd (.tail _ <| .head _)) (by have := fl_le ss; omega) (hm.slRd (.head _)) rfl rfl rfl) rfl <| W.q (pkt rfl rfl rfl) rfl <| W.q (mv rfl) rfl <| W.qg rfl rfl rfl (mv rfl) rfl <| W.qg rfl rfl rfl (mv rfl) rfl <| W.qg rfl rfl rfl (mv rfl) rfl <| W.qg rfl rfl rfl (mv rfl) rfl <| W.qg rfl rfl rfl (mv rfl) rfl <| W.ug rfl rfl rfl <| W.bs (cs := [_, _, _, _, _]) Try.underlying73 Try.sz22 Try.zrl22 rfl rfl rfl rfl fun b3 => W.ug rfl rfl rfl <| W.ff Try.ca31 rfl (Ent.perm (.trans (.trans (.trans (.trans (.trans (.cons _ (.refl _)) (.swap _ _ _)) (.trans (.cons _ (.trans (.cons _ (.refl _)) (.swap _ _ _))) (.swap _ _ _))) (.trans (.cons _ (.trans (.cons _ (.trans (.cons _ (.trans (.cons _ (.refl _)) (.swap _ _ _))) (.swap _ _ _))) (.swap _ _ _))) (.swap _ _ _))) (.trans (.cons _ (.trans (.cons _ (.trans (.cons _ (.trans (.cons _ (.trans (.cons _ (.refl _)) (.swap _ _ _))) (.swap _ _ _))) (.swap _ _ _))) (.swap _ _ _))) (.swap _ _ _))) (.trans (.cons _ (.trans (.cons _ (.trans (.cons _ (.trans (.cons _ (.trans (.cons _ (.trans (.cons _ (.trans (.cons _ (.refl _)) (.swap _ _ _))) (.swap _ _ _))) (.swap _ _ _))) (.swap _ _ _))) (.swap _ _ _))) (.swap _ _ _))) (.swap _ _ _)))) (ref01_ApartG X.w0 _ _ 5 [(some ⟨bF, 0, none⟩, (spareB bs).length, spareB bs), (a2, c2, bytesOr 288 bs), (a3, c3, bytesOr 288 bs), (a5, c5, (fillerR ss).1), (a6, c6, (fillerR ss).1)] (Rdf.row .hd) hbd (by simp)) rfl rfl fun v J hv hJ => ?_
      obtain ⟨rfl, rfl⟩ := hv
      refine W.q (pkt rfl rfl rfl) rfl <| W.q (sa rfl) rfl <| W.nil <| ret1 hX Try.results9 rfl fun w hm => done (H := []) rfl rfl (Dr.ent (Dr.new rfl) w hm)
end Go.Proofs.Ytjalojbihpdghaa
