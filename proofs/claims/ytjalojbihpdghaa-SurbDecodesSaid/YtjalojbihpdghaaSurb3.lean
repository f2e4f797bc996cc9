/- What comes home: Decode. -/
import Derived.Test.YtjalojbihpdghaaBack
import Derived.Test.YtjalojbihpdghaaSurb2
import Derived.Test.YtjalojbihpdghaaFrame4
namespace Go.Proofs.Ytjalojbihpdghaa
open Go Go.Eng
set_option linter.unusedVariables false

/-- The body, sealed by the last k keys. -/
def dcs (ks : List (List UInt8)) (body : List UInt8) (k : Nat) : List UInt8 := (ks.reverse.take k).foldl (fun b key => wideB key [1, 2, 3, 4] b) body
theorem dcs_len (ks : List (List UInt8)) (body : List UInt8) (k : Nat) (h : body.length = 480) : (dcs ks body k).length = 480 := by
  unfold dcs
  generalize ks.reverse.take k = l
  induction l generalizing body with
  | nil => exact h
  | cons x l ih => exact ih _ (by rw [wideB_len _ _ _ (by omega)]; exact h)
theorem dcs_succ (ks : List (List UInt8)) (body : List UInt8) (k : Nat) (hk : k < ks.length) : dcs ks body (k + 1) = wideB (ks.getD (ks.length - 1 - k) []) [1, 2, 3, 4] (dcs ks body k) := by
  unfold dcs
  rw [List.take_succ_eq_append_getElem (by simpa using hk), List.foldl_append, List.getElem_reverse, List.getD_eq_getElem?_getD, List.getElem?_eq_getElem (by omega)]; rfl
def dcH (b T : Nat) (a : Option Addr) (cap : Nat) (f : Nat → List UInt8) : Nat → Option Addr × Nat → List It
  | 0, _ => [nb b [.slice a 480 cap] T, sl none 0 0 5 1 []]
  | k + 1, s => [nb b [.slice s.1 480 s.2] T, sl s.1 480 s.2 5 1 (B (f (k + 1)))]
theorem dcH_new (b T : Nat) (a : Option Addr) (cap : Nat) (f : Nat → List UInt8) (k : Nat) (s : Option Addr × Nat) : allNew (dcH b T a cap f k s) = true := by
  cases k <;> rfl
theorem dc_open {w0 : World} {b T : Nat} {a : Option Addr} {cap : Nat} {f : Nat → List UInt8} {R : List It} (hR : allNew R = true) (hl : RdL w0 a (B (f 0))) (hc : 480 ≤ cap) (k : Nat) (s : Option Addr × Nat) :
    ∃ a' c' q m' cq xs, dcH b T a cap f k s = [nb b [.slice a' 480 c'] T, sl q m' cq 5 1 xs] ∧ Rdf w0 ([nb b [.slice a' 480 c'] T, sl q m' cq 5 1 xs] ++ R) a' (B (f k)) := by
  cases k with
  | zero => exact ⟨a, cap, none, 0, 0, [], rfl, Rdf.old (allNew_append rfl hR) hl⟩
  | succ k => exact ⟨s.1, s.2, s.1, 480, s.2, _, rfl, Rdf.sl (.tail _ (.head _))⟩
def stC (mark own : List UInt8) (pa : Option Addr) (pl pc : Nat) : List Value := B mark ++ (B own ++ [.slice pa pl pc])
theorem stC_len {mark own : List UInt8} {pa : Option Addr} {pl pc : Nat} (hm : mark.length = 16) (ho : own.length = 32) : (stC mark own pa pl pc).length = 49 := by simp [stC, hm, ho]
theorem stC_pay {mark own : List UInt8} {pa : Option Addr} {pl pc : Nat} (hm : mark.length = 16) (ho : own.length = 32) : (stC mark own pa pl pc)[48]? = some (.slice pa pl pc) := by
  rw [stC, List.getElem?_append_right (by simp [hm]), List.getElem?_append_right (by simp [hm, ho])]; simp [hm, ho]
theorem stC_own {mark own : List UInt8} {pa : Option Addr} {pl pc : Nat} (hm : mark.length = 16) (i : Nat) (v : Value) (h : (B own)[i]? = some v) : (stC mark own pa pl pc)[16 + i]? = some v := by
  have := at_app (pre := B mark) (ds := B own) (post := [.slice pa pl pc]) (o := 16) (by simp [hm]) i v h
  simpa [stC] using this
theorem stC_mark {mark own : List UInt8} {pa : Option Addr} {pl pc : Nat} (i : Nat) (v : Value) (h : (B mark)[i]? = some v) : (stC mark own pa pl pc)[0 + i]? = some v := at_app (pre := []) rfl i v h
theorem stC_one {mark own : List UInt8} {pa : Option Addr} {pl pc : Nat} : (stC mark own pa pl pc).all (·.oneCell') = true := by simp [stC, Value.oneCell']
/-- What is decoded, and the error. -/
def decR (own : List UInt8) (ks : List (List UInt8)) (body : List UInt8) : List UInt8 × Int :=
  if body.length ≠ 480 then ([], 2) else
    let r := parseR (wideB own [4, 3, 2, 1] (dcs ks body ks.length))
    if r.2 ≠ 0 then ([], r.2) else if (r.1.kind.toNat : Int) ≠ 3 then ([], 10) else (r.1.data, 0)
theorem decR_eq {own : List UInt8} {ks : List (List UInt8)} {body : List UInt8} {r : Pt × Int} (h : body.length = 480) (hpr : parseR (wideB own [4, 3, 2, 1] (dcs ks body ks.length)) = r) : decR own ks body = if r.2 ≠ 0 then ([], r.2) else if (r.1.kind.toNat : Int) ≠ 3 then ([], 10) else (r.1.data, 0) := by
  subst hpr; rw [decR, if_neg (by omega)]


set_option maxRecDepth 100000 in
theorem surb_Decode (mark own : List UInt8) (pa : Option Addr) (pl pc : Nat) (ks : List (List UInt8)) (a : Option Addr) (len cap : Nat) (body : List UInt8) (w : World) (hmk : mark.length = 16) (ho : own.length = 32) (hpl : pl = ks.length) (hks : ∀ k ∈ ks, k.length = 32) (hpa : RdL w pa (keysC ks)) (hpn : ks.length ≤ 1000000000000) (hlen : len = body.length) (hl : RdL w a (B body)) (hb : body.length ≤ 140737488351232) (hcap : body.length ≤ cap) :
    Ret Try.prog 17 [.agg (stC mark own pa pl pc).toArray, .slice a len cap] w (fun v J => ∃ v1, NewB (decR own ks body).1 v1 J ∧ v = .tuple #[v1, i64 (decR own ks body).2]) := by
  subst hlen; subst hpl
  refine enter [] (Mem.nil _) Try.func17 rfl Try.ntmps17 rfl (fun X hX => ?_)
  have hw := hX.w0; subst hw
  refine G.seq <| G.reg <| W.bxa rfl rfl fun b1 => W.bxs rfl rfl rfl fun b2 => W.q (sa rfl) rfl <| W.q (sa rfl) rfl <| W.nil <| G.seq <| G.seq <| G.reg <| W.q (ld Try.sc22 rfl (Cell.at .hd rfl)) rfl <| W.q (ln Try.esl22 rfl) rfl <| W.q (ne rfl rfl) rfl <| W.nil <| G.cdd rfl (fun h1 => ?_) (fun h1 => ?_)
  · -- h1 True
    refine G.seq <| G.reg <| W.q (sa rfl) rfl <| W.q (sa rfl) rfl <| W.nil <| ret2 hX Try.results17 rfl rfl fun w hm => done (H := [sl none 0 0 5 1 []]) rfl ?_ (Mem.slNil (Dr.ent (.drop rfl <| .drop rfl <| .rfl) w hm) 5 1)
    rw [decR, if_pos (by omega)]; exact ⟨_, ⟨none, 0, rfl, rfl⟩, rfl⟩
  · -- h1 False
    have h480 : body.length = 480 := by omega
    have hl0 : RdL X.w0 a (B (dcs ks body 0)) := hl
    rw [h480]
    refine G.skip <| G.seq <| G.seq <| G.reg <| W.q (fa Try.fof47_2 rfl) rfl <| W.q (ld Try.sc45 rfl (Cell.at (.tl <| .hd) (stC_pay hmk ho))) rfl <| W.fn Try.ca45 rfl (fun w hm => back32_make pa ks.length pc w) rfl fun v J hv hJ => ?_
    obtain ⟨bx, rfl, rfl⟩ := hv
    refine W.nil <| G.blk <| ?_
    refine G.ent (Ent.slNil 5 1) ?_
    refine G.rf (ps := [16, 17]) hX rfl Try.ca77 (dcH b2 22 a cap (dcs ks body)) _ (ks.length) (fun k => [i64 ((ks.length - 1 - k : Nat) : Int), .agg (B (ks.getD (ks.length - 1 - k) [])).toArray]) ((none, 0)) (fun _ => rfl) rfl (Ent.perm (.trans (.trans (.trans (.trans (.cons _ (.trans (.cons _ (.trans (.cons _ (.refl _)) (.swap _ _ _))) (.swap _ _ _))) (.swap _ _ _)) (.trans (.cons _ (.trans (.cons _ (.refl _)) (.swap _ _ _))) (.swap _ _ _))) (.trans (.cons _ (.trans (.cons _ (.refl _)) (.swap _ _ _))) (.swap _ _ _))) (.trans (.cons _ (.trans (.cons _ (.trans (.cons _ (.refl _)) (.swap _ _ _))) (.swap _ _ _))) (.swap _ _ _)))) (fun L D rc hy => back32_iter X.w0 (dfI D :: [nb bx [.slice pa ks.length pc] 45, nb b1 (stC mark own pa ks.length pc) 47]) rfl L bx pa ks.length pc ks hks rfl (by omega) (fun k s => lpI L rc .ready :: dcH b2 22 a cap (dcs ks body) k s) (fun k s => allNew_cons rfl (dcH_new _ _ _ _ _ k s)) (fun k s => Rdf.row ⟨true, List.mem_append_right _ (.tail _ (.head _))⟩) (fun k s => Rdf.old (allNew_append (allNew_cons rfl (dcH_new _ _ _ _ _ k s)) rfl) hpa) hy (none, 0)) (fun L D rc k s hk Y hY => ?_) (fun D s Y hY => ?_)
    · -- round
      obtain ⟨yb, ycs, yR, yw0, yds, ygoal⟩ := Y
      obtain rfl : yw0 = X.w0 := hY.w0
      obtain ⟨a5, c5, q9, m9, k9, x9, hdc, hrd⟩ := dc_open (b := b2) (T := 22) (a := a) (cap := cap) (f := dcs ks body) (R := dfI D :: [nb bx [.slice pa ks.length pc] 45, nb b1 (stC mark own pa ks.length pc) 47]) rfl hl0 (by omega) k s
      rw [hdc]
      have hdl := dcs_len ks body k h480
      have hkl : (ks.getD (ks.length - 1 - k) []).length = 32 := by rw [List.getD_eq_getElem?_getD, List.getElem?_eq_getElem (by omega)]; exact hks _ (List.getElem_mem _)
      have hsu := dcs_succ ks body k hk
      refine G.reg <| W.al Try.zrl24 rfl fun b3 => W.sta Try.sz24 rfl rfl (by rw [Bl]; exact hkl) (B_one _) .hd (by simp) <| W.nil <| G.begin (rc := rc) hY (.tl <| .hd) <| G.blk <| G.rega 7 rfl Try.mixed <| A.q 0 rfl (by kernel_rfl) (fun _ => (saa Try.ear24 rfl )) rfl <| A.held 1 [] rfl (by kernel_rfl) (ld Try.sc22 rfl (Cell.at (.tl <| .tl <| .hd) rfl)) rfl <| A.one 2 rfl (by kernel_rfl) <| W.fn Try.ca41 rfl (fun w hm => wide_Seal (some ⟨b3, 0, none⟩) 32 32 (ks.getD (ks.length - 1 - k) []) a5 480 c5 (dcs ks body k) w hkl.symm (hm.rowRd .hd) hkl (by omega) hdl.symm (hrd [_, _] w rfl hm) (by omega) (by omega)) rfl fun v J hv hJ => ?_
      obtain ⟨v1, ⟨a7, c7, rfl, rfl⟩, rfl⟩ := hv
      rw [wideB_len _ _ _ (by omega), hdl, ← hsu]
      refine A.back <| A.q 3 rfl (by kernel_rfl) (fun _ => (mv rfl)) rfl <| A.q 4 rfl (by kernel_rfl) (fun _ => (ex rfl rfl)) rfl <| A.q 5 rfl (by kernel_rfl) (fun _ => (ex rfl rfl)) rfl <| A.one 6 rfl (by kernel_rfl) <| W.st (cs' := [_]) Try.sz22 rfl rfl rfl rfl rfl (.tl <| .tl <| .tl <| .hd) (by simp) rfl <| A.back <| A.nil (by kernel_rfl) <| G.inb <| G.endRound (rc := rc) hY (fun w hm => (Dr.ent (.keep <| .keep <| .keep <| .keep <| .keep <| .keep <| .drop rfl <| .drop rfl <| .rfl)) w ((Ent.perm (.trans (.trans (.trans (.trans (.trans (.trans (.cons _ (.trans (.cons _ (.trans (.cons _ (.trans (.cons _ (.trans (.cons _ (.trans (.cons _ (.trans (.cons _ (.refl _)) (.swap _ _ _))) (.swap _ _ _))) (.swap _ _ _))) (.swap _ _ _))) (.swap _ _ _))) (.swap _ _ _))) (.swap _ _ _)) (.trans (.cons _ (.trans (.cons _ (.trans (.cons _ (.trans (.cons _ (.trans (.cons _ (.trans (.cons _ (.trans (.cons _ (.refl _)) (.swap _ _ _))) (.swap _ _ _))) (.swap _ _ _))) (.swap _ _ _))) (.swap _ _ _))) (.swap _ _ _))) (.swap _ _ _))) (.trans (.cons _ (.trans (.cons _ (.trans (.cons _ (.trans (.cons _ (.trans (.cons _ (.trans (.cons _ (.trans (.cons _ (.refl _)) (.swap _ _ _))) (.swap _ _ _))) (.swap _ _ _))) (.swap _ _ _))) (.swap _ _ _))) (.swap _ _ _))) (.swap _ _ _))) (.trans (.cons _ (.trans (.cons _ (.trans (.cons _ (.refl _)) (.swap _ _ _))) (.swap _ _ _))) (.swap _ _ _))) (.trans (.cons _ (.trans (.cons _ (.trans (.cons _ (.trans (.cons _ (.trans (.cons _ (.trans (.cons _ (.refl _)) (.swap _ _ _))) (.swap _ _ _))) (.swap _ _ _))) (.swap _ _ _))) (.swap _ _ _))) (.swap _ _ _))) (.trans (.cons _ (.trans (.cons _ (.trans (.cons _ (.trans (.cons _ (.trans (.cons _ (.trans (.cons _ (.refl _)) (.swap _ _ _))) (.swap _ _ _))) (.swap _ _ _))) (.swap _ _ _))) (.swap _ _ _))) (.swap _ _ _)))) w hm)) (fun w hm => ⟨(a7, c7), hm⟩)
    · -- behind
      obtain ⟨yb, ycs, yR, yw0, yds, ygoal⟩ := Y
      obtain rfl : yw0 = X.w0 := hY.w0
      obtain ⟨a5, c5, q9, m9, k9, x9, hdc, hrd⟩ := dc_open (b := b2) (T := 22) (a := a) (cap := cap) (f := dcs ks body) (R := dfI D :: [nb bx [.slice pa ks.length pc] 45, nb b1 (stC mark own pa ks.length pc) 47]) rfl hl0 (by omega) ks.length s
      rw [hdc]
      have hdl := dcs_len ks body ks.length h480
      have hol := wideB_len own [4, 3, 2, 1] (dcs ks body ks.length) (by omega)
      rw [hdl] at hol
      obtain ⟨r, hpr⟩ : ∃ r, parseR (wideB own [4, 3, 2, 1] (dcs ks body ks.length)) = r := ⟨_, rfl⟩
      refine G.inb <| G.seq <| G.rega 8 rfl Try.mixed <| A.q 0 rfl (by kernel_rfl) (fun _ => (fa Try.fof47_1 rfl)) rfl <| A.q 1 rfl (by kernel_rfl) (fun _ => (saa Try.ear24 rfl )) rfl <| A.held 2 [] rfl (by kernel_rfl) (ld Try.sc22 rfl (Cell.at .hd rfl)) rfl <| A.one 3 rfl (by kernel_rfl) <| W.fn Try.ca46 rfl (fun w hm => wide_Open (some ⟨b1, 16, none⟩) 32 32 own a5 480 c5 (dcs ks body ks.length) w ho.symm ((RdS.cells (Cells.part (.tl <| .tl <| .tl <| .tl <| .hd) (stC_own hmk))) w hm) ho (by omega) hdl.symm (hrd [] w rfl hm) (by omega) (by omega)) rfl fun v J hv hJ => ?_
      obtain ⟨v1, ⟨a8, c8, rfl, rfl⟩, rfl⟩ := hv
      rw [hol]
      refine A.back <| A.q 4 rfl (by kernel_rfl) (fun _ => (mv rfl)) rfl <| A.q 5 rfl (by kernel_rfl) (fun _ => (ex rfl rfl)) rfl <| A.q 6 rfl (by kernel_rfl) (fun _ => (ex rfl rfl)) rfl <| A.one 7 rfl (by kernel_rfl) <| W.st (cs' := [_]) Try.sz22 rfl rfl rfl rfl rfl (.tl <| .hd) (by simp) rfl <| A.back <| A.nil (by kernel_rfl) <| G.seq <| G.reg <| W.q (ld Try.sc22 rfl (Cell.at (.tl <| .hd) rfl)) rfl <| W.fn Try.ca30 rfl (fun w hm => frame_Parse a8 480 c8 (wideB own [4, 3, 2, 1] (dcs ks body ks.length)) w hol.symm (hm.slRd (m := 480) (cap := c8) (E := 5) (s := 1) (.head _)) (by omega)) rfl fun v J hv hJ => ?_
      rw [hpr] at hv
      obtain ⟨a9, c9, rfl, rfl⟩ := hv
      refine W.q (mv rfl) rfl <| W.q (ex rfl rfl) rfl <| W.q (ex rfl rfl) rfl <| W.al Try.zrl66 rfl fun b4 => W.sta Try.sz66 rfl rfl rfl (by simp [ptC, Value.oneCell']) .hd (by simp) <| W.q (sa rfl) rfl <| W.nil <| G.seq <| G.seq <| G.reg <| W.q (mv rfl) rfl <| W.q (eq rfl rfl) rfl <| W.q (mv rfl) rfl <| W.sp (t := _) 38 rfl (fun g2 => ?_) (fun g2 => ?_)
      · -- True
        refine W.qg rfl rfl g2 (fa Try.fof66_0 rfl) rfl <| W.qg rfl rfl g2 (ld Try.sc5 rfl (Cell.at .hd rfl)) rfl <| W.qg rfl rfl g2 (ne rfl rfl) rfl <| W.q (pkt rfl g2 rfl) rfl <| W.nil <| G.cdd rfl (fun h3 => ?_) (fun h3 => ?_)
        · -- h3 True
          refine G.reg <| W.q (sa rfl) rfl <| W.nil <| G.seq <| G.seq <| G.reg <| W.q (mv rfl) rfl <| W.q (ne rfl rfl) rfl <| W.nil <| G.cdt rfl rfl <| G.seq <| G.reg <| W.q (mv rfl) rfl <| W.q (sa rfl) rfl <| W.q (sa rfl) rfl <| W.nil <| retD2 hY (Ent.perm (.trans (.cons _ (.trans (.cons _ (.trans (.cons _ (.trans (.cons _ (.trans (.cons _ (.refl _)) (.swap _ _ _))) (.swap _ _ _))) (.swap _ _ _))) (.swap _ _ _))) (.swap _ _ _))) Try.results17 rfl rfl fun w hm => done (H := [sl none 0 0 5 1 []]) rfl ?_ (Mem.slNil (Dr.ent (.drop rfl <| .drop rfl <| .drop rfl <| .drop rfl <| .drop rfl <| .drop rfl <| .drop rfl <| .rfl) w hm) 5 1)
          rw [decR_eq h480 hpr, if_neg (by simpa using g2), if_pos h3]; exact ⟨_, ⟨none, 0, rfl, rfl⟩, rfl⟩
        · -- h3 False
          refine G.skip <| G.seq <| G.seq <| G.reg <| W.q (mv rfl) rfl <| W.q (ne rfl rfl) rfl <| W.nil <| G.cdf rfl (decide_eq_false (fun h => h (of_decide_eq_true g2))) <| G.skip <| G.seq <| G.reg <| W.q (fa Try.fof66_4 rfl) rfl <| W.q (ld Try.sc22 rfl (Cell.at .hd rfl)) rfl <| W.q (sa rfl) rfl <| W.q (sa rfl) rfl <| W.nil <| retD2 hY (Ent.perm (.trans (.cons _ (.trans (.cons _ (.trans (.cons _ (.trans (.cons _ (.trans (.cons _ (.refl _)) (.swap _ _ _))) (.swap _ _ _))) (.swap _ _ _))) (.swap _ _ _))) (.swap _ _ _))) Try.results17 rfl rfl fun w hm => done (H := [sl a9 r.1.data.length c9 5 1 (B r.1.data)]) rfl ?_ (Dr.ent (.drop rfl <| .keep <| .drop rfl <| .drop rfl <| .drop rfl <| .drop rfl <| .drop rfl <| .rfl) w hm)
          rw [decR_eq h480 hpr, if_neg (by simpa using g2), if_neg h3]; exact ⟨_, ⟨a9, c9, rfl, rfl⟩, rfl⟩
      · -- False
        refine W.sk rfl rfl g2 rfl <| W.sk rfl rfl g2 rfl <| W.sk rfl rfl g2 rfl <| W.q (pkf rfl g2 rfl) rfl <| W.nil <| G.cdf rfl rfl <| G.skip <| G.seq <| G.seq <| G.reg <| W.q (mv rfl) rfl <| W.q (ne rfl rfl) rfl <| W.nil <| G.cdt rfl (decide_eq_true (of_decide_eq_false g2)) <| G.seq <| G.reg <| W.q (mv rfl) rfl <| W.q (sa rfl) rfl <| W.q (sa rfl) rfl <| W.nil <| retD2 hY (Ent.perm (.trans (.cons _ (.trans (.cons _ (.trans (.cons _ (.trans (.cons _ (.trans (.cons _ (.refl _)) (.swap _ _ _))) (.swap _ _ _))) (.swap _ _ _))) (.swap _ _ _))) (.swap _ _ _))) Try.results17 rfl rfl fun w hm => done (H := [sl none 0 0 5 1 []]) rfl ?_ (Mem.slNil (Dr.ent (.drop rfl <| .drop rfl <| .drop rfl <| .drop rfl <| .drop rfl <| .drop rfl <| .drop rfl <| .rfl) w hm) 5 1)
        rw [decR_eq h480 hpr, if_pos (by simpa using g2)]; exact ⟨_, ⟨none, 0, rfl, rfl⟩, rfl⟩
end Go.Proofs.Ytjalojbihpdghaa
