/- The laws' fixed fact; readings of a tape and a clock; TapeDraws. -/
import Derived.Test.YtnbofpojbpmdmaaClock
namespace Go.Proofs.Ytnbofpojbpmdmaa
open Go Go.Eng
set_option linter.unusedVariables false


set_option maxRecDepth 100000 in
theorem cursor_LeftR (b o : Nat) (a : Option Addr) (len cap : Nat) (at_ : Nat) (w : World) (hc0 : w.cell? ⟨b, o, none⟩ = some (.slice a len cap)) (hc1 : w.cell? ⟨b, o + 1, none⟩ = some (i64 at_)) (hb : len ≤ 140737488351232) (hat : at_ ≤ len) :
    Ret Try.prog 22 [ptr b o] w (fun v _ => v = i64 ((len : Int) - at_)) := by
  refine enter [] (Mem.nil _) Try.func22 rfl Try.ntmps22 rfl (fun X hX => ?_)
  have hw := hX.w0; subst hw
  refine G.seq <| G.reg <| W.q (sa rfl) rfl <| W.nil <| G.seq <| G.regq Try.mixed (by kernel_rfl) <| W.q (mv rfl) rfl <| W.q (ncp rfl) rfl <| W.q (fa Try.fof49_0 rfl) rfl <| W.q (ld Try.sc46 rfl (Cell.old rfl hc0)) rfl <| W.q (ln Try.esl46 rfl) rfl <| W.q (mv rfl) rfl <| W.q (ncp rfl) rfl <| W.q (fa Try.fof49_1 rfl) rfl <| W.q (ld Try.sc3 rfl (Cell.old rfl hc1)) rfl <| W.q (sb rfl rfl (by omega)) rfl <| W.q (sa rfl) rfl <| W.nilq <| ret1 hX Try.results22 rfl fun w hm => done rfl rfl hm


set_option maxRecDepth 100000 in
theorem cursor_DoneR (b o at_ : Nat) (w : World) (hc1 : w.cell? ⟨b, o + 1, none⟩ = some (i64 at_)) :
    Ret Try.prog 31 [ptr b o] w (fun v _ => v = i64 at_) := by
  refine enter [] (Mem.nil _) Try.func31 rfl Try.ntmps31 rfl (fun X hX => ?_)
  have hw := hX.w0; subst hw
  refine G.seq <| G.reg <| W.q (sa rfl) rfl <| W.nil <| G.seq <| G.reg <| W.q (mv rfl) rfl <| W.q (ncp rfl) rfl <| W.q (fa Try.fof49_1 rfl) rfl <| W.q (ld Try.sc3 rfl (Cell.old rfl hc1)) rfl <| W.q (sa rfl) rfl <| W.nil <| ret1 hX Try.results31 rfl fun w hm => done rfl rfl hm


set_option maxRecDepth 100000 in
theorem clock_NowR (b o : Nat) (now : Int) (w : World) (hc0 : w.cell? ⟨b, o, none⟩ = some (i64 now)) :
    Ret Try.prog 47 [ptr b o] w (fun v _ => v = i64 now) := by
  refine enter [] (Mem.nil _) Try.func47 rfl Try.ntmps47 rfl (fun X hX => ?_)
  have hw := hX.w0; subst hw
  refine G.seq <| G.reg <| W.q (sa rfl) rfl <| W.nil <| G.seq <| G.reg <| W.q (mv rfl) rfl <| W.q (ncp rfl) rfl <| W.q (fa Try.fof85_0 rfl) rfl <| W.q (ld Try.sc3 rfl (Cell.old rfl hc0)) rfl <| W.q (sa rfl) rfl <| W.nil <| ret1 hX Try.results47 rfl fun w hm => done rfl rfl hm

theorem drawR_123 : drawR [1, 2, 3] 0 2 = ([1, 2], 0, 2) := by decide
theorem setR_5 : setR 0 [] 5 7 = ([(5, 7)], 0) := by decide
theorem dueR_5 : dueR 0 [(5, 7)] 9 = (5, [], 7, true) := by
  have : dueI [(5, 7)] 9 = 0 := dueI_eq (.inr ⟨0, by decide, trivial, rfl, by decide, fun j hj _ _ => by
    have : j = 0 := by simpa using hj
    subst this; simp⟩)
  rw [dueR, this]; rfl


set_option maxRecDepth 100000 in
theorem law08_awake (w : World) :
    Ret Try.prog 21 [] w (fun v _ => v = .bool true) := by
  refine enter [] (Mem.nil _) Try.func21 rfl Try.ntmps21 rfl (fun X hX => ?_)
  have hw := hX.w0; subst hw
  refine G.seq <| G.reg <| W.q (sa rfl) rfl <| W.nil <| G.seq <| G.reg <| W.bs (cs := [_, _, _]) Try.underlying46 Try.sz5 Try.zrl5 rfl rfl rfl rfl fun b1 => W.fn Try.ca24 rfl (fun w hm => tape_NewTape (some ⟨b1, 0, none⟩) 3 [1, 2, 3] w (hm.rowRd .hd) (by decide)) rfl fun v J hv hJ => ?_
  obtain ⟨bt, a1, c1, rfl, rfl⟩ := hv
  refine W.q (sa rfl) rfl <| W.nil <| G.seq <| G.seq <| G.reg <| W.q (mv rfl) rfl <| W.q (eqp Try.underlying54 rfl) rfl <| W.nil <| G.cdd rfl (fun h1 => ?_) (fun h1 => ?_)
  · -- h1 True
    cases h1
  · -- h1 False
    refine G.slAt (a := a1) (m := 3) (cap := c1) (E := 5) (s := 1) (xs := B [1, 2, 3]) (by simp) (fun q1 q2 q3 q4 => ?_)
    refine G.skip <| G.seq <| G.reg <| W.q (mv rfl) rfl <| W.ff Try.ca27 rfl (Ent.perm (.refl _)) (tape_Draw X.w0 _ rfl bt 0 _ _ a1 c1 [1, 2, 3] 0 rfl rfl (Rdf.sl (.head _)) (by decide) (by decide) q2 2 (by decide)) rfl rfl fun v J hv hJ => ?_
    obtain ⟨a2, c2, rfl, rfl⟩ := hv
    rw [drawR_123]
    refine W.q (mv rfl) rfl <| W.q (ex rfl rfl) rfl <| W.q (ex rfl rfl) rfl <| W.q (sa rfl) rfl <| W.q (sa rfl) rfl <| W.nil <| G.seq <| G.reg <| W.al Try.zrl85 rfl fun b2 => W.nil <| G.seq <| ?_
    refine G.ent (Ent.slNil 156 2) ?_
    refine G.reg <| W.ff Try.ca49 rfl (Ent.perm (.trans (.refl _) (.trans (.cons _ (.refl _)) (.swap _ _ _)))) (clock_Set X.w0 _ b2 0 _ _ none 0 0 [] rfl rfl (by decide) 5 7) rfl rfl fun v J hv hJ => ?_
    obtain ⟨rfl, a4, c4, rfl⟩ := hv
    rw [setR_5]
    refine W.q (sa rfl) rfl <| W.nil <| G.seq <| G.reg <| W.ff Try.ca51 rfl (Ent.perm (.trans (.trans (.cons _ (.refl _)) (.swap _ _ _)) (.trans (.cons _ (.refl _)) (.swap _ _ _)))) (clock_Due X.w0 _ b2 0 _ _ a4 c4 0 [(5, 7)] rfl rfl (by decide) 9) rfl rfl fun v J hv hJ => ?_
    obtain ⟨rfl, a5, c5, rfl⟩ := hv
    rw [dueR_5]
    refine W.q (mv rfl) rfl <| W.q (ex rfl rfl) rfl <| W.q (ex rfl rfl) rfl <| W.q (sa rfl) rfl <| W.q (sa rfl) rfl <| W.nil <| G.seq <| G.reg <| W.q (mv rfl) rfl <| W.q (eq rfl rfl) rfl <| W.q (mv rfl) rfl <| W.sp (t := _) 24 rfl (fun g2 => ?_) (fun g2 => ?_)
    · -- True
      refine W.qg rfl rfl g2 (mv rfl) rfl <| W.ug rfl rfl g2 <| W.bs (cs := [_, _]) Try.underlying46 Try.sz5 Try.zrl5 rfl rfl rfl rfl fun b3 => W.fvg rfl rfl g2 Try.ca28 rfl (fun w hm => ref01_Equal a2 c2 [1, 2] w (hm.slRd (.tail _ <| .tail _ <| .tail _ <| .tail _ <| .head _)) (by decide) (some ⟨b3, 0, none⟩) 2 [1, 2] (hm.rowRd .hd)) rfl <| W.q (pkt rfl g2 rfl) rfl <| W.q (mv rfl) rfl <| W.qg rfl rfl rfl (mv rfl) rfl <| W.qg rfl rfl rfl (ncp rfl) rfl <| W.qg rfl rfl rfl (fa Try.fof51_0 rfl) rfl <| W.fvg rfl rfl rfl Try.ca22 rfl (fun w hm => cursor_LeftR bt 0 a1 3 c1 2 w (Cell.at (.tl <| .tl <| .tl <| .hd) rfl w hm) (Cell.at (.tl <| .tl <| .tl <| .hd) rfl w hm) (by decide) (by decide)) rfl <| W.qg rfl rfl rfl (eq rfl rfl) rfl <| W.q (pkt rfl rfl rfl) rfl <| W.q (mv rfl) rfl <| W.sp (t := _) 36 rfl (fun g3 => ?_) (fun g3 => ?_)
      · -- True
        refine W.qg rfl rfl g3 (mv rfl) rfl <| W.qg rfl rfl g3 (eq rfl rfl) rfl <| W.q (pkt rfl g3 rfl) rfl <| W.q (mv rfl) rfl <| W.sp (t := _) 40 rfl (fun g4 => ?_) (fun g4 => ?_)
        · -- True
          refine W.qg rfl rfl g4 (mv rfl) rfl <| W.q (pkt rfl g4 rfl) rfl <| W.q (mv rfl) rfl <| W.sp (t := _) 43 rfl (fun g5 => ?_) (fun g5 => ?_)
          · -- True
            refine W.qg rfl rfl g5 (mv rfl) rfl <| W.qg rfl rfl g5 (eq rfl rfl) rfl <| W.q (pkt rfl g5 rfl) rfl <| W.q (mv rfl) rfl <| W.sp (t := _) 47 rfl (fun g6 => ?_) (fun g6 => ?_)
            · -- True
              refine W.fvg rfl rfl g6 Try.ca47 rfl (fun w hm => clock_NowR b2 0 5 w (Cell.at (.tl <| .hd) rfl w hm)) rfl <| W.qg rfl rfl g6 (eq rfl rfl) rfl <| W.q (pkt rfl g6 rfl) rfl <| W.q (sa rfl) rfl <| W.nil <| ret1 hX Try.results21 rfl fun w hm => done (H := []) rfl rfl (Dr.ent (Dr.new rfl) w hm)
            · -- False
              simp at g6
          · -- False
            simp at g5
        · -- False
          simp at g4
      · -- False
        simp at g3
    · -- False
      simp at g2

/-- Lists of sizes in memory. -/
abbrev Pi := Option Addr × Nat × List Int
def piV (p : Pi) : Value := .slice p.1 p.2.2.length p.2.1
theorem i64_one (l : List Int) : (l.map i64).all (·.oneCell') = true := by simp [Value.oneCell']
theorem drawsR_one (bs : List UInt8) (at_ : Nat) (n : Int) : (drawR bs at_ n).2.1 = (drawsR bs at_ [n]).2.1 ∧ (drawR bs at_ n).2.2 = (drawsR bs at_ [n]).2.2 ∧ ((drawsR bs at_ [n]).2.1 = 0 → (drawsR bs at_ [n]).1 = [(drawR bs at_ n).1]) ∧ ((drawsR bs at_ [n]).2.1 ≠ 0 → (drawR bs at_ n).1 = []) := by
  have hu : upTo [n] 1 = n.toNat := by simp [upTo]
  unfold drawR drawsR takeR
  by_cases h1 : n < 0
  · simp [h1]
  · by_cases h2 : (bs.length : Int) - at_ < n
    · have h3 : bs.length < at_ + upTo [n] 1 := by omega
      simp [h1, h2, h3]
    · have h3 : ¬ bs.length < at_ + upTo [n] 1 := by omega
      have h4 : ¬ bs.length < at_ + n.toNat := by omega
      simp [h1, h2, h3, h4, hu, cuts]
theorem drawsR_len (bs : List UInt8) (at_ : Nat) (sizes : List Int) : (drawsR bs at_ sizes).1.length ≤ sizes.length := by
  unfold drawsR; split
  · simp
  · split
    · simp
    · simp [cuts_len]
theorem RdBB.of {w0 w : World} {H : List It} {a : Option Addr} {cap : Nat} {ps : List Pc} (hm : Mem w0 w H) (hs : ∀ it ∈ (sl a ps.length cap 46 1 (ps.map pcV) :: ps.map pcI), it ∈ H) (hb : ∀ x ∈ ps.map (fun p => p.2.2), x.length ≤ 140737488351232) : RdBB w a ps :=
  ⟨hm.slRd (m := ps.length) (cap := cap) (E := 46) (s := 1) (hs _ List.mem_cons_self), fun p hp => ⟨hm.slRd (hs (pcI p) (List.mem_cons_of_mem _ (List.mem_map_of_mem hp))), hb _ (List.mem_map_of_mem (f := fun p => p.2.2) hp)⟩⟩
theorem mem_l {it : It} (J R : List It) (h : it ∈ J) : it ∈ J ++ R := List.mem_append_left _ h
theorem perm_over (c s : It) (p : Pc) (l1 l2 : List Pc) (R : List It) : (c :: s :: ((l1 ++ p :: l2).map pcI ++ R)).Perm (pcI p :: c :: s :: ((l1 ++ l2).map pcI ++ R)) := by
  have h : ((l1 ++ p :: l2).map pcI ++ R).Perm (pcI p :: ((l1 ++ l2).map pcI ++ R)) := by
    simp only [List.map_append, List.map_cons, List.append_assoc, List.cons_append]
    exact List.perm_middle
  exact ((h.cons s).cons c).trans (((List.Perm.swap _ _ _).cons c).trans (List.Perm.swap _ _ _))
theorem drawsR_le (bs : List UInt8) (at_ : Nat) (sizes : List Int) (h : at_ ≤ bs.length) : (drawsR bs at_ sizes).2.2 ≤ bs.length := by
  unfold drawsR; split
  · exact h
  · split
    · exact h
    · simp only []; omega
theorem cuts_le (bs : List UInt8) : ∀ (ns : List Nat) (at_ : Nat), ∀ x ∈ cuts bs at_ ns, x.length ≤ bs.length
  | [], _, x, hx => by simp [cuts] at hx
  | m :: ns, at_, x, hx => by
    rcases List.mem_cons.1 hx with rfl | hx
    · simp; omega
    · exact cuts_le bs ns _ x hx
theorem drawsR_piece (bs : List UInt8) (at_ : Nat) (sizes : List Int) : ∀ x ∈ (drawsR bs at_ sizes).1, x.length ≤ bs.length := by
  unfold drawsR; split
  · simp
  · split
    · simp
    · exact cuts_le bs _ _


set_option maxRecDepth 100000 in
theorem law_TapeDraws (a : Option Addr) (cap : Nat) (bs : List UInt8) (w : World) (hl : RdL w a (B bs)) (hb : bs.length ≤ 140737488351232) (hcap : bs.length ≤ cap)
    (a2 : Option Addr) (cap2 : Nat) (ls : List Pi) (hl2 : RdL w a2 (ls.map piV)) (hls : ∀ p ∈ ls, RdL w p.1 (p.2.2.map i64) ∧ (∀ n ∈ p.2.2, n ≤ 9223372036854775807) ∧ p.2.2.length * 24 ≤ 140737488351232) (hb2 : ls.length ≤ 140737488351232) :
    Ret Try.prog 5 [.slice a bs.length cap, .slice a2 ls.length cap2] w (fun v _ => v = .bool true) := by
  refine enter [] (Mem.nil _) Try.func5 rfl Try.ntmps5 rfl (fun X hX => ?_)
  have hw := hX.w0; subst hw
  refine G.seq <| G.reg <| W.q (sa rfl) rfl <| W.nil <| G.seq <| G.seq <| G.reg <| W.fv Try.ca21 rfl (fun w hm => law08_awake w) rfl <| W.q (nt rfl) rfl <| W.nil <| G.cdf rfl rfl <| G.skip <| G.seq <| G.reg <| W.al Try.zrl51 rfl fun b1 => W.nil <| G.seq <| G.seq <| G.reg <| W.q (fa Try.fof51_0 rfl) rfl <| W.fv Try.ca22 rfl (fun w hm => cursor_LeftR b1 0 none 0 0 0 w (Cell.at .hd rfl w hm) (Cell.at .hd rfl w hm) (by decide) (by decide)) rfl <| W.q (ne rfl rfl) rfl <| W.nil <| G.cdd rfl (fun h1 => ?_) (fun h1 => ?_)
  · -- h1 True
    omega
  · -- h1 False
    refine G.skip <| G.seq <| G.reg <| W.q (mv rfl) rfl <| W.fn Try.ca23 rfl (fun w hm => ref01_Copy a cap bs w (hm.rd rfl hl) hb) rfl fun v J hv hJ => ?_
    obtain ⟨a0, c0, rfl, rfl⟩ := hv
    refine W.q (sa rfl) rfl <| W.nil <| G.seq <| G.reg <| W.q (mv rfl) rfl <| W.fn Try.ca24 rfl (fun w hm => tape_NewTape a0 c0 bs w (hm.slRd (.head _)) hb) rfl fun v J hv hJ => ?_
    obtain ⟨bt, a3, c3, rfl, rfl⟩ := hv
    refine W.q (sa rfl) rfl <| W.nil <| G.seq <| G.reg <| W.q (mv rfl) rfl <| W.ff Try.ca25 rfl (Ent.perm (.trans (.cons _ (.trans (.cons _ (.refl _)) (.swap _ _ _))) (.swap _ _ _))) (ref01_Over X.w0 _ a0 c0 5 bs hb) rfl rfl fun v J hv hJ => ?_
    obtain ⟨bs1, hbs1, rfl⟩ := hv
    refine W.nil <| G.seq <| G.reg <| W.q (sa rfl) rfl <| W.nil <| G.seq <| G.seq <| G.reg <| W.q (mv rfl) rfl <| W.q (ln Try.esl47 rfl) rfl <| W.q (mv rfl) rfl <| W.nil <| G.blk <| G.loop2 (α := Nat) (β := Nat) (fun k at_ => k ≤ ls.length ∧ at_ ≤ bs.length) (fun k at_ => [(8, i64 at_), (32, i64 k)]) (fun k at_ => [nb bt [.slice a3 bs.length c3, i64 at_] 51, sl a3 bs.length c3 5 1 (B bs)]) (fun k at_ => ls.length - k) [(0, _), (7, _), (30, _), (31, _)] _ 0 0 ⟨by omega, by omega⟩ (Sub.cons rfl <| Sub.cons rfl <| Sub.cons rfl <| Sub.cons rfl <| Sub.cons rfl <| Sub.cons rfl <| Sub.nil _) (Ent.perm (.trans (.swap _ _ _) (.cons _ (.swap _ _ _)))) (fun k at_ hk ih => ?_)
    refine G.seq <| G.reg <| W.q (lt rfl rfl) rfl <| W.nil <| G.seq <| G.cdd rfl (fun h2 => ?_) (fun h2 => ?_)
    · -- h2 True
      have h2' : k < ls.length := by omega
      obtain ⟨zb, zo, rfl, hx⟩ := hl2.at k h2'
      obtain ⟨hx1, hx2, hx3⟩ := hls _ (List.getElem_mem h2')
      generalize hq : ls[k] = q at hx hx1 hx2 hx3
      obtain ⟨q1, q2, sizes⟩ := q
      simp only at hx1 hx2 hx3
      have hle := drawsR_le bs at_ sizes hk.2
      refine G.slAt (a := a3) (m := bs.length) (cap := c3) (E := 5) (s := 1) (xs := B bs) (by simp) (fun p1 p2 p3 p4 => ?_)
      refine G.skip <| G.seq <| G.blk <| G.seq <| G.reg <| W.q (ia Try.esl47 rfl rfl (by omega) (by omega)) rfl <| W.q (ld Try.sc40 rfl (Cell.old rfl (by simpa [piV] using hx))) rfl <| W.q (sa rfl) rfl <| W.nil <| G.seq <| G.reg <| W.q (mv rfl) rfl <| W.q (mv rfl) rfl <| W.q (mv rfl) rfl <| W.fn Try.ca26 rfl (fun w hm => ref08_Draws a cap bs w (hm.rd rfl hl) hb hcap at_ hk.2 q1 q2 sizes (hm.rd rfl hx1) hx2 hx3) rfl fun v J1 hv hJ1 => ?_
      obtain ⟨v1, ⟨a4, c4, ps, hps, rfl, hJe⟩, rfl⟩ := hv
      refine W.q (mv rfl) rfl <| W.q (ex rfl rfl) rfl <| W.q (ex rfl rfl) rfl <| W.q (ex rfl rfl) rfl <| W.q (sa rfl) rfl <| W.q (sa rfl) rfl <| W.q (sa rfl) rfl <| W.nil <| G.seq <| G.seq <| ?_
      refine G.ent (Ent.perm List.perm_middle) ?_
      refine G.reg <| W.q (mv rfl) rfl <| W.q (ln Try.esl40 rfl) rfl <| W.q (eq rfl rfl) rfl <| W.nil <| G.cdd rfl (fun h3 => ?_) (fun h3 => ?_)
      · -- h3 True
        obtain ⟨n, hsz⟩ : ∃ n, sizes = [n] := List.length_eq_one_iff.1 (by omega)
        have hl0 : 0 < sizes.length := by omega
        obtain ⟨yb, yo, rfl, hy⟩ := hx1.at 0 hl0
        have hs0 : sizes[0] = n := by simp [hsz]
        rw [hs0] at hy
        have hd1 := drawsR_one bs at_ n
        rw [← hsz] at hd1
        obtain ⟨e1, e2, e3, e4⟩ := hd1
        have hn1 : n ≤ 9223372036854775807 := hx2 n (by simp [hsz])
        refine G.seq <| G.reg <| W.q (mv rfl) rfl <| W.q (mv rfl) rfl <| W.q (ia Try.esl40 rfl rfl (by omega) (by omega)) rfl <| W.q (ld Try.sc3 rfl (Cell.old (allNew_append (H := [_]) rfl (allNew_append hJ1 rfl)) (by simpa using hy))) rfl <| W.ff Try.ca27 rfl (Ent.perm (.refl _)) (tape_Draw X.w0 _ (allNew_append hJ1 rfl) bt 0 _ _ a3 c3 bs at_ rfl rfl (Rdf.sl (List.mem_append_right J1 (.head _))) hb hk.2 p2 n hn1) rfl rfl fun v J hv hJ => ?_
        obtain ⟨a5, c5, rfl, rfl⟩ := hv
        rw [e1, e2]
        refine W.q (mv rfl) rfl <| W.q (ex rfl rfl) rfl <| W.q (ex rfl rfl) rfl <| W.q (sa rfl) rfl <| W.q (sa rfl) rfl <| W.nil <| G.seq <| G.reg <| W.q (mv rfl) rfl <| W.q (mv rfl) rfl <| W.q (ne rfl rfl) rfl <| W.q (mv rfl) rfl <| W.sp (t := _) 58 rfl (fun g4 => ?_) (fun g4 => ?_)
        · -- True
          simp at g4
        · -- False
          refine W.qg rfl rfl g4 (mv rfl) rfl <| W.qg rfl rfl g4 (eq rfl rfl) rfl <| W.qg rfl rfl g4 (mv rfl) rfl <| W.sp (t := _) 61 rfl (fun g5 => ?_) (fun g5 => ?_)
          · -- True
            have f0 := of_decide_eq_true g5
            have hp1 := hps.trans (e3 f0)
            obtain ⟨p, hpp⟩ : ∃ p, ps = [p] := List.length_eq_one_iff.1 (by have := congrArg List.length hp1; simpa using this)
            have hpe : p.2.2 = (drawR bs at_ n).1 := by rw [hpp] at hp1; simpa using hp1
            have hpl : ps.length = 1 := by rw [hpp]; rfl
            have hdl : (drawR bs at_ n).1.length ≤ 140737488351232 := by have := drawsR_piece bs at_ sizes (drawR bs at_ n).1 (by rw [e3 f0]; simp); omega
            refine W.rdA (a := a4) (cells := ps.map pcV) (Rdf.sl (m := ps.length) (cap := c4) (E := 46) (s := 1) (by rw [hJe]; simp)) (by simp [hpl]) (fun wb wo hye => ?_)
            subst hye
            have hz : ∀ H, sl (some ⟨wb, wo, none⟩) ps.length c4 46 1 (ps.map pcV) ∈ H → Cell X.w0 H ⟨wb, wo + 0, none⟩ (.slice p.1 (drawR bs at_ n).1.length p.2.1) := fun H hi => (Rdf.sl hi).cellOf (by rw [hpp, ← hpe]; rfl)
            refine W.qg rfl rfl g5 (mv rfl) rfl <| W.qg rfl rfl g5 (mv rfl) rfl <| W.qg rfl rfl g5 (ia Try.esl57 rfl rfl (by omega) (by omega)) rfl <| W.qg rfl rfl g5 (ld Try.sc46 rfl (by simpa using hz _ (by rw [hJe]; simp))) rfl <| W.fvg rfl rfl g5 Try.ca28 rfl (fun w hm => by have := ref01_Equal a5 c5 (drawR bs at_ n).1 w (hm.slRd (.tail _ <| .head _)) hdl p.1 p.2.1 (drawR bs at_ n).1 (hm.slRd (m := (drawR bs at_ n).1.length) (cap := p.2.1) (E := 5) (s := 1) (by rw [hJe, hpp, ← hpe]; simp [pcI])); rwa [decide_eq_true rfl] at this) rfl <| W.qg rfl rfl g5 (nt rfl) rfl <| W.qg rfl rfl g4 (pkt rfl g5 rfl) rfl <| W.q (pkf rfl g4 rfl) rfl <| W.q (mv rfl) rfl <| W.qg rfl rfl rfl (mv rfl) rfl <| W.qg rfl rfl rfl (ne rfl rfl) rfl <| W.qg rfl rfl rfl (mv rfl) rfl <| W.sp (t := _) 73 rfl (fun g6 => ?_) (fun g6 => ?_)
            · -- True
              simp [f0] at g6
            · -- False
              refine W.sk rfl rfl g6 rfl <| W.sk rfl rfl g6 rfl <| W.sk rfl rfl g6 rfl <| W.qg rfl rfl rfl (pkf rfl g6 rfl) rfl <| W.q (pkf rfl rfl rfl) rfl <| W.nil <| G.cdf rfl rfl <| G.skip <| G.seq <| G.reg <| W.q (mv rfl) rfl <| W.q (sa rfl) rfl <| W.nil <| G.seq <| G.reg <| W.q (mv rfl) rfl <| W.q (ncp rfl) rfl <| W.q (fa Try.fof51_0 rfl) rfl <| W.fv Try.ca31 rfl (fun w hm => cursor_DoneR bt 0 (drawsR bs at_ sizes).2.2 w (Cell.at .hd rfl w hm)) rfl <| W.q (mv rfl) rfl <| W.q (ne rfl rfl) rfl <| W.q (mv rfl) rfl <| W.sp (t := _) 114 rfl (fun g7 => ?_) (fun g7 => ?_)
              · -- True
                simp at g7
              · -- False
                refine W.qg rfl rfl g7 (mv rfl) rfl <| W.qg rfl rfl g7 (ncp rfl) rfl <| W.qg rfl rfl g7 (fa Try.fof51_0 rfl) rfl <| W.fvg rfl rfl g7 Try.ca22 rfl (fun w hm => cursor_LeftR bt 0 a3 bs.length c3 (drawsR bs at_ sizes).2.2 w (Cell.at .hd rfl w hm) (Cell.at .hd rfl w hm) hb (drawsR_le bs at_ sizes hk.2)) rfl <| W.qg rfl rfl g7 (mv rfl) rfl <| W.qg rfl rfl g7 (ln Try.esl46 rfl) rfl <| W.qg rfl rfl g7 (mv rfl) rfl <| W.qg rfl rfl g7 (sb rfl rfl (by omega)) rfl <| W.qg rfl rfl g7 (ne rfl rfl) rfl <| W.q (pkf rfl g7 rfl) rfl <| W.nil <| G.cdd rfl (fun h8 => ?_) (fun h8 => ?_)
                · -- h8 True
                  exact absurd rfl h8
                · -- h8 False
                  refine G.skip <| G.inb <| G.reg <| W.q (ad rfl rfl (by omega)) rfl <| W.q (mv rfl) rfl <| W.nil <| (ih (k + 1) (drawsR bs at_ sizes).2.2 ⟨by omega, hle⟩ (by omega)).weak (Sub.cons rfl <| Sub.cons rfl <| Sub.cons rfl <| Sub.cons rfl <| Sub.cons rfl <| Sub.cons rfl <| Sub.nil _) (Dr.ent <| Dr.keep <| Dr.drop rfl <| Dr.allS hJ1 rfl <| Dr.keep <| Dr.keep <| Dr.keep <| .rfl)
          · -- False
            refine W.sk rfl rfl g5 rfl <| W.sk rfl rfl g5 rfl <| W.sk rfl rfl g5 rfl <| W.sk rfl rfl g5 rfl <| W.sk rfl rfl g5 rfl <| W.sk rfl rfl g5 rfl <| W.qg rfl rfl g4 (pkf rfl g5 rfl) rfl <| W.q (pkf rfl g4 rfl) rfl <| W.q (mv rfl) rfl <| W.qg rfl rfl rfl (mv rfl) rfl <| W.qg rfl rfl rfl (ne rfl rfl) rfl <| W.qg rfl rfl rfl (mv rfl) rfl <| W.sp (t := _) 73 rfl (fun g9 => ?_) (fun g9 => ?_)
            · -- True
              refine W.qg rfl rfl g9 (mv rfl) rfl <| W.qg rfl rfl g9 (ln Try.esl46 rfl) rfl <| W.qg rfl rfl g9 (ne rfl rfl) rfl <| W.qg rfl rfl rfl (pkt rfl g9 rfl) rfl <| W.q (pkf rfl rfl rfl) rfl <| W.nil <| G.cdd rfl (fun h10 => ?_) (fun h10 => ?_)
              · -- h10 True
                simp [e4 (by simpa using g9)] at h10
              · -- h10 False
                refine G.skip <| G.seq <| G.reg <| W.q (mv rfl) rfl <| W.q (sa rfl) rfl <| W.nil <| G.seq <| G.reg <| W.q (mv rfl) rfl <| W.q (ncp rfl) rfl <| W.q (fa Try.fof51_0 rfl) rfl <| W.fv Try.ca31 rfl (fun w hm => cursor_DoneR bt 0 (drawsR bs at_ sizes).2.2 w (Cell.at .hd rfl w hm)) rfl <| W.q (mv rfl) rfl <| W.q (ne rfl rfl) rfl <| W.q (mv rfl) rfl <| W.sp (t := _) 114 rfl (fun g11 => ?_) (fun g11 => ?_)
                · -- True
                  simp at g11
                · -- False
                  refine W.qg rfl rfl g11 (mv rfl) rfl <| W.qg rfl rfl g11 (ncp rfl) rfl <| W.qg rfl rfl g11 (fa Try.fof51_0 rfl) rfl <| W.fvg rfl rfl g11 Try.ca22 rfl (fun w hm => cursor_LeftR bt 0 a3 bs.length c3 (drawsR bs at_ sizes).2.2 w (Cell.at .hd rfl w hm) (Cell.at .hd rfl w hm) hb (drawsR_le bs at_ sizes hk.2)) rfl <| W.qg rfl rfl g11 (mv rfl) rfl <| W.qg rfl rfl g11 (ln Try.esl46 rfl) rfl <| W.qg rfl rfl g11 (mv rfl) rfl <| W.qg rfl rfl g11 (sb rfl rfl (by omega)) rfl <| W.qg rfl rfl g11 (ne rfl rfl) rfl <| W.q (pkf rfl g11 rfl) rfl <| W.nil <| G.cdd rfl (fun h12 => ?_) (fun h12 => ?_)
                  · -- h12 True
                    exact absurd rfl h12
                  · -- h12 False
                    refine G.skip <| G.inb <| G.reg <| W.q (ad rfl rfl (by omega)) rfl <| W.q (mv rfl) rfl <| W.nil <| (ih (k + 1) (drawsR bs at_ sizes).2.2 ⟨by omega, hle⟩ (by omega)).weak (Sub.cons rfl <| Sub.cons rfl <| Sub.cons rfl <| Sub.cons rfl <| Sub.cons rfl <| Sub.cons rfl <| Sub.nil _) (Dr.ent <| Dr.keep <| Dr.drop rfl <| Dr.allS hJ1 rfl <| Dr.keep <| Dr.keep <| Dr.keep <| .rfl)
            · -- False
              exact absurd (by simpa using g9) (of_decide_eq_false g5)
      · -- h3 False
        refine G.seq <| G.reg <| W.q (mv rfl) rfl <| W.bs Try.underlying40 Try.sz3 Try.zrl3 rfl rfl rfl rfl fun b2 => W.q (mv rfl) rfl <| W.ent (Ent.rowSl (m := 0) (cap := 0) (s := 1) (Nat.le_refl _) (by omega) (by simp [maxLen])) <| W.ap Try.underlying40 Try.underlying40 Try.sz3 Try.zln3 Try.by3 rfl rfl (fun _ _ => .hd) (RdS.old (allNew_append (H := [_, _]) rfl (allNew_append hJ1 rfl)) hx1) (by simp) (i64_one _) (fun h => by subst h; have := RdL.none_nil hx1; simpa using this) (by omega) (by omega) rfl fun a6 c6 => ?_
        rw [Nat.zero_add]
        refine W.ff Try.ca29 rfl (Ent.perm (.trans (.cons _ (.refl _)) (.swap _ _ _))) (tape_Draws X.w0 _ (allNew_append (H := [_]) rfl (allNew_append hJ1 rfl)) bt 0 _ _ a3 c3 bs at_ rfl rfl (Rdf.sl (List.mem_cons_of_mem _ (List.mem_append_right J1 (.head _)))) hb hk.2 p2 a6 c6 sizes (Rdf.sl (.head _)) hx2 hx3) rfl rfl fun v J hv hJ => ?_
        obtain ⟨v2, J2, ⟨a7, c7, qs, hqs, rfl, hJ2e⟩, rfl, rfl⟩ := hv
        have hJ2 : allNew J2 = true := by rw [hJ2e]; exact allNew_append (H := [_]) rfl (pcI_new qs)
        have hql : qs.length ≤ sizes.length := by have := drawsR_len bs at_ sizes; rw [← hqs] at this; simpa using this
        have hpl : ps.length ≤ sizes.length := by have := drawsR_len bs at_ sizes; rw [← hps] at this; simpa using this
        have hpb : ∀ x ∈ (drawsR bs at_ sizes).1, x.length ≤ 140737488351232 := fun x hx => by have := drawsR_piece bs at_ sizes x hx; omega
        refine W.q (mv rfl) rfl <| W.q (ex rfl rfl) rfl <| W.q (ex rfl rfl) rfl <| W.q (sa rfl) rfl <| W.q (sa rfl) rfl <| W.nil <| G.seq <| G.seq <| G.reg <| W.q (mv rfl) rfl <| W.q (mv rfl) rfl <| W.q (ne rfl rfl) rfl <| W.q (mv rfl) rfl <| W.sp (t := _) 90 rfl (fun g13 => ?_) (fun g13 => ?_)
        · -- True
          simp at g13
        · -- False
          refine W.qg rfl rfl g13 (mv rfl) rfl <| W.qg rfl rfl g13 (mv rfl) rfl <| W.fvg rfl rfl g13 Try.ca30 rfl (fun w hm => by have := ref01_Equals w a7 c7 qs (RdBB.of hm (fun it hi => List.mem_cons_of_mem _ (List.mem_append_left _ (show it ∈ J2 by rw [hJ2e]; exact hi))) (by rw [hqs]; exact hpb)) a4 c4 ps (RdBB.of hm (fun it hi => List.mem_cons_of_mem _ (List.mem_append_right J2 (List.mem_cons_of_mem _ (mem_l J1 _ (show it ∈ J1 by rw [hJe]; exact hi))))) (by rw [hps]; exact hpb)) (by omega) (by omega); rwa [decide_eq_true (hqs.trans hps.symm)] at this) rfl <| W.qg rfl rfl g13 (nt rfl) rfl <| W.q (pkf rfl g13 rfl) rfl <| W.nil <| G.cdf rfl rfl <| G.skip <| G.seq <| G.reg <| W.q (mv rfl) rfl <| W.q (ln Try.esl57 rfl) rfl <| W.q (mv rfl) rfl <| W.nil <| G.blk <| G.loop2 (α := Nat) (β := List Pc) (fun k2 rs => k2 ≤ qs.length ∧ rs.map pcV = qs.map pcV) (fun k2 rs => [(98, i64 k2)]) (fun k2 rs => [nb bt [.slice a3 bs.length c3, i64 ((drawsR bs at_ sizes).2.2 : Nat)] 51, sl a7 qs.length c7 46 1 (qs.map pcV)] ++ rs.map pcI) (fun k2 rs => qs.length - k2) [(0, _), (7, _), (12, _), (16, _), (30, _), (31, _), (32, _), (97, _)] _ 0 qs ⟨by omega, rfl⟩ (Sub.cons rfl <| Sub.cons rfl <| Sub.cons rfl <| Sub.cons rfl <| Sub.cons rfl <| Sub.cons rfl <| Sub.cons rfl <| Sub.cons rfl <| Sub.cons rfl <| Sub.nil _) (Ent.eq (by rw [hJ2e]; rfl)) (fun k2 rs hk2 ih2 => ?_)
          refine G.seq <| G.reg <| W.q (lt rfl rfl) rfl <| W.nil <| G.seq <| G.cdd rfl (fun h14 => ?_) (fun h14 => ?_)
          · -- h14 True
            have h14' : k2 < qs.length := by omega
            obtain ⟨l1, p, l2, rfl, hl1⟩ : ∃ l1 p l2, rs = l1 ++ p :: l2 ∧ l1.length = k2 := by
              have hrl : rs.length = qs.length := by have := congrArg List.length hk2.2; simpa using this
              exact ⟨rs.take k2, rs[k2], rs.drop (k2 + 1), by rw [List.getElem_cons_drop, List.take_append_drop], by simp; omega⟩
            have hqe : (qs.map pcV)[k2]? = some (pcV p) := by rw [← hk2.2, List.map_append, List.getElem?_append_right (by simp [hl1])]; simp [hl1]
            refine G.rdA (a := a7) (cells := qs.map pcV) (Rdf.sl (m := qs.length) (cap := c7) (E := 46) (s := 1) (by simp)) (by simp; omega) (fun ub uo hue => ?_)
            subst hue
            have hz2 : ∀ H, sl (some ⟨ub, uo, none⟩) qs.length c7 46 1 (qs.map pcV) ∈ H → Cell X.w0 H ⟨ub, uo + k2, none⟩ (pcV p) := fun H hi => (Rdf.sl hi).cellOf hqe
            have hp3 : p.2.2.length ≤ 140737488351232 := by
              have h9 : pcV qs[k2] = pcV p := by have := hqe; rw [List.getElem?_map, List.getElem?_eq_getElem h14'] at this; simpa using this
              simp only [pcV, Value.slice.injEq] at h9
              rw [← h9.2.1]
              exact hpb _ (by rw [← hqs]; exact List.mem_map_of_mem (f := fun p : Pc => p.2.2) (List.getElem_mem h14'))
            obtain ⟨p1', p2', p3'⟩ := p
            simp only [pcV] at hz2
            refine G.skip <| G.seq <| G.blk <| G.seq <| G.reg <| W.q (mv rfl) rfl <| W.q (sa rfl) rfl <| W.nil <| ?_
            refine G.ent (Ent.perm (perm_over _ _ _ l1 l2 _)) ?_
            refine G.reg <| W.q (mv rfl) rfl <| W.q (mv rfl) rfl <| W.q (ia Try.esl57 rfl rfl (by omega) (by omega)) rfl <| W.q (ld Try.sc46 rfl (by simpa using hz2 _ (by simp))) rfl <| W.ff Try.ca25 rfl (Ent.perm (.refl _)) (ref01_Over X.w0 _ p1' p2' 5 p3' hp3) rfl rfl fun v J hv hJ => ?_
            obtain ⟨bs2, hbs2, rfl⟩ := hv
            rw [← hbs2]
            refine W.nil <| G.inb <| G.reg <| W.q (ad rfl rfl (by omega)) rfl <| W.q (mv rfl) rfl <| W.nil <| (ih2 (k2 + 1) (l1 ++ (p1', p2', bs2) :: l2) ⟨by omega, by rw [← hk2.2]; simp [pcV, hbs2]⟩ (by omega)).weak (Sub.cons rfl <| Sub.cons rfl <| Sub.cons rfl <| Sub.cons rfl <| Sub.cons rfl <| Sub.cons rfl <| Sub.cons rfl <| Sub.cons rfl <| Sub.cons rfl <| Sub.nil _) (Ent.perm (perm_over _ _ (p1', p2', bs2) l1 l2 _).symm)
          · -- h14 False
            have hJ9 := pcI_new rs
            refine G.exit rfl <| G.seq <| G.reg <| W.q (mv rfl) rfl <| W.q (sa rfl) rfl <| W.nil <| G.seq <| G.reg <| W.q (mv rfl) rfl <| W.q (ncp rfl) rfl <| W.q (fa Try.fof51_0 rfl) rfl <| W.fv Try.ca31 rfl (fun w hm => cursor_DoneR bt 0 (drawsR bs at_ sizes).2.2 w (Cell.at .hd rfl w hm)) rfl <| W.q (mv rfl) rfl <| W.q (ne rfl rfl) rfl <| W.q (mv rfl) rfl <| W.sp (t := _) 114 rfl (fun g15 => ?_) (fun g15 => ?_)
            · -- True
              simp at g15
            · -- False
              refine W.qg rfl rfl g15 (mv rfl) rfl <| W.qg rfl rfl g15 (ncp rfl) rfl <| W.qg rfl rfl g15 (fa Try.fof51_0 rfl) rfl <| W.fvg rfl rfl g15 Try.ca22 rfl (fun w hm => cursor_LeftR bt 0 a3 bs.length c3 (drawsR bs at_ sizes).2.2 w (Cell.at .hd rfl w hm) (Cell.at .hd rfl w hm) hb (drawsR_le bs at_ sizes hk.2)) rfl <| W.qg rfl rfl g15 (mv rfl) rfl <| W.qg rfl rfl g15 (ln Try.esl46 rfl) rfl <| W.qg rfl rfl g15 (mv rfl) rfl <| W.qg rfl rfl g15 (sb rfl rfl (by omega)) rfl <| W.qg rfl rfl g15 (ne rfl rfl) rfl <| W.q (pkf rfl g15 rfl) rfl <| W.nil <| G.cdd rfl (fun h16 => ?_) (fun h16 => ?_)
              · -- h16 True
                exact absurd rfl h16
              · -- h16 False
                refine G.skip <| G.inb <| G.reg <| W.q (ad rfl rfl (by omega)) rfl <| W.q (mv rfl) rfl <| W.nil <| (ih (k + 1) (drawsR bs at_ sizes).2.2 ⟨by omega, hle⟩ (by omega)).weak (Sub.cons rfl <| Sub.cons rfl <| Sub.cons rfl <| Sub.cons rfl <| Sub.cons rfl <| Sub.cons rfl <| Sub.nil _) (Dr.ent <| Dr.keep <| Dr.drop rfl <| Dr.allS hJ9 rfl <| Dr.drop rfl <| Dr.allS hJ1 rfl <| Dr.keep <| Dr.keep <| Dr.keep <| .rfl)
    · -- h2 False
      refine G.exit rfl <| G.seq <| G.reg <| W.q (sa rfl) rfl <| W.nil <| ret1 hX Try.results5 rfl fun w hm => done (H := []) rfl rfl (Dr.ent (Dr.new rfl) w hm)
end Go.Proofs.Ytnbofpojbpmdmaa
