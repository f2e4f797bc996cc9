/- Messages split into parts. -/
import Derived.Test.YtjalojbihpdghaaFrame1
namespace Go.Proofs.Ytjalojbihpdghaa
open Go Go.Eng
set_option linter.unusedVariables false

def countR (n : Int) : Int × Int := if n < 0 then (0, 1) else if 7200 < n then (0, 2) else (max 1 ((n + 449) / 450), 0)
/-- Parts in memory: the part, where its data lies, the capacity. -/
abbrev Pp := Pt × Option Addr × Nat
def ppC (p : Pp) : List Value := ptC p.1 p.2.1 p.2.2
theorem ppC_len (p : Pp) : (ppC p).length = 5 := rfl
def ppI (p : Pp) : It := sl p.2.1 p.1.data.length p.2.2 5 1 (B p.1.data)
theorem ppI_new (ps : List Pp) : allNew (ps.map ppI) = true := by simp [allNew, ppI, sl]
theorem ppC_one (ps : List Pp) : (ps.flatMap ppC).all (·.oneCell') = true := by simp [ppC, ptC, Value.oneCell']
def NewPP (pts : List Pt) (v : Value) (J : List It) : Prop :=
  ∃ (a : Option Addr) (cap : Nat) (ps : List Pp), ps.map (·.1) = pts ∧ v = .slice a ps.length cap ∧ J = sl a ps.length cap 66 5 (ps.flatMap ppC) :: ps.map ppI
theorem ent_pp {w0 w : World} {a : Option Addr} {cap : Nat} (ps : List Pp) (p : Pp) (H : List It) (hm : Mem w0 w (ppI p :: sl a (ps.length + 1) cap 66 5 (ps.flatMap ppC ++ ppC p) :: (ps.map ppI ++ H))) :
    Mem w0 w (sl a (ps ++ [p]).length cap 66 5 ((ps ++ [p]).flatMap ppC) :: ((ps ++ [p]).map ppI ++ H)) := by
  have e : (ps ++ [p]).flatMap ppC = ps.flatMap ppC ++ ppC p := by simp
  rw [e, List.length_append, List.map_append, List.append_assoc]
  exact hm.perm ((List.Perm.swap _ _ _).trans (.cons _ List.perm_middle.symm))
/-- Parts that are read. -/
def RdPP (w : World) (a : Option Addr) (ps : List Pp) : Prop := RdL w a (ps.flatMap ppC) ∧ ∀ p ∈ ps, RdL w p.2.1 (B p.1.data) ∧ p.1.data.length ≤ 140737488351232
def partAt (id : UInt64) (msg : List UInt8) (n i : Nat) : Pt := ⟨1, id, i, n, (msg.drop (i * 450)).take 450⟩
def splitR (id : UInt64) (msg : List UInt8) : List Pt × Int :=
  if (countR msg.length).2 ≠ 0 then ([], (countR msg.length).2) else ((List.range (countR msg.length).1.toNat).map (partAt id msg (countR msg.length).1.toNat), 0)
theorem count_ok {n : Nat} (h : (countR n).2 = 0) : ∃ m : Nat, (countR n).1 = m ∧ 1 ≤ m ∧ m ≤ 16 ∧ n ≤ m * 450 ∧ (m = 1 ∨ (m - 1) * 450 < n) ∧ n ≤ 7200 := by
  unfold countR at *
  split at h
  · simp at h
  · split at h
    · simp at h
    · rename_i h1 h2
      rw [if_neg h1, if_neg h2]
      refine ⟨(max 1 ((n + 449) / 450)), ?_, ?_⟩
      · simp only []; omega
      · omega


set_option maxRecDepth 100000 in
theorem frame_Count (n : Int) (w : World) :
    Ret Try.prog 51 [i64 n] w (fun v _ => v = .tuple #[i64 (countR n).1, i64 (countR n).2]) := by
  refine enter [] (Mem.nil _) Try.func51 rfl Try.ntmps51 rfl (fun X hX => ?_)
  have hw := hX.w0; subst hw
  refine G.seq <| G.reg <| W.q (sa rfl) rfl <| W.q (sa rfl) rfl <| W.nil <| G.seq <| G.blk <| G.seq <| G.reg <| W.q (mv rfl) rfl <| W.q (lt rfl rfl) rfl <| W.q (sa rfl) rfl <| W.nil <| G.cdd rfl (fun h1 => ?_) (fun h1 => ?_)
  · -- h1 True
    refine G.seq <| G.reg <| W.q (sa rfl) rfl <| W.q (sa rfl) rfl <| W.nil <| ret2 hX Try.results51 rfl rfl fun w hm => done rfl ?_ hm
    rw [countR, if_pos h1]
  · -- h1 False
    refine G.seq <| G.reg <| W.q (mv rfl) rfl <| W.q (gt rfl rfl) rfl <| W.q (sa rfl) rfl <| W.nil <| G.cdd rfl (fun h2 => ?_) (fun h2 => ?_)
    · -- h2 True
      refine G.seq <| G.reg <| W.q (sa rfl) rfl <| W.q (sa rfl) rfl <| W.nil <| ret2 hX Try.results51 rfl rfl fun w hm => done rfl ?_ hm
      rw [countR, if_neg h1, if_pos h2]
    · -- h2 False
      refine G.skip <| G.inb <| G.seq <| G.reg <| W.q (mv rfl) rfl <| W.q (ad rfl rfl (by omega)) rfl <| W.q (sb rfl rfl (by omega)) rfl <| W.q (qo rfl rfl (by omega) (by omega) (by omega)) rfl <| W.q (mx rfl rfl) rfl <| W.q (sa rfl) rfl <| W.q (sa rfl) rfl <| W.nil <| ret2 hX Try.results51 rfl rfl fun w hm => done rfl ?_ hm
      rw [countR, if_neg h1, if_neg h2]
      rw [show n + 450 - 1 = n + 449 by omega]


set_option maxRecDepth 100000 in
theorem frame_Split (id : UInt64) (a : Option Addr) (cap : Nat) (msg : List UInt8) (w : World) (hl : RdL w a (B msg)) (hb : msg.length ≤ 140737488351232) (hcap : msg.length ≤ cap) :
    Ret Try.prog 26 [u64 id, .slice a msg.length cap] w (fun v J => ∃ v1, NewPP (splitR id msg).1 v1 J ∧ v = .tuple #[v1, i64 (splitR id msg).2]) := by
  refine enter [] (Mem.nil _) Try.func26 rfl Try.ntmps26 rfl (fun X hX => ?_)
  have hw := hX.w0; subst hw
  refine G.seq <| G.reg <| W.q (sa rfl) rfl <| W.q (sa rfl) rfl <| W.nil <| G.seq <| G.reg <| W.q (mv rfl) rfl <| W.q (ln Try.esl22 rfl) rfl <| W.fv Try.ca51 rfl (fun w hm => frame_Count msg.length w) rfl <| W.q (mv rfl) rfl <| W.q (ex rfl rfl) rfl <| W.q (ex rfl rfl) rfl <| W.q (sa rfl) rfl <| W.q (sa rfl) rfl <| W.nil <| G.seq <| G.seq <| G.reg <| W.q (mv rfl) rfl <| W.q (ne rfl rfl) rfl <| W.nil <| G.cdd rfl (fun h1 => ?_) (fun h1 => ?_)
  · -- h1 True
    refine G.seq <| G.reg <| W.q (mv rfl) rfl <| W.q (sa rfl) rfl <| W.q (sa rfl) rfl <| W.nil <| ret2 hX Try.results26 rfl rfl fun w hm => done rfl ⟨_, ⟨none, 0, [], ?_, rfl, rfl⟩, ?_⟩ (hm.slNil 66 5)
    all_goals have e : splitR id msg = ([], (countR msg.length).2) := by rw [splitR, if_pos h1]
    all_goals rw [e]
    all_goals rfl
  · -- h1 False
    obtain ⟨m, hcm, h1m, hm16, hlen, hlast, _⟩ := count_ok (n := msg.length) (Classical.byContradiction h1)
    have hsp : splitR id msg = ((List.range m).map (partAt id msg m), 0) := by rw [splitR, if_neg h1, hcm]; rfl
    rw [hcm]
    refine G.skip <| G.seq <| G.reg <| W.q (sa rfl) rfl <| W.nil <| G.seq <| G.seq <| G.reg <| W.q (mv rfl) rfl <| W.q (mv rfl) rfl <| W.nil <| G.blk <| G.loop4 (α := Nat) (β := Option Addr) (γ := Nat) (δ := List Pp) (fun k a1 c1 ps => k ≤ m ∧ ps.length = k ∧ ps.map (·.1) = (List.range k).map (partAt id msg m)) (fun k a1 c1 ps => [(8, .slice a1 ps.length c1), (21, i64 k)]) (fun k a1 c1 ps => [sl a1 ps.length c1 66 5 (ps.flatMap ppC)] ++ ps.map ppI) (fun k a1 c1 ps => m - k) [(0, _), (1, _), (6, _), (20, _)] [] 0 none 0 [] ⟨by omega, rfl, rfl⟩ (Sub.cons rfl <| Sub.cons rfl <| Sub.cons rfl <| Sub.cons rfl <| Sub.cons rfl <| Sub.cons rfl <| Sub.nil _) (fun w hm => hm.slNil 66 5) (fun k a1 c1 ps hk ih => ?_)
    refine G.seq <| G.reg <| W.q (lt rfl rfl) rfl <| W.nil <| G.seq <| G.cdd rfl (fun h2 => ?_) (fun h2 => ?_)
    · -- h2 True
      have hlo : k * 450 ≤ msg.length := by omega
      have e1 : ((k : Int) * 450).toNat = k * 450 := by omega
      have hrd : RdL X.w0 (slA a ((k : Int) * 450).toNat cap 1) (B ((msg.drop (k * 450)).take 450)) := by rw [e1]; exact hl.subB (k * 450) 450 cap hcap
      have hN : ∀ L, allNew L = true → allNew (L ++ (([sl a1 ps.length c1 66 5 (ps.flatMap ppC)] ++ ps.map ppI) ++ [])) = true := fun L hL => allNew_append hL (allNew_append (allNew_append rfl (ppI_new ps)) rfl)
      refine G.skip <| G.seq <| G.blk <| G.seq <| G.reg <| W.q (mv rfl) rfl <| W.q (sa rfl) rfl <| W.nil <| G.seq <| G.reg <| W.q (mv rfl) rfl <| W.q (mv rfl) rfl <| W.q (ml rfl rfl (by omega)) rfl <| W.q (mv rfl) rfl <| W.q (ln Try.esl22 rfl) rfl <| W.q (mv rfl) rfl <| W.q (ad rfl rfl (by omega)) rfl <| W.q (ml rfl rfl (by omega)) rfl <| W.q (mn rfl rfl) rfl <| W.q (slh Try.esl22 rfl rfl rfl (by omega) (by omega) (by omega)) rfl <| W.q (sa rfl) rfl <| W.nil <| G.reg <| W.q (mv rfl) rfl <| W.q (mv rfl) rfl <| W.q (mv rfl) rfl <| W.q (mv rfl) rfl <| W.q (mv rfl) rfl <| W.fn Try.ca57 rfl (fun w hm => bytes_Clonex (bs := (msg.drop (k * 450)).take 450) (hm.rd (hN [] rfl) hrd) (by simp; omega) (by simp; omega)) rfl fun v J hv hJ => ?_
      obtain ⟨a2, c2, rfl, rfl⟩ := hv
      refine W.q (bld (cs := [_, _, _, _, _]) Try.stp66 rfl rfl) rfl <| W.bs (cs := [_, _, _, _, _]) Try.underlying57 Try.sz66 Try.zrl66 rfl rfl rfl rfl fun b1 => W.ap (news := [_, _, _, _, _]) Try.underlying57 Try.underlying57 Try.sz66 Try.zln66 Try.by66 rfl rfl (fun _ _ => (.tl <| .tl <| .hd)) (RdS.row .hd) rfl (by simp [Value.oneCell']) (by simp) (by omega) (by omega) rfl fun a3 c3 => W.q (sa rfl) rfl <| W.nil <| G.inb <| G.reg <| W.q (ad rfl rfl (by omega)) rfl <| W.q (mv rfl) rfl <| W.nil <| (ih (k + 1) a3 c3 (ps ++ [(partAt id msg m k, a2, c2)]) ⟨by omega, by simp; omega, by rw [List.range_succ, List.map_append, List.map_append, hk.2.2]; rfl⟩ (by omega)).weak (Sub.co rfl ?_ <| Sub.cons rfl <| Sub.cons rfl <| Sub.cons rfl <| Sub.cons rfl <| Sub.cons rfl <| Sub.nil _) (fun w hm => ent_pp ps (partAt id msg m k, a2, c2) [] (Dr.ent (.drop rfl .rfl) w hm))
      all_goals clear ih
      · show Value.slice _ _ _ = _; rw [List.length_append]; rfl
    · -- h2 False
      refine G.exit rfl <| G.seq <| G.reg <| W.q (mv rfl) rfl <| W.q (sa rfl) rfl <| W.q (sa rfl) rfl <| W.nil <| ret2 hX Try.results26 rfl rfl fun w hm => done (H := sl a1 ps.length c1 66 5 (ps.flatMap ppC) :: ps.map ppI) (allNew_append (H := [_]) rfl (ppI_new ps)) ⟨_, ⟨a1, c1, ps, ?_, rfl, rfl⟩, ?_⟩ (by simpa using hm)
      all_goals rw [hsp]
      rw [hk.2.2, show k = m by omega]


end Go.Proofs.Ytjalojbihpdghaa
