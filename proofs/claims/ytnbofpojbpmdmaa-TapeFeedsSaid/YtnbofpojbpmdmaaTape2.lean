/- A tape's draws, in the document; lists of pieces compared; bytes spoilt. -/
import Derived.Test.YtnbofpojbpmdmaaTape1
namespace Go.Proofs.Ytnbofpojbpmdmaa
open Go Go.Eng
set_option linter.unusedVariables false

theorem RdL.sub {w : World} {a : Option Addr} {bs : List UInt8} (h : RdL w a (B bs)) (l n cap : Nat) (hl : bs.length ≤ cap) : RdL w (slA a l cap 1) (B ((bs.drop l).take n)) := by
  have := (h.slA (l := l) (cap := cap) (s := 1) (by simp; omega)).take n
  simpa [B, List.map_take, List.map_drop] using this
theorem ent_bb0 {w0 w : World} {a : Option Addr} {cap : Nat} (ps : List Pc) (p : Pc) (H : List It) (hm : Mem w0 w (pcI p :: sl a (ps.length + 1) cap 46 1 (ps.map pcV ++ [pcV p]) :: (ps.map pcI ++ H))) :
    Mem w0 w (sl a (ps ++ [p]).length cap 46 1 ((ps ++ [p]).map pcV) :: ((ps ++ [p]).map pcI ++ H)) := by
  rw [List.length_append, List.map_append, List.map_append, List.append_assoc]
  exact hm.perm ((List.Perm.swap _ _ _).trans (.cons _ List.perm_middle.symm))
/-- Lists of pieces that are read. -/
def RdBB (w : World) (a : Option Addr) (ps : List Pc) : Prop := RdL w a (ps.map pcV) ∧ ∀ p ∈ ps, RdL w p.1 (B p.2.2) ∧ p.2.2.length ≤ 140737488351232


set_option maxRecDepth 100000 in
theorem ref08_Draws (a : Option Addr) (cap : Nat) (bs : List UInt8) (w : World) (hl : RdL w a (B bs)) (hb : bs.length ≤ 140737488351232) (hcap : bs.length ≤ cap) (at_ : Nat) (hat : at_ ≤ bs.length) (qa : Option Addr) (scap : Nat) (sizes : List Int) (hs : RdL w qa (sizes.map i64)) (hn : ∀ n ∈ sizes, n ≤ 9223372036854775807) (hsl : sizes.length * 24 ≤ 140737488351232) :
    Ret Try.prog 26 [.slice a bs.length cap, i64 at_, .slice qa sizes.length scap] w (fun v J => ∃ v1, NewBB (drawsR bs at_ sizes).1 v1 J ∧ v = .tuple #[v1, i64 (drawsR bs at_ sizes).2.2, i64 (drawsR bs at_ sizes).2.1]) := by
  refine enter [] (Mem.nil _) Try.func26 rfl Try.ntmps26 rfl (fun X hX => ?_)
  have hw := hX.w0; subst hw
  have hu0 : upTo sizes 0 = 0 := rfl
  refine G.seq <| G.reg <| W.q (sa rfl) rfl <| W.q (sa rfl) rfl <| W.q (sa rfl) rfl <| W.nil <| G.seq <| G.seq <| G.reg <| W.q (sa rfl) rfl <| W.nil <| G.blk <| G.loop1 (α := Nat) (fun k => k ≤ sizes.length ∧ ∀ n ∈ sizes.take k, ¬ n < 0) (fun k => [(9, i64 k)]) (fun k => []) (fun k => sizes.length - k) [(0, _), (1, _), (2, _)] _ 0 (by simp) (Sub.cons rfl <| Sub.cons rfl <| Sub.cons rfl <| Sub.cons rfl <| Sub.nil _) .rfl (fun k hk ih => ?_)
  refine G.seq <| G.seq <| G.reg <| W.q (mv rfl) rfl <| W.q (mv rfl) rfl <| W.q (ln Try.esl40 rfl) rfl <| W.q (lt rfl rfl) rfl <| W.nil <| G.cdd rfl (fun h1 => ?_) (fun h1 => ?_)
  · -- h1 True
    have h1' : k < sizes.length := by omega
    obtain ⟨zb, zo, rfl, hx⟩ := hs.at k h1'
    refine G.skip <| G.seq <| G.blk <| G.seq <| G.reg <| W.q (mv rfl) rfl <| W.q (mv rfl) rfl <| W.q (ia Try.esl40 rfl rfl (by omega) (by omega)) rfl <| W.q (ld Try.sc3 rfl (Cell.old rfl (by simpa using hx))) rfl <| W.q (lt rfl rfl) rfl <| W.nil <| G.cdd rfl (fun h2 => ?_) (fun h2 => ?_)
    · -- h2 True
      refine G.seq <| G.reg <| W.q (mv rfl) rfl <| W.q (sa rfl) rfl <| W.q (sa rfl) rfl <| W.q (sa rfl) rfl <| W.nil <| ret3 hX Try.results26 rfl rfl rfl fun w hm => done rfl ⟨_, ⟨none, 0, [], ?_, rfl, rfl⟩, ?_⟩ (hm.slNil 46 1)
      all_goals have e : drawsR bs at_ sizes = ([], 1, at_) := by rw [drawsR, if_pos ⟨_, List.getElem_mem h1', h2⟩]
      all_goals rw [e]
      all_goals rfl
    · -- h2 False
      refine G.skip <| G.inb <| G.reg <| W.q (mv rfl) rfl <| W.q (ad rfl rfl (by omega)) rfl <| W.q (sa rfl) rfl <| W.nil <| (ih (k + 1) ⟨by omega, neg_step hk.2 h1' h2⟩ (by omega)).weak (Sub.cons rfl <| Sub.cons rfl <| Sub.cons rfl <| Sub.cons rfl <| Sub.nil _) .rfl
  · -- h1 False
    have hneg : ∀ n ∈ sizes, ¬ n < 0 := by
      have := hk.2
      rwa [List.take_of_length_le (by omega)] at this
    refine G.exit rfl <| G.seq <| G.reg <| W.q (sa rfl) rfl <| W.nil <| G.seq <| G.reg <| W.q (mv rfl) rfl <| W.q (sa rfl) rfl <| W.nil <| G.seq <| G.seq <| G.reg <| W.q (sa rfl) rfl <| W.nil <| G.blk <| G.loop4 (α := Nat) (β := Option Addr) (γ := Nat) (δ := List Pc) (fun k a1 c1 ps => k ≤ sizes.length ∧ ps.length = k ∧ ps.map (fun p => p.2.2) = cuts bs at_ ((sizes.take k).map Int.toNat) ∧ at_ + upTo sizes k ≤ bs.length) (fun k a1 c1 ps => [(10, .slice a1 ps.length c1), (11, i64 ((at_ + upTo sizes k : Nat) : Int)), (12, i64 k)]) (fun k a1 c1 ps => [sl a1 ps.length c1 46 1 (ps.map pcV)] ++ ps.map pcI) (fun k a1 c1 ps => sizes.length - k) [(0, _), (1, _), (2, _)] [] 0 none 0 [] ⟨by omega, rfl, rfl, by rw [hu0]; exact hat⟩ (Sub.cons rfl <| Sub.co rfl ?_ <| Sub.cons rfl <| Sub.cons rfl <| Sub.cons rfl <| Sub.cons rfl <| Sub.nil _) (fun w hm => hm.slNil 46 1) (fun k a1 c1 ps hk ih2 => ?_)
    · rw [hu0]; simp
    refine G.seq <| G.seq <| G.reg <| W.q (mv rfl) rfl <| W.q (mv rfl) rfl <| W.q (ln Try.esl40 rfl) rfl <| W.q (lt rfl rfl) rfl <| W.nil <| G.cdd rfl (fun h3 => ?_) (fun h3 => ?_)
    · -- h3 True
      have h3' : k < sizes.length := by omega
      obtain ⟨zb, zo, rfl, hx⟩ := hs.at k h3'
      have hneg1 := hneg _ (List.getElem_mem h3')
      have hle := hn _ (List.getElem_mem h3')
      have hup := upTo_succ sizes k h3'
      have hmo := upTo_mono sizes (k + 1)
      have hN : ∀ L, allNew L = true → allNew (L ++ (([sl a1 ps.length c1 46 1 (ps.map pcV)] ++ ps.map pcI) ++ [])) = true := fun L hL => allNew_append hL (allNew_append (allNew_append rfl (pcI_new ps)) rfl)
      generalize hsk : sizes[k] = sk at hx hle hup hneg1
      refine G.skip <| G.seq <| G.blk <| G.seq <| G.seq <| G.reg <| W.q (mv rfl) rfl <| W.q (mv rfl) rfl <| W.q (ia Try.esl40 rfl rfl (by omega) (by omega)) rfl <| W.q (ld Try.sc3 rfl (Cell.old (hN [] rfl) (by simpa using hx))) rfl <| W.q (mv rfl) rfl <| W.q (ln Try.esl46 rfl) rfl <| W.q (mv rfl) rfl <| W.q (sb rfl rfl (by omega)) rfl <| W.q (gt rfl rfl) rfl <| W.nil <| G.cdd rfl (fun h4 => ?_) (fun h4 => ?_)
      · -- h4 True
        refine G.seq <| G.reg <| W.q (mv rfl) rfl <| W.q (sa rfl) rfl <| W.q (sa rfl) rfl <| W.q (sa rfl) rfl <| W.nil <| ret3 hX Try.results26 rfl rfl rfl fun w hm => done rfl ⟨_, ⟨none, 0, [], ?_, rfl, rfl⟩, ?_⟩ (Mem.slNil ((hm.sublist (H' := []) (by simp) (fun it hi => .inr (List.all_eq_true.1 (hN [] rfl) it (by simpa using hi))))) 46 1)
        all_goals have e : drawsR bs at_ sizes = ([], 8, at_) := by rw [drawsR, if_neg (by rintro ⟨n, h6, h7⟩; exact hneg n h6 h7), if_pos (by have := hneg1; omega)]
        all_goals rw [e]
        all_goals rfl
      · -- h4 False
        have hlen : (((at_ + upTo sizes k : Nat) : Int) + sk).toNat - ((at_ + upTo sizes k : Nat) : Int).toNat = ((bs.drop (at_ + upTo sizes k)).take sk.toNat).length := by simp; omega
        have hsk0 : sk = (sk.toNat : Int) := by omega
        refine G.skip <| G.seq <| G.reg <| W.q (mv rfl) rfl <| W.q (mv rfl) rfl <| W.q (mv rfl) rfl <| W.q (mv rfl) rfl <| W.q (mv rfl) rfl <| W.q (mv rfl) rfl <| W.q (ia Try.esl40 rfl rfl (by omega) (by omega)) rfl <| W.q (ld Try.sc3 rfl (Cell.old (hN [] rfl) (by simpa using hx))) rfl <| W.q (ad rfl rfl (by omega)) rfl <| W.q (slh Try.esl46 rfl rfl rfl (by omega) (by omega) (by omega)) rfl <| ?_
        rw [hlen]
        refine W.fn Try.ca23 rfl (fun w hm => ref01_Copy _ _ ((bs.drop (at_ + upTo sizes k)).take sk.toNat) w (RdL.sub (hm.rd (hN [] rfl) hl) _ _ _ hcap) (by simp; omega)) rfl fun v J hv hJ => ?_
        obtain ⟨a2, c2, rfl, rfl⟩ := hv
        refine W.bs (cs := [_]) Try.underlying57 Try.sz46 Try.zrl46 rfl rfl rfl rfl fun b1 => W.ap Try.underlying57 Try.underlying57 Try.sz46 Try.zln46 Try.by46 rfl rfl (fun _ _ => (.tl <| .tl <| .hd)) (RdS.row .hd) rfl rfl (by simp) (by omega) (by omega) rfl fun a3 c3 => W.q (sa rfl) rfl <| W.nil <| G.reg <| W.q (mv rfl) rfl <| W.q (mv rfl) rfl <| W.q (mv rfl) rfl <| W.q (ia Try.esl40 rfl rfl (by omega) (by omega)) rfl <| W.q (ld Try.sc3 rfl (Cell.old (allNew_append (H := [_, _, _]) rfl (allNew_append (pcI_new ps) (J := []) rfl)) (by simpa using hx))) rfl <| W.q (ad rfl rfl (by omega)) rfl <| W.q (sa rfl) rfl <| W.nil <| G.inb <| G.reg <| W.q (mv rfl) rfl <| W.q (ad rfl rfl (by omega)) rfl <| W.q (sa rfl) rfl <| W.nil <| (ih2 (k + 1) a3 c3 (ps ++ [(a2, c2, (bs.drop (at_ + upTo sizes k)).take sk.toNat)]) ⟨by omega, by simp; omega, by rw [List.map_append, hk.2.2.1, List.take_succ_eq_append_getElem h3', List.map_append, hsk]; simp only [List.map_cons, List.map_nil]; rw [cuts_snoc]; rfl, by omega⟩ (by omega)).weak (Sub.co rfl ?_ <| Sub.co rfl ?_ <| Sub.cons rfl <| Sub.cons rfl <| Sub.cons rfl <| Sub.cons rfl <| Sub.nil _) (fun w hm => ent_bb0 ps _ [] (Dr.ent (.drop rfl .rfl) w hm))
        all_goals clear ih2
        · show Value.slice _ _ _ = _; rw [List.length_append]; rfl
        · show i64 _ = i64 _; congr 1; omega
    · -- h3 False
      refine G.exit rfl <| G.seq <| G.reg <| W.q (mv rfl) rfl <| W.q (mv rfl) rfl <| W.q (sa rfl) rfl <| W.q (sa rfl) rfl <| W.q (sa rfl) rfl <| W.nil <| ret3 hX Try.results26 rfl rfl rfl fun w hm => done (H := sl a1 ps.length c1 46 1 (ps.map pcV) :: ps.map pcI) (allNew_append (H := [_]) rfl (pcI_new ps)) ⟨_, ⟨a1, c1, ps, ?_, rfl, rfl⟩, ?_⟩ (by simpa using hm)
      all_goals have hkl : k = sizes.length := by omega
      all_goals have e : drawsR bs at_ sizes = (cuts bs at_ (sizes.map Int.toNat), 0, at_ + upTo sizes sizes.length) := by rw [drawsR, if_neg (by rintro ⟨n, h6, h7⟩; exact hneg n h6 h7), if_neg (by rw [← hkl]; omega)]
      all_goals rw [e]
      · rw [hk.2.2.1, List.take_of_length_le (by omega)]
      · simp only []; rw [hkl]


set_option maxRecDepth 100000 in
theorem ref01_Over (w0 : World) (H : List It) (a : Option Addr) (cap T : Nat) (bs : List UInt8) (hb : bs.length ≤ 140737488351232) :
    RetF Try.prog 25 [.slice a bs.length cap] w0 H [sl a bs.length cap T 1 (B bs)] (fun _ P => ∃ bs' : List UInt8, bs'.length = bs.length ∧ P = [sl a bs.length cap T 1 (B bs')]) := by
  refine enterF Try.func25 rfl Try.ntmps25 rfl (fun X hX => ?_)
  have hw := hX.w0; subst hw
  refine G.seq <| G.reg <| W.q (sa rfl) rfl <| W.nil <| G.blk <| G.loop2 (α := Nat) (β := List UInt8) (fun k cs => k ≤ bs.length ∧ cs.length = bs.length) (fun k cs => [(2, i64 k)]) (fun k cs => [sl a bs.length cap T 1 (B cs)]) (fun k cs => bs.length - k) [(0, _)] H 0 bs ⟨by omega, rfl⟩ (Sub.cons rfl <| Sub.cons rfl <| Sub.nil _) .rfl (fun k cs hk ih => ?_)
  refine G.seq <| G.seq <| G.reg <| W.q (mv rfl) rfl <| W.q (mv rfl) rfl <| W.q (ln Try.esl46 rfl) rfl <| W.q (lt rfl rfl) rfl <| W.nil <| G.cdd rfl (fun h1 => ?_) (fun h1 => ?_)
  · -- h1 True
    have h1' : k < cs.length := by omega
    generalize hck : cs[k] = ck
    refine G.slAt (a := a) (m := bs.length) (cap := cap) (E := T) (s := 1) (xs := B cs) (by simp) (fun q1 q2 q3 q4 => ?_)
    rcases q4 with ⟨_, _, q4⟩ | ⟨g, rfl⟩
    · omega
    have hx : Cell X.w0 (sl (some ⟨g, 0, none⟩) bs.length cap T 1 (B cs) :: H) ⟨g, 0 + k, none⟩ (u8 ck) := Cells.sl (m := bs.length) (cap := cap) (E := T) (s := 1) (xs := B cs) List.mem_cons_self k _ (by simp [B, h1', hck])
    refine G.skip <| G.seq <| G.blk <| G.reg <| W.q (mv rfl) rfl <| W.q (mv rfl) rfl <| W.q (mv rfl) rfl <| W.q (mv rfl) rfl <| W.q (ia Try.esl46 rfl rfl (by omega) (by omega)) rfl <| W.q (ld Try.sc5 rfl (by simpa using hx)) rfl <| W.q (xor_u8 (b := 90) rfl rfl) rfl <| W.q (ia Try.esl46 rfl rfl (by omega) (by omega)) rfl <| W.stS (xs' := B (cs.set k (ck ^^^ 90))) Try.sz5 rfl rfl rfl rfl rfl .hd (by simp; omega) (by rw [Nat.zero_add, Nat.mul_one]; simp only [B, List.map_set]; exact setAt_one _ _ _ (by simpa using h1')) <| W.nil <| G.inb <| G.reg <| W.q (mv rfl) rfl <| W.q (ad rfl rfl (by omega)) rfl <| W.q (sa rfl) rfl <| W.nil <| (ih (k + 1) (cs.set k (ck ^^^ 90)) ⟨by omega, by simp; omega⟩ (by omega)).weak (Sub.cons rfl <| Sub.cons rfl <| Sub.nil _) .rfl
  · -- h1 False
    refine G.exit rfl <| ret0 hX Try.results25 fun w hm => doneF rfl ?_ hm .rfl
    refine ⟨cs, hk.2, rfl⟩


set_option maxRecDepth 100000 in
theorem ref01_Equals (w : World) (a : Option Addr) (cap : Nat) (ps : List Pc) (hl : RdBB w a ps) (a2 : Option Addr) (cap2 : Nat) (qs : List Pc) (hl2 : RdBB w a2 qs) (hb : ps.length ≤ 140737488351232) (hb2 : qs.length ≤ 140737488351232) :
    Ret Try.prog 30 [.slice a ps.length cap, .slice a2 qs.length cap2] w (fun v _ => v = .bool (decide (ps.map (fun p => p.2.2) = qs.map (fun p => p.2.2)))) := by
  refine enter [] (Mem.nil _) Try.func30 rfl Try.ntmps30 rfl (fun X hX => ?_)
  have hw := hX.w0; subst hw
  refine G.seq <| G.reg <| W.q (sa rfl) rfl <| W.nil <| G.seq <| G.seq <| G.reg <| W.q (mv rfl) rfl <| W.q (ln Try.esl57 rfl) rfl <| W.q (mv rfl) rfl <| W.q (ln Try.esl57 rfl) rfl <| W.q (ne rfl rfl) rfl <| W.nil <| G.cdd rfl (fun h1 => ?_) (fun h1 => ?_)
  · -- h1 True
    refine G.seq <| G.reg <| W.q (sa rfl) rfl <| W.nil <| ret1 hX Try.results30 rfl fun w hm => done rfl ?_ hm
    rw [decide_eq_false]
    intro h
    exact h1 (by have := congrArg List.length h; simp at this; omega)
  · -- h1 False
    have h1' : ps.length = qs.length := by omega
    refine G.skip <| G.seq <| G.seq <| G.reg <| W.q (sa rfl) rfl <| W.nil <| G.blk <| G.loop1 (α := Nat) (fun k => k ≤ ps.length ∧ (ps.take k).map (fun p => p.2.2) = (qs.take k).map (fun p => p.2.2)) (fun k => [(5, i64 k)]) (fun k => []) (fun k => ps.length - k) [(0, _), (1, _)] _ 0 (by simp) (Sub.cons rfl <| Sub.cons rfl <| Sub.cons rfl <| Sub.nil _) .rfl (fun k hk ih => ?_)
    refine G.seq <| G.seq <| G.reg <| W.q (mv rfl) rfl <| W.q (mv rfl) rfl <| W.q (ln Try.esl57 rfl) rfl <| W.q (lt rfl rfl) rfl <| W.nil <| G.cdd rfl (fun h2 => ?_) (fun h2 => ?_)
    · -- h2 True
      have h2' : k < ps.length := by omega
      have h2'' : k < qs.length := by omega
      obtain ⟨b, o, rfl, hc⟩ := hl.1.at k h2'
      obtain ⟨b', o', rfl, hc'⟩ := hl2.1.at k h2''
      have hx := hl.2 _ (List.getElem_mem h2')
      have hy := hl2.2 _ (List.getElem_mem h2'')
      generalize hp : ps[k] = p at hc hx
      generalize hq : qs[k] = q at hc' hy
      obtain ⟨p1, p2, p3⟩ := p
      obtain ⟨q1, q2, q3⟩ := q
      simp only [pcV] at hc hc' hx hy
      refine G.skip <| G.seq <| G.blk <| G.seq <| G.regq Try.mixed (by kernel_rfl) <| W.q (mv rfl) rfl <| W.q (mv rfl) rfl <| W.q (ia Try.esl57 rfl rfl (by omega) (by omega)) rfl <| W.q (ld Try.sc46 rfl (Cell.old rfl (by simpa using hc))) rfl <| W.q (mv rfl) rfl <| W.q (mv rfl) rfl <| W.q (ia Try.esl57 rfl rfl (by omega) (by omega)) rfl <| W.q (ld Try.sc46 rfl (Cell.old rfl (by simpa using hc'))) rfl <| W.fvq Try.ca28 rfl (fun w hm => ref01_Equal p1 p2 p3 w (hm.rd rfl hx.1) hx.2 q1 q2 q3 (hm.rd rfl hy.1)) rfl <| W.q (nt rfl) rfl <| W.nilq <| G.cdn rfl (fun h3 => ?_) (fun h3 => ?_)
      · -- h3 True
        refine G.seq <| G.reg <| W.q (sa rfl) rfl <| W.nil <| ret1 hX Try.results30 rfl fun w hm => done rfl ?_ hm
        rw [decide_eq_false]
        intro h
        have e1 : (ps.map (fun p => p.2.2))[k]? = some p3 := by rw [List.getElem?_map, List.getElem?_eq_getElem h2', hp]; rfl
        have e2 : (qs.map (fun p => p.2.2))[k]? = some q3 := by rw [List.getElem?_map, List.getElem?_eq_getElem h2'', hq]; rfl
        rw [h, e2] at e1
        simp at h3 e1
        exact h3 e1.symm
      · -- h3 False
        refine G.skip <| G.inb <| G.reg <| W.q (mv rfl) rfl <| W.q (ad rfl rfl (by omega)) rfl <| W.q (sa rfl) rfl <| W.nil <| (ih (k + 1) ⟨by omega, by rw [List.take_succ_eq_append_getElem h2', List.take_succ_eq_append_getElem h2'', List.map_append, List.map_append, hk.2, List.map_cons, List.map_cons, hp, hq, of_decide_eq_true h3]⟩ (by omega)).weak (Sub.cons rfl <| Sub.cons rfl <| Sub.cons rfl <| Sub.nil _) .rfl
    · -- h2 False
      refine G.exit rfl <| G.seq <| G.reg <| W.q (sa rfl) rfl <| W.nil <| ret1 hX Try.results30 rfl fun w hm => done rfl ?_ hm
      rw [decide_eq_true]
      have := hk.2
      rwa [List.take_of_length_le (by omega), List.take_of_length_le (by omega)] at this
end Go.Proofs.Ytnbofpojbpmdmaa
