/- A tape's draws. -/
import Derived.Test.YtnbofpojbpmdmaaCursor
namespace Go.Proofs.Ytnbofpojbpmdmaa
open Go Go.Eng
set_option linter.unusedVariables false

def drawR (bs : List UInt8) (at_ : Nat) (n : Int) : List UInt8 × Int × Nat := ((takeR bs at_ n).1, (if (takeR bs at_ n).2.1 = 2 then 8 else (takeR bs at_ n).2.1), (takeR bs at_ n).2.2)

/-- Pieces of memory of their own: address, capacity, bytes. -/
abbrev Pc := Option Addr × Nat × List UInt8
def pcV (p : Pc) : Value := .slice p.1 p.2.2.length p.2.1
def pcI (p : Pc) : It := sl p.1 p.2.2.length p.2.1 5 1 (B p.2.2)
theorem pcI_new (ps : List Pc) : allNew (ps.map pcI) = true := by simp [allNew, pcI, sl]
def NewBB (xss : List (List UInt8)) (v : Value) (J : List It) : Prop :=
  ∃ (a : Option Addr) (cap : Nat) (ps : List Pc), ps.map (fun p : Pc => p.2.2) = xss ∧ v = .slice a ps.length cap ∧ J = sl a ps.length cap 46 1 (ps.map pcV) :: ps.map pcI
theorem ent_bb {w0 w : World} {c : It} {a : Option Addr} {cap : Nat} (ps : List Pc) (p : Pc) (H : List It) (hm : Mem w0 w (c :: pcI p :: sl a (ps.length + 1) cap 46 1 (ps.map pcV ++ [pcV p]) :: (ps.map pcI ++ H))) :
    Mem w0 w (c :: sl a (ps ++ [p]).length cap 46 1 ((ps ++ [p]).map pcV) :: ((ps ++ [p]).map pcI ++ H)) := by
  rw [List.length_append, List.map_append, List.map_append, List.append_assoc]
  exact hm.perm (.cons _ ((List.Perm.swap _ _ _).trans (.cons _ List.perm_middle.symm)))
def cuts (bs : List UInt8) : Nat → List Nat → List (List UInt8)
  | _, [] => []
  | at_, n :: ns => (bs.drop at_).take n :: cuts bs (at_ + n) ns
theorem cuts_snoc (bs : List UInt8) (n : Nat) : ∀ (ns : List Nat) (at_ : Nat), cuts bs at_ (ns ++ [n]) = cuts bs at_ ns ++ [(bs.drop (at_ + ns.sum)).take n]
  | [], at_ => by simp [cuts]
  | m :: ns, at_ => by simp [cuts, cuts_snoc bs n ns, Nat.add_assoc]
theorem cuts_len (bs : List UInt8) : ∀ (ns : List Nat) (at_ : Nat), (cuts bs at_ ns).length = ns.length
  | [], _ => rfl
  | m :: ns, at_ => by simp [cuts, cuts_len bs ns]
/-- How far k sizes reach. -/
def upTo (sizes : List Int) (k : Nat) : Nat := ((sizes.take k).map Int.toNat).sum
theorem upTo_succ (sizes : List Int) (k : Nat) (h : k < sizes.length) : upTo sizes (k + 1) = upTo sizes k + sizes[k].toNat := by
  unfold upTo; rw [List.take_succ_eq_append_getElem h]
  simp only [List.map_append, List.sum_append, List.map_cons, List.map_nil, List.sum_cons, List.sum_nil, Nat.add_zero]
theorem upTo_mono (sizes : List Int) (k : Nat) : upTo sizes k ≤ upTo sizes sizes.length := by
  unfold upTo
  rw [List.take_length]
  have h := congrArg (fun l => (l.map Int.toNat).sum) (List.take_append_drop k sizes)
  simp only [List.map_append, List.sum_append] at h
  omega
def drawsR (bs : List UInt8) (at_ : Nat) (sizes : List Int) : List (List UInt8) × Int × Nat :=
  if ∃ n ∈ sizes, n < 0 then ([], 1, at_) else if bs.length < at_ + upTo sizes sizes.length then ([], 8, at_) else (cuts bs at_ (sizes.map Int.toNat), 0, at_ + upTo sizes sizes.length)
theorem neg_step {sizes : List Int} {k : Nat} (hk : ∀ n ∈ sizes.take k, ¬ n < 0) (h : k < sizes.length) (h2 : ¬ sizes[k] < 0) : ∀ n ∈ sizes.take (k + 1), ¬ n < 0 := by
  intro x hx
  rw [List.take_succ_eq_append_getElem h] at hx
  rcases List.mem_append.1 hx with hx | hx
  · exact hk x hx
  · simp at hx; subst hx; exact h2


set_option maxRecDepth 100000 in
theorem codec_NewCursor (a : Option Addr) (cap : Nat) (bs : List UInt8) (w : World) (hl : RdL w a (B bs)) (hb : bs.length ≤ 140737488351232) :
    Ret Try.prog 69 [.slice a bs.length cap] w (fun v J => ∃ b a' c', v = ptr b 0 ∧ J = [nb b [.slice a' bs.length c', i64 0] 49, sl a' bs.length c' 5 1 (B bs)]) := by
  refine enter [] (Mem.nil _) Try.func69 rfl Try.ntmps69 rfl (fun X hX => ?_)
  have hw := hX.w0; subst hw
  refine G.seq <| G.reg <| W.q (sa rfl) rfl <| W.nil <| G.seq <| G.reg <| W.q (mv rfl) rfl <| W.fn Try.ca71 rfl (fun w hm => bytes_Clone a cap bs w (hm.rd rfl hl) hb) rfl fun v J hv hJ => ?_
  obtain ⟨a1, c1, rfl, rfl⟩ := hv
  refine W.q (bld (cs := [_, _]) Try.stp49 rfl rfl) rfl <| W.bxa rfl rfl fun b1 => W.q (sa rfl) rfl <| W.nil <| ret1 hX Try.results69 rfl fun w hm => done rfl ⟨b1, a1, c1, rfl, rfl⟩ hm


set_option maxRecDepth 100000 in
theorem tape_NewTape (a : Option Addr) (cap : Nat) (bs : List UInt8) (w : World) (hl : RdL w a (B bs)) (hb : bs.length ≤ 140737488351232) :
    Ret Try.prog 24 [.slice a bs.length cap] w (fun v J => ∃ b a' c', v = ptr b 0 ∧ J = [nb b [.slice a' bs.length c', i64 0] 51, sl a' bs.length c' 5 1 (B bs)]) := by
  refine enter [] (Mem.nil _) Try.func24 rfl Try.ntmps24 rfl (fun X hX => ?_)
  have hw := hX.w0; subst hw
  refine G.seq <| G.reg <| W.q (sa rfl) rfl <| W.nil <| G.seq <| G.reg <| W.q (mv rfl) rfl <| W.fn Try.ca69 rfl (fun w hm => codec_NewCursor a cap bs w (hm.rd rfl hl) hb) rfl fun v J hv hJ => ?_
  obtain ⟨b0, a1, c1, rfl, rfl⟩ := hv
  refine W.q (ncp rfl) rfl <| W.q (lda Try.agg49 Try.sz49 rfl (Cells.whole .hd) rfl) rfl <| W.q (bld (cs := [_, _]) Try.stp51 rfl rfl) rfl <| W.bxa rfl rfl fun b1 => W.q (sa rfl) rfl <| W.nil <| ret1 hX Try.results24 rfl fun w hm => done (H := [nb b1 [.slice a1 bs.length c1, i64 0] 51, sl a1 bs.length c1 5 1 (B bs)]) rfl ⟨b1, a1, c1, rfl, rfl⟩ (Dr.ent (.keep <| .drop rfl <| .keep .rfl) w hm)


set_option maxRecDepth 100000 in
theorem tape_Draw (w0 : World) (H : List It) (hH : allNew H = true) (b o : Nat) (cs : List Value) (T : Nat) (a : Option Addr) (cap : Nat) (bs : List UInt8) (at_ : Nat) (hc0 : cs[o]? = some (.slice a bs.length cap)) (hc1 : cs[o + 1]? = some (i64 at_)) (hr : Rdf w0 H a (B bs)) (hb : bs.length ≤ 140737488351232) (hat : at_ ≤ bs.length) (hcap : bs.length ≤ cap) (n : Int) (hn : n ≤ 9223372036854775807) :
    RetF Try.prog 27 [ptr b o, i64 n] w0 H [nb b cs T] (fun v P => ∃ a' cap', v = .tuple #[.slice a' (drawR bs at_ n).1.length cap', i64 (drawR bs at_ n).2.1] ∧ P = [nb b (cs.set (o + 1) (i64 (drawR bs at_ n).2.2)) T, sl a' (drawR bs at_ n).1.length cap' 5 1 (B (drawR bs at_ n).1)]) := by
  refine enterF Try.func27 rfl Try.ntmps27 rfl (fun X hX => ?_)
  have hw := hX.w0; subst hw
  refine G.seq <| G.reg <| W.q (sa rfl) rfl <| W.q (sa rfl) rfl <| W.nil <| G.seq <| G.reg <| W.q (mv rfl) rfl <| W.q (ncp rfl) rfl <| W.q (fa Try.fof51_0 rfl) rfl <| W.q (mv rfl) rfl <| W.ff Try.ca70 rfl (Ent.perm (.refl _)) (cursor_Take X.w0 _ hH b o cs T a cap bs at_ hc0 hc1 hr hb hat hcap n hn) rfl rfl fun v J hv hJ => ?_
  obtain ⟨a1, c1, rfl, rfl⟩ := hv
  refine W.q (mv rfl) rfl <| W.q (ex rfl rfl) rfl <| W.q (ex rfl rfl) rfl <| W.q (sa rfl) rfl <| W.q (sa rfl) rfl <| W.nil <| G.seq <| G.seq <| G.reg <| W.q (mv rfl) rfl <| W.q (eq rfl rfl) rfl <| W.nil <| G.cdd rfl (fun h1 => ?_) (fun h1 => ?_)
  · -- h1 True
    refine G.reg <| W.q (sa rfl) rfl <| W.nil <| G.seq <| G.reg <| W.q (mv rfl) rfl <| W.q (mv rfl) rfl <| W.q (sa rfl) rfl <| W.q (sa rfl) rfl <| W.nil <| ret2 hX Try.results27 rfl rfl fun w hm => doneF (Pre' := [nb b (cs.set (o + 1) (i64 (takeR bs at_ n).2.2)) T, sl a1 (takeR bs at_ n).1.length c1 5 1 (B (takeR bs at_ n).1)]) rfl ⟨a1, c1, ?_, rfl⟩ hm .rfl
    simp only [drawR, h1, if_true]
  · -- h1 False
    refine G.skip <| G.seq <| G.reg <| W.q (mv rfl) rfl <| W.q (mv rfl) rfl <| W.q (sa rfl) rfl <| W.q (sa rfl) rfl <| W.nil <| ret2 hX Try.results27 rfl rfl fun w hm => doneF (Pre' := [nb b (cs.set (o + 1) (i64 (takeR bs at_ n).2.2)) T, sl a1 (takeR bs at_ n).1.length c1 5 1 (B (takeR bs at_ n).1)]) rfl ⟨a1, c1, ?_, rfl⟩ hm .rfl
    simp only [drawR, h1, if_false]


set_option maxRecDepth 100000 in
theorem tape_Draws (w0 : World) (H : List It) (hH : allNew H = true) (b o : Nat) (cs : List Value) (T : Nat) (a : Option Addr) (cap : Nat) (bs : List UInt8) (at_ : Nat) (hc0 : cs[o]? = some (.slice a bs.length cap)) (hc1 : cs[o + 1]? = some (i64 at_)) (hr : Rdf w0 H a (B bs)) (hb : bs.length ≤ 140737488351232) (hat : at_ ≤ bs.length) (hcap : bs.length ≤ cap) (qa : Option Addr) (scap : Nat) (sizes : List Int) (hs : Rdf w0 H qa (sizes.map i64)) (hn : ∀ n ∈ sizes, n ≤ 9223372036854775807) (hsl : sizes.length * 24 ≤ 140737488351232) :
    RetF Try.prog 29 [ptr b o, .slice qa sizes.length scap] w0 H [nb b cs T] (fun v P => ∃ v1 J, NewBB (drawsR bs at_ sizes).1 v1 J ∧ v = .tuple #[v1, i64 (drawsR bs at_ sizes).2.1] ∧ P = nb b (cs.set (o + 1) (i64 (drawsR bs at_ sizes).2.2)) T :: J) := by
  refine enterF Try.func29 rfl Try.ntmps29 rfl (fun X hX => ?_)
  have hw := hX.w0; subst hw
  have hu0 : upTo sizes 0 = 0 := rfl
  refine G.seq <| G.reg <| W.q (sa rfl) rfl <| W.q (sa rfl) rfl <| W.nil <| G.seq <| G.seq <| G.reg <| W.q (mv rfl) rfl <| W.q (ln Try.esl40 rfl) rfl <| W.q (mv rfl) rfl <| W.nil <| G.blk <| G.loop1 (α := Nat) (fun k => k ≤ sizes.length ∧ ∀ n ∈ sizes.take k, ¬ n < 0) (fun k => [(18, i64 k)]) (fun k => []) (fun k => sizes.length - k) [(0, _), (1, _), (16, _), (17, _)] _ 0 (by simp) (Sub.cons rfl <| Sub.cons rfl <| Sub.cons rfl <| Sub.cons rfl <| Sub.cons rfl <| Sub.nil _) .rfl (fun k hk ih => ?_)
  refine G.seq <| G.reg <| W.q (lt rfl rfl) rfl <| W.nil <| G.seq <| G.cdd rfl (fun h1 => ?_) (fun h1 => ?_)
  · -- h1 True
    have h1' : k < sizes.length := by omega
    have hsu : Rdf X.w0 (nb b cs T :: H) qa (sizes.map i64) := (hs.up rfl)
    refine G.rdA hsu (by simp; omega) (fun zb zo hsa => ?_)
    subst hsa
    have hx := Rdf.cellOf (i := k) (v := i64 sizes[k]) hsu (by simp [h1'])
    have hle := hn _ (List.getElem_mem h1')
    have hup := upTo_succ sizes k h1'
    have hmo := upTo_mono sizes (k + 1)
    
    refine G.skip <| G.seq <| G.blk <| G.seq <| G.reg <| W.q (ia Try.esl40 rfl rfl (by omega) (by omega)) rfl <| W.q (ld Try.sc3 rfl (by simpa using hx)) rfl <| W.q (sa rfl) rfl <| W.nil <| G.seq <| G.reg <| W.q (mv rfl) rfl <| W.q (lt rfl rfl) rfl <| W.nil <| G.cdd rfl (fun h2 => ?_) (fun h2 => ?_)
    · -- h2 True
      refine G.seq <| G.reg <| W.q (sa rfl) rfl <| W.q (sa rfl) rfl <| W.nil <| ret2 hX Try.results29 rfl rfl fun w hm => doneF (Pre' := [nb b cs T, sl none 0 0 46 1 []]) rfl ⟨_, [sl none 0 0 46 1 []], ⟨none, 0, [], ?_, rfl, rfl⟩, ?_, ?_⟩ (hm.slNil 46 1) (Ent.perm (.swap _ _ _))
      all_goals have e : drawsR bs at_ sizes = ([], 1, at_) := by rw [drawsR, if_pos ⟨_, List.getElem_mem h1', h2⟩]
      all_goals rw [e]
      · rfl
      · rfl
      · simp only []; rw [set_self hc1]
    · -- h2 False
      refine G.skip <| G.inb <| G.reg <| W.q (ad rfl rfl (by omega)) rfl <| W.q (mv rfl) rfl <| W.nil <| (ih (k + 1) ⟨by omega, neg_step hk.2 h1' h2⟩ (by omega)).weak (Sub.cons rfl <| Sub.cons rfl <| Sub.cons rfl <| Sub.cons rfl <| Sub.cons rfl <| Sub.nil _) .rfl
  · -- h1 False
    have hneg : ∀ n ∈ sizes, ¬ n < 0 := by
      have := hk.2
      rwa [List.take_of_length_le (by omega)] at this
    refine G.exit rfl <| G.seq <| G.reg <| W.q (mv rfl) rfl <| W.q (ncp rfl) rfl <| W.q (fa Try.fof51_0 rfl) rfl <| W.ff Try.ca22 rfl (Ent.perm (.refl _)) (cursor_Left X.w0 _ hH b o cs T a cap bs at_ hc0 hc1 hr hb hat hcap) rfl rfl fun v J hv hJ => ?_
    obtain ⟨rfl, rfl⟩ := hv
    refine W.q (sa rfl) rfl <| W.nil <| G.seq <| G.seq <| G.reg <| W.q (mv rfl) rfl <| W.q (ln Try.esl40 rfl) rfl <| W.q (mv rfl) rfl <| W.nil <| G.blk <| G.loop1 (α := Nat) (fun k => k ≤ sizes.length ∧ at_ + upTo sizes k ≤ bs.length) (fun k => [(8, i64 ((bs.length : Int) - at_ - upTo sizes k)), (31, i64 k)]) (fun k => []) (fun k => sizes.length - k) [(0, _), (1, _), (29, _), (30, _)] _ 0 (by omega) (Sub.co rfl ?_ <| Sub.cons rfl <| Sub.cons rfl <| Sub.cons rfl <| Sub.cons rfl <| Sub.cons rfl <| Sub.nil _) .rfl (fun k hk ih2 => ?_)
    · rw [hu0]; simp
    refine G.seq <| G.reg <| W.q (lt rfl rfl) rfl <| W.nil <| G.seq <| G.cdd rfl (fun h3 => ?_) (fun h3 => ?_)
    · -- h3 True
      have h3' : k < sizes.length := by omega
      have hsu : Rdf X.w0 (nb b cs T :: H) qa (sizes.map i64) := (hs.up rfl)
      refine G.rdA hsu (by simp; omega) (fun zb zo hsa => ?_)
      subst hsa
      have hx := Rdf.cellOf (i := k) (v := i64 sizes[k]) hsu (by simp [h3'])
      have hle := hn _ (List.getElem_mem h3')
      have hup := upTo_succ sizes k h3'
      have hmo := upTo_mono sizes (k + 1)
      have hneg1 := hneg _ (List.getElem_mem h3')
      refine G.skip <| G.seq <| G.blk <| G.seq <| G.reg <| W.q (ia Try.esl40 rfl rfl (by omega) (by omega)) rfl <| W.q (ld Try.sc3 rfl (by simpa using hx)) rfl <| W.q (sa rfl) rfl <| W.nil <| G.seq <| G.seq <| G.reg <| W.q (mv rfl) rfl <| W.q (mv rfl) rfl <| W.q (gt rfl rfl) rfl <| W.nil <| G.cdd rfl (fun h4 => ?_) (fun h4 => ?_)
      · -- h4 True
        refine G.seq <| G.reg <| W.q (sa rfl) rfl <| W.q (sa rfl) rfl <| W.nil <| ret2 hX Try.results29 rfl rfl fun w hm => doneF (Pre' := [nb b cs T, sl none 0 0 46 1 []]) rfl ⟨_, [sl none 0 0 46 1 []], ⟨none, 0, [], ?_, rfl, rfl⟩, ?_, ?_⟩ (hm.slNil 46 1) (Ent.perm (.swap _ _ _))
        all_goals have e : drawsR bs at_ sizes = ([], 8, at_) := by rw [drawsR, if_neg (by rintro ⟨n, h6, h7⟩; exact hneg n h6 h7), if_pos (by have := hneg _ (List.getElem_mem h3'); omega)]
        all_goals rw [e]
        · rfl
        · rfl
        · simp only []; rw [set_self hc1]
      · -- h4 False
        refine G.skip <| G.reg <| W.q (mv rfl) rfl <| W.q (mv rfl) rfl <| W.q (sb rfl rfl (by omega)) rfl <| W.q (sa rfl) rfl <| W.nil <| G.inb <| G.reg <| W.q (ad rfl rfl (by omega)) rfl <| W.q (mv rfl) rfl <| W.nil <| (ih2 (k + 1) (by omega) (by omega)).weak (Sub.co rfl ?_ <| Sub.cons rfl <| Sub.cons rfl <| Sub.cons rfl <| Sub.cons rfl <| Sub.cons rfl <| Sub.nil _) .rfl
        all_goals clear ih2
        · show i64 _ = i64 _; congr 1; omega
    · -- h3 False
      have hsum : at_ + upTo sizes sizes.length ≤ bs.length := by
        have : k = sizes.length := by omega
        rw [← this]; exact hk.2
      refine G.exit rfl <| G.seq <| G.reg <| W.q (sa rfl) rfl <| W.nil <| G.seq <| G.seq <| G.reg <| W.q (mv rfl) rfl <| W.q (ln Try.esl40 rfl) rfl <| W.q (mv rfl) rfl <| W.nil <| G.blk <| G.loop4 (α := Nat) (β := Option Addr) (γ := Nat) (δ := List Pc) (fun k a1 c1 ps => k ≤ sizes.length ∧ ps.length = k ∧ ps.map (fun p => p.2.2) = cuts bs at_ ((sizes.take k).map Int.toNat)) (fun k a1 c1 ps => [(11, .slice a1 ps.length c1), (44, i64 k)]) (fun k a1 c1 ps => [nb b (cs.set (o + 1) (i64 ((at_ + upTo sizes k : Nat) : Int))) T, sl a1 ps.length c1 46 1 (ps.map pcV)] ++ ps.map pcI) (fun k a1 c1 ps => sizes.length - k) [(0, _), (42, _), (43, _)] H 0 none 0 [] ⟨by omega, rfl, rfl⟩ (Sub.cons rfl <| Sub.cons rfl <| Sub.cons rfl <| Sub.cons rfl <| Sub.cons rfl <| Sub.nil _) (fun w hm => by rw [show cs.set (o + 1) (i64 ((at_ + upTo sizes 0 : Nat) : Int)) = cs by rw [hu0, Nat.add_zero at_, set_self hc1]]; exact (Ent.perm (.swap _ _ _)) w (hm.slNil 46 1)) (fun k a1 c1 ps hk ih3 => ?_)
      refine G.seq <| G.reg <| W.q (lt rfl rfl) rfl <| W.nil <| G.seq <| G.cdd rfl (fun h5 => ?_) (fun h5 => ?_)
      · -- h5 True
        have h5' : k < sizes.length := by omega
        have hsu : Rdf X.w0 (nb b (cs.set (o + 1) (i64 ((at_ + upTo sizes k : Nat) : Int))) T :: sl a1 ps.length c1 46 1 (ps.map pcV) :: (ps.map pcI ++ H)) qa (sizes.map i64) := (((hs.upJ (pcI_new ps)).up rfl).up rfl)
        refine G.rdA hsu (by simp; omega) (fun zb zo hsa => ?_)
        subst hsa
        have hx := Rdf.cellOf (i := k) (v := i64 sizes[k]) hsu (by simp [h5'])
        have hle := hn _ (List.getElem_mem h5')
        have hup := upTo_succ sizes k h5'
        have hmo := upTo_mono sizes (k + 1)
        have hneg1 := hneg _ (List.getElem_mem h5')
        generalize hsk : sizes[k] = sk at hx hle hup hneg1
        have hrr : Rdf X.w0 (sl a1 ps.length c1 46 1 (ps.map pcV) :: (ps.map pcI ++ H)) a (B bs) := (hr.upJ (pcI_new ps)).up rfl
        have hHH : allNew (sl a1 ps.length c1 46 1 (ps.map pcV) :: (ps.map pcI ++ H)) = true := allNew_append (H := [_]) rfl (allNew_append (pcI_new ps) hH)
        have hat' : at_ + upTo sizes k ≤ bs.length := by omega
        have hdr : drawR bs (at_ + upTo sizes k) sk = ((bs.drop (at_ + upTo sizes k)).take sk.toNat, 0, at_ + upTo sizes k + sk.toNat) := by
          unfold drawR takeR; rw [if_neg hneg1, if_neg (by omega)]; rfl
        have hc0' : (cs.set (o + 1) (i64 ((at_ + upTo sizes k : Nat) : Int)))[o]? = some (.slice a bs.length cap) := by rw [List.getElem?_set_ne (by omega)]; exact hc0
        have hc1' : (cs.set (o + 1) (i64 ((at_ + upTo sizes k : Nat) : Int)))[o + 1]? = some (i64 ((at_ + upTo sizes k : Nat) : Int)) := List.getElem?_set_self (List.getElem?_eq_some_iff.1 hc1).1
        have hup2 : at_ + upTo sizes k + sk.toNat = at_ + upTo sizes (k + 1) := by omega
        
        refine G.skip <| G.seq <| G.blk <| G.seq <| G.reg <| W.q (ia Try.esl40 rfl rfl (by omega) (by omega)) rfl <| W.q (ld Try.sc3 rfl (by simpa using hx)) rfl <| W.q (sa rfl) rfl <| W.nil <| G.seq <| G.reg <| W.q (mv rfl) rfl <| W.q (mv rfl) rfl <| W.ff Try.ca27 rfl (Ent.perm (.refl _)) (tape_Draw X.w0 _ hHH b o _ T a cap bs (at_ + upTo sizes k) hc0' hc1' hrr hb hat' hcap sk hle) rfl rfl fun v J hv hJ => ?_
        obtain ⟨a2, c2, rfl, rfl⟩ := hv
        rw [hdr, List.set_set, hup2]
        refine W.q (mv rfl) rfl <| W.q (ex rfl rfl) rfl <| W.q (ex rfl rfl) rfl <| W.q (sa rfl) rfl <| W.q (sa rfl) rfl <| W.nil <| G.reg <| W.q (mv rfl) rfl <| W.q (mv rfl) rfl <| W.bs (cs := [_]) Try.underlying57 Try.sz46 Try.zrl46 rfl rfl rfl rfl fun b1 => W.ap Try.underlying57 Try.underlying57 Try.sz46 Try.zln46 Try.by46 rfl rfl (fun _ _ => (.tl <| .tl <| .tl <| .hd)) (RdS.row .hd) rfl rfl (by simp) (by omega) (by omega) rfl fun a3 c3 => W.q (sa rfl) rfl <| W.nil <| G.inb <| G.reg <| W.q (ad rfl rfl (by omega)) rfl <| W.q (mv rfl) rfl <| W.nil <| (ih3 (k + 1) a3 c3 (ps ++ [(a2, c2, (bs.drop (at_ + upTo sizes k)).take sk.toNat)]) ⟨by omega, by simp; omega, by rw [List.map_append, hk.2.2, List.take_succ_eq_append_getElem h5', List.map_append, hsk]; simp only [List.map_cons, List.map_nil]; rw [cuts_snoc]; rfl⟩ (by omega)).weak (Sub.co rfl ?_ <| Sub.cons rfl <| Sub.cons rfl <| Sub.cons rfl <| Sub.cons rfl <| Sub.nil _) (fun w hm => ent_bb ps _ H (Dr.ent (.drop rfl .rfl) w hm))
        all_goals clear ih3
        · show Value.slice _ _ _ = _; rw [List.length_append]; rfl
      · -- h5 False
        refine G.exit rfl <| G.seq <| G.reg <| W.q (mv rfl) rfl <| W.q (sa rfl) rfl <| W.q (sa rfl) rfl <| W.nil <| ret2 hX Try.results29 rfl rfl fun w hm => doneF (Pre' := nb b (cs.set (o + 1) (i64 ((at_ + upTo sizes k : Nat) : Int))) T :: sl a1 ps.length c1 46 1 (ps.map pcV) :: ps.map pcI) (allNew_append (H := [_, _]) rfl (pcI_new ps)) ⟨_, _, ⟨a1, c1, ps, ?_, rfl, rfl⟩, ?_, ?_⟩ hm .rfl
        all_goals have hkl : k = sizes.length := by omega
        all_goals have e : drawsR bs at_ sizes = (cuts bs at_ (sizes.map Int.toNat), 0, at_ + upTo sizes sizes.length) := by rw [drawsR, if_neg (by rintro ⟨n, h6, h7⟩; exact hneg n h6 h7), if_neg (by omega)]
        all_goals rw [e]
        · rw [hk.2.2, List.take_of_length_le (by omega)]
        · simp only []; rw [hkl]
end Go.Proofs.Ytnbofpojbpmdmaa
