/- Parts in order: slices.Values, Collect, SortFunc, SortedFunc. -/
import Derived.Test.YtjalojbihpdghaaMerge2
import Derived.Test.YtjalojbihpdghaaEngR
import Derived.Shelf.SlicesG.Cmp
namespace Go.Proofs.Ytjalojbihpdghaa
open Go Go.Eng
set_option linter.unusedVariables false


set_option maxRecDepth 100000 in
theorem slv_make (a : Option Addr) (m cap : Nat) (w : World) :
    Ret Try.prog 81 [.slice a m cap] w (fun v J => ∃ b, v = .func (.func 105) #[] [ptr b 0].toArray ∧ J = [nb b [.slice a m cap] 57]) := by
  refine enter [] (Mem.nil _) Try.func81 rfl Try.ntmps81 rfl (fun X hX => ?_)
  have hw := hX.w0; subst hw
  refine G.seq <| G.reg <| W.bxs rfl rfl rfl fun b1 => W.q (sa rfl) rfl <| W.nil <| G.seq <| G.reg <| W.q (mkf rfl) rfl <| W.q (sa rfl) rfl <| W.nil <| ret1 hX Try.results81 rfl fun w hm => done rfl ⟨b1, rfl, rfl⟩ hm


set_option maxRecDepth 100000 in
theorem slv_iter (w0 : World) (H : List It) (hH : allNew H = true) (L b : Nat) (a : Option Addr) (m cap : Nat) (ps : List Pp) (hm : m = ps.length) (hmb : m ≤ 140737488351232) {σ : Type} (Its : Nat → σ → List It) (hn : ∀ k s, allNew (Its k s) = true) (hbox : ∀ k s, Rdf w0 (Its k s ++ H) (some ⟨b, 0, none⟩) [.slice a m cap]) (hel : ∀ k s, Rdf w0 (Its k s ++ H) a (ps.flatMap ppC))
    (hy : ∀ k s, k < m → ∀ w, Mem w0 w (Its k s ++ H) → Eng.Yields Try.prog L [.agg (ppC (ps.getD k default)).toArray] w fun w' => ∃ s', Mem w0 w' (Its (k + 1) s' ++ H)) (s0 : σ) :
    RetF Try.prog 105 [.func (.yield L) #[] #[], ptr b 0] w0 H (Its 0 s0) (fun _ J => ∃ s, J = Its m s) := by
  refine enterF Try.func105 rfl Try.ntmps105 rfl (fun X hX => ?_)
  have hw := hX.w0; subst hw
  refine G.seq <| G.reg <| W.q (ld Try.sc57 rfl ((hbox 0 s0).cellOf (i := 0) rfl)) rfl <| W.q (ln Try.esl57 rfl) rfl <| W.q (mv rfl) rfl <| W.nil <| G.blk <| G.loop2 (α := Nat) (β := σ) (fun k s => k ≤ m) (fun k s => [(7, i64 k)]) (fun k s => [] ++ Its k s) (fun k s => m - k) [(0, _), (5, _), (6, _)] H 0 s0 (by omega) (Sub.cons rfl <| Sub.cons rfl <| Sub.cons rfl <| Sub.cons rfl <| Sub.nil _) .rfl (fun k s hkk ih => ?_)
  refine G.seq <| G.reg <| W.q (lt rfl rfl) rfl <| W.nil <| G.seq <| G.cdd rfl (fun h1 => ?_) (fun h1 => ?_)
  · -- h1 True
    have hkm : k < m := by omega
    have hgd : ps.getD k default = ps[k]'(by omega) := by rw [List.getD_eq_getElem?_getD, List.getElem?_eq_getElem (by omega)]; rfl
    refine G.rdB (a := a) (hel k s) (by rw [flen]; omega) (fun zb zo ho hRd => ?_)
    subst ho
    have hC := Rdf.el hRd k (by omega) (zo + (k : Int).toNat * 5) (by omega)
    generalize ps[k] = q at hC hgd
    obtain ⟨q1, q2, q3⟩ := q
    refine G.skip <| G.seq <| G.blk <| G.seq <| G.reg <| W.q (ia Try.esl57 rfl rfl (by omega) (by omega)) rfl <| W.q (lda Try.agg66 Try.sz66 rfl hC rfl) rfl <| W.al Try.zrl66 rfl fun b1 => W.sta Try.sz66 rfl rfl rfl rfl .hd rfl <| W.nil <| G.seq <| G.regY 2 rfl <| W.q (mv rfl) rfl <| W.q (lda Try.agg66 Try.sz66 rfl (Cells.whole .hd) rfl) rfl <| W.yield rfl rfl (fun w hm => hgd ▸ hy k s (by omega) w (hm.drop rfl)) rfl fun s' => ?_
    refine W.q (nt rfl) rfl <| W.nil <| G.cdf rfl rfl <| G.skip <| G.inb <| G.reg <| W.q (ad rfl rfl (by omega)) rfl <| W.q (mv rfl) rfl <| W.nil <| (ih (k + 1) s' (by omega) (by omega)).weak (Sub.cons rfl <| Sub.cons rfl <| Sub.cons rfl <| Sub.cons rfl <| Sub.nil _) .rfl
  · -- h1 False
    have hkm : k = m := by omega
    subst hkm
    refine G.exit rfl <| ret0 hX Try.results105 fun w hm => doneF (Pre' := Its k s) (hn k s) ⟨s, rfl⟩ hm .rfl

/-- What is appended, k times round. -/
abbrev aqH (b : Nat) (ps : List Pp) (k : Nat) (s : Option Addr × Nat) : List It := [nb b [.slice s.1 k s.2] 57, sl s.1 k s.2 66 5 ((ps.take k).flatMap ppC)]
theorem take_flat (ps : List Pp) (k : Nat) (hk : k < ps.length) {q : Pp} (hq : ps.getD k default = q) : (ps.take (k + 1)).flatMap ppC = (ps.take k).flatMap ppC ++ ppC q := by
  subst hq
  rw [List.take_succ_eq_append_getElem hk, List.flatMap_append, List.getD_eq_getElem?_getD, List.getElem?_eq_getElem hk]; simp


set_option maxRecDepth 100000 in
theorem slv_append (bx : Nat) (a : Option Addr) (m cap : Nat) (ps : List Pp) (w : World) (hm : m = ps.length) (hmb : m * 56 ≤ 140737488351232) (hbox : RdL w (some ⟨bx, 0, none⟩) [.slice a m cap]) (hel : RdL w a (ps.flatMap ppC)) :
    Ret Try.prog 122 [.slice none 0 0, .func (.func 105) #[] [ptr bx 0].toArray] w (fun v J => ∃ a' c', v = .slice a' m c' ∧ J = [sl a' m c' 66 5 (ps.flatMap ppC)]) := by
  refine enter [] (Mem.nil _) Try.func122 rfl Try.ntmps122 rfl (fun X hX => ?_)
  have hw := hX.w0; subst hw
  refine G.seq <| G.reg <| W.bxs rfl rfl rfl fun b1 => W.q (sa rfl) rfl <| W.nil <| G.seq <| G.seq <| G.reg <| W.q (mv rfl) rfl <| W.nil <| G.blk <| ?_
  refine G.ent (Ent.slNil 66 5) ?_
  refine G.rf (ps := [7]) hX rfl Try.ca105 (aqH b1 ps) _ (m) (fun k => [.agg (ppC (ps.getD k default)).toArray]) ((none, 0)) (fun _ => rfl) rfl (Ent.perm (.trans (.refl _) (.trans (.cons _ (.refl _)) (.swap _ _ _)))) (fun L D rc hy => slv_iter X.w0 (dfI D :: []) rfl L bx a m cap ps hm (by omega) (fun k s => lpI L rc .ready :: aqH b1 ps k s) (fun k s => allNew_cons rfl rfl) (fun k s => Rdf.old (allNew_append (allNew_cons rfl rfl) rfl) hbox) (fun k s => Rdf.old (allNew_append (allNew_cons rfl rfl) rfl) hel) hy (none, 0)) (fun L D rc k s hk Y hY => ?_) (fun D s Y hY => ?_)
  · -- round
    obtain ⟨yb, ycs, yR, yw0, yds, ygoal⟩ := Y
    obtain rfl : yw0 = X.w0 := hY.w0
    obtain ⟨q, hq⟩ : ∃ q, ps.getD k default = q := ⟨_, rfl⟩
    have hsu := take_flat ps k (by omega) hq
    rw [hq]
    obtain ⟨q1, q2, q3⟩ := q
    have hkm : k < m := hk
    refine G.reg <| W.al Try.zrl66 rfl fun b2 => W.sta Try.sz66 rfl rfl rfl (by simp [ppC, ptC, Value.oneCell']) .hd rfl <| W.nil <| G.begin (rc := rc) hY (.tl <| .hd) <| G.blk <| G.reg <| W.q (ld Try.sc57 rfl (Cell.at (.tl <| .tl <| .hd) rfl)) rfl <| W.q (lda Try.agg66 Try.sz66 rfl (Cells.whole .hd) rfl) rfl <| W.bs1 Try.underlying57 Try.sz66 Try.zrl66 rfl rfl rfl rfl rfl fun b3 => W.ap (news := [_, _, _, _, _]) Try.underlying57 Try.underlying57 Try.sz66 Try.zln66 Try.by66 rfl rfl (fun _ _ => (.tl <| .tl <| .tl <| .tl <| .hd)) (RdS.row .hd) rfl (by simp [Value.oneCell']) (by simp) (by omega) (by omega) rfl fun a3 c3 => W.st (cs' := [_]) Try.sz57 rfl rfl rfl rfl rfl (.tl <| .tl <| .tl <| .hd) (by simp) rfl <| W.nil <| G.inb <| G.endRound (rc := rc) hY (fun w hm => (Dr.ent (.keep <| .keep <| .keep <| .keep <| .drop rfl <| .drop rfl <| .rfl)) w ((Ent.perm (.trans (.trans (.trans (.trans (.cons _ (.trans (.cons _ (.trans (.cons _ (.trans (.cons _ (.trans (.cons _ (.refl _)) (.swap _ _ _))) (.swap _ _ _))) (.swap _ _ _))) (.swap _ _ _))) (.swap _ _ _)) (.trans (.cons _ (.trans (.cons _ (.trans (.cons _ (.trans (.cons _ (.trans (.cons _ (.refl _)) (.swap _ _ _))) (.swap _ _ _))) (.swap _ _ _))) (.swap _ _ _))) (.swap _ _ _))) (.trans (.cons _ (.trans (.cons _ (.trans (.cons _ (.trans (.cons _ (.trans (.cons _ (.refl _)) (.swap _ _ _))) (.swap _ _ _))) (.swap _ _ _))) (.swap _ _ _))) (.swap _ _ _))) (.trans (.cons _ (.trans (.cons _ (.trans (.cons _ (.trans (.cons _ (.trans (.cons _ (.refl _)) (.swap _ _ _))) (.swap _ _ _))) (.swap _ _ _))) (.swap _ _ _))) (.swap _ _ _)))) w hm)) (fun w hm => ⟨(a3, c3), by show Mem _ _ (lpI L rc .ready :: aqH b1 ps (k + 1) (a3, c3) ++ _); unfold aqH; rw [hsu]; exact hm⟩)
  · -- behind
    obtain ⟨yb, ycs, yR, yw0, yds, ygoal⟩ := Y
    obtain rfl : yw0 = X.w0 := hY.w0
    skip
    refine G.inb <| G.seq <| G.reg <| W.q (ld Try.sc57 rfl (Cell.at .hd rfl)) rfl <| W.q (sa rfl) rfl <| W.nil <| retD1 hY (Ent.perm (.trans (.cons _ (.trans (.cons _ (.refl _)) (.swap _ _ _))) (.swap _ _ _))) Try.results122 rfl fun w hm => done (H := [sl s.1 m s.2 66 5 (ps.flatMap ppC)]) rfl ⟨s.1, s.2, rfl, rfl⟩ (by have := Dr.ent (.drop rfl <| .keep <| .rfl) w hm; rwa [List.take_of_length_le (by omega)] at this)


set_option maxRecDepth 100000 in
theorem slv_collect (bx : Nat) (a : Option Addr) (m cap : Nat) (ps : List Pp) (w : World) (hm : m = ps.length) (hmb : m * 56 ≤ 140737488351232) (hbox : RdL w (some ⟨bx, 0, none⟩) [.slice a m cap]) (hel : RdL w a (ps.flatMap ppC)) :
    Ret Try.prog 103 [.func (.func 105) #[] [ptr bx 0].toArray] w (fun v J => ∃ a' c', v = .slice a' m c' ∧ J = [sl a' m c' 66 5 (ps.flatMap ppC)]) := by
  refine enter [] (Mem.nil _) Try.func103 rfl Try.ntmps103 rfl (fun X hX => ?_)
  have hw := hX.w0; subst hw
  have hm0 := hm
  refine G.seq <| G.reg <| W.q (sa rfl) rfl <| W.nil <| G.seq <| G.reg <| W.q (mv rfl) rfl <| W.fn Try.ca122 rfl (fun w hm => slv_append bx a m cap ps w hm0 hmb (hm.rd rfl hbox) (hm.rd rfl hel)) rfl fun v J hv hJ => ?_
  obtain ⟨a1, c1, rfl, rfl⟩ := hv
  refine W.q (sa rfl) rfl <| W.nil <| ret1 hX Try.results103 rfl fun w hm => done (H := [sl a1 m c1 66 5 (ps.flatMap ppC)]) rfl ⟨a1, c1, rfl, rfl⟩ hm

end Go.Proofs.Ytjalojbihpdghaa
namespace Go.Proofs
open Go Go.Shelf Go.RowKit Go.Lib Go.Sort Go.Eng
def Try.sortPt_ren : Go.Shelf.Ren := ⟨fun | 6 => 104 | 15 => 124 | 14 => 123 | 28 => 151 | 29 => 152 | 20 => 143 | 21 => 144 | 22 => 145 | 23 => 146 | 24 => 147 | 25 => 148 | 26 => 149 | 27 => 150 | 46 => 170 | 47 => 171 | 48 => 172 | 49 => 173 | 50 => 174 | 57 => 187 | n => n, fun | 22 => 57 | 24 => 66 | 25 => 146 | 3 => 3 | 39 => 134 | 0 => 0 | 53 => 125 | 55 => 29 | 4 => 4 | 46 => 227 | 45 => 226 | 50 => 53 | 5 => 5 | 9 => 9 | 66 => 256 | 70 => 260 | 76 => 268 | 77 => 269 | n => n, fun | n => n⟩
set_option maxRecDepth 100000 in
theorem Try.sortPt : Go.Proofs.SlLaysF0.n6 Try.prog Try.sortPt_ren where
  mixed := by kernel_rfl
  f6 := ⟨ "slices.SortFunc[[]shallot/api.Part,shallot/api.Part]", by decide, Try.func104.trans (congrArg some (by kernel_rfl))⟩
  f14 := ⟨ "slices.pdqsortCmpFunc[shallot/api.Part]", by decide, Try.func123.trans (congrArg some (by kernel_rfl))⟩
  f15 := Try.func124.trans (congrArg some (by kernel_rfl))
  f20 := ⟨ "slices.insertionSortCmpFunc[shallot/api.Part]", by decide, Try.func143.trans (congrArg some (by kernel_rfl))⟩
  f21 := ⟨ "slices.heapSortCmpFunc[shallot/api.Part]", by decide, Try.func144.trans (congrArg some (by kernel_rfl))⟩
  f22 := ⟨ "slices.breakPatternsCmpFunc[shallot/api.Part]", by decide, Try.func145.trans (congrArg some (by kernel_rfl))⟩
  f23 := ⟨ "slices.choosePivotCmpFunc[shallot/api.Part]", by decide, Try.func146.trans (congrArg some (by kernel_rfl))⟩
  f24 := ⟨ "slices.reverseRangeCmpFunc[shallot/api.Part]", by decide, Try.func147.trans (congrArg some (by kernel_rfl))⟩
  f25 := ⟨ "slices.partialInsertionSortCmpFunc[shallot/api.Part]", by decide, Try.func148.trans (congrArg some (by kernel_rfl))⟩
  f26 := ⟨ "slices.partitionEqualCmpFunc[shallot/api.Part]", by decide, Try.func149.trans (congrArg some (by kernel_rfl))⟩
  f27 := ⟨ "slices.partitionCmpFunc[shallot/api.Part]", by decide, Try.func150.trans (congrArg some (by kernel_rfl))⟩
  f28 := Try.func151.trans (congrArg some (by kernel_rfl))
  f29 := Try.func152.trans (congrArg some (by kernel_rfl))
  f46 := ⟨ "slices.siftDownCmpFunc[shallot/api.Part]", by decide, Try.func170.trans (congrArg some (by kernel_rfl))⟩
  f47 := Try.func171.trans (congrArg some (by kernel_rfl))
  f48 := Try.func172.trans (congrArg some (by kernel_rfl))
  f49 := ⟨ "slices.medianAdjacentCmpFunc[shallot/api.Part]", by decide, Try.func173.trans (congrArg some (by kernel_rfl))⟩
  f50 := ⟨ "slices.medianCmpFunc[shallot/api.Part]", by decide, Try.func174.trans (congrArg some (by kernel_rfl))⟩
  f57 := ⟨ "slices.order2CmpFunc[shallot/api.Part]", by decide, Try.func187.trans (congrArg some (by kernel_rfl))⟩
  t0 := Try.underlying0
  a0 := Try.isAgg0
  z0 := Try.sizeOf0
  v0 := Try.zeroValue0
  t3 := Try.underlying3
  a3 := Try.isAgg3
  z3 := Try.sizeOf3
  v3 := Try.zeroValue3
  t4 := Try.underlying4
  a4 := Try.isAgg4
  z4 := Try.sizeOf4
  v4 := Try.zeroValue4
  t5 := Try.underlying5
  a5 := Try.isAgg5
  z5 := Try.sizeOf5
  v5 := Try.zeroValue5
  t9 := Try.underlying9
  a9 := Try.isAgg9
  z9 := Try.sizeOf9
  v9 := Try.zeroValue9
  t22 := Try.underlying57
  a22 := Try.isAgg57
  z22 := Try.sizeOf57
  v22 := Try.zeroValue57
  t25 := Try.underlying146
  a25 := Try.isAgg146
  z25 := Try.sizeOf146
  v25 := Try.zeroValue146
  t39 := Try.underlying134
  a39 := Try.isAgg134
  z39 := Try.sizeOf134
  v39 := Try.zeroValue134
  t45 := Try.underlying226
  a45 := Try.isAgg226
  z45 := Try.sizeOf226
  v45 := Try.zeroValue226
  t46 := Try.underlying227
  a46 := Try.isAgg227
  z46 := Try.sizeOf227
  v46 := Try.zeroValue227
  t50 := Try.underlying53
  a50 := Try.isAgg53
  z50 := Try.sizeOf53
  v50 := Try.zeroValue53
  t53 := Try.underlying125
  a53 := Try.isAgg125
  z53 := Try.sizeOf125
  v53 := Try.zeroValue125
  t55 := Try.underlying29
  a55 := Try.isAgg29
  z55 := Try.sizeOf29
  v55 := Try.zeroValue29
  t66 := Try.underlying256
  a66 := Try.isAgg256
  z66 := Try.sizeOf256
  v66 := Try.zeroValue256
  t70 := Try.underlying260
  a70 := Try.isAgg260
  z70 := Try.sizeOf260
  v70 := Try.zeroValue260
  t76 := Try.underlying268
  a76 := Try.isAgg268
  z76 := Try.sizeOf268
  v76 := Try.zeroValue268
  t77 := Try.underlying269
  a77 := Try.isAgg269
  z77 := Try.sizeOf269
  v77 := Try.zeroValue269
def Try.cmpInt_ren : Go.Shelf.Ren := ⟨fun | 5 => 83 | 7 => 106 | n => n, fun | 22 => 3 | 3 => 3 | 4 => 4 | n => n, fun | n => n⟩
set_option maxRecDepth 100000 in
theorem Try.cmpInt : Go.Proofs.SlLaysC2.n5 Try.prog Try.cmpInt_ren where
  mixed := by kernel_rfl
  f5 := ⟨ "cmp.Compare[int]", by decide, Try.func83.trans (congrArg some (by kernel_rfl))⟩
  f7 := ⟨ "cmp.isNaN[int]", by decide, Try.func106.trans (congrArg some (by kernel_rfl))⟩
  t3 := Try.underlying3
  a3 := Try.isAgg3
  z3 := Try.sizeOf3
  v3 := Try.zeroValue3
  t4 := Try.underlying4
  a4 := Try.isAgg4
  z4 := Try.sizeOf4
  v4 := Try.zeroValue4
  t22 := Try.underlying3
  a22 := Try.isAgg3
  z22 := Try.sizeOf3
  v22 := Try.zeroValue3
end Go.Proofs
namespace Go.Proofs.Ytjalojbihpdghaa
open Go Go.Shelf Go.RowKit Go.Lib Go.Sort Go.Eng
def cfI (x y : Pp) : Int := Lib.compareInt x.1.index y.1.index
theorem ltI (x y : Pp) : ltOf cfI x y = decide (x.1.index < y.1.index) := by
  unfold ltOf cfI Lib.compareInt
  by_cases h1 : x.1.index < y.1.index
  · simp [h1]
  · by_cases h2 : y.1.index < x.1.index <;> simp [h1, h2]
theorem swoI : SWO (ltOf cfI) where
  irrefl x := by rw [ltI]; simp
  trans x y z h1 h2 := by rw [ltI] at *; simp at *; omega
  ntrans x y z h1 h2 := by rw [ltI] at *; simp at *; omega
set_option maxHeartbeats 1000000 in
theorem cmp_clo (x y : Pp) (W : World) : Calls Try.prog 82 #[.agg (ppC x).toArray, .agg (ppC y).toArray] W fun e w' => e = .returned (.int .i64 (cfI x y)) ∧ ∃ q os', w' = grow (W.drewN q) os' := by
  obtain ⟨⟨x1, x2, x3, x4, x5⟩, x6, x7⟩ := x
  obtain ⟨⟨y1, y2, y3, y4, y5⟩, y6, y7⟩ := y
  have hcon := fun W' => AnyG.cmp_Compare_int Try.cmpInt x3 y3 W'
  change ∀ W', Calls Try.prog 83 _ _ _ at hcon
  unfold cfI ppC ptC
  dsimp only
  generalize Lib.compareInt x3 y3 = r at hcon ⊢
  go_enter Try.func82, Try.ntmps82
  go_wp2_with (go_at_call 83; refine (hcon _).mono ?_; rintro e w' ⟨rfl, rfl⟩)
  go_ret
  exact ⟨rfl, 0, _, by rw [alloc_eq_grow, alloc_eq_grow, grow_grow]; rfl⟩
