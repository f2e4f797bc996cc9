/- A clock and its timers. -/
import Derived.Test.YtnbofpojbpmdmaaTape2
namespace Go.Proofs.Ytnbofpojbpmdmaa
open Go Go.Eng
set_option linter.unusedVariables false

def twoC (x : Int × Int) : List Value := [i64 x.1, i64 x.2]
theorem twoC_len (x : Int × Int) : (twoC x).length = 2 := rfl
theorem twoC_one (l : List (Int × Int)) : (l.flatMap twoC).all (·.oneCell') = true := by simp [twoC, Value.oneCell']
theorem drop_one {l : List Value} (h : l.all (·.oneCell') = true) (k : Nat) : (l.drop k).all (·.oneCell') = true := by
  rw [List.all_eq_true] at h ⊢; exact fun x hx => h x (List.mem_of_mem_drop hx)


set_option maxRecDepth 100000 in
theorem timers_Delete (w0 : World) (H : List It) (g cap : Nat) (ts : List (Int × Int)) (i : Nat) (hi : i < ts.length) (hb : ts.length ≤ cap) :
    RetF Try.prog 79 [.slice (some ⟨g, 0, none⟩) ts.length cap, i64 i, i64 ((i : Int) + 1)] w0 H [sl (some ⟨g, 0, none⟩) ts.length cap 156 2 (ts.flatMap twoC)] (fun v P => v = .slice (some ⟨g, 0, none⟩) (ts.length - 1) cap ∧ P = [sl (some ⟨g, 0, none⟩) (ts.length - 1) cap 156 2 ((ts.eraseIdx i).flatMap twoC)]) := by
  refine enterF Try.func79 rfl Try.ntmps79 rfl (fun X hX => ?_)
  have hw := hX.w0; subst hw
  refine G.seq <| G.reg <| W.q (sa rfl) rfl <| W.nil <| G.seq <| G.reg <| W.q (mv rfl) rfl <| W.q (mv rfl) rfl <| W.q (mv rfl) rfl <| W.q (mv rfl) rfl <| W.q (ln Try.esl83 rfl) rfl <| W.q (slm Try.esl83 rfl rfl rfl rfl (by omega) (by omega) (by omega) (by omega)) rfl <| W.nil <| G.seq <| G.seq <| G.reg <| W.q (mv rfl) rfl <| W.q (mv rfl) rfl <| W.q (eq rfl rfl) rfl <| W.nil <| G.cdd rfl (fun h1 => ?_) (fun h1 => ?_)
  · -- h1 True
    omega
  · -- h1 False
    refine G.skip <| G.seq <| G.reg <| W.q (mv rfl) rfl <| W.q (ln Try.esl83 rfl) rfl <| W.q (sa rfl) rfl <| W.nil <| G.seq <| G.regt 6 Try.mixed (by kernel_rfl) <| W.q (mv rfl) rfl <| W.q (mv rfl) rfl <| W.q (shi Try.esl83 rfl rfl (by omega) (by omega)) rfl <| W.q (mv rfl) rfl <| W.q (mv rfl) rfl <| W.q (slo Try.esl83 rfl rfl (by omega) (by omega)) rfl <| W.nilt <| W.api (xs' := (ts.eraseIdx i).flatMap twoC ++ (ts.flatMap twoC).drop ((ts.length - 1) * 2)) Try.underlying83 Try.underlying83 Try.sz156 rfl rfl .hd (fun w hm => (hm.slRd (.head _)).slA (by rw [flat_len twoC 2 twoC_len]; omega)) (by rw [List.length_drop, flat_len twoC 2 twoC_len]; omega) (drop_one (twoC_one ts) _) (fun h => by rw [slA_none] at h; cases h) (by omega) (by omega) (flat_move twoC 2 twoC_len ts i hi) rfl <| W.q (sa rfl) rfl <| W.nil <| G.seq <| G.reg <| W.q (mv rfl) rfl <| W.q (mv rfl) rfl <| W.q (ln Try.esl83 rfl) rfl <| W.q (mv rfl) rfl <| W.q (slh Try.esl83 rfl rfl rfl (by omega) (by omega) (by omega)) rfl <| W.clr (k := 0) (g := g) (o := (ts.length - 1) * 2) (xs' := (ts.eraseIdx i).flatMap twoC ++ [i64 0, i64 0]) Try.underlying83 Try.zrl156 rfl ?_ (by omega) rfl .hd (by show (ts.length - 1) * 2 + 2 ≤ _; omega) ?_ <| W.nil <| G.seq <| G.reg <| W.q (mv rfl) rfl <| W.q (sa rfl) rfl <| W.nil <| ret1 hX Try.results79 rfl fun w hm => doneF (Pre' := [sl (some ⟨g, 0, none⟩) (ts.length - 1) cap 156 2 ((ts.eraseIdx i).flatMap twoC)]) rfl ⟨?_, rfl⟩ (hm.slCut .hd rfl ?_ (by omega)) .rfl
    · rw [show (((i : Int).toNat + (ts.length - ((i : Int) + 1).toNat) : Nat) : Int).toNat = ts.length - 1 by omega, slA_some (by omega), Nat.zero_add]
    · have e := setAt_end ((ts.eraseIdx i).flatMap twoC) ((ts.flatMap twoC).drop ((ts.length - 1) * 2)) [i64 0, i64 0] (by rw [List.length_drop, flat_len twoC 2 twoC_len]; show 2 = _; omega)
      rw [flat_len twoC 2 twoC_len, List.length_eraseIdx_of_lt hi] at e
      exact e
    · congr 1; omega
    · rw [flat_len twoC 2 twoC_len, List.length_eraseIdx_of_lt hi]

/-- Which timer is due: the first of those with the least tick, of the places in R. -/
def IsDue (ts : List (Int × Int)) (u : Int) (R : Nat → Prop) (b : Int) : Prop :=
  (b = -1 ∧ ∀ j (h : j < ts.length), R j → ¬ ts[j].1 ≤ u) ∨ ∃ k, ∃ h : k < ts.length, R k ∧ b = k ∧ ts[k].1 ≤ u ∧ ∀ j (h : j < ts.length), R j → ts[j].1 ≤ u → ts[k].1 ≤ ts[j].1 ∧ (j < k → ts[k].1 < ts[j].1)
theorem IsDue.uniq {ts : List (Int × Int)} {u : Int} {R : Nat → Prop} {b c : Int} (h : IsDue ts u R b) (h2 : IsDue ts u R c) : b = c := by
  rcases h with ⟨rfl, h⟩ | ⟨k, hk, h1, rfl, h3, h4⟩
  · rcases h2 with ⟨rfl, _⟩ | ⟨k, hk, h1, rfl, h3, _⟩
    · rfl
    · exact absurd h3 (h k hk h1)
  · rcases h2 with ⟨rfl, h⟩ | ⟨k', hk', h1', rfl, h3', h4'⟩
    · exact absurd h3 (h k hk h1)
    · have q1 := h4 k' hk' h1' h3'
      have q2 := h4' k hk h1 h3
      omega
theorem IsDue.cong {ts : List (Int × Int)} {u : Int} {R S : Nat → Prop} {b : Int} (h : IsDue ts u R b) (hRS : ∀ j, j < ts.length → (R j ↔ S j)) : IsDue ts u S b := by
  rcases h with ⟨rfl, h⟩ | ⟨k, hk, h1, rfl, h3, h4⟩
  · exact .inl ⟨rfl, fun j hj hs => h j hj ((hRS j hj).2 hs)⟩
  · exact .inr ⟨k, hk, (hRS k hk).1 h1, rfl, h3, fun j hj hs => h4 j hj ((hRS j hj).2 hs)⟩
theorem IsDue.lo {ts : List (Int × Int)} {u : Int} {R : Nat → Prop} {b : Int} (h : IsDue ts u R b) : -1 ≤ b ∧ b < ts.length := by
  rcases h with ⟨rfl, h⟩ | ⟨k, hk, h1, rfl, h3, h4⟩ <;> omega
/-- One place more, behind the others. -/
theorem IsDue.up {ts : List (Int × Int)} {u b : Int} {n : Nat} (h : IsDue ts u (· < n) b) (hn : n < ts.length) : IsDue ts u (· < n + 1) (if ts[n].1 ≤ u ∧ (b < 0 ∨ ts[n].1 < (ts.getD b.toNat (0, 0)).1) then (n : Int) else b) := by
  rcases h with ⟨rfl, h⟩ | ⟨k, hk, h1, rfl, h3, h4⟩
  · split
    · rename_i hc
      exact .inr ⟨n, hn, by omega, rfl, hc.1, fun j hj hjn hu => by
        rcases Nat.lt_or_ge j n with q | q
        · exact absurd hu (h j hj q)
        · have : j = n := by omega
          subst this; exact ⟨by omega, by omega⟩⟩
    · rename_i hc
      exact .inl ⟨rfl, fun j hj hjn hu => by
        rcases Nat.lt_or_ge j n with q | q
        · exact absurd hu (h j hj q)
        · have : j = n := by omega
          subst this; exact hc ⟨hu, .inl (by omega)⟩⟩
  · have e : (ts.getD (k : Int).toNat (0, 0)) = ts[k] := by simp [hk]
    rw [e]
    split
    · rename_i hc
      exact .inr ⟨n, hn, by omega, rfl, hc.1, fun j hj hjn hu => by
        rcases Nat.lt_or_ge j n with q | q
        · have := h4 j hj q hu; omega
        · have : j = n := by omega
          subst this; exact ⟨by omega, by omega⟩⟩
    · rename_i hc
      exact .inr ⟨k, hk, by omega, rfl, h3, fun j hj hjn hu => by
        rcases Nat.lt_or_ge j n with q | q
        · exact h4 j hj q hu
        · have : j = n := by omega
          subst this; exact ⟨by omega, by omega⟩⟩
/-- One place more, ahead of the others. -/
theorem IsDue.down {ts : List (Int × Int)} {u b : Int} {n : Nat} (h : IsDue ts u (n + 1 ≤ ·) b) (hn : n < ts.length) : IsDue ts u (n ≤ ·) (if ts[n].1 ≤ u ∧ (b < 0 ∨ ts[n].1 ≤ (ts.getD b.toNat (0, 0)).1) then (n : Int) else b) := by
  rcases h with ⟨rfl, h⟩ | ⟨k, hk, h1, rfl, h3, h4⟩
  · split
    · rename_i hc
      exact .inr ⟨n, hn, by omega, rfl, hc.1, fun j hj hjn hu => by
        rcases Nat.lt_or_ge n j with q | q
        · exact absurd hu (h j hj q)
        · have : j = n := by omega
          subst this; exact ⟨by omega, by omega⟩⟩
    · rename_i hc
      exact .inl ⟨rfl, fun j hj hjn hu => by
        rcases Nat.lt_or_ge n j with q | q
        · exact absurd hu (h j hj q)
        · have : j = n := by omega
          subst this; exact hc ⟨hu, .inl (by omega)⟩⟩
  · have e : (ts.getD (k : Int).toNat (0, 0)) = ts[k] := by simp [hk]
    rw [e]
    split
    · rename_i hc
      exact .inr ⟨n, hn, by omega, rfl, hc.1, fun j hj hjn hu => by
        rcases Nat.lt_or_ge n j with q | q
        · have := h4 j hj q hu; omega
        · have : j = n := by omega
          subst this; exact ⟨by omega, by omega⟩⟩
    · rename_i hc
      exact .inr ⟨k, hk, by omega, rfl, h3, fun j hj hjn hu => by
        rcases Nat.lt_or_ge n j with q | q
        · exact h4 j hj q hu
        · have : j = n := by omega
          subst this; exact ⟨by omega, by omega⟩⟩
open Classical in
noncomputable def dueI (ts : List (Int × Int)) (u : Int) : Int := if h : ∃ b, IsDue ts u (fun _ => True) b then h.choose else -1
theorem dueI_eq {ts : List (Int × Int)} {u b : Int} (h : IsDue ts u (fun _ => True) b) : dueI ts u = b := by
  have h' : ∃ b, IsDue ts u (fun _ => True) b := ⟨b, h⟩
  rw [dueI, dif_pos h']; exact h'.choose_spec.uniq h
/-- The clock's tick, its timers, what is due, and whether anything is. -/
noncomputable def dueR (now : Int) (ts : List (Int × Int)) (u : Int) : Int × List (Int × Int) × Int × Bool :=
  if dueI ts u < 0 then (now, ts, 0, false) else (max now (ts.getD (dueI ts u).toNat (0, 0)).1, ts.eraseIdx (dueI ts u).toNat, (ts.getD (dueI ts u).toNat (0, 0)).2, true)
def setR (now : Int) (ts : List (Int × Int)) (after what : Int) : List (Int × Int) × Int :=
  if after < 0 ∨ 1000000 < after then (ts, 1) else if 64 ≤ ts.length then (ts, 11) else (ts ++ [(IntKind.i64.wrap (now + after), what)], 0)
def moveR (now to_ : Int) : Int × Int := if to_ < now ∨ 1099511627776 < to_ then (now, 1) else (to_, 0)


set_option maxRecDepth 100000 in
theorem clock_Now (w0 : World) (H : List It) (b o : Nat) (cs : List Value) (T : Nat) (a : Option Addr) (cap : Nat) (now : Int) (ts : List (Int × Int)) (hc0 : cs[o]? = some (i64 now)) (hc1 : cs[o + 1]? = some (.slice a ts.length cap)) (hts : ts.length ≤ 64) :
    RetF Try.prog 47 [ptr b o] w0 H [nb b cs T, sl a ts.length cap 156 2 (ts.flatMap twoC)] (fun v P => v = i64 now ∧ P = [nb b cs T, sl a ts.length cap 156 2 (ts.flatMap twoC)]) := by
  refine enterF Try.func47 rfl Try.ntmps47 rfl (fun X hX => ?_)
  have hw := hX.w0; subst hw
  refine G.seq <| G.reg <| W.q (sa rfl) rfl <| W.nil <| G.seq <| G.reg <| W.q (mv rfl) rfl <| W.q (ncp rfl) rfl <| W.q (fa Try.fof85_0 rfl) rfl <| W.q (ld Try.sc3 rfl (Cell.at .hd hc0)) rfl <| W.q (sa rfl) rfl <| W.nil <| ret1 hX Try.results47 rfl fun w hm => doneF (Pre' := [nb b cs T, sl a ts.length cap 156 2 (ts.flatMap twoC)]) rfl ⟨rfl, rfl⟩ hm .rfl


set_option maxRecDepth 100000 in
theorem clock_Waiting (w0 : World) (H : List It) (b o : Nat) (cs : List Value) (T : Nat) (a : Option Addr) (cap : Nat) (now : Int) (ts : List (Int × Int)) (hc0 : cs[o]? = some (i64 now)) (hc1 : cs[o + 1]? = some (.slice a ts.length cap)) (hts : ts.length ≤ 64) :
    RetF Try.prog 54 [ptr b o] w0 H [nb b cs T, sl a ts.length cap 156 2 (ts.flatMap twoC)] (fun v P => v = i64 ts.length ∧ P = [nb b cs T, sl a ts.length cap 156 2 (ts.flatMap twoC)]) := by
  refine enterF Try.func54 rfl Try.ntmps54 rfl (fun X hX => ?_)
  have hw := hX.w0; subst hw
  refine G.seq <| G.reg <| W.q (sa rfl) rfl <| W.nil <| G.seq <| G.reg <| W.q (mv rfl) rfl <| W.q (ncp rfl) rfl <| W.q (fa Try.fof85_1 rfl) rfl <| W.q (ld Try.sc83 rfl (Cell.at .hd hc1)) rfl <| W.q (ln Try.esl83 rfl) rfl <| W.q (sa rfl) rfl <| W.nil <| ret1 hX Try.results54 rfl fun w hm => doneF (Pre' := [nb b cs T, sl a ts.length cap 156 2 (ts.flatMap twoC)]) rfl ⟨rfl, rfl⟩ hm .rfl


set_option maxRecDepth 100000 in
theorem clock_Move (w0 : World) (H : List It) (b o : Nat) (cs : List Value) (T : Nat) (a : Option Addr) (cap : Nat) (now : Int) (ts : List (Int × Int)) (hc0 : cs[o]? = some (i64 now)) (hc1 : cs[o + 1]? = some (.slice a ts.length cap)) (hts : ts.length ≤ 64) (to_ : Int) :
    RetF Try.prog 53 [ptr b o, i64 to_] w0 H [nb b cs T, sl a ts.length cap 156 2 (ts.flatMap twoC)] (fun v P => v = i64 (moveR now to_).2 ∧ ∃ a' c', P = [nb b ((cs.set o (i64 (moveR now to_).1)).set (o + 1) (.slice a' ts.length c')) T, sl a' ts.length c' 156 2 (ts.flatMap twoC)]) := by
  refine enterF Try.func53 rfl Try.ntmps53 rfl (fun X hX => ?_)
  have hw := hX.w0; subst hw
  refine G.seq <| G.reg <| W.q (sa rfl) rfl <| W.nil <| G.seq <| G.seq <| G.reg <| W.q (mv rfl) rfl <| W.q (mv rfl) rfl <| W.q (ncp rfl) rfl <| W.q (fa Try.fof85_0 rfl) rfl <| W.q (ld Try.sc3 rfl (Cell.at .hd hc0)) rfl <| W.q (lt rfl rfl) rfl <| W.q (mv rfl) rfl <| W.sp (t := _) 11 rfl (fun g1 => ?_) (fun g1 => ?_)
  · -- True
    refine W.sk rfl rfl g1 rfl <| W.sk rfl rfl g1 rfl <| W.q (pkt rfl g1 rfl) rfl <| W.nil <| G.cdt rfl rfl <| G.seq <| G.reg <| W.q (sa rfl) rfl <| W.nil <| ret1 hX Try.results53 rfl fun w hm => doneF (Pre' := [nb b cs T, sl a ts.length cap 156 2 (ts.flatMap twoC)]) rfl ⟨?_, a, cap, ?_⟩ hm .rfl
    all_goals have e : moveR now to_ = (now, 1) := by rw [moveR, if_pos (.inl (by simpa using g1))]
    all_goals rw [e]
    simp only [set_self hc0, set_self hc1]
  · -- False
    refine W.qg rfl rfl g1 (mv rfl) rfl <| W.qg rfl rfl g1 (gt rfl rfl) rfl <| W.q (pkf rfl g1 rfl) rfl <| W.nil <| G.cdd rfl (fun h2 => ?_) (fun h2 => ?_)
    · -- h2 True
      refine G.seq <| G.reg <| W.q (sa rfl) rfl <| W.nil <| ret1 hX Try.results53 rfl fun w hm => doneF (Pre' := [nb b cs T, sl a ts.length cap 156 2 (ts.flatMap twoC)]) rfl ⟨?_, a, cap, ?_⟩ hm .rfl
      all_goals have e : moveR now to_ = (now, 1) := by rw [moveR, if_pos (.inr h2)]
      all_goals rw [e]
      simp only [set_self hc0, set_self hc1]
    · -- h2 False
      refine G.skip <| G.seq <| G.reg <| W.q (mv rfl) rfl <| W.q (mv rfl) rfl <| W.q (ncp rfl) rfl <| W.q (fa Try.fof85_0 rfl) rfl <| W.st (cs' := cs.set o (i64 to_)) Try.sz3 rfl rfl rfl rfl rfl .hd (by have := (List.getElem?_eq_some_iff.1 hc0).1; omega) (setAt_one _ _ _ (List.getElem?_eq_some_iff.1 hc0).1) <| W.nil <| G.seq <| G.reg <| W.q (sa rfl) rfl <| W.nil <| ret1 hX Try.results53 rfl fun w hm => doneF (Pre' := [nb b (cs.set o (i64 to_)) T, sl a ts.length cap 156 2 (ts.flatMap twoC)]) rfl ⟨?_, a, cap, ?_⟩ hm .rfl
      all_goals have e : moveR now to_ = (to_, 0) := by rw [moveR, if_neg (fun h => h.elim (by simpa using g1) h2)]
      all_goals rw [e]
      have : (cs.set o (i64 to_))[o + 1]? = some (.slice a ts.length cap) := by rw [List.getElem?_set_ne (by omega)]; exact hc1
      simp only [set_self this]


set_option maxRecDepth 100000 in
theorem clock_Set (w0 : World) (H : List It) (b o : Nat) (cs : List Value) (T : Nat) (a : Option Addr) (cap : Nat) (now : Int) (ts : List (Int × Int)) (hc0 : cs[o]? = some (i64 now)) (hc1 : cs[o + 1]? = some (.slice a ts.length cap)) (hts : ts.length ≤ 64) (after what : Int) :
    RetF Try.prog 49 [ptr b o, i64 after, i64 what] w0 H [nb b cs T, sl a ts.length cap 156 2 (ts.flatMap twoC)] (fun v P => v = i64 (setR now ts after what).2 ∧ ∃ a' c', P = [nb b ((cs.set o (i64 now)).set (o + 1) (.slice a' (setR now ts after what).1.length c')) T, sl a' (setR now ts after what).1.length c' 156 2 ((setR now ts after what).1.flatMap twoC)]) := by
  refine enterF Try.func49 rfl Try.ntmps49 rfl (fun X hX => ?_)
  have hw := hX.w0; subst hw
  refine G.seq <| G.reg <| W.q (sa rfl) rfl <| W.nil <| G.seq <| G.seq <| G.reg <| W.q (mv rfl) rfl <| W.q (lt rfl rfl) rfl <| W.q (mv rfl) rfl <| W.sp (t := _) 9 rfl (fun g1 => ?_) (fun g1 => ?_)
  · -- True
    refine W.sk rfl rfl g1 rfl <| W.sk rfl rfl g1 rfl <| W.q (pkt rfl g1 rfl) rfl <| W.nil <| G.cdt rfl rfl <| G.seq <| G.reg <| W.q (sa rfl) rfl <| W.nil <| ret1 hX Try.results49 rfl fun w hm => doneF (Pre' := [nb b cs T, sl a ts.length cap 156 2 (ts.flatMap twoC)]) rfl ⟨?_, a, cap, ?_⟩ hm .rfl
    all_goals have e : setR now ts after what = (ts, 1) := by rw [setR, if_pos (.inl (by simpa using g1))]
    all_goals rw [e]
    simp only [set_self hc0, set_self hc1]
  · -- False
    refine W.qg rfl rfl g1 (mv rfl) rfl <| W.qg rfl rfl g1 (gt rfl rfl) rfl <| W.q (pkf rfl g1 rfl) rfl <| W.nil <| G.cdd rfl (fun h2 => ?_) (fun h2 => ?_)
    · -- h2 True
      refine G.seq <| G.reg <| W.q (sa rfl) rfl <| W.nil <| ret1 hX Try.results49 rfl fun w hm => doneF (Pre' := [nb b cs T, sl a ts.length cap 156 2 (ts.flatMap twoC)]) rfl ⟨?_, a, cap, ?_⟩ hm .rfl
      all_goals have e : setR now ts after what = (ts, 1) := by rw [setR, if_pos (.inr h2)]
      all_goals rw [e]
      simp only [set_self hc0, set_self hc1]
    · -- h2 False
      refine G.skip <| G.seq <| G.seq <| G.reg <| W.q (mv rfl) rfl <| W.q (ncp rfl) rfl <| W.q (fa Try.fof85_1 rfl) rfl <| W.q (ld Try.sc83 rfl (Cell.at .hd hc1)) rfl <| W.q (ln Try.esl83 rfl) rfl <| W.q (ge rfl rfl) rfl <| W.nil <| G.cdd rfl (fun h3 => ?_) (fun h3 => ?_)
      · -- h3 True
        refine G.seq <| G.reg <| W.q (sa rfl) rfl <| W.nil <| ret1 hX Try.results49 rfl fun w hm => doneF (Pre' := [nb b cs T, sl a ts.length cap 156 2 (ts.flatMap twoC)]) rfl ⟨?_, a, cap, ?_⟩ hm .rfl
        all_goals have e : setR now ts after what = (ts, 11) := by rw [setR, if_neg (fun h => h.elim (by simpa using g1) h2), if_pos (by omega)]
        all_goals rw [e]
        simp only [set_self hc0, set_self hc1]
      · -- h3 False
        refine G.skip <| G.seq <| G.rega 18 rfl Try.mixed <| A.q 0 rfl (by kernel_rfl) (fun _ => (mv rfl)) rfl <| A.q 1 rfl (by kernel_rfl) (fun _ => (mv rfl)) rfl <| A.q 2 rfl (by kernel_rfl) (fun _ => (ncp rfl)) rfl <| A.q 3 rfl (by kernel_rfl) (fun _ => (fa Try.fof85_1 rfl)) rfl <| A.q 5 rfl (by kernel_rfl) (fun _ => (mv rfl)) rfl <| A.q 6 rfl (by kernel_rfl) (fun _ => (ncp rfl)) rfl <| A.q 7 rfl (by kernel_rfl) (fun _ => (fa Try.fof85_0 rfl)) rfl <| A.q 9 rfl (by kernel_rfl) (fun _ => (mv rfl)) rfl <| A.q 11 rfl (by kernel_rfl) (fun _ => (mv rfl)) rfl <| A.held 8 [4] rfl (by kernel_rfl) (ld Try.sc3 rfl (Cell.at .hd hc0)) rfl <| A.q 10 rfl (by kernel_rfl) (fun _ => (adw rfl rfl)) rfl <| A.q 12 rfl (by kernel_rfl) (fun _ => (bld (cs := [_, _]) Try.stp156 rfl rfl)) rfl <| A.held 4 [13] rfl (by kernel_rfl) (ld Try.sc83 rfl (Cell.at .hd hc1)) rfl <| A.one 13 rfl (by kernel_rfl) <| W.bs (cs := [_, _]) Try.underlying83 Try.sz156 Try.zrl156 rfl rfl rfl rfl fun b1 => A.back <| A.one 14 rfl (by kernel_rfl) <| W.ap Try.underlying83 Try.underlying83 Try.sz156 Try.zln156 Try.by156 rfl rfl (fun _ _ => (.tl <| .tl <| .hd)) (RdS.row .hd) rfl rfl (by simp) (by omega) (by omega) rfl fun a1 cap1 => A.back <| A.q 15 rfl (by kernel_rfl) (fun _ => (ncp rfl)) rfl <| A.q 16 rfl (by kernel_rfl) (fun _ => (fa Try.fof85_1 rfl)) rfl <| A.one 17 rfl (by kernel_rfl) <| W.st (cs' := cs.set (o + 1) (.slice a1 (ts.length + 1) cap1)) Try.sz83 rfl rfl rfl rfl rfl (.tl <| .hd) (by have := (List.getElem?_eq_some_iff.1 hc1).1; omega) (setAt_one _ _ _ (List.getElem?_eq_some_iff.1 hc1).1) <| A.back <| A.nil (by kernel_rfl) <| G.seq <| G.reg <| W.q (sa rfl) rfl <| W.nil <| ret1 hX Try.results49 rfl fun w hm => doneF (Pre' := [nb b (cs.set (o + 1) (.slice a1 (ts.length + 1) cap1)) T, sl a1 (ts.length + 1) cap1 156 2 (ts.flatMap twoC ++ twoC (IntKind.i64.wrap (now + after), what))]) rfl ⟨?_, a1, cap1, ?_⟩ hm (Dr.ent (.drop rfl .rfl))
        all_goals have e : setR now ts after what = (ts ++ [(IntKind.i64.wrap (now + after), what)], 0) := by rw [setR, if_neg (fun h => h.elim (by simpa using g1) h2), if_neg (by omega)]
        all_goals rw [e]
        simp only [set_self hc0, List.length_append, List.length_singleton, List.flatMap_append, List.flatMap_cons, List.flatMap_nil, List.append_nil]


set_option maxRecDepth 100000 in
theorem clock_Due (w0 : World) (H : List It) (b o : Nat) (cs : List Value) (T : Nat) (a : Option Addr) (cap : Nat) (now : Int) (ts : List (Int × Int)) (hc0 : cs[o]? = some (i64 now)) (hc1 : cs[o + 1]? = some (.slice a ts.length cap)) (hts : ts.length ≤ 64) (u : Int) :
    RetF Try.prog 51 [ptr b o, i64 u] w0 H [nb b cs T, sl a ts.length cap 156 2 (ts.flatMap twoC)] (fun v P => v = .tuple #[i64 (dueR now ts u).2.2.1, .bool (dueR now ts u).2.2.2] ∧ ∃ a' c', P = [nb b ((cs.set o (i64 (dueR now ts u).1)).set (o + 1) (.slice a' (dueR now ts u).2.1.length c')) T, sl a' (dueR now ts u).2.1.length c' 156 2 ((dueR now ts u).2.1.flatMap twoC)]) := by
  refine enterF Try.func51 rfl Try.ntmps51 rfl (fun X hX => ?_)
  have hw := hX.w0; subst hw
  refine G.seq <| G.reg <| W.q (sa rfl) rfl <| W.q (sa rfl) rfl <| W.nil <| G.seq <| G.reg <| W.q (sa rfl) rfl <| W.nil <| G.seq <| G.seq <| G.reg <| W.q (mv rfl) rfl <| W.q (ncp rfl) rfl <| W.q (fa Try.fof85_1 rfl) rfl <| W.q (ld Try.sc83 rfl (Cell.at .hd hc1)) rfl <| W.q (ln Try.esl83 rfl) rfl <| W.q (mv rfl) rfl <| W.nil <| G.blk <| G.loop2 (α := Nat) (β := Int) (fun k bst => k ≤ ts.length ∧ IsDue ts u (· < k) bst) (fun k bst => [(6, i64 bst), (15, i64 k)]) (fun k bst => []) (fun k bst => ts.length - k) [(0, _), (1, _), (13, _), (14, _)] _ 0 (-1) ⟨by omega, .inl ⟨rfl, fun _ _ h => absurd h (Nat.not_lt_zero _)⟩⟩ (Sub.cons rfl <| Sub.cons rfl <| Sub.cons rfl <| Sub.cons rfl <| Sub.cons rfl <| Sub.cons rfl <| Sub.nil _) .rfl (fun k bst hk ih => ?_)
  refine G.seq <| G.reg <| W.q (lt rfl rfl) rfl <| W.nil <| G.seq <| G.cdd rfl (fun h1 => ?_) (fun h1 => ?_)
  · -- h1 True
    have h1' : k < ts.length := by omega
    have hup := hk.2.up h1'
    have hlo := hk.2.lo
    generalize htk : ts[k] = tk at hup
    refine G.slAt (a := a) (m := ts.length) (cap := cap) (E := 156) (s := 2) (xs := ts.flatMap twoC) (by simp) (fun q1 q2 q3 q4 => ?_)
    rcases q4 with ⟨_, _, q4⟩ | ⟨g, rfl⟩
    · omega
    have hrd : ∀ H, sl (some ⟨g, 0, none⟩) ts.length cap 156 2 (ts.flatMap twoC) ∈ H → Cells X.w0 H g (0 + (k : Int).toNat * 2) (twoC tk) := fun H hi => htk ▸ (Cells.sl hi).flat twoC_len k h1'
    have hrd2 : ¬ bst < 0 → ∀ H, sl (some ⟨g, 0, none⟩) ts.length cap 156 2 (ts.flatMap twoC) ∈ H → Cells X.w0 H g (0 + bst.toNat * 2) (twoC (ts.getD bst.toNat (0, 0))) := fun hb0 H hi => by
      have hl : bst.toNat < ts.length := by omega
      have := (Cells.sl (w0 := X.w0) hi).flat twoC_len bst.toNat hl
      rwa [show ts.getD bst.toNat (0, 0) = ts[bst.toNat] by simp [hl]]
    generalize ts.getD bst.toNat (0, 0) = tb at hrd2 hup
    refine G.skip <| G.seq <| G.blk <| G.seq <| G.reg <| W.q (mv rfl) rfl <| W.q (ia Try.esl83 rfl rfl (by omega) (by omega)) rfl <| W.q (lda Try.agg156 Try.sz156 rfl (hrd _ (by simp)) rfl) rfl <| W.al Try.zrl156 rfl fun b1 => W.q (sa rfl) rfl <| W.sta Try.sz156 rfl rfl rfl rfl .hd rfl <| W.nil <| G.seq <| G.regq Try.mixed (by kernel_rfl) <| W.q (fa Try.fof156_0 rfl) rfl <| W.q (ld Try.sc3 rfl (Cell.at .hd rfl)) rfl <| W.q (mv rfl) rfl <| W.q (le rfl rfl) rfl <| W.q (mv rfl) rfl <| W.sp (t := _) 24 rfl (fun g2 => ?_) (fun g2 => ?_)
    · -- True
      refine W.qg rfl rfl g2 (mv rfl) rfl <| W.qg rfl rfl g2 (lt rfl rfl) rfl <| W.qg rfl rfl g2 (mv rfl) rfl <| W.sp (t := _) 27 rfl (fun g3 => ?_) (fun g3 => ?_)
      · -- True
        refine W.sk rfl rfl g3 rfl <| W.sk rfl rfl g3 rfl <| W.sk rfl rfl g3 rfl <| W.sk rfl rfl g3 rfl <| W.sk rfl rfl g3 rfl <| W.sk rfl rfl g3 rfl <| W.sk rfl rfl g3 rfl <| W.sk rfl rfl g3 rfl <| W.sk rfl rfl g3 rfl <| W.sk rfl rfl g3 rfl <| W.sk rfl rfl g3 rfl <| W.qg rfl rfl g2 (pkt rfl g3 rfl) rfl <| W.q (pkt rfl g2 rfl) rfl <| W.nilq <| G.cdt rfl rfl <| G.reg <| W.q (mv rfl) rfl <| W.q (sa rfl) rfl <| W.nil <| G.inb <| G.reg <| W.q (ad rfl rfl (by omega)) rfl <| W.q (mv rfl) rfl <| W.nil <| (ih (k + 1) (k : Int) ⟨by omega, by rwa [if_pos ⟨of_decide_eq_true g2, .inl (of_decide_eq_true g3)⟩] at hup⟩ (by omega)).weak (Sub.cons rfl <| Sub.cons rfl <| Sub.cons rfl <| Sub.cons rfl <| Sub.cons rfl <| Sub.cons rfl <| Sub.nil _) (Dr.ent <| Dr.drop rfl <| Dr.keep <| Dr.keep <| .rfl)
      · -- False
        have hb0 : ¬ bst < 0 := by simpa using g3
        refine W.qg rfl rfl g3 (fa Try.fof156_0 rfl) rfl <| W.qg rfl rfl g3 (ld Try.sc3 rfl (Cell.at .hd rfl)) rfl <| W.qg rfl rfl g3 (mv rfl) rfl <| W.qg rfl rfl g3 (ncp rfl) rfl <| W.qg rfl rfl g3 (fa Try.fof85_1 rfl) rfl <| W.qg rfl rfl g3 (ld Try.sc83 rfl (Cell.at (.tl <| .hd) hc1)) rfl <| W.qg rfl rfl g3 (mv rfl) rfl <| W.qg rfl rfl g3 (ia Try.esl83 rfl rfl (by omega) (by omega)) rfl <| W.qg rfl rfl g3 (fa Try.fof156_0 rfl) rfl <| W.qg rfl rfl g3 (ld Try.sc3 rfl (hrd2 hb0 _ (by simp) 0 _ rfl)) rfl <| W.qg rfl rfl g3 (lt rfl rfl) rfl <| W.qg rfl rfl g2 (pkf rfl g3 rfl) rfl <| W.q (pkt rfl g2 rfl) rfl <| W.nilq <| G.cdd rfl (fun h4 => ?_) (fun h4 => ?_)
        · -- h4 True
          refine G.reg <| W.q (mv rfl) rfl <| W.q (sa rfl) rfl <| W.nil <| G.inb <| G.reg <| W.q (ad rfl rfl (by omega)) rfl <| W.q (mv rfl) rfl <| W.nil <| (ih (k + 1) (k : Int) ⟨by omega, by rwa [if_pos ⟨of_decide_eq_true g2, .inr h4⟩] at hup⟩ (by omega)).weak (Sub.cons rfl <| Sub.cons rfl <| Sub.cons rfl <| Sub.cons rfl <| Sub.cons rfl <| Sub.cons rfl <| Sub.nil _) (Dr.ent <| Dr.drop rfl <| Dr.keep <| Dr.keep <| .rfl)
        · -- h4 False
          refine G.skip <| G.inb <| G.reg <| W.q (ad rfl rfl (by omega)) rfl <| W.q (mv rfl) rfl <| W.nil <| (ih (k + 1) bst ⟨by omega, by rwa [if_neg (fun h => h.2.elim hb0 h4)] at hup⟩ (by omega)).weak (Sub.cons rfl <| Sub.cons rfl <| Sub.cons rfl <| Sub.cons rfl <| Sub.cons rfl <| Sub.cons rfl <| Sub.nil _) (Dr.ent <| Dr.drop rfl <| Dr.keep <| Dr.keep <| .rfl)
    · -- False
      refine W.sk rfl rfl g2 rfl <| W.sk rfl rfl g2 rfl <| W.sk rfl rfl g2 rfl <| W.sku rfl rfl rfl <| W.sku rfl rfl rfl <| W.sku rfl rfl rfl <| W.sku rfl rfl rfl <| W.sku rfl rfl rfl <| W.sku rfl rfl rfl <| W.sku rfl rfl rfl <| W.sku rfl rfl rfl <| W.sku rfl rfl rfl <| W.sku rfl rfl rfl <| W.sku rfl rfl rfl <| W.sk rfl rfl g2 rfl <| W.q (pkf rfl g2 rfl) rfl <| W.nilq <| G.cdf rfl rfl <| G.skip <| G.inb <| G.reg <| W.q (ad rfl rfl (by omega)) rfl <| W.q (mv rfl) rfl <| W.nil <| (ih (k + 1) bst ⟨by omega, by rwa [if_neg (fun h => by simp at g2; omega)] at hup⟩ (by omega)).weak (Sub.cons rfl <| Sub.cons rfl <| Sub.cons rfl <| Sub.cons rfl <| Sub.cons rfl <| Sub.cons rfl <| Sub.nil _) (Dr.ent <| Dr.drop rfl <| Dr.keep <| Dr.keep <| .rfl)
  · -- h1 False
    have hdue : dueI ts u = bst := dueI_eq (hk.2.cong fun j hj => ⟨fun _ => trivial, fun _ => by omega⟩)
    have hlo := hk.2.lo
    refine G.exit rfl <| G.seq <| G.seq <| G.reg <| W.q (mv rfl) rfl <| W.q (lt rfl rfl) rfl <| W.nil <| G.cdd rfl (fun h5 => ?_) (fun h5 => ?_)
    · -- h5 True
      refine G.seq <| G.reg <| W.q (sa rfl) rfl <| W.q (sa rfl) rfl <| W.nil <| ret2 hX Try.results51 rfl rfl fun w hm => doneF (Pre' := [nb b cs T, sl a ts.length cap 156 2 (ts.flatMap twoC)]) rfl ⟨?_, a, cap, ?_⟩ hm .rfl
      all_goals have e : dueR now ts u = (now, ts, 0, false) := by rw [dueR, hdue, if_pos h5]
      all_goals rw [e]
      simp only [set_self hc0, set_self hc1]
    · -- h5 False
      obtain ⟨m, rfl⟩ : ∃ m : Nat, bst = m := ⟨bst.toNat, by omega⟩
      refine G.slAt (a := a) (m := ts.length) (cap := cap) (E := 156) (s := 2) (xs := ts.flatMap twoC) (by simp) (fun q1 q2 q3 q4 => ?_)
      rcases q4 with ⟨_, _, q4⟩ | ⟨g, rfl⟩
      · omega
      have hm' : m < ts.length := by omega
      have e : dueR now ts u = (max now (ts.getD m (0, 0)).1, ts.eraseIdx m, (ts.getD m (0, 0)).2, true) := by rw [dueR, hdue, if_neg h5]; rfl
      have hrd : ∀ H, sl (some ⟨g, 0, none⟩) ts.length cap 156 2 (ts.flatMap twoC) ∈ H → Cells X.w0 H g (0 + (m : Int).toNat * 2) (twoC (ts.getD m (0, 0))) := fun H hi => by
        have := (Cells.sl (w0 := X.w0) hi).flat twoC_len m hm'
        rwa [show ts.getD m (0, 0) = ts[m] by simp [hm']]
      generalize ts.getD m (0, 0) = tb at hrd e
      have hc2 : (cs.set (o + 1) (.slice (some ⟨g, 0, none⟩) (ts.length - 1) cap))[o]? = some (i64 now) := by rw [List.getElem?_set_ne (by omega)]; exact hc0
      have hol := (List.getElem?_eq_some_iff.1 hc1).1
      refine G.skip <| G.seq <| G.reg <| W.q (mv rfl) rfl <| W.q (ncp rfl) rfl <| W.q (fa Try.fof85_1 rfl) rfl <| W.q (ld Try.sc83 rfl (Cell.at .hd hc1)) rfl <| W.q (mv rfl) rfl <| W.q (ia Try.esl83 rfl rfl (by omega) (by omega)) rfl <| W.q (lda Try.agg156 Try.sz156 rfl (hrd _ (by simp)) rfl) rfl <| W.al Try.zrl156 rfl fun b2 => W.sta Try.sz156 rfl rfl rfl rfl .hd rfl <| W.nil <| G.seq <| G.reg <| W.q (mv rfl) rfl <| W.q (mv rfl) rfl <| W.q (ncp rfl) rfl <| W.q (fa Try.fof85_1 rfl) rfl <| W.q (ld Try.sc83 rfl (Cell.at (.tl <| .hd) hc1)) rfl <| W.q (mv rfl) rfl <| W.q (mv rfl) rfl <| W.q (ad rfl rfl (by omega)) rfl <| W.ff Try.ca79 rfl (Ent.perm (.trans (.cons _ (.trans (.cons _ (.refl _)) (.swap _ _ _))) (.swap _ _ _))) (timers_Delete X.w0 _ g cap ts m (by omega) q2) rfl rfl fun v J hv hJ => ?_
      obtain ⟨rfl, rfl⟩ := hv
      refine W.q (ncp rfl) rfl <| W.q (fa Try.fof85_1 rfl) rfl <| W.st (cs' := cs.set (o + 1) (.slice (some ⟨g, 0, none⟩) (ts.length - 1) cap)) Try.sz83 rfl rfl rfl rfl rfl (.tl <| .tl <| .hd) (by omega) (setAt_one _ _ _ hol) <| W.nil <| G.seq <| G.regt 10 Try.mixed (by kernel_rfl) <| W.q (mv rfl) rfl <| W.q (mv rfl) rfl <| W.q (ncp rfl) rfl <| W.q (fa Try.fof85_0 rfl) rfl <| W.q (ld Try.sc3 rfl (Cell.at (.tl <| .tl <| .hd) hc2)) rfl <| W.q (fa Try.fof156_0 rfl) rfl <| W.q (ld Try.sc3 rfl (Cell.at (.tl <| .hd) rfl)) rfl <| W.q (mx rfl rfl) rfl <| W.q (ncp rfl) rfl <| W.q (fa Try.fof85_0 rfl) rfl <| W.nilt <| W.st (cs' := (cs.set (o + 1) (.slice (some ⟨g, 0, none⟩) (ts.length - 1) cap)).set o (i64 (max now tb.1))) Try.sz3 rfl rfl rfl rfl rfl (.tl <| .tl <| .hd) (by simp; omega) (setAt_one _ _ _ (by simp; omega)) <| W.nil <| G.seq <| G.reg <| W.q (fa Try.fof156_1 rfl) rfl <| W.q (ld Try.sc3 rfl (Cell.at (.tl <| .hd) rfl)) rfl <| W.q (sa rfl) rfl <| W.q (sa rfl) rfl <| W.nil <| ret2 hX Try.results51 rfl rfl fun w hm => doneF (Pre' := [nb b ((cs.set (o + 1) (.slice (some ⟨g, 0, none⟩) (ts.length - 1) cap)).set o (i64 (max now tb.1))) T, sl (some ⟨g, 0, none⟩) (ts.length - 1) cap 156 2 ((ts.eraseIdx m).flatMap twoC)]) rfl ⟨?_, some ⟨g, 0, none⟩, cap, ?_⟩ hm (fun w hm => Dr.ent (.keep <| .keep <| .drop rfl .rfl) w ((Ent.perm (.trans (.trans (.trans (.cons _ (.refl _)) (.swap _ _ _)) (.trans (.cons _ (.refl _)) (.swap _ _ _))) (.trans (.cons _ (.trans (.cons _ (.refl _)) (.swap _ _ _))) (.swap _ _ _)))) w hm))
      all_goals rw [e]
      simp only [List.length_eraseIdx_of_lt hm']
      rw [List.set_comm _ _ (by omega)]
end Go.Proofs.Ytnbofpojbpmdmaa
