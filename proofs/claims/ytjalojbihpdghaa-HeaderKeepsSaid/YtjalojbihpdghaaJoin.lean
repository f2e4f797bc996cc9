/- Lists of bytes joined. -/
import Derived.Test.YtjalojbihpdghaaBytes1
namespace Go.Proofs.Ytjalojbihpdghaa
open Go Go.Eng
set_option linter.unusedVariables false

theorem bytes_Clonex {a : Option Addr} {len cap : Nat} {bs : List UInt8} {w : World} (hl : RdL w a (B bs)) (hb : bs.length ≤ 140737488351232) (e : len = bs.length) : Ret Try.prog 57 [.slice a len cap] w (NewB bs) := by
  subst e; exact bytes_Clone a cap bs w hl hb
theorem ref01_Copyx {a : Option Addr} {len cap : Nat} {bs : List UInt8} {w : World} (hl : RdL w a (B bs)) (hb : bs.length ≤ 140737488351232) (e : len = bs.length) : Ret Try.prog 13 [.slice a len cap] w (NewB bs) := by
  subst e; exact ref01_Copy a cap bs w hl hb
theorem ref01_Equalx {a a2 : Option Addr} {len cap len2 cap2 : Nat} {bs cs : List UInt8} {w : World} (hl : RdL w a (B bs)) (hb : bs.length ≤ 140737488351232) (hl2 : RdL w a2 (B cs)) (e : len = bs.length) (e2 : len2 = cs.length) : Ret Try.prog 15 [.slice a len cap, .slice a2 len2 cap2] w (fun v _ => v = .bool (decide (bs = cs))) := by
  subst e; subst e2; exact ref01_Equal a cap bs w hl hb a2 cap2 cs hl2
theorem ref01_EqualT {a a2 : Option Addr} {len cap len2 cap2 : Nat} {bs cs : List UInt8} {w : World} (hl : RdL w a (B bs)) (hb : bs.length ≤ 140737488351232) (hl2 : RdL w a2 (B cs)) (e : len = bs.length) (e2 : len2 = cs.length) (h : bs = cs) : Ret Try.prog 15 [.slice a len cap, .slice a2 len2 cap2] w (fun v _ => v = .bool true) := by
  have := ref01_Equalx (cap := cap) (cap2 := cap2) hl hb hl2 e e2
  rwa [decide_eq_true h] at this
theorem flat_succ (bss : List (List UInt8)) (k : Nat) (h : k < bss.length) : (bss.take (k + 1)).flatten = (bss.take k).flatten ++ bss[k] := by
  rw [List.take_succ_eq_append_getElem h, List.flatten_append]; simp
theorem flat_le (bss : List (List UInt8)) (k : Nat) : (bss.take k).flatten.length ≤ bss.flatten.length := by
  have h := congrArg (fun l => l.flatten.length) (List.take_append_drop k bss)
  simp only [List.flatten_append, List.length_append] at h
  omega
set_option maxRecDepth 100000 in
theorem makeNoZero_call (w : World) (v : Value) : (callFunc 102 #[v]).run Try.prog w = ((Extern.BytealgMakeNoZero.makeNoZero Try.f102.params #[22] #[v]).run Try.prog w).andThen fun a w' => .ok (.value a) w' :=
  run_callFunc_extern Try.func102 (by kernel_rfl) rfl rfl rfl #[v] w


set_option maxRecDepth 100000 in
theorem bytes_Join (a : Option Addr) (cap : Nat) (vs : List Value) (bss : List (List UInt8)) (w : World) (hl : RdL w a vs) (hp : IsBs w vs bss) (hb : bss.flatten.length ≤ 140737488351232) (hn : vs.length ≤ 140737488351232) (hcap : vs.length ≤ cap) :
    Ret Try.prog 76 [.slice a vs.length cap, .slice none 0 0] w (NewB bss.flatten) := by
  refine enter [] (Mem.nil _) Try.func76 rfl Try.ntmps76 rfl (fun X hX => ?_)
  have hw := hX.w0; subst hw
  have hlen := hp.len
  have hfull : bss.take vs.length = bss := List.take_of_length_le (by omega)
  refine G.seq <| G.reg <| W.q (sa rfl) rfl <| W.nil <| G.seq <| G.seq <| G.reg <| W.q (mv rfl) rfl <| W.q (ln Try.esl73 rfl) rfl <| W.q (eq rfl rfl) rfl <| W.nil <| G.cdd rfl (fun h1 => ?_) (fun h1 => ?_)
  · -- h1 True
    refine G.seq <| G.reg <| W.bs Try.underlying22 Try.sz5 Try.zrl5 rfl rfl rfl rfl fun b1 => W.q (sa rfl) rfl <| W.nil <| ret1 hX Try.results76 rfl fun w hm => done (H := [sl (some ⟨b1, 0, none⟩) 0 0 5 1 []]) rfl ⟨some ⟨b1, 0, none⟩, 0, ?_, ?_⟩ (hm.rowSl (m := 0) (cap := 0) (by simp) (by omega) (by simp [maxLen]))
    all_goals have e : bss = [] := List.eq_nil_of_length_eq_zero (by omega)
    all_goals subst e
    all_goals rfl
  · -- h1 False
    refine G.skip <| G.seq <| G.seq <| G.reg <| W.q (mv rfl) rfl <| W.q (ln Try.esl73 rfl) rfl <| W.q (eq rfl rfl) rfl <| W.nil <| G.cdd rfl (fun h2 => ?_) (fun h2 => ?_)
    · -- h2 True
      obtain ⟨v, hv, a3, c3, rfl, hr3, hc3⟩ := hp.get 0 (by omega)
      obtain ⟨zb, zo, rfl, hx⟩ := hl 0 _ hv
      have h01 : bss.flatten = bss[0] := by
        have := flat_succ bss 0 (by omega)
        rw [List.take_of_length_le (by omega)] at this
        simpa using this
      rw [h01] at hb
      generalize bss[0] = b0 at *
      refine G.seq <| G.reg <| W.q (mv rfl) rfl <| W.q (ia Try.esl73 rfl rfl (by omega) (by omega)) rfl <| W.q (ld Try.sc22 rfl (Cell.old rfl (by simpa using hx))) rfl <| W.ent (Ent.slNil 5 1) <| W.ap Try.underlying22 Try.underlying22 Try.sz5 Try.zln5 Try.by5 rfl rfl (fun _ _ => .hd) (RdS.old rfl hr3) (B_len b0) (B_one b0) (RdL.nilB hr3) (by omega) (by omega) rfl fun a1 cap1 => W.q (sa rfl) rfl <| W.nil <| ret1 hX Try.results76 rfl fun w hm => done rfl ⟨a1, cap1, ?_, ?_⟩ hm
      all_goals rw [h01]
      all_goals rw [Nat.zero_add]
      rfl
    · -- h2 False
      refine G.skip <| G.seq <| G.reg <| W.q (sa rfl) rfl <| W.nil <| G.seq <| G.seq <| G.reg <| W.q (mv rfl) rfl <| W.q (ln Try.esl22 rfl) rfl <| W.q (gt rfl rfl) rfl <| W.nil <| G.cdf rfl (by decide) <| G.skip <| G.seq <| G.seq <| G.reg <| W.q (mv rfl) rfl <| W.q (ln Try.esl73 rfl) rfl <| W.q (mv rfl) rfl <| W.nil <| G.blk <| G.loop1 (α := Nat) (fun k => k ≤ vs.length) (fun k => [(5, i64 (((bss.take k).flatten.length : Nat) : Int)), (44, i64 k)]) (fun k => []) (fun k => vs.length - k) [(0, _), (1, _), (42, _), (43, _)] _ 0 (by omega) (Sub.cons rfl <| Sub.cons rfl <| Sub.cons rfl <| Sub.cons rfl <| Sub.cons rfl <| Sub.cons rfl <| Sub.nil _) .rfl (fun k hk ih => ?_)
      refine G.seq <| G.reg <| W.q (lt rfl rfl) rfl <| W.nil <| G.seq <| G.cdd rfl (fun h4 => ?_) (fun h4 => ?_)
      · -- h4 True
        have h4' : k < bss.length := by omega
        obtain ⟨v, hv, a3, c3, rfl, hr3, hc3⟩ := hp.get k h4'
        obtain ⟨zb, zo, rfl, hx⟩ := hl k _ hv
        have hup := congrArg List.length (flat_succ bss k h4')
        rw [List.length_append] at hup
        have hle := flat_le bss (k + 1)
        generalize bss[k] = bk at *
        refine G.skip <| G.seq <| G.blk <| G.seq <| G.reg <| W.q (ia Try.esl73 rfl rfl (by omega) (by omega)) rfl <| W.q (ld Try.sc22 rfl (Cell.old rfl (by simpa using hx))) rfl <| W.q (sa rfl) rfl <| W.nil <| G.seq <| G.seq <| G.reg <| W.q (mv rfl) rfl <| W.q (ln Try.esl22 rfl) rfl <| W.q (mv rfl) rfl <| W.q (sb rfl rfl (by omega)) rfl <| W.q (gt rfl rfl) rfl <| W.nil <| G.cdf rfl (decide_eq_false (by omega)) <| G.skip <| G.reg <| W.q (mv rfl) rfl <| W.q (mv rfl) rfl <| W.q (ln Try.esl22 rfl) rfl <| W.q (ad rfl rfl (by omega)) rfl <| W.q (sa rfl) rfl <| W.nil <| G.inb <| G.reg <| W.q (ad rfl rfl (by omega)) rfl <| W.q (mv rfl) rfl <| W.nil <| (ih (k + 1) (by omega) (by omega)).weak (Sub.co rfl ?_ <| Sub.cons rfl <| Sub.cons rfl <| Sub.cons rfl <| Sub.cons rfl <| Sub.cons rfl <| Sub.nil _) .rfl
        all_goals clear ih
        · show i64 _ = i64 _; congr 1; omega
      · -- h4 False
        have hkl : bss.take k = bss := List.take_of_length_le (by omega)
        rw [hkl]
        clear hkl hk
        obtain ⟨v, hv, a3, c3, rfl, hr3, hc3⟩ := hp.get 0 (by omega)
        obtain ⟨zb, zo, rfl, hx⟩ := hl 0 _ hv
        have h01 : bss[0] = (bss.take 1).flatten := by
          have := flat_succ bss 0 (by omega)
          simpa using this.symm
        have hle1 := flat_le bss 1
        rw [h01] at hx hr3 hc3
        generalize hmm : bss.flatten.length = m at *
        generalize hb1 : (bss.take 1).flatten = b0 at *
        refine G.exit rfl <| G.seq <| G.reg <| W.q (mv rfl) rfl <| W.mnz makeNoZero_call Try.underlying22 rfl (by omega) rfl fun b9 cs9 hcl hcm => W.q (mv rfl) rfl <| W.q (mv rfl) rfl <| W.q (shm Try.esl22 rfl rfl rfl (by omega) (by omega) (by omega)) rfl <| W.q (sa rfl) rfl <| W.nil <| G.seq <| G.reg <| W.q (mv rfl) rfl <| W.q (mv rfl) rfl <| W.q (ia Try.esl73 rfl rfl (by omega) (by omega)) rfl <| W.q (ld Try.sc22 rfl (Cell.old rfl (by simpa using hx))) rfl <| W.cp Try.underlying22 Try.sz5 rfl rfl (RdS.old rfl hr3) (by rw [Bl]; omega) (B_one _) (RdL.nilB hr3) .hd (by rw [Bl]; omega) (setAt_hd _ _ (by rw [Bl]; omega)) rfl <| W.q (sa rfl) rfl <| W.nil <| G.seq <| G.seq <| G.reg <| W.q (mv rfl) rfl <| W.q (slo Try.esl73 rfl rfl (by omega) (by omega)) rfl <| W.q (ln Try.esl73 rfl) rfl <| W.q (mv rfl) rfl <| W.nil <| G.blk <| ?_
        rw [slA_some (by omega)]
        refine G.loop2 (α := Nat) (β := List Value) (fun k junk => k + 1 ≤ vs.length ∧ (bss.take (k + 1)).flatten.length + junk.length = cs9.length) (fun k junk => [(9, i64 (((bss.take (k + 1)).flatten.length : Nat) : Int)), (72, i64 k)]) (fun k junk => [nb b9 (B (bss.take (k + 1)).flatten ++ junk) 5]) (fun k junk => vs.length - k) [(1, _), (8, _), (70, _), (71, _)] [] 0 (cs9.drop b0.length) ⟨by omega, by rw [List.length_drop, hb1]; omega⟩ (Sub.co rfl ?_ <| Sub.cons rfl <| Sub.cons rfl <| Sub.cons rfl <| Sub.cons rfl <| Sub.cons rfl <| Sub.nil _) (Ent.eq (by rw [hb1, Bl]; rfl)) (fun k junk hk ih2 => ?_)
        · rw [Nat.zero_add, hb1, Nat.min_eq_left (by omega)]
        refine G.seq <| G.reg <| W.q (lt rfl rfl) rfl <| W.nil <| G.seq <| G.cdd rfl (fun h6 => ?_) (fun h6 => ?_)
        · -- h6 True
          have h6' : k + 1 < bss.length := by omega
          obtain ⟨v, hv, a4, c4, rfl, hr4, hc4⟩ := hp.get (k + 1) h6'
          obtain ⟨yb, yo, hyy, hy⟩ := hl (k + 1) _ hv
          have hfs := flat_succ bss (k + 1) h6'
          have hup := congrArg List.length hfs
          rw [List.length_append] at hup
          have hle := flat_le bss (k + 1 + 1)
          rw [hmm] at hle
          generalize bss[k + 1] = bk at *
          generalize hdn : (bss.take (k + 1)).flatten = dn at *
          have hdl : (B dn).length = dn.length := by simp
          have e0 : ∀ x : Nat, (dn.length : Int) + ((min 0 x : Nat) : Int) = (dn.length : Int) := by intro x; simp
          obtain ⟨o1, ho1, ho1'⟩ := slA_ex b9 0 dn.length m 1
          have ho1l : o1 ≤ dn.length := by
            rcases Nat.lt_or_ge dn.length m with h | h
            · rw [ho1' h]; omega
            · unfold slA at ho1; rw [if_pos (by omega)] at ho1; simp at ho1; omega
          have hset : setAt (B dn ++ junk) o1 (B bk) = B (bss.take (k + 1 + 1)).flatten ++ junk.drop bk.length := by
            rcases Nat.lt_or_ge dn.length m with h | h
            · have := setAt_mid (B dn) junk (B bk) (by simp; omega)
              rw [ho1' h, hfs]; simpa [B] using this
            · have : bk = [] := List.eq_nil_of_length_eq_zero (by omega)
              subst this
              rw [hfs]; simp [setAt_nil]
          refine G.skip <| G.seq <| G.blk <| G.seq <| G.reg <| W.q (ia Try.esl73 rfl rfl (by omega) (by omega)) rfl <| W.q (ld Try.sc22 rfl (Cell.old rfl (by cases hyy; simpa [Nat.add_assoc, Nat.add_comm, Nat.add_left_comm] using hy))) rfl <| W.q (sa rfl) rfl <| W.nil <| G.seq <| G.reg <| W.q (mv rfl) rfl <| W.q (mv rfl) rfl <| W.q (mv rfl) rfl <| W.q (slo Try.esl22 rfl rfl (by omega) (by omega)) rfl <| W.q (mv rfl) rfl <| W.cpx (news := []) (o := o1) Try.underlying22 Try.sz5 rfl ho1 rfl RdS.nil (by simp) rfl (fun _ => rfl) .hd (by simp; omega) (setAt_nil _ _) rfl <| W.q (ad rfl rfl (by omega)) rfl <| W.q (sa rfl) rfl <| W.nil <| ?_
          rw [e0]
          refine G.reg <| W.q (mv rfl) rfl <| W.q (mv rfl) rfl <| W.q (mv rfl) rfl <| W.q (slo Try.esl22 rfl rfl (by omega) (by omega)) rfl <| W.q (mv rfl) rfl <| W.cpx (news := B bk) (o := o1) Try.underlying22 Try.sz5 rfl ho1 rfl (RdS.old rfl hr4) (by simp; omega) (B_one _) (RdL.nilB hr4) .hd (by simp; omega) hset rfl <| W.q (ad rfl rfl (by omega)) rfl <| W.q (sa rfl) rfl <| W.nil <| G.inb <| G.reg <| W.q (ad rfl rfl (by omega)) rfl <| W.q (mv rfl) rfl <| W.nil <| (ih2 (k + 1) (junk.drop bk.length) ⟨by omega, by rw [hfs]; simp; omega⟩ (by omega)).weak (Sub.co rfl ?_ <| Sub.cons rfl <| Sub.cons rfl <| Sub.cons rfl <| Sub.cons rfl <| Sub.cons rfl <| Sub.nil _) .rfl
          all_goals clear ih2
          · show i64 _ = i64 _; congr 1; omega
        · -- h6 False
          have hfin : bss.take (k + 1) = bss := List.take_of_length_le (by omega)
          rw [hfin] at hk ⊢
          refine G.exit rfl <| G.seq <| G.reg <| W.q (mv rfl) rfl <| W.q (sa rfl) rfl <| W.nil <| ret1 hX Try.results76 rfl fun w hm => done (H := [sl (some ⟨b9, 0, none⟩) m m 5 1 (B bss.flatten)]) rfl ⟨some ⟨b9, 0, none⟩, m, ?_, ?_⟩ (by have := hm.rowSl (m := m) (cap := m) (s := 1) (by rw [List.length_append, Bl]; omega) (Nat.le_refl _) (by omega); rwa [List.take_left' (by rw [Bl]; omega)] at this)
          · rw [hmm]; rfl
          · rw [hmm]


set_option maxRecDepth 100000 in
theorem codec_Join (a : Option Addr) (cap : Nat) (vs : List Value) (bss : List (List UInt8)) (w : World) (hl : RdL w a vs) (hp : IsBs w vs bss) (hb : bss.flatten.length ≤ 140737488351232) (hn : vs.length ≤ 140737488351232) (hcap : vs.length ≤ cap) :
    Ret Try.prog 44 [.slice a vs.length cap] w (NewB bss.flatten) := by
  refine enter [] (Mem.nil _) Try.func44 rfl Try.ntmps44 rfl (fun X hX => ?_)
  have hw := hX.w0; subst hw
  refine G.seq <| G.reg <| W.q (sa rfl) rfl <| W.nil <| G.seq <| G.reg <| W.q (mv rfl) rfl <| W.fn Try.ca76 rfl (fun w hm => bytes_Join a cap vs bss w (hm.rd rfl hl) (hm.isBs rfl hp) hb hn hcap) rfl fun v J hv hJ => ?_
  obtain ⟨a1, c1, rfl, rfl⟩ := hv
  refine W.q (sa rfl) rfl <| W.nil <| ret1 hX Try.results44 rfl fun w hm => done rfl ⟨a1, c1, rfl, rfl⟩ hm
end Go.Proofs.Ytjalojbihpdghaa
