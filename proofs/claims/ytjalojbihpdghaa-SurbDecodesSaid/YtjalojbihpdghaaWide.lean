/- The wide cipher, the program's and the document's. -/
import Derived.Test.YtjalojbihpdghaaCha3
namespace Go.Eng
section
variable {P : Program} {n : Nat} {X : Cx} {todo : List Item} {e : Env} {H : List It} {ops : Array Oper} {l : List Oper} {d : Nat} {T : TypeId} {p : String} {af : Array Edge} {v : Value} {K : Kt} {w0 : World}
/-- copy into a slice of one's own. -/
theorem W.cpS {S S' E E' s s' g o m cap dl dc k c : Nat} {x y : Operand} {a' a2 : Option Addr} {xs news xs' : List Value} {H' : List It} (hS : P.underlying S = some (.slice E)) (hs : sz P E = some s) (hx : ev e x = some (.slice a' dl dc)) (ha : a' = some ⟨g, o, none⟩) (hy : ev e y = some (.slice a2 k c))
    (hsrc : RdS X.w0 H a2 news) (hl : news.length = min k dl * s) (h1 : news.all (·.oneCell') = true) (hnil : a2 = none → k = 0)
    (hr : Rep H (sl (some ⟨g, 0, none⟩) m cap E' s' xs) (sl (some ⟨g, 0, none⟩) m cap E' s' xs') H') (ho : o + news.length ≤ m * s') (hc : setAt xs o news = xs') (hd : Nat.blt d n = true)
    (hk : W (.sq K) P n X ops todo l ((d, i64 (min k dl : Nat)) :: e) H') : W (.sq K) P n X ops todo (⟨some d, .call ⟨.builtin .copy, #[x, y], #[S, S']⟩, T, p, af, none⟩ :: l) e H := by
  subst ha
  refine W.eff rfl fun a w hf hm => ?_
  obtain ⟨w', hst, hm'⟩ := slStore (P := P) hm h1 hr ho hc
  have hfc : (Builtin.firstCells s (min k dl) (.slice a2 k c)).run P w = .ok news.toArray w := by
    cases a2 with
    | none =>
      have hk0 := hnil rfl
      subst hk0
      have : news = [] := List.eq_nil_of_length_eq_zero (by simpa using hl)
      subst this
      exact run_firstCells_none w s _ 0 c
    | some q =>
      refine run_firstCells_some w s (min k dl) q k c news hl (fun j u hu => ?_)
      obtain ⟨b', o', hq, hc'⟩ := hsrc w hm j u hu
      cases hq
      rw [add_ad]; exact hc'
  refine ⟨w', .value (i64 (min k dl : Nat)), ?_, .inl ⟨_, rfl, hk _ _ (hf.put _ hd) hm'⟩⟩
  have hmin : Nat.min k dl = min k dl := rfl
  simp [execOp, resolve, invoke, builtin, hf.eval hx, hf.eval hy, Builtin.copy_, run_underlying hS, Builtin.lenOf, sz_run hs, hmin, hfc, hst, goInt]
end
end Go.Eng
namespace Go.Proofs.Ytjalojbihpdghaa
open Go Go.Eng
set_option linter.unusedVariables false

/-- One round, on the two parts. -/
def wrd (k : List UInt8) (n : Nat) (p : List UInt8 × List UInt8) : List UInt8 × List UInt8 := if n % 2 = 0 then (xorB p.1 (hmac k p.2), p.2) else (p.1, xorB p.2 (strm (xorB p.1 k) 0 p.2.length))
theorem wrd_len (k : List UInt8) (n : Nat) (p : List UInt8 × List UInt8) (h : p.1.length = 32) : (wrd k n p).1.length = 32 ∧ (wrd k n p).2.length = p.2.length := by
  unfold wrd
  split
  · exact ⟨by rw [xorB_len _ _ (by rw [hmac_len, h])]; exact h, rfl⟩
  · exact ⟨h, by rw [xorB_len _ _ (strm_len _ _ _)]⟩
def wideL : List ByteArray := [ByteArray.mk #[119, 105, 100, 101, 49], ByteArray.mk #[119, 105, 100, 101, 50], ByteArray.mk #[119, 105, 100, 101, 51], ByteArray.mk #[119, 105, 100, 101, 52]]
theorem wideL_len : wideL.length = 4 := rfl
def wkey (key : List UInt8) (n : Nat) : List UInt8 := hkdf key (strB (wideL.getD (n - 1) default))
theorem wkey_len (key : List UInt8) (n : Nat) : (wkey key n).length = 32 := hkdf_len _ _
def wrds (key : List UInt8) (ns : List Nat) (p : List UInt8 × List UInt8) : List UInt8 × List UInt8 := ns.foldl (fun p n => wrd (wkey key n) n p) p
theorem wrds_len (key : List UInt8) (ns : List Nat) (p : List UInt8 × List UInt8) (h : p.1.length = 32) : (wrds key ns p).1.length = 32 ∧ (wrds key ns p).2.length = p.2.length := by
  induction ns generalizing p with
  | nil => exact ⟨h, rfl⟩
  | cons n ns ih =>
    obtain ⟨h1, h2⟩ := wrd_len (wkey key n) n p h
    obtain ⟨h3, h4⟩ := ih _ h1
    exact ⟨h3, h4.trans h2⟩
theorem wrds_succ (key : List UInt8) (ns : List Nat) (p : List UInt8 × List UInt8) (k : Nat) (h : k < ns.length) : wrds key (ns.take (k + 1)) p = wrd (wkey key ns[k]) ns[k] (wrds key (ns.take k) p) := by
  rw [wrds, List.take_succ_eq_append_getElem h, List.foldl_append]; rfl
def wideB (key : List UInt8) (ns : List Nat) (b : List UInt8) : List UInt8 := (wrds key ns (b.take 32, b.drop 32)).1 ++ (wrds key ns (b.take 32, b.drop 32)).2
theorem wideB_len (key : List UInt8) (ns : List Nat) (b : List UInt8) (h : 32 ≤ b.length) : (wideB key ns b).length = b.length := by
  obtain ⟨h1, h2⟩ := wrds_len key ns (b.take 32, b.drop 32) (by simp; omega)
  rw [wideB, List.length_append, h1, h2]; simp; omega
theorem keysC_cells (ks : List (List UInt8)) (h : ∀ k ∈ ks, k.length = 32) (k : Nat) (hk : k < ks.length) (i : Nat) (v : Value) (hv : (B ks[k])[i]? = some v) : (keysC ks)[k * 32 + i]? = some v := by
  induction ks generalizing k with
  | nil => simp at hk
  | cons x xs ih =>
    have hx := h x List.mem_cons_self
    have e : keysC (x :: xs) = B x ++ keysC xs := rfl
    rw [e]
    cases k with
    | zero =>
      have := (List.getElem?_eq_some_iff.1 hv).1
      rw [List.getElem?_append_left (by simp at this ⊢; omega)]; simpa using hv
    | succ k =>
      rw [List.getElem?_append_right (by rw [Bl]; omega), Bl, hx, show (k + 1) * 32 + i - 32 = k * 32 + i by omega]
      exact ih (fun k hk => h k (List.mem_cons_of_mem _ hk)) k (by simpa using hk) (by simpa using hv)
theorem wk_cells {w0 : World} {H : List It} {g : Nat} {key : List UInt8} {m cap E s : Nat} (hi : sl (some ⟨g, 0, none⟩) m cap E s (keysC (wideL.map (fun s => hkdf key (strB s)))) ∈ H) (n o : Nat) (h1 : 1 ≤ n) (h4 : n ≤ 4) (ho : o = (n - 1) * 32) : Cells w0 H g o (B (wkey key n)) := fun i v hv => by
  subst ho
  have := Cells.sl (w0 := w0) hi ((n - 1) * 32 + i) v (keysC_cells _ (fun k hk => ?_) (n - 1) (by simp [wideL_len]; omega) i v ?_)
  rwa [Nat.zero_add] at this
  · obtain ⟨x, _, rfl⟩ := List.mem_map.1 hk; exact hkdf_len _ _
  · simpa [wkey, List.getD_eq_getElem?_getD, List.getElem?_eq_getElem (show n - 1 < wideL.length by rw [wideL_len]; omega)] using hv
theorem setR (l r r' : List UInt8) (o : Nat) (ho : o = l.length) (h : r'.length = r.length) : setAt (B (l ++ r)) o (B r') = B (l ++ r') := by
  subst ho
  have := setAt_mid (B l) (B r) (B r') (by simp [h])
  rw [Bl] at this
  rw [show B (l ++ r) = B l ++ B r from List.map_append, this, List.drop_eq_nil_of_le (by simp [h])]; simp
theorem setL (l l' r : List UInt8) (h : l'.length = l.length) : setAt (B (l ++ r)) 0 (B l') = B (l' ++ r) := by
  rw [setAt_hd _ _ (by simp [h]), Bl, h, show B (l ++ r) = B l ++ B r from List.map_append, List.drop_append_of_le_length (by simp), List.drop_eq_nil_of_le (by simp)]; simp


set_option maxRecDepth 100000 in
theorem wide_check (a : Option Addr) (len cap : Nat) (a2 : Option Addr) (len2 cap2 : Nat) (w : World) (h : len = 32) (h1 : 32 ≤ len2) (h2 : len2 ≤ 4096) :
    Ret Try.prog 94 [.slice a len cap, .slice a2 len2 cap2] w (fun v _ => v = i64 0) := by
  refine enter [] (Mem.nil _) Try.func94 rfl Try.ntmps94 rfl (fun X hX => ?_)
  have hw := hX.w0; subst hw
  refine G.seq <| G.reg <| W.q (sa rfl) rfl <| W.nil <| G.seq <| G.seq <| G.reg <| W.q (mv rfl) rfl <| W.q (ln Try.esl22 rfl) rfl <| W.q (ne rfl rfl) rfl <| W.q (mv rfl) rfl <| W.sp (t := _) 8 rfl (fun g1 => ?_) (fun g1 => ?_)
  · -- True
    exact absurd (of_decide_eq_true g1) (by omega)
  · -- False
    refine W.qg rfl rfl g1 (mv rfl) rfl <| W.qg rfl rfl g1 (ln Try.esl22 rfl) rfl <| W.qg rfl rfl g1 (lt rfl rfl) rfl <| W.q (pkf rfl g1 rfl) rfl <| W.q (mv rfl) rfl <| W.sp (t := _) 13 rfl (fun g2 => ?_) (fun g2 => ?_)
    · -- True
      exact absurd (of_decide_eq_true g2) (by omega)
    · -- False
      refine W.qg rfl rfl g2 (mv rfl) rfl <| W.qg rfl rfl g2 (ln Try.esl22 rfl) rfl <| W.qg rfl rfl g2 (gt rfl rfl) rfl <| W.q (pkf rfl g2 rfl) rfl <| W.nil <| G.cdf rfl (decide_eq_false (by omega)) <| G.skip <| G.seq <| G.reg <| W.q (sa rfl) rfl <| W.nil <| ret1 hX Try.results94 rfl fun w hm => done rfl rfl hm


set_option maxRecDepth 100000 in
theorem wide_round (w0 : World) (H : List It) (hH : allNew H = true) (g m cap : Nat) (k l r : List UInt8) (hk : k.length = 32) (hl : l.length = 32) (hr : 0 < r.length) (hb : r.length ≤ 4096) (hm : m = 32 + r.length) (hcap : m ≤ cap) (n : Nat) {ni : Int} (hni : ni = n) :
    RetF Try.prog 96 [i64 ni, .agg (B k).toArray, .slice (some ⟨g, 0, none⟩) m cap] w0 H [sl (some ⟨g, 0, none⟩) m cap 5 1 (B (l ++ r))] (fun v J => J = [sl (some ⟨g, 0, none⟩) m cap 5 1 (B ((wrd k n (l, r)).1 ++ (wrd k n (l, r)).2))]) := by
  subst hni; subst hm
  refine enterF Try.func96 rfl Try.ntmps96 rfl (fun X hX => ?_)
  have hw := hX.w0; subst hw
  have hsa : slA (some ⟨g, 0, none⟩) (32 : Int).toNat cap 1 = some ⟨g, 32, none⟩ := by rw [slA, if_neg (by show ¬ cap = 32; omega)]; rfl
  have hrdl : ∀ {w : World} {H' : List It}, Mem X.w0 w H' → sl (some ⟨g, 0, none⟩) (32 + r.length) cap 5 1 (B (l ++ r)) ∈ H' → RdL w (some ⟨g, 0, none⟩) (B l) := fun hm' hi => by
    have := (hm'.slRd hi).takeB 32
    rwa [List.take_append_of_le_length (by omega), List.take_of_length_le (by omega)] at this
  have hrdr : ∀ {w : World} {H' : List It}, Mem X.w0 w H' → sl (some ⟨g, 0, none⟩) (32 + r.length) cap 5 1 (B (l ++ r)) ∈ H' → RdL w (slA (some ⟨g, 0, none⟩) (32 : Int).toNat cap 1) (B r) := fun hm' hi => by
    have := (hm'.slRd hi).dropB 32 cap (by simp; omega)
    rwa [List.drop_append_of_le_length (by omega), List.drop_eq_nil_of_le (by omega), List.nil_append] at this
  refine G.seq <| G.reg <| W.bxa rfl rfl fun b1 => W.nil <| G.seq <| G.regq Try.mixed (by kernel_rfl) <| W.q (mv rfl) rfl <| W.q (shi Try.esl22 rfl rfl (by omega) (by omega)) rfl <| W.q (mv rfl) rfl <| W.q (slo Try.esl22 rfl rfl (by omega) (by omega)) rfl <| W.q (sa rfl) rfl <| W.q (sa rfl) rfl <| W.nilq <| G.seq <| G.seq <| G.reg <| W.q (mv rfl) rfl <| W.q (rm rfl rfl (by omega) (by omega)) rfl <| W.q (eq rfl rfl) rfl <| W.nil <| G.cdd rfl (fun h1 => ?_) (fun h1 => ?_)
  · -- h1 True
    have hne : n % 2 = 0 := by omega
    have hW : wrd k n (l, r) = (xorB l (hmac k r), r) := by rw [wrd, if_pos hne]
    refine G.seq <| G.reg <| W.q (saa Try.ear24 rfl ) rfl <| W.q (mv rfl) rfl <| W.bs (cs := [_]) Try.underlying73 Try.sz22 Try.zrl22 rfl rfl rfl rfl fun b2 => W.fv Try.ca110 rfl (fun w hm => by have := mac_Tag (some ⟨b1, 0, none⟩) 32 32 k (some ⟨b2, 0, none⟩) 1 1 [(slA (some ⟨g, 0, none⟩) (32 : Int).toNat cap 1, cap - (32 : Int).toNat, r)] w hk.symm (hm.rowRd (.tl <| .hd)) (by omega) (by omega) rfl (rd1 (hm.rowRd .hd) (by omega)) (.cons (hrdr hm (.tail _ <| .tail _ <| .head _)) (by omega) .nil) (by simp) (by simp [catP]; omega); rw [cat_1] at this; exact this) rfl <| W.al Try.zrl24 rfl fun b3 => W.sta Try.sz24 rfl rfl (by simp [hmac_len]) (B_one _) .hd (by simp) <| W.nil <| G.seq <| G.reg <| W.q (mv rfl) rfl <| W.q (saa Try.ear24 rfl ) rfl <| W.bs (cs := [_, _]) Try.underlying73 Try.sz22 Try.zrl22 rfl rfl rfl rfl fun b4 => W.fn Try.ca71 rfl (fun w hm => codec_Xor2 (some ⟨b4, 0, none⟩) 2 (some ⟨g, 0, none⟩) (some ⟨b3, 0, none⟩) (32 : Int).toNat 32 cap 32 l (hmac k r) w (by omega) (hm.rowRd .hd) hl.symm (hmac_len _ _).symm (hrdl hm (.tail _ <| .tail _ <| .tail _ <| .tail _ <| .head _)) (hm.rowRd (.tl <| .hd)) (by rw [hmac_len, hl]) (by omega)) rfl fun v J hv hJ => ?_
    obtain ⟨v1, ⟨a3, c3, rfl, rfl⟩, rfl⟩ := hv
    rw [xorB_len _ _ (by rw [hmac_len, hl])]
    refine W.slAt (a := a3) (m := _) (cap := c3) (E := 5) (s := 1) (xs := _) (.head _) (fun q1 q2 q3 q4 => ?_)
    refine W.q (mv rfl) rfl <| W.q (ex rfl rfl) rfl <| W.q (ex rfl rfl) rfl <| W.q (sa rfl) rfl <| W.q (sa rfl) rfl <| W.nil <| G.seq <| G.reg <| W.q (mv rfl) rfl <| W.q (mv rfl) rfl <| W.cpS (xs' := B (xorB l (hmac k r) ++ r)) Try.underlying22 Try.sz5 rfl rfl rfl (RdS.sl (.head _)) (by rw [Bl, xorB_len _ _ (by rw [hmac_len, hl])]; omega) (B_one _) (slAt_nil q4) (.tl <| .tl <| .tl <| .tl <| .tl <| .hd) (by rw [Bl, xorB_len _ _ (by rw [hmac_len, hl])]; omega) (setL _ _ _ (xorB_len _ _ (by rw [hmac_len, hl]))) rfl <| W.nil <| ret0' hX Try.results96 fun w hm => doneF (Pre' := [sl (some ⟨g, 0, none⟩) (32 + r.length) cap 5 1 (B (xorB l (hmac k r) ++ r))]) rfl (by rw [hW]) hm (Dr.ent (.drop rfl <| .drop rfl <| .drop rfl <| .drop rfl <| .drop rfl <| .keep <| .rfl))
  · -- h1 False
    have hne : ¬ n % 2 = 0 := by omega
    have hW : wrd k n (l, r) = (l, xorB r (strm (xorB l k) 0 r.length)) := by rw [wrd, if_neg hne]
    refine G.skip <| G.seq <| G.reg <| W.q (mv rfl) rfl <| W.q (saa Try.ear24 rfl ) rfl <| W.bs (cs := [_, _]) Try.underlying73 Try.sz22 Try.zrl22 rfl rfl rfl rfl fun b5 => W.fn Try.ca71 rfl (fun w hm => codec_Xor2 (some ⟨b5, 0, none⟩) 2 (some ⟨g, 0, none⟩) (some ⟨b1, 0, none⟩) (32 : Int).toNat 32 cap 32 l k w (by omega) (hm.rowRd .hd) hl.symm hk.symm (hrdl hm (.tail _ <| .tail _ <| .head _)) (hm.rowRd (.tl <| .hd)) (by rw [hk, hl]) (by omega)) rfl fun v J hv hJ => ?_
    obtain ⟨v1, ⟨a3, c3, rfl, rfl⟩, rfl⟩ := hv
    rw [xorB_len _ _ (by rw [hk, hl])]
    refine W.slAt (a := a3) (m := _) (cap := c3) (E := 5) (s := 1) (xs := _) (.head _) (fun q1 q2 q3 q4 => ?_)
    refine W.q (mv rfl) rfl <| W.q (ex rfl rfl) rfl <| W.q (ex rfl rfl) rfl <| W.q (sa rfl) rfl <| W.q (sa rfl) rfl <| W.nil <| G.seq <| G.reg <| W.q (mv rfl) rfl <| W.q (mv rfl) rfl <| W.bs (cs := [_]) Try.underlying73 Try.sz22 Try.zrl22 rfl rfl rfl rfl fun b6 => W.fn Try.ca87 rfl (fun w hm => cha_Turn a3 l.length c3 (xorB l k) (some ⟨b6, 0, none⟩) 1 1 [(slA (some ⟨g, 0, none⟩) (32 : Int).toNat cap 1, cap - (32 : Int).toNat, r)] w (xorB_len _ _ (by rw [hk, hl])).symm (hm.slRd (.tail _ <| .head _)) (by rw [xorB_len _ _ (by rw [hk, hl])]; exact hl) rfl (rd1 (hm.rowRd .hd) (by omega)) (.cons (hrdr hm (.tail _ <| .tail _ <| .tail _ <| .tail _ <| .head _)) (by omega) .nil) (by simp) (by simp) (by simp [catP]; omega)) rfl fun v J hv hJ => ?_
    rw [cat_1] at hv
    obtain ⟨v1, ⟨a4, c4, rfl, rfl⟩, rfl⟩ := hv
    rw [xorB_len _ _ (strm_len _ _ _)]
    refine W.slAt (a := a4) (m := _) (cap := c4) (E := 5) (s := 1) (xs := _) (.head _) (fun p1 p2 p3 p4 => ?_)
    refine W.q (mv rfl) rfl <| W.q (ex rfl rfl) rfl <| W.q (ex rfl rfl) rfl <| W.q (sa rfl) rfl <| W.q (sa rfl) rfl <| W.nil <| G.reg <| W.q (mv rfl) rfl <| W.q (mv rfl) rfl <| W.cpS (xs' := B (l ++ xorB r (strm (xorB l k) 0 r.length))) Try.underlying22 Try.sz5 rfl hsa rfl (RdS.sl (.head _)) (by rw [Bl, xorB_len _ _ (strm_len _ _ _)]; omega) (B_one _) (slAt_nil p4) (.tl <| .tl <| .tl <| .tl <| .tl <| .hd) (by rw [Bl, xorB_len _ _ (strm_len _ _ _)]; omega) (setR _ _ _ _ hl.symm (xorB_len _ _ (strm_len _ _ _))) rfl <| W.nil <| ret0 hX Try.results96 fun w hm => doneF (Pre' := [sl (some ⟨g, 0, none⟩) (32 + r.length) cap 5 1 (B (l ++ xorB r (strm (xorB l k) 0 r.length)))]) rfl (by rw [hW]) hm (Dr.ent (.drop rfl <| .drop rfl <| .drop rfl <| .drop rfl <| .drop rfl <| .keep <| .rfl))


set_option maxRecDepth 100000 in
theorem wide_Rounds (a : Option Addr) (len cap : Nat) (key : List UInt8) (a2 : Option Addr) (len2 cap2 : Nat) (bs : List UInt8) (pa : Option Addr) (pl pc : Nat) (ns : List Nat) (w : World) (hlen : len = key.length) (hl : RdL w a (B key)) (hk : key.length = 32) (hcap : key.length ≤ cap) (hlen2 : len2 = bs.length) (hl2 : RdL w a2 (B bs)) (hb1 : 32 < bs.length) (hb2 : bs.length ≤ 4096) (hpl : pl = ns.length) (hpa : RdL w pa (ns.map (fun n : Nat => i64 (n : Int)))) (hns : ∀ n ∈ ns, 1 ≤ n ∧ n ≤ 4) (hnl : ns.length ≤ 1000000) :
    Ret Try.prog 73 [.slice a len cap, .slice a2 len2 cap2, .slice pa pl pc] w (fun v J => ∃ v1, NewB (wideB key ns bs) v1 J ∧ v = .tuple #[v1, i64 0]) := by
  subst hlen; subst hlen2; subst hpl
  refine enter [] (Mem.nil _) Try.func73 rfl Try.ntmps73 rfl (fun X hX => ?_)
  have hw := hX.w0; subst hw
  refine G.seq <| G.reg <| W.q (sa rfl) rfl <| W.q (sa rfl) rfl <| W.nil <| G.seq <| G.seq <| G.reg <| W.q (mv rfl) rfl <| W.q (ln Try.esl62 rfl) rfl <| W.q (mv rfl) rfl <| W.nil <| G.blk <| G.loop1 (α := Nat) (fun k => k ≤ ns.length) (fun k => [(17, i64 k)]) (fun k => []) (fun k => ns.length - k) [(0, _), (1, _), (2, _), (15, _), (16, _)] _ 0 (by omega) (Sub.cons rfl <| Sub.cons rfl <| Sub.cons rfl <| Sub.cons rfl <| Sub.cons rfl <| Sub.cons rfl <| Sub.nil _) .rfl (fun k hkk ih => ?_)
  refine G.seq <| G.reg <| W.q (lt rfl rfl) rfl <| W.nil <| G.seq <| G.cdd rfl (fun h1 => ?_) (fun h1 => ?_)
  · -- h1 True
    obtain ⟨zb, zo, rfl, hx⟩ := hpa.at k (by omega)
    have hn := hns _ (List.getElem_mem (show k < ns.length by omega))
    generalize hgn : ns[k] = nk at *
    refine G.skip <| G.seq <| G.blk <| G.seq <| G.reg <| W.q (ia Try.esl62 rfl rfl (by omega) (by omega)) rfl <| W.q (ld Try.sc3 rfl (Cell.old rfl (by simpa [hgn] using hx))) rfl <| W.q (sa rfl) rfl <| W.nil <| G.seq <| G.reg <| W.q (mv rfl) rfl <| W.q (lt rfl rfl) rfl <| W.q (mv rfl) rfl <| W.sp (t := _) 23 rfl (fun g2 => ?_) (fun g2 => ?_)
    · -- True
      exact absurd (of_decide_eq_true g2) (by omega)
    · -- False
      refine W.qg rfl rfl g2 (mv rfl) rfl <| W.qg rfl rfl g2 (gt rfl rfl) rfl <| W.q (pkf rfl g2 rfl) rfl <| W.nil <| G.cdf rfl (decide_eq_false (by omega)) <| G.skip <| G.inb <| G.reg <| W.q (ad rfl rfl (by omega)) rfl <| W.q (mv rfl) rfl <| W.nil <| (ih (k + 1) (by omega) (by omega)).weak (Sub.cons rfl <| Sub.cons rfl <| Sub.cons rfl <| Sub.cons rfl <| Sub.cons rfl <| Sub.cons rfl <| Sub.nil _) .rfl
  · -- h1 False
    refine G.exit rfl <| G.seq <| G.seq <| G.reg <| W.q (mv rfl) rfl <| W.q (mv rfl) rfl <| W.fv Try.ca94 rfl (fun w hm => wide_check a key.length cap a2 bs.length cap2 w hk (by omega) hb2) rfl <| W.q (sa rfl) rfl <| W.nil <| G.seq <| G.reg <| W.q (mv rfl) rfl <| W.q (ne rfl rfl) rfl <| W.nil <| G.cdf rfl rfl <| G.skip <| G.seq <| G.reg <| W.q (mv rfl) rfl <| W.bs (cs := [_, _, _, _]) Try.underlying186 Try.sz9 Try.zrl9 rfl rfl rfl rfl fun b1 => W.fn Try.ca95 rfl (fun w hm => mac_Derive a key.length cap key (some ⟨b1, 0, none⟩) 4 4 wideL w rfl (hm.rd rfl hl) (by omega) hcap rfl (hm.rowRd .hd) (by decide) (by decide)) rfl fun v J hv hJ => ?_
    obtain ⟨ka, kc, rfl, rfl⟩ := hv
    rw [wideL_len]
    refine W.slAt (a := ka) (m := 4) (cap := kc) (E := 24) (s := 32) (xs := _) (.head _) (fun q1 q2 q3 q4 => ?_)
    obtain ⟨kg, rfl⟩ : ∃ g, ka = some ⟨g, 0, none⟩ := by rcases q4 with ⟨_, _, h⟩ | h; cases h; exact h
    refine W.q (sa rfl) rfl <| W.nil <| G.seq <| G.reg <| W.q (mv rfl) rfl <| W.fn Try.ca57 rfl (fun w hm => bytes_Clonex (hm.rd rfl hl2) (by omega) rfl) rfl fun v J hv hJ => ?_
    obtain ⟨a3, c3, rfl, rfl⟩ := hv
    refine W.slAt (a := a3) (m := _) (cap := c3) (E := 5) (s := 1) (xs := _) (.head _) (fun p1 p2 p3 p4 => ?_)
    obtain ⟨g, rfl⟩ : ∃ g, a3 = some ⟨g, 0, none⟩ := by rcases p4 with ⟨_, _, h⟩ | h; omega; exact h
    refine W.q (sa rfl) rfl <| W.nil <| G.seq <| G.seq <| G.reg <| W.q (mv rfl) rfl <| W.q (ln Try.esl62 rfl) rfl <| W.q (mv rfl) rfl <| W.nil <| G.blk <| G.loop1 (α := Nat) (fun k => k ≤ ns.length) (fun k => [(41, i64 k)]) (fun k => [sl (some ⟨g, 0, none⟩) bs.length c3 5 1 (B ((wrds key (ns.take k) (bs.take 32, bs.drop 32)).1 ++ (wrds key (ns.take k) (bs.take 32, bs.drop 32)).2))]) (fun k => ns.length - k) [(11, _), (12, _), (39, _), (40, _)] _ 0 (by omega) (Sub.cons rfl <| Sub.cons rfl <| Sub.cons rfl <| Sub.cons rfl <| Sub.cons rfl <| Sub.nil _) (Ent.eq (by rw [List.take_zero, show wrds key [] (bs.take 32, bs.drop 32) = (bs.take 32, bs.drop 32) from rfl, List.take_append_drop])) (fun k hkk ih2 => ?_)
    refine G.seq <| G.reg <| W.q (lt rfl rfl) rfl <| W.nil <| G.seq <| G.cdd rfl (fun h5 => ?_) (fun h5 => ?_)
    · -- h5 True
      obtain ⟨zb, zo, rfl, hx⟩ := hpa.at k (by omega)
      have hn := hns _ (List.getElem_mem (show k < ns.length by omega))
      have hsu := wrds_succ key ns (bs.take 32, bs.drop 32) k (by omega)
      have hwl := wrds_len key (ns.take k) (bs.take 32, bs.drop 32) (by simp; omega)
      generalize hgn : ns[k] = nk at *
      refine G.skip <| G.seq <| G.blk <| G.seq <| G.reg <| W.q (ia Try.esl62 rfl rfl (by omega) (by omega)) rfl <| W.q (ld Try.sc3 rfl (Cell.old rfl (by simpa [hgn] using hx))) rfl <| W.q (sa rfl) rfl <| W.nil <| G.reg <| W.q (mv rfl) rfl <| W.q (mv rfl) rfl <| W.q (mv rfl) rfl <| W.q (sb rfl rfl (by omega)) rfl <| W.q (ia Try.esl45 rfl rfl (by omega) (by omega)) rfl <| W.q (lda Try.agg24 Try.sz24 rfl (wk_cells (.tail _ <| .head _) nk _ hn.1 hn.2 (by omega)) (by rw [Bl, wkey_len])) rfl <| W.q (mv rfl) rfl <| W.ff Try.ca96 rfl (Ent.perm (.refl _)) (wide_round X.w0 _ (by rfl) g bs.length c3 (wkey key nk) (wrds key (ns.take k) (bs.take 32, bs.drop 32)).1 (wrds key (ns.take k) (bs.take 32, bs.drop 32)).2 (wkey_len _ _) hwl.1 (by rw [hwl.2]; simp; omega) (by rw [hwl.2]; simp; omega) (by rw [hwl.2]; simp; omega) p2 nk rfl) rfl rfl fun v J hv hJ => ?_
      subst hv
      refine W.nil <| G.inb <| G.reg <| W.q (ad rfl rfl (by omega)) rfl <| W.q (mv rfl) rfl <| W.nil <| (ih2 (k + 1) (by omega) (by omega)).weak (Sub.cons rfl <| Sub.cons rfl <| Sub.cons rfl <| Sub.cons rfl <| Sub.cons rfl <| Sub.nil _) (Ent.eq (by rw [hsu]))
    · -- h5 False
      have hkl : k = ns.length := by omega
      subst hkl
      refine G.exit rfl <| G.seq <| G.reg <| W.q (mv rfl) rfl <| W.q (sa rfl) rfl <| W.q (sa rfl) rfl <| W.nil <| ret2 hX Try.results73 rfl rfl fun w hm => done (H := [sl (some ⟨g, 0, none⟩) (wideB key ns bs).length c3 5 1 (B (wideB key ns bs))]) rfl ⟨_, ⟨_, c3, rfl, rfl⟩, by rw [wideB_len _ _ _ (by omega)]⟩ (by have := Dr.ent (.keep <| .drop rfl <| .drop rfl <| .rfl) w hm; rw [List.take_length] at this; rw [wideB_len _ _ _ (by omega)]; exact this)


set_option maxRecDepth 100000 in
theorem wide_Seal (a : Option Addr) (len cap : Nat) (key : List UInt8) (a2 : Option Addr) (len2 cap2 : Nat) (bs : List UInt8) (w : World) (hlen : len = key.length) (hl : RdL w a (B key)) (hk : key.length = 32) (hcap : key.length ≤ cap) (hlen2 : len2 = bs.length) (hl2 : RdL w a2 (B bs)) (hb1 : 32 < bs.length) (hb2 : bs.length ≤ 4096) :
    Ret Try.prog 41 [.slice a len cap, .slice a2 len2 cap2] w (fun v J => ∃ v1, NewB (wideB key [1, 2, 3, 4] bs) v1 J ∧ v = .tuple #[v1, i64 0]) := by
  refine enter [] (Mem.nil _) Try.func41 rfl Try.ntmps41 rfl (fun X hX => ?_)
  have hw := hX.w0; subst hw
  refine G.seq <| G.reg <| W.q (sa rfl) rfl <| W.q (sa rfl) rfl <| W.nil <| G.seq <| G.reg <| W.q (mv rfl) rfl <| W.q (mv rfl) rfl <| W.bs (cs := [_, _, _, _]) Try.underlying62 Try.sz3 Try.zrl3 rfl rfl rfl rfl fun b1 => W.fn Try.ca73 rfl (fun w hm => wide_Rounds a len cap key a2 len2 cap2 bs (some ⟨b1, 0, none⟩) 4 4 [1, 2, 3, 4] w hlen (hm.rd rfl hl) hk hcap hlen2 (hm.rd rfl hl2) hb1 hb2 rfl (hm.rowRd .hd) (by decide) (by decide)) rfl fun v J hv hJ => ?_
  obtain ⟨v1, ⟨a3, c3, rfl, rfl⟩, rfl⟩ := hv
  refine W.q (ex rfl rfl) rfl <| W.q (ex rfl rfl) rfl <| W.q (sa rfl) rfl <| W.q (sa rfl) rfl <| W.nil <| ret2 hX Try.results41 rfl rfl fun w hm => done rfl ⟨_, ⟨a3, c3, rfl, rfl⟩, rfl⟩ (Dr.ent (.keep <| .drop rfl <| .rfl) w hm)


set_option maxRecDepth 100000 in
theorem wide_Open (a : Option Addr) (len cap : Nat) (key : List UInt8) (a2 : Option Addr) (len2 cap2 : Nat) (bs : List UInt8) (w : World) (hlen : len = key.length) (hl : RdL w a (B key)) (hk : key.length = 32) (hcap : key.length ≤ cap) (hlen2 : len2 = bs.length) (hl2 : RdL w a2 (B bs)) (hb1 : 32 < bs.length) (hb2 : bs.length ≤ 4096) :
    Ret Try.prog 46 [.slice a len cap, .slice a2 len2 cap2] w (fun v J => ∃ v1, NewB (wideB key [4, 3, 2, 1] bs) v1 J ∧ v = .tuple #[v1, i64 0]) := by
  refine enter [] (Mem.nil _) Try.func46 rfl Try.ntmps46 rfl (fun X hX => ?_)
  have hw := hX.w0; subst hw
  refine G.seq <| G.reg <| W.q (sa rfl) rfl <| W.q (sa rfl) rfl <| W.nil <| G.seq <| G.reg <| W.q (mv rfl) rfl <| W.q (mv rfl) rfl <| W.bs (cs := [_, _, _, _]) Try.underlying62 Try.sz3 Try.zrl3 rfl rfl rfl rfl fun b1 => W.fn Try.ca73 rfl (fun w hm => wide_Rounds a len cap key a2 len2 cap2 bs (some ⟨b1, 0, none⟩) 4 4 [4, 3, 2, 1] w hlen (hm.rd rfl hl) hk hcap hlen2 (hm.rd rfl hl2) hb1 hb2 rfl (hm.rowRd .hd) (by decide) (by decide)) rfl fun v J hv hJ => ?_
  obtain ⟨v1, ⟨a3, c3, rfl, rfl⟩, rfl⟩ := hv
  refine W.q (ex rfl rfl) rfl <| W.q (ex rfl rfl) rfl <| W.q (sa rfl) rfl <| W.q (sa rfl) rfl <| W.nil <| ret2 hX Try.results46 rfl rfl fun w hm => done rfl ⟨_, ⟨a3, c3, rfl, rfl⟩, rfl⟩ (Dr.ent (.keep <| .drop rfl <| .rfl) w hm)


set_option maxRecDepth 100000 in
theorem ref07_fits (a : Option Addr) (len cap : Nat) (a2 : Option Addr) (len2 cap2 : Nat) (w : World) (h : len = 32) (h1 : 32 ≤ len2) (h2 : len2 ≤ 4096) :
    Ret Try.prog 97 [.slice a len cap, .slice a2 len2 cap2] w (fun v _ => v = .bool true) := by
  refine enter [] (Mem.nil _) Try.func97 rfl Try.ntmps97 rfl (fun X hX => ?_)
  have hw := hX.w0; subst hw
  refine G.seq <| G.reg <| W.q (sa rfl) rfl <| W.nil <| G.seq <| G.reg <| W.q (mv rfl) rfl <| W.q (ln Try.esl22 rfl) rfl <| W.q (eq rfl rfl) rfl <| W.q (mv rfl) rfl <| W.sp (t := _) 8 rfl (fun g1 => ?_) (fun g1 => ?_)
  · -- True
    refine W.qg rfl rfl g1 (mv rfl) rfl <| W.qg rfl rfl g1 (ln Try.esl22 rfl) rfl <| W.qg rfl rfl g1 (ge rfl rfl) rfl <| W.q (pkt rfl g1 rfl) rfl <| W.q (mv rfl) rfl <| W.sp (t := _) 13 rfl (fun g2 => ?_) (fun g2 => ?_)
    · -- True
      refine W.qg rfl rfl g2 (mv rfl) rfl <| W.qg rfl rfl g2 (ln Try.esl22 rfl) rfl <| W.qg rfl rfl g2 (le rfl rfl) rfl <| W.q (pkt rfl g2 rfl) rfl <| W.q (sa rfl) rfl <| W.nil <| ret1 hX Try.results97 rfl fun w hm => done rfl (congrArg Value.bool (decide_eq_true (by omega))) hm
    · -- False
      exact absurd (of_decide_eq_false g2) (by omega)
  · -- False
    exact absurd (of_decide_eq_false g1) (by omega)

theorem wl_get (n o : Nat) (h1 : 1 ≤ n) (h4 : n ≤ 4) (ho : o = n - 1) : (wideL.map Value.string)[o]? = some (.string (wideL.getD (n - 1) default)) := by
  subst ho
  have : n - 1 < wideL.length := by rw [wideL_len]; omega
  rw [List.getElem?_map, List.getD_eq_getElem?_getD, List.getElem?_eq_getElem this]; rfl
theorem wl_size (n : Nat) (h1 : 1 ≤ n) (h4 : n ≤ 4) : (wideL.getD (n - 1) default).size ≤ 1000000 := by
  have : n = 1 ∨ n = 2 ∨ n = 3 ∨ n = 4 := by omega
  rcases this with rfl | rfl | rfl | rfl <;> decide


set_option maxRecDepth 100000 in
theorem ref07_Rounds (a : Option Addr) (len cap : Nat) (key : List UInt8) (a2 : Option Addr) (len2 cap2 : Nat) (bs : List UInt8) (pa : Option Addr) (pl pc : Nat) (ns : List Nat) (w : World) (hlen : len = key.length) (hl : RdL w a (B key)) (hk : key.length = 32) (hcap : key.length ≤ cap) (hlen2 : len2 = bs.length) (hl2 : RdL w a2 (B bs)) (hb1 : 32 < bs.length) (hb2 : bs.length ≤ 4096) (hpl : pl = ns.length) (hpa : RdL w pa (ns.map (fun n : Nat => i64 (n : Int)))) (hns : ∀ n ∈ ns, 1 ≤ n ∧ n ≤ 4) (hnl : ns.length ≤ 1000000) (hcap2 : bs.length ≤ cap2) :
    Ret Try.prog 75 [.slice a len cap, .slice a2 len2 cap2, .slice pa pl pc] w (fun v J => ∃ v1, NewB (wideB key ns bs) v1 J ∧ v = .tuple #[v1, i64 0]) := by
  subst hlen; subst hlen2; subst hpl
  refine enter [] (Mem.nil _) Try.func75 rfl Try.ntmps75 rfl (fun X hX => ?_)
  have hw := hX.w0; subst hw
  refine G.seq <| G.reg <| W.q (sa rfl) rfl <| W.q (sa rfl) rfl <| W.nil <| G.seq <| G.seq <| G.reg <| W.q (sa rfl) rfl <| W.nil <| G.blk <| G.loop1 (α := Nat) (fun k => k ≤ ns.length) (fun k => [(8, i64 k)]) (fun k => []) (fun k => ns.length - k) [(0, _), (1, _), (2, _)] _ 0 (by omega) (Sub.cons rfl <| Sub.cons rfl <| Sub.cons rfl <| Sub.cons rfl <| Sub.nil _) .rfl (fun k hkk ih => ?_)
  refine G.seq <| G.seq <| G.reg <| W.q (mv rfl) rfl <| W.q (mv rfl) rfl <| W.q (ln Try.esl62 rfl) rfl <| W.q (lt rfl rfl) rfl <| W.nil <| G.cdd rfl (fun h1 => ?_) (fun h1 => ?_)
  · -- h1 True
    obtain ⟨zb, zo, rfl, hx⟩ := hpa.at k (by omega)
    have hn := hns _ (List.getElem_mem (show k < ns.length by omega))
    generalize hgn : ns[k] = nk at *
    refine G.skip <| G.seq <| G.blk <| G.seq <| G.reg <| W.q (mv rfl) rfl <| W.q (mv rfl) rfl <| W.q (ia Try.esl62 rfl rfl (by omega) (by omega)) rfl <| W.q (ld Try.sc3 rfl (Cell.old rfl (by simpa [hgn] using hx))) rfl <| W.q (lt rfl rfl) rfl <| W.q (mv rfl) rfl <| W.sp (t := _) 29 rfl (fun g2 => ?_) (fun g2 => ?_)
    · -- True
      exact absurd (of_decide_eq_true g2) (by omega)
    · -- False
      refine W.qg rfl rfl g2 (mv rfl) rfl <| W.qg rfl rfl g2 (mv rfl) rfl <| W.qg rfl rfl g2 (ia Try.esl62 rfl rfl (by omega) (by omega)) rfl <| W.qg rfl rfl g2 (ld Try.sc3 rfl (Cell.old rfl (by simpa [hgn] using hx))) rfl <| W.qg rfl rfl g2 (gt rfl rfl) rfl <| W.q (pkf rfl g2 rfl) rfl <| W.nil <| G.cdf rfl (decide_eq_false (by omega)) <| G.skip <| G.inb <| G.reg <| W.q (mv rfl) rfl <| W.q (ad rfl rfl (by omega)) rfl <| W.q (sa rfl) rfl <| W.nil <| (ih (k + 1) (by omega) (by omega)).weak (Sub.cons rfl <| Sub.cons rfl <| Sub.cons rfl <| Sub.cons rfl <| Sub.nil _) .rfl
  · -- h1 False
    refine G.exit rfl <| G.seq <| G.seq <| G.reg <| W.q (mv rfl) rfl <| W.q (mv rfl) rfl <| W.fv Try.ca97 rfl (fun w hm => ref07_fits a key.length cap a2 bs.length cap2 w hk (by omega) hb2) rfl <| W.q (nt rfl) rfl <| W.nil <| G.cdf rfl rfl <| G.skip <| G.seq <| G.reg <| W.q (bldas (cs := [_, _, _, _]) Try.arp164 rfl rfl rfl rfl) rfl <| W.al Try.zrl164 rfl fun b1 => W.sta Try.sz164 rfl rfl (by simp [hmac_len, wkey_len]) rfl .hd (by simp) <| W.nil <| G.seq <| G.reg <| W.q (mv rfl) rfl <| W.q (shi Try.esl22 rfl rfl (by omega) (by omega)) rfl <| W.fn Try.ca13 rfl (fun w hm => ref01_Copyx (bs := bs.take 32) (hm.rd rfl (hl2.takeB 32)) (by simp; omega) (by simp; omega)) rfl fun v J hv hJ => ?_
    obtain ⟨a3, c3, rfl, rfl⟩ := hv
    rw [show (bs.take 32).length = 32 by simp; omega]
    refine W.q (sa rfl) rfl <| W.nil <| G.seq <| G.reg <| W.q (mv rfl) rfl <| W.q (slo Try.esl22 rfl rfl (by omega) (by omega)) rfl <| W.fn Try.ca13 rfl (fun w hm => ref01_Copyx (bs := bs.drop 32) (hm.rd rfl (hl2.dropB 32 cap2 hcap2)) (by simp; omega) (by simp)) rfl fun v J hv hJ => ?_
    obtain ⟨a4, c4, rfl, rfl⟩ := hv
    rw [show (bs.drop 32).length = bs.length - 32 by simp]
    refine W.q (sa rfl) rfl <| W.nil <| G.seq <| G.seq <| G.reg <| W.q (sa rfl) rfl <| W.nil <| G.blk <| G.loop5 (α := Nat) (β := Option Addr) (γ := Nat) (δ := Option Addr) (ε := Nat) (fun k a5 c5 a6 c6 => k ≤ ns.length) (fun k a5 c5 a6 c6 => [(10, .slice a5 32 c5), (11, .slice a6 (bs.length - 32) c6), (12, i64 k)]) (fun k a5 c5 a6 c6 => [sl a5 32 c5 5 1 (B (wrds key (ns.take k) (bs.take 32, bs.drop 32)).1), sl a6 (bs.length - 32) c6 5 1 (B (wrds key (ns.take k) (bs.take 32, bs.drop 32)).2)]) (fun k a5 c5 a6 c6 => ns.length - k) [(0, _), (2, _), (9, _)] _ 0 a3 c3 a4 c4 (by omega) (Sub.cons rfl <| Sub.cons rfl <| Sub.cons rfl <| Sub.cons rfl <| Sub.cons rfl <| Sub.cons rfl <| Sub.nil _) (Ent.perm (.trans (.refl _) (.trans (.cons _ (.refl _)) (.swap _ _ _)))) (fun k a5 c5 a6 c6 hkk ih2 => ?_)
    refine G.seq <| G.seq <| G.reg <| W.q (mv rfl) rfl <| W.q (mv rfl) rfl <| W.q (ln Try.esl62 rfl) rfl <| W.q (lt rfl rfl) rfl <| W.nil <| G.cdd rfl (fun h4 => ?_) (fun h4 => ?_)
    · -- h4 True
      obtain ⟨zb, zo, rfl, hx⟩ := hpa.at k (by omega)
      have hn := hns _ (List.getElem_mem (show k < ns.length by omega))
      have hsu := wrds_succ key ns (bs.take 32, bs.drop 32) k (by omega)
      have hwl := wrds_len key (ns.take k) (bs.take 32, bs.drop 32) (by simp; omega)
      generalize hgn : ns[k] = nk at *
      generalize wrds key (ns.take k) (bs.take 32, bs.drop 32) = LR at *
      have hR : LR.2.length = bs.length - 32 := by rw [hwl.2]; simp
      have hL := hwl.1
      refine G.skip <| G.seq <| G.blk <| G.seq <| G.reg <| W.q (mv rfl) rfl <| W.q (mv rfl) rfl <| W.q (mv rfl) rfl <| W.q (ia Try.esl62 rfl rfl (by omega) (by omega)) rfl <| W.q (ld Try.sc3 rfl (Cell.old rfl (by simpa [hgn] using hx))) rfl <| W.q (sb rfl rfl (by omega)) rfl <| W.q (iaa Try.ear164 rfl rfl (by omega) (by omega)) rfl <| W.q (ld Try.sc9 rfl (Cell.at (cs := wideL.map Value.string) (.tl <| .tl <| .hd) (wl_get nk _ hn.1 hn.2 (by omega)))) rfl <| W.fv Try.ca98 rfl (fun w hm => (show Ret _ _ _ _ (fun v _ => v = .agg (B (wkey key nk)).toArray) from ref03_Derive a key.length cap key (wideL.getD (nk - 1) default) w rfl (hm.rd rfl hl) (by omega) (wl_size nk hn.1 hn.2))) rfl <| W.al Try.zrl24 rfl fun b2 => W.sta Try.sz24 rfl rfl (by simp [hmac_len, wkey_len]) (B_one _) .hd (by simp) <| W.nil <| G.seq <| G.reg <| W.mkB (m := 0) Try.underlying22 Try.sz5 Try.zrl5 Try.by5 rfl rfl (by omega) (by omega) rfl fun b3 => W.q (sa rfl) rfl <| W.nil <| G.seq <| G.reg <| W.q (mv rfl) rfl <| W.q (mv rfl) rfl <| W.q (ia Try.esl62 rfl rfl (by omega) (by omega)) rfl <| W.q (ld Try.sc3 rfl (Cell.old rfl (by simpa [hgn] using hx))) rfl <| W.q (rm rfl rfl (by omega) (by omega)) rfl <| W.q (eq rfl rfl) rfl <| W.nil <| G.cdd rfl (fun h5 => ?_) (fun h5 => ?_)
      · -- h5 True
        have hne : ¬ nk % 2 = 0 := by omega
        have hW : wrd (wkey key nk) nk LR = (LR.1, xorB LR.2 (strm (xorB LR.1 (wkey key nk)) 0 LR.2.length)) := by rw [wrd, if_neg hne]
        have hxl : (xorB LR.1 (wkey key nk)).length = 32 := by rw [xorB_len _ _ (by rw [wkey_len, hL])]; exact hL
        refine G.seq <| G.reg <| W.q (mv rfl) rfl <| W.q (saa Try.ear24 rfl ) rfl <| W.bs (cs := [_, _]) Try.underlying73 Try.sz22 Try.zrl22 rfl rfl rfl rfl fun b4 => W.fn Try.ca99 rfl (fun w hm => ref01_Xor2 (some ⟨b4, 0, none⟩) 2 a5 (some ⟨b2, 0, none⟩) 32 32 c5 32 LR.1 (wkey key nk) w (by omega) (hm.rowRd .hd) hL.symm (wkey_len _ _).symm (hm.slRd (.tail _ <| .tail _ <| .tail _ <| .head _)) (hm.rowRd (.tl <| .tl <| .hd)) (by rw [wkey_len, hL]) (by omega)) rfl fun v J hv hJ => ?_
        obtain ⟨v1, ⟨a7, c7, rfl, rfl⟩, rfl⟩ := hv
        rw [hxl]
        refine W.q (mv rfl) rfl <| W.q (ex rfl rfl) rfl <| W.q (ex rfl rfl) rfl <| W.q (sa rfl) rfl <| W.q (sa rfl) rfl <| W.nil <| G.seq <| G.reg <| W.q (mv rfl) rfl <| W.q (mv rfl) rfl <| W.q (ln Try.esl22 rfl) rfl <| W.fn Try.ca100 rfl (fun w hm => ref04_Bytes a7 32 c7 (xorB LR.1 (wkey key nk)) 0 LR.2.length w rfl (by omega) hxl.symm (hm.slRd (.head _)) hxl (by omega)) rfl fun v J hv hJ => ?_
        obtain ⟨a8, c8, rfl, rfl⟩ := hv
        rw [strm_len]
        refine W.q (sa rfl) rfl <| W.nil <| G.reg <| W.q (mv rfl) rfl <| W.q (mv rfl) rfl <| W.bs (cs := [_, _]) Try.underlying73 Try.sz22 Try.zrl22 rfl rfl rfl rfl fun b5 => W.fn Try.ca99 rfl (fun w hm => ref01_Xor2 (some ⟨b5, 0, none⟩) 2 a6 a8 (bs.length - 32) LR.2.length c6 c8 LR.2 (strm (xorB LR.1 (wkey key nk)) 0 LR.2.length) w (by omega) (hm.rowRd .hd) hR.symm (strm_len _ _ _).symm (hm.slRd (.tail _ <| .tail _ <| .tail _ <| .tail _ <| .tail _ <| .tail _ <| .tail _ <| .head _)) (hm.slRd (m := LR.2.length) (cap := c8) (E := 5) (s := 1) (.tail _ <| .head _)) (strm_len _ _ _) (by omega)) rfl fun v J hv hJ => ?_
        obtain ⟨v1, ⟨a9, c9, rfl, rfl⟩, rfl⟩ := hv
        rw [xorB_len _ _ (strm_len _ _ _), hR]
        refine W.q (mv rfl) rfl <| W.q (ex rfl rfl) rfl <| W.q (ex rfl rfl) rfl <| W.q (sa rfl) rfl <| W.nil <| G.inb <| G.reg <| W.q (mv rfl) rfl <| W.q (ad rfl rfl (by omega)) rfl <| W.q (sa rfl) rfl <| W.nil <| ?_
        rw [hW, hR] at hsu
        refine (ih2 (k + 1) a5 c5 a9 c9 (by omega) (by omega)).weak (Sub.cons rfl <| Sub.cons rfl <| Sub.cons rfl <| Sub.cons rfl <| Sub.cons rfl <| Sub.cons rfl <| Sub.nil _) (fun w hm => (Ent.eq (by rw [hsu]; rfl)) w ((fun w hm => (Dr.ent (.keep <| .keep <| .keep <| .drop rfl <| .drop rfl <| .drop rfl <| .drop rfl <| .drop rfl <| .drop rfl <| .drop rfl <| .rfl)) w ((Ent.perm (.trans (.trans (.trans (.cons _ (.trans (.cons _ (.trans (.cons _ (.trans (.cons _ (.trans (.cons _ (.trans (.cons _ (.trans (.cons _ (.trans (.cons _ (.trans (.cons _ (.refl _)) (.swap _ _ _))) (.swap _ _ _))) (.swap _ _ _))) (.swap _ _ _))) (.swap _ _ _))) (.swap _ _ _))) (.swap _ _ _))) (.swap _ _ _))) (.swap _ _ _)) (.trans (.cons _ (.refl _)) (.swap _ _ _))) (.trans (.cons _ (.trans (.cons _ (.trans (.cons _ (.trans (.cons _ (.trans (.cons _ (.trans (.cons _ (.trans (.cons _ (.trans (.cons _ (.refl _)) (.swap _ _ _))) (.swap _ _ _))) (.swap _ _ _))) (.swap _ _ _))) (.swap _ _ _))) (.swap _ _ _))) (.swap _ _ _))) (.swap _ _ _)))) w hm)) w hm))
      · -- h5 False
        have hne : nk % 2 = 0 := by omega
        have hW : wrd (wkey key nk) nk LR = (xorB LR.1 (hmac (wkey key nk) LR.2), LR.2) := by rw [wrd, if_pos hne]
        refine G.seq <| G.reg <| W.q (saa Try.ear24 rfl ) rfl <| W.q (mv rfl) rfl <| W.fv Try.ca101 rfl (fun w hm => ref03_Tag (some ⟨b2, 0, none⟩) 32 32 (wkey key nk) w (wkey_len _ _).symm (hm.rowRd (.tl <| .hd)) (by rw [wkey_len]; omega) a6 (bs.length - 32) c6 LR.2 hR.symm (hm.slRd (.tail _ <| .tail _ <| .tail _ <| .head _)) (by omega)) rfl <| W.al Try.zrl24 rfl fun b6 => W.sta Try.sz24 rfl rfl (by simp [hmac_len, wkey_len]) (B_one _) .hd (by simp) <| W.nil <| G.seq <| G.reg <| W.q (saa Try.ear24 rfl ) rfl <| W.q (sa rfl) rfl <| W.nil <| G.reg <| W.q (mv rfl) rfl <| W.q (mv rfl) rfl <| W.bs (cs := [_, _]) Try.underlying73 Try.sz22 Try.zrl22 rfl rfl rfl rfl fun b7 => W.fn Try.ca99 rfl (fun w hm => ref01_Xor2 (some ⟨b7, 0, none⟩) 2 a5 (some ⟨b6, 0, none⟩) 32 32 c5 32 LR.1 (hmac (wkey key nk) LR.2) w (by omega) (hm.rowRd .hd) hL.symm (hmac_len _ _).symm (hm.slRd (.tail _ <| .tail _ <| .tail _ <| .tail _ <| .head _)) (hm.rowRd (.tl <| .hd)) (by rw [hmac_len, hL]) (by omega)) rfl fun v J hv hJ => ?_
        obtain ⟨v1, ⟨a9, c9, rfl, rfl⟩, rfl⟩ := hv
        rw [xorB_len _ _ (by rw [hmac_len, hL]), hL]
        refine W.q (mv rfl) rfl <| W.q (ex rfl rfl) rfl <| W.q (ex rfl rfl) rfl <| W.q (sa rfl) rfl <| W.nil <| G.inb <| G.reg <| W.q (mv rfl) rfl <| W.q (ad rfl rfl (by omega)) rfl <| W.q (sa rfl) rfl <| W.nil <| ?_
        rw [hW] at hsu
        refine (ih2 (k + 1) a9 c9 a6 c6 (by omega) (by omega)).weak (Sub.cons rfl <| Sub.cons rfl <| Sub.cons rfl <| Sub.cons rfl <| Sub.cons rfl <| Sub.cons rfl <| Sub.nil _) (fun w hm => (Ent.eq (by rw [hsu]; rfl)) w ((fun w hm => (Dr.ent (.keep <| .keep <| .keep <| .drop rfl <| .drop rfl <| .drop rfl <| .drop rfl <| .drop rfl <| .rfl)) w ((Ent.perm (.trans (.trans (.trans (.cons _ (.trans (.cons _ (.trans (.cons _ (.trans (.cons _ (.trans (.cons _ (.trans (.cons _ (.trans (.cons _ (.refl _)) (.swap _ _ _))) (.swap _ _ _))) (.swap _ _ _))) (.swap _ _ _))) (.swap _ _ _))) (.swap _ _ _))) (.swap _ _ _)) (.trans (.cons _ (.trans (.cons _ (.trans (.cons _ (.trans (.cons _ (.trans (.cons _ (.trans (.cons _ (.trans (.cons _ (.refl _)) (.swap _ _ _))) (.swap _ _ _))) (.swap _ _ _))) (.swap _ _ _))) (.swap _ _ _))) (.swap _ _ _))) (.swap _ _ _))) (.trans (.cons _ (.trans (.cons _ (.refl _)) (.swap _ _ _))) (.swap _ _ _)))) w hm)) w hm))
    · -- h4 False
      have hkl : k = ns.length := by omega
      subst hkl
      refine G.exit rfl <| G.seq <| ?_
      refine G.slAt (a := a6) (m := bs.length - 32) (cap := c6) (E := 5) (s := 1) (xs := _) (.tail _ <| .head _) (fun u1 u2 u3 u4 => ?_)
      refine G.reg <| W.q (mv rfl) rfl <| W.q (mv rfl) rfl <| W.ap Try.underlying22 Try.underlying22 Try.sz5 Try.zln5 Try.by5 rfl rfl (fun _ _ => .hd) (RdS.sl (.tail _ <| .head _)) (by rw [u1]) (B_one _) (slAt_nil u4) (by omega) (by omega) rfl fun a7 c7 => W.q (sa rfl) rfl <| W.q (sa rfl) rfl <| W.nil <| ret2 hX Try.results75 rfl rfl fun w hm => done (H := [sl a7 (wideB key ns bs).length c7 5 1 (B (wideB key ns bs))]) rfl ⟨_, ⟨a7, c7, rfl, rfl⟩, by rw [wideB_len _ _ _ (by omega), show 32 + (bs.length - 32) = bs.length by omega]⟩ (by have := Dr.ent (.keep <| .drop rfl <| .drop rfl .rfl) w hm; rw [List.take_length, show 32 + (bs.length - 32) = bs.length by omega, ← List.map_append] at this; rw [wideB_len _ _ _ (by omega)]; exact this)


set_option maxRecDepth 100000 in
theorem ref07_Seal (a : Option Addr) (len cap : Nat) (key : List UInt8) (a2 : Option Addr) (len2 cap2 : Nat) (bs : List UInt8) (w : World) (hlen : len = key.length) (hl : RdL w a (B key)) (hk : key.length = 32) (hcap : key.length ≤ cap) (hlen2 : len2 = bs.length) (hl2 : RdL w a2 (B bs)) (hb1 : 32 < bs.length) (hb2 : bs.length ≤ 4096) (hcap2 : bs.length ≤ cap2) :
    Ret Try.prog 43 [.slice a len cap, .slice a2 len2 cap2] w (fun v J => ∃ v1, NewB (wideB key [1, 2, 3, 4] bs) v1 J ∧ v = .tuple #[v1, i64 0]) := by
  refine enter [] (Mem.nil _) Try.func43 rfl Try.ntmps43 rfl (fun X hX => ?_)
  have hw := hX.w0; subst hw
  refine G.seq <| G.reg <| W.q (sa rfl) rfl <| W.q (sa rfl) rfl <| W.nil <| G.seq <| G.reg <| W.q (mv rfl) rfl <| W.q (mv rfl) rfl <| W.bs (cs := [_, _, _, _]) Try.underlying62 Try.sz3 Try.zrl3 rfl rfl rfl rfl fun b1 => W.fn Try.ca75 rfl (fun w hm => ref07_Rounds a len cap key a2 len2 cap2 bs (some ⟨b1, 0, none⟩) 4 4 [1, 2, 3, 4] w hlen (hm.rd rfl hl) hk hcap hlen2 (hm.rd rfl hl2) hb1 hb2 rfl (hm.rowRd .hd) (by decide) (by decide) hcap2) rfl fun v J hv hJ => ?_
  obtain ⟨v1, ⟨a3, c3, rfl, rfl⟩, rfl⟩ := hv
  refine W.q (ex rfl rfl) rfl <| W.q (ex rfl rfl) rfl <| W.q (sa rfl) rfl <| W.q (sa rfl) rfl <| W.nil <| ret2 hX Try.results43 rfl rfl fun w hm => done rfl ⟨_, ⟨a3, c3, rfl, rfl⟩, rfl⟩ (Dr.ent (.keep <| .drop rfl <| .rfl) w hm)


set_option maxRecDepth 100000 in
theorem ref07_Open (a : Option Addr) (len cap : Nat) (key : List UInt8) (a2 : Option Addr) (len2 cap2 : Nat) (bs : List UInt8) (w : World) (hlen : len = key.length) (hl : RdL w a (B key)) (hk : key.length = 32) (hcap : key.length ≤ cap) (hlen2 : len2 = bs.length) (hl2 : RdL w a2 (B bs)) (hb1 : 32 < bs.length) (hb2 : bs.length ≤ 4096) (hcap2 : bs.length ≤ cap2) :
    Ret Try.prog 47 [.slice a len cap, .slice a2 len2 cap2] w (fun v J => ∃ v1, NewB (wideB key [4, 3, 2, 1] bs) v1 J ∧ v = .tuple #[v1, i64 0]) := by
  refine enter [] (Mem.nil _) Try.func47 rfl Try.ntmps47 rfl (fun X hX => ?_)
  have hw := hX.w0; subst hw
  refine G.seq <| G.reg <| W.q (sa rfl) rfl <| W.q (sa rfl) rfl <| W.nil <| G.seq <| G.reg <| W.q (mv rfl) rfl <| W.q (mv rfl) rfl <| W.bs (cs := [_, _, _, _]) Try.underlying62 Try.sz3 Try.zrl3 rfl rfl rfl rfl fun b1 => W.fn Try.ca75 rfl (fun w hm => ref07_Rounds a len cap key a2 len2 cap2 bs (some ⟨b1, 0, none⟩) 4 4 [4, 3, 2, 1] w hlen (hm.rd rfl hl) hk hcap hlen2 (hm.rd rfl hl2) hb1 hb2 rfl (hm.rowRd .hd) (by decide) (by decide) hcap2) rfl fun v J hv hJ => ?_
  obtain ⟨v1, ⟨a3, c3, rfl, rfl⟩, rfl⟩ := hv
  refine W.q (ex rfl rfl) rfl <| W.q (ex rfl rfl) rfl <| W.q (sa rfl) rfl <| W.q (sa rfl) rfl <| W.nil <| ret2 hX Try.results47 rfl rfl fun w hm => done rfl ⟨_, ⟨a3, c3, rfl, rfl⟩, rfl⟩ (Dr.ent (.keep <| .drop rfl <| .rfl) w hm)
