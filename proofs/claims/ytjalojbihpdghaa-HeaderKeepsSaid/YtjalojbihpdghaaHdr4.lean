/- A header: built. -/
import Derived.Test.YtjalojbihpdghaaHdr3
namespace Go.Proofs.Ytjalojbihpdghaa
open Go Go.Eng
set_option linter.unusedVariables false

/-- One hop's layer about a header. -/
def betaR (slot s h tail : List UInt8) : List UInt8 :=
  xorB ((slot ++ (hT h ++ hB h)).take (240 - tail.length)) (strm (sS s) 0 ((slot ++ (hT h ++ hB h)).take (240 - tail.length)).length) ++ tail
def layR (slot s h tail : List UInt8) : List UInt8 := sA s ++ (tagR s (sA s) (betaR slot s h tail) ++ betaR slot s h tail)
def layers (f : List UInt8) : List (List UInt8 × List UInt8) → List UInt8
  | [] => List.replicate 288 0
  | (sl, s) :: r => layR sl s (layers f r) (if r = [] then f else [])
noncomputable def hops (cs : List Cm) (ss : List (List UInt8)) : List (List UInt8 × List UInt8) := (cs.map encB).zip ss
open Classical in
noncomputable def buildR (cs : List Cm) (ss : List (List UInt8)) : List UInt8 × Int :=
  if encW cs cs.length = 1 then (List.replicate 288 0, 1) else if (fillerR ss).2 ≠ 0 ∨ cs.length ≠ ss.length then (List.replicate 288 0, 2)
  else if encW cs cs.length ≠ 0 then (List.replicate 288 0, encW cs cs.length) else (layers (fillerR ss).1 (hops cs ss), 0)
theorem betaR_len {slot s h tail : List UInt8} (h1 : slot.length = 32) (h2 : h.length = 288) (h3 : tail.length ≤ 240) : (betaR slot s h tail).length = 240 := by
  unfold betaR
  rw [List.length_append, xorB_len _ _ (strm_len _ _ _)]; simp; omega
theorem layR_len {slot s h tail : List UInt8} (h0 : s.length = 192) (h1 : slot.length = 32) (h2 : h.length = 288) (h3 : tail.length ≤ 240) : (layR slot s h tail).length = 288 := by
  unfold layR tagR
  rw [List.length_append, List.length_append, betaR_len h1 h2 h3]; simp [hmac_len]; omega
theorem layers_len {f : List UInt8} (hf : f.length ≤ 240) : ∀ (l : List (List UInt8 × List UInt8)), (∀ p ∈ l, p.1.length = 32 ∧ p.2.length = 192) → (layers f l).length = 288
  | [], _ => by show (List.replicate 288 (0 : UInt8)).length = 288; exact List.length_replicate ..
  | p :: r, h => by
    obtain ⟨sl, s⟩ := p
    have h1 := h _ List.mem_cons_self
    have h2 := layers_len hf r (fun q hq => h q (List.mem_cons_of_mem _ hq))
    rw [layers]
    exact layR_len h1.2 h1.1 h2 (by split; exact hf; simp)
theorem setAt_B (x y z : List UInt8) (o : Nat) (h : y.length ≤ z.length) (ho : o = x.length) : setAt (B (x ++ z)) o (B y) = B (x ++ (y ++ z.drop y.length)) := by
  subst ho
  have := setAt_mid (B x) (B z) (B y) (by rw [Bl, Bl]; exact h)
  rw [Bl, Bl] at this
  rw [show B (x ++ z) = B x ++ B z from List.map_append, this]
  simp [B]
theorem hdr_fill {x y : List UInt8} (hx : x.length = 32) (hy : y.length = 240) : fillL (([(0, 32), (32, 16), (48, 240)] : List (Nat × Nat))[·]?) (B (List.replicate 288 0)) [(0, .agg (B x).toArray), (2, .agg (B y).toArray)] = some (B (x ++ (List.replicate 16 0 ++ y))) := by
  have e1 : setAt (B (List.replicate 288 0)) 0 (B x) = B (x ++ List.replicate 256 0) := by
    have := setAt_B [] x (List.replicate 288 0) 0 (by rw [hx, List.length_replicate]; omega) rfl
    rwa [List.nil_append, List.nil_append, hx, List.drop_replicate] at this
  have e2 : setAt (B (x ++ List.replicate 256 0)) 48 (B y) = B (x ++ (List.replicate 16 0 ++ y)) := by
    have := setAt_B (x ++ List.replicate 16 0) y (List.replicate 240 0) 48 (by rw [hy, List.length_replicate]; omega) (by rw [List.length_append, List.length_replicate, hx])
    rw [List.append_assoc, List.replicate_append_replicate, hy, List.drop_replicate, Nat.sub_self, List.replicate_zero, List.append_nil, List.append_assoc] at this
    exact this
  show (if (B x).length = 32 ∧ 0 + (B x).length ≤ (B (List.replicate 288 0)).length then fillL _ (setAt (B (List.replicate 288 0)) 0 (B x)) [(2, .agg (B y).toArray)] else none) = _
  rw [if_pos ⟨by rw [Bl, hx], by rw [Bl, Bl, hx, List.length_replicate]; decide⟩, e1]
  show (if (B y).length = 240 ∧ 48 + (B y).length ≤ (B (x ++ List.replicate 256 0)).length then fillL _ (setAt (B (x ++ List.replicate 256 0)) 48 (B y)) [] else none) = _
  rw [if_pos ⟨by rw [Bl, hy], by rw [Bl, Bl, List.length_append, List.length_replicate, hx, hy]; decide⟩, e2]
  rfl
theorem wst_zero {w e : Int} (h : wst w e = 0) : e = 0 ∧ w = 0 := by
  unfold wst at h
  split at h
  · rename_i h1; exact absurd h h1.1
  · rename_i h1
    exact ⟨Classical.byContradiction fun he => h1 ⟨he, .inl h⟩, h⟩
theorem encW_zero (cs : List Cm) : ∀ k, k ≤ cs.length → encW cs k = 0 → ∀ i (hi : i < k) (hc : i < cs.length), (encR cs[i]).2 = 0
  | 0, _, _ => fun i hi => by omega
  | k + 1, hk, h => fun i hi hc => by
    rw [encW_succ cs k (by omega)] at h
    obtain ⟨h1, h2⟩ := wst_zero h
    rcases Nat.lt_or_ge i k with hik | hik
    · exact encW_zero cs k (by omega) h2 i hik hc
    · obtain rfl : i = k := by omega
      unfold encE at h1
      split at h1
      · simp at h1
      · exact h1
theorem encR_ok {c : Cm} (h : (encR c).2 = 0) : (encR c).1 = encB c := by
  unfold encR at h ⊢
  split at h
  · rename_i h1; exact absurd h h1
  · rename_i h1; rw [if_neg h1]
theorem slots_ok {cs : List Cm} (h : encW cs cs.length = 0) : slotsR cs = cs.map encB := by
  unfold slotsR
  refine List.map_congr_left fun c hc => ?_
  obtain ⟨i, hi, rfl⟩ := List.getElem_of_mem hc
  exact encR_ok (encW_zero cs cs.length (Nat.le_refl _) h i hi hi)
theorem hops_drop {cs : List Cm} {ss : List (List UInt8)} {i : Nat} (h1 : i < cs.length) (h2 : i < ss.length) : (hops cs ss).drop i = (encB cs[i], ss[i]) :: (hops cs ss).drop (i + 1) := by
  have hl : i < (hops cs ss).length := by simp [hops]; omega
  rw [← List.getElem_cons_drop hl]
  congr 1
  simp [hops]
theorem hops_all {cs : List Cm} {ss : List (List UInt8)} (hcs : ∀ c ∈ cs, c.mark.length = 16) (hss : ∀ s ∈ ss, s.length = 192) : ∀ p ∈ hops cs ss, p.1.length = 32 ∧ p.2.length = 192 := fun p hp => by
  obtain ⟨a, b⟩ := p
  have h := List.of_mem_zip hp
  obtain ⟨c, hc, rfl⟩ := List.mem_map.1 h.1
  exact ⟨encB_len (hcs c hc), hss _ h.2⟩
theorem fillerR_ok {ss : List (List UInt8)} (h : (fillerR ss).2 = 0) : 1 ≤ ss.length ∧ ss.length ≤ 5 ∧ (fillerR ss).1.length ≤ 192 := by
  unfold fillerR at h ⊢
  split at h
  · simp at h
  · rename_i h1
    rw [if_neg h1]
    refine ⟨by omega, by omega, ?_⟩
    show (fil ss.dropLast).length ≤ 192
    rw [dropLast_take ss _ rfl, fil_len ss _ (by omega) (by omega)]; omega

theorem hdr_tag {x t y : List UInt8} (hx : x.length = 32) (ht : t.length = 16) : setAt (B (x ++ (List.replicate 16 0 ++ y))) 32 (B t) = B (x ++ (t ++ y)) := by
  have := setAt_B x t (List.replicate 16 0 ++ y) 32 (by rw [ht, List.length_append, List.length_replicate]; omega) hx.symm
  rw [this, ht, List.drop_left' (by rw [List.length_replicate])]
theorem rdl_sub {w : World} {b o d n : Nat} {s : List UInt8} (h : ∀ i v, (B s)[i]? = some v → w.cell? ⟨b, o + i, none⟩ = some v) (o' : Nat) (ho : o' = o + d) : ∀ i v, (B ((s.drop d).take n))[i]? = some v → w.cell? ⟨b, o' + i, none⟩ = some v := fun i v hv => by
  subst ho
  have e : (B s)[d + i]? = some v := by
    rw [B, List.getElem?_map] at hv ⊢
    rw [List.getElem?_take] at hv
    split at hv
    · rwa [List.getElem?_drop] at hv
    · simp at hv
  have := h _ _ e
  rwa [← Nat.add_assoc] at this

theorem cha_Turn1 (key x : List UInt8) (a : Option Addr) (len cap : Nat) (pa : Option Addr) (pc : Nat) (a1 : Option Addr) (l1 c1 : Nat) (w : World) (hlen : len = key.length) (hkl : RdL w a (B key)) (hk : key.length = 32) (hl : RdL w pa [.slice a1 l1 c1]) (e1 : l1 = x.length) (h1 : RdL w a1 (B x)) (h2 : x.length ≤ c1) (hpc : 1 ≤ pc) (hb : x.length ≤ 65536) :
    Ret Try.prog 87 [.slice a len cap, .slice pa 1 pc] w (fun v J => ∃ v1, NewB (xorB x (strm key 0 x.length)) v1 J ∧ v = .tuple #[v1, i64 0]) := by
  have := cha_Turn a len cap key pa 1 pc [(a1, c1, x)] w hlen hkl hk rfl (rd1 hl e1) (.cons h1 h2 .nil) (by simp) hpc (by simpa [catP] using hb)
  rwa [cat_1] at this
theorem codec_Join2 (x y z : List UInt8) (hz : [x, y].flatten = z) (a : Option Addr) (cap : Nat) (a1 a2 : Option Addr) (l1 l2 c1 c2 : Nat) (w : World) (hl : RdL w a [.slice a1 l1 c1, .slice a2 l2 c2]) (e1 : l1 = x.length) (e2 : l2 = y.length) (r1 : RdL w a1 (B x)) (r2 : RdL w a2 (B y)) (k1 : x.length ≤ c1) (k2 : y.length ≤ c2) (hb : z.length ≤ 65536) (hcap : 2 ≤ cap) :
    Ret Try.prog 44 [.slice a 2 cap] w (NewB z) := by
  have := codec_Join a cap [.slice a1 l1 c1, .slice a2 l2 c2] [x, y] w hl (.cons (.of r1 e1 k1) (.cons (.of r2 e2 k2) .nil)) (by rw [hz]; omega) (by simp) (by simpa using hcap)
  rwa [hz] at this
theorem codec_Join3 (x y u z : List UInt8) (hz : [x, y, u].flatten = z) (a : Option Addr) (cap : Nat) (a1 a2 a3 : Option Addr) (l1 l2 l3 c1 c2 c3 : Nat) (w : World) (hl : RdL w a [.slice a1 l1 c1, .slice a2 l2 c2, .slice a3 l3 c3]) (e1 : l1 = x.length) (e2 : l2 = y.length) (e3 : l3 = u.length) (r1 : RdL w a1 (B x)) (r2 : RdL w a2 (B y)) (r3 : RdL w a3 (B u)) (k1 : x.length ≤ c1) (k2 : y.length ≤ c2) (k3 : u.length ≤ c3) (hb : z.length ≤ 65536) (hcap : 3 ≤ cap) :
    Ret Try.prog 44 [.slice a 3 cap] w (NewB z) := by
  have := codec_Join a cap [.slice a1 l1 c1, .slice a2 l2 c2, .slice a3 l3 c3] [x, y, u] w hl (.cons (.of r1 e1 k1) (.cons (.of r2 e2 k2) (.cons (.of r3 e3 k3) .nil))) (by rw [hz]; omega) (by simp) (by simpa using hcap)
  rwa [hz] at this
theorem mac_Short2 (key x y : List UInt8) (a : Option Addr) (len cap : Nat) (pa : Option Addr) (pc : Nat) (a1 a2 : Option Addr) (l1 l2 c1 c2 : Nat) (w : World) (hlen : len = key.length) (hl : RdL w a (B key)) (hb : key.length ≤ 65536) (hcap : key.length ≤ cap) (hpa : RdL w pa [.slice a1 l1 c1, .slice a2 l2 c2]) (e1 : l1 = x.length) (e2 : l2 = y.length) (r1 : RdL w a1 (B x)) (r2 : RdL w a2 (B y)) (k1 : x.length ≤ c1) (k2 : y.length ≤ c2) (hb1 : x.length ≤ 65536) (hb2 : y.length ≤ 65536) :
    Ret Try.prog 88 [.slice a len cap, .slice pa 2 pc] w (fun v J => ∃ b T, v = slc b 0 16 16 ∧ J = [nb b (B (hmac key (x ++ y))) T]) := by
  have := mac_Short a len cap key pa 2 pc [(a1, c1, x), (a2, c2, y)] w hlen hl (by omega) hcap rfl (rd2 hpa e1 e2) (.cons r1 k1 (.cons r2 k2 .nil)) (by simp) (by simp [catP]; omega)
  rwa [catp2] at this
theorem RdL.oldc {w0 w : World} {H : List It} {b o : Nat} {x : List UInt8} (hm : Mem w0 w H) (hn : allNew H = true) (h : ∀ i v, (B x)[i]? = some v → w0.cell? ⟨b, o + i, none⟩ = some v) : RdL w (some ⟨b, o, none⟩) (B x) := fun j v hv => ⟨_, _, rfl, hm.cellOld hn (h j v hv)⟩


open Classical in
set_option maxHeartbeats 1000000 in
set_option maxRecDepth 100000 in
theorem hdr_Build (cs : List Cm) (ca : Option Addr) (cc : Nat) (ss : List (List UInt8)) (pa : Option Addr) (pc : Nat) (w : World) (hca : RdL w ca (cs.flatMap cmC)) (hcs : ∀ c ∈ cs, c.mark.length = 16) (hnc : cs.length ≤ 1000000000000) (hpa : RdL w pa (ss.flatMap B)) (hss : ∀ s ∈ ss, s.length = 192) (hpc : ss.length ≤ pc) :
    Ret Try.prog 67 [.slice ca cs.length cc, .slice pa ss.length pc] w (fun v _ => v = .tuple #[.agg (B (buildR cs ss).1).toArray, i64 (buildR cs ss).2]) := by
  refine enter [] (Mem.nil _) Try.func67 rfl Try.ntmps67 rfl (fun X hX => ?_)
  have hw := hX.w0; subst hw
  refine G.seq <| G.reg <| W.al Try.zrl28 rfl fun b1 => W.q (sa rfl) rfl <| W.nil <| G.seq <| G.reg <| W.q (mv rfl) rfl <| W.fn Try.ca86 rfl (fun w hm => hdr_encoded cs ca cc w (hm.rd rfl hca) hcs hnc) rfl fun v J hv hJ => ?_
  obtain ⟨v1, ⟨a1, c1, ps, hps, rfl, rfl⟩, rfl⟩ := hv
  refine W.ent (fun w hm => hm.perm (List.perm_append_comm (l₂ := [_]))) ?_
  refine W.q (mv rfl) rfl <| W.q (ex rfl rfl) rfl <| W.q (ex rfl rfl) rfl <| W.q (sa rfl) rfl <| W.q (sa rfl) rfl <| W.nil <| G.seq <| G.seq <| G.reg <| W.q (mv rfl) rfl <| W.q (eq rfl rfl) rfl <| W.nil <| G.cdd rfl (fun h1 => ?_) (fun h1 => ?_)
  · -- h1 True
    refine G.seq <| G.reg <| W.q (bld Try.stp28 rfl rfl) rfl <| W.q (mv rfl) rfl <| W.sta Try.sz28 rfl rfl (by first | rfl | (rw [Bl]; first | exact h288 | exact hfin)) (by first | rfl | exact B_one _) .hd (by first | rfl | (rw [Bl]; exact hHd)) <| W.q (sa rfl) rfl <| W.nil <| ret hX Try.results67 (RA.cella rfl Try.agg28 Try.sz28 (Cells.whole .hd) rfl <| RA.tmp rfl <| RA.nil) fun w hm => done (H := []) rfl ?_ (Dr.ent (Dr.new (by simp [allNew, pcI, sl, blk])) w hm)
    rw [buildR, if_pos h1]
    show tup [_, _] = Value.tuple #[.agg (B (List.replicate 288 0)).toArray, i64 (1)]
    rw [B_zeros, h1]; rfl
  · -- h1 False
    refine G.skip <| G.seq <| G.reg <| W.q (mv rfl) rfl <| W.fn Try.ca36 rfl (fun w hm => hdr_Filler ss pa pc w (hm.rd (by simp [allNew, pcI, sl, blk]) hpa) hss hpc) rfl fun v J hv hJ => ?_
    obtain ⟨v1, ⟨a2, c2, rfl, rfl⟩, rfl⟩ := hv
    refine W.slAt (a := a2) (m := (fillerR ss).1.length) (cap := c2) (E := 5) (s := 1) (xs := B (fillerR ss).1) (.head _) (fun f1 f2 f3 f4 => ?_)
    refine W.q (mv rfl) rfl <| W.q (ex rfl rfl) rfl <| W.q (ex rfl rfl) rfl <| W.q (sa rfl) rfl <| W.q (sa rfl) rfl <| W.nil <| G.seq <| G.seq <| G.reg <| W.q (mv rfl) rfl <| W.q (ne rfl rfl) rfl <| W.q (mv rfl) rfl <| W.sp (t := _) 33 rfl (fun g2 => ?_) (fun g2 => ?_)
    · -- True
      refine W.sk rfl rfl g2 rfl <| W.sk rfl rfl g2 rfl <| W.sk rfl rfl g2 rfl <| W.sk rfl rfl g2 rfl <| W.sk rfl rfl g2 rfl <| W.q (pkt rfl g2 rfl) rfl <| W.nil <| G.cdt rfl rfl <| G.seq <| G.reg <| W.q (bld Try.stp28 rfl rfl) rfl <| W.sta Try.sz28 rfl rfl (by first | rfl | (rw [Bl]; first | exact h288 | exact hfin)) (by first | rfl | exact B_one _) (.tl <| .hd) (by first | rfl | (rw [Bl]; exact hHd)) <| W.q (sa rfl) rfl <| W.nil <| ret hX Try.results67 (RA.cella rfl Try.agg28 Try.sz28 (Cells.whole (.tl <| .hd)) rfl <| RA.tmp rfl <| RA.nil) fun w hm => done (H := []) rfl ?_ (Dr.ent (Dr.new (by simp [allNew, pcI, sl, blk])) w hm)
      rw [buildR, if_neg h1, if_pos (.inl (by simpa using g2))]
      show tup [_, _] = Value.tuple #[.agg (B (List.replicate 288 0)).toArray, i64 (2)]
      rw [B_zeros]; rfl
    · -- False
      refine W.qg rfl rfl g2 (mv rfl) rfl <| W.qg rfl rfl g2 (ln Try.esl128 rfl) rfl <| W.qg rfl rfl g2 (mv rfl) rfl <| W.qg rfl rfl g2 (ln Try.esl80 rfl) rfl <| W.qg rfl rfl g2 (ne rfl rfl) rfl <| W.q (pkf rfl g2 rfl) rfl <| W.nil <| G.cdd rfl (fun h3 => ?_) (fun h3 => ?_)
      · -- h3 True
        refine G.seq <| G.reg <| W.q (bld Try.stp28 rfl rfl) rfl <| W.sta Try.sz28 rfl rfl (by first | rfl | (rw [Bl]; first | exact h288 | exact hfin)) (by first | rfl | exact B_one _) (.tl <| .hd) (by first | rfl | (rw [Bl]; exact hHd)) <| W.q (sa rfl) rfl <| W.nil <| ret hX Try.results67 (RA.cella rfl Try.agg28 Try.sz28 (Cells.whole (.tl <| .hd)) rfl <| RA.tmp rfl <| RA.nil) fun w hm => done (H := []) rfl ?_ (Dr.ent (Dr.new (by simp [allNew, pcI, sl, blk])) w hm)
        rw [buildR, if_neg h1, if_pos (.inr (by omega))]
        show tup [_, _] = Value.tuple #[.agg (B (List.replicate 288 0)).toArray, i64 (2)]
        rw [B_zeros]; rfl
      · -- h3 False
        refine G.skip <| G.seq <| G.seq <| G.reg <| W.q (mv rfl) rfl <| W.q (ne rfl rfl) rfl <| W.nil <| G.cdd rfl (fun h4 => ?_) (fun h4 => ?_)
        · -- h4 True
          refine G.seq <| G.reg <| W.q (bld Try.stp28 rfl rfl) rfl <| W.q (mv rfl) rfl <| W.sta Try.sz28 rfl rfl (by first | rfl | (rw [Bl]; first | exact h288 | exact hfin)) (by first | rfl | exact B_one _) (.tl <| .hd) (by first | rfl | (rw [Bl]; exact hHd)) <| W.q (sa rfl) rfl <| W.nil <| ret hX Try.results67 (RA.cella rfl Try.agg28 Try.sz28 (Cells.whole (.tl <| .hd)) rfl <| RA.tmp rfl <| RA.nil) fun w hm => done (H := []) rfl ?_ (Dr.ent (Dr.new (by simp [allNew, pcI, sl, blk])) w hm)
          rw [buildR, if_neg h1, if_neg (by have := of_decide_eq_false g2; omega), if_pos h4]
          show tup [_, _] = Value.tuple #[.agg (B (List.replicate 288 0)).toArray, i64 (encW cs cs.length)]
          rw [B_zeros]; rfl
        · -- h4 False
          have h0 : encW cs cs.length = 0 := by omega
          have hfo : (fillerR ss).2 = 0 := Classical.byContradiction fun h => of_decide_eq_false g2 h
          have hcn : cs.length = ss.length := by omega
          obtain ⟨hl1, hl5, hFl⟩ := fillerR_ok hfo
          have hall := hops_all hcs hss
          have hhl : (hops cs ss).length = ss.length := by simp [hops]; omega
          have h00 : layers (fillerR ss).1 ((hops cs ss).drop (ss.length - 0)) = List.replicate 288 0 := by rw [Nat.sub_zero, List.drop_of_length_le (by omega)]; rfl
          rw [slots_ok h0] at hps
          have hfin := layers_len (f := (fillerR ss).1) (by omega) (hops cs ss) hall
          refine G.skip <| G.seq <| G.reg <| W.al Try.zrl28 rfl fun b2 => W.nil <| G.seq <| G.seq <| G.reg <| W.q (mv rfl) rfl <| W.q (ln Try.esl80 rfl) rfl <| W.q (sb rfl rfl (by omega)) rfl <| W.q (sa rfl) rfl <| W.nil <| G.blk <| G.loop1 (α := Nat) (fun k => k ≤ ss.length) (fun k => [(11, i64 ((ss.length : Int) - 1 - (k : Int)))]) (fun k => [nb b2 (B (layers (fillerR ss).1 ((hops cs ss).drop (ss.length - k)))) 28]) (fun k => ss.length - k) [(1, _), (4, _), (6, _), (8, _), (10, _)] _ 0 (by omega) (Sub.co rfl ?_ <| Sub.cons rfl <| Sub.cons rfl <| Sub.cons rfl <| Sub.cons rfl <| Sub.cons rfl <| Sub.nil _) (fun w hm => by rw [h00, B_zeros]; exact hm) (fun k hk ih => ?_)
          · show i64 _ = i64 _; congr 1; omega
          refine G.seq <| G.seq <| G.reg <| W.q (mv rfl) rfl <| W.q (ge rfl rfl) rfl <| W.nil <| G.cdd rfl (fun h5 => ?_) (fun h5 => ?_)
          · -- h5 True
            have hkn : k < ss.length := by omega
            obtain ⟨i, hi, hin⟩ : ∃ i : Nat, ((ss.length : Int) - 1 - (k : Int)) = (i : Int) ∧ i + 1 + k = ss.length := ⟨ss.length - 1 - k, by omega, by omega⟩
            have hic : i < cs.length := by omega
            have his : i < ss.length := by omega
            have hHd := layers_len (f := (fillerR ss).1) (by omega) ((hops cs ss).drop (i + 1)) (fun p hp => hall p (List.mem_of_mem_drop hp))
            have hnext0 : layers (fillerR ss).1 ((hops cs ss).drop i) = layR (encB cs[i]) ss[i] (layers (fillerR ss).1 ((hops cs ss).drop (i + 1))) (if (hops cs ss).drop (i + 1) = [] then (fillerR ss).1 else []) := by rw [hops_drop hic his]; rfl
            have hsk : ss.length - k = i + 1 := by omega
            have hsk1 : ss.length - (k + 1) = i := by omega
            rw [hi, hsk]
            have hpsl : ps.length = cs.length := by have := congrArg List.length hps; simpa using this
            have hip : i < ps.length := by omega
            have hpb : ps[i].2.2 = encB cs[i] := by
              have h1 : (ps.map (fun p : Pc => p.2.2))[i]'(by simpa using hip) = (cs.map encB)[i]'(by simpa using hic) := by simp only [hps]
              simpa using h1
            have hpg : (ps.map pcV)[i]? = some (pcV ps[i]) := by rw [List.getElem?_map, List.getElem?_eq_getElem hip]; rfl
            have hpI0 := List.mem_map_of_mem (f := pcI) (List.getElem_mem (l := ps) hip)
            have hslot := encB_len (hcs _ (List.getElem_mem hic))
            generalize ps[i] = p at hpb hpg hpI0
            obtain ⟨p1, p2, p3⟩ := p
            simp only at hpb
            subst hpb
            obtain ⟨zb, zo, rfl, hc⟩ := rdl_el hpa hss (by omega) i his
            have hs192 := hss _ (List.getElem_mem his)
            generalize encB cs[i] = slot at hslot hpg hpI0 hnext0
            generalize ss[i] = s at hc hs192 hnext0
            have hpI : sl p1 slot.length p2 5 1 (B slot) ∈ ps.map pcI := hpI0
            generalize layers (fillerR ss).1 ((hops cs ss).drop (i + 1)) = Hd at hHd hnext0 ⊢
            have hS := fun o' ho => rdl_sub (d := 32) (n := 32) hc o' ho
            have hMk := fun o' ho => rdl_sub (d := 0) (n := 32) hc o' ho
            have hAl := fun o' ho => rdl_sub (d := 128) (n := 32) hc o' ho
            have hsA : (sA s).length = 32 := by simp; omega
            obtain ⟨PL, hPL⟩ : ∃ PL, slot ++ (hT Hd ++ hB Hd) = PL := ⟨_, rfl⟩
            have hPll : PL.length = 288 := by rw [← hPL]; simp; omega
            have hj1 : [slot, hT Hd, hB Hd].flatten = PL := by rw [← hPL]; simp
            refine G.slAt (a := p1) (m := slot.length) (cap := p2) (E := 5) (s := 1) (xs := B slot) (by simp only [List.append_eq, List.nil_append, List.cons_append, List.mem_append, List.mem_cons, hpI, true_or, or_true]) (fun w1 hp2 w3 w4 => ?_)
            refine G.rdC (a := a1) (Rdf.sl (m := ps.length) (cap := c1) (E := 22) (s := 1) (xs := ps.map pcV) (.tail _ <| .tail _ <| .tail _ <| .head _)) (by simp; omega) (fun ob oo ho hRd => ?_)
            subst ho
            refine G.skip <| G.seq <| G.blk <| G.seq <| G.reg <| W.q (sa rfl) rfl <| W.nil <| G.seq <| G.reg <| W.q (mv rfl) rfl <| W.q (sa rfl) rfl <| W.nil <| G.seq <| G.regt 8 Try.mixed (by kernel_rfl) <| W.q (mv rfl) rfl <| W.q (mv rfl) rfl <| W.q (ia Try.esl73 rfl rfl (by omega) (by omega)) rfl <| W.q (ld Try.sc22 rfl (by have := hRd.cellOf (i := i) hpg; rwa [show oo + i = oo + (i : Int).toNat * 1 by omega] at this)) rfl <| W.q (fa Try.fof28_1 rfl) rfl <| W.q (saa Try.ear25 rfl ) rfl <| W.q (fa Try.fof28_2 rfl) rfl <| W.q (saa Try.ear26 rfl ) rfl <| W.nilt <| W.bs (cs := [_, _, _]) Try.underlying73 Try.sz22 Try.zrl22 rfl rfl rfl rfl fun b3 => W.fn Try.ca44 rfl (fun w hm => codec_Join3 slot (hT Hd) (hB Hd) PL hj1 _ _ _ _ _ _ _ _ _ _ _ w (hm.rowRd .hd) rfl (by simp; omega) (by simp; omega) (hm.slRd (m := slot.length) (cap := p2) (E := 5) (s := 1) (by simp only [List.append_eq, List.nil_append, List.cons_append, List.mem_append, List.mem_cons, hpI, true_or, or_true])) (hm.rowSub (.tl <| .hd) 32 16) (hm.rowSub (.tl <| .hd) 48 240) hp2 (by simp; omega) (by simp; omega) (by omega) (Nat.le_refl _)) rfl fun v J hv hJ => ?_
            obtain ⟨a5, c5, rfl, rfl⟩ := hv
            refine W.slAt (a := a5) (m := PL.length) (cap := c5) (E := 5) (s := 1) (xs := B PL) (.head _) (fun u1 u2 u3 u4 => ?_)
            refine W.q (sa rfl) rfl <| W.nil <| G.seq <| G.seq <| G.reg <| W.q (mv rfl) rfl <| W.q (ad rfl rfl (by omega)) rfl <| W.q (mv rfl) rfl <| W.q (ln Try.esl80 rfl) rfl <| W.q (lt rfl rfl) rfl <| W.nil <| G.cdd rfl (fun h6 => ?_) (fun h6 => ?_)
            · -- h6 True
              have hnext : layers (fillerR ss).1 ((hops cs ss).drop i) = layR slot s Hd [] := by rw [hnext0, if_neg (fun h => by have := congrArg List.length h; simp at this; omega)]
              refine G.reg <| W.q (sa rfl) rfl <| W.nil <| G.seq <| G.reg <| W.q (mv rfl) rfl <| W.q (mv rfl) rfl <| W.q (ln Try.esl22 rfl) rfl <| W.q (sb rfl rfl (by omega)) rfl <| W.q (sa rfl) rfl <| W.nil <| G.seq <| G.rega 16 rfl Try.mixed <| A.q 0 rfl (by kernel_rfl) (fun _ => (mv rfl)) rfl <| A.q 1 rfl (by kernel_rfl) (fun _ => (mv rfl)) rfl <| A.q 2 rfl (by kernel_rfl) (fun _ => (ia Try.esl80 rfl rfl (by omega) (by omega))) rfl <| A.q 3 rfl (by kernel_rfl) (fun _ => (fa Try.fof86_0 rfl)) rfl <| A.q 4 rfl (by kernel_rfl) (fun _ => (fa Try.fof84_1 rfl)) rfl <| A.q 5 rfl (by kernel_rfl) (fun _ => (saa Try.ear24 rfl )) rfl <| A.q 6 rfl (by kernel_rfl) (fun _ => (mv rfl)) rfl <| A.q 7 rfl (by kernel_rfl) (fun _ => (mv rfl)) rfl <| A.q 8 rfl (by kernel_rfl) (fun _ => (shi Try.esl22 rfl rfl (by omega) (by omega))) rfl <| A.one 9 rfl (by kernel_rfl) <| W.bs (cs := [_]) Try.underlying73 Try.sz22 Try.zrl22 rfl rfl rfl rfl fun b4 => A.back <| A.one 10 rfl (by kernel_rfl) <| W.fn Try.ca87 rfl (fun w hm => cha_Turn1 (sS s) (PL.take (240 - ([] : List UInt8).length)) _ _ _ _ _ _ _ _ w (by simp; omega) (RdL.oldc hm (by simp [allNew, pcI, sl, blk]) (hS _ (by omega))) (by simp; omega) (hm.rowRd .hd) (by rw [List.length_take, hPll]; first | omega | (simp; done) | (simp; omega)) ((hm.slRd (m := PL.length) (cap := c5) (E := 5) (s := 1) (.tail _ <| .head _)).takeB (240 - ([] : List UInt8).length)) (by rw [List.length_take, hPll]; omega) (Nat.le_refl _) (by rw [List.length_take, hPll]; omega)) rfl fun v J hv hJ => ?_
              obtain ⟨v1, ⟨a6, c6, rfl, rfl⟩, rfl⟩ := hv
              have hXl : (xorB (PL.take (240 - ([] : List UInt8).length)) (strm (sS s) 0 (PL.take (240 - ([] : List UInt8).length)).length)).length = 240 - ([] : List UInt8).length := by rw [xorB_len _ _ (strm_len _ _ _), List.length_take, hPll]; omega
              have hj2 : [xorB (PL.take (240 - ([] : List UInt8).length)) (strm (sS s) 0 (PL.take (240 - ([] : List UInt8).length)).length), ([] : List UInt8)].flatten = betaR slot s Hd ([] : List UInt8) := by rw [betaR, hPL]; simp
              have hNB := betaR_len (s := s) hslot hHd (show (([] : List UInt8)).length ≤ 240 by first | (simp; done) | omega)
              obtain ⟨NB, hNBe⟩ : ∃ NB, betaR slot s Hd ([] : List UInt8) = NB := ⟨_, rfl⟩
              have hlay : layR slot s Hd ([] : List UInt8) = sA s ++ (tagR s (sA s) NB ++ NB) := by rw [layR, hNBe]
              rw [hNBe] at hNB hj2
              generalize xorB (PL.take (240 - ([] : List UInt8).length)) (strm (sS s) 0 (PL.take (240 - ([] : List UInt8).length)).length) = BT at hXl hj2 ⊢
              refine W.slAt (a := a6) (m := BT.length) (cap := c6) (E := 5) (s := 1) (xs := B BT) (.head _) (fun y1 y2 y3 y4 => ?_)
              have h288 : (sA s ++ (List.replicate 16 0 ++ NB)).length = 288 := by rw [List.length_append, List.length_append, List.length_replicate, hNB, hsA]
              have hd0 : ((sA s ++ (List.replicate 16 0 ++ NB)).drop 0).take 32 = sA s := by rw [List.drop_zero, List.take_left' hsA]
              have hd48 : ((sA s ++ (List.replicate 16 0 ++ NB)).drop 48).take 240 = NB := by rw [← List.append_assoc, List.drop_left' (by rw [List.length_append, List.length_replicate, hsA]), List.take_of_length_le (by omega)]
              refine A.back <| A.q 11 rfl (by kernel_rfl) (fun _ => (mv rfl)) rfl <| A.q 12 rfl (by kernel_rfl) (fun _ => (ex rfl rfl)) rfl <| A.q 13 rfl (by kernel_rfl) (fun _ => (ex rfl rfl)) rfl <| A.q 14 rfl (by kernel_rfl) (fun _ => (sa rfl)) rfl <| A.q 15 rfl (by kernel_rfl) (fun _ => (sa rfl)) rfl <| A.nil (by kernel_rfl) <| G.seq <| G.rega 13 rfl Try.mixed <| A.q 0 rfl (by kernel_rfl) (fun _ => (mv rfl)) rfl <| A.q 1 rfl (by kernel_rfl) (fun _ => (mv rfl)) rfl <| A.q 2 rfl (by kernel_rfl) (fun _ => (ia Try.esl80 rfl rfl (by omega) (by omega))) rfl <| A.q 3 rfl (by kernel_rfl) (fun _ => (fa Try.fof86_1 rfl)) rfl <| A.q 5 rfl (by kernel_rfl) (fun _ => (mv rfl)) rfl <| A.q 6 rfl (by kernel_rfl) (fun _ => (mv rfl)) rfl <| A.two 4 7 rfl rfl (by kernel_rfl) ?_ ?_
              · -- o7: 4 first
                refine W.q (lda Try.agg24 Try.sz24 rfl (fun j v hv => Cell.old (by simp [allNew, pcI, sl, blk]) (hAl _ (by omega) j v hv)) (by rw [Bl]; exact hsA)) rfl <| A.back <| A.one 7 rfl (by kernel_rfl) <| W.bs (cs := [_, _]) Try.underlying73 Try.sz22 Try.zrl22 rfl rfl rfl rfl fun b5 => A.back <| A.one 8 rfl (by kernel_rfl) <| W.fn Try.ca44 rfl (fun w hm => by first | (exact codec_Join2 BT ([] : List UInt8) NB hj2 _ _ _ _ _ _ _ _ w (hm.rowRd (by first | exact .hd | exact .tl .hd | exact .tl (.tl .hd) | exact .tl (.tl (.tl .hd)) | exact .tl (.tl (.tl (.tl .hd))) | exact .tl (.tl (.tl (.tl (.tl .hd)))))) rfl rfl (hm.slRd (.tail _ <| .head _)) RdL.ofNil y2 (Nat.le_refl _) (by omega) (Nat.le_refl _)) | (exact codec_Join2 BT (fillerR ss).1 NB hj2 _ _ _ _ _ _ _ _ w (hm.rowRd (by first | exact .hd | exact .tl .hd | exact .tl (.tl .hd) | exact .tl (.tl (.tl .hd)) | exact .tl (.tl (.tl (.tl .hd))) | exact .tl (.tl (.tl (.tl (.tl .hd)))))) rfl rfl (hm.slRd (.tail _ <| .head _)) (hm.slRd (m := (fillerR ss).1.length) (cap := c2) (E := 5) (s := 1) (.tail _ <| .tail _ <| .tail _ <| .tail _ <| .tail _ <| .tail _ <| .head _)) y2 f2 (by omega) (Nat.le_refl _))) rfl fun v J hv hJ => ?_
                obtain ⟨a7, c7, rfl, rfl⟩ := hv
                refine W.slAt (a := a7) (m := NB.length) (cap := c7) (E := 5) (s := 1) (xs := B NB) (.head _) (fun x1 x2 x3 x4 => ?_)
                obtain ⟨g7, rfl⟩ : ∃ g, a7 = some ⟨g, 0, none⟩ := x4.elim (fun h => absurd h.2.2 (by omega)) (fun h => h)
                refine A.back <| A.q 9 rfl (by kernel_rfl) (fun _ => (stp_ Try.ear26 rfl (by omega))) rfl <| A.held 10 [] rfl (by kernel_rfl) (lda Try.agg26 Try.sz26 rfl (Rdf.cl (Rdf.sl (m := NB.length) (cap := c7) (E := 5) (s := 1) (xs := B NB) (.head _))) (by rw [Bl]; exact hNB)) rfl <| A.q 11 rfl (by kernel_rfl) (fun _ => ((bld (pl := [(0, 32), (32, 16), (48, 240)]) (zs := B (List.replicate 288 0)) Try.stp28 rfl (hdr_fill hsA hNB)))) rfl <| A.one 12 rfl (by kernel_rfl) <| W.sta Try.sz28 rfl rfl (by first | rfl | (rw [Bl]; first | exact h288 | exact hfin)) (by first | rfl | exact B_one _) (.tl <| .tl <| .tl <| .tl <| .tl <| .tl <| .hd) (by first | rfl | (rw [Bl]; exact hHd)) <| A.back <| A.nil (by kernel_rfl) <| G.rega 16 rfl Try.mixed <| A.q 0 rfl (by kernel_rfl) (fun _ => (mv rfl)) rfl <| A.q 1 rfl (by kernel_rfl) (fun _ => (mv rfl)) rfl <| A.q 2 rfl (by kernel_rfl) (fun _ => (ia Try.esl80 rfl rfl (by omega) (by omega))) rfl <| A.q 3 rfl (by kernel_rfl) (fun _ => (fa Try.fof86_0 rfl)) rfl <| A.q 4 rfl (by kernel_rfl) (fun _ => (fa Try.fof84_0 rfl)) rfl <| A.q 5 rfl (by kernel_rfl) (fun _ => (saa Try.ear24 rfl )) rfl <| A.q 6 rfl (by kernel_rfl) (fun _ => (fa Try.fof28_0 rfl)) rfl <| A.q 7 rfl (by kernel_rfl) (fun _ => (saa Try.ear24 rfl )) rfl <| A.q 8 rfl (by kernel_rfl) (fun _ => (fa Try.fof28_2 rfl)) rfl <| A.q 9 rfl (by kernel_rfl) (fun _ => (saa Try.ear26 rfl )) rfl <| A.one 10 rfl (by kernel_rfl) <| W.bs (cs := [_, _]) Try.underlying73 Try.sz22 Try.zrl22 rfl rfl rfl rfl fun b6 => A.back <| A.one 11 rfl (by kernel_rfl) <| W.fn Try.ca88 rfl (fun w hm => mac_Short2 (sM s) (sA s) NB _ _ _ _ _ _ _ _ _ _ _ w (by simp; omega) (RdL.oldc hm (by simp [allNew, pcI, sl, blk]) (hMk _ (by omega))) (by simp; omega) (by simp; omega) (hm.rowRd .hd) hsA.symm hNB.symm (by have := hm.rowSub (bs := sA s ++ (List.replicate 16 0 ++ NB)) (.tl <| .tl <| .tl <| .tl <| .tl <| .tl <| .tl <| .hd) 0 32; rwa [hd0] at this) (by have := hm.rowSub (bs := sA s ++ (List.replicate 16 0 ++ NB)) (.tl <| .tl <| .tl <| .tl <| .tl <| .tl <| .tl <| .hd) 48 240; rwa [hd48] at this) (by omega) (by omega) (by omega) (by omega)) rfl fun v J hv hJ => ?_
                obtain ⟨bm, Tm, rfl, rfl⟩ := hv
                have htl : (((hmac (sM s) (sA s ++ NB)).drop 0).take 16).length = 16 := by simp [hmac_len]
                refine A.back <| A.q 12 rfl (by kernel_rfl) (fun _ => (stp_ Try.ear25 rfl (by omega))) rfl <| A.held 13 [] rfl (by kernel_rfl) (lda Try.agg25 Try.sz25 rfl (Cells.rowSub .hd 0 16) (by rw [Bl]; exact htl)) rfl <| A.q 14 rfl (by kernel_rfl) (fun _ => (fa Try.fof28_1 rfl)) rfl <| A.one 15 rfl (by kernel_rfl) <| W.st (cs' := B (sA s ++ (((hmac (sM s) (sA s ++ NB)).drop 0).take 16 ++ NB))) Try.sz25 rfl rfl rfl (by show (B _).length = 16; rw [Bl]; exact htl) (B_one _) (.tl <| .tl <| .tl <| .tl <| .tl <| .tl <| .tl <| .tl <| .hd) (by rw [Bl, h288]; decide) (hdr_tag hsA htl) <| A.back <| A.nil (by kernel_rfl) <| G.inb <| G.reg <| W.q (mv rfl) rfl <| W.q (sb rfl rfl (by omega)) rfl <| W.q (sa rfl) rfl <| W.nil <| (ih (k + 1) (by omega) (by omega)).weak (Sub.co rfl ?_ <| Sub.cons rfl <| Sub.cons rfl <| Sub.cons rfl <| Sub.cons rfl <| Sub.cons rfl <| Sub.nil _) (fun w hm => by rw [hsk1, hnext, hlay]; exact Dr.ent (.drop rfl <| .drop rfl <| .drop rfl <| .drop rfl <| .drop rfl <| .drop rfl <| .drop rfl <| .drop rfl <| .keep <| .keep <| .keep <| .keep <| .rfl) w hm)
                all_goals clear ih
                · show i64 _ = i64 _; congr 1; omega
              · -- o7: 7 first
                refine W.bs (cs := [_, _]) Try.underlying73 Try.sz22 Try.zrl22 rfl rfl rfl rfl fun b7 => A.back <| A.two 4 8 rfl rfl (by kernel_rfl) ?_ ?_
                · -- o8: 4 first
                  refine W.q (lda Try.agg24 Try.sz24 rfl (fun j v hv => Cell.old (by simp [allNew, pcI, sl, blk]) (hAl _ (by omega) j v hv)) (by rw [Bl]; exact hsA)) rfl <| A.back <| A.one 8 rfl (by kernel_rfl) <| W.fn Try.ca44 rfl (fun w hm => by first | (exact codec_Join2 BT ([] : List UInt8) NB hj2 _ _ _ _ _ _ _ _ w (hm.rowRd (by first | exact .hd | exact .tl .hd | exact .tl (.tl .hd) | exact .tl (.tl (.tl .hd)) | exact .tl (.tl (.tl (.tl .hd))) | exact .tl (.tl (.tl (.tl (.tl .hd)))))) rfl rfl (hm.slRd (.tail _ <| .head _)) RdL.ofNil y2 (Nat.le_refl _) (by omega) (Nat.le_refl _)) | (exact codec_Join2 BT (fillerR ss).1 NB hj2 _ _ _ _ _ _ _ _ w (hm.rowRd (by first | exact .hd | exact .tl .hd | exact .tl (.tl .hd) | exact .tl (.tl (.tl .hd)) | exact .tl (.tl (.tl (.tl .hd))) | exact .tl (.tl (.tl (.tl (.tl .hd)))))) rfl rfl (hm.slRd (.tail _ <| .head _)) (hm.slRd (m := (fillerR ss).1.length) (cap := c2) (E := 5) (s := 1) (.tail _ <| .tail _ <| .tail _ <| .tail _ <| .tail _ <| .tail _ <| .head _)) y2 f2 (by omega) (Nat.le_refl _))) rfl fun v J hv hJ => ?_
                  obtain ⟨a7, c7, rfl, rfl⟩ := hv
                  refine W.slAt (a := a7) (m := NB.length) (cap := c7) (E := 5) (s := 1) (xs := B NB) (.head _) (fun x1 x2 x3 x4 => ?_)
                  obtain ⟨g7, rfl⟩ : ∃ g, a7 = some ⟨g, 0, none⟩ := x4.elim (fun h => absurd h.2.2 (by omega)) (fun h => h)
                  refine A.back <| A.q 9 rfl (by kernel_rfl) (fun _ => (stp_ Try.ear26 rfl (by omega))) rfl <| A.held 10 [] rfl (by kernel_rfl) (lda Try.agg26 Try.sz26 rfl (Rdf.cl (Rdf.sl (m := NB.length) (cap := c7) (E := 5) (s := 1) (xs := B NB) (.head _))) (by rw [Bl]; exact hNB)) rfl <| A.q 11 rfl (by kernel_rfl) (fun _ => ((bld (pl := [(0, 32), (32, 16), (48, 240)]) (zs := B (List.replicate 288 0)) Try.stp28 rfl (hdr_fill hsA hNB)))) rfl <| A.one 12 rfl (by kernel_rfl) <| W.sta Try.sz28 rfl rfl (by first | rfl | (rw [Bl]; first | exact h288 | exact hfin)) (by first | rfl | exact B_one _) (.tl <| .tl <| .tl <| .tl <| .tl <| .tl <| .hd) (by first | rfl | (rw [Bl]; exact hHd)) <| A.back <| A.nil (by kernel_rfl) <| G.rega 16 rfl Try.mixed <| A.q 0 rfl (by kernel_rfl) (fun _ => (mv rfl)) rfl <| A.q 1 rfl (by kernel_rfl) (fun _ => (mv rfl)) rfl <| A.q 2 rfl (by kernel_rfl) (fun _ => (ia Try.esl80 rfl rfl (by omega) (by omega))) rfl <| A.q 3 rfl (by kernel_rfl) (fun _ => (fa Try.fof86_0 rfl)) rfl <| A.q 4 rfl (by kernel_rfl) (fun _ => (fa Try.fof84_0 rfl)) rfl <| A.q 5 rfl (by kernel_rfl) (fun _ => (saa Try.ear24 rfl )) rfl <| A.q 6 rfl (by kernel_rfl) (fun _ => (fa Try.fof28_0 rfl)) rfl <| A.q 7 rfl (by kernel_rfl) (fun _ => (saa Try.ear24 rfl )) rfl <| A.q 8 rfl (by kernel_rfl) (fun _ => (fa Try.fof28_2 rfl)) rfl <| A.q 9 rfl (by kernel_rfl) (fun _ => (saa Try.ear26 rfl )) rfl <| A.one 10 rfl (by kernel_rfl) <| W.bs (cs := [_, _]) Try.underlying73 Try.sz22 Try.zrl22 rfl rfl rfl rfl fun b8 => A.back <| A.one 11 rfl (by kernel_rfl) <| W.fn Try.ca88 rfl (fun w hm => mac_Short2 (sM s) (sA s) NB _ _ _ _ _ _ _ _ _ _ _ w (by simp; omega) (RdL.oldc hm (by simp [allNew, pcI, sl, blk]) (hMk _ (by omega))) (by simp; omega) (by simp; omega) (hm.rowRd .hd) hsA.symm hNB.symm (by have := hm.rowSub (bs := sA s ++ (List.replicate 16 0 ++ NB)) (.tl <| .tl <| .tl <| .tl <| .tl <| .tl <| .tl <| .hd) 0 32; rwa [hd0] at this) (by have := hm.rowSub (bs := sA s ++ (List.replicate 16 0 ++ NB)) (.tl <| .tl <| .tl <| .tl <| .tl <| .tl <| .tl <| .hd) 48 240; rwa [hd48] at this) (by omega) (by omega) (by omega) (by omega)) rfl fun v J hv hJ => ?_
                  obtain ⟨bm, Tm, rfl, rfl⟩ := hv
                  have htl : (((hmac (sM s) (sA s ++ NB)).drop 0).take 16).length = 16 := by simp [hmac_len]
                  refine A.back <| A.q 12 rfl (by kernel_rfl) (fun _ => (stp_ Try.ear25 rfl (by omega))) rfl <| A.held 13 [] rfl (by kernel_rfl) (lda Try.agg25 Try.sz25 rfl (Cells.rowSub .hd 0 16) (by rw [Bl]; exact htl)) rfl <| A.q 14 rfl (by kernel_rfl) (fun _ => (fa Try.fof28_1 rfl)) rfl <| A.one 15 rfl (by kernel_rfl) <| W.st (cs' := B (sA s ++ (((hmac (sM s) (sA s ++ NB)).drop 0).take 16 ++ NB))) Try.sz25 rfl rfl rfl (by show (B _).length = 16; rw [Bl]; exact htl) (B_one _) (.tl <| .tl <| .tl <| .tl <| .tl <| .tl <| .tl <| .tl <| .hd) (by rw [Bl, h288]; decide) (hdr_tag hsA htl) <| A.back <| A.nil (by kernel_rfl) <| G.inb <| G.reg <| W.q (mv rfl) rfl <| W.q (sb rfl rfl (by omega)) rfl <| W.q (sa rfl) rfl <| W.nil <| (ih (k + 1) (by omega) (by omega)).weak (Sub.co rfl ?_ <| Sub.cons rfl <| Sub.cons rfl <| Sub.cons rfl <| Sub.cons rfl <| Sub.cons rfl <| Sub.nil _) (fun w hm => by rw [hsk1, hnext, hlay]; exact Dr.ent (.drop rfl <| .drop rfl <| .drop rfl <| .drop rfl <| .drop rfl <| .drop rfl <| .drop rfl <| .drop rfl <| .keep <| .keep <| .keep <| .keep <| .rfl) w hm)
                  all_goals clear ih
                  · show i64 _ = i64 _; congr 1; omega
                · -- o8: 8 first
                  refine W.fn Try.ca44 rfl (fun w hm => by first | (exact codec_Join2 BT ([] : List UInt8) NB hj2 _ _ _ _ _ _ _ _ w (hm.rowRd (by first | exact .hd | exact .tl .hd | exact .tl (.tl .hd) | exact .tl (.tl (.tl .hd)) | exact .tl (.tl (.tl (.tl .hd))) | exact .tl (.tl (.tl (.tl (.tl .hd)))))) rfl rfl (hm.slRd (.tail _ <| .head _)) RdL.ofNil y2 (Nat.le_refl _) (by omega) (Nat.le_refl _)) | (exact codec_Join2 BT (fillerR ss).1 NB hj2 _ _ _ _ _ _ _ _ w (hm.rowRd (by first | exact .hd | exact .tl .hd | exact .tl (.tl .hd) | exact .tl (.tl (.tl .hd)) | exact .tl (.tl (.tl (.tl .hd))) | exact .tl (.tl (.tl (.tl (.tl .hd)))))) rfl rfl (hm.slRd (.tail _ <| .head _)) (hm.slRd (m := (fillerR ss).1.length) (cap := c2) (E := 5) (s := 1) (.tail _ <| .tail _ <| .tail _ <| .tail _ <| .tail _ <| .tail _ <| .head _)) y2 f2 (by omega) (Nat.le_refl _))) rfl fun v J hv hJ => ?_
                  obtain ⟨a7, c7, rfl, rfl⟩ := hv
                  refine W.slAt (a := a7) (m := NB.length) (cap := c7) (E := 5) (s := 1) (xs := B NB) (.head _) (fun x1 x2 x3 x4 => ?_)
                  obtain ⟨g7, rfl⟩ : ∃ g, a7 = some ⟨g, 0, none⟩ := x4.elim (fun h => absurd h.2.2 (by omega)) (fun h => h)
                  refine A.back <| A.q 9 rfl (by kernel_rfl) (fun _ => (stp_ Try.ear26 rfl (by omega))) rfl <| A.held 4 [10] rfl (by kernel_rfl) (lda Try.agg24 Try.sz24 rfl (fun j v hv => Cell.old (by simp [allNew, pcI, sl, blk]) (hAl _ (by omega) j v hv)) (by rw [Bl]; exact hsA)) rfl <| A.held 10 [] rfl (by kernel_rfl) (lda Try.agg26 Try.sz26 rfl (Rdf.cl (Rdf.sl (m := NB.length) (cap := c7) (E := 5) (s := 1) (xs := B NB) (.head _))) (by rw [Bl]; exact hNB)) rfl <| A.q 11 rfl (by kernel_rfl) (fun _ => ((bld (pl := [(0, 32), (32, 16), (48, 240)]) (zs := B (List.replicate 288 0)) Try.stp28 rfl (hdr_fill hsA hNB)))) rfl <| A.one 12 rfl (by kernel_rfl) <| W.sta Try.sz28 rfl rfl (by first | rfl | (rw [Bl]; first | exact h288 | exact hfin)) (by first | rfl | exact B_one _) (.tl <| .tl <| .tl <| .tl <| .tl <| .tl <| .hd) (by first | rfl | (rw [Bl]; exact hHd)) <| A.back <| A.nil (by kernel_rfl) <| G.rega 16 rfl Try.mixed <| A.q 0 rfl (by kernel_rfl) (fun _ => (mv rfl)) rfl <| A.q 1 rfl (by kernel_rfl) (fun _ => (mv rfl)) rfl <| A.q 2 rfl (by kernel_rfl) (fun _ => (ia Try.esl80 rfl rfl (by omega) (by omega))) rfl <| A.q 3 rfl (by kernel_rfl) (fun _ => (fa Try.fof86_0 rfl)) rfl <| A.q 4 rfl (by kernel_rfl) (fun _ => (fa Try.fof84_0 rfl)) rfl <| A.q 5 rfl (by kernel_rfl) (fun _ => (saa Try.ear24 rfl )) rfl <| A.q 6 rfl (by kernel_rfl) (fun _ => (fa Try.fof28_0 rfl)) rfl <| A.q 7 rfl (by kernel_rfl) (fun _ => (saa Try.ear24 rfl )) rfl <| A.q 8 rfl (by kernel_rfl) (fun _ => (fa Try.fof28_2 rfl)) rfl <| A.q 9 rfl (by kernel_rfl) (fun _ => (saa Try.ear26 rfl )) rfl <| A.one 10 rfl (by kernel_rfl) <| W.bs (cs := [_, _]) Try.underlying73 Try.sz22 Try.zrl22 rfl rfl rfl rfl fun b9 => A.back <| A.one 11 rfl (by kernel_rfl) <| W.fn Try.ca88 rfl (fun w hm => mac_Short2 (sM s) (sA s) NB _ _ _ _ _ _ _ _ _ _ _ w (by simp; omega) (RdL.oldc hm (by simp [allNew, pcI, sl, blk]) (hMk _ (by omega))) (by simp; omega) (by simp; omega) (hm.rowRd .hd) hsA.symm hNB.symm (by have := hm.rowSub (bs := sA s ++ (List.replicate 16 0 ++ NB)) (.tl <| .tl <| .tl <| .tl <| .tl <| .tl <| .tl <| .hd) 0 32; rwa [hd0] at this) (by have := hm.rowSub (bs := sA s ++ (List.replicate 16 0 ++ NB)) (.tl <| .tl <| .tl <| .tl <| .tl <| .tl <| .tl <| .hd) 48 240; rwa [hd48] at this) (by omega) (by omega) (by omega) (by omega)) rfl fun v J hv hJ => ?_
                  obtain ⟨bm, Tm, rfl, rfl⟩ := hv
                  have htl : (((hmac (sM s) (sA s ++ NB)).drop 0).take 16).length = 16 := by simp [hmac_len]
                  refine A.back <| A.q 12 rfl (by kernel_rfl) (fun _ => (stp_ Try.ear25 rfl (by omega))) rfl <| A.held 13 [] rfl (by kernel_rfl) (lda Try.agg25 Try.sz25 rfl (Cells.rowSub .hd 0 16) (by rw [Bl]; exact htl)) rfl <| A.q 14 rfl (by kernel_rfl) (fun _ => (fa Try.fof28_1 rfl)) rfl <| A.one 15 rfl (by kernel_rfl) <| W.st (cs' := B (sA s ++ (((hmac (sM s) (sA s ++ NB)).drop 0).take 16 ++ NB))) Try.sz25 rfl rfl rfl (by show (B _).length = 16; rw [Bl]; exact htl) (B_one _) (.tl <| .tl <| .tl <| .tl <| .tl <| .tl <| .tl <| .tl <| .hd) (by rw [Bl, h288]; decide) (hdr_tag hsA htl) <| A.back <| A.nil (by kernel_rfl) <| G.inb <| G.reg <| W.q (mv rfl) rfl <| W.q (sb rfl rfl (by omega)) rfl <| W.q (sa rfl) rfl <| W.nil <| (ih (k + 1) (by omega) (by omega)).weak (Sub.co rfl ?_ <| Sub.cons rfl <| Sub.cons rfl <| Sub.cons rfl <| Sub.cons rfl <| Sub.cons rfl <| Sub.nil _) (fun w hm => by rw [hsk1, hnext, hlay]; exact Dr.ent (.drop rfl <| .drop rfl <| .drop rfl <| .drop rfl <| .drop rfl <| .drop rfl <| .drop rfl <| .drop rfl <| .keep <| .keep <| .keep <| .keep <| .rfl) w hm)
                  all_goals clear ih
                  · show i64 _ = i64 _; congr 1; omega
            · -- h6 False
              have hnext : layers (fillerR ss).1 ((hops cs ss).drop i) = layR slot s Hd (fillerR ss).1 := by rw [hnext0, if_pos (List.drop_of_length_le (by omega))]
              refine G.skip <| G.seq <| G.reg <| W.q (mv rfl) rfl <| W.q (mv rfl) rfl <| W.q (ln Try.esl22 rfl) rfl <| W.q (sb rfl rfl (by omega)) rfl <| W.q (sa rfl) rfl <| W.nil <| G.seq <| G.rega 16 rfl Try.mixed <| A.q 0 rfl (by kernel_rfl) (fun _ => (mv rfl)) rfl <| A.q 1 rfl (by kernel_rfl) (fun _ => (mv rfl)) rfl <| A.q 2 rfl (by kernel_rfl) (fun _ => (ia Try.esl80 rfl rfl (by omega) (by omega))) rfl <| A.q 3 rfl (by kernel_rfl) (fun _ => (fa Try.fof86_0 rfl)) rfl <| A.q 4 rfl (by kernel_rfl) (fun _ => (fa Try.fof84_1 rfl)) rfl <| A.q 5 rfl (by kernel_rfl) (fun _ => (saa Try.ear24 rfl )) rfl <| A.q 6 rfl (by kernel_rfl) (fun _ => (mv rfl)) rfl <| A.q 7 rfl (by kernel_rfl) (fun _ => (mv rfl)) rfl <| A.q 8 rfl (by kernel_rfl) (fun _ => (shi Try.esl22 rfl rfl (by omega) (by omega))) rfl <| A.one 9 rfl (by kernel_rfl) <| W.bs (cs := [_]) Try.underlying73 Try.sz22 Try.zrl22 rfl rfl rfl rfl fun b10 => A.back <| A.one 10 rfl (by kernel_rfl) <| W.fn Try.ca87 rfl (fun w hm => cha_Turn1 (sS s) (PL.take (240 - (fillerR ss).1.length)) _ _ _ _ _ _ _ _ w (by simp; omega) (RdL.oldc hm (by simp [allNew, pcI, sl, blk]) (hS _ (by omega))) (by simp; omega) (hm.rowRd .hd) (by rw [List.length_take, hPll]; first | omega | (simp; done) | (simp; omega)) ((hm.slRd (m := PL.length) (cap := c5) (E := 5) (s := 1) (.tail _ <| .head _)).takeB (240 - (fillerR ss).1.length)) (by rw [List.length_take, hPll]; omega) (Nat.le_refl _) (by rw [List.length_take, hPll]; omega)) rfl fun v J hv hJ => ?_
              obtain ⟨v1, ⟨a6, c6, rfl, rfl⟩, rfl⟩ := hv
              have hXl : (xorB (PL.take (240 - (fillerR ss).1.length)) (strm (sS s) 0 (PL.take (240 - (fillerR ss).1.length)).length)).length = 240 - (fillerR ss).1.length := by rw [xorB_len _ _ (strm_len _ _ _), List.length_take, hPll]; omega
              have hj2 : [xorB (PL.take (240 - (fillerR ss).1.length)) (strm (sS s) 0 (PL.take (240 - (fillerR ss).1.length)).length), (fillerR ss).1].flatten = betaR slot s Hd (fillerR ss).1 := by rw [betaR, hPL]; simp
              have hNB := betaR_len (s := s) hslot hHd (show ((fillerR ss).1).length ≤ 240 by first | (simp; done) | omega)
              obtain ⟨NB, hNBe⟩ : ∃ NB, betaR slot s Hd (fillerR ss).1 = NB := ⟨_, rfl⟩
              have hlay : layR slot s Hd (fillerR ss).1 = sA s ++ (tagR s (sA s) NB ++ NB) := by rw [layR, hNBe]
              rw [hNBe] at hNB hj2
              generalize xorB (PL.take (240 - (fillerR ss).1.length)) (strm (sS s) 0 (PL.take (240 - (fillerR ss).1.length)).length) = BT at hXl hj2 ⊢
              refine W.slAt (a := a6) (m := BT.length) (cap := c6) (E := 5) (s := 1) (xs := B BT) (.head _) (fun y1 y2 y3 y4 => ?_)
              have h288 : (sA s ++ (List.replicate 16 0 ++ NB)).length = 288 := by rw [List.length_append, List.length_append, List.length_replicate, hNB, hsA]
              have hd0 : ((sA s ++ (List.replicate 16 0 ++ NB)).drop 0).take 32 = sA s := by rw [List.drop_zero, List.take_left' hsA]
              have hd48 : ((sA s ++ (List.replicate 16 0 ++ NB)).drop 48).take 240 = NB := by rw [← List.append_assoc, List.drop_left' (by rw [List.length_append, List.length_replicate, hsA]), List.take_of_length_le (by omega)]
              refine A.back <| A.q 11 rfl (by kernel_rfl) (fun _ => (mv rfl)) rfl <| A.q 12 rfl (by kernel_rfl) (fun _ => (ex rfl rfl)) rfl <| A.q 13 rfl (by kernel_rfl) (fun _ => (ex rfl rfl)) rfl <| A.q 14 rfl (by kernel_rfl) (fun _ => (sa rfl)) rfl <| A.q 15 rfl (by kernel_rfl) (fun _ => (sa rfl)) rfl <| A.nil (by kernel_rfl) <| G.seq <| G.rega 13 rfl Try.mixed <| A.q 0 rfl (by kernel_rfl) (fun _ => (mv rfl)) rfl <| A.q 1 rfl (by kernel_rfl) (fun _ => (mv rfl)) rfl <| A.q 2 rfl (by kernel_rfl) (fun _ => (ia Try.esl80 rfl rfl (by omega) (by omega))) rfl <| A.q 3 rfl (by kernel_rfl) (fun _ => (fa Try.fof86_1 rfl)) rfl <| A.q 5 rfl (by kernel_rfl) (fun _ => (mv rfl)) rfl <| A.q 6 rfl (by kernel_rfl) (fun _ => (mv rfl)) rfl <| A.two 4 7 rfl rfl (by kernel_rfl) ?_ ?_
              · -- o9: 4 first
                refine W.q (lda Try.agg24 Try.sz24 rfl (fun j v hv => Cell.old (by simp [allNew, pcI, sl, blk]) (hAl _ (by omega) j v hv)) (by rw [Bl]; exact hsA)) rfl <| A.back <| A.one 7 rfl (by kernel_rfl) <| W.bs (cs := [_, _]) Try.underlying73 Try.sz22 Try.zrl22 rfl rfl rfl rfl fun b11 => A.back <| A.one 8 rfl (by kernel_rfl) <| W.fn Try.ca44 rfl (fun w hm => by first | (exact codec_Join2 BT ([] : List UInt8) NB hj2 _ _ _ _ _ _ _ _ w (hm.rowRd (by first | exact .hd | exact .tl .hd | exact .tl (.tl .hd) | exact .tl (.tl (.tl .hd)) | exact .tl (.tl (.tl (.tl .hd))) | exact .tl (.tl (.tl (.tl (.tl .hd)))))) rfl rfl (hm.slRd (.tail _ <| .head _)) RdL.ofNil y2 (Nat.le_refl _) (by omega) (Nat.le_refl _)) | (exact codec_Join2 BT (fillerR ss).1 NB hj2 _ _ _ _ _ _ _ _ w (hm.rowRd (by first | exact .hd | exact .tl .hd | exact .tl (.tl .hd) | exact .tl (.tl (.tl .hd)) | exact .tl (.tl (.tl (.tl .hd))) | exact .tl (.tl (.tl (.tl (.tl .hd)))))) rfl rfl (hm.slRd (.tail _ <| .head _)) (hm.slRd (m := (fillerR ss).1.length) (cap := c2) (E := 5) (s := 1) (.tail _ <| .tail _ <| .tail _ <| .tail _ <| .tail _ <| .tail _ <| .head _)) y2 f2 (by omega) (Nat.le_refl _))) rfl fun v J hv hJ => ?_
                obtain ⟨a7, c7, rfl, rfl⟩ := hv
                refine W.slAt (a := a7) (m := NB.length) (cap := c7) (E := 5) (s := 1) (xs := B NB) (.head _) (fun x1 x2 x3 x4 => ?_)
                obtain ⟨g7, rfl⟩ : ∃ g, a7 = some ⟨g, 0, none⟩ := x4.elim (fun h => absurd h.2.2 (by omega)) (fun h => h)
                refine A.back <| A.q 9 rfl (by kernel_rfl) (fun _ => (stp_ Try.ear26 rfl (by omega))) rfl <| A.held 10 [] rfl (by kernel_rfl) (lda Try.agg26 Try.sz26 rfl (Rdf.cl (Rdf.sl (m := NB.length) (cap := c7) (E := 5) (s := 1) (xs := B NB) (.head _))) (by rw [Bl]; exact hNB)) rfl <| A.q 11 rfl (by kernel_rfl) (fun _ => ((bld (pl := [(0, 32), (32, 16), (48, 240)]) (zs := B (List.replicate 288 0)) Try.stp28 rfl (hdr_fill hsA hNB)))) rfl <| A.one 12 rfl (by kernel_rfl) <| W.sta Try.sz28 rfl rfl (by first | rfl | (rw [Bl]; first | exact h288 | exact hfin)) (by first | rfl | exact B_one _) (.tl <| .tl <| .tl <| .tl <| .tl <| .tl <| .hd) (by first | rfl | (rw [Bl]; exact hHd)) <| A.back <| A.nil (by kernel_rfl) <| G.rega 16 rfl Try.mixed <| A.q 0 rfl (by kernel_rfl) (fun _ => (mv rfl)) rfl <| A.q 1 rfl (by kernel_rfl) (fun _ => (mv rfl)) rfl <| A.q 2 rfl (by kernel_rfl) (fun _ => (ia Try.esl80 rfl rfl (by omega) (by omega))) rfl <| A.q 3 rfl (by kernel_rfl) (fun _ => (fa Try.fof86_0 rfl)) rfl <| A.q 4 rfl (by kernel_rfl) (fun _ => (fa Try.fof84_0 rfl)) rfl <| A.q 5 rfl (by kernel_rfl) (fun _ => (saa Try.ear24 rfl )) rfl <| A.q 6 rfl (by kernel_rfl) (fun _ => (fa Try.fof28_0 rfl)) rfl <| A.q 7 rfl (by kernel_rfl) (fun _ => (saa Try.ear24 rfl )) rfl <| A.q 8 rfl (by kernel_rfl) (fun _ => (fa Try.fof28_2 rfl)) rfl <| A.q 9 rfl (by kernel_rfl) (fun _ => (saa Try.ear26 rfl )) rfl <| A.one 10 rfl (by kernel_rfl) <| W.bs (cs := [_, _]) Try.underlying73 Try.sz22 Try.zrl22 rfl rfl rfl rfl fun b12 => A.back <| A.one 11 rfl (by kernel_rfl) <| W.fn Try.ca88 rfl (fun w hm => mac_Short2 (sM s) (sA s) NB _ _ _ _ _ _ _ _ _ _ _ w (by simp; omega) (RdL.oldc hm (by simp [allNew, pcI, sl, blk]) (hMk _ (by omega))) (by simp; omega) (by simp; omega) (hm.rowRd .hd) hsA.symm hNB.symm (by have := hm.rowSub (bs := sA s ++ (List.replicate 16 0 ++ NB)) (.tl <| .tl <| .tl <| .tl <| .tl <| .tl <| .tl <| .hd) 0 32; rwa [hd0] at this) (by have := hm.rowSub (bs := sA s ++ (List.replicate 16 0 ++ NB)) (.tl <| .tl <| .tl <| .tl <| .tl <| .tl <| .tl <| .hd) 48 240; rwa [hd48] at this) (by omega) (by omega) (by omega) (by omega)) rfl fun v J hv hJ => ?_
                obtain ⟨bm, Tm, rfl, rfl⟩ := hv
                have htl : (((hmac (sM s) (sA s ++ NB)).drop 0).take 16).length = 16 := by simp [hmac_len]
                refine A.back <| A.q 12 rfl (by kernel_rfl) (fun _ => (stp_ Try.ear25 rfl (by omega))) rfl <| A.held 13 [] rfl (by kernel_rfl) (lda Try.agg25 Try.sz25 rfl (Cells.rowSub .hd 0 16) (by rw [Bl]; exact htl)) rfl <| A.q 14 rfl (by kernel_rfl) (fun _ => (fa Try.fof28_1 rfl)) rfl <| A.one 15 rfl (by kernel_rfl) <| W.st (cs' := B (sA s ++ (((hmac (sM s) (sA s ++ NB)).drop 0).take 16 ++ NB))) Try.sz25 rfl rfl rfl (by show (B _).length = 16; rw [Bl]; exact htl) (B_one _) (.tl <| .tl <| .tl <| .tl <| .tl <| .tl <| .tl <| .tl <| .hd) (by rw [Bl, h288]; decide) (hdr_tag hsA htl) <| A.back <| A.nil (by kernel_rfl) <| G.inb <| G.reg <| W.q (mv rfl) rfl <| W.q (sb rfl rfl (by omega)) rfl <| W.q (sa rfl) rfl <| W.nil <| (ih (k + 1) (by omega) (by omega)).weak (Sub.co rfl ?_ <| Sub.cons rfl <| Sub.cons rfl <| Sub.cons rfl <| Sub.cons rfl <| Sub.cons rfl <| Sub.nil _) (fun w hm => by rw [hsk1, hnext, hlay]; exact Dr.ent (.drop rfl <| .drop rfl <| .drop rfl <| .drop rfl <| .drop rfl <| .drop rfl <| .drop rfl <| .drop rfl <| .keep <| .keep <| .keep <| .keep <| .rfl) w hm)
                all_goals clear ih
                · show i64 _ = i64 _; congr 1; omega
              · -- o9: 7 first
                refine W.bs (cs := [_, _]) Try.underlying73 Try.sz22 Try.zrl22 rfl rfl rfl rfl fun b13 => A.back <| A.two 4 8 rfl rfl (by kernel_rfl) ?_ ?_
                · -- o10: 4 first
                  refine W.q (lda Try.agg24 Try.sz24 rfl (fun j v hv => Cell.old (by simp [allNew, pcI, sl, blk]) (hAl _ (by omega) j v hv)) (by rw [Bl]; exact hsA)) rfl <| A.back <| A.one 8 rfl (by kernel_rfl) <| W.fn Try.ca44 rfl (fun w hm => by first | (exact codec_Join2 BT ([] : List UInt8) NB hj2 _ _ _ _ _ _ _ _ w (hm.rowRd (by first | exact .hd | exact .tl .hd | exact .tl (.tl .hd) | exact .tl (.tl (.tl .hd)) | exact .tl (.tl (.tl (.tl .hd))) | exact .tl (.tl (.tl (.tl (.tl .hd)))))) rfl rfl (hm.slRd (.tail _ <| .head _)) RdL.ofNil y2 (Nat.le_refl _) (by omega) (Nat.le_refl _)) | (exact codec_Join2 BT (fillerR ss).1 NB hj2 _ _ _ _ _ _ _ _ w (hm.rowRd (by first | exact .hd | exact .tl .hd | exact .tl (.tl .hd) | exact .tl (.tl (.tl .hd)) | exact .tl (.tl (.tl (.tl .hd))) | exact .tl (.tl (.tl (.tl (.tl .hd)))))) rfl rfl (hm.slRd (.tail _ <| .head _)) (hm.slRd (m := (fillerR ss).1.length) (cap := c2) (E := 5) (s := 1) (.tail _ <| .tail _ <| .tail _ <| .tail _ <| .tail _ <| .tail _ <| .head _)) y2 f2 (by omega) (Nat.le_refl _))) rfl fun v J hv hJ => ?_
                  obtain ⟨a7, c7, rfl, rfl⟩ := hv
                  refine W.slAt (a := a7) (m := NB.length) (cap := c7) (E := 5) (s := 1) (xs := B NB) (.head _) (fun x1 x2 x3 x4 => ?_)
                  obtain ⟨g7, rfl⟩ : ∃ g, a7 = some ⟨g, 0, none⟩ := x4.elim (fun h => absurd h.2.2 (by omega)) (fun h => h)
                  refine A.back <| A.q 9 rfl (by kernel_rfl) (fun _ => (stp_ Try.ear26 rfl (by omega))) rfl <| A.held 10 [] rfl (by kernel_rfl) (lda Try.agg26 Try.sz26 rfl (Rdf.cl (Rdf.sl (m := NB.length) (cap := c7) (E := 5) (s := 1) (xs := B NB) (.head _))) (by rw [Bl]; exact hNB)) rfl <| A.q 11 rfl (by kernel_rfl) (fun _ => ((bld (pl := [(0, 32), (32, 16), (48, 240)]) (zs := B (List.replicate 288 0)) Try.stp28 rfl (hdr_fill hsA hNB)))) rfl <| A.one 12 rfl (by kernel_rfl) <| W.sta Try.sz28 rfl rfl (by first | rfl | (rw [Bl]; first | exact h288 | exact hfin)) (by first | rfl | exact B_one _) (.tl <| .tl <| .tl <| .tl <| .tl <| .tl <| .hd) (by first | rfl | (rw [Bl]; exact hHd)) <| A.back <| A.nil (by kernel_rfl) <| G.rega 16 rfl Try.mixed <| A.q 0 rfl (by kernel_rfl) (fun _ => (mv rfl)) rfl <| A.q 1 rfl (by kernel_rfl) (fun _ => (mv rfl)) rfl <| A.q 2 rfl (by kernel_rfl) (fun _ => (ia Try.esl80 rfl rfl (by omega) (by omega))) rfl <| A.q 3 rfl (by kernel_rfl) (fun _ => (fa Try.fof86_0 rfl)) rfl <| A.q 4 rfl (by kernel_rfl) (fun _ => (fa Try.fof84_0 rfl)) rfl <| A.q 5 rfl (by kernel_rfl) (fun _ => (saa Try.ear24 rfl )) rfl <| A.q 6 rfl (by kernel_rfl) (fun _ => (fa Try.fof28_0 rfl)) rfl <| A.q 7 rfl (by kernel_rfl) (fun _ => (saa Try.ear24 rfl )) rfl <| A.q 8 rfl (by kernel_rfl) (fun _ => (fa Try.fof28_2 rfl)) rfl <| A.q 9 rfl (by kernel_rfl) (fun _ => (saa Try.ear26 rfl )) rfl <| A.one 10 rfl (by kernel_rfl) <| W.bs (cs := [_, _]) Try.underlying73 Try.sz22 Try.zrl22 rfl rfl rfl rfl fun b14 => A.back <| A.one 11 rfl (by kernel_rfl) <| W.fn Try.ca88 rfl (fun w hm => mac_Short2 (sM s) (sA s) NB _ _ _ _ _ _ _ _ _ _ _ w (by simp; omega) (RdL.oldc hm (by simp [allNew, pcI, sl, blk]) (hMk _ (by omega))) (by simp; omega) (by simp; omega) (hm.rowRd .hd) hsA.symm hNB.symm (by have := hm.rowSub (bs := sA s ++ (List.replicate 16 0 ++ NB)) (.tl <| .tl <| .tl <| .tl <| .tl <| .tl <| .tl <| .hd) 0 32; rwa [hd0] at this) (by have := hm.rowSub (bs := sA s ++ (List.replicate 16 0 ++ NB)) (.tl <| .tl <| .tl <| .tl <| .tl <| .tl <| .tl <| .hd) 48 240; rwa [hd48] at this) (by omega) (by omega) (by omega) (by omega)) rfl fun v J hv hJ => ?_
                  obtain ⟨bm, Tm, rfl, rfl⟩ := hv
                  have htl : (((hmac (sM s) (sA s ++ NB)).drop 0).take 16).length = 16 := by simp [hmac_len]
                  refine A.back <| A.q 12 rfl (by kernel_rfl) (fun _ => (stp_ Try.ear25 rfl (by omega))) rfl <| A.held 13 [] rfl (by kernel_rfl) (lda Try.agg25 Try.sz25 rfl (Cells.rowSub .hd 0 16) (by rw [Bl]; exact htl)) rfl <| A.q 14 rfl (by kernel_rfl) (fun _ => (fa Try.fof28_1 rfl)) rfl <| A.one 15 rfl (by kernel_rfl) <| W.st (cs' := B (sA s ++ (((hmac (sM s) (sA s ++ NB)).drop 0).take 16 ++ NB))) Try.sz25 rfl rfl rfl (by show (B _).length = 16; rw [Bl]; exact htl) (B_one _) (.tl <| .tl <| .tl <| .tl <| .tl <| .tl <| .tl <| .tl <| .hd) (by rw [Bl, h288]; decide) (hdr_tag hsA htl) <| A.back <| A.nil (by kernel_rfl) <| G.inb <| G.reg <| W.q (mv rfl) rfl <| W.q (sb rfl rfl (by omega)) rfl <| W.q (sa rfl) rfl <| W.nil <| (ih (k + 1) (by omega) (by omega)).weak (Sub.co rfl ?_ <| Sub.cons rfl <| Sub.cons rfl <| Sub.cons rfl <| Sub.cons rfl <| Sub.cons rfl <| Sub.nil _) (fun w hm => by rw [hsk1, hnext, hlay]; exact Dr.ent (.drop rfl <| .drop rfl <| .drop rfl <| .drop rfl <| .drop rfl <| .drop rfl <| .drop rfl <| .drop rfl <| .keep <| .keep <| .keep <| .keep <| .rfl) w hm)
                  all_goals clear ih
                  · show i64 _ = i64 _; congr 1; omega
                · -- o10: 8 first
                  refine W.fn Try.ca44 rfl (fun w hm => by first | (exact codec_Join2 BT ([] : List UInt8) NB hj2 _ _ _ _ _ _ _ _ w (hm.rowRd (by first | exact .hd | exact .tl .hd | exact .tl (.tl .hd) | exact .tl (.tl (.tl .hd)) | exact .tl (.tl (.tl (.tl .hd))) | exact .tl (.tl (.tl (.tl (.tl .hd)))))) rfl rfl (hm.slRd (.tail _ <| .head _)) RdL.ofNil y2 (Nat.le_refl _) (by omega) (Nat.le_refl _)) | (exact codec_Join2 BT (fillerR ss).1 NB hj2 _ _ _ _ _ _ _ _ w (hm.rowRd (by first | exact .hd | exact .tl .hd | exact .tl (.tl .hd) | exact .tl (.tl (.tl .hd)) | exact .tl (.tl (.tl (.tl .hd))) | exact .tl (.tl (.tl (.tl (.tl .hd)))))) rfl rfl (hm.slRd (.tail _ <| .head _)) (hm.slRd (m := (fillerR ss).1.length) (cap := c2) (E := 5) (s := 1) (.tail _ <| .tail _ <| .tail _ <| .tail _ <| .tail _ <| .tail _ <| .head _)) y2 f2 (by omega) (Nat.le_refl _))) rfl fun v J hv hJ => ?_
                  obtain ⟨a7, c7, rfl, rfl⟩ := hv
                  refine W.slAt (a := a7) (m := NB.length) (cap := c7) (E := 5) (s := 1) (xs := B NB) (.head _) (fun x1 x2 x3 x4 => ?_)
                  obtain ⟨g7, rfl⟩ : ∃ g, a7 = some ⟨g, 0, none⟩ := x4.elim (fun h => absurd h.2.2 (by omega)) (fun h => h)
                  refine A.back <| A.q 9 rfl (by kernel_rfl) (fun _ => (stp_ Try.ear26 rfl (by omega))) rfl <| A.held 4 [10] rfl (by kernel_rfl) (lda Try.agg24 Try.sz24 rfl (fun j v hv => Cell.old (by simp [allNew, pcI, sl, blk]) (hAl _ (by omega) j v hv)) (by rw [Bl]; exact hsA)) rfl <| A.held 10 [] rfl (by kernel_rfl) (lda Try.agg26 Try.sz26 rfl (Rdf.cl (Rdf.sl (m := NB.length) (cap := c7) (E := 5) (s := 1) (xs := B NB) (.head _))) (by rw [Bl]; exact hNB)) rfl <| A.q 11 rfl (by kernel_rfl) (fun _ => ((bld (pl := [(0, 32), (32, 16), (48, 240)]) (zs := B (List.replicate 288 0)) Try.stp28 rfl (hdr_fill hsA hNB)))) rfl <| A.one 12 rfl (by kernel_rfl) <| W.sta Try.sz28 rfl rfl (by first | rfl | (rw [Bl]; first | exact h288 | exact hfin)) (by first | rfl | exact B_one _) (.tl <| .tl <| .tl <| .tl <| .tl <| .tl <| .hd) (by first | rfl | (rw [Bl]; exact hHd)) <| A.back <| A.nil (by kernel_rfl) <| G.rega 16 rfl Try.mixed <| A.q 0 rfl (by kernel_rfl) (fun _ => (mv rfl)) rfl <| A.q 1 rfl (by kernel_rfl) (fun _ => (mv rfl)) rfl <| A.q 2 rfl (by kernel_rfl) (fun _ => (ia Try.esl80 rfl rfl (by omega) (by omega))) rfl <| A.q 3 rfl (by kernel_rfl) (fun _ => (fa Try.fof86_0 rfl)) rfl <| A.q 4 rfl (by kernel_rfl) (fun _ => (fa Try.fof84_0 rfl)) rfl <| A.q 5 rfl (by kernel_rfl) (fun _ => (saa Try.ear24 rfl )) rfl <| A.q 6 rfl (by kernel_rfl) (fun _ => (fa Try.fof28_0 rfl)) rfl <| A.q 7 rfl (by kernel_rfl) (fun _ => (saa Try.ear24 rfl )) rfl <| A.q 8 rfl (by kernel_rfl) (fun _ => (fa Try.fof28_2 rfl)) rfl <| A.q 9 rfl (by kernel_rfl) (fun _ => (saa Try.ear26 rfl )) rfl <| A.one 10 rfl (by kernel_rfl) <| W.bs (cs := [_, _]) Try.underlying73 Try.sz22 Try.zrl22 rfl rfl rfl rfl fun b15 => A.back <| A.one 11 rfl (by kernel_rfl) <| W.fn Try.ca88 rfl (fun w hm => mac_Short2 (sM s) (sA s) NB _ _ _ _ _ _ _ _ _ _ _ w (by simp; omega) (RdL.oldc hm (by simp [allNew, pcI, sl, blk]) (hMk _ (by omega))) (by simp; omega) (by simp; omega) (hm.rowRd .hd) hsA.symm hNB.symm (by have := hm.rowSub (bs := sA s ++ (List.replicate 16 0 ++ NB)) (.tl <| .tl <| .tl <| .tl <| .tl <| .tl <| .tl <| .hd) 0 32; rwa [hd0] at this) (by have := hm.rowSub (bs := sA s ++ (List.replicate 16 0 ++ NB)) (.tl <| .tl <| .tl <| .tl <| .tl <| .tl <| .tl <| .hd) 48 240; rwa [hd48] at this) (by omega) (by omega) (by omega) (by omega)) rfl fun v J hv hJ => ?_
                  obtain ⟨bm, Tm, rfl, rfl⟩ := hv
                  have htl : (((hmac (sM s) (sA s ++ NB)).drop 0).take 16).length = 16 := by simp [hmac_len]
                  refine A.back <| A.q 12 rfl (by kernel_rfl) (fun _ => (stp_ Try.ear25 rfl (by omega))) rfl <| A.held 13 [] rfl (by kernel_rfl) (lda Try.agg25 Try.sz25 rfl (Cells.rowSub .hd 0 16) (by rw [Bl]; exact htl)) rfl <| A.q 14 rfl (by kernel_rfl) (fun _ => (fa Try.fof28_1 rfl)) rfl <| A.one 15 rfl (by kernel_rfl) <| W.st (cs' := B (sA s ++ (((hmac (sM s) (sA s ++ NB)).drop 0).take 16 ++ NB))) Try.sz25 rfl rfl rfl (by show (B _).length = 16; rw [Bl]; exact htl) (B_one _) (.tl <| .tl <| .tl <| .tl <| .tl <| .tl <| .tl <| .tl <| .hd) (by rw [Bl, h288]; decide) (hdr_tag hsA htl) <| A.back <| A.nil (by kernel_rfl) <| G.inb <| G.reg <| W.q (mv rfl) rfl <| W.q (sb rfl rfl (by omega)) rfl <| W.q (sa rfl) rfl <| W.nil <| (ih (k + 1) (by omega) (by omega)).weak (Sub.co rfl ?_ <| Sub.cons rfl <| Sub.cons rfl <| Sub.cons rfl <| Sub.cons rfl <| Sub.cons rfl <| Sub.nil _) (fun w hm => by rw [hsk1, hnext, hlay]; exact Dr.ent (.drop rfl <| .drop rfl <| .drop rfl <| .drop rfl <| .drop rfl <| .drop rfl <| .drop rfl <| .drop rfl <| .keep <| .keep <| .keep <| .keep <| .rfl) w hm)
                  all_goals clear ih
                  · show i64 _ = i64 _; congr 1; omega
          · -- h5 False
            have hk0 : ss.length - k = 0 := by omega
            rw [hk0, List.drop_zero]
            refine G.exit rfl <| G.seq <| G.reg <| W.q (lda Try.agg28 Try.sz28 rfl (Cells.whole .hd) (by rw [Bl]; exact hfin)) rfl <| W.sta Try.sz28 rfl rfl (by first | rfl | (rw [Bl]; first | exact h288 | exact hfin)) (by first | rfl | exact B_one _) (.tl <| .tl <| .hd) (by first | rfl | (rw [Bl]; exact hHd)) <| W.q (sa rfl) rfl <| W.nil <| ret hX Try.results67 (RA.cella rfl Try.agg28 Try.sz28 (Cells.whole (.tl <| .tl <| .hd)) (by rw [Bl]; exact hfin) <| RA.tmp rfl <| RA.nil) fun w hm => done (H := []) rfl ?_ (Dr.ent (Dr.new (by simp [allNew, pcI, sl, blk])) w hm)
            rw [buildR, if_neg h1, if_neg (by omega), if_neg h4]; rfl
end Go.Proofs.Ytjalojbihpdghaa
