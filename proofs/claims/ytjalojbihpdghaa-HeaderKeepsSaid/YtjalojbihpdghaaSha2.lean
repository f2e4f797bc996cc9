/- SHA-256, the program's: padding, the flow of bytes, sums. -/
import Derived.Test.YtjalojbihpdghaaSha1
import Derived.Test.YtjalojbihpdghaaTape1
namespace Go.Proofs.Ytjalojbihpdghaa
open Go Go.Eng
set_option linter.unusedVariables false

theorem out_take_len (s : S8) (i : Nat) (h : i ≤ 8) : ((s.l.take i).flatMap (fun x => (leB 4 x.toNat).reverse)).length = 4 * i := by
  have h8 : s.l.length = 8 := rfl
  have := Eng.flat_len (fun x : UInt32 => ((leB 4 x.toNat).reverse.map u8)) 4 (by simp [leB_len]) (s.l.take i)
  rw [← List.map_flatMap, List.length_map, List.length_take, h8] at this
  omega
theorem hsC_len (s : S8) (a : Option Addr) (k cap n : Nat) (ext : List Value) : (hsC s a k cap n ext).length = 10 + ext.length := by simp [hsC, S8.l]; omega
theorem shaSt_pos {m : List UInt8} (h : m.length ≠ 0) : shaSt m = shaBlocks shaI m (m.length / 64) := if_neg h
theorem hash_ne {m bs : List UInt8} (h : 0 < bs.length) : (m ++ bs).length ≠ 0 := by rw [List.length_append]; omega
/-- Slices of bytes, in whatever memory above the frame. -/
def Rps (w0 : World) (H : List It) (ps : List Pc) : Prop := ∀ p ∈ ps, Rdf w0 H p.1 (B p.2.2) ∧ p.2.2.length ≤ p.2.1
def catP (ps : List Pc) : List UInt8 := (ps.map (fun p => p.2.2)).flatten
theorem catP_succ (ps : List Pc) (k : Nat) (h : k < ps.length) : catP (ps.take (k + 1)) = catP (ps.take k) ++ ps[k].2.2 := by
  simp only [catP]
  rw [List.take_succ_eq_append_getElem h, List.map_append, List.flatten_append]; simp
theorem catP_le (ps : List Pc) (k : Nat) : (catP (ps.take k)).length ≤ (catP ps).length := by
  have h := congrArg (fun l => (catP l).length) (List.take_append_drop k ps)
  simp only [catP, List.map_append, List.flatten_append, List.length_append] at h ⊢
  omega


set_option maxRecDepth 100000 in
theorem sha_pad (n : Nat) (hn : n ≤ 140737488351232) (w : World) : Ret Try.prog 178 [i64 n] w (NewB (shaPad n)) := by
  refine enter [] (Mem.nil _) Try.func178 rfl Try.ntmps178 rfl (fun X hX => ?_)
  have hw := hX.w0; subst hw
  refine G.seq <| G.reg <| W.q (sa rfl) rfl <| W.nil <| G.seq <| G.reg <| W.q (mv rfl) rfl <| W.q (rm rfl rfl (by omega) (by omega)) rfl <| W.q (sb rfl rfl (by omega)) rfl <| W.q (rm rfl rfl (by omega) (by omega)) rfl <| W.q (sa rfl) rfl <| W.nil <| G.seq <| G.reg <| W.q (mv rfl) rfl <| W.q (cv_i64_u64 Try.underlying3 Try.underlying29 rfl) rfl <| W.q (mul_u64 (b := 8) rfl rfl) rfl <| W.fn Try.ca59 rfl (fun w hm => sha_put8 _ w) rfl fun v J hv hJ => ?_
  rw [sha_pad_n n hn] at hv
  obtain ⟨v1, ⟨a1, c1, rfl, rfl⟩, rfl⟩ := hv
  refine W.slAt (a := a1) (m := _) (cap := c1) (E := 5) (s := 1) (xs := _) (.head _) (fun q1 q2 q3 q4 => ?_)
  refine W.q (mv rfl) rfl <| W.q (ex rfl rfl) rfl <| W.q (ex rfl rfl) rfl <| W.q (sa rfl) rfl <| W.q (sa rfl) rfl <| W.nil <| G.seq <| ?_
  rw [show (119 - (n : Int) % 64) % 64 = (((119 - n % 64) % 64 : Nat) : Int) by omega]
  refine G.reg <| W.bs (cs := [_]) Try.underlying22 Try.sz5 Try.zrl5 rfl rfl rfl rfl fun b1 => W.q (mv rfl) rfl <| W.mkB Try.underlying22 Try.sz5 Try.zrl5 Try.by5 rfl rfl (by omega) (by omega) rfl fun b2 => W.q (mv rfl) rfl <| W.bs (cs := [_, _, _]) Try.underlying73 Try.sz22 Try.zrl22 rfl rfl rfl rfl fun b3 => W.fn Try.ca44 rfl (fun w hm => codec_Join (some ⟨b3, 0, none⟩) 3 [slc b1 0 1 1, slc b2 0 _ _, .slice a1 _ c1] [[128], List.replicate ((119 - n % 64) % 64) 0, (leB 8 (n * 8 % 18446744073709551616)).reverse] w (hm.rowRd .hd) (.cons (.of (hm.rowRd (cs := B [128]) (.tl <| .tl <| .hd)) rfl (Nat.le_refl _)) (.cons (.of (hm.rowRd (.tl <| .hd)) (by simp) (by simp)) (.cons (.of (hm.slRd (.tail _ <| .tail _ <| .tail _ <| .head _)) rfl q2) .nil))) (by simp [leB_len]; omega) (by simp) (by simp)) rfl fun v J hv hJ => ?_
  have hpe : [[128], List.replicate ((119 - n % 64) % 64) 0, (leB 8 (n * 8 % 18446744073709551616)).reverse].flatten = shaPad n := by simp [shaPad]
  rw [hpe] at hv
  obtain ⟨a3, c3, rfl, rfl⟩ := hv
  refine W.q (sa rfl) rfl <| W.nil <| ret1 hX Try.results178 rfl fun w hm => done (H := [sl a3 (shaPad n).length c3 5 1 (B (shaPad n))]) rfl ⟨a3, c3, rfl, rfl⟩ (Dr.ent (.keep <| .drop rfl <| .drop rfl <| .drop rfl <| .drop rfl .rfl) w hm)


set_option maxRecDepth 100000 in
theorem flow_take (w0 : World) (H : List It) (b T : Nat) (ext : List Value) (m : List UInt8) (a : Option Addr) (cap : Nat) (sa : Option Addr) (len scap : Nat) (bs : List UInt8) (hlen : len = bs.length) (hr : Rdf w0 H sa (B bs)) (h0 : 0 < bs.length) (hb : m.length + bs.length ≤ 140737488351232) :
    RetF Try.prog 176 [ptr b 0, .slice sa len scap] w0 H (hashI b T ext m a cap) (fun _ P => ∃ a' cap', P = hashI b T ext (m ++ bs) a' cap') := by
  subst hlen
  refine enterF Try.func176 rfl Try.ntmps176 rfl (fun X hX => ?_)
  have hw := hX.w0; subst hw
  have hml : (m ++ bs).length = m.length + bs.length := by simp
  have hrl := restB_len m
  refine G.rdA (a := sa) (cells := B bs) ((hr.up (it := sv a (m.length % 64) cap 5 1 (B (restB m))) rfl).up rfl) (by rw [Bl]; exact h0) (fun sb so hsa => ?_)
  subst hsa
  unfold hashI
  refine G.seq <| G.seq <| G.reg <| W.q (mv rfl) rfl <| W.q (ncp rfl) rfl <| W.q (fa Try.fof238_2 rfl) rfl <| W.q (ld Try.sc3 rfl (Cell.at .hd rfl)) rfl <| W.q (eq rfl rfl) rfl <| W.nil <| G.joinH [] [(0, _), (1, _)] ([nb b (hsC (shaBlocks shaI m (m.length / 64)) a (m.length % 64) cap m.length ext) T, sv a (m.length % 64) cap 5 1 (B (restB m))] ++ H) (Sub.cons rfl <| Sub.cons rfl <| Sub.nil _) (fun ckey1 => ?_) ?_
  · -- cond 1
    refine G.cdd rfl (fun h1 => ?_) (fun h1 => ?_)
    · -- h1 True
      refine G.reg <| W.q (mv rfl) rfl <| W.fv Try.ca188 rfl (fun w hm => sha_Start w) rfl <| W.q (ncp rfl) rfl <| W.q (fa Try.fof238_0 rfl) rfl <| W.st (cs' := hsC shaI a (m.length % 64) cap m.length ext) Try.sz222 rfl rfl rfl rfl (U_one _) .hd (by rw [hsC_len]; omega) rfl <| W.nil <| ckey1.weak (Sub.cons rfl <| Sub.cons rfl <| Sub.nil _) (Ent.eq (by rw [show m.length / 64 = 0 by omega]; rfl))
    · -- h1 False
      refine G.skip <| ckey1.weak (Sub.cons rfl <| Sub.cons rfl <| Sub.nil _) (Ent.eq (by rw [shaSt_pos (by omega)]))
  refine G.seq <| G.reg <| W.q (mv rfl) rfl <| W.q (ncp rfl) rfl <| W.q (fa Try.fof238_2 rfl) rfl <| W.q (ld Try.sc3 rfl (Cell.at .hd rfl)) rfl <| W.q (mv rfl) rfl <| W.q (ln Try.esl22 rfl) rfl <| W.q (ad rfl rfl (by omega)) rfl <| W.q (ncp rfl) rfl <| W.q (fa Try.fof238_2 rfl) rfl <| W.st (cs' := hsC (shaBlocks shaI m (m.length / 64)) a (m.length % 64) cap (m.length + bs.length) ext) Try.sz3 rfl rfl rfl rfl rfl .hd (by rw [hsC_len]; omega) rfl <| W.nil <| G.seq <| G.reg <| W.q (mv rfl) rfl <| W.q (mv rfl) rfl <| W.q (ncp rfl) rfl <| W.q (fa Try.fof238_1 rfl) rfl <| W.q (ld Try.sc22 rfl (Cell.at .hd rfl)) rfl <| W.q (mv rfl) rfl <| W.apu Try.underlying22 Try.underlying22 Try.sz5 Try.zln5 Try.by5 rfl rfl (fun _ _ => .tl .hd) ((hr.up (it := sv a (m.length % 64) cap 5 1 (B (restB m))) rfl).up rfl).rd (B_len bs) (B_one bs) (fun h => by cases h) (by omega) (by omega) rfl fun a1 cap1 => W.q (ncp rfl) rfl <| W.q (fa Try.fof238_1 rfl) rfl <| W.st (cs' := hsC (shaBlocks shaI m (m.length / 64)) a1 (m.length % 64 + bs.length) cap1 (m.length + bs.length) ext) Try.sz22 rfl rfl rfl rfl rfl .hd (by rw [hsC_len]; omega) rfl <| W.nil <| G.blk <| G.loop3 (α := Nat) (β := Option Addr) (γ := Nat) (fun k a3 c3 => 64 * k ≤ (m ++ bs).length) (fun k a3 c3 => []) (fun k a3 c3 => [nb b (hsC (shaBlocks shaI (m ++ bs) k) a3 ((m ++ bs).length - 64 * k) c3 (m ++ bs).length ext) T, sv a3 ((m ++ bs).length - 64 * k) c3 5 1 (B ((m ++ bs).drop (64 * k)))]) (fun k a3 c3 => (m ++ bs).length - 64 * k) [(0, _)] H (m.length / 64) a1 cap1 (by omega) (Sub.cons rfl <| Sub.nil _) (Ent.eq (by
        rw [shaBlocks_app shaI m bs (m.length / 64) (by omega), show (m ++ bs).length - 64 * (m.length / 64) = m.length % 64 + bs.length by omega, hml, List.drop_append_of_le_length (by omega)]
        simp only [B, List.map_append, restB]; rfl)) (fun k a3 c3 hk ih => ?_)
  refine G.svAt (a := a3) (m := (m ++ bs).length - 64 * k) (cap := c3) (E := 5) (s := 1) (xs := B ((m ++ bs).drop (64 * k))) (.tail _ (.head _)) (fun q1 q2 q3 q4 => ?_)
  refine G.seq <| G.seq <| G.reg <| W.q (mv rfl) rfl <| W.q (ncp rfl) rfl <| W.q (fa Try.fof238_1 rfl) rfl <| W.q (ld Try.sc22 rfl (Cell.at .hd rfl)) rfl <| W.q (ln Try.esl22 rfl) rfl <| W.q (ge rfl rfl) rfl <| W.nil <| G.cdd rfl (fun h2 => ?_) (fun h2 => ?_)
  · -- h2 True
    refine G.skip <| G.blk <| G.seq <| G.rega 17 rfl Try.mixed <| A.q 0 rfl (by kernel_rfl) (fun _ => (mv rfl)) rfl <| A.q 1 rfl (by kernel_rfl) (fun _ => (mv rfl)) rfl <| A.q 2 rfl (by kernel_rfl) (fun _ => (ncp rfl)) rfl <| A.q 3 rfl (by kernel_rfl) (fun _ => (fa Try.fof238_0 rfl)) rfl <| A.q 5 rfl (by kernel_rfl) (fun _ => (mv rfl)) rfl <| A.q 6 rfl (by kernel_rfl) (fun _ => (ncp rfl)) rfl <| A.q 7 rfl (by kernel_rfl) (fun _ => (fa Try.fof238_1 rfl)) rfl <| A.held 8 [4] rfl (by kernel_rfl) (ld Try.sc22 rfl (Cell.at .hd rfl)) rfl <| A.q 9 rfl (by kernel_rfl) (fun _ => (shi Try.esl22 rfl rfl (by omega) (by omega))) rfl <| A.held 4 [] rfl (by kernel_rfl) (lda Try.agg222 Try.sz222 rfl (Cells.part .hd (ds := U (shaBlocks shaI (m ++ bs) k).l) (fun i v hv => by rw [hsC, Nat.zero_add, List.getElem?_append_left (by simpa using (List.getElem?_eq_some_iff.1 hv).1)]; exact hv)) rfl) rfl <| A.one 10 rfl (by kernel_rfl) <| W.fv Try.ca189 rfl (fun w hm => sha_Compress (shaBlocks shaI (m ++ bs) k) a3 64 c3 (((m ++ bs).drop (64 * k)).take 64) w ((hm.svRd (m := (m ++ bs).length - 64 * k) (cap := c3) (E := 5) (s := 1) (.tail _ <| .head _)).takeB 64) (by simp; omega) rfl) rfl <| A.back <| A.q 11 rfl (by kernel_rfl) (fun _ => (mv rfl)) rfl <| A.q 12 rfl (by kernel_rfl) (fun _ => (ex rfl rfl)) rfl <| A.q 13 rfl (by kernel_rfl) (fun _ => (ex rfl rfl)) rfl <| A.q 14 rfl (by kernel_rfl) (fun _ => (ncp rfl)) rfl <| A.q 15 rfl (by kernel_rfl) (fun _ => (fa Try.fof238_0 rfl)) rfl <| A.one 16 rfl (by kernel_rfl) <| W.st (cs' := hsC (shaBlocks shaI (m ++ bs) (k + 1)) a3 ((m ++ bs).length - 64 * k) c3 (m ++ bs).length ext) Try.sz222 rfl rfl rfl rfl (U_one _) .hd (by rw [hsC_len]; omega) rfl <| A.back <| A.nil (by kernel_rfl) <| G.reg <| W.q (mv rfl) rfl <| W.q (mv rfl) rfl <| W.q (ncp rfl) rfl <| W.q (fa Try.fof238_1 rfl) rfl <| W.q (ld Try.sc22 rfl (Cell.at .hd rfl)) rfl <| W.q (slo Try.esl22 rfl rfl (by omega) (by omega)) rfl <| W.q (ncp rfl) rfl <| W.q (fa Try.fof238_1 rfl) rfl <| W.st (cs' := hsC (shaBlocks shaI (m ++ bs) (k + 1)) (slA a3 64 c3 1) ((m ++ bs).length - 64 * (k + 1)) (c3 - 64) (m ++ bs).length ext) Try.sz22 rfl rfl rfl rfl rfl .hd (by rw [hsC_len]; omega) (by rw [show (m ++ bs).length - 64 * (k + 1) = (m ++ bs).length - 64 * k - 64 by omega]; rfl) <| W.nil <| G.inb <| (ih (k + 1) (slA a3 64 c3 1) (c3 - 64) (by omega) (by omega)).weak (Sub.cons rfl <| Sub.nil _) (fun w hm => by
          have := hm.svDrop (k := 64) (a := a3) (m := (m ++ bs).length - 64 * k) (cap := c3) (E := 5) (s := 1) (xs := B ((m ++ bs).drop (64 * k))) (.tl .hd) (by omega)
          rw [show (m ++ bs).length - 64 * k - 64 = (m ++ bs).length - 64 * (k + 1) by omega, show (B ((m ++ bs).drop (64 * k))).drop (64 * 1) = B ((m ++ bs).drop (64 * (k + 1))) by rw [B, ← List.map_drop, List.drop_drop]; rfl] at this
          exact this)
  · -- h2 False
    refine G.exit rfl <| ret0 hX Try.results176 fun w hm => doneF (Pre' := hashI b T ext (m ++ bs) a3 c3) rfl ⟨a3, c3, rfl⟩ hm (Ent.eq (by rw [hashI, shaSt_pos (hash_ne h0), restB, show (m ++ bs).length / 64 = k by omega, show (m ++ bs).length % 64 = (m ++ bs).length - 64 * k by omega]))


set_option maxRecDepth 100000 in
theorem hash_Write (w0 : World) (H : List It) (b T : Nat) (ext : List Value) (m : List UInt8) (a : Option Addr) (cap : Nat) (pa : Option Addr) (len pcap : Nat) (ps : List Pc) (hlen : len = ps.length) (hl : Rdf w0 H pa (ps.map pcV)) (hp : Rps w0 H ps) (hn : ps.length ≤ 140737488351232) (hb : m.length + (catP ps).length ≤ 140737488351232) :
    RetF Try.prog 154 [ptr b 0, .slice pa len pcap] w0 H (hashI b T ext m a cap) (fun v P => v = ptr b 0 ∧ ∃ a' cap', P = hashI b T ext (m ++ catP ps) a' cap') := by
  subst hlen
  refine enterF Try.func154 rfl Try.ntmps154 rfl (fun X hX => ?_)
  have hw := hX.w0; subst hw
  unfold hashI
  refine G.seq <| G.reg <| W.q (sa rfl) rfl <| W.nil <| G.seq <| G.seq <| G.reg <| W.q (mv rfl) rfl <| W.q (ln Try.esl73 rfl) rfl <| W.q (mv rfl) rfl <| W.nil <| G.blk <| G.loop3 (α := Nat) (β := Option Addr) (γ := Nat) (fun k a3 c3 => k ≤ ps.length) (fun k a3 c3 => [(9, i64 k)]) (fun k a3 c3 => [nb b (hsC (shaSt (m ++ catP (ps.take k))) a3 ((m ++ catP (ps.take k)).length % 64) c3 (m ++ catP (ps.take k)).length ext) T, sv a3 ((m ++ catP (ps.take k)).length % 64) c3 5 1 (B (restB (m ++ catP (ps.take k))))]) (fun k a3 c3 => ps.length - k) [(0, _), (7, _), (8, _)] H 0 a cap (by omega) (Sub.cons rfl <| Sub.cons rfl <| Sub.cons rfl <| Sub.cons rfl <| Sub.nil _) (Ent.eq (by simp [catP])) (fun k a3 c3 hk ih => ?_)
  refine G.seq <| G.reg <| W.q (lt rfl rfl) rfl <| W.nil <| G.seq <| G.cdd rfl (fun h1 => ?_) (fun h1 => ?_)
  · -- h1 True
    have h1' : k < ps.length := by omega
    have hup := catP_succ ps k h1'
    have hle := catP_le ps (k + 1)
    rw [hup, List.length_append] at hle
    obtain ⟨hpr, hpc⟩ := hp _ (List.getElem_mem h1')
    have hv0 : (ps.map pcV)[k]? = some (pcV ps[k]) := by rw [List.getElem?_map, List.getElem?_eq_getElem h1']; rfl
    refine G.rdA (a := pa) (cells := ps.map pcV) ((hl.up (it := sv a3 ((m ++ catP (ps.take k)).length % 64) c3 5 1 (B (restB (m ++ catP (ps.take k))))) rfl).up rfl) (by simp; omega) (fun zb zo hz => ?_)
    subst hz
    generalize hpk : ps[k] = p at *
    obtain ⟨p1, p2, p3⟩ := p
    simp only at hpr hpc hle hup
    have hv1 : (ps.map pcV)[(k : Int).toNat * 1]? = some (.slice p1 p3.length p2) := by rw [show (k : Int).toNat * 1 = k by omega]; exact hv0
    refine G.skip <| G.seq <| G.blk <| G.seq <| G.reg <| W.q (ia Try.esl73 rfl rfl (by omega) (by omega)) rfl <| W.q (ld Try.sc22 rfl (((hl.up (it := sv a3 ((m ++ catP (ps.take k)).length % 64) c3 5 1 (B (restB (m ++ catP (ps.take k))))) rfl).up rfl).cellOf hv1)) rfl <| W.q (sa rfl) rfl <| W.nil <| G.seq <| G.reg <| W.q (mv rfl) rfl <| W.q (ln Try.esl22 rfl) rfl <| W.q (gt rfl rfl) rfl <| W.nil <| G.cdd rfl (fun h2 => ?_) (fun h2 => ?_)
    · -- h2 True
      refine G.reg <| W.q (mv rfl) rfl <| W.q (ncp rfl) rfl <| W.q (fa Try.fof240_0 rfl) rfl <| W.q (mv rfl) rfl <| W.ff Try.ca176 rfl (Ent.perm (.trans (.trans (.cons _ (.refl _)) (.swap _ _ _)) (.trans (.cons _ (.refl _)) (.swap _ _ _)))) (flow_take X.w0 _ b T ext (m ++ catP (ps.take k)) a3 c3 p1 _ p2 p3 rfl hpr (by omega) (by rw [List.length_append]; omega)) rfl rfl fun v J hv hJ => ?_
      obtain ⟨a4, c4, rfl⟩ := hv
      unfold hashI
      refine W.nil <| G.inb <| G.reg <| W.q (ad rfl rfl (by omega)) rfl <| W.q (mv rfl) rfl <| W.nil <| (ih (k + 1) a4 c4 (by omega) (by omega)).weak (Sub.cons rfl <| Sub.cons rfl <| Sub.cons rfl <| Sub.cons rfl <| Sub.nil _) (Ent.eq (by rw [hup, ← List.append_assoc]))
    · -- h2 False
      have hz : p3 = [] := List.eq_nil_of_length_eq_zero (by omega)
      refine G.skip <| G.inb <| G.reg <| W.q (ad rfl rfl (by omega)) rfl <| W.q (mv rfl) rfl <| W.nil <| (ih (k + 1) a3 c3 (by omega) (by omega)).weak (Sub.cons rfl <| Sub.cons rfl <| Sub.cons rfl <| Sub.cons rfl <| Sub.nil _) (Ent.eq (by rw [hup, hz, List.append_nil]))
  · -- h1 False
    refine G.exit rfl <| G.seq <| G.reg <| W.q (mv rfl) rfl <| W.q (sa rfl) rfl <| W.nil <| ret1 hX Try.results154 rfl fun w hm => doneF (Pre' := hashI b T ext (m ++ catP ps) a3 c3) rfl ⟨rfl, a3, c3, rfl⟩ hm (Ent.eq (by rw [List.take_of_length_le (by omega)]; rfl))


set_option maxRecDepth 100000 in
theorem sha_New (pa : Option Addr) (len pcap : Nat) (ps : List Pc) (w : World) (hlen : len = ps.length) (hl : RdL w pa (ps.map pcV)) (hp : Rps w [] ps) (hn : ps.length ≤ 140737488351232) (hb : (catP ps).length ≤ 140737488351232) :
    Ret Try.prog 179 [.slice pa len pcap] w (fun v J => ∃ b a cap, v = ptr b 0 ∧ J = hashI b 240 [] (catP ps) a cap) := by
  refine enter [] (Mem.nil _) Try.func179 rfl Try.ntmps179 rfl (fun X hX => ?_)
  have hw := hX.w0; subst hw
  refine G.seq <| G.reg <| W.q (sa rfl) rfl <| W.nil <| G.seq <| G.reg <| W.al Try.zrl240 rfl fun b1 => W.q (mv rfl) rfl <| ?_
  refine W.ent (fun w hm => (hm.svNil 5 1).perm (.swap _ _ _)) ?_
  refine W.ff Try.ca154 rfl .rfl (hash_Write X.w0 [] b1 240 [] [] none 0 pa len pcap ps hlen (Rdf.old rfl hl) hp hn (by simpa using hb)) rfl rfl fun v J hv hJ => ?_
  obtain ⟨rfl, a4, c4, rfl⟩ := hv
  rw [List.nil_append]
  refine W.q (sa rfl) rfl <| W.nil <| ret1 hX Try.results179 rfl fun w hm => done (H := hashI b1 240 [] (catP ps) a4 c4) rfl ⟨b1, a4, c4, rfl, rfl⟩ (by simpa using hm)

/-- A block's cells, from its beginning on. -/
def CellsAt (w : World) (b : Nat) (cs : List Value) : Prop := ∀ i v, cs[i]? = some v → w.cell? ⟨b, i, none⟩ = some v
theorem Mem.cellsAt {w0 w : World} {H : List It} {b E : Nat} {fr : Nat × Nat} {cs : List Value} (hm : Mem w0 w H) (h : Has H b (.cells cs.toArray E fr)) : CellsAt w b cs := fun i v hv => by
  obtain ⟨b', o', h1, h2⟩ := hm.rowRd h i v hv
  cases h1; rwa [Nat.zero_add] at h2
theorem CellsAt.up {w0 w : World} {H : List It} {b : Nat} {cs : List Value} (h : CellsAt w0 b cs) (hm : Mem w0 w H) (hn : allNew H = true) : CellsAt w b cs := fun i v hv => hm.cellOld hn (h i v hv)
theorem cat1 (ps : List Pc) (bss : List (List UInt8)) (h : ps.map (fun p => p.2.2) = bss) : catP ps = bss.flatten := by rw [catP, h]


set_option maxRecDepth 100000 in
theorem hash_Twin (b : Nat) (ext : List Value) (m : List UInt8) (a : Option Addr) (cap : Nat) (w : World) (hc : CellsAt w b (hsC (shaSt m) a (m.length % 64) cap m.length ext)) (hr : RdL w a (B (restB m))) (hb : m.length ≤ 140737488351232) :
    Ret Try.prog 177 [ptr b 0] w (fun v J => ∃ b' a' cap', v = ptr b' 0 ∧ J = hashI b' 240 [] m a' cap') := by
  refine enter [] (Mem.nil _) Try.func177 rfl Try.ntmps177 rfl (fun X hX => ?_)
  have hw := hX.w0; subst hw
  have hrl := restB_len m
  refine G.seq <| G.reg <| W.q (sa rfl) rfl <| W.nil <| G.seq <| G.reg <| W.q (mv rfl) rfl <| W.q (ncp rfl) rfl <| W.q (fa Try.fof240_0 rfl) rfl <| W.q (lda Try.agg238 Try.sz238 rfl (Cells.old (cs := hsC (shaSt m) a (m.length % 64) cap m.length []) rfl (fun i v hv => by rw [Nat.zero_add]; exact hc i v (by rw [show hsC (shaSt m) a (m.length % 64) cap m.length ext = hsC (shaSt m) a (m.length % 64) cap m.length [] ++ ext by simp [hsC]]; rw [List.getElem?_append_left (List.getElem?_eq_some_iff.1 hv).1]; exact hv))) rfl) rfl <| W.q (blds (cs := hsC (shaSt m) a (m.length % 64) cap m.length []) Try.stp240 rfl rfl rfl rfl) rfl <| W.bxa rfl rfl fun b1 => W.q (sa rfl) rfl <| W.nil <| G.seq <| G.reg <| W.q (mv rfl) rfl <| W.bs (cs := []) Try.underlying22 Try.sz5 Try.zrl5 rfl rfl rfl rfl fun b2 => W.ent (Ent.rowSl (m := 0) (cap := 0) (s := 1) (Nat.le_refl _) (by omega) (by simp [maxLen])) <| W.q (mv rfl) rfl <| W.q (ncp rfl) rfl <| W.q (fa Try.fof240_0 rfl) rfl <| W.q (fa Try.fof238_1 rfl) rfl <| W.q (ld Try.sc22 rfl (Cell.old rfl (hc 8 _ rfl))) rfl <| W.ap Try.underlying22 Try.underlying22 Try.sz5 Try.zln5 Try.by5 rfl rfl (fun _ _ => .hd) (RdS.old rfl hr) (by rw [Bl, hrl]; omega) (B_one _) (fun h => by have := RdL.nilB hr h; omega) (by omega) (by omega) rfl fun a1 cap1 => W.q (ncp rfl) rfl <| W.q (fa Try.fof240_0 rfl) rfl <| W.q (fa Try.fof238_1 rfl) rfl <| W.st (cs' := hsC (shaSt m) a1 (0 + m.length % 64) cap1 m.length []) Try.sz22 rfl rfl rfl rfl rfl (.tl .hd) (by rw [hsC_len]; simp) rfl <| W.nil <| G.seq <| G.reg <| W.q (mv rfl) rfl <| W.q (sa rfl) rfl <| W.nil <| ret1 hX Try.results177 rfl fun w hm => done (H := hashI b1 240 [] m a1 cap1) rfl ⟨b1, a1, cap1, rfl, rfl⟩ (by have := (hm.perm (.swap _ _ _)).slSv (.tl .hd); rw [Nat.zero_add] at this; exact this)


set_option maxRecDepth 100000 in
theorem hash_Sum (b : Nat) (ext : List Value) (m : List UInt8) (a : Option Addr) (cap : Nat) (w : World) (hc : CellsAt w b (hsC (shaSt m) a (m.length % 64) cap m.length ext)) (hr : RdL w a (B (restB m))) (hb : m.length ≤ 140737488300000) :
    Ret Try.prog 155 [ptr b 0] w (fun v _ => v = .agg (B (sha256 m)).toArray) := by
  refine enter [] (Mem.nil _) Try.func155 rfl Try.ntmps155 rfl (fun X hX => ?_)
  have hw := hX.w0; subst hw
  have hpl := shaPad_len m.length
  have hS : shaSt (m ++ shaPad m.length) = shaBlocks shaI (m ++ shaPad m.length) ((m ++ shaPad m.length).length / 64) := shaSt_pos (hash_ne (by omega))
  have hz : B (List.replicate 32 0) = List.replicate 32 (.int .u8 0) := by simp [B]
  generalize hSS : shaSt (m ++ shaPad m.length) = S at hS
  refine G.seq <| G.reg <| W.al Try.zrl24 rfl fun b1 => W.nil <| G.seq <| G.reg <| W.q (mv rfl) rfl <| W.fn Try.ca177 rfl (fun w hm => hash_Twin b ext m a cap w (hc.up hm rfl) (hm.rd rfl hr) (by omega)) rfl fun v J hv hJ => ?_
  obtain ⟨b9, a9, c9, rfl, rfl⟩ := hv
  unfold hashI
  refine W.q (sa rfl) rfl <| W.nil <| G.seq <| G.rega 10 rfl Try.mixed <| A.q 0 rfl (by kernel_rfl) (fun _ => (mv rfl)) rfl <| A.q 1 rfl (by kernel_rfl) (fun _ => (ncp rfl)) rfl <| A.q 2 rfl (by kernel_rfl) (fun _ => (fa Try.fof240_0 rfl)) rfl <| A.q 3 rfl (by kernel_rfl) (fun _ => (mv rfl)) rfl <| A.q 4 rfl (by kernel_rfl) (fun _ => (ncp rfl)) rfl <| A.q 5 rfl (by kernel_rfl) (fun _ => (fa Try.fof240_0 rfl)) rfl <| A.q 6 rfl (by kernel_rfl) (fun _ => (fa Try.fof238_2 rfl)) rfl <| A.held 7 [] rfl (by kernel_rfl) (ld Try.sc3 rfl (Cell.old rfl (hc 9 _ rfl))) rfl <| A.one 8 rfl (by kernel_rfl) <| W.fn Try.ca178 rfl (fun w hm => sha_pad m.length (by omega) w) rfl fun v J hv hJ => ?_
  obtain ⟨a8, c8, rfl, rfl⟩ := hv
  refine A.back <| A.one 9 rfl (by kernel_rfl) <| W.ff Try.ca176 rfl (Ent.perm (.trans (.trans (.cons _ (.trans (.cons _ (.refl _)) (.swap _ _ _))) (.swap _ _ _)) (.trans (.cons _ (.trans (.cons _ (.refl _)) (.swap _ _ _))) (.swap _ _ _)))) (flow_take X.w0 _ b9 240 [] m a9 c9 a8 _ c8 (shaPad m.length) rfl (Rdf.sl (.head _)) (by omega) (by omega)) rfl rfl fun v J hv hJ => ?_
  obtain ⟨a7, c7, rfl⟩ := hv
  unfold hashI
  rw [hSS]
  refine A.back <| A.nil (by kernel_rfl) <| G.seq <| G.reg <| W.al Try.zrl24 rfl fun b2 => W.nil <| G.seq <| G.seq <| G.reg <| W.q (mv rfl) rfl <| W.q (ncp rfl) rfl <| W.q (fa Try.fof240_0 rfl) rfl <| W.q (fa Try.fof238_0 rfl) rfl <| W.q (lda Try.agg222 Try.sz222 rfl (Cells.part (.tl <| .hd) (ds := U S.l) (fun i v hv => by rw [hsC, Nat.zero_add, List.getElem?_append_left (by simpa using (List.getElem?_eq_some_iff.1 hv).1)]; exact hv)) rfl) rfl <| W.q (mv rfl) rfl <| W.nil <| G.blk <| G.loop1 (α := Nat) (fun i => i ≤ 8) (fun i => [(26, i64 i)]) (fun i => [nb b2 (B ((S.l.take i).flatMap (fun x => (leB 4 x.toNat).reverse) ++ List.replicate (32 - 4 * i) 0)) 24]) (fun i => 8 - i) [(2, _), (4, _), (25, _)] _ 0 (by omega) (Sub.cons rfl <| Sub.cons rfl <| Sub.cons rfl <| Sub.cons rfl <| Sub.nil _) (Ent.eq (by rw [show ((S.l.take 0).flatMap (fun x => (leB 4 x.toNat).reverse) ++ List.replicate (32 - 4 * 0) 0) = List.replicate 32 0 from rfl, hz]; rfl)) (fun i hk ih => ?_)
  refine G.seq <| G.reg <| W.q (lt rfl rfl) rfl <| W.nil <| G.seq <| G.cdd rfl (fun h1 => ?_) (fun h1 => ?_)
  · -- h1 True
    have hi8 : i < 8 := by omega
    have hq : (U S.l)[(i : Int).toNat]? = some (u32 (S.l.getD i 0)) := U_getD _ _ (by show _ < 8; omega)
    have hst := out_step S i (4 * i) (S.l.getD i 0) (getD_someU _ _ (by show _ < 8; omega)) rfl
    refine G.skip <| G.seq <| G.blk <| G.seq <| G.reg <| W.q (mv rfl) rfl <| W.q (ixs Try.underlying222 Try.sz125 Try.sc125 rfl rfl (by omega) (by omega) hq) rfl <| W.q (sa rfl) rfl <| W.q (sa rfl) rfl <| W.nil <| G.seq <| G.reg <| W.q (mv rfl) rfl <| W.q (cv_u32_u64 Try.underlying125 Try.underlying29 rfl) rfl <| W.fn Try.ca59 rfl (fun w hm => sha_put4 _ w) rfl fun v J hv hJ => ?_
    obtain ⟨v1, ⟨a6, c6, rfl, rfl⟩, rfl⟩ := hv
    refine W.slAt (a := a6) (m := _) (cap := c6) (E := 5) (s := 1) (xs := _) (.head _) (fun q1 q2 q3 q4 => ?_)
    refine W.q (mv rfl) rfl <| W.q (ex rfl rfl) rfl <| W.q (ex rfl rfl) rfl <| W.q (sa rfl) rfl <| W.q (sa rfl) rfl <| W.nil <| G.reg <| W.q (mv rfl) rfl <| W.q (ml rfl rfl (by omega)) rfl <| W.q (salo Try.ear24 rfl rfl (by omega) (by omega)) rfl <| W.q (mv rfl) rfl <| W.cpx (news := B (leB 4 (S.l.getD i 0).toNat).reverse) (o := 4 * i) Try.underlying22 Try.sz5 rfl (by rw [slA_some (by omega)]; congr 2; omega) rfl (RdS.sl (.head _)) (by simp [leB_len]; omega) (B_one _) (fun h => by rcases q4 with ⟨_, _, h'⟩ | ⟨g, h'⟩; exact h'; rw [h'] at h; cases h) (.tl .hd) (by rw [Bl, Bl, List.length_append, out_take_len S i (by omega), List.length_reverse, leB_len, List.length_replicate]; omega) hst rfl <| W.nil <| G.inb <| G.reg <| W.q (ad rfl rfl (by omega)) rfl <| W.q (mv rfl) rfl <| W.nil <| (ih (i + 1) (by omega) (by omega)).weak (Sub.cons rfl <| Sub.cons rfl <| Sub.cons rfl <| Sub.cons rfl <| Sub.nil _) (Dr.ent (.drop rfl <| .rfl))
  · -- h1 False
    have hi8 : i = 8 := by omega
    subst hi8
    refine G.exit rfl <| G.seq <| G.reg <| W.q (lda Try.agg24 Try.sz24 rfl (Cells.whole .hd) (by simp [S8.l, leB_len])) rfl <| W.sta Try.sz24 rfl rfl (by simp [S8.l, leB_len]) (B_one _) (.tl <| .tl <| .tl <| .tl <| .hd) (by simp) <| W.nil <| ret hX Try.results155 (RA.cella rfl Try.agg24 Try.sz24 (Cells.whole (.tl <| .tl <| .tl <| .tl <| .hd)) (by simp [S8.l, leB_len]) <| RA.nil) fun w hm => done (H := []) rfl ?_ (Dr.ent (Dr.new rfl) w hm)
    rw [sha256, ← hS]; simp [outB, S8.l, tup]


set_option maxRecDepth 100000 in
theorem sha_Sum (pa : Option Addr) (len pcap : Nat) (ps : List Pc) (w : World) (hlen : len = ps.length) (hl : RdL w pa (ps.map pcV)) (hp : Rps w [] ps) (hn : ps.length ≤ 140737488351232) (hb : (catP ps).length ≤ 140737488300000) :
    Ret Try.prog 156 [.slice pa len pcap] w (fun v _ => v = .agg (B (sha256 (catP ps))).toArray) := by
  refine enter [] (Mem.nil _) Try.func156 rfl Try.ntmps156 rfl (fun X hX => ?_)
  have hw := hX.w0; subst hw
  refine G.seq <| G.reg <| W.al Try.zrl24 rfl fun b1 => W.nil <| G.seq <| G.reg <| W.q (mv rfl) rfl <| W.fn Try.ca179 rfl (fun w hm => sha_New pa len pcap ps w hlen (hm.rd rfl hl) (fun p hq => ⟨Rdf.old rfl (hm.rd rfl ((hp p hq).1.at (Mem.nil _))), (hp p hq).2⟩) hn (by omega)) rfl fun v J hv hJ => ?_
  obtain ⟨b9, a9, c9, rfl, rfl⟩ := hv
  unfold hashI
  refine W.fv Try.ca155 rfl (fun w hm => hash_Sum b9 [] (catP ps) a9 c9 w (Mem.cellsAt hm .hd) (hm.svRd (.tail _ <| .head _)) hb) rfl <| W.sta Try.sz24 rfl rfl (by simp [sha256_len]) (B_one _) (.tl <| .tl <| .hd) (by simp) <| W.nil <| ret hX Try.results156 (RA.cella rfl Try.agg24 Try.sz24 (Cells.whole (.tl <| .tl <| .hd)) (by simp [sha256_len]) <| RA.nil) fun w hm => done (H := []) rfl ?_ (Dr.ent (Dr.new rfl) w hm)
  rfl
end Go.Proofs.Ytjalojbihpdghaa
