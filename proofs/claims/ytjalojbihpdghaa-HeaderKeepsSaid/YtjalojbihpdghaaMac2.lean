/- HKDF, the program's; HMAC and HKDF, the document's. -/
import Derived.Test.YtjalojbihpdghaaMac1
namespace Go.Proofs.Ytjalojbihpdghaa
open Go Go.Eng
set_option linter.unusedVariables false

theorem cat3 {a1 a2 a3 : Option Addr} {c1 c2 c3 : Nat} {x1 x2 x3 : List UInt8} : catP [(a1, c1, x1), (a2, c2, x2), (a3, c3, x3)] = x1 ++ (x2 ++ x3) := by simp [catP]
theorem cat2 {a1 a2 : Option Addr} {c1 c2 : Nat} {x1 x2 : List UInt8} : catP [(a1, c1, x1), (a2, c2, x2)] = x1 ++ x2 := by simp [catP]
theorem cat_1 {a1 : Option Addr} {c1 : Nat} {x1 : List UInt8} : catP [(a1, c1, x1)] = x1 := by simp [catP]
/-- Keys in a row. -/
def keysC (ks : List (List UInt8)) : List Value := ks.flatMap B
theorem keysC_len (ks : List (List UInt8)) (h : ∀ k ∈ ks, k.length = 32) : (keysC ks).length = ks.length * 32 := by
  induction ks with
  | nil => rfl
  | cons k ks ih =>
    have := ih fun x hx => h x (List.mem_cons_of_mem _ hx)
    simp only [keysC, List.flatMap_cons, List.length_append, Bl, h k List.mem_cons_self, List.length_cons] at this ⊢
    omega
theorem keysC_snoc (ks : List (List UInt8)) (k : List UInt8) : keysC (ks ++ [k]) = keysC ks ++ B k := by simp [keysC]
theorem _root_.Go.Eng.RdL.preB {w : World} {a : Option Addr} {bs : List UInt8} {junk : List Value} (h : RdL w a (B bs ++ junk)) : RdL w a (B bs) := fun i v hv => h i v (by rw [List.getElem?_append_left (List.getElem?_eq_some_iff.1 hv).1]; exact hv)
theorem codec_JoinP {pa : Option Addr} {len pc : Nat} {ps : List Pc} {w : World} (hlen : len = ps.length) (hl : RdL w pa (ps.map pcV)) (hp : Rps w [] ps) (hb : (catP ps).length ≤ 140737488351232) (hn : ps.length ≤ 140737488351232) (hc : ps.length ≤ pc) : Ret Try.prog 44 [.slice pa len pc] w (NewB (catP ps)) := by
  subst hlen
  have := codec_Join pa pc (ps.map pcV) (ps.map (fun p : Pc => p.2.2)) w hl hp.isBs hb (by simpa using hn) (by simpa using hc)
  rwa [List.length_map] at this
theorem salt_nat : saltB.length = 7 := rfl


set_option maxRecDepth 100000 in
theorem mac_Expand32 (a : Option Addr) (len cap : Nat) (key : List UInt8) (pa : Option Addr) (pl pc : Nat) (ps : List Pc) (w : World) (hlen : len = key.length) (hl : RdL w a (B key)) (hb : key.length ≤ 140737488300000) (hcap : key.length ≤ cap) (hpl : pl = ps.length) (hpa : RdL w pa (ps.map pcV)) (hp : Rps w [] ps) (hn : ps.length ≤ 140737488351232) (hpc : ps.length ≤ pc) (hm64 : (catP ps).length ≤ 140737488100000) :
    Ret Try.prog 116 [.slice a len cap, i64 32, .slice pa pl pc] w (fun v J => ∃ v1, NewB (hmac key (catP ps ++ [1])) v1 J ∧ v = .tuple #[v1, i64 0]) := by
  subst hpl
  refine enter [] (Mem.nil _) Try.func116 rfl Try.ntmps116 rfl (fun X hX => ?_)
  have hw := hX.w0; subst hw
  refine G.seq <| G.reg <| W.q (sa rfl) rfl <| W.q (sa rfl) rfl <| W.nil <| G.seq <| G.seq <| G.reg <| W.q (mv rfl) rfl <| W.q (lt rfl rfl) rfl <| W.q (mv rfl) rfl <| W.sp (t := _) 15 rfl (fun g1 => ?_) (fun g1 => ?_)
  · -- True
    exact absurd g1 (by decide)
  · -- False
    refine W.qg rfl rfl g1 (mv rfl) rfl <| W.qg rfl rfl g1 (gt rfl rfl) rfl <| W.q (pkf rfl g1 rfl) rfl <| W.nil <| G.cdf rfl rfl <| G.skip <| G.seq <| G.reg <| W.q (mv rfl) rfl <| W.fn Try.ca44 rfl (fun w hm => codec_JoinP rfl (hm.rd rfl hpa) (hp.up hm rfl) (by omega) hn hpc) rfl fun v J hv hJ => ?_
    obtain ⟨wa, wc, rfl, rfl⟩ := hv
    refine W.slAt (a := wa) (m := _) (cap := wc) (E := 5) (s := 1) (xs := _) (.head _) (fun q1 q2 q3 q4 => ?_)
    refine W.q (sa rfl) rfl <| W.nil <| G.seq <| G.reg <| W.q (sa rfl) rfl <| W.q (sa rfl) rfl <| W.nil <| G.seq <| G.seq <| G.reg <| W.q (sa rfl) rfl <| W.nil <| G.blk <| G.loop5 (α := Nat) (β := Option Addr) (γ := Nat) (δ := Option Addr) (ε := Nat) (fun k a3 c3 la lc => k ≤ 1) (fun k a3 c3 la lc => [(9, .slice a3 (32 * k) c3), (10, .slice la (32 * k) lc), (11, i64 ((k : Int) + 1))]) (fun k a3 c3 la lc => [sl a3 (32 * k) c3 5 1 (if k = 0 then [] else B (hmac key (catP ps ++ [1])))]) (fun k a3 c3 la lc => 1 - k) [(0, _), (1, _), (8, _)] _ 0 none 0 none 0 (by omega) (Sub.cons rfl <| Sub.cons rfl <| Sub.cons rfl <| Sub.cons rfl <| Sub.cons rfl <| Sub.cons rfl <| Sub.nil _) (Ent.slNil 5 1) (fun k a3 c3 la lc hk ih => ?_)
    refine G.seq <| G.seq <| G.reg <| W.q (mv rfl) rfl <| W.q (ln Try.esl22 rfl) rfl <| W.q (mv rfl) rfl <| W.q (lt rfl rfl) rfl <| W.nil <| G.cdd rfl (fun h3 => ?_) (fun h3 => ?_)
    · -- h3 True
      have hk0 : k = 0 := by omega
      subst hk0
      refine G.skip <| G.seq <| G.blk <| G.seq <| G.reg <| W.q (mv rfl) rfl <| W.q (mv rfl) rfl <| W.q (mv rfl) rfl <| W.q (mv rfl) rfl <| W.q (cv_i64_u8 Try.underlying3 Try.underlying5 rfl) rfl <| W.bs (cs := [_]) Try.underlying22 Try.sz5 Try.zrl5 rfl rfl rfl rfl fun b1 => W.bs (cs := [_, _, _]) Try.underlying73 Try.sz22 Try.zrl22 rfl rfl rfl rfl fun b2 => W.fv Try.ca110 rfl (fun w hm => mac_Tag a len cap key (some ⟨b2, 0, none⟩) 3 3 [(la, lc, []), (wa, wc, catP ps), (some ⟨b1, 0, none⟩, 1, [1])] w hlen (hm.rd rfl hl) hb hcap rfl (rd3 (hm.rowRd .hd) rfl rfl rfl) (.cons RdL.ofNil (Nat.zero_le _) (.cons (hm.slRd (.tail _ <| .tail _ <| .tail _ <| .head _)) q2 (.cons (hm.rowRd (cs := B [1]) (.tl <| .hd)) (Nat.le_refl _) .nil))) (by simp) (by rw [cat3]; simp; omega)) rfl <| W.al Try.zrl24 rfl fun b3 => W.sta Try.sz24 rfl rfl (by simp [hmac_len]) (B_one _) .hd (by simp) <| W.nil <| G.seq <| G.reg <| W.q (saa Try.ear24 rfl ) rfl <| W.q (sa rfl) rfl <| W.nil <| G.reg <| W.q (mv rfl) rfl <| W.q (mv rfl) rfl <| W.ap Try.underlying22 Try.underlying22 Try.sz5 Try.zln5 Try.by5 rfl rfl (fun _ _ => (.tl <| .tl <| .tl <| .hd)) (RdS.row .hd) (by simp [hmac_len]) (B_one _) (by simp) (by omega) (by omega) rfl fun a1 cap1 => W.q (sa rfl) rfl <| W.nil <| G.inb <| G.reg <| W.q (mv rfl) rfl <| W.q (ad rfl rfl (by omega)) rfl <| W.q (sa rfl) rfl <| W.nil <| (ih 1 a1 cap1 (some ⟨b3, 0, none⟩) 32 (by omega) (by omega)).weak (Sub.co rfl ?_ <| Sub.co rfl ?_ <| Sub.co rfl ?_ <| Sub.cons rfl <| Sub.cons rfl <| Sub.cons rfl <| Sub.nil _) (fun w hm => Dr.ent (.drop rfl <| .drop rfl <| .drop rfl <| .keep <| .keep <| .rfl) w hm)
      all_goals clear ih
      all_goals rfl
    · -- h3 False
      have hk1 : k = 1 := by omega
      subst hk1
      refine G.slAt (a := a3) (m := 32 * 1) (cap := c3) (E := 5) (s := 1) (xs := _) (.head _) (fun p1 p2 p3 p4 => ?_)
      refine G.exit rfl <| G.seq <| G.reg <| W.q (mv rfl) rfl <| W.q (mv rfl) rfl <| W.q (shi Try.esl22 rfl rfl (by omega) (by omega)) rfl <| W.q (sa rfl) rfl <| W.q (sa rfl) rfl <| W.nil <| ret2 hX Try.results116 rfl rfl fun w hm => done (H := [sl a3 (hmac key (catP ps ++ [1])).length c3 5 1 (B (hmac key (catP ps ++ [1])))]) rfl ⟨_, ⟨a3, c3, rfl, rfl⟩, by rw [hmac_len]; rfl⟩ (by have := Dr.ent (.keep <| .drop rfl <| .rfl) w hm; rw [hmac_len]; exact this)


set_option maxRecDepth 100000 in
theorem mac_Derive (a : Option Addr) (len cap : Nat) (sec : List UInt8) (pa : Option Addr) (pl pc : Nat) (ls : List ByteArray) (w : World) (hlen : len = sec.length) (hl : RdL w a (B sec)) (hb : sec.length ≤ 140737488200000) (hcap : sec.length ≤ cap) (hpl : pl = ls.length) (hpa : RdL w pa (ls.map .string)) (hn : ls.length ≤ 1000000) (hsz : ∀ s ∈ ls, s.size ≤ 1000000) :
    Ret Try.prog 95 [.slice a len cap, .slice pa pl pc] w (fun v J => ∃ b c, v = .slice b ls.length c ∧ J = [sl b ls.length c 24 32 (keysC (ls.map (fun s => hkdf sec (strB s))))]) := by
  subst hpl
  refine enter [] (Mem.nil _) Try.func95 rfl Try.ntmps95 rfl (fun X hX => ?_)
  have hw := hX.w0; subst hw
  refine G.seq <| G.reg <| W.q (sa rfl) rfl <| W.nil <| G.seq <| G.reg <| W.bs (cs := [_, _, _, _, _, _, _]) Try.underlying22 Try.sz5 Try.zrl5 rfl rfl rfl rfl fun b1 => W.cvss Try.underlying22 Try.underlying5 rfl .hd rfl <| W.q (mv rfl) rfl <| W.fv Try.ca115 rfl (fun w hm => mac_Extract (some ⟨b1, 0, none⟩) 7 7 saltB a len cap sec w rfl (hm.rowRd (cs := B saltB) .hd) (by decide) (by decide) hlen (hm.rd rfl hl) hb hcap) rfl <| W.al Try.zrl24 rfl fun b2 => W.sta Try.sz24 rfl rfl (by simp [hmac_len]) (B_one _) .hd (by simp) <| W.nil <| G.seq <| G.reg <| W.q (sa rfl) rfl <| W.nil <| G.seq <| G.seq <| G.reg <| W.q (mv rfl) rfl <| W.q (ln Try.esl186 rfl) rfl <| W.q (mv rfl) rfl <| W.nil <| G.blk <| G.loop3 (α := Nat) (β := Option Addr) (γ := Nat) (fun k a3 c3 => k ≤ ls.length) (fun k a3 c3 => [(6, .slice a3 k c3), (17, i64 k)]) (fun k a3 c3 => [sl a3 k c3 24 32 (keysC ((ls.take k).map (fun s => hkdf sec (strB s))))]) (fun k a3 c3 => ls.length - k) [(5, _), (15, _), (16, _)] _ 0 none 0 (by omega) (Sub.cons rfl <| Sub.cons rfl <| Sub.cons rfl <| Sub.cons rfl <| Sub.cons rfl <| Sub.nil _) (Ent.slNil 24 32) (fun k a3 c3 hk ih => ?_)
  refine G.seq <| G.reg <| W.q (lt rfl rfl) rfl <| W.nil <| G.seq <| G.cdd rfl (fun h1 => ?_) (fun h1 => ?_)
  · -- h1 True
    have h1' : k < ls.length := by omega
    obtain ⟨zb, zo, rfl, hx⟩ := hpa.at k h1'
    have hsk := hsz _ (List.getElem_mem h1')
    have hup : keysC ((ls.take (k + 1)).map (fun s => hkdf sec (strB s))) = keysC ((ls.take k).map (fun s => hkdf sec (strB s))) ++ B (hkdf sec (strB ls[k])) := by
      rw [List.take_succ_eq_append_getElem h1', List.map_append, List.map_cons, List.map_nil, keysC_snoc]
    generalize ls[k] = sk at *
    refine G.skip <| G.seq <| G.blk <| G.seq <| G.reg <| W.q (ia Try.esl186 rfl rfl (by omega) (by omega)) rfl <| W.q (ld Try.sc9 rfl (Cell.old rfl (by simpa using hx))) rfl <| W.q (sa rfl) rfl <| W.nil <| G.seq <| G.reg <| W.q (saa Try.ear24 rfl ) rfl <| W.q (mv rfl) rfl <| W.cvsb Try.underlying9 Try.underlying22 Try.underlying5 rfl rfl fun b3 cb3 jb3 hcb3 => W.bs (cs := [_]) Try.underlying73 Try.sz22 Try.zrl22 rfl rfl rfl rfl fun b4 => W.fn Try.ca116 rfl (fun w hm => mac_Expand32 (some ⟨b2, 0, none⟩) 32 32 (hmac saltB sec) (some ⟨b4, 0, none⟩) 1 1 [(some ⟨b3, 0, none⟩, cb3, strB sk)] w (hmac_len _ _).symm (hm.rowRd (.tl <| .tl <| .tl <| .hd)) (by rw [hmac_len]; omega) (by rw [hmac_len]; omega) rfl (rd1 (hm.rowRd .hd) rfl) (.cons ((hm.rowRd (.tl <| .hd)).preB) hcb3 .nil) (by simp) (by simp) (by rw [cat_1, strB_len]; omega)) rfl fun v J hv hJ => ?_
    rw [cat_1, show hmac (hmac saltB sec) (strB sk ++ [1]) = hkdf sec (strB sk) from rfl] at hv
    obtain ⟨v1, ⟨a9, c9, rfl, rfl⟩, rfl⟩ := hv
    rw [hkdf_len]
    refine W.slAt (a := a9) (m := 32) (cap := c9) (E := 5) (s := 1) (xs := B (hkdf sec (strB sk))) (.head _) (fun q1 q2 q3 q4 => ?_)
    obtain ⟨g, rfl⟩ : ∃ g, a9 = some ⟨g, 0, none⟩ := by rcases q4 with ⟨_, _, h⟩ | h; cases h; exact h
    refine W.q (mv rfl) rfl <| W.q (ex rfl rfl) rfl <| W.q (ex rfl rfl) rfl <| W.q (sa rfl) rfl <| W.q (sa rfl) rfl <| W.nil <| G.reg <| W.q (mv rfl) rfl <| W.q (mv rfl) rfl <| W.q (stpx Try.ear24 rfl rfl (by omega)) rfl <| W.q (lda Try.agg24 Try.sz24 rfl (Rdf.cl (Rdf.sl (m := 32) (cap := c9) (E := 5) (s := 1) (xs := B (hkdf sec (strB sk))) (.head _))) (by rw [Bl, hkdf_len])) rfl <| W.bs1 Try.underlying45 Try.sz24 Try.zrl24 rfl rfl rfl (by simp [hkdf_len, cellsL]) rfl fun b5 => W.ap Try.underlying45 Try.underlying45 Try.sz24 Try.zln24 Try.by24 rfl rfl (fun _ _ => (.tl <| .tl <| .tl <| .tl <| .hd)) (RdS.row .hd) (by simp [hkdf_len, cellsL]) (B_one _) (by simp) (by omega) (by omega) rfl fun a1 cap1 => W.q (sa rfl) rfl <| W.nil <| G.inb <| G.reg <| W.q (ad rfl rfl (by omega)) rfl <| W.q (mv rfl) rfl <| W.nil <| (ih (k + 1) a1 cap1 (by omega) (by omega)).weak (Sub.cons rfl <| Sub.cons rfl <| Sub.cons rfl <| Sub.cons rfl <| Sub.cons rfl <| Sub.nil _) (fun w hm => (Ent.eq (by rw [hup]; rfl)) w (Dr.ent (.drop rfl <| .drop rfl <| .drop rfl <| .drop rfl <| .keep <| .keep <| .keep <| .rfl) w hm))
  · -- h1 False
    have hkl : k = ls.length := by omega
    subst hkl
    refine G.exit rfl <| G.seq <| G.reg <| W.q (mv rfl) rfl <| W.q (sa rfl) rfl <| W.nil <| ret1 hX Try.results95 rfl fun w hm => done (H := [sl a3 ls.length c3 24 32 (keysC (ls.map (fun s => hkdf sec (strB s))))]) rfl ⟨a3, c3, rfl, rfl⟩ (by have := Dr.ent (.keep <| .drop rfl <| .drop rfl <| .rfl) w hm; rw [List.take_length] at this; exact this)

theorem hmPad_long {key : List UInt8} (t : UInt8) (h : 64 < key.length) : hmPad key t = (sha256 key ++ List.replicate 32 0).map (· ^^^ t) := by rw [hmPad, if_pos h, sha256_len]
theorem hmPad_short {key : List UInt8} (t : UInt8) (h : ¬ 64 < key.length) : hmPad key t = (key ++ List.replicate (64 - key.length) 0).map (· ^^^ t) := by rw [hmPad, if_neg h]
theorem setAt_zeros (n : Nat) (l : List UInt8) (h : l.length ≤ n) : setAt (B (List.replicate n 0)) 0 (B l) = B (l ++ List.replicate (n - l.length) 0) := by
  rw [setAt_hd _ _ (by simpa using h), Bl, ← List.map_drop, List.drop_replicate, ← List.map_append]


set_option maxRecDepth 100000 in
theorem ref03_block (a : Option Addr) (len cap : Nat) (key : List UInt8) (w : World) (hlen : len = key.length) (hl : RdL w a (B key)) (hb : key.length ≤ 140737488200000) (t : UInt8) :
    Ret Try.prog 121 [.slice a len cap, u8 t] w (NewB (hmPad key t)) := by
  subst hlen
  refine enter [] (Mem.nil _) Try.func121 rfl Try.ntmps121 rfl (fun X hX => ?_)
  have hw := hX.w0; subst hw
  obtain ⟨L, hL, hLl, hLT, hLF⟩ : ∃ L : List UInt8, hmPad key t = L.map (· ^^^ t) ∧ L.length = 64 ∧ (64 < key.length → setAt (B (List.replicate 64 0)) 0 (B (sha256 key)) = B L) ∧ (¬ 64 < key.length → setAt (B (List.replicate 64 0)) 0 (B key) = B L) := by
    by_cases h : 64 < key.length
    · exact ⟨_, hmPad_long t h, by simp [sha256_len], fun _ => by rw [setAt_zeros _ _ (by rw [sha256_len]; omega), sha256_len], fun h' => absurd h h'⟩
    · exact ⟨_, hmPad_short t h, by simp; omega, fun h' => absurd h' h, fun _ => setAt_zeros _ _ (by omega)⟩
  refine G.seq <| G.reg <| W.q (sa rfl) rfl <| W.nil <| G.seq <| G.reg <| W.mkB (m := 64) Try.underlying22 Try.sz5 Try.zrl5 Try.by5 rfl rfl (by omega) (by omega) rfl fun b1 => W.q (sa rfl) rfl <| W.nil <| G.seq <| G.seq <| G.reg <| W.q (mv rfl) rfl <| W.q (ln Try.esl22 rfl) rfl <| W.q (gt rfl rfl) rfl <| W.nil <| G.joinH [] [(1, _), (5, _)] ([nb b1 (B L) 5]) (Sub.cons rfl <| Sub.cons rfl <| Sub.nil _) (fun ckey1 => ?_) ?_
  · -- cond 1
    refine G.cdd rfl (fun h1 => ?_) (fun h1 => ?_)
    · -- h1 True
      refine G.seq <| G.reg <| W.q (mv rfl) rfl <| W.fv Try.ca120 rfl (fun w hm => ref02_Sum a key.length cap key w rfl (hm.rd rfl hl) (by omega)) rfl <| W.al Try.zrl24 rfl fun b2 => W.sta Try.sz24 rfl rfl (by simp [sha256_len]) (B_one _) .hd (by simp) <| W.nil <| G.reg <| W.q (mv rfl) rfl <| W.q (saa Try.ear24 rfl ) rfl <| W.cp Try.underlying22 Try.sz5 rfl rfl (RdS.row .hd) (by simp [sha256_len]) (B_one _) (fun h => by cases h) (.tl <| .hd) (by simp [sha256_len]) (hLT (by omega)) rfl <| W.nil <| ckey1.weak (Sub.cons rfl <| Sub.cons rfl <| Sub.nil _) (Dr.ent (.drop rfl <| .keep <| .rfl))
    · -- h1 False
      refine G.reg <| W.q (mv rfl) rfl <| W.q (mv rfl) rfl <| W.cp Try.underlying22 Try.sz5 rfl rfl (RdS.old rfl hl) (by simp; omega) (B_one _) (RdL.nilB hl) .hd (by simp; omega) (hLF (by omega)) rfl <| W.nil <| ckey1.weak (Sub.cons rfl <| Sub.cons rfl <| Sub.nil _) .rfl
  refine G.seq <| G.seq <| G.reg <| W.q (sa rfl) rfl <| W.nil <| G.blk <| G.loop1 (α := Nat) (fun k => k ≤ 64) (fun k => [(7, i64 k)]) (fun k => [nb b1 (B ((L.take k).map (· ^^^ t) ++ L.drop k)) 5]) (fun k => 64 - k) [(1, _), (5, _)] [] 0 (by omega) (Sub.cons rfl <| Sub.cons rfl <| Sub.cons rfl <| Sub.nil _) .rfl (fun k hk ih => ?_)
  refine G.seq <| G.seq <| G.reg <| W.q (mv rfl) rfl <| W.q (lt rfl rfl) rfl <| W.nil <| G.cdd rfl (fun h2 => ?_) (fun h2 => ?_)
  · -- h2 True
    obtain ⟨x, hx⟩ : ∃ x, L[k]? = some x := ⟨_, List.getElem?_eq_getElem (by omega)⟩
    have hst := xor_set L t k (0 + (k : Int).toNat * 1) x hx (by omega)
    have hgt := xor_get L t k (0 + (k : Int).toNat * 1) x hx (by omega)
    refine G.skip <| G.seq <| G.blk <| G.reg <| W.q (mv rfl) rfl <| W.q (mv rfl) rfl <| W.q (mv rfl) rfl <| W.q (mv rfl) rfl <| W.q (ia Try.esl22 rfl rfl (by omega) (by omega)) rfl <| W.q (ld Try.sc5 rfl (Cell.at .hd hgt)) rfl <| W.q (mv rfl) rfl <| W.q (xor_u8 rfl rfl) rfl <| W.q (ia Try.esl22 rfl rfl (by omega) (by omega)) rfl <| W.st (cs' := B ((L.take (k + 1)).map (· ^^^ t) ++ L.drop (k + 1))) Try.sz5 rfl rfl rfl rfl rfl .hd (by simp; omega) hst <| W.nil <| G.inb <| G.reg <| W.q (mv rfl) rfl <| W.q (ad rfl rfl (by omega)) rfl <| W.q (sa rfl) rfl <| W.nil <| (ih (k + 1) (by omega) (by omega)).weak (Sub.cons rfl <| Sub.cons rfl <| Sub.cons rfl <| Sub.nil _) .rfl
  · -- h2 False
    have hk64 : k = 64 := by omega
    subst hk64
    refine G.exit rfl <| G.seq <| G.reg <| W.q (mv rfl) rfl <| W.q (sa rfl) rfl <| W.nil <| ret1 hX Try.results121 rfl fun w hm => done (H := [sl (some ⟨b1, 0, none⟩) (hmPad key t).length (hmPad key t).length 5 1 (B (hmPad key t))]) rfl ⟨some ⟨b1, 0, none⟩, (hmPad key t).length, by rw [hmPad_len], rfl⟩ (by have := Mem.rowB hm (by simp; omega); rw [List.take_of_length_le (by omega), List.drop_eq_nil_of_le (by omega), List.append_nil, ← hL] at this; exact this)


set_option maxRecDepth 100000 in
theorem ref03_Inside (a : Option Addr) (len cap : Nat) (key : List UInt8) (w : World) (hlen : len = key.length) (hl : RdL w a (B key)) (hb : key.length ≤ 140737488200000) (a2 : Option Addr) (len2 cap2 : Nat) (m : List UInt8) (hlen2 : len2 = m.length) (hl2 : RdL w a2 (B m)) (hb2 : m.length ≤ 140737488100000) :
    Ret Try.prog 119 [.slice a len cap, .slice a2 len2 cap2] w (fun v _ => v = .agg (B (sha256 (hmPad key 0x36 ++ m))).toArray) := by
  subst hlen2
  refine enter [] (Mem.nil _) Try.func119 rfl Try.ntmps119 rfl (fun X hX => ?_)
  have hw := hX.w0; subst hw
  refine G.seq <| G.reg <| W.al Try.zrl24 rfl fun b1 => W.nil <| G.seq <| G.reg <| W.q (mv rfl) rfl <| W.fn Try.ca121 rfl (fun w hm => ref03_block a len cap key w hlen (hm.rd rfl hl) hb 0x36) rfl fun v J hv hJ => ?_
  obtain ⟨a1, c1, rfl, rfl⟩ := hv
  rw [hmPad_len]
  refine W.q (mv rfl) rfl <| W.ap Try.underlying22 Try.underlying22 Try.sz5 Try.zln5 Try.by5 rfl rfl (fun _ _ => .hd) (RdS.old rfl hl2) (B_len _) (B_one _) (RdL.nilB hl2) (by omega) (by omega) rfl fun a3 c3 => W.fv Try.ca120 rfl (fun w hm => ref02_Sum a3 _ c3 (hmPad key 0x36 ++ m) w (by simp [hmPad_len]) (by have := hm.slRd (m := 64 + m.length) (cap := c3) (E := 5) (s := 1) (.head _); rwa [← List.map_append] at this) (by simp [hmPad_len]; omega)) rfl <| W.sta Try.sz24 rfl rfl (by simp [sha256_len]) (B_one _) (.tl <| .hd) (by simp) <| W.nil <| ret hX Try.results119 (RA.cella rfl Try.agg24 Try.sz24 (Cells.whole (.tl <| .hd)) (by simp [sha256_len]) <| RA.nil) fun w hm => done (H := []) rfl ?_ (Dr.ent (Dr.new rfl) w hm)
  rfl


set_option maxRecDepth 100000 in
theorem ref03_Tag (a : Option Addr) (len cap : Nat) (key : List UInt8) (w : World) (hlen : len = key.length) (hl : RdL w a (B key)) (hb : key.length ≤ 140737488200000) (a2 : Option Addr) (len2 cap2 : Nat) (m : List UInt8) (hlen2 : len2 = m.length) (hl2 : RdL w a2 (B m)) (hb2 : m.length ≤ 140737488100000) :
    Ret Try.prog 101 [.slice a len cap, .slice a2 len2 cap2] w (fun v _ => v = .agg (B (hmac key m)).toArray) := by
  refine enter [] (Mem.nil _) Try.func101 rfl Try.ntmps101 rfl (fun X hX => ?_)
  have hw := hX.w0; subst hw
  refine G.seq <| G.reg <| W.al Try.zrl24 rfl fun b1 => W.nil <| G.seq <| G.reg <| W.q (mv rfl) rfl <| W.q (mv rfl) rfl <| W.fv Try.ca119 rfl (fun w hm => ref03_Inside a len cap key w hlen (hm.rd rfl hl) hb a2 len2 cap2 m hlen2 (hm.rd rfl hl2) hb2) rfl <| W.al Try.zrl24 rfl fun b2 => W.sta Try.sz24 rfl rfl (by simp [sha256_len]) (B_one _) .hd (by simp) <| W.nil <| G.seq <| G.rega 6 rfl Try.mixed <| A.q 0 rfl (by kernel_rfl) (fun _ => (mv rfl)) rfl <| A.q 2 rfl (by kernel_rfl) (fun _ => (saa Try.ear24 rfl )) rfl <| A.one 1 rfl (by kernel_rfl) <| W.fn Try.ca121 rfl (fun w hm => ref03_block a len cap key w hlen (hm.rd rfl hl) hb 0x5c) rfl fun v J hv hJ => ?_
  obtain ⟨a1, c1, rfl, rfl⟩ := hv
  rw [hmPad_len]
  refine A.back <| A.one 3 rfl (by kernel_rfl) <| W.ap Try.underlying22 Try.underlying22 Try.sz5 Try.zln5 Try.by5 rfl rfl (fun _ _ => .hd) (RdS.row (.tl <| .hd)) (by simp [sha256_len]) (B_one _) (fun h => by cases h) (by omega) (by omega) rfl fun a3 c3 => A.back <| A.quiet [4] 5 (fuel := 1) (os := [_]) rfl rfl (by kernel_rfl) <| W.fvq Try.ca120 rfl (fun w hm => ref02_Sum a3 _ c3 (hmPad key 0x5c ++ sha256 (hmPad key 0x36 ++ m)) w (by simp [hmPad_len, sha256_len]) (by have := hm.slRd (m := 64 + 32) (cap := c3) (E := 5) (s := 1) (.head _); rwa [← List.map_append] at this) (by simp [hmPad_len, sha256_len])) rfl <| A.backq <| A.one 5 rfl (by kernel_rfl) <| W.sta Try.sz24 rfl rfl (by simp [sha256_len]) (B_one _) (.tl <| .tl <| .hd) (by simp) <| A.back <| A.nil (by kernel_rfl) <| ret hX Try.results101 (RA.cella rfl Try.agg24 Try.sz24 (Cells.whole (.tl <| .tl <| .hd)) (by simp [sha256_len]) <| RA.nil) fun w hm => done (H := []) rfl ?_ (Dr.ent (Dr.new rfl) w hm)
  rfl


set_option maxRecDepth 100000 in
theorem ref03_Expand32 (a : Option Addr) (len cap : Nat) (key : List UInt8) (w : World) (hlen : len = key.length) (hl : RdL w a (B key)) (hb : key.length ≤ 140737488200000) (a2 : Option Addr) (len2 cap2 : Nat) (m : List UInt8) (hlen2 : len2 = m.length) (hl2 : RdL w a2 (B m)) (hb2 : m.length ≤ 140737488000000) :
    Ret Try.prog 117 [.slice a len cap, i64 32, .slice a2 len2 cap2] w (fun v J => ∃ v1, NewB (hmac key (m ++ [1])) v1 J ∧ v = .tuple #[v1, i64 0]) := by
  subst hlen2
  refine enter [] (Mem.nil _) Try.func117 rfl Try.ntmps117 rfl (fun X hX => ?_)
  have hw := hX.w0; subst hw
  refine G.seq <| G.reg <| W.q (sa rfl) rfl <| W.q (sa rfl) rfl <| W.nil <| G.seq <| G.seq <| G.reg <| W.q (mv rfl) rfl <| W.q (lt rfl rfl) rfl <| W.q (mv rfl) rfl <| W.sp (t := _) 15 rfl (fun g1 => ?_) (fun g1 => ?_)
  · -- True
    exact absurd g1 (by decide)
  · -- False
    refine W.qg rfl rfl g1 (mv rfl) rfl <| W.qg rfl rfl g1 (gt rfl rfl) rfl <| W.q (pkf rfl g1 rfl) rfl <| W.nil <| G.cdf rfl rfl <| G.skip <| G.seq <| G.reg <| W.q (sa rfl) rfl <| W.nil <| G.seq <| G.reg <| W.q (sa rfl) rfl <| W.nil <| G.seq <| G.seq <| G.reg <| W.q (sa rfl) rfl <| W.nil <| G.blk <| G.loop5 (α := Nat) (β := Option Addr) (γ := Nat) (δ := Option Addr) (ε := Nat) (fun k a3 c3 la lc => k ≤ 1) (fun k a3 c3 la lc => [(8, .slice a3 (32 * k) c3), (9, .slice la (32 * k) lc), (10, i64 ((k : Int) + 1))]) (fun k a3 c3 la lc => [sl a3 (32 * k) c3 5 1 (if k = 0 then [] else B (hmac key (m ++ [1])))]) (fun k a3 c3 la lc => 1 - k) [(0, _), (1, _), (2, _)] [] 0 none 0 none 0 (by omega) (Sub.cons rfl <| Sub.cons rfl <| Sub.cons rfl <| Sub.cons rfl <| Sub.cons rfl <| Sub.cons rfl <| Sub.nil _) (Ent.slNil 5 1) (fun k a3 c3 la lc hk ih => ?_)
    refine G.seq <| G.seq <| G.reg <| W.q (mv rfl) rfl <| W.q (ln Try.esl22 rfl) rfl <| W.q (mv rfl) rfl <| W.q (lt rfl rfl) rfl <| W.nil <| G.cdd rfl (fun h3 => ?_) (fun h3 => ?_)
    · -- h3 True
      have hk0 : k = 0 := by omega
      subst hk0
      refine G.skip <| G.seq <| G.blk <| G.seq <| G.reg <| W.q (mv rfl) rfl <| W.fn Try.ca13 rfl (fun w hm => ref01_Copyx (bs := []) RdL.ofNil (by simp) rfl) rfl fun v J hv hJ => ?_
      obtain ⟨a1, c1, rfl, rfl⟩ := hv
      refine W.q (mv rfl) rfl <| W.ap Try.underlying22 Try.underlying22 Try.sz5 Try.zln5 Try.by5 rfl rfl (fun _ _ => .hd) (RdS.old rfl hl2) (B_len _) (B_one _) (RdL.nilB hl2) (by simp; omega) (by simp; omega) rfl fun a4 c4 => W.q (mv rfl) rfl <| W.q (cv_i64_u8 Try.underlying3 Try.underlying5 rfl) rfl <| W.bs (cs := [_]) Try.underlying22 Try.sz5 Try.zrl5 rfl rfl rfl rfl fun b1 => W.ap Try.underlying22 Try.underlying22 Try.sz5 Try.zln5 Try.by5 rfl rfl (fun _ _ => (.tl <| .hd)) (RdS.row .hd) rfl rfl (by simp) (by simp; omega) (by simp; omega) rfl fun a5 c5 => W.q (sa rfl) rfl <| W.nil <| G.seq <| G.reg <| W.q (mv rfl) rfl <| W.q (mv rfl) rfl <| W.fv Try.ca101 rfl (fun w hm => ref03_Tag a len cap key w hlen (hm.rd rfl hl) hb a5 _ c5 (m ++ [1]) (by simp) (by have := hm.slRd (a := a5) (cap := c5) (E := 5) (s := 1) (.tail _ <| .head _); rw [show B (m ++ [1]) = B m ++ [u8 1] by simp [B]]; exact this) (by simp; omega)) rfl <| W.al Try.zrl24 rfl fun b2 => W.sta Try.sz24 rfl rfl (by simp [hmac_len]) (B_one _) .hd (by simp) <| W.nil <| G.seq <| G.reg <| W.q (saa Try.ear24 rfl ) rfl <| W.fn Try.ca13 rfl (fun w hm => ref01_Copyx (hm.rowRd (cs := B (hmac key (m ++ [1]))) .hd) (by simp [hmac_len]) (by simp [hmac_len])) rfl fun v J hv hJ => ?_
      obtain ⟨a6, c6, rfl, rfl⟩ := hv
      refine W.slAt (a := a6) (m := _) (cap := c6) (E := 5) (s := 1) (xs := _) (.head _) (fun q1 q2 q3 q4 => ?_)
      refine W.q (sa rfl) rfl <| W.nil <| G.reg <| W.q (mv rfl) rfl <| W.q (mv rfl) rfl <| W.ap Try.underlying22 Try.underlying22 Try.sz5 Try.zln5 Try.by5 rfl rfl (fun _ _ => (.tl <| .tl <| .tl <| .tl <| .hd)) (RdS.sl (.head _)) (B_len _) (B_one _) (slAt_nil q4) (by rw [hmac_len]; omega) (by rw [hmac_len]; omega) rfl fun a8 c8 => W.q (sa rfl) rfl <| W.nil <| G.inb <| G.reg <| W.q (mv rfl) rfl <| W.q (ad rfl rfl (by omega)) rfl <| W.q (sa rfl) rfl <| W.nil <| (ih 1 a8 c8 a6 c6 (by omega) (by omega)).weak (Sub.co rfl ?_ <| Sub.co rfl ?_ <| Sub.co rfl ?_ <| Sub.cons rfl <| Sub.cons rfl <| Sub.cons rfl <| Sub.nil _) (fun w hm => by have := Dr.ent (.drop rfl <| .drop rfl <| .drop rfl <| .drop rfl <| .keep <| .rfl) w hm; rw [hmac_len] at this; exact this)
      all_goals clear ih
      · show Value.slice _ _ _ = Value.slice _ _ _; rw [hmac_len]
      · show Value.slice _ _ _ = Value.slice _ _ _; rw [hmac_len]
      · rfl
    · -- h3 False
      have hk1 : k = 1 := by omega
      subst hk1
      refine G.slAt (a := a3) (m := 32 * 1) (cap := c3) (E := 5) (s := 1) (xs := _) (.head _) (fun p1 p2 p3 p4 => ?_)
      refine G.exit rfl <| G.seq <| G.reg <| W.q (mv rfl) rfl <| W.q (mv rfl) rfl <| W.q (shi Try.esl22 rfl rfl (by omega) (by omega)) rfl <| W.fn Try.ca13 rfl (fun w hm => ref01_Copyx (bs := hmac key (m ++ [1])) (by have := hm.slRd (m := 32 * 1) (cap := c3) (E := 5) (s := 1) (.head _); exact this) (by simp [hmac_len]) (by simp [hmac_len])) rfl fun v J hv hJ => ?_
      obtain ⟨a7, c7, rfl, rfl⟩ := hv
      refine W.q (sa rfl) rfl <| W.q (sa rfl) rfl <| W.nil <| ret2 hX Try.results117 rfl rfl fun w hm => done (H := [sl a7 (hmac key (m ++ [1])).length c7 5 1 (B (hmac key (m ++ [1])))]) rfl ⟨_, ⟨a7, c7, rfl, rfl⟩, rfl⟩ (Dr.ent (.keep <| .drop rfl <| .rfl) w hm)


set_option maxRecDepth 100000 in
theorem ref03_Derive (a : Option Addr) (len cap : Nat) (sec : List UInt8) (s : ByteArray) (w : World) (hlen : len = sec.length) (hl : RdL w a (B sec)) (hb : sec.length ≤ 140737488100000) (hs : s.size ≤ 1000000) :
    Ret Try.prog 98 [.slice a len cap, .string s] w (fun v _ => v = .agg (B (hkdf sec (strB s))).toArray) := by
  refine enter [] (Mem.nil _) Try.func98 rfl Try.ntmps98 rfl (fun X hX => ?_)
  have hw := hX.w0; subst hw
  refine G.seq <| G.reg <| W.al Try.zrl24 rfl fun b1 => W.nil <| G.seq <| G.reg <| W.bs (cs := [_, _, _, _, _, _, _]) Try.underlying22 Try.sz5 Try.zrl5 rfl rfl rfl rfl fun b2 => W.cvss Try.underlying22 Try.underlying5 rfl .hd rfl <| W.q (mv rfl) rfl <| W.fv Try.ca101 rfl (fun w hm => ref03_Tag (some ⟨b2, 0, none⟩) 7 7 saltB w rfl (hm.rowRd (cs := B saltB) .hd) (by decide) a len cap sec hlen (hm.rd rfl hl) hb) rfl <| W.al Try.zrl24 rfl fun b3 => W.sta Try.sz24 rfl rfl (by simp [hmac_len, hkdf_len]) (B_one _) .hd (by simp) <| W.nil <| G.seq <| G.reg <| W.q (saa Try.ear24 rfl ) rfl <| W.q (mv rfl) rfl <| W.cvsb Try.underlying9 Try.underlying22 Try.underlying5 rfl rfl fun b4 cb4 jb4 hcb4 => W.fn Try.ca117 rfl (fun w hm => ref03_Expand32 (some ⟨b3, 0, none⟩) 32 32 (hmac saltB sec) w (hmac_len _ _).symm (hm.rowRd (.tl <| .hd)) (by rw [hmac_len]; omega) (some ⟨b4, 0, none⟩) _ cb4 (strB s) rfl ((hm.rowRd .hd).preB) (by rw [strB_len]; omega)) rfl fun v J hv hJ => ?_
  rw [show hmac (hmac saltB sec) (strB s ++ [1]) = hkdf sec (strB s) from rfl] at hv
  obtain ⟨v1, ⟨a9, c9, rfl, rfl⟩, rfl⟩ := hv
  rw [hkdf_len]
  refine W.slAt (a := a9) (m := 32) (cap := c9) (E := 5) (s := 1) (xs := B (hkdf sec (strB s))) (.head _) (fun q1 q2 q3 q4 => ?_)
  refine W.q (mv rfl) rfl <| W.q (ex rfl rfl) rfl <| W.q (ex rfl rfl) rfl <| W.q (sa rfl) rfl <| W.q (sa rfl) rfl <| W.nil <| G.seq <| G.reg <| W.al Try.zrl24 rfl fun b5 => W.nil <| G.seq <| G.reg <| W.q (saa Try.ear24 rfl ) rfl <| W.q (mv rfl) rfl <| W.cp Try.underlying22 Try.sz5 rfl rfl (RdS.sl (.tail _ <| .head _)) (by simp [hkdf_len]) (B_one _) (slAt_nil q4) .hd (by simp [hkdf_len]) (by have := setAt_zeros 32 (hkdf sec (strB s)) (by rw [hkdf_len]; omega); rw [hkdf_len, Nat.sub_self, List.replicate_zero, List.append_nil] at this; exact this) rfl <| W.nil <| G.seq <| G.reg <| W.q (lda Try.agg24 Try.sz24 rfl (Cells.whole .hd) (by simp [hkdf_len])) rfl <| W.sta Try.sz24 rfl rfl (by simp [hmac_len, hkdf_len]) (B_one _) (.tl <| .tl <| .tl <| .tl <| .tl <| .hd) (by simp) <| W.nil <| ret hX Try.results98 (RA.cella rfl Try.agg24 Try.sz24 (Cells.whole (.tl <| .tl <| .tl <| .tl <| .tl <| .hd)) (by simp [hkdf_len]) <| RA.nil) fun w hm => done (H := []) rfl ?_ (Dr.ent (Dr.new rfl) w hm)
  rfl
end Go.Proofs.Ytjalojbihpdghaa
