/- ChaCha20, the program's. -/
import Derived.Test.YtjalojbihpdghaaChaP
namespace Go.Proofs.Ytjalojbihpdghaa
open Go Go.Eng
set_option linter.unusedVariables false

theorem cvu32 (n : Nat) : u32Of (n : Int) = UInt32.ofNat n := by
  apply UInt32.toNat_inj.1
  have := u32Of_toNat (n : Int)
  rw [UInt32.toNat_ofNat']; omega
theorem leW_take (bs : List UInt8) (t : Nat) : UInt32.ofNat (leN ((bs.drop (4 * t)).take 4)) = leW bs t := rfl
theorem range_get (n i : Nat) (f : Nat → UInt32) (h : i < n) : ((List.range n).map f)[i]? = some (f i) := by
  rw [List.getElem?_map, List.getElem?_range h]; rfl
theorem init_key (key nonce : List UInt8) (ctr : UInt32) (i : Nat) (h : i < 8) : (chInit key nonce ctr)[4 + i]? = some (leW key i) := by
  rw [chInit, List.getElem?_append_right (by simp [chC]), show 4 + i - chC.length = i by simp [chC], List.getElem?_append_left (by simpa using h), range_get _ _ _ h]
theorem init_ctr (key nonce : List UInt8) (ctr : UInt32) : (chInit key nonce ctr)[12]? = some ctr := rfl
theorem init_nonce (key nonce : List UInt8) (ctr : UInt32) (i : Nat) (h : i < 3) : (chInit key nonce ctr)[13 + i]? = some (leW nonce i) := by
  rw [chInit, List.getElem?_append_right (by simp [chC]; omega), List.getElem?_append_right (by simp [chC]; omega), show 13 + i - chC.length - ((List.range 8).map (leW key)).length = i + 1 by simp [chC]; omega, List.getElem?_cons_succ, range_get _ _ _ h]
theorem drop4 (bs : List UInt8) (i : Nat) : ((bs.drop i).drop 0).take 4 = (bs.drop i).take 4 := rfl


set_option maxRecDepth 100000 in
theorem cha_Quarter (q : Q4) (w : World) :
    Ret Try.prog 164 [u32 q.a, u32 q.b, u32 q.c, u32 q.d] w (fun v _ => v = .tuple #[u32 (qn q 4).a, u32 (qn q 4).b, u32 (qn q 4).c, u32 (qn q 4).d]) := by
  refine enter [] (Mem.nil _) Try.func164 rfl Try.ntmps164 rfl (fun X hX => ?_)
  have hw := hX.w0; subst hw
  refine G.seq <| G.reg <| W.q (sa rfl) rfl <| W.q (sa rfl) rfl <| W.q (sa rfl) rfl <| W.q (sa rfl) rfl <| W.nil <| G.seq <| G.reg <| W.q (mv rfl) rfl <| W.q (mv rfl) rfl <| W.q (add_u32 rfl rfl) rfl <| W.q (sa rfl) rfl <| W.nil <| G.seq <| G.reg <| W.q (mv rfl) rfl <| W.q (mv rfl) rfl <| W.q (xor_u32 rfl rfl) rfl <| W.fv Try.ca186 rfl (fun w hm => bits_rotp _ 16 (by decide) (by decide) w) rfl <| W.q (sa rfl) rfl <| W.nil <| G.seq <| G.reg <| W.q (mv rfl) rfl <| W.q (mv rfl) rfl <| W.q (add_u32 rfl rfl) rfl <| W.q (sa rfl) rfl <| W.nil <| G.seq <| G.reg <| W.q (mv rfl) rfl <| W.q (mv rfl) rfl <| W.q (xor_u32 rfl rfl) rfl <| W.fv Try.ca186 rfl (fun w hm => bits_rotp _ 12 (by decide) (by decide) w) rfl <| W.q (sa rfl) rfl <| W.nil <| G.seq <| G.reg <| W.q (mv rfl) rfl <| W.q (mv rfl) rfl <| W.q (add_u32 rfl rfl) rfl <| W.q (sa rfl) rfl <| W.nil <| G.seq <| G.reg <| W.q (mv rfl) rfl <| W.q (mv rfl) rfl <| W.q (xor_u32 rfl rfl) rfl <| W.fv Try.ca186 rfl (fun w hm => bits_rotp _ 8 (by decide) (by decide) w) rfl <| W.q (sa rfl) rfl <| W.nil <| G.seq <| G.reg <| W.q (mv rfl) rfl <| W.q (mv rfl) rfl <| W.q (add_u32 rfl rfl) rfl <| W.q (sa rfl) rfl <| W.nil <| G.seq <| G.reg <| W.q (mv rfl) rfl <| W.q (mv rfl) rfl <| W.q (xor_u32 rfl rfl) rfl <| W.fv Try.ca186 rfl (fun w hm => bits_rotp _ 7 (by decide) (by decide) w) rfl <| W.q (sa rfl) rfl <| W.nil <| G.seq <| G.reg <| W.q (mv rfl) rfl <| W.q (mv rfl) rfl <| W.q (mv rfl) rfl <| W.q (mv rfl) rfl <| W.q (sa rfl) rfl <| W.q (sa rfl) rfl <| W.q (sa rfl) rfl <| W.q (sa rfl) rfl <| W.nil <| ret hX Try.results164 (RA.tmp rfl <| RA.tmp rfl <| RA.tmp rfl <| RA.tmp rfl <| RA.nil) fun w hm => done rfl rfl hm


set_option maxRecDepth 100000 in
theorem cha_word (a : Option Addr) (len cap : Nat) (bs : List UInt8) (w : World) (hlen : len = bs.length) (hl : RdL w a (B bs)) (h4 : 4 ≤ bs.length) :
    Ret Try.prog 163 [.slice a len cap] w (fun v _ => v = u32 (UInt32.ofNat (leN (bs.take 4)))) := by
  subst hlen
  refine enter [] (Mem.nil _) Try.func163 rfl Try.ntmps163 rfl (fun X hX => ?_)
  have hw := hX.w0; subst hw
  obtain ⟨zb, zo, rfl, _⟩ := hl 0 _ (B_get (getD_someB bs 0 (by omega)))
  have hcell : ∀ o i, o = i → i < 4 → X.w0.cell? ⟨zb, zo + o, none⟩ = some (u8 (bs.getD i 0)) := fun o i ho hi => by
    subst ho
    obtain ⟨b', o', h1, h2⟩ := hl o _ (B_get (getD_someB bs o (by omega)))
    cases h1; exact h2
  have htk := take4 bs 0 (by omega)
  refine G.seq <| G.reg <| W.q (sa rfl) rfl <| W.nil <| G.seq <| G.regq Try.mixed (by kernel_rfl) <| W.q (mv rfl) rfl <| W.q (ia Try.esl22 rfl rfl (by omega) (by omega)) rfl <| W.q (ld Try.sc5 rfl (Cell.old rfl (hcell _ 0 (by decide) (by omega)))) rfl <| W.q (cv_u8_u32 Try.underlying5 Try.underlying125 rfl) rfl <| W.q (mv rfl) rfl <| W.q (ia Try.esl22 rfl rfl (by omega) (by omega)) rfl <| W.q (ld Try.sc5 rfl (Cell.old rfl (hcell _ 1 (by decide) (by omega)))) rfl <| W.q (cv_u8_u32 Try.underlying5 Try.underlying125 rfl) rfl <| W.q (shl_u32 rfl rfl (by omega)) rfl <| W.q (or_u32 rfl rfl) rfl <| W.q (mv rfl) rfl <| W.q (ia Try.esl22 rfl rfl (by omega) (by omega)) rfl <| W.q (ld Try.sc5 rfl (Cell.old rfl (hcell _ 2 (by decide) (by omega)))) rfl <| W.q (cv_u8_u32 Try.underlying5 Try.underlying125 rfl) rfl <| W.q (shl_u32 rfl rfl (by omega)) rfl <| W.q (or_u32 rfl rfl) rfl <| W.q (mv rfl) rfl <| W.q (ia Try.esl22 rfl rfl (by omega) (by omega)) rfl <| W.q (ld Try.sc5 rfl (Cell.old rfl (hcell _ 3 (by decide) (by omega)))) rfl <| W.q (cv_u8_u32 Try.underlying5 Try.underlying125 rfl) rfl <| W.q (shl_u32 rfl rfl (by omega)) rfl <| W.q (or_u32 rfl rfl) rfl <| W.q (sa rfl) rfl <| W.nilq <| ret1 hX Try.results163 rfl fun w hm => done rfl ?_ hm
  rw [show bs.take 4 = [bs.getD 0 0, bs.getD 1 0, bs.getD 2 0, bs.getD 3 0] from htk, ← word4l]


set_option maxRecDepth 100000 in
theorem cha_state (ka : Option Addr) (kl kc : Nat) (key : List UInt8) (na : Option Addr) (nl nc : Nat) (nonce : List UInt8) (ctr : UInt32) (w : World) (hkl : kl = key.length) (hk : RdL w ka (B key)) (hk32 : key.length = 32) (hk1 : key.length ≤ kc) (hnl : nl = nonce.length) (hn : RdL w na (B nonce)) (hn12 : nonce.length = 12) (hn1 : nonce.length ≤ nc) :
    Ret Try.prog 135 [.slice ka kl kc, .slice na nl nc, u32 ctr] w (fun v _ => v = .agg (U (chInit key nonce ctr)).toArray) := by
  subst hkl; subst hnl
  refine enter [] (Mem.nil _) Try.func135 rfl Try.ntmps135 rfl (fun X hX => ?_)
  have hw := hX.w0; subst hw
  have hL := chInit_len key nonce ctr
  refine G.seq <| G.reg <| W.al Try.zrl211 rfl fun b1 => W.nil <| G.seq <| G.reg <| W.q (blda (cs := U ((chInit key nonce ctr).take (4 + 0) ++ List.replicate (16 - (4 + 0)) 0)) Try.arp211 rfl rfl) rfl <| W.al Try.zrl211 rfl fun b2 => W.sta Try.sz211 rfl rfl (by simp [hL]) (U_one _) .hd (by simp [hL]) <| W.nil <| G.seq <| G.seq <| G.reg <| W.q (mv rfl) rfl <| W.nil <| G.blk <| G.loop1 (α := Nat) (fun i => i ≤ 8) (fun i => [(11, i64 i)]) (fun i => [nb b2 (U ((chInit key nonce ctr).take (4 + i) ++ List.replicate (16 - (4 + i)) 0)) 211]) (fun i => 8 - i) [(0, _), (1, _), (2, _), (6, _), (7, _)] _ 0 (by omega) (Sub.cons rfl <| Sub.cons rfl <| Sub.cons rfl <| Sub.cons rfl <| Sub.cons rfl <| Sub.cons rfl <| Sub.nil _) .rfl (fun i hi ih => ?_)
  refine G.seq <| G.reg <| W.q (lt rfl rfl) rfl <| W.nil <| G.seq <| G.cdd rfl (fun h1 => ?_) (fun h1 => ?_)
  · -- h1 True
    have hst := outU_set (chInit key nonce ctr) 16 (4 + i) (0 + (4 + (i : Int)).toNat * 1) _ hL (init_key key nonce ctr i (by omega)) (by omega)
    have e4 : (4 * (i : Int)).toNat = 4 * i := by omega
    refine G.skip <| G.seq <| G.blk <| G.seq <| G.reg <| W.q (mv rfl) rfl <| W.q (sa rfl) rfl <| W.nil <| G.reg <| W.q (mv rfl) rfl <| W.q (ad rfl rfl (by omega)) rfl <| W.q (mv rfl) rfl <| W.q (mv rfl) rfl <| W.q (ml rfl rfl (by omega)) rfl <| W.q (slo Try.esl22 rfl rfl (by omega) (by omega)) rfl <| W.fv Try.ca163 rfl (fun w hm => cha_word _ _ _ (key.drop (4 * i)) w (by simp; omega) (by have := (hm.rd rfl hk).dropB (4 * i) kc hk1; rwa [e4]) (by simp; omega)) rfl <| W.q (iaa Try.ear211 rfl rfl (by omega) (by omega)) rfl <| W.st (cs' := U ((chInit key nonce ctr).take (4 + (i + 1)) ++ List.replicate (16 - (4 + (i + 1))) 0)) Try.sz125 rfl rfl rfl rfl rfl .hd (by simp [hL]; omega) hst <| W.nil <| G.inb <| G.reg <| W.q (ad rfl rfl (by omega)) rfl <| W.q (mv rfl) rfl <| W.nil <| (ih (i + 1) (by omega) (by omega)).weak (Sub.cons rfl <| Sub.cons rfl <| Sub.cons rfl <| Sub.cons rfl <| Sub.cons rfl <| Sub.cons rfl <| Sub.nil _) .rfl
  · -- h1 False
    have hi8 : i = 8 := by omega
    subst hi8
    have hst := outU_set (chInit key nonce ctr) 16 12 (0 + (12 : Int).toNat * 1) _ hL (init_ctr key nonce ctr) (by omega)
    refine G.exit rfl <| G.seq <| G.reg <| W.q (mv rfl) rfl <| W.q (iaa Try.ear211 rfl rfl (by omega) (by omega)) rfl <| W.st (cs' := U ((chInit key nonce ctr).take (13 + 0) ++ List.replicate (16 - (13 + 0)) 0)) Try.sz125 rfl rfl rfl rfl rfl .hd (by simp [hL]) hst <| W.nil <| G.seq <| G.seq <| G.reg <| W.q (mv rfl) rfl <| W.nil <| G.blk <| G.loop1 (α := Nat) (fun i => i ≤ 3) (fun i => [(25, i64 i)]) (fun i => [nb b2 (U ((chInit key nonce ctr).take (13 + i) ++ List.replicate (16 - (13 + i)) 0)) 211]) (fun i => 3 - i) [(1, _), (6, _), (7, _)] _ 0 (by omega) (Sub.cons rfl <| Sub.cons rfl <| Sub.cons rfl <| Sub.cons rfl <| Sub.nil _) .rfl (fun i hi ih2 => ?_)
    refine G.seq <| G.reg <| W.q (lt rfl rfl) rfl <| W.nil <| G.seq <| G.cdd rfl (fun h2 => ?_) (fun h2 => ?_)
    · -- h2 True
      have hst := outU_set (chInit key nonce ctr) 16 (13 + i) (0 + (13 + (i : Int)).toNat * 1) _ hL (init_nonce key nonce ctr i (by omega)) (by omega)
      have e4 : (4 * (i : Int)).toNat = 4 * i := by omega
      refine G.skip <| G.seq <| G.blk <| G.seq <| G.reg <| W.q (mv rfl) rfl <| W.q (sa rfl) rfl <| W.nil <| G.reg <| W.q (mv rfl) rfl <| W.q (ad rfl rfl (by omega)) rfl <| W.q (mv rfl) rfl <| W.q (mv rfl) rfl <| W.q (ml rfl rfl (by omega)) rfl <| W.q (slo Try.esl22 rfl rfl (by omega) (by omega)) rfl <| W.fv Try.ca163 rfl (fun w hm => cha_word _ _ _ (nonce.drop (4 * i)) w (by simp; omega) (by have := (hm.rd rfl hn).dropB (4 * i) nc hn1; rwa [e4]) (by simp; omega)) rfl <| W.q (iaa Try.ear211 rfl rfl (by omega) (by omega)) rfl <| W.st (cs' := U ((chInit key nonce ctr).take (13 + (i + 1)) ++ List.replicate (16 - (13 + (i + 1))) 0)) Try.sz125 rfl rfl rfl rfl rfl .hd (by simp [hL]; omega) hst <| W.nil <| G.inb <| G.reg <| W.q (ad rfl rfl (by omega)) rfl <| W.q (mv rfl) rfl <| W.nil <| (ih2 (i + 1) (by omega) (by omega)).weak (Sub.cons rfl <| Sub.cons rfl <| Sub.cons rfl <| Sub.cons rfl <| Sub.nil _) .rfl
    · -- h2 False
      have hi3 : i = 3 := by omega
      subst hi3
      rw [show (chInit key nonce ctr).take (13 + 3) ++ List.replicate (16 - (13 + 3)) 0 = chInit key nonce ctr by rw [List.take_of_length_le (by omega)]; simp]
      refine G.exit rfl <| G.seq <| G.reg <| W.q (lda Try.agg211 Try.sz211 rfl (Cells.whole .hd) (by simp [hL])) rfl <| W.sta Try.sz211 rfl rfl (by simp [hL]) (U_one _) (.tl <| .hd) (by simp [hL]) <| W.nil <| ret hX Try.results135 (RA.cella rfl Try.agg211 Try.sz211 (Cells.whole (.tl <| .hd)) (by simp [hL]) <| RA.nil) fun w hm => done (H := []) rfl ?_ (Dr.ent (Dr.new rfl) w hm)
      rfl


set_option maxRecDepth 100000 in
theorem cha_round (w0 : World) (H : List It) (bk T : Nat) (s : List UInt32) (a b c d : Nat) (hs : s.length = 16) (ha : a < 16) (hb : b < 16) (hc : c < 16) (hd : d < 16) :
    RetF Try.prog 136 [ptr bk 0, i64 a, i64 b, i64 c, i64 d] w0 H [nb bk (U s) T] (fun _ P => P = [nb bk (U (cqr s [a, b, c, d])) T]) := by
  refine enterF Try.func136 rfl Try.ntmps136 rfl (fun X hX => ?_)
  have hw := hX.w0; subst hw
  refine G.rega 46 rfl Try.mixed <| A.q 0 rfl (by kernel_rfl) (fun _ => (mv rfl)) rfl <| A.q 1 rfl (by kernel_rfl) (fun _ => (mv rfl)) rfl <| A.q 2 rfl (by kernel_rfl) (fun _ => (mv rfl)) rfl <| A.q 3 rfl (by kernel_rfl) (fun _ => (mv rfl)) rfl <| A.q 4 rfl (by kernel_rfl) (fun _ => (mv rfl)) rfl <| A.q 5 rfl (by kernel_rfl) (fun _ => (mv rfl)) rfl <| A.q 6 rfl (by kernel_rfl) (fun _ => (mv rfl)) rfl <| A.q 7 rfl (by kernel_rfl) (fun _ => (mv rfl)) rfl <| A.q 8 rfl (by kernel_rfl) (fun _ => (mv rfl)) rfl <| A.q 9 rfl (by kernel_rfl) (fun _ => (mv rfl)) rfl <| A.q 10 rfl (by kernel_rfl) (fun _ => (ncp rfl)) rfl <| A.q 11 rfl (by kernel_rfl) (fun _ => (iaa Try.ear211 rfl rfl (by omega) (by omega))) rfl <| A.q 13 rfl (by kernel_rfl) (fun _ => (mv rfl)) rfl <| A.q 14 rfl (by kernel_rfl) (fun _ => (mv rfl)) rfl <| A.q 15 rfl (by kernel_rfl) (fun _ => (ncp rfl)) rfl <| A.q 16 rfl (by kernel_rfl) (fun _ => (iaa Try.ear211 rfl rfl (by omega) (by omega))) rfl <| A.q 18 rfl (by kernel_rfl) (fun _ => (mv rfl)) rfl <| A.q 19 rfl (by kernel_rfl) (fun _ => (mv rfl)) rfl <| A.q 20 rfl (by kernel_rfl) (fun _ => (ncp rfl)) rfl <| A.q 21 rfl (by kernel_rfl) (fun _ => (iaa Try.ear211 rfl rfl (by omega) (by omega))) rfl <| A.q 23 rfl (by kernel_rfl) (fun _ => (mv rfl)) rfl <| A.q 24 rfl (by kernel_rfl) (fun _ => (mv rfl)) rfl <| A.q 25 rfl (by kernel_rfl) (fun _ => (ncp rfl)) rfl <| A.q 26 rfl (by kernel_rfl) (fun _ => (iaa Try.ear211 rfl rfl (by omega) (by omega))) rfl <| A.q 34 rfl (by kernel_rfl) (fun _ => (ncp rfl)) rfl <| A.q 37 rfl (by kernel_rfl) (fun _ => (ncp rfl)) rfl <| A.q 40 rfl (by kernel_rfl) (fun _ => (ncp rfl)) rfl <| A.q 43 rfl (by kernel_rfl) (fun _ => (ncp rfl)) rfl <| A.held 12 [17, 22, 27] rfl (by kernel_rfl) (ld Try.sc125 rfl (Cell.at .hd (U_get (by rw [show 0 + (a : Int).toNat * 1 = a by omega]; exact getD_someU s a (by omega))))) rfl <| A.held 17 [22, 27] rfl (by kernel_rfl) (ld Try.sc125 rfl (Cell.at .hd (U_get (by rw [show 0 + (b : Int).toNat * 1 = b by omega]; exact getD_someU s b (by omega))))) rfl <| A.held 22 [27] rfl (by kernel_rfl) (ld Try.sc125 rfl (Cell.at .hd (U_get (by rw [show 0 + (c : Int).toNat * 1 = c by omega]; exact getD_someU s c (by omega))))) rfl <| A.held 27 [] rfl (by kernel_rfl) (ld Try.sc125 rfl (Cell.at .hd (U_get (by rw [show 0 + (d : Int).toNat * 1 = d by omega]; exact getD_someU s d (by omega))))) rfl <| A.one 28 rfl (by kernel_rfl) <| W.fv Try.ca164 rfl (fun w hm => cha_Quarter (gat s [a, b, c, d]) w) rfl <| A.back <| A.q 29 rfl (by kernel_rfl) (fun _ => (mv rfl)) rfl <| A.q 30 rfl (by kernel_rfl) (fun _ => (ex rfl rfl)) rfl <| A.q 31 rfl (by kernel_rfl) (fun _ => (ex rfl rfl)) rfl <| A.q 32 rfl (by kernel_rfl) (fun _ => (ex rfl rfl)) rfl <| A.q 33 rfl (by kernel_rfl) (fun _ => (ex rfl rfl)) rfl <| A.q 35 rfl (by kernel_rfl) (fun _ => (iaa Try.ear211 rfl rfl (by omega) (by omega))) rfl <| A.one 36 rfl (by kernel_rfl) <| W.st (cs' := U (sets4 s [a, b, c, d] (qn (gat s [a, b, c, d]) 4).l 1)) Try.sz125 rfl rfl rfl rfl rfl .hd (by (rw [U_len]); (try rw [sets4_len]); omega) (setAt_Us _ a _ _ (by (try rw [sets4_len]); omega) (by omega)) <| A.back <| A.q 38 rfl (by kernel_rfl) (fun _ => (iaa Try.ear211 rfl rfl (by omega) (by omega))) rfl <| A.one 39 rfl (by kernel_rfl) <| W.st (cs' := U (sets4 s [a, b, c, d] (qn (gat s [a, b, c, d]) 4).l 2)) Try.sz125 rfl rfl rfl rfl rfl .hd (by (rw [U_len]); (try rw [sets4_len]); omega) (setAt_Us _ b _ _ (by (try rw [sets4_len]); omega) (by omega)) <| A.back <| A.q 41 rfl (by kernel_rfl) (fun _ => (iaa Try.ear211 rfl rfl (by omega) (by omega))) rfl <| A.one 42 rfl (by kernel_rfl) <| W.st (cs' := U (sets4 s [a, b, c, d] (qn (gat s [a, b, c, d]) 4).l 3)) Try.sz125 rfl rfl rfl rfl rfl .hd (by (rw [U_len]); (try rw [sets4_len]); omega) (setAt_Us _ c _ _ (by (try rw [sets4_len]); omega) (by omega)) <| A.back <| A.q 44 rfl (by kernel_rfl) (fun _ => (iaa Try.ear211 rfl rfl (by omega) (by omega))) rfl <| A.one 45 rfl (by kernel_rfl) <| W.st (cs' := U (sets4 s [a, b, c, d] (qn (gat s [a, b, c, d]) 4).l 4)) Try.sz125 rfl rfl rfl rfl rfl .hd (by (rw [U_len]); (try rw [sets4_len]); omega) (setAt_Us _ d _ _ (by (try rw [sets4_len]); omega) (by omega)) <| A.back <| A.nil (by kernel_rfl) <| ret0 hX Try.results136 fun w hm => doneF (Pre' := [nb bk (U (cqr s [a, b, c, d])) T]) rfl rfl hm .rfl

theorem cha_roundx (w0 : World) (H : List It) (bk T : Nat) (s : List UInt32) (a b c d : Nat) {ai bi ci di : Int} (p : List Nat) (hs : s.length = 16) (ha : ai = a) (hb : bi = b) (hc : ci = c) (hd : di = d) (hp : p = [a, b, c, d]) (hl : a < 16 ∧ b < 16 ∧ c < 16 ∧ d < 16) :
    RetF Try.prog 136 [ptr bk 0, i64 ai, i64 bi, i64 ci, i64 di] w0 H [nb bk (U s) T] (fun _ P => P = [nb bk (U (cqr s p)) T]) := by
  subst ha; subst hb; subst hc; subst hd; subst hp
  exact cha_round w0 H bk T s a b c d hs hl.1 hl.2.1 hl.2.2.1 hl.2.2.2
theorem crun_succ (s : List UInt32) (n j : Nat) (h : n % 8 = j) : crun s (n + 1) = cqr (crun s n) (plc j) := by rw [crun, h]
theorem sum_get (s : List UInt32) (i : Nat) (hs : s.length = 16) (hi : i < 16) : (chSum s).getD i 0 = (crun s 80).getD i 0 + s.getD i 0 := by
  have h1 : i < (crun s 80).length := by rw [crun_len]; omega
  have h2 : i < s.length := by omega
  rw [chSum, List.getD_eq_getElem?_getD, List.getD_eq_getElem?_getD, List.getD_eq_getElem?_getD, List.getElem?_zipWith, List.getElem?_eq_getElem h1, List.getElem?_eq_getElem h2]; rfl


set_option maxRecDepth 100000 in
theorem cha_block (ka : Option Addr) (kl kc : Nat) (key : List UInt8) (na : Option Addr) (nl nc : Nat) (nonce : List UInt8) (ctr : UInt32) (w : World) (hkl : kl = key.length) (hk : RdL w ka (B key)) (hk32 : key.length = 32) (hk1 : key.length ≤ kc) (hnl : nl = nonce.length) (hn : RdL w na (B nonce)) (hn12 : nonce.length = 12) (hn1 : nonce.length ≤ nc) :
    Ret Try.prog 114 [.slice ka kl kc, .slice na nl nc, u32 ctr] w (fun v _ => v = .agg (B (chBlock key nonce ctr)).toArray) := by
  refine enter [] (Mem.nil _) Try.func114 rfl Try.ntmps114 rfl (fun X hX => ?_)
  have hw := hX.w0; subst hw
  have hSl : (chSum (chInit key nonce ctr)).length = 16 := chSum_len _ (chInit_len _ _ _)
  have hS16 := chInit_len key nonce ctr
  have hz : B (List.replicate 64 0) = List.replicate 64 (.int .u8 0) := by simp [B]
  have hO : chBlock key nonce ctr = chOut (chSum (chInit key nonce ctr)) := rfl
  generalize hSS : chInit key nonce ctr = S at hSl hS16 hO
  refine G.seq <| G.reg <| W.al Try.zrl184 rfl fun b1 => W.nil <| G.seq <| G.reg <| W.q (mv rfl) rfl <| W.q (mv rfl) rfl <| W.q (mv rfl) rfl <| W.fv Try.ca135 rfl (fun w hm => by have := cha_state ka kl kc key na nl nc nonce ctr w hkl (hm.rd rfl hk) hk32 hk1 hnl (hm.rd rfl hn) hn12 hn1; rwa [hSS] at this) rfl <| W.al Try.zrl211 rfl fun b2 => W.sta Try.sz211 rfl rfl (by simp [crun_len, hS16]) (U_one _) .hd (by simp [crun_len, hS16]) <| W.nil <| G.seq <| G.reg <| W.q (lda Try.agg211 Try.sz211 rfl (Cells.whole .hd) (by simp [crun_len, hS16])) rfl <| W.al Try.zrl211 rfl fun b3 => W.sta Try.sz211 rfl rfl (by simp [crun_len, hS16]) (U_one _) .hd (by simp [crun_len, hS16]) <| W.nil <| G.seq <| G.seq <| G.reg <| W.q (mv rfl) rfl <| W.nil <| G.blk <| G.loop1 (α := Nat) (fun r => r ≤ 10) (fun r => [(19, i64 r)]) (fun r => [nb b3 (U (crun S (8 * r))) 211]) (fun r => 10 - r) [(6, _), (7, _), (8, _)] _ 0 (by omega) (Sub.cons rfl <| Sub.cons rfl <| Sub.cons rfl <| Sub.cons rfl <| Sub.nil _) .rfl (fun r hr ih => ?_)
  refine G.seq <| G.reg <| W.q (lt rfl rfl) rfl <| W.nil <| G.seq <| G.cdd rfl (fun h1 => ?_) (fun h1 => ?_)
  · -- h1 True
    refine G.skip <| G.seq <| G.blk <| G.seq <| G.seq <| G.reg <| W.q (mv rfl) rfl <| W.nil <| G.blk <| G.loop1 (α := Nat) (fun i => i ≤ 4) (fun i => [(21, i64 i)]) (fun i => [nb b3 (U (crun S (8 * r + i))) 211]) (fun i => 4 - i) [(6, _), (7, _), (8, _), (19, _)] _ 0 (by omega) (Sub.cons rfl <| Sub.cons rfl <| Sub.cons rfl <| Sub.cons rfl <| Sub.cons rfl <| Sub.nil _) .rfl (fun i hi ih2 => ?_)
    refine G.seq <| G.reg <| W.q (lt rfl rfl) rfl <| W.nil <| G.seq <| G.cdd rfl (fun h2 => ?_) (fun h2 => ?_)
    · -- h2 True
      refine G.skip <| G.seq <| G.blk <| G.seq <| G.reg <| W.q (mv rfl) rfl <| W.q (sa rfl) rfl <| W.nil <| G.reg <| W.q (mv rfl) rfl <| W.q (mv rfl) rfl <| W.q (ad rfl rfl (by omega)) rfl <| W.q (mv rfl) rfl <| W.q (ad rfl rfl (by omega)) rfl <| W.q (mv rfl) rfl <| W.q (ad rfl rfl (by omega)) rfl <| W.ff Try.ca136 rfl (Ent.perm (.refl _)) (cha_roundx X.w0 _ b3 211 (crun S (8 * r + i)) i (4 + i) (8 + i) (12 + i) (plc i) (by rw [crun_len, hS16]) rfl (by omega) (by omega) (by omega) (plc_lo i (by omega)) ⟨by omega, by omega, by omega, by omega⟩) rfl rfl fun v J hv hJ => ?_
      subst hv
      rw [← crun_succ S (8 * r + i) i (by omega)]
      refine W.nil <| G.inb <| G.reg <| W.q (ad rfl rfl (by omega)) rfl <| W.q (mv rfl) rfl <| W.nil <| (ih2 (i + 1) (by omega) (by omega)).weak (Sub.cons rfl <| Sub.cons rfl <| Sub.cons rfl <| Sub.cons rfl <| Sub.cons rfl <| Sub.nil _) .rfl
    · -- h2 False
      refine G.exit rfl <| G.seq <| G.reg <| W.q (mv rfl) rfl <| W.nil <| G.blk <| G.loop1 (α := Nat) (fun i => i ≤ 4) (fun i => [(33, i64 i)]) (fun i => [nb b3 (U (crun S (8 * r + 4 + i))) 211]) (fun i => 4 - i) [(6, _), (7, _), (8, _), (19, _)] _ 0 (by omega) (Sub.cons rfl <| Sub.cons rfl <| Sub.cons rfl <| Sub.cons rfl <| Sub.cons rfl <| Sub.nil _) (Ent.eq (by rw [show 8 * r + 4 + 0 = 8 * r + i by omega])) (fun i hi ih3 => ?_)
      refine G.seq <| G.reg <| W.q (lt rfl rfl) rfl <| W.nil <| G.seq <| G.cdd rfl (fun h3 => ?_) (fun h3 => ?_)
      · -- h3 True
        refine G.skip <| G.seq <| G.blk <| G.seq <| G.reg <| W.q (mv rfl) rfl <| W.q (sa rfl) rfl <| W.nil <| G.reg <| W.q (mv rfl) rfl <| W.q (mv rfl) rfl <| W.q (ad rfl rfl (by omega)) rfl <| W.q (rm rfl rfl (by omega) (by omega)) rfl <| W.q (ad rfl rfl (by omega)) rfl <| W.q (mv rfl) rfl <| W.q (ad rfl rfl (by omega)) rfl <| W.q (rm rfl rfl (by omega) (by omega)) rfl <| W.q (ad rfl rfl (by omega)) rfl <| W.q (mv rfl) rfl <| W.q (ad rfl rfl (by omega)) rfl <| W.q (rm rfl rfl (by omega) (by omega)) rfl <| W.q (ad rfl rfl (by omega)) rfl <| W.ff Try.ca136 rfl (Ent.perm (.refl _)) (cha_roundx X.w0 _ b3 211 (crun S (8 * r + 4 + i)) i (4 + (i + 1) % 4) (8 + (i + 2) % 4) (12 + (i + 3) % 4) (plc (4 + i)) (by rw [crun_len, hS16]) rfl (by omega) (by omega) (by omega) (plc_hi i) ⟨by omega, by omega, by omega, by omega⟩) rfl rfl fun v J hv hJ => ?_
        subst hv
        rw [← crun_succ S (8 * r + 4 + i) (4 + i) (by omega)]
        refine W.nil <| G.inb <| G.reg <| W.q (ad rfl rfl (by omega)) rfl <| W.q (mv rfl) rfl <| W.nil <| (ih3 (i + 1) (by omega) (by omega)).weak (Sub.cons rfl <| Sub.cons rfl <| Sub.cons rfl <| Sub.cons rfl <| Sub.cons rfl <| Sub.nil _) .rfl
      · -- h3 False
        refine G.exit rfl <| G.inb <| G.reg <| W.q (ad rfl rfl (by omega)) rfl <| W.q (mv rfl) rfl <| W.nil <| (ih (r + 1) (by omega) (by omega)).weak (Sub.cons rfl <| Sub.cons rfl <| Sub.cons rfl <| Sub.cons rfl <| Sub.nil _) (Ent.eq (by rw [show 8 * (r + 1) = 8 * r + 4 + i by omega]))
  · -- h1 False
    refine G.exit rfl <| G.seq <| G.reg <| W.al Try.zrl184 rfl fun b4 => W.nil <| G.seq <| G.seq <| G.reg <| W.q (mv rfl) rfl <| W.nil <| G.blk <| G.loop1 (α := Nat) (fun i => i ≤ 16) (fun i => [(52, i64 i)]) (fun i => [nb b4 (B ((chOut (chSum S)).take (4 * i) ++ List.replicate (64 - 4 * i) 0)) 184]) (fun i => 16 - i) [(6, _), (7, _), (8, _), (11, _)] _ 0 (by omega) (Sub.cons rfl <| Sub.cons rfl <| Sub.cons rfl <| Sub.cons rfl <| Sub.cons rfl <| Sub.nil _) (Ent.eq (by rw [show (chOut (chSum S)).take (4 * 0) ++ List.replicate (64 - 4 * 0) 0 = List.replicate 64 (0 : UInt8) from rfl, hz]; rfl)) (fun i hi ih4 => ?_)
    refine G.seq <| G.reg <| W.q (lt rfl rfl) rfl <| W.nil <| G.seq <| G.cdd rfl (fun h4 => ?_) (fun h4 => ?_)
    · -- h4 True
      have hg1 : (U (crun S (8 * r)))[0 + (i : Int).toNat * 1]? = some (u32 ((crun S 80).getD i 0)) := by
        rw [show 8 * r = 80 by omega, show 0 + (i : Int).toNat * 1 = i by omega]; exact U_getD _ _ (by rw [crun_len]; omega)
      have hg2 : (U S)[0 + (i : Int).toNat * 1]? = some (u32 (S.getD i 0)) := by
        rw [show 0 + (i : Int).toNat * 1 = i by omega]; exact U_getD _ _ (by omega)
      refine G.skip <| G.seq <| G.blk <| G.seq <| G.reg <| W.q (mv rfl) rfl <| W.q (sa rfl) rfl <| W.nil <| G.seq <| G.regq Try.mixed (by kernel_rfl) <| W.q (mv rfl) rfl <| W.q (iaa Try.ear211 rfl rfl (by omega) (by omega)) rfl <| W.q (ld Try.sc125 rfl (Cell.at (.tl <| .hd) hg1)) rfl <| W.q (mv rfl) rfl <| W.q (iaa Try.ear211 rfl rfl (by omega) (by omega)) rfl <| W.q (ld Try.sc125 rfl (Cell.at (.tl <| .tl <| .hd) hg2)) rfl <| W.q (add_u32 rfl rfl) rfl <| W.q (sa rfl) rfl <| W.nilq <| G.reg <| W.q (mv rfl) rfl <| W.q (ml rfl rfl (by omega)) rfl <| W.q (mv rfl) rfl <| W.q (ml rfl rfl (by omega)) rfl <| W.q (ad rfl rfl (by omega)) rfl <| W.q (mv rfl) rfl <| W.q (ml rfl rfl (by omega)) rfl <| W.q (ad rfl rfl (by omega)) rfl <| W.q (mv rfl) rfl <| W.q (ml rfl rfl (by omega)) rfl <| W.q (ad rfl rfl (by omega)) rfl <| W.q (mv rfl) rfl <| W.q (cv_u32_u8 Try.underlying125 Try.underlying5 rfl) rfl <| W.q (mv rfl) rfl <| W.q (shr_u32 rfl rfl (by omega)) rfl <| W.q (cv_u32_u8 Try.underlying125 Try.underlying5 rfl) rfl <| W.q (mv rfl) rfl <| W.q (shr_u32 rfl rfl (by omega)) rfl <| W.q (cv_u32_u8 Try.underlying125 Try.underlying5 rfl) rfl <| W.q (mv rfl) rfl <| W.q (shr_u32 rfl rfl (by omega)) rfl <| W.q (cv_u32_u8 Try.underlying125 Try.underlying5 rfl) rfl <| W.q (iaa Try.ear184 rfl rfl (by omega) (by omega)) rfl <| W.st (cs' := B ((chOut (chSum S)).take (4 * i + 1) ++ List.replicate (64 - (4 * i + 1)) 0)) Try.sz5 rfl rfl rfl rfl rfl .hd (by simp [chOut_len, hSl]; omega) (by have h := out_set (chOut (chSum S)) 64 (4 * i + 0) (0 + (4 * (i : Int)).toNat * 1) _ (by rw [chOut_len, hSl]) (chOut_get _ i 0 (by omega) (by omega)) (by omega); rw [← byte32_0, sum_get S i hS16 (by omega)] at h; exact h) <| W.q (iaa Try.ear184 rfl rfl (by omega) (by omega)) rfl <| W.st (cs' := B ((chOut (chSum S)).take (4 * i + 2) ++ List.replicate (64 - (4 * i + 2)) 0)) Try.sz5 rfl rfl rfl rfl rfl .hd (by simp [chOut_len, hSl]; omega) (by have h := out_set (chOut (chSum S)) 64 (4 * i + 1) (0 + (4 * (i : Int) + 1).toNat * 1) _ (by rw [chOut_len, hSl]) (chOut_get _ i 1 (by omega) (by omega)) (by omega); rw [← shr_byte32 _ 1 (by decide), sum_get S i hS16 (by omega)] at h; exact h) <| W.q (iaa Try.ear184 rfl rfl (by omega) (by omega)) rfl <| W.st (cs' := B ((chOut (chSum S)).take (4 * i + 3) ++ List.replicate (64 - (4 * i + 3)) 0)) Try.sz5 rfl rfl rfl rfl rfl .hd (by simp [chOut_len, hSl]; omega) (by have h := out_set (chOut (chSum S)) 64 (4 * i + 2) (0 + (4 * (i : Int) + 2).toNat * 1) _ (by rw [chOut_len, hSl]) (chOut_get _ i 2 (by omega) (by omega)) (by omega); rw [← shr_byte32 _ 2 (by decide), sum_get S i hS16 (by omega)] at h; exact h) <| W.q (iaa Try.ear184 rfl rfl (by omega) (by omega)) rfl <| W.st (cs' := B ((chOut (chSum S)).take (4 * i + 4) ++ List.replicate (64 - (4 * i + 4)) 0)) Try.sz5 rfl rfl rfl rfl rfl .hd (by simp [chOut_len, hSl]; omega) (by have h := out_set (chOut (chSum S)) 64 (4 * i + 3) (0 + (4 * (i : Int) + 3).toNat * 1) _ (by rw [chOut_len, hSl]) (chOut_get _ i 3 (by omega) (by omega)) (by omega); rw [← shr_byte32 _ 3 (by decide), sum_get S i hS16 (by omega)] at h; exact h) <| W.nil <| G.inb <| G.reg <| W.q (ad rfl rfl (by omega)) rfl <| W.q (mv rfl) rfl <| W.nil <| (ih4 (i + 1) (by omega) (by omega)).weak (Sub.cons rfl <| Sub.cons rfl <| Sub.cons rfl <| Sub.cons rfl <| Sub.cons rfl <| Sub.nil _) (Ent.eq (by rw [show 4 * (i + 1) = 4 * i + 4 by omega]; rfl))
    · -- h4 False
      have hi16 : i = 16 := by omega
      subst hi16
      rw [show (chOut (chSum S)).take (4 * 16) ++ List.replicate (64 - 4 * 16) 0 = chBlock key nonce ctr by rw [List.take_of_length_le (by rw [chOut_len, hSl]; omega), hO]; simp]
      refine G.exit rfl <| G.seq <| G.reg <| W.q (lda Try.agg184 Try.sz184 rfl (Cells.whole .hd) (by simp [chBlock_len])) rfl <| W.sta Try.sz184 rfl rfl (by simp [chBlock_len]) (B_one _) (.tl <| .tl <| .tl <| .hd) (by simp [crun_len, hS16]) <| W.nil <| ret hX Try.results114 (RA.cella rfl Try.agg184 Try.sz184 (Cells.whole (.tl <| .tl <| .tl <| .hd)) (by simp [chBlock_len]) <| RA.nil) fun w hm => done (H := []) rfl ?_ (Dr.ent (Dr.new rfl) w hm)
      rfl
end Go.Proofs.Ytjalojbihpdghaa
