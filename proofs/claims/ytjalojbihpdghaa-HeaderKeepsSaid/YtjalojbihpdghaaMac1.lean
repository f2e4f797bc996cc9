/- HMAC and HKDF, the program's. -/
import Derived.Test.YtjalojbihpdghaaSha3
namespace Go.Proofs.Ytjalojbihpdghaa
open Go Go.Eng
set_option linter.unusedVariables false

/-- A key as a block, each byte turned. -/
def hmPad (key : List UInt8) (t : UInt8) : List UInt8 := ((if 64 < key.length then sha256 key else key) ++ List.replicate (64 - (if 64 < key.length then sha256 key else key).length) 0).map (· ^^^ t)
theorem hmPad_len (key : List UInt8) (t : UInt8) : (hmPad key t).length = 64 := by
  unfold hmPad
  split
  · simp [sha256_len]
  · simp; omega
def hmac (key msg : List UInt8) : List UInt8 := sha256 (hmPad key 0x5c ++ sha256 (hmPad key 0x36 ++ msg))
theorem hmac_len (key msg : List UInt8) : (hmac key msg).length = 32 := sha256_len _
def saltB : List UInt8 := [115, 104, 97, 108, 108, 111, 116]
def hkdf (secret label : List UInt8) : List UInt8 := hmac (hmac saltB secret) (label ++ [1])
theorem hkdf_len (secret label : List UInt8) : (hkdf secret label).length = 32 := sha256_len _
theorem Rps.nil {w : World} : Rps w [] [] := fun p hp => by cases hp
theorem Rps.cons {w : World} {a : Option Addr} {cap : Nat} {bs : List UInt8} {ps : List Pc} (h : RdL w a (B bs)) (hc : bs.length ≤ cap) (hs : Rps w [] ps) : Rps w [] ((a, cap, bs) :: ps) := fun p hp => by
  rcases List.mem_cons.1 hp with rfl | hp
  · exact ⟨Rdf.old rfl h, hc⟩
  · exact hs p hp
theorem Rps.up {w0 w : World} {H : List It} {ps : List Pc} (h : Rps w0 [] ps) (hm : Mem w0 w H) (hn : allNew H = true) : Rps w [] ps := fun p hp =>
  ⟨Rdf.old rfl (hm.rd hn ((h p hp).1.at (Mem.nil _))), (h p hp).2⟩
/-- In a frame above. -/
theorem Rps.fr {w0 : World} {H : List It} {ps : List Pc} (h : Rps w0 [] ps) (hn : allNew H = true) : Rps w0 H ps := fun p hp => ⟨Rdf.old hn ((h p hp).1.at (Mem.nil _)), (h p hp).2⟩
theorem Rps.isBs {w : World} {ps : List Pc} (h : Rps w [] ps) : IsBs w (ps.map pcV) (ps.map (fun p => p.2.2)) := by
  induction ps with
  | nil => exact .nil
  | cons p ps ih => exact .cons (.of ((h p (by simp)).1.at (Mem.nil _)) rfl (h p (by simp)).2) (ih fun q hq => h q (by simp [hq]))
theorem rd1 {w : World} {pa a1 : Option Addr} {l1 c1 : Nat} {x1 : List UInt8} (h : RdL w pa [.slice a1 l1 c1]) (e1 : l1 = x1.length) : RdL w pa (List.map pcV [(a1, c1, x1)]) := by subst e1; exact h
theorem rd2 {w : World} {pa a1 a2 : Option Addr} {l1 c1 l2 c2 : Nat} {x1 x2 : List UInt8} (h : RdL w pa [.slice a1 l1 c1, .slice a2 l2 c2]) (e1 : l1 = x1.length) (e2 : l2 = x2.length) : RdL w pa (List.map pcV [(a1, c1, x1), (a2, c2, x2)]) := by subst e1; subst e2; exact h
theorem rd3 {w : World} {pa a1 a2 a3 : Option Addr} {l1 c1 l2 c2 l3 c3 : Nat} {x1 x2 x3 : List UInt8} (h : RdL w pa [.slice a1 l1 c1, .slice a2 l2 c2, .slice a3 l3 c3]) (e1 : l1 = x1.length) (e2 : l2 = x2.length) (e3 : l3 = x3.length) : RdL w pa (List.map pcV [(a1, c1, x1), (a2, c2, x2), (a3, c3, x3)]) := by subst e1; subst e2; subst e3; exact h
theorem rdf1 {w0 : World} {H : List It} {pa a1 : Option Addr} {l1 c1 : Nat} {x1 : List UInt8} (h : Rdf w0 H pa [.slice a1 l1 c1]) (e1 : l1 = x1.length) : Rdf w0 H pa (List.map pcV [(a1, c1, x1)]) := by subst e1; exact h
/-- Each byte up to k turned. -/
theorem xor_set (l : List UInt8) (t : UInt8) (k o : Nat) (x : UInt8) (hx : l[k]? = some x) (ho : o = k) : setAt (B ((l.take k).map (· ^^^ t) ++ l.drop k)) o [u8 (x ^^^ t)] = B ((l.take (k + 1)).map (· ^^^ t) ++ l.drop (k + 1)) := by
  subst ho
  obtain ⟨hk, he⟩ := List.getElem?_eq_some_iff.1 hx
  have := setAt_mid (B ((l.take o).map (· ^^^ t))) (B (l.drop o)) [u8 (x ^^^ t)] (by simp; omega)
  rw [Bl, List.length_map, List.length_take, Nat.min_eq_left (by omega)] at this
  rw [show B ((l.take o).map (· ^^^ t) ++ l.drop o) = B ((l.take o).map (· ^^^ t)) ++ B (l.drop o) from List.map_append, this, take_succ' hx, List.drop_eq_getElem_cons hk]
  simp [B]
theorem xor_get (l : List UInt8) (t : UInt8) (k o : Nat) (x : UInt8) (hx : l[k]? = some x) (ho : o = k) : (B ((l.take k).map (· ^^^ t) ++ l.drop k))[o]? = some (u8 x) := by
  subst ho
  have hk := (List.getElem?_eq_some_iff.1 hx).1
  refine B_get ?_
  rw [List.getElem?_append_right (by simp; omega)]
  simp only [List.length_map, List.length_take, List.getElem?_drop]
  rw [show o + (o - min o l.length) = o by omega]; exact hx


set_option maxRecDepth 100000 in
theorem mac_padded (a : Option Addr) (len cap : Nat) (key : List UInt8) (t : UInt8) (w : World) (hlen : len = key.length) (hl : RdL w a (B key)) (hb : key.length ≤ 140737488300000) (hcap : key.length ≤ cap) :
    Ret Try.prog 175 [.slice a len cap, u8 t] w (NewB (hmPad key t)) := by
  subst hlen
  refine enter [] (Mem.nil _) Try.func175 rfl Try.ntmps175 rfl (fun X hX => ?_)
  have hw := hX.w0; subst hw
  refine G.seq <| G.reg <| W.q (sa rfl) rfl <| W.nil <| G.seq <| G.seq <| G.reg <| W.q (mv rfl) rfl <| W.q (ln Try.esl22 rfl) rfl <| W.q (gt rfl rfl) rfl <| W.nil <| G.cdd rfl (fun h1 => ?_) (fun h1 => ?_)
  · -- h1 True
    have hL : hmPad key t = (sha256 key ++ List.replicate (64 - (sha256 key).length) 0).map (· ^^^ t) := by rw [hmPad, if_pos (by omega)]
    have hp : padR (sha256 key) 64 = (sha256 key ++ List.replicate (64 - (sha256 key).length) 0, 0) := by rw [padR, if_neg (by omega), if_neg (by rw [sha256_len]; omega)]; rfl
    have hLl : (sha256 key ++ List.replicate (64 - (sha256 key).length) (0 : UInt8)).length = 64 := by simp [sha256_len]
    generalize sha256 key ++ List.replicate (64 - (sha256 key).length) (0 : UInt8) = L at hL hp hLl
    refine G.seq <| G.reg <| W.q (mv rfl) rfl <| W.bs (cs := [_]) Try.underlying73 Try.sz22 Try.zrl22 rfl rfl rfl rfl fun b1 => W.fv Try.ca156 rfl (fun w hm => sha_Sum (some ⟨b1, 0, none⟩) 1 1 [(a, cap, key)] w rfl (rd1 (hm.rowRd .hd) rfl) (.cons (hm.rd rfl hl) hcap .nil) (by simp) (by simpa [catP] using hb)) rfl <| W.al Try.zrl24 rfl fun b2 => W.sta Try.sz24 rfl rfl (by simp [sha256_len]) (B_one _) .hd (by simp) <| W.nil <| G.reg <| W.q (saa Try.ear24 rfl ) rfl <| W.q (sa rfl) rfl <| W.nil <| G.seq <| G.reg <| W.q (mv rfl) rfl <| W.fn Try.ca60 rfl (fun w hm => codec_Pad (some ⟨b2, 0, none⟩) 32 32 (sha256 key) w (sha256_len _).symm (by have := hm.rowRd .hd; simpa [catP] using this) (by rw [sha256_len]; omega) 64) rfl fun v J hv hJ => ?_
    rw [hp] at hv
    obtain ⟨v1, ⟨a3, c3, rfl, rfl⟩, rfl⟩ := hv
    rw [hLl]
    refine W.slAt (a := a3) (m := 64) (cap := c3) (E := 5) (s := 1) (xs := B L) (.head _) (fun q1 q2 q3 q4 => ?_)
    obtain ⟨g, rfl⟩ : ∃ g, a3 = some ⟨g, 0, none⟩ := by rcases q4 with ⟨_, _, h⟩ | h; cases h; exact h
    refine W.q (mv rfl) rfl <| W.q (ex rfl rfl) rfl <| W.q (ex rfl rfl) rfl <| W.q (sa rfl) rfl <| W.q (sa rfl) rfl <| W.nil <| G.seq <| G.seq <| G.reg <| W.q (mv rfl) rfl <| W.q (ln Try.esl22 rfl) rfl <| W.q (mv rfl) rfl <| W.nil <| G.blk <| G.loop1 (α := Nat) (fun k => k ≤ 64) (fun k => [(23, i64 k)]) (fun k => [sl (some ⟨g, 0, none⟩) 64 c3 5 1 (B ((L.take k).map (· ^^^ t) ++ L.drop k))]) (fun k => 64 - k) [(1, _), (6, _), (22, _)] _ 0 (by omega) (Sub.cons rfl <| Sub.cons rfl <| Sub.cons rfl <| Sub.cons rfl <| Sub.nil _) .rfl (fun k hk ih => ?_)
    refine G.seq <| G.reg <| W.q (lt rfl rfl) rfl <| W.nil <| G.seq <| G.cdd rfl (fun h2 => ?_) (fun h2 => ?_)
    · -- h2 True
      obtain ⟨x, hx⟩ : ∃ x, L[k]? = some x := ⟨_, List.getElem?_eq_getElem (by omega)⟩
      have hst := xor_set L t k (0 + (k : Int).toNat * 1) x hx (by omega)
      have hgt := xor_get L t k ((k : Int).toNat * 1) x hx (by omega)
      refine G.skip <| G.seq <| G.blk <| G.seq <| G.reg <| W.q (mv rfl) rfl <| W.q (sa rfl) rfl <| W.nil <| G.reg <| W.q (mv rfl) rfl <| W.q (mv rfl) rfl <| W.q (ia Try.esl22 rfl rfl (by omega) (by omega)) rfl <| W.q (ld Try.sc5 rfl ((Rdf.sl (m := 64) (cap := c3) (E := 5) (s := 1) (.head _)).cellOf hgt)) rfl <| W.q (mv rfl) rfl <| W.q (xor_u8 rfl rfl) rfl <| W.q (ia Try.esl22 rfl rfl (by omega) (by omega)) rfl <| W.stS (xs' := B ((L.take (k + 1)).map (· ^^^ t) ++ L.drop (k + 1))) Try.sz5 rfl rfl rfl rfl rfl .hd (by omega) hst <| W.nil <| G.inb <| G.reg <| W.q (ad rfl rfl (by omega)) rfl <| W.q (mv rfl) rfl <| W.nil <| (ih (k + 1) (by omega) (by omega)).weak (Sub.cons rfl <| Sub.cons rfl <| Sub.cons rfl <| Sub.cons rfl <| Sub.nil _) .rfl
    · -- h2 False
      have hk64 : k = 64 := by omega
      subst hk64
      refine G.exit rfl <| G.seq <| G.reg <| W.q (mv rfl) rfl <| W.q (sa rfl) rfl <| W.nil <| ret1 hX Try.results175 rfl fun w hm => done (H := [sl (some ⟨g, 0, none⟩) (hmPad key t).length c3 5 1 (B (hmPad key t))]) rfl ⟨some ⟨g, 0, none⟩, c3, by rw [hmPad_len], rfl⟩ (by have := Dr.ent (.keep <| .drop rfl <| .drop rfl <| .rfl) w hm; rw [hmPad_len, hL]; rw [List.take_of_length_le (by omega), List.drop_eq_nil_of_le (by omega), List.append_nil] at this; exact this)
  · -- h1 False
    have hL : hmPad key t = (key ++ List.replicate (64 - key.length) 0).map (· ^^^ t) := by rw [hmPad, if_neg (by omega)]
    have hp : padR key 64 = (key ++ List.replicate (64 - key.length) 0, 0) := by rw [padR, if_neg (by omega), if_neg (by omega)]; rfl
    have hLl : (key ++ List.replicate (64 - key.length) (0 : UInt8)).length = 64 := by simp; omega
    generalize key ++ List.replicate (64 - key.length) (0 : UInt8) = L at hL hp hLl
    refine G.skip <| G.seq <| G.reg <| W.q (mv rfl) rfl <| W.fn Try.ca60 rfl (fun w hm => codec_Pad a key.length cap key w rfl (hm.rd rfl hl) (by omega) 64) rfl fun v J hv hJ => ?_
    rw [hp] at hv
    obtain ⟨v1, ⟨a3, c3, rfl, rfl⟩, rfl⟩ := hv
    rw [hLl]
    refine W.slAt (a := a3) (m := 64) (cap := c3) (E := 5) (s := 1) (xs := B L) (.head _) (fun q1 q2 q3 q4 => ?_)
    obtain ⟨g, rfl⟩ : ∃ g, a3 = some ⟨g, 0, none⟩ := by rcases q4 with ⟨_, _, h⟩ | h; cases h; exact h
    refine W.q (mv rfl) rfl <| W.q (ex rfl rfl) rfl <| W.q (ex rfl rfl) rfl <| W.q (sa rfl) rfl <| W.q (sa rfl) rfl <| W.nil <| G.seq <| G.seq <| G.reg <| W.q (mv rfl) rfl <| W.q (ln Try.esl22 rfl) rfl <| W.q (mv rfl) rfl <| W.nil <| G.blk <| G.loop1 (α := Nat) (fun k => k ≤ 64) (fun k => [(23, i64 k)]) (fun k => [sl (some ⟨g, 0, none⟩) 64 c3 5 1 (B ((L.take k).map (· ^^^ t) ++ L.drop k))]) (fun k => 64 - k) [(1, _), (6, _), (22, _)] _ 0 (by omega) (Sub.cons rfl <| Sub.cons rfl <| Sub.cons rfl <| Sub.cons rfl <| Sub.nil _) .rfl (fun k hk ih2 => ?_)
    refine G.seq <| G.reg <| W.q (lt rfl rfl) rfl <| W.nil <| G.seq <| G.cdd rfl (fun h3 => ?_) (fun h3 => ?_)
    · -- h3 True
      obtain ⟨x, hx⟩ : ∃ x, L[k]? = some x := ⟨_, List.getElem?_eq_getElem (by omega)⟩
      have hst := xor_set L t k (0 + (k : Int).toNat * 1) x hx (by omega)
      have hgt := xor_get L t k ((k : Int).toNat * 1) x hx (by omega)
      refine G.skip <| G.seq <| G.blk <| G.seq <| G.reg <| W.q (mv rfl) rfl <| W.q (sa rfl) rfl <| W.nil <| G.reg <| W.q (mv rfl) rfl <| W.q (mv rfl) rfl <| W.q (ia Try.esl22 rfl rfl (by omega) (by omega)) rfl <| W.q (ld Try.sc5 rfl ((Rdf.sl (m := 64) (cap := c3) (E := 5) (s := 1) (.head _)).cellOf hgt)) rfl <| W.q (mv rfl) rfl <| W.q (xor_u8 rfl rfl) rfl <| W.q (ia Try.esl22 rfl rfl (by omega) (by omega)) rfl <| W.stS (xs' := B ((L.take (k + 1)).map (· ^^^ t) ++ L.drop (k + 1))) Try.sz5 rfl rfl rfl rfl rfl .hd (by omega) hst <| W.nil <| G.inb <| G.reg <| W.q (ad rfl rfl (by omega)) rfl <| W.q (mv rfl) rfl <| W.nil <| (ih2 (k + 1) (by omega) (by omega)).weak (Sub.cons rfl <| Sub.cons rfl <| Sub.cons rfl <| Sub.cons rfl <| Sub.nil _) .rfl
    · -- h3 False
      have hk64 : k = 64 := by omega
      subst hk64
      refine G.exit rfl <| G.seq <| G.reg <| W.q (mv rfl) rfl <| W.q (sa rfl) rfl <| W.nil <| ret1 hX Try.results175 rfl fun w hm => done (H := [sl (some ⟨g, 0, none⟩) (hmPad key t).length c3 5 1 (B (hmPad key t))]) rfl ⟨some ⟨g, 0, none⟩, c3, by rw [hmPad_len], rfl⟩ (by have := Dr.ent (.keep <| .rfl) w hm; rw [hmPad_len, hL]; rw [List.take_of_length_le (by omega), List.drop_eq_nil_of_le (by omega), List.append_nil] at this; exact this)

/-- A tagger: the hash of the inner block and what was written, and the outer block. -/
def tagI (b : Nat) (key m : List UInt8) (a : Option Addr) (cap : Nat) (oa : Option Addr) (oc : Nat) : List It := hashI b 242 [.slice oa 64 oc] (hmPad key 0x36 ++ m) a cap ++ [sl oa 64 oc 5 1 (B (hmPad key 0x5c))]


set_option maxRecDepth 100000 in
theorem mac_NewTagger (a : Option Addr) (len cap : Nat) (key : List UInt8) (w : World) (hlen : len = key.length) (hl : RdL w a (B key)) (hb : key.length ≤ 140737488300000) (hcap : key.length ≤ cap) :
    Ret Try.prog 153 [.slice a len cap] w (fun v J => ∃ b a' c' oa oc, v = ptr b 0 ∧ J = tagI b key [] a' c' oa oc ∧ 64 ≤ oc) := by
  subst hlen
  refine enter [] (Mem.nil _) Try.func153 rfl Try.ntmps153 rfl (fun X hX => ?_)
  have hw := hX.w0; subst hw
  refine G.seq <| G.reg <| W.q (sa rfl) rfl <| W.nil <| G.seq <| G.reg <| W.q (mv rfl) rfl <| W.fn Try.ca175 rfl (fun w hm => mac_padded a _ cap key 0x5c w rfl (hm.rd rfl hl) hb hcap) rfl fun v J hv hJ => ?_
  obtain ⟨oa, oc, rfl, rfl⟩ := hv
  rw [hmPad_len]
  refine W.slAt (a := oa) (m := 64) (cap := oc) (E := 5) (s := 1) (xs := B (hmPad key 0x5c)) (.head _) (fun q1 q2 q3 q4 => ?_)
  refine W.q (bld (cs := hsC shaZ none 0 0 0 [.slice oa 64 oc]) Try.stp242 rfl rfl) rfl <| W.bxa rfl rfl fun b1 => W.q (sa rfl) rfl <| W.nil <| G.seq <| G.rega 7 rfl Try.mixed <| A.q 0 rfl (by kernel_rfl) (fun _ => (mv rfl)) rfl <| A.q 1 rfl (by kernel_rfl) (fun _ => (ncp rfl)) rfl <| A.q 2 rfl (by kernel_rfl) (fun _ => (fa Try.fof242_0 rfl)) rfl <| A.q 3 rfl (by kernel_rfl) (fun _ => (mv rfl)) rfl <| A.one 4 rfl (by kernel_rfl) <| W.fn Try.ca175 rfl (fun w hm => mac_padded a _ cap key 0x36 w rfl (hm.rd rfl hl) hb hcap) rfl fun v J hv hJ => ?_
  obtain ⟨ia, ic, rfl, rfl⟩ := hv
  rw [hmPad_len]
  refine W.slAt (a := ia) (m := 64) (cap := ic) (E := 5) (s := 1) (xs := B (hmPad key 0x36)) (.head _) (fun p1 p2 p3 p4 => ?_)
  refine A.back <| A.one 5 rfl (by kernel_rfl) <| W.bs (cs := [_]) Try.underlying73 Try.sz22 Try.zrl22 rfl rfl rfl rfl fun b2 => A.back <| A.one 6 rfl (by kernel_rfl) <| ?_
  refine W.ent (Ent.svNil 5 1) ?_
  refine W.ff Try.ca154 rfl (Ent.perm (.trans (.refl _) (.trans (.cons _ (.trans (.cons _ (.trans (.cons _ (.refl _)) (.swap _ _ _))) (.swap _ _ _))) (.swap _ _ _)))) (hash_Write X.w0 _ b1 242 [.slice oa 64 oc] [] none 0 (some ⟨b2, 0, none⟩) 1 1 [(ia, ic, hmPad key 0x36)] (by simp) (rdf1 (Rdf.row (cs := [.slice ia 64 ic]) .hd) (hmPad_len _ _).symm) (by intro p hp; obtain rfl := List.mem_singleton.1 hp; exact ⟨Rdf.sl (m := 64) (cap := ic) (E := 5) (s := 1) (.tail _ <| .head _), by rw [hmPad_len]; exact p2⟩) (by simp) (by simp [catP, hmPad_len])) rfl rfl fun v J hv hJ => ?_
  obtain ⟨rfl, a4, c4, rfl⟩ := hv
  unfold hashI
  refine A.back <| A.nil (by kernel_rfl) <| G.seq <| G.reg <| W.q (mv rfl) rfl <| W.q (sa rfl) rfl <| W.nil <| ret1 hX Try.results153 rfl fun w hm => done (H := tagI b1 key [] a4 c4 oa oc) rfl ⟨b1, a4, c4, oa, oc, rfl, rfl, q2⟩ (by have := Dr.ent (.keep <| .keep <| .drop rfl <| .drop rfl <| .keep <| .rfl) w hm; rw [show [] ++ catP [(ia, ic, hmPad key 54)] = hmPad key 0x36 ++ [] by simp [catP]] at this; exact this)


set_option maxRecDepth 100000 in
theorem mac_tagger (a : Option Addr) (len cap : Nat) (key : List UInt8) (pa : Option Addr) (pl pc : Nat) (ps : List Pc) (w : World) (hlen : len = key.length) (hl : RdL w a (B key)) (hb : key.length ≤ 140737488300000) (hcap : key.length ≤ cap) (hpl : pl = ps.length) (hpa : RdL w pa (ps.map pcV)) (hp : Rps w [] ps) (hn : ps.length ≤ 140737488351232) (hm64 : (catP ps).length ≤ 140737488200000) :
    Ret Try.prog 125 [.slice a len cap, .slice pa pl pc] w (fun v J => ∃ b a' c' oa oc, v = ptr b 0 ∧ J = tagI b key (catP ps) a' c' oa oc ∧ 64 ≤ oc) := by
  refine enter [] (Mem.nil _) Try.func125 rfl Try.ntmps125 rfl (fun X hX => ?_)
  have hw := hX.w0; subst hw
  refine G.seq <| G.reg <| W.q (sa rfl) rfl <| W.nil <| G.seq <| G.reg <| W.q (mv rfl) rfl <| W.fn Try.ca153 rfl (fun w hm => mac_NewTagger a len cap key w hlen (hm.rd rfl hl) hb hcap) rfl fun v J hv hJ => ?_
  obtain ⟨b, a4, c4, oa, oc, rfl, rfl, ho⟩ := hv
  unfold tagI hashI
  refine W.q (sa rfl) rfl <| W.nil <| G.seq <| G.reg <| W.q (mv rfl) rfl <| W.q (ncp rfl) rfl <| W.q (fa Try.fof242_0 rfl) rfl <| W.q (mv rfl) rfl <| W.ff Try.ca154 rfl (Ent.perm (.trans (.trans (.cons _ (.refl _)) (.swap _ _ _)) (.trans (.cons _ (.refl _)) (.swap _ _ _)))) (hash_Write X.w0 _ b 242 [.slice oa 64 oc] (hmPad key 0x36 ++ []) a4 c4 pa pl pc ps hpl (Rdf.old rfl hpa) (hp.fr rfl) hn (by simp [hmPad_len]; omega)) rfl rfl fun v J hv hJ => ?_
  obtain ⟨rfl, a5, c5, rfl⟩ := hv
  unfold hashI
  refine W.nil <| G.seq <| G.reg <| W.q (mv rfl) rfl <| W.q (sa rfl) rfl <| W.nil <| ret1 hX Try.results125 rfl fun w hm => done (H := tagI b key (catP ps) a5 c5 oa oc) rfl ⟨b, a5, c5, oa, oc, rfl, rfl, ho⟩ (by rw [List.append_nil] at hm; exact hm)


set_option maxRecDepth 100000 in
theorem tagger_Sum (b : Nat) (key m : List UInt8) (a : Option Addr) (cap : Nat) (oa : Option Addr) (oc : Nat) (w : World) (hc : CellsAt w b (hsC (shaSt (hmPad key 0x36 ++ m)) a ((hmPad key 0x36 ++ m).length % 64) cap (hmPad key 0x36 ++ m).length [.slice oa 64 oc])) (hr : RdL w a (B (restB (hmPad key 0x36 ++ m)))) (ho : RdL w oa (B (hmPad key 0x5c))) (hoc : 64 ≤ oc) (hb : m.length ≤ 140737488200000) :
    Ret Try.prog 126 [ptr b 0] w (fun v _ => v = .agg (B (hmac key m)).toArray) := by
  refine enter [] (Mem.nil _) Try.func126 rfl Try.ntmps126 rfl (fun X hX => ?_)
  have hw := hX.w0; subst hw
  have hil : (hmPad key 0x36 ++ m).length = 64 + m.length := by simp [hmPad_len]
  have hxl := hmPad_len key 0x5c
  refine G.seq <| G.reg <| W.al Try.zrl24 rfl fun b1 => W.nil <| G.seq <| G.reg <| W.q (mv rfl) rfl <| W.q (ncp rfl) rfl <| W.q (fa Try.fof242_0 rfl) rfl <| W.fv Try.ca155 rfl (fun w hm => hash_Sum b [.slice oa 64 oc] (hmPad key 0x36 ++ m) a cap w (hc.up hm rfl) (hm.rd rfl hr) (by omega)) rfl <| W.al Try.zrl24 rfl fun b2 => W.sta Try.sz24 rfl rfl (by simp [sha256_len]) (B_one _) .hd (by simp) <| W.nil <| G.seq <| G.regt 5 Try.mixed (by kernel_rfl) <| W.q (mv rfl) rfl <| W.q (ncp rfl) rfl <| W.q (fa Try.fof242_1 rfl) rfl <| W.q (ld Try.sc22 rfl (Cell.old rfl (hc 10 _ rfl))) rfl <| W.q (saa Try.ear24 rfl ) rfl <| W.nilt <| W.bs (cs := [_, _]) Try.underlying73 Try.sz22 Try.zrl22 rfl rfl rfl rfl fun b3 => W.fv Try.ca156 rfl (fun w hm => sha_Sum (some ⟨b3, 0, none⟩) 2 2 [(oa, oc, hmPad key 0x5c), (some ⟨b2, 0, none⟩, 32, sha256 (hmPad key 0x36 ++ m))] w rfl (rd2 (hm.rowRd .hd) hxl.symm (sha256_len _).symm) (.cons (hm.rd rfl ho) (by omega) (.cons (hm.rowRd (.tl <| .hd)) (by rw [sha256_len]; omega) .nil)) (by simp) (by simp [catP, hxl, sha256_len])) rfl <| W.sta Try.sz24 rfl rfl (by simp [sha256_len]) (B_one _) (.tl <| .tl <| .hd) (by simp) <| W.nil <| ret hX Try.results126 (RA.cella rfl Try.agg24 Try.sz24 (Cells.whole (.tl <| .tl <| .hd)) (by simp [sha256_len]) <| RA.nil) fun w hm => done (H := []) rfl ?_ (Dr.ent (Dr.new rfl) w hm)
  rw [show catP [(oa, oc, hmPad key 92), (some ⟨b2, 0, none⟩, 32, sha256 (hmPad key 54 ++ m))] = hmPad key 92 ++ sha256 (hmPad key 54 ++ m) by simp [catP]]; rfl


set_option maxRecDepth 100000 in
theorem tagger_Fits (b : Nat) (key m : List UInt8) (a : Option Addr) (cap : Nat) (oa : Option Addr) (oc : Nat) (w : World) (hc : CellsAt w b (hsC (shaSt (hmPad key 0x36 ++ m)) a ((hmPad key 0x36 ++ m).length % 64) cap (hmPad key 0x36 ++ m).length [.slice oa 64 oc])) (hr : RdL w a (B (restB (hmPad key 0x36 ++ m)))) (ho : RdL w oa (B (hmPad key 0x5c))) (hoc : 64 ≤ oc) (hb : m.length ≤ 140737488200000) (ta : Option Addr) (tl tc : Nat) (tag : List UInt8) (htl : tl = tag.length) (ht : RdL w ta (B tag)) (htb : tag.length ≤ 140737488351232) :
    Ret Try.prog 127 [ptr b 0, .slice ta tl tc] w (fun v _ => v = .bool (decide (tag = (hmac key m).take 16))) := by
  refine enter [] (Mem.nil _) Try.func127 rfl Try.ntmps127 rfl (fun X hX => ?_)
  have hw := hX.w0; subst hw
  refine G.seq <| G.reg <| W.q (sa rfl) rfl <| W.nil <| G.seq <| G.reg <| W.q (mv rfl) rfl <| W.fv Try.ca126 rfl (fun w hm => tagger_Sum b key m a cap oa oc w (hc.up hm rfl) (hm.rd rfl hr) (hm.rd rfl ho) hoc hb) rfl <| W.al Try.zrl24 rfl fun b1 => W.sta Try.sz24 rfl rfl (by simp [hmac_len]) (B_one _) .hd (by simp) <| W.nil <| G.seq <| G.reg <| W.q (mv rfl) rfl <| W.q (sahi Try.ear24 rfl rfl (by omega) (by omega)) rfl <| W.fv Try.ca85 rfl (fun w hm => codec_Same ta tl tc tag w htl (hm.rd rfl ht) htb (some ⟨b1, 0, none⟩) 16 32 ((hmac key m).take 16) (by simp [hmac_len]) ((hm.rowRd .hd).takeB 16)) rfl <| W.q (sa rfl) rfl <| W.nil <| ret1 hX Try.results127 rfl fun w hm => done (H := []) rfl ?_ (Dr.ent (Dr.new rfl) w hm)
  rfl


set_option maxRecDepth 100000 in
theorem mac_Tag (a : Option Addr) (len cap : Nat) (key : List UInt8) (pa : Option Addr) (pl pc : Nat) (ps : List Pc) (w : World) (hlen : len = key.length) (hl : RdL w a (B key)) (hb : key.length ≤ 140737488300000) (hcap : key.length ≤ cap) (hpl : pl = ps.length) (hpa : RdL w pa (ps.map pcV)) (hp : Rps w [] ps) (hn : ps.length ≤ 140737488351232) (hm64 : (catP ps).length ≤ 140737488200000) :
    Ret Try.prog 110 [.slice a len cap, .slice pa pl pc] w (fun v _ => v = .agg (B (hmac key (catP ps))).toArray) := by
  refine enter [] (Mem.nil _) Try.func110 rfl Try.ntmps110 rfl (fun X hX => ?_)
  have hw := hX.w0; subst hw
  refine G.seq <| G.reg <| W.al Try.zrl24 rfl fun b1 => W.nil <| G.seq <| G.reg <| W.q (mv rfl) rfl <| W.q (mv rfl) rfl <| W.fn Try.ca125 rfl (fun w hm => mac_tagger a len cap key pa pl pc ps w hlen (hm.rd rfl hl) hb hcap hpl (hm.rd rfl hpa) (hp.up hm rfl) hn hm64) rfl fun v J hv hJ => ?_
  obtain ⟨b, a4, c4, oa, oc, rfl, rfl, ho⟩ := hv
  unfold tagI hashI
  refine W.fv Try.ca126 rfl (fun w hm => tagger_Sum b key (catP ps) a4 c4 oa oc w (Mem.cellsAt hm .hd) (hm.svRd (.tail _ <| .head _)) (hm.slRd (.tail _ <| .tail _ <| .head _)) ho hm64) rfl <| W.sta Try.sz24 rfl rfl (by simp [hmac_len]) (B_one _) (.tl <| .tl <| .tl <| .hd) (by simp) <| W.nil <| ret hX Try.results110 (RA.cella rfl Try.agg24 Try.sz24 (Cells.whole (.tl <| .tl <| .tl <| .hd)) (by simp [hmac_len]) <| RA.nil) fun w hm => done (H := []) rfl ?_ (Dr.ent (Dr.new rfl) w hm)
  rfl


set_option maxRecDepth 100000 in
theorem mac_Short (a : Option Addr) (len cap : Nat) (key : List UInt8) (pa : Option Addr) (pl pc : Nat) (ps : List Pc) (w : World) (hlen : len = key.length) (hl : RdL w a (B key)) (hb : key.length ≤ 140737488300000) (hcap : key.length ≤ cap) (hpl : pl = ps.length) (hpa : RdL w pa (ps.map pcV)) (hp : Rps w [] ps) (hn : ps.length ≤ 140737488351232) (hm64 : (catP ps).length ≤ 140737488200000) :
    Ret Try.prog 88 [.slice a len cap, .slice pa pl pc] w (fun v J => ∃ b T, v = slc b 0 16 16 ∧ J = [nb b (B (hmac key (catP ps))) T]) := by
  refine enter [] (Mem.nil _) Try.func88 rfl Try.ntmps88 rfl (fun X hX => ?_)
  have hw := hX.w0; subst hw
  refine G.seq <| G.reg <| W.q (sa rfl) rfl <| W.nil <| G.seq <| G.reg <| W.q (mv rfl) rfl <| W.q (mv rfl) rfl <| W.fv Try.ca110 rfl (fun w hm => mac_Tag a len cap key pa pl pc ps w hlen (hm.rd rfl hl) hb hcap hpl (hm.rd rfl hpa) (hp.up hm rfl) hn hm64) rfl <| W.al Try.zrl24 rfl fun b1 => W.sta Try.sz24 rfl rfl (by simp [hmac_len]) (B_one _) .hd (by simp) <| W.nil <| G.seq <| G.reg <| W.q (sahm Try.ear24 rfl rfl rfl (by omega) (by omega) (by omega)) rfl <| W.q (sa rfl) rfl <| W.nil <| ret1 hX Try.results88 rfl fun w hm => done (H := [nb b1 (B (hmac key (catP ps))) 24]) rfl ⟨b1, _, rfl, rfl⟩ hm


set_option maxRecDepth 100000 in
theorem mac_Check (a : Option Addr) (len cap : Nat) (key : List UInt8) (pa : Option Addr) (pl pc : Nat) (ps : List Pc) (w : World) (hlen : len = key.length) (hl : RdL w a (B key)) (hb : key.length ≤ 140737488300000) (hcap : key.length ≤ cap) (hpl : pl = ps.length) (hpa : RdL w pa (ps.map pcV)) (hp : Rps w [] ps) (hn : ps.length ≤ 140737488351232) (hm64 : (catP ps).length ≤ 140737488200000) (ta : Option Addr) (tl tc : Nat) (tag : List UInt8) (htl : tl = tag.length) (ht : RdL w ta (B tag)) (htb : tag.length ≤ 140737488351232) :
    Ret Try.prog 111 [.slice a len cap, .slice ta tl tc, .slice pa pl pc] w (fun v _ => v = .bool (decide (tag = (hmac key (catP ps)).take 16))) := by
  refine enter [] (Mem.nil _) Try.func111 rfl Try.ntmps111 rfl (fun X hX => ?_)
  have hw := hX.w0; subst hw
  refine G.seq <| G.reg <| W.q (sa rfl) rfl <| W.nil <| G.seq <| G.reg <| W.q (mv rfl) rfl <| W.q (mv rfl) rfl <| W.fn Try.ca125 rfl (fun w hm => mac_tagger a len cap key pa pl pc ps w hlen (hm.rd rfl hl) hb hcap hpl (hm.rd rfl hpa) (hp.up hm rfl) hn hm64) rfl fun v J hv hJ => ?_
  obtain ⟨b, a4, c4, oa, oc, rfl, rfl, ho⟩ := hv
  unfold tagI hashI
  refine W.q (mv rfl) rfl <| W.fv Try.ca127 rfl (fun w hm => tagger_Fits b key (catP ps) a4 c4 oa oc w (Mem.cellsAt hm .hd) (hm.svRd (.tail _ <| .head _)) (hm.slRd (.tail _ <| .tail _ <| .head _)) ho hm64 ta tl tc tag htl (hm.rd rfl ht) htb) rfl <| W.q (sa rfl) rfl <| W.nil <| ret1 hX Try.results111 rfl fun w hm => done (H := []) rfl ?_ (Dr.ent (Dr.new rfl) w hm)
  rfl


set_option maxRecDepth 100000 in
theorem mac_Extract (a : Option Addr) (len cap : Nat) (salt : List UInt8) (a2 : Option Addr) (len2 cap2 : Nat) (sec : List UInt8) (w : World) (hlen : len = salt.length) (hl : RdL w a (B salt)) (hb : salt.length ≤ 140737488300000) (hcap : salt.length ≤ cap) (hlen2 : len2 = sec.length) (hl2 : RdL w a2 (B sec)) (hb2 : sec.length ≤ 140737488200000) (hcap2 : sec.length ≤ cap2) :
    Ret Try.prog 115 [.slice a len cap, .slice a2 len2 cap2] w (fun v _ => v = .agg (B (hmac salt sec)).toArray) := by
  refine enter [] (Mem.nil _) Try.func115 rfl Try.ntmps115 rfl (fun X hX => ?_)
  have hw := hX.w0; subst hw
  refine G.seq <| G.reg <| W.al Try.zrl24 rfl fun b1 => W.nil <| G.seq <| G.reg <| W.q (mv rfl) rfl <| W.q (mv rfl) rfl <| W.bs (cs := [_]) Try.underlying73 Try.sz22 Try.zrl22 rfl rfl rfl rfl fun b2 => W.fv Try.ca110 rfl (fun w hm => mac_Tag a len cap salt (some ⟨b2, 0, none⟩) 1 1 [(a2, cap2, sec)] w hlen (hm.rd rfl hl) hb hcap rfl (rd1 (hm.rowRd .hd) hlen2) (.cons (hm.rd rfl hl2) hcap2 .nil) (by simp) (by simpa [catP] using hb2)) rfl <| W.sta Try.sz24 rfl rfl (by simp [hmac_len]) (B_one _) (.tl <| .hd) (by simp) <| W.nil <| ret hX Try.results115 (RA.cella rfl Try.agg24 Try.sz24 (Cells.whole (.tl <| .hd)) (by simp [hmac_len]) <| RA.nil) fun w hm => done (H := []) rfl ?_ (Dr.ent (Dr.new rfl) w hm)
  rw [show catP [(a2, cap2, sec)] = sec by simp [catP]]; rfl
end Go.Proofs.Ytjalojbihpdghaa
