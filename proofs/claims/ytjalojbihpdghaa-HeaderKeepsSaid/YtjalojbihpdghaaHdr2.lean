/- A header: the filler, the commands' bytes. -/
import Derived.Test.YtjalojbihpdghaaHdr1
import Derived.Test.YtjalojbihpdghaaEngZ
namespace Go.Proofs.Ytjalojbihpdghaa
open Go Go.Eng
set_option linter.unusedVariables false

def filS (f s : List UInt8) : List UInt8 := xorB (f ++ List.replicate 48 0) ((strm (sS s) 0 288).drop (288 - (f.length + 48)))
def fil (ss : List (List UInt8)) : List UInt8 := ss.foldl filS []
def fillerR (ss : List (List UInt8)) : List UInt8 × Int := if ss.length < 1 ∨ 5 < ss.length then ([], 2) else (fil ss.dropLast, 0)
theorem filS_len {f s : List UInt8} (h : f.length + 48 ≤ 288) : (filS f s).length = f.length + 48 := by
  unfold filS
  rw [xorB_len _ _ (by rw [List.length_drop, strm_len]; simp; omega)]; simp
theorem fil_succ (ss : List (List UInt8)) (k : Nat) (h : k < ss.length) : fil (ss.take (k + 1)) = filS (fil (ss.take k)) ss[k] := by
  rw [fil, List.take_succ_eq_append_getElem h, List.foldl_append]; rfl
theorem fil_len (ss : List (List UInt8)) (k : Nat) (hk : k ≤ ss.length) (h5 : k ≤ 5) : (fil (ss.take k)).length = 48 * k := by
  induction k with
  | zero => simp [fil]
  | succ k ih =>
    have := ih (by omega) (by omega)
    rw [fil_succ ss k (by omega), filS_len (by omega)]; omega
theorem dropLast_take {α : Type} (l : List α) (k : Nat) (h : k = l.length - 1) : l.dropLast = l.take k := by rw [List.dropLast_eq_take, h]

theorem flatB_get (n : Nat) : ∀ (ss : List (List UInt8)) (hss : ∀ s ∈ ss, s.length = n) (k : Nat) (hk : k < ss.length) (i : Nat) (v : Value), (B ss[k])[i]? = some v → (ss.flatMap B)[k * n + i]? = some v
  | [], _, k, hk, _, _, _ => by simp at hk
  | s :: ss, hss, 0, _, i, v, h => by
    have h : (B s)[i]? = some v := h
    have hi := (List.getElem?_eq_some_iff.1 h).1
    rw [List.flatMap_cons, Nat.zero_mul, Nat.zero_add, List.getElem?_append_left hi]; exact h
  | s :: ss, hss, k + 1, hk, i, v, h => by
    have hs := hss s List.mem_cons_self
    rw [List.flatMap_cons, List.getElem?_append_right (by rw [Bl, hs, Nat.add_mul]; omega), Bl, hs, show (k + 1) * n + i - n = k * n + i by rw [Nat.add_mul]; omega]
    exact flatB_get n ss (fun x hx => hss x (List.mem_cons_of_mem _ hx)) k (by simpa using hk) i v h
theorem rdl_el {w : World} {a : Option Addr} {n : Nat} {ss : List (List UInt8)} (h : RdL w a (ss.flatMap B)) (hss : ∀ s ∈ ss, s.length = n) (hn : 0 < n) (k : Nat) (hk : k < ss.length) : ∃ b o, a = some ⟨b, o, none⟩ ∧ ∀ i v, (B ss[k])[i]? = some v → w.cell? ⟨b, o + k * n + i, none⟩ = some v := by
  have hl : (B ss[k]).length = n := by rw [Bl]; exact hss _ (List.getElem_mem hk)
  obtain ⟨b, o, h1, h2⟩ := h _ _ (flatB_get n ss hss k hk 0 _ (List.getElem?_eq_getElem (by omega)))
  refine ⟨b, o, h1, fun i v hv => ?_⟩
  obtain ⟨b', o', h3, h4⟩ := h _ _ (flatB_get n ss hss k hk i v hv)
  rw [h1] at h3; cases h3
  rwa [← Nat.add_assoc] at h4


set_option maxRecDepth 100000 in
theorem hdr_check (pa : Option Addr) (n pc : Nat) (w : World) :
    Ret Try.prog 69 [.slice pa n pc] w (fun v _ => v = i64 (if n < 1 ∨ 5 < n then 2 else 0)) := by
  refine enter [] (Mem.nil _) Try.func69 rfl Try.ntmps69 rfl (fun X hX => ?_)
  have hw := hX.w0; subst hw
  refine G.seq <| G.reg <| W.q (sa rfl) rfl <| W.nil <| G.seq <| G.seq <| G.reg <| W.q (mv rfl) rfl <| W.q (ln Try.esl80 rfl) rfl <| W.q (lt rfl rfl) rfl <| W.q (mv rfl) rfl <| W.sp (t := _) 6 rfl (fun g1 => ?_) (fun g1 => ?_)
  · -- True
    refine W.sk rfl rfl g1 rfl <| W.sk rfl rfl g1 rfl <| W.sk rfl rfl g1 rfl <| W.q (pkt rfl g1 rfl) rfl <| W.nil <| G.cdt rfl rfl <| G.seq <| G.reg <| W.q (sa rfl) rfl <| W.nil <| ret1 hX Try.results69 rfl fun w hm => done (H := []) rfl ?_ (Dr.ent (Dr.new rfl) w hm)
    rw [if_pos (by have := of_decide_eq_true g1; omega)]
  · -- False
    refine W.qg rfl rfl g1 (mv rfl) rfl <| W.qg rfl rfl g1 (ln Try.esl80 rfl) rfl <| W.qg rfl rfl g1 (gt rfl rfl) rfl <| W.q (pkf rfl g1 rfl) rfl <| W.nil <| G.cdd rfl (fun h2 => ?_) (fun h2 => ?_)
    · -- h2 True
      refine G.seq <| G.reg <| W.q (sa rfl) rfl <| W.nil <| ret1 hX Try.results69 rfl fun w hm => done (H := []) rfl ?_ (Dr.ent (Dr.new rfl) w hm)
      rw [if_pos (by omega)]
    · -- h2 False
      refine G.skip <| G.seq <| G.reg <| W.q (sa rfl) rfl <| W.nil <| ret1 hX Try.results69 rfl fun w hm => done (H := []) rfl ?_ (Dr.ent (Dr.new rfl) w hm)
      rw [if_neg (by have := of_decide_eq_false g1; omega)]


set_option maxRecDepth 100000 in
theorem hdr_Filler (ss : List (List UInt8)) (pa : Option Addr) (pc : Nat) (w : World) (hpa : RdL w pa (ss.flatMap B)) (hss : ∀ s ∈ ss, s.length = 192) (hn : ss.length ≤ pc) :
    Ret Try.prog 36 [.slice pa ss.length pc] w (fun v J => ∃ v1, NewB (fillerR ss).1 v1 J ∧ v = .tuple #[v1, i64 (fillerR ss).2]) := by
  refine enter [] (Mem.nil _) Try.func36 rfl Try.ntmps36 rfl (fun X hX => ?_)
  have hw := hX.w0; subst hw
  refine G.seq <| G.reg <| W.q (sa rfl) rfl <| W.q (sa rfl) rfl <| W.nil <| G.seq <| G.seq <| G.reg <| W.q (mv rfl) rfl <| W.fv Try.ca69 rfl (fun w hm => hdr_check pa ss.length pc w) rfl <| W.q (sa rfl) rfl <| W.nil <| G.seq <| G.reg <| W.q (mv rfl) rfl <| W.q (ne rfl rfl) rfl <| W.nil <| G.cdd rfl (fun h1 => ?_) (fun h1 => ?_)
  · -- h1 True
    have hbad : ss.length < 1 ∨ 5 < ss.length := Classical.byContradiction fun h => h1 (by rw [if_neg h])
    refine G.seq <| G.reg <| W.q (mv rfl) rfl <| W.q (sa rfl) rfl <| W.q (sa rfl) rfl <| W.nil <| ret2 hX Try.results36 rfl rfl fun w hm => done (H := [sl none 0 0 5 1 []]) rfl ?_ (hm.slNil 5 1)
    have e : fillerR ss = ([], 2) := by rw [fillerR, if_pos hbad]
    rw [e, if_pos hbad]; exact ⟨_, ⟨none, 0, rfl, rfl⟩, rfl⟩
  · -- h1 False
    have hok : ¬ (ss.length < 1 ∨ 5 < ss.length) := fun h => h1 (by rw [if_pos h]; decide)
    refine G.skip <| G.seq <| G.reg <| W.q (sa rfl) rfl <| W.nil <| G.seq <| G.seq <| G.reg <| W.q (mv rfl) rfl <| W.q (mv rfl) rfl <| W.q (ln Try.esl80 rfl) rfl <| W.q (sb rfl rfl (by omega)) rfl <| W.q (shi Try.esl80 rfl rfl (by omega) (by omega)) rfl <| W.q (ln Try.esl80 rfl) rfl <| W.q (mv rfl) rfl <| W.nil <| G.blk <| G.loop3 (α := Nat) (β := Option Addr) (γ := Nat) (fun k a1 c1 => k + 1 ≤ ss.length) (fun k a1 c1 => [(5, .slice a1 (fil (ss.take k)).length c1), (21, i64 k)]) (fun k a1 c1 => [sl a1 (fil (ss.take k)).length c1 5 1 (B (fil (ss.take k)))]) (fun k a1 c1 => ss.length - k) [(19, _), (20, _)] [] 0 none 0 (by omega) (Sub.cons rfl <| Sub.cons rfl <| Sub.cons rfl <| Sub.cons rfl <| Sub.nil _) (fun w hm => hm.slNil 5 1) (fun k a1 c1 hk ih => ?_)
    refine G.seq <| G.reg <| W.q (lt rfl rfl) rfl <| W.nil <| G.seq <| G.cdd rfl (fun h2 => ?_) (fun h2 => ?_)
    · -- h2 True
      have hk' : k < ss.length := by omega
      obtain ⟨zb, zo, rfl, hc⟩ := rdl_el hpa hss (by omega) k hk'
      have hC : ∀ H, allNew H = true → Cells X.w0 H zb (zo + (k : Int).toNat * 192) (B ss[k]) := fun H hn => Cells.old hn hc
      have hsl := hss _ (List.getElem_mem hk')
      have hsu := fil_succ ss k hk'
      have hfl := fil_len ss k (by omega) (by omega)
      generalize ss[k] = s at hC hsl hsu
      have hT : ((288 : Int) - (((fil (ss.take k)).length + 48 : Nat) : Int)).toNat = 288 - ((fil (ss.take k)).length + 48) := by omega
      have hBz : B (fil (ss.take k)) ++ List.replicate 48 (.int .u8 0) = B ((fil (ss.take k)) ++ List.replicate 48 0) := by simp [B]
      refine G.skip <| G.seq <| G.blk <| G.seq <| G.reg <| W.q (ia Try.esl80 rfl rfl (by omega) (by omega)) rfl <| W.q (lda Try.agg86 Try.sz86 rfl (hC _ rfl) (by rw [Bl]; exact hsl)) rfl <| W.al Try.zrl86 rfl fun b1 => W.sta Try.sz86 rfl rfl (by rw [Bl]; exact hsl) (B_one _) .hd rfl <| W.nil <| G.seq <| G.reg <| W.q (mv rfl) rfl <| W.apz (k := 48) Try.underlying22 Try.underlying3 Try.zrl5 Try.by5 Try.sz5 rfl rfl (fun _ _ => (.tl <| .hd)) (by decide) (by omega) rfl fun a3 c3 => W.q (sa rfl) rfl <| W.nil <| G.seq <| G.reg <| W.q (fa Try.fof86_0 rfl) rfl <| W.q (fa Try.fof84_1 rfl) rfl <| W.q (saa Try.ear24 rfl ) rfl <| W.fn Try.ca70 rfl (fun w hm => cha_Stream (some ⟨b1, 32, none⟩) 32 32 (sS s) 288 w rfl (by simp; omega) (hm.rowSub .hd 32 32) (by simp; omega) (by omega)) rfl fun v J hv hJ => ?_
      obtain ⟨v1, ⟨a4, c4, rfl, rfl⟩, rfl⟩ := hv
      rw [strm_len]
      refine W.slAt (a := a4) (m := 288) (cap := c4) (E := 5) (s := 1) (xs := B (strm (sS s) 0 288)) (.head _) (fun q1 q2 q3 q4 => ?_)
      refine W.q (mv rfl) rfl <| W.q (ex rfl rfl) rfl <| W.q (ex rfl rfl) rfl <| W.q (sa rfl) rfl <| W.q (sa rfl) rfl <| W.nil <| G.reg <| W.q (mv rfl) rfl <| W.q (mv rfl) rfl <| W.q (mv rfl) rfl <| W.q (ln Try.esl22 rfl) rfl <| W.q (sb rfl rfl (by omega)) rfl <| W.q (slo Try.esl22 rfl rfl (by omega) (by omega)) rfl <| W.bs (cs := [_, _]) Try.underlying73 Try.sz22 Try.zrl22 rfl rfl rfl rfl fun b2 => W.fn Try.ca71 rfl (fun w hm => codec_Xor2 (some ⟨b2, 0, none⟩) 2 a3 _ ((fil (ss.take k)).length + 48) _ c3 _ ((fil (ss.take k)) ++ List.replicate 48 0) ((strm (sS s) 0 288).drop (288 - ((fil (ss.take k)).length + 48))) w (Nat.le_refl _) (hm.rowRd .hd) (by simp) (by rw [List.length_drop, strm_len]; omega) (by have := hm.slRd (m := (fil (ss.take k)).length + 48) (cap := c3) (E := 5) (s := 1) (.tail _ <| .tail _ <| .tail _ <| .head _); rwa [hBz] at this) (by rw [hT]; exact (hm.slRd (m := 288) (cap := c4) (E := 5) (s := 1) (xs := B (strm (sS s) 0 288)) (.tail _ <| .head _)).dropB (288 - ((fil (ss.take k)).length + 48)) c4 (by rw [strm_len]; exact q2)) (by rw [List.length_drop, strm_len]; simp; omega) (by simp; omega)) rfl fun v J hv hJ => ?_
      change ∃ v1, NewB (filS (fil (ss.take k)) s) v1 J ∧ _ at hv
      obtain ⟨v1, ⟨a5, c5, rfl, rfl⟩, rfl⟩ := hv
      refine W.q (mv rfl) rfl <| W.q (ex rfl rfl) rfl <| W.q (ex rfl rfl) rfl <| W.q (sa rfl) rfl <| W.nil <| G.inb <| G.reg <| W.q (ad rfl rfl (by omega)) rfl <| W.q (mv rfl) rfl <| W.nil <| (ih (k + 1) a5 c5 (by omega) (by omega)).weak (Sub.co rfl ?_ <| Sub.cons rfl <| Sub.cons rfl <| Sub.cons rfl <| Sub.nil _) (fun w hm => by rw [hsu]; exact Dr.ent (.keep <| .drop rfl <| .drop rfl <| .drop rfl <| .drop rfl <| .rfl) w hm)
      all_goals clear ih
      · show Value.slice _ _ _ = _; rw [hsu]
    · -- h2 False
      refine G.exit rfl <| G.seq <| G.reg <| W.q (mv rfl) rfl <| W.q (sa rfl) rfl <| W.q (sa rfl) rfl <| W.nil <| ret2 hX Try.results36 rfl rfl fun w hm => done (H := [sl a1 (fil (ss.take k)).length c1 5 1 (B (fil (ss.take k)))]) rfl ?_ (by exact hm)
      have e : fillerR ss = (fil (ss.take k), 0) := by rw [fillerR, if_neg hok, dropLast_take ss k (by omega)]
      rw [e]; exact ⟨_, ⟨a1, c1, rfl, rfl⟩, rfl⟩
end Go.Proofs.Ytjalojbihpdghaa
