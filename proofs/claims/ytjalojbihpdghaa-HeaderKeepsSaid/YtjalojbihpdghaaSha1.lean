/- SHA-256, the program's: rotation, start, constants, schedule, one block. -/
import Derived.Test.YtjalojbihpdghaaShaP
namespace Go.Proofs.Ytjalojbihpdghaa
open Go Go.Eng
set_option linter.unusedVariables false



set_option maxRecDepth 100000 in
theorem bits_rotl (x : UInt32) (k : Int) (s : Nat) (hk : k % 32 = s) (w : World) :
    Ret Try.prog 186 [u32 x, i64 k] w (fun v _ => v = u32 (shlU32 x s ||| shrU32 x ((32 - s : Nat) : Int))) := by
  refine enter [] (Mem.nil _) Try.func186 rfl Try.ntmps186 rfl (fun X hX => ?_)
  have hw := hX.w0; subst hw
  have e0 := u64Of_toNat k
  have e1 : (u64Of k &&& 31).toNat = s := by
    rw [UInt64.toNat_and]
    have : (31 : UInt64).toNat = 2 ^ 5 - 1 := by decide
    rw [this, Nat.and_two_pow_sub_one_eq_mod]
    omega
  have e2 : (32 - (u64Of k &&& 31)).toNat = 32 - s := by
    rw [UInt64.toNat_sub, e1]
    have : (32 : UInt64).toNat = 32 := by decide
    rw [this]
    omega
  refine G.seq <| G.reg <| W.q (sa rfl) rfl <| W.nil <| G.seq <| G.reg <| W.q (mv rfl) rfl <| W.q (cv_i64_u64 Try.underlying3 Try.underlying134 rfl) rfl <| W.q (and_u64 (b := 31) rfl rfl) rfl <| W.q (sa rfl) rfl <| W.nil <| G.seq <| G.reg <| W.q (mv rfl) rfl <| W.q (mv rfl) rfl <| W.q (shl_u32 rfl rfl (by omega)) rfl <| W.q (mv rfl) rfl <| W.q (mv rfl) rfl <| W.q (sub_u64 (a := 32) rfl rfl) rfl <| W.q (shr_u32 rfl rfl (by omega)) rfl <| W.q (or_u32 rfl rfl) rfl <| W.q (sa rfl) rfl <| W.nil <| ret1 hX Try.results186 rfl fun w hm => done rfl ?_ hm
  rw [← e2, ← e1]

theorem bits_rotr (x : UInt32) (n : Int) (h0 : 0 < n) (h : n < 32) (w : World) : Ret Try.prog 186 [u32 x, i64 (-n)] w (fun v _ => v = u32 (rotr x n)) := by
  have := bits_rotl x (-n) (32 - n.toNat) (by omega) w
  rw [show 32 - (32 - n.toNat) = n.toNat by omega, rotl_neg x n.toNat (by omega) (by omega), show ((n.toNat : Nat) : Int) = n by omega] at this
  exact this
theorem bits_rotp (x : UInt32) (n : Int) (h0 : 0 < n) (h : n < 32) (w : World) : Ret Try.prog 186 [u32 x, i64 n] w (fun v _ => v = u32 (rotl x n)) := by
  have := bits_rotl x n n.toNat (by omega) w
  rw [show ((n.toNat : Nat) : Int) = n by omega, show ((32 - n.toNat : Nat) : Int) = 32 - n by omega] at this
  exact this


set_option maxRecDepth 100000 in
theorem sha_Start (w : World) : Ret Try.prog 188 [] w (fun v _ => v = .agg (U shaI.l).toArray) := by
  refine enter [] (Mem.nil _) Try.func188 rfl Try.ntmps188 rfl (fun X hX => ?_)
  have hw := hX.w0; subst hw
  refine G.seq <| G.reg <| W.al Try.zrl222 rfl fun b1 => W.nil <| G.seq <| G.reg <| W.q (bldas (cs := [_, _, _, _, _, _, _, _]) Try.arp222 rfl rfl rfl rfl) rfl <| W.sta Try.sz222 rfl rfl rfl rfl .hd rfl <| W.nil <| ret hX Try.results188 (RA.cella rfl Try.agg222 Try.sz222 (Cells.whole .hd) rfl <| RA.nil) fun w hm => done (H := []) rfl ?_ (Dr.ent (Dr.new rfl) w hm)
  rfl


set_option maxRecDepth 100000 in
theorem sha_Constants (w : World) : Ret Try.prog 196 [] w (fun v _ => v = .agg (U shaK).toArray) := by
  refine enter [] (Mem.nil _) Try.func196 rfl Try.ntmps196 rfl (fun X hX => ?_)
  have hw := hX.w0; subst hw
  refine G.seq <| G.reg <| W.al Try.zrl254 rfl fun b1 => W.nil <| G.seq <| G.reg <| W.q (bldas (cs := U shaK) Try.arp254 rfl rfl rfl rfl) rfl <| W.sta Try.sz254 rfl rfl (by rw [U_len, shaK_len]) (U_one _) .hd (by simp) <| W.nil <| ret hX Try.results196 (RA.cella rfl Try.agg254 Try.sz254 (Cells.whole .hd) (by rw [U_len, shaK_len]) <| RA.nil) fun w hm => done (H := []) rfl ?_ (Dr.ent (Dr.new rfl) w hm)
  rfl


set_option maxRecDepth 100000 in
theorem sha_schedule (a : Option Addr) (len cap : Nat) (bs : List UInt8) (w : World) (hl : RdL w a (B bs)) (hlen : bs.length = 64) (hle : len = 64) :
    Ret Try.prog 195 [.slice a len cap] w (fun v _ => v = .agg (U (schedL bs 64)).toArray) := by
  refine enter [] (Mem.nil _) Try.func195 rfl Try.ntmps195 rfl (fun X hX => ?_)
  have hw := hX.w0; subst hw
  subst hle
  obtain ⟨zb, zo, rfl, _⟩ := hl 0 _ (B_get (getD_someB bs 0 (by omega)))
  have hcell : ∀ o i, o = i → i < 64 → X.w0.cell? ⟨zb, zo + o, none⟩ = some (u8 (bs.getD i 0)) := fun o i ho hi => by
    subst ho
    obtain ⟨b', o', h1, h2⟩ := hl o _ (B_get (getD_someB bs o (by omega)))
    cases h1; exact h2
  have hz : U (schedL bs 0 ++ List.replicate (64 - 0) 0) = List.replicate 64 (.int .u32 0) := by rw [← U_zeros]; rfl
  refine G.seq <| G.reg <| W.al Try.zrl254 rfl fun b1 => W.nil <| G.seq <| G.reg <| W.al Try.zrl254 rfl fun b2 => W.nil <| G.seq <| G.seq <| G.reg <| W.q (mv rfl) rfl <| W.nil <| G.blk <| G.loop1 (α := Nat) (fun k => k ≤ 16) (fun k => [(10, i64 k)]) (fun k => [nb b2 (U (schedL bs k ++ List.replicate (64 - k) 0)) 254]) (fun k => 16 - k) [(0, _), (2, _), (3, _)] [_] 0 (by omega) (Sub.cons rfl <| Sub.cons rfl <| Sub.cons rfl <| Sub.cons rfl <| Sub.nil _) (Ent.eq (by rw [hz]; rfl)) (fun k hk ih => ?_)
  refine G.seq <| G.reg <| W.q (lt rfl rfl) rfl <| W.nil <| G.seq <| G.cdd rfl (fun h1 => ?_) (fun h1 => ?_)
  · -- h1 True
    have hst := setAt_U (schedL bs k) (63 - k) (shaW bs (schedL bs k) k) (0 + (k : Int).toNat * 1) (by rw [schedL_len]; omega)
    have hw : shaW bs (schedL bs k) k = shlU32 (bs.getD (4 * k) 0).toUInt32 24 ||| shlU32 (bs.getD (4 * k + 1) 0).toUInt32 16 ||| shlU32 (bs.getD (4 * k + 2) 0).toUInt32 8 ||| (bs.getD (4 * k + 3) 0).toUInt32 := by
      rw [shaW, if_pos (by omega), shaWord, take4 bs k (by omega), word4]
    rw [hw, show 63 - k + 1 = 64 - k by omega, show 63 - k = 64 - (k + 1) by omega, ← hw, show schedL bs k ++ [shaW bs (schedL bs k) k] = schedL bs (k + 1) from rfl, hw] at hst
    have eo : ∀ j : Nat, j < 4 → (4 * (k : Int) + j).toNat * 1 = 4 * k + j := fun j _ => by omega
    refine G.skip <| G.seq <| G.blk <| G.seq <| G.reg <| W.q (mv rfl) rfl <| W.q (sa rfl) rfl <| W.nil <| G.regt 35 Try.mixed (by kernel_rfl) <| W.q (mv rfl) rfl <| W.q (mv rfl) rfl <| W.q (mv rfl) rfl <| W.q (ml rfl rfl (by omega)) rfl <| W.q (ia Try.esl22 rfl rfl (by omega) (by omega)) rfl <| W.q (ld Try.sc5 rfl (Cell.old rfl (hcell _ (4 * k) (by omega) (by omega)))) rfl <| W.q (cv_u8_u32 Try.underlying5 Try.underlying125 rfl) rfl <| W.q (shl_u32 rfl rfl (by omega)) rfl <| W.q (mv rfl) rfl <| W.q (mv rfl) rfl <| W.q (ml rfl rfl (by omega)) rfl <| W.q (ad rfl rfl (by omega)) rfl <| W.q (ia Try.esl22 rfl rfl (by omega) (by omega)) rfl <| W.q (ld Try.sc5 rfl (Cell.old rfl (hcell _ (4 * k + 1) (by omega) (by omega)))) rfl <| W.q (cv_u8_u32 Try.underlying5 Try.underlying125 rfl) rfl <| W.q (shl_u32 rfl rfl (by omega)) rfl <| W.q (or_u32 rfl rfl) rfl <| W.q (mv rfl) rfl <| W.q (mv rfl) rfl <| W.q (ml rfl rfl (by omega)) rfl <| W.q (ad rfl rfl (by omega)) rfl <| W.q (ia Try.esl22 rfl rfl (by omega) (by omega)) rfl <| W.q (ld Try.sc5 rfl (Cell.old rfl (hcell _ (4 * k + 2) (by omega) (by omega)))) rfl <| W.q (cv_u8_u32 Try.underlying5 Try.underlying125 rfl) rfl <| W.q (shl_u32 rfl rfl (by omega)) rfl <| W.q (or_u32 rfl rfl) rfl <| W.q (mv rfl) rfl <| W.q (mv rfl) rfl <| W.q (ml rfl rfl (by omega)) rfl <| W.q (ad rfl rfl (by omega)) rfl <| W.q (ia Try.esl22 rfl rfl (by omega) (by omega)) rfl <| W.q (ld Try.sc5 rfl (Cell.old rfl (hcell _ (4 * k + 3) (by omega) (by omega)))) rfl <| W.q (cv_u8_u32 Try.underlying5 Try.underlying125 rfl) rfl <| W.q (or_u32 rfl rfl) rfl <| W.q (iaa Try.ear254 rfl rfl (by omega) (by omega)) rfl <| W.nilt <| W.st (cs' := U (schedL bs (k + 1) ++ List.replicate (64 - (k + 1)) 0)) Try.sz125 rfl rfl rfl rfl rfl .hd (by simp [schedL_len]; omega) hst <| W.nil <| G.inb <| G.reg <| W.q (ad rfl rfl (by omega)) rfl <| W.q (mv rfl) rfl <| W.nil <| (ih (k + 1) (by omega) (by omega)).weak (Sub.cons rfl <| Sub.cons rfl <| Sub.cons rfl <| Sub.cons rfl <| Sub.nil _) .rfl
  · -- h1 False
    refine G.exit rfl <| G.seq <| G.seq <| G.reg <| W.q (sa rfl) rfl <| W.nil <| G.blk <| G.loop1 (α := Nat) (fun t => 16 ≤ t ∧ t ≤ 64) (fun t => [(5, i64 t)]) (fun t => [nb b2 (U (schedL bs t ++ List.replicate (64 - t) 0)) 254]) (fun t => 64 - t) [(2, _), (3, _)] [_] 16 (by omega) (Sub.cons rfl <| Sub.cons rfl <| Sub.cons rfl <| Sub.nil _) (Ent.eq (by rw [show k = 16 by omega])) (fun t hk ih2 => ?_)
    refine G.seq <| G.seq <| G.reg <| W.q (mv rfl) rfl <| W.q (lt rfl rfl) rfl <| W.nil <| G.cdd rfl (fun h2 => ?_) (fun h2 => ?_)
    · -- h2 True
      have hst := setAt_U (schedL bs t) (63 - t) (shaW bs (schedL bs t) t) (0 + (t : Int).toNat * 1) (by rw [schedL_len]; omega)
      have hw : shaW bs (schedL bs t) t = sg1 ((schedL bs t).getD (t - 2) 0) + (schedL bs t).getD (t - 7) 0 + sg0 ((schedL bs t).getD (t - 15) 0) + (schedL bs t).getD (t - 16) 0 := by
        rw [shaW, if_neg (by omega)]; rfl
      rw [show 63 - t + 1 = 64 - t by omega, show 63 - t = 64 - (t + 1) by omega, show schedL bs t ++ [shaW bs (schedL bs t) t] = schedL bs (t + 1) from rfl, hw] at hst
      have hg : ∀ o i, o = i → i < t → (U (schedL bs t ++ List.replicate (64 - t) 0))[o]? = some (u32 ((schedL bs t).getD i 0)) := fun o i ho hi => by
        subst ho; exact U_get (getD_app _ _ _ (by rw [schedL_len]; exact hi))
      refine G.skip <| G.seq <| G.blk <| G.seq <| G.regq Try.mixed (by kernel_rfl) <| W.q (mv rfl) rfl <| W.q (sb rfl rfl (by omega)) rfl <| W.q (iaa Try.ear254 rfl rfl (by omega) (by omega)) rfl <| W.q (ld Try.sc125 rfl (Cell.at .hd (hg _ (t - 15) (by omega) (by omega)))) rfl <| W.q (mv rfl) rfl <| W.q (sb rfl rfl (by omega)) rfl <| W.q (iaa Try.ear254 rfl rfl (by omega) (by omega)) rfl <| W.q (ld Try.sc125 rfl (Cell.at .hd (hg _ (t - 2) (by omega) (by omega)))) rfl <| W.q (sa rfl) rfl <| W.q (sa rfl) rfl <| W.nilq <| G.seq <| G.reg <| W.q (mv rfl) rfl <| W.fv Try.ca186 rfl (fun w hm => bits_rotr _ 7 (by decide) (by decide) w) rfl <| W.q (mv rfl) rfl <| W.fv Try.ca186 rfl (fun w hm => bits_rotr _ 18 (by decide) (by decide) w) rfl <| W.q (xor_u32 rfl rfl) rfl <| W.q (mv rfl) rfl <| W.q (shr_u32 rfl rfl (by omega)) rfl <| W.q (xor_u32 rfl rfl) rfl <| W.q (sa rfl) rfl <| W.nil <| G.seq <| G.reg <| W.q (mv rfl) rfl <| W.fv Try.ca186 rfl (fun w hm => bits_rotr _ 17 (by decide) (by decide) w) rfl <| W.q (mv rfl) rfl <| W.fv Try.ca186 rfl (fun w hm => bits_rotr _ 19 (by decide) (by decide) w) rfl <| W.q (xor_u32 rfl rfl) rfl <| W.q (mv rfl) rfl <| W.q (shr_u32 rfl rfl (by omega)) rfl <| W.q (xor_u32 rfl rfl) rfl <| W.q (sa rfl) rfl <| W.nil <| G.regt 15 Try.mixed (by kernel_rfl) <| W.q (mv rfl) rfl <| W.q (mv rfl) rfl <| W.q (mv rfl) rfl <| W.q (sb rfl rfl (by omega)) rfl <| W.q (iaa Try.ear254 rfl rfl (by omega) (by omega)) rfl <| W.q (ld Try.sc125 rfl (Cell.at .hd (hg _ (t - 7) (by omega) (by omega)))) rfl <| W.q (add_u32 rfl rfl) rfl <| W.q (mv rfl) rfl <| W.q (add_u32 rfl rfl) rfl <| W.q (mv rfl) rfl <| W.q (sb rfl rfl (by omega)) rfl <| W.q (iaa Try.ear254 rfl rfl (by omega) (by omega)) rfl <| W.q (ld Try.sc125 rfl (Cell.at .hd (hg _ (t - 16) (by omega) (by omega)))) rfl <| W.q (add_u32 rfl rfl) rfl <| W.q (iaa Try.ear254 rfl rfl (by omega) (by omega)) rfl <| W.nilt <| W.st (cs' := U (schedL bs (t + 1) ++ List.replicate (64 - (t + 1)) 0)) Try.sz125 rfl rfl rfl rfl rfl .hd (by simp [schedL_len]; omega) hst <| W.nil <| G.inb <| G.reg <| W.q (mv rfl) rfl <| W.q (ad rfl rfl (by omega)) rfl <| W.q (sa rfl) rfl <| W.nil <| (ih2 (t + 1) (by omega) (by omega)).weak (Sub.cons rfl <| Sub.cons rfl <| Sub.cons rfl <| Sub.nil _) .rfl
    · -- h2 False
      have ht : t = 64 := by omega
      subst ht
      refine G.exit rfl <| G.seq <| G.reg <| W.q (lda Try.agg254 Try.sz254 rfl (Cells.whole .hd) (by simp [schedL_len])) rfl <| W.sta Try.sz254 rfl rfl (by simp [schedL_len]) (U_one _) (.tl <| .hd) (by simp) <| W.nil <| ret hX Try.results195 (RA.cella rfl Try.agg254 Try.sz254 (Cells.whole (.tl <| .hd)) (by simp [schedL_len]) <| RA.nil) fun w hm => done (H := []) rfl ?_ (Dr.ent (Dr.new rfl) w hm)
      rw [show List.replicate (64 - 64) (0 : UInt32) = [] from rfl, List.append_nil]; rfl


set_option maxRecDepth 100000 in
theorem sha_Compress (s : S8) (a : Option Addr) (len cap : Nat) (bs : List UInt8) (w : World) (hl : RdL w a (B bs)) (hlen : bs.length = 64) (hle : len = 64) :
    Ret Try.prog 189 [.agg (U s.l).toArray, .slice a len cap] w (fun v _ => v = .tuple #[.agg (U (shaC s bs).l).toArray, i64 0]) := by
  refine enter [] (Mem.nil _) Try.func189 rfl Try.ntmps189 rfl (fun X hX => ?_)
  have hw := hX.w0; subst hw
  subst hle
  refine G.seq <| G.reg <| W.bxa rfl rfl fun b1 => W.al Try.zrl222 rfl fun b2 => W.q (sa rfl) rfl <| W.nil <| G.seq <| G.seq <| G.reg <| W.q (mv rfl) rfl <| W.q (ln Try.esl22 rfl) rfl <| W.q (ne rfl rfl) rfl <| W.nil <| G.cdf rfl rfl <| G.skip <| G.seq <| G.reg <| W.q (mv rfl) rfl <| W.fv Try.ca195 rfl (fun w hm => sha_schedule a 64 cap bs w (hm.rd rfl hl) hlen rfl) rfl <| W.fv Try.ca196 rfl (fun w hm => sha_Constants w) rfl <| W.al Try.zrl254 rfl fun b3 => W.al Try.zrl254 rfl fun b4 => W.sta Try.sz254 rfl rfl (by simp [schedL_len, shaK_len]) (U_one _) (.tl <| .hd) (by simp) <| W.sta Try.sz254 rfl rfl (by simp [schedL_len, shaK_len]) (U_one _) .hd (by simp) <| W.nil <| G.seq <| G.regq Try.mixed (by kernel_rfl) <| W.q (iaa Try.ear222 rfl rfl (by omega) (by omega)) rfl <| W.q (ld Try.sc125 rfl (Cell.at (.tl <| .tl <| .tl <| .hd) rfl)) rfl <| W.q (iaa Try.ear222 rfl rfl (by omega) (by omega)) rfl <| W.q (ld Try.sc125 rfl (Cell.at (.tl <| .tl <| .tl <| .hd) rfl)) rfl <| W.q (iaa Try.ear222 rfl rfl (by omega) (by omega)) rfl <| W.q (ld Try.sc125 rfl (Cell.at (.tl <| .tl <| .tl <| .hd) rfl)) rfl <| W.q (iaa Try.ear222 rfl rfl (by omega) (by omega)) rfl <| W.q (ld Try.sc125 rfl (Cell.at (.tl <| .tl <| .tl <| .hd) rfl)) rfl <| W.q (iaa Try.ear222 rfl rfl (by omega) (by omega)) rfl <| W.q (ld Try.sc125 rfl (Cell.at (.tl <| .tl <| .tl <| .hd) rfl)) rfl <| W.q (iaa Try.ear222 rfl rfl (by omega) (by omega)) rfl <| W.q (ld Try.sc125 rfl (Cell.at (.tl <| .tl <| .tl <| .hd) rfl)) rfl <| W.q (iaa Try.ear222 rfl rfl (by omega) (by omega)) rfl <| W.q (ld Try.sc125 rfl (Cell.at (.tl <| .tl <| .tl <| .hd) rfl)) rfl <| W.q (iaa Try.ear222 rfl rfl (by omega) (by omega)) rfl <| W.q (ld Try.sc125 rfl (Cell.at (.tl <| .tl <| .tl <| .hd) rfl)) rfl <| W.q (sa rfl) rfl <| W.q (sa rfl) rfl <| W.q (sa rfl) rfl <| W.q (sa rfl) rfl <| W.q (sa rfl) rfl <| W.q (sa rfl) rfl <| W.q (sa rfl) rfl <| W.q (sa rfl) rfl <| W.nilq <| G.seq <| G.seq <| G.reg <| W.q (mv rfl) rfl <| W.nil <| G.blk <| G.loop2 (α := Nat) (β := S8) (fun k q => k ≤ 64 ∧ q = shaRounds bs s k) (fun k q => [(8, u32 q.a), (9, u32 q.b), (10, u32 q.c), (11, u32 q.d), (12, u32 q.e), (13, u32 q.f), (14, u32 q.g), (15, u32 q.h), (46, i64 k)]) (fun k q => []) (fun k q => 64 - k) [(2, _), (4, _), (6, _), (7, _)] _ 0 s ⟨by omega, rfl⟩ (Sub.cons rfl <| Sub.cons rfl <| Sub.cons rfl <| Sub.cons rfl <| Sub.cons rfl <| Sub.cons rfl <| Sub.cons rfl <| Sub.cons rfl <| Sub.cons rfl <| Sub.cons rfl <| Sub.cons rfl <| Sub.cons rfl <| Sub.cons rfl <| Sub.nil _) .rfl (fun k q hk ih => ?_)
  refine G.seq <| G.reg <| W.q (lt rfl rfl) rfl <| W.nil <| G.seq <| G.cdd rfl (fun h2 => ?_) (fun h2 => ?_)
  · -- h2 True
    have hkW : (U (schedL bs 64))[k]? = some (u32 ((schedL bs 64).getD k 0)) := U_getD _ _ (by rw [schedL_len]; omega)
    have hkK : (U shaK)[k]? = some (u32 (shaK.getD k 0)) := U_getD _ _ (by rw [shaK_len]; omega)
    refine G.skip <| G.seq <| G.blk <| G.seq <| G.reg <| W.q (mv rfl) rfl <| W.q (sa rfl) rfl <| W.nil <| G.seq <| G.reg <| W.q (mv rfl) rfl <| W.fv Try.ca186 rfl (fun w hm => bits_rotr _ 6 (by decide) (by decide) w) rfl <| W.q (mv rfl) rfl <| W.fv Try.ca186 rfl (fun w hm => bits_rotr _ 11 (by decide) (by decide) w) rfl <| W.q (xor_u32 rfl rfl) rfl <| W.q (mv rfl) rfl <| W.fv Try.ca186 rfl (fun w hm => bits_rotr _ 25 (by decide) (by decide) w) rfl <| W.q (xor_u32 rfl rfl) rfl <| W.q (sa rfl) rfl <| W.nil <| G.seq <| G.regq Try.mixed (by kernel_rfl) <| W.q (mv rfl) rfl <| W.q (mv rfl) rfl <| W.q (add_u32 rfl rfl) rfl <| W.q (mv rfl) rfl <| W.q (mv rfl) rfl <| W.q (and_u32 rfl rfl) rfl <| W.q (mv rfl) rfl <| W.q (cpl_u32 rfl) rfl <| W.q (mv rfl) rfl <| W.q (and_u32 rfl rfl) rfl <| W.q (xor_u32 rfl rfl) rfl <| W.q (add_u32 rfl rfl) rfl <| W.q (mv rfl) rfl <| W.q (iaa Try.ear254 rfl rfl (by omega) (by omega)) rfl <| W.q (ld Try.sc125 rfl (Cell.at .hd (by simpa using hkK))) rfl <| W.q (add_u32 rfl rfl) rfl <| W.q (mv rfl) rfl <| W.q (iaa Try.ear254 rfl rfl (by omega) (by omega)) rfl <| W.q (ld Try.sc125 rfl (Cell.at (.tl <| .hd) (by simpa using hkW))) rfl <| W.q (add_u32 rfl rfl) rfl <| W.q (sa rfl) rfl <| W.nilq <| G.seq <| G.reg <| W.q (mv rfl) rfl <| W.fv Try.ca186 rfl (fun w hm => bits_rotr _ 2 (by decide) (by decide) w) rfl <| W.q (mv rfl) rfl <| W.fv Try.ca186 rfl (fun w hm => bits_rotr _ 13 (by decide) (by decide) w) rfl <| W.q (xor_u32 rfl rfl) rfl <| W.q (mv rfl) rfl <| W.fv Try.ca186 rfl (fun w hm => bits_rotr _ 22 (by decide) (by decide) w) rfl <| W.q (xor_u32 rfl rfl) rfl <| W.q (sa rfl) rfl <| W.nil <| G.seq <| G.reg <| W.q (mv rfl) rfl <| W.q (mv rfl) rfl <| W.q (mv rfl) rfl <| W.q (and_u32 rfl rfl) rfl <| W.q (mv rfl) rfl <| W.q (mv rfl) rfl <| W.q (and_u32 rfl rfl) rfl <| W.q (xor_u32 rfl rfl) rfl <| W.q (mv rfl) rfl <| W.q (mv rfl) rfl <| W.q (and_u32 rfl rfl) rfl <| W.q (xor_u32 rfl rfl) rfl <| W.q (add_u32 rfl rfl) rfl <| W.q (sa rfl) rfl <| W.nil <| G.reg <| W.q (mv rfl) rfl <| W.q (mv rfl) rfl <| W.q (mv rfl) rfl <| W.q (mv rfl) rfl <| W.q (mv rfl) rfl <| W.q (add_u32 rfl rfl) rfl <| W.q (mv rfl) rfl <| W.q (mv rfl) rfl <| W.q (mv rfl) rfl <| W.q (mv rfl) rfl <| W.q (mv rfl) rfl <| W.q (add_u32 rfl rfl) rfl <| W.q (sa rfl) rfl <| W.q (sa rfl) rfl <| W.q (sa rfl) rfl <| W.q (sa rfl) rfl <| W.q (sa rfl) rfl <| W.q (sa rfl) rfl <| W.q (sa rfl) rfl <| W.q (sa rfl) rfl <| W.nil <| G.inb <| G.reg <| W.q (ad rfl rfl (by omega)) rfl <| W.q (mv rfl) rfl <| W.nil <| (ih (k + 1) (shaStep q (shaK.getD k 0) ((schedL bs 64).getD k 0)) ⟨by omega, by rw [hk.2]; rfl⟩ (by omega)).weak (Sub.co rfl ?_ <| Sub.co rfl ?_ <| Sub.co rfl ?_ <| Sub.co rfl ?_ <| Sub.co rfl ?_ <| Sub.co rfl ?_ <| Sub.co rfl ?_ <| Sub.co rfl ?_ <| Sub.cons rfl <| Sub.cons rfl <| Sub.cons rfl <| Sub.cons rfl <| Sub.cons rfl <| Sub.nil _) .rfl
    all_goals clear ih
    all_goals rfl
  · -- h2 False
    refine G.exit rfl <| G.seq <| G.seq <| G.reg <| W.q (mv rfl) rfl <| W.q (mv rfl) rfl <| W.q (mv rfl) rfl <| W.q (mv rfl) rfl <| W.q (mv rfl) rfl <| W.q (mv rfl) rfl <| W.q (mv rfl) rfl <| W.q (mv rfl) rfl <| W.q (bldas (cs := [_, _, _, _, _, _, _, _]) Try.arp222 rfl rfl rfl rfl) rfl <| W.q (mv rfl) rfl <| W.nil <| G.blk <| G.loop1 (α := Nat) (fun i => i ≤ 8) (fun i => [(120, i64 i)]) (fun i => [nb b1 (U ((List.zipWith (· + ·) s.l q.l).take i ++ s.l.drop i)) 222]) (fun i => 8 - i) [(2, _), (4, _), (119, _)] [_] 0 (by omega) (Sub.cons rfl <| Sub.cons rfl <| Sub.cons rfl <| Sub.cons rfl <| Sub.nil _) (fun w hm => (Dr.ent (.keep <| .keep <| .drop rfl <| .drop rfl <| .rfl)) w ((Ent.perm (.trans (.trans (.cons _ (.trans (.cons _ (.refl _)) (.swap _ _ _))) (.swap _ _ _)) (.trans (.cons _ (.trans (.cons _ (.trans (.cons _ (.refl _)) (.swap _ _ _))) (.swap _ _ _))) (.swap _ _ _)))) w hm)) (fun i hi ih2 => ?_)
    refine G.seq <| G.reg <| W.q (lt rfl rfl) rfl <| W.nil <| G.seq <| G.cdd rfl (fun h3 => ?_) (fun h3 => ?_)
    · -- h3 True
      have hq : (U q.l)[(i : Int).toNat]? = some (u32 (q.l.getD i 0)) := U_getD _ _ (by show _ < 8; omega)
      have hzg := zip_get s.l q.l i (0 + (i : Int).toNat * 1) (by omega) (by show _ < 8; omega) rfl
      have hzs := zip_step s.l q.l i (0 + (i : Int).toNat * 1) (by omega) (by show _ < 8; omega) rfl
      refine G.skip <| G.seq <| G.blk <| G.seq <| G.reg <| W.q (mv rfl) rfl <| W.q (ixs Try.underlying222 Try.sz125 Try.sc125 rfl rfl (by omega) (by omega) hq) rfl <| W.q (sa rfl) rfl <| W.q (sa rfl) rfl <| W.nil <| G.reg <| W.q (mv rfl) rfl <| W.q (iaa Try.ear222 rfl rfl (by omega) (by omega)) rfl <| W.q (ld Try.sc125 rfl (Cell.at .hd hzg)) rfl <| W.q (mv rfl) rfl <| W.q (add_u32 rfl rfl) rfl <| W.q (iaa Try.ear222 rfl rfl (by omega) (by omega)) rfl <| W.st (cs' := U ((List.zipWith (· + ·) s.l q.l).take (i + 1) ++ s.l.drop (i + 1))) Try.sz125 rfl rfl rfl rfl rfl .hd (by simp [S8.l]; omega) hzs <| W.nil <| G.inb <| G.reg <| W.q (ad rfl rfl (by omega)) rfl <| W.q (mv rfl) rfl <| W.nil <| (ih2 (i + 1) (by omega) (by omega)).weak (Sub.cons rfl <| Sub.cons rfl <| Sub.cons rfl <| Sub.cons rfl <| Sub.nil _) .rfl
    · -- h3 False
      have hi8 : i = 8 := by omega
      subst hi8
      refine G.exit rfl <| G.seq <| G.reg <| W.q (lda Try.agg222 Try.sz222 rfl (Cells.whole .hd) (by simp [S8.l])) rfl <| W.sta Try.sz222 rfl rfl (by simp [S8.l]) (U_one _) (.tl <| .hd) (by simp) <| W.q (sa rfl) rfl <| W.nil <| ret hX Try.results189 (RA.cella rfl Try.agg222 Try.sz222 (Cells.whole (.tl <| .hd)) (by simp [S8.l]) <| RA.tmp rfl <| RA.nil) fun w hm => done (H := []) rfl ?_ (Dr.ent (Dr.new rfl) w hm)
      rw [shaC, hk.2, show k = 64 by omega]; rfl
end Go.Proofs.Ytjalojbihpdghaa
