/- A tape's draws. -/
import Derived.Test.YtjalojbihpdghaaCursor
namespace Go.Proofs.Ytjalojbihpdghaa
open Go Go.Eng
set_option linter.unusedVariables false

def drawR (bs : List UInt8) (at_ : Nat) (n : Int) : List UInt8 × Int × Nat := ((takeR bs at_ n).1, (if (takeR bs at_ n).2.1 = 2 then 8 else (takeR bs at_ n).2.1), (takeR bs at_ n).2.2)

/-- Pieces of memory of their own: address, capacity, bytes. -/
abbrev Pc := Option Addr × Nat × List UInt8
def pcV (p : Pc) : Value := .slice p.1 p.2.2.length p.2.1
def pcI (p : Pc) : It := sl p.1 p.2.2.length p.2.1 5 1 (B p.2.2)
theorem pcI_new (ps : List Pc) : allNew (ps.map pcI) = true := by simp [allNew, pcI, sl]
def NewBB (xss : List (List UInt8)) (v : Value) (J : List It) : Prop :=
  ∃ (a : Option Addr) (cap : Nat) (ps : List Pc), ps.map (fun p : Pc => p.2.2) = xss ∧ v = .slice a ps.length cap ∧ J = sl a ps.length cap 22 1 (ps.map pcV) :: ps.map pcI
theorem ent_bb {w0 w : World} {c : It} {a : Option Addr} {cap : Nat} (ps : List Pc) (p : Pc) (H : List It) (hm : Mem w0 w (c :: pcI p :: sl a (ps.length + 1) cap 22 1 (ps.map pcV ++ [pcV p]) :: (ps.map pcI ++ H))) :
    Mem w0 w (c :: sl a (ps ++ [p]).length cap 22 1 ((ps ++ [p]).map pcV) :: ((ps ++ [p]).map pcI ++ H)) := by
  rw [List.length_append, List.map_append, List.map_append, List.append_assoc]
  exact hm.perm (.cons _ ((List.Perm.swap _ _ _).trans (.cons _ List.perm_middle.symm)))
def cuts (bs : List UInt8) : Nat → List Nat → List (List UInt8)
  | _, [] => []
  | at_, n :: ns => (bs.drop at_).take n :: cuts bs (at_ + n) ns
theorem cuts_snoc (bs : List UInt8) (n : Nat) : ∀ (ns : List Nat) (at_ : Nat), cuts bs at_ (ns ++ [n]) = cuts bs at_ ns ++ [(bs.drop (at_ + ns.sum)).take n]
  | [], at_ => by simp [cuts]
  | m :: ns, at_ => by simp [cuts, cuts_snoc bs n ns, Nat.add_assoc]
theorem cuts_len (bs : List UInt8) : ∀ (ns : List Nat) (at_ : Nat), (cuts bs at_ ns).length = ns.length
  | [], _ => rfl
  | m :: ns, at_ => by simp [cuts, cuts_len bs ns]
/-- How far k sizes reach. -/
def upTo (sizes : List Int) (k : Nat) : Nat := ((sizes.take k).map Int.toNat).sum
theorem upTo_succ (sizes : List Int) (k : Nat) (h : k < sizes.length) : upTo sizes (k + 1) = upTo sizes k + sizes[k].toNat := by
  unfold upTo; rw [List.take_succ_eq_append_getElem h]
  simp only [List.map_append, List.sum_append, List.map_cons, List.map_nil, List.sum_cons, List.sum_nil, Nat.add_zero]
theorem upTo_mono (sizes : List Int) (k : Nat) : upTo sizes k ≤ upTo sizes sizes.length := by
  unfold upTo
  rw [List.take_length]
  have h := congrArg (fun l => (l.map Int.toNat).sum) (List.take_append_drop k sizes)
  simp only [List.map_append, List.sum_append] at h
  omega
def drawsR (bs : List UInt8) (at_ : Nat) (sizes : List Int) : List (List UInt8) × Int × Nat :=
  if ∃ n ∈ sizes, n < 0 then ([], 1, at_) else if bs.length < at_ + upTo sizes sizes.length then ([], 8, at_) else (cuts bs at_ (sizes.map Int.toNat), 0, at_ + upTo sizes sizes.length)
theorem neg_step {sizes : List Int} {k : Nat} (hk : ∀ n ∈ sizes.take k, ¬ n < 0) (h : k < sizes.length) (h2 : ¬ sizes[k] < 0) : ∀ n ∈ sizes.take (k + 1), ¬ n < 0 := by
  intro x hx
  rw [List.take_succ_eq_append_getElem h] at hx
  rcases List.mem_append.1 hx with hx | hx
  · exact hk x hx
  · simp at hx; subst hx; exact h2


set_option maxRecDepth 100000 in
theorem codec_NewCursor (a : Option Addr) (cap : Nat) (bs : List UInt8) (w : World) (hl : RdL w a (B bs)) (hb : bs.length ≤ 140737488351232) :
    Ret Try.prog 61 [.slice a bs.length cap] w (fun v J => ∃ b a' c', v = ptr b 0 ∧ J = [nb b [.slice a' bs.length c', i64 0] 149, sl a' bs.length c' 5 1 (B bs)]) := by
  refine enter [] (Mem.nil _) Try.func61 rfl Try.ntmps61 rfl (fun X hX => ?_)
  have hw := hX.w0; subst hw
  refine G.seq <| G.reg <| W.q (sa rfl) rfl <| W.nil <| G.seq <| G.reg <| W.q (mv rfl) rfl <| W.fn Try.ca57 rfl (fun w hm => bytes_Clone a cap bs w (hm.rd rfl hl) hb) rfl fun v J hv hJ => ?_
  obtain ⟨a1, c1, rfl, rfl⟩ := hv
  refine W.q (bld (cs := [_, _]) Try.stp149 rfl rfl) rfl <| W.bxa rfl rfl fun b1 => W.q (sa rfl) rfl <| W.nil <| ret1 hX Try.results61 rfl fun w hm => done rfl ⟨b1, a1, c1, rfl, rfl⟩ hm


end Go.Proofs.Ytjalojbihpdghaa
