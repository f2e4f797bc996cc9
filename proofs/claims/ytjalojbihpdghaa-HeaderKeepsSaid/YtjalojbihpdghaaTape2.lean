/- A tape's draws, in the document; lists of pieces compared; bytes spoilt. -/
import Derived.Test.YtjalojbihpdghaaTape1
namespace Go.Proofs.Ytjalojbihpdghaa
open Go Go.Eng
set_option linter.unusedVariables false

theorem RdL.sub {w : World} {a : Option Addr} {bs : List UInt8} (h : RdL w a (B bs)) (l n cap : Nat) (hl : bs.length ≤ cap) : RdL w (slA a l cap 1) (B ((bs.drop l).take n)) := by
  have := (h.slA (l := l) (cap := cap) (s := 1) (by simp; omega)).take n
  simpa [B, List.map_take, List.map_drop] using this
theorem ent_bb0 {w0 w : World} {a : Option Addr} {cap : Nat} (ps : List Pc) (p : Pc) (H : List It) (hm : Mem w0 w (pcI p :: sl a (ps.length + 1) cap 22 1 (ps.map pcV ++ [pcV p]) :: (ps.map pcI ++ H))) :
    Mem w0 w (sl a (ps ++ [p]).length cap 22 1 ((ps ++ [p]).map pcV) :: ((ps ++ [p]).map pcI ++ H)) := by
  rw [List.length_append, List.map_append, List.map_append, List.append_assoc]
  exact hm.perm ((List.Perm.swap _ _ _).trans (.cons _ List.perm_middle.symm))
/-- Lists of pieces that are read. -/
def RdBB (w : World) (a : Option Addr) (ps : List Pc) : Prop := RdL w a (ps.map pcV) ∧ ∀ p ∈ ps, RdL w p.1 (B p.2.2) ∧ p.2.2.length ≤ 140737488351232


end Go.Proofs.Ytjalojbihpdghaa
