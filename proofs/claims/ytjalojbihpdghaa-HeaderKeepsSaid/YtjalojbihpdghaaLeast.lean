/- The least of several errors. -/
import Derived.Test.YtjalojbihpdghaaBytes1
namespace Go.Proofs.Ytjalojbihpdghaa
open Go Go.Eng
set_option linter.unusedVariables false

def stepL (least e : Int) : Int := if e ≠ 0 ∧ (least = 0 ∨ e < least) then e else least
def leastR (xs : List Int) : Int := xs.foldl stepL 0
theorem leastR_succ (xs : List Int) (k : Nat) (h : k < xs.length) : leastR (xs.take (k + 1)) = stepL (leastR (xs.take k)) xs[k] := by
  rw [List.take_succ_eq_append_getElem h, leastR, List.foldl_append]; rfl


end Go.Proofs.Ytjalojbihpdghaa
