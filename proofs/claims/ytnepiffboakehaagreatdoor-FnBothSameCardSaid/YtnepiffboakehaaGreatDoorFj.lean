/- Contracts: the given program, cells are freed. Own work of this claim. -/
import Derived.Test.YtnepiffboakehaaGreatDoorFi
namespace Go.Proofs.YtnepiffboakehaaGreatDoor.S
set_option linter.all false
open Go Go.Proofs
set_option maxHeartbeats 4000000
set_option maxRecDepth 100000
set_option linter.unusedVariables false

/-- One cell is cleared. -/
def f1 (l : List Int) (c : Int) (j : Nat) : Int := if (l.set c.toNat (-1)).getD j 0 = c then -1 else (l.set c.toNat (-1)).getD j 0
end Go.Proofs.YtnepiffboakehaaGreatDoor.S
