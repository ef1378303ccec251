/- Contracts: the given program, reach and garbage. Own work of this claim. -/
import Derived.Test.YtnepiffboakehaaGreatDoorFh
namespace Go.Proofs.YtnepiffboakehaaGreatDoor.S
set_option linter.all false
open Go Go.Proofs
set_option maxHeartbeats 4000000
set_option maxRecDepth 100000
set_option linter.unusedVariables false

end Go.Proofs.YtnepiffboakehaaGreatDoor.S
