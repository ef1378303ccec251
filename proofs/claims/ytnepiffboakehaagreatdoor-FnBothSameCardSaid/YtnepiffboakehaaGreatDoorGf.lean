/- Contracts: roots put, pointers counted, sources. Own work of this claim. -/
import Derived.Test.YtnepiffboakehaaGreatDoorGe
namespace Go.Proofs.YtnepiffboakehaaGreatDoor.S
set_option linter.all false
open Go Go.Proofs
set_option maxHeartbeats 4000000
set_option maxRecDepth 100000

end Go.Proofs.YtnepiffboakehaaGreatDoor.S
