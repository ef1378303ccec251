/- Contracts: the reference's step of a collector, runs of both, what is drawn for them. Own work of this claim. -/
import Derived.Test.YtnepiffboakehaaGreatDoorGm
import Derived.Test.YtnepiffboakehaaGreatDoorGk
import Derived.Test.YtnepiffboakehaaGreatDoorA5
import Derived.Test.YtnepiffboakehaaGreatDoorSz
namespace Go.Proofs.YtnepiffboakehaaGreatDoor.S
set_option linter.all false
open Go Go.Proofs
set_option maxHeartbeats 4000000
set_option maxRecDepth 100000

end Go.Proofs.YtnepiffboakehaaGreatDoor.S
