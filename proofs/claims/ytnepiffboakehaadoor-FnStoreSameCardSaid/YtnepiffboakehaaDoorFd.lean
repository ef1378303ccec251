/- Contracts: the given program's reference, reach. Own work of this claim. -/
import Derived.Test.YtnepiffboakehaaDoorFc
namespace Go.Proofs.YtnepiffboakehaaDoor.S
set_option linter.all false
open Go Go.Proofs
set_option maxHeartbeats 4000000
set_option maxRecDepth 100000
set_option linter.unusedVariables false

end Go.Proofs.YtnepiffboakehaaDoor.S
