/- Contracts: the reference's operations. Own work of this claim. -/
import Derived.Test.YtnepiffboakehaaDoorFw
import Derived.Test.YtnepiffboakehaaDoorA5
namespace Go.Proofs.YtnepiffboakehaaDoor.S
set_option linter.all false
open Go Go.Proofs
set_option maxHeartbeats 4000000
set_option maxRecDepth 100000

end Go.Proofs.YtnepiffboakehaaDoor.S
