/- Contracts: allocation and operations, the program's. Own work of this claim. -/
import Derived.Test.YtnepiffboakehaaDoorFj
import Derived.Test.YtnepiffboakehaaDoorA4
namespace Go.Proofs.YtnepiffboakehaaDoor.S
set_option linter.all false
open Go Go.Proofs
set_option maxHeartbeats 4000000
set_option maxRecDepth 100000

end Go.Proofs.YtnepiffboakehaaDoor.S
