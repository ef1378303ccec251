/- Contracts: a program and a collector begun, of both. Own work of this claim. -/
import Derived.Test.YtnepiffboakehaaDoorGn
import Derived.Test.YtnepiffboakehaaDoorGh
import Derived.Test.YtnepiffboakehaaDoorPj
namespace Go.Proofs.YtnepiffboakehaaDoor.S
set_option linter.all false
open Go Go.Proofs
set_option maxHeartbeats 4000000
set_option maxRecDepth 100000

end Go.Proofs.YtnepiffboakehaaDoor.S
