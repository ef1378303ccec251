/- Contracts: targets, validity and copies of a program and a collector. Own work of this claim. -/
import Derived.Test.YtnepiffboakehaaDoorGj
import Derived.Test.YtnepiffboakehaaDoorGu
import Derived.Test.YtnepiffboakehaaDoorPk
namespace Go.Proofs.YtnepiffboakehaaDoor.S
set_option linter.all false
open Go Go.Proofs
set_option maxHeartbeats 4000000
set_option maxRecDepth 100000

end Go.Proofs.YtnepiffboakehaaDoor.S
