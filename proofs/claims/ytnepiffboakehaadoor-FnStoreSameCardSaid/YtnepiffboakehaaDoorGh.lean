/- Contracts: collectors, their colors. Own work of this claim. -/
import Derived.Test.YtnepiffboakehaaDoorGe
import Derived.Test.YtnepiffboakehaaDoorGf
import Derived.Test.YtnepiffboakehaaDoorFc
import Derived.Test.YtnepiffboakehaaDoorA5
namespace Go.Proofs.YtnepiffboakehaaDoor.S
set_option linter.all false
open Go Go.Proofs
set_option maxHeartbeats 4000000
set_option maxRecDepth 100000

def Gcc.fresh (s : Sto) : Gcc := if s.valid then ⟨0, List.replicate s.h.L.length 0, 0⟩ else .zero
end Go.Proofs.YtnepiffboakehaaDoor.S
