/- Contracts: the reference's step of a collector, runs of both, what is drawn for them. Own work of this claim. -/
import Derived.Test.YthldlaiplfennaaDoorGm
import Derived.Test.YthldlaiplfennaaDoorGk
import Derived.Test.YthldlaiplfennaaDoorA5
import Derived.Test.YthldlaiplfennaaDoorSz
namespace Go.Proofs.YthldlaiplfennaaDoor.S
set_option linter.all false
open Go Go.Proofs
set_option maxHeartbeats 4000000
set_option maxRecDepth 100000

end Go.Proofs.YthldlaiplfennaaDoor.S
