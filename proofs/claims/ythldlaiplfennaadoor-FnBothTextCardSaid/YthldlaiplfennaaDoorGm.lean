/- Contracts: the program's collector by steps. Own work of this claim. -/
import Derived.Test.YthldlaiplfennaaDoorGh
import Derived.Test.YthldlaiplfennaaDoorFj
import Derived.Test.YthldlaiplfennaaDoorA5
namespace Go.Proofs.YthldlaiplfennaaDoor.S
set_option linter.all false
open Go Go.Proofs
set_option maxHeartbeats 4000000
set_option maxRecDepth 100000

end Go.Proofs.YthldlaiplfennaaDoor.S
