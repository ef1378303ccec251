/- Contracts: stores, numbers and operations drawn out of bytes. Own work of this claim. -/
import Derived.Test.YtnepiffboakehaaGreatDoorGc
namespace Go.Proofs.YtnepiffboakehaaGreatDoor.S
set_option linter.all false
open Go Go.Proofs
set_option maxHeartbeats 4000000
set_option maxRecDepth 100000

/-- What is drawn is small, and has cells. -/
def Sto.dr (s : Sto) : Prop := 1 ≤ s.h.L.length ∧ s.h.L.length ≤ 8 ∧ s.h.R.length ≤ 10 ∧ s.h.T.length ≤ 5 ∧ s.F.length ≤ 9
end Go.Proofs.YtnepiffboakehaaGreatDoor.S
