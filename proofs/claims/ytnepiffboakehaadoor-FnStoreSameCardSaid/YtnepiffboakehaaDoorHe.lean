/- Contracts: two of both held against each other. Own work of this claim. -/
import Derived.Test.YtnepiffboakehaaDoorGv
import Derived.Test.YtnepiffboakehaaDoorGh
import Derived.Test.YtnepiffboakehaaDoorGe
namespace Go.Proofs.YtnepiffboakehaaDoor.S
set_option linter.all false
open Go Go.Proofs
set_option maxHeartbeats 4000000
set_option maxRecDepth 100000

theorem same_ofO {a b : List (Int × Int × Int)} (hl : a.length = b.length) (h : ∀ j, j < a.length → a.getD j (0, 0, 0) = b.getD j (0, 0, 0)) : a = b := by
  apply List.ext_getElem hl
  intro i h1 h2
  have := h i h1
  rw [List.getD_eq_getElem?_getD, List.getD_eq_getElem?_getD, List.getElem?_eq_getElem h1, List.getElem?_eq_getElem h2] at this
  exact this
def Bth.same (a b : Bth) : Bool := a.s.same b.s && a.g.same b.g && decide (a.o = b.o) && decide (a.a = b.a) && (a.l == b.l)
theorem Bth.same_self (b : Bth) : b.same b = true := by
  unfold Bth.same
  rw [S.same_self]
  simp [Gcc.same]
end Go.Proofs.YtnepiffboakehaaDoor.S
