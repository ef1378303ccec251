/- Contracts: the given program, cells are freed. Own work of this claim. -/
import Derived.Test.YtnepiffboakehaaDoorFi
namespace Go.Proofs.YtnepiffboakehaaDoor.S
set_option linter.all false
open Go Go.Proofs
set_option maxHeartbeats 4000000
set_option maxRecDepth 100000
set_option linter.unusedVariables false

/-- One cell is cleared. -/
def f1 (l : List Int) (c : Int) (j : Nat) : Int := if (l.set c.toNat (-1)).getD j 0 = c then -1 else (l.set c.toNat (-1)).getD j 0
theorem clr1 (l : List Int) (c : Int) (hc : 0 ≤ c ∧ c < l.length) : preN (f1 l c) (l.set c.toNat (-1)) l.length = clrL l [c] := by
  have e : l.length = (l.set c.toNat (-1)).length := by simp
  have : preN (f1 l c) (l.set c.toNat (-1)) l.length = (List.range l.length).map (f1 l c) := by
    conv => lhs; rw [e]
    rw [pre_full, ← e]
  rw [this]
  unfold clrL
  apply List.map_congr_left
  intro j hj
  rw [List.mem_range] at hj
  unfold f1 clrAt
  rw [getD_set (by omega)]
  simp only [List.mem_singleton]
  by_cases h1 : c.toNat = j
  · rw [if_pos h1, if_neg (by omega), if_pos (.inr (by omega))]
  · rw [if_neg h1]
    by_cases h2 : l.getD j 0 = c
    · rw [if_pos h2, if_pos (.inl h2)]
    · rw [if_neg h2, if_neg (by rintro (q | q); exact h2 q; omega)]
end Go.Proofs.YtnepiffboakehaaDoor.S
