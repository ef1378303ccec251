/- Contracts: new cells' colors, shading. Own work of this claim. -/
import Derived.Test.YtnepiffboakehaaDoorGh
namespace Go.Proofs.YtnepiffboakehaaDoor.S
set_option linter.all false
open Go Go.Proofs
set_option maxHeartbeats 4000000
set_option maxRecDepth 100000

theorem new_len (g : Gcc) (s : Sto) (c : Int) : (g.new s c).C.length ≤ g.C.length := by
  unfold Gcc.new; split
  · simp
  · simp [Gcc.zero]
theorem shade_len (g : Gcc) (s : Sto) (c : Int) : (g.shade s c).C.length ≤ g.C.length := by
  unfold Gcc.shade; split
  · dsimp only; split
    · rw [shd_len]; exact Nat.le_refl _
    · exact Nat.le_refl _
  · simp [Gcc.zero]
end Go.Proofs.YtnepiffboakehaaDoor.S
