/- Contracts: the given program's reference, garbage. Own work of this claim. -/
import Derived.Test.YtnepiffboakehaaDoorFd
namespace Go.Proofs.YtnepiffboakehaaDoor.S
set_option linter.all false
open Go Go.Proofs
set_option maxHeartbeats 4000000
set_option maxRecDepth 100000
set_option linter.unusedVariables false

theorem reach_nil {h : Hp} (g : h.valid = false) : h.reach = [] := by rw [Hp.reach, if_neg (by rw [g]; exact Bool.false_ne_true)]
theorem reach_le (h : Hp) : h.reach.length ≤ 8 := by
  rw [reach_len]; split
  · rename_i g; exact ((Hp.ok_iff _).1 g).1.2.1
  · omega
theorem garb_le (h : Hp) : h.garb.length ≤ 8 := Nat.le_trans (flsN_len _ _) (reach_le h)
theorem lost_le (s : Sto) : s.lost.length ≤ 8 := by
  unfold Sto.lost; split
  · exact Nat.le_trans (lkN_len _ _ _) (garb_le _)
  · simp
theorem lost_nil {s : Sto} (g : s.valid = false) : s.lost = [] := by rw [Sto.lost, if_neg (by rw [g]; exact Bool.false_ne_true)]
end Go.Proofs.YtnepiffboakehaaDoor.S
