/- Contracts: stores drawn out of bytes, second part. Own work of this claim. -/
import Derived.Test.YtnepiffboakehaaGreatDoorGb
namespace Go.Proofs.YtnepiffboakehaaGreatDoor.S
set_option linter.all false
open Go Go.Proofs
set_option maxHeartbeats 4000000
set_option maxRecDepth 100000

theorem okP_rep (k n : Nat) : okP (List.replicate k (-1)) n := by
  intro j hj
  rw [List.length_replicate] at hj
  rw [List.getD_eq_getElem?_getD, List.getElem?_replicate, if_pos hj]
  simp only [Option.getD_some]; omega
theorem hok_new {a b : Nat} (ha : 1 ≤ a ∧ a ≤ 8) (hb : 1 ≤ b ∧ b ≤ 3) : Hp.ok ⟨List.replicate a (-1), List.replicate a (-1), List.replicate b (-1)⟩ := by
  refine ⟨by simpa using ⟨ha.1, ha.2, hb.1, hb.2⟩, okP_rep _ _, okP_rep _ _, okP_rep _ _⟩
theorem sto_new {a b : Nat} (ha : 1 ≤ a ∧ a ≤ 8) (hb : 1 ≤ b ∧ b ≤ 3) : Sto.ok ⟨⟨List.replicate a (-1), List.replicate a (-1), List.replicate b (-1)⟩, rngI a⟩ := by
  refine Sto.ok_of (hok_new ha hb) ?_ ?_
  · show (rngI a).Nodup
    unfold rngI List.Nodup
    rw [List.pairwise_map]
    exact List.Pairwise.imp (fun h e => h (by omega)) (List.nodup_range (n := a))
  · intro c hc
    have hc : c ∈ rngI a := hc
    unfold rngI at hc
    rw [List.mem_map] at hc
    obtain ⟨i, hi, rfl⟩ := hc
    rw [List.mem_range] at hi
    have nm : ∀ n, (i : Int) ∉ List.replicate n (-1 : Int) := fun n q => by
      have := List.eq_of_mem_replicate q
      omega
    have gd : (List.replicate a (-1 : Int)).getD (i : Int).toNat 0 = -1 := by
      rw [List.getD_eq_getElem?_getD, List.getElem?_replicate, if_pos (by omega)]; rfl
    exact ⟨⟨by omega, by show (i : Int) < (List.replicate a (-1 : Int)).length; rw [List.length_replicate]; omega⟩, gd, gd, nm _, nm _, nm _⟩
end Go.Proofs.YtnepiffboakehaaGreatDoor.S
