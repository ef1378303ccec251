/- Contracts: stores drawn out of bytes, second part. Own work of this claim. -/
import Derived.Test.YtnepiffboakehaaGreatDoorGb
namespace Go.Proofs.YtnepiffboakehaaGreatDoor.S
set_option linter.all false
open Go Go.Proofs
set_option maxHeartbeats 4000000
set_option maxRecDepth 100000

theorem hok_L {h : Hp} (ho : h.ok) (k : Nat) {x : Int} (hx : -1 ≤ x ∧ x < h.L.length) : Hp.ok ⟨h.L.set k x, h.R, h.T⟩ := by
  obtain ⟨⟨l1, l2, l3, l4, l5⟩, o1, o2, o3⟩ := ho
  exact ⟨⟨by simpa using l1, by simpa using l2, by simpa using l3, l4, l5⟩, by simpa using okP_set' o1 k hx, by simpa using o2, by simpa using o3⟩
theorem hok_R {h : Hp} (ho : h.ok) (k : Nat) {x : Int} (hx : -1 ≤ x ∧ x < h.L.length) : Hp.ok ⟨h.L, h.R.set k x, h.T⟩ := by
  obtain ⟨⟨l1, l2, l3, l4, l5⟩, o1, o2, o3⟩ := ho
  exact ⟨⟨l1, l2, by simpa using l3, l4, l5⟩, o1, okP_set' o2 k hx, o3⟩
theorem hok_T {h : Hp} (ho : h.ok) (k : Nat) {x : Int} (hx : -1 ≤ x ∧ x < h.L.length) : Hp.ok ⟨h.L, h.R, h.T.set k x⟩ := by
  obtain ⟨⟨l1, l2, l3, l4, l5⟩, o1, o2, o3⟩ := ho
  exact ⟨⟨l1, l2, l3, by simpa using l4, by simpa using l5⟩, o1, o2, okP_set' o3 k hx⟩
theorem okP_rep (k n : Nat) : okP (List.replicate k (-1)) n := by
  intro j hj
  rw [List.length_replicate] at hj
  rw [List.getD_eq_getElem?_getD, List.getElem?_replicate, if_pos hj]
  simp only [Option.getD_some]; omega
theorem hok_new {a b : Nat} (ha : 1 ≤ a ∧ a ≤ 8) (hb : 1 ≤ b ∧ b ≤ 3) : Hp.ok ⟨List.replicate a (-1), List.replicate a (-1), List.replicate b (-1)⟩ := by
  refine ⟨by simpa using ⟨ha.1, ha.2, hb.1, hb.2⟩, okP_rep _ _, okP_rep _ _, okP_rep _ _⟩
theorem sto_new {a b : Nat} (ha : 1 ≤ a ∧ a ≤ 8) (hb : 1 ≤ b ∧ b ≤ 3) : Sto.ok ⟨⟨List.replicate a (-1), List.replicate a (-1), List.replicate b (-1)⟩, rngI a⟩ := by
  refine Sto.ok_of (hok_new ha hb) ?_ ?_
  · show (rngI a).Nodup
    unfold rngI List.Nodup
    rw [List.pairwise_map]
    exact List.Pairwise.imp (fun h e => h (by omega)) (List.nodup_range (n := a))
  · intro c hc
    have hc : c ∈ rngI a := hc
    unfold rngI at hc
    rw [List.mem_map] at hc
    obtain ⟨i, hi, rfl⟩ := hc
    rw [List.mem_range] at hi
    have nm : ∀ n, (i : Int) ∉ List.replicate n (-1 : Int) := fun n q => by
      have := List.eq_of_mem_replicate q
      omega
    have gd : (List.replicate a (-1 : Int)).getD (i : Int).toNat 0 = -1 := by
      rw [List.getD_eq_getElem?_getD, List.getElem?_replicate, if_pos (by omega)]; rfl
    exact ⟨⟨by omega, by show (i : Int) < (List.replicate a (-1 : Int)).length; rw [List.length_replicate]; omega⟩, gd, gd, nm _, nm _, nm _⟩
end Go.Proofs.YtnepiffboakehaaGreatDoor.S
