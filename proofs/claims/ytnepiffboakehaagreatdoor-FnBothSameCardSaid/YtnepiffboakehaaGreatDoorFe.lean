/- Contracts: the given program's reference, garbage. Own work of this claim. -/
import Derived.Test.YtnepiffboakehaaGreatDoorFd
namespace Go.Proofs.YtnepiffboakehaaGreatDoor.S
set_option linter.all false
open Go Go.Proofs
set_option maxHeartbeats 4000000
set_option maxRecDepth 100000
set_option linter.unusedVariables false

theorem reach_nil {h : Hp} (g : h.valid = false) : h.reach = [] := by rw [Hp.reach, if_neg (by rw [g]; exact Bool.false_ne_true)]
theorem sReachable_c (h : Hp) (hl : h.L.length ≤ 4194304 ∧ h.R.length ≤ 4194304 ∧ h.T.length ≤ 4194304) : Fn Tryz.prog 125 [(0, .c false (.ints h.L)), (1, .c false (.ints h.R)), (2, .c false (.ints h.T))] [.agg [.sl 0 0 h.L.length, .sl 1 0 h.R.length, .sl 2 0 h.T.length]] (fun r H => r = .sl 100 0 h.reach.length ∧ H = [(100, .c true (.bools h.reach))]) := by
  have hv := sHeapValid_c h hl
  refine Fn_go Tryz.func125 ?_
  refine W_go ?_
  by_cases g1 : h.valid = true
  case neg =>
    have g1 : h.valid = false := by simpa using g1
    rw [g1] at hv
    refine W_c1 [(0, (0, 0)), (1, (1, 0)), (2, (2, 0))] hv ?_
    refine W_ift ?_
    refine W_go ?_
    refine W_rt [(2048, (100, 0))] [] ?_
    rw [reach_nil g1]
    exact ⟨rfl, rfl⟩
  rw [g1] at hv
  refine W_c1 [(0, (0, 0)), (1, (1, 0)), (2, (2, 0))] hv ?_
  refine W_iff ?_
  refine W_go ?_
  have ho := (Hp.ok_iff _).1 g1
  have hd := sl2Distances_c h ho
  have l1 : h.L.length ≤ 8 := ho.1.2.1
  replace ho : Hold _ := ⟨ho⟩
  refine W_ce [(0, (0, 0)), (1, (1, 0)), (2, (2, 0))] hd ?_
  rintro D ⟨hD, hR⟩
  replace hR : Hold _ := ⟨hR⟩
  refine W_go ?_
  refine W_lp (T := 6) (σ := Nat) (me := fun i => [(3, .sl 2048 0 i), (5, .int .i64 i)]) (mh := fun i => [(2048, .c true (.bools (posN D i)))]) (inv := fun i => i ≤ h.L.length) (m := fun i => h.L.length - i) (s0 := 0) (by omega) ?_
  rintro i hi
  have hpl := posN_len D i
  refine W_go ?_
  refine W_if (fun h1 => ?_) (fun h1 => ?_)
  · refine W_go ?_
    refine W_rk 6 [(1024, (1024, 0)), (9272, (2048, 0)), (5144, (5144, 0))] ?_
    exact W_bh (i + 1) (by omega) (by omega) (by rw [posN_succ, List.take_of_length_le (by omega)])
  · refine W_go ?_
    refine W_rt [(2048, (100, 0))] [] ?_
    have e : i = h.L.length := by omega
    subst e
    rw [← reach_of g1 hR.told, hpl]
    exact ⟨rfl, rfl⟩
end Go.Proofs.YtnepiffboakehaaGreatDoor.S
