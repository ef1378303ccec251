/- Contracts: the reference, allocation and operations. Own work of this claim. -/
import Derived.Test.YtnepiffboakehaaGreatDoorFc
import Derived.Test.YtnepiffboakehaaGreatDoorA4
namespace Go.Proofs.YtnepiffboakehaaGreatDoor.S
set_option linter.all false
open Go Go.Proofs
set_option maxHeartbeats 4000000
set_option maxRecDepth 100000

theorem sl5One_c (k : Int) : Fn Tryz.prog 141 [] [.int .i64 k] (fun r H => r = .bool (decide (k = 1 ∨ k = 7)) ∧ H = []) := by
  refine Fn_go Tryz.func141 ?_
  by_cases d1 : k = 1
  · replace d1 := eq_true d1
    refine W_gh ?_
    refine W_rt [] [] ?_
    exact ⟨by rw [decide_eq_true (.inl (of_eq_true d1))], rfl⟩
  refine W_gh ?_
  refine W_rt [] [] ?_
  exact ⟨by simp [d1], rfl⟩
theorem sAllocCell_c (s : Sto) (r : Int) (hl : (s.h.L.length ≤ 4194304 ∧ s.h.R.length ≤ 4194304 ∧ s.h.T.length ≤ 4194304) ∧ s.F.length ≤ 4194304) : Fn Tryz.prog 132 [(0, .c false (.ints s.h.L)), (1, .c false (.ints s.h.R)), (2, .c false (.ints s.h.T)), (3, .c false (.ints s.F))] [.agg [.sl 0 0 s.h.L.length, .sl 1 0 s.h.R.length, .sl 2 0 s.h.T.length, .sl 3 0 s.F.length], .int .i64 r] (fun x H => x = .tup [.agg [.sl 100 0 (s.alcS r).h.L.length, .sl 101 0 (s.alcS r).h.R.length, .sl 102 0 (s.alcS r).h.T.length, .sl 103 0 (s.alcS r).F.length], .int .i64 (s.alcC r), .bool (decide (s.alcOk r))] ∧ H = [(100, .c true (.ints (s.alcS r).h.L)), (101, .c true (.ints (s.alcS r).h.R)), (102, .c true (.ints (s.alcS r).h.T)), (103, .c true (.ints (s.alcS r).F))]) := by
  have hv := sStoreValid_c s hl
  refine Fn_go Tryz.func132 ?_
  by_cases g : s.alcOk r
  case neg =>
    have fin : Sto.zero = s.alcS r ∧ (0 : Int) = s.alcC r ∧ false = decide (s.alcOk r) := by
      rw [Sto.alcS, Sto.alcC, if_neg g, if_neg g, decide_eq_false g]; exact ⟨rfl, rfl, rfl⟩
    rw [← fin.1, ← fin.2.1, ← fin.2.2]
    clear fin
    replace g : Hold _ := ⟨g⟩
    by_cases g1 : s.valid = true
    case neg =>
      have g1 : s.valid = false := by simpa using g1
      rw [g1] at hv
      refine W_go ?_
      refine W_ch1 [(0, (0, 0)), (1, (1, 0)), (2, (2, 0)), (3, (3, 0))] hv ?_
      refine W_ift ?_
      refine W_go ?_
      refine W_rt [] [(100, .ints []), (101, .ints []), (102, .ints []), (103, .ints [])] ?_
      exact ⟨rfl, rfl⟩
    have gk : Hold (s.valid = true) := ⟨g1⟩
    rw [g1] at hv
    by_cases g2 : r < 0
    · refine W_go ?_
      refine W_ch1 [(0, (0, 0)), (1, (1, 0)), (2, (2, 0)), (3, (3, 0))] hv ?_
      refine W_ift ?_
      refine W_go ?_
      refine W_rt [] [(100, .ints []), (101, .ints []), (102, .ints []), (103, .ints [])] ?_
      exact ⟨rfl, rfl⟩
    by_cases g3 : (s.h.T.length : Int) ≤ r
    · refine W_go ?_
      refine W_ch1 [(0, (0, 0)), (1, (1, 0)), (2, (2, 0)), (3, (3, 0))] hv ?_
      refine W_ift ?_
      refine W_go ?_
      refine W_rt [] [(100, .ints []), (101, .ints []), (102, .ints []), (103, .ints [])] ?_
      exact ⟨rfl, rfl⟩
    have g4 : (s.F.length : Int) = 0 := by
      by_cases q : s.F.length = 0
      · omega
      · exact absurd ⟨by simpa [Sto.valid] using gk.told, by omega, by omega, q⟩ g.told
    refine W_go ?_
    refine W_ch1 [(0, (0, 0)), (1, (1, 0)), (2, (2, 0)), (3, (3, 0))] hv ?_
    refine W_ift ?_
    refine W_go ?_
    refine W_rt [] [(100, .ints []), (101, .ints []), (102, .ints []), (103, .ints [])] ?_
    exact ⟨rfl, rfl⟩
  have hok := g.1
  have hr := g.2.1
  have hr2 := g.2.2.1
  have hF := g.2.2.2
  have hv2 : s.valid = true := by simpa [Sto.valid] using hok
  rw [hv2] at hv
  have hc := sl4Copy_c s hl
  rw [Sto.alcS, Sto.alcC, if_pos g, if_pos g, decide_eq_true g]
  have hTs : List.take s.h.T.length (s.h.T.set r.toNat (s.F.getD 0 0)) = s.h.T.set r.toNat (s.F.getD 0 0) := List.take_of_length_le (by simp)
  have hFs : List.take (s.F.length - 1) (List.drop 1 s.F) = List.drop 1 s.F := List.take_of_length_le (by simp)
  have n1 : ¬ r < 0 := by omega
  have n2 : ¬ (s.h.T.length : Int) ≤ r := by omega
  have n3 : ¬ (s.F.length : Int) = 0 := by omega
  clear g hok hv2
  replace hTs : Hold _ := ⟨hTs⟩
  replace hFs : Hold _ := ⟨hFs⟩
  refine W_go ?_
  refine W_ch1 [(0, (0, 0)), (1, (1, 0)), (2, (2, 0)), (3, (3, 0))] hv ?_
  refine W_iff ?_
  refine W_go ?_
  refine W_c1 [(0, (0, 0)), (1, (1, 0)), (2, (2, 0)), (3, (3, 0))] hc ?_
  refine W_go ?_
  refine W_go ?_
  refine W_go ?_
  refine W_go ?_
  rw [show Int.toNat 1 = 1 from rfl, hFs.told]
  refine W_rt [(4104, (100, 0)), (4105, (101, 0)), (4106, (102, 0)), (6176, (103, 0))] [] ?_
  constructor <;> simp
end Go.Proofs.YtnepiffboakehaaGreatDoor.S
