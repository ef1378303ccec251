/- Contracts: allocation and operations, the program's. Own work of this claim. -/
import Derived.Test.YtnepiffboakehaaGreatDoorFj
import Derived.Test.YtnepiffboakehaaGreatDoorA4
namespace Go.Proofs.YtnepiffboakehaaGreatDoor.S
set_option linter.all false
open Go Go.Proofs
set_option maxHeartbeats 4000000
set_option maxRecDepth 100000

theorem iOpValid_c (k a b : Int) (n : Nat) (hn : n ≤ 4194304) : Fn Tryz.prog 90 [] [.agg [.int .i64 k, .int .i64 a, .int .i64 b], .int .i64 n] (fun r H => r = .bool (decide (opOk k a b n)) ∧ H = []) := by
  refine Fn_go Tryz.func90 ?_
  by_cases c1 : k < 1
  · refine W_gh ?_
    refine W_ift ?_
    refine W_go ?_
    refine W_rt [] [] ?_
    exact ⟨by rw [decide_eq_false]; rintro ⟨q, _⟩; omega, rfl⟩
  by_cases c2 : 7 < k
  · refine W_gh ?_
    refine W_ift ?_
    refine W_go ?_
    refine W_rt [] [] ?_
    exact ⟨by rw [decide_eq_false]; rintro ⟨q, _⟩; omega, rfl⟩
  by_cases c3 : a < 0
  · refine W_gh ?_
    refine W_ift ?_
    refine W_go ?_
    refine W_rt [] [] ?_
    exact ⟨by rw [decide_eq_false]; rintro ⟨q, _⟩; omega, rfl⟩
  by_cases c4 : 3 ≤ a
  · refine W_gh ?_
    refine W_ift ?_
    refine W_go ?_
    refine W_rt [] [] ?_
    exact ⟨by rw [decide_eq_false]; rintro ⟨q, _⟩; omega, rfl⟩
  by_cases c5 : (n : Int) ≤ a
  · refine W_gh ?_
    refine W_ift ?_
    refine W_go ?_
    refine W_rt [] [] ?_
    exact ⟨by rw [decide_eq_false]; rintro ⟨q, _⟩; omega, rfl⟩
  by_cases c6 : b < 0
  · refine W_gh ?_
    refine W_ift ?_
    refine W_go ?_
    refine W_rt [] [] ?_
    exact ⟨by rw [decide_eq_false]; rintro ⟨q, _⟩; omega, rfl⟩
  by_cases c7 : 3 ≤ b
  · refine W_gh ?_
    refine W_ift ?_
    refine W_go ?_
    refine W_rt [] [] ?_
    exact ⟨by rw [decide_eq_false]; rintro ⟨q, _⟩; omega, rfl⟩
  refine W_gh ?_
  refine W_iff ?_
  by_cases d1 : k = 1
  · replace d1 := eq_true d1
    refine W_gh ?_
    refine W_ift ?_
    refine W_go ?_
    refine W_rt [] [] ?_
    refine ⟨?_, rfl⟩
    congr 1
    rw [decide_eq_decide, opOk, if_pos (.inl (of_eq_true d1))]
    omega
  by_cases d2 : k = 7
  · replace d2 := eq_true d2
    refine W_gh ?_
    refine W_ift ?_
    refine W_go ?_
    refine W_rt [] [] ?_
    refine ⟨?_, rfl⟩
    congr 1
    rw [decide_eq_decide, opOk, if_pos (.inr (of_eq_true d2))]
    omega
  refine W_gh ?_
  refine W_iff ?_
  refine W_go ?_
  refine W_rt [] [] ?_
  refine ⟨?_, rfl⟩
  congr 1
  rw [decide_eq_decide, opOk, if_neg (by omega)]
  omega
end Go.Proofs.YtnepiffboakehaaGreatDoor.S
