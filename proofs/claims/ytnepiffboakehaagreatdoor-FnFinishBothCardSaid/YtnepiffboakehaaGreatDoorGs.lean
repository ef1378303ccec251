/- Contracts: the reference's step of a collector, runs of both, what is drawn for them. Own work of this claim. -/
import Derived.Test.YtnepiffboakehaaGreatDoorGm
import Derived.Test.YtnepiffboakehaaGreatDoorGk
import Derived.Test.YtnepiffboakehaaGreatDoorA5
import Derived.Test.YtnepiffboakehaaGreatDoorSz
namespace Go.Proofs.YtnepiffboakehaaGreatDoor.S
set_option linter.all false
open Go Go.Proofs
set_option maxHeartbeats 4000000
set_option maxRecDepth 100000

theorem sl13OwnHeap_c (h : Hp) (hl : h.L.length ≤ 4194304 ∧ h.R.length ≤ 4194304 ∧ h.T.length ≤ 4194304) : Fn Tryz.prog 136 [(0, .c false (.ints h.L)), (1, .c false (.ints h.R)), (2, .c false (.ints h.T))] [.agg [.sl 0 0 h.L.length, .sl 1 0 h.R.length, .sl 2 0 h.T.length]] (fun r H => r = .agg [.sl 100 0 h.L.length, .sl 101 0 h.R.length, .sl 102 0 h.T.length] ∧ H = [(100, .c true (.ints h.L)), (101, .c true (.ints h.R)), (102, .c true (.ints h.T))]) := by
  refine Fn_go Tryz.func136 ?_
  refine W_go ?_
  exact W_rt [(2072, (100, 0)), (3096, (101, 0)), (4120, (102, 0))] [] ⟨rfl, rfl⟩
theorem sl13OwnStore_c (s : Sto) (hl : (s.h.L.length ≤ 4194304 ∧ s.h.R.length ≤ 4194304 ∧ s.h.T.length ≤ 4194304) ∧ s.F.length ≤ 4194304) : Fn Tryz.prog 102 [(0, .c false (.ints s.h.L)), (1, .c false (.ints s.h.R)), (2, .c false (.ints s.h.T)), (3, .c false (.ints s.F))] [.agg [.sl 0 0 s.h.L.length, .sl 1 0 s.h.R.length, .sl 2 0 s.h.T.length, .sl 3 0 s.F.length]] (fun r H => r = .agg [.sl 100 0 s.h.L.length, .sl 101 0 s.h.R.length, .sl 102 0 s.h.T.length, .sl 103 0 s.F.length] ∧ H = [(100, .c true (.ints s.h.L)), (101, .c true (.ints s.h.R)), (102, .c true (.ints s.h.T)), (103, .c true (.ints s.F))]) := by
  refine Fn_go Tryz.func102 ?_
  refine W_go ?_
  refine W_c1 [(0, (0, 0)), (1, (1, 0)), (2, (2, 0))] (sl13OwnHeap_c s.h hl.1) ?_
  refine W_go ?_
  exact W_rt [(2064, (100, 0)), (2065, (101, 0)), (2066, (102, 0)), (3096, (103, 0))] [] ⟨rfl, rfl⟩
end Go.Proofs.YtnepiffboakehaaGreatDoor.S
