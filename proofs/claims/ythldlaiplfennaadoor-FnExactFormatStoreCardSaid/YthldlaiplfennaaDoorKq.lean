/- Contracts: the law FnExactFormatStore. Own work of this claim. -/
import Derived.Test.YthldlaiplfennaaDoorHi
import Derived.Test.YthldlaiplfennaaDoorFa
namespace Go.Proofs.YthldlaiplfennaaDoor.S
set_option linter.all false
open Go Go.Proofs
set_option maxHeartbeats 4000000
set_option maxRecDepth 100000

theorem lExactFormatStore_c (s : Sto) (hl : (s.h.L.length ≤ 9223372036854775807 ∧ s.h.R.length ≤ 9223372036854775807 ∧ s.h.T.length ≤ 9223372036854775807) ∧ s.F.length ≤ 9223372036854775807) :
    Fn Tryd.prog 6 [(0, .c false (.ints s.h.L)), (1, .c false (.ints s.h.R)), (2, .c false (.ints s.h.T)), (3, .c false (.ints s.F))] [.agg [.sl 0 0 s.h.L.length, .sl 1 0 s.h.R.length, .sl 2 0 s.h.T.length, .sl 3 0 s.F.length]] (fun r H => r = .bool true ∧ H = []) := by
  have hZ0 := szStore_c s 1048576 hl (by omega)
  have hs0 := @szS_ok s 1048576
  generalize szS s 1048576 = v at *
  by_cases h1 : v < 0
  · clear hs0
    refine Fn_go Tryd.func6 ?_
    refine W_go ?_
    refine W_c1 [(0, (0, 0)), (1, (1, 0)), (2, (2, 0)), (3, (3, 0))] hZ0 ?_
    refine W_go ?_
    refine W_if (fun z => ?_) (fun z => ?_)
    case' refine_2 => exact absurd h1 z
    refine W_go ?_
    refine W_rt [] [] ?_
    exact ⟨rfl, rfl⟩
  have hs := hs0 h1
  have hb : (s.h.L.length ≤ 4194304 ∧ s.h.R.length ≤ 4194304 ∧ s.h.T.length ≤ 4194304) ∧ s.F.length ≤ 4194304 := by omega
  have hT := toStore_c s (by omega)
  have hE := eqStore_t s hb
  have hS := sFormatStore_c s hb
  have hI := iFormatStore_c s hb
  generalize bs s.text = y at *
  clear hs0 hs
  refine Fn_go Tryd.func6 ?_
  refine W_go ?_
  refine W_c1 [(0, (0, 0)), (1, (1, 0)), (2, (2, 0)), (3, (3, 0))] hZ0 ?_
  refine W_go ?_
  refine W_if (fun z => ?_) (fun z => ?_)
  case' refine_1 => exact absurd z h1
  refine W_go ?_
  refine W_c2 [(0, (0, 0)), (1, (1, 0)), (2, (2, 0)), (3, (3, 0))] hT [(0, (6152, 0)), (1, (6153, 0)), (2, (6154, 0)), (3, (6155, 0))] hS ?_
  refine W_go ?_
  refine W_c1 [(0, (0, 0)), (1, (1, 0)), (2, (2, 0)), (3, (3, 0))] hT ?_
  refine W_go ?_
  refine W_c1 [(0, (7176, 0)), (1, (7177, 0)), (2, (7178, 0)), (3, (7179, 0))] hI ?_
  refine W_go ?_
  refine W_iff ?_
  repeat (first | refine W_seq ?_ | refine W_skip ?_ | refine W_block ?_ | refine W_pop ?_ | refine W_o ?_)
  refine W_dc2 [(0, (0, 0)), (1, (1, 0)), (2, (2, 0)), (3, (3, 0))] hT [(0, (7176, 0)), (1, (7177, 0)), (2, (7178, 0)), (3, (7179, 0)), (4, (11280, 0)), (5, (11281, 0)), (6, (11282, 0)), (7, (11283, 0))] hE [.c _ _ _, .c _ _ _] ?_
  refine W_iff ?_
  refine W_go ?_
  refine W_go ?_
  refine W_rt [] [] ?_
  exact ⟨rfl, rfl⟩
end Go.Proofs.YthldlaiplfennaaDoor.S
