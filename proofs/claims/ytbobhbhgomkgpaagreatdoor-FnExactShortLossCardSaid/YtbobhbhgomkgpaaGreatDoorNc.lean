/- Contracts: the law FnExactShortLoss. Own work of this claim. -/
import Derived.Test.YtbobhbhgomkgpaaGreatDoorC5
import Derived.Test.YtbobhbhgomkgpaaGreatDoorC4
import Derived.Test.YtbobhbhgomkgpaaGreatDoorB9
namespace Go.Proofs.YtbobhbhgomkgpaaGreatDoor.S
set_option linter.all false
open Go Go.Proofs
set_option maxHeartbeats 4000000
set_option maxRecDepth 100000

theorem lExactShortLoss_c (b : Bth) (bar : Bool) (hl : (((b.s.h.L.length ≤ 9223372036854775807 ∧ b.s.h.R.length ≤ 9223372036854775807 ∧ b.s.h.T.length ≤ 9223372036854775807) ∧ b.s.F.length ≤ 9223372036854775807) ∧ b.g.C.length ≤ 9223372036854775807 ∧ b.o.length ≤ 9223372036854775807)) :
    Fn Tryz.prog 9 [(0, .c false (.ints b.s.h.L)), (1, .c false (.ints b.s.h.R)), (2, .c false (.ints b.s.h.T)), (3, .c false (.ints b.s.F)), (4, .c false (.ints b.g.C)), (5, .c false (.ops b.o))] [.agg [.sl 0 0 b.s.h.L.length, .sl 1 0 b.s.h.R.length, .sl 2 0 b.s.h.T.length, .sl 3 0 b.s.F.length, .int .i64 b.g.p, .sl 4 0 b.g.C.length, .int .i64 b.g.a, .sl 5 0 b.o.length, .int .i64 b.a, .bool b.l], .bool bar] (fun r H => r = .bool true ∧ H = []) := by
  obtain ⟨v, hv, hZ0⟩ := szBoth_t b hl
  by_cases h1 : v < 0
  · clear hv
    refine Fn_go Tryz.func9 ?_
    refine W_go ?_
    refine W_c1 [(0, (0, 0)), (1, (1, 0)), (2, (2, 0)), (3, (3, 0)), (4, (4, 0)), (5, (5, 0))] hZ0 ?_
    refine W_go ?_
    refine W_if (fun z => ?_) (fun z => ?_)
    case' refine_2 => exact absurd h1 z
    refine W_go ?_
    refine W_rt [] [] ?_
    exact ⟨rfl, rfl⟩
  have hb := hv h1
  have hT := toBoth_c b hb
  have hE := eqBoth_t b hb
  have hS := sShortLoss_c b bar hb
  have hI := iShortLoss_c b bar hb
  generalize sloS (b.slo bar) = y at *
  generalize (b.slo bar).isSome = z at *
  clear hv hl
  refine Fn_go Tryz.func9 ?_
  refine W_go ?_
  refine W_c1 [(0, (0, 0)), (1, (1, 0)), (2, (2, 0)), (3, (3, 0)), (4, (4, 0)), (5, (5, 0))] hZ0 ?_
  refine W_go ?_
  refine W_if (fun z => ?_) (fun z => ?_)
  case' refine_1 => exact absurd z h1
  clear hZ0
  refine W_go ?_
  refine W_c2 [(0, (0, 0)), (1, (1, 0)), (2, (2, 0)), (3, (3, 0)), (4, (4, 0)), (5, (5, 0))] hT [(0, (6152, 0)), (1, (6153, 0)), (2, (6154, 0)), (3, (6155, 0)), (4, (6156, 0)), (5, (6157, 0))] hS ?_
  clear hS
  refine W_go ?_
  refine W_c1 [(0, (0, 0)), (1, (1, 0)), (2, (2, 0)), (3, (3, 0)), (4, (4, 0)), (5, (5, 0))] hT ?_
  refine W_go ?_
  refine W_c1 [(0, (7176, 0)), (1, (7177, 0)), (2, (7178, 0)), (3, (7179, 0)), (4, (7180, 0)), (5, (7181, 0))] hI ?_
  clear hI
  refine W_go ?_
  refine W_iff ?_
  repeat (first | refine W_seq ?_ | refine W_skip ?_ | refine W_block ?_ | refine W_pop ?_ | refine W_o ?_)
  refine W_dc2 [(0, (0, 0)), (1, (1, 0)), (2, (2, 0)), (3, (3, 0)), (4, (4, 0)), (5, (5, 0))] hT [(0, (7176, 0)), (1, (7177, 0)), (2, (7178, 0)), (3, (7179, 0)), (4, (7180, 0)), (5, (7181, 0)), (6, (11280, 0)), (7, (11281, 0)), (8, (11282, 0)), (9, (11283, 0)), (10, (11284, 0)), (11, (11285, 0))] hE [.c _ _ _, .c _ _ _] ?_
  refine W_iff ?_
  refine W_go ?_
  refine W_go ?_
  refine W_rt [] [] ?_
  exact ⟨rfl, rfl⟩
end Go.Proofs.YtbobhbhgomkgpaaGreatDoor.S
