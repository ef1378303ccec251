/- Contracts: a program and a collector in laws of the exact kind: equality, marks. Own work of this claim. -/
import Derived.Test.YthldlaiplfennaaDoorHa
import Derived.Test.YthldlaiplfennaaDoorGp
import Derived.Test.YthldlaiplfennaaDoorPj
namespace Go.Proofs.YthldlaiplfennaaDoor.S
set_option linter.all false
open Go Go.Proofs
set_option maxHeartbeats 4000000
set_option maxRecDepth 100000

theorem eqOpS_s (l : List (Int × Int × Int)) (hl : l.length ≤ 4194304) : Fn Tryd.prog 60 [(0, .c false (.ops l)), (1, .c false (.ops l))] [.sl 0 0 l.length, .sl 1 0 l.length] (fun r H => r = .bool true ∧ H = []) := by
  have := eqOpS_c l l hl hl
  rwa [decide_eq_true rfl] at this
theorem eqBoth_t (b : Bth) (hl : (((b.s.h.L.length ≤ 4194304 ∧ b.s.h.R.length ≤ 4194304 ∧ b.s.h.T.length ≤ 4194304) ∧ b.s.F.length ≤ 4194304) ∧ b.g.C.length ≤ 4194304) ∧ b.o.length ≤ 4194304) : Fn Tryd.prog 25 [(0, .c false (.ints b.s.h.L)), (1, .c false (.ints b.s.h.R)), (2, .c false (.ints b.s.h.T)), (3, .c false (.ints b.s.F)), (4, .c false (.ints b.g.C)), (5, .c false (.ops b.o)), (6, .c false (.ints b.s.h.L)), (7, .c false (.ints b.s.h.R)), (8, .c false (.ints b.s.h.T)), (9, .c false (.ints b.s.F)), (10, .c false (.ints b.g.C)), (11, .c false (.ops b.o))] [.agg [.sl 0 0 b.s.h.L.length, .sl 1 0 b.s.h.R.length, .sl 2 0 b.s.h.T.length, .sl 3 0 b.s.F.length, .int .i64 b.g.p, .sl 4 0 b.g.C.length, .int .i64 b.g.a, .sl 5 0 b.o.length, .int .i64 b.a, .bool b.l], .agg [.sl 6 0 b.s.h.L.length, .sl 7 0 b.s.h.R.length, .sl 8 0 b.s.h.T.length, .sl 9 0 b.s.F.length, .int .i64 b.g.p, .sl 10 0 b.g.C.length, .int .i64 b.g.a, .sl 11 0 b.o.length, .int .i64 b.a, .bool b.l]] (fun r H => r = .bool true ∧ H = []) := by
  have h1 := eqStore_t b.s hl.1.1
  have h2 := eqGc_t b.g hl.1.2
  have h3 := eqOpS_s b.o hl.2
  refine Fn_go Tryd.func25 ?_
  refine W_go ?_
  refine W_c1 [(0, (0, 0)), (1, (1, 0)), (2, (2, 0)), (3, (3, 0)), (4, (6, 0)), (5, (7, 0)), (6, (8, 0)), (7, (9, 0))] h1 ?_
  refine W_iff ?_
  refine W_go ?_
  refine W_c1 [(0, (4, 0)), (1, (10, 0))] h2 ?_
  refine W_iff ?_
  refine W_go ?_
  refine W_c1 [(0, (5, 0)), (1, (11, 0))] h3 ?_
  refine W_iff ?_
  refine W_go ?_
  refine W_iff ?_
  refine W_go ?_
  refine W_iff ?_
  refine W_go ?_
  refine W_rt [] [] ?_
  exact ⟨rfl, rfl⟩
end Go.Proofs.YthldlaiplfennaaDoor.S
