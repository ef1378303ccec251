/- Contracts: sizes and copies of a program and a collector, for laws of the exact kind. Own work of this claim. -/
import Derived.Test.YthldlaiplfennaaGreatHc
namespace Go.Proofs.YthldlaiplfennaaGreat.S
set_option linter.all false
open Go Go.Proofs
set_option maxHeartbeats 4000000
set_option maxRecDepth 100000

theorem szBoth_t (b : Bth) (hl : ((b.s.h.L.length ≤ 9223372036854775807 ∧ b.s.h.R.length ≤ 9223372036854775807 ∧ b.s.h.T.length ≤ 9223372036854775807) ∧ b.s.F.length ≤ 9223372036854775807) ∧ b.g.C.length ≤ 9223372036854775807 ∧ b.o.length ≤ 9223372036854775807) : ∃ v : Int, (¬ v < 0 → (((b.s.h.L.length ≤ 4194304 ∧ b.s.h.R.length ≤ 4194304 ∧ b.s.h.T.length ≤ 4194304) ∧ b.s.F.length ≤ 4194304) ∧ b.g.C.length ≤ 4194304) ∧ b.o.length ≤ 4194304) ∧
    Fn Tryz.prog 5 [(0, .c false (.ints b.s.h.L)), (1, .c false (.ints b.s.h.R)), (2, .c false (.ints b.s.h.T)), (3, .c false (.ints b.s.F)), (4, .c false (.ints b.g.C)), (5, .c false (.ops b.o))] [.agg [.sl 0 0 b.s.h.L.length, .sl 1 0 b.s.h.R.length, .sl 2 0 b.s.h.T.length, .sl 3 0 b.s.F.length, .int .i64 b.g.p, .sl 4 0 b.g.C.length, .int .i64 b.g.a, .sl 5 0 b.o.length, .int .i64 b.a, .bool b.l], .int .i64 1048576] (fun r H => r = .int .i64 v ∧ H = []) := by
  have hZ0 := szStore_c b.s 1048576 hl.1 (by omega)
  have hs0 := @szS_ok b.s 1048576
  have hs20 := @szS_le b.s 1048576
  have hC := hl.2.1
  have hO := hl.2.2
  clear hl
  generalize szS b.s 1048576 = v at *
  by_cases h1 : v < 0
  · refine ⟨-1, fun q => absurd (by omega : (-1 : Int) < 0) q, ?_⟩
    clear hs0 hs20
    refine Fn_go Tryz.func5 ?_
    refine W_go ?_
    refine W_c1 [(0, (0, 0)), (1, (1, 0)), (2, (2, 0)), (3, (3, 0))] hZ0 ?_
    refine W_go ?_
    refine W_if (fun z => ?_) (fun z => ?_)
    case' refine_2 => exact absurd h1 z
    refine W_go ?_
    refine W_rt [] [] ?_
    exact ⟨rfl, rfl⟩
  have hs := hs0 h1
  have hs2 := hs20 h1
  clear hs0 hs20
  have hZ1 := szGc_c b.g v hC (by omega)
  have b1 := @szI_lt b.g.C v
  generalize szI b.g.C v = v1 at *
  by_cases h2 : v1 < 0
  · refine ⟨-1, fun q => absurd (by omega : (-1 : Int) < 0) q, ?_⟩
    clear b1 hs
    refine Fn_go Tryz.func5 ?_
    refine W_go ?_
    refine W_c1 [(0, (0, 0)), (1, (1, 0)), (2, (2, 0)), (3, (3, 0))] hZ0 ?_
    refine W_go ?_
    refine W_if (fun z => ?_) (fun z => ?_)
    case' refine_1 => exact absurd z h1
    refine W_go ?_
    refine W_c1 [(0, (4, 0))] hZ1 ?_
    refine W_go ?_
    refine W_if (fun z => ?_) (fun z => ?_)
    case' refine_2 => exact absurd h2 z
    refine W_go ?_
    refine W_rt [] [] ?_
    exact ⟨rfl, rfl⟩
  have hZ2 := szOpS_c b.o v1 hO (by omega)
  have b2 : (if v1 < b.o.length then -1 else v1 - b.o.length : Int) < 0 ∨ b.o.length ≤ 4194304 := by split <;> omega
  generalize (if v1 < b.o.length then -1 else v1 - b.o.length : Int) = v2 at *
  by_cases h3 : v2 < 0
  · refine ⟨-1, fun q => absurd (by omega : (-1 : Int) < 0) q, ?_⟩
    clear b1 b2 hs
    refine Fn_go Tryz.func5 ?_
    refine W_go ?_
    refine W_c1 [(0, (0, 0)), (1, (1, 0)), (2, (2, 0)), (3, (3, 0))] hZ0 ?_
    refine W_go ?_
    refine W_if (fun z => ?_) (fun z => ?_)
    case' refine_1 => exact absurd z h1
    refine W_go ?_
    refine W_c1 [(0, (4, 0))] hZ1 ?_
    refine W_go ?_
    refine W_if (fun z => ?_) (fun z => ?_)
    case' refine_1 => exact absurd z h2
    refine W_go ?_
    refine W_c1 [(0, (5, 0))] hZ2 ?_
    refine W_go ?_
    refine W_if (fun z => ?_) (fun z => ?_)
    case' refine_2 => exact absurd h3 z
    refine W_go ?_
    refine W_rt [] [] ?_
    exact ⟨rfl, rfl⟩
  refine ⟨v2, fun _ => by omega, ?_⟩
  clear b1 b2 hs
  refine Fn_go Tryz.func5 ?_
  refine W_go ?_
  refine W_c1 [(0, (0, 0)), (1, (1, 0)), (2, (2, 0)), (3, (3, 0))] hZ0 ?_
  refine W_go ?_
  refine W_if (fun z => ?_) (fun z => ?_)
  case' refine_1 => exact absurd z h1
  refine W_go ?_
  refine W_c1 [(0, (4, 0))] hZ1 ?_
  refine W_go ?_
  refine W_if (fun z => ?_) (fun z => ?_)
  case' refine_1 => exact absurd z h2
  refine W_go ?_
  refine W_c1 [(0, (5, 0))] hZ2 ?_
  refine W_go ?_
  refine W_if (fun z => ?_) (fun z => ?_)
  case' refine_1 => exact absurd z h3
  refine W_go ?_
  refine W_rt [] [] ?_
  exact ⟨rfl, rfl⟩
theorem toBoth_c (b : Bth) (hl : (((b.s.h.L.length ≤ 4194304 ∧ b.s.h.R.length ≤ 4194304 ∧ b.s.h.T.length ≤ 4194304) ∧ b.s.F.length ≤ 4194304) ∧ b.g.C.length ≤ 4194304) ∧ b.o.length ≤ 4194304) : Fn Tryz.prog 7 [(0, .c false (.ints b.s.h.L)), (1, .c false (.ints b.s.h.R)), (2, .c false (.ints b.s.h.T)), (3, .c false (.ints b.s.F)), (4, .c false (.ints b.g.C)), (5, .c false (.ops b.o))] [.agg [.sl 0 0 b.s.h.L.length, .sl 1 0 b.s.h.R.length, .sl 2 0 b.s.h.T.length, .sl 3 0 b.s.F.length, .int .i64 b.g.p, .sl 4 0 b.g.C.length, .int .i64 b.g.a, .sl 5 0 b.o.length, .int .i64 b.a, .bool b.l]] (fun r H => r = .agg [.sl 100 0 b.s.h.L.length, .sl 101 0 b.s.h.R.length, .sl 102 0 b.s.h.T.length, .sl 103 0 b.s.F.length, .int .i64 b.g.p, .sl 104 0 b.g.C.length, .int .i64 b.g.a, .sl 105 0 b.o.length, .int .i64 b.a, .bool b.l] ∧ H = [(100, .c true (.ints b.s.h.L)), (101, .c true (.ints b.s.h.R)), (102, .c true (.ints b.s.h.T)), (103, .c true (.ints b.s.F)), (104, .c true (.ints b.g.C)), (105, .c true (.ops b.o))]) := by
  have h1 := toStore_c b.s (by omega)
  have h2 := toGc_c b.g hl.1.2
  have h3 := toOpS_c b.o hl.2
  refine Fn_go Tryz.func7 ?_
  refine W_go ?_
  refine W_c1 [(0, (0, 0)), (1, (1, 0)), (2, (2, 0)), (3, (3, 0))] h1 ?_
  refine W_go ?_
  refine W_c1 [(0, (4, 0))] h2 ?_
  refine W_go ?_
  refine W_c1 [(0, (5, 0))] h3 ?_
  refine W_go ?_
  refine W_rt [(3088, (100, 0)), (3089, (101, 0)), (3090, (102, 0)), (3091, (103, 0)), (4112, (104, 0)), (5136, (105, 0))] [] ?_
  exact ⟨rfl, rfl⟩
end Go.Proofs.YthldlaiplfennaaGreat.S
