/- Contracts: the law FnExactStepBoth. Own work of this claim. -/
import Derived.Test.YthldlaiplfennaaGx
import Derived.Test.YthldlaiplfennaaHd
namespace Go.Proofs.Ythldlaiplfennaa.S
set_option linter.all false
open Go Go.Proofs
set_option maxHeartbeats 4000000
set_option maxRecDepth 100000

theorem lExactStepBoth_c (b : Bth) (hl : (((b.s.h.L.length ≤ 9223372036854775807 ∧ b.s.h.R.length ≤ 9223372036854775807 ∧ b.s.h.T.length ≤ 9223372036854775807) ∧ b.s.F.length ≤ 9223372036854775807) ∧ b.g.C.length ≤ 9223372036854775807 ∧ b.o.length ≤ 9223372036854775807)) :
    Fn Try.prog 4 [(0, .c false (.ints b.s.h.L)), (1, .c false (.ints b.s.h.R)), (2, .c false (.ints b.s.h.T)), (3, .c false (.ints b.s.F)), (4, .c false (.ints b.g.C)), (5, .c false (.ops b.o))] [.agg [.sl 0 0 b.s.h.L.length, .sl 1 0 b.s.h.R.length, .sl 2 0 b.s.h.T.length, .sl 3 0 b.s.F.length, .int .i64 b.g.p, .sl 4 0 b.g.C.length, .int .i64 b.g.a, .sl 5 0 b.o.length, .int .i64 b.a, .bool b.l]] (fun r H => r = .bool true ∧ H = []) := by
  refine Fn_go Try.func4 ?_
  obtain ⟨v, hv, hZ0⟩ := szBoth_t b hl
  refine W_go ?_
  refine W_c1 [(0, (0, 0)), (1, (1, 0)), (2, (2, 0)), (3, (3, 0)), (4, (4, 0)), (5, (5, 0))] hZ0 ?_
  refine W_go ?_
  refine W_if (fun h1 => ?_) (fun h1 => ?_)
  · refine W_go ?_
    refine W_rt [] [] ?_
    exact ⟨rfl, rfl⟩
  have hb := hv h1
  clear hZ0 hv hl h1
  have hT0 := toBoth_c b hb
  have hE00 := eqBoth_t b hb
  obtain ⟨k1, ms, hk1, hM00, -⟩ := markBoth_t b hb
  have hS := sStepBoth_c b hb
  have hI := iStepBoth_c b hb
  have hw := b.sgc_small
  generalize b.sgc = w at *
  generalize decide b.gcOk = wb at *
  have hw7 : (((w.s.h.L.length ≤ 4194304 ∧ w.s.h.R.length ≤ 4194304 ∧ w.s.h.T.length ≤ 4194304) ∧ w.s.F.length ≤ 4194304) ∧ w.g.C.length ≤ 4194304) ∧ w.o.length ≤ 4194304 := by omega
  have hE0 := eqBoth_t w hw7
  obtain ⟨k2, mw, hk2, hM0, hH0⟩ := markBoth_t w hw7
  refine W_ft 14 ?_
  refine W_go ?_
  refine W_c2 [(0, (0, 0)), (1, (1, 0)), (2, (2, 0)), (3, (3, 0)), (4, (4, 0)), (5, (5, 0))] hT0 [(0, (6152, 0)), (1, (6153, 0)), (2, (6154, 0)), (3, (6155, 0)), (4, (6156, 0)), (5, (6157, 0))] hS ?_
  refine W_go ?_
  refine W_c1 [(0, (0, 0)), (1, (1, 0)), (2, (2, 0)), (3, (3, 0)), (4, (4, 0)), (5, (5, 0))] hT0 ?_
  refine W_go ?_
  refine W_c1 [(0, (7176, 0)), (1, (7177, 0)), (2, (7178, 0)), (3, (7179, 0)), (4, (7180, 0)), (5, (7181, 0))] hI ?_
  refine W_go ?_
  refine W_rk 14 [(1024, (1024, 0)), (6192, (6192, 0)), (6160, (6160, 0)), (6161, (6161, 0)), (6162, (6162, 0)), (6163, (6163, 0)), (6164, (6164, 0)), (6165, (6165, 0)), (7184, (7184, 0)), (7176, (7176, 0)), (7177, (7177, 0)), (7178, (7178, 0)), (7179, (7179, 0)), (7180, (7180, 0)), (7181, (7181, 0)), (8232, (8232, 0)), (8200, (8200, 0)), (8201, (8201, 0)), (8202, (8202, 0)), (8203, (8203, 0)), (8204, (8204, 0)), (8205, (8205, 0))] ?_
  refine W_go ?_
  refine W_c1 [(0, (8200, 0)), (1, (8201, 0)), (2, (8202, 0)), (3, (8203, 0)), (4, (8204, 0)), (5, (8205, 0)), (6, (6160, 0)), (7, (6161, 0)), (8, (6162, 0)), (9, (6163, 0)), (10, (6164, 0)), (11, (6165, 0))] hE0 ?_
  refine W_iff ?_
  refine W_ft 14 ?_
  refine W_go ?_
  refine W_dc2 [(0, (0, 0)), (1, (1, 0)), (2, (2, 0)), (3, (3, 0)), (4, (4, 0)), (5, (5, 0))] hT0 [(0, (7176, 0)), (1, (7177, 0)), (2, (7178, 0)), (3, (7179, 0)), (4, (7180, 0)), (5, (7181, 0)), (6, (11280, 0)), (7, (11281, 0)), (8, (11282, 0)), (9, (11283, 0)), (10, (11284, 0)), (11, (11285, 0))] hE00 [.c _ _ _, .c _ _ _] ?_
  refine W_iff ?_
  refine W_ft 14 ?_
  refine W_go ?_
  refine W_c1 [(0, (7176, 0)), (1, (7177, 0)), (2, (7178, 0)), (3, (7179, 0)), (4, (7180, 0)), (5, (7181, 0))] hM00 ?_
  refine W_go ?_
  refine W_ch1 [(0, (8200, 0)), (1, (8201, 0)), (2, (8202, 0)), (3, (8203, 0)), (4, (8204, 0)), (5, (8205, 0)), (6, (6160, 0)), (7, (6161, 0)), (8, (6162, 0)), (9, (6163, 0)), (10, (6164, 0)), (11, (6165, 0))] hE0 ?_
  refine W_iff ?_
  refine W_ft 14 ?_
  refine W_go ?_
  refine W_c1 [(0, (8200, 0)), (1, (8201, 0)), (2, (8202, 0)), (3, (8203, 0)), (4, (8204, 0)), (5, (8205, 0))] hM0 ?_
  refine W_go ?_
  refine W_c1 [(0, (8200, 0)), (1, (8201, 0)), (2, (8202, 0)), (3, (8203, 0)), (4, (8204, 0)), (5, (8205, 0))] hH0 ?_
  refine W_go ?_
  refine W_if (fun h1 => ?_) (fun h1 => ?_)
  · exact absurd h1 (by assumption)
  clear h1
  refine W_ft 14 ?_
  refine W_go ?_
  refine W_iff ?_
  refine W_ft 14 ?_
  refine W_go ?_
  refine W_c2 [(0, (0, 0)), (1, (1, 0)), (2, (2, 0)), (3, (3, 0)), (4, (4, 0)), (5, (5, 0))] hT0 [(0, (25608, 0)), (1, (25609, 0)), (2, (25610, 0)), (3, (25611, 0)), (4, (25612, 0)), (5, (25613, 0))] hI ?_
  refine W_go ?_
  refine W_rk 14 [(1024, (1024, 0)), (6192, (6192, 0)), (6160, (6160, 0)), (6161, (6161, 0)), (6162, (6162, 0)), (6163, (6163, 0)), (6164, (6164, 0)), (6165, (6165, 0)), (7184, (7184, 0)), (7176, (7176, 0)), (7177, (7177, 0)), (7178, (7178, 0)), (7179, (7179, 0)), (7180, (7180, 0)), (7181, (7181, 0)), (8232, (8232, 0)), (8200, (8200, 0)), (8201, (8201, 0)), (8202, (8202, 0)), (8203, (8203, 0)), (8204, (8204, 0)), (8205, (8205, 0)), (25648, (25648, 0)), (25616, (25616, 0)), (25617, (25617, 0)), (25618, (25618, 0)), (25619, (25619, 0)), (25620, (25620, 0)), (25621, (25621, 0))] ?_
  refine W_go ?_
  refine W_c1 [(0, (25616, 0)), (1, (25617, 0)), (2, (25618, 0)), (3, (25619, 0)), (4, (25620, 0)), (5, (25621, 0)), (6, (6160, 0)), (7, (6161, 0)), (8, (6162, 0)), (9, (6163, 0)), (10, (6164, 0)), (11, (6165, 0))] hE0 ?_
  refine W_iff ?_
  refine W_ft 14 ?_
  refine W_go ?_
  refine W_c1 [(0, (8200, 0)), (1, (8201, 0)), (2, (8202, 0)), (3, (8203, 0)), (4, (8204, 0)), (5, (8205, 0))] hH0 ?_
  refine W_go ?_
  refine W_if (fun h1 => ?_) (fun h1 => ?_)
  · exact absurd h1 (by assumption)
  clear h1
  refine W_ft 14 ?_
  refine W_go ?_
  refine W_iff ?_
  refine W_ft 14 ?_
  refine W_go ?_
  refine W_rt [] [] ?_
  exact ⟨rfl, rfl⟩
end Go.Proofs.Ythldlaiplfennaa.S
