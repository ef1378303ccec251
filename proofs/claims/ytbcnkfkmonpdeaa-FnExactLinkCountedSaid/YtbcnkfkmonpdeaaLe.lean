/- Contracts: the laws of the exact kind, over counted stores. Own work of this claim. -/
import Derived.Test.YtbcnkfkmonpdeaaFy
namespace Go.Proofs.Ytbcnkfkmonpdeaa.S
set_option linter.all false
open Go Go.Proofs
set_option maxHeartbeats 4000000
set_option maxRecDepth 100000

theorem lExactLinkCounted_c (c : Cnt) (a b : Int) (hl : ((c.s.h.L.length ≤ 9223372036854775807 ∧ c.s.h.R.length ≤ 9223372036854775807 ∧ c.s.h.T.length ≤ 9223372036854775807) ∧ c.s.F.length ≤ 9223372036854775807) ∧ c.C.length ≤ 9223372036854775807) :
    Fn Try.prog 11 [(0, .c false (.ints c.s.h.L)), (1, .c false (.ints c.s.h.R)), (2, .c false (.ints c.s.h.T)), (3, .c false (.ints c.s.F)), (4, .c false (.ints c.C))] [.agg [.sl 0 0 c.s.h.L.length, .sl 1 0 c.s.h.R.length, .sl 2 0 c.s.h.T.length, .sl 3 0 c.s.F.length, .sl 4 0 c.C.length], .int .i64 a, .int .i64 b] (fun r H => r = .bool true ∧ H = []) := by
  refine Fn_go Try.func11 ?_
  have hZ0 := szCounted_c c 1048576 hl (by omega)
  refine W_go ?_
  refine W_c1 [(0, (0, 0)), (1, (1, 0)), (2, (2, 0)), (3, (3, 0)), (4, (4, 0))] hZ0 ?_
  refine W_go ?_
  refine W_if (fun h1 => ?_) (fun h1 => ?_)
  · refine W_go ?_
    refine W_rt [] [] ?_
    exact ⟨rfl, rfl⟩
  have hs := szC_ok h1
  clear h1 hl hZ0
  have hl : ((c.s.h.L.length ≤ 4194304 ∧ c.s.h.R.length ≤ 4194304 ∧ c.s.h.T.length ≤ 4194304) ∧ c.s.F.length ≤ 4194304) ∧ c.C.length ≤ 4194304 := by omega
  have hT0 := toCounted_c c hl
  have hE00 := eqCounted_t c hl
  obtain ⟨k1, hk1, hM00, -⟩ := markCounted_t c hl
  generalize mkC c 1 = ms at *
  have hS := sLinkCounted_c c a b hl (by omega)
  have hI := iLinkCounted_c c a b hl (by omega)
  have hw := Cnt.lnk_len c a b
  generalize c.lnk a b = w at *
  generalize decide (c.lnkOk a b) = q at *
  have hwl : ((w.s.h.L.length ≤ 4194304 ∧ w.s.h.R.length ≤ 4194304 ∧ w.s.h.T.length ≤ 4194304) ∧ w.s.F.length ≤ 4194304) ∧ w.C.length ≤ 4194304 := by omega
  have hE0 := eqCounted_t w hwl
  obtain ⟨k2, hk2, hM0, hH0⟩ := markCounted_t w hwl
  generalize mkC w 1 = mw at *
  refine W_ft 18 ?_
  refine W_go ?_
  refine W_c2 [(0, (0, 0)), (1, (1, 0)), (2, (2, 0)), (3, (3, 0)), (4, (4, 0))] hT0 [(0, (6152, 0)), (1, (6153, 0)), (2, (6154, 0)), (3, (6155, 0)), (4, (6156, 0))] hS ?_
  refine W_go ?_
  refine W_c1 [(0, (0, 0)), (1, (1, 0)), (2, (2, 0)), (3, (3, 0)), (4, (4, 0))] hT0 ?_
  refine W_go ?_
  refine W_c1 [(0, (7176, 0)), (1, (7177, 0)), (2, (7178, 0)), (3, (7179, 0)), (4, (7180, 0))] hI ?_
  refine W_go ?_
  refine W_ch1 [(0, (8216, 0)), (1, (8217, 0)), (2, (8218, 0)), (3, (8219, 0)), (4, (8220, 0)), (5, (6176, 0)), (6, (6177, 0)), (7, (6178, 0)), (8, (6179, 0)), (9, (6180, 0))] hE0 ?_
  refine W_iff ?_
  refine W_ft 18 ?_
  refine W_go ?_
  refine W_dc2 [(0, (0, 0)), (1, (1, 0)), (2, (2, 0)), (3, (3, 0)), (4, (4, 0))] hT0 [(0, (7176, 0)), (1, (7177, 0)), (2, (7178, 0)), (3, (7179, 0)), (4, (7180, 0)), (5, (11280, 0)), (6, (11281, 0)), (7, (11282, 0)), (8, (11283, 0)), (9, (11284, 0))] hE00 [.c _ _ _, .c _ _ _] ?_
  refine W_iff ?_
  refine W_ft 18 ?_
  refine W_go ?_
  refine W_c1 [(0, (7176, 0)), (1, (7177, 0)), (2, (7178, 0)), (3, (7179, 0)), (4, (7180, 0))] hM00 ?_
  refine W_go ?_
  refine W_ch1 [(0, (8216, 0)), (1, (8217, 0)), (2, (8218, 0)), (3, (8219, 0)), (4, (8220, 0)), (5, (6176, 0)), (6, (6177, 0)), (7, (6178, 0)), (8, (6179, 0)), (9, (6180, 0))] hE0 ?_
  refine W_iff ?_
  refine W_ft 18 ?_
  refine W_go ?_
  refine W_c1 [(0, (8216, 0)), (1, (8217, 0)), (2, (8218, 0)), (3, (8219, 0)), (4, (8220, 0))] hM0 ?_
  refine W_go ?_
  refine W_c1 [(0, (8216, 0)), (1, (8217, 0)), (2, (8218, 0)), (3, (8219, 0)), (4, (8220, 0))] hH0 ?_
  refine W_go ?_
  refine W_if (fun h1 => ?_) (fun h1 => ?_)
  · exact absurd h1 (by assumption)
  clear h1
  refine W_ft 18 ?_
  refine W_go ?_
  refine W_iff ?_
  refine W_ft 18 ?_
  refine W_go ?_
  refine W_c2 [(0, (0, 0)), (1, (1, 0)), (2, (2, 0)), (3, (3, 0)), (4, (4, 0))] hT0 [(0, (25608, 0)), (1, (25609, 0)), (2, (25610, 0)), (3, (25611, 0)), (4, (25612, 0))] hI ?_
  refine W_go ?_
  refine W_ch1 [(0, (25632, 0)), (1, (25633, 0)), (2, (25634, 0)), (3, (25635, 0)), (4, (25636, 0)), (5, (6176, 0)), (6, (6177, 0)), (7, (6178, 0)), (8, (6179, 0)), (9, (6180, 0))] hE0 ?_
  refine W_iff ?_
  refine W_ft 18 ?_
  refine W_go ?_
  refine W_c1 [(0, (8216, 0)), (1, (8217, 0)), (2, (8218, 0)), (3, (8219, 0)), (4, (8220, 0))] hH0 ?_
  refine W_go ?_
  refine W_if (fun h1 => ?_) (fun h1 => ?_)
  · exact absurd h1 (by assumption)
  clear h1
  refine W_ft 18 ?_
  refine W_go ?_
  refine W_iff ?_
  refine W_ft 18 ?_
  refine W_go ?_
  refine W_rt [] [] ?_
  exact ⟨rfl, rfl⟩
end Go.Proofs.Ytbcnkfkmonpdeaa.S
