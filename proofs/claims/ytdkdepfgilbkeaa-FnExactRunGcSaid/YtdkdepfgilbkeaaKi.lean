/- Contracts: the law FnExactRunGc. Own work of this claim. -/
import Derived.Test.YtdkdepfgilbkeaaGt
import Derived.Test.YtdkdepfgilbkeaaHa
namespace Go.Proofs.Ytdkdepfgilbkeaa.S
set_option linter.all false
open Go Go.Proofs
set_option maxHeartbeats 4000000
set_option maxRecDepth 100000

theorem lExactRunGc_c (s : Sto) (g : Gcc) (hl : (s.h.L.length ≤ 9223372036854775807 ∧ s.h.R.length ≤ 9223372036854775807 ∧ s.h.T.length ≤ 9223372036854775807) ∧ s.F.length ≤ 9223372036854775807) (hC : g.C.length ≤ 9223372036854775807) :
    Fn Try.prog 13 [(0, .c false (.ints s.h.L)), (1, .c false (.ints s.h.R)), (2, .c false (.ints s.h.T)), (3, .c false (.ints s.F)), (4, .c false (.ints g.C))] [.agg [.sl 0 0 s.h.L.length, .sl 1 0 s.h.R.length, .sl 2 0 s.h.T.length, .sl 3 0 s.F.length], .agg [.int .i64 g.p, .sl 4 0 g.C.length, .int .i64 g.a]] (fun r H => r = .bool true ∧ H = []) := by
  refine Fn_go Try.func13 ?_
  have hZ0 := szStore_c s 1048576 hl (by omega)
  have hs0 := @szS_ok s 1048576
  have hs20 := @szS_le s 1048576
  generalize szS s 1048576 = v at *
  refine W_go ?_
  refine W_c1 [(0, (0, 0)), (1, (1, 0)), (2, (2, 0)), (3, (3, 0))] hZ0 ?_
  refine W_go ?_
  refine W_if (fun h1 => ?_) (fun h1 => ?_)
  · refine W_go ?_
    refine W_rt [] [] ?_
    exact ⟨rfl, rfl⟩
  have hs := hs0 h1
  have hs2 := hs20 h1
  clear hZ0 hs0 hs20 hl
  have hl : (s.h.L.length ≤ 4194304 ∧ s.h.R.length ≤ 4194304 ∧ s.h.T.length ≤ 4194304) ∧ s.F.length ≤ 4194304 := by omega
  have hZ1 := szGc_c g v hC (by omega)
  have b1 := @szI_lt g.C v
  generalize szI g.C v = v1 at *
  clear h1
  refine W_ft 23 ?_
  refine W_go ?_
  refine W_c1 [(0, (4, 0))] hZ1 ?_
  refine W_go ?_
  refine W_if (fun h1 => ?_) (fun h1 => ?_)
  · refine W_go ?_
    refine W_rt [] [] ?_
    exact ⟨rfl, rfl⟩
  have hC : g.C.length ≤ 4194304 := by omega
  clear hZ1 b1 hs hs2 h1
  have hT0 := toStore_c s (by omega)
  have hT1 := toGc_c g hC
  have hE00 := eqStore_t s hl
  have hE01 := eqGc_t g hC
  obtain ⟨j2, j3, js, jc, ⟨hj2, hj3⟩, hM00, -, hM01, -⟩ := markSG_t s g hl hC
  have hS := sRunGc_c s g hl hC
  have hI := iRunGc_c s g hl hC
  have hw := runK_small 64 s g
  generalize runK 64 s g = w at *
  obtain ⟨ws, wg, wn⟩ := w
  dsimp only at hS hI hw
  generalize (wn : Int) = wi at *
  generalize decide (wn ≠ 0) = wb at *
  have hE0 := eqStore_t ws (by omega)
  have hE1 := eqGc_t wg (by omega)
  obtain ⟨k2, k3, ms, mc, ⟨hk2, hk3⟩, hM0, hH0, hM1, hH1⟩ := markSG_t ws wg (by omega) (by omega)
  refine W_ft 23 ?_
  refine W_go ?_
  refine W_dc3 [(0, (0, 0)), (1, (1, 0)), (2, (2, 0)), (3, (3, 0))] hT0 [(0, (4, 0))] hT1 [(0, (9224, 0)), (1, (9225, 0)), (2, (9226, 0)), (3, (9227, 0)), (4, (9240, 0))] hS [.c _ _ _, .c _ _ _, .c _ _ _] ?_
  refine W_go ?_
  refine W_c1 [(0, (0, 0)), (1, (1, 0)), (2, (2, 0)), (3, (3, 0))] hT0 ?_
  refine W_go ?_
  refine W_c1 [(0, (4, 0))] hT1 ?_
  refine W_go ?_
  refine W_c1 [(0, (10248, 0)), (1, (10249, 0)), (2, (10250, 0)), (3, (10251, 0)), (4, (11272, 0))] hI ?_
  refine W_go ?_
  refine W_c2 [(0, (12304, 0)), (1, (12305, 0)), (2, (12306, 0)), (3, (12307, 0)), (4, (9248, 0)), (5, (9249, 0)), (6, (9250, 0)), (7, (9251, 0))] hE0 [(0, (12308, 0)), (1, (9252, 0))] hE1 ?_
  refine W_iff ?_
  refine W_ft 23 ?_
  refine W_go ?_
  refine W_dc2 [(0, (0, 0)), (1, (1, 0)), (2, (2, 0)), (3, (3, 0))] hT0 [(0, (10248, 0)), (1, (10249, 0)), (2, (10250, 0)), (3, (10251, 0)), (4, (15376, 0)), (5, (15377, 0)), (6, (15378, 0)), (7, (15379, 0))] hE00 [.c _ _ _, .c _ _ _] ?_
  refine W_iff ?_
  refine W_ft 23 ?_
  refine W_go ?_
  refine W_dc2 [(0, (4, 0))] hT1 [(0, (11272, 0)), (1, (17424, 0))] hE01 [.c _ _ _, .c _ _ _] ?_
  refine W_iff ?_
  refine W_ft 23 ?_
  refine W_go ?_
  refine W_c1 [(0, (10248, 0)), (1, (10249, 0)), (2, (10250, 0)), (3, (10251, 0))] hM00 ?_
  refine W_go ?_
  refine W_c1 [(0, (11272, 0))] hM01 ?_
  refine W_go ?_
  refine W_ch2 [(0, (12304, 0)), (1, (12305, 0)), (2, (12306, 0)), (3, (12307, 0)), (4, (9248, 0)), (5, (9249, 0)), (6, (9250, 0)), (7, (9251, 0))] hE0 [(0, (12308, 0)), (1, (9252, 0))] hE1 ?_
  refine W_iff ?_
  refine W_ft 23 ?_
  refine W_go ?_
  refine W_c1 [(0, (12304, 0)), (1, (12305, 0)), (2, (12306, 0)), (3, (12307, 0))] hM0 ?_
  refine W_go ?_
  refine W_c1 [(0, (12308, 0))] hM1 ?_
  refine W_go ?_
  refine W_c1 [(0, (12304, 0)), (1, (12305, 0)), (2, (12306, 0)), (3, (12307, 0))] hH0 ?_
  refine W_go ?_
  refine W_if (fun h1 => ?_) (fun h1 => ?_)
  · exact absurd h1 (by assumption)
  clear h1
  refine W_ft 23 ?_
  refine W_go ?_
  refine W_c1 [(0, (12308, 0))] hH1 ?_
  refine W_go ?_
  refine W_if (fun h1 => ?_) (fun h1 => ?_)
  · exact absurd h1 (by assumption)
  clear h1
  refine W_ft 23 ?_
  refine W_go ?_
  refine W_iff ?_
  refine W_ft 23 ?_
  refine W_go ?_
  refine W_dc3 [(0, (0, 0)), (1, (1, 0)), (2, (2, 0)), (3, (3, 0))] hT0 [(0, (4, 0))] hT1 [(0, (36872, 0)), (1, (36873, 0)), (2, (36874, 0)), (3, (36875, 0)), (4, (36888, 0))] hI [.c _ _ _, .c _ _ _, .c _ _ _] ?_
  refine W_go ?_
  refine W_c2 [(0, (36896, 0)), (1, (36897, 0)), (2, (36898, 0)), (3, (36899, 0)), (4, (9248, 0)), (5, (9249, 0)), (6, (9250, 0)), (7, (9251, 0))] hE0 [(0, (36900, 0)), (1, (9252, 0))] hE1 ?_
  refine W_iff ?_
  refine W_ft 23 ?_
  refine W_go ?_
  refine W_c1 [(0, (12304, 0)), (1, (12305, 0)), (2, (12306, 0)), (3, (12307, 0))] hH0 ?_
  refine W_go ?_
  refine W_if (fun h1 => ?_) (fun h1 => ?_)
  · exact absurd h1 (by assumption)
  clear h1
  refine W_ft 23 ?_
  refine W_go ?_
  refine W_c1 [(0, (12308, 0))] hH1 ?_
  refine W_go ?_
  refine W_if (fun h1 => ?_) (fun h1 => ?_)
  · exact absurd h1 (by assumption)
  clear h1
  refine W_ft 23 ?_
  refine W_go ?_
  refine W_iff ?_
  refine W_ft 23 ?_
  refine W_go ?_
  refine W_rt [] [] ?_
  exact ⟨rfl, rfl⟩
end Go.Proofs.Ytdkdepfgilbkeaa.S
