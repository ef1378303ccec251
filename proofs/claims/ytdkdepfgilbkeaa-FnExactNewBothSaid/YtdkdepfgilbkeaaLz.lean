/- Contracts: the law FnExactNewBoth. Own work of this claim. -/
import Derived.Test.YtdkdepfgilbkeaaGu
import Derived.Test.YtdkdepfgilbkeaaHc
namespace Go.Proofs.Ytdkdepfgilbkeaa.S
set_option linter.all false
open Go Go.Proofs
set_option maxHeartbeats 4000000
set_option maxRecDepth 100000

theorem lExactNewBoth_c (s : Sto) (l : List (Int × Int × Int)) (hl : (s.h.L.length ≤ 9223372036854775807 ∧ s.h.R.length ≤ 9223372036854775807 ∧ s.h.T.length ≤ 9223372036854775807) ∧ s.F.length ≤ 9223372036854775807) (hll : l.length ≤ 9223372036854775807) :
    Fn Try.prog 5 [(0, .c false (.ints s.h.L)), (1, .c false (.ints s.h.R)), (2, .c false (.ints s.h.T)), (3, .c false (.ints s.F)), (4, .c false (.ops l))] [.agg [.sl 0 0 s.h.L.length, .sl 1 0 s.h.R.length, .sl 2 0 s.h.T.length, .sl 3 0 s.F.length], .sl 4 0 l.length] (fun r H => r = .bool true ∧ H = []) := by
  refine Fn_go Try.func5 ?_
  have hZ0 := szStore_c s 1048576 hl (by omega)
  have hs0 := @szS_ok s 1048576
  have hs20 := @szS_le s 1048576
  generalize szS s 1048576 = v at *
  refine W_go ?_
  refine W_c1 [(0, (0, 0)), (1, (1, 0)), (2, (2, 0)), (3, (3, 0))] hZ0 ?_
  refine W_go ?_
  refine W_if (fun h1 => ?_) (fun h1 => ?_)
  · refine W_go ?_
    refine W_rt [] [] ?_
    exact ⟨rfl, rfl⟩
  have hs := hs0 h1
  have hs2 := hs20 h1
  clear hZ0 hs0 hs20 hl
  have hl : (s.h.L.length ≤ 4194304 ∧ s.h.R.length ≤ 4194304 ∧ s.h.T.length ≤ 4194304) ∧ s.F.length ≤ 4194304 := by omega
  have hZ1 := szOpS_c l v hll (by omega)
  have b1 : (if v < l.length then -1 else v - l.length : Int) < 0 ∨ l.length ≤ 4194304 := by split <;> omega
  generalize (if v < l.length then -1 else v - l.length : Int) = v1 at *
  clear h1
  refine W_ft 17 ?_
  refine W_go ?_
  refine W_c1 [(0, (4, 0))] hZ1 ?_
  refine W_go ?_
  refine W_if (fun h1 => ?_) (fun h1 => ?_)
  · refine W_go ?_
    refine W_rt [] [] ?_
    exact ⟨rfl, rfl⟩
  have h4 : l.length ≤ 4194304 := by omega
  clear hZ1 b1 hs hs2 h1 hll
  have hT0 := toStore_c s (by omega)
  have hT1 := toOpS_c l h4
  have hS := sNewBoth_c s l ⟨hl, h4⟩
  have hI := iNewBoth_c s l ⟨hl, h4⟩
  have hw := Bth.new_small s l
  have hE00 := eqStore_t s hl
  have hE01 := eqOpS_s l h4
  obtain ⟨k1, ms, hk1, hM00⟩ : ∃ (k1 : Int) (ms : Sto), (0 ≤ k1 ∧ k1 < 274877906944) ∧ Fn Try.prog 36 [(0, .c true (.ints s.h.L)), (1, .c true (.ints s.h.R)), (2, .c true (.ints s.h.T)), (3, .c true (.ints s.F))] [.agg [.sl 0 0 s.h.L.length, .sl 1 0 s.h.R.length, .sl 2 0 s.h.T.length, .sl 3 0 s.F.length], .int .i64 1] (fun r H => r = .int .i64 k1 ∧ H = [(0, .c true (.ints ms.h.L)), (1, .c true (.ints ms.h.R)), (2, .c true (.ints ms.h.T)), (3, .c true (.ints ms.F))]) := by
    refine ⟨_, ⟨⟨_, _, _⟩, _⟩, ?_, markStore_c s 1 hl (by omega)⟩
    omega
  have hM01 := markOpS_c l k1 h4 hk1
  have hk3 : ¬ (k1 + 3 * (l.length : Int) < 0) := by omega
  generalize mkO l.length k1 = mo at *
  generalize k1 + 3 * (l.length : Int) = k3 at *
  generalize Bth.new s l = w at *
  generalize decide (s.opsOk l) = wb at *
  have hb : (((w.s.h.L.length ≤ 4194304 ∧ w.s.h.R.length ≤ 4194304 ∧ w.s.h.T.length ≤ 4194304) ∧ w.s.F.length ≤ 4194304) ∧ w.g.C.length ≤ 4194304) ∧ w.o.length ≤ 4194304 := by omega
  have hE0 := eqBoth_t w hb
  obtain ⟨k2, mw, hk2, hM0, hH0⟩ := markBoth_t w hb
  refine W_ft 17 ?_
  refine W_go ?_
  refine W_c3 [(0, (0, 0)), (1, (1, 0)), (2, (2, 0)), (3, (3, 0))] hT0 [(0, (4, 0))] hT1 [(0, (9224, 0)), (1, (9225, 0)), (2, (9226, 0)), (3, (9227, 0)), (4, (9240, 0))] hS ?_
  refine W_go ?_
  refine W_c1 [(0, (0, 0)), (1, (1, 0)), (2, (2, 0)), (3, (3, 0))] hT0 ?_
  refine W_go ?_
  refine W_c1 [(0, (4, 0))] hT1 ?_
  refine W_go ?_
  refine W_c1 [(0, (10248, 0)), (1, (10249, 0)), (2, (10250, 0)), (3, (10251, 0)), (4, (11272, 0))] hI ?_
  refine W_go ?_
  refine W_rk 17 [(1024, (1024, 0)), (9280, (9280, 0)), (9248, (9248, 0)), (9249, (9249, 0)), (9250, (9250, 0)), (9251, (9251, 0)), (9252, (9252, 0)), (9253, (9253, 0)), (10256, (10256, 0)), (10248, (10248, 0)), (10249, (10249, 0)), (10250, (10250, 0)), (10251, (10251, 0)), (12336, (12336, 0)), (12304, (12304, 0)), (12305, (12305, 0)), (12306, (12306, 0)), (12307, (12307, 0)), (12308, (12308, 0)), (12309, (12309, 0)), (11272, (11272, 0))] ?_
  refine W_go ?_
  refine W_c1 [(0, (12304, 0)), (1, (12305, 0)), (2, (12306, 0)), (3, (12307, 0)), (4, (12308, 0)), (5, (12309, 0)), (6, (9248, 0)), (7, (9249, 0)), (8, (9250, 0)), (9, (9251, 0)), (10, (9252, 0)), (11, (9253, 0))] hE0 ?_
  refine W_iff ?_
  refine W_ft 17 ?_
  refine W_go ?_
  refine W_dc2 [(0, (0, 0)), (1, (1, 0)), (2, (2, 0)), (3, (3, 0))] hT0 [(0, (10248, 0)), (1, (10249, 0)), (2, (10250, 0)), (3, (10251, 0)), (4, (15376, 0)), (5, (15377, 0)), (6, (15378, 0)), (7, (15379, 0))] hE00 [.c _ _ _, .c _ _ _] ?_
  refine W_iff ?_
  refine W_ft 17 ?_
  refine W_go ?_
  refine W_c2 [(0, (4, 0))] hT1 [(0, (11272, 0)), (1, (17424, 0))] hE01 ?_
  refine W_iff ?_
  refine W_ft 17 ?_
  refine W_go ?_
  refine W_c1 [(0, (10248, 0)), (1, (10249, 0)), (2, (10250, 0)), (3, (10251, 0))] hM00 ?_
  refine W_go ?_
  refine W_c1 [(0, (11272, 0))] hM01 ?_
  refine W_go ?_
  refine W_ch1 [(0, (12304, 0)), (1, (12305, 0)), (2, (12306, 0)), (3, (12307, 0)), (4, (12308, 0)), (5, (12309, 0)), (6, (9248, 0)), (7, (9249, 0)), (8, (9250, 0)), (9, (9251, 0)), (10, (9252, 0)), (11, (9253, 0))] hE0 ?_
  refine W_iff ?_
  refine W_ft 17 ?_
  refine W_go ?_
  refine W_c1 [(0, (12304, 0)), (1, (12305, 0)), (2, (12306, 0)), (3, (12307, 0)), (4, (12308, 0)), (5, (12309, 0))] hM0 ?_
  refine W_go ?_
  refine W_c1 [(0, (12304, 0)), (1, (12305, 0)), (2, (12306, 0)), (3, (12307, 0)), (4, (12308, 0)), (5, (12309, 0))] hH0 ?_
  refine W_go ?_
  refine W_if (fun h1 => ?_) (fun h1 => ?_)
  · exact absurd h1 (by assumption)
  clear h1
  refine W_ft 17 ?_
  refine W_go ?_
  refine W_iff ?_
  refine W_ft 17 ?_
  refine W_go ?_
  refine W_c3 [(0, (0, 0)), (1, (1, 0)), (2, (2, 0)), (3, (3, 0))] hT0 [(0, (4, 0))] hT1 [(0, (32776, 0)), (1, (32777, 0)), (2, (32778, 0)), (3, (32779, 0)), (4, (32792, 0))] hI ?_
  refine W_go ?_
  refine W_rk 17 [(1024, (1024, 0)), (9280, (9280, 0)), (9248, (9248, 0)), (9249, (9249, 0)), (9250, (9250, 0)), (9251, (9251, 0)), (9252, (9252, 0)), (9253, (9253, 0)), (10256, (10256, 0)), (10248, (10248, 0)), (10249, (10249, 0)), (10250, (10250, 0)), (10251, (10251, 0)), (12336, (12336, 0)), (12304, (12304, 0)), (12305, (12305, 0)), (12306, (12306, 0)), (12307, (12307, 0)), (12308, (12308, 0)), (12309, (12309, 0)), (32832, (32832, 0)), (32800, (32800, 0)), (32801, (32801, 0)), (32802, (32802, 0)), (32803, (32803, 0)), (32804, (32804, 0)), (32805, (32805, 0)), (11272, (11272, 0))] ?_
  refine W_go ?_
  refine W_c1 [(0, (32800, 0)), (1, (32801, 0)), (2, (32802, 0)), (3, (32803, 0)), (4, (32804, 0)), (5, (32805, 0)), (6, (9248, 0)), (7, (9249, 0)), (8, (9250, 0)), (9, (9251, 0)), (10, (9252, 0)), (11, (9253, 0))] hE0 ?_
  refine W_iff ?_
  refine W_ft 17 ?_
  refine W_go ?_
  refine W_c1 [(0, (12304, 0)), (1, (12305, 0)), (2, (12306, 0)), (3, (12307, 0)), (4, (12308, 0)), (5, (12309, 0))] hH0 ?_
  refine W_go ?_
  refine W_if (fun h1 => ?_) (fun h1 => ?_)
  · exact absurd h1 (by assumption)
  clear h1
  refine W_ft 17 ?_
  refine W_go ?_
  refine W_iff ?_
  refine W_ft 17 ?_
  refine W_go ?_
  refine W_rt [] [] ?_
  exact ⟨rfl, rfl⟩
end Go.Proofs.Ytdkdepfgilbkeaa.S
