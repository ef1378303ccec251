/- Contracts: the law FnExactRunOps. Own work of this claim. -/
import Derived.Test.YtbcnkfkmonpdeaaGn
import Derived.Test.YtbcnkfkmonpdeaaGp
namespace Go.Proofs.Ytbcnkfkmonpdeaa.S
set_option linter.all false
open Go Go.Proofs
set_option maxHeartbeats 4000000
set_option maxRecDepth 100000

theorem szS_up {s : Sto} {n : Int} (h : ¬ szS s n < 0) : szS s n ≤ n := by
  have s1 := @szH_lt s.h n
  have s2 := @szI_lt s.F (szH s.h n)
  unfold szS at h ⊢
  split at h
  · omega
  · split at h
    · omega
    · rw [if_neg (by assumption), if_neg (by assumption)]; omega
theorem eqOpS_t (l : List (Int × Int × Int)) (hl : l.length ≤ 4194304) : Fn Try.prog 71 [(0, .c false (.ops l)), (1, .c false (.ops l))] [.sl 0 0 l.length, .sl 1 0 l.length] (fun r H => r = .bool true ∧ H = []) := by
  have := eqOpS_c l l hl hl
  rwa [decide_eq_true rfl] at this
theorem lExactRunOps_c (s : Sto) (l : List (Int × Int × Int)) (hl : (s.h.L.length ≤ 9223372036854775807 ∧ s.h.R.length ≤ 9223372036854775807 ∧ s.h.T.length ≤ 9223372036854775807) ∧ s.F.length ≤ 9223372036854775807) (hll : l.length ≤ 9223372036854775807) :
    Fn Try.prog 17 [(0, .c false (.ints s.h.L)), (1, .c false (.ints s.h.R)), (2, .c false (.ints s.h.T)), (3, .c false (.ints s.F)), (4, .c false (.ops l))] [.agg [.sl 0 0 s.h.L.length, .sl 1 0 s.h.R.length, .sl 2 0 s.h.T.length, .sl 3 0 s.F.length], .sl 4 0 l.length] (fun r H => r = .bool true ∧ H = []) := by
  refine Fn_go Try.func17 ?_
  have hZ0 := szStore_c s 1048576 hl (by omega)
  have hs := @szS_ok s 1048576
  have hs2 := @szS_up s 1048576
  generalize szS s 1048576 = v at *
  refine W_go ?_
  refine W_c1 [(0, (0, 0)), (1, (1, 0)), (2, (2, 0)), (3, (3, 0))] hZ0 ?_
  refine W_go ?_
  refine W_if (fun h1 => ?_) (fun h1 => ?_)
  · refine W_go ?_
    refine W_rt [] [] ?_
    exact ⟨rfl, rfl⟩
  have hs := hs h1
  have hs2 := hs2 h1
  clear hl hZ0
  have hl : (s.h.L.length ≤ 4194304 ∧ s.h.R.length ≤ 4194304 ∧ s.h.T.length ≤ 4194304) ∧ s.F.length ≤ 4194304 := by omega
  have hZ1 := szOpS_c l v hll (by omega)
  by_cases c : v < l.length
  · rw [if_pos c] at hZ1
    refine W_go ?_
    refine W_c1 [(0, (4, 0))] hZ1 ?_
    refine W_go ?_
    refine W_if (fun _ => ?_) (fun z => ?_)
    case' refine_2 => exact absurd (by decide) z
    refine W_go ?_
    refine W_rt [] [] ?_
    exact ⟨rfl, rfl⟩
  rw [if_neg c] at hZ1
  have h4 : l.length ≤ 4194304 := by omega
  refine W_go ?_
  refine W_c1 [(0, (4, 0))] hZ1 ?_
  refine W_go ?_
  refine W_if (fun z => ?_) (fun z => ?_)
  case' refine_1 => exact absurd z (by omega)
  clear z hZ1 c hs hs2 h1 hll
  have hT := toStore_c s (by omega)
  have hT1 := toOpS_c l h4
  have hS := sRunOps_c s l ⟨hl, h4⟩
  have hI := iRunOps_c s l ⟨hl, h4⟩
  have hw := opsS_len s l
  have hE0 := eqStore_t s hl
  have hE1 := eqOpS_t l h4
  obtain ⟨k1, ms, hk1, hM1⟩ : ∃ (k1 : Int) (ms : Sto), (0 ≤ k1 ∧ k1 < 274877906944) ∧ Fn Try.prog 72 [(0, .c true (.ints s.h.L)), (1, .c true (.ints s.h.R)), (2, .c true (.ints s.h.T)), (3, .c true (.ints s.F))] [.agg [.sl 0 0 s.h.L.length, .sl 1 0 s.h.R.length, .sl 2 0 s.h.T.length, .sl 3 0 s.F.length], .int .i64 1] (fun r H => r = .int .i64 k1 ∧ H = [(0, .c true (.ints ms.h.L)), (1, .c true (.ints ms.h.R)), (2, .c true (.ints ms.h.T)), (3, .c true (.ints ms.F))]) := by
    refine ⟨_, ⟨⟨_, _, _⟩, _⟩, ?_, markStore_c s 1 hl (by omega)⟩
    omega
  have hM2 := markOpS_c l k1 h4 hk1
  have hk3 : ¬ (k1 + 3 * (l.length : Int) < 0) := by omega
  generalize mkO l.length k1 = mo at *
  generalize k1 + 3 * (l.length : Int) = k3 at *
  generalize s.opsS l = w at *
  generalize s.opsN l = n at *
  generalize decide (s.opsOk l) = b at *
  have hE := eqStore_t w (by omega)
  obtain ⟨k2, hk2, hM3, hH⟩ := markStore_t w (by omega)
  generalize mkS w 1 = mw at *
  refine W_ft 20 ?_
  refine W_go ?_
  refine W_c3 [(0, (0, 0)), (1, (1, 0)), (2, (2, 0)), (3, (3, 0))] hT [(0, (4, 0))] hT1 [(0, (9224, 0)), (1, (9225, 0)), (2, (9226, 0)), (3, (9227, 0)), (4, (9240, 0))] hS ?_
  refine W_ft 20 ?_
  refine W_go ?_
  refine W_c1 [(0, (0, 0)), (1, (1, 0)), (2, (2, 0)), (3, (3, 0))] hT ?_
  refine W_ft 20 ?_
  refine W_go ?_
  refine W_c1 [(0, (4, 0))] hT1 ?_
  refine W_ft 20 ?_
  refine W_go ?_
  refine W_c1 [(0, (10248, 0)), (1, (10249, 0)), (2, (10250, 0)), (3, (10251, 0)), (4, (11272, 0))] hI ?_
  refine W_ft 20 ?_
  refine W_go ?_
  refine W_ch1 [(0, (12304, 0)), (1, (12305, 0)), (2, (12306, 0)), (3, (12307, 0)), (4, (9248, 0)), (5, (9249, 0)), (6, (9250, 0)), (7, (9251, 0))] hE ?_
  refine W_iff ?_
  refine W_ft 20 ?_
  refine W_go ?_
  refine W_dc2 [(0, (0, 0)), (1, (1, 0)), (2, (2, 0)), (3, (3, 0))] hT [(0, (10248, 0)), (1, (10249, 0)), (2, (10250, 0)), (3, (10251, 0)), (4, (15376, 0)), (5, (15377, 0)), (6, (15378, 0)), (7, (15379, 0))] hE0 [.c _ _ _, .c _ _ _] ?_
  refine W_iff ?_
  refine W_ft 20 ?_
  refine W_go ?_
  refine W_c2 [(0, (4, 0))] hT1 [(0, (11272, 0)), (1, (17424, 0))] hE1 ?_
  refine W_iff ?_
  refine W_ft 20 ?_
  refine W_go ?_
  refine W_c1 [(0, (10248, 0)), (1, (10249, 0)), (2, (10250, 0)), (3, (10251, 0))] hM1 ?_
  refine W_ft 20 ?_
  refine W_go ?_
  refine W_c1 [(0, (11272, 0))] hM2 ?_
  refine W_ft 20 ?_
  refine W_go ?_
  refine W_ch1 [(0, (12304, 0)), (1, (12305, 0)), (2, (12306, 0)), (3, (12307, 0)), (4, (9248, 0)), (5, (9249, 0)), (6, (9250, 0)), (7, (9251, 0))] hE ?_
  refine W_iff ?_
  refine W_ft 20 ?_
  refine W_go ?_
  refine W_c1 [(0, (12304, 0)), (1, (12305, 0)), (2, (12306, 0)), (3, (12307, 0))] hM3 ?_
  refine W_ft 20 ?_
  refine W_go ?_
  refine W_c1 [(0, (12304, 0)), (1, (12305, 0)), (2, (12306, 0)), (3, (12307, 0))] hH ?_
  refine W_go ?_
  refine W_if (fun h2 => ?_) (fun h2 => ?_)
  · exact absurd h2 hk2
  refine W_go ?_
  refine W_iff ?_
  refine W_ft 20 ?_
  refine W_go ?_
  refine W_c3 [(0, (0, 0)), (1, (1, 0)), (2, (2, 0)), (3, (3, 0))] hT [(0, (4, 0))] hT1 [(0, (32776, 0)), (1, (32777, 0)), (2, (32778, 0)), (3, (32779, 0)), (4, (32792, 0))] hI ?_
  refine W_ft 20 ?_
  refine W_go ?_
  refine W_ch1 [(0, (32800, 0)), (1, (32801, 0)), (2, (32802, 0)), (3, (32803, 0)), (4, (9248, 0)), (5, (9249, 0)), (6, (9250, 0)), (7, (9251, 0))] hE ?_
  refine W_iff ?_
  refine W_ft 20 ?_
  refine W_go ?_
  refine W_c1 [(0, (12304, 0)), (1, (12305, 0)), (2, (12306, 0)), (3, (12307, 0))] hH ?_
  refine W_go ?_
  refine W_if (fun h2 => ?_) (fun h2 => ?_)
  · exact absurd h2 hk2
  refine W_go ?_
  refine W_iff ?_
  refine W_go ?_
  refine W_rt [] [] ?_
  exact ⟨rfl, rfl⟩
end Go.Proofs.Ytbcnkfkmonpdeaa.S
