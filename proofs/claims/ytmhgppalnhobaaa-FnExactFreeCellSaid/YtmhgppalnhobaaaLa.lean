/- Contracts: the laws of the exact kind, over stores. Own work of this claim. -/
import Derived.Test.YtmhgppalnhobaaaFf
import Derived.Test.YtmhgppalnhobaaaFj
namespace Go.Proofs.Ytmhgppalnhobaaa.S
set_option linter.all false
open Go Go.Proofs
set_option maxHeartbeats 4000000
set_option maxRecDepth 100000
set_option linter.unusedVariables false

theorem free_len (s : Sto) (c : Int) : ((s.free c).h.L.length ≤ s.h.L.length ∧ (s.free c).h.R.length ≤ s.h.R.length ∧ (s.free c).h.T.length ≤ s.h.T.length) ∧ (s.free c).F.length ≤ s.F.length + 1 := by
  unfold Sto.free
  split
  · simp [Sto.clr, clrL_len]
  · simp [Sto.zero]
theorem lExactFreeCell_c (s : Sto) (c : Int) (hl : (s.h.L.length ≤ 9223372036854775807 ∧ s.h.R.length ≤ 9223372036854775807 ∧ s.h.T.length ≤ 9223372036854775807) ∧ s.F.length ≤ 9223372036854775807) :
    Fn Try.prog 7 [(0, .c false (.ints s.h.L)), (1, .c false (.ints s.h.R)), (2, .c false (.ints s.h.T)), (3, .c false (.ints s.F))] [.agg [.sl 0 0 s.h.L.length, .sl 1 0 s.h.R.length, .sl 2 0 s.h.T.length, .sl 3 0 s.F.length], .int .i64 c] (fun r H => r = .bool true ∧ H = []) := by
  refine Fn_go Try.func7 ?_
  refine W_go ?_
  refine W_c1 [(0, (0, 0)), (1, (1, 0)), (2, (2, 0)), (3, (3, 0))] (szStore_c s 1048576 hl (by omega)) ?_
  refine W_go ?_
  refine W_if (fun h1 => ?_) (fun h1 => ?_)
  · refine W_go ?_
    refine W_rt [] [] ?_
    exact ⟨rfl, rfl⟩
  have hs := szS_ok h1
  clear h1 hl
  have hl : (s.h.L.length ≤ 4194304 ∧ s.h.R.length ≤ 4194304 ∧ s.h.T.length ≤ 4194304) ∧ s.F.length ≤ 4194304 := by omega
  have hT := toStore_c s (by omega)
  have hS := sFreeCell_c s c hl (by omega)
  have hI := iFreeCell_c s c hl (by omega)
  have hw := free_len s c
  have hE0 := eqStore_t s hl
  obtain ⟨k1, hk1, hM1, -⟩ := markStore_t s hl
  generalize s.free c = w at *
  generalize decide (c ∈ s.lost) = b at *
  have hE := eqStore_t w (by omega)
  obtain ⟨k2, hk2, hM2, hH⟩ := markStore_t w (by omega)
  generalize mkS s 1 = ms at *
  generalize mkS w 1 = mw at *
  refine W_go ?_
  refine W_c2 [(0, (0, 0)), (1, (1, 0)), (2, (2, 0)), (3, (3, 0))] hT [(0, (6152, 0)), (1, (6153, 0)), (2, (6154, 0)), (3, (6155, 0))] hS ?_
  refine W_ft 16 ?_
  refine W_go ?_
  refine W_c1 [(0, (0, 0)), (1, (1, 0)), (2, (2, 0)), (3, (3, 0))] hT ?_
  refine W_ft 16 ?_
  refine W_go ?_
  refine W_c1 [(0, (7176, 0)), (1, (7177, 0)), (2, (7178, 0)), (3, (7179, 0))] hI ?_
  refine W_ft 16 ?_
  refine W_go ?_
  refine W_ch1 [(0, (8208, 0)), (1, (8209, 0)), (2, (8210, 0)), (3, (8211, 0)), (4, (6168, 0)), (5, (6169, 0)), (6, (6170, 0)), (7, (6171, 0))] hE ?_
  refine W_iff ?_
  refine W_ft 16 ?_
  refine W_go ?_
  refine W_dc2 [(0, (0, 0)), (1, (1, 0)), (2, (2, 0)), (3, (3, 0))] hT [(0, (7176, 0)), (1, (7177, 0)), (2, (7178, 0)), (3, (7179, 0)), (4, (11280, 0)), (5, (11281, 0)), (6, (11282, 0)), (7, (11283, 0))] hE0 [.c _ _ _, .c _ _ _] ?_
  refine W_iff ?_
  refine W_ft 16 ?_
  refine W_go ?_
  refine W_c1 [(0, (7176, 0)), (1, (7177, 0)), (2, (7178, 0)), (3, (7179, 0))] hM1 ?_
  refine W_ft 16 ?_
  refine W_go ?_
  refine W_ch1 [(0, (8208, 0)), (1, (8209, 0)), (2, (8210, 0)), (3, (8211, 0)), (4, (6168, 0)), (5, (6169, 0)), (6, (6170, 0)), (7, (6171, 0))] hE ?_
  refine W_iff ?_
  refine W_ft 16 ?_
  refine W_go ?_
  refine W_c1 [(0, (8208, 0)), (1, (8209, 0)), (2, (8210, 0)), (3, (8211, 0))] hM2 ?_
  refine W_ft 16 ?_
  refine W_go ?_
  refine W_c1 [(0, (8208, 0)), (1, (8209, 0)), (2, (8210, 0)), (3, (8211, 0))] hH ?_
  refine W_go ?_
  refine W_if (fun h2 => ?_) (fun h2 => ?_)
  · exact absurd h2 hk2
  refine W_go ?_
  refine W_iff ?_
  refine W_ft 16 ?_
  refine W_go ?_
  refine W_c2 [(0, (0, 0)), (1, (1, 0)), (2, (2, 0)), (3, (3, 0))] hT [(0, (25608, 0)), (1, (25609, 0)), (2, (25610, 0)), (3, (25611, 0))] hI ?_
  refine W_ft 16 ?_
  refine W_go ?_
  refine W_ch1 [(0, (25624, 0)), (1, (25625, 0)), (2, (25626, 0)), (3, (25627, 0)), (4, (6168, 0)), (5, (6169, 0)), (6, (6170, 0)), (7, (6171, 0))] hE ?_
  refine W_iff ?_
  refine W_ft 16 ?_
  refine W_go ?_
  refine W_c1 [(0, (8208, 0)), (1, (8209, 0)), (2, (8210, 0)), (3, (8211, 0))] hH ?_
  refine W_go ?_
  refine W_if (fun h2 => ?_) (fun h2 => ?_)
  · exact absurd h2 hk2
  refine W_go ?_
  refine W_iff ?_
  refine W_go ?_
  refine W_rt [] [] ?_
  exact ⟨rfl, rfl⟩
theorem coll_len (s : Sto) : (s.coll.h.L.length ≤ s.h.L.length ∧ s.coll.h.R.length ≤ s.h.R.length ∧ s.coll.h.T.length ≤ s.h.T.length) ∧ s.coll.F.length ≤ s.F.length + 8 := by
  unfold Sto.coll
  have := lost_le s
  split
  · simp [Sto.clr, clrL_len]; omega
  · simp [Sto.zero]
theorem lExactCollectStore_c (s : Sto) (hl : (s.h.L.length ≤ 9223372036854775807 ∧ s.h.R.length ≤ 9223372036854775807 ∧ s.h.T.length ≤ 9223372036854775807) ∧ s.F.length ≤ 9223372036854775807) :
    Fn Try.prog 9 [(0, .c false (.ints s.h.L)), (1, .c false (.ints s.h.R)), (2, .c false (.ints s.h.T)), (3, .c false (.ints s.F))] [.agg [.sl 0 0 s.h.L.length, .sl 1 0 s.h.R.length, .sl 2 0 s.h.T.length, .sl 3 0 s.F.length]] (fun r H => r = .bool true ∧ H = []) := by
  refine Fn_go Try.func9 ?_
  have hZ0 := szStore_c s 1048576 hl (by omega)
  refine W_go ?_
  refine W_c1 [(0, (0, 0)), (1, (1, 0)), (2, (2, 0)), (3, (3, 0))] hZ0 ?_
  refine W_go ?_
  refine W_if (fun h1 => ?_) (fun h1 => ?_)
  · refine W_go ?_
    refine W_rt [] [] ?_
    exact ⟨rfl, rfl⟩
  have hs := szS_ok h1
  clear h1 hl hZ0
  have hl : (s.h.L.length ≤ 4194304 ∧ s.h.R.length ≤ 4194304 ∧ s.h.T.length ≤ 4194304) ∧ s.F.length ≤ 4194304 := by omega
  have hT0 := toStore_c s (by omega)
  have hS := sCollectStore_c s hl (by omega)
  have hI := iCollectStore_c s hl (by omega)
  have hw := coll_len s
  have hE00 := eqStore_t s hl
  obtain ⟨k1, hk1, hM00, -⟩ := markStore_t s hl
  generalize s.coll = w at *
  generalize s.valid = b at *
  have hE0 := eqStore_t w (by omega)
  obtain ⟨k2, hk2, hM0, hH0⟩ := markStore_t w (by omega)
  generalize mkS s 1 = ms at *
  generalize mkS w 1 = mw at *
  refine W_ft 14 ?_
  refine W_go ?_
  refine W_c2 [(0, (0, 0)), (1, (1, 0)), (2, (2, 0)), (3, (3, 0))] hT0 [(0, (6152, 0)), (1, (6153, 0)), (2, (6154, 0)), (3, (6155, 0))] hS ?_
  refine W_go ?_
  refine W_c1 [(0, (0, 0)), (1, (1, 0)), (2, (2, 0)), (3, (3, 0))] hT0 ?_
  refine W_go ?_
  refine W_c1 [(0, (7176, 0)), (1, (7177, 0)), (2, (7178, 0)), (3, (7179, 0))] hI ?_
  refine W_go ?_
  refine W_ch1 [(0, (8200, 0)), (1, (8201, 0)), (2, (8202, 0)), (3, (8203, 0)), (4, (6160, 0)), (5, (6161, 0)), (6, (6162, 0)), (7, (6163, 0))] hE0 ?_
  refine W_iff ?_
  refine W_ft 14 ?_
  refine W_go ?_
  refine W_dc2 [(0, (0, 0)), (1, (1, 0)), (2, (2, 0)), (3, (3, 0))] hT0 [(0, (7176, 0)), (1, (7177, 0)), (2, (7178, 0)), (3, (7179, 0)), (4, (11280, 0)), (5, (11281, 0)), (6, (11282, 0)), (7, (11283, 0))] hE00 [.c _ _ _, .c _ _ _] ?_
  refine W_iff ?_
  refine W_ft 14 ?_
  refine W_go ?_
  refine W_c1 [(0, (7176, 0)), (1, (7177, 0)), (2, (7178, 0)), (3, (7179, 0))] hM00 ?_
  refine W_go ?_
  refine W_ch1 [(0, (8200, 0)), (1, (8201, 0)), (2, (8202, 0)), (3, (8203, 0)), (4, (6160, 0)), (5, (6161, 0)), (6, (6162, 0)), (7, (6163, 0))] hE0 ?_
  refine W_iff ?_
  refine W_ft 14 ?_
  refine W_go ?_
  refine W_c1 [(0, (8200, 0)), (1, (8201, 0)), (2, (8202, 0)), (3, (8203, 0))] hM0 ?_
  refine W_go ?_
  refine W_c1 [(0, (8200, 0)), (1, (8201, 0)), (2, (8202, 0)), (3, (8203, 0))] hH0 ?_
  refine W_go ?_
  refine W_if (fun h1 => ?_) (fun h1 => ?_)
  · exact absurd h1 (by assumption)
  clear h1
  refine W_ft 14 ?_
  refine W_go ?_
  refine W_iff ?_
  refine W_ft 14 ?_
  refine W_go ?_
  refine W_c2 [(0, (0, 0)), (1, (1, 0)), (2, (2, 0)), (3, (3, 0))] hT0 [(0, (25608, 0)), (1, (25609, 0)), (2, (25610, 0)), (3, (25611, 0))] hI ?_
  refine W_go ?_
  refine W_ch1 [(0, (25616, 0)), (1, (25617, 0)), (2, (25618, 0)), (3, (25619, 0)), (4, (6160, 0)), (5, (6161, 0)), (6, (6162, 0)), (7, (6163, 0))] hE0 ?_
  refine W_iff ?_
  refine W_ft 14 ?_
  refine W_go ?_
  refine W_c1 [(0, (8200, 0)), (1, (8201, 0)), (2, (8202, 0)), (3, (8203, 0))] hH0 ?_
  refine W_go ?_
  refine W_if (fun h1 => ?_) (fun h1 => ?_)
  · exact absurd h1 (by assumption)
  clear h1
  refine W_ft 14 ?_
  refine W_go ?_
  refine W_iff ?_
  refine W_ft 14 ?_
  refine W_go ?_
  refine W_rt [] [] ?_
  exact ⟨rfl, rfl⟩
end Go.Proofs.Ytmhgppalnhobaaa.S
