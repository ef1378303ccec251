/- Contracts: targets, validity and copies of a program and a collector. Own work of this claim. -/
import Derived.Test.YtnepiffboakehaaGreatDoorGj
import Derived.Test.YtnepiffboakehaaGreatDoorGu
import Derived.Test.YtnepiffboakehaaGreatDoorA6
namespace Go.Proofs.YtnepiffboakehaaGreatDoor.S
set_option linter.all false
open Go Go.Proofs
set_option maxHeartbeats 4000000
set_option maxRecDepth 100000

theorem sTargetOf_c (s : Sto) (k a b : Int) (hl : (s.h.L.length ≤ 4194304 ∧ s.h.R.length ≤ 4194304 ∧ s.h.T.length ≤ 4194304) ∧ s.F.length ≤ 4194304) : Fn Tryz.prog 85 [(0, .c false (.ints s.h.L)), (1, .c false (.ints s.h.R)), (2, .c false (.ints s.h.T)), (3, .c false (.ints s.F))] [.agg [.sl 0 0 s.h.L.length, .sl 1 0 s.h.R.length, .sl 2 0 s.h.T.length, .sl 3 0 s.F.length], .agg [.int .i64 k, .int .i64 a, .int .i64 b]] (fun r H => r = .int .i64 (s.tgt k a b) ∧ H = []) := by
  have hv := sStoreValid_c s hl
  have hO := sOpValid_c k a b s.h.T.length (by omega)
  have no : ¬ (s.runOk k a b ∧ (k = 5 ∨ k = 6)) → s.tgt k a b = -1 := fun q => by unfold Sto.tgt; rw [if_neg (fun w => q ⟨w.1, w.2.1⟩)]
  refine Fn_go Tryz.func85 ?_
  by_cases g1 : s.valid = true
  case neg =>
    rw [no (fun q => g1 ((Sto.ok_iff s).2 q.1.1))]
    have g2 : s.valid = false := by simpa using g1
    rw [g2] at hv
    clear no g1 g2
    refine W_go ?_
    refine W_c1 [(0, (0, 0)), (1, (1, 0)), (2, (2, 0)), (3, (3, 0))] hv ?_
    refine W_ift ?_
    refine W_go ?_
    refine W_rt [] [] ?_
    exact ⟨rfl, rfl⟩
  rw [g1] at hv
  by_cases g2 : opOk k a b s.h.T.length
  case neg =>
    rw [no (fun q => g2 q.1.2)]
    rw [decide_eq_false g2] at hO
    clear no g1 g2
    refine W_go ?_
    refine W_c2 [(0, (0, 0)), (1, (1, 0)), (2, (2, 0)), (3, (3, 0))] hv [] hO ?_
    refine W_ift ?_
    refine W_go ?_
    refine W_rt [] [] ?_
    exact ⟨rfl, rfl⟩
  have gr : s.runOk k a b := ⟨(Sto.ok_iff s).1 g1, g2⟩
  rw [decide_eq_true g2] at hO
  obtain ⟨⟨_, a1, a2, a3, b1, b2⟩, hb⟩ := g2
  by_cases k5 : k = 5
  · have hb2 : b < s.h.T.length := by rw [if_neg (by omega)] at hb; exact hb
    have yes : s.h.T.getD a.toNat 0 ≠ -1 → s.tgt k a b = s.h.T.getD b.toNat 0 := fun q => by unfold Sto.tgt; rw [if_pos ⟨gr, .inl k5, q⟩]
    have non : ¬ s.h.T.getD a.toNat 0 ≠ -1 → s.tgt k a b = -1 := fun q => by unfold Sto.tgt; rw [if_neg (fun w => q w.2.2)]
    generalize s.tgt k a b = x at *
    subst k5
    replace yes : Hold _ := ⟨yes⟩
    replace non : Hold _ := ⟨non⟩
    clear no gr hb g1
    refine W_go ?_
    refine W_ch2 [(0, (0, 0)), (1, (1, 0)), (2, (2, 0)), (3, (3, 0))] hv [] hO ?_
    refine W_if (fun q => ?_) (fun q => ?_)
    · rw [non.told (fun w => w q)]
      refine W_go ?_
      refine W_rt [] [] ?_
      exact ⟨rfl, rfl⟩
    · rw [yes.told q]
      refine W_go ?_
      refine W_rt [] [] ?_
      exact ⟨rfl, rfl⟩
  by_cases k6 : k = 6
  · have hb2 : b < s.h.T.length := by rw [if_neg (by omega)] at hb; exact hb
    have yes : s.h.T.getD a.toNat 0 ≠ -1 → s.tgt k a b = s.h.T.getD b.toNat 0 := fun q => by unfold Sto.tgt; rw [if_pos ⟨gr, .inr k6, q⟩]
    have non : ¬ s.h.T.getD a.toNat 0 ≠ -1 → s.tgt k a b = -1 := fun q => by unfold Sto.tgt; rw [if_neg (fun w => q w.2.2)]
    generalize s.tgt k a b = x at *
    subst k6
    replace yes : Hold _ := ⟨yes⟩
    replace non : Hold _ := ⟨non⟩
    clear no gr hb g1
    refine W_go ?_
    refine W_ch2 [(0, (0, 0)), (1, (1, 0)), (2, (2, 0)), (3, (3, 0))] hv [] hO ?_
    refine W_if (fun q => ?_) (fun q => ?_)
    · rw [non.told (fun w => w q)]
      refine W_go ?_
      refine W_rt [] [] ?_
      exact ⟨rfl, rfl⟩
    · rw [yes.told q]
      refine W_go ?_
      refine W_rt [] [] ?_
      exact ⟨rfl, rfl⟩
  rw [no (fun q => by omega)]
  clear no gr hb g1
  refine W_go ?_
  refine W_ch2 [(0, (0, 0)), (1, (1, 0)), (2, (2, 0)), (3, (3, 0))] hv [] hO ?_
  refine W_ift ?_
  refine W_go ?_
  refine W_rt [] [] ?_
  exact ⟨rfl, rfl⟩
theorem sBothValid_c (b : Bth) (hl : (((b.s.h.L.length ≤ 4194304 ∧ b.s.h.R.length ≤ 4194304 ∧ b.s.h.T.length ≤ 4194304) ∧ b.s.F.length ≤ 4194304) ∧ b.g.C.length ≤ 4194304) ∧ b.o.length ≤ 4194304) : Fn Tryz.prog 34 [(0, .c false (.ints b.s.h.L)), (1, .c false (.ints b.s.h.R)), (2, .c false (.ints b.s.h.T)), (3, .c false (.ints b.s.F)), (4, .c false (.ints b.g.C)), (5, .c false (.ops b.o))] [.agg [.sl 0 0 b.s.h.L.length, .sl 1 0 b.s.h.R.length, .sl 2 0 b.s.h.T.length, .sl 3 0 b.s.F.length, .int .i64 b.g.p, .sl 4 0 b.g.C.length, .int .i64 b.g.a, .sl 5 0 b.o.length, .int .i64 b.a, .bool b.l]] (fun r H => r = .bool (decide b.ok) ∧ H = []) := by
  have hv := sGcValid_c b.s b.g hl.1.1 hl.1.2
  have hO := sl7Ops_c b.o b.s.h.T.length hl.2 (by omega)
  refine Fn_go Tryz.func34 ?_
  by_cases g1 : b.g.ok b.s
  case neg =>
    rw [decide_eq_false (show ¬ b.ok from fun q => g1 q.1)]
    rw [decide_eq_false g1] at hv
    clear g1
    refine W_go ?_
    refine W_c1 [(0, (0, 0)), (1, (1, 0)), (2, (2, 0)), (3, (3, 0)), (4, (4, 0))] hv ?_
    refine W_rt [] [] ?_
    exact ⟨rfl, rfl⟩
  rw [decide_eq_true g1] at hv
  by_cases g2 : opsV b.o b.s.h.T.length
  case neg =>
    rw [decide_eq_false (show ¬ b.ok from fun q => g2 q.2.1)]
    rw [decide_eq_false g2] at hO
    clear g1 g2
    refine W_go ?_
    refine W_c2 [(0, (0, 0)), (1, (1, 0)), (2, (2, 0)), (3, (3, 0)), (4, (4, 0))] hv [(0, (5, 0))] hO ?_
    refine W_rt [] [] ?_
    exact ⟨rfl, rfl⟩
  rw [decide_eq_true g2] at hO
  by_cases g3 : 0 ≤ b.a
  case neg =>
    rw [decide_eq_false (show ¬ b.ok from fun q => g3 q.2.2.1)]
    clear g1 g2
    refine W_go ?_
    refine W_ch2 [(0, (0, 0)), (1, (1, 0)), (2, (2, 0)), (3, (3, 0)), (4, (4, 0))] hv [(0, (5, 0))] hO ?_
    refine W_rt [] [] ?_
    exact ⟨rfl, rfl⟩
  have e : decide b.ok = decide (b.a ≤ b.o.length) := by
    rw [decide_eq_decide]; exact ⟨fun q => q.2.2.2, fun q => ⟨g1, g2, g3, q⟩⟩
  rw [e]
  clear g1 g2 e
  refine W_go ?_
  refine W_ch2 [(0, (0, 0)), (1, (1, 0)), (2, (2, 0)), (3, (3, 0)), (4, (4, 0))] hv [(0, (5, 0))] hO ?_
  refine W_rt [] [] ?_
  exact ⟨rfl, rfl⟩
theorem iBothValid_c (b : Bth) (hl : (((b.s.h.L.length ≤ 4194304 ∧ b.s.h.R.length ≤ 4194304 ∧ b.s.h.T.length ≤ 4194304) ∧ b.s.F.length ≤ 4194304) ∧ b.g.C.length ≤ 4194304) ∧ b.o.length ≤ 4194304) : Fn Tryz.prog 14 [(0, .c false (.ints b.s.h.L)), (1, .c false (.ints b.s.h.R)), (2, .c false (.ints b.s.h.T)), (3, .c false (.ints b.s.F)), (4, .c false (.ints b.g.C)), (5, .c false (.ops b.o))] [.agg [.sl 0 0 b.s.h.L.length, .sl 1 0 b.s.h.R.length, .sl 2 0 b.s.h.T.length, .sl 3 0 b.s.F.length, .int .i64 b.g.p, .sl 4 0 b.g.C.length, .int .i64 b.g.a, .sl 5 0 b.o.length, .int .i64 b.a, .bool b.l]] (fun r H => r = .bool (decide b.ok) ∧ H = []) := by
  have hv := iGcValid_c b.s b.g hl.1.1 hl.1.2
  have hO := iopsOk_c b.o b.s.h.T.length hl.2 (by omega)
  refine Fn_go Tryz.func14 ?_
  by_cases g1 : b.g.ok b.s
  case neg =>
    rw [decide_eq_false (show ¬ b.ok from fun q => g1 q.1)]
    rw [decide_eq_false g1] at hv
    clear g1
    refine W_go ?_
    refine W_c1 [(0, (0, 0)), (1, (1, 0)), (2, (2, 0)), (3, (3, 0)), (4, (4, 0))] hv ?_
    refine W_rt [] [] ?_
    exact ⟨rfl, rfl⟩
  rw [decide_eq_true g1] at hv
  by_cases g2 : opsV b.o b.s.h.T.length
  case neg =>
    rw [decide_eq_false (show ¬ b.ok from fun q => g2 q.2.1)]
    rw [decide_eq_false g2] at hO
    clear g1 g2
    refine W_go ?_
    refine W_c2 [(0, (0, 0)), (1, (1, 0)), (2, (2, 0)), (3, (3, 0)), (4, (4, 0))] hv [(0, (5, 0))] hO ?_
    refine W_rt [] [] ?_
    exact ⟨rfl, rfl⟩
  rw [decide_eq_true g2] at hO
  by_cases g3 : 0 ≤ b.a
  case neg =>
    rw [decide_eq_false (show ¬ b.ok from fun q => g3 q.2.2.1)]
    clear g1 g2
    refine W_go ?_
    refine W_ch2 [(0, (0, 0)), (1, (1, 0)), (2, (2, 0)), (3, (3, 0)), (4, (4, 0))] hv [(0, (5, 0))] hO ?_
    refine W_rt [] [] ?_
    exact ⟨rfl, rfl⟩
  have e : decide b.ok = decide (b.a ≤ b.o.length) := by
    rw [decide_eq_decide]; exact ⟨fun q => q.2.2.2, fun q => ⟨g1, g2, g3, q⟩⟩
  rw [e]
  clear g1 g2 e
  refine W_go ?_
  refine W_ch2 [(0, (0, 0)), (1, (1, 0)), (2, (2, 0)), (3, (3, 0)), (4, (4, 0))] hv [(0, (5, 0))] hO ?_
  refine W_rt [] [] ?_
  exact ⟨rfl, rfl⟩
theorem sl7Copy_c (b : Bth) (hl : (((b.s.h.L.length ≤ 4194304 ∧ b.s.h.R.length ≤ 4194304 ∧ b.s.h.T.length ≤ 4194304) ∧ b.s.F.length ≤ 4194304) ∧ b.g.C.length ≤ 4194304) ∧ b.o.length ≤ 4194304) : Fn Tryz.prog 35 [(0, .c false (.ints b.s.h.L)), (1, .c false (.ints b.s.h.R)), (2, .c false (.ints b.s.h.T)), (3, .c false (.ints b.s.F)), (4, .c false (.ints b.g.C)), (5, .c false (.ops b.o))] [.agg [.sl 0 0 b.s.h.L.length, .sl 1 0 b.s.h.R.length, .sl 2 0 b.s.h.T.length, .sl 3 0 b.s.F.length, .int .i64 b.g.p, .sl 4 0 b.g.C.length, .int .i64 b.g.a, .sl 5 0 b.o.length, .int .i64 b.a, .bool b.l]] (fun r H => r = .agg [.sl 100 0 b.s.h.L.length, .sl 101 0 b.s.h.R.length, .sl 102 0 b.s.h.T.length, .sl 103 0 b.s.F.length, .int .i64 b.g.p, .sl 104 0 b.g.C.length, .int .i64 b.g.a, .sl 105 0 b.o.length, .int .i64 b.a, .bool b.l] ∧ H = [(100, .c true (.ints b.s.h.L)), (101, .c true (.ints b.s.h.R)), (102, .c true (.ints b.s.h.T)), (103, .c true (.ints b.s.F)), (104, .c true (.ints b.g.C)), (105, .c true (.ops b.o))]) := by
  refine Fn_go Tryz.func35 ?_
  refine W_go ?_
  refine W_dc2 [(0, (0, 0)), (1, (1, 0)), (2, (2, 0)), (3, (3, 0))] (sl4Copy_c b.s hl.1.1) [(0, (4, 0))] (sl6Copy_c b.g hl.1.2) [.c _ _ _, .c _ _ _] ?_
  refine W_rt [(2064, (100, 0)), (2065, (101, 0)), (2066, (102, 0)), (2067, (103, 0)), (2088, (104, 0)), (2120, (105, 0))] [] ?_
  exact ⟨rfl, rfl⟩
end Go.Proofs.YtnepiffboakehaaGreatDoor.S
