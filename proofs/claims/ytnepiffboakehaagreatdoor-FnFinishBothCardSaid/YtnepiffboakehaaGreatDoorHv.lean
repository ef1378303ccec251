/- Contracts: the law FnFinishBoth. Own work of this claim. -/
import Derived.Test.YtnepiffboakehaaGreatDoorHm
import Derived.Test.YtnepiffboakehaaGreatDoorHe
import Derived.Test.YtnepiffboakehaaGreatDoorGz
namespace Go.Proofs.YtnepiffboakehaaGreatDoor.S
set_option linter.all false
open Go Go.Proofs
set_option maxHeartbeats 4000000
set_option maxRecDepth 100000

theorem lFinishBoth_c (B : List UInt8) (hB : B.length ≤ 9223372036854775807) : Fn Tryz.prog 8 [(0, .c false (.bys B))] [.sl 0 0 B.length] (fun r H => r = .bool true ∧ H = []) := by
  refine Fn_go Tryz.func8 ?_
  refine W_go ?_
  refine W_if (fun h1 => ?_) (fun h1 => ?_)
  · refine W_go ?_
    refine W_rt [] [] ?_
    exact ⟨rfl, rfl⟩
  have hB : B.length ≤ 1048576 := by omega
  clear h1
  refine W_go ?_
  refine W_rw fun K hK => ?_
  refine RW_x ?_
  repeat (refine And.intro (by omega) ?_)
  refine CKy (μ := [(0, (0, 0))]) ⟨⟩ (drawRunBoth_c B hB) (fun y hy => ?_)
  obtain ⟨sl, bad, bar⟩ := y
  try dsimp only at hy ⊢
  refine RW_x ?_
  repeat (refine And.intro (by omega) ?_)
  refine hK _ _ ?_
  obtain ⟨sl, l⟩ := sl
  dsimp only at hy ⊢
  have hl : l.length ≤ 24 := hy.2
  have ok : (Bth.new sl.1 sl.2).ok := Bth.new_ok hy.1.told
  have hg0 : (Bth.new sl.1 sl.2).g.p = 0 := by rw [Bth.new, if_pos hy.1.told]
  have hl0 : (Bth.new sl.1 sl.2).l = false := by rw [Bth.new, if_pos hy.1.told]
  have ha0 : (Bth.new sl.1 sl.2).a = 0 := by rw [Bth.new, if_pos hy.1.told]
  clear hy
  generalize Bth.new sl.1 sl.2 = b at *
  have hs := ok.small
  have hb : (((b.s.h.L.length ≤ 4194304 ∧ b.s.h.R.length ≤ 4194304 ∧ b.s.h.T.length ≤ 4194304) ∧ b.s.F.length ≤ 4194304) ∧ b.g.C.length ≤ 4194304) ∧ b.o.length ≤ 4194304 := by omega
  clear hs
  cases bad
  case true =>
    have hI := iRunBothX_c b hb l hl bar
    have hS := sRunBothX_c b ok l hl bar
    have hE := iBothT_c .zero (by simp [Bth.zero, Sto.zero, Gcc.zero])
    clear ok hg0 hl0 ha0
    rw [if_pos rfl]
    generalize schX l = z at *
    generalize Bth.zero = w at *
    refine W_go ?_
    refine W_c1 [(0, (4104, 0)), (1, (4105, 0)), (2, (4106, 0)), (3, (4107, 0)), (4, (4108, 0)), (5, (4109, 0))] hI ?_
    clear hI
    refine W_go ?_
    refine W_c1 [(0, (4104, 0)), (1, (4105, 0)), (2, (4106, 0)), (3, (4107, 0)), (4, (4108, 0)), (5, (4109, 0))] hS ?_
    clear hS
    refine W_go ?_
    refine W_c1 [(0, (5144, 0)), (1, (5145, 0)), (2, (5146, 0)), (3, (5147, 0)), (4, (5148, 0)), (5, (5149, 0)), (6, (6168, 0)), (7, (6169, 0)), (8, (6170, 0)), (9, (6171, 0)), (10, (6172, 0)), (11, (6173, 0))] hE ?_
    refine W_ift ?_
    refine W_go ?_
    refine W_c1 [(0, (5144, 0)), (1, (5145, 0)), (2, (5146, 0)), (3, (5147, 0)), (4, (5148, 0)), (5, (5149, 0)), (6, (6168, 0)), (7, (6169, 0)), (8, (6170, 0)), (9, (6171, 0)), (10, (6172, 0)), (11, (6173, 0))] hE ?_
    refine W_go ?_
    refine W_rt [] [] ?_
    exact ⟨rfl, rfl⟩
  rw [if_neg Bool.false_ne_true]
  have hI := iRunBoth_c b ok l (by omega) bar
  have hS := sRunBoth_c b ok l (by omega) bar
  have hrs := (Bth.run_ok bar l ok).small
  have hE := iBothT_c (Bth.run bar l b) (by omega)
  have hI1 := iRunBoth_c b ok l (by omega) true
  have hok1 := Bth.run_ok true l ok
  have hbar := Bth.bar_run l (bar_idle ok.1 hg0) hl0
  have hb1 : ((((Bth.run true l b).s.h.L.length ≤ 4194304 ∧ (Bth.run true l b).s.h.R.length ≤ 4194304 ∧ (Bth.run true l b).s.h.T.length ≤ 4194304) ∧ (Bth.run true l b).s.F.length ≤ 4194304) ∧ (Bth.run true l b).g.C.length ≤ 4194304) ∧ (Bth.run true l b).o.length ≤ 4194304 := by have := hok1.small; omega
  have hF := iFinishBoth_c (Bth.run true l b) true hb1
  have hfs := (Bth.run true l b).sfin_small true
  obtain ⟨f1, f2, f3, f4⟩ := fin_bar hok1 hbar.1 hbar.2
  have hL := iLeakedOf_c ((Bth.run true l b).sfin true).s (by omega)
  rw [show (Bth.run true l b).sfin true = (Bth.run true l b).fin true by rw [Bth.sfin, if_pos hok1]] at hF hL
  rw [f4] at hL
  rw [decide_eq_true hok1, f1, f2, f3] at hF
  clear hl ok hg0 hl0 ha0 hrs hok1 hbar hb1 hfs f1 f2 f3 f4
  generalize (Bth.run true l b).fin true = w at *
  generalize Bth.run true l b = y at *
  generalize Bth.run bar l b = x at *
  generalize sch l = z at *
  refine W_go ?_
  refine W_c1 [(0, (4104, 0)), (1, (4105, 0)), (2, (4106, 0)), (3, (4107, 0)), (4, (4108, 0)), (5, (4109, 0))] hI ?_
  clear hI
  refine W_go ?_
  refine W_c1 [(0, (4104, 0)), (1, (4105, 0)), (2, (4106, 0)), (3, (4107, 0)), (4, (4108, 0)), (5, (4109, 0))] hS ?_
  clear hS
  refine W_go ?_
  refine W_c1 [(0, (5144, 0)), (1, (5145, 0)), (2, (5146, 0)), (3, (5147, 0)), (4, (5148, 0)), (5, (5149, 0)), (6, (6168, 0)), (7, (6169, 0)), (8, (6170, 0)), (9, (6171, 0)), (10, (6172, 0)), (11, (6173, 0))] hE ?_
  refine W_iff ?_
  refine W_go ?_
  refine W_c1 [(0, (4104, 0)), (1, (4105, 0)), (2, (4106, 0)), (3, (4107, 0)), (4, (4108, 0)), (5, (4109, 0))] hI1 ?_
  refine W_go ?_
  refine W_c1 [(0, (9232, 0)), (1, (9233, 0)), (2, (9234, 0)), (3, (9235, 0)), (4, (9236, 0)), (5, (9237, 0))] hF ?_
  refine W_go ?_
  refine W_ch1 [(0, (10248, 0)), (1, (10249, 0)), (2, (10250, 0)), (3, (10251, 0))] hL ?_
  refine W_go ?_
  refine W_rt [] [] ?_
  exact ⟨rfl, rfl⟩
end Go.Proofs.YtnepiffboakehaaGreatDoor.S
