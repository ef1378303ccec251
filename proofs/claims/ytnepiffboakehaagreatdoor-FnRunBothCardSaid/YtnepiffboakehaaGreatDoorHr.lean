/- Contracts: the law FnRunBoth. Own work of this claim. -/
import Derived.Test.YtnepiffboakehaaGreatDoorHm
import Derived.Test.YtnepiffboakehaaGreatDoorHe
namespace Go.Proofs.YtnepiffboakehaaGreatDoor.S
set_option linter.all false
open Go Go.Proofs
set_option maxHeartbeats 4000000
set_option maxRecDepth 100000

theorem sch_ext (l : List Bool) (i j : Nat) (h : i ≤ j) : (sch l).extract i j = sch ((l.drop i).take (j - i)) := by
  unfold sch
  rw [bs_extract, List.map_take, List.map_drop]
theorem lRunBoth_c (B : List UInt8) (hB : B.length ≤ 9223372036854775807) : Fn Tryz.prog 4 [(0, .c false (.bys B))] [.sl 0 0 B.length] (fun r H => r = .bool true ∧ H = []) := by
  refine Fn_go Tryz.func4 ?_
  refine W_go ?_
  refine W_if (fun h1 => ?_) (fun h1 => ?_)
  · refine W_go ?_
    refine W_rt [] [] ?_
    exact ⟨rfl, rfl⟩
  have hB : B.length ≤ 1048576 := by omega
  clear h1
  refine W_go ?_
  refine W_rw fun K hK => ?_
  refine RW_x ?_
  repeat (refine And.intro (by omega) ?_)
  refine CKy (μ := [(0, (0, 0))]) ⟨⟩ (drawRunBoth_c B hB) (fun y hy => ?_)
  obtain ⟨sl, bad, bar⟩ := y
  try dsimp only at hy ⊢
  refine RW_x ?_
  repeat (refine And.intro (by omega) ?_)
  refine hK _ _ ?_
  obtain ⟨sl, l⟩ := sl
  dsimp only at hy ⊢
  have hl : l.length ≤ 24 := hy.2
  have ok : (Bth.new sl.1 sl.2).ok := Bth.new_ok hy.1.told
  have hg0 : (Bth.new sl.1 sl.2).g.p = 0 := by rw [Bth.new, if_pos hy.1.told]
  have hl0 : (Bth.new sl.1 sl.2).l = false := by rw [Bth.new, if_pos hy.1.told]
  have ha0 : (Bth.new sl.1 sl.2).a = 0 := by rw [Bth.new, if_pos hy.1.told]
  clear hy
  generalize Bth.new sl.1 sl.2 = b at *
  have hs := ok.small
  have hb : (((b.s.h.L.length ≤ 4194304 ∧ b.s.h.R.length ≤ 4194304 ∧ b.s.h.T.length ≤ 4194304) ∧ b.s.F.length ≤ 4194304) ∧ b.g.C.length ≤ 4194304) ∧ b.o.length ≤ 4194304 := by omega
  clear hs
  cases bad
  case true =>
    have hI := iRunBothX_c b hb l hl bar
    have hS := sRunBothX_c b ok l hl bar
    have hE := iBothT_c .zero (by simp [Bth.zero, Sto.zero, Gcc.zero])
    clear ok hg0 hl0 ha0
    rw [if_pos rfl]
    generalize schX l = z at *
    generalize Bth.zero = w at *
    refine W_go ?_
    refine W_c1 [(0, (4104, 0)), (1, (4105, 0)), (2, (4106, 0)), (3, (4107, 0)), (4, (4108, 0)), (5, (4109, 0))] hI ?_
    clear hI
    refine W_go ?_
    refine W_c1 [(0, (4104, 0)), (1, (4105, 0)), (2, (4106, 0)), (3, (4107, 0)), (4, (4108, 0)), (5, (4109, 0))] hS ?_
    clear hS
    refine W_go ?_
    refine W_c1 [(0, (5144, 0)), (1, (5145, 0)), (2, (5146, 0)), (3, (5147, 0)), (4, (5148, 0)), (5, (5149, 0)), (6, (6168, 0)), (7, (6169, 0)), (8, (6170, 0)), (9, (6171, 0)), (10, (6172, 0)), (11, (6173, 0))] hE ?_
    refine W_ift ?_
    refine W_go ?_
    refine W_c1 [(0, (5144, 0)), (1, (5145, 0)), (2, (5146, 0)), (3, (5147, 0)), (4, (5148, 0)), (5, (5149, 0)), (6, (6168, 0)), (7, (6169, 0)), (8, (6170, 0)), (9, (6171, 0)), (10, (6172, 0)), (11, (6173, 0))] hE ?_
    refine W_go ?_
    refine W_rt [] [] ?_
    exact ⟨rfl, rfl⟩
  rw [if_neg Bool.false_ne_true]
  have hI := iRunBoth_c b ok l (by omega) bar
  have hS := sRunBoth_c b ok l (by omega) bar
  have hrs := (Bth.run_ok bar l ok).small
  have hE := iBothT_c (Bth.run bar l b) (by omega)
  have hrt := (Bth.run_ok bar (l.take (l.length / 2)) ok)
  have hI1 := iRunBoth_c b ok (l.take (l.length / 2)) (by rw [List.length_take]; omega) bar
  have hI2 := iRunBoth_c (Bth.run bar (l.take (l.length / 2)) b) hrt (l.drop (l.length / 2)) (by rw [List.length_drop]; omega) bar
  rw [← Bth.run_app, List.take_append_drop] at hI2
  have hz := sch_size l
  have e1 : (sch l).extract 0 (l.length / 2) = sch (l.take (l.length / 2)) := by rw [sch_ext _ _ _ (by omega), List.drop_zero, Nat.sub_zero]
  have e2 : (sch l).extract (l.length / 2) (sch l).size = sch (l.drop (l.length / 2)) := by rw [sch_ext _ _ _ (by omega), List.take_of_length_le (by rw [List.length_drop]; omega)]
  have hq : ((sch l).size : Int).tdiv 2 = ((l.length / 2 : Nat) : Int) := by rw [hz]; rfl
  have hc : l.length / 2 ≤ (sch l).size := by omega
  have hz2 : (sch l).size ≤ 24 := by omega
  clear hz hl ok hg0 hl0 ha0 hrs hrt
  generalize sch (l.take (l.length / 2)) = z1 at *
  generalize sch (l.drop (l.length / 2)) = z2 at *
  generalize Bth.run bar (l.take (l.length / 2)) b = y at *
  generalize Bth.run bar l b = x at *
  generalize sch l = z at *
  generalize l.length / 2 = c at *
  refine W_go ?_
  refine W_c1 [(0, (4104, 0)), (1, (4105, 0)), (2, (4106, 0)), (3, (4107, 0)), (4, (4108, 0)), (5, (4109, 0))] hI ?_
  clear hI
  refine W_go ?_
  refine W_c1 [(0, (4104, 0)), (1, (4105, 0)), (2, (4106, 0)), (3, (4107, 0)), (4, (4108, 0)), (5, (4109, 0))] hS ?_
  clear hS
  refine W_go ?_
  refine W_c1 [(0, (5144, 0)), (1, (5145, 0)), (2, (5146, 0)), (3, (5147, 0)), (4, (5148, 0)), (5, (5149, 0)), (6, (6168, 0)), (7, (6169, 0)), (8, (6170, 0)), (9, (6171, 0)), (10, (6172, 0)), (11, (6173, 0))] hE ?_
  refine W_iff ?_
  refine W_go ?_
  rw [hq]
  refine W_dch1 [(0, (4104, 0)), (1, (4105, 0)), (2, (4106, 0)), (3, (4107, 0)), (4, (4108, 0)), (5, (4109, 0))] hI1 [.c _ _ _] ?_
  refine W_go ?_
  refine W_dch1 [(0, (10280, 0)), (1, (10281, 0)), (2, (10282, 0)), (3, (10283, 0)), (4, (10284, 0)), (5, (10285, 0))] hI2 [.c _ _ _] ?_
  refine W_go ?_
  refine W_c1 [(0, (11304, 0)), (1, (11305, 0)), (2, (11306, 0)), (3, (11307, 0)), (4, (11308, 0)), (5, (11309, 0)), (6, (5144, 0)), (7, (5145, 0)), (8, (5146, 0)), (9, (5147, 0)), (10, (5148, 0)), (11, (5149, 0))] hE ?_
  refine W_go ?_
  refine W_rt [] [] ?_
  exact ⟨rfl, rfl⟩
end Go.Proofs.YtnepiffboakehaaGreatDoor.S
