/- Contracts: the law FnCountStep. Own work of this claim. -/
import Derived.Test.YtbobhbhgomkgpaaGreatDoorC5
import Derived.Test.YtbobhbhgomkgpaaGreatDoorC4
import Derived.Test.YtbobhbhgomkgpaaGreatDoorMg
namespace Go.Proofs.YtbobhbhgomkgpaaGreatDoor.S
set_option linter.all false
open Go Go.Proofs
set_option maxHeartbeats 4000000
set_option maxRecDepth 100000

theorem lCountStep_c (B : List UInt8) (hB : B.length ≤ 9223372036854775807) : Fn Tryz.prog 4 [(0, .c false (.bys B))] [.sl 0 0 B.length] (fun r H => r = .bool true ∧ H = []) := by
  refine Fn_go Tryz.func4 ?_
  refine W_go ?_
  refine W_if (fun h1 => ?_) (fun h1 => ?_)
  · refine W_go ?_
    refine W_rt [] [] ?_
    exact ⟨rfl, rfl⟩
  have hB : B.length ≤ 1048576 := by omega
  clear h1
  refine W_go ?_
  refine W_rw fun K hK => ?_
  refine RW_x ?_
  repeat (refine And.intro (by omega) ?_)
  refine CKy (μ := [(0, (0, 0))]) ⟨⟩ (drawCountBoth_c B hB) (fun y hy => ?_)
  obtain ⟨b, bar⟩ := y
  try dsimp only at hy ⊢
  refine RW_x ?_
  repeat (refine And.intro (by omega) ?_)
  refine hK _ _ ?_
  obtain ⟨hb, hp, hl⟩ := hy
  have hI := iCount_c b bar hb
  have hS := sCount_c b bar hb
  have hc := cnt_gc (bar := bar) (b := b)
  have ho := cnt_op (bar := bar) (b := b)
  have hz := cnt_none (bar := bar) (b := b)
  have hle := cnt_le bar b
  cases z : (b.all bar).isSome
  · have hz := hz z
    rw [z, hz] at hI hS
    clear hc ho hz
    refine W_go ?_
    refine W_c1 [(0, (4104, 0)), (1, (4105, 0)), (2, (4106, 0)), (3, (4107, 0)), (4, (4108, 0)), (5, (4109, 0))] hI ?_
    clear hI
    refine W_go ?_
    refine W_c1 [(0, (4104, 0)), (1, (4105, 0)), (2, (4106, 0)), (3, (4107, 0)), (4, (4108, 0)), (5, (4109, 0))] hS ?_
    clear hS
    refine W_go ?_
    refine W_ift ?_
    refine W_go ?_
    refine W_rt [] [] ?_
    exact ⟨rfl, rfl⟩
  · obtain ⟨g1, g2, g3⟩ := hc z hl
    have ho := ho z
    have hG := iStepBoth_c b hb
    have hgs := b.sgc_small
    rw [decide_eq_true g1, show b.sgc = b.gcs by rw [Bth.sgc, if_pos g1]] at hG
    rw [show b.sgc = b.gcs by rw [Bth.sgc, if_pos g1]] at hgs
    have hN1 := iCount_c b.gcs bar (by omega)
    have hO := iStepOp_c b bar hb
    have hos := b.sop_small bar
    have hN2 := iCount_c (b.sop bar) bar (by omega)
    have hle2 := cnt_le bar (b.sop bar)
    rw [z] at hI hS
    rw [g2] at hN1
    clear hc hz g2 z hp hgs hos
    by_cases op : b.opOk
    · obtain ⟨o1, o2⟩ := ho op
      rw [decide_eq_true op] at hO
      rw [show b.sop bar = b.op bar by rw [Bth.sop, if_pos op]] at hO hN2 hle2
      rw [o1] at hN2
      clear ho op o1 g1
      generalize b.cnt bar = n at *
      generalize b.gcs.cnt bar = m at *
      generalize (b.op bar).cnt bar = k at *
      generalize b.gcs = w at *
      generalize b.op bar = v at *
      have g3 : (m : Int) ≤ (n : Int) := by omega
      have o2 : (k : Int) < (n : Int) := by omega
      refine W_go ?_
      refine W_c1 [(0, (4104, 0)), (1, (4105, 0)), (2, (4106, 0)), (3, (4107, 0)), (4, (4108, 0)), (5, (4109, 0))] hI ?_
      clear hI
      refine W_go ?_
      refine W_c1 [(0, (4104, 0)), (1, (4105, 0)), (2, (4106, 0)), (3, (4107, 0)), (4, (4108, 0)), (5, (4109, 0))] hS ?_
      clear hS
      refine W_go ?_
      refine W_iff ?_
      refine W_go ?_
      refine W_c1 [(0, (4104, 0)), (1, (4105, 0)), (2, (4106, 0)), (3, (4107, 0)), (4, (4108, 0)), (5, (4109, 0))] hG ?_
      clear hG
      refine W_go ?_
      refine W_c1 [(0, (9224, 0)), (1, (9225, 0)), (2, (9226, 0)), (3, (9227, 0)), (4, (9228, 0)), (5, (9229, 0))] hN1 ?_
      clear hN1
      refine W_go ?_
      refine W_c1 [(0, (4104, 0)), (1, (4105, 0)), (2, (4106, 0)), (3, (4107, 0)), (4, (4108, 0)), (5, (4109, 0))] hO ?_
      clear hO
      refine W_go ?_
      refine W_c1 [(0, (11280, 0)), (1, (11281, 0)), (2, (11282, 0)), (3, (11283, 0)), (4, (11284, 0)), (5, (11285, 0))] hN2 ?_
      clear hN2
      refine W_gh ?_
      refine W_rt [] [] ?_
      exact ⟨rfl, rfl⟩
    · rw [decide_eq_false op] at hO
      clear ho op g1
      generalize b.cnt bar = n at *
      generalize b.gcs.cnt bar = m at *
      generalize (b.sop bar).cnt bar = k at *
      generalize ((b.sop bar).all bar).isSome = z at *
      generalize b.gcs = w at *
      generalize b.sop bar = v at *
      have g3 : (m : Int) ≤ (n : Int) := by omega
      refine W_go ?_
      refine W_c1 [(0, (4104, 0)), (1, (4105, 0)), (2, (4106, 0)), (3, (4107, 0)), (4, (4108, 0)), (5, (4109, 0))] hI ?_
      clear hI
      refine W_go ?_
      refine W_c1 [(0, (4104, 0)), (1, (4105, 0)), (2, (4106, 0)), (3, (4107, 0)), (4, (4108, 0)), (5, (4109, 0))] hS ?_
      clear hS
      refine W_go ?_
      refine W_iff ?_
      refine W_go ?_
      refine W_c1 [(0, (4104, 0)), (1, (4105, 0)), (2, (4106, 0)), (3, (4107, 0)), (4, (4108, 0)), (5, (4109, 0))] hG ?_
      clear hG
      refine W_go ?_
      refine W_c1 [(0, (9224, 0)), (1, (9225, 0)), (2, (9226, 0)), (3, (9227, 0)), (4, (9228, 0)), (5, (9229, 0))] hN1 ?_
      clear hN1
      refine W_go ?_
      refine W_c1 [(0, (4104, 0)), (1, (4105, 0)), (2, (4106, 0)), (3, (4107, 0)), (4, (4108, 0)), (5, (4109, 0))] hO ?_
      clear hO
      refine W_go ?_
      refine W_c1 [(0, (11280, 0)), (1, (11281, 0)), (2, (11282, 0)), (3, (11283, 0)), (4, (11284, 0)), (5, (11285, 0))] hN2 ?_
      clear hN2
      refine W_gh ?_
      refine W_rt [] [] ?_
      exact ⟨rfl, rfl⟩
end Go.Proofs.YtbobhbhgomkgpaaGreatDoor.S
