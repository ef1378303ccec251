/- Contracts: the law FnStepGc. Own work of this claim. -/
import Derived.Test.YtdkdepfgilbkeaaGs
import Derived.Test.YtdkdepfgilbkeaaGe
namespace Go.Proofs.Ytdkdepfgilbkeaa.S
set_option linter.all false
open Go Go.Proofs
set_option maxHeartbeats 4000000
set_option maxRecDepth 100000

theorem lStepGc_c (B : List UInt8) (hB : B.length ≤ 9223372036854775807) : Fn Try.prog 9 [(0, .c false (.bys B))] [.sl 0 0 B.length] (fun r H => r = .bool true ∧ H = []) := by
  refine Fn_go Try.func9 ?_
  refine W_go ?_
  refine W_if (fun h1 => ?_) (fun h1 => ?_)
  · refine W_go ?_
    refine W_rt [] [] ?_
    exact ⟨rfl, rfl⟩
  have hB : B.length ≤ 1048576 := by omega
  clear h1
  refine W_go ?_
  refine W_rw fun K hK => ?_
  refine RW_x ?_
  repeat (refine And.intro (by omega) ?_)
  refine CKy (μ := [(0, (0, 0))]) ⟨⟩ (drawStepGc_c B hB) (fun x hx => ?_)
  obtain ⟨s, g⟩ := x
  try dsimp only at hx ⊢
  refine RW_x ?_
  repeat (refine And.intro (by omega) ?_)
  refine hK _ _ ?_
  unfold drG at hx
  have hb : ((s.h.L.length ≤ 4194304 ∧ s.h.R.length ≤ 4194304 ∧ s.h.T.length ≤ 4194304) ∧ s.F.length ≤ 4194304) ∧ g.C.length ≤ 8 := by omega
  have hI := iStepGc_c s g hb.1 (by omega)
  have hS := sStepGc_c s g hb.1 (by omega)
  by_cases g0 : g.stOk s
  case neg =>
    rw [decide_eq_false g0, Gcc.stepS, Gcc.stepG, if_neg g0, if_neg g0] at hI hS
    have hE := iSame_t Sto.zero (by simp [Sto.zero])
    have hF := iGcSame_t Gcc.zero (by simp [Gcc.zero])
    clear g0
    generalize Sto.zero = s' at *
    generalize Gcc.zero = g' at *
    refine W_go ?_
    refine W_c1 [(0, (4104, 0)), (1, (4105, 0)), (2, (4106, 0)), (3, (4107, 0)), (4, (4108, 0))] hI ?_
    refine W_go ?_
    refine W_c1 [(0, (4104, 0)), (1, (4105, 0)), (2, (4106, 0)), (3, (4107, 0)), (4, (4108, 0))] hS ?_
    refine W_go ?_
    refine W_c2 [(0, (5136, 0)), (1, (5137, 0)), (2, (5138, 0)), (3, (5139, 0)), (4, (6160, 0)), (5, (6161, 0)), (6, (6162, 0)), (7, (6163, 0))] hE [(0, (5140, 0)), (1, (6164, 0))] hF ?_
    refine W_ift ?_
    refine W_go ?_
    refine W_c2 [(0, (5136, 0)), (1, (5137, 0)), (2, (5138, 0)), (3, (5139, 0)), (4, (6160, 0)), (5, (6161, 0)), (6, (6162, 0)), (7, (6163, 0))] hE [(0, (5140, 0)), (1, (6164, 0))] hF ?_
    refine W_go ?_
    refine W_rt [] [] ?_
    exact ⟨rfl, rfl⟩
  rw [decide_eq_true g0, Gcc.stepS, Gcc.stepG, if_pos g0, if_pos g0] at hI hS
  have gk := g0.1
  have gn := g0.step
  have bF := gn.1.le
  have l8 := gn.1.1.1
  have hlc := gn.2.1.1
  have b8 : (((g.stS s).h.L.length ≤ 8 ∧ (g.stS s).h.R.length ≤ 8 ∧ (g.stS s).h.T.length ≤ 3) ∧ (g.stS s).F.length ≤ 8) ∧ (g.stG s).C.length ≤ 8 := by omega
  have hE := iSame_t (g.stS s) (by omega)
  have hF := iGcSame_t (g.stG s) (by omega)
  have gl := stG_len s g
  clear bF l8 hlc
  have hW := iSweptCell_c s g hb.1 (by omega)
  rw [show g.swept s = g.sw s by rw [Gcc.swept, if_pos gk]] at hW
  have hV := iGcValid_c (g.stS s) (g.stG s) (by omega) (by omega)
  rw [decide_eq_true gn] at hV
  by_cases c1 : g.sw s = -1
  · have eS : g.stS s = s := by unfold Gcc.stS; rw [if_neg (fun q => q c1)]
    rw [c1] at hW
    rw [eS] at hI hS hE hV b8
    clear gk gn g0 gl eS c1
    generalize g.stG s = g' at *
    refine W_go ?_
    refine W_c1 [(0, (4104, 0)), (1, (4105, 0)), (2, (4106, 0)), (3, (4107, 0)), (4, (4108, 0))] hI ?_
    refine W_go ?_
    refine W_c1 [(0, (4104, 0)), (1, (4105, 0)), (2, (4106, 0)), (3, (4107, 0)), (4, (4108, 0))] hS ?_
    refine W_go ?_
    refine W_c2 [(0, (5136, 0)), (1, (5137, 0)), (2, (5138, 0)), (3, (5139, 0)), (4, (6160, 0)), (5, (6161, 0)), (6, (6162, 0)), (7, (6163, 0))] hE [(0, (5140, 0)), (1, (6164, 0))] hF ?_
    refine W_iff ?_
    refine W_go ?_
    refine W_c1 [(0, (4104, 0)), (1, (4105, 0)), (2, (4106, 0)), (3, (4107, 0)), (4, (4108, 0))] hW ?_
    refine W_go ?_
    refine W_ift ?_
    refine W_go ?_
    refine W_c2 [(0, (5136, 0)), (1, (5137, 0)), (2, (5138, 0)), (3, (5139, 0)), (4, (5140, 0))] hV [(0, (5136, 0)), (1, (5137, 0)), (2, (5138, 0)), (3, (5139, 0)), (4, (4104, 0)), (5, (4105, 0)), (6, (4106, 0)), (7, (4107, 0))] hE ?_
    refine W_go ?_
    refine W_rt [] [] ?_
    exact ⟨rfl, rfl⟩
  have hFr := iIsFree_c (g.stS s) (g.sw s) (by omega)
  have eS : g.stS s = s.clr [g.sw s] := by unfold Gcc.stS; rw [if_pos c1]
  have eF : (g.stS s).F = s.F ++ [g.sw s] := by rw [eS]; rfl
  rw [decide_eq_true ⟨gn.1, by rw [eF]; simp⟩] at hFr
  have lF : (g.stS s).F.length = s.F.length + 1 := by rw [eF]; simp
  have lF : ((g.stS s).F.length : Int) = s.F.length + 1 := by omega
  replace lF : Hold _ := ⟨lF⟩
  clear gk gn g0 gl eS eF
  generalize g.stG s = g' at *
  generalize g.stS s = s' at *
  generalize g.sw s = x at *
  refine W_go ?_
  refine W_c1 [(0, (4104, 0)), (1, (4105, 0)), (2, (4106, 0)), (3, (4107, 0)), (4, (4108, 0))] hI ?_
  refine W_go ?_
  refine W_c1 [(0, (4104, 0)), (1, (4105, 0)), (2, (4106, 0)), (3, (4107, 0)), (4, (4108, 0))] hS ?_
  refine W_go ?_
  refine W_c2 [(0, (5136, 0)), (1, (5137, 0)), (2, (5138, 0)), (3, (5139, 0)), (4, (6160, 0)), (5, (6161, 0)), (6, (6162, 0)), (7, (6163, 0))] hE [(0, (5140, 0)), (1, (6164, 0))] hF ?_
  refine W_iff ?_
  refine W_go ?_
  refine W_c1 [(0, (4104, 0)), (1, (4105, 0)), (2, (4106, 0)), (3, (4107, 0)), (4, (4108, 0))] hW ?_
  refine W_go ?_
  refine W_if (fun q => ?_) (fun _ => ?_)
  · exact absurd q c1
  refine W_go ?_
  refine W_c2 [(0, (5136, 0)), (1, (5137, 0)), (2, (5138, 0)), (3, (5139, 0)), (4, (5140, 0))] hV [(0, (5136, 0)), (1, (5137, 0)), (2, (5138, 0)), (3, (5139, 0))] hFr ?_
  refine W_go ?_
  refine W_rt [] [] ?_
  exact ⟨by rw [decide_eq_true lF.told], rfl⟩
end Go.Proofs.Ytdkdepfgilbkeaa.S
