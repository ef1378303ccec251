/- Contracts: the law FnShadeHolds. Own work of this claim. -/
import Derived.Test.YtbcnkfkmonpdeaaGj
import Derived.Test.YtbcnkfkmonpdeaaGk
import Derived.Test.YtbcnkfkmonpdeaaGl
namespace Go.Proofs.Ytbcnkfkmonpdeaa.S
set_option linter.all false
open Go Go.Proofs
set_option maxHeartbeats 4000000
set_option maxRecDepth 100000

theorem lShadeHolds_c (B : List UInt8) (hB : B.length ≤ 9223372036854775807) : Fn Try.prog 20 [(0, .c false (.bys B))] [.sl 0 0 B.length] (fun r H => r = .bool true ∧ H = []) := by
  refine Fn_go Try.func20 ?_
  refine W_go ?_
  refine W_if (fun h1 => ?_) (fun h1 => ?_)
  · refine W_go ?_
    refine W_rt [] [] ?_
    exact ⟨rfl, rfl⟩
  have hB : B.length ≤ 1048576 := by omega
  clear h1
  refine W_go ?_
  refine W_rw fun K hK => ?_
  refine RW_x ?_
  repeat (refine And.intro (by omega) ?_)
  refine CKy (μ := [(0, (0, 0))]) ⟨⟩ (drawShadeGc_c B hB) (fun x hx => ?_)
  obtain ⟨s, g, c⟩ := x
  try dsimp only at hx ⊢
  refine RW_x ?_
  repeat (refine And.intro (by omega) ?_)
  refine hK _ _ ?_
  unfold drG at hx
  have hb : (s.h.L.length ≤ 4194304 ∧ s.h.R.length ≤ 4194304 ∧ s.h.T.length ≤ 4194304) ∧ s.F.length ≤ 4194304 := by omega
  have hC : g.C.length ≤ 4194304 := by omega
  have hI := iShadeGc_c s g c hb hC
  have hS := sShadeGc_c s g c hb hC
  have hw := shade_len g s c
  have hE := iGcSame_t (g.shade s c) (by omega)
  by_cases gg : g.newOk s c
  case neg =>
    rw [decide_eq_false gg] at hI hS
    generalize g.shade s c = w at *
    refine W_go ?_
    refine W_c1 [(0, (4104, 0)), (1, (4105, 0)), (2, (4106, 0)), (3, (4107, 0)), (4, (4108, 0))] hI ?_
    refine W_go ?_
    refine W_c1 [(0, (4104, 0)), (1, (4105, 0)), (2, (4106, 0)), (3, (4107, 0)), (4, (4108, 0))] hS ?_
    refine W_go ?_
    refine W_c1 [(0, (5144, 0)), (1, (6168, 0))] hE ?_
    refine W_ift ?_
    refine W_go ?_
    refine W_c1 [(0, (5144, 0)), (1, (6168, 0))] hE ?_
    refine W_go ?_
    refine W_rt [] [] ?_
    exact ⟨rfl, rfl⟩
  rw [decide_eq_true gg] at hI hS
  have hlc := gg.1.2.1.1
  have hcc := gg.2
  obtain ⟨n1, n2, n3, n4⟩ := shade_law gg
  have hH1 := iColorHolds_c s.h g.C (by omega) hC
  have hH2 := iColorHolds_c s.h (g.shade s c).C (by omega) (by omega)
  have key : colHoldsB s.h g.C = true → colHoldsB s.h (g.shade s c).C = true := by
    intro q
    have q : colHolds s.h g.C := by
      by_cases z : colHolds s.h g.C
      · exact z
      · rw [chF z] at q; cases q
    apply chT
    rw [Gcc.shade, if_pos gg]
    dsimp only
    split
    · exact shd_holds q
    · exact q
  clear n1 n2 n3 n4 hlc gg
  generalize g.shade s c = w at *
  generalize colHoldsB s.h w.C = b2 at *
  generalize colHoldsB s.h g.C = b1 at *
  cases b1
  · clear key
    refine W_go ?_
    refine W_c1 [(0, (4104, 0)), (1, (4105, 0)), (2, (4106, 0)), (3, (4107, 0)), (4, (4108, 0))] hI ?_
    refine W_go ?_
    refine W_c1 [(0, (4104, 0)), (1, (4105, 0)), (2, (4106, 0)), (3, (4107, 0)), (4, (4108, 0))] hS ?_
    refine W_go ?_
    refine W_c1 [(0, (5144, 0)), (1, (6168, 0))] hE ?_
    refine W_iff ?_
    refine W_go ?_
    refine W_c1 [(0, (4104, 0)), (1, (4105, 0)), (2, (4106, 0)), (3, (4108, 0))] hH1 ?_
    refine W_go ?_
    refine W_rt [] [] ?_
    exact ⟨rfl, rfl⟩
  have key := key rfl
  subst key
  refine W_go ?_
  refine W_c1 [(0, (4104, 0)), (1, (4105, 0)), (2, (4106, 0)), (3, (4107, 0)), (4, (4108, 0))] hI ?_
  refine W_go ?_
  refine W_c1 [(0, (4104, 0)), (1, (4105, 0)), (2, (4106, 0)), (3, (4107, 0)), (4, (4108, 0))] hS ?_
  refine W_go ?_
  refine W_c1 [(0, (5144, 0)), (1, (6168, 0))] hE ?_
  refine W_iff ?_
  refine W_go ?_
  refine W_c2 [(0, (4104, 0)), (1, (4105, 0)), (2, (4106, 0)), (3, (4108, 0))] hH1 [(0, (4104, 0)), (1, (4105, 0)), (2, (4106, 0)), (3, (5144, 0))] hH2 ?_
  refine W_go ?_
  refine W_rt [] [] ?_
  exact ⟨rfl, rfl⟩
end Go.Proofs.Ytbcnkfkmonpdeaa.S
