/- Contracts: the law FnShadeGc. Own work of this claim. -/
import Derived.Test.YtbcnkfkmonpdeaaGj
import Derived.Test.YtbcnkfkmonpdeaaGk
namespace Go.Proofs.Ytbcnkfkmonpdeaa.S
set_option linter.all false
open Go Go.Proofs
set_option maxHeartbeats 4000000
set_option maxRecDepth 100000

theorem lShadeGc_c (B : List UInt8) (hB : B.length ≤ 9223372036854775807) : Fn Try.prog 10 [(0, .c false (.bys B))] [.sl 0 0 B.length] (fun r H => r = .bool true ∧ H = []) := by
  refine Fn_go Try.func10 ?_
  refine W_go ?_
  refine W_if (fun h1 => ?_) (fun h1 => ?_)
  · refine W_go ?_
    refine W_rt [] [] ?_
    exact ⟨rfl, rfl⟩
  have hB : B.length ≤ 1048576 := by omega
  clear h1
  refine W_go ?_
  refine W_rw fun K hK => ?_
  refine RW_x ?_
  repeat (refine And.intro (by omega) ?_)
  refine CKy (μ := [(0, (0, 0))]) ⟨⟩ (drawShadeGc_c B hB) (fun x hx => ?_)
  obtain ⟨s, g, c⟩ := x
  try dsimp only at hx ⊢
  refine RW_x ?_
  repeat (refine And.intro (by omega) ?_)
  refine hK _ _ ?_
  unfold drG at hx
  have hb : (s.h.L.length ≤ 4194304 ∧ s.h.R.length ≤ 4194304 ∧ s.h.T.length ≤ 4194304) ∧ s.F.length ≤ 4194304 := by omega
  have hC : g.C.length ≤ 4194304 := by omega
  have hI := iShadeGc_c s g c hb hC
  have hS := sShadeGc_c s g c hb hC
  have hw := shade_len g s c
  have hE := iGcSame_t (g.shade s c) (by omega)
  by_cases gg : g.newOk s c
  case neg =>
    rw [decide_eq_false gg] at hI hS
    generalize g.shade s c = w at *
    refine W_go ?_
    refine W_c1 [(0, (4104, 0)), (1, (4105, 0)), (2, (4106, 0)), (3, (4107, 0)), (4, (4108, 0))] hI ?_
    refine W_go ?_
    refine W_c1 [(0, (4104, 0)), (1, (4105, 0)), (2, (4106, 0)), (3, (4107, 0)), (4, (4108, 0))] hS ?_
    refine W_go ?_
    refine W_c1 [(0, (5144, 0)), (1, (6168, 0))] hE ?_
    refine W_ift ?_
    refine W_go ?_
    refine W_c1 [(0, (5144, 0)), (1, (6168, 0))] hE ?_
    refine W_go ?_
    refine W_rt [] [] ?_
    exact ⟨rfl, rfl⟩
  rw [decide_eq_true gg] at hI hS
  have hlc := gg.1.2.1.1
  have hcc := gg.2
  obtain ⟨n1, n2, n3, n4⟩ := shade_law gg
  have hV := iGcValid_c s (g.shade s c) hb (by omega)
  rw [decide_eq_true n1] at hV
  have hl2 := n1.2.1.1
  have l2 : c < (g.shade s c).C.length := by omega
  have hG := iGcSame_t g hC
  have hPh := gg.1.2.2
  unfold Gcc.atOk at hPh
  have hPh : ¬ (g.p ≠ 0 ∧ g.p ≠ 3 ∧ ¬ (g.p = 1 ∨ g.p = 2)) := by omega
  clear n1 hl2 hlc gg
  by_cases p0 : g.p = 0
  · have e := n4 (by omega) (by omega)
    rw [e] at hI hS hE hw hV l2
    replace p0 := eq_true p0
    clear e n2 n3 n4
    refine W_go ?_
    refine W_c1 [(0, (4104, 0)), (1, (4105, 0)), (2, (4106, 0)), (3, (4107, 0)), (4, (4108, 0))] hI ?_
    refine W_go ?_
    refine W_c1 [(0, (4104, 0)), (1, (4105, 0)), (2, (4106, 0)), (3, (4107, 0)), (4, (4108, 0))] hS ?_
    refine W_go ?_
    refine W_c1 [(0, (5144, 0)), (1, (6168, 0))] hE ?_
    refine W_iff ?_
    refine W_go ?_
    refine W_gh ?_
    refine W_ift ?_
    refine W_go ?_
    refine W_c1 [(0, (5144, 0)), (1, (4108, 0))] hG ?_
    refine W_go ?_
    refine W_rt [] [] ?_
    exact ⟨rfl, rfl⟩
  by_cases p3 : g.p = 3
  · have e := n4 (by omega) (by omega)
    rw [e] at hI hS hE hw hV l2
    replace p3 := eq_true p3
    clear e n2 n3 n4
    refine W_go ?_
    refine W_c1 [(0, (4104, 0)), (1, (4105, 0)), (2, (4106, 0)), (3, (4107, 0)), (4, (4108, 0))] hI ?_
    refine W_go ?_
    refine W_c1 [(0, (4104, 0)), (1, (4105, 0)), (2, (4106, 0)), (3, (4107, 0)), (4, (4108, 0))] hS ?_
    refine W_go ?_
    refine W_c1 [(0, (5144, 0)), (1, (6168, 0))] hE ?_
    refine W_iff ?_
    refine W_go ?_
    refine W_gh ?_
    refine W_ift ?_
    refine W_go ?_
    refine W_c1 [(0, (5144, 0)), (1, (4108, 0))] hG ?_
    refine W_go ?_
    refine W_rt [] [] ?_
    exact ⟨rfl, rfl⟩
  by_cases p12 : g.p = 1 ∨ g.p = 2
  · have e := n2 p12
    clear n2 n4 p12
    generalize g.shade s c = w at *
    obtain ⟨wp, wC, wa⟩ := w
    dsimp only at n3 hw hI hS hE hV l2 e
    subst n3
    refine W_go ?_
    refine W_c1 [(0, (4104, 0)), (1, (4105, 0)), (2, (4106, 0)), (3, (4107, 0)), (4, (4108, 0))] hI ?_
    refine W_go ?_
    refine W_c1 [(0, (4104, 0)), (1, (4105, 0)), (2, (4106, 0)), (3, (4107, 0)), (4, (4108, 0))] hS ?_
    refine W_go ?_
    refine W_c1 [(0, (5144, 0)), (1, (6168, 0))] hE ?_
    refine W_iff ?_
    refine W_go ?_
    refine W_gh ?_
    refine W_iff ?_
    refine W_go ?_
    refine W_ch1 [(0, (4104, 0)), (1, (4105, 0)), (2, (4106, 0)), (3, (4107, 0)), (4, (5144, 0))] hV ?_
    refine W_go ?_
    refine W_rt [] [] ?_
    exact ⟨rfl, rfl⟩
  · exact absurd ⟨p0, p3, p12⟩ hPh
end Go.Proofs.Ytbcnkfkmonpdeaa.S
