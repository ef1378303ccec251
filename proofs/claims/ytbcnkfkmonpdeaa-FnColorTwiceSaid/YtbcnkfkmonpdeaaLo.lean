/- Contracts: the law FnColorTwice. Own work of this claim. -/
import Derived.Test.YtbcnkfkmonpdeaaGj
import Derived.Test.YtbcnkfkmonpdeaaGk
namespace Go.Proofs.Ytbcnkfkmonpdeaa.S
set_option linter.all false
open Go Go.Proofs
set_option maxHeartbeats 4000000
set_option maxRecDepth 100000

theorem lColorTwice_c (B : List UInt8) (hB : B.length ≤ 9223372036854775807) : Fn Try.prog 7 [(0, .c false (.bys B))] [.sl 0 0 B.length] (fun r H => r = .bool true ∧ H = []) := by
  refine Fn_go Try.func7 ?_
  refine W_go ?_
  refine W_if (fun h1 => ?_) (fun h1 => ?_)
  · refine W_go ?_
    refine W_rt [] [] ?_
    exact ⟨rfl, rfl⟩
  have hB : B.length ≤ 1048576 := by omega
  clear h1
  refine W_go ?_
  refine W_rw fun K hK => ?_
  refine RW_x ?_
  repeat (refine And.intro (by omega) ?_)
  refine CKy (μ := [(0, (0, 0))]) ⟨⟩ (drawColorNew_c B hB) (fun x hx => ?_)
  obtain ⟨s, g, c⟩ := x
  try dsimp only at hx ⊢
  refine RW_x ?_
  repeat (refine And.intro (by omega) ?_)
  refine hK _ _ ?_
  unfold drG at hx
  have hb : (s.h.L.length ≤ 4194304 ∧ s.h.R.length ≤ 4194304 ∧ s.h.T.length ≤ 4194304) ∧ s.F.length ≤ 4194304 := by omega
  have hC : g.C.length ≤ 4194304 := by omega
  have hI := iColorNew_c s g c hb hC
  have hS := sColorNew_c s g c hb hC
  have hw := new_len g s c
  have hE := iGcSame_t (g.new s c) (by omega)
  by_cases gg : g.newOk s c
  case neg =>
    rw [decide_eq_false gg] at hI hS
    generalize g.new s c = w at *
    refine W_go ?_
    refine W_c1 [(0, (4104, 0)), (1, (4105, 0)), (2, (4106, 0)), (3, (4107, 0)), (4, (4108, 0))] hI ?_
    refine W_go ?_
    refine W_c1 [(0, (4104, 0)), (1, (4105, 0)), (2, (4106, 0)), (3, (4107, 0)), (4, (4108, 0))] hS ?_
    refine W_go ?_
    refine W_c1 [(0, (5144, 0)), (1, (6168, 0))] hE ?_
    refine W_ift ?_
    refine W_go ?_
    refine W_c1 [(0, (5144, 0)), (1, (6168, 0))] hE ?_
    refine W_go ?_
    refine W_rt [] [] ?_
    exact ⟨rfl, rfl⟩
  rw [decide_eq_true gg] at hI hS
  have hlc := gg.1.2.1.1
  have hcc := gg.2
  obtain ⟨n1, n2, n3, n4, n5, n6, n7, n8⟩ := new_law gg
  have hI2 := iColorNew_c s (g.new s c) c hb (by omega)
  rw [decide_eq_true n7, n8] at hI2
  clear n7 n8 n2 hlc gg n1 n3 n4
  generalize g.new s c = w at *
  obtain ⟨wp, wC, wa⟩ := w
  dsimp only at n5 n6 hw hI hS hE hI2
  subst n5
  subst n6
  refine W_go ?_
  refine W_c1 [(0, (4104, 0)), (1, (4105, 0)), (2, (4106, 0)), (3, (4107, 0)), (4, (4108, 0))] hI ?_
  refine W_go ?_
  refine W_c1 [(0, (4104, 0)), (1, (4105, 0)), (2, (4106, 0)), (3, (4107, 0)), (4, (4108, 0))] hS ?_
  refine W_go ?_
  refine W_c1 [(0, (5144, 0)), (1, (6168, 0))] hE ?_
  refine W_iff ?_
  refine W_go ?_
  refine W_c1 [(0, (4104, 0)), (1, (4105, 0)), (2, (4106, 0)), (3, (4107, 0)), (4, (5144, 0))] hI2 ?_
  refine W_go ?_
  refine W_ch1 [(0, (9240, 0)), (1, (5144, 0))] hE ?_
  refine W_go ?_
  refine W_rt [] [] ?_
  exact ⟨rfl, rfl⟩
end Go.Proofs.Ytbcnkfkmonpdeaa.S
