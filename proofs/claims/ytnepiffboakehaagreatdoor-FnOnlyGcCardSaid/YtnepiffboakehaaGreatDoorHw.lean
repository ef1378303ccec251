/- Contracts: the law FnOnlyGc. Own work of this claim. -/
import Derived.Test.YtnepiffboakehaaGreatDoorHm
import Derived.Test.YtnepiffboakehaaGreatDoorHe
namespace Go.Proofs.YtnepiffboakehaaGreatDoor.S
set_option linter.all false
open Go Go.Proofs
set_option maxHeartbeats 4000000
set_option maxRecDepth 100000

theorem lOnlyGc_c (B : List UInt8) (hB : B.length ≤ 9223372036854775807) : Fn Tryz.prog 7 [(0, .c false (.bys B))] [.sl 0 0 B.length] (fun r H => r = .bool true ∧ H = []) := by
  refine Fn_go Tryz.func7 ?_
  refine W_go ?_
  refine W_if (fun h1 => ?_) (fun h1 => ?_)
  · refine W_go ?_
    refine W_rt [] [] ?_
    exact ⟨rfl, rfl⟩
  have hB : B.length ≤ 1048576 := by omega
  clear h1
  refine W_go ?_
  refine W_rw fun K hK => ?_
  refine RW_x ?_
  repeat (refine And.intro (by omega) ?_)
  refine CKy (μ := [(0, (0, 0))]) ⟨⟩ (lDrawStepBoth_c B hB) (fun b hb => ?_)
  try dsimp only at hb ⊢
  refine RW_x ?_
  repeat (refine And.intro (by omega) ?_)
  refine hK _ _ ?_
  have hx : (((b.s.h.L.length ≤ 4194304 ∧ b.s.h.R.length ≤ 4194304 ∧ b.s.h.T.length ≤ 4194304) ∧ b.s.F.length ≤ 4194304) ∧ b.g.C.length ≤ 4194304) ∧ b.o.length ≤ 4194304 := hb.1
  clear hb
  have hI := iStepBoth_c b hx
  have hS := sStepBoth_c b hx
  have hsm := b.sgc_small
  have hE := iBothT_c b.sgc (by omega)
  by_cases gr : b.gcOk
  case neg =>
    rw [decide_eq_false gr] at hI hS
    clear gr
    generalize b.sgc = w at *
    refine W_go ?_
    refine W_c1 [(0, (4104, 0)), (1, (4105, 0)), (2, (4106, 0)), (3, (4107, 0)), (4, (4108, 0)), (5, (4109, 0))] hI ?_
    refine W_go ?_
    refine W_c1 [(0, (4104, 0)), (1, (4105, 0)), (2, (4106, 0)), (3, (4107, 0)), (4, (4108, 0)), (5, (4109, 0))] hS ?_
    refine W_go ?_
    refine W_c1 [(0, (5128, 0)), (1, (5129, 0)), (2, (5130, 0)), (3, (5131, 0)), (4, (5132, 0)), (5, (5133, 0)), (6, (6152, 0)), (7, (6153, 0)), (8, (6154, 0)), (9, (6155, 0)), (10, (6156, 0)), (11, (6157, 0))] hE ?_
    refine W_ift ?_
    refine W_go ?_
    refine W_c1 [(0, (5128, 0)), (1, (5129, 0)), (2, (5130, 0)), (3, (5131, 0)), (4, (5132, 0)), (5, (5133, 0)), (6, (6152, 0)), (7, (6153, 0)), (8, (6154, 0)), (9, (6155, 0)), (10, (6156, 0)), (11, (6157, 0))] hE ?_
    refine W_go ?_
    refine W_rt [] [] ?_
    exact ⟨rfl, rfl⟩
  rw [decide_eq_true gr] at hI hS
  rw [show b.sgc = b.gcs by rw [Bth.sgc, if_pos gr]] at hI hS hE hsm
  have hR1 := iRunBoth_c b gr.1 [false] (by simp) true
  have hR2 := iRunBoth_c b gr.1 [false] (by simp) false
  have e1 : Bth.run true [false] b = b.gcs := by rw [Bth.run, Bth.run, Bth.one, if_neg (by simp), if_pos gr]
  have e2 : Bth.run false [false] b = b.gcs := by rw [Bth.run, Bth.run, Bth.one, if_neg (by simp), if_pos gr]
  rw [e1, show sch [false] = ⟨#[103]⟩ from rfl] at hR1
  rw [e2, show sch [false] = ⟨#[103]⟩ from rfl] at hR2
  clear gr e1 e2 hsm
  generalize b.gcs = w at *
  cases q : w.l
  case true =>
    rw [q] at hI hS hE
    clear hR1 hR2
    refine W_go ?_
    refine W_c1 [(0, (4104, 0)), (1, (4105, 0)), (2, (4106, 0)), (3, (4107, 0)), (4, (4108, 0)), (5, (4109, 0))] hI ?_
    clear hI
    refine W_go ?_
    refine W_c1 [(0, (4104, 0)), (1, (4105, 0)), (2, (4106, 0)), (3, (4107, 0)), (4, (4108, 0)), (5, (4109, 0))] hS ?_
    clear hS
    refine W_go ?_
    refine W_c1 [(0, (5128, 0)), (1, (5129, 0)), (2, (5130, 0)), (3, (5131, 0)), (4, (5132, 0)), (5, (5133, 0)), (6, (6152, 0)), (7, (6153, 0)), (8, (6154, 0)), (9, (6155, 0)), (10, (6156, 0)), (11, (6157, 0))] hE ?_
    refine W_ift ?_
    refine W_go ?_
    refine W_c1 [(0, (5128, 0)), (1, (5129, 0)), (2, (5130, 0)), (3, (5131, 0)), (4, (5132, 0)), (5, (5133, 0)), (6, (6152, 0)), (7, (6153, 0)), (8, (6154, 0)), (9, (6155, 0)), (10, (6156, 0)), (11, (6157, 0))] hE ?_
    refine W_go ?_
    refine W_rt [] [] ?_
    exact ⟨rfl, rfl⟩
  case false =>
    rw [q] at hI hS hE hR1 hR2
    refine W_go ?_
    refine W_c1 [(0, (4104, 0)), (1, (4105, 0)), (2, (4106, 0)), (3, (4107, 0)), (4, (4108, 0)), (5, (4109, 0))] hI ?_
    clear hI
    refine W_go ?_
    refine W_c1 [(0, (4104, 0)), (1, (4105, 0)), (2, (4106, 0)), (3, (4107, 0)), (4, (4108, 0)), (5, (4109, 0))] hS ?_
    clear hS
    refine W_go ?_
    refine W_c1 [(0, (5128, 0)), (1, (5129, 0)), (2, (5130, 0)), (3, (5131, 0)), (4, (5132, 0)), (5, (5133, 0)), (6, (6152, 0)), (7, (6153, 0)), (8, (6154, 0)), (9, (6155, 0)), (10, (6156, 0)), (11, (6157, 0))] hE ?_
    refine W_iff ?_
    refine W_go ?_
    refine W_c1 [(0, (4104, 0)), (1, (4105, 0)), (2, (4106, 0)), (3, (4107, 0)), (4, (4108, 0)), (5, (4109, 0))] hR1 ?_
    refine W_go ?_
    refine W_c1 [(0, (4104, 0)), (1, (4105, 0)), (2, (4106, 0)), (3, (4107, 0)), (4, (4108, 0)), (5, (4109, 0))] hR2 ?_
    refine W_go ?_
    refine W_c2 [(0, (9224, 0)), (1, (9225, 0)), (2, (9226, 0)), (3, (9227, 0)), (4, (9228, 0)), (5, (9229, 0)), (6, (5128, 0)), (7, (5129, 0)), (8, (5130, 0)), (9, (5131, 0)), (10, (5132, 0)), (11, (5133, 0))] hE [(0, (10248, 0)), (1, (10249, 0)), (2, (10250, 0)), (3, (10251, 0)), (4, (10252, 0)), (5, (10253, 0)), (6, (5128, 0)), (7, (5129, 0)), (8, (5130, 0)), (9, (5131, 0)), (10, (5132, 0)), (11, (5133, 0))] hE ?_
    refine W_go ?_
    refine W_rt [] [] ?_
    exact ⟨rfl, rfl⟩
end Go.Proofs.YtnepiffboakehaaGreatDoor.S
