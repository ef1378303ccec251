/- Contracts: the law FnBothSame. Own work of this claim. -/
import Derived.Test.YtnepiffboakehaaGreatDoorHp
import Derived.Test.YtnepiffboakehaaGreatDoorHq
import Derived.Test.YtnepiffboakehaaGreatDoorHi
import Derived.Test.YtnepiffboakehaaGreatDoorTe
namespace Go.Proofs.YtnepiffboakehaaGreatDoor.S
set_option linter.all false
open Go Go.Proofs
set_option maxHeartbeats 4000000
set_option maxRecDepth 100000

theorem lBothSame_c (B : List UInt8) (hB : B.length ≤ 9223372036854775807) : Fn Tryz.prog 9 [(0, .c false (.bys B))] [.sl 0 0 B.length] (fun r H => r = .bool true ∧ H = []) := by
  refine Fn_go Tryz.func9 ?_
  refine W_go ?_
  refine W_if (fun h1 => ?_) (fun h1 => ?_)
  · refine W_go ?_
    refine W_rt [] [] ?_
    exact ⟨rfl, rfl⟩
  have hB : B.length ≤ 1048576 := by omega
  clear h1
  refine W_go ?_
  refine W_rw fun K hK => ?_
  refine RW_x ?_
  repeat (refine And.intro (by omega) ?_)
  refine CKy (μ := [(0, (0, 0))]) ⟨⟩ (drawBothSame_c B hB) (fun x hx => ?_)
  obtain ⟨a, b⟩ := x
  try dsimp only at hx ⊢
  refine RW_x ?_
  repeat (refine And.intro (by omega) ?_)
  refine hK _ _ ?_
  have ha : (((a.s.h.L.length ≤ 4194304 ∧ a.s.h.R.length ≤ 4194304 ∧ a.s.h.T.length ≤ 4194304) ∧ a.s.F.length ≤ 4194304) ∧ a.g.C.length ≤ 4194304) ∧ a.o.length ≤ 4194304 := hx.1.1
  have hb : (((b.s.h.L.length ≤ 4194304 ∧ b.s.h.R.length ≤ 4194304 ∧ b.s.h.T.length ≤ 4194304) ∧ b.s.F.length ≤ 4194304) ∧ b.g.C.length ≤ 4194304) ∧ b.o.length ≤ 4194304 := hx.2.1
  clear hx
  have hI := iBothSame_c a b ha hb
  have hJ := iBothSame_c b a hb ha
  have hK := iBothT_c a ha
  have hS := sBothSame_c a b ha hb
  have hF := iFormatBoth_c a ha
  rw [Bth.same_symm] at hJ
  cases q : a.same b
  case false =>
    rw [q] at hI hJ hS
    clear q hF
    refine W_go ?_
    refine W_c1 [(0, (4104, 0)), (1, (4105, 0)), (2, (4106, 0)), (3, (4107, 0)), (4, (4108, 0)), (5, (4109, 0)), (6, (4110, 0)), (7, (4111, 0)), (8, (4004104, 0)), (9, (4004105, 0)), (10, (4004106, 0)), (11, (4004107, 0))] hI ?_
    repeat (first | refine W_seq ?_ | refine W_skip ?_ | refine W_block ?_ | refine W_pop ?_ | refine W_o ?_)
    refine W_dch3 [(0, (4104, 0)), (1, (4105, 0)), (2, (4106, 0)), (3, (4107, 0)), (4, (4108, 0)), (5, (4109, 0)), (6, (4110, 0)), (7, (4111, 0)), (8, (4004104, 0)), (9, (4004105, 0)), (10, (4004106, 0)), (11, (4004107, 0))] hS [(0, (4110, 0)), (1, (4111, 0)), (2, (4004104, 0)), (3, (4004105, 0)), (4, (4004106, 0)), (5, (4004107, 0)), (6, (4104, 0)), (7, (4105, 0)), (8, (4106, 0)), (9, (4107, 0)), (10, (4108, 0)), (11, (4109, 0))] hJ [(0, (4104, 0)), (1, (4105, 0)), (2, (4106, 0)), (3, (4107, 0)), (4, (4108, 0)), (5, (4109, 0)), (6, (4104, 0)), (7, (4105, 0)), (8, (4106, 0)), (9, (4107, 0)), (10, (4108, 0)), (11, (4109, 0))] hK
      [.c _ _ _, .g true, .g true, .g true, .g true, .c _ _ _, .g true, .g true, .g true, .g true, .c _ _ _, .g true, .g true, .g true, .g false, .g false, .g false, .g false, .g false, .g true] ?_
    refine W_go ?_
    refine W_rt [] [] ?_
    exact ⟨rfl, rfl⟩
  case true =>
    have e := Bth.same_eq q
    subst e
    rw [q] at hI hJ hS
    clear q
    have et : ((bs b.text).toList == (bs b.text).toList) = true := beq_self_eq_true _
    generalize bs b.text = y at *
    refine W_go ?_
    refine W_c1 [(0, (4104, 0)), (1, (4105, 0)), (2, (4106, 0)), (3, (4107, 0)), (4, (4108, 0)), (5, (4109, 0)), (6, (4110, 0)), (7, (4111, 0)), (8, (4004104, 0)), (9, (4004105, 0)), (10, (4004106, 0)), (11, (4004107, 0))] hI ?_
    repeat (first | refine W_seq ?_ | refine W_skip ?_ | refine W_block ?_ | refine W_pop ?_ | refine W_o ?_)
    refine W_dch5 [(0, (4104, 0)), (1, (4105, 0)), (2, (4106, 0)), (3, (4107, 0)), (4, (4108, 0)), (5, (4109, 0)), (6, (4110, 0)), (7, (4111, 0)), (8, (4004104, 0)), (9, (4004105, 0)), (10, (4004106, 0)), (11, (4004107, 0))] hS [(0, (4110, 0)), (1, (4111, 0)), (2, (4004104, 0)), (3, (4004105, 0)), (4, (4004106, 0)), (5, (4004107, 0)), (6, (4104, 0)), (7, (4105, 0)), (8, (4106, 0)), (9, (4107, 0)), (10, (4108, 0)), (11, (4109, 0))] hJ [(0, (4104, 0)), (1, (4105, 0)), (2, (4106, 0)), (3, (4107, 0)), (4, (4108, 0)), (5, (4109, 0)), (6, (4104, 0)), (7, (4105, 0)), (8, (4106, 0)), (9, (4107, 0)), (10, (4108, 0)), (11, (4109, 0))] hK [(0, (4104, 0)), (1, (4105, 0)), (2, (4106, 0)), (3, (4107, 0)), (4, (4108, 0)), (5, (4109, 0))] hF [(0, (4110, 0)), (1, (4111, 0)), (2, (4004104, 0)), (3, (4004105, 0)), (4, (4004106, 0)), (5, (4004107, 0))] hF
      [.c _ _ _, .g true, .g true, .g true, .g true, .c _ _ _, .g true, .g true, .g true, .g true, .c _ _ _, .g true, .g true, .g true, .g true, .g true, .c _ _ _, .g true, .g true, .c _ _ _, .g true, .w 25 (.bool true), .g true] ?_
    refine W_go ?_
    refine W_rt [] [] ?_
    exact ⟨rfl, rfl⟩
end Go.Proofs.YtnepiffboakehaaGreatDoor.S
