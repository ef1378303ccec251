/- Contracts: the law FnStepEnd. Own work of this claim. -/
import Derived.Test.YthldlaiplfennaaGw
import Derived.Test.YthldlaiplfennaaHe
import Derived.Test.YthldlaiplfennaaHh
import Derived.Test.YthldlaiplfennaaGe
namespace Go.Proofs.Ythldlaiplfennaa.S
set_option linter.all false
open Go Go.Proofs
set_option maxHeartbeats 4000000
set_option maxRecDepth 100000

theorem lStepEnd_c (B : List UInt8) (hB : B.length ≤ 9223372036854775807) : Fn Try.prog 6 [(0, .c false (.bys B))] [.sl 0 0 B.length] (fun r H => r = .bool true ∧ H = []) := by
  refine Fn_go Try.func6 ?_
  refine W_go ?_
  refine W_if (fun h1 => ?_) (fun h1 => ?_)
  · refine W_go ?_
    refine W_rt [] [] ?_
    exact ⟨rfl, rfl⟩
  have hB : B.length ≤ 1048576 := by omega
  clear h1
  refine W_go ?_
  refine W_rw fun K hK => ?_
  refine RW_x ?_
  repeat (refine And.intro (by omega) ?_)
  refine CKy (μ := [(0, (0, 0))]) ⟨⟩ (drawStepOp_c B hB) (fun x hx => ?_)
  obtain ⟨b, bar⟩ := x
  try dsimp only at hx ⊢
  refine RW_x ?_
  repeat (refine And.intro (by omega) ?_)
  refine hK _ _ ?_
  have hb : (((b.s.h.L.length ≤ 4194304 ∧ b.s.h.R.length ≤ 4194304 ∧ b.s.h.T.length ≤ 4194304) ∧ b.s.F.length ≤ 4194304) ∧ b.g.C.length ≤ 4194304) ∧ b.o.length ≤ 4194304 := hx.1
  clear hx
  have hI := iStepOp_c b bar hb
  have hS := sStepOp_c b bar hb
  have hsm := b.sop_small bar
  have hE := iBothT_c (b.sop bar) (by omega)
  by_cases gr : b.opOk
  case neg =>
    rw [decide_eq_false gr] at hI hS
    clear gr
    generalize b.sop bar = w at *
    refine W_go ?_
    refine W_c1 [(0, (4104, 0)), (1, (4105, 0)), (2, (4106, 0)), (3, (4107, 0)), (4, (4108, 0)), (5, (4109, 0))] hI ?_
    refine W_go ?_
    refine W_c1 [(0, (4104, 0)), (1, (4105, 0)), (2, (4106, 0)), (3, (4107, 0)), (4, (4108, 0)), (5, (4109, 0))] hS ?_
    refine W_go ?_
    refine W_c1 [(0, (5136, 0)), (1, (5137, 0)), (2, (5138, 0)), (3, (5139, 0)), (4, (5140, 0)), (5, (5141, 0)), (6, (6160, 0)), (7, (6161, 0)), (8, (6162, 0)), (9, (6163, 0)), (10, (6164, 0)), (11, (6165, 0))] hE ?_
    refine W_ift ?_
    refine W_go ?_
    refine W_c1 [(0, (5136, 0)), (1, (5137, 0)), (2, (5138, 0)), (3, (5139, 0)), (4, (5140, 0)), (5, (5141, 0)), (6, (6160, 0)), (7, (6161, 0)), (8, (6162, 0)), (9, (6163, 0)), (10, (6164, 0)), (11, (6165, 0))] hE ?_
    refine W_go ?_
    refine W_rt [] [] ?_
    exact ⟨rfl, rfl⟩
  have ew : b.sop bar = ⟨b.opS, b.opG bar, b.o, b.a + 1, false⟩ := by rw [Bth.sop, if_pos gr, Bth.op, gr.2.1]
  rw [decide_eq_true gr] at hI hS
  rw [ew] at hI hS hE hsm
  dsimp only at hI hS hE hsm
  have gl := gr.2.1
  have hR := iopR_c b gr hb
  have h0 : 0 ≤ b.a := gr.1.2.2.1
  have h1 : b.a < b.o.length := by have := gr.1.2.2.2; have := gr.2.2; omega
  have eS : b.opE ≠ 0 → b.opS = b.s := fun q => run_end gr.run q
  have eG : b.opE ≠ 0 → b.opG bar = b.g := fun q => by rw [Bth.opG, if_neg q]
  clear ew gr
  by_cases ee : b.opE = 0
  · clear eS eG
    generalize b.opS = u at *
    generalize b.opG bar = gg at *
    generalize b.opE = e at *
    subst ee
    rw [gl] at *
    refine W_go ?_
    refine W_c1 [(0, (4104, 0)), (1, (4105, 0)), (2, (4106, 0)), (3, (4107, 0)), (4, (4108, 0)), (5, (4109, 0))] hI ?_
    clear hI
    refine W_go ?_
    refine W_c1 [(0, (4104, 0)), (1, (4105, 0)), (2, (4106, 0)), (3, (4107, 0)), (4, (4108, 0)), (5, (4109, 0))] hS ?_
    clear hS
    refine W_go ?_
    refine W_c1 [(0, (5136, 0)), (1, (5137, 0)), (2, (5138, 0)), (3, (5139, 0)), (4, (5140, 0)), (5, (5141, 0)), (6, (6160, 0)), (7, (6161, 0)), (8, (6162, 0)), (9, (6163, 0)), (10, (6164, 0)), (11, (6165, 0))] hE ?_
    clear hE
    refine W_iff ?_
    repeat (first | refine W_seq ?_ | refine W_skip ?_ | refine W_block ?_ | refine W_pop ?_ | refine W_o ?_)
    refine W_dc1 [(0, (4104, 0)), (1, (4105, 0)), (2, (4106, 0)), (3, (4107, 0))] hR [.w 7 (.agg [.int .i64 (b.o.getD b.a.toNat (0, 0, 0)).1, .int .i64 (b.o.getD b.a.toNat (0, 0, 0)).2.1, .int .i64 (b.o.getD b.a.toNat (0, 0, 0)).2.2]), .c _ _ _] ?_
    clear hR
    refine W_go ?_
    refine W_go ?_
    refine W_rt [] [] ?_
    exact ⟨rfl, rfl⟩
  · have hSS := iSame_t b.s hb.1.1
    have hGG := iGcSame_t b.g hb.1.2
    have q1 := eS ee
    have q2 := eG ee
    rw [q1, q2] at hI hS hE
    rw [q1] at hR
    clear eS eG q1 q2 hsm
    generalize b.opE = e at *
    rw [gl] at hI hS ⊢
    refine W_go ?_
    refine W_c1 [(0, (4104, 0)), (1, (4105, 0)), (2, (4106, 0)), (3, (4107, 0)), (4, (4108, 0)), (5, (4109, 0))] hI ?_
    clear hI
    refine W_go ?_
    refine W_c1 [(0, (4104, 0)), (1, (4105, 0)), (2, (4106, 0)), (3, (4107, 0)), (4, (4108, 0)), (5, (4109, 0))] hS ?_
    clear hS
    refine W_go ?_
    refine W_c1 [(0, (5136, 0)), (1, (5137, 0)), (2, (5138, 0)), (3, (5139, 0)), (4, (5140, 0)), (5, (5141, 0)), (6, (6160, 0)), (7, (6161, 0)), (8, (6162, 0)), (9, (6163, 0)), (10, (6164, 0)), (11, (6165, 0))] hE ?_
    clear hE
    refine W_iff ?_
    repeat (first | refine W_seq ?_ | refine W_skip ?_ | refine W_block ?_ | refine W_pop ?_ | refine W_o ?_)
    refine W_dc1 [(0, (4104, 0)), (1, (4105, 0)), (2, (4106, 0)), (3, (4107, 0))] hR [.w 7 (.agg [.int .i64 (b.o.getD b.a.toNat (0, 0, 0)).1, .int .i64 (b.o.getD b.a.toNat (0, 0, 0)).2.1, .int .i64 (b.o.getD b.a.toNat (0, 0, 0)).2.2]), .c _ _ _] ?_
    clear hR
    refine W_go ?_
    refine W_ch2 [(0, (5136, 0)), (1, (5137, 0)), (2, (5138, 0)), (3, (5139, 0)), (4, (4104, 0)), (5, (4105, 0)), (6, (4106, 0)), (7, (4107, 0))] hSS [(0, (5140, 0)), (1, (4108, 0))] hGG ?_
    refine W_go ?_
    refine W_rt [] [] ?_
    exact ⟨rfl, rfl⟩
end Go.Proofs.Ythldlaiplfennaa.S
