/- Contracts: two of both, drawn. Own work of this claim. -/
import Derived.Test.YtnepiffboakehaaGreatDoorHh
import Derived.Test.YtnepiffboakehaaGreatDoorTh
namespace Go.Proofs.YtnepiffboakehaaGreatDoor.S
set_option linter.all false
open Go Go.Proofs
set_option maxHeartbeats 4000000
set_option maxRecDepth 100000

theorem drawBothSame_c (B : List UInt8) (hB : B.length ≤ 1048576) : Fn Tryz.prog 24 [(0, .c false (.bys B))] [.sl 0 0 B.length]
    (fun r H => ∃ y : Bth × Bth, (drB y.1 ∧ drB y.2) ∧ r = .tup [.agg [.sl 100 0 y.1.s.h.L.length, .sl 101 0 y.1.s.h.R.length, .sl 102 0 y.1.s.h.T.length, .sl 103 0 y.1.s.F.length, .int .i64 y.1.g.p, .sl 104 0 y.1.g.C.length, .int .i64 y.1.g.a, .sl 105 0 y.1.o.length, .int .i64 y.1.a, .bool y.1.l], .agg [.sl 106 0 y.2.s.h.L.length, .sl 107 0 y.2.s.h.R.length, .sl 108 0 y.2.s.h.T.length, .sl 109 0 y.2.s.F.length, .int .i64 y.2.g.p, .sl 110 0 y.2.g.C.length, .int .i64 y.2.g.a, .sl 111 0 y.2.o.length, .int .i64 y.2.a, .bool y.2.l]] ∧ H = [(100, .c true (.ints y.1.s.h.L)), (101, .c true (.ints y.1.s.h.R)), (102, .c true (.ints y.1.s.h.T)), (103, .c true (.ints y.1.s.F)), (104, .c true (.ints y.1.g.C)), (105, .c true (.ops y.1.o)), (106, .c true (.ints y.2.s.h.L)), (107, .c true (.ints y.2.s.h.R)), (108, .c true (.ints y.2.s.h.T)), (109, .c true (.ints y.2.s.F)), (110, .c true (.ints y.2.g.C)), (111, .c true (.ops y.2.o))]) := by
  have hO := open_c B (by omega)
  refine Fn_go Tryz.func24 ?_
  refine W_go ?_
  refine W_c1 [(0, (0, 0))] hO ?_
  have hm : min B.length 2000 ≤ B.length ∧ min B.length 2000 < 1099511627776 := by omega
  generalize min B.length 2000 = m at *
  clear hO
  refine W_go ?_
  refine W_rw fun K hK => ?_
  refine RW_x ?_
  repeat (refine And.intro (by omega) ?_)
  refine CKy (μ := [(0, (2056, 0)), (1, (0, 0))]) ⟨⟩ (l7Case_c B m 0 (by omega) hm) (fun x hx => ?_)
  obtain ⟨b, p⟩ := x
  try dsimp only at hx ⊢
  refine RW_x ?_
  repeat (refine And.intro (by omega) ?_)
  refine hK _ _ ?_
  have hbb : (((b.s.h.L.length ≤ 4194304 ∧ b.s.h.R.length ≤ 4194304 ∧ b.s.h.T.length ≤ 4194304) ∧ b.s.F.length ≤ 4194304) ∧ b.g.C.length ≤ 4194304) ∧ b.o.length ≤ 4194304 := hx.1.1
  have hN := sl7Copy_c b hbb
  have hP := pick_c B m p 3 (by omega) hm
  generalize pkV B m p 3 = k at *
  refine W_go ?_
  refine W_c1 [(0, (3080, 0)), (1, (3081, 0)), (2, (3082, 0)), (3, (3083, 0)), (4, (3084, 0)), (5, (3085, 0))] hN ?_
  clear hN
  refine W_go ?_
  refine W_c1 [(0, (2056, 0)), (1, (0, 0))] hP ?_
  clear hP
  refine W_go ?_
  refine W_if (fun q => ?_) (fun q => ?_)
  · refine W_go ?_
    refine W_de 2 [(0, (2056, 0)), (1, (0, 0))] (l7Case_c B m (p + 1) (by omega) hm) [] [] (fun y hy => ?_)
    obtain ⟨c, p2⟩ := y
    dsimp only at hy ⊢
    refine W_go ?_
    refine W_rt [(3080, (100, 0)), (3081, (101, 0)), (3082, (102, 0)), (3083, (103, 0)), (3084, (104, 0)), (3085, (105, 0)), (7184, (106, 0)), (7185, (107, 0)), (7186, (108, 0)), (7187, (109, 0)), (7188, (110, 0)), (7189, (111, 0))] [] ?_
    exact ⟨(b, c), ⟨hx.1, hy.1⟩, rfl, rfl⟩
  refine W_go ?_
  refine W_if (fun q2 => ?_) (fun q2 => ?_)
  · refine W_go ?_
    refine W_rt [(3080, (100, 0)), (3081, (101, 0)), (3082, (102, 0)), (3083, (103, 0)), (3084, (104, 0)), (3085, (105, 0)), (4104, (106, 0)), (4105, (107, 0)), (4106, (108, 0)), (4107, (109, 0)), (4108, (110, 0)), (4109, (111, 0))] [] ?_
    exact ⟨(b, ⟨b.s, b.g, b.o, b.a, !b.l⟩), ⟨hx.1, hx.1⟩, rfl, rfl⟩
  · refine W_go ?_
    refine W_rt [(3080, (100, 0)), (3081, (101, 0)), (3082, (102, 0)), (3083, (103, 0)), (3084, (104, 0)), (3085, (105, 0)), (4104, (106, 0)), (4105, (107, 0)), (4106, (108, 0)), (4107, (109, 0)), (4108, (110, 0)), (4109, (111, 0))] [] ?_
    exact ⟨(b, b), ⟨hx.1, hx.1⟩, rfl, rfl⟩
end Go.Proofs.YtnepiffboakehaaGreatDoor.S
