/- Contracts: counted stores: what is drawn for roots dropped, equality. Own work of this claim. -/
import Derived.Test.YtdkdepfgilbkeaaGr
import Derived.Test.YtdkdepfgilbkeaaGe
import Derived.Test.YtdkdepfgilbkeaaPi
namespace Go.Proofs.Ytdkdepfgilbkeaa.S
set_option linter.all false
open Go Go.Proofs
set_option maxHeartbeats 4000000
set_option maxRecDepth 100000

theorem drawTakeCounted_c (B : List UInt8) (hB : B.length ≤ 1048576) : Fn Try.prog 66 [(0, .c false (.bys B))] [.sl 0 0 B.length]
    (fun r H => ∃ x : Cnt × Int, x.1.dr ∧ r = .tup [.agg [.sl 100 0 x.1.s.h.L.length, .sl 101 0 x.1.s.h.R.length, .sl 102 0 x.1.s.h.T.length, .sl 103 0 x.1.s.F.length, .sl 104 0 x.1.C.length], .int .i64 x.2] ∧ H = [(100, .c true (.ints x.1.s.h.L)), (101, .c true (.ints x.1.s.h.R)), (102, .c true (.ints x.1.s.h.T)), (103, .c true (.ints x.1.s.F)), (104, .c true (.ints x.1.C))]) := by
  have hD := l9Case_c B hB
  refine Fn_go Try.func66 ?_
  refine W_go ?_
  refine W_rw fun K hK => ?_
  refine RW_x ?_
  repeat (refine And.intro (by omega) ?_)
  refine CKy (μ := [(0, (0, 0))]) ⟨⟩ (hD) (fun x hx => ?_)
  obtain ⟨c, n, k⟩ := x
  try dsimp only at hx ⊢
  refine RW_x ?_
  repeat (refine And.intro (by omega) ?_)
  refine hK _ _ ?_
  refine W_go ?_
  refine W_rt [(2056, (100, 0)), (2057, (101, 0)), (2058, (102, 0)), (2059, (103, 0)), (2060, (104, 0))] [] ?_
  exact ⟨(c, n), hx, rfl, rfl⟩
theorem drawDropRoot_c (B : List UInt8) (hB : B.length ≤ 1048576) : Fn Try.prog 21 [(0, .c false (.bys B))] [.sl 0 0 B.length]
    (fun r H => ∃ x : Cnt × Int, x.1.dr ∧ r = .tup [.agg [.sl 100 0 x.1.s.h.L.length, .sl 101 0 x.1.s.h.R.length, .sl 102 0 x.1.s.h.T.length, .sl 103 0 x.1.s.F.length, .sl 104 0 x.1.C.length], .int .i64 x.2] ∧ H = [(100, .c true (.ints x.1.s.h.L)), (101, .c true (.ints x.1.s.h.R)), (102, .c true (.ints x.1.s.h.T)), (103, .c true (.ints x.1.s.F)), (104, .c true (.ints x.1.C))]) := by
  have hD := drawTakeCounted_c B hB
  refine Fn_go Try.func21 ?_
  refine W_go ?_
  refine W_rw fun K hK => ?_
  refine RW_x ?_
  repeat (refine And.intro (by omega) ?_)
  refine CKy (μ := [(0, (0, 0))]) ⟨⟩ (hD) (fun x hx => ?_)
  obtain ⟨c, n⟩ := x
  try dsimp only at hx ⊢
  refine RW_x ?_
  repeat (refine And.intro (by omega) ?_)
  refine hK _ _ ?_
  refine W_go ?_
  refine W_rt [(2056, (100, 0)), (2057, (101, 0)), (2058, (102, 0)), (2059, (103, 0)), (2060, (104, 0))] [] ?_
  exact ⟨(c, n), hx, rfl, rfl⟩
theorem iCountedSame_t (c : Cnt) (hl : ((c.s.h.L.length ≤ 4194304 ∧ c.s.h.R.length ≤ 4194304 ∧ c.s.h.T.length ≤ 4194304) ∧ c.s.F.length ≤ 4194304) ∧ c.C.length ≤ 4194304) : Fn Try.prog 24 [(0, .c false (.ints c.s.h.L)), (1, .c false (.ints c.s.h.R)), (2, .c false (.ints c.s.h.T)), (3, .c false (.ints c.s.F)), (4, .c false (.ints c.C)), (5, .c false (.ints c.s.h.L)), (6, .c false (.ints c.s.h.R)), (7, .c false (.ints c.s.h.T)), (8, .c false (.ints c.s.F)), (9, .c false (.ints c.C))] [.agg [.sl 0 0 c.s.h.L.length, .sl 1 0 c.s.h.R.length, .sl 2 0 c.s.h.T.length, .sl 3 0 c.s.F.length, .sl 4 0 c.C.length], .agg [.sl 5 0 c.s.h.L.length, .sl 6 0 c.s.h.R.length, .sl 7 0 c.s.h.T.length, .sl 8 0 c.s.F.length, .sl 9 0 c.C.length]] (fun r H => r = .bool true ∧ H = []) := by
  have h1 := iSame_t c.s hl.1
  have h2 := ziEq_c c.C c.C (by omega) (by omega)
  rw [decide_eq_true rfl] at h2
  refine Fn_go Try.func24 ?_
  refine W_go ?_
  refine W_c2 [(0, (0, 0)), (1, (1, 0)), (2, (2, 0)), (3, (3, 0)), (4, (5, 0)), (5, (6, 0)), (6, (7, 0)), (7, (8, 0))] h1 [(0, (4, 0)), (1, (9, 0))] h2 ?_
  refine W_go ?_
  refine W_rt [] [] ?_
  exact ⟨rfl, rfl⟩
end Go.Proofs.Ytdkdepfgilbkeaa.S
