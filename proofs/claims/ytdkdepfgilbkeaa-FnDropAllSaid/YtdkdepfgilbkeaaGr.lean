/- Contracts: counted stores drawn out of bytes, the broken ones. Own work of this claim. -/
import Derived.Test.YtdkdepfgilbkeaaGq
namespace Go.Proofs.Ytdkdepfgilbkeaa.S
set_option linter.all false
open Go Go.Proofs
set_option maxHeartbeats 4000000
set_option maxRecDepth 100000

/-- What is drawn is small. -/
def Cnt.dr (c : Cnt) : Prop := (1 ≤ c.s.h.L.length ∧ c.s.h.L.length ≤ 8) ∧ c.s.h.R.length ≤ 12 ∧ c.s.h.T.length ≤ 12 ∧ c.s.F.length ≤ 204 ∧ c.C.length ≤ 8
theorem l9Wrong_c (B : List UInt8) (m : Nat) (p : Int) (c : Cnt) (hp : 0 ≤ p ∧ p < 1099511600000) (hm : m ≤ B.length ∧ m < 1099511627776) (hd : c.dim 200) :
    Fn Try.prog 112 [(0, .c true (.av 1 [.sl 1 0 m, .int .i64 p])), (1, .c false (.bys B)), (2, .c false (.ints c.s.h.L)), (3, .c false (.ints c.s.h.R)), (4, .c false (.ints c.s.h.T)), (5, .c false (.ints c.s.F)), (6, .c false (.ints c.C))] [.ptr 0 0, .agg [.sl 2 0 c.s.h.L.length, .sl 3 0 c.s.h.R.length, .sl 4 0 c.s.h.T.length, .sl 5 0 c.s.F.length, .sl 6 0 c.C.length]]
      (fun r H => ∃ x : Cnt × Int, (x.1.dr ∧ p ≤ x.2 ∧ x.2 ≤ p + 30) ∧ r = .agg [.sl 100 0 x.1.s.h.L.length, .sl 101 0 x.1.s.h.R.length, .sl 102 0 x.1.s.h.T.length, .sl 103 0 x.1.s.F.length, .sl 104 0 x.1.C.length] ∧ H = [(0, .c true (.av 1 [.sl 1 0 m, .int .i64 x.2])), (100, .c true (.ints x.1.s.h.L)), (101, .c true (.ints x.1.s.h.R)), (102, .c true (.ints x.1.s.h.T)), (103, .c true (.ints x.1.s.F)), (104, .c true (.ints x.1.C))]) := by
  unfold Cnt.dim at hd
  have hbb : ((c.s.h.L.length ≤ 4194304 ∧ c.s.h.R.length ≤ 4194304 ∧ c.s.h.T.length ≤ 4194304) ∧ c.s.F.length ≤ 4194304) ∧ c.C.length ≤ 4194304 := by omega
  have hC := sl9Copy_c c hbb
  have hP := pick_c B m p 20 (by omega) hm
  have hP2 := pick_c B m (p + 1) c.C.length (by omega) hm
  have hN := num_c B m (p + 1 + 1) [-1, 0, 1, 2] (by omega) hm (by simp)
  have e1 := pkV_b (B := B) (m := m) (n := c.C.length) (k := p + 1) (by omega)
  have e2 := e1.2 (by omega)
  have e3 := e1.1
  clear e1
  generalize pkV B m p 20 = v at *
  generalize pkV B m (p + 1) c.C.length = v2 at *
  generalize pkN B m (p + 1 + 1) [-1, 0, 1, 2] = v3 at *
  refine Fn_go Try.func112 ?_
  refine W_go ?_
  refine W_c1 [(0, (2, 0)), (1, (3, 0)), (2, (4, 0)), (3, (5, 0)), (4, (6, 0))] hC ?_
  refine W_go ?_
  refine W_c1 [(0, (0, 0)), (1, (1, 0))] hP ?_
  refine W_go ?_
  refine W_if (fun h1 => ?_) (fun h1 => ?_)
  · refine W_go ?_
    refine W_dc2 [(0, (0, 0)), (1, (1, 0))] hP2 [(0, (0, 0)), (1, (1, 0)), (2, (5184, 0))] hN [.c _ _ _, .c _ _ _] ?_
    refine W_go ?_
    refine W_rt [(0, (0, 0)), (2056, (100, 0)), (2057, (101, 0)), (2058, (102, 0)), (2059, (103, 0)), (2060, (104, 0))] [] ?_
    refine ⟨(⟨c.s, c.C.set v2.toNat v3⟩, p + 1 + 1 + 1), ?_, ?_, ?_⟩
    · unfold Cnt.dr; dsimp only; rw [List.length_set]; omega
    · simp
    · simp
  refine W_go ?_
  refine W_if (fun h2 => ?_) (fun h2 => ?_)
  · refine W_go ?_
    refine W_rw fun K hK => ?_
    refine RW_x ?_
    repeat (refine And.intro (by omega) ?_)
    refine CKy (μ := [(0, (0, 0)), (1, (1, 0)), (2, (2056, 0)), (3, (2057, 0)), (4, (2058, 0)), (5, (2059, 0))]) ⟨⟩ (l4Wrong_c B m (p + 1) c.s (by omega) hm (by omega)) (fun x hx => ?_)
    obtain ⟨s1, p1⟩ := x
    try dsimp only at hx ⊢
    refine RW_x ?_
    repeat (refine And.intro (by omega) ?_)
    refine CKy (μ := [(0, (0, 0)), (1, (1, 0)), (2, (7200, 0)), (3, (7201, 0)), (4, (7202, 0)), (5, (7203, 0))]) ⟨⟩ (l4Wrong_c B m p1 s1 (by omega) hm (by omega)) (fun y hy => ?_)
    obtain ⟨s2, p2⟩ := y
    try dsimp only at hy ⊢
    refine RW_x ?_
    repeat (refine And.intro (by omega) ?_)
    refine hK _ _ ?_
    refine W_go ?_
    refine W_rt [(0, (0, 0)), (7208, (100, 0)), (7209, (101, 0)), (7210, (102, 0)), (7211, (103, 0)), (2060, (104, 0))] [] ?_
    refine ⟨(⟨s2, c.C⟩, p2), ?_, rfl, rfl⟩
    unfold Cnt.dr; dsimp only; omega
  · refine W_go ?_
    refine W_rt [(0, (0, 0)), (2056, (100, 0)), (2057, (101, 0)), (2058, (102, 0)), (2059, (103, 0)), (2060, (104, 0))] [] ?_
    exact ⟨(c, p + 1), ⟨by unfold Cnt.dr; dsimp only; omega, by dsimp only; omega⟩, rfl, rfl⟩
theorem l9Case_c (B : List UInt8) (hB : B.length ≤ 1048576) : Fn Try.prog 60 [(0, .c false (.bys B))] [.sl 0 0 B.length]
    (fun r H => ∃ x : Cnt × Int × Int, x.1.dr ∧ r = .tup [.agg [.sl 100 0 x.1.s.h.L.length, .sl 101 0 x.1.s.h.R.length, .sl 102 0 x.1.s.h.T.length, .sl 103 0 x.1.s.F.length, .sl 104 0 x.1.C.length], .int .i64 x.2.1, .int .i64 x.2.2] ∧ H = [(100, .c true (.ints x.1.s.h.L)), (101, .c true (.ints x.1.s.h.R)), (102, .c true (.ints x.1.s.h.T)), (103, .c true (.ints x.1.s.F)), (104, .c true (.ints x.1.C))]) := by
  have hO := open_c B (by omega)
  refine Fn_go Try.func60 ?_
  refine W_go ?_
  refine W_c1 [(0, (0, 0))] hO ?_
  have hm : min B.length 2000 ≤ B.length ∧ min B.length 2000 < 1099511627776 := by omega
  generalize min B.length 2000 = m at *
  refine W_go ?_
  refine W_rw fun K hK => ?_
  refine RW_x ?_
  repeat (refine And.intro (by omega) ?_)
  refine CKy (μ := [(0, (2056, 0)), (1, (0, 0))]) ⟨⟩ (l9Draw_c B m 0 (by omega) hm) (fun x hx => ?_)
  obtain ⟨c, p⟩ := x
  try dsimp only at hx ⊢
  refine RW_x ?_
  repeat (refine And.intro (by omega) ?_)
  refine CKy (μ := [(0, (2056, 0)), (1, (0, 0)), (2, (3088, 0)), (3, (3089, 0)), (4, (3090, 0)), (5, (3091, 0)), (6, (3092, 0))]) ⟨⟩ (l9Wrong_c B m p c (by omega) hm hx.1.told) (fun y hy => ?_)
  obtain ⟨c1, p1⟩ := y
  try dsimp only at hy ⊢
  refine RW_x ?_
  repeat (refine And.intro (by omega) ?_)
  refine CKt (μ := [(0, (2056, 0)), (1, (0, 0)), (2, (3112, 0))]) ⟨⟩ (num_c B m p1 [0, 1, 0, 2, 3, -1] (by omega) hm (by simp)) ?_
  refine RW_x ?_
  repeat (refine And.intro (by omega) ?_)
  refine CKt (μ := [(0, (2056, 0)), (1, (0, 0)), (2, (3136, 0))]) ⟨⟩ (num_c B m (p1 + 1) [1, 0, 2, 3] (by omega) hm (by simp)) ?_
  refine RW_x ?_
  repeat (refine And.intro (by omega) ?_)
  refine hK _ _ ?_
  refine W_go ?_
  refine W_rt [(3096, (100, 0)), (3097, (101, 0)), (3098, (102, 0)), (3099, (103, 0)), (3100, (104, 0))] [] ?_
  exact ⟨(c1, _, _), hy.1, rfl, rfl⟩
theorem drawCyclesOf_c (B : List UInt8) (hB : B.length ≤ 1048576) : Fn Try.prog 15 [(0, .c false (.bys B))] [.sl 0 0 B.length]
    (fun r H => ∃ x : Cnt, x.dr ∧ r = .agg [.sl 100 0 x.s.h.L.length, .sl 101 0 x.s.h.R.length, .sl 102 0 x.s.h.T.length, .sl 103 0 x.s.F.length, .sl 104 0 x.C.length] ∧ H = [(100, .c true (.ints x.s.h.L)), (101, .c true (.ints x.s.h.R)), (102, .c true (.ints x.s.h.T)), (103, .c true (.ints x.s.F)), (104, .c true (.ints x.C))]) := by
  have hD := l9Case_c B hB
  refine Fn_go Try.func15 ?_
  refine W_go ?_
  refine W_rw fun K hK => ?_
  refine RW_x ?_
  repeat (refine And.intro (by omega) ?_)
  refine CKy (μ := [(0, (0, 0))]) ⟨⟩ (hD) (fun x hx => ?_)
  obtain ⟨c, n, k⟩ := x
  try dsimp only at hx ⊢
  refine RW_x ?_
  repeat (refine And.intro (by omega) ?_)
  refine hK _ _ ?_
  refine W_go ?_
  refine W_rt [(2056, (100, 0)), (2057, (101, 0)), (2058, (102, 0)), (2059, (103, 0)), (2060, (104, 0))] [] ?_
  exact ⟨c, hx, rfl, rfl⟩
end Go.Proofs.Ytdkdepfgilbkeaa.S
