/- Contracts: runs of operations drawn out of bytes. Own work of this claim. -/
import Derived.Test.YtbcnkfkmonpdeaaGd
import Derived.Test.YtbcnkfkmonpdeaaGn
namespace Go.Proofs.Ytbcnkfkmonpdeaa.S
set_option linter.all false
open Go Go.Proofs
set_option maxHeartbeats 4000000
set_option maxRecDepth 100000

theorem l5Ops_c (B : List UInt8) (m : Nat) (p0 : Int) (hp : 0 ≤ p0 ∧ p0 < 1099511610000) (hm : m ≤ B.length ∧ m < 1099511627776) : Fn Try.prog 140 [(0, .c true (.av 1 [.sl 1 0 m, .int .i64 p0])), (1, .c false (.bys B))] [.ptr 0 0]
    (fun r H => ∃ x : List (Int × Int × Int) × Int, (x.1.length ≤ 9) ∧ r = .sl 100 0 x.1.length ∧ H = [(0, .c true (.av 1 [.sl 1 0 m, .int .i64 x.2])), (100, .c true (.ops x.1))]) := by
  have hN := num_c B m p0 [4, 3, 6, 2, 1, 0, 9] (by omega) hm (by simp)
  have b1 := pkN_mem (B := B) (m := m) (k := p0) (l := [4, 3, 6, 2, 1, 0, 9]) (by omega) (by simp)
  generalize pkN B m p0 [4, 3, 6, 2, 1, 0, 9] = v at *
  simp only [List.mem_cons, List.not_mem_nil, or_false] at b1
  have hv : 0 ≤ v ∧ v ≤ 9 := by omega
  clear b1
  refine Fn_go Try.func140 ?_
  refine W_go ?_
  refine W_c1 [(0, (0, 0)), (1, (1, 0)), (2, (3080, 0))] hN ?_
  refine W_go ?_
  refine W_rk 5 [(2048, (60000, 0))] ?_
  refine W_lp (T := 5) (σ := List (Int × Int × Int) × Int × Int) (me := fun s => [(4, .int .i64 s.2.2), (3, .sl 60000 0 s.1.length)]) (mh := fun s => [(0, .c true (.av 1 [.sl 1 0 m, .int .i64 s.2.1])), (60000, .c true (.ops s.1))])
    (inv := fun s => s.1.length + s.2.2.toNat ≤ 9 ∧ p0 ≤ s.2.1 ∧ s.2.1 ≤ p0 + 1 + 3 * (9 - s.2.2) ∧ 0 ≤ s.2.2 ∧ s.2.2 ≤ 9) (m := fun s => s.2.2.toNat) (s0 := ([], p0 + 1, v)) ⟨?_, ?_⟩ ?_ (hh := by rfl)
  · dsimp only [List.length_nil]; omega
  · dsimp only; omega
  clear hN
  rintro ⟨l, p, i⟩ ⟨hL, hi⟩
  dsimp only at hL hi ⊢
  refine W_go ?_
  refine W_if (fun h2 => ?_) (fun h2 => ?_)
  · refine W_go ?_
    refine W_rw fun K hK => ?_
    refine RW_x ?_
    repeat (refine And.intro (by omega) ?_)
    refine CKy (μ := [(0, (0, 0)), (1, (1, 0))]) ⟨⟩ (l5Op_c B m p (by omega) hm) (fun x hx => ?_)
    obtain ⟨k, a, b⟩ := x
    try dsimp only at hx ⊢
    refine RW_x ?_
    repeat (refine And.intro (by omega) ?_)
    refine hK _ _ ?_
    refine W_go ?_
    refine W_rk 5 [(6176, (60000, 0))] ?_
    refine W_bh (l ++ [(k, a, b)], p + 1 + 1 + 1, i - 1) ⟨?_, ?_⟩ ?_ ?_
    · dsimp only; rw [List.length_append, List.length_singleton]; omega
    · dsimp only; omega
    · dsimp only; omega
    · simp
  · refine W_go ?_
    refine W_rt [(0, (0, 0)), (60000, (100, 0))] [] ?_
    exact ⟨(l, p), by dsimp only; omega, rfl, rfl⟩
theorem drawRunOps_c (B : List UInt8) (hB : B.length ≤ 1048576) : Fn Try.prog 63 [(0, .c false (.bys B))] [.sl 0 0 B.length]
    (fun r H => ∃ x : Sto × List (Int × Int × Int), (x.1.dr ∧ x.2.length ≤ 9) ∧ r = .tup [.agg [.sl 100 0 x.1.h.L.length, .sl 101 0 x.1.h.R.length, .sl 102 0 x.1.h.T.length, .sl 103 0 x.1.F.length], .sl 104 0 x.2.length] ∧ H = [(100, .c true (.ints x.1.h.L)), (101, .c true (.ints x.1.h.R)), (102, .c true (.ints x.1.h.T)), (103, .c true (.ints x.1.F)), (104, .c true (.ops x.2))]) := by
  have hO := open_c B (by omega)
  refine Fn_go Try.func63 ?_
  refine W_go ?_
  refine W_c1 [(0, (0, 0))] hO ?_
  have hm : min B.length 2000 ≤ B.length ∧ min B.length 2000 < 1099511627776 := by omega
  generalize min B.length 2000 = m at *
  have hD := l4Draw_c B m 0 (by omega) hm
  refine W_go ?_
  refine W_rw fun K hK => ?_
  refine RW_x ?_
  repeat (refine And.intro (by omega) ?_)
  refine CKy (μ := [(0, (2056, 0)), (1, (0, 0))]) ⟨⟩ (hD) (fun x hx => ?_)
  obtain ⟨s, p⟩ := x
  try dsimp only at hx ⊢
  refine RW_x ?_
  repeat (refine And.intro (by omega) ?_)
  have ho := hx.1.told.1.1
  refine CKy (μ := [(0, (2056, 0)), (1, (0, 0)), (2, (3088, 0)), (3, (3089, 0)), (4, (3090, 0)), (5, (3091, 0))]) ⟨⟩ (l4Wrong_c B m p s (by omega) hm (by omega)) (fun y hy => ?_)
  obtain ⟨s1, p1⟩ := y
  try dsimp only at hy ⊢
  refine RW_x ?_
  repeat (refine And.intro (by omega) ?_)
  have hs1 : s1.dr := by unfold Sto.dr; omega
  refine CKy (μ := [(0, (2056, 0)), (1, (0, 0))]) ⟨⟩ (l5Ops_c B m p1 (by omega) hm) (fun z hz => ?_)
  obtain ⟨l, p2⟩ := z
  try dsimp only at hz ⊢
  refine RW_x ?_
  repeat (refine And.intro (by omega) ?_)
  refine hK _ _ ?_
  refine W_go ?_
  refine W_rt [(3096, (100, 0)), (3097, (101, 0)), (3098, (102, 0)), (3099, (103, 0)), (3112, (104, 0))] [] ?_
  exact ⟨(s1, l), ⟨hs1, hz⟩, rfl, rfl⟩
end Go.Proofs.Ytbcnkfkmonpdeaa.S
