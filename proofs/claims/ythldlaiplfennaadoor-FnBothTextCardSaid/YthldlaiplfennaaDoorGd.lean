/- Contracts: stores, numbers and operations drawn out of bytes. Own work of this claim. -/
import Derived.Test.YthldlaiplfennaaDoorGc
namespace Go.Proofs.YthldlaiplfennaaDoor.S
set_option linter.all false
open Go Go.Proofs
set_option maxHeartbeats 4000000
set_option maxRecDepth 100000

/-- What is drawn is small, and has cells. -/
def Sto.dr (s : Sto) : Prop := 1 ≤ s.h.L.length ∧ s.h.L.length ≤ 8 ∧ s.h.R.length ≤ 10 ∧ s.h.T.length ≤ 5 ∧ s.F.length ≤ 9
theorem l4Case_c (B : List UInt8) (hB : B.length ≤ 1048576) : Fn Tryd.prog 38 [(0, .c false (.bys B))] [.sl 0 0 B.length]
    (fun r H => ∃ x : Sto × Int, x.1.dr ∧ r = .tup [.agg [.sl 100 0 x.1.h.L.length, .sl 101 0 x.1.h.R.length, .sl 102 0 x.1.h.T.length, .sl 103 0 x.1.F.length], .int .i64 x.2] ∧ H = [(100, .c true (.ints x.1.h.L)), (101, .c true (.ints x.1.h.R)), (102, .c true (.ints x.1.h.T)), (103, .c true (.ints x.1.F))]) := by
  have hO := open_c B (by omega)
  refine Fn_go Tryd.func38 ?_
  refine W_go ?_
  refine W_c1 [(0, (0, 0))] hO ?_
  have hm : min B.length 2000 ≤ B.length ∧ min B.length 2000 < 1099511627776 := by omega
  generalize min B.length 2000 = m at *
  have hD := l4Draw_c B m 0 (by omega) hm
  refine W_go ?_
  refine W_rw fun K hK => ?_
  refine RW_x ?_
  repeat (refine And.intro (by omega) ?_)
  refine CKy (μ := [(0, (2056, 0)), (1, (0, 0))]) ⟨⟩ (hD) (fun x hx => ?_)
  obtain ⟨s, p⟩ := x
  try dsimp only at hx ⊢
  refine RW_x ?_
  repeat (refine And.intro (by omega) ?_)
  have ho := hx.1.told.1.1
  refine CKy (μ := [(0, (2056, 0)), (1, (0, 0)), (2, (3088, 0)), (3, (3089, 0)), (4, (3090, 0)), (5, (3091, 0))]) ⟨⟩ (l4Wrong_c B m p s (by omega) hm (by omega)) (fun y hy => ?_)
  obtain ⟨s1, p1⟩ := y
  try dsimp only at hy ⊢
  refine RW_x ?_
  repeat (refine And.intro (by omega) ?_)
  refine hK _ _ ?_
  have hs1 : s1.dr := by unfold Sto.dr; omega
  have hb : 0 ≤ p1 ∧ p1 ≤ 200 := by omega
  have hsl := hs1
  unfold Sto.dr at hsl
  clear hx hy ho hD hO
  have hN := num_c B m p1 [0, 1, 2, 3, 8, -1] (by omega) hm (by simp)
  have hL := sLeakedOf_c s1 (by omega)
  have hP := pick_c B m (p1 + 1) 2 (by omega) hm
  have hP2 := pick_c B m (p1 + 1 + 1) s1.lost.length (by omega) hm
  have e1 := pkV_b (B := B) (m := m) (n := s1.lost.length) (k := p1 + 1 + 1) (by omega)
  have hll : s1.lost.length ≤ 8 := lost_le s1
  generalize pkN B m p1 [0, 1, 2, 3, 8, -1] = n at *
  generalize pkV B m (p1 + 1) 2 = v at *
  generalize pkV B m (p1 + 1 + 1) s1.lost.length = v2 at *
  generalize s1.lost = l at *
  replace hs1 : Hold _ := ⟨hs1⟩
  refine W_go ?_
  refine W_c1 [(0, (2056, 0)), (1, (0, 0)), (2, (4104, 0))] hN ?_
  refine W_go ?_
  refine W_c1 [(0, (3096, 0)), (1, (3097, 0)), (2, (3098, 0)), (3, (3099, 0))] hL ?_
  refine W_go ?_
  by_cases g1 : 0 < (l.length : Int)
  · refine W_ch1 [(0, (2056, 0)), (1, (0, 0))] hP ?_
    refine W_if (fun h1 => ?_) (fun h1 => ?_)
    · refine W_go ?_
      have e2 := e1.2 (by omega)
      refine W_c1 [(0, (2056, 0)), (1, (0, 0))] hP2 ?_
      refine W_go ?_
      refine W_rt [(3096, (100, 0)), (3097, (101, 0)), (3098, (102, 0)), (3099, (103, 0))] [] ?_
      exact ⟨(s1, _), hs1.told, rfl, rfl⟩
    · refine W_go ?_
      refine W_rt [(3096, (100, 0)), (3097, (101, 0)), (3098, (102, 0)), (3099, (103, 0))] [] ?_
      exact ⟨(s1, _), hs1.told, rfl, rfl⟩
  · refine W_gh ?_
    refine W_iff ?_
    refine W_go ?_
    refine W_rt [(3096, (100, 0)), (3097, (101, 0)), (3098, (102, 0)), (3099, (103, 0))] [] ?_
    exact ⟨(s1, _), hs1.told, rfl, rfl⟩
theorem l5Op_c (B : List UInt8) (m : Nat) (p : Int) (hp : 0 ≤ p ∧ p < 1099511620000) (hm : m ≤ B.length ∧ m < 1099511627776) : Fn Tryd.prog 119 [(0, .c true (.av 1 [.sl 1 0 m, .int .i64 p])), (1, .c false (.bys B))] [.ptr 0 0]
    (fun r H => ∃ x : Int × Int × Int, ((1 ≤ x.1 ∧ x.1 ≤ 7) ∧ (0 ≤ x.2.1 ∧ x.2.1 ≤ 2) ∧ (0 ≤ x.2.2 ∧ x.2.2 ≤ 2)) ∧ r = .agg [.int .i64 x.1, .int .i64 x.2.1, .int .i64 x.2.2] ∧ H = [(0, .c true (.av 1 [.sl 1 0 m, .int .i64 (p + 1 + 1 + 1)]))]) := by
  have hN1 := num_c B m p [1, 5, 2, 3, 4, 6, 7, 1] (by omega) hm (by simp)
  have hN2 := num_c B m (p + 1) [0, 1, 0, 2] (by omega) hm (by simp)
  have hN3 := num_c B m (p + 1 + 1) [0, 1, 1, 2] (by omega) hm (by simp)
  have b1 := pkN_mem (B := B) (m := m) (k := p) (l := [1, 5, 2, 3, 4, 6, 7, 1]) (by omega) (by simp)
  have b2 := pkN_mem (B := B) (m := m) (k := p + 1) (l := [0, 1, 0, 2]) (by omega) (by simp)
  have b3 := pkN_mem (B := B) (m := m) (k := p + 1 + 1) (l := [0, 1, 1, 2]) (by omega) (by simp)
  generalize pkN B m p [1, 5, 2, 3, 4, 6, 7, 1] = k at *
  generalize pkN B m (p + 1) [0, 1, 0, 2] = a at *
  generalize pkN B m (p + 1 + 1) [0, 1, 1, 2] = b at *
  simp only [List.mem_cons, List.not_mem_nil, or_false] at b1 b2 b3
  have h1 : 1 ≤ k ∧ k ≤ 7 := by omega
  have h2 : 0 ≤ a ∧ a ≤ 2 := by omega
  have h3 : 0 ≤ b ∧ b ≤ 2 := by omega
  clear b1 b2 b3
  have hL := sl5One_c k
  refine Fn_go Tryd.func119 ?_
  refine W_go ?_
  refine W_c3 [(0, (0, 0)), (1, (1, 0)), (2, (2056, 0))] hN1 [(0, (0, 0)), (1, (1, 0)), (2, (2080, 0))] hN2 [(0, (0, 0)), (1, (1, 0)), (2, (2104, 0))] hN3 ?_
  refine W_go ?_
  refine W_c1 [] hL ?_
  refine W_if (fun g => ?_) (fun g => ?_)
  · refine W_go ?_
    refine W_rt [(0, (0, 0))] [] ?_
    exact ⟨(k, a, 0), ⟨h1, h2, by dsimp only; omega⟩, rfl, rfl⟩
  · refine W_go ?_
    refine W_rt [(0, (0, 0))] [] ?_
    exact ⟨(k, a, b), ⟨h1, h2, h3⟩, rfl, rfl⟩
end Go.Proofs.YthldlaiplfennaaDoor.S
