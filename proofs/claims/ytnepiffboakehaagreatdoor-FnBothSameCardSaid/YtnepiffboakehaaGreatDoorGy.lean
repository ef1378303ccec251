/- Contracts: valid operations drawn out of bytes. Own work of this claim. -/
import Derived.Test.YtnepiffboakehaaGreatDoorGd
import Derived.Test.YtnepiffboakehaaGreatDoorGn
import Derived.Test.YtnepiffboakehaaGreatDoorA6
namespace Go.Proofs.YtnepiffboakehaaGreatDoor.S
set_option linter.all false
open Go Go.Proofs
set_option maxHeartbeats 4000000
set_option maxRecDepth 100000

theorem l5OpV_c (B : List UInt8) (m : Nat) (p : Int) (hp : 0 ≤ p ∧ p < 1099511620000) (hm : m ≤ B.length ∧ m < 1099511627776) : Fn Tryz.prog 112 [(0, .c true (.av 1 [.sl 1 0 m, .int .i64 p])), (1, .c false (.bys B))] [.ptr 0 0]
    (fun r H => ∃ x : Int × Int × Int, (opOk x.1 x.2.1 x.2.2 3) ∧ r = .agg [.int .i64 x.1, .int .i64 x.2.1, .int .i64 x.2.2] ∧ H = [(0, .c true (.av 1 [.sl 1 0 m, .int .i64 (p + 1 + 1 + 1)]))]) := by
  have hN1 := num_c B m p [1, 5, 2, 3, 4, 6, 7, 1] (by omega) hm (by simp)
  have hN2 := num_c B m (p + 1) [0, 1, 0, 2] (by omega) hm (by simp)
  have hN3 := num_c B m (p + 1 + 1) [0, 1, 1, 2] (by omega) hm (by simp)
  have b1 := pkN_mem (B := B) (m := m) (k := p) (l := [1, 5, 2, 3, 4, 6, 7, 1]) (by omega) (by simp)
  have b2 := pkN_mem (B := B) (m := m) (k := p + 1) (l := [0, 1, 0, 2]) (by omega) (by simp)
  have b3 := pkN_mem (B := B) (m := m) (k := p + 1 + 1) (l := [0, 1, 1, 2]) (by omega) (by simp)
  generalize pkN B m p [1, 5, 2, 3, 4, 6, 7, 1] = k at *
  generalize pkN B m (p + 1) [0, 1, 0, 2] = a at *
  generalize pkN B m (p + 1 + 1) [0, 1, 1, 2] = b at *
  simp only [List.mem_cons, List.not_mem_nil, or_false] at b1 b2 b3
  have h1 : 1 ≤ k ∧ k ≤ 7 := by omega
  have h2 : 0 ≤ a ∧ a ≤ 2 := by omega
  have h3 : 0 ≤ b ∧ b ≤ 2 := by omega
  clear b1 b2 b3
  have hL := sl5One_c k
  refine Fn_go Tryz.func112 ?_
  refine W_go ?_
  refine W_c3 [(0, (0, 0)), (1, (1, 0)), (2, (2056, 0))] hN1 [(0, (0, 0)), (1, (1, 0)), (2, (2080, 0))] hN2 [(0, (0, 0)), (1, (1, 0)), (2, (2104, 0))] hN3 ?_
  refine W_go ?_
  refine W_c1 [] hL ?_
  refine W_if (fun g => ?_) (fun g => ?_)
  · refine W_go ?_
    refine W_rt [(0, (0, 0))] [] ?_
    refine ⟨(k, a, 0), ?_, rfl, rfl⟩
    unfold opOk
    dsimp only
    rw [if_pos g]
    omega
  · refine W_go ?_
    refine W_rt [(0, (0, 0))] [] ?_
    refine ⟨(k, a, b), ?_, rfl, rfl⟩
    unfold opOk
    dsimp only
    rw [if_neg g]
    omega
theorem l5OpsV_c (B : List UInt8) (m : Nat) (p0 : Int) (hp : 0 ≤ p0 ∧ p0 < 1099511610000) (hm : m ≤ B.length ∧ m < 1099511627776) : Fn Tryz.prog 65 [(0, .c true (.av 1 [.sl 1 0 m, .int .i64 p0])), (1, .c false (.bys B))] [.ptr 0 0]
    (fun r H => ∃ x : List (Int × Int × Int) × Int, (Hold (opsV x.1 3) ∧ x.1.length ≤ 12 ∧ p0 ≤ x.2 ∧ x.2 ≤ p0 + 100) ∧ r = .sl 100 0 x.1.length ∧ H = [(0, .c true (.av 1 [.sl 1 0 m, .int .i64 x.2])), (100, .c true (.ops x.1))]) := by
  have hN := num_c B m p0 [4, 3, 6, 2, 1, 0, 9] (by omega) hm (by simp)
  have b1 := pkN_mem (B := B) (m := m) (k := p0) (l := [4, 3, 6, 2, 1, 0, 9]) (by omega) (by simp)
  generalize pkN B m p0 [4, 3, 6, 2, 1, 0, 9] = v at *
  simp only [List.mem_cons, List.not_mem_nil, or_false] at b1
  have hv : 0 ≤ v ∧ v ≤ 9 := by omega
  clear b1
  refine Fn_go Tryz.func65 ?_
  refine W_go ?_
  refine W_c1 [(0, (0, 0)), (1, (1, 0)), (2, (3080, 0))] hN ?_
  refine W_go ?_
  refine W_rk 5 [(2048, (60000, 0))] ?_
  refine W_lp (T := 5) (σ := List (Int × Int × Int) × Int × Int) (me := fun s => [(4, .int .i64 s.2.2), (3, .sl 60000 0 s.1.length)]) (mh := fun s => [(0, .c true (.av 1 [.sl 1 0 m, .int .i64 s.2.1])), (60000, .c true (.ops s.1))])
    (inv := fun s => Hold (∀ o ∈ s.1, opOk o.1 o.2.1 o.2.2 3) ∧ s.1.length + s.2.2.toNat ≤ 9 ∧ p0 ≤ s.2.1 ∧ s.2.1 ≤ p0 + 1 + 3 * (9 - s.2.2) ∧ 0 ≤ s.2.2 ∧ s.2.2 ≤ 9) (m := fun s => s.2.2.toNat) (s0 := ([], p0 + 1, v)) ⟨⟨fun o ho => by cases ho⟩, ?_, ?_⟩ ?_ (hh := by rfl)
  · dsimp only [List.length_nil]; omega
  · dsimp only; omega
  clear hN
  rintro ⟨l, p, i⟩ ⟨hV, hL, hi⟩
  dsimp only at hV hL hi ⊢
  refine W_go ?_
  refine W_if (fun h2 => ?_) (fun h2 => ?_)
  · refine W_go ?_
    refine W_rw fun K hK => ?_
    refine RW_x ?_
    repeat (refine And.intro (by omega) ?_)
    refine CKy (μ := [(0, (0, 0)), (1, (1, 0))]) ⟨⟩ (l5OpV_c B m p (by omega) hm) (fun x hx => ?_)
    obtain ⟨k, a, b⟩ := x
    try dsimp only at hx ⊢
    refine RW_x ?_
    repeat (refine And.intro (by omega) ?_)
    refine hK _ _ ?_
    refine W_go ?_
    refine W_rk 5 [(6176, (60000, 0))] ?_
    refine W_bh (l ++ [(k, a, b)], p + 1 + 1 + 1, i - 1) ⟨⟨fun o ho => ?_⟩, ?_, ?_⟩ ?_ ?_
    · rcases List.mem_append.1 ho with q | q
      · exact hV.told o q
      · rw [List.mem_singleton] at q; subst q; exact hx
    · dsimp only; rw [List.length_append, List.length_singleton]; omega
    · dsimp only; omega
    · dsimp only; omega
    · simp
  · refine W_go ?_
    refine W_rt [(0, (0, 0)), (60000, (100, 0))] [] ?_
    exact ⟨(l, p), ⟨⟨opsV_mem (by dsimp only; omega) hV.told⟩, by dsimp only; omega, by dsimp only; omega, by dsimp only; omega⟩, rfl, rfl⟩
end Go.Proofs.YtnepiffboakehaaGreatDoor.S
