/- Contracts: stores, numbers and operations drawn out of bytes. Own work of this claim. -/
import Derived.Test.YtnepiffboakehaaGreatDoorGc
namespace Go.Proofs.YtnepiffboakehaaGreatDoor.S
set_option linter.all false
open Go Go.Proofs
set_option maxHeartbeats 4000000
set_option maxRecDepth 100000

/-- What is drawn is small, and has cells. -/
def Sto.dr (s : Sto) : Prop := 1 ≤ s.h.L.length ∧ s.h.L.length ≤ 8 ∧ s.h.R.length ≤ 10 ∧ s.h.T.length ≤ 5 ∧ s.F.length ≤ 9
theorem l5Op_c (B : List UInt8) (m : Nat) (p : Int) (hp : 0 ≤ p ∧ p < 1099511620000) (hm : m ≤ B.length ∧ m < 1099511627776) : Fn Tryz.prog 112 [(0, .c true (.av 1 [.sl 1 0 m, .int .i64 p])), (1, .c false (.bys B))] [.ptr 0 0]
    (fun r H => ∃ x : Int × Int × Int, ((1 ≤ x.1 ∧ x.1 ≤ 7) ∧ (0 ≤ x.2.1 ∧ x.2.1 ≤ 2) ∧ (0 ≤ x.2.2 ∧ x.2.2 ≤ 2)) ∧ r = .agg [.int .i64 x.1, .int .i64 x.2.1, .int .i64 x.2.2] ∧ H = [(0, .c true (.av 1 [.sl 1 0 m, .int .i64 (p + 1 + 1 + 1)]))]) := by
  have hN1 := num_c B m p [1, 5, 2, 3, 4, 6, 7, 1] (by omega) hm (by simp)
  have hN2 := num_c B m (p + 1) [0, 1, 0, 2] (by omega) hm (by simp)
  have hN3 := num_c B m (p + 1 + 1) [0, 1, 1, 2] (by omega) hm (by simp)
  have b1 := pkN_mem (B := B) (m := m) (k := p) (l := [1, 5, 2, 3, 4, 6, 7, 1]) (by omega) (by simp)
  have b2 := pkN_mem (B := B) (m := m) (k := p + 1) (l := [0, 1, 0, 2]) (by omega) (by simp)
  have b3 := pkN_mem (B := B) (m := m) (k := p + 1 + 1) (l := [0, 1, 1, 2]) (by omega) (by simp)
  generalize pkN B m p [1, 5, 2, 3, 4, 6, 7, 1] = k at *
  generalize pkN B m (p + 1) [0, 1, 0, 2] = a at *
  generalize pkN B m (p + 1 + 1) [0, 1, 1, 2] = b at *
  simp only [List.mem_cons, List.not_mem_nil, or_false] at b1 b2 b3
  have h1 : 1 ≤ k ∧ k ≤ 7 := by omega
  have h2 : 0 ≤ a ∧ a ≤ 2 := by omega
  have h3 : 0 ≤ b ∧ b ≤ 2 := by omega
  clear b1 b2 b3
  have hL := sl5One_c k
  refine Fn_go Tryz.func112 ?_
  refine W_go ?_
  refine W_c3 [(0, (0, 0)), (1, (1, 0)), (2, (2056, 0))] hN1 [(0, (0, 0)), (1, (1, 0)), (2, (2080, 0))] hN2 [(0, (0, 0)), (1, (1, 0)), (2, (2104, 0))] hN3 ?_
  refine W_go ?_
  refine W_c1 [] hL ?_
  refine W_if (fun g => ?_) (fun g => ?_)
  · refine W_go ?_
    refine W_rt [(0, (0, 0))] [] ?_
    exact ⟨(k, a, 0), ⟨h1, h2, by dsimp only; omega⟩, rfl, rfl⟩
  · refine W_go ?_
    refine W_rt [(0, (0, 0))] [] ?_
    exact ⟨(k, a, b), ⟨h1, h2, h3⟩, rfl, rfl⟩
end Go.Proofs.YtnepiffboakehaaGreatDoor.S
