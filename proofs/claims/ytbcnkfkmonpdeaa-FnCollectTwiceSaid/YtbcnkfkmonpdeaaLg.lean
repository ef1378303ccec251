/- Contracts: the law FnCollectTwice. Own work of this claim. -/
import Derived.Test.YtbcnkfkmonpdeaaLf
namespace Go.Proofs.Ytbcnkfkmonpdeaa.S
set_option linter.all false
open Go Go.Proofs
set_option maxHeartbeats 4000000
set_option maxRecDepth 100000

theorem lCollectTwice_c (B : List UInt8) (hB : B.length ≤ 9223372036854775807) : Fn Try.prog 12 [(0, .c false (.bys B))] [.sl 0 0 B.length] (fun r H => r = .bool true ∧ H = []) := by
  refine Fn_go Try.func12 ?_
  refine W_go ?_
  refine W_if (fun h1 => ?_) (fun h1 => ?_)
  · refine W_go ?_
    refine W_rt [] [] ?_
    exact ⟨rfl, rfl⟩
  have hB : B.length ≤ 1048576 := by omega
  clear h1
  refine W_go ?_
  refine W_rw fun K hK => ?_
  refine RW_x ?_
  repeat (refine And.intro (by omega) ?_)
  refine CKy (μ := [(0, (0, 0))]) ⟨⟩ (drawCollectStore_c B hB) (fun s hs => ?_)
  try dsimp only at hs ⊢
  refine RW_x ?_
  repeat (refine And.intro (by omega) ?_)
  refine hK _ _ ?_
  unfold Sto.dr at hs
  have hb : (s.h.L.length ≤ 4194304 ∧ s.h.R.length ≤ 4194304 ∧ s.h.T.length ≤ 4194304) ∧ s.F.length ≤ 4194304 := by omega
  have hI := iCollectStore_c s hb (by omega)
  have hS := sCollectStore_c s hb (by omega)
  have hw := coll_len' s
  have hE := iSame_t s.coll (by omega)
  by_cases g : s.ok
  case neg =>
    rw [show s.valid = false by rw [Sto.valid, decide_eq_false g]] at hI hS
    generalize s.coll = w at *
    refine W_go ?_
    refine W_c1 [(0, (4104, 0)), (1, (4105, 0)), (2, (4106, 0)), (3, (4107, 0))] hI ?_
    refine W_go ?_
    refine W_c1 [(0, (4104, 0)), (1, (4105, 0)), (2, (4106, 0)), (3, (4107, 0))] hS ?_
    refine W_go ?_
    refine W_c1 [(0, (5128, 0)), (1, (5129, 0)), (2, (5130, 0)), (3, (5131, 0)), (4, (6152, 0)), (5, (6153, 0)), (6, (6154, 0)), (7, (6155, 0))] hE ?_
    refine W_ift ?_
    refine W_go ?_
    refine W_c1 [(0, (5128, 0)), (1, (5129, 0)), (2, (5130, 0)), (3, (5131, 0)), (4, (6152, 0)), (5, (6153, 0)), (6, (6154, 0)), (7, (6155, 0))] hE ?_
    refine W_go ?_
    refine W_rt [] [] ?_
    exact ⟨rfl, rfl⟩
  rw [(Sto.ok_iff _).2 g] at hI hS
  have hC := iCollectStore_c s.coll (by omega) (by omega)
  rw [(Sto.ok_iff _).2 (coll_ok g), coll_twice g] at hC
  have hF : List.take s.F.length s.coll.F = s.F := by rw [coll_eq g]; simp [Sto.clr]
  have hle : s.F.length ≤ s.coll.F.length := by rw [coll_eq g]; simp [Sto.clr]
  have hcc := ccInts_c (List.take s.F.length s.coll.F) s.F (by simp; omega) (by omega)
  rw [List.length_take, Nat.min_eq_left hle, decide_eq_true hF] at hcc
  clear hF g
  generalize s.coll = w at *
  refine W_go ?_
  refine W_c1 [(0, (4104, 0)), (1, (4105, 0)), (2, (4106, 0)), (3, (4107, 0))] hI ?_
  refine W_go ?_
  refine W_c1 [(0, (4104, 0)), (1, (4105, 0)), (2, (4106, 0)), (3, (4107, 0))] hS ?_
  refine W_go ?_
  refine W_c1 [(0, (5128, 0)), (1, (5129, 0)), (2, (5130, 0)), (3, (5131, 0)), (4, (6152, 0)), (5, (6153, 0)), (6, (6154, 0)), (7, (6155, 0))] hE ?_
  refine W_iff ?_
  refine W_go ?_
  refine W_c1 [(0, (5128, 0)), (1, (5129, 0)), (2, (5130, 0)), (3, (5131, 0))] hC ?_
  refine W_go ?_
  refine W_dc2 [(0, (9224, 0)), (1, (9225, 0)), (2, (9226, 0)), (3, (9227, 0)), (4, (5128, 0)), (5, (5129, 0)), (6, (5130, 0)), (7, (5131, 0))] hE [(0, (5131, 0)), (1, (4107, 0))] hcc [.g true, .g true, .g true, .c _ _ _, .g true, .g true, .g true, .g true, .g true, .g true, .g true, .g true, .g true, .c _ _ _] ?_
  refine W_go ?_
  refine W_rt [] [] ?_
  exact ⟨rfl, rfl⟩
end Go.Proofs.Ytbcnkfkmonpdeaa.S
