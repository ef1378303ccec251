/- Contracts: the law FnCollectCount. Own work of this claim. -/
import Derived.Test.YtbcnkfkmonpdeaaLf
namespace Go.Proofs.Ytbcnkfkmonpdeaa.S
set_option linter.all false
open Go Go.Proofs
set_option maxHeartbeats 4000000
set_option maxRecDepth 100000

theorem lCollectCount_c (B : List UInt8) (hB : B.length ≤ 9223372036854775807) : Fn Try.prog 14 [(0, .c false (.bys B))] [.sl 0 0 B.length] (fun r H => r = .bool true ∧ H = []) := by
  refine Fn_go Try.func14 ?_
  refine W_go ?_
  refine W_if (fun h1 => ?_) (fun h1 => ?_)
  · refine W_go ?_
    refine W_rt [] [] ?_
    exact ⟨rfl, rfl⟩
  have hB : B.length ≤ 1048576 := by omega
  clear h1
  refine W_go ?_
  refine W_rw fun K hK => ?_
  refine RW_x ?_
  repeat (refine And.intro (by omega) ?_)
  refine CKy (μ := [(0, (0, 0))]) ⟨⟩ (drawCollectStore_c B hB) (fun s hs => ?_)
  try dsimp only at hs ⊢
  refine RW_x ?_
  repeat (refine And.intro (by omega) ?_)
  refine hK _ _ ?_
  unfold Sto.dr at hs
  have hb : (s.h.L.length ≤ 4194304 ∧ s.h.R.length ≤ 4194304 ∧ s.h.T.length ≤ 4194304) ∧ s.F.length ≤ 4194304 := by omega
  have hI := iCollectStore_c s hb (by omega)
  have hS := sCollectStore_c s hb (by omega)
  have hw := coll_len' s
  have hE := iSame_t s.coll (by omega)
  by_cases g : s.ok
  case neg =>
    rw [show s.valid = false by rw [Sto.valid, decide_eq_false g]] at hI hS
    generalize s.coll = w at *
    refine W_go ?_
    refine W_c1 [(0, (4104, 0)), (1, (4105, 0)), (2, (4106, 0)), (3, (4107, 0))] hI ?_
    refine W_go ?_
    refine W_c1 [(0, (4104, 0)), (1, (4105, 0)), (2, (4106, 0)), (3, (4107, 0))] hS ?_
    refine W_go ?_
    refine W_c1 [(0, (5128, 0)), (1, (5129, 0)), (2, (5130, 0)), (3, (5131, 0)), (4, (6152, 0)), (5, (6153, 0)), (6, (6154, 0)), (7, (6155, 0))] hE ?_
    refine W_ift ?_
    refine W_go ?_
    refine W_c1 [(0, (5128, 0)), (1, (5129, 0)), (2, (5130, 0)), (3, (5131, 0)), (4, (6152, 0)), (5, (6153, 0)), (6, (6154, 0)), (7, (6155, 0))] hE ?_
    refine W_go ?_
    refine W_rt [] [] ?_
    exact ⟨rfl, rfl⟩
  rw [(Sto.ok_iff _).2 g] at hI hS
  have hL := iLeakedOf_c s hb
  have hl := lost_le s
  have hlen : s.coll.F.length = s.F.length + s.lost.length := by rw [coll_eq g]; simp [Sto.clr]
  have hF : List.drop s.F.length s.coll.F = s.lost := by rw [coll_eq g]; simp [Sto.clr]
  have hcc := ccInts_c (List.drop s.F.length s.coll.F) s.lost (by simp; omega) (by omega)
  rw [List.length_drop, decide_eq_true hF] at hcc
  have hv := coll_live g
  have hN1 := iCountLive_c s.coll.h (by omega)
  have hN2 := iCountLive_c s.h (by omega)
  rw [hv] at hN1
  have htk : List.take (s.coll.F.length - s.F.length) (List.drop s.F.length s.coll.F) = List.drop s.F.length s.coll.F := List.take_of_length_le (by simp)
  have hg : ((s.coll.F.length : Nat) : Int) = (s.F.length : Int) + (s.lost.length : Int) := by omega
  rw [← htk] at hcc
  have hle : s.F.length ≤ s.coll.F.length := by omega
  have hq2 : ((s.F.length : Int) + (s.lost.length : Int)).toNat = s.coll.F.length := by omega
  clear hF g hv htk hlen
  generalize s.h.live = lv at *
  generalize s.coll = w at *
  generalize s.lost = l at *
  refine W_go ?_
  refine W_c1 [(0, (4104, 0)), (1, (4105, 0)), (2, (4106, 0)), (3, (4107, 0))] hI ?_
  refine W_go ?_
  refine W_c1 [(0, (4104, 0)), (1, (4105, 0)), (2, (4106, 0)), (3, (4107, 0))] hS ?_
  refine W_go ?_
  refine W_c1 [(0, (5128, 0)), (1, (5129, 0)), (2, (5130, 0)), (3, (5131, 0)), (4, (6152, 0)), (5, (6153, 0)), (6, (6154, 0)), (7, (6155, 0))] hE ?_
  refine W_iff ?_
  refine W_go ?_
  refine W_c1 [(0, (4104, 0)), (1, (4105, 0)), (2, (4106, 0)), (3, (4107, 0))] hL ?_
  refine W_go ?_
  refine W_dch3 [(0, (5131, s.F.length)), (1, (9224, 0))] hcc [(0, (5128, 0)), (1, (5129, 0)), (2, (5130, 0))] hN1 [(0, (4104, 0)), (1, (4105, 0)), (2, (4106, 0))] hN2 [.w 9 (.bool true), .g true, .g true, .g true, .g true, .g true, .g true, .g true, .g true, .c _ _ _, .g true, .g true, .g true, .c _ _ _, .g true, .g true, .g true, .c _ _ _, .g true] ?_
  refine W_go ?_
  refine W_rt [] [] ?_
  exact ⟨rfl, rfl⟩
end Go.Proofs.Ytbcnkfkmonpdeaa.S
