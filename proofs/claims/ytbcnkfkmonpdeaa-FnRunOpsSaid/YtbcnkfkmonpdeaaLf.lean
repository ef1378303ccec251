/- Contracts: the laws over drawn stores. Own work of this claim. -/
import Derived.Test.YtbcnkfkmonpdeaaGd
import Derived.Test.YtbcnkfkmonpdeaaGe
import Derived.Test.YtbcnkfkmonpdeaaFf
import Derived.Test.YtbcnkfkmonpdeaaFj
namespace Go.Proofs.Ytbcnkfkmonpdeaa.S
set_option linter.all false
open Go Go.Proofs
set_option maxHeartbeats 4000000
set_option maxRecDepth 100000

theorem clr_len (s : Sto) (cells : List Int) : (s.clr cells).h.L.length = s.h.L.length ∧ (s.clr cells).h.R.length = s.h.R.length ∧ (s.clr cells).h.T.length = s.h.T.length ∧ (s.clr cells).F.length = s.F.length + cells.length := by
  simp [Sto.clr, clrL_len]
theorem free_len' (s : Sto) (c : Int) : (s.free c).h.L.length ≤ s.h.L.length ∧ (s.free c).h.R.length ≤ s.h.R.length ∧ (s.free c).h.T.length ≤ s.h.T.length ∧ (s.free c).F.length ≤ s.F.length + 1 := by
  unfold Sto.free
  split
  · simp [Sto.clr, clrL_len]
  · simp [Sto.zero]
theorem coll_len' (s : Sto) : s.coll.h.L.length ≤ s.h.L.length ∧ s.coll.h.R.length ≤ s.h.R.length ∧ s.coll.h.T.length ≤ s.h.T.length ∧ s.coll.F.length ≤ s.F.length + 8 := by
  have := lost_le s
  unfold Sto.coll
  split
  · simp only [Sto.clr, clrL_len, List.length_append]; omega
  · simp [Sto.zero]
theorem lFreeCell_c (B : List UInt8) (hB : B.length ≤ 9223372036854775807) : Fn Try.prog 9 [(0, .c false (.bys B))] [.sl 0 0 B.length] (fun r H => r = .bool true ∧ H = []) := by
  refine Fn_go Try.func9 ?_
  refine W_go ?_
  refine W_if (fun h1 => ?_) (fun h1 => ?_)
  · refine W_go ?_
    refine W_rt [] [] ?_
    exact ⟨rfl, rfl⟩
  have hB : B.length ≤ 1048576 := by omega
  clear h1
  refine W_go ?_
  refine W_rw fun K hK => ?_
  refine RW_x ?_
  repeat (refine And.intro (by omega) ?_)
  refine CKy (μ := [(0, (0, 0))]) ⟨⟩ (drawFreeCell_c B hB) (fun x hx => ?_)
  obtain ⟨s, c⟩ := x
  try dsimp only at hx ⊢
  refine RW_x ?_
  repeat (refine And.intro (by omega) ?_)
  refine hK _ _ ?_
  unfold Sto.dr at hx
  have hb : (s.h.L.length ≤ 4194304 ∧ s.h.R.length ≤ 4194304 ∧ s.h.T.length ≤ 4194304) ∧ s.F.length ≤ 4194304 := by omega
  have hI := iFreeCell_c s c hb (by omega)
  have hS := sFreeCell_c s c hb (by omega)
  have hw := free_len' s c
  have hE := iSame_t (s.free c) (by omega)
  by_cases g : c ∈ s.lost
  case neg =>
    rw [decide_eq_false g] at hI hS
    generalize s.free c = w at *
    refine W_go ?_
    refine W_c1 [(0, (4104, 0)), (1, (4105, 0)), (2, (4106, 0)), (3, (4107, 0))] hI ?_
    refine W_go ?_
    refine W_c1 [(0, (4104, 0)), (1, (4105, 0)), (2, (4106, 0)), (3, (4107, 0))] hS ?_
    refine W_go ?_
    refine W_c1 [(0, (5136, 0)), (1, (5137, 0)), (2, (5138, 0)), (3, (5139, 0)), (4, (6160, 0)), (5, (6161, 0)), (6, (6162, 0)), (7, (6163, 0))] hE ?_
    refine W_ift ?_
    refine W_go ?_
    refine W_c1 [(0, (5136, 0)), (1, (5137, 0)), (2, (5138, 0)), (3, (5139, 0)), (4, (6160, 0)), (5, (6161, 0)), (6, (6162, 0)), (7, (6163, 0))] hE ?_
    refine W_go ?_
    refine W_rt [] [] ?_
    exact ⟨rfl, rfl⟩
  rw [decide_eq_true g] at hI hS
  have e : s.free c = s.clr [c] := by rw [Sto.free, if_pos g]
  have gn := Gone.one g
  rw [e] at hI hS hw hE
  have hv := iStoreValid_c (s.clr [c]) (by omega)
  rw [(Sto.ok_iff _).2 gn.clr_ok] at hv
  have hf := iIsFree_c (s.clr [c]) c (by omega)
  rw [decide_eq_true (show (s.clr [c]).ok ∧ c ∈ (s.clr [c]).F from ⟨gn.clr_ok, by simp [Sto.clr]⟩)] at hf
  have hC1 := iCollectStore_c s hb (by omega)
  rw [(Sto.ok_iff _).2 gn.ok] at hC1
  have hC2 := iCollectStore_c (s.clr [c]) (by omega) (by omega)
  rw [(Sto.ok_iff _).2 gn.clr_ok] at hC2
  have l1 := coll_len' s
  have l2 := coll_len' (s.clr [c])
  have fc := free_coll g
  have hH := iHeapSame_c s.coll.h (s.clr [c]).coll.h (by omega) (by omega)
  rw [show s.coll.h.same (s.clr [c]).coll.h = true by rw [fc.1]; simp [Hp.same]] at hH
  have fl := fc.2
  clear e gn fc g
  generalize (s.clr [c]).coll = z at *
  generalize s.coll = y at *
  generalize s.clr [c] = w at *
  refine W_go ?_
  refine W_c1 [(0, (4104, 0)), (1, (4105, 0)), (2, (4106, 0)), (3, (4107, 0))] hI ?_
  refine W_go ?_
  refine W_c1 [(0, (4104, 0)), (1, (4105, 0)), (2, (4106, 0)), (3, (4107, 0))] hS ?_
  refine W_go ?_
  refine W_c1 [(0, (5136, 0)), (1, (5137, 0)), (2, (5138, 0)), (3, (5139, 0)), (4, (6160, 0)), (5, (6161, 0)), (6, (6162, 0)), (7, (6163, 0))] hE ?_
  refine W_iff ?_
  refine W_go ?_
  refine W_c1 [(0, (4104, 0)), (1, (4105, 0)), (2, (4106, 0)), (3, (4107, 0))] hC1 ?_
  refine W_go ?_
  refine W_c1 [(0, (5136, 0)), (1, (5137, 0)), (2, (5138, 0)), (3, (5139, 0))] hC2 ?_
  refine W_go ?_
  refine W_c3 [(0, (5136, 0)), (1, (5137, 0)), (2, (5138, 0)), (3, (5139, 0))] hv [(0, (5136, 0)), (1, (5137, 0)), (2, (5138, 0)), (3, (5139, 0))] hf [(0, (9224, 0)), (1, (9225, 0)), (2, (9226, 0)), (3, (10248, 0)), (4, (10249, 0)), (5, (10250, 0))] hH ?_
  refine W_go ?_
  refine W_rt [] [] ?_
  exact ⟨by rw [decide_eq_true]; omega, rfl⟩
end Go.Proofs.Ytbcnkfkmonpdeaa.S
