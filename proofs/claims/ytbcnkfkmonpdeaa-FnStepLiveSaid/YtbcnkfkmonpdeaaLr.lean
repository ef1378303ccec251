/- Contracts: the law FnNewGc. Own work of this claim. -/
import Derived.Test.YtbcnkfkmonpdeaaGm
import Derived.Test.YtbcnkfkmonpdeaaGd
namespace Go.Proofs.Ytbcnkfkmonpdeaa.S
set_option linter.all false
open Go Go.Proofs
set_option maxHeartbeats 4000000
set_option maxRecDepth 100000

theorem drawNewGc_c (B : List UInt8) (hB : B.length ≤ 1048576) : Fn Try.prog 75 [(0, .c false (.bys B))] [.sl 0 0 B.length]
    (fun r H => ∃ x : Sto, x.dr ∧ r = .agg [.sl 100 0 x.h.L.length, .sl 101 0 x.h.R.length, .sl 102 0 x.h.T.length, .sl 103 0 x.F.length] ∧ H = [(100, .c true (.ints x.h.L)), (101, .c true (.ints x.h.R)), (102, .c true (.ints x.h.T)), (103, .c true (.ints x.F))]) := by
  refine Fn_go Try.func75 ?_
  refine W_go ?_
  refine W_rw fun K hK => ?_
  refine RW_x ?_
  repeat (refine And.intro (by omega) ?_)
  refine CKy (μ := [(0, (0, 0))]) ⟨⟩ (drawCollectStore_c B hB) (fun s hs => ?_)
  try dsimp only at hs ⊢
  refine RW_x ?_
  repeat (refine And.intro (by omega) ?_)
  refine hK _ _ ?_
  refine W_go ?_
  refine W_rt [(2056, (100, 0)), (2057, (101, 0)), (2058, (102, 0)), (2059, (103, 0))] [] ?_
  exact ⟨s, hs, rfl, rfl⟩
theorem freshOk {s : Sto} (ho : s.ok) : (Gcc.fresh s).ok s ∧ (Gcc.fresh s).p = 0 ∧ (Gcc.fresh s).C.length = s.h.L.length := by
  have e : Gcc.fresh s = ⟨0, List.replicate s.h.L.length 0, 0⟩ := by rw [Gcc.fresh, if_pos ((Sto.ok_iff s).2 ho)]
  rw [e]
  refine ⟨⟨ho, colOk_rep _, ?_⟩, rfl, by simp⟩
  unfold Gcc.atOk; dsimp only; omega
theorem fresh_len (s : Sto) : (Gcc.fresh s).C.length ≤ s.h.L.length := by
  unfold Gcc.fresh; split
  · simp
  · simp [Gcc.zero]
theorem lNewGc_c (B : List UInt8) (hB : B.length ≤ 9223372036854775807) : Fn Try.prog 18 [(0, .c false (.bys B))] [.sl 0 0 B.length] (fun r H => r = .bool true ∧ H = []) := by
  refine Fn_go Try.func18 ?_
  refine W_go ?_
  refine W_if (fun h1 => ?_) (fun h1 => ?_)
  · refine W_go ?_
    refine W_rt [] [] ?_
    exact ⟨rfl, rfl⟩
  have hB : B.length ≤ 1048576 := by omega
  clear h1
  refine W_go ?_
  refine W_rw fun K hK => ?_
  refine RW_x ?_
  repeat (refine And.intro (by omega) ?_)
  refine CKy (μ := [(0, (0, 0))]) ⟨⟩ (drawNewGc_c B hB) (fun s hs => ?_)
  try dsimp only at hs ⊢
  refine RW_x ?_
  repeat (refine And.intro (by omega) ?_)
  refine hK _ _ ?_
  unfold Sto.dr at hs
  have hb : (s.h.L.length ≤ 4194304 ∧ s.h.R.length ≤ 4194304 ∧ s.h.T.length ≤ 4194304) ∧ s.F.length ≤ 4194304 := by omega
  have hI := iNewGc_c s hb
  have hS := sNewGc_c s hb
  have fl := fresh_len s
  have hE := iGcSame_t (Gcc.fresh s) (by omega)
  by_cases g0 : s.ok
  case neg =>
    rw [show s.valid = false by rw [Sto.valid, decide_eq_false g0]] at hI hS
    generalize Gcc.fresh s = w at *
    refine W_go ?_
    refine W_c1 [(0, (4104, 0)), (1, (4105, 0)), (2, (4106, 0)), (3, (4107, 0))] hI ?_
    refine W_go ?_
    refine W_c1 [(0, (4104, 0)), (1, (4105, 0)), (2, (4106, 0)), (3, (4107, 0))] hS ?_
    refine W_go ?_
    refine W_c1 [(0, (5128, 0)), (1, (6152, 0))] hE ?_
    refine W_ift ?_
    refine W_go ?_
    refine W_c1 [(0, (5128, 0)), (1, (6152, 0))] hE ?_
    refine W_go ?_
    refine W_rt [] [] ?_
    exact ⟨rfl, rfl⟩
  rw [(Sto.ok_iff _).2 g0] at hI hS
  obtain ⟨f1, f2, f3⟩ := freshOk g0
  have hP := iStepGc_c s (Gcc.fresh s) hb (by omega)
  have hV := iGcValid_c s (Gcc.fresh s) hb (by omega)
  rw [decide_eq_true f1] at hV
  have nsw : (Gcc.fresh s).sw s = -1 := by unfold Gcc.sw; rw [if_neg (by rintro ⟨q, _⟩; omega)]
  have gs : (Gcc.fresh s).stOk s := ⟨f1, fun q => q.1 nsw⟩
  have e1 : (Gcc.fresh s).stepS s = s := by rw [Gcc.stepS, if_pos gs]; unfold Gcc.stS; rw [if_neg (fun q => q nsw)]
  have e2 : (Gcc.fresh s).stepG s = ⟨1, List.replicate (Gcc.fresh s).C.length 0, 0⟩ := by rw [Gcc.stepG, if_pos gs, Gcc.stG, if_pos f2]
  rw [e1, e2, decide_eq_true gs] at hP
  have hQ := iSame_t s hb
  clear e1 e2 gs nsw f1 f2 f3 g0
  dsimp only at hP
  generalize Gcc.fresh s = w at *
  refine W_go ?_
  refine W_c1 [(0, (4104, 0)), (1, (4105, 0)), (2, (4106, 0)), (3, (4107, 0))] hI ?_
  refine W_go ?_
  refine W_c1 [(0, (4104, 0)), (1, (4105, 0)), (2, (4106, 0)), (3, (4107, 0))] hS ?_
  refine W_go ?_
  refine W_c1 [(0, (5128, 0)), (1, (6152, 0))] hE ?_
  refine W_iff ?_
  refine W_go ?_
  refine W_c1 [(0, (4104, 0)), (1, (4105, 0)), (2, (4106, 0)), (3, (4107, 0)), (4, (5128, 0))] hP ?_
  refine W_go ?_
  refine W_c2 [(0, (4104, 0)), (1, (4105, 0)), (2, (4106, 0)), (3, (4107, 0)), (4, (5128, 0))] hV [(0, (9232, 0)), (1, (9233, 0)), (2, (9234, 0)), (3, (9235, 0)), (4, (4104, 0)), (5, (4105, 0)), (6, (4106, 0)), (7, (4107, 0))] hQ ?_
  refine W_go ?_
  refine W_rt [] [] ?_
  exact ⟨rfl, rfl⟩
end Go.Proofs.Ytbcnkfkmonpdeaa.S
