/- Contracts: the law FnClearOp. Own work of this claim. -/
import Derived.Test.YtbcnkfkmonpdeaaGd
import Derived.Test.YtbcnkfkmonpdeaaGf
import Derived.Test.YtbcnkfkmonpdeaaGg
import Derived.Test.YtbcnkfkmonpdeaaFr
namespace Go.Proofs.Ytbcnkfkmonpdeaa.S
set_option linter.all false
open Go Go.Proofs
set_option maxHeartbeats 4000000
set_option maxRecDepth 100000

theorem lClearOp_c (B : List UInt8) (hB : B.length ≤ 9223372036854775807) : Fn Try.prog 8 [(0, .c false (.bys B))] [.sl 0 0 B.length] (fun r H => r = .bool true ∧ H = []) := by
  refine Fn_go Try.func8 ?_
  refine W_go ?_
  refine W_if (fun h1 => ?_) (fun h1 => ?_)
  · refine W_go ?_
    refine W_rt [] [] ?_
    exact ⟨rfl, rfl⟩
  have hB : B.length ≤ 1048576 := by omega
  clear h1
  refine W_go ?_
  refine W_rw fun K hK => ?_
  refine RW_x ?_
  repeat (refine And.intro (by omega) ?_)
  refine CKy (μ := [(0, (0, 0))]) ⟨⟩ (drawRunOp_c B hB) (fun x hx => ?_)
  obtain ⟨s, k, a, b⟩ := x
  try dsimp only at hx ⊢
  refine RW_x ?_
  repeat (refine And.intro (by omega) ?_)
  refine hK _ _ ?_
  obtain ⟨hx, hk, ha, hb⟩ := hx
  unfold Sto.dr at hx
  have hbb : (s.h.L.length ≤ 4194304 ∧ s.h.R.length ≤ 4194304 ∧ s.h.T.length ≤ 4194304) ∧ s.F.length ≤ 4194304 := by omega
  have hI := iRunOp_c s k a b hbb
  have hS := sRunOp_c s k a b hbb
  have hw := runS_len s k a b
  have hE := iSame_t (s.runS k a b) (by omega)
  by_cases g : s.runOk k a b
  case neg =>
    rw [decide_eq_false g] at hI hS
    generalize s.runS k a b = w at *
    generalize s.runE k a b = e at *
    refine W_go ?_
    refine W_c1 [(0, (4104, 0)), (1, (4105, 0)), (2, (4106, 0)), (3, (4107, 0))] hI ?_
    refine W_go ?_
    refine W_c1 [(0, (4104, 0)), (1, (4105, 0)), (2, (4106, 0)), (3, (4107, 0))] hS ?_
    refine W_go ?_
    refine W_c1 [(0, (5136, 0)), (1, (5137, 0)), (2, (5138, 0)), (3, (5139, 0)), (4, (6160, 0)), (5, (6161, 0)), (6, (6162, 0)), (7, (6163, 0))] hE ?_
    refine W_ift ?_
    refine W_go ?_
    refine W_c1 [(0, (5136, 0)), (1, (5137, 0)), (2, (5138, 0)), (3, (5139, 0)), (4, (6160, 0)), (5, (6161, 0)), (6, (6162, 0)), (7, (6163, 0))] hE ?_
    refine W_go ?_
    refine W_rt [] [] ?_
    exact ⟨rfl, rfl⟩
  rw [decide_eq_true g] at hI hS
  have eS : s.runS k a b = s.doS k a b := by rw [Sto.runS, if_pos g]
  have eE : s.runE k a b = s.doE k a b := by rw [Sto.runE, if_pos g]
  rw [eS] at hI hS hE hw
  rw [eE] at hI hS
  have xok := do_ok g
  have xl := doS_L s k a b
  have hT := g.1.1.1
  have ga := g.2.1.2
  have okc : (s.doS k a b).runOk 7 a 0 := by
    refine ⟨xok, ⟨by omega, ga.1, ga.2.1, by rw [xl.2]; exact ga.2.2.1, by omega, by omega⟩, ?_⟩
    rw [if_pos (.inr rfl)]
  have hI2 := iRunOp_c (s.doS k a b) 7 a 0 (by omega)
  have eS2 : (s.doS k a b).runS 7 a 0 = (s.doS k a b).root a (-1) := by rw [Sto.runS, if_pos okc]; rfl
  have eE2 : (s.doS k a b).runE 7 a 0 = 0 := by rw [Sto.runE, if_pos okc]; rfl
  rw [decide_eq_true okc, eS2, eE2] at hI2
  have yok := do_ok okc
  have eD : (s.doS k a b).doS 7 a 0 = (s.doS k a b).root a (-1) := rfl
  rw [eD] at yok
  have hN1 := iCountLive_c ((s.doS k a b).root a (-1)).h (by have := yok.1.1; omega)
  have hN2 := iCountLive_c (s.doS k a b).h (by omega)
  have hlm : ((s.doS k a b).root a (-1)).h.live ≤ (s.doS k a b).h.live := by
    refine live_mono xok.1 rfl fun c q => ?_
    rw [← eD] at q
    rcases do_reach okc q with z | ⟨z, _⟩
    · exact z
    · omega
  have hT2 : ((s.doS k a b).root a (-1)).h.T.getD a.toNat 0 = -1 := by
    show ((s.doS k a b).h.T.set _ _).getD _ 0 = -1
    rw [getD_set (by omega), if_pos rfl]
  have hlt : a < ((s.doS k a b).root a (-1)).h.T.length := by
    show a < (((s.doS k a b).h.T.set _ _).length : Int)
    rw [List.length_set]; omega
  have hwy : (((s.doS k a b).root a (-1)).h.L.length ≤ 4194304 ∧ ((s.doS k a b).root a (-1)).h.R.length ≤ 4194304 ∧ ((s.doS k a b).root a (-1)).h.T.length ≤ 4194304) ∧ ((s.doS k a b).root a (-1)).F.length ≤ 4194304 := by simp only [Sto.root, List.length_set]; omega
  clear okc eS2 eE2 eD yok eS eE xok
  replace g : Hold _ := ⟨g⟩
  replace hT : Hold _ := ⟨hT⟩
  replace xl : Hold _ := ⟨xl⟩
  replace ga : Hold _ := ⟨ga⟩
  generalize ((s.doS k a b).root a (-1)).h.live = n1 at *
  generalize (s.doS k a b).h.live = n2 at *
  generalize (s.doS k a b).root a (-1) = y at *
  generalize s.doS k a b = w at *
  generalize s.doE k a b = e at *
  refine W_go ?_
  refine W_c1 [(0, (4104, 0)), (1, (4105, 0)), (2, (4106, 0)), (3, (4107, 0))] hI ?_
  refine W_go ?_
  refine W_c1 [(0, (4104, 0)), (1, (4105, 0)), (2, (4106, 0)), (3, (4107, 0))] hS ?_
  refine W_go ?_
  refine W_c1 [(0, (5136, 0)), (1, (5137, 0)), (2, (5138, 0)), (3, (5139, 0)), (4, (6160, 0)), (5, (6161, 0)), (6, (6162, 0)), (7, (6163, 0))] hE ?_
  refine W_iff ?_
  refine W_go ?_
  refine W_c1 [(0, (5136, 0)), (1, (5137, 0)), (2, (5138, 0)), (3, (5139, 0))] hI2 ?_
  refine W_go ?_
  refine W_dch2 [(0, (9248, 0)), (1, (9249, 0)), (2, (9250, 0))] hN1 [(0, (5136, 0)), (1, (5137, 0)), (2, (5138, 0))] hN2 [.g true, .g true, .g true, .g true, .g true, .g true, .g true, .g true, .g true, .g true, .g true, .g true, .g true, .c _ _ _, .g true, .g true, .g true, .c _ _ _, .g true] ?_
  refine W_go ?_
  refine W_rt [] [] ?_
  exact ⟨by rw [decide_eq_true]; omega, rfl⟩
end Go.Proofs.Ytbcnkfkmonpdeaa.S
