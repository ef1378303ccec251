/- Contracts: the law FnRunNew. Own work of this claim. -/
import Derived.Test.YtbcnkfkmonpdeaaGd
import Derived.Test.YtbcnkfkmonpdeaaGf
import Derived.Test.YtbcnkfkmonpdeaaGg
import Derived.Test.YtbcnkfkmonpdeaaFr
import Derived.Test.YtbcnkfkmonpdeaaLj
namespace Go.Proofs.Ytbcnkfkmonpdeaa.S
set_option linter.all false
open Go Go.Proofs
set_option maxHeartbeats 4000000
set_option maxRecDepth 100000

theorem lRunNew_c (B : List UInt8) (hB : B.length ≤ 9223372036854775807) : Fn Try.prog 5 [(0, .c false (.bys B))] [.sl 0 0 B.length] (fun r H => r = .bool true ∧ H = []) := by
  refine Fn_go Try.func5 ?_
  refine W_go ?_
  refine W_if (fun h1 => ?_) (fun h1 => ?_)
  · refine W_go ?_
    refine W_rt [] [] ?_
    exact ⟨rfl, rfl⟩
  have hB : B.length ≤ 1048576 := by omega
  clear h1
  refine W_go ?_
  refine W_rw fun K hK => ?_
  refine RW_x ?_
  repeat (refine And.intro (by omega) ?_)
  refine CKy (μ := [(0, (0, 0))]) ⟨⟩ (drawRunOp_c B hB) (fun x hx => ?_)
  obtain ⟨s, k, a, b⟩ := x
  try dsimp only at hx ⊢
  refine RW_x ?_
  repeat (refine And.intro (by omega) ?_)
  refine hK _ _ ?_
  obtain ⟨hx, hk, ha, hb⟩ := hx
  unfold Sto.dr at hx
  have hbb : (s.h.L.length ≤ 4194304 ∧ s.h.R.length ≤ 4194304 ∧ s.h.T.length ≤ 4194304) ∧ s.F.length ≤ 4194304 := by omega
  have hI := iRunOp_c s k a b hbb
  have hS := sRunOp_c s k a b hbb
  have hw := runS_len s k a b
  have hE := iSame_t (s.runS k a b) (by omega)
  by_cases g : s.runOk k a b
  case neg =>
    rw [decide_eq_false g] at hI hS
    generalize s.runS k a b = w at *
    generalize s.runE k a b = e at *
    refine W_go ?_
    refine W_c1 [(0, (4104, 0)), (1, (4105, 0)), (2, (4106, 0)), (3, (4107, 0))] hI ?_
    refine W_go ?_
    refine W_c1 [(0, (4104, 0)), (1, (4105, 0)), (2, (4106, 0)), (3, (4107, 0))] hS ?_
    refine W_go ?_
    refine W_c1 [(0, (5136, 0)), (1, (5137, 0)), (2, (5138, 0)), (3, (5139, 0)), (4, (6160, 0)), (5, (6161, 0)), (6, (6162, 0)), (7, (6163, 0))] hE ?_
    refine W_ift ?_
    refine W_go ?_
    refine W_c1 [(0, (5136, 0)), (1, (5137, 0)), (2, (5138, 0)), (3, (5139, 0)), (4, (6160, 0)), (5, (6161, 0)), (6, (6162, 0)), (7, (6163, 0))] hE ?_
    refine W_go ?_
    refine W_rt [] [] ?_
    exact ⟨rfl, rfl⟩
  rw [decide_eq_true g] at hI hS
  have eS : s.runS k a b = s.doS k a b := by rw [Sto.runS, if_pos g]
  have eE : s.runE k a b = s.doE k a b := by rw [Sto.runE, if_pos g]
  rw [eS] at hI hS hE hw
  rw [eE] at hI hS
  have xok := do_ok g
  have xl := doS_L s k a b
  have hT := g.1.1.1
  have ga := g.2.1.2
  by_cases g2 : k = 1 ∧ s.alcOk a
  case neg =>
    have g3 : ¬ k = 1 ∨ k = 1 ∧ s.doE k a b = 1 := by
      by_cases q : k = 1
      · right; exact ⟨q, by rw [Sto.doE, if_pos q, if_neg (fun z => g2 ⟨q, z⟩)]⟩
      · exact .inl q
    clear g2 eS eE xok xl hT
    replace g : Hold _ := ⟨g⟩
    rcases g3 with g3 | ⟨g3, g4⟩
    · generalize s.doS k a b = w at *
      generalize s.doE k a b = e at *
      refine W_go ?_
      refine W_c1 [(0, (4104, 0)), (1, (4105, 0)), (2, (4106, 0)), (3, (4107, 0))] hI ?_
      refine W_go ?_
      refine W_c1 [(0, (4104, 0)), (1, (4105, 0)), (2, (4106, 0)), (3, (4107, 0))] hS ?_
      refine W_go ?_
      refine W_ch1 [(0, (5136, 0)), (1, (5137, 0)), (2, (5138, 0)), (3, (5139, 0)), (4, (6160, 0)), (5, (6161, 0)), (6, (6162, 0)), (7, (6163, 0))] hE ?_
      refine W_ift ?_
      refine W_go ?_
      refine W_c1 [(0, (5136, 0)), (1, (5137, 0)), (2, (5138, 0)), (3, (5139, 0)), (4, (6160, 0)), (5, (6161, 0)), (6, (6162, 0)), (7, (6163, 0))] hE ?_
      refine W_go ?_
      refine W_rt [] [] ?_
      exact ⟨rfl, rfl⟩
    · rw [g4] at hI hS
      generalize s.doS k a b = w at *
      subst g3
      refine W_go ?_
      refine W_c1 [(0, (4104, 0)), (1, (4105, 0)), (2, (4106, 0)), (3, (4107, 0))] hI ?_
      refine W_go ?_
      refine W_c1 [(0, (4104, 0)), (1, (4105, 0)), (2, (4106, 0)), (3, (4107, 0))] hS ?_
      refine W_go ?_
      refine W_ch1 [(0, (5136, 0)), (1, (5137, 0)), (2, (5138, 0)), (3, (5139, 0)), (4, (6160, 0)), (5, (6161, 0)), (6, (6162, 0)), (7, (6163, 0))] hE ?_
      refine W_if (fun _ => ?_) (fun z => ?_)
      case' refine_2 => exact absurd z (by decide)
      refine W_go ?_
      refine W_c1 [(0, (5136, 0)), (1, (5137, 0)), (2, (5138, 0)), (3, (5139, 0)), (4, (6160, 0)), (5, (6161, 0)), (6, (6162, 0)), (7, (6163, 0))] hE ?_
      refine W_go ?_
      refine W_rt [] [] ?_
      exact ⟨rfl, rfl⟩
  obtain ⟨g3, g4⟩ := g2
  have dS : s.doS k a b = s.alcS a := by rw [Sto.doS, if_pos g3, if_pos g4]
  have dE : s.doE k a b = 0 := by rw [Sto.doE, if_pos g3, if_pos g4]
  rw [dS] at hI hS hE hw xok xl
  rw [dE] at hI hS
  obtain ⟨n1, n2, n3, n4, n5, n6, n7, n8⟩ := new_cell g4
  have hC1 := iCountPointers_c (s.alcS a).h xok.1
  have hP := iPutRoot_c (s.alcS a).h a (-1) (by omega) n7
  have yok : ((s.alcS a).h.pr a (-1)).ok := by rw [(pr_alc g4).1]; exact (alc_drop g4 (.inl rfl)).1
  have hC2 := iCountPointers_c ((s.alcS a).h.pr a (-1)) yok
  have hF := iIsFree_c s (s.F.getD 0 0) hbb
  rw [decide_eq_true (show s.ok ∧ s.F.getD 0 0 ∈ s.F from ⟨g.1, n3⟩)] at hF
  have hSo := iSourcesOf_c (s.alcS a).h (s.F.getD 0 0) (by omega) ⟨xok.1, n2.1, by rw [xl.1]; exact n2.2⟩
  rw [n6] at hSo
  have p1 := ptrs_eq xok.1
  have p2 := xok.1.1
  have yl := yok.1
  have q1 := List.count_le_length (a := (-1 : Int)) (l := (s.alcS a).h.L)
  have q2 := List.count_le_length (a := (-1 : Int)) (l := (s.alcS a).h.R)
  have q3 := List.count_le_length (a := (-1 : Int)) (l := (s.alcS a).h.T)
  have np : -100 ≤ (s.alcS a).h.ptrs ∧ (s.alcS a).h.ptrs ≤ 100 := by omega
  have nl : (s.F.getD 0 0) < (s.alcS a).h.L.length ∧ (s.F.getD 0 0) < (s.alcS a).h.R.length := by omega
  have na : a < (s.alcS a).h.T.length := by omega
  clear q1 q2 q3 eS eE dS dE xok yok p1 n6 n7 n3 g4
  replace g : Hold _ := ⟨g⟩
  subst g3
  replace hT : Hold _ := ⟨hT⟩
  replace xl : Hold _ := ⟨xl⟩
  replace p2 : Hold _ := ⟨p2⟩
  replace yl : Hold _ := ⟨yl⟩
  generalize (s.alcS a).h.pr a (-1) = y at *
  generalize s.alcS a = w at *
  generalize s.F.getD 0 0 = c at *
  replace n8 : Hold _ := ⟨n8⟩
  refine W_go ?_
  refine W_c1 [(0, (4104, 0)), (1, (4105, 0)), (2, (4106, 0)), (3, (4107, 0))] hI ?_
  refine W_go ?_
  refine W_c1 [(0, (4104, 0)), (1, (4105, 0)), (2, (4106, 0)), (3, (4107, 0))] hS ?_
  refine W_go ?_
  refine W_c1 [(0, (5136, 0)), (1, (5137, 0)), (2, (5138, 0)), (3, (5139, 0)), (4, (6160, 0)), (5, (6161, 0)), (6, (6162, 0)), (7, (6163, 0))] hE ?_
  refine W_iff ?_
  refine W_go ?_
  rw [n1]
  refine W_c1 [(0, (5136, 0)), (1, (5137, 0)), (2, (5138, 0))] hC1 ?_
  refine W_go ?_
  refine W_c1 [(0, (5136, 0)), (1, (5137, 0)), (2, (5138, 0))] hP ?_
  refine W_go ?_
  refine W_ch3 [(0, (4104, 0)), (1, (4105, 0)), (2, (4106, 0)), (3, (4107, 0))] hF [(0, (5136, 0)), (1, (5137, 0)), (2, (5138, 0))] hSo [(0, (11296, 0)), (1, (11297, 0)), (2, (11298, 0))] hC2 ?_
  refine W_go ?_
  refine W_rt [] [] ?_
  exact ⟨by rw [decide_eq_true n8.told], rfl⟩
end Go.Proofs.Ytbcnkfkmonpdeaa.S
