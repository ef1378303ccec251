/- Contracts: the law FnRunLive. Own work of this claim. -/
import Derived.Test.YtbcnkfkmonpdeaaGd
import Derived.Test.YtbcnkfkmonpdeaaGf
import Derived.Test.YtbcnkfkmonpdeaaGg
import Derived.Test.YtbcnkfkmonpdeaaFr
namespace Go.Proofs.Ytbcnkfkmonpdeaa.S
set_option linter.all false
open Go Go.Proofs
set_option maxHeartbeats 4000000
set_option maxRecDepth 100000

theorem lRunLive_c (B : List UInt8) (hB : B.length ≤ 9223372036854775807) : Fn Try.prog 3 [(0, .c false (.bys B))] [.sl 0 0 B.length] (fun r H => r = .bool true ∧ H = []) := by
  refine Fn_go Try.func3 ?_
  refine W_go ?_
  refine W_if (fun h1 => ?_) (fun h1 => ?_)
  · refine W_go ?_
    refine W_rt [] [] ?_
    exact ⟨rfl, rfl⟩
  have hB : B.length ≤ 1048576 := by omega
  clear h1
  refine W_go ?_
  refine W_rw fun K hK => ?_
  refine RW_x ?_
  repeat (refine And.intro (by omega) ?_)
  refine CKy (μ := [(0, (0, 0))]) ⟨⟩ (drawRunOp_c B hB) (fun x hx => ?_)
  obtain ⟨s, k, a, b⟩ := x
  try dsimp only at hx ⊢
  refine RW_x ?_
  repeat (refine And.intro (by omega) ?_)
  refine hK _ _ ?_
  obtain ⟨hx, hk, ha, hb⟩ := hx
  unfold Sto.dr at hx
  have hbb : (s.h.L.length ≤ 4194304 ∧ s.h.R.length ≤ 4194304 ∧ s.h.T.length ≤ 4194304) ∧ s.F.length ≤ 4194304 := by omega
  have hI := iRunOp_c s k a b hbb
  have hS := sRunOp_c s k a b hbb
  have hw := runS_len s k a b
  have hE := iSame_t (s.runS k a b) (by omega)
  by_cases g : s.runOk k a b
  case neg =>
    rw [decide_eq_false g] at hI hS
    generalize s.runS k a b = w at *
    generalize s.runE k a b = e at *
    refine W_go ?_
    refine W_c1 [(0, (4104, 0)), (1, (4105, 0)), (2, (4106, 0)), (3, (4107, 0))] hI ?_
    refine W_go ?_
    refine W_c1 [(0, (4104, 0)), (1, (4105, 0)), (2, (4106, 0)), (3, (4107, 0))] hS ?_
    refine W_go ?_
    refine W_c1 [(0, (5136, 0)), (1, (5137, 0)), (2, (5138, 0)), (3, (5139, 0)), (4, (6160, 0)), (5, (6161, 0)), (6, (6162, 0)), (7, (6163, 0))] hE ?_
    refine W_ift ?_
    refine W_go ?_
    refine W_c1 [(0, (5136, 0)), (1, (5137, 0)), (2, (5138, 0)), (3, (5139, 0)), (4, (6160, 0)), (5, (6161, 0)), (6, (6162, 0)), (7, (6163, 0))] hE ?_
    refine W_go ?_
    refine W_rt [] [] ?_
    exact ⟨rfl, rfl⟩
  rw [decide_eq_true g] at hI hS
  have eS : s.runS k a b = s.doS k a b := by rw [Sto.runS, if_pos g]
  have eE : s.runE k a b = s.doE k a b := by rw [Sto.runE, if_pos g]
  rw [eS] at hI hS hE hw
  rw [eE] at hI hS
  have xok := do_ok g
  have xl := doS_L s k a b
  have hT := g.1.1.1
  have ga := g.2.1.2
  have hR1 := iReachable_c s.h (by omega)
  have hR2 := iReachable_c (s.doS k a b).h (by omega)
  have r1 : s.h.reach.length = s.h.L.length := by rw [reach_len, if_pos ((Hp.ok_iff _).2 g.1.1)]
  have r2 : (s.doS k a b).h.reach.length = s.h.L.length := by rw [reach_len, if_pos ((Hp.ok_iff _).2 xok.1)]; exact xl.1
  have m1 := fun (i : Nat) (hi : i < s.h.L.length) => reach_getD ((Hp.ok_iff _).2 g.1.1) (c := i) hi
  have m2 := fun (i : Nat) (hi : i < s.h.L.length) => reach_getD ((Hp.ok_iff _).2 xok.1) (c := i) (by rw [xl.1]; exact hi)
  have dr := fun (i : Nat) (q : Reach (s.doS k a b).h i) => do_reach g q
  have hF := fun (i : Int) => iIsFree_c s i hbb
  have l1 : s.h.reach.length ≤ (s.doS k a b).h.reach.length := by omega
  have l2 : (s.doS k a b).h.reach.length ≤ s.h.reach.length := by omega
  have l3 : s.h.reach.length ≤ 8 := by omega
  have sok := g.1
  clear eS eE xok xl r2
  replace r1 : Hold _ := ⟨r1⟩
  replace m1 : Hold _ := ⟨m1⟩
  replace m2 : Hold _ := ⟨m2⟩
  replace dr : Hold _ := ⟨dr⟩
  replace hF : Hold _ := ⟨hF⟩
  replace sok : Hold _ := ⟨sok⟩
  clear g ga
  replace hT : Hold _ := ⟨hT⟩
  generalize (s.doS k a b).h.reach = R2 at *
  generalize s.h.reach = R1 at *
  generalize s.doS k a b = w at *
  generalize s.doE k a b = e at *
  refine W_go ?_
  refine W_c1 [(0, (4104, 0)), (1, (4105, 0)), (2, (4106, 0)), (3, (4107, 0))] hI ?_
  refine W_go ?_
  refine W_c1 [(0, (4104, 0)), (1, (4105, 0)), (2, (4106, 0)), (3, (4107, 0))] hS ?_
  refine W_go ?_
  refine W_c1 [(0, (5136, 0)), (1, (5137, 0)), (2, (5138, 0)), (3, (5139, 0)), (4, (6160, 0)), (5, (6161, 0)), (6, (6162, 0)), (7, (6163, 0))] hE ?_
  refine W_iff ?_
  refine W_go ?_
  refine W_c1 [(0, (4104, 0)), (1, (4105, 0)), (2, (4106, 0))] hR1 ?_
  refine W_go ?_
  refine W_c1 [(0, (5136, 0)), (1, (5137, 0)), (2, (5138, 0))] hR2 ?_
  refine W_go ?_
  refine W_lp (T := 14) (σ := Nat) (me := fun i => [(13, .int .i64 i)]) (mh := fun _ => []) (inv := fun i => i ≤ R1.length) (m := fun i => R1.length - i) (s0 := 0) (Nat.zero_le _) ?_
  intro i hi
  refine W_go ?_
  refine W_if (fun h2 => ?_) (fun h2 => ?_)
  case' refine_2 =>
    refine W_go ?_
    refine W_rt [] [] ?_
    exact ⟨rfl, rfl⟩
  have hil : i < s.h.L.length := by have := r1.told; omega
  by_cases q : R1.getD i false = true
  · refine W_go ?_
    refine W_gh ?_
    refine W_iff ?_
    refine W_go ?_
    exact W_bk (i + 1) (by omega) (by omega)
  have q : R1.getD i false = false := by simpa using q
  by_cases q2 : R2.getD i false = true
  · have hf := hF.told i
    have hfree : s.ok ∧ (i : Int) ∈ s.F := by
      refine ⟨sok.told, ?_⟩
      have z := dr.told i ((m2.told i hil).1 q2)
      rcases z with z | ⟨_, z2, z3⟩
      · have := (m1.told i hil).2 z
        rw [q] at this; cases this
      · rw [z3]; exact (alc_cell z2).1
    rw [decide_eq_true hfree] at hf
    clear hfree
    refine W_go ?_
    refine W_ch1 [(0, (4104, 0)), (1, (4105, 0)), (2, (4106, 0)), (3, (4107, 0))] hf ?_
    refine W_iff ?_
    refine W_go ?_
    exact W_bk (i + 1) (by omega) (by omega)
  have q2 : R2.getD i false = false := by simpa using q2
  refine W_go ?_
  refine W_gh ?_
  refine W_iff ?_
  refine W_go ?_
  exact W_bk (i + 1) (by omega) (by omega)
end Go.Proofs.Ytbcnkfkmonpdeaa.S
