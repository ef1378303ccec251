/- Contracts: the law FnMarkEnd. Own work of this claim. -/
import Derived.Test.YtdkdepfgilbkeaaGs
import Derived.Test.YtdkdepfgilbkeaaGe
import Derived.Test.YtdkdepfgilbkeaaGl
namespace Go.Proofs.Ytdkdepfgilbkeaa.S
set_option linter.all false
open Go Go.Proofs
set_option maxHeartbeats 4000000
set_option maxRecDepth 100000

theorem iCountColor_c (h : Hp) (C : List Int) (k : Int) (hl : h.L.length ≤ 4194304 ∧ h.R.length ≤ 4194304 ∧ h.T.length ≤ 4194304) (hC : C.length ≤ 1048576) (hk : k ∉ C) : Fn Try.prog 47 [(0, .c false (.ints h.L)), (1, .c false (.ints h.R)), (2, .c false (.ints h.T)), (3, .c false (.ints C))] [.agg [.sl 0 0 h.L.length, .sl 1 0 h.R.length, .sl 2 0 h.T.length, .sl 3 0 C.length], .int .i64 k] (fun r H => r = .int .i64 0 ∧ H = []) := by
  have hv := iColoredValid_c h C hl (by omega)
  replace hk : Hold _ := ⟨hk⟩
  refine Fn_go Try.func47 ?_
  refine W_go ?_
  refine W_c1 [(0, (0, 0)), (1, (1, 0)), (2, (2, 0)), (3, (3, 0))] hv ?_
  refine W_ifb (fun q => ?_) (fun q => ?_)
  · refine W_go ?_
    refine W_rt [] [] ?_
    exact ⟨rfl, rfl⟩
  refine W_go ?_
  refine W_lp (T := 14) (σ := Nat) (me := fun i => [(14, .int .i64 i)]) (mh := fun _ => []) (inv := fun i => i ≤ C.length) (m := fun i => C.length - i) (s0 := 0) (Nat.zero_le _) ?_
  rintro i hi
  refine W_go ?_
  refine W_if (fun h2 => ?_) (fun h2 => ?_)
  case' refine_2 =>
    refine W_go ?_
    refine W_rt [] [] ?_
    exact ⟨rfl, rfl⟩
  have hil : i < C.length := by omega
  refine W_go ?_
  refine W_if (fun z => ?_) (fun z => ?_)
  · exact absurd (z ▸ getD_mem hil) hk.told
  refine W_go ?_
  exact W_bk (i + 1) (by omega) (by omega)
theorem lMarkEnd_c (B : List UInt8) (hB : B.length ≤ 9223372036854775807) : Fn Try.prog 10 [(0, .c false (.bys B))] [.sl 0 0 B.length] (fun r H => r = .bool true ∧ H = []) := by
  refine Fn_go Try.func10 ?_
  refine W_go ?_
  refine W_if (fun h1 => ?_) (fun h1 => ?_)
  · refine W_go ?_
    refine W_rt [] [] ?_
    exact ⟨rfl, rfl⟩
  have hB : B.length ≤ 1048576 := by omega
  clear h1
  refine W_go ?_
  refine W_rw fun K hK => ?_
  refine RW_x ?_
  repeat (refine And.intro (by omega) ?_)
  refine CKy (μ := [(0, (0, 0))]) ⟨⟩ (drawStepGc_c B hB) (fun x hx => ?_)
  obtain ⟨s, g⟩ := x
  try dsimp only at hx ⊢
  refine RW_x ?_
  repeat (refine And.intro (by omega) ?_)
  refine hK _ _ ?_
  unfold drG at hx
  have hb : ((s.h.L.length ≤ 4194304 ∧ s.h.R.length ≤ 4194304 ∧ s.h.T.length ≤ 4194304) ∧ s.F.length ≤ 4194304) ∧ g.C.length ≤ 8 := by omega
  have hI := iStepGc_c s g hb.1 (by omega)
  have hS := sStepGc_c s g hb.1 (by omega)
  by_cases g0 : g.stOk s
  case neg =>
    rw [decide_eq_false g0, Gcc.stepS, Gcc.stepG, if_neg g0, if_neg g0] at hI hS
    have hE := iSame_t Sto.zero (by simp [Sto.zero])
    have hF := iGcSame_t Gcc.zero (by simp [Gcc.zero])
    clear g0
    generalize Sto.zero = s' at *
    generalize Gcc.zero = g' at *
    refine W_go ?_
    refine W_c1 [(0, (4104, 0)), (1, (4105, 0)), (2, (4106, 0)), (3, (4107, 0)), (4, (4108, 0))] hI ?_
    refine W_go ?_
    refine W_c1 [(0, (4104, 0)), (1, (4105, 0)), (2, (4106, 0)), (3, (4107, 0)), (4, (4108, 0))] hS ?_
    refine W_go ?_
    refine W_c2 [(0, (5136, 0)), (1, (5137, 0)), (2, (5138, 0)), (3, (5139, 0)), (4, (6160, 0)), (5, (6161, 0)), (6, (6162, 0)), (7, (6163, 0))] hE [(0, (5140, 0)), (1, (6164, 0))] hF ?_
    refine W_ift ?_
    refine W_go ?_
    refine W_c2 [(0, (5136, 0)), (1, (5137, 0)), (2, (5138, 0)), (3, (5139, 0)), (4, (6160, 0)), (5, (6161, 0)), (6, (6162, 0)), (7, (6163, 0))] hE [(0, (5140, 0)), (1, (6164, 0))] hF ?_
    refine W_go ?_
    refine W_rt [] [] ?_
    exact ⟨rfl, rfl⟩
  rw [decide_eq_true g0, Gcc.stepS, Gcc.stepG, if_pos g0, if_pos g0] at hI hS
  have gk := g0.1
  have gn := g0.step
  have bF := gn.1.le
  have l8 := gn.1.1.1
  have hlc := gn.2.1.1
  have b8 : (((g.stS s).h.L.length ≤ 8 ∧ (g.stS s).h.R.length ≤ 8 ∧ (g.stS s).h.T.length ≤ 3) ∧ (g.stS s).F.length ≤ 8) ∧ (g.stG s).C.length ≤ 8 := by omega
  have hE := iSame_t (g.stS s) (by omega)
  have hF := iGcSame_t (g.stG s) (by omega)
  have gl := stG_len s g
  clear bF l8 hlc
  by_cases p2 : g.p = 2
  case neg =>
    clear gk gn g0 gl
    generalize g.stS s = s' at *
    generalize g.stG s = g' at *
    refine W_go ?_
    refine W_c1 [(0, (4104, 0)), (1, (4105, 0)), (2, (4106, 0)), (3, (4107, 0)), (4, (4108, 0))] hI ?_
    refine W_go ?_
    refine W_c1 [(0, (4104, 0)), (1, (4105, 0)), (2, (4106, 0)), (3, (4107, 0)), (4, (4108, 0))] hS ?_
    refine W_go ?_
    refine W_ch2 [(0, (5136, 0)), (1, (5137, 0)), (2, (5138, 0)), (3, (5139, 0)), (4, (6160, 0)), (5, (6161, 0)), (6, (6162, 0)), (7, (6163, 0))] hE [(0, (5140, 0)), (1, (6164, 0))] hF ?_
    refine W_ift ?_
    refine W_go ?_
    refine W_c2 [(0, (5136, 0)), (1, (5137, 0)), (2, (5138, 0)), (3, (5139, 0)), (4, (6160, 0)), (5, (6161, 0)), (6, (6162, 0)), (7, (6163, 0))] hE [(0, (5140, 0)), (1, (6164, 0))] hF ?_
    refine W_go ?_
    refine W_rt [] [] ?_
    exact ⟨rfl, rfl⟩
  by_cases p3 : (g.stG s).p = 3
  case neg =>
    clear gk gn g0 gl
    generalize g.stS s = s' at *
    generalize g.stG s = g' at *
    refine W_go ?_
    refine W_c1 [(0, (4104, 0)), (1, (4105, 0)), (2, (4106, 0)), (3, (4107, 0)), (4, (4108, 0))] hI ?_
    refine W_go ?_
    refine W_c1 [(0, (4104, 0)), (1, (4105, 0)), (2, (4106, 0)), (3, (4107, 0)), (4, (4108, 0))] hS ?_
    refine W_go ?_
    refine W_ch2 [(0, (5136, 0)), (1, (5137, 0)), (2, (5138, 0)), (3, (5139, 0)), (4, (6160, 0)), (5, (6161, 0)), (6, (6162, 0)), (7, (6163, 0))] hE [(0, (5140, 0)), (1, (6164, 0))] hF ?_
    refine W_ift ?_
    refine W_go ?_
    refine W_c2 [(0, (5136, 0)), (1, (5137, 0)), (2, (5138, 0)), (3, (5139, 0)), (4, (6160, 0)), (5, (6161, 0)), (6, (6162, 0)), (7, (6163, 0))] hE [(0, (5140, 0)), (1, (6164, 0))] hF ?_
    refine W_go ?_
    refine W_rt [] [] ?_
    exact ⟨rfl, rfl⟩
  obtain ⟨e1, e2, e3⟩ := stG_end gk p2 p3
  have hCC := iCountColor_c s.h g.C 1 hb.1.1 (by omega) e2
  rw [e1] at hF
  have hT := gk.1.1.2.2.2
  have hlc := gk.2.1.1
  have hr : Hold (∀ j, j < s.h.T.length → s.h.T.getD j 0 = -1 ∨ (0 ≤ s.h.T.getD j 0 ∧ s.h.T.getD j 0 < g.C.length) ∧ g.C.getD (s.h.T.getD j 0).toNat 0 = 2) := ⟨fun j hj => by
    rcases okP_get hT hj with q | q
    · exact .inl q
    · exact .inr ⟨by omega, e3 j hj (by omega)⟩⟩
  rw [e1] at hI hS
  generalize hs' : g.stS s = s' at *
  generalize g.stG s = g' at *
  clear gk gn g0 gl e1 e2 e3 hT hlc hs'
  obtain ⟨p', C', a'⟩ := g'
  dsimp only at *
  subst p3
  refine W_go ?_
  refine W_c1 [(0, (4104, 0)), (1, (4105, 0)), (2, (4106, 0)), (3, (4107, 0)), (4, (4108, 0))] hI ?_
  refine W_go ?_
  refine W_c1 [(0, (4104, 0)), (1, (4105, 0)), (2, (4106, 0)), (3, (4107, 0)), (4, (4108, 0))] hS ?_
  refine W_go ?_
  refine W_ch2 [(0, (5136, 0)), (1, (5137, 0)), (2, (5138, 0)), (3, (5139, 0)), (4, (6160, 0)), (5, (6161, 0)), (6, (6162, 0)), (7, (6163, 0))] hE [(0, (5140, 0)), (1, (6164, 0))] hF ?_
  refine W_iff ?_
  refine W_go ?_
  refine W_lp (T := 12) (σ := Nat) (me := fun i => [(11, .int .i64 i)]) (mh := fun _ => []) (inv := fun i => i ≤ s.h.T.length) (m := fun i => s.h.T.length - i) (s0 := 0) (Nat.zero_le _) ?_
  rintro i hi
  refine W_go ?_
  refine W_if (fun h2 => ?_) (fun h2 => ?_)
  case' refine_2 =>
    refine W_go ?_
    refine W_c1 [(0, (4104, 0)), (1, (4105, 0)), (2, (4106, 0)), (3, (5140, 0))] hCC ?_
    refine W_rt [] [] ?_
    exact ⟨rfl, rfl⟩
  have hil : i < s.h.T.length := by omega
  rcases hr.told i hil with q | ⟨q1, q2⟩
  · replace q := eq_true q
    refine W_go ?_
    refine W_gh ?_
    refine W_iff ?_
    refine W_go ?_
    exact W_bk (i + 1) (by omega) (by omega)
  · have q3 : ¬ s.h.T.getD i 0 = -1 := by omega
    replace q2 := eq_true q2
    replace q3 := eq_false q3
    refine W_go ?_
    refine W_gh ?_
    refine W_iff ?_
    refine W_go ?_
    exact W_bk (i + 1) (by omega) (by omega)
end Go.Proofs.Ytdkdepfgilbkeaa.S
