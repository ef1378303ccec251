/- Contracts: the law FnSweepColor. Own work of this claim. -/
import Derived.Test.YtdkdepfgilbkeaaGs
import Derived.Test.YtdkdepfgilbkeaaGe
namespace Go.Proofs.Ytdkdepfgilbkeaa.S
set_option linter.all false
open Go Go.Proofs
set_option maxHeartbeats 4000000
set_option maxRecDepth 100000

theorem lSweepColor_c (B : List UInt8) (hB : B.length ≤ 9223372036854775807) : Fn Try.prog 8 [(0, .c false (.bys B))] [.sl 0 0 B.length] (fun r H => r = .bool true ∧ H = []) := by
  refine Fn_go Try.func8 ?_
  refine W_go ?_
  refine W_if (fun h1 => ?_) (fun h1 => ?_)
  · refine W_go ?_
    refine W_rt [] [] ?_
    exact ⟨rfl, rfl⟩
  have hB : B.length ≤ 1048576 := by omega
  clear h1
  refine W_go ?_
  refine W_rw fun K hK => ?_
  refine RW_x ?_
  repeat (refine And.intro (by omega) ?_)
  refine CKy (μ := [(0, (0, 0))]) ⟨⟩ (drawStepGc_c B hB) (fun x hx => ?_)
  obtain ⟨s, g⟩ := x
  try dsimp only at hx ⊢
  refine RW_x ?_
  repeat (refine And.intro (by omega) ?_)
  refine hK _ _ ?_
  unfold drG at hx
  have hb : ((s.h.L.length ≤ 4194304 ∧ s.h.R.length ≤ 4194304 ∧ s.h.T.length ≤ 4194304) ∧ s.F.length ≤ 4194304) ∧ g.C.length ≤ 8 := by omega
  have hI := iStepGc_c s g hb.1 (by omega)
  have hS := sStepGc_c s g hb.1 (by omega)
  by_cases g0 : g.stOk s
  case neg =>
    rw [decide_eq_false g0, Gcc.stepS, Gcc.stepG, if_neg g0, if_neg g0] at hI hS
    have hE := iSame_t Sto.zero (by simp [Sto.zero])
    have hF := iGcSame_t Gcc.zero (by simp [Gcc.zero])
    clear g0
    generalize Sto.zero = s' at *
    generalize Gcc.zero = g' at *
    refine W_go ?_
    refine W_c1 [(0, (4104, 0)), (1, (4105, 0)), (2, (4106, 0)), (3, (4107, 0)), (4, (4108, 0))] hI ?_
    refine W_go ?_
    refine W_c1 [(0, (4104, 0)), (1, (4105, 0)), (2, (4106, 0)), (3, (4107, 0)), (4, (4108, 0))] hS ?_
    refine W_go ?_
    refine W_c2 [(0, (5136, 0)), (1, (5137, 0)), (2, (5138, 0)), (3, (5139, 0)), (4, (6160, 0)), (5, (6161, 0)), (6, (6162, 0)), (7, (6163, 0))] hE [(0, (5140, 0)), (1, (6164, 0))] hF ?_
    refine W_ift ?_
    refine W_go ?_
    refine W_c2 [(0, (5136, 0)), (1, (5137, 0)), (2, (5138, 0)), (3, (5139, 0)), (4, (6160, 0)), (5, (6161, 0)), (6, (6162, 0)), (7, (6163, 0))] hE [(0, (5140, 0)), (1, (6164, 0))] hF ?_
    refine W_go ?_
    refine W_rt [] [] ?_
    exact ⟨rfl, rfl⟩
  rw [decide_eq_true g0, Gcc.stepS, Gcc.stepG, if_pos g0, if_pos g0] at hI hS
  have gk := g0.1
  have gn := g0.step
  have bF := gn.1.le
  have l8 := gn.1.1.1
  have hlc := gn.2.1.1
  have b8 : (((g.stS s).h.L.length ≤ 8 ∧ (g.stS s).h.R.length ≤ 8 ∧ (g.stS s).h.T.length ≤ 3) ∧ (g.stS s).F.length ≤ 8) ∧ (g.stG s).C.length ≤ 8 := by omega
  have hE := iSame_t (g.stS s) (by omega)
  have hF := iGcSame_t (g.stG s) (by omega)
  have gl := stG_len s g
  clear bF l8 hlc
  by_cases p3 : g.p = 3
  case neg =>
    clear gk gn g0 gl
    generalize g.stS s = s' at *
    generalize g.stG s = g' at *
    refine W_go ?_
    refine W_c1 [(0, (4104, 0)), (1, (4105, 0)), (2, (4106, 0)), (3, (4107, 0)), (4, (4108, 0))] hI ?_
    refine W_go ?_
    refine W_c1 [(0, (4104, 0)), (1, (4105, 0)), (2, (4106, 0)), (3, (4107, 0)), (4, (4108, 0))] hS ?_
    refine W_go ?_
    refine W_ch2 [(0, (5136, 0)), (1, (5137, 0)), (2, (5138, 0)), (3, (5139, 0)), (4, (6160, 0)), (5, (6161, 0)), (6, (6162, 0)), (7, (6163, 0))] hE [(0, (5140, 0)), (1, (6164, 0))] hF ?_
    refine W_ift ?_
    refine W_go ?_
    refine W_c2 [(0, (5136, 0)), (1, (5137, 0)), (2, (5138, 0)), (3, (5139, 0)), (4, (6160, 0)), (5, (6161, 0)), (6, (6162, 0)), (7, (6163, 0))] hE [(0, (5140, 0)), (1, (6164, 0))] hF ?_
    refine W_go ?_
    refine W_rt [] [] ?_
    exact ⟨rfl, rfl⟩
  have eC := stG_sweep (s := s) p3
  have ha := gk.2.2
  unfold Gcc.atOk at ha
  have hlc := gk.2.1.1
  have ha : 0 ≤ g.a ∧ g.a < g.C.length := by omega
  have hsame : Hold (∀ j : Nat, j < g.C.length → (j : Int) ≠ g.a → (g.stG s).C.getD j 0 = g.C.getD j 0) := ⟨fun j hj q => by rw [eC, getD_set' hj, if_neg (by omega)]⟩
  have hz : (g.stG s).C.getD g.a.toNat 0 = 0 := by rw [eC, getD_set' (by omega), if_pos rfl]
  have gl1 : g.C.length ≤ (g.stG s).C.length := by omega
  have gl2 : (g.stG s).C.length ≤ g.C.length := by omega
  clear gk gn g0 gl eC hlc
  generalize g.stS s = s' at *
  generalize g.stG s = g' at *
  refine W_go ?_
  refine W_c1 [(0, (4104, 0)), (1, (4105, 0)), (2, (4106, 0)), (3, (4107, 0)), (4, (4108, 0))] hI ?_
  refine W_go ?_
  refine W_c1 [(0, (4104, 0)), (1, (4105, 0)), (2, (4106, 0)), (3, (4107, 0)), (4, (4108, 0))] hS ?_
  refine W_go ?_
  refine W_ch2 [(0, (5136, 0)), (1, (5137, 0)), (2, (5138, 0)), (3, (5139, 0)), (4, (6160, 0)), (5, (6161, 0)), (6, (6162, 0)), (7, (6163, 0))] hE [(0, (5140, 0)), (1, (6164, 0))] hF ?_
  refine W_iff ?_
  refine W_go ?_
  refine W_lp (T := 12) (σ := Nat) (me := fun i => [(11, .int .i64 i)]) (mh := fun _ => []) (inv := fun i => i ≤ g.C.length) (m := fun i => g.C.length - i) (s0 := 0) (Nat.zero_le _) ?_
  rintro i hi
  refine W_go ?_
  refine W_if (fun h2 => ?_) (fun h2 => ?_)
  case' refine_2 =>
    refine W_go ?_
    refine W_rt [] [] ?_
    exact ⟨by rw [decide_eq_true hz], rfl⟩
  have hil : i < g.C.length := by omega
  by_cases c1 : (i : Int) = g.a
  · clear hz
    refine W_go ?_
    refine W_dos [.g false, .g false, .g false, .g false, .g false, .g false, .g false, .g false, .g false, .g false, .g false] ?_
    refine W_iff ?_
    refine W_go ?_
    exact W_bk (i + 1) (by omega) (by omega)
  · have c2 := hsame.told i hil c1
    replace c1 := eq_false c1
    refine W_go ?_
    refine W_dos [.g true, .g true, .g true, .g true, .g true, .g true, .g true, .g true, .g true, .g true, .g true] ?_
    refine W_iff ?_
    refine W_go ?_
    exact W_bk (i + 1) (by omega) (by omega)
end Go.Proofs.Ytdkdepfgilbkeaa.S
