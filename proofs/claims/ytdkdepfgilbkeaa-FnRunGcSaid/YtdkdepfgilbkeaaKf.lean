/- Contracts: the law FnRunBound. Own work of this claim. -/
import Derived.Test.YtdkdepfgilbkeaaGt
import Derived.Test.YtdkdepfgilbkeaaGe
namespace Go.Proofs.Ytdkdepfgilbkeaa.S
set_option linter.all false
open Go Go.Proofs
set_option maxHeartbeats 4000000
set_option maxRecDepth 100000

theorem runK_zero {k : Nat} {s : Sto} {g : Gcc} (h : (runK k s g).2.2 = 0) : runK k s g = (.zero, .zero, 0) := by
  have := runAt_0 k s g
  unfold runAt at this
  rw [if_pos h] at this
  exact this.symm
theorem lRunBound_c (B : List UInt8) (hB : B.length ≤ 9223372036854775807) : Fn Try.prog 11 [(0, .c false (.bys B))] [.sl 0 0 B.length] (fun r H => r = .bool true ∧ H = []) := by
  refine Fn_go Try.func11 ?_
  refine W_go ?_
  refine W_if (fun h1 => ?_) (fun h1 => ?_)
  · refine W_go ?_
    refine W_rt [] [] ?_
    exact ⟨rfl, rfl⟩
  have hB : B.length ≤ 1048576 := by omega
  clear h1
  refine W_go ?_
  refine W_rw fun K hK => ?_
  refine RW_x ?_
  repeat (refine And.intro (by omega) ?_)
  refine CKy (μ := [(0, (0, 0))]) ⟨⟩ (drawRunGc_c B hB) (fun x hx => ?_)
  obtain ⟨s, g⟩ := x
  try dsimp only at hx ⊢
  refine RW_x ?_
  repeat (refine And.intro (by omega) ?_)
  refine hK _ _ ?_
  unfold drG at hx
  have hb : ((s.h.L.length ≤ 4194304 ∧ s.h.R.length ≤ 4194304 ∧ s.h.T.length ≤ 4194304) ∧ s.F.length ≤ 4194304) ∧ g.C.length ≤ 8 := by omega
  have hI := iRunGc_c s g hb.1 (by omega)
  have hS := sRunGc_c s g hb.1 (by omega)
  have hw := runK_small 64 s g
  have hE := iSame_t (runK 64 s g).1 (by omega)
  have hF := iGcSame_t (runK 64 s g).2.1 (by omega)
  by_cases g0 : (runK 64 s g).2.2 = 0
  case neg =>
    have hk := runK_ok 64 s g g0
    have hn := runK_bound 64 s g hk.2.2.2
    have hm := mu_le hk.2.2.2
    have hfin : ((runK 64 s g).2.2 : Int) ≤ 5 * s.h.L.length + s.h.T.length + 3 := by omega
    have l8 := hk.2.2.2.1.1.1
    rw [decide_eq_true g0] at hI hS
    have hsm : (runK 64 s g).2.2 ≤ 100 := by omega
    replace hfin : Hold _ := ⟨hfin⟩
    clear hk hn hm g0 l8
    generalize runK 64 s g = w at *
    obtain ⟨s', g', n⟩ := w
    dsimp only at *
    refine W_go ?_
    refine W_c1 [(0, (4104, 0)), (1, (4105, 0)), (2, (4106, 0)), (3, (4107, 0)), (4, (4108, 0))] hI ?_
    refine W_go ?_
    refine W_c1 [(0, (4104, 0)), (1, (4105, 0)), (2, (4106, 0)), (3, (4107, 0)), (4, (4108, 0))] hS ?_
    refine W_go ?_
    refine W_c2 [(0, (5136, 0)), (1, (5137, 0)), (2, (5138, 0)), (3, (5139, 0)), (4, (6160, 0)), (5, (6161, 0)), (6, (6162, 0)), (7, (6163, 0))] hE [(0, (5140, 0)), (1, (6164, 0))] hF ?_
    refine W_iff ?_
    refine W_go ?_
    refine W_rt [] [] ?_
    exact ⟨by rw [decide_eq_true hfin.told], rfl⟩
  have ez := runK_zero g0
  rw [ez] at hI hS hE hF
  clear ez g0 hw
  dsimp only at hI hS hE hF
  generalize Sto.zero = s' at *
  generalize Gcc.zero = g' at *
  refine W_go ?_
  refine W_c1 [(0, (4104, 0)), (1, (4105, 0)), (2, (4106, 0)), (3, (4107, 0)), (4, (4108, 0))] hI ?_
  refine W_go ?_
  refine W_c1 [(0, (4104, 0)), (1, (4105, 0)), (2, (4106, 0)), (3, (4107, 0)), (4, (4108, 0))] hS ?_
  refine W_go ?_
  refine W_c2 [(0, (5136, 0)), (1, (5137, 0)), (2, (5138, 0)), (3, (5139, 0)), (4, (6160, 0)), (5, (6161, 0)), (6, (6162, 0)), (7, (6163, 0))] hE [(0, (5140, 0)), (1, (6164, 0))] hF ?_
  refine W_ift ?_
  refine W_go ?_
  refine W_c2 [(0, (5136, 0)), (1, (5137, 0)), (2, (5138, 0)), (3, (5139, 0)), (4, (6160, 0)), (5, (6161, 0)), (6, (6162, 0)), (7, (6163, 0))] hE [(0, (5140, 0)), (1, (6164, 0))] hF ?_
  refine W_go ?_
  refine W_rt [] [] ?_
  exact ⟨rfl, rfl⟩
end Go.Proofs.Ytdkdepfgilbkeaa.S
