/- Contracts: the law FnRunGc. Own work of this claim. -/
import Derived.Test.YtdkdepfgilbkeaaKf
namespace Go.Proofs.Ytdkdepfgilbkeaa.S
set_option linter.all false
open Go Go.Proofs
set_option maxHeartbeats 4000000
set_option maxRecDepth 100000

theorem lRunGc_c (B : List UInt8) (hB : B.length ≤ 9223372036854775807) : Fn Try.prog 14 [(0, .c false (.bys B))] [.sl 0 0 B.length] (fun r H => r = .bool true ∧ H = []) := by
  refine Fn_go Try.func14 ?_
  refine W_go ?_
  refine W_if (fun h1 => ?_) (fun h1 => ?_)
  · refine W_go ?_
    refine W_rt [] [] ?_
    exact ⟨rfl, rfl⟩
  have hB : B.length ≤ 1048576 := by omega
  clear h1
  refine W_go ?_
  refine W_rw fun K hK => ?_
  refine RW_x ?_
  repeat (refine And.intro (by omega) ?_)
  refine CKy (μ := [(0, (0, 0))]) ⟨⟩ (drawRunGc_c B hB) (fun x hx => ?_)
  obtain ⟨s, g⟩ := x
  try dsimp only at hx ⊢
  refine RW_x ?_
  repeat (refine And.intro (by omega) ?_)
  refine hK _ _ ?_
  unfold drG at hx
  have hb : ((s.h.L.length ≤ 4194304 ∧ s.h.R.length ≤ 4194304 ∧ s.h.T.length ≤ 4194304) ∧ s.F.length ≤ 4194304) ∧ g.C.length ≤ 8 := by omega
  have hI := iRunGc_c s g hb.1 (by omega)
  have hS := sRunGc_c s g hb.1 (by omega)
  have hw := runK_small 64 s g
  have hE := iSame_t (runK 64 s g).1 (by omega)
  have hF := iGcSame_t (runK 64 s g).2.1 (by omega)
  by_cases g0 : (runK 64 s g).2.2 = 0
  case neg =>
    have hk := runK_ok 64 s g g0
    have hJ := iRunGc_c (runK 64 s g).1 (runK 64 s g).2.1 (by omega) (by omega)
    have hc := runK_coll 64 _ _ _ (triC_idle hk.1 hk.2.1) (by have := mu_le hk.1; have := hk.1.1.1.1; omega)
    have hwc := runK_small 64 (runK 64 s g).1 (runK 64 s g).2.1
    rw [hc.1] at hwc hJ
    have hV := iStoreValid_c (runK 64 s g).1 (by omega)
    rw [(Sto.ok_iff _).2 hk.1.1] at hV
    have hC := iCollectStore_c (runK 64 s g).1 (by omega) (by omega)
    rw [(Sto.ok_iff _).2 hk.1.1] at hC
    have hE2 := iSame_t (runK 64 s g).1.coll (by omega)
    have hL := iLeakedOf_c (runK 64 s g).1.coll (by omega)
    rw [coll_lost hk.1.1] at hL
    rw [decide_eq_true g0] at hI hS
    have p0 := hk.2.1
    have hn := runK_bound 64 s g hk.2.2.2
    have hm := mu_le hk.2.2.2
    have l8 := hk.2.2.2.1.1.1
    have hn2 := runK_bound 64 _ _ hk.1
    have hm2 := mu_le hk.1
    have l82 := hk.1.1.1.1
    obtain ⟨_, c2, c3⟩ := hc
    rw [decide_eq_true c3] at hJ
    have d1 : (1 : Int) ≤ (runK 64 s g).2.2 ∧ (runK 64 s g).2.2 ≤ 100 := by omega
    have d2 : (1 : Int) ≤ (runK 64 (runK 64 s g).1 (runK 64 s g).2.1).2.2 ∧ (runK 64 (runK 64 s g).1 (runK 64 s g).2.1).2.2 ≤ 100 := by omega
    clear hk hn hm g0 l8 hn2 hm2 l82 c3
    generalize runK 64 (runK 64 s g).1 (runK 64 s g).2.1 = w2 at *
    obtain ⟨s2, g2, n2⟩ := w2
    generalize runK 64 s g = w at *
    obtain ⟨s', g', n⟩ := w
    dsimp only at *
    generalize s'.coll = z at *
    replace p0 := eq_true p0
    replace c2 := eq_true c2
    refine W_go ?_
    refine W_c1 [(0, (4104, 0)), (1, (4105, 0)), (2, (4106, 0)), (3, (4107, 0)), (4, (4108, 0))] hI ?_
    refine W_go ?_
    refine W_c1 [(0, (4104, 0)), (1, (4105, 0)), (2, (4106, 0)), (3, (4107, 0)), (4, (4108, 0))] hS ?_
    refine W_go ?_
    refine W_c2 [(0, (5136, 0)), (1, (5137, 0)), (2, (5138, 0)), (3, (5139, 0)), (4, (6160, 0)), (5, (6161, 0)), (6, (6162, 0)), (7, (6163, 0))] hE [(0, (5140, 0)), (1, (6164, 0))] hF ?_
    refine W_iff ?_
    refine W_go ?_
    refine W_c1 [(0, (5136, 0)), (1, (5137, 0)), (2, (5138, 0)), (3, (5139, 0)), (4, (5140, 0))] hJ ?_
    refine W_go ?_
    refine W_c1 [(0, (5136, 0)), (1, (5137, 0)), (2, (5138, 0)), (3, (5139, 0))] hC ?_
    refine W_go ?_
    refine W_ch3 [(0, (5136, 0)), (1, (5137, 0)), (2, (5138, 0)), (3, (5139, 0))] hV [(0, (9232, 0)), (1, (9233, 0)), (2, (9234, 0)), (3, (9235, 0)), (4, (10248, 0)), (5, (10249, 0)), (6, (10250, 0)), (7, (10251, 0))] hE2 [(0, (9232, 0)), (1, (9233, 0)), (2, (9234, 0)), (3, (9235, 0))] hL ?_
    refine W_go ?_
    refine W_rt [] [] ?_
    exact ⟨rfl, rfl⟩
  have ez := runK_zero g0
  rw [ez] at hI hS hE hF
  clear ez g0 hw
  dsimp only at hI hS hE hF
  generalize Sto.zero = s' at *
  generalize Gcc.zero = g' at *
  refine W_go ?_
  refine W_c1 [(0, (4104, 0)), (1, (4105, 0)), (2, (4106, 0)), (3, (4107, 0)), (4, (4108, 0))] hI ?_
  refine W_go ?_
  refine W_c1 [(0, (4104, 0)), (1, (4105, 0)), (2, (4106, 0)), (3, (4107, 0)), (4, (4108, 0))] hS ?_
  refine W_go ?_
  refine W_c2 [(0, (5136, 0)), (1, (5137, 0)), (2, (5138, 0)), (3, (5139, 0)), (4, (6160, 0)), (5, (6161, 0)), (6, (6162, 0)), (7, (6163, 0))] hE [(0, (5140, 0)), (1, (6164, 0))] hF ?_
  refine W_ift ?_
  refine W_go ?_
  refine W_c2 [(0, (5136, 0)), (1, (5137, 0)), (2, (5138, 0)), (3, (5139, 0)), (4, (6160, 0)), (5, (6161, 0)), (6, (6162, 0)), (7, (6163, 0))] hE [(0, (5140, 0)), (1, (6164, 0))] hF ?_
  refine W_go ?_
  refine W_rt [] [] ?_
  exact ⟨rfl, rfl⟩
end Go.Proofs.Ytdkdepfgilbkeaa.S
