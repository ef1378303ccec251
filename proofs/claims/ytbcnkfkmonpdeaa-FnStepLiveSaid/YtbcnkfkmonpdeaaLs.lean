/- Contracts: the law FnStepLive. Own work of this claim. -/
import Derived.Test.YtbcnkfkmonpdeaaGm
import Derived.Test.YtbcnkfkmonpdeaaLr
import Derived.Test.YtbcnkfkmonpdeaaPf
namespace Go.Proofs.Ytbcnkfkmonpdeaa.S
set_option linter.all false
open Go Go.Proofs
set_option maxHeartbeats 4000000
set_option maxRecDepth 100000

theorem lStepLive_c (B : List UInt8) (hB : B.length ≤ 9223372036854775807) : Fn Try.prog 23 [(0, .c false (.bys B))] [.sl 0 0 B.length] (fun r H => r = .bool true ∧ H = []) := by
  refine Fn_go Try.func23 ?_
  refine W_go ?_
  refine W_if (fun h1 => ?_) (fun h1 => ?_)
  · refine W_go ?_
    refine W_rt [] [] ?_
    exact ⟨rfl, rfl⟩
  have hB : B.length ≤ 1048576 := by omega
  clear h1
  refine W_go ?_
  refine W_rw fun K hK => ?_
  refine RW_x ?_
  repeat (refine And.intro (by omega) ?_)
  refine CKy (μ := [(0, (0, 0))]) ⟨⟩ (drawNewGc_c B hB) (fun s hs => ?_)
  try dsimp only at hs ⊢
  refine RW_x ?_
  repeat (refine And.intro (by omega) ?_)
  refine hK _ _ ?_
  unfold Sto.dr at hs
  have hb : (s.h.L.length ≤ 4194304 ∧ s.h.R.length ≤ 4194304 ∧ s.h.T.length ≤ 4194304) ∧ s.F.length ≤ 4194304 := by omega
  have hI := iNewGc_c s hb
  have hS := sNewGc_c s hb
  have fl := fresh_len s
  have hE := iGcSame_t (Gcc.fresh s) (by omega)
  by_cases g0 : s.ok
  case neg =>
    rw [show s.valid = false by rw [Sto.valid, decide_eq_false g0]] at hI hS
    generalize Gcc.fresh s = w at *
    refine W_go ?_
    refine W_c1 [(0, (4104, 0)), (1, (4105, 0)), (2, (4106, 0)), (3, (4107, 0))] hI ?_
    refine W_go ?_
    refine W_c1 [(0, (4104, 0)), (1, (4105, 0)), (2, (4106, 0)), (3, (4107, 0))] hS ?_
    refine W_go ?_
    refine W_c1 [(0, (5128, 0)), (1, (6152, 0))] hE ?_
    refine W_ift ?_
    refine W_go ?_
    refine W_c1 [(0, (5128, 0)), (1, (6152, 0))] hE ?_
    refine W_go ?_
    refine W_rt [] [] ?_
    exact ⟨rfl, rfl⟩
  rw [(Sto.ok_iff _).2 g0] at hI hS
  obtain ⟨f1, f2, f3⟩ := freshOk g0
  have tri : Hold (Tri s (Gcc.fresh s)) := ⟨tri_idle f1 f2⟩
  clear f1 f2 f3 g0
  generalize Gcc.fresh s = w at *
  refine W_go ?_
  refine W_c1 [(0, (4104, 0)), (1, (4105, 0)), (2, (4106, 0)), (3, (4107, 0))] hI ?_
  refine W_go ?_
  refine W_c1 [(0, (4104, 0)), (1, (4105, 0)), (2, (4106, 0)), (3, (4107, 0))] hS ?_
  refine W_go ?_
  refine W_c1 [(0, (5128, 0)), (1, (6152, 0))] hE ?_
  refine W_iff ?_
  refine W_go ?_
  refine W_rk 9 [(4104, (4104, 0)), (4105, (4105, 0)), (4106, (4106, 0)), (4107, (4107, 0)), (4112, (4112, 0)), (5128, (5128, 0)), (5160, (5160, 0))] ?_
  refine W_lp (T := 9) (σ := Sto × Gcc × Nat) (me := fun s => [(8, .int .i64 s.2.2)]) (mh := fun s => [(4104, .c true (.ints s.1.h.L)), (4105, .c true (.ints s.1.h.R)), (4106, .c true (.ints s.1.h.T)), (4107, .c true (.ints s.1.F)), (4112, .c true (.av 1 [.sl 4104 0 s.1.h.L.length, .sl 4105 0 s.1.h.R.length, .sl 4106 0 s.1.h.T.length, .sl 4107 0 s.1.F.length])), (5128, .c true (.ints s.2.1.C)), (5160, .c true (.av 1 [.int .i64 s.2.1.p, .sl 5128 0 s.2.1.C.length, .int .i64 s.2.1.a]))])
    (inv := fun s => Hold (Tri s.1 s.2.1) ∧ s.2.2 ≤ 40) (m := fun s => 40 - s.2.2) (s0 := (s, w, 0)) ⟨tri, by dsimp only; omega⟩ ?_
  clear tri hE hI hS fl hb hs w s
  rintro ⟨s, g, i⟩ ⟨ht, hi⟩
  dsimp only at ht hi ⊢
  have t := ht.told
  have l8 := t.ok.1.1.1
  have bF := t.ok.1.le
  have hlc := t.ok.2.1.1
  have b8 : ((s.h.L.length ≤ 8 ∧ s.h.R.length ≤ 8 ∧ s.h.T.length ≤ 3) ∧ s.F.length ≤ 8) ∧ g.C.length ≤ 8 := by omega
  clear l8 bF hlc
  have hb : (s.h.L.length ≤ 4194304 ∧ s.h.R.length ≤ 4194304 ∧ s.h.T.length ≤ 4194304) ∧ s.F.length ≤ 4194304 := by omega
  have hW := iSweptCell_c s g hb (by omega)
  have hR := iReachable_c s.h hb.1
  have hP := iStepGc_c s g hb (by omega)
  have e1 : g.stepS s = g.stS s := by rw [Gcc.stepS, if_pos t.stOk]
  have e2 : g.stepG s = g.stG s := by rw [Gcc.stepG, if_pos t.stOk]
  rw [e1, e2, decide_eq_true t.stOk] at hP
  have e3 : g.swept s = g.sw s := by rw [Gcc.swept, if_pos t.ok]
  rw [e3] at hW
  have tn := t.step
  have l8 := tn.ok.1.1.1
  have bF := tn.ok.1.le
  have hlc := tn.ok.2.1.1
  have b9 : (((g.stS s).h.L.length ≤ 8 ∧ (g.stS s).h.R.length ≤ 8 ∧ (g.stS s).h.T.length ≤ 3) ∧ (g.stS s).F.length ≤ 8) ∧ (g.stG s).C.length ≤ 8 := by omega
  clear l8 bF hlc
  have hrl : s.h.reach.length = s.h.L.length := by rw [reach_len, if_pos ((Hp.ok_iff _).2 t.ok.1.1)]
  have hdead : g.sw s ≠ -1 → (0 ≤ g.sw s ∧ g.sw s < s.h.reach.length) ∧ s.h.reach.getD (g.sw s).toNat false = false := by
    intro q
    obtain ⟨d1, d2, d3, _⟩ := t.sw q
    refine ⟨⟨d2, by omega⟩, ?_⟩
    cases hb : s.h.reach.getD (g.sw s).toNat false
    · rfl
    · exact absurd ((reach_getD ((Hp.ok_iff _).2 t.ok.1.1) (by omega)).1 hb) d1
  replace tn : Hold _ := ⟨tn⟩
  replace hdead : Hold _ := ⟨hdead⟩
  replace hrl : Hold _ := ⟨hrl⟩
  have hrb : s.h.reach.length ≤ 8 := by have := hrl.told; omega
  clear t e1 e2 e3
  generalize g.sw s = x at *
  generalize s.h.reach = R at *
  generalize g.stS s = s' at *
  generalize g.stG s = g' at *
  refine W_go ?_
  refine W_if (fun h2 => ?_) (fun h2 => ?_)
  case' refine_2 =>
    refine W_go ?_
    refine W_rt [] [] ?_
    exact ⟨rfl, rfl⟩
  refine W_go ?_
  refine W_c1 [(0, (4104, 0)), (1, (4105, 0)), (2, (4106, 0)), (3, (4107, 0)), (4, (5128, 0))] hW ?_
  refine W_go ?_
  refine W_c1 [(0, (4104, 0)), (1, (4105, 0)), (2, (4106, 0))] hR ?_
  by_cases c1 : x = -1
  · replace c1 := eq_true c1
    refine W_go ?_
    refine W_gh ?_
    refine W_iff ?_
    refine W_go ?_
    refine W_c1 [(0, (4104, 0)), (1, (4105, 0)), (2, (4106, 0)), (3, (4107, 0)), (4, (5128, 0))] hP ?_
    refine W_go ?_
    refine W_iff ?_
    refine W_go ?_
    refine W_rk 9 [(16400, (4104, 0)), (16401, (4105, 0)), (16402, (4106, 0)), (16403, (4107, 0)), (4112, (4112, 0)), (16404, (5128, 0)), (5160, (5160, 0))] ?_
    refine W_bh (s', g', i + 1) ⟨tn, ?_⟩ ?_ ?_
    · dsimp only; omega
    · dsimp only; omega
    · rfl
  · obtain ⟨d1, d2⟩ := hdead.told c1
    refine W_go ?_
    refine W_gh ?_
    refine W_iff ?_
    refine W_go ?_
    refine W_c1 [(0, (4104, 0)), (1, (4105, 0)), (2, (4106, 0)), (3, (4107, 0)), (4, (5128, 0))] hP ?_
    refine W_go ?_
    refine W_iff ?_
    refine W_go ?_
    refine W_rk 9 [(16400, (4104, 0)), (16401, (4105, 0)), (16402, (4106, 0)), (16403, (4107, 0)), (4112, (4112, 0)), (16404, (5128, 0)), (5160, (5160, 0))] ?_
    refine W_bh (s', g', i + 1) ⟨tn, ?_⟩ ?_ ?_
    · dsimp only; omega
    · dsimp only; omega
    · rfl
end Go.Proofs.Ytbcnkfkmonpdeaa.S
