/- Contracts: the reference's step of a collector, runs of both, what is drawn for them. Own work of this claim. -/
import Derived.Test.YtdkdepfgilbkeaaGm
import Derived.Test.YtdkdepfgilbkeaaGk
import Derived.Test.YtdkdepfgilbkeaaA5
import Derived.Test.YtdkdepfgilbkeaaSz
namespace Go.Proofs.Ytdkdepfgilbkeaa.S
set_option linter.all false
open Go Go.Proofs
set_option maxHeartbeats 4000000
set_option maxRecDepth 100000

theorem sl13OwnHeap_c (h : Hp) (hl : h.L.length ≤ 4194304 ∧ h.R.length ≤ 4194304 ∧ h.T.length ≤ 4194304) : Fn Try.prog 128 [(0, .c false (.ints h.L)), (1, .c false (.ints h.R)), (2, .c false (.ints h.T))] [.agg [.sl 0 0 h.L.length, .sl 1 0 h.R.length, .sl 2 0 h.T.length]] (fun r H => r = .agg [.sl 100 0 h.L.length, .sl 101 0 h.R.length, .sl 102 0 h.T.length] ∧ H = [(100, .c true (.ints h.L)), (101, .c true (.ints h.R)), (102, .c true (.ints h.T))]) := by
  refine Fn_go Try.func128 ?_
  refine W_go ?_
  exact W_rt [(2072, (100, 0)), (3096, (101, 0)), (4120, (102, 0))] [] ⟨rfl, rfl⟩
theorem sl13OwnStore_c (s : Sto) (hl : (s.h.L.length ≤ 4194304 ∧ s.h.R.length ≤ 4194304 ∧ s.h.T.length ≤ 4194304) ∧ s.F.length ≤ 4194304) : Fn Try.prog 100 [(0, .c false (.ints s.h.L)), (1, .c false (.ints s.h.R)), (2, .c false (.ints s.h.T)), (3, .c false (.ints s.F))] [.agg [.sl 0 0 s.h.L.length, .sl 1 0 s.h.R.length, .sl 2 0 s.h.T.length, .sl 3 0 s.F.length]] (fun r H => r = .agg [.sl 100 0 s.h.L.length, .sl 101 0 s.h.R.length, .sl 102 0 s.h.T.length, .sl 103 0 s.F.length] ∧ H = [(100, .c true (.ints s.h.L)), (101, .c true (.ints s.h.R)), (102, .c true (.ints s.h.T)), (103, .c true (.ints s.F))]) := by
  refine Fn_go Try.func100 ?_
  refine W_go ?_
  refine W_c1 [(0, (0, 0)), (1, (1, 0)), (2, (2, 0))] (sl13OwnHeap_c s.h hl.1) ?_
  refine W_go ?_
  exact W_rt [(2064, (100, 0)), (2065, (101, 0)), (2066, (102, 0)), (3096, (103, 0))] [] ⟨rfl, rfl⟩
theorem sStepGc_c (s : Sto) (g : Gcc) (hl : (s.h.L.length ≤ 4194304 ∧ s.h.R.length ≤ 4194304 ∧ s.h.T.length ≤ 4194304) ∧ s.F.length ≤ 4194304) (hC : g.C.length ≤ 4194304) : Fn Try.prog 42 [(0, .c false (.ints s.h.L)), (1, .c false (.ints s.h.R)), (2, .c false (.ints s.h.T)), (3, .c false (.ints s.F)), (4, .c false (.ints g.C))] [.agg [.sl 0 0 s.h.L.length, .sl 1 0 s.h.R.length, .sl 2 0 s.h.T.length, .sl 3 0 s.F.length], .agg [.int .i64 g.p, .sl 4 0 g.C.length, .int .i64 g.a]]
    (fun r H => r = .tup [.agg [.sl 100 0 (g.stepS s).h.L.length, .sl 101 0 (g.stepS s).h.R.length, .sl 102 0 (g.stepS s).h.T.length, .sl 103 0 (g.stepS s).F.length], .agg [.int .i64 (g.stepG s).p, .sl 104 0 (g.stepG s).C.length, .int .i64 (g.stepG s).a], .bool (decide (g.stOk s))] ∧ H = [(100, .c true (.ints (g.stepS s).h.L)), (101, .c true (.ints (g.stepS s).h.R)), (102, .c true (.ints (g.stepS s).h.T)), (103, .c true (.ints (g.stepS s).F)), (104, .c true (.ints (g.stepG s).C))]) := by
  have hv := sGcValid_c s g hl hC
  have hO := sl13OwnStore_c s hl
  have bad : ¬ g.stOk s → g.stepS s = Sto.zero ∧ g.stepG s = Gcc.zero ∧ decide (g.stOk s) = false := fun q => ⟨by rw [Gcc.stepS, if_neg q], by rw [Gcc.stepG, if_neg q], decide_eq_false q⟩
  refine Fn_go Try.func42 ?_
  by_cases g1 : g.ok s
  case neg =>
    rw [decide_eq_false g1] at hv
    obtain ⟨b1, b2, b3⟩ := bad (fun q => g1 q.1)
    rw [b1, b2, b3]
    clear b1 b2 b3 bad
    refine W_go ?_
    refine W_c1 [(0, (0, 0)), (1, (1, 0)), (2, (2, 0)), (3, (3, 0))] hO ?_
    refine W_go ?_
    refine W_c1 [(0, (2056, 0)), (1, (2057, 0)), (2, (2058, 0)), (3, (2059, 0)), (4, (4, 0))] hv ?_
    refine W_ift ?_
    refine W_go ?_
    refine W_rt [] [(100, .ints []), (101, .ints []), (102, .ints []), (103, .ints []), (104, .ints [])] ?_
    exact ⟨rfl, rfl⟩
  rw [decide_eq_true g1] at hv
  have bF := g1.1.le
  have l8 := g1.1.1.1
  have hlc := g1.2.1.1
  have hw := sl6Swept_c s g g1.weak (by omega)
  have hA := l4At_c s.h.T (g.sw s) (by omega)
  have hi := idx_nonneg s.h.T (g.sw s)
  have hS := sl6Step_c s g g1.weak (by omega)
  have b8 : ((s.h.L.length ≤ 8 ∧ s.h.R.length ≤ 8 ∧ s.h.T.length ≤ 3) ∧ g.C.length ≤ 8) ∧ s.F.length ≤ 8 := by omega
  by_cases g2 : g.sw s ≠ -1 ∧ g.sw s ∈ s.h.T
  · obtain ⟨b1, b2, b3⟩ := bad (fun q => q.2 g2)
    rw [b1, b2, b3]
    have g3 := g2.1
    have i0 := hi.2 g2.2
    clear b1 b2 b3 bad g1 g2 hS hi bF l8 hlc
    generalize idx s.h.T (g.sw s) = i at *
    generalize g.sw s = x at *
    refine W_go ?_
    refine W_c1 [(0, (0, 0)), (1, (1, 0)), (2, (2, 0)), (3, (3, 0))] hO ?_
    refine W_go ?_
    refine W_c1 [(0, (2056, 0)), (1, (2057, 0)), (2, (2058, 0)), (3, (2059, 0)), (4, (4, 0))] hv ?_
    refine W_iff ?_
    refine W_go ?_
    refine W_dch3 [(0, (2056, 0)), (1, (2057, 0)), (2, (2058, 0)), (3, (2059, 0)), (4, (4, 0))] hw [(0, (2058, 0))] hA [(0, (2056, 0)), (1, (2057, 0)), (2, (2058, 0)), (3, (2059, 0)), (4, (4, 0))] hw [.c _ _ _, .c _ _ _, .g true, .g true, .g true, .c _ _ _, .g true] ?_
    refine W_ift ?_
    refine W_go ?_
    refine W_rt [] [(100, .ints []), (101, .ints []), (102, .ints []), (103, .ints []), (104, .ints [])] ?_
    exact ⟨rfl, rfl⟩
  have gs : g.stOk s := ⟨g1, g2⟩
  rw [Gcc.stepS, Gcc.stepG, if_pos gs, if_pos gs, decide_eq_true gs]
  by_cases g3 : g.sw s ∈ s.h.T
  · have i0 := hi.2 g3
    have g4 : g.sw s = -1 := Decidable.byContradiction fun q => g2 ⟨q, g3⟩
    rw [g4] at hw i0 hA
    clear bad g1 g2 gs hi bF l8 hlc g3 g4
    generalize idx s.h.T (-1) = i at *
    generalize g.stS s = s' at *
    generalize g.stG s = g' at *
    refine W_go ?_
    refine W_c1 [(0, (0, 0)), (1, (1, 0)), (2, (2, 0)), (3, (3, 0))] hO ?_
    refine W_go ?_
    refine W_c1 [(0, (2056, 0)), (1, (2057, 0)), (2, (2058, 0)), (3, (2059, 0)), (4, (4, 0))] hv ?_
    refine W_iff ?_
    refine W_go ?_
    refine W_dch3 [(0, (2056, 0)), (1, (2057, 0)), (2, (2058, 0)), (3, (2059, 0)), (4, (4, 0))] hw [(0, (2058, 0))] hA [(0, (2056, 0)), (1, (2057, 0)), (2, (2058, 0)), (3, (2059, 0)), (4, (4, 0))] hw [.c _ _ _, .c _ _ _, .g true, .g true, .g true, .c _ _ _, .g true] ?_
    refine W_iff ?_
    refine W_go ?_
    refine W_c1 [(0, (2056, 0)), (1, (2057, 0)), (2, (2058, 0)), (3, (2059, 0)), (4, (4, 0))] hS ?_
    refine W_go ?_
    refine W_rt [(7184, (100, 0)), (7185, (101, 0)), (7186, (102, 0)), (7187, (103, 0)), (7188, (104, 0))] [] ?_
    exact ⟨rfl, rfl⟩
  · have i0 : ¬ 0 ≤ idx s.h.T (g.sw s) := fun q => g3 (hi.1 q)
    clear bad g1 g2 gs hi bF l8 hlc g3
    generalize idx s.h.T (g.sw s) = i at *
    generalize g.sw s = x at *
    generalize g.stS s = s' at *
    generalize g.stG s = g' at *
    refine W_go ?_
    refine W_c1 [(0, (0, 0)), (1, (1, 0)), (2, (2, 0)), (3, (3, 0))] hO ?_
    refine W_go ?_
    refine W_c1 [(0, (2056, 0)), (1, (2057, 0)), (2, (2058, 0)), (3, (2059, 0)), (4, (4, 0))] hv ?_
    refine W_iff ?_
    refine W_go ?_
    refine W_dch2 [(0, (2056, 0)), (1, (2057, 0)), (2, (2058, 0)), (3, (2059, 0)), (4, (4, 0))] hw [(0, (2058, 0))] hA [.c _ _ _, .c _ _ _, .g false, .g false, .g false, .g false] ?_
    refine W_iff ?_
    refine W_go ?_
    refine W_c1 [(0, (2056, 0)), (1, (2057, 0)), (2, (2058, 0)), (3, (2059, 0)), (4, (4, 0))] hS ?_
    refine W_go ?_
    refine W_rt [(7184, (100, 0)), (7185, (101, 0)), (7186, (102, 0)), (7187, (103, 0)), (7188, (104, 0))] [] ?_
    exact ⟨rfl, rfl⟩
theorem drawStepGc_c (B : List UInt8) (hB : B.length ≤ 1048576) : Fn Try.prog 40 [(0, .c false (.bys B))] [.sl 0 0 B.length]
    (fun r H => ∃ x : Sto × Gcc, drG x.1 x.2 ∧ r = .tup [.agg [.sl 100 0 x.1.h.L.length, .sl 101 0 x.1.h.R.length, .sl 102 0 x.1.h.T.length, .sl 103 0 x.1.F.length], .agg [.int .i64 x.2.p, .sl 104 0 x.2.C.length, .int .i64 x.2.a]] ∧ H = [(100, .c true (.ints x.1.h.L)), (101, .c true (.ints x.1.h.R)), (102, .c true (.ints x.1.h.T)), (103, .c true (.ints x.1.F)), (104, .c true (.ints x.2.C))]) := by
  refine Fn_go Try.func40 ?_
  refine W_go ?_
  refine W_rw fun K hK => ?_
  refine RW_x ?_
  repeat (refine And.intro (by omega) ?_)
  refine CKy (μ := [(0, (0, 0))]) ⟨⟩ (l6Case_c B hB) (fun x hx => ?_)
  obtain ⟨s, g, n⟩ := x
  try dsimp only at hx ⊢
  refine RW_x ?_
  repeat (refine And.intro (by omega) ?_)
  refine hK _ _ ?_
  refine W_go ?_
  refine W_rt [(2056, (100, 0)), (2057, (101, 0)), (2058, (102, 0)), (2059, (103, 0)), (2060, (104, 0))] [] ?_
  exact ⟨(s, g), hx, rfl, rfl⟩
theorem drawRunGc_c (B : List UInt8) (hB : B.length ≤ 1048576) : Fn Try.prog 48 [(0, .c false (.bys B))] [.sl 0 0 B.length]
    (fun r H => ∃ x : Sto × Gcc, drG x.1 x.2 ∧ r = .tup [.agg [.sl 100 0 x.1.h.L.length, .sl 101 0 x.1.h.R.length, .sl 102 0 x.1.h.T.length, .sl 103 0 x.1.F.length], .agg [.int .i64 x.2.p, .sl 104 0 x.2.C.length, .int .i64 x.2.a]] ∧ H = [(100, .c true (.ints x.1.h.L)), (101, .c true (.ints x.1.h.R)), (102, .c true (.ints x.1.h.T)), (103, .c true (.ints x.1.F)), (104, .c true (.ints x.2.C))]) := by
  refine Fn_go Try.func48 ?_
  refine W_go ?_
  refine W_rw fun K hK => ?_
  refine RW_x ?_
  repeat (refine And.intro (by omega) ?_)
  refine CKy (μ := [(0, (0, 0))]) ⟨⟩ (l6Case_c B hB) (fun x hx => ?_)
  obtain ⟨s, g, n⟩ := x
  try dsimp only at hx ⊢
  refine RW_x ?_
  repeat (refine And.intro (by omega) ?_)
  refine hK _ _ ?_
  refine W_go ?_
  refine W_rt [(2056, (100, 0)), (2057, (101, 0)), (2058, (102, 0)), (2059, (103, 0)), (2060, (104, 0))] [] ?_
  exact ⟨(s, g), hx, rfl, rfl⟩

end Go.Proofs.Ytdkdepfgilbkeaa.S
