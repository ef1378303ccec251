/- Contracts: new cells' colors, shading. Own work of this claim. -/
import Derived.Test.YtnepiffboakehaaGreatDoorGh
namespace Go.Proofs.YtnepiffboakehaaGreatDoor.S
set_option linter.all false
open Go Go.Proofs
set_option maxHeartbeats 4000000
set_option maxRecDepth 100000

theorem sColorNew_c (s : Sto) (g : Gcc) (c : Int) (hl : (s.h.L.length ≤ 4194304 ∧ s.h.R.length ≤ 4194304 ∧ s.h.T.length ≤ 4194304) ∧ s.F.length ≤ 4194304) (hC : g.C.length ≤ 4194304) : Fn Tryz.prog 87 [(0, .c false (.ints s.h.L)), (1, .c false (.ints s.h.R)), (2, .c false (.ints s.h.T)), (3, .c false (.ints s.F)), (4, .c false (.ints g.C))] [.agg [.sl 0 0 s.h.L.length, .sl 1 0 s.h.R.length, .sl 2 0 s.h.T.length, .sl 3 0 s.F.length], .agg [.int .i64 g.p, .sl 4 0 g.C.length, .int .i64 g.a], .int .i64 c]
    (fun r H => r = .tup [.agg [.int .i64 (g.new s c).p, .sl 100 0 (g.new s c).C.length, .int .i64 (g.new s c).a], .bool (decide (g.newOk s c))] ∧ H = [(100, .c true (.ints (g.new s c).C))]) := by
  have hv := sGcValid_c s g hl hC
  have hc := sl1Cell_c s.h c (by omega)
  refine Fn_go Tryz.func87 ?_
  refine W_go ?_
  by_cases g1 : g.ok s
  case neg =>
    rw [decide_eq_false g1] at hv
    have e : g.new s c = .zero := by rw [Gcc.new, if_neg (fun q => g1 q.1)]
    rw [e, decide_eq_false (fun q => g1 q.1)]
    clear e
    refine W_c1 [(0, (0, 0)), (1, (1, 0)), (2, (2, 0)), (3, (3, 0)), (4, (4, 0))] hv ?_
    refine W_ift ?_
    refine W_go ?_
    refine W_rt [] [(100, .ints [])] ?_
    exact ⟨rfl, rfl⟩
  rw [decide_eq_true g1] at hv
  by_cases g2 : 0 ≤ c ∧ c < s.h.L.length
  case neg =>
    rw [decide_eq_false (fun q => g2 q.2)] at hc
    have e : g.new s c = .zero := by rw [Gcc.new, if_neg (fun q => g2 q.2)]
    rw [e, decide_eq_false (fun q => g2 q.2)]
    clear e g2
    refine W_c2 [(0, (0, 0)), (1, (1, 0)), (2, (2, 0)), (3, (3, 0)), (4, (4, 0))] hv [(0, (0, 0)), (1, (1, 0)), (2, (2, 0))] hc ?_
    refine W_ift ?_
    refine W_go ?_
    refine W_rt [] [(100, .ints [])] ?_
    exact ⟨rfl, rfl⟩
  rw [decide_eq_true (show s.h.ok ∧ 0 ≤ c ∧ c < s.h.L.length from ⟨g1.1.1, g2⟩)] at hc
  have gn : g.newOk s c := ⟨g1, g2⟩
  rw [decide_eq_true gn]
  have hlc := g1.2.1.1
  have b1 : 0 ≤ c ∧ c < g.C.length := by omega
  clear hlc g2 g1
  have e : g.new s c = ⟨g.p, g.C.set c.toNat (g.newC c), g.a⟩ := by rw [Gcc.new, if_pos gn]
  rw [e]
  clear e
  replace gn : Hold _ := ⟨gn⟩
  have hk := sl6Copy_c g hC
  refine W_c2 [(0, (0, 0)), (1, (1, 0)), (2, (2, 0)), (3, (3, 0)), (4, (4, 0))] hv [(0, (0, 0)), (1, (1, 0)), (2, (2, 0))] hc ?_
  refine W_iff ?_
  refine W_go ?_
  refine W_c1 [(0, (4, 0))] hk ?_
  by_cases c1 : g.p = 1
  · have e : g.newC c = 2 := by unfold Gcc.newC; rw [if_pos (.inl c1)]
    rw [e]
    clear e
    replace c1 := eq_true c1
    refine W_go ?_
    refine W_gh ?_
    refine W_ift ?_
    refine W_go ?_
    refine W_rt [(4104, (100, 0))] [] ?_
    simp
  by_cases c2 : g.p = 2
  · have e : g.newC c = 2 := by unfold Gcc.newC; rw [if_pos (.inr (.inl c2))]
    rw [e]
    clear e
    replace c2 := eq_true c2
    refine W_go ?_
    refine W_gh ?_
    refine W_ift ?_
    refine W_go ?_
    refine W_rt [(4104, (100, 0))] [] ?_
    simp
  by_cases c3 : g.p = 3
  · by_cases c4 : g.a ≤ c
    · have e : g.newC c = 2 := by unfold Gcc.newC; rw [if_pos (.inr (.inr ⟨c3, c4⟩))]
      rw [e]
      clear e
      replace c3 := eq_true c3
      refine W_go ?_
      refine W_gh ?_
      refine W_ift ?_
      refine W_go ?_
      refine W_rt [(4104, (100, 0))] [] ?_
      simp
    · have e : g.newC c = 0 := by unfold Gcc.newC; rw [if_neg (by rintro (q | q | q); exact c1 q; exact c2 q; exact c4 q.2)]
      rw [e]
      clear e
      replace c3 := eq_true c3
      refine W_go ?_
      refine W_gh ?_
      refine W_iff ?_
      refine W_go ?_
      refine W_rt [(4104, (100, 0))] [] ?_
      simp
  have e : g.newC c = 0 := by unfold Gcc.newC; rw [if_neg (by rintro (q | q | q); exact c1 q; exact c2 q; exact c3 q.1)]
  rw [e]
  clear e
  refine W_go ?_
  refine W_gh ?_
  refine W_iff ?_
  refine W_go ?_
  refine W_rt [(4104, (100, 0))] [] ?_
  simp
theorem sShadeGc_c (s : Sto) (g : Gcc) (c : Int) (hl : (s.h.L.length ≤ 4194304 ∧ s.h.R.length ≤ 4194304 ∧ s.h.T.length ≤ 4194304) ∧ s.F.length ≤ 4194304) (hC : g.C.length ≤ 4194304) : Fn Tryz.prog 88 [(0, .c false (.ints s.h.L)), (1, .c false (.ints s.h.R)), (2, .c false (.ints s.h.T)), (3, .c false (.ints s.F)), (4, .c false (.ints g.C))] [.agg [.sl 0 0 s.h.L.length, .sl 1 0 s.h.R.length, .sl 2 0 s.h.T.length, .sl 3 0 s.F.length], .agg [.int .i64 g.p, .sl 4 0 g.C.length, .int .i64 g.a], .int .i64 c]
    (fun r H => r = .tup [.agg [.int .i64 (g.shade s c).p, .sl 100 0 (g.shade s c).C.length, .int .i64 (g.shade s c).a], .bool (decide (g.newOk s c))] ∧ H = [(100, .c true (.ints (g.shade s c).C))]) := by
  have hv := sGcValid_c s g hl hC
  have hc := sl1Cell_c s.h c (by omega)
  refine Fn_go Tryz.func88 ?_
  refine W_go ?_
  by_cases g1 : g.ok s
  case neg =>
    rw [decide_eq_false g1] at hv
    have e : g.shade s c = .zero := by rw [Gcc.shade, if_neg (fun q => g1 q.1)]
    rw [e, decide_eq_false (fun q => g1 q.1)]
    clear e
    refine W_c1 [(0, (0, 0)), (1, (1, 0)), (2, (2, 0)), (3, (3, 0)), (4, (4, 0))] hv ?_
    refine W_ift ?_
    refine W_go ?_
    refine W_rt [] [(100, .ints [])] ?_
    exact ⟨rfl, rfl⟩
  rw [decide_eq_true g1] at hv
  by_cases g2 : 0 ≤ c ∧ c < s.h.L.length
  case neg =>
    rw [decide_eq_false (fun q => g2 q.2)] at hc
    have e : g.shade s c = .zero := by rw [Gcc.shade, if_neg (fun q => g2 q.2)]
    rw [e, decide_eq_false (fun q => g2 q.2)]
    clear e g2
    refine W_c2 [(0, (0, 0)), (1, (1, 0)), (2, (2, 0)), (3, (3, 0)), (4, (4, 0))] hv [(0, (0, 0)), (1, (1, 0)), (2, (2, 0))] hc ?_
    refine W_ift ?_
    refine W_go ?_
    refine W_rt [] [(100, .ints [])] ?_
    exact ⟨rfl, rfl⟩
  rw [decide_eq_true (show s.h.ok ∧ 0 ≤ c ∧ c < s.h.L.length from ⟨g1.1.1, g2⟩)] at hc
  have gn : g.newOk s c := ⟨g1, g2⟩
  rw [decide_eq_true gn]
  have hlc := g1.2.1.1
  have b1 : 0 ≤ c ∧ c < g.C.length := by omega
  clear hlc g2 g1
  have e : g.shade s c = ⟨g.p, if g.p = 1 ∨ g.p = 2 then shd g.C c else g.C, g.a⟩ := by rw [Gcc.shade, if_pos gn]
  rw [e]
  clear e
  replace gn : Hold _ := ⟨gn⟩
  have hk := sl6Copy_c g hC
  have hsh := sl3Shade_c g.C c (by omega) hC
  have hD := shd_len g.C c
  refine W_c2 [(0, (0, 0)), (1, (1, 0)), (2, (2, 0)), (3, (3, 0)), (4, (4, 0))] hv [(0, (0, 0)), (1, (1, 0)), (2, (2, 0))] hc ?_
  refine W_iff ?_
  refine W_go ?_
  refine W_c1 [(0, (4, 0))] hk ?_
  by_cases c1 : g.p = 1
  · rw [if_pos (show g.p = 1 ∨ g.p = 2 from .inl c1)]
    generalize shd g.C c = D at *
    have tD : List.take g.C.length D = D := List.take_of_length_le (by omega)
    replace hD : Hold _ := ⟨hD⟩
    replace tD : Hold _ := ⟨tD⟩
    replace c1 := eq_true c1
    refine W_go ?_
    refine W_gh ?_
    refine W_ift ?_
    refine W_go ?_
    refine W_c1 [(0, (4104, 0))] hsh ?_
    refine W_go ?_
    refine W_rt [(4104, (100, 0))] [] ?_
    simp [hD.told, tD.told]
  by_cases c2 : g.p = 2
  · rw [if_pos (show g.p = 1 ∨ g.p = 2 from .inr c2)]
    generalize shd g.C c = D at *
    have tD : List.take g.C.length D = D := List.take_of_length_le (by omega)
    replace hD : Hold _ := ⟨hD⟩
    replace tD : Hold _ := ⟨tD⟩
    replace c2 := eq_true c2
    refine W_go ?_
    refine W_gh ?_
    refine W_ift ?_
    refine W_go ?_
    refine W_c1 [(0, (4104, 0))] hsh ?_
    refine W_go ?_
    refine W_rt [(4104, (100, 0))] [] ?_
    simp [hD.told, tD.told]
  rw [if_neg (show ¬ (g.p = 1 ∨ g.p = 2) by omega)]
  refine W_go ?_
  refine W_gh ?_
  refine W_iff ?_
  refine W_go ?_
  refine W_rt [(4104, (100, 0))] [] ?_
  exact ⟨rfl, rfl⟩
end Go.Proofs.YtnepiffboakehaaGreatDoor.S
