/- Texts of this claim's own, laid as one: Gj Gu Gv. Own work of this claim. -/
import Derived.Test.YtbobhbhgomkgpaaGreatDoorB6
import Derived.Test.YtbobhbhgomkgpaaGreatDoorB5
import Derived.Test.YtbobhbhgomkgpaaGreatDoorA6
/- Contracts: new cells' colors, shading. Own work of this claim. -/
namespace Go.Proofs.YtbobhbhgomkgpaaGreatDoor.S
set_option linter.all false
open Go Go.Proofs
set_option maxHeartbeats 4000000
set_option maxRecDepth 100000

theorem iColorNew_c (s : Sto) (g : Gcc) (c : Int) (hl : (s.h.L.length ≤ 4194304 ∧ s.h.R.length ≤ 4194304 ∧ s.h.T.length ≤ 4194304) ∧ s.F.length ≤ 4194304) (hC : g.C.length ≤ 4194304) : Fn Tryz.prog 70 [(0, .c false (.ints s.h.L)), (1, .c false (.ints s.h.R)), (2, .c false (.ints s.h.T)), (3, .c false (.ints s.F)), (4, .c false (.ints g.C))] [.agg [.sl 0 0 s.h.L.length, .sl 1 0 s.h.R.length, .sl 2 0 s.h.T.length, .sl 3 0 s.F.length], .agg [.int .i64 g.p, .sl 4 0 g.C.length, .int .i64 g.a], .int .i64 c]
    (fun r H => r = .tup [.agg [.int .i64 (g.new s c).p, .sl 100 0 (g.new s c).C.length, .int .i64 (g.new s c).a], .bool (decide (g.newOk s c))] ∧ H = [(100, .c true (.ints (g.new s c).C))]) := by
  have hv := iGcValid_c s g hl hC
  have hc := ihas_c s.h c (by omega)
  refine Fn_go Tryz.func70 ?_
  refine W_go ?_
  by_cases g1 : g.ok s
  case neg =>
    rw [decide_eq_false g1] at hv
    have e : g.new s c = .zero := by rw [Gcc.new, if_neg (fun q => g1 q.1)]
    rw [e, decide_eq_false (fun q => g1 q.1)]
    clear e
    refine W_c1 [(0, (0, 0)), (1, (1, 0)), (2, (2, 0)), (3, (3, 0)), (4, (4, 0))] hv ?_
    refine W_ift ?_
    refine W_go ?_
    refine W_rt [] [(100, .ints [])] ?_
    exact ⟨rfl, rfl⟩
  rw [decide_eq_true g1] at hv
  by_cases g2 : 0 ≤ c ∧ c < s.h.L.length
  case neg =>
    rw [decide_eq_false (fun q => g2 q.2)] at hc
    have e : g.new s c = .zero := by rw [Gcc.new, if_neg (fun q => g2 q.2)]
    rw [e, decide_eq_false (fun q => g2 q.2)]
    clear e g2
    refine W_c2 [(0, (0, 0)), (1, (1, 0)), (2, (2, 0)), (3, (3, 0)), (4, (4, 0))] hv [(0, (0, 0)), (1, (1, 0)), (2, (2, 0))] hc ?_
    refine W_ift ?_
    refine W_go ?_
    refine W_rt [] [(100, .ints [])] ?_
    exact ⟨rfl, rfl⟩
  rw [decide_eq_true (show s.h.ok ∧ 0 ≤ c ∧ c < s.h.L.length from ⟨g1.1.1, g2⟩)] at hc
  have gn : g.newOk s c := ⟨g1, g2⟩
  rw [decide_eq_true gn]
  have hlc := g1.2.1.1
  have b1 : 0 ≤ c ∧ c < g.C.length := by omega
  clear hlc g2 g1
  have e : g.new s c = ⟨g.p, g.C.set c.toNat (g.newC c), g.a⟩ := by rw [Gcc.new, if_pos gn]
  rw [e]
  clear e
  replace gn : Hold _ := ⟨gn⟩
  have hk := zClone_c g.C (by omega)
  refine W_c2 [(0, (0, 0)), (1, (1, 0)), (2, (2, 0)), (3, (3, 0)), (4, (4, 0))] hv [(0, (0, 0)), (1, (1, 0)), (2, (2, 0))] hc ?_
  refine W_iff ?_
  refine W_go ?_
  refine W_c1 [(0, (4, 0))] hk ?_
  by_cases c1 : g.p = 1
  · have e : g.newC c = 2 := by unfold Gcc.newC; rw [if_pos (.inl c1)]
    rw [e]
    clear e
    replace c1 := eq_true c1
    refine W_go ?_
    refine W_gh ?_
    refine W_ift ?_
    refine W_go ?_
    refine W_rt [(4112, (100, 0))] [] ?_
    simp
  by_cases c2 : g.p = 2
  · have e : g.newC c = 2 := by unfold Gcc.newC; rw [if_pos (.inr (.inl c2))]
    rw [e]
    clear e
    replace c2 := eq_true c2
    refine W_go ?_
    refine W_gh ?_
    refine W_ift ?_
    refine W_go ?_
    refine W_rt [(4112, (100, 0))] [] ?_
    simp
  by_cases c3 : g.p = 3
  · by_cases c4 : g.a ≤ c
    · have e : g.newC c = 2 := by unfold Gcc.newC; rw [if_pos (.inr (.inr ⟨c3, c4⟩))]
      rw [e]
      clear e
      replace c3 := eq_true c3
      refine W_go ?_
      refine W_gh ?_
      refine W_ift ?_
      refine W_go ?_
      refine W_rt [(4112, (100, 0))] [] ?_
      simp
    · have e : g.newC c = 0 := by unfold Gcc.newC; rw [if_neg (by rintro (q | q | q); exact c1 q; exact c2 q; exact c4 q.2)]
      rw [e]
      clear e
      replace c3 := eq_true c3
      refine W_go ?_
      refine W_gh ?_
      refine W_iff ?_
      refine W_go ?_
      refine W_rt [(4112, (100, 0))] [] ?_
      simp
  have e : g.newC c = 0 := by unfold Gcc.newC; rw [if_neg (by rintro (q | q | q); exact c1 q; exact c2 q; exact c3 q.1)]
  rw [e]
  clear e
  refine W_go ?_
  refine W_gh ?_
  refine W_iff ?_
  refine W_go ?_
  refine W_rt [(4112, (100, 0))] [] ?_
  simp
theorem sColorNew_c (s : Sto) (g : Gcc) (c : Int) (hl : (s.h.L.length ≤ 4194304 ∧ s.h.R.length ≤ 4194304 ∧ s.h.T.length ≤ 4194304) ∧ s.F.length ≤ 4194304) (hC : g.C.length ≤ 4194304) : Fn Tryz.prog 120 [(0, .c false (.ints s.h.L)), (1, .c false (.ints s.h.R)), (2, .c false (.ints s.h.T)), (3, .c false (.ints s.F)), (4, .c false (.ints g.C))] [.agg [.sl 0 0 s.h.L.length, .sl 1 0 s.h.R.length, .sl 2 0 s.h.T.length, .sl 3 0 s.F.length], .agg [.int .i64 g.p, .sl 4 0 g.C.length, .int .i64 g.a], .int .i64 c]
    (fun r H => r = .tup [.agg [.int .i64 (g.new s c).p, .sl 100 0 (g.new s c).C.length, .int .i64 (g.new s c).a], .bool (decide (g.newOk s c))] ∧ H = [(100, .c true (.ints (g.new s c).C))]) := by
  have hv := sGcValid_c s g hl hC
  have hc := sl1Cell_c s.h c (by omega)
  refine Fn_go Tryz.func120 ?_
  refine W_go ?_
  by_cases g1 : g.ok s
  case neg =>
    rw [decide_eq_false g1] at hv
    have e : g.new s c = .zero := by rw [Gcc.new, if_neg (fun q => g1 q.1)]
    rw [e, decide_eq_false (fun q => g1 q.1)]
    clear e
    refine W_c1 [(0, (0, 0)), (1, (1, 0)), (2, (2, 0)), (3, (3, 0)), (4, (4, 0))] hv ?_
    refine W_ift ?_
    refine W_go ?_
    refine W_rt [] [(100, .ints [])] ?_
    exact ⟨rfl, rfl⟩
  rw [decide_eq_true g1] at hv
  by_cases g2 : 0 ≤ c ∧ c < s.h.L.length
  case neg =>
    rw [decide_eq_false (fun q => g2 q.2)] at hc
    have e : g.new s c = .zero := by rw [Gcc.new, if_neg (fun q => g2 q.2)]
    rw [e, decide_eq_false (fun q => g2 q.2)]
    clear e g2
    refine W_c2 [(0, (0, 0)), (1, (1, 0)), (2, (2, 0)), (3, (3, 0)), (4, (4, 0))] hv [(0, (0, 0)), (1, (1, 0)), (2, (2, 0))] hc ?_
    refine W_ift ?_
    refine W_go ?_
    refine W_rt [] [(100, .ints [])] ?_
    exact ⟨rfl, rfl⟩
  rw [decide_eq_true (show s.h.ok ∧ 0 ≤ c ∧ c < s.h.L.length from ⟨g1.1.1, g2⟩)] at hc
  have gn : g.newOk s c := ⟨g1, g2⟩
  rw [decide_eq_true gn]
  have hlc := g1.2.1.1
  have b1 : 0 ≤ c ∧ c < g.C.length := by omega
  clear hlc g2 g1
  have e : g.new s c = ⟨g.p, g.C.set c.toNat (g.newC c), g.a⟩ := by rw [Gcc.new, if_pos gn]
  rw [e]
  clear e
  replace gn : Hold _ := ⟨gn⟩
  have hk := sl6Copy_c g hC
  refine W_c2 [(0, (0, 0)), (1, (1, 0)), (2, (2, 0)), (3, (3, 0)), (4, (4, 0))] hv [(0, (0, 0)), (1, (1, 0)), (2, (2, 0))] hc ?_
  refine W_iff ?_
  refine W_go ?_
  refine W_c1 [(0, (4, 0))] hk ?_
  by_cases c1 : g.p = 1
  · have e : g.newC c = 2 := by unfold Gcc.newC; rw [if_pos (.inl c1)]
    rw [e]
    clear e
    replace c1 := eq_true c1
    refine W_go ?_
    refine W_gh ?_
    refine W_ift ?_
    refine W_go ?_
    refine W_rt [(4104, (100, 0))] [] ?_
    simp
  by_cases c2 : g.p = 2
  · have e : g.newC c = 2 := by unfold Gcc.newC; rw [if_pos (.inr (.inl c2))]
    rw [e]
    clear e
    replace c2 := eq_true c2
    refine W_go ?_
    refine W_gh ?_
    refine W_ift ?_
    refine W_go ?_
    refine W_rt [(4104, (100, 0))] [] ?_
    simp
  by_cases c3 : g.p = 3
  · by_cases c4 : g.a ≤ c
    · have e : g.newC c = 2 := by unfold Gcc.newC; rw [if_pos (.inr (.inr ⟨c3, c4⟩))]
      rw [e]
      clear e
      replace c3 := eq_true c3
      refine W_go ?_
      refine W_gh ?_
      refine W_ift ?_
      refine W_go ?_
      refine W_rt [(4104, (100, 0))] [] ?_
      simp
    · have e : g.newC c = 0 := by unfold Gcc.newC; rw [if_neg (by rintro (q | q | q); exact c1 q; exact c2 q; exact c4 q.2)]
      rw [e]
      clear e
      replace c3 := eq_true c3
      refine W_go ?_
      refine W_gh ?_
      refine W_iff ?_
      refine W_go ?_
      refine W_rt [(4104, (100, 0))] [] ?_
      simp
  have e : g.newC c = 0 := by unfold Gcc.newC; rw [if_neg (by rintro (q | q | q); exact c1 q; exact c2 q; exact c3 q.1)]
  rw [e]
  clear e
  refine W_go ?_
  refine W_gh ?_
  refine W_iff ?_
  refine W_go ?_
  refine W_rt [(4104, (100, 0))] [] ?_
  simp
theorem iShadeGc_c (s : Sto) (g : Gcc) (c : Int) (hl : (s.h.L.length ≤ 4194304 ∧ s.h.R.length ≤ 4194304 ∧ s.h.T.length ≤ 4194304) ∧ s.F.length ≤ 4194304) (hC : g.C.length ≤ 4194304) : Fn Tryz.prog 71 [(0, .c false (.ints s.h.L)), (1, .c false (.ints s.h.R)), (2, .c false (.ints s.h.T)), (3, .c false (.ints s.F)), (4, .c false (.ints g.C))] [.agg [.sl 0 0 s.h.L.length, .sl 1 0 s.h.R.length, .sl 2 0 s.h.T.length, .sl 3 0 s.F.length], .agg [.int .i64 g.p, .sl 4 0 g.C.length, .int .i64 g.a], .int .i64 c]
    (fun r H => r = .tup [.agg [.int .i64 (g.shade s c).p, .sl 100 0 (g.shade s c).C.length, .int .i64 (g.shade s c).a], .bool (decide (g.newOk s c))] ∧ H = [(100, .c true (.ints (g.shade s c).C))]) := by
  have hv := iGcValid_c s g hl hC
  have hc := ihas_c s.h c (by omega)
  refine Fn_go Tryz.func71 ?_
  refine W_go ?_
  by_cases g1 : g.ok s
  case neg =>
    rw [decide_eq_false g1] at hv
    have e : g.shade s c = .zero := by rw [Gcc.shade, if_neg (fun q => g1 q.1)]
    rw [e, decide_eq_false (fun q => g1 q.1)]
    clear e
    refine W_c1 [(0, (0, 0)), (1, (1, 0)), (2, (2, 0)), (3, (3, 0)), (4, (4, 0))] hv ?_
    refine W_ift ?_
    refine W_go ?_
    refine W_rt [] [(100, .ints [])] ?_
    exact ⟨rfl, rfl⟩
  rw [decide_eq_true g1] at hv
  by_cases g2 : 0 ≤ c ∧ c < s.h.L.length
  case neg =>
    rw [decide_eq_false (fun q => g2 q.2)] at hc
    have e : g.shade s c = .zero := by rw [Gcc.shade, if_neg (fun q => g2 q.2)]
    rw [e, decide_eq_false (fun q => g2 q.2)]
    clear e g2
    refine W_c2 [(0, (0, 0)), (1, (1, 0)), (2, (2, 0)), (3, (3, 0)), (4, (4, 0))] hv [(0, (0, 0)), (1, (1, 0)), (2, (2, 0))] hc ?_
    refine W_ift ?_
    refine W_go ?_
    refine W_rt [] [(100, .ints [])] ?_
    exact ⟨rfl, rfl⟩
  rw [decide_eq_true (show s.h.ok ∧ 0 ≤ c ∧ c < s.h.L.length from ⟨g1.1.1, g2⟩)] at hc
  have gn : g.newOk s c := ⟨g1, g2⟩
  rw [decide_eq_true gn]
  have hlc := g1.2.1.1
  have b1 : 0 ≤ c ∧ c < g.C.length := by omega
  clear hlc g2 g1
  have e : g.shade s c = ⟨g.p, if g.p = 1 ∨ g.p = 2 then shd g.C c else g.C, g.a⟩ := by rw [Gcc.shade, if_pos gn]
  rw [e]
  clear e
  replace gn : Hold _ := ⟨gn⟩
  have hk := zClone_c g.C (by omega)
  have hsh := ishade_c g.C c (by omega) hC
  have hD := shd_len g.C c
  refine W_c2 [(0, (0, 0)), (1, (1, 0)), (2, (2, 0)), (3, (3, 0)), (4, (4, 0))] hv [(0, (0, 0)), (1, (1, 0)), (2, (2, 0))] hc ?_
  refine W_iff ?_
  refine W_go ?_
  refine W_c1 [(0, (4, 0))] hk ?_
  by_cases c1 : g.p = 1
  · rw [if_pos (show g.p = 1 ∨ g.p = 2 from .inl c1)]
    generalize shd g.C c = D at *
    have tD : List.take g.C.length D = D := List.take_of_length_le (by omega)
    replace hD : Hold _ := ⟨hD⟩
    replace tD : Hold _ := ⟨tD⟩
    replace c1 := eq_true c1
    refine W_go ?_
    refine W_gh ?_
    refine W_ift ?_
    refine W_go ?_
    refine W_c1 [(0, (4112, 0))] hsh ?_
    refine W_go ?_
    refine W_rt [(4112, (100, 0))] [] ?_
    simp [hD.told, tD.told]
  by_cases c2 : g.p = 2
  · rw [if_pos (show g.p = 1 ∨ g.p = 2 from .inr c2)]
    generalize shd g.C c = D at *
    have tD : List.take g.C.length D = D := List.take_of_length_le (by omega)
    replace hD : Hold _ := ⟨hD⟩
    replace tD : Hold _ := ⟨tD⟩
    replace c2 := eq_true c2
    refine W_go ?_
    refine W_gh ?_
    refine W_ift ?_
    refine W_go ?_
    refine W_c1 [(0, (4112, 0))] hsh ?_
    refine W_go ?_
    refine W_rt [(4112, (100, 0))] [] ?_
    simp [hD.told, tD.told]
  rw [if_neg (show ¬ (g.p = 1 ∨ g.p = 2) by omega)]
  refine W_go ?_
  refine W_gh ?_
  refine W_iff ?_
  refine W_go ?_
  refine W_rt [(4112, (100, 0))] [] ?_
  exact ⟨rfl, rfl⟩
theorem sShadeGc_c (s : Sto) (g : Gcc) (c : Int) (hl : (s.h.L.length ≤ 4194304 ∧ s.h.R.length ≤ 4194304 ∧ s.h.T.length ≤ 4194304) ∧ s.F.length ≤ 4194304) (hC : g.C.length ≤ 4194304) : Fn Tryz.prog 121 [(0, .c false (.ints s.h.L)), (1, .c false (.ints s.h.R)), (2, .c false (.ints s.h.T)), (3, .c false (.ints s.F)), (4, .c false (.ints g.C))] [.agg [.sl 0 0 s.h.L.length, .sl 1 0 s.h.R.length, .sl 2 0 s.h.T.length, .sl 3 0 s.F.length], .agg [.int .i64 g.p, .sl 4 0 g.C.length, .int .i64 g.a], .int .i64 c]
    (fun r H => r = .tup [.agg [.int .i64 (g.shade s c).p, .sl 100 0 (g.shade s c).C.length, .int .i64 (g.shade s c).a], .bool (decide (g.newOk s c))] ∧ H = [(100, .c true (.ints (g.shade s c).C))]) := by
  have hv := sGcValid_c s g hl hC
  have hc := sl1Cell_c s.h c (by omega)
  refine Fn_go Tryz.func121 ?_
  refine W_go ?_
  by_cases g1 : g.ok s
  case neg =>
    rw [decide_eq_false g1] at hv
    have e : g.shade s c = .zero := by rw [Gcc.shade, if_neg (fun q => g1 q.1)]
    rw [e, decide_eq_false (fun q => g1 q.1)]
    clear e
    refine W_c1 [(0, (0, 0)), (1, (1, 0)), (2, (2, 0)), (3, (3, 0)), (4, (4, 0))] hv ?_
    refine W_ift ?_
    refine W_go ?_
    refine W_rt [] [(100, .ints [])] ?_
    exact ⟨rfl, rfl⟩
  rw [decide_eq_true g1] at hv
  by_cases g2 : 0 ≤ c ∧ c < s.h.L.length
  case neg =>
    rw [decide_eq_false (fun q => g2 q.2)] at hc
    have e : g.shade s c = .zero := by rw [Gcc.shade, if_neg (fun q => g2 q.2)]
    rw [e, decide_eq_false (fun q => g2 q.2)]
    clear e g2
    refine W_c2 [(0, (0, 0)), (1, (1, 0)), (2, (2, 0)), (3, (3, 0)), (4, (4, 0))] hv [(0, (0, 0)), (1, (1, 0)), (2, (2, 0))] hc ?_
    refine W_ift ?_
    refine W_go ?_
    refine W_rt [] [(100, .ints [])] ?_
    exact ⟨rfl, rfl⟩
  rw [decide_eq_true (show s.h.ok ∧ 0 ≤ c ∧ c < s.h.L.length from ⟨g1.1.1, g2⟩)] at hc
  have gn : g.newOk s c := ⟨g1, g2⟩
  rw [decide_eq_true gn]
  have hlc := g1.2.1.1
  have b1 : 0 ≤ c ∧ c < g.C.length := by omega
  clear hlc g2 g1
  have e : g.shade s c = ⟨g.p, if g.p = 1 ∨ g.p = 2 then shd g.C c else g.C, g.a⟩ := by rw [Gcc.shade, if_pos gn]
  rw [e]
  clear e
  replace gn : Hold _ := ⟨gn⟩
  have hk := sl6Copy_c g hC
  have hsh := sl3Shade_c g.C c (by omega) hC
  have hD := shd_len g.C c
  refine W_c2 [(0, (0, 0)), (1, (1, 0)), (2, (2, 0)), (3, (3, 0)), (4, (4, 0))] hv [(0, (0, 0)), (1, (1, 0)), (2, (2, 0))] hc ?_
  refine W_iff ?_
  refine W_go ?_
  refine W_c1 [(0, (4, 0))] hk ?_
  by_cases c1 : g.p = 1
  · rw [if_pos (show g.p = 1 ∨ g.p = 2 from .inl c1)]
    generalize shd g.C c = D at *
    have tD : List.take g.C.length D = D := List.take_of_length_le (by omega)
    replace hD : Hold _ := ⟨hD⟩
    replace tD : Hold _ := ⟨tD⟩
    replace c1 := eq_true c1
    refine W_go ?_
    refine W_gh ?_
    refine W_ift ?_
    refine W_go ?_
    refine W_c1 [(0, (4104, 0))] hsh ?_
    refine W_go ?_
    refine W_rt [(4104, (100, 0))] [] ?_
    simp [hD.told, tD.told]
  by_cases c2 : g.p = 2
  · rw [if_pos (show g.p = 1 ∨ g.p = 2 from .inr c2)]
    generalize shd g.C c = D at *
    have tD : List.take g.C.length D = D := List.take_of_length_le (by omega)
    replace hD : Hold _ := ⟨hD⟩
    replace tD : Hold _ := ⟨tD⟩
    replace c2 := eq_true c2
    refine W_go ?_
    refine W_gh ?_
    refine W_ift ?_
    refine W_go ?_
    refine W_c1 [(0, (4104, 0))] hsh ?_
    refine W_go ?_
    refine W_rt [(4104, (100, 0))] [] ?_
    simp [hD.told, tD.told]
  rw [if_neg (show ¬ (g.p = 1 ∨ g.p = 2) by omega)]
  refine W_go ?_
  refine W_gh ?_
  refine W_iff ?_
  refine W_go ?_
  refine W_rt [(4104, (100, 0))] [] ?_
  exact ⟨rfl, rfl⟩
end Go.Proofs.YtbobhbhgomkgpaaGreatDoor.S

/- Contracts: a program and a collector begun, of both. Own work of this claim. -/
namespace Go.Proofs.YtbobhbhgomkgpaaGreatDoor.S
set_option linter.all false
open Go Go.Proofs
set_option maxHeartbeats 4000000
set_option maxRecDepth 100000

theorem zCloneO_c (l : List (Int × Int × Int)) (hl : l.length ≤ 4194304) : Fn Tryz.prog 39 [(0, .c false (.ops l))] [.sl 0 0 l.length] (fun r H => r = .sl 100 0 l.length ∧ H = [(100, .c true (.ops l))]) := by
  refine Fn_go Tryz.func39 ?_
  refine W_go ?_
  refine W_nl l.length (fun b hb => ?_)
  refine W_ifb (fun h1 => ?_) (fun h1 => ?_)
  · have e : l = [] := List.eq_nil_of_length_eq_zero (hb h1)
    clear hb
    refine W_go ?_
    subst e
    refine W_rt [] [(100, .ops [])] ?_
    exact ⟨rfl, rfl⟩
  · refine W_go ?_
    refine W_rt [(4112, (100, 0))] [] ?_
    exact ⟨rfl, rfl⟩
theorem sl7Ops_c (l : List (Int × Int × Int)) (n : Nat) (hl : l.length ≤ 4194304) (hn : n ≤ 4194304) : Fn Tryz.prog 93 [(0, .c false (.ops l))] [.sl 0 0 l.length, .int .i64 n] (fun r H => r = .bool (decide (opsV l n)) ∧ H = []) := by
  have hC := fun i : Nat => sOpValid_c (opAt l i).1 (opAt l i).2.1 (opAt l i).2.2 n hn
  refine Fn_go Tryz.func93 ?_
  refine W_go ?_
  refine W_lp (T := 6) (σ := Nat) (me := fun i => [(5, .int .i64 i)]) (mh := fun _ => []) (inv := fun i => i ≤ l.length ∧ i ≤ 13 ∧ Hold (∀ j, j < i → opOk (opAt l j).1 (opAt l j).2.1 (opAt l j).2.2 n)) (m := fun i => l.length - i) (s0 := 0) ⟨by omega, by omega, ⟨by intro j hj; omega⟩⟩ ?_
  rintro i ⟨hi, hi2, hI⟩
  by_cases h1 : i < l.length
  case neg =>
    have e : decide (opsV l n) = decide ((l.length : Int) ≤ 12) := by
      rw [decide_eq_decide]
      refine ⟨fun q => by have := q.1; omega, fun q => ⟨by omega, fun j hj => hI.told j (by omega)⟩⟩
    rw [e]
    have h1' : ¬ (i : Int) < l.length := by omega
    refine W_go ?_
    refine W_gh ?_
    refine W_iff ?_
    refine W_go ?_
    refine W_rt [] [] ?_
    exact ⟨rfl, rfl⟩
  have h1' : (i : Int) < l.length := by omega
  by_cases h2 : i ≤ 12
  case neg =>
    have e : decide (opsV l n) = decide ((l.length : Int) ≤ 12) := by
      rw [decide_eq_false (fun q => by have := q.1; omega), decide_eq_false (by omega)]
    rw [e]
    have h2' : ¬ (i : Int) ≤ 12 := by omega
    refine W_go ?_
    refine W_gh ?_
    refine W_iff ?_
    refine W_go ?_
    refine W_rt [] [] ?_
    exact ⟨rfl, rfl⟩
  have h2' : (i : Int) ≤ 12 := by omega
  have hC := hC i
  unfold opAt at hC
  refine W_go ?_
  refine W_gh ?_
  refine W_ift ?_
  refine W_go ?_
  by_cases g : opOk (l.getD i (0, 0, 0)).1 (l.getD i (0, 0, 0)).2.1 (l.getD i (0, 0, 0)).2.2 n
  · rw [decide_eq_true g] at hC
    replace g : Hold _ := ⟨g⟩
    refine W_c1 [] hC ?_
    refine W_iff ?_
    refine W_go ?_
    refine W_bk (i + 1) ⟨by omega, by omega, ⟨fun j hj => ?_⟩⟩ (by omega)
    by_cases e : j = i
    · subst e; exact g.told
    · exact hI.told j (by omega)
  · rw [decide_eq_false g] at hC
    replace g : Hold _ := ⟨g⟩
    refine W_c1 [] hC ?_
    refine W_ift ?_
    refine W_go ?_
    refine W_rt [] [] ?_
    exact ⟨by rw [decide_eq_false]; intro q; exact g.told (q.2 i (by omega)), rfl⟩
theorem sNewBoth_c (s : Sto) (l : List (Int × Int × Int)) (hl : ((s.h.L.length ≤ 4194304 ∧ s.h.R.length ≤ 4194304 ∧ s.h.T.length ≤ 4194304) ∧ s.F.length ≤ 4194304) ∧ l.length ≤ 4194304) : Fn Tryz.prog 89 [(0, .c false (.ints s.h.L)), (1, .c false (.ints s.h.R)), (2, .c false (.ints s.h.T)), (3, .c false (.ints s.F)), (4, .c false (.ops l))] [.agg [.sl 0 0 s.h.L.length, .sl 1 0 s.h.R.length, .sl 2 0 s.h.T.length, .sl 3 0 s.F.length], .sl 4 0 l.length]
    (fun r H => r = .tup [.agg [.sl 100 0 (Bth.new s l).s.h.L.length, .sl 101 0 (Bth.new s l).s.h.R.length, .sl 102 0 (Bth.new s l).s.h.T.length, .sl 103 0 (Bth.new s l).s.F.length, .int .i64 (Bth.new s l).g.p, .sl 104 0 (Bth.new s l).g.C.length, .int .i64 (Bth.new s l).g.a, .sl 105 0 (Bth.new s l).o.length, .int .i64 (Bth.new s l).a, .bool (Bth.new s l).l], .bool (decide (s.opsOk l))] ∧ H = [(100, .c true (.ints (Bth.new s l).s.h.L)), (101, .c true (.ints (Bth.new s l).s.h.R)), (102, .c true (.ints (Bth.new s l).s.h.T)), (103, .c true (.ints (Bth.new s l).s.F)), (104, .c true (.ints (Bth.new s l).g.C)), (105, .c true (.ops (Bth.new s l).o))]) := by
  have hN := sNewGc_c s hl.1
  have hO := sl7Ops_c l s.h.T.length hl.2 (by omega)
  have hY := sl4Copy_c s hl.1
  have no : ¬ s.opsOk l → Bth.new s l = Bth.zero ∧ decide (s.opsOk l) = false := fun q => ⟨by rw [Bth.new, if_neg q], decide_eq_false q⟩
  refine Fn_go Tryz.func89 ?_
  by_cases g1 : s.valid = true
  case neg =>
    have g2 : s.valid = false := by simpa using g1
    obtain ⟨e1, e2⟩ := no (fun q => g1 ((Sto.ok_iff s).2 q.1))
    rw [e1, e2]
    rw [g2] at hN
    clear no e1 e2 g1 g2
    generalize Gcc.fresh s = g at *
    refine W_go ?_
    refine W_c1 [(0, (0, 0)), (1, (1, 0)), (2, (2, 0)), (3, (3, 0))] hN ?_
    refine W_go ?_
    refine W_ift ?_
    refine W_go ?_
    refine W_rt [] [(100, .ints []), (101, .ints []), (102, .ints []), (103, .ints []), (104, .ints []), (105, .ops [])] ?_
    exact ⟨rfl, rfl⟩
  rw [g1] at hN
  by_cases g2 : opsV l s.h.T.length
  case neg =>
    obtain ⟨e1, e2⟩ := no (fun q => g2 q.2)
    rw [e1, e2]
    rw [decide_eq_false g2] at hO
    clear no e1 e2 g1 g2
    generalize Gcc.fresh s = g at *
    refine W_go ?_
    refine W_c1 [(0, (0, 0)), (1, (1, 0)), (2, (2, 0)), (3, (3, 0))] hN ?_
    refine W_go ?_
    refine W_c1 [(0, (4, 0))] hO ?_
    refine W_ift ?_
    refine W_go ?_
    refine W_rt [] [(100, .ints []), (101, .ints []), (102, .ints []), (103, .ints []), (104, .ints []), (105, .ops [])] ?_
    exact ⟨rfl, rfl⟩
  have g3 : s.opsOk l := ⟨(Sto.ok_iff s).1 g1, g2⟩
  have e1 : Bth.new s l = ⟨s, Gcc.fresh s, l, 0, false⟩ := by rw [Bth.new, if_pos g3, Gcc.fresh, if_pos g1]
  rw [e1, decide_eq_true g3]
  rw [decide_eq_true g2] at hO
  clear no e1 g1 g2 g3
  generalize Gcc.fresh s = g at *
  refine W_go ?_
  refine W_c1 [(0, (0, 0)), (1, (1, 0)), (2, (2, 0)), (3, (3, 0))] hN ?_
  refine W_go ?_
  refine W_c1 [(0, (4, 0))] hO ?_
  refine W_iff ?_
  refine W_go ?_
  refine W_dc1 [(0, (0, 0)), (1, (1, 0)), (2, (2, 0)), (3, (3, 0))] hY [.c _ _ _] ?_
  refine W_go ?_
  refine W_rt [(5128, (100, 0)), (5129, (101, 0)), (5130, (102, 0)), (5131, (103, 0)), (2056, (104, 0)), (5160, (105, 0))] [] ?_
  exact ⟨rfl, rfl⟩
theorem iNewBoth_c (s : Sto) (l : List (Int × Int × Int)) (hl : ((s.h.L.length ≤ 4194304 ∧ s.h.R.length ≤ 4194304 ∧ s.h.T.length ≤ 4194304) ∧ s.F.length ≤ 4194304) ∧ l.length ≤ 4194304) : Fn Tryz.prog 21 [(0, .c false (.ints s.h.L)), (1, .c false (.ints s.h.R)), (2, .c false (.ints s.h.T)), (3, .c false (.ints s.F)), (4, .c false (.ops l))] [.agg [.sl 0 0 s.h.L.length, .sl 1 0 s.h.R.length, .sl 2 0 s.h.T.length, .sl 3 0 s.F.length], .sl 4 0 l.length]
    (fun r H => r = .tup [.agg [.sl 100 0 (Bth.new s l).s.h.L.length, .sl 101 0 (Bth.new s l).s.h.R.length, .sl 102 0 (Bth.new s l).s.h.T.length, .sl 103 0 (Bth.new s l).s.F.length, .int .i64 (Bth.new s l).g.p, .sl 104 0 (Bth.new s l).g.C.length, .int .i64 (Bth.new s l).g.a, .sl 105 0 (Bth.new s l).o.length, .int .i64 (Bth.new s l).a, .bool (Bth.new s l).l], .bool (decide (s.opsOk l))] ∧ H = [(100, .c true (.ints (Bth.new s l).s.h.L)), (101, .c true (.ints (Bth.new s l).s.h.R)), (102, .c true (.ints (Bth.new s l).s.h.T)), (103, .c true (.ints (Bth.new s l).s.F)), (104, .c true (.ints (Bth.new s l).g.C)), (105, .c true (.ops (Bth.new s l).o))]) := by
  have hN := iNewGc_c s hl.1
  have hO := iopsOk_c l s.h.T.length hl.2 (by omega)
  have hY := iagain_c s hl.1
  have no : ¬ s.opsOk l → Bth.new s l = Bth.zero ∧ decide (s.opsOk l) = false := fun q => ⟨by rw [Bth.new, if_neg q], decide_eq_false q⟩
  refine Fn_go Tryz.func21 ?_
  by_cases g1 : s.valid = true
  case neg =>
    have g2 : s.valid = false := by simpa using g1
    obtain ⟨e1, e2⟩ := no (fun q => g1 ((Sto.ok_iff s).2 q.1))
    rw [e1, e2]
    rw [g2] at hN
    clear no e1 e2 g1 g2
    generalize Gcc.fresh s = g at *
    refine W_go ?_
    refine W_c1 [(0, (0, 0)), (1, (1, 0)), (2, (2, 0)), (3, (3, 0))] hN ?_
    refine W_go ?_
    refine W_ift ?_
    refine W_go ?_
    refine W_rt [] [(100, .ints []), (101, .ints []), (102, .ints []), (103, .ints []), (104, .ints []), (105, .ops [])] ?_
    exact ⟨rfl, rfl⟩
  rw [g1] at hN
  by_cases g2 : opsV l s.h.T.length
  case neg =>
    obtain ⟨e1, e2⟩ := no (fun q => g2 q.2)
    rw [e1, e2]
    rw [decide_eq_false g2] at hO
    clear no e1 e2 g1 g2
    generalize Gcc.fresh s = g at *
    refine W_go ?_
    refine W_c1 [(0, (0, 0)), (1, (1, 0)), (2, (2, 0)), (3, (3, 0))] hN ?_
    refine W_go ?_
    refine W_c1 [(0, (4, 0))] hO ?_
    refine W_ift ?_
    refine W_go ?_
    refine W_rt [] [(100, .ints []), (101, .ints []), (102, .ints []), (103, .ints []), (104, .ints []), (105, .ops [])] ?_
    exact ⟨rfl, rfl⟩
  have g3 : s.opsOk l := ⟨(Sto.ok_iff s).1 g1, g2⟩
  have e1 : Bth.new s l = ⟨s, Gcc.fresh s, l, 0, false⟩ := by rw [Bth.new, if_pos g3, Gcc.fresh, if_pos g1]
  rw [e1, decide_eq_true g3]
  rw [decide_eq_true g2] at hO
  clear no e1 g1 g2 g3
  generalize Gcc.fresh s = g at *
  refine W_go ?_
  refine W_c1 [(0, (0, 0)), (1, (1, 0)), (2, (2, 0)), (3, (3, 0))] hN ?_
  refine W_go ?_
  refine W_c1 [(0, (4, 0))] hO ?_
  refine W_iff ?_
  refine W_go ?_
  refine W_dc2 [(0, (0, 0)), (1, (1, 0)), (2, (2, 0)), (3, (3, 0))] hY [(0, (4, 0))] (zCloneO_c l hl.2) [.c _ _ _, .c _ _ _] ?_
  refine W_go ?_
  refine W_rt [(5128, (100, 0)), (5129, (101, 0)), (5130, (102, 0)), (5131, (103, 0)), (2056, (104, 0)), (5152, (105, 0))] [] ?_
  exact ⟨rfl, rfl⟩
end Go.Proofs.YtbobhbhgomkgpaaGreatDoor.S

/- Contracts: targets, validity and copies of a program and a collector. Own work of this claim. -/
namespace Go.Proofs.YtbobhbhgomkgpaaGreatDoor.S
set_option linter.all false
open Go Go.Proofs
set_option maxHeartbeats 4000000
set_option maxRecDepth 100000

theorem sTargetOf_c (s : Sto) (k a b : Int) (hl : (s.h.L.length ≤ 4194304 ∧ s.h.R.length ≤ 4194304 ∧ s.h.T.length ≤ 4194304) ∧ s.F.length ≤ 4194304) : Fn Tryz.prog 119 [(0, .c false (.ints s.h.L)), (1, .c false (.ints s.h.R)), (2, .c false (.ints s.h.T)), (3, .c false (.ints s.F))] [.agg [.sl 0 0 s.h.L.length, .sl 1 0 s.h.R.length, .sl 2 0 s.h.T.length, .sl 3 0 s.F.length], .agg [.int .i64 k, .int .i64 a, .int .i64 b]] (fun r H => r = .int .i64 (s.tgt k a b) ∧ H = []) := by
  have hv := sStoreValid_c s hl
  have hO := sOpValid_c k a b s.h.T.length (by omega)
  have no : ¬ (s.runOk k a b ∧ (k = 5 ∨ k = 6)) → s.tgt k a b = -1 := fun q => by unfold Sto.tgt; rw [if_neg (fun w => q ⟨w.1, w.2.1⟩)]
  refine Fn_go Tryz.func119 ?_
  by_cases g1 : s.valid = true
  case neg =>
    rw [no (fun q => g1 ((Sto.ok_iff s).2 q.1.1))]
    have g2 : s.valid = false := by simpa using g1
    rw [g2] at hv
    clear no g1 g2
    refine W_go ?_
    refine W_c1 [(0, (0, 0)), (1, (1, 0)), (2, (2, 0)), (3, (3, 0))] hv ?_
    refine W_ift ?_
    refine W_go ?_
    refine W_rt [] [] ?_
    exact ⟨rfl, rfl⟩
  rw [g1] at hv
  by_cases g2 : opOk k a b s.h.T.length
  case neg =>
    rw [no (fun q => g2 q.1.2)]
    rw [decide_eq_false g2] at hO
    clear no g1 g2
    refine W_go ?_
    refine W_c2 [(0, (0, 0)), (1, (1, 0)), (2, (2, 0)), (3, (3, 0))] hv [] hO ?_
    refine W_ift ?_
    refine W_go ?_
    refine W_rt [] [] ?_
    exact ⟨rfl, rfl⟩
  have gr : s.runOk k a b := ⟨(Sto.ok_iff s).1 g1, g2⟩
  rw [decide_eq_true g2] at hO
  obtain ⟨⟨_, a1, a2, a3, b1, b2⟩, hb⟩ := g2
  by_cases k5 : k = 5
  · have hb2 : b < s.h.T.length := by rw [if_neg (by omega)] at hb; exact hb
    have yes : s.h.T.getD a.toNat 0 ≠ -1 → s.tgt k a b = s.h.T.getD b.toNat 0 := fun q => by unfold Sto.tgt; rw [if_pos ⟨gr, .inl k5, q⟩]
    have non : ¬ s.h.T.getD a.toNat 0 ≠ -1 → s.tgt k a b = -1 := fun q => by unfold Sto.tgt; rw [if_neg (fun w => q w.2.2)]
    generalize s.tgt k a b = x at *
    subst k5
    replace yes : Hold _ := ⟨yes⟩
    replace non : Hold _ := ⟨non⟩
    clear no gr hb g1
    refine W_go ?_
    refine W_ch2 [(0, (0, 0)), (1, (1, 0)), (2, (2, 0)), (3, (3, 0))] hv [] hO ?_
    refine W_if (fun q => ?_) (fun q => ?_)
    · rw [non.told (fun w => w q)]
      refine W_go ?_
      refine W_rt [] [] ?_
      exact ⟨rfl, rfl⟩
    · rw [yes.told q]
      refine W_go ?_
      refine W_rt [] [] ?_
      exact ⟨rfl, rfl⟩
  by_cases k6 : k = 6
  · have hb2 : b < s.h.T.length := by rw [if_neg (by omega)] at hb; exact hb
    have yes : s.h.T.getD a.toNat 0 ≠ -1 → s.tgt k a b = s.h.T.getD b.toNat 0 := fun q => by unfold Sto.tgt; rw [if_pos ⟨gr, .inr k6, q⟩]
    have non : ¬ s.h.T.getD a.toNat 0 ≠ -1 → s.tgt k a b = -1 := fun q => by unfold Sto.tgt; rw [if_neg (fun w => q w.2.2)]
    generalize s.tgt k a b = x at *
    subst k6
    replace yes : Hold _ := ⟨yes⟩
    replace non : Hold _ := ⟨non⟩
    clear no gr hb g1
    refine W_go ?_
    refine W_ch2 [(0, (0, 0)), (1, (1, 0)), (2, (2, 0)), (3, (3, 0))] hv [] hO ?_
    refine W_if (fun q => ?_) (fun q => ?_)
    · rw [non.told (fun w => w q)]
      refine W_go ?_
      refine W_rt [] [] ?_
      exact ⟨rfl, rfl⟩
    · rw [yes.told q]
      refine W_go ?_
      refine W_rt [] [] ?_
      exact ⟨rfl, rfl⟩
  rw [no (fun q => by omega)]
  clear no gr hb g1
  refine W_go ?_
  refine W_ch2 [(0, (0, 0)), (1, (1, 0)), (2, (2, 0)), (3, (3, 0))] hv [] hO ?_
  refine W_ift ?_
  refine W_go ?_
  refine W_rt [] [] ?_
  exact ⟨rfl, rfl⟩
theorem iTargetOf_c (s : Sto) (k a b : Int) (hl : (s.h.L.length ≤ 4194304 ∧ s.h.R.length ≤ 4194304 ∧ s.h.T.length ≤ 4194304) ∧ s.F.length ≤ 4194304) : Fn Tryz.prog 68 [(0, .c false (.ints s.h.L)), (1, .c false (.ints s.h.R)), (2, .c false (.ints s.h.T)), (3, .c false (.ints s.F))] [.agg [.sl 0 0 s.h.L.length, .sl 1 0 s.h.R.length, .sl 2 0 s.h.T.length, .sl 3 0 s.F.length], .agg [.int .i64 k, .int .i64 a, .int .i64 b]] (fun r H => r = .int .i64 (s.tgt k a b) ∧ H = []) := by
  have hv := iStoreValid_c s hl
  have hO := iOpValid_c k a b s.h.T.length (by omega)
  have no : ¬ (s.runOk k a b ∧ (k = 5 ∨ k = 6)) → s.tgt k a b = -1 := fun q => by unfold Sto.tgt; rw [if_neg (fun w => q ⟨w.1, w.2.1⟩)]
  refine Fn_go Tryz.func68 ?_
  by_cases g1 : s.valid = true
  case neg =>
    rw [no (fun q => g1 ((Sto.ok_iff s).2 q.1.1))]
    have g2 : s.valid = false := by simpa using g1
    rw [g2] at hv
    clear no g1 g2
    refine W_go ?_
    refine W_c1 [(0, (0, 0)), (1, (1, 0)), (2, (2, 0)), (3, (3, 0))] hv ?_
    refine W_ift ?_
    refine W_go ?_
    refine W_rt [] [] ?_
    exact ⟨rfl, rfl⟩
  rw [g1] at hv
  by_cases g2 : opOk k a b s.h.T.length
  case neg =>
    rw [no (fun q => g2 q.1.2)]
    rw [decide_eq_false g2] at hO
    clear no g1 g2
    refine W_go ?_
    refine W_c2 [(0, (0, 0)), (1, (1, 0)), (2, (2, 0)), (3, (3, 0))] hv [] hO ?_
    refine W_ift ?_
    refine W_go ?_
    refine W_rt [] [] ?_
    exact ⟨rfl, rfl⟩
  have gr : s.runOk k a b := ⟨(Sto.ok_iff s).1 g1, g2⟩
  rw [decide_eq_true g2] at hO
  obtain ⟨⟨_, a1, a2, a3, b1, b2⟩, hb⟩ := g2
  by_cases k5 : k = 5
  · have hb2 : b < s.h.T.length := by rw [if_neg (by omega)] at hb; exact hb
    have yes : s.h.T.getD a.toNat 0 ≠ -1 → s.tgt k a b = s.h.T.getD b.toNat 0 := fun q => by unfold Sto.tgt; rw [if_pos ⟨gr, .inl k5, q⟩]
    have non : ¬ s.h.T.getD a.toNat 0 ≠ -1 → s.tgt k a b = -1 := fun q => by unfold Sto.tgt; rw [if_neg (fun w => q w.2.2)]
    generalize s.tgt k a b = x at *
    subst k5
    replace yes : Hold _ := ⟨yes⟩
    replace non : Hold _ := ⟨non⟩
    clear no gr hb g1
    refine W_go ?_
    refine W_ch2 [(0, (0, 0)), (1, (1, 0)), (2, (2, 0)), (3, (3, 0))] hv [] hO ?_
    refine W_if (fun q => ?_) (fun q => ?_)
    · rw [non.told (fun w => w q)]
      refine W_go ?_
      refine W_rt [] [] ?_
      exact ⟨rfl, rfl⟩
    · rw [yes.told q]
      refine W_go ?_
      refine W_rt [] [] ?_
      exact ⟨rfl, rfl⟩
  by_cases k6 : k = 6
  · have hb2 : b < s.h.T.length := by rw [if_neg (by omega)] at hb; exact hb
    have yes : s.h.T.getD a.toNat 0 ≠ -1 → s.tgt k a b = s.h.T.getD b.toNat 0 := fun q => by unfold Sto.tgt; rw [if_pos ⟨gr, .inr k6, q⟩]
    have non : ¬ s.h.T.getD a.toNat 0 ≠ -1 → s.tgt k a b = -1 := fun q => by unfold Sto.tgt; rw [if_neg (fun w => q w.2.2)]
    generalize s.tgt k a b = x at *
    subst k6
    replace yes : Hold _ := ⟨yes⟩
    replace non : Hold _ := ⟨non⟩
    clear no gr hb g1
    refine W_go ?_
    refine W_ch2 [(0, (0, 0)), (1, (1, 0)), (2, (2, 0)), (3, (3, 0))] hv [] hO ?_
    refine W_if (fun q => ?_) (fun q => ?_)
    · rw [non.told (fun w => w q)]
      refine W_go ?_
      refine W_rt [] [] ?_
      exact ⟨rfl, rfl⟩
    · rw [yes.told q]
      refine W_go ?_
      refine W_rt [] [] ?_
      exact ⟨rfl, rfl⟩
  rw [no (fun q => by omega)]
  clear no gr hb g1
  refine W_go ?_
  refine W_ch2 [(0, (0, 0)), (1, (1, 0)), (2, (2, 0)), (3, (3, 0))] hv [] hO ?_
  refine W_ift ?_
  refine W_go ?_
  refine W_rt [] [] ?_
  exact ⟨rfl, rfl⟩
theorem sBothValid_c (b : Bth) (hl : (((b.s.h.L.length ≤ 4194304 ∧ b.s.h.R.length ≤ 4194304 ∧ b.s.h.T.length ≤ 4194304) ∧ b.s.F.length ≤ 4194304) ∧ b.g.C.length ≤ 4194304) ∧ b.o.length ≤ 4194304) : Fn Tryz.prog 54 [(0, .c false (.ints b.s.h.L)), (1, .c false (.ints b.s.h.R)), (2, .c false (.ints b.s.h.T)), (3, .c false (.ints b.s.F)), (4, .c false (.ints b.g.C)), (5, .c false (.ops b.o))] [.agg [.sl 0 0 b.s.h.L.length, .sl 1 0 b.s.h.R.length, .sl 2 0 b.s.h.T.length, .sl 3 0 b.s.F.length, .int .i64 b.g.p, .sl 4 0 b.g.C.length, .int .i64 b.g.a, .sl 5 0 b.o.length, .int .i64 b.a, .bool b.l]] (fun r H => r = .bool (decide b.ok) ∧ H = []) := by
  have hv := sGcValid_c b.s b.g hl.1.1 hl.1.2
  have hO := sl7Ops_c b.o b.s.h.T.length hl.2 (by omega)
  refine Fn_go Tryz.func54 ?_
  by_cases g1 : b.g.ok b.s
  case neg =>
    rw [decide_eq_false (show ¬ b.ok from fun q => g1 q.1)]
    rw [decide_eq_false g1] at hv
    clear g1
    refine W_go ?_
    refine W_c1 [(0, (0, 0)), (1, (1, 0)), (2, (2, 0)), (3, (3, 0)), (4, (4, 0))] hv ?_
    refine W_rt [] [] ?_
    exact ⟨rfl, rfl⟩
  rw [decide_eq_true g1] at hv
  by_cases g2 : opsV b.o b.s.h.T.length
  case neg =>
    rw [decide_eq_false (show ¬ b.ok from fun q => g2 q.2.1)]
    rw [decide_eq_false g2] at hO
    clear g1 g2
    refine W_go ?_
    refine W_c2 [(0, (0, 0)), (1, (1, 0)), (2, (2, 0)), (3, (3, 0)), (4, (4, 0))] hv [(0, (5, 0))] hO ?_
    refine W_rt [] [] ?_
    exact ⟨rfl, rfl⟩
  rw [decide_eq_true g2] at hO
  by_cases g3 : 0 ≤ b.a
  case neg =>
    rw [decide_eq_false (show ¬ b.ok from fun q => g3 q.2.2.1)]
    clear g1 g2
    refine W_go ?_
    refine W_ch2 [(0, (0, 0)), (1, (1, 0)), (2, (2, 0)), (3, (3, 0)), (4, (4, 0))] hv [(0, (5, 0))] hO ?_
    refine W_rt [] [] ?_
    exact ⟨rfl, rfl⟩
  have e : decide b.ok = decide (b.a ≤ b.o.length) := by
    rw [decide_eq_decide]; exact ⟨fun q => q.2.2.2, fun q => ⟨g1, g2, g3, q⟩⟩
  rw [e]
  clear g1 g2 e
  refine W_go ?_
  refine W_ch2 [(0, (0, 0)), (1, (1, 0)), (2, (2, 0)), (3, (3, 0)), (4, (4, 0))] hv [(0, (5, 0))] hO ?_
  refine W_rt [] [] ?_
  exact ⟨rfl, rfl⟩
theorem iBothValid_c (b : Bth) (hl : (((b.s.h.L.length ≤ 4194304 ∧ b.s.h.R.length ≤ 4194304 ∧ b.s.h.T.length ≤ 4194304) ∧ b.s.F.length ≤ 4194304) ∧ b.g.C.length ≤ 4194304) ∧ b.o.length ≤ 4194304) : Fn Tryz.prog 28 [(0, .c false (.ints b.s.h.L)), (1, .c false (.ints b.s.h.R)), (2, .c false (.ints b.s.h.T)), (3, .c false (.ints b.s.F)), (4, .c false (.ints b.g.C)), (5, .c false (.ops b.o))] [.agg [.sl 0 0 b.s.h.L.length, .sl 1 0 b.s.h.R.length, .sl 2 0 b.s.h.T.length, .sl 3 0 b.s.F.length, .int .i64 b.g.p, .sl 4 0 b.g.C.length, .int .i64 b.g.a, .sl 5 0 b.o.length, .int .i64 b.a, .bool b.l]] (fun r H => r = .bool (decide b.ok) ∧ H = []) := by
  have hv := iGcValid_c b.s b.g hl.1.1 hl.1.2
  have hO := iopsOk_c b.o b.s.h.T.length hl.2 (by omega)
  refine Fn_go Tryz.func28 ?_
  by_cases g1 : b.g.ok b.s
  case neg =>
    rw [decide_eq_false (show ¬ b.ok from fun q => g1 q.1)]
    rw [decide_eq_false g1] at hv
    clear g1
    refine W_go ?_
    refine W_c1 [(0, (0, 0)), (1, (1, 0)), (2, (2, 0)), (3, (3, 0)), (4, (4, 0))] hv ?_
    refine W_rt [] [] ?_
    exact ⟨rfl, rfl⟩
  rw [decide_eq_true g1] at hv
  by_cases g2 : opsV b.o b.s.h.T.length
  case neg =>
    rw [decide_eq_false (show ¬ b.ok from fun q => g2 q.2.1)]
    rw [decide_eq_false g2] at hO
    clear g1 g2
    refine W_go ?_
    refine W_c2 [(0, (0, 0)), (1, (1, 0)), (2, (2, 0)), (3, (3, 0)), (4, (4, 0))] hv [(0, (5, 0))] hO ?_
    refine W_rt [] [] ?_
    exact ⟨rfl, rfl⟩
  rw [decide_eq_true g2] at hO
  by_cases g3 : 0 ≤ b.a
  case neg =>
    rw [decide_eq_false (show ¬ b.ok from fun q => g3 q.2.2.1)]
    clear g1 g2
    refine W_go ?_
    refine W_ch2 [(0, (0, 0)), (1, (1, 0)), (2, (2, 0)), (3, (3, 0)), (4, (4, 0))] hv [(0, (5, 0))] hO ?_
    refine W_rt [] [] ?_
    exact ⟨rfl, rfl⟩
  have e : decide b.ok = decide (b.a ≤ b.o.length) := by
    rw [decide_eq_decide]; exact ⟨fun q => q.2.2.2, fun q => ⟨g1, g2, g3, q⟩⟩
  rw [e]
  clear g1 g2 e
  refine W_go ?_
  refine W_ch2 [(0, (0, 0)), (1, (1, 0)), (2, (2, 0)), (3, (3, 0)), (4, (4, 0))] hv [(0, (5, 0))] hO ?_
  refine W_rt [] [] ?_
  exact ⟨rfl, rfl⟩
theorem sl7Copy_c (b : Bth) (hl : (((b.s.h.L.length ≤ 4194304 ∧ b.s.h.R.length ≤ 4194304 ∧ b.s.h.T.length ≤ 4194304) ∧ b.s.F.length ≤ 4194304) ∧ b.g.C.length ≤ 4194304) ∧ b.o.length ≤ 4194304) : Fn Tryz.prog 55 [(0, .c false (.ints b.s.h.L)), (1, .c false (.ints b.s.h.R)), (2, .c false (.ints b.s.h.T)), (3, .c false (.ints b.s.F)), (4, .c false (.ints b.g.C)), (5, .c false (.ops b.o))] [.agg [.sl 0 0 b.s.h.L.length, .sl 1 0 b.s.h.R.length, .sl 2 0 b.s.h.T.length, .sl 3 0 b.s.F.length, .int .i64 b.g.p, .sl 4 0 b.g.C.length, .int .i64 b.g.a, .sl 5 0 b.o.length, .int .i64 b.a, .bool b.l]] (fun r H => r = .agg [.sl 100 0 b.s.h.L.length, .sl 101 0 b.s.h.R.length, .sl 102 0 b.s.h.T.length, .sl 103 0 b.s.F.length, .int .i64 b.g.p, .sl 104 0 b.g.C.length, .int .i64 b.g.a, .sl 105 0 b.o.length, .int .i64 b.a, .bool b.l] ∧ H = [(100, .c true (.ints b.s.h.L)), (101, .c true (.ints b.s.h.R)), (102, .c true (.ints b.s.h.T)), (103, .c true (.ints b.s.F)), (104, .c true (.ints b.g.C)), (105, .c true (.ops b.o))]) := by
  refine Fn_go Tryz.func55 ?_
  refine W_go ?_
  refine W_dc2 [(0, (0, 0)), (1, (1, 0)), (2, (2, 0)), (3, (3, 0))] (sl4Copy_c b.s hl.1.1) [(0, (4, 0))] (sl6Copy_c b.g hl.1.2) [.c _ _ _, .c _ _ _] ?_
  refine W_rt [(2064, (100, 0)), (2065, (101, 0)), (2066, (102, 0)), (2067, (103, 0)), (2088, (104, 0)), (2120, (105, 0))] [] ?_
  exact ⟨rfl, rfl⟩
theorem ianew_c (b : Bth) (hl : (((b.s.h.L.length ≤ 4194304 ∧ b.s.h.R.length ≤ 4194304 ∧ b.s.h.T.length ≤ 4194304) ∧ b.s.F.length ≤ 4194304) ∧ b.g.C.length ≤ 4194304) ∧ b.o.length ≤ 4194304) : Fn Tryz.prog 29 [(0, .c false (.ints b.s.h.L)), (1, .c false (.ints b.s.h.R)), (2, .c false (.ints b.s.h.T)), (3, .c false (.ints b.s.F)), (4, .c false (.ints b.g.C)), (5, .c false (.ops b.o))] [.agg [.sl 0 0 b.s.h.L.length, .sl 1 0 b.s.h.R.length, .sl 2 0 b.s.h.T.length, .sl 3 0 b.s.F.length, .int .i64 b.g.p, .sl 4 0 b.g.C.length, .int .i64 b.g.a, .sl 5 0 b.o.length, .int .i64 b.a, .bool b.l]] (fun r H => r = .agg [.sl 100 0 b.s.h.L.length, .sl 101 0 b.s.h.R.length, .sl 102 0 b.s.h.T.length, .sl 103 0 b.s.F.length, .int .i64 b.g.p, .sl 104 0 b.g.C.length, .int .i64 b.g.a, .sl 105 0 b.o.length, .int .i64 b.a, .bool b.l] ∧ H = [(100, .c true (.ints b.s.h.L)), (101, .c true (.ints b.s.h.R)), (102, .c true (.ints b.s.h.T)), (103, .c true (.ints b.s.F)), (104, .c true (.ints b.g.C)), (105, .c true (.ops b.o))]) := by
  refine Fn_go Tryz.func29 ?_
  refine W_go ?_
  refine W_c1 [(0, (0, 0)), (1, (1, 0)), (2, (2, 0)), (3, (3, 0))] (iagain_c b.s hl.1.1) ?_
  refine W_go ?_
  refine W_c1 [(0, (4, 0))] (zClone_c b.g.C (by omega)) ?_
  refine W_go ?_
  refine W_c1 [(0, (5, 0))] (zCloneO_c b.o hl.2) ?_
  refine W_go ?_
  refine W_rt [(2064, (100, 0)), (2065, (101, 0)), (2066, (102, 0)), (2067, (103, 0)), (3096, (104, 0)), (4112, (105, 0))] [] ?_
  exact ⟨rfl, rfl⟩
end Go.Proofs.YtbobhbhgomkgpaaGreatDoor.S
