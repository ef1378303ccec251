/- Contracts: collectors, their colors. Own work of this claim. -/
import Derived.Test.YtnepiffboakehaaGreatDoorGe
import Derived.Test.YtnepiffboakehaaGreatDoorGf
import Derived.Test.YtnepiffboakehaaGreatDoorFc
import Derived.Test.YtnepiffboakehaaGreatDoorA5
namespace Go.Proofs.YtnepiffboakehaaGreatDoor.S
set_option linter.all false
open Go Go.Proofs
set_option maxHeartbeats 4000000
set_option maxRecDepth 100000

def Gcc.fresh (s : Sto) : Gcc := if s.valid then ⟨0, List.replicate s.h.L.length 0, 0⟩ else .zero
theorem icolorsOk_c (C : List Int) (n : Nat) (hC : C.length ≤ 4194304) (hn : n ≤ 4194304) : Fn Tryz.prog 89 [(0, .c false (.ints C))] [.sl 0 0 C.length, .int .i64 n] (fun r H => r = .bool (decide (colOk C n)) ∧ H = []) := by
  refine Fn_go Tryz.func89 ?_
  refine W_go ?_
  refine W_lp (T := 10) (σ := Nat) (me := fun i => [(9, .int .i64 i)]) (mh := fun _ => []) (inv := fun i => i ≤ C.length ∧ Hold (∀ j, j < i → 0 ≤ C.getD j 0 ∧ C.getD j 0 ≤ 2)) (m := fun i => C.length - i) (s0 := 0) ⟨by omega, ⟨by intro j hj; omega⟩⟩ ?_
  rintro i ⟨hi, hI⟩
  refine W_go ?_
  refine W_if (fun h2 => ?_) (fun h2 => ?_)
  case' refine_2 =>
    have e : decide (colOk C n) = decide ((C.length : Int) = n) := by
      rw [decide_eq_decide]
      refine ⟨fun q => by have := q.1; omega, fun q => ⟨by omega, fun j hj => hI.told j (by omega)⟩⟩
    rw [e]
    refine W_go ?_
    refine W_rt [] [] ?_
    exact ⟨rfl, rfl⟩
  by_cases c1 : C.getD i 0 < 0
  · refine W_go ?_
    refine W_gh ?_
    refine W_ift ?_
    refine W_go ?_
    refine W_rt [] [] ?_
    exact ⟨by rw [decide_eq_false]; intro q; have := q.2 i (by omega); omega, rfl⟩
  by_cases c2 : 2 < C.getD i 0
  · refine W_go ?_
    refine W_gh ?_
    refine W_ift ?_
    refine W_go ?_
    refine W_rt [] [] ?_
    exact ⟨by rw [decide_eq_false]; intro q; have := q.2 i (by omega); omega, rfl⟩
  refine W_go ?_
  refine W_gh ?_
  refine W_iff ?_
  refine W_go ?_
  refine W_bk (i + 1) ⟨by omega, ⟨fun j hj => ?_⟩⟩ (by omega)
  by_cases e : j = i
  · subst e; omega
  · exact hI.told j (by omega)
theorem sColoredValid_c (h : Hp) (C : List Int) (hl : h.L.length ≤ 4194304 ∧ h.R.length ≤ 4194304 ∧ h.T.length ≤ 4194304) (hC : C.length ≤ 4194304) : Fn Tryz.prog 123 [(0, .c false (.ints h.L)), (1, .c false (.ints h.R)), (2, .c false (.ints h.T)), (3, .c false (.ints C))] [.agg [.sl 0 0 h.L.length, .sl 1 0 h.R.length, .sl 2 0 h.T.length, .sl 3 0 C.length]] (fun r H => r = .bool (decide (h.ok ∧ colOk C h.L.length)) ∧ H = []) := by
  have hv := sHeapValid_c h hl
  refine Fn_go Tryz.func123 ?_
  refine W_go ?_
  by_cases g1 : h.ok
  case neg =>
    rw [show h.valid = false by rw [Hp.valid, decide_eq_false g1]] at hv
    refine W_c1 [(0, (0, 0)), (1, (1, 0)), (2, (2, 0))] hv ?_
    refine W_ift ?_
    refine W_go ?_
    refine W_rt [] [] ?_
    exact ⟨by rw [decide_eq_false (fun q => g1 q.1)], rfl⟩
  rw [(Hp.ok_iff h).2 g1] at hv
  refine W_c1 [(0, (0, 0)), (1, (1, 0)), (2, (2, 0))] hv ?_
  refine W_if (fun g2 => ?_) (fun g2 => ?_)
  · refine W_go ?_
    refine W_rt [] [] ?_
    exact ⟨by rw [decide_eq_false]; intro q; exact g2 (by rw [q.2.1]), rfl⟩
  have g2 : (C.length : Int) = h.L.length := Decidable.of_not_not g2
  have g3 : C.length = h.L.length := by omega
  clear g2
  replace g3 : Hold _ := ⟨g3⟩
  replace g1 : Hold _ := ⟨g1⟩
  refine W_go ?_
  refine W_lp (T := 4) (σ := Nat) (me := fun i => [(3, .int .i64 i)]) (mh := fun _ => []) (inv := fun i => i ≤ C.length ∧ Hold (∀ j, j < i → 0 ≤ C.getD j 0 ∧ C.getD j 0 ≤ 2)) (m := fun i => C.length - i) (s0 := 0) ⟨by omega, ⟨by intro j hj; omega⟩⟩ ?_
  rintro i ⟨hi, hI⟩
  refine W_go ?_
  refine W_if (fun h2 => ?_) (fun h2 => ?_)
  case' refine_2 =>
    refine W_go ?_
    refine W_rt [] [] ?_
    exact ⟨by rw [decide_eq_true]; exact ⟨g1.told, g3.told, fun j hj => hI.told j (by omega)⟩, rfl⟩
  by_cases c1 : C.getD i 0 < 0
  · refine W_go ?_
    refine W_gh ?_
    refine W_ift ?_
    refine W_go ?_
    refine W_rt [] [] ?_
    exact ⟨by rw [decide_eq_false]; intro q; have := q.2.2 i (by omega); omega, rfl⟩
  by_cases c2 : 2 < C.getD i 0
  · refine W_go ?_
    refine W_gh ?_
    refine W_ift ?_
    refine W_go ?_
    refine W_rt [] [] ?_
    exact ⟨by rw [decide_eq_false]; intro q; have := q.2.2 i (by omega); omega, rfl⟩
  refine W_go ?_
  refine W_gh ?_
  refine W_iff ?_
  refine W_go ?_
  refine W_bk (i + 1) ⟨by omega, ⟨fun j hj => ?_⟩⟩ (by omega)
  by_cases e : j = i
  · subst e; omega
  · exact hI.told j (by omega)
theorem iGcValid_c (s : Sto) (g : Gcc) (hl : (s.h.L.length ≤ 4194304 ∧ s.h.R.length ≤ 4194304 ∧ s.h.T.length ≤ 4194304) ∧ s.F.length ≤ 4194304) (hC : g.C.length ≤ 4194304) : Fn Tryz.prog 40 [(0, .c false (.ints s.h.L)), (1, .c false (.ints s.h.R)), (2, .c false (.ints s.h.T)), (3, .c false (.ints s.F)), (4, .c false (.ints g.C))] [.agg [.sl 0 0 s.h.L.length, .sl 1 0 s.h.R.length, .sl 2 0 s.h.T.length, .sl 3 0 s.F.length], .agg [.int .i64 g.p, .sl 4 0 g.C.length, .int .i64 g.a]] (fun r H => r = .bool (decide (g.ok s)) ∧ H = []) := by
  have hv := iStoreValid_c s hl
  have hc := icolorsOk_c g.C s.h.L.length hC (by omega)
  refine Fn_go Tryz.func40 ?_
  refine W_go ?_
  by_cases g1 : s.ok
  case neg =>
    rw [show s.valid = false by rw [Sto.valid, decide_eq_false g1]] at hv
    refine W_c1 [(0, (0, 0)), (1, (1, 0)), (2, (2, 0)), (3, (3, 0))] hv ?_
    refine W_ift ?_
    refine W_go ?_
    refine W_rt [] [] ?_
    exact ⟨by rw [decide_eq_false (fun q => g1 q.1)], rfl⟩
  rw [(Sto.ok_iff s).2 g1] at hv
  by_cases g2 : colOk g.C s.h.L.length
  case neg =>
    rw [decide_eq_false g2] at hc
    refine W_c2 [(0, (0, 0)), (1, (1, 0)), (2, (2, 0)), (3, (3, 0))] hv [(0, (4, 0))] hc ?_
    refine W_ift ?_
    refine W_go ?_
    refine W_rt [] [] ?_
    exact ⟨by rw [decide_eq_false (fun q => g2 q.2.1)], rfl⟩
  rw [decide_eq_true g2] at hc
  replace g1 : Hold _ := ⟨g1⟩
  replace g2 : Hold _ := ⟨g2⟩
  by_cases g3 : g.a < 0
  · refine W_ch2 [(0, (0, 0)), (1, (1, 0)), (2, (2, 0)), (3, (3, 0))] hv [(0, (4, 0))] hc ?_
    refine W_ift ?_
    refine W_go ?_
    refine W_rt [] [] ?_
    exact ⟨by rw [decide_eq_false]; rintro ⟨_, _, q, _⟩; omega, rfl⟩
  refine W_ch2 [(0, (0, 0)), (1, (1, 0)), (2, (2, 0)), (3, (3, 0))] hv [(0, (4, 0))] hc ?_
  refine W_iff ?_
  have key : g.ok s ↔ g.atOk s := ⟨fun q => q.2.2, fun q => ⟨g1.told, g2.told, q⟩⟩
  replace key : Hold _ := ⟨key⟩
  unfold Gcc.atOk at key
  have fin : ∀ b : Bool, (b = true ↔ g.ok s) → b = decide (g.ok s) := by
    intro b q
    by_cases z : g.ok s
    · rw [decide_eq_true z]; exact q.2 z
    · rw [decide_eq_false z]; cases b
      · rfl
      · exact absurd (q.1 rfl) z
  replace fin : Hold _ := ⟨fin⟩
  refine W_go ?_
  refine W_if (fun p0 => ?_) (fun p0 => ?_)
  · refine W_go ?_
    refine W_if (fun _ => ?_) (fun z => ?_)
    case' refine_2 => exact absurd p0 z
    refine W_go ?_
    refine W_rt [] [] ?_
    exact ⟨by congr 1; apply fin.told; rw [key.told, decide_eq_true_eq]; omega, rfl⟩
  refine W_go ?_
  refine W_if (fun p2 => ?_) (fun p2 => ?_)
  · refine W_go ?_
    refine W_rt [] [] ?_
    exact ⟨by congr 1; apply fin.told; rw [key.told, decide_eq_true_eq]; omega, rfl⟩
  refine W_go ?_
  refine W_if (fun p1 => ?_) (fun p1 => ?_)
  · refine W_go ?_
    refine W_rt [] [] ?_
    exact ⟨by congr 1; apply fin.told; rw [key.told, decide_eq_true_eq]; omega, rfl⟩
  refine W_go ?_
  refine W_if (fun p3 => ?_) (fun p3 => ?_)
  · refine W_go ?_
    refine W_rt [] [] ?_
    exact ⟨by congr 1; apply fin.told; rw [key.told, decide_eq_true_eq]; omega, rfl⟩
  refine W_go ?_
  refine W_rt [] [] ?_
  exact ⟨by congr 1; apply fin.told; rw [key.told]; simp only [Bool.false_eq_true, false_iff]; omega, rfl⟩
theorem sGcValid_c (s : Sto) (g : Gcc) (hl : (s.h.L.length ≤ 4194304 ∧ s.h.R.length ≤ 4194304 ∧ s.h.T.length ≤ 4194304) ∧ s.F.length ≤ 4194304) (hC : g.C.length ≤ 4194304) : Fn Tryz.prog 78 [(0, .c false (.ints s.h.L)), (1, .c false (.ints s.h.R)), (2, .c false (.ints s.h.T)), (3, .c false (.ints s.F)), (4, .c false (.ints g.C))] [.agg [.sl 0 0 s.h.L.length, .sl 1 0 s.h.R.length, .sl 2 0 s.h.T.length, .sl 3 0 s.F.length], .agg [.int .i64 g.p, .sl 4 0 g.C.length, .int .i64 g.a]] (fun r H => r = .bool (decide (g.ok s)) ∧ H = []) := by
  have hv := sStoreValid_c s hl
  have hc := sColoredValid_c s.h g.C (by omega) hC
  refine Fn_go Tryz.func78 ?_
  refine W_go ?_
  by_cases g1 : s.ok
  case neg =>
    rw [show s.valid = false by rw [Sto.valid, decide_eq_false g1]] at hv
    refine W_c1 [(0, (0, 0)), (1, (1, 0)), (2, (2, 0)), (3, (3, 0))] hv ?_
    refine W_ift ?_
    refine W_go ?_
    refine W_rt [] [] ?_
    exact ⟨by rw [decide_eq_false (fun q => g1 q.1)], rfl⟩
  rw [(Sto.ok_iff s).2 g1] at hv
  by_cases g2 : colOk g.C s.h.L.length
  case neg =>
    rw [decide_eq_false (fun q => g2 q.2)] at hc
    refine W_c2 [(0, (0, 0)), (1, (1, 0)), (2, (2, 0)), (3, (3, 0))] hv [(0, (0, 0)), (1, (1, 0)), (2, (2, 0)), (3, (4, 0))] hc ?_
    refine W_ift ?_
    refine W_go ?_
    refine W_rt [] [] ?_
    exact ⟨by rw [decide_eq_false (fun q => g2 q.2.1)], rfl⟩
  rw [decide_eq_true (show s.h.ok ∧ colOk g.C s.h.L.length from ⟨g1.1, g2⟩)] at hc
  replace g1 : Hold _ := ⟨g1⟩
  replace g2 : Hold _ := ⟨g2⟩
  by_cases g3 : g.a < 0
  · refine W_ch2 [(0, (0, 0)), (1, (1, 0)), (2, (2, 0)), (3, (3, 0))] hv [(0, (0, 0)), (1, (1, 0)), (2, (2, 0)), (3, (4, 0))] hc ?_
    refine W_ift ?_
    refine W_go ?_
    refine W_rt [] [] ?_
    exact ⟨by rw [decide_eq_false]; rintro ⟨_, _, q, _⟩; omega, rfl⟩
  refine W_ch2 [(0, (0, 0)), (1, (1, 0)), (2, (2, 0)), (3, (3, 0))] hv [(0, (0, 0)), (1, (1, 0)), (2, (2, 0)), (3, (4, 0))] hc ?_
  refine W_iff ?_
  have key : g.ok s ↔ g.atOk s := ⟨fun q => q.2.2, fun q => ⟨g1.told, g2.told, q⟩⟩
  replace key : Hold _ := ⟨key⟩
  unfold Gcc.atOk at key
  have fin : ∀ b : Bool, (b = true ↔ g.ok s) → b = decide (g.ok s) := by
    intro b q
    by_cases z : g.ok s
    · rw [decide_eq_true z]; exact q.2 z
    · rw [decide_eq_false z]; cases b
      · rfl
      · exact absurd (q.1 rfl) z
  replace fin : Hold _ := ⟨fin⟩
  refine W_go ?_
  refine W_if (fun p0 => ?_) (fun p0 => ?_)
  · refine W_go ?_
    refine W_if (fun _ => ?_) (fun z => ?_)
    case' refine_2 => exact absurd p0 z
    refine W_go ?_
    refine W_rt [] [] ?_
    exact ⟨by congr 1; apply fin.told; rw [key.told, decide_eq_true_eq]; omega, rfl⟩
  refine W_go ?_
  refine W_if (fun p2 => ?_) (fun p2 => ?_)
  · refine W_go ?_
    refine W_rt [] [] ?_
    exact ⟨by congr 1; apply fin.told; rw [key.told, decide_eq_true_eq]; omega, rfl⟩
  refine W_go ?_
  refine W_if (fun p1 => ?_) (fun p1 => ?_)
  · refine W_go ?_
    refine W_rt [] [] ?_
    exact ⟨by congr 1; apply fin.told; rw [key.told, decide_eq_true_eq]; omega, rfl⟩
  refine W_go ?_
  refine W_if (fun p3 => ?_) (fun p3 => ?_)
  · refine W_go ?_
    refine W_rt [] [] ?_
    exact ⟨by congr 1; apply fin.told; rw [key.told, decide_eq_true_eq]; omega, rfl⟩
  refine W_go ?_
  refine W_rt [] [] ?_
  exact ⟨by congr 1; apply fin.told; rw [key.told]; simp only [Bool.false_eq_true, false_iff]; omega, rfl⟩
theorem iGcSame_c (x y : Gcc) (hx : x.C.length ≤ 4194304) (hy : y.C.length ≤ 4194304) : Fn Tryz.prog 38 [(0, .c false (.ints x.C)), (1, .c false (.ints y.C))] [.agg [.int .i64 x.p, .sl 0 0 x.C.length, .int .i64 x.a], .agg [.int .i64 y.p, .sl 1 0 y.C.length, .int .i64 y.a]] (fun r H => r = .bool (x.same y) ∧ H = []) := by
  have hE := ziEq_c x.C y.C (by omega) (by omega)
  refine Fn_go Tryz.func38 ?_
  refine W_go ?_
  by_cases e1 : x.p = y.p
  case neg =>
    refine W_gh ?_
    refine W_go ?_
    refine W_rt [] [] ?_
    exact ⟨by simp [Gcc.same, e1], rfl⟩
  by_cases e2 : x.a = y.a
  case neg =>
    refine W_gh ?_
    refine W_go ?_
    refine W_rt [] [] ?_
    exact ⟨by simp [Gcc.same, e1, e2], rfl⟩
  have es : x.same y = decide (x.C = y.C) := by simp [Gcc.same, e1, e2]
  rw [es]
  clear es
  refine W_ch1 [(0, (0, 0)), (1, (1, 0))] hE ?_
  refine W_go ?_
  refine W_rt [] [] ?_
  exact ⟨rfl, rfl⟩
theorem sl6Copy_c (g : Gcc) (hC : g.C.length ≤ 4194304) : Fn Tryz.prog 81 [(0, .c false (.ints g.C))] [.agg [.int .i64 g.p, .sl 0 0 g.C.length, .int .i64 g.a]] (fun r H => r = .agg [.int .i64 g.p, .sl 100 0 g.C.length, .int .i64 g.a] ∧ H = [(100, .c true (.ints g.C))]) := by
  refine Fn_go Tryz.func81 ?_
  refine W_go ?_
  refine W_rt [(2088, (100, 0))] [] ?_
  exact ⟨rfl, rfl⟩
theorem sl3Shade_c (C : List Int) (c : Int) (hc : c = -1 ∨ 0 ≤ c ∧ c < C.length) (hC : C.length ≤ 4194304) : Fn Tryz.prog 127 [(0, .c true (.ints C))] [.sl 0 0 C.length, .int .i64 c] (fun r H => r = .sl 0 0 C.length ∧ H = [(0, .c true (.ints (shd C c)))]) := by
  refine Fn_go Tryz.func127 ?_
  by_cases c1 : c = -1
  · have e : shd C c = C := by rw [shd, if_neg (fun q => q.1 c1)]
    rw [e]
    clear e
    subst c1
    refine W_go ?_
    refine W_gh ?_
    refine W_iff ?_
    refine W_go ?_
    refine W_rt [(0, (0, 0))] [] ?_
    exact ⟨rfl, rfl⟩
  have hc' : 0 ≤ c ∧ c < C.length := by omega
  clear hc
  by_cases c2 : C.getD c.toNat 0 = 0
  · have e : shd C c = C.set c.toNat 1 := by rw [shd, if_pos ⟨c1, c2⟩]
    rw [e]
    clear e
    replace c2 := eq_true c2
    refine W_go ?_
    refine W_gh ?_
    refine W_ift ?_
    refine W_go ?_
    refine W_rt [(0, (0, 0))] [] ?_
    simp
  have e : shd C c = C := by rw [shd, if_neg (fun q => c2 q.2)]
  rw [e]
  clear e
  refine W_go ?_
  refine W_gh ?_
  refine W_iff ?_
  refine W_go ?_
  refine W_rt [(0, (0, 0))] [] ?_
  exact ⟨rfl, rfl⟩
theorem sl1Cell_c (h : Hp) (c : Int) (hl : h.L.length ≤ 4194304 ∧ h.R.length ≤ 4194304 ∧ h.T.length ≤ 4194304) : Fn Tryz.prog 133 [(0, .c false (.ints h.L)), (1, .c false (.ints h.R)), (2, .c false (.ints h.T))] [.agg [.sl 0 0 h.L.length, .sl 1 0 h.R.length, .sl 2 0 h.T.length], .int .i64 c] (fun r H => r = .bool (decide (h.ok ∧ 0 ≤ c ∧ c < h.L.length)) ∧ H = []) := by
  have hv := sHeapValid_c h hl
  refine Fn_go Tryz.func133 ?_
  by_cases g1 : h.ok
  case neg =>
    rw [show h.valid = false by rw [Hp.valid, decide_eq_false g1]] at hv
    refine W_go ?_
    refine W_c1 [(0, (0, 0)), (1, (1, 0)), (2, (2, 0))] hv ?_
    refine W_go ?_
    refine W_rt [] [] ?_
    exact ⟨by rw [decide_eq_false (fun q => g1 q.1)], rfl⟩
  rw [(Hp.ok_iff h).2 g1] at hv
  by_cases g2 : 0 ≤ c
  case neg =>
    refine W_go ?_
    refine W_ch1 [(0, (0, 0)), (1, (1, 0)), (2, (2, 0))] hv ?_
    refine W_go ?_
    refine W_rt [] [] ?_
    exact ⟨by rw [decide_eq_false (fun q => g2 q.2.1)], rfl⟩
  have es : decide (h.ok ∧ 0 ≤ c ∧ c < h.L.length) = decide (c < h.L.length) := by rw [decide_eq_decide]; exact ⟨fun q => q.2.2, fun q => ⟨g1, g2, q⟩⟩
  rw [es]
  clear es g1
  refine W_go ?_
  refine W_ch1 [(0, (0, 0)), (1, (1, 0)), (2, (2, 0))] hv ?_
  refine W_go ?_
  refine W_rt [] [] ?_
  exact ⟨rfl, rfl⟩
theorem sNewGc_c (s : Sto) (hl : (s.h.L.length ≤ 4194304 ∧ s.h.R.length ≤ 4194304 ∧ s.h.T.length ≤ 4194304) ∧ s.F.length ≤ 4194304) : Fn Tryz.prog 115 [(0, .c false (.ints s.h.L)), (1, .c false (.ints s.h.R)), (2, .c false (.ints s.h.T)), (3, .c false (.ints s.F))] [.agg [.sl 0 0 s.h.L.length, .sl 1 0 s.h.R.length, .sl 2 0 s.h.T.length, .sl 3 0 s.F.length]] (fun r H => r = .tup [.agg [.int .i64 (Gcc.fresh s).p, .sl 100 0 (Gcc.fresh s).C.length, .int .i64 (Gcc.fresh s).a], .bool s.valid] ∧ H = [(100, .c true (.ints (Gcc.fresh s).C))]) := by
  have hv := sStoreValid_c s hl
  refine Fn_go Tryz.func115 ?_
  refine W_go ?_
  unfold Gcc.fresh
  by_cases g1 : s.valid = true
  case neg =>
    have g1 : s.valid = false := by simpa using g1
    rw [g1] at hv ⊢
    refine W_c1 [(0, (0, 0)), (1, (1, 0)), (2, (2, 0)), (3, (3, 0))] hv ?_
    refine W_ift ?_
    refine W_go ?_
    refine W_rt [] [(100, .ints [])] ?_
    exact ⟨rfl, rfl⟩
  rw [g1] at hv ⊢
  refine W_c1 [(0, (0, 0)), (1, (1, 0)), (2, (2, 0)), (3, (3, 0))] hv ?_
  refine W_iff ?_
  refine W_go ?_
  refine W_rt [(4128, (100, 0))] [] ?_
  simp
end Go.Proofs.YtnepiffboakehaaGreatDoor.S
