/- Contracts: colors that hold. Own work of this claim. -/
import Derived.Test.YtbcnkfkmonpdeaaGh
namespace Go.Proofs.Ytbcnkfkmonpdeaa.S
set_option linter.all false
open Go Go.Proofs
set_option maxHeartbeats 4000000
set_option maxRecDepth 100000

open Classical in
theorem chT {h : Hp} {C : List Int} (q : colHolds h C) : colHoldsB h C = true := by unfold colHoldsB; exact decide_eq_true q
open Classical in
theorem chF {h : Hp} {C : List Int} (q : ¬ colHolds h C) : colHoldsB h C = false := by unfold colHoldsB; exact decide_eq_false q
theorem iColoredValid_c (h : Hp) (C : List Int) (hl : h.L.length ≤ 4194304 ∧ h.R.length ≤ 4194304 ∧ h.T.length ≤ 4194304) (hC : C.length ≤ 4194304) : Fn Try.prog 155 [(0, .c false (.ints h.L)), (1, .c false (.ints h.R)), (2, .c false (.ints h.T)), (3, .c false (.ints C))] [.agg [.sl 0 0 h.L.length, .sl 1 0 h.R.length, .sl 2 0 h.T.length, .sl 3 0 C.length]] (fun r H => r = .bool (decide (h.ok ∧ colOk C h.L.length)) ∧ H = []) := by
  have hv := iHeapValid_c h hl
  have hc := icolorsOk_c C h.L.length hC (by omega)
  refine Fn_go Try.func155 ?_
  refine W_go ?_
  by_cases g1 : h.ok
  case neg =>
    rw [show h.valid = false by rw [Hp.valid, decide_eq_false g1]] at hv
    refine W_c1 [(0, (0, 0)), (1, (1, 0)), (2, (2, 0))] hv ?_
    refine W_go ?_
    refine W_rt [] [] ?_
    exact ⟨by rw [decide_eq_false (fun q => g1 q.1)], rfl⟩
  rw [(Hp.ok_iff h).2 g1] at hv
  have es : decide (h.ok ∧ colOk C h.L.length) = decide (colOk C h.L.length) := by rw [decide_eq_decide]; exact ⟨fun q => q.2, fun q => ⟨g1, q⟩⟩
  rw [es]
  clear es g1
  refine W_c2 [(0, (0, 0)), (1, (1, 0)), (2, (2, 0))] hv [(0, (3, 0))] hc ?_
  refine W_go ?_
  refine W_rt [] [] ?_
  exact ⟨rfl, rfl⟩
theorem iwhite_c (h : Hp) (C : List Int) (p : Int) (hp : p = -1 ∨ 0 ≤ p ∧ p < C.length) (hl : h.L.length ≤ 4194304 ∧ h.R.length ≤ 4194304 ∧ h.T.length ≤ 4194304) (hC : C.length ≤ 4194304) :
    Fn Try.prog 156 [(0, .c false (.av 1 [.sl 1 0 h.L.length, .sl 2 0 h.R.length, .sl 3 0 h.T.length, .sl 4 0 C.length])), (1, .c false (.ints h.L)), (2, .c false (.ints h.R)), (3, .c false (.ints h.T)), (4, .c false (.ints C))] [.int .i64 p, .ptr 0 0] (fun r H => r = .bool (decide (p ≠ -1 ∧ C.getD p.toNat 0 = 0)) ∧ H = []) := by
  refine Fn_go Try.func156 ?_
  by_cases c1 : p = -1
  · have e : decide (p ≠ -1 ∧ C.getD p.toNat 0 = 0) = false := decide_eq_false (fun q => q.1 c1)
    rw [e]
    clear e
    subst c1
    refine W_go ?_
    refine W_gh ?_
    refine W_go ?_
    refine W_rt [] [] ?_
    exact ⟨rfl, rfl⟩
  have e : decide (p ≠ -1 ∧ C.getD p.toNat 0 = 0) = decide (C.getD p.toNat 0 = 0) := by rw [decide_eq_decide]; exact ⟨fun q => q.2, fun q => ⟨c1, q⟩⟩
  rw [e]
  have hp' : 0 ≤ p ∧ p < C.length := by omega
  clear e hp
  refine W_go ?_
  refine W_gh ?_
  refine W_go ?_
  refine W_rt [] [] ?_
  exact ⟨rfl, rfl⟩
theorem iColorHolds_c (h : Hp) (C : List Int) (hl : h.L.length ≤ 4194304 ∧ h.R.length ≤ 4194304 ∧ h.T.length ≤ 4194304) (hC : C.length ≤ 4194304) : Fn Try.prog 82 [(0, .c false (.ints h.L)), (1, .c false (.ints h.R)), (2, .c false (.ints h.T)), (3, .c false (.ints C))] [.agg [.sl 0 0 h.L.length, .sl 1 0 h.R.length, .sl 2 0 h.T.length, .sl 3 0 C.length]] (fun r H => r = .bool (colHoldsB h C) ∧ H = []) := by
  have hv := iColoredValid_c h C hl hC
  refine Fn_go Try.func82 ?_
  refine W_go ?_
  by_cases g1 : h.ok ∧ colOk C h.L.length
  case neg =>
    rw [decide_eq_false g1] at hv
    refine W_c1 [(0, (0, 0)), (1, (1, 0)), (2, (2, 0)), (3, (3, 0))] hv ?_
    refine W_ift ?_
    refine W_go ?_
    refine W_rt [] [] ?_
    exact ⟨by rw [chF (fun q => g1 ⟨q.1, q.2.1⟩)], rfl⟩
  rw [decide_eq_true g1] at hv
  have hlc := g1.2.1
  have hR : h.R.length = h.L.length := g1.1.1.2.2.1
  have kl := fun (i : Nat) (hi : i < C.length) => okP_get g1.1.2.1 (show i < h.L.length by omega)
  have kr := fun (i : Nat) (hi : i < C.length) => okP_get g1.1.2.2.1 (show i < h.R.length by omega)
  have b1 : C.length ≤ h.L.length ∧ C.length ≤ h.R.length := by omega
  have b2 : h.L.length ≤ C.length := by omega
  clear hR hlc
  replace g1 : Hold _ := ⟨g1⟩
  replace kl : Hold _ := ⟨kl⟩
  replace kr : Hold _ := ⟨kr⟩
  refine W_c1 [(0, (0, 0)), (1, (1, 0)), (2, (2, 0)), (3, (3, 0))] hv ?_
  refine W_iff ?_
  refine W_go ?_
  refine W_lp (T := 14) (σ := Nat) (me := fun i => [(13, .int .i64 i)]) (mh := fun _ => []) (inv := fun i => i ≤ C.length ∧ Hold (∀ j, j < i → C.getD j 0 = 2 → (h.L.getD j 0 ≠ -1 → C.getD (h.L.getD j 0).toNat 0 ≠ 0) ∧ (h.R.getD j 0 ≠ -1 → C.getD (h.R.getD j 0).toNat 0 ≠ 0))) (m := fun i => C.length - i) (s0 := 0) ⟨by omega, ⟨by intro j hj; omega⟩⟩ ?_
  rintro i ⟨hi, hI⟩
  refine W_go ?_
  refine W_if (fun h2 => ?_) (fun h2 => ?_)
  case' refine_2 =>
    refine W_go ?_
    refine W_rt [] [] ?_
    refine ⟨?_, rfl⟩
    rw [chT]
    exact ⟨g1.told.1, g1.told.2, fun j hj => hI.told j (by omega)⟩
  have hil : i < C.length := by omega
  have kL := kl.told i hil
  have kR := kr.told i hil
  have w1 := iwhite_c h C (h.L.getD i 0) (by omega) hl hC
  have w2 := iwhite_c h C (h.R.getD i 0) (by omega) hl hC
  replace kL : Hold _ := ⟨kL⟩
  replace kR : Hold _ := ⟨kR⟩
  by_cases c1 : C.getD i 0 = 2
  case neg =>
    refine W_go ?_
    refine W_gh ?_
    refine W_iff ?_
    refine W_go ?_
    refine W_bk (i + 1) ⟨by omega, ⟨fun j hj => ?_⟩⟩ (by omega)
    by_cases e : j = i
    · subst e; exact fun q => absurd q c1
    · exact hI.told j (by omega)
  have c1' := c1
  replace c1' : Hold _ := ⟨c1'⟩
  by_cases c2 : h.L.getD i 0 ≠ -1 ∧ C.getD (h.L.getD i 0).toNat 0 = 0
  · rw [decide_eq_true c2] at w1
    replace c2 : Hold _ := ⟨c2⟩
    replace c1 := eq_true c1
    refine W_go ?_
    refine W_ch1 [(0, (1024, 0)), (1, (0, 0)), (2, (1, 0)), (3, (2, 0)), (4, (3, 0))] w1 ?_
    refine W_ift ?_
    refine W_go ?_
    refine W_rt [] [] ?_
    refine ⟨?_, rfl⟩
    rw [chF]
    intro q
    exact (q.2.2 i hil c1'.told).1 c2.told.1 c2.told.2
  rw [decide_eq_false c2] at w1
  replace c2 : Hold _ := ⟨c2⟩
  by_cases c3 : h.R.getD i 0 ≠ -1 ∧ C.getD (h.R.getD i 0).toNat 0 = 0
  · rw [decide_eq_true c3] at w2
    replace c3 : Hold _ := ⟨c3⟩
    replace c1 := eq_true c1
    refine W_go ?_
    refine W_ch2 [(0, (1024, 0)), (1, (0, 0)), (2, (1, 0)), (3, (2, 0)), (4, (3, 0))] w1 [(0, (1024, 0)), (1, (0, 0)), (2, (1, 0)), (3, (2, 0)), (4, (3, 0))] w2 ?_
    refine W_ift ?_
    refine W_go ?_
    refine W_rt [] [] ?_
    refine ⟨?_, rfl⟩
    rw [chF]
    intro q
    exact (q.2.2 i hil c1'.told).2 c3.told.1 c3.told.2
  rw [decide_eq_false c3] at w2
  replace c3 : Hold _ := ⟨c3⟩
  replace c1 := eq_true c1
  refine W_go ?_
  refine W_ch2 [(0, (1024, 0)), (1, (0, 0)), (2, (1, 0)), (3, (2, 0)), (4, (3, 0))] w1 [(0, (1024, 0)), (1, (0, 0)), (2, (1, 0)), (3, (2, 0)), (4, (3, 0))] w2 ?_
  refine W_iff ?_
  refine W_go ?_
  refine W_bk (i + 1) ⟨by omega, ⟨fun j hj => ?_⟩⟩ (by omega)
  by_cases e : j = i
  · subst e
    exact fun _ => ⟨fun a b => c2.told ⟨a, b⟩, fun a b => c3.told ⟨a, b⟩⟩
  · exact hI.told j (by omega)
end Go.Proofs.Ytbcnkfkmonpdeaa.S
