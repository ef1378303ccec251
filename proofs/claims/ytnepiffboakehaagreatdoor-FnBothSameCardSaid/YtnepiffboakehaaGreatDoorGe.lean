/- Contracts: the program's comparisons, counts and roots put. Own work of this claim. -/
import Derived.Test.YtnepiffboakehaaGreatDoorFi
import Derived.Test.YtnepiffboakehaaGreatDoorA5
namespace Go.Proofs.YtnepiffboakehaaGreatDoor.S
set_option linter.all false
open Go Go.Proofs
set_option maxHeartbeats 4000000
set_option maxRecDepth 100000

theorem ziEq_c (a b : List Int) (ha : a.length < 1099511627776) (hb : b.length < 1099511627776) : Fn Tryz.prog 48 [(0, .c false (.ints a)), (1, .c false (.ints b))] [.sl 0 0 a.length, .sl 1 0 b.length] (fun r H => r = .bool (decide (a = b)) ∧ H = []) := by
  refine Fn_go Tryz.func48 ?_
  refine W_go ?_
  refine W_if (fun h1 => ?_) (fun h1 => ?_)
  · refine W_go ?_
    refine W_rt [] [] ?_
    exact ⟨by rw [decide_eq_false]; rintro rfl; exact h1 rfl, rfl⟩
  · refine W_go ?_
    refine W_lp (T := 14) (σ := Nat) (me := fun i => [(13, .int .i64 i)]) (mh := fun _ => []) (inv := fun i => i ≤ a.length ∧ Hold (∀ j, j < i → a.getD j 0 = b.getD j 0)) (m := fun i => a.length - i) (s0 := 0) ⟨by omega, ⟨by intro j hj; omega⟩⟩ ?_
    rintro i ⟨hi, hne⟩
    refine W_go ?_
    refine W_if (fun h2 => ?_) (fun h2 => ?_)
    · refine W_go ?_
      refine W_if (fun h3 => ?_) (fun h3 => ?_)
      · refine W_go ?_
        refine W_rt [] [] ?_
        exact ⟨by rw [decide_eq_false]; rintro rfl; exact h3 rfl, rfl⟩
      · refine W_go ?_
        refine W_bk (i + 1) ⟨by omega, ⟨fun j hj => ?_⟩⟩ (by omega)
        by_cases e : j = i
        · subst e; exact Decidable.not_not.1 h3
        · exact hne.told j (by omega)
    · refine W_go ?_
      refine W_rt [] [] ?_
      exact ⟨by rw [decide_eq_true]; exact same_of (by omega) fun j hj => hne.told j (by omega), rfl⟩
theorem iHeapSame_c (a b : Hp) (ha : a.L.length ≤ 4194304 ∧ a.R.length ≤ 4194304 ∧ a.T.length ≤ 4194304) (hb : b.L.length ≤ 4194304 ∧ b.R.length ≤ 4194304 ∧ b.T.length ≤ 4194304) : Fn Tryz.prog 47 [(0, .c false (.ints a.L)), (1, .c false (.ints a.R)), (2, .c false (.ints a.T)), (3, .c false (.ints b.L)), (4, .c false (.ints b.R)), (5, .c false (.ints b.T))] [.agg [.sl 0 0 a.L.length, .sl 1 0 a.R.length, .sl 2 0 a.T.length], .agg [.sl 3 0 b.L.length, .sl 4 0 b.R.length, .sl 5 0 b.T.length]] (fun r H => r = .bool (a.same b) ∧ H = []) := by
  have h1 := ziEq_c a.L b.L (by omega) (by omega)
  have h2 := ziEq_c a.R b.R (by omega) (by omega)
  have h3 := ziEq_c a.T b.T (by omega) (by omega)
  refine Fn_go Tryz.func47 ?_
  refine W_go ?_
  by_cases e1 : a.L = b.L
  case neg =>
    rw [decide_eq_false e1] at h1
    refine W_c1 [(0, (0, 0)), (1, (3, 0))] h1 ?_
    refine W_go ?_
    refine W_rt [] [] ?_
    exact ⟨by simp [Hp.same, e1], rfl⟩
  rw [decide_eq_true e1] at h1
  by_cases e2 : a.R = b.R
  case neg =>
    rw [decide_eq_false e2] at h2
    refine W_c2 [(0, (0, 0)), (1, (3, 0))] h1 [(0, (1, 0)), (1, (4, 0))] h2 ?_
    refine W_go ?_
    refine W_rt [] [] ?_
    exact ⟨by simp [Hp.same, e2], rfl⟩
  rw [decide_eq_true e2] at h2
  have es : a.same b = decide (a.T = b.T) := by simp [Hp.same, e1, e2]
  rw [es]
  clear e1 e2 es
  refine W_c3 [(0, (0, 0)), (1, (3, 0))] h1 [(0, (1, 0)), (1, (4, 0))] h2 [(0, (2, 0)), (1, (5, 0))] h3 ?_
  refine W_go ?_
  refine W_rt [] [] ?_
  exact ⟨rfl, rfl⟩
theorem iStoreSame_c (a b : Sto) (ha : (a.h.L.length ≤ 4194304 ∧ a.h.R.length ≤ 4194304 ∧ a.h.T.length ≤ 4194304) ∧ a.F.length ≤ 4194304) (hb : (b.h.L.length ≤ 4194304 ∧ b.h.R.length ≤ 4194304 ∧ b.h.T.length ≤ 4194304) ∧ b.F.length ≤ 4194304) : Fn Tryz.prog 18 [(0, .c false (.ints a.h.L)), (1, .c false (.ints a.h.R)), (2, .c false (.ints a.h.T)), (3, .c false (.ints a.F)), (4, .c false (.ints b.h.L)), (5, .c false (.ints b.h.R)), (6, .c false (.ints b.h.T)), (7, .c false (.ints b.F))] [.agg [.sl 0 0 a.h.L.length, .sl 1 0 a.h.R.length, .sl 2 0 a.h.T.length, .sl 3 0 a.F.length], .agg [.sl 4 0 b.h.L.length, .sl 5 0 b.h.R.length, .sl 6 0 b.h.T.length, .sl 7 0 b.F.length]] (fun r H => r = .bool (a.same b) ∧ H = []) := by
  have h1 := iHeapSame_c a.h b.h (by omega) (by omega)
  have h2 := ziEq_c a.F b.F (by omega) (by omega)
  refine Fn_go Tryz.func18 ?_
  refine W_go ?_
  by_cases e1 : a.h.same b.h = true
  case neg =>
    have e1 : a.h.same b.h = false := by simpa using e1
    rw [e1] at h1
    refine W_c1 [(0, (0, 0)), (1, (1, 0)), (2, (2, 0)), (3, (4, 0)), (4, (5, 0)), (5, (6, 0))] h1 ?_
    refine W_go ?_
    refine W_rt [] [] ?_
    exact ⟨by simp [Sto.same, e1], rfl⟩
  rw [e1] at h1
  have es : a.same b = decide (a.F = b.F) := by simp [Sto.same, e1]
  rw [es]
  clear e1 es
  refine W_c2 [(0, (0, 0)), (1, (1, 0)), (2, (2, 0)), (3, (4, 0)), (4, (5, 0)), (5, (6, 0))] h1 [(0, (3, 0)), (1, (7, 0))] h2 ?_
  refine W_go ?_
  refine W_rt [] [] ?_
  exact ⟨rfl, rfl⟩
theorem same_self (s : Sto) : s.same s = true := by simp [Sto.same, Hp.same]
end Go.Proofs.YtnepiffboakehaaGreatDoor.S
