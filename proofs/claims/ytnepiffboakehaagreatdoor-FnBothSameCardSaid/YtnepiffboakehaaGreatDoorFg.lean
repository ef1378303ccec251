/- Contracts: functions of the library's package slices. Own work of this claim. -/
import Derived.Test.YtnepiffboakehaaGreatDoorSw
import Derived.Test.YtnepiffboakehaaGreatDoorA4
namespace Go.Proofs.YtnepiffboakehaaGreatDoor.S
set_option linter.all false
open Go Go.Proofs
set_option maxHeartbeats 4000000
set_option maxRecDepth 100000
set_option linter.unusedVariables false

theorem zIndex_c (l : List Int) (n : Int) (hl : l.length < 1099511627776) : Fn Tryz.prog 92 [(0, .c false (.ints l))] [.sl 0 0 l.length, .int .i64 n] (fun r H => r = .int .i64 (idx l n) ∧ H = []) := by
  refine Fn_go Tryz.func92 ?_
  refine W_go ?_
  refine W_lp (T := 9) (σ := Nat) (me := fun i => [(8, .int .i64 i)]) (mh := fun _ => []) (inv := fun i => i ≤ l.length ∧ Hold (∀ j, j < i → l.getD j 0 ≠ n)) (m := fun i => l.length - i) (s0 := 0) ⟨by omega, ⟨by intro j hj; omega⟩⟩ ?_
  rintro i ⟨hi, hne⟩
  refine W_go ?_
  refine W_if (fun h1 => ?_) (fun h1 => ?_)
  · refine W_go ?_
    refine W_if (fun h2 => ?_) (fun h2 => ?_)
    · refine W_go ?_
      refine W_rt [] [] ?_
      exact ⟨by rw [idx_at (by omega) hne.told h2.symm], rfl⟩
    · refine W_go ?_
      refine W_bk (i + 1) ⟨by omega, ⟨fun j hj => ?_⟩⟩ (by omega)
      by_cases e : j = i
      · subst e; exact fun q => h2 q.symm
      · exact hne.told j (by omega)
  · refine W_go ?_
    refine W_rt [] [] ?_
    exact ⟨by rw [idx_none (fun j hj => hne.told j (by omega))], rfl⟩
theorem zContains_c (l : List Int) (n : Int) (hl : l.length < 1099511627776) : Fn Tryz.prog 44 [(0, .c false (.ints l))] [.sl 0 0 l.length, .int .i64 n] (fun r H => r = .bool (decide (n ∈ l)) ∧ H = []) := by
  refine Fn_go Tryz.func44 ?_
  refine W_go ?_
  refine W_c1 [(0, (0, 0))] (zIndex_c l n hl) ?_
  refine W_rt [] [] ?_
  exact ⟨by congr 1; rw [decide_eq_decide]; exact idx_nonneg l n, rfl⟩
theorem zGrow_c (n : Nat) (hn : n ≤ 4194304) : Fn Tryz.prog 134 [] [.emp, .int .i64 n] (fun r H => r = .sl 100 0 0 ∧ H = [(100, .c true (.ints []))]) := by
  refine Fn_go Tryz.func134 ?_
  by_cases h1 : 0 < n
  · refine W_go ?_
    refine W_if (fun h2 => ?_) (fun h2 => ?_)
    · omega
    refine W_go ?_
    refine W_if (fun h3 => ?_) (fun h3 => ?_)
    · refine W_go ?_
      refine W_cut 6184 (.ints []) ?_
      refine W_rt [(6184, (100, 0))] [] ?_
      exact ⟨rfl, rfl⟩
    · omega
  · obtain rfl : n = 0 := by omega
    refine W_go ?_
    refine W_if (fun h2 => ?_) (fun h2 => ?_)
    · omega
    refine W_go ?_
    refine W_if (fun h3 => ?_) (fun h3 => ?_)
    · omega
    refine W_go ?_
    refine W_rt [] [(100, .ints [])] ?_
    exact ⟨rfl, rfl⟩
/-- Three lists, one behind the other. -/
def upto3 (a b c : List Int) (k : Nat) : List Int := if k = 0 then [] else if k = 1 then a else if k = 2 then a ++ b else a ++ b ++ c
theorem zConcat_c (a b c : List Int) (ha : a.length ≤ 1048576 ∧ b.length ≤ 1048576 ∧ c.length ≤ 1048576) : Fn Tryz.prog 91 [(0, .c false (.av 1 [.sl 1 0 a.length, .sl 2 0 b.length, .sl 3 0 c.length])), (1, .c false (.ints a)), (2, .c false (.ints b)), (3, .c false (.ints c))] [.sl 0 0 3] (fun r H => r = .sl 100 0 (a ++ b ++ c).length ∧ H = [(100, .c true (.ints (a ++ b ++ c)))]) := by
  refine Fn_go Tryz.func91 ?_
  have u0 : (upto3 a b c 0).length = 0 := rfl
  have u1 : (upto3 a b c 1).length = a.length := rfl
  have u2 : (upto3 a b c 2).length = a.length + b.length := by simp [upto3]
  have u3 : (upto3 a b c 3).length = a.length + b.length + c.length := by simp [upto3]; omega
  refine W_go ?_
  refine W_lp (T := 12) (σ := Nat) (me := fun k => [(3, .int .i64 (upto3 a b c k).length), (11, .int .i64 k)]) (mh := fun _ => []) (inv := fun k => k ≤ 3) (m := fun k => 3 - k) (s0 := 0) (by omega) ?_
  rintro k hk
  refine W_go ?_
  refine W_if (fun h1 => ?_) (fun h1 => ?_)
  · obtain rfl | rfl | rfl : k = 0 ∨ k = 1 ∨ k = 2 := by omega
    · refine W_go ?_
      refine W_if (fun h2 => ?_) (fun h2 => ?_)
      · omega
      · refine W_go ?_
        exact W_bk 1 (by omega) (by omega)
    · refine W_go ?_
      refine W_if (fun h2 => ?_) (fun h2 => ?_)
      · omega
      · refine W_go ?_
        exact W_bk 2 (by omega) (by omega)
    · refine W_go ?_
      refine W_if (fun h2 => ?_) (fun h2 => ?_)
      · omega
      · refine W_go ?_
        exact W_bk 3 (by omega) (by omega)
  obtain rfl : k = 3 := by omega
  refine W_go ?_
  refine W_c1 [] (zGrow_c (upto3 a b c 3).length (by omega)) ?_
  refine W_go ?_
  refine W_fg [24] ?_
  refine W_lp (T := 28) (σ := Nat) (me := fun k => [(6, .sl 10248 0 (upto3 a b c k).length), (27, .int .i64 k)]) (mh := fun k => [(10248, .c true (.ints (upto3 a b c k)))]) (inv := fun k => k ≤ 3) (m := fun k => 3 - k) (s0 := 0) (by omega) ?_
  rintro k hk
  refine W_go ?_
  refine W_if (fun h1 => ?_) (fun h1 => ?_)
  · obtain rfl | rfl | rfl : k = 0 ∨ k = 1 ∨ k = 2 := by omega
    · refine W_go ?_
      refine W_rk 28 [(14352, (10248, 0))] ?_
      exact W_bh 1 (by omega) (by omega) (by simp [upto3])
    · refine W_go ?_
      refine W_rk 28 [(14352, (10248, 0))] ?_
      exact W_bh 2 (by omega) (by omega) (by simp [upto3])
    · refine W_go ?_
      refine W_rk 28 [(14352, (10248, 0))] ?_
      exact W_bh 3 (by omega) (by omega) (by simp [upto3])
  obtain rfl : k = 3 := by omega
  refine W_go ?_
  refine W_rt [(10248, (100, 0))] [] ?_
  exact ⟨rfl, rfl⟩
end Go.Proofs.YtnepiffboakehaaGreatDoor.S
