/- Contracts: the given program's reference. Own work of this claim. -/
import Derived.Test.YtnepiffboakehaaGreatDoorFa
namespace Go.Proofs.YtnepiffboakehaaGreatDoor.S
set_option linter.all false
open Go Go.Proofs
set_option maxHeartbeats 4000000
set_option linter.unusedVariables false

theorem sl1Points_c (to n : Int) (hn : 0 ≤ n ∧ n < 1099511627776) : Fn Tryz.prog 158 [] [.int .i64 to, .int .i64 n] (fun r H => r = .bool (decide (-1 ≤ to ∧ to < n)) ∧ H = []) := by
  refine Fn_go Tryz.func158 ?_
  by_cases h1 : -1 ≤ to
  · refine W_go ?_
    refine W_rt [] [] ?_
    exact ⟨by simp [h1], rfl⟩
  · refine W_go ?_
    refine W_rt [] [] ?_
    exact ⟨by simp [h1], rfl⟩
theorem sl1Many_c (n : Nat) (hn : n ≤ 4194304) : Fn Tryz.prog 139 [] [.int .i64 n] (fun r H => r = .sl 100 0 n ∧ H = [(100, .c true (.ints (List.replicate n (-1))))]) := by
  refine Fn_go Tryz.func139 ?_
  refine W_go ?_
  refine W_lp (T := 5) (σ := Nat) (me := fun i => [(4, .int .i64 i), (3, .sl 2048 0 i)]) (mh := fun i => [(2048, .c true (.ints (List.replicate i (-1))))]) (inv := fun i => i ≤ n) (m := fun i => n - i) (s0 := 0) (by simp) ?_
  rintro i hi
  refine W_go ?_
  refine W_if (fun h1 => ?_) (fun h1 => ?_)
  · refine W_go ?_
    refine W_rn [(6160, (2048, 0))] ?_
    exact W_bh (i + 1) (by omega) (by omega) (by rw [List.replicate_succ'])
  · refine W_go ?_
    refine W_rt [(2048, (100, 0))] [] ?_
    have e : i = n := by omega
    subst e
    exact ⟨rfl, rfl⟩
theorem sl1Copy_c (h : Hp) (hl : h.L.length ≤ 4194304 ∧ h.R.length ≤ 4194304 ∧ h.T.length ≤ 4194304) : Fn Tryz.prog 124 [(0, .c false (.ints h.L)), (1, .c false (.ints h.R)), (2, .c false (.ints h.T))] [.agg [.sl 0 0 h.L.length, .sl 1 0 h.R.length, .sl 2 0 h.T.length]] (fun r H => r = .agg [.sl 100 0 h.L.length, .sl 101 0 h.R.length, .sl 102 0 h.T.length] ∧ H = [(100, .c true (.ints h.L)), (101, .c true (.ints h.R)), (102, .c true (.ints h.T))]) := by
  refine Fn_go Tryz.func124 ?_
  refine W_go ?_
  exact W_rt [(2072, (100, 0)), (2104, (101, 0)), (2136, (102, 0))] [] ⟨rfl, rfl⟩
theorem sl4Copy_c (s : Sto) (hl : (s.h.L.length ≤ 4194304 ∧ s.h.R.length ≤ 4194304 ∧ s.h.T.length ≤ 4194304) ∧ s.F.length ≤ 4194304) : Fn Tryz.prog 80 [(0, .c false (.ints s.h.L)), (1, .c false (.ints s.h.R)), (2, .c false (.ints s.h.T)), (3, .c false (.ints s.F))] [.agg [.sl 0 0 s.h.L.length, .sl 1 0 s.h.R.length, .sl 2 0 s.h.T.length, .sl 3 0 s.F.length]] (fun r H => r = .agg [.sl 100 0 s.h.L.length, .sl 101 0 s.h.R.length, .sl 102 0 s.h.T.length, .sl 103 0 s.F.length] ∧ H = [(100, .c true (.ints s.h.L)), (101, .c true (.ints s.h.R)), (102, .c true (.ints s.h.T)), (103, .c true (.ints s.F))]) := by
  refine Fn_go Tryz.func80 ?_
  refine W_go ?_
  refine W_dc1 [(0, (0, 0)), (1, (1, 0)), (2, (2, 0))] (sl1Copy_c s.h hl.1) [.c _ _ _] ?_
  exact W_rt [(2064, (100, 0)), (2065, (101, 0)), (2066, (102, 0)), (2096, (103, 0))] [] ⟨rfl, rfl⟩
theorem sHeapValid_c (h : Hp) (hl : h.L.length ≤ 4194304 ∧ h.R.length ≤ 4194304 ∧ h.T.length ≤ 4194304) : Fn Tryz.prog 142 [(0, .c false (.ints h.L)), (1, .c false (.ints h.R)), (2, .c false (.ints h.T))] [.agg [.sl 0 0 h.L.length, .sl 1 0 h.R.length, .sl 2 0 h.T.length]] (fun r H => r = .bool h.valid ∧ H = []) := by
  refine Fn_go Tryz.func142 ?_
  by_cases g1 : (h.L.length : Int) < 1
  · refine W_go ?_
    refine W_ift ?_
    refine W_go ?_
    refine W_rt [] [] ?_
    exact ⟨by rw [Hp.valid, decide_eq_false]; unfold Hp.ok; omega, rfl⟩
  by_cases g2 : 8 < (h.L.length : Int)
  · refine W_go ?_
    refine W_ift ?_
    refine W_go ?_
    refine W_rt [] [] ?_
    exact ⟨by rw [Hp.valid, decide_eq_false]; unfold Hp.ok; omega, rfl⟩
  by_cases g3 : (h.R.length : Int) = h.L.length
  case neg =>
    refine W_go ?_
    refine W_ift ?_
    refine W_go ?_
    refine W_rt [] [] ?_
    exact ⟨by rw [Hp.valid, decide_eq_false]; unfold Hp.ok; omega, rfl⟩
  by_cases g4 : (h.T.length : Int) < 1
  · refine W_go ?_
    refine W_ift ?_
    refine W_go ?_
    refine W_rt [] [] ?_
    exact ⟨by rw [Hp.valid, decide_eq_false]; unfold Hp.ok; omega, rfl⟩
  by_cases g5 : 3 < (h.T.length : Int)
  · refine W_go ?_
    refine W_ift ?_
    refine W_go ?_
    refine W_rt [] [] ?_
    exact ⟨by rw [Hp.valid, decide_eq_false]; unfold Hp.ok; omega, rfl⟩
  refine W_go ?_
  refine W_iff ?_
  refine W_go ?_
  have no : ∀ {l : List Int} {j : Nat}, j < l.length → ¬ (-1 ≤ l.getD j 0 ∧ l.getD j 0 < h.L.length) → (l = h.L ∨ l = h.R ∨ l = h.T) → Hp.valid h = false := by
    intro l j hj hn hl'
    rw [Hp.valid, decide_eq_false]
    rintro ⟨_, o1, o2, o3⟩
    rcases hl' with rfl | rfl | rfl
    · exact hn (o1 j hj)
    · exact hn (o2 j hj)
    · exact hn (o3 j hj)
  refine W_lp (T := 5) (σ := Nat) (me := fun i => [(4, .int .i64 i)]) (mh := fun _ => []) (inv := fun i => i ≤ h.L.length ∧ Hold (∀ j, j < i → (-1 ≤ h.L.getD j 0 ∧ h.L.getD j 0 < h.L.length) ∧ (-1 ≤ h.R.getD j 0 ∧ h.R.getD j 0 < h.L.length))) (m := fun i => h.L.length - i) (s0 := 0) ⟨by omega, ⟨by intro j hj; omega⟩⟩ ?_
  rintro i ⟨hi, hne⟩
  replace no : Hold _ := ⟨@no⟩
  refine W_go ?_
  refine W_if (fun h1 => ?_) (fun h1 => ?_)
  · refine W_go ?_
    by_cases p1 : -1 ≤ h.L.getD i 0 ∧ h.L.getD i 0 < h.L.length
    · refine W_ch2 [] (sl1Points_c (h.L.getD i 0) h.L.length (by omega)) [] (sl1Points_c (h.R.getD i 0) h.L.length (by omega)) ?_
      refine W_if (fun h2 => ?_) (fun h2 => ?_)
      · refine W_go ?_
        refine W_rt [] [] ?_
        exact ⟨by rw [no.told (by omega) h2 (.inr (.inl rfl))], rfl⟩
      · refine W_go ?_
        refine W_bk (i + 1) ⟨by omega, ⟨fun j hj => ?_⟩⟩ (by omega)
        by_cases e : j = i
        · subst e; exact ⟨p1, Decidable.not_not.1 h2⟩
        · exact hne.told j (by omega)
    · refine W_ch1 [] (sl1Points_c (h.L.getD i 0) h.L.length (by omega)) ?_
      refine W_ift ?_
      refine W_go ?_
      refine W_rt [] [] ?_
      exact ⟨by rw [no.told (by omega) p1 (.inl rfl)], rfl⟩
  · refine W_go ?_
    have e : i = h.L.length := by omega
    subst e
    refine W_lp (T := 6) (σ := Nat) (me := fun i => [(5, .int .i64 i)]) (mh := fun _ => []) (inv := fun i => i ≤ h.T.length ∧ Hold (∀ j, j < i → (-1 ≤ h.T.getD j 0 ∧ h.T.getD j 0 < h.L.length))) (m := fun i => h.T.length - i) (s0 := 0) ⟨by omega, ⟨by intro j hj; omega⟩⟩ ?_
    rintro i ⟨hi2, hne2⟩
    refine W_go ?_
    refine W_if (fun h1 => ?_) (fun h1 => ?_)
    · refine W_go ?_
      refine W_c1 [] (sl1Points_c (h.T.getD i 0) h.L.length (by omega)) ?_
      refine W_if (fun h2 => ?_) (fun h2 => ?_)
      · refine W_go ?_
        refine W_rt [] [] ?_
        exact ⟨by rw [no.told (by omega) h2 (.inr (.inr rfl))], rfl⟩
      · refine W_go ?_
        refine W_bk (i + 1) ⟨by omega, ⟨fun j hj => ?_⟩⟩ (by omega)
        by_cases e : j = i
        · subst e; exact Decidable.not_not.1 h2
        · exact hne2.told j (by omega)
    · refine W_go ?_
      refine W_rt [] [] ?_
      refine ⟨?_, rfl⟩
      rw [Hp.valid, decide_eq_true]
      exact ⟨by omega, fun j hj => (hne.told j hj).1, fun j hj => (hne.told j (by omega)).2, fun j hj => hne2.told j (by omega)⟩
end Go.Proofs.YtnepiffboakehaaGreatDoor.S
