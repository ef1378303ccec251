/- Texts of this claim's own, laid as one: Fg Fh Fi Fj. Own work of this claim. -/
import Derived.Test.YtbobhbhgomkgpaaGreatDoorSw
import Derived.Test.YtbobhbhgomkgpaaGreatDoorA4
/- Contracts: functions of the library's package slices. Own work of this claim. -/
namespace Go.Proofs.YtbobhbhgomkgpaaGreatDoor.S
set_option linter.all false
open Go Go.Proofs
set_option maxHeartbeats 4000000
set_option maxRecDepth 100000
set_option linter.unusedVariables false

theorem zIndex_c (l : List Int) (n : Int) (hl : l.length < 1099511627776) : Fn Tryz.prog 101 [(0, .c false (.ints l))] [.sl 0 0 l.length, .int .i64 n] (fun r H => r = .int .i64 (idx l n) ∧ H = []) := by
  refine Fn_go Tryz.func101 ?_
  refine W_go ?_
  refine W_lp (T := 9) (σ := Nat) (me := fun i => [(8, .int .i64 i)]) (mh := fun _ => []) (inv := fun i => i ≤ l.length ∧ Hold (∀ j, j < i → l.getD j 0 ≠ n)) (m := fun i => l.length - i) (s0 := 0) ⟨by omega, ⟨by intro j hj; omega⟩⟩ ?_
  rintro i ⟨hi, hne⟩
  refine W_go ?_
  refine W_if (fun h1 => ?_) (fun h1 => ?_)
  · refine W_go ?_
    refine W_if (fun h2 => ?_) (fun h2 => ?_)
    · refine W_go ?_
      refine W_rt [] [] ?_
      exact ⟨by rw [idx_at (by omega) hne.told h2.symm], rfl⟩
    · refine W_go ?_
      refine W_bk (i + 1) ⟨by omega, ⟨fun j hj => ?_⟩⟩ (by omega)
      by_cases e : j = i
      · subst e; exact fun q => h2 q.symm
      · exact hne.told j (by omega)
  · refine W_go ?_
    refine W_rt [] [] ?_
    exact ⟨by rw [idx_none (fun j hj => hne.told j (by omega))], rfl⟩
theorem zContains_c (l : List Int) (n : Int) (hl : l.length < 1099511627776) : Fn Tryz.prog 60 [(0, .c false (.ints l))] [.sl 0 0 l.length, .int .i64 n] (fun r H => r = .bool (decide (n ∈ l)) ∧ H = []) := by
  refine Fn_go Tryz.func60 ?_
  refine W_go ?_
  refine W_c1 [(0, (0, 0))] (zIndex_c l n hl) ?_
  refine W_rt [] [] ?_
  exact ⟨by congr 1; rw [decide_eq_decide]; exact idx_nonneg l n, rfl⟩
theorem zClone_c (l : List Int) (hl : l.length < 1099511627776) : Fn Tryz.prog 59 [(0, .c false (.ints l))] [.sl 0 0 l.length] (fun r H => r = .sl 100 0 l.length ∧ H = [(100, .c true (.ints l))]) := by
  refine Fn_go Tryz.func59 ?_
  refine W_go ?_
  refine W_nl l.length (fun b hb => ?_)
  refine W_ifb (fun h1 => ?_) (fun h1 => ?_)
  · have e : l = [] := List.eq_nil_of_length_eq_zero (hb h1)
    clear hb
    refine W_go ?_
    refine W_rt [] [(100, .ints [])] ?_
    subst e
    exact ⟨rfl, rfl⟩
  · clear hb
    refine W_go ?_
    refine W_rt [(4112, (100, 0))] [] ?_
    exact ⟨rfl, rfl⟩
theorem zGrow_c (n : Nat) (hn : n ≤ 4194304) : Fn Tryz.prog 145 [] [.emp, .int .i64 n] (fun r H => r = .sl 100 0 0 ∧ H = [(100, .c true (.ints []))]) := by
  refine Fn_go Tryz.func145 ?_
  by_cases h1 : 0 < n
  · refine W_go ?_
    refine W_if (fun h2 => ?_) (fun h2 => ?_)
    · omega
    refine W_go ?_
    refine W_if (fun h3 => ?_) (fun h3 => ?_)
    · refine W_go ?_
      refine W_cut 6184 (.ints []) ?_
      refine W_rt [(6184, (100, 0))] [] ?_
      exact ⟨rfl, rfl⟩
    · omega
  · obtain rfl : n = 0 := by omega
    refine W_go ?_
    refine W_if (fun h2 => ?_) (fun h2 => ?_)
    · omega
    refine W_go ?_
    refine W_if (fun h3 => ?_) (fun h3 => ?_)
    · omega
    refine W_go ?_
    refine W_rt [] [(100, .ints [])] ?_
    exact ⟨rfl, rfl⟩
/-- Three lists, one behind the other. -/
def upto3 (a b c : List Int) (k : Nat) : List Int := if k = 0 then [] else if k = 1 then a else if k = 2 then a ++ b else a ++ b ++ c
theorem zConcat_c (a b c : List Int) (ha : a.length ≤ 1048576 ∧ b.length ≤ 1048576 ∧ c.length ≤ 1048576) : Fn Tryz.prog 127 [(0, .c false (.av 1 [.sl 1 0 a.length, .sl 2 0 b.length, .sl 3 0 c.length])), (1, .c false (.ints a)), (2, .c false (.ints b)), (3, .c false (.ints c))] [.sl 0 0 3] (fun r H => r = .sl 100 0 (a ++ b ++ c).length ∧ H = [(100, .c true (.ints (a ++ b ++ c)))]) := by
  refine Fn_go Tryz.func127 ?_
  have u0 : (upto3 a b c 0).length = 0 := rfl
  have u1 : (upto3 a b c 1).length = a.length := rfl
  have u2 : (upto3 a b c 2).length = a.length + b.length := by simp [upto3]
  have u3 : (upto3 a b c 3).length = a.length + b.length + c.length := by simp [upto3]; omega
  refine W_go ?_
  refine W_lp (T := 12) (σ := Nat) (me := fun k => [(3, .int .i64 (upto3 a b c k).length), (11, .int .i64 k)]) (mh := fun _ => []) (inv := fun k => k ≤ 3) (m := fun k => 3 - k) (s0 := 0) (by omega) ?_
  rintro k hk
  refine W_go ?_
  refine W_if (fun h1 => ?_) (fun h1 => ?_)
  · obtain rfl | rfl | rfl : k = 0 ∨ k = 1 ∨ k = 2 := by omega
    · refine W_go ?_
      refine W_if (fun h2 => ?_) (fun h2 => ?_)
      · omega
      · refine W_go ?_
        exact W_bk 1 (by omega) (by omega)
    · refine W_go ?_
      refine W_if (fun h2 => ?_) (fun h2 => ?_)
      · omega
      · refine W_go ?_
        exact W_bk 2 (by omega) (by omega)
    · refine W_go ?_
      refine W_if (fun h2 => ?_) (fun h2 => ?_)
      · omega
      · refine W_go ?_
        exact W_bk 3 (by omega) (by omega)
  obtain rfl : k = 3 := by omega
  refine W_go ?_
  refine W_c1 [] (zGrow_c (upto3 a b c 3).length (by omega)) ?_
  refine W_go ?_
  refine W_fg [24] ?_
  refine W_lp (T := 28) (σ := Nat) (me := fun k => [(6, .sl 10248 0 (upto3 a b c k).length), (27, .int .i64 k)]) (mh := fun k => [(10248, .c true (.ints (upto3 a b c k)))]) (inv := fun k => k ≤ 3) (m := fun k => 3 - k) (s0 := 0) (by omega) ?_
  rintro k hk
  refine W_go ?_
  refine W_if (fun h1 => ?_) (fun h1 => ?_)
  · obtain rfl | rfl | rfl : k = 0 ∨ k = 1 ∨ k = 2 := by omega
    · refine W_go ?_
      refine W_rk 28 [(14352, (10248, 0))] ?_
      exact W_bh 1 (by omega) (by omega) (by simp [upto3])
    · refine W_go ?_
      refine W_rk 28 [(14352, (10248, 0))] ?_
      exact W_bh 2 (by omega) (by omega) (by simp [upto3])
    · refine W_go ?_
      refine W_rk 28 [(14352, (10248, 0))] ?_
      exact W_bh 3 (by omega) (by omega) (by simp [upto3])
  obtain rfl : k = 3 := by omega
  refine W_go ?_
  refine W_rt [(10248, (100, 0))] [] ?_
  exact ⟨rfl, rfl⟩
end Go.Proofs.YtbobhbhgomkgpaaGreatDoor.S

/- Contracts: the given program, heaps and counts. Own work of this claim. -/
namespace Go.Proofs.YtbobhbhgomkgpaaGreatDoor.S
set_option linter.all false
open Go Go.Proofs
set_option maxHeartbeats 4000000
set_option maxRecDepth 100000
set_option linter.unusedVariables false

theorem icopied_c (h : Hp) (hl : h.L.length ≤ 4194304 ∧ h.R.length ≤ 4194304 ∧ h.T.length ≤ 4194304) : Fn Tryz.prog 75 [(0, .c false (.ints h.L)), (1, .c false (.ints h.R)), (2, .c false (.ints h.T))] [.agg [.sl 0 0 h.L.length, .sl 1 0 h.R.length, .sl 2 0 h.T.length]] (fun r H => r = .agg [.sl 100 0 h.L.length, .sl 101 0 h.R.length, .sl 102 0 h.T.length] ∧ H = [(100, .c true (.ints h.L)), (101, .c true (.ints h.R)), (102, .c true (.ints h.T))]) := by
  refine Fn_go Tryz.func75 ?_
  refine W_go ?_
  refine W_dc3 [(0, (0, 0))] (zClone_c h.L (by omega)) [(0, (1, 0))] (zClone_c h.R (by omega)) [(0, (2, 0))] (zClone_c h.T (by omega)) [.c _ _ _, .c _ _ _, .c _ _ _] ?_
  exact W_rt [(2064, (100, 0)), (2088, (101, 0)), (2112, (102, 0))] [] ⟨rfl, rfl⟩
theorem iagain_c (s : Sto) (hl : (s.h.L.length ≤ 4194304 ∧ s.h.R.length ≤ 4194304 ∧ s.h.T.length ≤ 4194304) ∧ s.F.length ≤ 4194304) : Fn Tryz.prog 38 [(0, .c false (.ints s.h.L)), (1, .c false (.ints s.h.R)), (2, .c false (.ints s.h.T)), (3, .c false (.ints s.F))] [.agg [.sl 0 0 s.h.L.length, .sl 1 0 s.h.R.length, .sl 2 0 s.h.T.length, .sl 3 0 s.F.length]] (fun r H => r = .agg [.sl 100 0 s.h.L.length, .sl 101 0 s.h.R.length, .sl 102 0 s.h.T.length, .sl 103 0 s.F.length] ∧ H = [(100, .c true (.ints s.h.L)), (101, .c true (.ints s.h.R)), (102, .c true (.ints s.h.T)), (103, .c true (.ints s.F))]) := by
  refine Fn_go Tryz.func38 ?_
  refine W_go ?_
  refine W_dc2 [(0, (0, 0)), (1, (1, 0)), (2, (2, 0))] (icopied_c s.h hl.1) [(0, (3, 0))] (zClone_c s.F (by omega)) [.c _ _ _, .c _ _ _] ?_
  exact W_rt [(2064, (100, 0)), (2065, (101, 0)), (2066, (102, 0)), (2088, (103, 0))] [] ⟨rfl, rfl⟩
def three3 (h : Hp) (k : Nat) : List Int := if k = 0 then h.L else if k = 1 then h.R else h.T
theorem iHeapValid_c (h : Hp) (hl : h.L.length ≤ 4194304 ∧ h.R.length ≤ 4194304 ∧ h.T.length ≤ 4194304) : Fn Tryz.prog 61 [(0, .c false (.ints h.L)), (1, .c false (.ints h.R)), (2, .c false (.ints h.T))] [.agg [.sl 0 0 h.L.length, .sl 1 0 h.R.length, .sl 2 0 h.T.length]] (fun r H => r = .bool h.valid ∧ H = []) := by
  refine Fn_go Tryz.func61 ?_
  by_cases g3 : (h.L.length : Int) = h.R.length
  case neg =>
    refine W_go ?_
    refine W_ift ?_
    refine W_go ?_
    refine W_rt [] [] ?_
    exact ⟨by rw [Hp.valid, decide_eq_false]; unfold Hp.ok; omega, rfl⟩
  have g3a : h.L.length ≤ h.R.length := by omega
  have g3b : h.R.length ≤ h.L.length := by omega
  replace g3 := eq_true g3
  by_cases g1 : (h.L.length : Int) < 1
  · refine W_go ?_
    refine W_ift ?_
    refine W_go ?_
    refine W_rt [] [] ?_
    exact ⟨by rw [Hp.valid, decide_eq_false]; unfold Hp.ok; omega, rfl⟩
  by_cases g2 : 8 < (h.L.length : Int)
  · refine W_go ?_
    refine W_ift ?_
    refine W_go ?_
    refine W_rt [] [] ?_
    exact ⟨by rw [Hp.valid, decide_eq_false]; unfold Hp.ok; omega, rfl⟩
  by_cases g4 : (h.T.length : Int) < 1
  · refine W_go ?_
    refine W_ift ?_
    refine W_go ?_
    refine W_rt [] [] ?_
    exact ⟨by rw [Hp.valid, decide_eq_false]; unfold Hp.ok; omega, rfl⟩
  by_cases g5 : 3 < (h.T.length : Int)
  · refine W_go ?_
    refine W_ift ?_
    refine W_go ?_
    refine W_rt [] [] ?_
    exact ⟨by rw [Hp.valid, decide_eq_false]; unfold Hp.ok; omega, rfl⟩
  refine W_go ?_
  refine W_iff ?_
  clear g3
  refine W_go ?_
  have no : ∀ {l : List Int} {j : Nat}, j < l.length → ¬ (-1 ≤ l.getD j 0 ∧ l.getD j 0 < h.L.length) → (l = h.L ∨ l = h.R ∨ l = h.T) → Hp.valid h = false := by
    intro l j hj hn hl'
    rw [Hp.valid, decide_eq_false]
    rintro ⟨_, o1, o2, o3⟩
    rcases hl' with rfl | rfl | rfl
    · exact hn (o1 j hj)
    · exact hn (o2 j hj)
    · exact hn (o3 j hj)
  replace no : Hold _ := ⟨@no⟩
  refine W_lp (T := 47) (σ := Nat) (me := fun i => [(46, .int .i64 i)]) (mh := fun _ => []) (inv := fun i => i ≤ 3 ∧ Hold (∀ k, k < i → okP (three3 h k) h.L.length)) (m := fun i => 3 - i) (s0 := 0) ⟨by omega, ⟨by intro j hj; omega⟩⟩ ?_
  rintro i ⟨hi, hne⟩
  refine W_go ?_
  refine W_if (fun h1 => ?_) (fun h1 => ?_)
  · obtain rfl | rfl | rfl : i = 0 ∨ i = 1 ∨ i = 2 := by omega
    · refine W_go ?_
      refine W_lp (T := 53) (σ := Nat) (me := fun j => [(52, .int .i64 j)]) (mh := fun _ => []) (inv := fun j => j ≤ h.L.length ∧ Hold (∀ j', j' < j → (-1 ≤ h.L.getD j' 0 ∧ h.L.getD j' 0 < h.L.length))) (m := fun j => h.L.length - j) (s0 := 0) ⟨by omega, ⟨by intro j hj; omega⟩⟩ ?_
      rintro j ⟨hj, hjn⟩
      refine W_go ?_
      refine W_if (fun h2 => ?_) (fun h2 => ?_)
      · refine W_go ?_
        by_cases p1 : h.L.getD j 0 < -1
        · refine W_go ?_
          refine W_ift ?_
          refine W_go ?_
          refine W_rt [] [] ?_
          exact ⟨by rw [no.told (l := h.L) (j := j) (by omega) (by omega) (by simp)], rfl⟩
        · refine W_go ?_
          refine W_if (fun h3 => ?_) (fun h3 => ?_)
          · refine W_go ?_
            refine W_rt [] [] ?_
            exact ⟨by rw [no.told (l := h.L) (j := j) (by omega) (by omega) (by simp)], rfl⟩
          · refine W_go ?_
            refine W_bk (j + 1) ⟨by omega, ⟨fun j' hj' => ?_⟩⟩ (by omega)
            by_cases e : j' = j
            · subst e; omega
            · exact hjn.told j' (by omega)
      · refine W_go ?_
        refine W_bk 1 ⟨by omega, ⟨fun k hk => ?_⟩⟩ (by omega)
        rcases Nat.lt_or_ge k (1 - 1) with q | q
        · exact hne.told k q
        · obtain rfl : k = 1 - 1 := by omega
          intro j' hj'
          exact hjn.told j' (Nat.lt_of_lt_of_le hj' (show h.L.length ≤ j by omega))
    · refine W_go ?_
      refine W_lp (T := 53) (σ := Nat) (me := fun j => [(52, .int .i64 j)]) (mh := fun _ => []) (inv := fun j => j ≤ h.R.length ∧ Hold (∀ j', j' < j → (-1 ≤ h.R.getD j' 0 ∧ h.R.getD j' 0 < h.L.length))) (m := fun j => h.R.length - j) (s0 := 0) ⟨by omega, ⟨by intro j hj; omega⟩⟩ ?_
      rintro j ⟨hj, hjn⟩
      refine W_go ?_
      refine W_if (fun h2 => ?_) (fun h2 => ?_)
      · refine W_go ?_
        by_cases p1 : h.R.getD j 0 < -1
        · refine W_go ?_
          refine W_ift ?_
          refine W_go ?_
          refine W_rt [] [] ?_
          exact ⟨by rw [no.told (l := h.R) (j := j) (by omega) (by omega) (by simp)], rfl⟩
        · refine W_go ?_
          refine W_if (fun h3 => ?_) (fun h3 => ?_)
          · refine W_go ?_
            refine W_rt [] [] ?_
            exact ⟨by rw [no.told (l := h.R) (j := j) (by omega) (by omega) (by simp)], rfl⟩
          · refine W_go ?_
            refine W_bk (j + 1) ⟨by omega, ⟨fun j' hj' => ?_⟩⟩ (by omega)
            by_cases e : j' = j
            · subst e; omega
            · exact hjn.told j' (by omega)
      · refine W_go ?_
        refine W_bk 2 ⟨by omega, ⟨fun k hk => ?_⟩⟩ (by omega)
        rcases Nat.lt_or_ge k (2 - 1) with q | q
        · exact hne.told k q
        · obtain rfl : k = 2 - 1 := by omega
          intro j' hj'
          exact hjn.told j' (Nat.lt_of_lt_of_le hj' (show h.R.length ≤ j by omega))
    · refine W_go ?_
      refine W_lp (T := 53) (σ := Nat) (me := fun j => [(52, .int .i64 j)]) (mh := fun _ => []) (inv := fun j => j ≤ h.T.length ∧ Hold (∀ j', j' < j → (-1 ≤ h.T.getD j' 0 ∧ h.T.getD j' 0 < h.L.length))) (m := fun j => h.T.length - j) (s0 := 0) ⟨by omega, ⟨by intro j hj; omega⟩⟩ ?_
      rintro j ⟨hj, hjn⟩
      refine W_go ?_
      refine W_if (fun h2 => ?_) (fun h2 => ?_)
      · refine W_go ?_
        by_cases p1 : h.T.getD j 0 < -1
        · refine W_go ?_
          refine W_ift ?_
          refine W_go ?_
          refine W_rt [] [] ?_
          exact ⟨by rw [no.told (l := h.T) (j := j) (by omega) (by omega) (by simp)], rfl⟩
        · refine W_go ?_
          refine W_if (fun h3 => ?_) (fun h3 => ?_)
          · refine W_go ?_
            refine W_rt [] [] ?_
            exact ⟨by rw [no.told (l := h.T) (j := j) (by omega) (by omega) (by simp)], rfl⟩
          · refine W_go ?_
            refine W_bk (j + 1) ⟨by omega, ⟨fun j' hj' => ?_⟩⟩ (by omega)
            by_cases e : j' = j
            · subst e; omega
            · exact hjn.told j' (by omega)
      · refine W_go ?_
        refine W_bk 3 ⟨by omega, ⟨fun k hk => ?_⟩⟩ (by omega)
        rcases Nat.lt_or_ge k (3 - 1) with q | q
        · exact hne.told k q
        · obtain rfl : k = 3 - 1 := by omega
          intro j' hj'
          exact hjn.told j' (Nat.lt_of_lt_of_le hj' (show h.T.length ≤ j by omega))
  · refine W_go ?_
    refine W_rt [] [] ?_
    refine ⟨?_, rfl⟩
    rw [Hp.valid, decide_eq_true]
    have q0 := hne.told 0 (by omega)
    have q1 := hne.told 1 (by omega)
    have q2 := hne.told 2 (by omega)
    exact ⟨by omega, q0, q1, q2⟩
theorem iCountsOf_c (h : Hp) (hl : h.L.length ≤ 4194304 ∧ h.R.length ≤ 4194304 ∧ h.T.length ≤ 4194304) : Fn Tryz.prog 105 [(0, .c false (.ints h.L)), (1, .c false (.ints h.R)), (2, .c false (.ints h.T))] [.agg [.sl 0 0 h.L.length, .sl 1 0 h.R.length, .sl 2 0 h.T.length]] (fun r H => r = .sl 100 0 h.cnt.length ∧ H = [(100, .c true (.ints h.cnt))]) := by
  have hv := iHeapValid_c h hl
  refine Fn_go Tryz.func105 ?_
  refine W_go ?_
  by_cases g1 : h.valid = true
  case neg =>
    have g1 : h.valid = false := by simpa using g1
    rw [g1] at hv
    refine W_c1 [(0, (0, 0)), (1, (1, 0)), (2, (2, 0))] hv ?_
    refine W_ift ?_
    refine W_go ?_
    refine W_rt [] [(100, .ints [])] ?_
    have e : h.cnt = [] := by rw [Hp.cnt, if_neg (by rw [g1]; exact Bool.false_ne_true)]
    rw [e]
    exact ⟨rfl, rfl⟩
  rw [g1] at hv
  refine W_c1 [(0, (0, 0)), (1, (1, 0)), (2, (2, 0))] hv ?_
  refine W_iff ?_
  refine W_go ?_
  have hall := (Hp.ok_iff _).1 g1
  obtain ⟨⟨l1, l2, l3, l4, l5⟩, _⟩ := (Hp.ok_iff _).1 g1
  have l3a : h.R.length ≤ h.L.length := by omega
  have l3b : h.L.length ≤ h.R.length := by omega
  clear l3
  have hz := zConcat_c h.L h.R h.T (by omega)
  rw [show h.L ++ h.R ++ h.T = h.all from rfl] at hz
  refine W_c1 [(0, (5168, 0)), (1, (0, 0)), (2, (1, 0)), (3, (2, 0))] hz ?_
  have hal : h.all.length ≤ 20 := by unfold Hp.all; simp; omega
  replace hall : Hold _ := ⟨hall⟩
  refine W_go ?_
  refine W_lp (T := 23) (σ := Nat) (me := fun i => [(22, .int .i64 i)]) (mh := fun i => [(4120, .c true (.ints (cntN h.L.length h.all i)))]) (inv := fun i => i ≤ h.all.length) (m := fun i => h.all.length - i) (s0 := 0) (by omega) ?_ (hh := by rw [cntN_zero])
  rintro i hi
  have hcl := cntN_len h.L.length h.all i
  refine W_go ?_
  refine W_if (fun h1 => ?_) (fun h1 => ?_)
  · refine W_go ?_
    have hil : i < h.all.length := by omega
    have hp := okP_get (all_ok hall.told) hil
    refine W_if (fun h2 => ?_) (fun h2 => ?_)
    · have hp1 : 0 ≤ h.all.getD i 0 ∧ h.all.getD i 0 < h.L.length := by omega
      have hb := cntN_bound h.L.length h.all i (h.all.getD i 0).toNat (by omega)
      have hs := cntN_step hil hp1
      replace hs : Hold _ := ⟨hs⟩
      refine W_go ?_
      exact W_bh (i + 1) (by omega) (by omega) (by rw [hs.told])
    · have hs := cntN_skip (n := h.L.length) hil (Decidable.not_not.1 h2)
      replace hs : Hold _ := ⟨hs⟩
      refine W_go ?_
      exact W_bh (i + 1) (by omega) (by omega) (by rw [hs.told])
  · refine W_go ?_
    refine W_rt [(4120, (100, 0))] [] ?_
    have e : i = h.all.length := by omega
    subst e
    have e : h.cnt = cntN h.L.length h.all h.all.length := by rw [Hp.cnt, if_pos g1]
    rw [e, hcl]
    exact ⟨rfl, rfl⟩
theorem iStoreValid_c (s : Sto) (hl : (s.h.L.length ≤ 4194304 ∧ s.h.R.length ≤ 4194304 ∧ s.h.T.length ≤ 4194304) ∧ s.F.length ≤ 4194304) : Fn Tryz.prog 73 [(0, .c false (.ints s.h.L)), (1, .c false (.ints s.h.R)), (2, .c false (.ints s.h.T)), (3, .c false (.ints s.F))] [.agg [.sl 0 0 s.h.L.length, .sl 1 0 s.h.R.length, .sl 2 0 s.h.T.length, .sl 3 0 s.F.length]] (fun r H => r = .bool s.valid ∧ H = []) := by
  have hv := iHeapValid_c s.h hl.1
  have hc := iCountsOf_c s.h hl.1
  refine Fn_go Tryz.func73 ?_
  refine W_go ?_
  by_cases g1 : s.h.valid = true
  case neg =>
    have g1 : s.h.valid = false := by simpa using g1
    rw [g1] at hv
    refine W_c1 [(0, (0, 0)), (1, (1, 0)), (2, (2, 0))] hv ?_
    refine W_ift ?_
    refine W_go ?_
    refine W_rt [] [] ?_
    exact ⟨(by rw [Sto.valid, decide_eq_false]; rintro ⟨q, _⟩; rw [(Hp.ok_iff _).2 q] at g1; cases g1), rfl⟩
  rw [g1] at hv
  have ho := (Hp.ok_iff _).1 g1
  refine W_c1 [(0, (0, 0)), (1, (1, 0)), (2, (2, 0))] hv ?_
  refine W_iff ?_
  refine W_go ?_
  refine W_c1 [(0, (0, 0)), (1, (1, 0)), (2, (2, 0))] hc ?_
  have hcl : s.h.cnt.length = s.h.L.length := by rw [Hp.cnt, if_pos g1, cntN_len]
  have hrl : s.h.R.length = s.h.L.length := ho.1.2.2.1
  have hpos := @cnt_pos s.h ho
  have l1 : s.h.L.length ≤ 8 := ho.1.2.1
  rw [hcl]
  have hcla : s.h.L.length ≤ s.h.cnt.length := by omega
  have hrla : s.h.L.length ≤ s.h.R.length := by omega
  clear hcl hrl
  replace ho : Hold _ := ⟨ho⟩
  replace hpos : Hold _ := ⟨@hpos⟩
  refine W_go ?_
  refine W_lp (T := 17) (σ := Nat) (me := fun i => [(16, .int .i64 i)]) (mh := fun _ => []) (inv := fun i => i ≤ s.F.length ∧ Hold (∀ j, j < i → s.h.fr (s.F.getD j 0) ∧ s.F.getD j 0 ∉ s.F.take j)) (m := fun i => s.F.length - i) (s0 := 0) ⟨by omega, ⟨by intro j hj; omega⟩⟩ ?_
  rintro i ⟨hi, hne⟩
  refine W_go ?_
  refine W_if (fun h1 => ?_) (fun h1 => ?_)
  · refine W_go ?_
    have no : ¬ s.h.fr (s.F.getD i 0) → s.valid = false := by
      intro q
      rw [Sto.valid, decide_eq_false]
      intro q2
      exact q (q2.2 i (by omega)).1
    replace no : Hold _ := ⟨no⟩
    by_cases c1 : s.F.getD i 0 < 0
    · refine W_go ?_
      refine W_ift ?_
      refine W_go ?_
      refine W_rt [] [] ?_
      exact ⟨by rw [no.told (by unfold Hp.fr; omega)], rfl⟩
    by_cases c2 : (s.h.L.length : Int) ≤ s.F.getD i 0
    · refine W_go ?_
      refine W_ift ?_
      refine W_go ?_
      refine W_rt [] [] ?_
      exact ⟨by rw [no.told (by unfold Hp.fr; omega)], rfl⟩
    have c12 : (s.F.getD i 0).toNat < s.h.L.length := by omega
    by_cases c3 : 0 < s.h.cnt.getD (s.F.getD i 0).toNat 0
    · refine W_go ?_
      refine W_ift ?_
      refine W_go ?_
      refine W_rt [] [] ?_
      refine ⟨?_, rfl⟩
      rw [no.told]
      intro q
      have hm := (hpos.told c12).1 c3
      rw [Int.toNat_of_nonneg (by omega)] at hm
      unfold Hp.all at hm
      rw [List.mem_append, List.mem_append] at hm
      rcases hm with (hm | hm) | hm
      · exact q.2.2.2.1 hm
      · exact q.2.2.2.2.1 hm
      · exact q.2.2.2.2.2 hm
    by_cases c4 : s.h.L.getD (s.F.getD i 0).toNat 0 = -1
    case neg =>
      refine W_go ?_
      refine W_ift ?_
      refine W_go ?_
      refine W_rt [] [] ?_
      exact ⟨by rw [no.told (fun q => c4 q.2.1)], rfl⟩
    by_cases c5 : s.h.R.getD (s.F.getD i 0).toNat 0 = -1
    case neg =>
      refine W_go ?_
      refine W_ift ?_
      refine W_go ?_
      refine W_rt [] [] ?_
      exact ⟨by rw [no.told (fun q => c5 q.2.2.1)], rfl⟩
    have hz := zContains_c (s.F.take i) (s.F.getD i 0) (by simp; omega)
    refine W_ch1 [(0, (3, 0))] hz ?_
    refine W_if (fun h2 => ?_) (fun h2 => ?_)
    · refine W_go ?_
      refine W_rt [] [] ?_
      refine ⟨?_, rfl⟩
      rw [Sto.valid, decide_eq_false]
      intro q
      exact (q.2 i (by omega)).2 h2
    · refine W_go ?_
      refine W_bk (i + 1) ⟨by omega, ⟨fun j hj => ?_⟩⟩ (by omega)
      by_cases e : j = i
      · subst e
        refine ⟨?_, h2⟩
        have hm : s.F.getD j 0 ∉ s.h.all := fun q => c3 ((hpos.told c12).2 (by rw [Int.toNat_of_nonneg (by omega)]; exact q))
        unfold Hp.all at hm
        rw [List.mem_append, List.mem_append] at hm
        exact ⟨by omega, c4, c5, fun q => hm (.inl (.inl q)), fun q => hm (.inl (.inr q)), fun q => hm (.inr q)⟩
      · exact hne.told j (by omega)
  · refine W_go ?_
    refine W_rt [] [] ?_
    refine ⟨?_, rfl⟩
    rw [Sto.valid, decide_eq_true]
    exact ⟨ho.told, fun j hj => hne.told j (by omega)⟩
end Go.Proofs.YtbobhbhgomkgpaaGreatDoor.S

/- Contracts: the given program, reach and garbage. Own work of this claim. -/
namespace Go.Proofs.YtbobhbhgomkgpaaGreatDoor.S
set_option linter.all false
open Go Go.Proofs
set_option maxHeartbeats 4000000
set_option maxRecDepth 100000
set_option linter.unusedVariables false

theorem imeet_c (D Q : List Int) (p far : Int) (hp : p = -1 ∨ 0 ≤ p ∧ p < D.length) (hl : D.length ≤ 4194304 ∧ Q.length ≤ 4194304) :
    Fn Tryz.prog 102 [(0, .c true (.av 1 [.sl 1 0 D.length])), (1, .c true (.ints D)), (2, .c true (.av 1 [.sl 3 0 Q.length])), (3, .c true (.ints Q))] [.int .i64 p, .int .i64 far, .ptr 0 0, .ptr 2 0]
      (fun r H => r = .tup [] ∧ H = [(0, .c true (.av 1 [.sl 1 0 D.length])), (1, .c true (.ints (meetD D p far))), (2, .c true (.av 1 [.sl 100 0 (meetQ D Q p).length])), (100, .c true (.ints (meetQ D Q p)))]) := by
  refine Fn_go Tryz.func102 ?_
  by_cases p1 : p = -1
  · have e1 : meetD D p far = D := by rw [meetD, if_neg (fun q => q.1 p1)]
    have e2 : meetQ D Q p = Q := by rw [meetQ, if_neg (fun q => q.1 p1)]
    replace e1 : Hold _ := ⟨e1⟩
    replace e2 : Hold _ := ⟨e2⟩
    refine W_gh ?_
    refine W_iff ?_
    refine W_gh ?_
    refine W_re [(0, (0, 0)), (1, (1, 0)), (2, (2, 0)), (3, (100, 0))] [] ?_
    rw [e1.told, e2.told]
    exact ⟨rfl, rfl⟩
  · have hp' : 0 ≤ p ∧ p < D.length := by omega
    refine W_gh ?_
    refine W_if (fun h2 => ?_) (fun h2 => ?_)
    · have e1 : meetD D p far = D.set p.toNat far := by rw [meetD, if_pos ⟨p1, h2⟩]
      have e2 : meetQ D Q p = Q ++ [p] := by rw [meetQ, if_pos ⟨p1, h2⟩]
      replace e1 : Hold _ := ⟨e1⟩
      replace e2 : Hold _ := ⟨e2⟩
      refine W_go ?_
      refine W_re [(0, (0, 0)), (1, (1, 0)), (2, (2, 0)), (3096, (100, 0))] [] ?_
      rw [e1.told, e2.told]
      exact ⟨rfl, by simp⟩
    · have e1 : meetD D p far = D := by rw [meetD, if_neg (fun q => h2 q.2)]
      have e2 : meetQ D Q p = Q := by rw [meetQ, if_neg (fun q => h2 q.2)]
      replace e1 : Hold _ := ⟨e1⟩
      replace e2 : Hold _ := ⟨e2⟩
      refine W_go ?_
      refine W_re [(0, (0, 0)), (1, (1, 0)), (2, (2, 0)), (3, (100, 0))] [] ?_
      rw [e1.told, e2.told]
      exact ⟨rfl, rfl⟩
theorem imeet_n (n : Nat) (D Q : List Int) (p far : Int) (hn : D.length = n) (hp : p = -1 ∨ 0 ≤ p ∧ p < n) (hl : n ≤ 4194304 ∧ Q.length ≤ 4194304) :
    Fn Tryz.prog 102 [(0, .c true (.av 1 [.sl 1 0 n])), (1, .c true (.ints D)), (2, .c true (.av 1 [.sl 3 0 Q.length])), (3, .c true (.ints Q))] [.int .i64 p, .int .i64 far, .ptr 0 0, .ptr 2 0]
      (fun r H => r = .tup [] ∧ H = [(0, .c true (.av 1 [.sl 1 0 n])), (1, .c true (.ints (meetD D p far))), (2, .c true (.av 1 [.sl 100 0 (meetQ D Q p).length])), (100, .c true (.ints (meetQ D Q p)))]) := by
  subst hn; exact imeet_c D Q p far hp hl
theorem idistances_c (h : Hp) (ho : h.ok) : Fn Tryz.prog 62 [(0, .c false (.ints h.L)), (1, .c false (.ints h.R)), (2, .c false (.ints h.T))] [.agg [.sl 0 0 h.L.length, .sl 1 0 h.R.length, .sl 2 0 h.T.length]] (fun r H => ∃ D : List Int, (D.length = h.L.length ∧ ∀ c, c < h.L.length → (0 < D.getD c 0 ↔ Reach h c)) ∧ r = .sl 100 0 h.L.length ∧ H = [(100, .c true (.ints D))]) := by
  have l1 : h.L.length ≤ 8 := ho.1.2.1
  have l2 : h.T.length ≤ 3 := ho.1.2.2.2.2
  have l3 : h.L.length ≤ h.R.length := by have := ho.1.2.2.1; omega
  have ho' := ho
  replace ho : Hold _ := ⟨ho⟩
  refine Fn_go Tryz.func62 ?_
  refine W_go ?_
  refine W_fg [12, 13] ?_
  refine W_lp (T := 19) (σ := Nat × List Int × List Int) (me := fun s => [(18, .int .i64 s.1)]) (mh := fun s => [(2072, .c true (.ints s.2.1)), (3072, .c true (.ints s.2.2)), (3080, .c true (.av 1 [.sl 3072 0 s.2.2.length]))])
    (inv := fun s => s.1 ≤ h.T.length ∧ Hold (Bfs2 h s.2.1 s.2.2 s.1 0)) (m := fun s => h.T.length - s.1) (s0 := (0, List.replicate h.L.length 0, [])) ⟨by simp, ⟨bfs_start h⟩⟩ ?_
  rintro ⟨k, D, Q⟩ ⟨hk, ⟨hB⟩⟩
  dsimp only at hk hB ⊢
  have hQ := hB.b.le
  refine W_go ?_
  refine W_if (fun h1 => ?_) (fun h1 => ?_)
  · refine W_go ?_
    have hkl : k < h.T.length := by omega
    have hb2 := hB.root ho' hkl
    have hm := imeet_n h.L.length D Q (h.T.getD k 0) 1 hB.b.len (okP_get ho'.2.2.2 hkl) (by omega)
    replace hB : Hold _ := ⟨hB⟩
    replace hb2 : Hold _ := ⟨hb2⟩
    refine W_c1 [(0, (2080, 0)), (1, (2072, 0)), (2, (3080, 0)), (3, (3072, 0))] hm ?_
    refine W_go ?_
    refine W_rk 19 [(1024, (1024, 0)), (2072, (2072, 0)), (2080, (2080, 0)), (8208, (3072, 0)), (3080, (3080, 0))] ?_
    exact W_bh (k + 1, _, _) ⟨by dsimp only; omega, hb2⟩ (by dsimp only; omega) rfl
  refine W_go ?_
  have ek : k = h.T.length := by omega
  subst ek
  refine W_lp (T := 9) (σ := Nat × List Int × List Int) (me := fun s => [(8, .int .i64 s.1)]) (mh := fun s => [(2072, .c true (.ints s.2.1)), (3072, .c true (.ints s.2.2)), (3080, .c true (.av 1 [.sl 3072 0 s.2.2.length]))])
    (inv := fun s => s.1 ≤ s.2.2.length ∧ Hold (Bfs2 h s.2.1 s.2.2 h.T.length s.1)) (m := fun s => h.L.length - s.1) (s0 := (0, D, Q)) ⟨by simp, ⟨hB⟩⟩ ?_
  clear hB hQ h1 hk
  clear D Q
  rintro ⟨i, D, Q⟩ ⟨hi, ⟨hB⟩⟩
  dsimp only at hi hB ⊢
  have hQ := hB.b.le
  refine W_go ?_
  refine W_if (fun h1 => ?_) (fun h1 => ?_)
  · have hil : i < Q.length := by omega
    have hc := hB.b.inn _ (getD_mem hil)
    have hc1 := hc.1
    have hc2 := hc.2.1
    obtain ⟨b1, b2, b3, b4⟩ := hB.st ho' hil (k := 0) (by omega)
    obtain ⟨d1, d2, d3, d4⟩ := hB.st ho' hil (k := 1) (by omega)
    have htw : Bfs2 h (meetD (stD h D (Q.getD i 0).toNat 1) (h.R.getD (Q.getD i 0).toNat 0) ((stD h D (Q.getD i 0).toNat 1).getD (Q.getD i 0).toNat 0 + 1)) (meetQ (stD h D (Q.getD i 0).toNat 1) (stQ h D Q (Q.getD i 0).toNat 1) (h.R.getD (Q.getD i 0).toNat 0)) h.T.length (i + 1) ∧
      i < (meetQ (stD h D (Q.getD i 0).toNat 1) (stQ h D Q (Q.getD i 0).toNat 1) (h.R.getD (Q.getD i 0).toNat 0)).length := hB.two ho' hil
    have hcf := b1.far (Q.getD i 0).toNat (by omega)
    have hdf := d1.far (Q.getD i 0).toNat (by omega)
    have hq1 := d1.le
    have hDl : D.length = h.L.length := hB.b.len
    have hDa : h.L.length ≤ D.length := by omega
    have hDb : h.L.length ≤ (stD h D (Q.getD i 0).toNat 1).length := by rw [d1.len]; exact Nat.le_refl _
    have hiq : i < (stQ h D Q (Q.getD i 0).toNat 1).length := Nat.lt_of_lt_of_le hil (meetQ_getD D Q (nx h (Q.getD i 0).toNat 0) hil).2
    have hm0 := imeet_n h.L.length D Q (h.L.getD (Q.getD i 0).toNat 0) (D.getD (Q.getD i 0).toNat 0 + 1) hB.b.len b3 (by omega)
    have hm1 := imeet_n h.L.length (stD h D (Q.getD i 0).toNat 1) (stQ h D Q (Q.getD i 0).toNat 1) (h.R.getD (Q.getD i 0).toNat 0) ((stD h D (Q.getD i 0).toNat 1).getD (Q.getD i 0).toNat 0 + 1) d1.len d3 (by omega)
    have hf : 0 ≤ D.getD (Q.getD i 0).toNat 0 ∧ D.getD (Q.getD i 0).toNat 0 ≤ Q.length := hcf
    clear hc hcf hDl
    replace hB : Hold _ := ⟨hB⟩
    replace b1 : Hold _ := ⟨b1⟩
    replace b2 : Hold _ := ⟨b2⟩
    replace b3 : Hold _ := ⟨b3⟩
    replace b4 : Hold _ := ⟨b4⟩
    replace d1 : Hold _ := ⟨d1⟩
    replace d2 : Hold _ := ⟨d2⟩
    replace d3 : Hold _ := ⟨d3⟩
    replace d4 : Hold _ := ⟨d4⟩
    replace htw : Hold _ := ⟨htw⟩
    refine W_go ?_
    refine W_dc1 [(0, (2080, 0)), (1, (2072, 0)), (2, (3080, 0)), (3, (3072, 0))] hm0 [.c _ _ _] ?_
    rw [show meetD D (h.L.getD (Q.getD i 0).toNat 0) (D.getD (Q.getD i 0).toNat 0 + 1) = stD h D (Q.getD i 0).toNat 1 from rfl, show meetQ D Q (h.L.getD (Q.getD i 0).toNat 0) = stQ h D Q (Q.getD i 0).toNat 1 from rfl]
    generalize stD h D (Q.getD i 0).toNat 1 = D1 at *
    generalize stQ h D Q (Q.getD i 0).toNat 1 = Q1 at *
    have e4 := d4.told
    rw [← e4] at hm1 hc1 hc2 hdf
    replace htw := htw.told
    rw [← e4] at htw
    replace htw : Hold _ := ⟨htw⟩
    replace e4 : Hold _ := ⟨e4⟩
    refine W_go ?_
    refine W_dc1 [(0, (2080, 0)), (1, (2072, 0)), (2, (3080, 0)), (3, (13448, 0))] hm1 [.c _ _ _] ?_
    refine W_go ?_
    refine W_rk 9 [(1024, (1024, 0)), (2072, (2072, 0)), (2080, (2080, 0)), (14472, (3072, 0)), (3080, (3080, 0))] ?_
    exact W_bh (i + 1, _, _) ⟨Nat.succ_le_of_lt htw.told.2, ⟨htw.told.1⟩⟩ (by dsimp only; omega) rfl
  · refine W_go ?_
    have ei : i = Q.length := by omega
    subst ei
    refine W_rt [(2072, (100, 0))] [] ?_
    exact ⟨D, ⟨hB.b.len, hB.done ho'⟩, rfl, rfl⟩
theorem reach_nil' {h : Hp} (g : h.valid = false) : h.reach = [] := by rw [Hp.reach, if_neg (by rw [g]; exact Bool.false_ne_true)]
theorem iReachable_c (h : Hp) (hl : h.L.length ≤ 4194304 ∧ h.R.length ≤ 4194304 ∧ h.T.length ≤ 4194304) : Fn Tryz.prog 31 [(0, .c false (.ints h.L)), (1, .c false (.ints h.R)), (2, .c false (.ints h.T))] [.agg [.sl 0 0 h.L.length, .sl 1 0 h.R.length, .sl 2 0 h.T.length]] (fun r H => r = .sl 100 0 h.reach.length ∧ H = [(100, .c true (.bools h.reach))]) := by
  have hv := iHeapValid_c h hl
  refine Fn_go Tryz.func31 ?_
  refine W_go ?_
  by_cases g1 : h.valid = true
  case neg =>
    have g1 : h.valid = false := by simpa using g1
    rw [g1] at hv
    refine W_c1 [(0, (0, 0)), (1, (1, 0)), (2, (2, 0))] hv ?_
    refine W_ift ?_
    refine W_go ?_
    refine W_rt [] [(100, .bools [])] ?_
    rw [reach_nil' g1]
    exact ⟨rfl, rfl⟩
  rw [g1] at hv
  refine W_c1 [(0, (0, 0)), (1, (1, 0)), (2, (2, 0))] hv ?_
  refine W_iff ?_
  refine W_go ?_
  have ho := (Hp.ok_iff _).1 g1
  have hd := idistances_c h ho
  have l1 : h.L.length ≤ 8 := ho.1.2.1
  replace ho : Hold _ := ⟨ho⟩
  refine W_ce [(0, (0, 0)), (1, (1, 0)), (2, (2, 0))] hd ?_
  rintro D ⟨hD, hR⟩
  replace hR : Hold _ := ⟨hR⟩
  have hDa : h.L.length ≤ D.length := by omega
  clear hD
  refine W_go ?_
  refine W_fg [9] ?_
  refine W_lp (T := 14) (σ := Nat) (me := fun i => [(3, .sl 4096 0 i), (13, .int .i64 i)]) (mh := fun i => [(4096, .c true (.bools (posN D i)))]) (inv := fun i => i ≤ h.L.length) (m := fun i => h.L.length - i) (s0 := 0) (by omega) ?_
  rintro i hi
  have hpl := posN_len D i
  refine W_go ?_
  refine W_if (fun h1 => ?_) (fun h1 => ?_)
  · refine W_go ?_
    refine W_rk 14 [(1024, (1024, 0)), (8224, (4096, 0)), (5128, (5128, 0))] ?_
    exact W_bh (i + 1) (by omega) (by omega) (by rw [posN_succ, List.take_of_length_le (by omega)])
  · refine W_go ?_
    refine W_rt [(4096, (100, 0))] [] ?_
    have e : i = h.L.length := by omega
    subst e
    rw [← reach_of g1 hR.told, hpl]
    exact ⟨rfl, rfl⟩
end Go.Proofs.YtbobhbhgomkgpaaGreatDoor.S

/- Contracts: the given program, cells are freed. Own work of this claim. -/
namespace Go.Proofs.YtbobhbhgomkgpaaGreatDoor.S
set_option linter.all false
open Go Go.Proofs
set_option maxHeartbeats 4000000
set_option maxRecDepth 100000
set_option linter.unusedVariables false

/-- One cell is cleared. -/
def f1 (l : List Int) (c : Int) (j : Nat) : Int := if (l.set c.toNat (-1)).getD j 0 = c then -1 else (l.set c.toNat (-1)).getD j 0
theorem clr1 (l : List Int) (c : Int) (hc : 0 ≤ c ∧ c < l.length) : preN (f1 l c) (l.set c.toNat (-1)) l.length = clrL l [c] := by
  have e : l.length = (l.set c.toNat (-1)).length := by simp
  have : preN (f1 l c) (l.set c.toNat (-1)) l.length = (List.range l.length).map (f1 l c) := by
    conv => lhs; rw [e]
    rw [pre_full, ← e]
  rw [this]
  unfold clrL
  apply List.map_congr_left
  intro j hj
  rw [List.mem_range] at hj
  unfold f1 clrAt
  rw [getD_set (by omega)]
  simp only [List.mem_singleton]
  by_cases h1 : c.toNat = j
  · rw [if_pos h1, if_neg (by omega), if_pos (.inr (by omega))]
  · rw [if_neg h1]
    by_cases h2 : l.getD j 0 = c
    · rw [if_pos h2, if_pos (.inl h2)]
    · rw [if_neg h2, if_neg (by rintro (q | q); exact h2 q; omega)]
theorem iclear_c (s : Sto) (cells : List Int) (ho : s.h.ok) (hl : s.F.length ≤ 1048576 ∧ cells.length ≤ 1048576) (hc : ∀ x, x ∈ cells → 0 ≤ x ∧ x < s.h.L.length) :
    Fn Tryz.prog 67 [(0, .c true (.av 1 [.sl 1 0 s.h.L.length, .sl 2 0 s.h.R.length, .sl 3 0 s.h.T.length, .sl 4 0 s.F.length])), (1, .c true (.ints s.h.L)), (2, .c true (.ints s.h.R)), (3, .c true (.ints s.h.T)), (4, .c true (.ints s.F)), (5, .c false (.ints cells))] [.ptr 0 0, .sl 5 0 cells.length]
      (fun r H => r = .tup [] ∧ H = [(0, .c true (.av 1 [.sl 1 0 s.h.L.length, .sl 2 0 s.h.R.length, .sl 3 0 s.h.T.length, .sl 100 0 (s.F ++ cells).length])), (1, .c true (.ints (clrL s.h.L cells))), (2, .c true (.ints (clrL s.h.R cells))), (3, .c true (.ints s.h.T)), (100, .c true (.ints (s.F ++ cells)))]) := by
  obtain ⟨⟨l1, l2, l3, l4, l5⟩, _⟩ := ho
  have l3a : s.h.L.length ≤ s.h.R.length := by omega
  have l3b : s.h.R.length ≤ s.h.L.length := by omega
  clear l3
  replace hc : Hold _ := ⟨hc⟩
  refine Fn_go Tryz.func67 ?_
  refine W_mv 4 2048 ?_
  refine W_go ?_
  refine W_lp (T := 10) (σ := Nat) (me := fun k => [(9, .int .i64 k)]) (mh := fun k => [(0, .c true (.av 1 [.sl 1 0 s.h.L.length, .sl 2 0 s.h.R.length, .sl 3 0 s.h.T.length, .sl 2048 0 (s.F ++ cells.take k).length])), (1, .c true (.ints (clrL s.h.L (cells.take k)))), (2, .c true (.ints (clrL s.h.R (cells.take k)))), (2048, .c true (.ints (s.F ++ cells.take k)))])
    (inv := fun k => k ≤ cells.length) (m := fun k => cells.length - k) (s0 := 0) (by omega) ?_ (hh := by simp [clrL_nil])
  rintro k hk
  refine W_go ?_
  refine W_if (fun h1 => ?_) (fun h1 => ?_)
  · have hkl : k < cells.length := by omega
    have hcr := hc.told _ (getD_mem hkl)
    have htk := take_succ_getD hkl
    have sL := clrL_step s.h.L (cells.take k) (cells.getD k 0) hcr.1
    have sR := clrL_step s.h.R (cells.take k) (cells.getD k 0) hcr.1
    rw [htk] at sL sR
    have l0 := clrL_len s.h.L (cells.take k)
    have r0 := clrL_len s.h.R (cells.take k)
    have oL := clr1 (clrL s.h.L (cells.take k)) (cells.getD k 0) (by omega)
    have oR := clr1 (clrL s.h.R (cells.take k)) (cells.getD k 0) (by omega)
    rw [sL, l0] at oL
    rw [sR, r0] at oR
    have htl : (s.F ++ cells.take (k + 1)).length = (s.F ++ cells.take k).length + 1 := by rw [← htk]; simp; omega
    have htl2 : (s.F ++ cells.take k).length ≤ 2097152 := by simp; omega
    have htF : s.F ++ cells.take (k + 1) = s.F ++ cells.take k ++ [cells.getD k 0] := by rw [← htk, List.append_assoc]
    have hF' : (s.F ++ cells.take k).length = s.F.length + k := by simp; omega
    clear sL sR
    generalize clrL s.h.L (cells.take k) = L' at *
    generalize clrL s.h.R (cells.take k) = R' at *
    generalize s.F ++ cells.take k = F' at *
    have l0a : s.h.L.length ≤ L'.length := by omega
    have r0a : s.h.R.length ≤ R'.length := by omega
    replace l0 : Hold _ := ⟨l0⟩
    replace r0 : Hold _ := ⟨r0⟩
    replace htk : Hold _ := ⟨htk⟩
    replace oL : Hold _ := ⟨oL⟩
    replace oR : Hold _ := ⟨oR⟩
    replace htF : Hold _ := ⟨htF⟩
    replace htl : Hold _ := ⟨htl⟩
    refine W_go ?_
    refine W_lp (T := 34) (σ := Nat) (me := fun j => [(33, .int .i64 j)]) (mh := fun j => [(1, .c true (.ints (preN (f1 L' (cells.getD k 0)) (L'.set (cells.getD k 0).toNat (-1)) j))), (2, .c true (.ints (preN (f1 R' (cells.getD k 0)) (R'.set (cells.getD k 0).toNat (-1)) j)))])
      (inv := fun j => j ≤ s.h.L.length) (m := fun j => s.h.L.length - j) (s0 := 0) (by omega) ?_ (hh := by rw [pre_zero, pre_zero])
    rintro j hj
    refine W_go ?_
    refine W_if (fun h2 => ?_) (fun h2 => ?_)
    · have ll := pre_len (f := f1 L' (cells.getD k 0)) (l := L'.set (cells.getD k 0).toNat (-1)) (i := j) (by simp; omega)
      have lr := pre_len (f := f1 R' (cells.getD k 0)) (l := R'.set (cells.getD k 0).toNat (-1)) (i := j) (by simp; omega)
      rw [List.length_set] at ll lr
      have lla : s.h.L.length ≤ (preN (f1 L' (cells.getD k 0)) (L'.set (cells.getD k 0).toNat (-1)) j).length := by omega
      have lra : s.h.R.length ≤ (preN (f1 R' (cells.getD k 0)) (R'.set (cells.getD k 0).toNat (-1)) j).length := by omega
      clear ll lr
      have jl : j < (L'.set (cells.getD k 0).toNat (-1)).length := by simp; omega
      have jr : j < (R'.set (cells.getD k 0).toNat (-1)).length := by simp; omega
      have gl := pre_get (f := f1 L' (cells.getD k 0)) jl
      have gr := pre_get (f := f1 R' (cells.getD k 0)) jr
      have sl := pre_set (f := f1 L' (cells.getD k 0)) jl
      have sr := pre_set (f := f1 R' (cells.getD k 0)) jr
      have kl := pre_skip (f := f1 L' (cells.getD k 0)) jl
      have kr := pre_skip (f := f1 R' (cells.getD k 0)) jr
      clear jl jr
      replace sl : Hold _ := ⟨sl⟩
      replace sr : Hold _ := ⟨sr⟩
      replace kl : Hold _ := ⟨kl⟩
      replace kr : Hold _ := ⟨kr⟩
      replace gl : Hold _ := ⟨gl⟩
      replace gr : Hold _ := ⟨gr⟩
      refine W_go ?_
      refine W_jn (σ := Unit) 34 (fun _ => [(6, .int .i64 j)]) (fun _ => [(1, .c true (.ints (preN (f1 L' (cells.getD k 0)) (L'.set (cells.getD k 0).toNat (-1)) (j + 1))))]) (fun _ => True) ?_ ?_
      · refine W_if (fun e => ?_) (fun e => ?_)
        · have hb := sl.told
          rw [show f1 L' (cells.getD k 0) j = -1 by rw [f1, if_pos (by rw [← gl.told]; exact e)]] at hb
          replace hb : Hold _ := ⟨hb⟩
          refine W_go ?_
          exact W_bj () trivial (hh := by rw [← hb.told])
        · have hb := kl.told (by rw [f1, if_neg (by rw [← gl.told]; exact e)])
          replace hb : Hold _ := ⟨hb⟩
          refine W_go ?_
          exact W_bj () trivial (hh := by rw [← hb.told])
      rintro _ _
      refine W_go ?_
      refine W_jn (σ := Unit) 34 (fun _ => []) (fun _ => [(2, .c true (.ints (preN (f1 R' (cells.getD k 0)) (R'.set (cells.getD k 0).toNat (-1)) (j + 1))))]) (fun _ => True) ?_ ?_
      · refine W_if (fun e => ?_) (fun e => ?_)
        · have hb := sr.told
          rw [show f1 R' (cells.getD k 0) j = -1 by rw [f1, if_pos (by rw [← gr.told]; exact e)]] at hb
          replace hb : Hold _ := ⟨hb⟩
          refine W_go ?_
          exact W_bj () trivial (hh := by rw [← hb.told])
        · have hb := kr.told (by rw [f1, if_neg (by rw [← gr.told]; exact e)])
          replace hb : Hold _ := ⟨hb⟩
          refine W_go ?_
          exact W_bj () trivial (hh := by rw [← hb.told])
      rintro _ _
      refine W_go ?_
      exact W_bk (j + 1) (by omega) (by omega)
    · have ej : j = s.h.L.length := by omega
      have ej2 : j = s.h.R.length := by omega
      rw [show preN (f1 L' (cells.getD k 0)) (L'.set (cells.getD k 0).toNat (-1)) j = clrL s.h.L (cells.take (k + 1)) by rw [ej]; exact oL.told]
      rw [show preN (f1 R' (cells.getD k 0)) (R'.set (cells.getD k 0).toNat (-1)) j = clrL s.h.R (cells.take (k + 1)) by rw [ej2]; exact oR.told]
      clear ej ej2
      refine W_go ?_
      refine W_rk 10 [(13368, (2048, 0))] ?_
      exact W_bh (k + 1) (by omega) (by omega) (by rw [htF.told, List.take_of_length_le (show F'.length ≤ s.F.length + k by omega)]; simp [hF'])
  · have ek : k = cells.length := by omega
    subst ek
    rw [List.take_length]
    refine W_go ?_
    refine W_re [(0, (0, 0)), (1, (1, 0)), (2, (2, 0)), (3, (3, 0)), (2048, (100, 0))] [] ?_
    exact ⟨rfl, by simp⟩
end Go.Proofs.YtbobhbhgomkgpaaGreatDoor.S
