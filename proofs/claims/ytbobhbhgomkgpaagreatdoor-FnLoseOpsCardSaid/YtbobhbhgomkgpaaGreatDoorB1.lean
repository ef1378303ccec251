/- Texts of this claim's own, laid as one: Fa Fb Fc Fd Fe Ff. Own work of this claim. -/
import Derived.Test.YtbobhbhgomkgpaaGreatDoorSw
import Derived.Test.YtbobhbhgomkgpaaGreatDoorA4
/- Contracts: the law's own small functions. Own work of this claim. -/
namespace Go.Proofs.YtbobhbhgomkgpaaGreatDoor.S
set_option linter.all false
open Go Go.Proofs

theorem l4At_c (l : List Int) (n : Int) (hl : l.length < 1099511627776) : Fn Tryz.prog 133 [(0, .c false (.ints l))] [.sl 0 0 l.length, .int .i64 n] (fun r H => r = .int .i64 (idx l n) ∧ H = []) := by
  refine Fn_go Tryz.func133 ?_
  refine W_go ?_
  refine W_lp (T := 6) (σ := Nat) (me := fun i => [(5, .int .i64 i)]) (mh := fun _ => []) (inv := fun i => i ≤ l.length ∧ ∀ j, j < i → l.getD j 0 ≠ n) (m := fun i => l.length - i) (s0 := 0) (by simp) ?_
  rintro i ⟨hi, hne⟩
  refine W_go ?_
  refine W_if (fun h1 => ?_) (fun h1 => ?_)
  · refine W_go ?_
    refine W_if (fun h2 => ?_) (fun h2 => ?_)
    · refine W_go ?_
      refine W_rt [] [] ?_
      exact ⟨by rw [idx_at (by omega) hne h2], rfl⟩
    · refine W_go ?_
      refine W_bk (i + 1) ⟨by omega, fun j hj => ?_⟩ (by omega)
      by_cases e : j = i
      · subst e; exact h2
      · exact hne j (by omega)
  · refine W_go ?_
    refine W_rt [] [] ?_
    exact ⟨by rw [idx_none (fun j hj => hne j (by omega))], rfl⟩

theorem szIntS_c (l : List Int) (n : Int) (hl : l.length ≤ 9223372036854775807) (hn : -1 ≤ n ∧ n < 1099511627776) : Fn Tryz.prog 77 [(0, .c false (.ints l))] [.sl 0 0 l.length, .int .i64 n] (fun r H => r = .int .i64 (szI l n) ∧ H = []) := by
  refine Fn_go Tryz.func77 ?_
  refine W_go ?_
  refine W_if (fun h1 => ?_) (fun h1 => ?_)
  · refine W_go ?_
    refine W_rt [] [] ?_
    exact ⟨by rw [szI, if_pos (by omega)], rfl⟩
  · refine W_go ?_
    refine W_rt [] [] ?_
    exact ⟨by rw [szI, if_neg (by omega)], rfl⟩

theorem toIntS_c (l : List Int) (hl : l.length < 1099511627776) : Fn Tryz.prog 79 [(0, .c false (.ints l))] [.sl 0 0 l.length] (fun r H => r = .sl 100 0 l.length ∧ H = [(100, .c true (.ints l))]) := by
  refine Fn_go Tryz.func79 ?_
  refine W_go ?_
  refine W_lp (T := 6) (σ := Nat) (me := fun i => [(4, .int .i64 i)]) (mh := fun i => [(2064, .c true (.ints (l.take i ++ List.replicate (l.length - i) 0)))]) (inv := fun i => i ≤ l.length) (m := fun i => l.length - i) (s0 := 0) (by simp) ?_
  rintro i hi
  refine W_go ?_
  refine W_if (fun h1 => ?_) (fun h1 => ?_)
  · refine W_go ?_
    exact W_bh (i + 1) (by omega) (by omega) (by rw [fill_set rfl (by omega)])
  · refine W_go ?_
    refine W_rt [(2064, (100, 0))] [] ?_
    have e : i = l.length := by omega
    subst e
    simp
theorem eqIntS_c (a b : List Int) (ha : a.length < 1099511627776) (hb : b.length < 1099511627776) : Fn Tryz.prog 82 [(0, .c false (.ints a)), (1, .c false (.ints b))] [.sl 0 0 a.length, .sl 1 0 b.length] (fun r H => r = .bool (decide (a = b)) ∧ H = []) := by
  refine Fn_go Tryz.func82 ?_
  refine W_go ?_
  refine W_if (fun h1 => ?_) (fun h1 => ?_)
  · refine W_go ?_
    refine W_rt [] [] ?_
    exact ⟨by rw [decide_eq_false]; rintro rfl; exact h1 rfl, rfl⟩
  · refine W_go ?_
    refine W_lp (T := 6) (σ := Nat) (me := fun i => [(5, .int .i64 i)]) (mh := fun _ => []) (inv := fun i => i ≤ a.length ∧ ∀ j, j < i → a.getD j 0 = b.getD j 0) (m := fun i => a.length - i) (s0 := 0) (by simp) ?_
    rintro i ⟨hi, hne⟩
    refine W_go ?_
    refine W_if (fun h2 => ?_) (fun h2 => ?_)
    · refine W_go ?_
      refine W_if (fun h3 => ?_) (fun h3 => ?_)
      · refine W_go ?_
        refine W_rt [] [] ?_
        exact ⟨by rw [decide_eq_false]; rintro rfl; exact h3 rfl, rfl⟩
      · refine W_go ?_
        refine W_bk (i + 1) ⟨by omega, fun j hj => ?_⟩ (by omega)
        by_cases e : j = i
        · subst e; exact Decidable.not_not.1 h3
        · exact hne j (by omega)
    · refine W_go ?_
      refine W_rt [] [] ?_
      exact ⟨by rw [decide_eq_true]; exact same_of (by omega) fun j hj => hne j (by omega), rfl⟩
theorem szHeap_c (h : Hp) (n : Int) (hl : h.L.length ≤ 9223372036854775807 ∧ h.R.length ≤ 9223372036854775807 ∧ h.T.length ≤ 9223372036854775807) (hn : 0 ≤ n ∧ n < 1099511627776) : Fn Tryz.prog 76 [(0, .c false (.ints h.L)), (1, .c false (.ints h.R)), (2, .c false (.ints h.T))] [.agg [.sl 0 0 h.L.length, .sl 1 0 h.R.length, .sl 2 0 h.T.length], .int .i64 n] (fun r H => r = .int .i64 (szH h n) ∧ H = []) := by
  refine Fn_go Tryz.func76 ?_
  refine W_go ?_
  refine W_c1 [(0, (0, 0))] (szIntS_c h.L n hl.1 (by omega)) ?_
  refine W_go ?_
  have s1 := @szI_lt h.L n
  refine W_if (fun h1 => ?_) (fun h1 => ?_)
  · refine W_go ?_
    refine W_rt [] [] ?_
    exact ⟨by rw [szH, if_pos h1], rfl⟩
  refine W_go ?_
  refine W_c1 [(0, (1, 0))] (szIntS_c h.R (szI h.L n) hl.2.1 (by omega)) ?_
  refine W_go ?_
  have s2 := @szI_lt h.R (szI h.L n)
  refine W_if (fun h2 => ?_) (fun h2 => ?_)
  · refine W_go ?_
    refine W_rt [] [] ?_
    exact ⟨by rw [szH, if_neg h1, if_pos h2], rfl⟩
  refine W_go ?_
  refine W_c1 [(0, (2, 0))] (szIntS_c h.T (szI h.R (szI h.L n)) hl.2.2 (by omega)) ?_
  refine W_go ?_
  refine W_if (fun h3 => ?_) (fun h3 => ?_)
  · refine W_go ?_
    refine W_rt [] [] ?_
    exact ⟨by rw [szH, if_neg h1, if_neg h2, if_pos h3], rfl⟩
  refine W_go ?_
  refine W_rt [] [] ?_
  exact ⟨by rw [szH, if_neg h1, if_neg h2, if_neg h3], rfl⟩
theorem szH_lt {h : Hp} {n : Int} : 0 ≤ szH h n ∧ szH h n = n - h.L.length - h.R.length - h.T.length ∨ szH h n = -1 := by
  have s1 := @szI_lt h.L n
  have s2 := @szI_lt h.R (szI h.L n)
  have s3 := @szI_lt h.T (szI h.R (szI h.L n))
  unfold szH
  split
  · omega
  · split
    · omega
    · split <;> omega
theorem szS_ok {s : Sto} {n : Int} (h : ¬ szS s n < 0) : (s.h.L.length : Int) + s.h.R.length + s.h.T.length + s.F.length ≤ n := by
  have s1 := @szH_lt s.h n
  have s2 := @szI_lt s.F (szH s.h n)
  unfold szS at h
  split at h
  · omega
  · split at h <;> omega
theorem szStore_c (s : Sto) (n : Int) (hl : (s.h.L.length ≤ 9223372036854775807 ∧ s.h.R.length ≤ 9223372036854775807 ∧ s.h.T.length ≤ 9223372036854775807) ∧ s.F.length ≤ 9223372036854775807) (hn : 0 ≤ n ∧ n < 1099511627776) : Fn Tryz.prog 40 [(0, .c false (.ints s.h.L)), (1, .c false (.ints s.h.R)), (2, .c false (.ints s.h.T)), (3, .c false (.ints s.F))] [.agg [.sl 0 0 s.h.L.length, .sl 1 0 s.h.R.length, .sl 2 0 s.h.T.length, .sl 3 0 s.F.length], .int .i64 n] (fun r H => r = .int .i64 (szS s n) ∧ H = []) := by
  refine Fn_go Tryz.func40 ?_
  refine W_go ?_
  refine W_c1 [(0, (0, 0)), (1, (1, 0)), (2, (2, 0))] (szHeap_c s.h n hl.1 (by omega)) ?_
  refine W_go ?_
  have s1 := @szH_lt s.h n
  refine W_if (fun h1 => ?_) (fun h1 => ?_)
  · refine W_go ?_
    refine W_rt [] [] ?_
    exact ⟨by rw [szS, if_pos h1], rfl⟩
  refine W_go ?_
  refine W_c1 [(0, (3, 0))] (szIntS_c s.F (szH s.h n) hl.2 (by omega)) ?_
  refine W_go ?_
  refine W_if (fun h2 => ?_) (fun h2 => ?_)
  · refine W_go ?_
    refine W_rt [] [] ?_
    exact ⟨by rw [szS, if_neg h1, if_pos h2], rfl⟩
  refine W_go ?_
  refine W_rt [] [] ?_
  exact ⟨by rw [szS, if_neg h1, if_neg h2], rfl⟩
theorem toHeap_c (h : Hp) (hl : h.L.length < 1099511627776 ∧ h.R.length < 1099511627776 ∧ h.T.length < 1099511627776) : Fn Tryz.prog 78 [(0, .c false (.ints h.L)), (1, .c false (.ints h.R)), (2, .c false (.ints h.T))] [.agg [.sl 0 0 h.L.length, .sl 1 0 h.R.length, .sl 2 0 h.T.length]] (fun r H => r = .agg [.sl 100 0 h.L.length, .sl 101 0 h.R.length, .sl 102 0 h.T.length] ∧ H = [(100, .c true (.ints h.L)), (101, .c true (.ints h.R)), (102, .c true (.ints h.T))]) := by
  refine Fn_go Tryz.func78 ?_
  refine W_go ?_
  refine W_c1 [(0, (0, 0))] (toIntS_c h.L hl.1) ?_
  refine W_go ?_
  refine W_c1 [(0, (1, 0))] (toIntS_c h.R hl.2.1) ?_
  refine W_go ?_
  refine W_c1 [(0, (2, 0))] (toIntS_c h.T hl.2.2) ?_
  refine W_go ?_
  exact W_rt [(3088, (100, 0)), (4112, (101, 0)), (5136, (102, 0))] [] ⟨rfl, rfl⟩
theorem toStore_c (s : Sto) (hl : (s.h.L.length < 1099511627776 ∧ s.h.R.length < 1099511627776 ∧ s.h.T.length < 1099511627776) ∧ s.F.length < 1099511627776) : Fn Tryz.prog 43 [(0, .c false (.ints s.h.L)), (1, .c false (.ints s.h.R)), (2, .c false (.ints s.h.T)), (3, .c false (.ints s.F))] [.agg [.sl 0 0 s.h.L.length, .sl 1 0 s.h.R.length, .sl 2 0 s.h.T.length, .sl 3 0 s.F.length]] (fun r H => r = .agg [.sl 100 0 s.h.L.length, .sl 101 0 s.h.R.length, .sl 102 0 s.h.T.length, .sl 103 0 s.F.length] ∧ H = [(100, .c true (.ints s.h.L)), (101, .c true (.ints s.h.R)), (102, .c true (.ints s.h.T)), (103, .c true (.ints s.F))]) := by
  refine Fn_go Tryz.func43 ?_
  refine W_go ?_
  refine W_c1 [(0, (0, 0)), (1, (1, 0)), (2, (2, 0))] (toHeap_c s.h hl.1) ?_
  refine W_go ?_
  refine W_c1 [(0, (3, 0))] (toIntS_c s.F hl.2) ?_
  refine W_go ?_
  exact W_rt [(3088, (100, 0)), (3089, (101, 0)), (3090, (102, 0)), (4112, (103, 0))] [] ⟨rfl, rfl⟩
theorem eqHeap_c (a b : Hp) (ha : a.L.length < 1099511627776 ∧ a.R.length < 1099511627776 ∧ a.T.length < 1099511627776) (hb : b.L.length < 1099511627776 ∧ b.R.length < 1099511627776 ∧ b.T.length < 1099511627776) :
    Fn Tryz.prog 81 [(0, .c false (.ints a.L)), (1, .c false (.ints a.R)), (2, .c false (.ints a.T)), (3, .c false (.ints b.L)), (4, .c false (.ints b.R)), (5, .c false (.ints b.T))] [.agg [.sl 0 0 a.L.length, .sl 1 0 a.R.length, .sl 2 0 a.T.length], .agg [.sl 3 0 b.L.length, .sl 4 0 b.R.length, .sl 5 0 b.T.length]] (fun r H => r = .bool (a.same b) ∧ H = []) := by
  refine Fn_go Tryz.func81 ?_
  refine W_go ?_
  refine W_c1 [(0, (0, 0)), (1, (3, 0))] (eqIntS_c a.L b.L ha.1 hb.1) ?_
  refine W_if (fun h1 => ?_) (fun h1 => ?_)
  · refine W_go ?_
    refine W_rt [] [] ?_
    exact ⟨by simp [Hp.same, h1], rfl⟩
  refine W_go ?_
  refine W_c1 [(0, (1, 0)), (1, (4, 0))] (eqIntS_c a.R b.R ha.2.1 hb.2.1) ?_
  refine W_if (fun h2 => ?_) (fun h2 => ?_)
  · refine W_go ?_
    refine W_rt [] [] ?_
    exact ⟨by simp [Hp.same, h2], rfl⟩
  refine W_go ?_
  refine W_c1 [(0, (2, 0)), (1, (5, 0))] (eqIntS_c a.T b.T ha.2.2 hb.2.2) ?_
  refine W_if (fun h3 => ?_) (fun h3 => ?_)
  · refine W_go ?_
    refine W_rt [] [] ?_
    exact ⟨by simp [Hp.same, h3], rfl⟩
  refine W_go ?_
  refine W_rt [] [] ?_
  exact ⟨by simp [Hp.same, Decidable.not_not.1 h1, Decidable.not_not.1 h2, Decidable.not_not.1 h3], rfl⟩
theorem eqStore_c (a b : Sto) (ha : (a.h.L.length < 1099511627776 ∧ a.h.R.length < 1099511627776 ∧ a.h.T.length < 1099511627776) ∧ a.F.length < 1099511627776) (hb : (b.h.L.length < 1099511627776 ∧ b.h.R.length < 1099511627776 ∧ b.h.T.length < 1099511627776) ∧ b.F.length < 1099511627776) :
    Fn Tryz.prog 46 [(0, .c false (.ints a.h.L)), (1, .c false (.ints a.h.R)), (2, .c false (.ints a.h.T)), (3, .c false (.ints a.F)), (4, .c false (.ints b.h.L)), (5, .c false (.ints b.h.R)), (6, .c false (.ints b.h.T)), (7, .c false (.ints b.F))] [.agg [.sl 0 0 a.h.L.length, .sl 1 0 a.h.R.length, .sl 2 0 a.h.T.length, .sl 3 0 a.F.length], .agg [.sl 4 0 b.h.L.length, .sl 5 0 b.h.R.length, .sl 6 0 b.h.T.length, .sl 7 0 b.F.length]] (fun r H => r = .bool (a.same b) ∧ H = []) := by
  refine Fn_go Tryz.func46 ?_
  refine W_go ?_
  refine W_c1 [(0, (0, 0)), (1, (1, 0)), (2, (2, 0)), (3, (4, 0)), (4, (5, 0)), (5, (6, 0))] (eqHeap_c a.h b.h ha.1 hb.1) ?_
  refine W_ifb (fun h1 => ?_) (fun h1 => ?_)
  · refine W_go ?_
    refine W_rt [] [] ?_
    exact ⟨by simp [Sto.same] at h1 ⊢; simp [h1], rfl⟩
  refine W_go ?_
  refine W_c1 [(0, (3, 0)), (1, (7, 0))] (eqIntS_c a.F b.F ha.2 hb.2) ?_
  refine W_if (fun h2 => ?_) (fun h2 => ?_)
  · refine W_go ?_
    refine W_rt [] [] ?_
    exact ⟨by simp [Sto.same, h2], rfl⟩
  refine W_go ?_
  refine W_rt [] [] ?_
  exact ⟨by simp at h1; simp [Sto.same, h1, Decidable.not_not.1 h2], rfl⟩
theorem Hp.same_self (h : Hp) : h.same h = true := by simp [Hp.same]
theorem Sto.same_self (s : Sto) : s.same s = true := by simp [Sto.same, Hp.same_self]
def mkS (s : Sto) (k : Int) : Sto := ⟨⟨mkI s.h.L.length k, mkI s.h.R.length (k + s.h.L.length), mkI s.h.T.length (k + s.h.L.length + s.h.R.length)⟩, mkI s.F.length (k + s.h.L.length + s.h.R.length + s.h.T.length)⟩
/-- What the exact laws ask of a store: told at once. -/
theorem eqStore_t (a : Sto) (ha : (a.h.L.length ≤ 4194304 ∧ a.h.R.length ≤ 4194304 ∧ a.h.T.length ≤ 4194304) ∧ a.F.length ≤ 4194304) : Fn Tryz.prog 46 [(0, .c false (.ints a.h.L)), (1, .c false (.ints a.h.R)), (2, .c false (.ints a.h.T)), (3, .c false (.ints a.F)), (4, .c false (.ints a.h.L)), (5, .c false (.ints a.h.R)), (6, .c false (.ints a.h.T)), (7, .c false (.ints a.F))] [.agg [.sl 0 0 a.h.L.length, .sl 1 0 a.h.R.length, .sl 2 0 a.h.T.length, .sl 3 0 a.F.length], .agg [.sl 4 0 a.h.L.length, .sl 5 0 a.h.R.length, .sl 6 0 a.h.T.length, .sl 7 0 a.F.length]] (fun r H => r = .bool true ∧ H = []) := by
  have := eqStore_c a a (by omega) (by omega)
  rw [Sto.same_self] at this
  exact this
end Go.Proofs.YtbobhbhgomkgpaaGreatDoor.S

/- Contracts: the given program's reference. Own work of this claim. -/
namespace Go.Proofs.YtbobhbhgomkgpaaGreatDoor.S
set_option linter.all false
open Go Go.Proofs
set_option maxHeartbeats 4000000
set_option linter.unusedVariables false

theorem sl1Points_c (to n : Int) (hn : 0 ≤ n ∧ n < 1099511627776) : Fn Tryz.prog 147 [] [.int .i64 to, .int .i64 n] (fun r H => r = .bool (decide (-1 ≤ to ∧ to < n)) ∧ H = []) := by
  refine Fn_go Tryz.func147 ?_
  by_cases h1 : -1 ≤ to
  · refine W_go ?_
    refine W_rt [] [] ?_
    exact ⟨by simp [h1], rfl⟩
  · refine W_go ?_
    refine W_rt [] [] ?_
    exact ⟨by simp [h1], rfl⟩
theorem sl1Many_c (n : Nat) (hn : n ≤ 4194304) : Fn Tryz.prog 128 [] [.int .i64 n] (fun r H => r = .sl 100 0 n ∧ H = [(100, .c true (.ints (List.replicate n (-1))))]) := by
  refine Fn_go Tryz.func128 ?_
  refine W_go ?_
  refine W_lp (T := 5) (σ := Nat) (me := fun i => [(4, .int .i64 i), (3, .sl 2048 0 i)]) (mh := fun i => [(2048, .c true (.ints (List.replicate i (-1))))]) (inv := fun i => i ≤ n) (m := fun i => n - i) (s0 := 0) (by simp) ?_
  rintro i hi
  refine W_go ?_
  refine W_if (fun h1 => ?_) (fun h1 => ?_)
  · refine W_go ?_
    refine W_rn [(6160, (2048, 0))] ?_
    exact W_bh (i + 1) (by omega) (by omega) (by rw [List.replicate_succ'])
  · refine W_go ?_
    refine W_rt [(2048, (100, 0))] [] ?_
    have e : i = n := by omega
    subst e
    exact ⟨rfl, rfl⟩
theorem sl1Copy_c (h : Hp) (hl : h.L.length ≤ 4194304 ∧ h.R.length ≤ 4194304 ∧ h.T.length ≤ 4194304) : Fn Tryz.prog 118 [(0, .c false (.ints h.L)), (1, .c false (.ints h.R)), (2, .c false (.ints h.T))] [.agg [.sl 0 0 h.L.length, .sl 1 0 h.R.length, .sl 2 0 h.T.length]] (fun r H => r = .agg [.sl 100 0 h.L.length, .sl 101 0 h.R.length, .sl 102 0 h.T.length] ∧ H = [(100, .c true (.ints h.L)), (101, .c true (.ints h.R)), (102, .c true (.ints h.T))]) := by
  refine Fn_go Tryz.func118 ?_
  refine W_go ?_
  exact W_rt [(2072, (100, 0)), (2104, (101, 0)), (2136, (102, 0))] [] ⟨rfl, rfl⟩
theorem sl4Copy_c (s : Sto) (hl : (s.h.L.length ≤ 4194304 ∧ s.h.R.length ≤ 4194304 ∧ s.h.T.length ≤ 4194304) ∧ s.F.length ≤ 4194304) : Fn Tryz.prog 94 [(0, .c false (.ints s.h.L)), (1, .c false (.ints s.h.R)), (2, .c false (.ints s.h.T)), (3, .c false (.ints s.F))] [.agg [.sl 0 0 s.h.L.length, .sl 1 0 s.h.R.length, .sl 2 0 s.h.T.length, .sl 3 0 s.F.length]] (fun r H => r = .agg [.sl 100 0 s.h.L.length, .sl 101 0 s.h.R.length, .sl 102 0 s.h.T.length, .sl 103 0 s.F.length] ∧ H = [(100, .c true (.ints s.h.L)), (101, .c true (.ints s.h.R)), (102, .c true (.ints s.h.T)), (103, .c true (.ints s.F))]) := by
  refine Fn_go Tryz.func94 ?_
  refine W_go ?_
  refine W_dc1 [(0, (0, 0)), (1, (1, 0)), (2, (2, 0))] (sl1Copy_c s.h hl.1) [.c _ _ _] ?_
  exact W_rt [(2064, (100, 0)), (2065, (101, 0)), (2066, (102, 0)), (2096, (103, 0))] [] ⟨rfl, rfl⟩
theorem sHeapValid_c (h : Hp) (hl : h.L.length ≤ 4194304 ∧ h.R.length ≤ 4194304 ∧ h.T.length ≤ 4194304) : Fn Tryz.prog 131 [(0, .c false (.ints h.L)), (1, .c false (.ints h.R)), (2, .c false (.ints h.T))] [.agg [.sl 0 0 h.L.length, .sl 1 0 h.R.length, .sl 2 0 h.T.length]] (fun r H => r = .bool h.valid ∧ H = []) := by
  refine Fn_go Tryz.func131 ?_
  by_cases g1 : (h.L.length : Int) < 1
  · refine W_go ?_
    refine W_ift ?_
    refine W_go ?_
    refine W_rt [] [] ?_
    exact ⟨by rw [Hp.valid, decide_eq_false]; unfold Hp.ok; omega, rfl⟩
  by_cases g2 : 8 < (h.L.length : Int)
  · refine W_go ?_
    refine W_ift ?_
    refine W_go ?_
    refine W_rt [] [] ?_
    exact ⟨by rw [Hp.valid, decide_eq_false]; unfold Hp.ok; omega, rfl⟩
  by_cases g3 : (h.R.length : Int) = h.L.length
  case neg =>
    refine W_go ?_
    refine W_ift ?_
    refine W_go ?_
    refine W_rt [] [] ?_
    exact ⟨by rw [Hp.valid, decide_eq_false]; unfold Hp.ok; omega, rfl⟩
  by_cases g4 : (h.T.length : Int) < 1
  · refine W_go ?_
    refine W_ift ?_
    refine W_go ?_
    refine W_rt [] [] ?_
    exact ⟨by rw [Hp.valid, decide_eq_false]; unfold Hp.ok; omega, rfl⟩
  by_cases g5 : 3 < (h.T.length : Int)
  · refine W_go ?_
    refine W_ift ?_
    refine W_go ?_
    refine W_rt [] [] ?_
    exact ⟨by rw [Hp.valid, decide_eq_false]; unfold Hp.ok; omega, rfl⟩
  refine W_go ?_
  refine W_iff ?_
  refine W_go ?_
  have no : ∀ {l : List Int} {j : Nat}, j < l.length → ¬ (-1 ≤ l.getD j 0 ∧ l.getD j 0 < h.L.length) → (l = h.L ∨ l = h.R ∨ l = h.T) → Hp.valid h = false := by
    intro l j hj hn hl'
    rw [Hp.valid, decide_eq_false]
    rintro ⟨_, o1, o2, o3⟩
    rcases hl' with rfl | rfl | rfl
    · exact hn (o1 j hj)
    · exact hn (o2 j hj)
    · exact hn (o3 j hj)
  refine W_lp (T := 5) (σ := Nat) (me := fun i => [(4, .int .i64 i)]) (mh := fun _ => []) (inv := fun i => i ≤ h.L.length ∧ Hold (∀ j, j < i → (-1 ≤ h.L.getD j 0 ∧ h.L.getD j 0 < h.L.length) ∧ (-1 ≤ h.R.getD j 0 ∧ h.R.getD j 0 < h.L.length))) (m := fun i => h.L.length - i) (s0 := 0) ⟨by omega, ⟨by intro j hj; omega⟩⟩ ?_
  rintro i ⟨hi, hne⟩
  replace no : Hold _ := ⟨@no⟩
  refine W_go ?_
  refine W_if (fun h1 => ?_) (fun h1 => ?_)
  · refine W_go ?_
    by_cases p1 : -1 ≤ h.L.getD i 0 ∧ h.L.getD i 0 < h.L.length
    · refine W_ch2 [] (sl1Points_c (h.L.getD i 0) h.L.length (by omega)) [] (sl1Points_c (h.R.getD i 0) h.L.length (by omega)) ?_
      refine W_if (fun h2 => ?_) (fun h2 => ?_)
      · refine W_go ?_
        refine W_rt [] [] ?_
        exact ⟨by rw [no.told (by omega) h2 (.inr (.inl rfl))], rfl⟩
      · refine W_go ?_
        refine W_bk (i + 1) ⟨by omega, ⟨fun j hj => ?_⟩⟩ (by omega)
        by_cases e : j = i
        · subst e; exact ⟨p1, Decidable.not_not.1 h2⟩
        · exact hne.told j (by omega)
    · refine W_ch1 [] (sl1Points_c (h.L.getD i 0) h.L.length (by omega)) ?_
      refine W_ift ?_
      refine W_go ?_
      refine W_rt [] [] ?_
      exact ⟨by rw [no.told (by omega) p1 (.inl rfl)], rfl⟩
  · refine W_go ?_
    have e : i = h.L.length := by omega
    subst e
    refine W_lp (T := 6) (σ := Nat) (me := fun i => [(5, .int .i64 i)]) (mh := fun _ => []) (inv := fun i => i ≤ h.T.length ∧ Hold (∀ j, j < i → (-1 ≤ h.T.getD j 0 ∧ h.T.getD j 0 < h.L.length))) (m := fun i => h.T.length - i) (s0 := 0) ⟨by omega, ⟨by intro j hj; omega⟩⟩ ?_
    rintro i ⟨hi2, hne2⟩
    refine W_go ?_
    refine W_if (fun h1 => ?_) (fun h1 => ?_)
    · refine W_go ?_
      refine W_c1 [] (sl1Points_c (h.T.getD i 0) h.L.length (by omega)) ?_
      refine W_if (fun h2 => ?_) (fun h2 => ?_)
      · refine W_go ?_
        refine W_rt [] [] ?_
        exact ⟨by rw [no.told (by omega) h2 (.inr (.inr rfl))], rfl⟩
      · refine W_go ?_
        refine W_bk (i + 1) ⟨by omega, ⟨fun j hj => ?_⟩⟩ (by omega)
        by_cases e : j = i
        · subst e; exact Decidable.not_not.1 h2
        · exact hne2.told j (by omega)
    · refine W_go ?_
      refine W_rt [] [] ?_
      refine ⟨?_, rfl⟩
      rw [Hp.valid, decide_eq_true]
      exact ⟨by omega, fun j hj => (hne.told j hj).1, fun j hj => (hne.told j (by omega)).2, fun j hj => hne2.told j (by omega)⟩
end Go.Proofs.YtbobhbhgomkgpaaGreatDoor.S

/- Contracts: the given program's reference, stores. Own work of this claim. -/
namespace Go.Proofs.YtbobhbhgomkgpaaGreatDoor.S
set_option linter.all false
open Go Go.Proofs
set_option maxHeartbeats 4000000
set_option maxRecDepth 100000
set_option linter.unusedVariables false

theorem sl4Free_c (h : Hp) (c : Int) (ho : h.ok) : Fn Tryz.prog 132 [(0, .c false (.ints h.L)), (1, .c false (.ints h.R)), (2, .c false (.ints h.T))] [.agg [.sl 0 0 h.L.length, .sl 1 0 h.R.length, .sl 2 0 h.T.length], .int .i64 c] (fun r H => r = .bool (decide (h.fr c)) ∧ H = []) := by
  obtain ⟨⟨l1, l2, l3, l4, l5⟩, o1, o2, o3⟩ := ho
  have l3a : h.R.length ≤ h.L.length := by omega
  have l3b : h.L.length ≤ h.R.length := by omega
  clear l3
  refine Fn_go Tryz.func132 ?_
  by_cases c1 : 0 ≤ c
  case neg =>
    refine W_go ?_
    refine W_rt [] [] ?_
    exact ⟨by rw [decide_eq_false]; unfold Hp.fr; omega, rfl⟩
  by_cases c2 : c < h.L.length
  case neg =>
    refine W_go ?_
    refine W_rt [] [] ?_
    exact ⟨by rw [decide_eq_false]; unfold Hp.fr; omega, rfl⟩
  by_cases c3 : h.L.getD c.toNat 0 = -1
  case neg =>
    refine W_go ?_
    refine W_rt [] [] ?_
    exact ⟨by rw [decide_eq_false]; exact fun q => c3 q.2.1, rfl⟩
  by_cases c4 : h.R.getD c.toNat 0 = -1
  case neg =>
    refine W_go ?_
    refine W_rt [] [] ?_
    exact ⟨by rw [decide_eq_false]; exact fun q => c4 q.2.2.1, rfl⟩
  by_cases c5 : idx h.L c < 0
  case neg =>
    refine W_go ?_
    refine W_ch1 [(0, (0, 0))] (l4At_c h.L c (by omega)) ?_
    refine W_rt [] [] ?_
    exact ⟨by rw [decide_eq_false]; exact fun q => c5 ((idx_neg _ _).2 q.2.2.2.1), rfl⟩
  by_cases c6 : idx h.R c < 0
  case neg =>
    refine W_go ?_
    refine W_ch2 [(0, (0, 0))] (l4At_c h.L c (by omega)) [(0, (1, 0))] (l4At_c h.R c (by omega)) ?_
    refine W_rt [] [] ?_
    exact ⟨by rw [decide_eq_false]; exact fun q => c6 ((idx_neg _ _).2 q.2.2.2.2.1), rfl⟩
  refine W_go ?_
  refine W_ch3 [(0, (0, 0))] (l4At_c h.L c (by omega)) [(0, (1, 0))] (l4At_c h.R c (by omega)) [(0, (2, 0))] (l4At_c h.T c (by omega)) ?_
  refine W_rt [] [] ?_
  refine ⟨?_, rfl⟩
  rw [idx_neg] at c5 c6
  congr 1
  rw [decide_eq_decide, idx_neg]
  exact ⟨fun q => ⟨⟨c1, c2⟩, c3, c4, c5, c6, q⟩, fun q => q.2.2.2.2.2⟩
theorem sStoreValid_c (s : Sto) (hl : (s.h.L.length ≤ 4194304 ∧ s.h.R.length ≤ 4194304 ∧ s.h.T.length ≤ 4194304) ∧ s.F.length ≤ 4194304) : Fn Tryz.prog 110 [(0, .c false (.ints s.h.L)), (1, .c false (.ints s.h.R)), (2, .c false (.ints s.h.T)), (3, .c false (.ints s.F))] [.agg [.sl 0 0 s.h.L.length, .sl 1 0 s.h.R.length, .sl 2 0 s.h.T.length, .sl 3 0 s.F.length]] (fun r H => r = .bool s.valid ∧ H = []) := by
  refine Fn_go Tryz.func110 ?_
  refine W_go ?_
  have hv := sHeapValid_c s.h hl.1
  by_cases g1 : s.h.valid = true
  case neg =>
    have g1 : s.h.valid = false := by simpa using g1
    rw [g1] at hv
    refine W_ch1 [(0, (0, 0)), (1, (1, 0)), (2, (2, 0))] hv ?_
    refine W_ift ?_
    refine W_go ?_
    refine W_rt [] [] ?_
    exact ⟨(by rw [Sto.valid, decide_eq_false]; rintro ⟨q, _⟩; rw [(Hp.ok_iff _).2 q] at g1; cases g1), rfl⟩
  rw [g1] at hv
  have ho := (Hp.ok_iff _).1 g1
  by_cases g2 : (s.h.L.length : Int) < s.F.length
  · refine W_ch1 [(0, (0, 0)), (1, (1, 0)), (2, (2, 0))] hv ?_
    refine W_ift ?_
    refine W_go ?_
    refine W_rt [] [] ?_
    exact ⟨by rw [Sto.valid, decide_eq_false]; intro q; have := q.le; omega, rfl⟩
  refine W_ch1 [(0, (0, 0)), (1, (1, 0)), (2, (2, 0))] hv ?_
  refine W_iff ?_
  refine W_go ?_
  refine W_lp (T := 4) (σ := Nat) (me := fun i => [(3, .int .i64 i)]) (mh := fun _ => []) (inv := fun i => i ≤ s.F.length ∧ Hold (∀ j, j < i → s.h.fr (s.F.getD j 0) ∧ s.F.getD j 0 ∉ s.F.take j)) (m := fun i => s.F.length - i) (s0 := 0) ⟨by omega, ⟨by intro j hj; omega⟩⟩ ?_
  rintro i ⟨hi, hne⟩
  replace ho : Hold _ := ⟨ho⟩
  refine W_go ?_
  refine W_if (fun h1 => ?_) (fun h1 => ?_)
  · refine W_go ?_
    have hf := sl4Free_c s.h (s.F.getD i 0) ho.told
    by_cases p1 : s.h.fr (s.F.getD i 0)
    · rw [decide_eq_true p1] at hf
      have hA := l4At_c (s.F.take i) (s.F.getD i 0) (by simp; omega)
      refine W_dch2 [(0, (0, 0)), (1, (1, 0)), (2, (2, 0))] hf [(0, (3, 0))] hA [.c _ _ _, .g true, .g true, .g true, .g true, .g true, .g true, .g true, .g true, .g true, .g true, .c _ _ _, .g true] ?_
      refine W_if (fun h2 => ?_) (fun h2 => ?_)
      · refine W_go ?_
        refine W_rt [] [] ?_
        refine ⟨?_, rfl⟩
        rw [Sto.valid, decide_eq_false]
        intro q
        exact (q.2 i (by omega)).2 ((idx_nonneg _ _).1 h2)
      · refine W_go ?_
        refine W_bk (i + 1) ⟨by omega, ⟨fun j hj => ?_⟩⟩ (by omega)
        by_cases e : j = i
        · subst e; exact ⟨p1, fun q => h2 ((idx_nonneg _ _).2 q)⟩
        · exact hne.told j (by omega)
    · rw [decide_eq_false p1] at hf
      refine W_dch1 [(0, (0, 0)), (1, (1, 0)), (2, (2, 0))] hf [.c _ _ _, .g false, .g false, .g false, .g false, .g false, .g false, .g false, .g false, .g false, .g false, .g false] ?_
      refine W_ift ?_
      refine W_go ?_
      refine W_rt [] [] ?_
      refine ⟨?_, rfl⟩
      rw [Sto.valid, decide_eq_false]
      intro q
      exact p1 (q.2 i (by omega)).1
  · refine W_go ?_
    refine W_rt [] [] ?_
    refine ⟨?_, rfl⟩
    rw [Sto.valid, decide_eq_true]
    exact ⟨ho.told, fun j hj => hne.told j (by omega)⟩
end Go.Proofs.YtbobhbhgomkgpaaGreatDoor.S

/- Contracts: the given program's reference, reach. Own work of this claim. -/
namespace Go.Proofs.YtbobhbhgomkgpaaGreatDoor.S
set_option linter.all false
open Go Go.Proofs
set_option maxHeartbeats 4000000
set_option maxRecDepth 100000
set_option linter.unusedVariables false

theorem sl2Distances_c (h : Hp) (ho : h.ok) : Fn Tryz.prog 152 [(0, .c false (.ints h.L)), (1, .c false (.ints h.R)), (2, .c false (.ints h.T))] [.agg [.sl 0 0 h.L.length, .sl 1 0 h.R.length, .sl 2 0 h.T.length], .sl 2 0 h.T.length] (fun r H => ∃ D : List Int, (D.length = h.L.length ∧ ∀ c, c < h.L.length → (0 < D.getD c 0 ↔ Reach h c)) ∧ r = .sl 100 0 h.L.length ∧ H = [(100, .c true (.ints D))]) := by
  have l1 : h.L.length ≤ 8 := ho.1.2.1
  have l2 : h.T.length ≤ 3 := ho.1.2.2.2.2
  have l3 : h.L.length ≤ h.R.length := by have := ho.1.2.2.1; omega
  have ho' := ho
  replace ho : Hold _ := ⟨ho⟩
  refine Fn_go Tryz.func152 ?_
  refine W_go ?_
  refine W_c1 [] (sl1Many_c h.L.length (by omega)) ?_
  refine W_go ?_
  refine W_lp (T := 8) (σ := Nat × List Int × List Int) (me := fun s => [(6, .sl 3072 0 s.2.2.length), (7, .int .i64 s.1)]) (mh := fun s => [(2072, .c true (.ints (l2L s.2.1))), (3072, .c true (.ints s.2.2))])
    (inv := fun s => s.1 ≤ h.T.length ∧ Hold (Bfs2 h s.2.1 s.2.2 s.1 0)) (m := fun s => h.T.length - s.1) (s0 := (0, List.replicate h.L.length 0, [])) ⟨by simp, ⟨bfs_start h⟩⟩ ?_ (hh := by dsimp only; rw [l2L_rep])
  rintro ⟨k, D, Q⟩ ⟨hk, ⟨hB⟩⟩
  dsimp only at hk hB ⊢
  have hlen : (l2L D).length = h.L.length := by rw [l2L_len, hB.b.len]
  have hQ := hB.b.le
  refine W_go ?_
  refine W_if (fun h1 => ?_) (fun h1 => ?_)
  · refine W_go ?_
    have hkl : k < h.T.length := by omega
    have hb2 := hB.root ho' hkl
    have hp := okP_get ho'.2.2.2 hkl
    have hget : 0 ≤ h.T.getD k 0 → (l2L D).getD (h.T.getD k 0).toNat 0 = if D.getD (h.T.getD k 0).toNat 0 = 0 then -1 else D.getD (h.T.getD k 0).toNat 0 := fun q => l2L_getD (by rw [hB.b.len]; omega)
    have hfar : 0 ≤ h.T.getD k 0 → 0 ≤ D.getD (h.T.getD k 0).toNat 0 := fun q => (hB.b.far _ (by omega)).1
    replace hB : Hold _ := ⟨hB⟩
    replace hb2 : Hold _ := ⟨hb2⟩
    replace hget : Hold _ := ⟨hget⟩
    replace hfar : Hold _ := ⟨hfar⟩
    by_cases p1 : h.T.getD k 0 = -1
    · refine W_go ?_
      refine W_iff ?_
      refine W_go ?_
      have e1 : meetD D (h.T.getD k 0) 1 = D := by rw [meetD, if_neg (fun q => q.1 p1)]
      have e2 : meetQ D Q (h.T.getD k 0) = Q := by rw [meetQ, if_neg (fun q => q.1 p1)]
      rw [e1, e2] at hb2
      exact W_bh (k + 1, D, Q) ⟨by dsimp only; omega, hb2⟩ (by dsimp only; omega) rfl
    · refine W_go ?_
      have hp' : 0 ≤ h.T.getD k 0 := by omega
      refine W_if (fun h2 => ?_) (fun h2 => ?_)
      · refine W_go ?_
        refine W_rk 8 [(1024, (1024, 0)), (2072, (2072, 0)), (9264, (3072, 0))] ?_
        have h3 : D.getD (h.T.getD k 0).toNat 0 = 0 := by
          have := hget.told hp'
          split at this
          · assumption
          · have := hfar.told hp'; omega
        have e1 : meetD D (h.T.getD k 0) 1 = D.set (h.T.getD k 0).toNat 1 := by rw [meetD, if_pos ⟨p1, h3⟩]
        have e2 : meetQ D Q (h.T.getD k 0) = Q ++ [h.T.getD k 0] := by rw [meetQ, if_pos ⟨p1, h3⟩]
        rw [e1, e2] at hb2
        exact W_bh (k + 1, _, _) ⟨by dsimp only; omega, hb2⟩ (by dsimp only; omega) (by rw [l2L_set (by omega)])
      · refine W_go ?_
        have h3 : ¬ D.getD (h.T.getD k 0).toNat 0 = 0 := by
          have := hget.told hp'
          split at this
          · omega
          · assumption
        have e1 : meetD D (h.T.getD k 0) 1 = D := by rw [meetD, if_neg (fun q => h3 q.2)]
        have e2 : meetQ D Q (h.T.getD k 0) = Q := by rw [meetQ, if_neg (fun q => h3 q.2)]
        rw [e1, e2] at hb2
        exact W_bh (k + 1, D, Q) ⟨by dsimp only; omega, hb2⟩ (by dsimp only; omega) rfl
  refine W_go ?_
  have ek : k = h.T.length := by omega
  subst ek
  refine W_lp (T := 9) (σ := Nat × List Int × List Int) (me := fun s => [(6, .sl 3072 0 s.2.2.length), (8, .int .i64 s.1)]) (mh := fun s => [(2072, .c true (.ints (l2L s.2.1))), (3072, .c true (.ints s.2.2))])
    (inv := fun s => s.1 ≤ s.2.2.length ∧ Hold (Bfs2 h s.2.1 s.2.2 h.T.length s.1)) (m := fun s => h.L.length - s.1) (s0 := (0, D, Q)) ⟨by simp, ⟨hB⟩⟩ ?_
  clear hB hQ hlen h1 hk
  clear D Q
  rintro ⟨i, D, Q⟩ ⟨hi, ⟨hB⟩⟩
  dsimp only at hi hB ⊢
  have hQ := hB.b.le
  refine W_go ?_
  refine W_if (fun h1 => ?_) (fun h1 => ?_)
  · have hil : i < Q.length := by omega
    have hc := hB.b.inn _ (getD_mem hil)
    have hc1 := hc.1
    have hc2 := hc.2.1
    have hst := @Bfs2.st h ho' D Q i hB hil
    have htw := hB.two ho' hil
    clear hc
    replace hB : Hold _ := ⟨hB⟩
    replace hst : Hold _ := ⟨@hst⟩
    replace htw : Hold _ := ⟨htw⟩
    refine W_go ?_
    refine W_lp (T := 12) (σ := Nat) (me := fun k => [(6, .sl 3072 0 (stQ h D Q (Q.getD i 0).toNat k).length), (11, .int .i64 k)]) (mh := fun k => [(2072, .c true (.ints (l2L (stD h D (Q.getD i 0).toNat k)))), (3072, .c true (.ints (stQ h D Q (Q.getD i 0).toNat k)))])
      (inv := fun k => k ≤ 2) (m := fun k => 2 - k) (s0 := 0) (by omega) ?_
    rintro k hk
    refine W_go ?_
    refine W_if (fun h2 => ?_) (fun h2 => ?_)
    · have hk2 : k < 2 := by omega
      obtain ⟨b1, b2, b3, b4⟩ := hst.told hk2
      have hlen : (l2L (stD h D (Q.getD i 0).toNat k)).length = h.L.length := by rw [l2L_len, b1.len]
      have hq2 := b1.le
      have hcv : (l2L (stD h D (Q.getD i 0).toNat k)).getD (Q.getD i 0).toNat 0 = (stD h D (Q.getD i 0).toNat k).getD (Q.getD i 0).toNat 0 := by
        rw [l2L_getD (by rw [b1.len]; omega), if_neg (by omega)]
      have hcf := b1.far (Q.getD i 0).toNat (by omega)
      have hget : 0 ≤ nx h (Q.getD i 0).toNat k → (l2L (stD h D (Q.getD i 0).toNat k)).getD (nx h (Q.getD i 0).toNat k).toNat 0 = if (stD h D (Q.getD i 0).toNat k).getD (nx h (Q.getD i 0).toNat k).toNat 0 = 0 then -1 else (stD h D (Q.getD i 0).toNat k).getD (nx h (Q.getD i 0).toNat k).toNat 0 := fun q => l2L_getD (by rw [b1.len]; omega)
      have hfar : 0 ≤ nx h (Q.getD i 0).toNat k → 0 ≤ (stD h D (Q.getD i 0).toNat k).getD (nx h (Q.getD i 0).toNat k).toNat 0 := fun q => (b1.far _ (by omega)).1
      have hnx : [h.L.getD (Q.getD i 0).toNat 0, h.R.getD (Q.getD i 0).toNat 0].getD k 0 = nx h (Q.getD i 0).toNat k := rfl
      have es : stD h D (Q.getD i 0).toNat (k + 1) = meetD (stD h D (Q.getD i 0).toNat k) (nx h (Q.getD i 0).toNat k) ((stD h D (Q.getD i 0).toNat k).getD (Q.getD i 0).toNat 0 + 1) := rfl
      have et : stQ h D Q (Q.getD i 0).toNat (k + 1) = meetQ (stD h D (Q.getD i 0).toNat k) (stQ h D Q (Q.getD i 0).toNat k) (nx h (Q.getD i 0).toNat k) := rfl
      replace hget : Hold _ := ⟨hget⟩
      replace hfar : Hold _ := ⟨hfar⟩
      replace es : Hold _ := ⟨es⟩
      replace et : Hold _ := ⟨et⟩
      replace b1 : Hold _ := ⟨b1⟩
      replace b4 : Hold _ := ⟨b4⟩
      generalize stD h D (Q.getD i 0).toNat k = D' at *
      generalize stQ h D Q (Q.getD i 0).toNat k = Q' at *
      generalize nx h (Q.getD i 0).toNat k = p at *
      by_cases p1 : p = -1
      · refine W_go ?_
        refine W_iff ?_
        refine W_go ?_
        have es := es.told
        have et := et.told
        rw [meetD, if_neg (fun q => q.1 p1)] at es
        rw [meetQ, if_neg (fun q => q.1 p1)] at et
        have et2 := congrArg List.length et
        exact W_bh (k + 1) (by omega) (by omega) (by rw [es, et])
      · refine W_go ?_
        have hp' : 0 ≤ p := by omega
        refine W_if (fun h3 => ?_) (fun h3 => ?_)
        · refine W_go ?_
          refine W_rk 12 [(1024, (1024, 0)), (2072, (2072, 0)), (20528, (3072, 0)), (14416, (14416, 0))] ?_
          have h4 : D'.getD p.toNat 0 = 0 := by
            have := hget.told hp'
            split at this
            · assumption
            · have := hfar.told hp'; omega
          have es := es.told
          have et := et.told
          rw [meetD, if_pos ⟨p1, h4⟩] at es
          rw [meetQ, if_pos ⟨p1, h4⟩] at et
          have et2 := congrArg List.length et
          rw [List.length_append] at et2
          simp only [List.length_cons, List.length_nil] at et2
          exact W_bh (k + 1) (by omega) (by omega) (by rw [hnx, es, et, l2L_set (by omega), hcv])
        · refine W_go ?_
          have h4 : ¬ D'.getD p.toNat 0 = 0 := by
            have := hget.told hp'
            split at this
            · omega
            · assumption
          have es := es.told
          have et := et.told
          rw [meetD, if_neg (fun q => h4 q.2)] at es
          rw [meetQ, if_neg (fun q => h4 q.2)] at et
          have et2 := congrArg List.length et
          exact W_bh (k + 1) (by omega) (by omega) (by rw [es, et])
    · refine W_go ?_
      have ek : k = 2 := by omega
      subst ek
      refine W_rk 9 [(1024, (1024, 0)), (2072, (2072, 0)), (3072, (3072, 0))] ?_
      obtain ⟨t1, t2⟩ := htw.told
      exact W_bh (i + 1, _, _) ⟨Nat.succ_le_of_lt t2, ⟨t1⟩⟩ (by dsimp only; omega) rfl
  · refine W_go ?_
    have ei : i = Q.length := by omega
    subst ei
    refine W_rt [(2072, (100, 0))] [] ?_
    have hd := hB.done ho'
    refine ⟨l2L D, ⟨by rw [l2L_len, hB.b.len], fun c hc => ?_⟩, rfl, rfl⟩
    rw [l2L_pos (by rw [hB.b.len]; exact hc)]
    exact hd c hc
end Go.Proofs.YtbobhbhgomkgpaaGreatDoor.S

/- Contracts: the given program's reference, garbage. Own work of this claim. -/
namespace Go.Proofs.YtbobhbhgomkgpaaGreatDoor.S
set_option linter.all false
open Go Go.Proofs
set_option maxHeartbeats 4000000
set_option maxRecDepth 100000
set_option linter.unusedVariables false

theorem reach_nil {h : Hp} (g : h.valid = false) : h.reach = [] := by rw [Hp.reach, if_neg (by rw [g]; exact Bool.false_ne_true)]
theorem sReachable_c (h : Hp) (hl : h.L.length ≤ 4194304 ∧ h.R.length ≤ 4194304 ∧ h.T.length ≤ 4194304) : Fn Tryz.prog 141 [(0, .c false (.ints h.L)), (1, .c false (.ints h.R)), (2, .c false (.ints h.T))] [.agg [.sl 0 0 h.L.length, .sl 1 0 h.R.length, .sl 2 0 h.T.length]] (fun r H => r = .sl 100 0 h.reach.length ∧ H = [(100, .c true (.bools h.reach))]) := by
  have hv := sHeapValid_c h hl
  refine Fn_go Tryz.func141 ?_
  refine W_go ?_
  by_cases g1 : h.valid = true
  case neg =>
    have g1 : h.valid = false := by simpa using g1
    rw [g1] at hv
    refine W_c1 [(0, (0, 0)), (1, (1, 0)), (2, (2, 0))] hv ?_
    refine W_ift ?_
    refine W_go ?_
    refine W_rt [(2048, (100, 0))] [] ?_
    rw [reach_nil g1]
    exact ⟨rfl, rfl⟩
  rw [g1] at hv
  refine W_c1 [(0, (0, 0)), (1, (1, 0)), (2, (2, 0))] hv ?_
  refine W_iff ?_
  refine W_go ?_
  have ho := (Hp.ok_iff _).1 g1
  have hd := sl2Distances_c h ho
  have l1 : h.L.length ≤ 8 := ho.1.2.1
  replace ho : Hold _ := ⟨ho⟩
  refine W_ce [(0, (0, 0)), (1, (1, 0)), (2, (2, 0))] hd ?_
  rintro D ⟨hD, hR⟩
  replace hR : Hold _ := ⟨hR⟩
  refine W_go ?_
  refine W_lp (T := 6) (σ := Nat) (me := fun i => [(3, .sl 2048 0 i), (5, .int .i64 i)]) (mh := fun i => [(2048, .c true (.bools (posN D i)))]) (inv := fun i => i ≤ h.L.length) (m := fun i => h.L.length - i) (s0 := 0) (by omega) ?_
  rintro i hi
  have hpl := posN_len D i
  refine W_go ?_
  refine W_if (fun h1 => ?_) (fun h1 => ?_)
  · refine W_go ?_
    refine W_rk 6 [(1024, (1024, 0)), (9272, (2048, 0)), (5144, (5144, 0))] ?_
    exact W_bh (i + 1) (by omega) (by omega) (by rw [posN_succ, List.take_of_length_le (by omega)])
  · refine W_go ?_
    refine W_rt [(2048, (100, 0))] [] ?_
    have e : i = h.L.length := by omega
    subst e
    rw [← reach_of g1 hR.told, hpl]
    exact ⟨rfl, rfl⟩
end Go.Proofs.YtbobhbhgomkgpaaGreatDoor.S

/- Contracts: the given program's reference, cells are freed. Own work of this claim. -/
namespace Go.Proofs.YtbobhbhgomkgpaaGreatDoor.S
set_option linter.all false
open Go Go.Proofs
set_option maxHeartbeats 4000000
set_option maxRecDepth 100000
set_option linter.unusedVariables false

theorem clrAt_iff (l cells : List Int) (i : Nat) (a : Int) (ha : a = l.getD i 0) : clrAt l cells i = if 0 ≤ idx cells a ∨ 0 ≤ idx cells i then -1 else l.getD i 0 := by
  subst ha
  unfold clrAt
  simp only [idx_nonneg]
theorem sl4Clear_c (s : Sto) (cells : List Int) (ho : s.h.ok) (hl : s.F.length ≤ 1048576 ∧ cells.length ≤ 1048576) :
    Fn Tryz.prog 144 [(0, .c false (.ints s.h.L)), (1, .c false (.ints s.h.R)), (2, .c false (.ints s.h.T)), (3, .c false (.ints s.F)), (4, .c false (.ints cells))] [.agg [.sl 0 0 s.h.L.length, .sl 1 0 s.h.R.length, .sl 2 0 s.h.T.length, .sl 3 0 s.F.length], .sl 4 0 cells.length] (fun r H => r = .agg [.sl 100 0 (s.clr cells).h.L.length, .sl 101 0 (s.clr cells).h.R.length, .sl 102 0 (s.clr cells).h.T.length, .sl 103 0 (s.clr cells).F.length] ∧ H = [(100, .c true (.ints (s.clr cells).h.L)), (101, .c true (.ints (s.clr cells).h.R)), (102, .c true (.ints (s.clr cells).h.T)), (103, .c true (.ints (s.clr cells).F))]) := by
  obtain ⟨⟨l1, l2, l3, l4, l5⟩, _⟩ := ho
  have l3a : s.h.L.length ≤ s.h.R.length := by omega
  have l3b : s.h.R.length ≤ s.h.L.length := by omega
  clear l3
  refine Fn_go Tryz.func144 ?_
  refine W_go ?_
  refine W_c1 [(0, (0, 0)), (1, (1, 0)), (2, (2, 0)), (3, (3, 0))] (sl4Copy_c s (by omega)) ?_
  refine W_go ?_
  refine W_lp (T := 7) (σ := Nat) (me := fun i => [(6, .int .i64 i)]) (mh := fun i => [(2056, .c true (.ints (preN (clrAt s.h.L cells) s.h.L i))), (2057, .c true (.ints (preN (clrAt s.h.R cells) s.h.R i)))]) (inv := fun i => i ≤ s.h.L.length) (m := fun i => s.h.L.length - i) (s0 := 0) (by omega) ?_ (hh := by rw [pre_zero, pre_zero])
  rintro i hi
  have ll := pre_len (f := clrAt s.h.L cells) (l := s.h.L) (i := i) (by omega)
  have lr := pre_len (f := clrAt s.h.R cells) (l := s.h.R) (i := i) (by omega)
  have lla : s.h.L.length ≤ (preN (clrAt s.h.L cells) s.h.L i).length := by omega
  have lra : s.h.R.length ≤ (preN (clrAt s.h.R cells) s.h.R i).length := by omega
  clear ll lr
  refine W_go ?_
  refine W_if (fun h1 => ?_) (fun h1 => ?_)
  · have gl := pre_get (f := clrAt s.h.L cells) (l := s.h.L) (i := i) (by omega)
    have gr := pre_get (f := clrAt s.h.R cells) (l := s.h.R) (i := i) (by omega)
    have cl := clrAt_iff s.h.L cells i _ gl
    have cr := clrAt_iff s.h.R cells i _ gr
    have sl := pre_set (f := clrAt s.h.L cells) (l := s.h.L) (i := i) (by omega)
    have sr := pre_set (f := clrAt s.h.R cells) (l := s.h.R) (i := i) (by omega)
    have kl := pre_skip (f := clrAt s.h.L cells) (l := s.h.L) (i := i) (by omega)
    have kr := pre_skip (f := clrAt s.h.R cells) (l := s.h.R) (i := i) (by omega)
    have hA := l4At_c cells ((preN (clrAt s.h.L cells) s.h.L i).getD i 0) (by omega)
    have hB := l4At_c cells i (by omega)
    have hC := l4At_c cells ((preN (clrAt s.h.R cells) s.h.R i).getD i 0) (by omega)
    replace gl : Hold _ := ⟨gl⟩
    replace gr : Hold _ := ⟨gr⟩
    replace cl : Hold _ := ⟨cl⟩
    replace cr : Hold _ := ⟨cr⟩
    replace sl : Hold _ := ⟨sl⟩
    replace sr : Hold _ := ⟨sr⟩
    replace kl : Hold _ := ⟨kl⟩
    replace kr : Hold _ := ⟨kr⟩
    refine W_go ?_
    refine W_jn (σ := Bool) 7 (fun b => [(31, .bool b)]) (fun _ => []) (fun b => b = true ↔ (0 ≤ idx cells ((preN (clrAt s.h.L cells) s.h.L i).getD i 0) ∨ 0 ≤ idx cells i)) ?_ ?_
    · by_cases q : 0 ≤ idx cells ((preN (clrAt s.h.L cells) s.h.L i).getD i 0)
      · refine W_ch1 [(0, (4, 0))] hA ?_
        exact W_bj true ⟨fun _ => .inl q, fun _ => rfl⟩
      · refine W_ch2 [(0, (4, 0))] hA [(0, (4, 0))] hB ?_
        exact W_bj (decide (0 ≤ idx cells i)) ⟨fun h => .inr (of_decide_eq_true h), fun h => decide_eq_true (h.resolve_left q)⟩
    rintro b hb
    refine W_go ?_
    have hbl : (if b then (preN (clrAt s.h.L cells) s.h.L i).set i (-1) else preN (clrAt s.h.L cells) s.h.L i) = preN (clrAt s.h.L cells) s.h.L (i + 1) := by
      have cl := cl.told
      split
      · rename_i e; rw [if_pos (hb.1 e)] at cl; rw [← cl]; exact sl.told
      · rename_i e; rw [if_neg (fun q => e (hb.2 q))] at cl; exact kl.told cl
    clear hb
    refine W_jn (σ := Unit) 7 (fun _ => []) (fun _ => [(2056, .c true (.ints (preN (clrAt s.h.L cells) s.h.L (i + 1))))]) (fun _ => True) ?_ ?_
    · refine W_ifb (fun e => ?_) (fun e => ?_)
      · subst e
        rw [if_pos rfl] at hbl
        replace hbl : Hold _ := ⟨hbl⟩
        refine W_go ?_
        exact W_bj () trivial (hh := by rw [← hbl.told])
      · subst e
        rw [if_neg Bool.false_ne_true] at hbl
        replace hbl : Hold _ := ⟨hbl⟩
        refine W_go ?_
        exact W_bj () trivial (hh := by rw [← hbl.told])
    rintro _ _
    clear hbl
    refine W_go ?_
    refine W_jn (σ := Bool) 7 (fun b => [(51, .bool b)]) (fun _ => []) (fun b => b = true ↔ (0 ≤ idx cells ((preN (clrAt s.h.R cells) s.h.R i).getD i 0) ∨ 0 ≤ idx cells i)) ?_ ?_
    · by_cases q : 0 ≤ idx cells ((preN (clrAt s.h.R cells) s.h.R i).getD i 0)
      · refine W_ch1 [(0, (4, 0))] hC ?_
        exact W_bj true ⟨fun _ => .inl q, fun _ => rfl⟩
      · refine W_ch2 [(0, (4, 0))] hC [(0, (4, 0))] hB ?_
        exact W_bj (decide (0 ≤ idx cells i)) ⟨fun h => .inr (of_decide_eq_true h), fun h => decide_eq_true (h.resolve_left q)⟩
    rintro b hb
    refine W_go ?_
    have hbr : (if b then (preN (clrAt s.h.R cells) s.h.R i).set i (-1) else preN (clrAt s.h.R cells) s.h.R i) = preN (clrAt s.h.R cells) s.h.R (i + 1) := by
      have cr := cr.told
      split
      · rename_i e; rw [if_pos (hb.1 e)] at cr; rw [← cr]; exact sr.told
      · rename_i e; rw [if_neg (fun q => e (hb.2 q))] at cr; exact kr.told cr
    clear hb
    refine W_jn (σ := Unit) 7 (fun _ => []) (fun _ => [(2057, .c true (.ints (preN (clrAt s.h.R cells) s.h.R (i + 1))))]) (fun _ => True) ?_ ?_
    · refine W_ifb (fun e => ?_) (fun e => ?_)
      · subst e
        rw [if_pos rfl] at hbr
        replace hbr : Hold _ := ⟨hbr⟩
        refine W_go ?_
        exact W_bj () trivial (hh := by rw [← hbr.told])
      · subst e
        rw [if_neg Bool.false_ne_true] at hbr
        replace hbr : Hold _ := ⟨hbr⟩
        refine W_go ?_
        exact W_bj () trivial (hh := by rw [← hbr.told])
    rintro _ _
    refine W_go ?_
    exact W_bk (i + 1) (by omega) (by omega)
  · have ei : i = s.h.L.length := by omega
    have e1 : preN (clrAt s.h.L cells) s.h.L i = clrL s.h.L cells := by rw [ei, pre_full]; rfl
    have e2 : preN (clrAt s.h.R cells) s.h.R i = clrL s.h.R cells := by rw [show i = s.h.R.length by omega, pre_full]; rfl
    have c1 := clrL_len s.h.L cells
    have c2 := clrL_len s.h.R cells
    rw [e1] at lla ⊢
    rw [e2] at lra ⊢
    clear e1 e2 c1 c2
    refine W_go ?_
    refine W_rt [(2056, (100, 0)), (2057, (101, 0)), (2058, (102, 0)), (10264, (103, 0))] [] ?_
    simp [Sto.clr, clrL_len]
end Go.Proofs.YtbobhbhgomkgpaaGreatDoor.S
