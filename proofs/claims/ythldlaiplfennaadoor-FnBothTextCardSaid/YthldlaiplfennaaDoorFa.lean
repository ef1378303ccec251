/- Contracts: the law's own small functions. Own work of this claim. -/
import Derived.Test.YthldlaiplfennaaDoorSw
import Derived.Test.YthldlaiplfennaaDoorA4
namespace Go.Proofs.YthldlaiplfennaaDoor.S
set_option linter.all false
open Go Go.Proofs

theorem l4At_c (l : List Int) (n : Int) (hl : l.length < 1099511627776) : Fn Tryd.prog 46 [(0, .c false (.ints l))] [.sl 0 0 l.length, .int .i64 n] (fun r H => r = .int .i64 (idx l n) ∧ H = []) := by
  refine Fn_go Tryd.func46 ?_
  refine W_go ?_
  refine W_lp (T := 6) (σ := Nat) (me := fun i => [(5, .int .i64 i)]) (mh := fun _ => []) (inv := fun i => i ≤ l.length ∧ ∀ j, j < i → l.getD j 0 ≠ n) (m := fun i => l.length - i) (s0 := 0) (by simp) ?_
  rintro i ⟨hi, hne⟩
  refine W_go ?_
  refine W_if (fun h1 => ?_) (fun h1 => ?_)
  · refine W_go ?_
    refine W_if (fun h2 => ?_) (fun h2 => ?_)
    · refine W_go ?_
      refine W_rt [] [] ?_
      exact ⟨by rw [idx_at (by omega) hne h2], rfl⟩
    · refine W_go ?_
      refine W_bk (i + 1) ⟨by omega, fun j hj => ?_⟩ (by omega)
      by_cases e : j = i
      · subst e; exact h2
      · exact hne j (by omega)
  · refine W_go ?_
    refine W_rt [] [] ?_
    exact ⟨by rw [idx_none (fun j hj => hne j (by omega))], rfl⟩

theorem szIntS_c (l : List Int) (n : Int) (hl : l.length ≤ 9223372036854775807) (hn : -1 ≤ n ∧ n < 1099511627776) : Fn Tryd.prog 49 [(0, .c false (.ints l))] [.sl 0 0 l.length, .int .i64 n] (fun r H => r = .int .i64 (szI l n) ∧ H = []) := by
  refine Fn_go Tryd.func49 ?_
  refine W_go ?_
  refine W_if (fun h1 => ?_) (fun h1 => ?_)
  · refine W_go ?_
    refine W_rt [] [] ?_
    exact ⟨by rw [szI, if_pos (by omega)], rfl⟩
  · refine W_go ?_
    refine W_rt [] [] ?_
    exact ⟨by rw [szI, if_neg (by omega)], rfl⟩

theorem toIntS_c (l : List Int) (hl : l.length < 1099511627776) : Fn Tryd.prog 51 [(0, .c false (.ints l))] [.sl 0 0 l.length] (fun r H => r = .sl 100 0 l.length ∧ H = [(100, .c true (.ints l))]) := by
  refine Fn_go Tryd.func51 ?_
  refine W_go ?_
  refine W_lp (T := 6) (σ := Nat) (me := fun i => [(4, .int .i64 i)]) (mh := fun i => [(2064, .c true (.ints (l.take i ++ List.replicate (l.length - i) 0)))]) (inv := fun i => i ≤ l.length) (m := fun i => l.length - i) (s0 := 0) (by simp) ?_
  rintro i hi
  refine W_go ?_
  refine W_if (fun h1 => ?_) (fun h1 => ?_)
  · refine W_go ?_
    exact W_bh (i + 1) (by omega) (by omega) (by rw [fill_set rfl (by omega)])
  · refine W_go ?_
    refine W_rt [(2064, (100, 0))] [] ?_
    have e : i = l.length := by omega
    subst e
    simp
theorem eqIntS_c (a b : List Int) (ha : a.length < 1099511627776) (hb : b.length < 1099511627776) : Fn Tryd.prog 53 [(0, .c false (.ints a)), (1, .c false (.ints b))] [.sl 0 0 a.length, .sl 1 0 b.length] (fun r H => r = .bool (decide (a = b)) ∧ H = []) := by
  refine Fn_go Tryd.func53 ?_
  refine W_go ?_
  refine W_if (fun h1 => ?_) (fun h1 => ?_)
  · refine W_go ?_
    refine W_rt [] [] ?_
    exact ⟨by rw [decide_eq_false]; rintro rfl; exact h1 rfl, rfl⟩
  · refine W_go ?_
    refine W_lp (T := 6) (σ := Nat) (me := fun i => [(5, .int .i64 i)]) (mh := fun _ => []) (inv := fun i => i ≤ a.length ∧ ∀ j, j < i → a.getD j 0 = b.getD j 0) (m := fun i => a.length - i) (s0 := 0) (by simp) ?_
    rintro i ⟨hi, hne⟩
    refine W_go ?_
    refine W_if (fun h2 => ?_) (fun h2 => ?_)
    · refine W_go ?_
      refine W_if (fun h3 => ?_) (fun h3 => ?_)
      · refine W_go ?_
        refine W_rt [] [] ?_
        exact ⟨by rw [decide_eq_false]; rintro rfl; exact h3 rfl, rfl⟩
      · refine W_go ?_
        refine W_bk (i + 1) ⟨by omega, fun j hj => ?_⟩ (by omega)
        by_cases e : j = i
        · subst e; exact Decidable.not_not.1 h3
        · exact hne j (by omega)
    · refine W_go ?_
      refine W_rt [] [] ?_
      exact ⟨by rw [decide_eq_true]; exact same_of (by omega) fun j hj => hne j (by omega), rfl⟩
theorem szHeap_c (h : Hp) (n : Int) (hl : h.L.length ≤ 9223372036854775807 ∧ h.R.length ≤ 9223372036854775807 ∧ h.T.length ≤ 9223372036854775807) (hn : 0 ≤ n ∧ n < 1099511627776) : Fn Tryd.prog 48 [(0, .c false (.ints h.L)), (1, .c false (.ints h.R)), (2, .c false (.ints h.T))] [.agg [.sl 0 0 h.L.length, .sl 1 0 h.R.length, .sl 2 0 h.T.length], .int .i64 n] (fun r H => r = .int .i64 (szH h n) ∧ H = []) := by
  refine Fn_go Tryd.func48 ?_
  refine W_go ?_
  refine W_c1 [(0, (0, 0))] (szIntS_c h.L n hl.1 (by omega)) ?_
  refine W_go ?_
  have s1 := @szI_lt h.L n
  refine W_if (fun h1 => ?_) (fun h1 => ?_)
  · refine W_go ?_
    refine W_rt [] [] ?_
    exact ⟨by rw [szH, if_pos h1], rfl⟩
  refine W_go ?_
  refine W_c1 [(0, (1, 0))] (szIntS_c h.R (szI h.L n) hl.2.1 (by omega)) ?_
  refine W_go ?_
  have s2 := @szI_lt h.R (szI h.L n)
  refine W_if (fun h2 => ?_) (fun h2 => ?_)
  · refine W_go ?_
    refine W_rt [] [] ?_
    exact ⟨by rw [szH, if_neg h1, if_pos h2], rfl⟩
  refine W_go ?_
  refine W_c1 [(0, (2, 0))] (szIntS_c h.T (szI h.R (szI h.L n)) hl.2.2 (by omega)) ?_
  refine W_go ?_
  refine W_if (fun h3 => ?_) (fun h3 => ?_)
  · refine W_go ?_
    refine W_rt [] [] ?_
    exact ⟨by rw [szH, if_neg h1, if_neg h2, if_pos h3], rfl⟩
  refine W_go ?_
  refine W_rt [] [] ?_
  exact ⟨by rw [szH, if_neg h1, if_neg h2, if_neg h3], rfl⟩
theorem szH_lt {h : Hp} {n : Int} : 0 ≤ szH h n ∧ szH h n = n - h.L.length - h.R.length - h.T.length ∨ szH h n = -1 := by
  have s1 := @szI_lt h.L n
  have s2 := @szI_lt h.R (szI h.L n)
  have s3 := @szI_lt h.T (szI h.R (szI h.L n))
  unfold szH
  split
  · omega
  · split
    · omega
    · split <;> omega
theorem szS_ok {s : Sto} {n : Int} (h : ¬ szS s n < 0) : (s.h.L.length : Int) + s.h.R.length + s.h.T.length + s.F.length ≤ n := by
  have s1 := @szH_lt s.h n
  have s2 := @szI_lt s.F (szH s.h n)
  unfold szS at h
  split at h
  · omega
  · split at h <;> omega
theorem szStore_c (s : Sto) (n : Int) (hl : (s.h.L.length ≤ 9223372036854775807 ∧ s.h.R.length ≤ 9223372036854775807 ∧ s.h.T.length ≤ 9223372036854775807) ∧ s.F.length ≤ 9223372036854775807) (hn : 0 ≤ n ∧ n < 1099511627776) : Fn Tryd.prog 18 [(0, .c false (.ints s.h.L)), (1, .c false (.ints s.h.R)), (2, .c false (.ints s.h.T)), (3, .c false (.ints s.F))] [.agg [.sl 0 0 s.h.L.length, .sl 1 0 s.h.R.length, .sl 2 0 s.h.T.length, .sl 3 0 s.F.length], .int .i64 n] (fun r H => r = .int .i64 (szS s n) ∧ H = []) := by
  refine Fn_go Tryd.func18 ?_
  refine W_go ?_
  refine W_c1 [(0, (0, 0)), (1, (1, 0)), (2, (2, 0))] (szHeap_c s.h n hl.1 (by omega)) ?_
  refine W_go ?_
  have s1 := @szH_lt s.h n
  refine W_if (fun h1 => ?_) (fun h1 => ?_)
  · refine W_go ?_
    refine W_rt [] [] ?_
    exact ⟨by rw [szS, if_pos h1], rfl⟩
  refine W_go ?_
  refine W_c1 [(0, (3, 0))] (szIntS_c s.F (szH s.h n) hl.2 (by omega)) ?_
  refine W_go ?_
  refine W_if (fun h2 => ?_) (fun h2 => ?_)
  · refine W_go ?_
    refine W_rt [] [] ?_
    exact ⟨by rw [szS, if_neg h1, if_pos h2], rfl⟩
  refine W_go ?_
  refine W_rt [] [] ?_
  exact ⟨by rw [szS, if_neg h1, if_neg h2], rfl⟩
theorem toHeap_c (h : Hp) (hl : h.L.length < 1099511627776 ∧ h.R.length < 1099511627776 ∧ h.T.length < 1099511627776) : Fn Tryd.prog 50 [(0, .c false (.ints h.L)), (1, .c false (.ints h.R)), (2, .c false (.ints h.T))] [.agg [.sl 0 0 h.L.length, .sl 1 0 h.R.length, .sl 2 0 h.T.length]] (fun r H => r = .agg [.sl 100 0 h.L.length, .sl 101 0 h.R.length, .sl 102 0 h.T.length] ∧ H = [(100, .c true (.ints h.L)), (101, .c true (.ints h.R)), (102, .c true (.ints h.T))]) := by
  refine Fn_go Tryd.func50 ?_
  refine W_go ?_
  refine W_c1 [(0, (0, 0))] (toIntS_c h.L hl.1) ?_
  refine W_go ?_
  refine W_c1 [(0, (1, 0))] (toIntS_c h.R hl.2.1) ?_
  refine W_go ?_
  refine W_c1 [(0, (2, 0))] (toIntS_c h.T hl.2.2) ?_
  refine W_go ?_
  exact W_rt [(3088, (100, 0)), (4112, (101, 0)), (5136, (102, 0))] [] ⟨rfl, rfl⟩
theorem toStore_c (s : Sto) (hl : (s.h.L.length < 1099511627776 ∧ s.h.R.length < 1099511627776 ∧ s.h.T.length < 1099511627776) ∧ s.F.length < 1099511627776) : Fn Tryd.prog 19 [(0, .c false (.ints s.h.L)), (1, .c false (.ints s.h.R)), (2, .c false (.ints s.h.T)), (3, .c false (.ints s.F))] [.agg [.sl 0 0 s.h.L.length, .sl 1 0 s.h.R.length, .sl 2 0 s.h.T.length, .sl 3 0 s.F.length]] (fun r H => r = .agg [.sl 100 0 s.h.L.length, .sl 101 0 s.h.R.length, .sl 102 0 s.h.T.length, .sl 103 0 s.F.length] ∧ H = [(100, .c true (.ints s.h.L)), (101, .c true (.ints s.h.R)), (102, .c true (.ints s.h.T)), (103, .c true (.ints s.F))]) := by
  refine Fn_go Tryd.func19 ?_
  refine W_go ?_
  refine W_c1 [(0, (0, 0)), (1, (1, 0)), (2, (2, 0))] (toHeap_c s.h hl.1) ?_
  refine W_go ?_
  refine W_c1 [(0, (3, 0))] (toIntS_c s.F hl.2) ?_
  refine W_go ?_
  exact W_rt [(3088, (100, 0)), (3089, (101, 0)), (3090, (102, 0)), (4112, (103, 0))] [] ⟨rfl, rfl⟩
theorem eqHeap_c (a b : Hp) (ha : a.L.length < 1099511627776 ∧ a.R.length < 1099511627776 ∧ a.T.length < 1099511627776) (hb : b.L.length < 1099511627776 ∧ b.R.length < 1099511627776 ∧ b.T.length < 1099511627776) :
    Fn Tryd.prog 52 [(0, .c false (.ints a.L)), (1, .c false (.ints a.R)), (2, .c false (.ints a.T)), (3, .c false (.ints b.L)), (4, .c false (.ints b.R)), (5, .c false (.ints b.T))] [.agg [.sl 0 0 a.L.length, .sl 1 0 a.R.length, .sl 2 0 a.T.length], .agg [.sl 3 0 b.L.length, .sl 4 0 b.R.length, .sl 5 0 b.T.length]] (fun r H => r = .bool (a.same b) ∧ H = []) := by
  refine Fn_go Tryd.func52 ?_
  refine W_go ?_
  refine W_c1 [(0, (0, 0)), (1, (3, 0))] (eqIntS_c a.L b.L ha.1 hb.1) ?_
  refine W_if (fun h1 => ?_) (fun h1 => ?_)
  · refine W_go ?_
    refine W_rt [] [] ?_
    exact ⟨by simp [Hp.same, h1], rfl⟩
  refine W_go ?_
  refine W_c1 [(0, (1, 0)), (1, (4, 0))] (eqIntS_c a.R b.R ha.2.1 hb.2.1) ?_
  refine W_if (fun h2 => ?_) (fun h2 => ?_)
  · refine W_go ?_
    refine W_rt [] [] ?_
    exact ⟨by simp [Hp.same, h2], rfl⟩
  refine W_go ?_
  refine W_c1 [(0, (2, 0)), (1, (5, 0))] (eqIntS_c a.T b.T ha.2.2 hb.2.2) ?_
  refine W_if (fun h3 => ?_) (fun h3 => ?_)
  · refine W_go ?_
    refine W_rt [] [] ?_
    exact ⟨by simp [Hp.same, h3], rfl⟩
  refine W_go ?_
  refine W_rt [] [] ?_
  exact ⟨by simp [Hp.same, Decidable.not_not.1 h1, Decidable.not_not.1 h2, Decidable.not_not.1 h3], rfl⟩
theorem eqStore_c (a b : Sto) (ha : (a.h.L.length < 1099511627776 ∧ a.h.R.length < 1099511627776 ∧ a.h.T.length < 1099511627776) ∧ a.F.length < 1099511627776) (hb : (b.h.L.length < 1099511627776 ∧ b.h.R.length < 1099511627776 ∧ b.h.T.length < 1099511627776) ∧ b.F.length < 1099511627776) :
    Fn Tryd.prog 20 [(0, .c false (.ints a.h.L)), (1, .c false (.ints a.h.R)), (2, .c false (.ints a.h.T)), (3, .c false (.ints a.F)), (4, .c false (.ints b.h.L)), (5, .c false (.ints b.h.R)), (6, .c false (.ints b.h.T)), (7, .c false (.ints b.F))] [.agg [.sl 0 0 a.h.L.length, .sl 1 0 a.h.R.length, .sl 2 0 a.h.T.length, .sl 3 0 a.F.length], .agg [.sl 4 0 b.h.L.length, .sl 5 0 b.h.R.length, .sl 6 0 b.h.T.length, .sl 7 0 b.F.length]] (fun r H => r = .bool (a.same b) ∧ H = []) := by
  refine Fn_go Tryd.func20 ?_
  refine W_go ?_
  refine W_c1 [(0, (0, 0)), (1, (1, 0)), (2, (2, 0)), (3, (4, 0)), (4, (5, 0)), (5, (6, 0))] (eqHeap_c a.h b.h ha.1 hb.1) ?_
  refine W_ifb (fun h1 => ?_) (fun h1 => ?_)
  · refine W_go ?_
    refine W_rt [] [] ?_
    exact ⟨by simp [Sto.same] at h1 ⊢; simp [h1], rfl⟩
  refine W_go ?_
  refine W_c1 [(0, (3, 0)), (1, (7, 0))] (eqIntS_c a.F b.F ha.2 hb.2) ?_
  refine W_if (fun h2 => ?_) (fun h2 => ?_)
  · refine W_go ?_
    refine W_rt [] [] ?_
    exact ⟨by simp [Sto.same, h2], rfl⟩
  refine W_go ?_
  refine W_rt [] [] ?_
  exact ⟨by simp at h1; simp [Sto.same, h1, Decidable.not_not.1 h2], rfl⟩
theorem hdH_lt (h : Hp) (k : Int) (hk : 0 ≤ k) : hdH h k = -1 ∨ hdH h k = k + h.L.length + h.R.length + h.T.length ∧ 0 ≤ hdH h k := by
  have s1 := hdI_lt h.L k hk
  unfold hdH
  split
  · left; rfl
  · have s2 := hdI_lt h.R (hdI h.L k) (by omega)
    split
    · left; rfl
    · have s3 := hdI_lt h.T (hdI h.R (hdI h.L k)) (by omega)
      split <;> omega
theorem Hp.same_self (h : Hp) : h.same h = true := by simp [Hp.same]
theorem Sto.same_self (s : Sto) : s.same s = true := by simp [Sto.same, Hp.same_self]
def mkS (s : Sto) (k : Int) : Sto := ⟨⟨mkI s.h.L.length k, mkI s.h.R.length (k + s.h.L.length), mkI s.h.T.length (k + s.h.L.length + s.h.R.length)⟩, mkI s.F.length (k + s.h.L.length + s.h.R.length + s.h.T.length)⟩
theorem hdI_mk (n : Nat) (k : Int) : hdI (mkI n k) k = k + n := by
  unfold hdI
  rw [mkI_len, if_pos rfl]
theorem hdS_mk (s : Sto) (k : Int) (hk : 0 ≤ k) : hdS (mkS s k) k = k + s.h.L.length + s.h.R.length + s.h.T.length + s.F.length := by
  have hH : hdH (mkS s k).h k = k + s.h.L.length + s.h.R.length + s.h.T.length := by
    unfold hdH mkS
    simp only [hdI_mk]
    rw [if_neg (by omega), if_neg (by omega), if_neg (by omega)]
  have hF : hdI (mkS s k).F (k + s.h.L.length + s.h.R.length + s.h.T.length) = k + s.h.L.length + s.h.R.length + s.h.T.length + s.F.length := hdI_mk _ _
  unfold hdS
  rw [hH, hF, if_neg (by omega), if_neg (by omega)]
/-- What the exact laws ask of a store: told at once. -/
theorem eqStore_t (a : Sto) (ha : (a.h.L.length ≤ 4194304 ∧ a.h.R.length ≤ 4194304 ∧ a.h.T.length ≤ 4194304) ∧ a.F.length ≤ 4194304) : Fn Tryd.prog 20 [(0, .c false (.ints a.h.L)), (1, .c false (.ints a.h.R)), (2, .c false (.ints a.h.T)), (3, .c false (.ints a.F)), (4, .c false (.ints a.h.L)), (5, .c false (.ints a.h.R)), (6, .c false (.ints a.h.T)), (7, .c false (.ints a.F))] [.agg [.sl 0 0 a.h.L.length, .sl 1 0 a.h.R.length, .sl 2 0 a.h.T.length, .sl 3 0 a.F.length], .agg [.sl 4 0 a.h.L.length, .sl 5 0 a.h.R.length, .sl 6 0 a.h.T.length, .sl 7 0 a.F.length]] (fun r H => r = .bool true ∧ H = []) := by
  have := eqStore_c a a (by omega) (by omega)
  rw [Sto.same_self] at this
  exact this
end Go.Proofs.YthldlaiplfennaaDoor.S
