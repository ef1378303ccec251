/- Contracts: the law's own small functions. Own work of this claim. -/
import Derived.Test.YtnepiffboakehaaGreatDoorSw
import Derived.Test.YtnepiffboakehaaGreatDoorA4
namespace Go.Proofs.YtnepiffboakehaaGreatDoor.S
set_option linter.all false
open Go Go.Proofs

theorem l4At_c (l : List Int) (n : Int) (hl : l.length < 1099511627776) : Fn Tryz.prog 126 [(0, .c false (.ints l))] [.sl 0 0 l.length, .int .i64 n] (fun r H => r = .int .i64 (idx l n) ∧ H = []) := by
  refine Fn_go Tryz.func126 ?_
  refine W_go ?_
  refine W_lp (T := 6) (σ := Nat) (me := fun i => [(5, .int .i64 i)]) (mh := fun _ => []) (inv := fun i => i ≤ l.length ∧ ∀ j, j < i → l.getD j 0 ≠ n) (m := fun i => l.length - i) (s0 := 0) (by simp) ?_
  rintro i ⟨hi, hne⟩
  refine W_go ?_
  refine W_if (fun h1 => ?_) (fun h1 => ?_)
  · refine W_go ?_
    refine W_if (fun h2 => ?_) (fun h2 => ?_)
    · refine W_go ?_
      refine W_rt [] [] ?_
      exact ⟨by rw [idx_at (by omega) hne h2], rfl⟩
    · refine W_go ?_
      refine W_bk (i + 1) ⟨by omega, fun j hj => ?_⟩ (by omega)
      by_cases e : j = i
      · subst e; exact h2
      · exact hne j (by omega)
  · refine W_go ?_
    refine W_rt [] [] ?_
    exact ⟨by rw [idx_none (fun j hj => hne j (by omega))], rfl⟩

theorem szH_lt {h : Hp} {n : Int} : 0 ≤ szH h n ∧ szH h n = n - h.L.length - h.R.length - h.T.length ∨ szH h n = -1 := by
  have s1 := @szI_lt h.L n
  have s2 := @szI_lt h.R (szI h.L n)
  have s3 := @szI_lt h.T (szI h.R (szI h.L n))
  unfold szH
  split
  · omega
  · split
    · omega
    · split <;> omega
theorem szS_ok {s : Sto} {n : Int} (h : ¬ szS s n < 0) : (s.h.L.length : Int) + s.h.R.length + s.h.T.length + s.F.length ≤ n := by
  have s1 := @szH_lt s.h n
  have s2 := @szI_lt s.F (szH s.h n)
  unfold szS at h
  split at h
  · omega
  · split at h <;> omega
theorem hdH_lt (h : Hp) (k : Int) (hk : 0 ≤ k) : hdH h k = -1 ∨ hdH h k = k + h.L.length + h.R.length + h.T.length ∧ 0 ≤ hdH h k := by
  have s1 := hdI_lt h.L k hk
  unfold hdH
  split
  · left; rfl
  · have s2 := hdI_lt h.R (hdI h.L k) (by omega)
    split
    · left; rfl
    · have s3 := hdI_lt h.T (hdI h.R (hdI h.L k)) (by omega)
      split <;> omega
theorem Hp.same_self (h : Hp) : h.same h = true := by simp [Hp.same]
theorem Sto.same_self (s : Sto) : s.same s = true := by simp [Sto.same, Hp.same_self]
def mkS (s : Sto) (k : Int) : Sto := ⟨⟨mkI s.h.L.length k, mkI s.h.R.length (k + s.h.L.length), mkI s.h.T.length (k + s.h.L.length + s.h.R.length)⟩, mkI s.F.length (k + s.h.L.length + s.h.R.length + s.h.T.length)⟩
theorem hdI_mk (n : Nat) (k : Int) : hdI (mkI n k) k = k + n := by
  unfold hdI
  rw [mkI_len, if_pos rfl]
theorem hdS_mk (s : Sto) (k : Int) (hk : 0 ≤ k) : hdS (mkS s k) k = k + s.h.L.length + s.h.R.length + s.h.T.length + s.F.length := by
  have hH : hdH (mkS s k).h k = k + s.h.L.length + s.h.R.length + s.h.T.length := by
    unfold hdH mkS
    simp only [hdI_mk]
    rw [if_neg (by omega), if_neg (by omega), if_neg (by omega)]
  have hF : hdI (mkS s k).F (k + s.h.L.length + s.h.R.length + s.h.T.length) = k + s.h.L.length + s.h.R.length + s.h.T.length + s.F.length := hdI_mk _ _
  unfold hdS
  rw [hH, hF, if_neg (by omega), if_neg (by omega)]
end Go.Proofs.YtnepiffboakehaaGreatDoor.S
