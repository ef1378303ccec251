/- Contracts: the law's own small functions. Own work of this claim. -/
import Derived.Test.YtnepiffboakehaaGreatDoorSw
import Derived.Test.YtnepiffboakehaaGreatDoorA4
namespace Go.Proofs.YtnepiffboakehaaGreatDoor.S
set_option linter.all false
open Go Go.Proofs

theorem l4At_c (l : List Int) (n : Int) (hl : l.length < 1099511627776) : Fn Tryz.prog 126 [(0, .c false (.ints l))] [.sl 0 0 l.length, .int .i64 n] (fun r H => r = .int .i64 (idx l n) ∧ H = []) := by
  refine Fn_go Tryz.func126 ?_
  refine W_go ?_
  refine W_lp (T := 6) (σ := Nat) (me := fun i => [(5, .int .i64 i)]) (mh := fun _ => []) (inv := fun i => i ≤ l.length ∧ ∀ j, j < i → l.getD j 0 ≠ n) (m := fun i => l.length - i) (s0 := 0) (by simp) ?_
  rintro i ⟨hi, hne⟩
  refine W_go ?_
  refine W_if (fun h1 => ?_) (fun h1 => ?_)
  · refine W_go ?_
    refine W_if (fun h2 => ?_) (fun h2 => ?_)
    · refine W_go ?_
      refine W_rt [] [] ?_
      exact ⟨by rw [idx_at (by omega) hne h2], rfl⟩
    · refine W_go ?_
      refine W_bk (i + 1) ⟨by omega, fun j hj => ?_⟩ (by omega)
      by_cases e : j = i
      · subst e; exact h2
      · exact hne j (by omega)
  · refine W_go ?_
    refine W_rt [] [] ?_
    exact ⟨by rw [idx_none (fun j hj => hne j (by omega))], rfl⟩

theorem Hp.same_self (h : Hp) : h.same h = true := by simp [Hp.same]
theorem Sto.same_self (s : Sto) : s.same s = true := by simp [Sto.same, Hp.same_self]
def mkS (s : Sto) (k : Int) : Sto := ⟨⟨mkI s.h.L.length k, mkI s.h.R.length (k + s.h.L.length), mkI s.h.T.length (k + s.h.L.length + s.h.R.length)⟩, mkI s.F.length (k + s.h.L.length + s.h.R.length + s.h.T.length)⟩
end Go.Proofs.YtnepiffboakehaaGreatDoor.S
