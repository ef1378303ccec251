/- Contracts: runs of operations. Own work of this claim. -/
import Derived.Test.YtdkdepfgilbkeaaFr
import Derived.Test.YtdkdepfgilbkeaaGg
import Derived.Test.YtdkdepfgilbkeaaA5
namespace Go.Proofs.Ytdkdepfgilbkeaa.S
set_option linter.all false
open Go Go.Proofs
set_option maxHeartbeats 4000000
set_option maxRecDepth 100000

theorem iopsOk_c (l : List (Int × Int × Int)) (n : Nat) (hl : l.length ≤ 4194304) (hn : n ≤ 4194304) : Fn Try.prog 84 [(0, .c false (.ops l))] [.sl 0 0 l.length, .int .i64 n] (fun r H => r = .bool (decide (opsV l n)) ∧ H = []) := by
  have hC := fun i : Nat => iOpValid_c (opAt l i).1 (opAt l i).2.1 (opAt l i).2.2 n hn
  refine Fn_go Try.func84 ?_
  refine W_go ?_
  refine W_lp (T := 10) (σ := Nat) (me := fun i => [(9, .int .i64 i)]) (mh := fun _ => []) (inv := fun i => i ≤ l.length ∧ Hold (∀ j, j < i → opOk (opAt l j).1 (opAt l j).2.1 (opAt l j).2.2 n)) (m := fun i => l.length - i) (s0 := 0) ⟨by omega, ⟨by intro j hj; omega⟩⟩ ?_
  rintro i ⟨hi, hI⟩
  refine W_go ?_
  refine W_if (fun h2 => ?_) (fun h2 => ?_)
  case' refine_2 =>
    have e : decide (opsV l n) = decide ((l.length : Int) ≤ 12) := by
      rw [decide_eq_decide]
      refine ⟨fun q => by have := q.1; omega, fun q => ⟨by omega, fun j hj => hI.told j (by omega)⟩⟩
    rw [e]
    refine W_go ?_
    refine W_rt [] [] ?_
    exact ⟨rfl, rfl⟩
  have hC := hC i
  unfold opAt at hC
  refine W_go ?_
  refine W_go ?_
  by_cases g : opOk (l.getD i (0, 0, 0)).1 (l.getD i (0, 0, 0)).2.1 (l.getD i (0, 0, 0)).2.2 n
  · rw [decide_eq_true g] at hC
    replace g : Hold _ := ⟨g⟩
    refine W_c1 [] hC ?_
    refine W_iff ?_
    refine W_go ?_
    refine W_rk 10 [] ?_
    refine W_bk (i + 1) ⟨by omega, ⟨fun j hj => ?_⟩⟩ (by omega)
    by_cases e : j = i
    · subst e; exact g.told
    · exact hI.told j (by omega)
  · rw [decide_eq_false g] at hC
    replace g : Hold _ := ⟨g⟩
    refine W_c1 [] hC ?_
    refine W_ift ?_
    refine W_go ?_
    refine W_rt [] [] ?_
    exact ⟨by rw [decide_eq_false]; intro q; exact g.told (q.2 i (by omega)), rfl⟩
end Go.Proofs.Ytdkdepfgilbkeaa.S
