/- Contracts: a collector in laws of the exact kind: its bulk, its copy, equality, marks. Own work of this claim. -/
import Derived.Test.YthldlaiplfennaaDoorGh
import Derived.Test.YthldlaiplfennaaDoorFa
namespace Go.Proofs.YthldlaiplfennaaDoor.S
set_option linter.all false
open Go Go.Proofs
set_option maxHeartbeats 4000000
set_option maxRecDepth 100000

theorem szS_le {s : Sto} {n : Int} (h : ¬ szS s n < 0) : szS s n ≤ n := by
  have s1 := @szH_lt s.h n
  have s2 := @szI_lt s.F (szH s.h n)
  unfold szS at h ⊢
  split at h
  · omega
  · split at h
    · omega
    · rw [if_neg (by assumption), if_neg (by assumption)]; omega
theorem szGc_c (g : Gcc) (n : Int) (hl : g.C.length ≤ 9223372036854775807) (hn : 0 ≤ n ∧ n < 1099511627776) : Fn Tryd.prog 54 [(0, .c false (.ints g.C))] [.agg [.int .i64 g.p, .sl 0 0 g.C.length, .int .i64 g.a], .int .i64 n] (fun r H => r = .int .i64 (szI g.C n) ∧ H = []) := by
  have hZ := szIntS_c g.C n hl (by omega)
  have b := @szI_lt g.C n
  generalize szI g.C n = v at *
  refine Fn_go Tryd.func54 ?_
  refine W_go ?_
  refine W_c1 [(0, (0, 0))] hZ ?_
  refine W_go ?_
  refine W_if (fun h1 => ?_) (fun h1 => ?_)
  · refine W_go ?_
    refine W_rt [] [] ?_
    have e : v = -1 := by omega
    rw [e]
    exact ⟨rfl, rfl⟩
  refine W_go ?_
  refine W_rt [] [] ?_
  exact ⟨rfl, rfl⟩
theorem toGc_c (g : Gcc) (hl : g.C.length ≤ 4194304) : Fn Tryd.prog 56 [(0, .c false (.ints g.C))] [.agg [.int .i64 g.p, .sl 0 0 g.C.length, .int .i64 g.a]] (fun r H => r = .agg [.int .i64 g.p, .sl 100 0 g.C.length, .int .i64 g.a] ∧ H = [(100, .c true (.ints g.C))]) := by
  refine Fn_go Tryd.func56 ?_
  refine W_go ?_
  refine W_c1 [(0, (0, 0))] (toIntS_c g.C (by omega)) ?_
  refine W_go ?_
  exact W_rt [(4112, (100, 0))] [] ⟨rfl, rfl⟩
theorem eqGc_t (g : Gcc) (hl : g.C.length ≤ 4194304) : Fn Tryd.prog 59 [(0, .c false (.ints g.C)), (1, .c false (.ints g.C))] [.agg [.int .i64 g.p, .sl 0 0 g.C.length, .int .i64 g.a], .agg [.int .i64 g.p, .sl 1 0 g.C.length, .int .i64 g.a]] (fun r H => r = .bool true ∧ H = []) := by
  have h := eqIntS_c g.C g.C (by omega) (by omega)
  rw [decide_eq_true rfl] at h
  refine Fn_go Tryd.func59 ?_
  refine W_go ?_
  refine W_iff ?_
  refine W_go ?_
  refine W_c1 [(0, (0, 0)), (1, (1, 0))] h ?_
  refine W_iff ?_
  refine W_go ?_
  refine W_iff ?_
  refine W_go ?_
  refine W_rt [] [] ?_
  exact ⟨rfl, rfl⟩
end Go.Proofs.YthldlaiplfennaaDoor.S
