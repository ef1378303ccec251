/- Contracts: a collector in laws of the exact kind: its bulk, its copy, equality, marks. Own work of this claim. -/
import Derived.Test.YthldlaiplfennaaGreatGh
import Derived.Test.YthldlaiplfennaaGreatFa
namespace Go.Proofs.YthldlaiplfennaaGreat.S
set_option linter.all false
open Go Go.Proofs
set_option maxHeartbeats 4000000
set_option maxRecDepth 100000

theorem szS_le {s : Sto} {n : Int} (h : ¬ szS s n < 0) : szS s n ≤ n := by
  have s1 := @szH_lt s.h n
  have s2 := @szI_lt s.F (szH s.h n)
  unfold szS at h ⊢
  split at h
  · omega
  · split at h
    · omega
    · rw [if_neg (by assumption), if_neg (by assumption)]; omega
theorem szGc_c (g : Gcc) (n : Int) (hl : g.C.length ≤ 9223372036854775807) (hn : 0 ≤ n ∧ n < 1099511627776) : Fn Tryz.prog 23 [(0, .c false (.ints g.C))] [.agg [.int .i64 g.p, .sl 0 0 g.C.length, .int .i64 g.a], .int .i64 n] (fun r H => r = .int .i64 (szI g.C n) ∧ H = []) := by
  have hZ := szIntS_c g.C n hl (by omega)
  have b := @szI_lt g.C n
  generalize szI g.C n = v at *
  refine Fn_go Tryz.func23 ?_
  refine W_go ?_
  refine W_c1 [(0, (0, 0))] hZ ?_
  refine W_go ?_
  refine W_if (fun h1 => ?_) (fun h1 => ?_)
  · refine W_go ?_
    refine W_rt [] [] ?_
    have e : v = -1 := by omega
    rw [e]
    exact ⟨rfl, rfl⟩
  refine W_go ?_
  refine W_rt [] [] ?_
  exact ⟨rfl, rfl⟩
theorem toGc_c (g : Gcc) (hl : g.C.length ≤ 4194304) : Fn Tryz.prog 30 [(0, .c false (.ints g.C))] [.agg [.int .i64 g.p, .sl 0 0 g.C.length, .int .i64 g.a]] (fun r H => r = .agg [.int .i64 g.p, .sl 100 0 g.C.length, .int .i64 g.a] ∧ H = [(100, .c true (.ints g.C))]) := by
  refine Fn_go Tryz.func30 ?_
  refine W_go ?_
  refine W_c1 [(0, (0, 0))] (toIntS_c g.C (by omega)) ?_
  refine W_go ?_
  exact W_rt [(4112, (100, 0))] [] ⟨rfl, rfl⟩
theorem eqGc_t (g : Gcc) (hl : g.C.length ≤ 4194304) : Fn Tryz.prog 35 [(0, .c false (.ints g.C)), (1, .c false (.ints g.C))] [.agg [.int .i64 g.p, .sl 0 0 g.C.length, .int .i64 g.a], .agg [.int .i64 g.p, .sl 1 0 g.C.length, .int .i64 g.a]] (fun r H => r = .bool true ∧ H = []) := by
  have h := eqIntS_c g.C g.C (by omega) (by omega)
  rw [decide_eq_true rfl] at h
  refine Fn_go Tryz.func35 ?_
  refine W_go ?_
  refine W_iff ?_
  refine W_go ?_
  refine W_c1 [(0, (0, 0)), (1, (1, 0))] h ?_
  refine W_iff ?_
  refine W_go ?_
  refine W_iff ?_
  refine W_go ?_
  refine W_rt [] [] ?_
  exact ⟨rfl, rfl⟩
theorem markGc_c (g : Gcc) (k : Int) (hl : g.C.length ≤ 4194304) (hk : 0 ≤ k ∧ k < 274877906944) : Fn Tryz.prog 38 [(0, .c true (.ints g.C))] [.agg [.int .i64 g.p, .sl 0 0 g.C.length, .int .i64 g.a], .int .i64 k] (fun r H => r = .int .i64 (k + g.C.length) ∧ H = [(0, .c true (.ints (mkI g.C.length k)))]) := by
  refine Fn_go Tryz.func38 ?_
  refine W_go ?_
  refine W_c1 [(0, (0, 0))] (markIntS_c g.C k (by omega) (by omega)) ?_
  refine W_go ?_
  exact W_rt [(0, (0, 0))] [] ⟨rfl, rfl⟩
theorem heldGc_c (g : Gcc) (k : Int) (hl : g.C.length ≤ 4194304) (hk : 0 ≤ k ∧ k < 274877906944) : Fn Tryz.prog 41 [(0, .c false (.ints (mkI g.C.length k)))] [.agg [.int .i64 g.p, .sl 0 0 g.C.length, .int .i64 g.a], .int .i64 k] (fun r H => r = .int .i64 (k + g.C.length) ∧ H = []) := by
  have hh := heldIntS_c (mkI g.C.length k) k (by rw [mkI_len]; omega) (by omega)
  rw [hdI_mk, mkI_len] at hh
  have hk2 : ¬ (k + (g.C.length : Int) < 0) := by omega
  have hm : (mkI g.C.length k).length ≤ g.C.length ∧ g.C.length ≤ (mkI g.C.length k).length := by rw [mkI_len]; omega
  generalize mkI g.C.length k = w at *
  generalize k + (g.C.length : Int) = k2 at *
  refine Fn_go Tryz.func41 ?_
  refine W_go ?_
  refine W_c1 [(0, (0, 0))] hh ?_
  refine W_go ?_
  refine W_if (fun q => ?_) (fun _ => ?_)
  · exact absurd q hk2
  refine W_go ?_
  refine W_rt [] [] ?_
  exact ⟨rfl, rfl⟩
/-- A store and a collector are marked one behind the other, and hold their marks. -/
theorem markSG_t (s : Sto) (g : Gcc) (hl : (s.h.L.length ≤ 4194304 ∧ s.h.R.length ≤ 4194304 ∧ s.h.T.length ≤ 4194304) ∧ s.F.length ≤ 4194304) (hC : g.C.length ≤ 4194304) : ∃ (k2 k3 : Int) (ms : Sto) (mc : List Int), (¬ k2 < 0 ∧ ¬ k3 < 0) ∧
    Fn Tryz.prog 37 [(0, .c true (.ints s.h.L)), (1, .c true (.ints s.h.R)), (2, .c true (.ints s.h.T)), (3, .c true (.ints s.F))] [.agg [.sl 0 0 s.h.L.length, .sl 1 0 s.h.R.length, .sl 2 0 s.h.T.length, .sl 3 0 s.F.length], .int .i64 1] (fun r H => r = .int .i64 k2 ∧ H = [(0, .c true (.ints ms.h.L)), (1, .c true (.ints ms.h.R)), (2, .c true (.ints ms.h.T)), (3, .c true (.ints ms.F))]) ∧
    Fn Tryz.prog 40 [(0, .c false (.ints ms.h.L)), (1, .c false (.ints ms.h.R)), (2, .c false (.ints ms.h.T)), (3, .c false (.ints ms.F))] [.agg [.sl 0 0 s.h.L.length, .sl 1 0 s.h.R.length, .sl 2 0 s.h.T.length, .sl 3 0 s.F.length], .int .i64 1] (fun r H => r = .int .i64 k2 ∧ H = []) ∧
    Fn Tryz.prog 38 [(0, .c true (.ints g.C))] [.agg [.int .i64 g.p, .sl 0 0 g.C.length, .int .i64 g.a], .int .i64 k2] (fun r H => r = .int .i64 k3 ∧ H = [(0, .c true (.ints mc))]) ∧
    Fn Tryz.prog 41 [(0, .c false (.ints mc))] [.agg [.int .i64 g.p, .sl 0 0 g.C.length, .int .i64 g.a], .int .i64 k2] (fun r H => r = .int .i64 k3 ∧ H = []) := by
  have h1 := markStore_c s 1 hl (by omega)
  have h2 := heldStore_c (mkS s 1) 1 (by simp only [mkS, mkI_len]; omega) (by omega)
  have e := hdS_mk s 1 (by omega)
  rw [e] at h2
  have hk : 0 ≤ 1 + (s.h.L.length : Int) + s.h.R.length + s.h.T.length + s.F.length ∧ 1 + (s.h.L.length : Int) + s.h.R.length + s.h.T.length + s.F.length < 274877906944 := by omega
  refine ⟨1 + (s.h.L.length : Int) + s.h.R.length + s.h.T.length + s.F.length, 1 + (s.h.L.length : Int) + s.h.R.length + s.h.T.length + s.F.length + g.C.length, mkS s 1, _, by omega, h1, ?_, markGc_c g _ hC hk, heldGc_c g _ hC hk⟩
  simpa only [mkS, mkI_len] using h2
end Go.Proofs.YthldlaiplfennaaGreat.S
