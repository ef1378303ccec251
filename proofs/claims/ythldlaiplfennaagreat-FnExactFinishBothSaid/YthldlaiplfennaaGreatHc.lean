/- Contracts: a program and a collector in laws of the exact kind: equality, marks. Own work of this claim. -/
import Derived.Test.YthldlaiplfennaaGreatHa
import Derived.Test.YthldlaiplfennaaGreatGp
import Derived.Test.YthldlaiplfennaaGreatPj
namespace Go.Proofs.YthldlaiplfennaaGreat.S
set_option linter.all false
open Go Go.Proofs
set_option maxHeartbeats 4000000
set_option maxRecDepth 100000

theorem eqOpS_s (l : List (Int × Int × Int)) (hl : l.length ≤ 4194304) : Fn Tryz.prog 36 [(0, .c false (.ops l)), (1, .c false (.ops l))] [.sl 0 0 l.length, .sl 1 0 l.length] (fun r H => r = .bool true ∧ H = []) := by
  have := eqOpS_c l l hl hl
  rwa [decide_eq_true rfl] at this
theorem eqBoth_t (b : Bth) (hl : (((b.s.h.L.length ≤ 4194304 ∧ b.s.h.R.length ≤ 4194304 ∧ b.s.h.T.length ≤ 4194304) ∧ b.s.F.length ≤ 4194304) ∧ b.g.C.length ≤ 4194304) ∧ b.o.length ≤ 4194304) : Fn Tryz.prog 9 [(0, .c false (.ints b.s.h.L)), (1, .c false (.ints b.s.h.R)), (2, .c false (.ints b.s.h.T)), (3, .c false (.ints b.s.F)), (4, .c false (.ints b.g.C)), (5, .c false (.ops b.o)), (6, .c false (.ints b.s.h.L)), (7, .c false (.ints b.s.h.R)), (8, .c false (.ints b.s.h.T)), (9, .c false (.ints b.s.F)), (10, .c false (.ints b.g.C)), (11, .c false (.ops b.o))] [.agg [.sl 0 0 b.s.h.L.length, .sl 1 0 b.s.h.R.length, .sl 2 0 b.s.h.T.length, .sl 3 0 b.s.F.length, .int .i64 b.g.p, .sl 4 0 b.g.C.length, .int .i64 b.g.a, .sl 5 0 b.o.length, .int .i64 b.a, .bool b.l], .agg [.sl 6 0 b.s.h.L.length, .sl 7 0 b.s.h.R.length, .sl 8 0 b.s.h.T.length, .sl 9 0 b.s.F.length, .int .i64 b.g.p, .sl 10 0 b.g.C.length, .int .i64 b.g.a, .sl 11 0 b.o.length, .int .i64 b.a, .bool b.l]] (fun r H => r = .bool true ∧ H = []) := by
  have h1 := eqStore_t b.s hl.1.1
  have h2 := eqGc_t b.g hl.1.2
  have h3 := eqOpS_s b.o hl.2
  refine Fn_go Tryz.func9 ?_
  refine W_go ?_
  refine W_c1 [(0, (0, 0)), (1, (1, 0)), (2, (2, 0)), (3, (3, 0)), (4, (6, 0)), (5, (7, 0)), (6, (8, 0)), (7, (9, 0))] h1 ?_
  refine W_iff ?_
  refine W_go ?_
  refine W_c1 [(0, (4, 0)), (1, (10, 0))] h2 ?_
  refine W_iff ?_
  refine W_go ?_
  refine W_c1 [(0, (5, 0)), (1, (11, 0))] h3 ?_
  refine W_iff ?_
  refine W_go ?_
  refine W_iff ?_
  refine W_go ?_
  refine W_iff ?_
  refine W_go ?_
  refine W_rt [] [] ?_
  exact ⟨rfl, rfl⟩
theorem heldOpS_c (n : Nat) (k : Int) (hn : n ≤ 4194304) (hk : 0 ≤ k ∧ k < 274877906944) : Fn Tryz.prog 42 [(0, .c false (.ops (mkO n k)))] [.sl 0 0 n, .int .i64 k] (fun r H => r = .int .i64 (k + 3 * (n : Int)) ∧ H = []) := by
  have hm : (mkO n k).length ≤ n ∧ n ≤ (mkO n k).length := by simp [mkO]
  have hg : Hold (∀ i, i < n → (mkO n k).getD i (0, 0, 0) = (k + 3 * (i : Int), k + 3 * (i : Int) + 1, k + 3 * (i : Int) + 1 + 1)) := ⟨fun i hi => by simp [mkO, List.getD_eq_getElem?_getD, hi]⟩
  generalize mkO n k = w at *
  refine Fn_go Tryz.func42 ?_
  refine W_go ?_
  refine W_lp (T := 6) (σ := Nat) (me := fun i => [(5, .int .i64 i), (1, .int .i64 (k + 3 * (i : Int)))]) (mh := fun i => []) (inv := fun i => i ≤ n) (m := fun i => n - i) (s0 := 0) (Nat.zero_le _) ?_
  rintro i hi
  refine W_go ?_
  refine W_if (fun h2 => ?_) (fun h2 => ?_)
  case' refine_2 =>
    refine W_go ?_
    have e : i = n := by omega
    subst e
    refine W_rt [] [] ?_
    exact ⟨rfl, rfl⟩
  have hgi := hg.told i (by omega)
  have q1 : ¬ ¬ (w.getD i (0, 0, 0)).1 = k + 3 * (i : Int) := by rw [hgi]; simp
  have q2 : ¬ ¬ (w.getD i (0, 0, 0)).2.1 = k + 3 * (i : Int) + 1 := by rw [hgi]; simp
  have q3 : ¬ ¬ (w.getD i (0, 0, 0)).2.2 = k + 3 * (i : Int) + 1 + 1 := by rw [hgi]; simp
  clear hgi
  have e1 : (i * 3 + 1) / 3 = i ∧ (i * 3 + 1) % 3 = 1 := by omega
  have e2 : (i * 3 + 2) / 3 = i ∧ (i * 3 + 2) % 3 = 2 := by omega
  obtain ⟨e1, e1'⟩ := e1
  obtain ⟨e2, e2'⟩ := e2
  replace q1 : Hold _ := ⟨q1⟩
  replace q2 : Hold _ := ⟨q2⟩
  replace q3 : Hold _ := ⟨q3⟩
  refine W_go ?_
  refine W_if (fun z => ?_) (fun _ => ?_)
  · exact absurd z q1.told
  refine W_go ?_
  refine W_gh ?_
  refine W_if (fun z => ?_) (fun _ => ?_)
  · exact absurd z q2.told
  refine W_go ?_
  refine W_gh ?_
  refine W_if (fun z => ?_) (fun _ => ?_)
  · exact absurd z q3.told
  refine W_go ?_
  exact W_bk (i + 1) (by omega) (by omega)
/-- A program and a collector are marked, and hold their marks. -/
theorem markBoth_t (b : Bth) (hl : (((b.s.h.L.length ≤ 4194304 ∧ b.s.h.R.length ≤ 4194304 ∧ b.s.h.T.length ≤ 4194304) ∧ b.s.F.length ≤ 4194304) ∧ b.g.C.length ≤ 4194304) ∧ b.o.length ≤ 4194304) : ∃ (k : Int) (ms : Bth), ¬ k < 0 ∧
    Fn Tryz.prog 10 [(0, .c true (.ints b.s.h.L)), (1, .c true (.ints b.s.h.R)), (2, .c true (.ints b.s.h.T)), (3, .c true (.ints b.s.F)), (4, .c true (.ints b.g.C)), (5, .c true (.ops b.o))] [.agg [.sl 0 0 b.s.h.L.length, .sl 1 0 b.s.h.R.length, .sl 2 0 b.s.h.T.length, .sl 3 0 b.s.F.length, .int .i64 b.g.p, .sl 4 0 b.g.C.length, .int .i64 b.g.a, .sl 5 0 b.o.length, .int .i64 b.a, .bool b.l], .int .i64 1] (fun r H => r = .int .i64 k ∧ H = [(0, .c true (.ints ms.s.h.L)), (1, .c true (.ints ms.s.h.R)), (2, .c true (.ints ms.s.h.T)), (3, .c true (.ints ms.s.F)), (4, .c true (.ints ms.g.C)), (5, .c true (.ops ms.o))]) ∧
    Fn Tryz.prog 11 [(0, .c false (.ints ms.s.h.L)), (1, .c false (.ints ms.s.h.R)), (2, .c false (.ints ms.s.h.T)), (3, .c false (.ints ms.s.F)), (4, .c false (.ints ms.g.C)), (5, .c false (.ops ms.o))] [.agg [.sl 0 0 b.s.h.L.length, .sl 1 0 b.s.h.R.length, .sl 2 0 b.s.h.T.length, .sl 3 0 b.s.F.length, .int .i64 b.g.p, .sl 4 0 b.g.C.length, .int .i64 b.g.a, .sl 5 0 b.o.length, .int .i64 b.a, .bool b.l], .int .i64 1] (fun r H => r = .int .i64 k ∧ H = []) := by
  have h1 := markStore_c b.s 1 hl.1.1 (by omega)
  have h2 := heldStore_c (mkS b.s 1) 1 (by simp only [mkS, mkI_len]; omega) (by omega)
  have e := hdS_mk b.s 1 (by omega)
  rw [e] at h2
  have hk : 0 ≤ 1 + (b.s.h.L.length : Int) + b.s.h.R.length + b.s.h.T.length + b.s.F.length ∧ 1 + (b.s.h.L.length : Int) + b.s.h.R.length + b.s.h.T.length + b.s.F.length < 100000000 := by omega
  generalize 1 + (b.s.h.L.length : Int) + b.s.h.R.length + b.s.h.T.length + b.s.F.length = k1 at *
  have h2 : Fn Tryz.prog 40 [(0, .c false (.ints (mkS b.s 1).h.L)), (1, .c false (.ints (mkS b.s 1).h.R)), (2, .c false (.ints (mkS b.s 1).h.T)), (3, .c false (.ints (mkS b.s 1).F))] [.agg [.sl 0 0 b.s.h.L.length, .sl 1 0 b.s.h.R.length, .sl 2 0 b.s.h.T.length, .sl 3 0 b.s.F.length], .int .i64 1] (fun r H => r = .int .i64 k1 ∧ H = []) := by simpa only [mkS, mkI_len] using h2
  have h1 : Fn Tryz.prog 37 [(0, .c true (.ints b.s.h.L)), (1, .c true (.ints b.s.h.R)), (2, .c true (.ints b.s.h.T)), (3, .c true (.ints b.s.F))] [.agg [.sl 0 0 b.s.h.L.length, .sl 1 0 b.s.h.R.length, .sl 2 0 b.s.h.T.length, .sl 3 0 b.s.F.length], .int .i64 1] (fun r H => r = .int .i64 k1 ∧ H = [(0, .c true (.ints (mkS b.s 1).h.L)), (1, .c true (.ints (mkS b.s 1).h.R)), (2, .c true (.ints (mkS b.s 1).h.T)), (3, .c true (.ints (mkS b.s 1).F))]) := h1
  generalize mkS b.s 1 = ms at *
  have h3 := markGc_c b.g k1 hl.1.2 (by omega)
  have h4 := heldGc_c b.g k1 hl.1.2 (by omega)
  have hk2 : 0 ≤ k1 + (b.g.C.length : Int) ∧ k1 + (b.g.C.length : Int) < 200000000 := by omega
  generalize mkI b.g.C.length k1 = mc at *
  generalize k1 + (b.g.C.length : Int) = k2 at *
  have h5 := markOpS_c b.o k2 hl.2 (by omega)
  have h6 := heldOpS_c b.o.length k2 hl.2 (by omega)
  have hk3 : 0 ≤ k2 + 3 * (b.o.length : Int) := by omega
  generalize mkO b.o.length k2 = mo at *
  generalize k2 + 3 * (b.o.length : Int) = k3 at *
  have n1 : ¬ k1 < 0 := by omega
  have n2 : ¬ k2 < 0 := by omega
  have n3 : ¬ k3 < 0 := by omega
  clear hk hk2 hk3
  refine ⟨k3, ⟨ms, ⟨0, mc, 0⟩, mo, 0, false⟩, n3, ?_, ?_⟩
  · refine Fn_go Tryz.func10 ?_
    refine W_go ?_
    refine W_c1 [(0, (0, 0)), (1, (1, 0)), (2, (2, 0)), (3, (3, 0))] h1 ?_
    refine W_go ?_
    refine W_c1 [(0, (4, 0))] h3 ?_
    refine W_go ?_
    refine W_c1 [(0, (5, 0))] h5 ?_
    refine W_go ?_
    exact W_rt [(0, (0, 0)), (1, (1, 0)), (2, (2, 0)), (3, (3, 0)), (4, (4, 0)), (5, (5, 0))] [] ⟨rfl, rfl⟩
  · refine Fn_go Tryz.func11 ?_
    refine W_go ?_
    refine W_c1 [(0, (0, 0)), (1, (1, 0)), (2, (2, 0)), (3, (3, 0))] h2 ?_
    refine W_go ?_
    refine W_if (fun z => ?_) (fun _ => ?_)
    · exact absurd z n1
    refine W_go ?_
    refine W_c1 [(0, (4, 0))] h4 ?_
    refine W_go ?_
    refine W_if (fun z => ?_) (fun _ => ?_)
    · exact absurd z n2
    refine W_go ?_
    refine W_c1 [(0, (5, 0))] h6 ?_
    refine W_go ?_
    refine W_if (fun z => ?_) (fun _ => ?_)
    · exact absurd z n3
    refine W_go ?_
    refine W_rt [] [] ?_
    exact ⟨rfl, rfl⟩
end Go.Proofs.YthldlaiplfennaaGreat.S
