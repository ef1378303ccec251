/- Contracts: two of both held against each other. Own work of this claim. -/
import Derived.Test.YtnepiffboakehaaGreatDoorGv
import Derived.Test.YtnepiffboakehaaGreatDoorGh
import Derived.Test.YtnepiffboakehaaGreatDoorGe
namespace Go.Proofs.YtnepiffboakehaaGreatDoor.S
set_option linter.all false
open Go Go.Proofs
set_option maxHeartbeats 4000000
set_option maxRecDepth 100000

theorem same_ofO {a b : List (Int × Int × Int)} (hl : a.length = b.length) (h : ∀ j, j < a.length → a.getD j (0, 0, 0) = b.getD j (0, 0, 0)) : a = b := by
  apply List.ext_getElem hl
  intro i h1 h2
  have := h i h1
  rw [List.getD_eq_getElem?_getD, List.getD_eq_getElem?_getD, List.getElem?_eq_getElem h1, List.getElem?_eq_getElem h2] at this
  exact this
def Bth.same (a b : Bth) : Bool := a.s.same b.s && a.g.same b.g && decide (a.o = b.o) && decide (a.a = b.a) && (a.l == b.l)
theorem Bth.same_self (b : Bth) : b.same b = true := by
  unfold Bth.same
  rw [S.same_self]
  simp [Gcc.same]
theorem zEqO_c (a b : List (Int × Int × Int)) (ha : a.length ≤ 4194304) (hb : b.length ≤ 4194304) : Fn Tryz.prog 39 [(0, .c false (.ops a)), (1, .c false (.ops b))] [.sl 0 0 a.length, .sl 1 0 b.length] (fun r H => r = .bool (decide (a = b)) ∧ H = []) := by
  refine Fn_go Tryz.func39 ?_
  refine W_go ?_
  refine W_if (fun h1 => ?_) (fun h1 => ?_)
  · refine W_go ?_
    refine W_rt [] [] ?_
    exact ⟨by rw [decide_eq_false]; rintro rfl; exact h1 rfl, rfl⟩
  · have h4 : a.length ≤ b.length ∧ b.length ≤ a.length := by omega
    clear h1
    refine W_go ?_
    refine W_lp (T := 14) (σ := Nat) (me := fun i => [(13, .int .i64 i)]) (mh := fun _ => []) (inv := fun i => i ≤ a.length ∧ Hold (∀ j, j < i → a.getD j (0, 0, 0) = b.getD j (0, 0, 0))) (m := fun i => a.length - i) (s0 := 0) ⟨by omega, ⟨by intro j hj; omega⟩⟩ ?_
    rintro i ⟨hi, hne⟩
    refine W_go ?_
    refine W_if (fun h2 => ?_) (fun h2 => ?_)
    · repeat (first | refine W_seq ?_ | refine W_skip ?_ | refine W_block ?_ | refine W_pop ?_ | refine W_o ?_)
      refine W_dos [.w 3 (.agg [.int .i64 (a.getD i (0, 0, 0)).1, .int .i64 (a.getD i (0, 0, 0)).2.1, .int .i64 (a.getD i (0, 0, 0)).2.2]), .w 7 (.agg [.int .i64 (b.getD i (0, 0, 0)).1, .int .i64 (b.getD i (0, 0, 0)).2.1, .int .i64 (b.getD i (0, 0, 0)).2.2])] ?_
      refine W_if (fun h3 => ?_) (fun h3 => ?_)
      · refine W_go ?_
        refine W_rt [] [] ?_
        exact ⟨by rw [decide_eq_false]; rintro rfl; exact h3 rfl, rfl⟩
      · refine W_go ?_
        refine W_bk (i + 1) ⟨by omega, ⟨fun j hj => ?_⟩⟩ (by omega)
        by_cases e : j = i
        · subst e; exact Decidable.not_not.1 h3
        · exact hne.told j (by omega)
    · refine W_go ?_
      refine W_rt [] [] ?_
      exact ⟨by rw [decide_eq_true]; exact same_ofO (by omega) fun j hj => hne.told j (by omega), rfl⟩
theorem iBothSame_c (a b : Bth) (ha : (((a.s.h.L.length ≤ 4194304 ∧ a.s.h.R.length ≤ 4194304 ∧ a.s.h.T.length ≤ 4194304) ∧ a.s.F.length ≤ 4194304) ∧ a.g.C.length ≤ 4194304) ∧ a.o.length ≤ 4194304) (hb : (((b.s.h.L.length ≤ 4194304 ∧ b.s.h.R.length ≤ 4194304 ∧ b.s.h.T.length ≤ 4194304) ∧ b.s.F.length ≤ 4194304) ∧ b.g.C.length ≤ 4194304) ∧ b.o.length ≤ 4194304) : Fn Tryz.prog 13 [(0, .c false (.ints a.s.h.L)), (1, .c false (.ints a.s.h.R)), (2, .c false (.ints a.s.h.T)), (3, .c false (.ints a.s.F)), (4, .c false (.ints a.g.C)), (5, .c false (.ops a.o)), (6, .c false (.ints b.s.h.L)), (7, .c false (.ints b.s.h.R)), (8, .c false (.ints b.s.h.T)), (9, .c false (.ints b.s.F)), (10, .c false (.ints b.g.C)), (11, .c false (.ops b.o))] [.agg [.sl 0 0 a.s.h.L.length, .sl 1 0 a.s.h.R.length, .sl 2 0 a.s.h.T.length, .sl 3 0 a.s.F.length, .int .i64 a.g.p, .sl 4 0 a.g.C.length, .int .i64 a.g.a, .sl 5 0 a.o.length, .int .i64 a.a, .bool a.l], .agg [.sl 6 0 b.s.h.L.length, .sl 7 0 b.s.h.R.length, .sl 8 0 b.s.h.T.length, .sl 9 0 b.s.F.length, .int .i64 b.g.p, .sl 10 0 b.g.C.length, .int .i64 b.g.a, .sl 11 0 b.o.length, .int .i64 b.a, .bool b.l]] (fun r H => r = .bool (a.same b) ∧ H = []) := by
  have h1 := iStoreSame_c a.s b.s ha.1.1 hb.1.1
  have h2 := iGcSame_c a.g b.g ha.1.2 hb.1.2
  have h3 := zEqO_c a.o b.o ha.2 hb.2
  refine Fn_go Tryz.func13 ?_
  by_cases e1 : a.s.same b.s = true
  case neg =>
    have e1 : a.s.same b.s = false := by simpa using e1
    have es : a.same b = false := by simp [Bth.same, e1]
    rw [e1] at h1
    rw [es]
    clear e1 es
    refine W_go ?_
    refine W_ch1 [(0, (0, 0)), (1, (1, 0)), (2, (2, 0)), (3, (3, 0)), (4, (6, 0)), (5, (7, 0)), (6, (8, 0)), (7, (9, 0))] h1 ?_
    refine W_go ?_
    refine W_rt [] [] ?_
    exact ⟨rfl, rfl⟩
  rw [e1] at h1
  by_cases e2 : a.g.same b.g = true
  case neg =>
    have e2 : a.g.same b.g = false := by simpa using e2
    have es : a.same b = false := by simp [Bth.same, e1, e2]
    rw [e2] at h2
    rw [es]
    clear e1 e2 es
    refine W_go ?_
    refine W_ch2 [(0, (0, 0)), (1, (1, 0)), (2, (2, 0)), (3, (3, 0)), (4, (6, 0)), (5, (7, 0)), (6, (8, 0)), (7, (9, 0))] h1 [(0, (4, 0)), (1, (10, 0))] h2 ?_
    refine W_go ?_
    refine W_rt [] [] ?_
    exact ⟨rfl, rfl⟩
  rw [e2] at h2
  by_cases e3 : a.o = b.o
  case neg =>
    have es : a.same b = false := by simp [Bth.same, e1, e2, e3]
    rw [decide_eq_false e3] at h3
    rw [es]
    clear e1 e2 es e3
    refine W_go ?_
    refine W_ch3 [(0, (0, 0)), (1, (1, 0)), (2, (2, 0)), (3, (3, 0)), (4, (6, 0)), (5, (7, 0)), (6, (8, 0)), (7, (9, 0))] h1 [(0, (4, 0)), (1, (10, 0))] h2 [(0, (5, 0)), (1, (11, 0))] h3 ?_
    refine W_go ?_
    refine W_rt [] [] ?_
    exact ⟨rfl, rfl⟩
  rw [decide_eq_true e3] at h3
  by_cases e4 : a.a = b.a
  case neg =>
    have es : a.same b = false := by simp [Bth.same, e1, e2, e3, e4]
    rw [es]
    clear e1 e2 es e3
    refine W_go ?_
    refine W_ch3 [(0, (0, 0)), (1, (1, 0)), (2, (2, 0)), (3, (3, 0)), (4, (6, 0)), (5, (7, 0)), (6, (8, 0)), (7, (9, 0))] h1 [(0, (4, 0)), (1, (10, 0))] h2 [(0, (5, 0)), (1, (11, 0))] h3 ?_
    refine W_go ?_
    refine W_rt [] [] ?_
    exact ⟨rfl, rfl⟩
  have es : a.same b = (a.l == b.l) := by simp [Bth.same, e1, e2, e3, e4]
  rw [es]
  clear e1 e2 es e3
  replace e4 := eq_true e4
  refine W_go ?_
  refine W_ch3 [(0, (0, 0)), (1, (1, 0)), (2, (2, 0)), (3, (3, 0)), (4, (6, 0)), (5, (7, 0)), (6, (8, 0)), (7, (9, 0))] h1 [(0, (4, 0)), (1, (10, 0))] h2 [(0, (5, 0)), (1, (11, 0))] h3 ?_
  refine W_go ?_
  refine W_rt [] [] ?_
  exact ⟨rfl, rfl⟩
theorem iBothT_c (b : Bth) (hl : (((b.s.h.L.length ≤ 4194304 ∧ b.s.h.R.length ≤ 4194304 ∧ b.s.h.T.length ≤ 4194304) ∧ b.s.F.length ≤ 4194304) ∧ b.g.C.length ≤ 4194304) ∧ b.o.length ≤ 4194304) : Fn Tryz.prog 13 [(0, .c false (.ints b.s.h.L)), (1, .c false (.ints b.s.h.R)), (2, .c false (.ints b.s.h.T)), (3, .c false (.ints b.s.F)), (4, .c false (.ints b.g.C)), (5, .c false (.ops b.o)), (6, .c false (.ints b.s.h.L)), (7, .c false (.ints b.s.h.R)), (8, .c false (.ints b.s.h.T)), (9, .c false (.ints b.s.F)), (10, .c false (.ints b.g.C)), (11, .c false (.ops b.o))] [.agg [.sl 0 0 b.s.h.L.length, .sl 1 0 b.s.h.R.length, .sl 2 0 b.s.h.T.length, .sl 3 0 b.s.F.length, .int .i64 b.g.p, .sl 4 0 b.g.C.length, .int .i64 b.g.a, .sl 5 0 b.o.length, .int .i64 b.a, .bool b.l], .agg [.sl 6 0 b.s.h.L.length, .sl 7 0 b.s.h.R.length, .sl 8 0 b.s.h.T.length, .sl 9 0 b.s.F.length, .int .i64 b.g.p, .sl 10 0 b.g.C.length, .int .i64 b.g.a, .sl 11 0 b.o.length, .int .i64 b.a, .bool b.l]] (fun r H => r = .bool true ∧ H = []) := by
  have h := iBothSame_c b b hl hl
  rw [Bth.same_self] at h
  exact h
end Go.Proofs.YtnepiffboakehaaGreatDoor.S
