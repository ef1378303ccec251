/- Texts of this claim's own, laid as one: He Hq. Own work of this claim. -/
import Derived.Test.YtbobhbhgomkgpaaGreatDoorB8
import Derived.Test.YtbobhbhgomkgpaaGreatDoorB6
import Derived.Test.YtbobhbhgomkgpaaGreatDoorB4
/- Contracts: two of both held against each other. Own work of this claim. -/
namespace Go.Proofs.YtbobhbhgomkgpaaGreatDoor.S
set_option linter.all false
open Go Go.Proofs
set_option maxHeartbeats 4000000
set_option maxRecDepth 100000

def Bth.same (a b : Bth) : Bool := a.s.same b.s && a.g.same b.g && decide (a.o = b.o) && decide (a.a = b.a) && (a.l == b.l)
theorem Bth.same_self (b : Bth) : b.same b = true := by
  unfold Bth.same
  rw [S.same_self]
  simp [Gcc.same]
end Go.Proofs.YtbobhbhgomkgpaaGreatDoor.S

/- Contracts: the reference's comparisons of stores and of both. Own work of this claim. -/
namespace Go.Proofs.YtbobhbhgomkgpaaGreatDoor.S
set_option linter.all false
open Go Go.Proofs
set_option maxHeartbeats 4000000
set_option maxRecDepth 100000

theorem Hp.same_eq {a b : Hp} (h : a.same b = true) : b = a := by
  simp only [Hp.same, Bool.and_eq_true, decide_eq_true_eq] at h
  obtain ⟨l, r, t⟩ := a; obtain ⟨l', r', t'⟩ := b
  obtain ⟨rfl, rfl, rfl⟩ := h
  rfl
theorem Sto.same_eq {a b : Sto} (h : a.same b = true) : b = a := by
  simp only [Sto.same, Bool.and_eq_true, decide_eq_true_eq] at h
  obtain ⟨h1, f⟩ := a; obtain ⟨h2, f'⟩ := b
  have e := Hp.same_eq h.1
  have e2 := h.2
  dsimp only at e e2
  rw [e, e2]
theorem Sto.same_symm (a b : Sto) : b.same a = a.same b := by
  cases h : a.same b
  · cases h2 : b.same a
    · rfl
    · have := Sto.same_eq h2
      rw [this, S.same_self] at h; cases h
  · rw [Sto.same_eq h]; exact S.same_self a
theorem sl1Ints_c (a b : List Int) (ha : a.length < 1099511627776) (hb : b.length < 1099511627776) : Fn Tryz.prog 125 [(0, .c false (.ints a)), (1, .c false (.ints b))] [.sl 0 0 a.length, .sl 1 0 b.length] (fun r H => r = .bool (decide (a = b)) ∧ H = []) := by
  refine Fn_go Tryz.func125 ?_
  refine W_go ?_
  refine W_if (fun h1 => ?_) (fun h1 => ?_)
  · refine W_go ?_
    refine W_rt [] [] ?_
    exact ⟨by rw [decide_eq_false]; rintro rfl; exact h1 rfl, rfl⟩
  · refine W_go ?_
    refine W_lp (T := 6) (σ := Nat) (me := fun i => [(5, .int .i64 i)]) (mh := fun _ => []) (inv := fun i => i ≤ a.length ∧ Hold (∀ j, j < i → a.getD j 0 = b.getD j 0)) (m := fun i => a.length - i) (s0 := 0) ⟨by omega, ⟨by intro j hj; omega⟩⟩ ?_
    rintro i ⟨hi, hne⟩
    refine W_go ?_
    refine W_if (fun h2 => ?_) (fun h2 => ?_)
    · refine W_go ?_
      refine W_if (fun h3 => ?_) (fun h3 => ?_)
      · refine W_go ?_
        refine W_rt [] [] ?_
        exact ⟨by rw [decide_eq_false]; rintro rfl; exact h3 rfl, rfl⟩
      · refine W_go ?_
        refine W_bk (i + 1) ⟨by omega, ⟨fun j hj => ?_⟩⟩ (by omega)
        by_cases e : j = i
        · subst e; exact Decidable.not_not.1 h3
        · exact hne.told j (by omega)
    · refine W_go ?_
      refine W_rt [] [] ?_
      exact ⟨by rw [decide_eq_true]; exact same_of (by omega) fun j hj => hne.told j (by omega), rfl⟩
theorem sHeapSame_c (a b : Hp) (ha : a.L.length ≤ 4194304 ∧ a.R.length ≤ 4194304 ∧ a.T.length ≤ 4194304) (hb : b.L.length ≤ 4194304 ∧ b.R.length ≤ 4194304 ∧ b.T.length ≤ 4194304) : Fn Tryz.prog 126 [(0, .c false (.ints a.L)), (1, .c false (.ints a.R)), (2, .c false (.ints a.T)), (3, .c false (.ints b.L)), (4, .c false (.ints b.R)), (5, .c false (.ints b.T))] [.agg [.sl 0 0 a.L.length, .sl 1 0 a.R.length, .sl 2 0 a.T.length], .agg [.sl 3 0 b.L.length, .sl 4 0 b.R.length, .sl 5 0 b.T.length]] (fun r H => r = .bool (a.same b) ∧ H = []) := by
  have h1 := sl1Ints_c a.L b.L (by omega) (by omega)
  have h2 := sl1Ints_c a.R b.R (by omega) (by omega)
  have h3 := sl1Ints_c a.T b.T (by omega) (by omega)
  refine Fn_go Tryz.func126 ?_
  by_cases e1 : a.L = b.L
  case neg =>
    rw [decide_eq_false e1] at h1
    have es : a.same b = false := by simp [Hp.same, e1]
    rw [es]
    clear e1 es
    refine W_go ?_
    refine W_ch1 [(0, (0, 0)), (1, (3, 0))] h1 ?_
    refine W_go ?_
    refine W_rt [] [] ?_
    exact ⟨rfl, rfl⟩
  rw [decide_eq_true e1] at h1
  by_cases e2 : a.R = b.R
  case neg =>
    rw [decide_eq_false e2] at h2
    have es : a.same b = false := by simp [Hp.same, e2]
    rw [es]
    clear e1 e2 es
    refine W_go ?_
    refine W_ch2 [(0, (0, 0)), (1, (3, 0))] h1 [(0, (1, 0)), (1, (4, 0))] h2 ?_
    refine W_go ?_
    refine W_rt [] [] ?_
    exact ⟨rfl, rfl⟩
  rw [decide_eq_true e2] at h2
  have es : a.same b = decide (a.T = b.T) := by simp [Hp.same, e1, e2]
  rw [es]
  clear e1 e2 es
  generalize decide (a.T = b.T) = d at *
  refine W_go ?_
  refine W_ch3 [(0, (0, 0)), (1, (3, 0))] h1 [(0, (1, 0)), (1, (4, 0))] h2 [(0, (2, 0)), (1, (5, 0))] h3 ?_
  refine W_go ?_
  refine W_rt [] [] ?_
  exact ⟨rfl, rfl⟩
theorem sStoreSame_c (a b : Sto) (ha : (a.h.L.length ≤ 4194304 ∧ a.h.R.length ≤ 4194304 ∧ a.h.T.length ≤ 4194304) ∧ a.F.length ≤ 4194304) (hb : (b.h.L.length ≤ 4194304 ∧ b.h.R.length ≤ 4194304 ∧ b.h.T.length ≤ 4194304) ∧ b.F.length ≤ 4194304) : Fn Tryz.prog 99 [(0, .c false (.ints a.h.L)), (1, .c false (.ints a.h.R)), (2, .c false (.ints a.h.T)), (3, .c false (.ints a.F)), (4, .c false (.ints b.h.L)), (5, .c false (.ints b.h.R)), (6, .c false (.ints b.h.T)), (7, .c false (.ints b.F))] [.agg [.sl 0 0 a.h.L.length, .sl 1 0 a.h.R.length, .sl 2 0 a.h.T.length, .sl 3 0 a.F.length], .agg [.sl 4 0 b.h.L.length, .sl 5 0 b.h.R.length, .sl 6 0 b.h.T.length, .sl 7 0 b.F.length]] (fun r H => r = .bool (a.same b) ∧ H = []) := by
  have h1 := sHeapSame_c a.h b.h ha.1 hb.1
  have h2 := sl1Ints_c a.F b.F (by omega) (by omega)
  refine Fn_go Tryz.func99 ?_
  by_cases e1 : a.h.same b.h = true
  case neg =>
    have e1 : a.h.same b.h = false := by simpa using e1
    rw [e1] at h1
    have es : a.same b = false := by simp [Sto.same, e1]
    rw [es]
    clear e1 es
    refine W_go ?_
    refine W_ch1 [(0, (0, 0)), (1, (1, 0)), (2, (2, 0)), (3, (4, 0)), (4, (5, 0)), (5, (6, 0))] h1 ?_
    refine W_go ?_
    refine W_rt [] [] ?_
    exact ⟨rfl, rfl⟩
  rw [e1] at h1
  have es : a.same b = decide (a.F = b.F) := by simp [Sto.same, e1]
  rw [es]
  clear e1 es
  generalize decide (a.F = b.F) = d at *
  refine W_go ?_
  refine W_ch2 [(0, (0, 0)), (1, (1, 0)), (2, (2, 0)), (3, (4, 0)), (4, (5, 0)), (5, (6, 0))] h1 [(0, (3, 0)), (1, (7, 0))] h2 ?_
  refine W_go ?_
  refine W_rt [] [] ?_
  exact ⟨rfl, rfl⟩

theorem Gcc.same_eq {a b : Gcc} (h : a.same b = true) : b = a := by
  simp only [Gcc.same, Bool.and_eq_true, decide_eq_true_eq] at h
  obtain ⟨l, r, t⟩ := a; obtain ⟨l', r', t'⟩ := b
  obtain ⟨rfl, rfl, rfl⟩ := h
  rfl
theorem Bth.same_eq {a b : Bth} (h : a.same b = true) : b = a := by
  simp only [Bth.same, Bool.and_eq_true, decide_eq_true_eq, beq_iff_eq] at h
  obtain ⟨s, g, o, x, l⟩ := a; obtain ⟨s', g', o', x', l'⟩ := b
  obtain ⟨⟨⟨⟨h1, h2⟩, h3⟩, h4⟩, h5⟩ := h
  have e1 := Sto.same_eq h1
  have e2 := Gcc.same_eq h2
  dsimp only at e1 e2 h3 h4 h5
  rw [e1, e2, h3, h4, h5]
theorem Bth.same_symm (a b : Bth) : b.same a = a.same b := by
  cases h : a.same b
  · cases h2 : b.same a
    · rfl
    · have := Bth.same_eq h2
      rw [this, Bth.same_self] at h; cases h
  · rw [Bth.same_eq h]; exact Bth.same_self a
theorem sGcSame_c (x y : Gcc) (hx : x.C.length ≤ 4194304) (hy : y.C.length ≤ 4194304) : Fn Tryz.prog 98 [(0, .c false (.ints x.C)), (1, .c false (.ints y.C))] [.agg [.int .i64 x.p, .sl 0 0 x.C.length, .int .i64 x.a], .agg [.int .i64 y.p, .sl 1 0 y.C.length, .int .i64 y.a]] (fun r H => r = .bool (x.same y) ∧ H = []) := by
  have hE := sl1Ints_c x.C y.C (by omega) (by omega)
  refine Fn_go Tryz.func98 ?_
  refine W_go ?_
  by_cases e1 : x.p = y.p
  case neg =>
    refine W_gh ?_
    refine W_go ?_
    refine W_rt [] [] ?_
    exact ⟨by simp [Gcc.same, e1], rfl⟩
  by_cases e2 : x.a = y.a
  case neg =>
    refine W_gh ?_
    refine W_go ?_
    refine W_rt [] [] ?_
    exact ⟨by simp [Gcc.same, e1, e2], rfl⟩
  have es : x.same y = decide (x.C = y.C) := by simp [Gcc.same, e1, e2]
  rw [es]
  clear es
  refine W_ch1 [(0, (0, 0)), (1, (1, 0))] hE ?_
  refine W_go ?_
  refine W_rt [] [] ?_
  exact ⟨rfl, rfl⟩
end Go.Proofs.YtbobhbhgomkgpaaGreatDoor.S
