/- Contracts: the reference's collector by steps. Own work of this claim. -/
import Derived.Test.YtnepiffboakehaaGreatDoorGh
import Derived.Test.YtnepiffboakehaaGreatDoorFf
import Derived.Test.YtnepiffboakehaaGreatDoorA5
namespace Go.Proofs.YtnepiffboakehaaGreatDoor.S
set_option linter.all false
open Go Go.Proofs
set_option maxHeartbeats 4000000
set_option maxRecDepth 100000

theorem sl6Swept_c (s : Sto) (g : Gcc) (w : g.weak s) (hF : s.F.length ≤ 1048576) : Fn Tryz.prog 83 [(0, .c false (.ints s.h.L)), (1, .c false (.ints s.h.R)), (2, .c false (.ints s.h.T)), (3, .c false (.ints s.F)), (4, .c false (.ints g.C))] [.agg [.sl 0 0 s.h.L.length, .sl 1 0 s.h.R.length, .sl 2 0 s.h.T.length, .sl 3 0 s.F.length], .agg [.int .i64 g.p, .sl 4 0 g.C.length, .int .i64 g.a]] (fun r H => r = .int .i64 (g.sw s) ∧ H = []) := by
  have hat := w.a
  unfold Gcc.atOk at hat
  have hlc := w.c.1
  have l8 := w.h.1.2.1
  have hA := l4At_c s.F g.a (by omega)
  have hi := idx_neg s.F g.a
  refine Fn_go Tryz.func83 ?_
  by_cases c1 : g.p = 3
  case neg =>
    have e : g.sw s = -1 := by rw [Gcc.sw, if_neg (fun q => c1 q.1)]
    rw [e]
    clear e hat hlc
    refine W_go ?_
    refine W_gh ?_
    refine W_iff ?_
    refine W_go ?_
    refine W_rt [] [] ?_
    exact ⟨rfl, rfl⟩
  have hl : 0 ≤ g.a ∧ g.a < g.C.length := by omega
  clear hat hlc
  by_cases c2 : g.C.getD g.a.toNat 0 = 0
  case neg =>
    have e : g.sw s = -1 := by rw [Gcc.sw, if_neg (fun q => c2 q.2.1)]
    rw [e]
    clear e
    replace c1 := eq_true c1
    refine W_go ?_
    refine W_gh ?_
    refine W_iff ?_
    refine W_go ?_
    refine W_rt [] [] ?_
    exact ⟨rfl, rfl⟩
  have e1 : g.a ∉ s.F → g.sw s = g.a := fun q => by rw [Gcc.sw, if_pos ⟨c1, c2, q⟩]
  have e2 : ¬ g.a ∉ s.F → g.sw s = -1 := fun q => by rw [Gcc.sw, if_neg (fun z => q z.2.2)]
  replace c1 := eq_true c1
  replace c2 := eq_true c2
  replace e1 : Hold _ := ⟨e1⟩
  replace e2 : Hold _ := ⟨e2⟩
  replace hi : Hold _ := ⟨hi⟩
  refine W_go ?_
  refine W_ch1 [(0, (3, 0))] hA ?_
  refine W_if (fun q => ?_) (fun q => ?_)
  · refine W_go ?_
    refine W_rt [] [] ?_
    exact ⟨by rw [e1.told (hi.told.1 q)], rfl⟩
  · refine W_go ?_
    refine W_rt [] [] ?_
    exact ⟨by rw [e2.told (fun z => q (hi.told.2 z))], rfl⟩
theorem nx_C (g : Gcc) (n : Nat) (ph : Int) : (g.nx n ph).C = g.C := by unfold Gcc.nx; split <;> rfl
theorem sl6Next_c (g : Gcc) (n : Nat) (ph : Int) (ha : 0 ≤ g.a ∧ g.a < 1000000) : Fn Tryz.prog 128 [(0, .c false (.ints g.C))] [.agg [.int .i64 g.p, .sl 0 0 g.C.length, .int .i64 g.a], .int .i64 n, .int .i64 ph] (fun r H => r = .agg [.int .i64 (g.nx n ph).p, .sl 0 0 g.C.length, .int .i64 (g.nx n ph).a] ∧ H = []) := by
  refine Fn_go Tryz.func128 ?_
  refine W_go ?_
  unfold Gcc.nx
  refine W_if (fun q => ?_) (fun q => ?_)
  · rw [if_pos q]
    refine W_go ?_
    refine W_rt [] [] ?_
    exact ⟨rfl, rfl⟩
  · rw [if_neg q]
    refine W_go ?_
    refine W_rt [] [] ?_
    exact ⟨rfl, rfl⟩
theorem sl3First_c (h : Hp) (C : List Int) (k : Int) (hC : C.length ≤ 4194304) : Fn Tryz.prog 150 [(0, .c false (.ints h.L)), (1, .c false (.ints h.R)), (2, .c false (.ints h.T)), (3, .c false (.ints C))] [.agg [.sl 0 0 h.L.length, .sl 1 0 h.R.length, .sl 2 0 h.T.length, .sl 3 0 C.length], .int .i64 k] (fun r H => r = .int .i64 (idx C k) ∧ H = []) := by
  refine Fn_go Tryz.func150 ?_
  refine W_go ?_
  refine W_lp (T := 6) (σ := Nat) (me := fun i => [(5, .int .i64 i)]) (mh := fun _ => []) (inv := fun i => i ≤ C.length ∧ Hold (∀ j, j < i → C.getD j 0 ≠ k)) (m := fun i => C.length - i) (s0 := 0) ⟨by omega, ⟨by intro j hj; omega⟩⟩ ?_
  rintro i ⟨hi, hI⟩
  refine W_go ?_
  refine W_if (fun h2 => ?_) (fun h2 => ?_)
  case' refine_2 =>
    refine W_go ?_
    refine W_rt [] [] ?_
    exact ⟨by rw [idx_none fun j hj => hI.told j (by omega)], rfl⟩
  refine W_go ?_
  refine W_if (fun h3 => ?_) (fun h3 => ?_)
  · replace h3 : Hold _ := ⟨h3⟩
    refine W_go ?_
    refine W_rt [] [] ?_
    exact ⟨by rw [idx_at (by omega) hI.told h3.told], rfl⟩
  replace h3 : Hold _ := ⟨h3⟩
  refine W_go ?_
  refine W_bk (i + 1) ⟨by omega, ⟨fun j hj => ?_⟩⟩ (by omega)
  by_cases e : j = i
  · subst e; exact h3.told
  · exact hI.told j (by omega)
theorem sl3Black_c (h : Hp) (C : List Int) (i : Nat) (ho : h.ok) (hC : C.length = h.L.length) (hi : i < C.length) : Fn Tryz.prog 151 [(0, .c false (.ints h.L)), (1, .c false (.ints h.R)), (2, .c false (.ints h.T)), (3, .c true (.ints C))] [.agg [.sl 0 0 h.L.length, .sl 1 0 h.R.length, .sl 2 0 h.T.length, .sl 3 0 C.length], .int .i64 i] (fun r H => r = .agg [.sl 0 0 h.L.length, .sl 1 0 h.R.length, .sl 2 0 h.T.length, .sl 3 0 C.length] ∧ H = [(3, .c true (.ints (blk h C i)))]) := by
  have l8 := ho.1.2.1
  have hR : h.R.length = h.L.length := ho.1.2.2.1
  have kL := okP_get ho.2.1 (show i < h.L.length by omega)
  have kR := okP_get ho.2.2.1 (show i < h.R.length by omega)
  have e1 := shd_len C (h.L.getD i 0)
  have h1 := sl3Shade_c C (h.L.getD i 0) (by omega) (by omega)
  have h2 := sl3Shade_c (shd C (h.L.getD i 0)) (h.R.getD i 0) (by omega) (by omega)
  rw [e1] at h2
  have e2 := shd_len (shd C (h.L.getD i 0)) (h.R.getD i 0)
  have b1 : i < h.L.length ∧ i < h.R.length := by omega
  have b2 : i < (shd (shd C (h.L.getD i 0)) (h.R.getD i 0)).length := by omega
  have t1 : List.take C.length (shd C (h.L.getD i 0)) = shd C (h.L.getD i 0) := List.take_of_length_le (by omega)
  have t2 : List.take C.length (shd (shd C (h.L.getD i 0)) (h.R.getD i 0)) = shd (shd C (h.L.getD i 0)) (h.R.getD i 0) := List.take_of_length_le (by omega)
  have t3 : List.take C.length ((shd (shd C (h.L.getD i 0)) (h.R.getD i 0)).set i 2) = (shd (shd C (h.L.getD i 0)) (h.R.getD i 0)).set i 2 := List.take_of_length_le (by rw [List.length_set]; omega)
  have b3 : (C.length ≤ (shd (shd C (h.L.getD i 0)) (h.R.getD i 0)).length ∧ C.length ≤ (shd C (h.L.getD i 0)).length) ∧ (shd (shd C (h.L.getD i 0)) (h.R.getD i 0)).length ≤ C.length ∧ (shd C (h.L.getD i 0)).length ≤ C.length := by omega
  rw [← t1] at h2
  clear hR kL kR ho hC e1 e2
  replace t1 : Hold _ := ⟨t1⟩
  replace t2 : Hold _ := ⟨t2⟩
  replace t3 : Hold _ := ⟨t3⟩
  unfold blk
  refine Fn_go Tryz.func151 ?_
  refine W_go ?_
  refine W_dc1 [(0, (3, 0))] h1 [.c _ _ _] ?_
  refine W_go ?_
  refine W_dc1 [(0, (3, 0))] h2 [.c _ _ _] ?_
  rw [t1.told]
  refine W_go ?_
  refine W_rt [(3, (3, 0))] [] ?_
  simp [t2.told, t3.told]
theorem sl6Root_c (s : Sto) (g : Gcc) (w : g.weak s) (hF : s.F.length ≤ 1048576) : Fn Tryz.prog 152 [(0, .c false (.ints s.h.L)), (1, .c false (.ints s.h.R)), (2, .c false (.ints s.h.T)), (3, .c false (.ints s.F)), (4, .c false (.ints g.C))] [.agg [.sl 0 0 s.h.L.length, .sl 1 0 s.h.R.length, .sl 2 0 s.h.T.length, .sl 3 0 s.F.length], .agg [.int .i64 g.p, .sl 4 0 g.C.length, .int .i64 g.a]] (fun r H => r = .int .i64 (wrt s.h.T g.C) ∧ H = []) := by
  have hlc := w.c.1
  have l8 := w.h.1
  have oT := w.h.2.2.2
  have l9 : s.h.T.length ≤ 3 := by omega
  have l10 : s.h.L.length ≤ g.C.length := by omega
  clear l8 hlc
  replace oT : Hold _ := ⟨oT⟩
  refine Fn_go Tryz.func152 ?_
  refine W_go ?_
  refine W_lp (T := 6) (σ := Nat) (me := fun i => [(5, .int .i64 i)]) (mh := fun _ => []) (inv := fun i => i ≤ s.h.T.length ∧ Hold (∀ j, j < i → ¬ (s.h.T.getD j 0 ≠ -1 ∧ g.C.getD (s.h.T.getD j 0).toNat 0 = 0))) (m := fun i => s.h.T.length - i) (s0 := 0) ⟨by omega, ⟨by intro j hj; omega⟩⟩ ?_
  rintro i ⟨hi, hI⟩
  refine W_go ?_
  refine W_if (fun h2 => ?_) (fun h2 => ?_)
  case' refine_2 =>
    refine W_go ?_
    refine W_rt [] [] ?_
    exact ⟨by rw [wrt_none fun j hj => hI.told j (by omega)], rfl⟩
  have kT := okP_get oT.told (show i < s.h.T.length by omega)
  by_cases c1 : s.h.T.getD i 0 = -1
  · refine W_go ?_
    refine W_gh ?_
    refine W_iff ?_
    refine W_go ?_
    refine W_bk (i + 1) ⟨by omega, ⟨fun j hj => ?_⟩⟩ (by omega)
    by_cases e : j = i
    · subst e; exact fun q => q.1 c1
    · exact hI.told j (by omega)
  have kT' : 0 ≤ s.h.T.getD i 0 ∧ s.h.T.getD i 0 < s.h.L.length := by omega
  clear kT
  refine W_go ?_
  refine W_gh ?_
  refine W_if (fun c2 => ?_) (fun c2 => ?_)
  · replace c2 : Hold _ := ⟨c2⟩
    refine W_go ?_
    refine W_rt [] [] ?_
    exact ⟨by rw [wrt_at (by omega) hI.told ⟨c1, c2.told⟩], rfl⟩
  replace c2 : Hold _ := ⟨c2⟩
  refine W_go ?_
  refine W_bk (i + 1) ⟨by omega, ⟨fun j hj => ?_⟩⟩ (by omega)
  by_cases e : j = i
  · subst e; exact fun q => c2.told q.2
  · exact hI.told j (by omega)
theorem mark_len (g : Gcc) (s : Sto) : (g.mark s).C.length = g.C.length := by
  unfold Gcc.mark
  split
  · exact blk_len _ _ _
  · split
    · exact shd_len _ _
    · rfl
theorem sl6Mark_c (s : Sto) (g : Gcc) (w : g.weak s) (hF : s.F.length ≤ 1048576) : Fn Tryz.prog 129 [(0, .c false (.ints s.h.L)), (1, .c false (.ints s.h.R)), (2, .c false (.ints s.h.T)), (3, .c false (.ints s.F)), (4, .c true (.ints g.C))] [.agg [.sl 0 0 s.h.L.length, .sl 1 0 s.h.R.length, .sl 2 0 s.h.T.length, .sl 3 0 s.F.length], .agg [.int .i64 g.p, .sl 4 0 g.C.length, .int .i64 g.a]] (fun r H => r = .agg [.int .i64 (g.mark s).p, .sl 4 0 g.C.length, .int .i64 (g.mark s).a] ∧ H = [(4, .c true (.ints (g.mark s).C))]) := by
  have hlc := w.c.1
  have l8 := w.h.1
  have hf := sl3First_c s.h g.C 1 (by omega)
  have hr := sl6Root_c s g w hF
  refine Fn_go Tryz.func129 ?_
  unfold Gcc.mark
  rcases idx_cases g.C 1 with ⟨i, hi, ei, _⟩ | ⟨ei, _⟩
  · rw [ei] at hf ⊢
    rw [if_pos (by omega)]
    have hb := sl3Black_c s.h g.C i w.h hlc hi
    have eb := blk_len s.h g.C i
    have tb : List.take g.C.length (blk s.h g.C i) = blk s.h g.C i := List.take_of_length_le (by omega)
    clear hr w l8 hlc
    dsimp only
    rw [Int.toNat_natCast]
    generalize blk s.h g.C i = D at *
    replace tb : Hold _ := ⟨tb⟩
    replace eb : Hold _ := ⟨eb⟩
    refine W_go ?_
    refine W_c1 [(0, (0, 0)), (1, (1, 0)), (2, (2, 0)), (3, (4, 0))] hf ?_
    refine W_go ?_
    refine W_if (fun _ => ?_) (fun q => ?_)
    case' refine_2 => exact absurd (by omega) q
    refine W_go ?_
    refine W_c1 [(0, (0, 0)), (1, (1, 0)), (2, (2, 0)), (3, (4, 0))] hb ?_
    refine W_go ?_
    refine W_rt [(4, (4, 0))] [] ?_
    exact ⟨rfl, rfl⟩
  rw [ei] at hf ⊢
  rw [if_neg (by omega)]
  rcases wrt_cases s.h.T g.C with ⟨i, hi, ew, _⟩ | ⟨ew, _⟩
  · rw [ew] at hr ⊢
    rw [if_pos (by omega)]
    have kT := okP_get w.h.2.2.2 hi
    have hb := sl3Shade_c g.C (s.h.T.getD i 0) (by omega) (by omega)
    have eb := shd_len g.C (s.h.T.getD i 0)
    clear w hlc
    dsimp only
    rw [Int.toNat_natCast]
    generalize shd g.C (s.h.T.getD i 0) = D at *
    replace eb : Hold _ := ⟨eb⟩
    replace kT : Hold _ := ⟨kT⟩
    have l9 : s.h.T.length ≤ 3 := by omega
    clear l8
    refine W_go ?_
    refine W_c1 [(0, (0, 0)), (1, (1, 0)), (2, (2, 0)), (3, (4, 0))] hf ?_
    refine W_go ?_
    refine W_if (fun q => ?_) (fun _ => ?_)
    · exact absurd q (by omega)
    refine W_go ?_
    refine W_c1 [(0, (0, 0)), (1, (1, 0)), (2, (2, 0)), (3, (3, 0)), (4, (4, 0))] hr ?_
    refine W_go ?_
    refine W_if (fun _ => ?_) (fun q => ?_)
    case' refine_2 => exact absurd (by omega) q
    refine W_go ?_
    refine W_dc1 [(0, (4, 0))] hb [.c _ _ _] ?_
    refine W_go ?_
    refine W_rt [(4, (4, 0))] [] ?_
    exact ⟨rfl, rfl⟩
  · rw [ew] at hr ⊢
    rw [if_neg (by omega)]
    clear w hlc l8
    dsimp only
    refine W_go ?_
    refine W_c1 [(0, (0, 0)), (1, (1, 0)), (2, (2, 0)), (3, (4, 0))] hf ?_
    refine W_go ?_
    refine W_if (fun q => ?_) (fun _ => ?_)
    · exact absurd q (by omega)
    refine W_go ?_
    refine W_c1 [(0, (0, 0)), (1, (1, 0)), (2, (2, 0)), (3, (3, 0)), (4, (4, 0))] hr ?_
    refine W_go ?_
    refine W_if (fun q => ?_) (fun _ => ?_)
    · exact absurd q (by omega)
    refine W_go ?_
    refine W_rt [(4, (4, 0))] [] ?_
    exact ⟨rfl, rfl⟩
end Go.Proofs.YtnepiffboakehaaGreatDoor.S
