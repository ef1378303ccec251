/- Contracts: the given program's reference, stores. Own work of this claim. -/
import Derived.Test.YtnepiffboakehaaGreatDoorFb
import Derived.Test.YtnepiffboakehaaGreatDoorA4
namespace Go.Proofs.YtnepiffboakehaaGreatDoor.S
set_option linter.all false
open Go Go.Proofs
set_option maxHeartbeats 4000000
set_option maxRecDepth 100000
set_option linter.unusedVariables false

theorem sl4Free_c (h : Hp) (c : Int) (ho : h.ok) : Fn Tryz.prog 143 [(0, .c false (.ints h.L)), (1, .c false (.ints h.R)), (2, .c false (.ints h.T))] [.agg [.sl 0 0 h.L.length, .sl 1 0 h.R.length, .sl 2 0 h.T.length], .int .i64 c] (fun r H => r = .bool (decide (h.fr c)) ∧ H = []) := by
  obtain ⟨⟨l1, l2, l3, l4, l5⟩, o1, o2, o3⟩ := ho
  have l3a : h.R.length ≤ h.L.length := by omega
  have l3b : h.L.length ≤ h.R.length := by omega
  clear l3
  refine Fn_go Tryz.func143 ?_
  by_cases c1 : 0 ≤ c
  case neg =>
    refine W_go ?_
    refine W_rt [] [] ?_
    exact ⟨by rw [decide_eq_false]; unfold Hp.fr; omega, rfl⟩
  by_cases c2 : c < h.L.length
  case neg =>
    refine W_go ?_
    refine W_rt [] [] ?_
    exact ⟨by rw [decide_eq_false]; unfold Hp.fr; omega, rfl⟩
  by_cases c3 : h.L.getD c.toNat 0 = -1
  case neg =>
    refine W_go ?_
    refine W_rt [] [] ?_
    exact ⟨by rw [decide_eq_false]; exact fun q => c3 q.2.1, rfl⟩
  by_cases c4 : h.R.getD c.toNat 0 = -1
  case neg =>
    refine W_go ?_
    refine W_rt [] [] ?_
    exact ⟨by rw [decide_eq_false]; exact fun q => c4 q.2.2.1, rfl⟩
  by_cases c5 : idx h.L c < 0
  case neg =>
    refine W_go ?_
    refine W_ch1 [(0, (0, 0))] (l4At_c h.L c (by omega)) ?_
    refine W_rt [] [] ?_
    exact ⟨by rw [decide_eq_false]; exact fun q => c5 ((idx_neg _ _).2 q.2.2.2.1), rfl⟩
  by_cases c6 : idx h.R c < 0
  case neg =>
    refine W_go ?_
    refine W_ch2 [(0, (0, 0))] (l4At_c h.L c (by omega)) [(0, (1, 0))] (l4At_c h.R c (by omega)) ?_
    refine W_rt [] [] ?_
    exact ⟨by rw [decide_eq_false]; exact fun q => c6 ((idx_neg _ _).2 q.2.2.2.2.1), rfl⟩
  refine W_go ?_
  refine W_ch3 [(0, (0, 0))] (l4At_c h.L c (by omega)) [(0, (1, 0))] (l4At_c h.R c (by omega)) [(0, (2, 0))] (l4At_c h.T c (by omega)) ?_
  refine W_rt [] [] ?_
  refine ⟨?_, rfl⟩
  rw [idx_neg] at c5 c6
  congr 1
  rw [decide_eq_decide, idx_neg]
  exact ⟨fun q => ⟨⟨c1, c2⟩, c3, c4, c5, c6, q⟩, fun q => q.2.2.2.2.2⟩
theorem sStoreValid_c (s : Sto) (hl : (s.h.L.length ≤ 4194304 ∧ s.h.R.length ≤ 4194304 ∧ s.h.T.length ≤ 4194304) ∧ s.F.length ≤ 4194304) : Fn Tryz.prog 113 [(0, .c false (.ints s.h.L)), (1, .c false (.ints s.h.R)), (2, .c false (.ints s.h.T)), (3, .c false (.ints s.F))] [.agg [.sl 0 0 s.h.L.length, .sl 1 0 s.h.R.length, .sl 2 0 s.h.T.length, .sl 3 0 s.F.length]] (fun r H => r = .bool s.valid ∧ H = []) := by
  refine Fn_go Tryz.func113 ?_
  refine W_go ?_
  have hv := sHeapValid_c s.h hl.1
  by_cases g1 : s.h.valid = true
  case neg =>
    have g1 : s.h.valid = false := by simpa using g1
    rw [g1] at hv
    refine W_ch1 [(0, (0, 0)), (1, (1, 0)), (2, (2, 0))] hv ?_
    refine W_ift ?_
    refine W_go ?_
    refine W_rt [] [] ?_
    exact ⟨(by rw [Sto.valid, decide_eq_false]; rintro ⟨q, _⟩; rw [(Hp.ok_iff _).2 q] at g1; cases g1), rfl⟩
  rw [g1] at hv
  have ho := (Hp.ok_iff _).1 g1
  by_cases g2 : (s.h.L.length : Int) < s.F.length
  · refine W_ch1 [(0, (0, 0)), (1, (1, 0)), (2, (2, 0))] hv ?_
    refine W_ift ?_
    refine W_go ?_
    refine W_rt [] [] ?_
    exact ⟨by rw [Sto.valid, decide_eq_false]; intro q; have := q.le; omega, rfl⟩
  refine W_ch1 [(0, (0, 0)), (1, (1, 0)), (2, (2, 0))] hv ?_
  refine W_iff ?_
  refine W_go ?_
  refine W_lp (T := 4) (σ := Nat) (me := fun i => [(3, .int .i64 i)]) (mh := fun _ => []) (inv := fun i => i ≤ s.F.length ∧ Hold (∀ j, j < i → s.h.fr (s.F.getD j 0) ∧ s.F.getD j 0 ∉ s.F.take j)) (m := fun i => s.F.length - i) (s0 := 0) ⟨by omega, ⟨by intro j hj; omega⟩⟩ ?_
  rintro i ⟨hi, hne⟩
  replace ho : Hold _ := ⟨ho⟩
  refine W_go ?_
  refine W_if (fun h1 => ?_) (fun h1 => ?_)
  · refine W_go ?_
    have hf := sl4Free_c s.h (s.F.getD i 0) ho.told
    by_cases p1 : s.h.fr (s.F.getD i 0)
    · rw [decide_eq_true p1] at hf
      have hA := l4At_c (s.F.take i) (s.F.getD i 0) (by simp; omega)
      refine W_dch2 [(0, (0, 0)), (1, (1, 0)), (2, (2, 0))] hf [(0, (3, 0))] hA [.c _ _ _, .g true, .g true, .g true, .g true, .g true, .g true, .g true, .g true, .g true, .g true, .c _ _ _, .g true] ?_
      refine W_if (fun h2 => ?_) (fun h2 => ?_)
      · refine W_go ?_
        refine W_rt [] [] ?_
        refine ⟨?_, rfl⟩
        rw [Sto.valid, decide_eq_false]
        intro q
        exact (q.2 i (by omega)).2 ((idx_nonneg _ _).1 h2)
      · refine W_go ?_
        refine W_bk (i + 1) ⟨by omega, ⟨fun j hj => ?_⟩⟩ (by omega)
        by_cases e : j = i
        · subst e; exact ⟨p1, fun q => h2 ((idx_nonneg _ _).2 q)⟩
        · exact hne.told j (by omega)
    · rw [decide_eq_false p1] at hf
      refine W_dch1 [(0, (0, 0)), (1, (1, 0)), (2, (2, 0))] hf [.c _ _ _, .g false, .g false, .g false, .g false, .g false, .g false, .g false, .g false, .g false, .g false, .g false] ?_
      refine W_ift ?_
      refine W_go ?_
      refine W_rt [] [] ?_
      refine ⟨?_, rfl⟩
      rw [Sto.valid, decide_eq_false]
      intro q
      exact p1 (q.2 i (by omega)).1
  · refine W_go ?_
    refine W_rt [] [] ?_
    refine ⟨?_, rfl⟩
    rw [Sto.valid, decide_eq_true]
    exact ⟨ho.told, fun j hj => hne.told j (by omega)⟩
end Go.Proofs.YtnepiffboakehaaGreatDoor.S
