/- Contracts: the given program, heaps and counts. Own work of this claim. -/
import Derived.Test.YtnepiffboakehaaGreatDoorFg
namespace Go.Proofs.YtnepiffboakehaaGreatDoor.S
set_option linter.all false
open Go Go.Proofs
set_option maxHeartbeats 4000000
set_option maxRecDepth 100000
set_option linter.unusedVariables false

def three3 (h : Hp) (k : Nat) : List Int := if k = 0 then h.L else if k = 1 then h.R else h.T
theorem iHeapValid_c (h : Hp) (hl : h.L.length ≤ 4194304 ∧ h.R.length ≤ 4194304 ∧ h.T.length ≤ 4194304) : Fn Tryz.prog 42 [(0, .c false (.ints h.L)), (1, .c false (.ints h.R)), (2, .c false (.ints h.T))] [.agg [.sl 0 0 h.L.length, .sl 1 0 h.R.length, .sl 2 0 h.T.length]] (fun r H => r = .bool h.valid ∧ H = []) := by
  refine Fn_go Tryz.func42 ?_
  by_cases g3 : (h.L.length : Int) = h.R.length
  case neg =>
    refine W_go ?_
    refine W_ift ?_
    refine W_go ?_
    refine W_rt [] [] ?_
    exact ⟨by rw [Hp.valid, decide_eq_false]; unfold Hp.ok; omega, rfl⟩
  have g3a : h.L.length ≤ h.R.length := by omega
  have g3b : h.R.length ≤ h.L.length := by omega
  replace g3 := eq_true g3
  by_cases g1 : (h.L.length : Int) < 1
  · refine W_go ?_
    refine W_ift ?_
    refine W_go ?_
    refine W_rt [] [] ?_
    exact ⟨by rw [Hp.valid, decide_eq_false]; unfold Hp.ok; omega, rfl⟩
  by_cases g2 : 8 < (h.L.length : Int)
  · refine W_go ?_
    refine W_ift ?_
    refine W_go ?_
    refine W_rt [] [] ?_
    exact ⟨by rw [Hp.valid, decide_eq_false]; unfold Hp.ok; omega, rfl⟩
  by_cases g4 : (h.T.length : Int) < 1
  · refine W_go ?_
    refine W_ift ?_
    refine W_go ?_
    refine W_rt [] [] ?_
    exact ⟨by rw [Hp.valid, decide_eq_false]; unfold Hp.ok; omega, rfl⟩
  by_cases g5 : 3 < (h.T.length : Int)
  · refine W_go ?_
    refine W_ift ?_
    refine W_go ?_
    refine W_rt [] [] ?_
    exact ⟨by rw [Hp.valid, decide_eq_false]; unfold Hp.ok; omega, rfl⟩
  refine W_go ?_
  refine W_iff ?_
  clear g3
  refine W_go ?_
  have no : ∀ {l : List Int} {j : Nat}, j < l.length → ¬ (-1 ≤ l.getD j 0 ∧ l.getD j 0 < h.L.length) → (l = h.L ∨ l = h.R ∨ l = h.T) → Hp.valid h = false := by
    intro l j hj hn hl'
    rw [Hp.valid, decide_eq_false]
    rintro ⟨_, o1, o2, o3⟩
    rcases hl' with rfl | rfl | rfl
    · exact hn (o1 j hj)
    · exact hn (o2 j hj)
    · exact hn (o3 j hj)
  replace no : Hold _ := ⟨@no⟩
  refine W_lp (T := 47) (σ := Nat) (me := fun i => [(46, .int .i64 i)]) (mh := fun _ => []) (inv := fun i => i ≤ 3 ∧ Hold (∀ k, k < i → okP (three3 h k) h.L.length)) (m := fun i => 3 - i) (s0 := 0) ⟨by omega, ⟨by intro j hj; omega⟩⟩ ?_
  rintro i ⟨hi, hne⟩
  refine W_go ?_
  refine W_if (fun h1 => ?_) (fun h1 => ?_)
  · obtain rfl | rfl | rfl : i = 0 ∨ i = 1 ∨ i = 2 := by omega
    · refine W_go ?_
      refine W_lp (T := 53) (σ := Nat) (me := fun j => [(52, .int .i64 j)]) (mh := fun _ => []) (inv := fun j => j ≤ h.L.length ∧ Hold (∀ j', j' < j → (-1 ≤ h.L.getD j' 0 ∧ h.L.getD j' 0 < h.L.length))) (m := fun j => h.L.length - j) (s0 := 0) ⟨by omega, ⟨by intro j hj; omega⟩⟩ ?_
      rintro j ⟨hj, hjn⟩
      refine W_go ?_
      refine W_if (fun h2 => ?_) (fun h2 => ?_)
      · refine W_go ?_
        by_cases p1 : h.L.getD j 0 < -1
        · refine W_go ?_
          refine W_ift ?_
          refine W_go ?_
          refine W_rt [] [] ?_
          exact ⟨by rw [no.told (l := h.L) (j := j) (by omega) (by omega) (by simp)], rfl⟩
        · refine W_go ?_
          refine W_if (fun h3 => ?_) (fun h3 => ?_)
          · refine W_go ?_
            refine W_rt [] [] ?_
            exact ⟨by rw [no.told (l := h.L) (j := j) (by omega) (by omega) (by simp)], rfl⟩
          · refine W_go ?_
            refine W_bk (j + 1) ⟨by omega, ⟨fun j' hj' => ?_⟩⟩ (by omega)
            by_cases e : j' = j
            · subst e; omega
            · exact hjn.told j' (by omega)
      · refine W_go ?_
        refine W_bk 1 ⟨by omega, ⟨fun k hk => ?_⟩⟩ (by omega)
        rcases Nat.lt_or_ge k (1 - 1) with q | q
        · exact hne.told k q
        · obtain rfl : k = 1 - 1 := by omega
          intro j' hj'
          exact hjn.told j' (Nat.lt_of_lt_of_le hj' (show h.L.length ≤ j by omega))
    · refine W_go ?_
      refine W_lp (T := 53) (σ := Nat) (me := fun j => [(52, .int .i64 j)]) (mh := fun _ => []) (inv := fun j => j ≤ h.R.length ∧ Hold (∀ j', j' < j → (-1 ≤ h.R.getD j' 0 ∧ h.R.getD j' 0 < h.L.length))) (m := fun j => h.R.length - j) (s0 := 0) ⟨by omega, ⟨by intro j hj; omega⟩⟩ ?_
      rintro j ⟨hj, hjn⟩
      refine W_go ?_
      refine W_if (fun h2 => ?_) (fun h2 => ?_)
      · refine W_go ?_
        by_cases p1 : h.R.getD j 0 < -1
        · refine W_go ?_
          refine W_ift ?_
          refine W_go ?_
          refine W_rt [] [] ?_
          exact ⟨by rw [no.told (l := h.R) (j := j) (by omega) (by omega) (by simp)], rfl⟩
        · refine W_go ?_
          refine W_if (fun h3 => ?_) (fun h3 => ?_)
          · refine W_go ?_
            refine W_rt [] [] ?_
            exact ⟨by rw [no.told (l := h.R) (j := j) (by omega) (by omega) (by simp)], rfl⟩
          · refine W_go ?_
            refine W_bk (j + 1) ⟨by omega, ⟨fun j' hj' => ?_⟩⟩ (by omega)
            by_cases e : j' = j
            · subst e; omega
            · exact hjn.told j' (by omega)
      · refine W_go ?_
        refine W_bk 2 ⟨by omega, ⟨fun k hk => ?_⟩⟩ (by omega)
        rcases Nat.lt_or_ge k (2 - 1) with q | q
        · exact hne.told k q
        · obtain rfl : k = 2 - 1 := by omega
          intro j' hj'
          exact hjn.told j' (Nat.lt_of_lt_of_le hj' (show h.R.length ≤ j by omega))
    · refine W_go ?_
      refine W_lp (T := 53) (σ := Nat) (me := fun j => [(52, .int .i64 j)]) (mh := fun _ => []) (inv := fun j => j ≤ h.T.length ∧ Hold (∀ j', j' < j → (-1 ≤ h.T.getD j' 0 ∧ h.T.getD j' 0 < h.L.length))) (m := fun j => h.T.length - j) (s0 := 0) ⟨by omega, ⟨by intro j hj; omega⟩⟩ ?_
      rintro j ⟨hj, hjn⟩
      refine W_go ?_
      refine W_if (fun h2 => ?_) (fun h2 => ?_)
      · refine W_go ?_
        by_cases p1 : h.T.getD j 0 < -1
        · refine W_go ?_
          refine W_ift ?_
          refine W_go ?_
          refine W_rt [] [] ?_
          exact ⟨by rw [no.told (l := h.T) (j := j) (by omega) (by omega) (by simp)], rfl⟩
        · refine W_go ?_
          refine W_if (fun h3 => ?_) (fun h3 => ?_)
          · refine W_go ?_
            refine W_rt [] [] ?_
            exact ⟨by rw [no.told (l := h.T) (j := j) (by omega) (by omega) (by simp)], rfl⟩
          · refine W_go ?_
            refine W_bk (j + 1) ⟨by omega, ⟨fun j' hj' => ?_⟩⟩ (by omega)
            by_cases e : j' = j
            · subst e; omega
            · exact hjn.told j' (by omega)
      · refine W_go ?_
        refine W_bk 3 ⟨by omega, ⟨fun k hk => ?_⟩⟩ (by omega)
        rcases Nat.lt_or_ge k (3 - 1) with q | q
        · exact hne.told k q
        · obtain rfl : k = 3 - 1 := by omega
          intro j' hj'
          exact hjn.told j' (Nat.lt_of_lt_of_le hj' (show h.T.length ≤ j by omega))
  · refine W_go ?_
    refine W_rt [] [] ?_
    refine ⟨?_, rfl⟩
    rw [Hp.valid, decide_eq_true]
    have q0 := hne.told 0 (by omega)
    have q1 := hne.told 1 (by omega)
    have q2 := hne.told 2 (by omega)
    exact ⟨by omega, q0, q1, q2⟩
theorem iCountsOf_c (h : Hp) (hl : h.L.length ≤ 4194304 ∧ h.R.length ≤ 4194304 ∧ h.T.length ≤ 4194304) : Fn Tryz.prog 43 [(0, .c false (.ints h.L)), (1, .c false (.ints h.R)), (2, .c false (.ints h.T))] [.agg [.sl 0 0 h.L.length, .sl 1 0 h.R.length, .sl 2 0 h.T.length]] (fun r H => r = .sl 100 0 h.cnt.length ∧ H = [(100, .c true (.ints h.cnt))]) := by
  have hv := iHeapValid_c h hl
  refine Fn_go Tryz.func43 ?_
  refine W_go ?_
  by_cases g1 : h.valid = true
  case neg =>
    have g1 : h.valid = false := by simpa using g1
    rw [g1] at hv
    refine W_c1 [(0, (0, 0)), (1, (1, 0)), (2, (2, 0))] hv ?_
    refine W_ift ?_
    refine W_go ?_
    refine W_rt [] [(100, .ints [])] ?_
    have e : h.cnt = [] := by rw [Hp.cnt, if_neg (by rw [g1]; exact Bool.false_ne_true)]
    rw [e]
    exact ⟨rfl, rfl⟩
  rw [g1] at hv
  refine W_c1 [(0, (0, 0)), (1, (1, 0)), (2, (2, 0))] hv ?_
  refine W_iff ?_
  refine W_go ?_
  have hall := (Hp.ok_iff _).1 g1
  obtain ⟨⟨l1, l2, l3, l4, l5⟩, _⟩ := (Hp.ok_iff _).1 g1
  have l3a : h.R.length ≤ h.L.length := by omega
  have l3b : h.L.length ≤ h.R.length := by omega
  clear l3
  have hz := zConcat_c h.L h.R h.T (by omega)
  rw [show h.L ++ h.R ++ h.T = h.all from rfl] at hz
  refine W_c1 [(0, (5168, 0)), (1, (0, 0)), (2, (1, 0)), (3, (2, 0))] hz ?_
  have hal : h.all.length ≤ 20 := by unfold Hp.all; simp; omega
  replace hall : Hold _ := ⟨hall⟩
  refine W_go ?_
  refine W_lp (T := 23) (σ := Nat) (me := fun i => [(22, .int .i64 i)]) (mh := fun i => [(4120, .c true (.ints (cntN h.L.length h.all i)))]) (inv := fun i => i ≤ h.all.length) (m := fun i => h.all.length - i) (s0 := 0) (by omega) ?_ (hh := by rw [cntN_zero])
  rintro i hi
  have hcl := cntN_len h.L.length h.all i
  refine W_go ?_
  refine W_if (fun h1 => ?_) (fun h1 => ?_)
  · refine W_go ?_
    have hil : i < h.all.length := by omega
    have hp := okP_get (all_ok hall.told) hil
    refine W_if (fun h2 => ?_) (fun h2 => ?_)
    · have hp1 : 0 ≤ h.all.getD i 0 ∧ h.all.getD i 0 < h.L.length := by omega
      have hb := cntN_bound h.L.length h.all i (h.all.getD i 0).toNat (by omega)
      have hs := cntN_step hil hp1
      replace hs : Hold _ := ⟨hs⟩
      refine W_go ?_
      exact W_bh (i + 1) (by omega) (by omega) (by rw [hs.told])
    · have hs := cntN_skip (n := h.L.length) hil (Decidable.not_not.1 h2)
      replace hs : Hold _ := ⟨hs⟩
      refine W_go ?_
      exact W_bh (i + 1) (by omega) (by omega) (by rw [hs.told])
  · refine W_go ?_
    refine W_rt [(4120, (100, 0))] [] ?_
    have e : i = h.all.length := by omega
    subst e
    have e : h.cnt = cntN h.L.length h.all h.all.length := by rw [Hp.cnt, if_pos g1]
    rw [e, hcl]
    exact ⟨rfl, rfl⟩
theorem iStoreValid_c (s : Sto) (hl : (s.h.L.length ≤ 4194304 ∧ s.h.R.length ≤ 4194304 ∧ s.h.T.length ≤ 4194304) ∧ s.F.length ≤ 4194304) : Fn Tryz.prog 15 [(0, .c false (.ints s.h.L)), (1, .c false (.ints s.h.R)), (2, .c false (.ints s.h.T)), (3, .c false (.ints s.F))] [.agg [.sl 0 0 s.h.L.length, .sl 1 0 s.h.R.length, .sl 2 0 s.h.T.length, .sl 3 0 s.F.length]] (fun r H => r = .bool s.valid ∧ H = []) := by
  have hv := iHeapValid_c s.h hl.1
  have hc := iCountsOf_c s.h hl.1
  refine Fn_go Tryz.func15 ?_
  refine W_go ?_
  by_cases g1 : s.h.valid = true
  case neg =>
    have g1 : s.h.valid = false := by simpa using g1
    rw [g1] at hv
    refine W_c1 [(0, (0, 0)), (1, (1, 0)), (2, (2, 0))] hv ?_
    refine W_ift ?_
    refine W_go ?_
    refine W_rt [] [] ?_
    exact ⟨(by rw [Sto.valid, decide_eq_false]; rintro ⟨q, _⟩; rw [(Hp.ok_iff _).2 q] at g1; cases g1), rfl⟩
  rw [g1] at hv
  have ho := (Hp.ok_iff _).1 g1
  refine W_c1 [(0, (0, 0)), (1, (1, 0)), (2, (2, 0))] hv ?_
  refine W_iff ?_
  refine W_go ?_
  refine W_c1 [(0, (0, 0)), (1, (1, 0)), (2, (2, 0))] hc ?_
  have hcl : s.h.cnt.length = s.h.L.length := by rw [Hp.cnt, if_pos g1, cntN_len]
  have hrl : s.h.R.length = s.h.L.length := ho.1.2.2.1
  have hpos := @cnt_pos s.h ho
  have l1 : s.h.L.length ≤ 8 := ho.1.2.1
  rw [hcl]
  have hcla : s.h.L.length ≤ s.h.cnt.length := by omega
  have hrla : s.h.L.length ≤ s.h.R.length := by omega
  clear hcl hrl
  replace ho : Hold _ := ⟨ho⟩
  replace hpos : Hold _ := ⟨@hpos⟩
  refine W_go ?_
  refine W_lp (T := 17) (σ := Nat) (me := fun i => [(16, .int .i64 i)]) (mh := fun _ => []) (inv := fun i => i ≤ s.F.length ∧ Hold (∀ j, j < i → s.h.fr (s.F.getD j 0) ∧ s.F.getD j 0 ∉ s.F.take j)) (m := fun i => s.F.length - i) (s0 := 0) ⟨by omega, ⟨by intro j hj; omega⟩⟩ ?_
  rintro i ⟨hi, hne⟩
  refine W_go ?_
  refine W_if (fun h1 => ?_) (fun h1 => ?_)
  · refine W_go ?_
    have no : ¬ s.h.fr (s.F.getD i 0) → s.valid = false := by
      intro q
      rw [Sto.valid, decide_eq_false]
      intro q2
      exact q (q2.2 i (by omega)).1
    replace no : Hold _ := ⟨no⟩
    by_cases c1 : s.F.getD i 0 < 0
    · refine W_go ?_
      refine W_ift ?_
      refine W_go ?_
      refine W_rt [] [] ?_
      exact ⟨by rw [no.told (by unfold Hp.fr; omega)], rfl⟩
    by_cases c2 : (s.h.L.length : Int) ≤ s.F.getD i 0
    · refine W_go ?_
      refine W_ift ?_
      refine W_go ?_
      refine W_rt [] [] ?_
      exact ⟨by rw [no.told (by unfold Hp.fr; omega)], rfl⟩
    have c12 : (s.F.getD i 0).toNat < s.h.L.length := by omega
    by_cases c3 : 0 < s.h.cnt.getD (s.F.getD i 0).toNat 0
    · refine W_go ?_
      refine W_ift ?_
      refine W_go ?_
      refine W_rt [] [] ?_
      refine ⟨?_, rfl⟩
      rw [no.told]
      intro q
      have hm := (hpos.told c12).1 c3
      rw [Int.toNat_of_nonneg (by omega)] at hm
      unfold Hp.all at hm
      rw [List.mem_append, List.mem_append] at hm
      rcases hm with (hm | hm) | hm
      · exact q.2.2.2.1 hm
      · exact q.2.2.2.2.1 hm
      · exact q.2.2.2.2.2 hm
    by_cases c4 : s.h.L.getD (s.F.getD i 0).toNat 0 = -1
    case neg =>
      refine W_go ?_
      refine W_ift ?_
      refine W_go ?_
      refine W_rt [] [] ?_
      exact ⟨by rw [no.told (fun q => c4 q.2.1)], rfl⟩
    by_cases c5 : s.h.R.getD (s.F.getD i 0).toNat 0 = -1
    case neg =>
      refine W_go ?_
      refine W_ift ?_
      refine W_go ?_
      refine W_rt [] [] ?_
      exact ⟨by rw [no.told (fun q => c5 q.2.2.1)], rfl⟩
    have hz := zContains_c (s.F.take i) (s.F.getD i 0) (by simp; omega)
    refine W_ch1 [(0, (3, 0))] hz ?_
    refine W_if (fun h2 => ?_) (fun h2 => ?_)
    · refine W_go ?_
      refine W_rt [] [] ?_
      refine ⟨?_, rfl⟩
      rw [Sto.valid, decide_eq_false]
      intro q
      exact (q.2 i (by omega)).2 h2
    · refine W_go ?_
      refine W_bk (i + 1) ⟨by omega, ⟨fun j hj => ?_⟩⟩ (by omega)
      by_cases e : j = i
      · subst e
        refine ⟨?_, h2⟩
        have hm : s.F.getD j 0 ∉ s.h.all := fun q => c3 ((hpos.told c12).2 (by rw [Int.toNat_of_nonneg (by omega)]; exact q))
        unfold Hp.all at hm
        rw [List.mem_append, List.mem_append] at hm
        exact ⟨by omega, c4, c5, fun q => hm (.inl (.inl q)), fun q => hm (.inl (.inr q)), fun q => hm (.inr q)⟩
      · exact hne.told j (by omega)
  · refine W_go ?_
    refine W_rt [] [] ?_
    refine ⟨?_, rfl⟩
    rw [Sto.valid, decide_eq_true]
    exact ⟨ho.told, fun j hj => hne.told j (by omega)⟩
end Go.Proofs.YtnepiffboakehaaGreatDoor.S
