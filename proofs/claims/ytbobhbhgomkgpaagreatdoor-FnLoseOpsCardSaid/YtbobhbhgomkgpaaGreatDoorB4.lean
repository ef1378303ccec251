/- Texts of this claim's own, laid as one: Fr Ge Gf. Own work of this claim. -/
import Derived.Test.YtbobhbhgomkgpaaGreatDoorB2
import Derived.Test.YtbobhbhgomkgpaaGreatDoorA4
import Derived.Test.YtbobhbhgomkgpaaGreatDoorA5
/- Contracts: allocation and operations, the program's. Own work of this claim. -/
namespace Go.Proofs.YtbobhbhgomkgpaaGreatDoor.S
set_option linter.all false
open Go Go.Proofs
set_option maxHeartbeats 4000000
set_option maxRecDepth 100000

theorem iAllocCell_c (s : Sto) (c : Int) (hl : (s.h.L.length ≤ 4194304 ∧ s.h.R.length ≤ 4194304 ∧ s.h.T.length ≤ 4194304) ∧ s.F.length ≤ 4194304) : Fn Tryz.prog 103 [(0, .c false (.ints s.h.L)), (1, .c false (.ints s.h.R)), (2, .c false (.ints s.h.T)), (3, .c false (.ints s.F))] [.agg [.sl 0 0 s.h.L.length, .sl 1 0 s.h.R.length, .sl 2 0 s.h.T.length, .sl 3 0 s.F.length], .int .i64 c] (fun r H => r = .tup [.agg [.sl 100 0 (s.alcS c).h.L.length, .sl 101 0 (s.alcS c).h.R.length, .sl 102 0 (s.alcS c).h.T.length, .sl 103 0 (s.alcS c).F.length], .int .i64 (s.alcC c), .bool (decide (s.alcOk c))] ∧ H = [(100, .c true (.ints (s.alcS c).h.L)), (101, .c true (.ints (s.alcS c).h.R)), (102, .c true (.ints (s.alcS c).h.T)), (103, .c true (.ints (s.alcS c).F))]) := by
  have hv := iStoreValid_c s hl
  have hg := iagain_c s hl
  have no : ¬ s.alcOk c → s.alcS c = Sto.zero ∧ s.alcC c = 0 ∧ decide (s.alcOk c) = false := fun q => ⟨by rw [Sto.alcS, if_neg q], by rw [Sto.alcC, if_neg q], decide_eq_false q⟩
  replace no : Hold _ := ⟨no⟩
  refine Fn_go Tryz.func103 ?_
  refine W_go ?_
  by_cases g1 : s.valid = true
  case neg =>
    have g1' : s.valid = false := by simpa using g1
    rw [g1'] at hv
    refine W_ch1 [(0, (0, 0)), (1, (1, 0)), (2, (2, 0)), (3, (3, 0))] hv ?_
    refine W_ift ?_
    refine W_go ?_
    refine W_rt [] [(100, .ints []), (101, .ints []), (102, .ints []), (103, .ints [])] ?_
    obtain ⟨e1, e2, e3⟩ := no.told (fun q => g1 ((Sto.ok_iff s).2 q.1))
    rw [e1, e2, e3]
    exact ⟨rfl, rfl⟩
  rw [g1] at hv
  by_cases g2 : c < 0
  · refine W_ch1 [(0, (0, 0)), (1, (1, 0)), (2, (2, 0)), (3, (3, 0))] hv ?_
    refine W_ift ?_
    refine W_go ?_
    refine W_rt [] [(100, .ints []), (101, .ints []), (102, .ints []), (103, .ints [])] ?_
    obtain ⟨e1, e2, e3⟩ := no.told (fun q => by have := q.2.1; omega)
    rw [e1, e2, e3]
    exact ⟨rfl, rfl⟩
  by_cases g3 : (s.h.T.length : Int) ≤ c
  · refine W_ch1 [(0, (0, 0)), (1, (1, 0)), (2, (2, 0)), (3, (3, 0))] hv ?_
    refine W_ift ?_
    refine W_go ?_
    refine W_rt [] [(100, .ints []), (101, .ints []), (102, .ints []), (103, .ints [])] ?_
    obtain ⟨e1, e2, e3⟩ := no.told (fun q => by have := q.2.2.1; omega)
    rw [e1, e2, e3]
    exact ⟨rfl, rfl⟩
  refine W_ch1 [(0, (0, 0)), (1, (1, 0)), (2, (2, 0)), (3, (3, 0))] hv ?_
  refine W_if (fun g4 => ?_) (fun g4 => ?_)
  · refine W_go ?_
    refine W_rt [] [(100, .ints []), (101, .ints []), (102, .ints []), (103, .ints [])] ?_
    obtain ⟨e1, e2, e3⟩ := no.told (fun q => by have := q.2.2.2; omega)
    rw [e1, e2, e3]
    exact ⟨rfl, rfl⟩
  have ok : s.alcOk c := ⟨(Sto.ok_iff s).1 g1, by omega, by omega, by omega⟩
  have e1 : s.alcS c = ⟨⟨s.h.L, s.h.R, s.h.T.set c.toNat (s.F.getD 0 0)⟩, s.F.drop 1⟩ := by rw [Sto.alcS, if_pos ok]
  have e2 : s.alcC c = s.F.getD 0 0 := by rw [Sto.alcC, if_pos ok]
  have e3 : decide (s.alcOk c) = true := decide_eq_true ok
  have hF1 : 1 ≤ s.F.length := by omega
  clear ok
  replace e1 : Hold _ := ⟨e1⟩
  replace e2 : Hold _ := ⟨e2⟩
  replace e3 : Hold _ := ⟨e3⟩
  refine W_go ?_
  refine W_c1 [(0, (0, 0)), (1, (1, 0)), (2, (2, 0)), (3, (3, 0))] hg ?_
  refine W_go ?_
  refine W_rt [(4104, (100, 0)), (4105, (101, 0)), (4106, (102, 0)), (4107, (103, 1))] [] ?_
  rw [e1.told, e2.told, e3.told]
  simp [fillC, List.take_of_length_le]
theorem iOpValid_c (k a b : Int) (n : Nat) (hn : n ≤ 4194304) : Fn Tryz.prog 74 [] [.agg [.int .i64 k, .int .i64 a, .int .i64 b], .int .i64 n] (fun r H => r = .bool (decide (opOk k a b n)) ∧ H = []) := by
  refine Fn_go Tryz.func74 ?_
  by_cases c1 : k < 1
  · refine W_gh ?_
    refine W_ift ?_
    refine W_go ?_
    refine W_rt [] [] ?_
    exact ⟨by rw [decide_eq_false]; rintro ⟨q, _⟩; omega, rfl⟩
  by_cases c2 : 7 < k
  · refine W_gh ?_
    refine W_ift ?_
    refine W_go ?_
    refine W_rt [] [] ?_
    exact ⟨by rw [decide_eq_false]; rintro ⟨q, _⟩; omega, rfl⟩
  by_cases c3 : a < 0
  · refine W_gh ?_
    refine W_ift ?_
    refine W_go ?_
    refine W_rt [] [] ?_
    exact ⟨by rw [decide_eq_false]; rintro ⟨q, _⟩; omega, rfl⟩
  by_cases c4 : 3 ≤ a
  · refine W_gh ?_
    refine W_ift ?_
    refine W_go ?_
    refine W_rt [] [] ?_
    exact ⟨by rw [decide_eq_false]; rintro ⟨q, _⟩; omega, rfl⟩
  by_cases c5 : (n : Int) ≤ a
  · refine W_gh ?_
    refine W_ift ?_
    refine W_go ?_
    refine W_rt [] [] ?_
    exact ⟨by rw [decide_eq_false]; rintro ⟨q, _⟩; omega, rfl⟩
  by_cases c6 : b < 0
  · refine W_gh ?_
    refine W_ift ?_
    refine W_go ?_
    refine W_rt [] [] ?_
    exact ⟨by rw [decide_eq_false]; rintro ⟨q, _⟩; omega, rfl⟩
  by_cases c7 : 3 ≤ b
  · refine W_gh ?_
    refine W_ift ?_
    refine W_go ?_
    refine W_rt [] [] ?_
    exact ⟨by rw [decide_eq_false]; rintro ⟨q, _⟩; omega, rfl⟩
  refine W_gh ?_
  refine W_iff ?_
  by_cases d1 : k = 1
  · replace d1 := eq_true d1
    refine W_gh ?_
    refine W_ift ?_
    refine W_go ?_
    refine W_rt [] [] ?_
    refine ⟨?_, rfl⟩
    congr 1
    rw [decide_eq_decide, opOk, if_pos (.inl (of_eq_true d1))]
    omega
  by_cases d2 : k = 7
  · replace d2 := eq_true d2
    refine W_gh ?_
    refine W_ift ?_
    refine W_go ?_
    refine W_rt [] [] ?_
    refine ⟨?_, rfl⟩
    congr 1
    rw [decide_eq_decide, opOk, if_pos (.inr (of_eq_true d2))]
    omega
  refine W_gh ?_
  refine W_iff ?_
  refine W_go ?_
  refine W_rt [] [] ?_
  refine ⟨?_, rfl⟩
  congr 1
  rw [decide_eq_decide, opOk, if_neg (by omega)]
  omega
theorem iRunOp_c (s : Sto) (k a b : Int) (hl : (s.h.L.length ≤ 4194304 ∧ s.h.R.length ≤ 4194304 ∧ s.h.T.length ≤ 4194304) ∧ s.F.length ≤ 4194304) : Fn Tryz.prog 69 [(0, .c false (.ints s.h.L)), (1, .c false (.ints s.h.R)), (2, .c false (.ints s.h.T)), (3, .c false (.ints s.F))] [.agg [.sl 0 0 s.h.L.length, .sl 1 0 s.h.R.length, .sl 2 0 s.h.T.length, .sl 3 0 s.F.length], .agg [.int .i64 k, .int .i64 a, .int .i64 b]]
    (fun r H => r = .tup [.agg [.sl 100 0 (s.runS k a b).h.L.length, .sl 101 0 (s.runS k a b).h.R.length, .sl 102 0 (s.runS k a b).h.T.length, .sl 103 0 (s.runS k a b).F.length], .int .i64 (s.runE k a b), .bool (decide (s.runOk k a b))] ∧ H = [(100, .c true (.ints (s.runS k a b).h.L)), (101, .c true (.ints (s.runS k a b).h.R)), (102, .c true (.ints (s.runS k a b).h.T)), (103, .c true (.ints (s.runS k a b).F))]) := by
  have hv := iStoreValid_c s hl
  have hg := iagain_c s hl
  have ho := iOpValid_c k a b s.h.T.length (by omega)
  have hA := iAllocCell_c s a hl
  have no : ¬ s.runOk k a b → s.runS k a b = Sto.zero ∧ s.runE k a b = 0 ∧ decide (s.runOk k a b) = false := fun q => ⟨by rw [Sto.runS, if_neg q], by rw [Sto.runE, if_neg q], decide_eq_false q⟩
  replace no : Hold _ := ⟨no⟩
  refine Fn_go Tryz.func69 ?_
  refine W_go ?_
  by_cases g1 : s.valid = true
  case neg =>
    have g1' : s.valid = false := by simpa using g1
    rw [g1'] at hv
    refine W_ch1 [(0, (0, 0)), (1, (1, 0)), (2, (2, 0)), (3, (3, 0))] hv ?_
    refine W_ift ?_
    refine W_go ?_
    refine W_rt [] [(100, .ints []), (101, .ints []), (102, .ints []), (103, .ints [])] ?_
    obtain ⟨e1, e2, e3⟩ := no.told (fun q => g1 ((Sto.ok_iff s).2 q.1))
    rw [e1, e2, e3]
    exact ⟨rfl, rfl⟩
  rw [g1] at hv
  by_cases g2 : opOk k a b s.h.T.length
  case neg =>
    rw [decide_eq_false g2] at ho
    refine W_ch2 [(0, (0, 0)), (1, (1, 0)), (2, (2, 0)), (3, (3, 0))] hv [] ho ?_
    refine W_ift ?_
    refine W_go ?_
    refine W_rt [] [(100, .ints []), (101, .ints []), (102, .ints []), (103, .ints [])] ?_
    obtain ⟨e1, e2, e3⟩ := no.told (fun q => g2 q.2)
    rw [e1, e2, e3]
    exact ⟨rfl, rfl⟩
  rw [decide_eq_true g2] at ho
  refine W_ch2 [(0, (0, 0)), (1, (1, 0)), (2, (2, 0)), (3, (3, 0))] hv [] ho ?_
  refine W_iff ?_
  have ok : s.runOk k a b := ⟨(Sto.ok_iff s).1 g1, g2⟩
  have e1 : s.runS k a b = s.doS k a b := by rw [Sto.runS, if_pos ok]
  have e2 : s.runE k a b = s.doE k a b := by rw [Sto.runE, if_pos ok]
  rw [e1, e2, decide_eq_true ok]
  clear e1 e2 no
  obtain ⟨⟨⟨m1, m2, m3, m4, m5⟩, o1, o2, o3⟩, _⟩ := ok.1
  have m3a : s.h.L.length ≤ s.h.R.length := by omega
  have m3b : s.h.R.length ≤ s.h.L.length := by omega
  clear m3
  have g2' := g2
  obtain ⟨⟨k1, a1, a2, a3, b1, b2⟩, bb⟩ := g2
  have b3 : b < s.h.T.length := by split at bb <;> omega
  have ra := okP_get o3 (j := a.toNat) (by omega)
  have rb := okP_get o3 (j := b.toNat) (by omega)
  clear bb o1 o2 o3 ok g2' ho hv
  refine W_go ?_
  refine W_c1 [(0, (0, 0)), (1, (1, 0)), (2, (2, 0)), (3, (3, 0))] hg ?_
  refine W_ft 13 ?_
  refine W_go ?_
  refine W_if (fun c1 => ?_) (fun c1 => ?_)
  · have d1 : s.doS k a b = if s.alcOk a then s.alcS a else s := by rw [Sto.doS, if_pos c1]
    have d2 : s.doE k a b = if s.alcOk a then 0 else 1 := by rw [Sto.doE, if_pos c1]
    rw [d1, d2]
    clear d1 d2 c1 ra rb
    refine W_go ?_
    refine W_c1 [(0, (4104, 0)), (1, (4105, 0)), (2, (4106, 0)), (3, (4107, 0))] hA ?_
    refine W_go ?_
    refine W_if (fun c2 => ?_) (fun c2 => ?_)
    · rw [if_neg c2, if_neg c2]
      refine W_go ?_
      refine W_rt [(4104, (100, 0)), (4105, (101, 0)), (4106, (102, 0)), (4107, (103, 0))] [] ?_
      exact ⟨rfl, rfl⟩
    · rw [if_pos (Decidable.not_not.1 c2), if_pos (Decidable.not_not.1 c2)]
      refine W_go ?_
      refine W_rt [(8216, (100, 0)), (8217, (101, 0)), (8218, (102, 0)), (8219, (103, 0))] [] ?_
      exact ⟨rfl, rfl⟩
  refine W_go ?_
  refine W_if (fun c2 => ?_) (fun c2 => ?_)
  · have d1 : s.doS k a b = s.root a (s.h.T.getD b.toNat 0) := by rw [Sto.doS, if_neg c1, if_pos c2]
    have d2 : s.doE k a b = 0 := by rw [Sto.doE, if_neg c1, if_pos c2]
    rw [d1, d2]
    clear d1 d2 c1 c2 ra rb
    refine W_go ?_
    refine W_rt [(4104, (100, 0)), (4105, (101, 0)), (4106, (102, 0)), (4107, (103, 0))] [] ?_
    simp [Sto.root]
  refine W_go ?_
  refine W_jn (σ := Bool) 58 (fun q => [(58, .bool q)]) (fun _ => []) (fun q => q = true ↔ k = 3 ∨ k = 4) ?_ ?_
  · refine W_if (fun c3 => ?_) (fun c3 => ?_)
    · refine W_go ?_
      exact W_bj (decide (k = 3)) ⟨fun _ => .inl c3, fun _ => decide_eq_true c3⟩
    · refine W_go ?_
      exact W_bj (decide (k = 4)) ⟨fun q => .inr (of_decide_eq_true q), fun q => decide_eq_true (q.resolve_left c3)⟩
  rintro q hq
  refine W_go ?_
  have d7 : k ≠ 7 ∨ k = 7 := by omega
  refine W_ifb (fun c3 => ?_) (fun c3 => ?_)
  · have hk := hq.1 c3
    have c7 : ¬ k = 7 := by omega
    clear d7 hq ra
    have d1 : s.doS k a b = (if s.h.T.getD b.toNat 0 = -1 then s else s.root a ((if k = 4 then s.h.R else s.h.L).getD (s.h.T.getD b.toNat 0).toNat 0)) := by rw [Sto.doS, if_neg c1, if_neg c2, if_neg c7, if_pos hk]
    have d2 : s.doE k a b = (if s.h.T.getD b.toNat 0 = -1 then 2 else 0) := by rw [Sto.doE, if_neg c1, if_neg c2, if_neg c7, if_pos hk]
    rw [d1, d2]
    subst q
    clear d1 d2 c7
    refine W_go ?_
    refine W_if (fun c4 => ?_) (fun c4 => ?_)
    · rw [if_pos c4, if_pos c4]
      clear c4
      refine W_go ?_
      refine W_rt [(4104, (100, 0)), (4105, (101, 0)), (4106, (102, 0)), (4107, (103, 0))] [] ?_
      exact ⟨rfl, rfl⟩
    rw [if_neg c4, if_neg c4]
    refine W_go ?_
    refine W_if (fun c5 => ?_) (fun c5 => ?_)
    · rw [if_pos c5]
      clear c5
      refine W_go ?_
      refine W_rt [(4104, (100, 0)), (4105, (101, 0)), (4106, (102, 0)), (4107, (103, 0))] [] ?_
      simp [Sto.root]
    · rw [if_neg c5]
      clear c5
      refine W_go ?_
      refine W_rt [(4104, (100, 0)), (4105, (101, 0)), (4106, (102, 0)), (4107, (103, 0))] [] ?_
      simp [Sto.root]
  have hk : ¬ (k = 3 ∨ k = 4) := fun h => by rw [hq.2 h] at c3; cases c3
  subst q
  clear hq d7
  refine W_go ?_
  refine W_jn (σ := Bool) 92 (fun q => [(92, .bool q)]) (fun _ => []) (fun q => q = true ↔ k = 5 ∨ k = 6) ?_ ?_
  · refine W_if (fun c3 => ?_) (fun c3 => ?_)
    · refine W_go ?_
      exact W_bj (decide (k = 5)) ⟨fun _ => .inl c3, fun _ => decide_eq_true c3⟩
    · refine W_go ?_
      exact W_bj (decide (k = 6)) ⟨fun q => .inr (of_decide_eq_true q), fun q => decide_eq_true (q.resolve_left c3)⟩
  rintro q hq
  refine W_go ?_
  refine W_ifb (fun c3 => ?_) (fun c3 => ?_)
  · have hk5 := hq.1 c3
    have c7 : ¬ k = 7 := by omega
    clear hq rb
    subst q
    have d2 : s.doE k a b = if s.h.T.getD a.toNat 0 = -1 then 2 else 0 := by rw [Sto.doE, if_neg c1, if_neg c2, if_neg c7, if_neg hk]
    refine W_go ?_
    refine W_if (fun c4 => ?_) (fun c4 => ?_)
    · have d1 : s.doS k a b = s := by rw [Sto.doS, if_neg c1, if_neg c2, if_neg c7, if_neg hk, if_pos c4]
      rw [d2, if_pos c4, d1]
      clear c4 d1 d2
      refine W_go ?_
      refine W_rt [(4104, (100, 0)), (4105, (101, 0)), (4106, (102, 0)), (4107, (103, 0))] [] ?_
      exact ⟨rfl, rfl⟩
    rw [d2, if_neg c4]
    refine W_go ?_
    refine W_if (fun c5 => ?_) (fun c5 => ?_)
    · have d1 : s.doS k a b = ⟨⟨s.h.L.set (s.h.T.getD a.toNat 0).toNat (s.h.T.getD b.toNat 0), s.h.R, s.h.T⟩, s.F⟩ := by rw [Sto.doS, if_neg c1, if_neg c2, if_neg c7, if_neg hk, if_neg c4, if_pos c5]
      rw [d1]
      clear c5 d1 d2
      refine W_go ?_
      refine W_rt [(4104, (100, 0)), (4105, (101, 0)), (4106, (102, 0)), (4107, (103, 0))] [] ?_
      simp
    · have d1 : s.doS k a b = ⟨⟨s.h.L, s.h.R.set (s.h.T.getD a.toNat 0).toNat (s.h.T.getD b.toNat 0), s.h.T⟩, s.F⟩ := by rw [Sto.doS, if_neg c1, if_neg c2, if_neg c7, if_neg hk, if_neg c4, if_neg c5]
      rw [d1]
      clear c5 d1 d2
      refine W_go ?_
      refine W_rt [(4104, (100, 0)), (4105, (101, 0)), (4106, (102, 0)), (4107, (103, 0))] [] ?_
      simp
  have hk5 : ¬ (k = 5 ∨ k = 6) := fun h => by rw [hq.2 h] at c3; cases c3
  have c7 : k = 7 := by omega
  subst q
  clear hq ra rb
  have d1 : s.doS k a b = s.root a (-1) := by rw [Sto.doS, if_neg c1, if_neg c2, if_pos c7]
  have d2 : s.doE k a b = 0 := by rw [Sto.doE, if_neg c1, if_neg c2, if_pos c7]
  rw [d1, d2]
  clear d1 d2
  refine W_go ?_
  refine W_if (fun c8 => ?_) (fun c8 => ?_)
  · clear c7 c8
    refine W_go ?_
    refine W_rt [(4104, (100, 0)), (4105, (101, 0)), (4106, (102, 0)), (4107, (103, 0))] [] ?_
    simp [Sto.root]
  · exact absurd c7 c8
end Go.Proofs.YtbobhbhgomkgpaaGreatDoor.S

/- Contracts: the program's comparisons, counts and roots put. Own work of this claim. -/
namespace Go.Proofs.YtbobhbhgomkgpaaGreatDoor.S
set_option linter.all false
open Go Go.Proofs
set_option maxHeartbeats 4000000
set_option maxRecDepth 100000

theorem same_self (s : Sto) : s.same s = true := by simp [Sto.same, Hp.same]
end Go.Proofs.YtbobhbhgomkgpaaGreatDoor.S

/- Contracts: roots put, pointers counted, sources. Own work of this claim. -/
namespace Go.Proofs.YtbobhbhgomkgpaaGreatDoor.S
set_option linter.all false
open Go Go.Proofs
set_option maxHeartbeats 4000000
set_option maxRecDepth 100000

theorem ihas_c (h : Hp) (c : Int) (hl : h.L.length ≤ 4194304 ∧ h.R.length ≤ 4194304 ∧ h.T.length ≤ 4194304) : Fn Tryz.prog 104 [(0, .c false (.ints h.L)), (1, .c false (.ints h.R)), (2, .c false (.ints h.T))] [.agg [.sl 0 0 h.L.length, .sl 1 0 h.R.length, .sl 2 0 h.T.length], .int .i64 c] (fun r H => r = .bool (decide (h.ok ∧ 0 ≤ c ∧ c < h.L.length)) ∧ H = []) := by
  have hv := iHeapValid_c h hl
  refine Fn_go Tryz.func104 ?_
  by_cases g1 : h.ok
  case neg =>
    rw [show h.valid = false by rw [Hp.valid, decide_eq_false g1]] at hv
    refine W_go ?_
    refine W_c1 [(0, (0, 0)), (1, (1, 0)), (2, (2, 0))] hv ?_
    refine W_go ?_
    refine W_rt [] [] ?_
    exact ⟨by rw [decide_eq_false (fun q => g1 q.1)], rfl⟩
  rw [(Hp.ok_iff h).2 g1] at hv
  by_cases g2 : 0 ≤ c
  case neg =>
    refine W_go ?_
    refine W_ch1 [(0, (0, 0)), (1, (1, 0)), (2, (2, 0))] hv ?_
    refine W_go ?_
    refine W_rt [] [] ?_
    exact ⟨by rw [decide_eq_false (fun q => g2 q.2.1)], rfl⟩
  have es : decide (h.ok ∧ 0 ≤ c ∧ c < h.L.length) = decide (c < h.L.length) := by rw [decide_eq_decide]; exact ⟨fun q => q.2.2, fun q => ⟨g1, g2, q⟩⟩
  rw [es]
  clear es g1
  refine W_go ?_
  refine W_ch1 [(0, (0, 0)), (1, (1, 0)), (2, (2, 0))] hv ?_
  refine W_go ?_
  refine W_rt [] [] ?_
  exact ⟨rfl, rfl⟩
end Go.Proofs.YtbobhbhgomkgpaaGreatDoor.S
