/- Contracts: the law FnGcValid. Own work of this claim. -/
import Derived.Test.YtbcnkfkmonpdeaaGm
import Derived.Test.YtbcnkfkmonpdeaaGk
namespace Go.Proofs.Ytbcnkfkmonpdeaa.S
set_option linter.all false
open Go Go.Proofs
set_option maxHeartbeats 4000000
set_option maxRecDepth 100000

theorem drawGcValid_c (B : List UInt8) (hB : B.length ≤ 1048576) : Fn Try.prog 79 [(0, .c false (.bys B))] [.sl 0 0 B.length]
    (fun r H => ∃ x : Sto × Gcc, drG x.1 x.2 ∧ r = .tup [.agg [.sl 100 0 x.1.h.L.length, .sl 101 0 x.1.h.R.length, .sl 102 0 x.1.h.T.length, .sl 103 0 x.1.F.length], .agg [.int .i64 x.2.p, .sl 104 0 x.2.C.length, .int .i64 x.2.a]] ∧ H = [(100, .c true (.ints x.1.h.L)), (101, .c true (.ints x.1.h.R)), (102, .c true (.ints x.1.h.T)), (103, .c true (.ints x.1.F)), (104, .c true (.ints x.2.C))]) := by
  have hO := open_c B (by omega)
  refine Fn_go Try.func79 ?_
  refine W_go ?_
  refine W_c1 [(0, (0, 0))] hO ?_
  have hm : min B.length 2000 ≤ B.length ∧ min B.length 2000 < 1099511627776 := by omega
  generalize min B.length 2000 = m at *
  refine W_go ?_
  refine W_rw fun K hK => ?_
  refine RW_x ?_
  repeat (refine And.intro (by omega) ?_)
  refine CKy (μ := [(0, (2056, 0)), (1, (0, 0))]) ⟨⟩ (l6Draw_c B m 0 (by omega) hm) (fun x hx => ?_)
  obtain ⟨s, g, p⟩ := x
  try dsimp only at hx ⊢
  refine RW_x ?_
  repeat (refine And.intro (by omega) ?_)
  refine hK _ _ ?_
  obtain ⟨hw, hx⟩ := hx
  have b8 := hw.told.h.1
  have b9 := hw.told.c.1
  have hG := l6Wrong_c B m p g (by omega) hm (by omega)
  have pb := wrongP_b B m p
  have gl := wrongG_len B m p g
  have hG2 := l6Wrong_c B m (wrongP B m p) (wrongG B m p g) (by omega) hm (by omega)
  have gl2 := wrongG_len B m (wrongP B m p) (wrongG B m p g)
  have hd : drG s (wrongG B m (wrongP B m p) (wrongG B m p g)) := by unfold drG; omega
  have l7 : (wrongG B m (wrongP B m p) (wrongG B m p g)).C.length ≤ 8 ∧ (wrongG B m p g).C.length ≤ 8 := by omega
  have l6 : s.h.L.length ≤ 8 ∧ s.h.R.length ≤ 8 ∧ s.h.T.length ≤ 8 := by omega
  generalize wrongG B m (wrongP B m p) (wrongG B m p g) = g2 at *
  generalize wrongP B m (wrongP B m p) = p2 at *
  generalize wrongG B m p g = g' at *
  generalize wrongP B m p = p' at *
  clear b8 b9 gl hw gl2
  replace hd : Hold _ := ⟨hd⟩
  refine W_go ?_
  refine W_dc2 [(0, (2056, 0)), (1, (0, 0)), (2, (3084, 0))] hG [(0, (2056, 0)), (1, (0, 0)), (2, (4128, 0))] hG2 [.c _ _ _, .c _ _ _] ?_
  refine W_go ?_
  refine W_rt [(3080, (100, 0)), (3081, (101, 0)), (3082, (102, 0)), (3083, (103, 0)), (4136, (104, 0))] [] ?_
  exact ⟨(s, g2), hd.told, rfl, rfl⟩
theorem lGcValid_c (B : List UInt8) (hB : B.length ≤ 9223372036854775807) : Fn Try.prog 19 [(0, .c false (.bys B))] [.sl 0 0 B.length] (fun r H => r = .bool true ∧ H = []) := by
  refine Fn_go Try.func19 ?_
  refine W_go ?_
  refine W_if (fun h1 => ?_) (fun h1 => ?_)
  · refine W_go ?_
    refine W_rt [] [] ?_
    exact ⟨rfl, rfl⟩
  have hB : B.length ≤ 1048576 := by omega
  clear h1
  refine W_go ?_
  refine W_rw fun K hK => ?_
  refine RW_x ?_
  repeat (refine And.intro (by omega) ?_)
  refine CKy (μ := [(0, (0, 0))]) ⟨⟩ (drawGcValid_c B hB) (fun x hx => ?_)
  obtain ⟨s, g⟩ := x
  try dsimp only at hx ⊢
  refine RW_x ?_
  repeat (refine And.intro (by omega) ?_)
  refine hK _ _ ?_
  unfold drG at hx
  have hb : (s.h.L.length ≤ 4194304 ∧ s.h.R.length ≤ 4194304 ∧ s.h.T.length ≤ 4194304) ∧ s.F.length ≤ 4194304 := by omega
  have hV := iGcValid_c s g hb (by omega)
  have hV2 := sGcValid_c s g hb (by omega)
  have hP := iStepGc_c s g hb (by omega)
  have hW := iSweptCell_c s g hb (by omega)
  have key : ∀ b : Bool, (b = true ↔ g.swept s ≠ -1 ∧ g.swept s ∈ s.h.T) → decide (g.stOk s) = (decide (g.ok s) && !b) := by
    intro b hb
    by_cases z : g.ok s
    · have e : g.swept s = g.sw s := by rw [Gcc.swept, if_pos z]
      rw [e] at hb
      rw [decide_eq_true z, Bool.true_and]
      cases b
      · rw [decide_eq_true]
        · rfl
        · exact ⟨z, fun q => by have := hb.2 q; cases this⟩
      · rw [decide_eq_false]
        · rfl
        · exact fun q => q.2 (hb.1 rfl)
    · rw [decide_eq_false z, Bool.false_and, decide_eq_false (fun q => z q.1)]
  have imp : decide (g.stOk s) = true → decide (g.ok s) = true := by
    intro q
    exact decide_eq_true (of_decide_eq_true q).1
  have l1 : ((g.stepS s).h.L.length ≤ 8 ∧ (g.stepS s).h.R.length ≤ 8 ∧ (g.stepS s).h.T.length ≤ 3) ∧ (g.stepG s).C.length ≤ 8 := by
    unfold Gcc.stepS Gcc.stepG
    by_cases z : g.stOk s
    · have w := z.1.weak.step
      have w1 := w.h.1
      have w2 := w.c.1
      rw [if_pos z, if_pos z]; omega
    · rw [if_neg z, if_neg z]; simp [Sto.zero, Gcc.zero]
  replace key : Hold _ := ⟨key⟩
  generalize decide (g.stOk s) = st at *
  generalize decide (g.ok s) = o at *
  generalize g.swept s = x at *
  generalize g.stepS s = s' at *
  generalize g.stepG s = g' at *
  refine W_go ?_
  refine W_c1 [(0, (4104, 0)), (1, (4105, 0)), (2, (4106, 0)), (3, (4107, 0)), (4, (4108, 0))] hV ?_
  refine W_go ?_
  refine W_c1 [(0, (4104, 0)), (1, (4105, 0)), (2, (4106, 0)), (3, (4107, 0)), (4, (4108, 0))] hP ?_
  refine W_go ?_
  cases o
  · obtain rfl : st = false := by
      cases st
      · rfl
      · exact absurd (imp rfl) (by decide)
    refine W_c1 [(0, (4104, 0)), (1, (4105, 0)), (2, (4106, 0)), (3, (4107, 0)), (4, (4108, 0))] hV2 ?_
    refine W_iff ?_
    refine W_go ?_
    refine W_c1 [(0, (4104, 0)), (1, (4105, 0)), (2, (4106, 0)), (3, (4107, 0)), (4, (4108, 0))] hW ?_
    refine W_go ?_
    refine W_lp (T := 12) (σ := Bool × Nat) (me := fun s => [(10, .bool s.1), (11, .int .i64 s.2)]) (mh := fun _ => []) (inv := fun z => z.2 ≤ s.h.T.length ∧ Hold (z.1 = true ↔ x ≠ -1 ∧ x ∈ s.h.T.take z.2)) (m := fun z => s.h.T.length - z.2) (s0 := (false, 0)) ⟨by omega, ⟨by simp⟩⟩ ?_
    rintro ⟨b, i⟩ ⟨hi, hI⟩
    dsimp only at hi hI ⊢
    refine W_go ?_
    refine W_if (fun h2 => ?_) (fun h2 => ?_)
    case' refine_2 =>
      have hil : i = s.h.T.length := by omega
      subst hil
      have hk := key.told b (by rw [hI.told, List.take_length])
      refine W_go ?_
      refine W_rt [] [] ?_
      exact ⟨rfl, rfl⟩
    have hst : s.h.T.take (i + 1) = s.h.T.take i ++ [s.h.T.getD i 0] := (take_succ_getD (by omega)).symm
    replace hst : Hold _ := ⟨hst⟩
    cases b
    case true =>
      refine W_go ?_
      refine W_bk (true, i + 1) ⟨by dsimp only; omega, ⟨?_⟩⟩ (by dsimp only; omega)
      dsimp only
      rw [hst.told, List.mem_append]
      have := hI.told.1 rfl
      exact ⟨fun _ => ⟨this.1, .inl this.2⟩, fun _ => rfl⟩
    case false =>
      have hno : ¬ (x ≠ -1 ∧ x ∈ s.h.T.take i) := fun q => by have := hI.told.2 q; cases this
      replace hno : Hold _ := ⟨hno⟩
      by_cases c1 : x = -1
      · have c1' : Hold (x = -1) := ⟨c1⟩
        replace c1 := eq_true c1
        refine W_go ?_
        refine W_gh ?_
        refine W_bk (false, i + 1) ⟨by dsimp only; omega, ⟨?_⟩⟩ (by dsimp only; omega)
        dsimp only
        exact ⟨fun q => (by cases q), fun q => absurd c1'.told q.1⟩
      by_cases c2 : s.h.T.getD i 0 = x
      · have c2' : Hold (s.h.T.getD i 0 = x) := ⟨c2⟩
        replace c2 := eq_true c2
        refine W_go ?_
        refine W_gh ?_
        refine W_bk (true, i + 1) ⟨by dsimp only; omega, ⟨?_⟩⟩ (by dsimp only; omega)
        dsimp only
        rw [hst.told, List.mem_append, c2'.told]
        exact ⟨fun _ => ⟨c1, .inr (by simp)⟩, fun _ => rfl⟩
      · refine W_go ?_
        refine W_gh ?_
        refine W_bk (false, i + 1) ⟨by dsimp only; omega, ⟨?_⟩⟩ (by dsimp only; omega)
        dsimp only
        rw [hst.told, List.mem_append]
        refine ⟨fun q => (by cases q), fun ⟨q1, q2⟩ => ?_⟩
        rcases q2 with q2 | q2
        · exact absurd ⟨q1, q2⟩ hno.told
        · simp only [List.mem_singleton] at q2
          exact absurd q2.symm c2
  cases st
  · refine W_c1 [(0, (4104, 0)), (1, (4105, 0)), (2, (4106, 0)), (3, (4107, 0)), (4, (4108, 0))] hV2 ?_
    refine W_iff ?_
    refine W_go ?_
    refine W_c1 [(0, (4104, 0)), (1, (4105, 0)), (2, (4106, 0)), (3, (4107, 0)), (4, (4108, 0))] hW ?_
    refine W_go ?_
    refine W_lp (T := 12) (σ := Bool × Nat) (me := fun s => [(10, .bool s.1), (11, .int .i64 s.2)]) (mh := fun _ => []) (inv := fun z => z.2 ≤ s.h.T.length ∧ Hold (z.1 = true ↔ x ≠ -1 ∧ x ∈ s.h.T.take z.2)) (m := fun z => s.h.T.length - z.2) (s0 := (false, 0)) ⟨by omega, ⟨by simp⟩⟩ ?_
    rintro ⟨b, i⟩ ⟨hi, hI⟩
    dsimp only at hi hI ⊢
    refine W_go ?_
    refine W_if (fun h2 => ?_) (fun h2 => ?_)
    case' refine_2 =>
      have hil : i = s.h.T.length := by omega
      subst hil
      have hk := key.told b (by rw [hI.told, List.take_length])
      cases b
      · simp at hk
      · refine W_go ?_
        refine W_rt [] [] ?_
        exact ⟨rfl, rfl⟩
    have hst : s.h.T.take (i + 1) = s.h.T.take i ++ [s.h.T.getD i 0] := (take_succ_getD (by omega)).symm
    replace hst : Hold _ := ⟨hst⟩
    cases b
    case true =>
      refine W_go ?_
      refine W_bk (true, i + 1) ⟨by dsimp only; omega, ⟨?_⟩⟩ (by dsimp only; omega)
      dsimp only
      rw [hst.told, List.mem_append]
      have := hI.told.1 rfl
      exact ⟨fun _ => ⟨this.1, .inl this.2⟩, fun _ => rfl⟩
    case false =>
      have hno : ¬ (x ≠ -1 ∧ x ∈ s.h.T.take i) := fun q => by have := hI.told.2 q; cases this
      replace hno : Hold _ := ⟨hno⟩
      by_cases c1 : x = -1
      · have c1' : Hold (x = -1) := ⟨c1⟩
        replace c1 := eq_true c1
        refine W_go ?_
        refine W_gh ?_
        refine W_bk (false, i + 1) ⟨by dsimp only; omega, ⟨?_⟩⟩ (by dsimp only; omega)
        dsimp only
        exact ⟨fun q => (by cases q), fun q => absurd c1'.told q.1⟩
      by_cases c2 : s.h.T.getD i 0 = x
      · have c2' : Hold (s.h.T.getD i 0 = x) := ⟨c2⟩
        replace c2 := eq_true c2
        refine W_go ?_
        refine W_gh ?_
        refine W_bk (true, i + 1) ⟨by dsimp only; omega, ⟨?_⟩⟩ (by dsimp only; omega)
        dsimp only
        rw [hst.told, List.mem_append, c2'.told]
        exact ⟨fun _ => ⟨c1, .inr (by simp)⟩, fun _ => rfl⟩
      · refine W_go ?_
        refine W_gh ?_
        refine W_bk (false, i + 1) ⟨by dsimp only; omega, ⟨?_⟩⟩ (by dsimp only; omega)
        dsimp only
        rw [hst.told, List.mem_append]
        refine ⟨fun q => (by cases q), fun ⟨q1, q2⟩ => ?_⟩
        rcases q2 with q2 | q2
        · exact absurd ⟨q1, q2⟩ hno.told
        · simp only [List.mem_singleton] at q2
          exact absurd q2.symm c2
  · refine W_c1 [(0, (4104, 0)), (1, (4105, 0)), (2, (4106, 0)), (3, (4107, 0)), (4, (4108, 0))] hV2 ?_
    refine W_iff ?_
    refine W_go ?_
    refine W_c1 [(0, (4104, 0)), (1, (4105, 0)), (2, (4106, 0)), (3, (4107, 0)), (4, (4108, 0))] hW ?_
    refine W_go ?_
    refine W_lp (T := 12) (σ := Bool × Nat) (me := fun s => [(10, .bool s.1), (11, .int .i64 s.2)]) (mh := fun _ => []) (inv := fun z => z.2 ≤ s.h.T.length ∧ Hold (z.1 = true ↔ x ≠ -1 ∧ x ∈ s.h.T.take z.2)) (m := fun z => s.h.T.length - z.2) (s0 := (false, 0)) ⟨by omega, ⟨by simp⟩⟩ ?_
    rintro ⟨b, i⟩ ⟨hi, hI⟩
    dsimp only at hi hI ⊢
    refine W_go ?_
    refine W_if (fun h2 => ?_) (fun h2 => ?_)
    case' refine_2 =>
      have hil : i = s.h.T.length := by omega
      subst hil
      have hk := key.told b (by rw [hI.told, List.take_length])
      cases b
      · refine W_go ?_
        refine W_rt [] [] ?_
        exact ⟨rfl, rfl⟩
      · simp at hk
    have hst : s.h.T.take (i + 1) = s.h.T.take i ++ [s.h.T.getD i 0] := (take_succ_getD (by omega)).symm
    replace hst : Hold _ := ⟨hst⟩
    cases b
    case true =>
      refine W_go ?_
      refine W_bk (true, i + 1) ⟨by dsimp only; omega, ⟨?_⟩⟩ (by dsimp only; omega)
      dsimp only
      rw [hst.told, List.mem_append]
      have := hI.told.1 rfl
      exact ⟨fun _ => ⟨this.1, .inl this.2⟩, fun _ => rfl⟩
    case false =>
      have hno : ¬ (x ≠ -1 ∧ x ∈ s.h.T.take i) := fun q => by have := hI.told.2 q; cases this
      replace hno : Hold _ := ⟨hno⟩
      by_cases c1 : x = -1
      · have c1' : Hold (x = -1) := ⟨c1⟩
        replace c1 := eq_true c1
        refine W_go ?_
        refine W_gh ?_
        refine W_bk (false, i + 1) ⟨by dsimp only; omega, ⟨?_⟩⟩ (by dsimp only; omega)
        dsimp only
        exact ⟨fun q => (by cases q), fun q => absurd c1'.told q.1⟩
      by_cases c2 : s.h.T.getD i 0 = x
      · have c2' : Hold (s.h.T.getD i 0 = x) := ⟨c2⟩
        replace c2 := eq_true c2
        refine W_go ?_
        refine W_gh ?_
        refine W_bk (true, i + 1) ⟨by dsimp only; omega, ⟨?_⟩⟩ (by dsimp only; omega)
        dsimp only
        rw [hst.told, List.mem_append, c2'.told]
        exact ⟨fun _ => ⟨c1, .inr (by simp)⟩, fun _ => rfl⟩
      · refine W_go ?_
        refine W_gh ?_
        refine W_bk (false, i + 1) ⟨by dsimp only; omega, ⟨?_⟩⟩ (by dsimp only; omega)
        dsimp only
        rw [hst.told, List.mem_append]
        refine ⟨fun q => (by cases q), fun ⟨q1, q2⟩ => ?_⟩
        rcases q2 with q2 | q2
        · exact absurd ⟨q1, q2⟩ hno.told
        · simp only [List.mem_singleton] at q2
          exact absurd q2.symm c2
end Go.Proofs.Ytbcnkfkmonpdeaa.S
