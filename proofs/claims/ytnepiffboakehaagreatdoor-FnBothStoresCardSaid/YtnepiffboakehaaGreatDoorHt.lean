/- Contracts: the law FnBothStores. Own work of this claim. -/
import Derived.Test.YtnepiffboakehaaGreatDoorHm
import Derived.Test.YtnepiffboakehaaGreatDoorHe
namespace Go.Proofs.YtnepiffboakehaaGreatDoor.S
set_option linter.all false
open Go Go.Proofs
set_option maxHeartbeats 4000000
set_option maxRecDepth 100000

theorem lccOps_c (a b : List (Int × Int × Int)) (ha : a.length ≤ 4194304) (hb : b.length ≤ 4194304) : Fn Tryz.prog 16 [(0, .c false (.ops a)), (1, .c false (.ops b))] [.sl 0 0 a.length, .sl 1 0 b.length] (fun r H => r = .bool (decide (a = b)) ∧ H = []) := by
  refine Fn_go Tryz.func16 ?_
  refine W_go ?_
  refine W_if (fun h1 => ?_) (fun h1 => ?_)
  · refine W_go ?_
    refine W_rt [] [] ?_
    exact ⟨by rw [decide_eq_false]; rintro rfl; exact h1 rfl, rfl⟩
  · have h4 : a.length ≤ b.length ∧ b.length ≤ a.length := by omega
    clear h1
    refine W_go ?_
    refine W_lp (T := 6) (σ := Nat) (me := fun i => [(5, .int .i64 i)]) (mh := fun _ => []) (inv := fun i => i ≤ a.length ∧ Hold (∀ j, j < i → a.getD j (0, 0, 0) = b.getD j (0, 0, 0))) (m := fun i => a.length - i) (s0 := 0) ⟨by omega, ⟨by intro j hj; omega⟩⟩ ?_
    rintro i ⟨hi, hne⟩
    refine W_go ?_
    refine W_if (fun h2 => ?_) (fun h2 => ?_)
    · repeat (first | refine W_seq ?_ | refine W_skip ?_ | refine W_block ?_ | refine W_pop ?_ | refine W_o ?_)
      refine W_dos [.w 3 (.agg [.int .i64 (a.getD i (0, 0, 0)).1, .int .i64 (a.getD i (0, 0, 0)).2.1, .int .i64 (a.getD i (0, 0, 0)).2.2]), .w 7 (.agg [.int .i64 (b.getD i (0, 0, 0)).1, .int .i64 (b.getD i (0, 0, 0)).2.1, .int .i64 (b.getD i (0, 0, 0)).2.2])] ?_
      refine W_if (fun h3 => ?_) (fun h3 => ?_)
      · refine W_go ?_
        refine W_rt [] [] ?_
        exact ⟨by rw [decide_eq_false]; rintro rfl; exact h3 rfl, rfl⟩
      · refine W_go ?_
        refine W_bk (i + 1) ⟨by omega, ⟨fun j hj => ?_⟩⟩ (by omega)
        by_cases e : j = i
        · subst e; exact Decidable.not_not.1 h3
        · exact hne.told j (by omega)
    · refine W_go ?_
      refine W_rt [] [] ?_
      exact ⟨by rw [decide_eq_true]; exact same_ofO (by omega) fun j hj => hne.told j (by omega), rfl⟩
theorem count_take {l : List Bool} {i : Nat} (h : i < l.length) : (l.take (i + 1)).count true = (l.take i).count true + (if l.getD i false then 1 else 0) := by
  rw [List.take_add_one, List.count_append, List.getElem?_eq_getElem h, List.getD_eq_getElem?_getD, List.getElem?_eq_getElem h]
  cases l[i] <;> rfl
theorem lBothStores_c (B : List UInt8) (hB : B.length ≤ 9223372036854775807) : Fn Tryz.prog 5 [(0, .c false (.bys B))] [.sl 0 0 B.length] (fun r H => r = .bool true ∧ H = []) := by
  refine Fn_go Tryz.func5 ?_
  refine W_go ?_
  refine W_if (fun h1 => ?_) (fun h1 => ?_)
  · refine W_go ?_
    refine W_rt [] [] ?_
    exact ⟨rfl, rfl⟩
  have hB : B.length ≤ 1048576 := by omega
  clear h1
  refine W_go ?_
  refine W_rw fun K hK => ?_
  refine RW_x ?_
  repeat (refine And.intro (by omega) ?_)
  refine CKy (μ := [(0, (0, 0))]) ⟨⟩ (drawRunBoth_c B hB) (fun y hy => ?_)
  obtain ⟨sl, bad, bar⟩ := y
  try dsimp only at hy ⊢
  refine RW_x ?_
  repeat (refine And.intro (by omega) ?_)
  refine hK _ _ ?_
  obtain ⟨sl, l⟩ := sl
  dsimp only at hy ⊢
  have hl : l.length ≤ 24 := hy.2
  have ok : (Bth.new sl.1 sl.2).ok := Bth.new_ok hy.1.told
  have hg0 : (Bth.new sl.1 sl.2).g.p = 0 := by rw [Bth.new, if_pos hy.1.told]
  have hl0 : (Bth.new sl.1 sl.2).l = false := by rw [Bth.new, if_pos hy.1.told]
  have ha0 : (Bth.new sl.1 sl.2).a = 0 := by rw [Bth.new, if_pos hy.1.told]
  clear hy
  generalize Bth.new sl.1 sl.2 = b at *
  have hs := ok.small
  have hb : (((b.s.h.L.length ≤ 4194304 ∧ b.s.h.R.length ≤ 4194304 ∧ b.s.h.T.length ≤ 4194304) ∧ b.s.F.length ≤ 4194304) ∧ b.g.C.length ≤ 4194304) ∧ b.o.length ≤ 4194304 := by omega
  clear hs
  cases bad
  case true =>
    have hI := iRunBothX_c b hb l hl bar
    have hS := sRunBothX_c b ok l hl bar
    have hE := iBothT_c .zero (by simp [Bth.zero, Sto.zero, Gcc.zero])
    clear ok hg0 hl0 ha0
    rw [if_pos rfl]
    generalize schX l = z at *
    generalize Bth.zero = w at *
    refine W_go ?_
    refine W_c1 [(0, (4104, 0)), (1, (4105, 0)), (2, (4106, 0)), (3, (4107, 0)), (4, (4108, 0)), (5, (4109, 0))] hI ?_
    clear hI
    refine W_go ?_
    refine W_c1 [(0, (4104, 0)), (1, (4105, 0)), (2, (4106, 0)), (3, (4107, 0)), (4, (4108, 0)), (5, (4109, 0))] hS ?_
    clear hS
    refine W_go ?_
    refine W_c1 [(0, (5144, 0)), (1, (5145, 0)), (2, (5146, 0)), (3, (5147, 0)), (4, (5148, 0)), (5, (5149, 0)), (6, (6168, 0)), (7, (6169, 0)), (8, (6170, 0)), (9, (6171, 0)), (10, (6172, 0)), (11, (6173, 0))] hE ?_
    refine W_ift ?_
    refine W_go ?_
    refine W_c1 [(0, (5144, 0)), (1, (5145, 0)), (2, (5146, 0)), (3, (5147, 0)), (4, (5148, 0)), (5, (5149, 0)), (6, (6168, 0)), (7, (6169, 0)), (8, (6170, 0)), (9, (6171, 0)), (10, (6172, 0)), (11, (6173, 0))] hE ?_
    refine W_go ?_
    refine W_rt [] [] ?_
    exact ⟨rfl, rfl⟩
  rw [if_neg Bool.false_ne_true]
  have hI := iRunBoth_c b ok l (by omega) bar
  have hS := sRunBoth_c b ok l (by omega) bar
  have hrs := (Bth.run_ok bar l ok).small
  have hE := iBothT_c (Bth.run bar l b) (by omega)
  have hro := Bth.run_o bar l b
  have hrok := Bth.run_ok bar l ok
  have hV := iStoreValid_c (Bth.run bar l b).s (by omega)
  rw [show (Bth.run bar l b).s.valid = true from (Sto.ok_iff _).2 hrok.1.1] at hV
  have hCC := lccOps_c (Bth.run bar l b).o b.o (by omega) (by omega)
  rw [decide_eq_true hro.1] at hCC
  have hle1 : (Bth.run bar l b).a ≤ b.a + (l.count true : Nat) := hro.2
  have hle2 : (Bth.run bar l b).a ≤ (Bth.run bar l b).o.length := hrok.2.2.2
  have hb1 : 0 ≤ b.a ∧ b.a ≤ 0 := by omega
  have hcl : l.count true ≤ 24 := Nat.le_trans List.count_le_length hl
  have hz := sch_size l
  have hat := sch_at l
  clear ok hg0 hl0 ha0 hrs hro hrok
  generalize Bth.run bar l b = x at *
  generalize sch l = z at *
  have hz1 : z.size ≤ l.length ∧ l.length ≤ z.size := by omega
  clear hz
  replace hat : Hold _ := ⟨hat⟩
  refine W_go ?_
  refine W_c1 [(0, (4104, 0)), (1, (4105, 0)), (2, (4106, 0)), (3, (4107, 0)), (4, (4108, 0)), (5, (4109, 0))] hI ?_
  clear hI
  refine W_go ?_
  refine W_c1 [(0, (4104, 0)), (1, (4105, 0)), (2, (4106, 0)), (3, (4107, 0)), (4, (4108, 0)), (5, (4109, 0))] hS ?_
  clear hS
  refine W_go ?_
  refine W_c1 [(0, (5144, 0)), (1, (5145, 0)), (2, (5146, 0)), (3, (5147, 0)), (4, (5148, 0)), (5, (5149, 0)), (6, (6168, 0)), (7, (6169, 0)), (8, (6170, 0)), (9, (6171, 0)), (10, (6172, 0)), (11, (6173, 0))] hE ?_
  refine W_iff ?_
  refine W_go ?_
  clear hE
  refine W_rk 12 [(4144, (4144, 0)), (5176, (5176, 0)), (4104, (4104, 0)), (4105, (4105, 0)), (4106, (4106, 0)), (4107, (4107, 0)), (4108, (4108, 0)), (4109, (4109, 0)), (5144, (5144, 0)), (5145, (5145, 0)), (5146, (5146, 0)), (5147, (5147, 0)), (5148, (5148, 0)), (5149, (5149, 0))] ?_
  refine W_lp (T := 12) (σ := Nat × Nat) (me := fun s => [(11, .int .i64 s.1), (10, .int .i64 s.2)]) (mh := fun s => []) (inv := fun s => s.1 ≤ l.length ∧ s.2 ≤ s.1 ∧ Hold (s.2 = (l.take s.1).count true)) (m := fun s => l.length - s.1) (s0 := (0, 0)) ⟨by dsimp only; omega, by dsimp only; omega, ⟨rfl⟩⟩ ?_ (hh := by rfl)
  rintro ⟨i, n⟩ ⟨hi, hn, hI2⟩
  dsimp only at hi hn hI2 ⊢
  refine W_go ?_
  refine W_if (fun g => ?_) (fun g => ?_)
  · have hil : i < l.length := by omega
    have hc := hat.told i hil
    have hct := count_take hil
    have hm2 : l.length - (i + 1) < l.length - i := by omega
    generalize l.getD i false = c at *
    replace hct : Hold _ := ⟨hct⟩
    cases c
    case true =>
      have hc : ((z.data.getD i 0).toNat : Int) = 111 := hc
      have hct2 : Hold (n + 1 = (l.take (i + 1)).count true) := ⟨by rw [hct.told, ← hI2.told]; rfl⟩
      clear hct hI2
      refine W_go ?_
      rw [hc, decide_eq_true (rfl : (111 : Int) = 111)]
      refine W_ift ?_
      refine W_go ?_
      refine W_bk (i + 1, n + 1) ⟨by dsimp only; omega, by dsimp only; omega, hct2⟩ hm2
    case false =>
      have hc : ((z.data.getD i 0).toNat : Int) = 103 := hc
      have hct2 : Hold (n = (l.take (i + 1)).count true) := ⟨by rw [hct.told, ← hI2.told]; rfl⟩
      clear hct hI2
      refine W_go ?_
      rw [hc, decide_eq_false (by omega : ¬ (103 : Int) = 111)]
      refine W_iff ?_
      refine W_go ?_
      refine W_bk (i + 1, n) ⟨by dsimp only; omega, by dsimp only; omega, hct2⟩ hm2
  have e : n = l.count true := by rw [hI2.told, List.take_of_length_le (by omega)]
  rw [← e] at hle1 hcl
  clear hI2 e hat
  refine W_go ?_
  refine W_ch2 [(0, (5144, 0)), (1, (5145, 0)), (2, (5146, 0)), (3, (5147, 0))] hV [(0, (5149, 0)), (1, (4109, 0))] hCC ?_
  refine W_go ?_
  refine W_rt [] [] ?_
  exact ⟨rfl, rfl⟩
end Go.Proofs.YtnepiffboakehaaGreatDoor.S
