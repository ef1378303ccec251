/- Contracts: the law FnLossSchedule. Own work of this claim. -/
import Derived.Test.YtbobhbhgomkgpaaGreatDoorC5
import Derived.Test.YtbobhbhgomkgpaaGreatDoorC4
import Derived.Test.YtbobhbhgomkgpaaGreatDoorMg
namespace Go.Proofs.YtbobhbhgomkgpaaGreatDoor.S
set_option linter.all false
open Go Go.Proofs
set_option maxHeartbeats 4000000
set_option maxRecDepth 100000

theorem lLossSchedule_c (B : List UInt8) (hB : B.length ≤ 9223372036854775807) : Fn Tryz.prog 5 [(0, .c false (.bys B))] [.sl 0 0 B.length] (fun r H => r = .bool true ∧ H = []) := by
  refine Fn_go Tryz.func5 ?_
  refine W_go ?_
  refine W_if (fun h1 => ?_) (fun h1 => ?_)
  · refine W_go ?_
    refine W_rt [] [] ?_
    exact ⟨rfl, rfl⟩
  have hB : B.length ≤ 1048576 := by omega
  clear h1
  refine W_go ?_
  refine W_rw fun K hK => ?_
  refine RW_x ?_
  repeat (refine And.intro (by omega) ?_)
  refine CKy (μ := [(0, (0, 0))]) ⟨⟩ (drawShortLoss_c B hB) (fun y hy => ?_)
  obtain ⟨b, bar⟩ := y
  try dsimp only at hy ⊢
  refine RW_x ?_
  repeat (refine And.intro (by omega) ?_)
  refine hK _ _ ?_
  obtain ⟨hb, hp, hl⟩ := hy
  have hI := iShortLoss_c b bar hb
  have hS := sShortLoss_c b bar hb
  have hsl := fun (w : List Bool) (e : b.slo bar = some w) => slo_law e
  have hln := fun (w : List Bool) (e : b.slo bar = some w) => slo_len e
  have hok := slo_some (bar := bar) (b := b)
  cases e : b.slo bar with
  | none =>
    rw [e] at hI hS
    dsimp only [sloS, Option.isSome_none] at hI hS
    clear hsl hln hok e
    refine W_go ?_
    refine W_c1 [(0, (4104, 0)), (1, (4105, 0)), (2, (4106, 0)), (3, (4107, 0)), (4, (4108, 0)), (5, (4109, 0))] hI ?_
    clear hI
    refine W_go ?_
    refine W_c1 [(0, (4104, 0)), (1, (4105, 0)), (2, (4106, 0)), (3, (4107, 0)), (4, (4108, 0)), (5, (4109, 0))] hS ?_
    clear hS
    refine W_go ?_
    refine W_ift ?_
    refine W_go ?_
    refine W_rt [] [] ?_
    exact ⟨rfl, rfl⟩
  | some w =>
    rw [e] at hI hS
    dsimp only [sloS, Option.isSome_some] at hI hS
    obtain ⟨s1, s2, s3, _⟩ := hsl w e hp hl
    have hln := hln w e
    have hok := hok (by rw [e]; rfl)
    have h7 : 0 ≤ b.a ∧ b.a ≤ b.o.length := hok.2.2
    have hz := sch_size w
    have hat := sch_at w
    have hcl : w.count true ≤ w.length := List.count_le_length
    have htk : ∀ i, (w.take i).count true ≤ 400 := fun i => Nat.le_trans List.count_le_length (by rw [List.length_take]; omega)
    generalize sch w = x at *
    have hz1 : x.size ≤ w.length ∧ w.length ≤ x.size := by omega
    clear hsl hok e hz hp hl
    subst s1
    replace hat : Hold _ := ⟨hat⟩
    replace htk : Hold _ := ⟨htk⟩
    refine W_go ?_
    refine W_c1 [(0, (4104, 0)), (1, (4105, 0)), (2, (4106, 0)), (3, (4107, 0)), (4, (4108, 0)), (5, (4109, 0))] hI ?_
    clear hI
    refine W_go ?_
    refine W_c1 [(0, (4104, 0)), (1, (4105, 0)), (2, (4106, 0)), (3, (4107, 0)), (4, (4108, 0)), (5, (4109, 0))] hS ?_
    clear hS
    refine W_go ?_
    refine W_iff ?_
    refine W_go ?_
    refine W_lp (T := 11) (σ := Nat) (me := fun i => [(10, .int .i64 i), (9, .int .i64 ((w.take i).count true : Nat))]) (mh := fun _ => []) (inv := fun i => i ≤ w.length) (m := fun i => w.length - i) (s0 := 0) (Nat.zero_le _) ?_
    intro i hi
    have hti := htk.told i
    refine W_go ?_
    refine W_if (fun h2 => ?_) (fun h2 => ?_)
    case' refine_2 =>
      have hti2 : (w.take i).count true = w.count true := by rw [List.take_of_length_le (by omega)]
      rw [hti2]
      generalize w.count true = n at *
      have a1 : (1 : Int) ≤ (n : Int) := by omega
      have a2 : (n : Int) ≤ (b.o.length : Int) - b.a := by omega
      clear hti hti2 s2 s3 htk
      refine W_gh ?_
      refine W_rt [] [] ?_
      exact ⟨rfl, rfl⟩
    have ha := hat.told i (by omega)
    have e2 : (w.take (i + 1)).count true = (w.take i).count true + (if w.getD i false then 1 else 0) := by
      rw [List.take_succ_eq_append_getElem (by omega), List.count_append]
      rw [List.getD_eq_getElem?_getD, List.getElem?_eq_getElem (by omega)]
      cases w[i] <;> rfl
    cases c : w.getD i false
    · rw [c, if_neg (by decide)] at ha
      rw [c, if_neg (by decide), Nat.add_zero] at e2
      have z1 : ¬ (103 : Int) = 111 := by decide
      clear hti
      refine W_gh ?_
      refine W_iff ?_
      refine W_gh ?_
      refine W_iff ?_
      refine W_go ?_
      refine W_bk (i + 1) (by omega) (by omega)
    · rw [c, if_pos rfl] at ha
      rw [c, if_pos rfl] at e2
      have z1 : ¬ (111 : Int) = 103 := by decide
      refine W_gh ?_
      refine W_ift ?_
      refine W_gh ?_
      refine W_iff ?_
      refine W_go ?_
      refine W_bk (i + 1) (by omega) (by omega)
end Go.Proofs.YtbobhbhgomkgpaaGreatDoor.S
