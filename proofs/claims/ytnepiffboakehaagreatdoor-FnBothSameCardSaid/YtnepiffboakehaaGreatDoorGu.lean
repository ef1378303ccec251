/- Contracts: a program and a collector begun, of both. Own work of this claim. -/
import Derived.Test.YtnepiffboakehaaGreatDoorGn
import Derived.Test.YtnepiffboakehaaGreatDoorGh
import Derived.Test.YtnepiffboakehaaGreatDoorA6
namespace Go.Proofs.YtnepiffboakehaaGreatDoor.S
set_option linter.all false
open Go Go.Proofs
set_option maxHeartbeats 4000000
set_option maxRecDepth 100000

theorem sl7Ops_c (l : List (Int × Int × Int)) (n : Nat) (hl : l.length ≤ 4194304) (hn : n ≤ 4194304) : Fn Tryz.prog 79 [(0, .c false (.ops l))] [.sl 0 0 l.length, .int .i64 n] (fun r H => r = .bool (decide (opsV l n)) ∧ H = []) := by
  have hC := fun i : Nat => sOpValid_c (opAt l i).1 (opAt l i).2.1 (opAt l i).2.2 n hn
  refine Fn_go Tryz.func79 ?_
  refine W_go ?_
  refine W_lp (T := 6) (σ := Nat) (me := fun i => [(5, .int .i64 i)]) (mh := fun _ => []) (inv := fun i => i ≤ l.length ∧ i ≤ 13 ∧ Hold (∀ j, j < i → opOk (opAt l j).1 (opAt l j).2.1 (opAt l j).2.2 n)) (m := fun i => l.length - i) (s0 := 0) ⟨by omega, by omega, ⟨by intro j hj; omega⟩⟩ ?_
  rintro i ⟨hi, hi2, hI⟩
  by_cases h1 : i < l.length
  case neg =>
    have e : decide (opsV l n) = decide ((l.length : Int) ≤ 12) := by
      rw [decide_eq_decide]
      refine ⟨fun q => by have := q.1; omega, fun q => ⟨by omega, fun j hj => hI.told j (by omega)⟩⟩
    rw [e]
    have h1' : ¬ (i : Int) < l.length := by omega
    refine W_go ?_
    refine W_gh ?_
    refine W_iff ?_
    refine W_go ?_
    refine W_rt [] [] ?_
    exact ⟨rfl, rfl⟩
  have h1' : (i : Int) < l.length := by omega
  by_cases h2 : i ≤ 12
  case neg =>
    have e : decide (opsV l n) = decide ((l.length : Int) ≤ 12) := by
      rw [decide_eq_false (fun q => by have := q.1; omega), decide_eq_false (by omega)]
    rw [e]
    have h2' : ¬ (i : Int) ≤ 12 := by omega
    refine W_go ?_
    refine W_gh ?_
    refine W_iff ?_
    refine W_go ?_
    refine W_rt [] [] ?_
    exact ⟨rfl, rfl⟩
  have h2' : (i : Int) ≤ 12 := by omega
  have hC := hC i
  unfold opAt at hC
  refine W_go ?_
  refine W_gh ?_
  refine W_ift ?_
  refine W_go ?_
  by_cases g : opOk (l.getD i (0, 0, 0)).1 (l.getD i (0, 0, 0)).2.1 (l.getD i (0, 0, 0)).2.2 n
  · rw [decide_eq_true g] at hC
    replace g : Hold _ := ⟨g⟩
    refine W_c1 [] hC ?_
    refine W_iff ?_
    refine W_go ?_
    refine W_bk (i + 1) ⟨by omega, by omega, ⟨fun j hj => ?_⟩⟩ (by omega)
    by_cases e : j = i
    · subst e; exact g.told
    · exact hI.told j (by omega)
  · rw [decide_eq_false g] at hC
    replace g : Hold _ := ⟨g⟩
    refine W_c1 [] hC ?_
    refine W_ift ?_
    refine W_go ?_
    refine W_rt [] [] ?_
    exact ⟨by rw [decide_eq_false]; intro q; exact g.told (q.2 i (by omega)), rfl⟩
theorem sNewBoth_c (s : Sto) (l : List (Int × Int × Int)) (hl : ((s.h.L.length ≤ 4194304 ∧ s.h.R.length ≤ 4194304 ∧ s.h.T.length ≤ 4194304) ∧ s.F.length ≤ 4194304) ∧ l.length ≤ 4194304) : Fn Tryz.prog 67 [(0, .c false (.ints s.h.L)), (1, .c false (.ints s.h.R)), (2, .c false (.ints s.h.T)), (3, .c false (.ints s.F)), (4, .c false (.ops l))] [.agg [.sl 0 0 s.h.L.length, .sl 1 0 s.h.R.length, .sl 2 0 s.h.T.length, .sl 3 0 s.F.length], .sl 4 0 l.length]
    (fun r H => r = .tup [.agg [.sl 100 0 (Bth.new s l).s.h.L.length, .sl 101 0 (Bth.new s l).s.h.R.length, .sl 102 0 (Bth.new s l).s.h.T.length, .sl 103 0 (Bth.new s l).s.F.length, .int .i64 (Bth.new s l).g.p, .sl 104 0 (Bth.new s l).g.C.length, .int .i64 (Bth.new s l).g.a, .sl 105 0 (Bth.new s l).o.length, .int .i64 (Bth.new s l).a, .bool (Bth.new s l).l], .bool (decide (s.opsOk l))] ∧ H = [(100, .c true (.ints (Bth.new s l).s.h.L)), (101, .c true (.ints (Bth.new s l).s.h.R)), (102, .c true (.ints (Bth.new s l).s.h.T)), (103, .c true (.ints (Bth.new s l).s.F)), (104, .c true (.ints (Bth.new s l).g.C)), (105, .c true (.ops (Bth.new s l).o))]) := by
  have hN := sNewGc_c s hl.1
  have hO := sl7Ops_c l s.h.T.length hl.2 (by omega)
  have hY := sl4Copy_c s hl.1
  have no : ¬ s.opsOk l → Bth.new s l = Bth.zero ∧ decide (s.opsOk l) = false := fun q => ⟨by rw [Bth.new, if_neg q], decide_eq_false q⟩
  refine Fn_go Tryz.func67 ?_
  by_cases g1 : s.valid = true
  case neg =>
    have g2 : s.valid = false := by simpa using g1
    obtain ⟨e1, e2⟩ := no (fun q => g1 ((Sto.ok_iff s).2 q.1))
    rw [e1, e2]
    rw [g2] at hN
    clear no e1 e2 g1 g2
    generalize Gcc.fresh s = g at *
    refine W_go ?_
    refine W_c1 [(0, (0, 0)), (1, (1, 0)), (2, (2, 0)), (3, (3, 0))] hN ?_
    refine W_go ?_
    refine W_ift ?_
    refine W_go ?_
    refine W_rt [] [(100, .ints []), (101, .ints []), (102, .ints []), (103, .ints []), (104, .ints []), (105, .ops [])] ?_
    exact ⟨rfl, rfl⟩
  rw [g1] at hN
  by_cases g2 : opsV l s.h.T.length
  case neg =>
    obtain ⟨e1, e2⟩ := no (fun q => g2 q.2)
    rw [e1, e2]
    rw [decide_eq_false g2] at hO
    clear no e1 e2 g1 g2
    generalize Gcc.fresh s = g at *
    refine W_go ?_
    refine W_c1 [(0, (0, 0)), (1, (1, 0)), (2, (2, 0)), (3, (3, 0))] hN ?_
    refine W_go ?_
    refine W_c1 [(0, (4, 0))] hO ?_
    refine W_ift ?_
    refine W_go ?_
    refine W_rt [] [(100, .ints []), (101, .ints []), (102, .ints []), (103, .ints []), (104, .ints []), (105, .ops [])] ?_
    exact ⟨rfl, rfl⟩
  have g3 : s.opsOk l := ⟨(Sto.ok_iff s).1 g1, g2⟩
  have e1 : Bth.new s l = ⟨s, Gcc.fresh s, l, 0, false⟩ := by rw [Bth.new, if_pos g3, Gcc.fresh, if_pos g1]
  rw [e1, decide_eq_true g3]
  rw [decide_eq_true g2] at hO
  clear no e1 g1 g2 g3
  generalize Gcc.fresh s = g at *
  refine W_go ?_
  refine W_c1 [(0, (0, 0)), (1, (1, 0)), (2, (2, 0)), (3, (3, 0))] hN ?_
  refine W_go ?_
  refine W_c1 [(0, (4, 0))] hO ?_
  refine W_iff ?_
  refine W_go ?_
  refine W_dc1 [(0, (0, 0)), (1, (1, 0)), (2, (2, 0)), (3, (3, 0))] hY [.c _ _ _] ?_
  refine W_go ?_
  refine W_rt [(5128, (100, 0)), (5129, (101, 0)), (5130, (102, 0)), (5131, (103, 0)), (2056, (104, 0)), (5160, (105, 0))] [] ?_
  exact ⟨rfl, rfl⟩
end Go.Proofs.YtnepiffboakehaaGreatDoor.S
