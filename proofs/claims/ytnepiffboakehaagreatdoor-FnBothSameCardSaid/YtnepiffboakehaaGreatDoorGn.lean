/- Contracts: runs of operations. Own work of this claim. -/
import Derived.Test.YtnepiffboakehaaGreatDoorFr
import Derived.Test.YtnepiffboakehaaGreatDoorGg
import Derived.Test.YtnepiffboakehaaGreatDoorA5
namespace Go.Proofs.YtnepiffboakehaaGreatDoor.S
set_option linter.all false
open Go Go.Proofs
set_option maxHeartbeats 4000000
set_option maxRecDepth 100000

theorem iopsOk_c (l : List (Int × Int × Int)) (n : Nat) (hl : l.length ≤ 4194304) (hn : n ≤ 4194304) : Fn Tryz.prog 41 [(0, .c false (.ops l))] [.sl 0 0 l.length, .int .i64 n] (fun r H => r = .bool (decide (opsV l n)) ∧ H = []) := by
  have hC := fun i : Nat => iOpValid_c (opAt l i).1 (opAt l i).2.1 (opAt l i).2.2 n hn
  refine Fn_go Tryz.func41 ?_
  refine W_go ?_
  refine W_lp (T := 10) (σ := Nat) (me := fun i => [(9, .int .i64 i)]) (mh := fun _ => []) (inv := fun i => i ≤ l.length ∧ Hold (∀ j, j < i → opOk (opAt l j).1 (opAt l j).2.1 (opAt l j).2.2 n)) (m := fun i => l.length - i) (s0 := 0) ⟨by omega, ⟨by intro j hj; omega⟩⟩ ?_
  rintro i ⟨hi, hI⟩
  refine W_go ?_
  refine W_if (fun h2 => ?_) (fun h2 => ?_)
  case' refine_2 =>
    have e : decide (opsV l n) = decide ((l.length : Int) ≤ 12) := by
      rw [decide_eq_decide]
      refine ⟨fun q => by have := q.1; omega, fun q => ⟨by omega, fun j hj => hI.told j (by omega)⟩⟩
    rw [e]
    refine W_go ?_
    refine W_rt [] [] ?_
    exact ⟨rfl, rfl⟩
  have hC := hC i
  unfold opAt at hC
  refine W_go ?_
  refine W_go ?_
  by_cases g : opOk (l.getD i (0, 0, 0)).1 (l.getD i (0, 0, 0)).2.1 (l.getD i (0, 0, 0)).2.2 n
  · rw [decide_eq_true g] at hC
    replace g : Hold _ := ⟨g⟩
    refine W_c1 [] hC ?_
    refine W_iff ?_
    refine W_go ?_
    refine W_rk 10 [] ?_
    refine W_bk (i + 1) ⟨by omega, ⟨fun j hj => ?_⟩⟩ (by omega)
    by_cases e : j = i
    · subst e; exact g.told
    · exact hI.told j (by omega)
  · rw [decide_eq_false g] at hC
    replace g : Hold _ := ⟨g⟩
    refine W_c1 [] hC ?_
    refine W_ift ?_
    refine W_go ?_
    refine W_rt [] [] ?_
    exact ⟨by rw [decide_eq_false]; intro q; exact g.told (q.2 i (by omega)), rfl⟩
theorem sRunOps_c (s : Sto) (l : List (Int × Int × Int)) (hl : ((s.h.L.length ≤ 4194304 ∧ s.h.R.length ≤ 4194304 ∧ s.h.T.length ≤ 4194304) ∧ s.F.length ≤ 4194304) ∧ l.length ≤ 4194304) : Fn Tryz.prog 66 [(0, .c false (.ints s.h.L)), (1, .c false (.ints s.h.R)), (2, .c false (.ints s.h.T)), (3, .c false (.ints s.F)), (4, .c false (.ops l))] [.agg [.sl 0 0 s.h.L.length, .sl 1 0 s.h.R.length, .sl 2 0 s.h.T.length, .sl 3 0 s.F.length], .sl 4 0 l.length]
    (fun r H => r = .tup [.agg [.sl 100 0 (s.opsS l).h.L.length, .sl 101 0 (s.opsS l).h.R.length, .sl 102 0 (s.opsS l).h.T.length, .sl 103 0 (s.opsS l).F.length], .int .i64 (s.opsN l), .bool (decide (s.opsOk l))] ∧ H = [(100, .c true (.ints (s.opsS l).h.L)), (101, .c true (.ints (s.opsS l).h.R)), (102, .c true (.ints (s.opsS l).h.T)), (103, .c true (.ints (s.opsS l).F))]) := by
  have hv := sStoreValid_c s hl.1
  have hg := sl4Copy_c s hl.1
  have no : ¬ s.opsOk l → s.opsS l = Sto.zero ∧ s.opsN l = 0 ∧ decide (s.opsOk l) = false := fun q => ⟨by rw [Sto.opsS, if_neg q], by rw [Sto.opsN, if_neg q], decide_eq_false q⟩
  replace no : Hold _ := ⟨no⟩
  refine Fn_go Tryz.func66 ?_
  refine W_go ?_
  by_cases g1 : s.valid = true
  case neg =>
    have g1' : s.valid = false := by simpa using g1
    rw [g1'] at hv
    refine W_ch1 [(0, (0, 0)), (1, (1, 0)), (2, (2, 0)), (3, (3, 0))] hv ?_
    refine W_ift ?_
    refine W_go ?_
    refine W_rt [] [(100, .ints []), (101, .ints []), (102, .ints []), (103, .ints [])] ?_
    obtain ⟨e1, e2, e3⟩ := no.told (fun q => g1 ((Sto.ok_iff s).2 q.1))
    rw [e1, e2, e3]
    exact ⟨rfl, rfl⟩
  have gv := (Sto.ok_iff s).1 g1
  rw [g1] at hv
  replace gv : Hold _ := ⟨gv⟩
  replace g1 : Hold _ := ⟨g1⟩
  by_cases g2 : 12 < (l.length : Int)
  · refine W_ch1 [(0, (0, 0)), (1, (1, 0)), (2, (2, 0)), (3, (3, 0))] hv ?_
    refine W_ift ?_
    refine W_go ?_
    refine W_rt [] [(100, .ints []), (101, .ints []), (102, .ints []), (103, .ints [])] ?_
    obtain ⟨e1, e2, e3⟩ := no.told (fun q => by have := q.2.1; omega)
    rw [e1, e2, e3]
    exact ⟨rfl, rfl⟩
  refine W_ch1 [(0, (0, 0)), (1, (1, 0)), (2, (2, 0)), (3, (3, 0))] hv ?_
  refine W_iff ?_
  refine W_go ?_
  refine W_c1 [(0, (0, 0)), (1, (1, 0)), (2, (2, 0)), (3, (3, 0))] hg ?_
  refine W_go ?_
  refine W_lp (T := 9) (σ := Nat) (me := fun i => [(8, .int .i64 i)]) (mh := fun _ => []) (inv := fun i => i ≤ l.length ∧ Hold (∀ j, j < i → opOk (opAt l j).1 (opAt l j).2.1 (opAt l j).2.2 s.h.T.length)) (m := fun i => l.length - i) (s0 := 0) ⟨by omega, ⟨by intro j hj; omega⟩⟩ ?_
  clear hv hg
  rintro i ⟨hi, hI⟩
  refine W_go ?_
  refine W_if (fun h2 => ?_) (fun h2 => ?_)
  case' refine_1 =>
    have hC := sOpValid_c (opAt l i).1 (opAt l i).2.1 (opAt l i).2.2 s.h.T.length (by omega)
    unfold opAt at hC
    refine W_go ?_
    by_cases g : opOk (l.getD i (0, 0, 0)).1 (l.getD i (0, 0, 0)).2.1 (l.getD i (0, 0, 0)).2.2 s.h.T.length
    · rw [decide_eq_true g] at hC
      replace g : Hold _ := ⟨g⟩
      refine W_dc1 [] hC [.c _ _ _] ?_
      refine W_iff ?_
      refine W_go ?_
      refine W_bk (i + 1) ⟨by omega, ⟨fun j hj => ?_⟩⟩ (by omega)
      by_cases e : j = i
      · subst e; exact g.told
      · exact hI.told j (by omega)
    · rw [decide_eq_false g] at hC
      replace g : Hold _ := ⟨g⟩
      refine W_dc1 [] hC [.c _ _ _] ?_
      refine W_ift ?_
      refine W_go ?_
      refine W_rt [] [(100, .ints []), (101, .ints []), (102, .ints []), (103, .ints [])] ?_
      obtain ⟨e1, e2, e3⟩ := no.told (fun q => g.told (q.2.2 i (by omega)))
      rw [e1, e2, e3]
      exact ⟨rfl, rfl⟩
  have gr : s.opsOk l := ⟨gv.told, by omega, fun j hj => hI.told j (by omega)⟩
  rw [Sto.opsS, Sto.opsN, if_pos gr, if_pos gr, decide_eq_true gr]
  replace gr : Hold _ := ⟨gr⟩
  clear no hI hi h2
  refine W_go ?_
  refine W_lp (T := 10) (σ := Sto × Nat) (me := fun x => [(9, .int .i64 x.2)]) (mh := fun x => [(4104, .c true (.ints x.1.h.L)), (4105, .c true (.ints x.1.h.R)), (4106, .c true (.ints x.1.h.T)), (4107, .c true (.ints x.1.F)), (4112, .c true (.av 1 [.sl 4104 0 x.1.h.L.length, .sl 4105 0 x.1.h.R.length, .sl 4106 0 x.1.h.T.length, .sl 4107 0 x.1.F.length]))])
    (inv := fun x => x.2 ≤ l.length ∧ ((x.1.h.L.length ≤ 4194304 ∧ x.1.h.R.length ≤ 4194304 ∧ x.1.h.T.length ≤ 4194304) ∧ x.1.F.length ≤ 4194304) ∧ Hold (x.1.goS (l.drop x.2) = s.goS l ∧ x.1.goN (l.drop x.2) + x.2 = s.goN l)) (m := fun x => l.length - x.2) (s0 := (s, 0)) ⟨Nat.zero_le _, hl.1, ⟨⟨rfl, rfl⟩⟩⟩ ?_
  rintro ⟨t, j⟩ ⟨hi, hb, hI⟩
  dsimp only at hi hb hI ⊢
  refine W_go ?_
  refine W_if (fun h2 => ?_) (fun h2 => ?_)
  case' refine_2 =>
    refine W_go ?_
    refine W_rt [(4104, (100, 0)), (4105, (101, 0)), (4106, (102, 0)), (4107, (103, 0))] [] ?_
    obtain ⟨e1, e2⟩ := hI.told
    rw [List.drop_eq_nil_of_le (by omega)] at e1 e2
    have e1 : t = s.goS l := e1
    have e2 : j = s.goN l := by simpa [Sto.goN] using e2
    rw [← e1, ← e2, show j = l.length by omega]
    exact ⟨rfl, rfl⟩
  have hR := sRunOp_c t (l.getD j (0, 0, 0)).1 (l.getD j (0, 0, 0)).2.1 (l.getD j (0, 0, 0)).2.2 hb
  have hw := runS_len t (l.getD j (0, 0, 0)).1 (l.getD j (0, 0, 0)).2.1 (l.getD j (0, 0, 0)).2.2
  replace hI := hI.told
  rw [goS_step (by omega), goN_step (by omega)] at hI
  unfold opAt at hI
  replace hI : Hold _ := ⟨hI⟩
  refine W_go ?_
  refine W_dc1 [(0, (4104, 0)), (1, (4105, 0)), (2, (4106, 0)), (3, (4107, 0))] hR [.w 4 (.agg [.int .i64 (l.getD j (0, 0, 0)).1, .int .i64 (l.getD j (0, 0, 0)).2.1, .int .i64 (l.getD j (0, 0, 0)).2.2]), .c _ _ _] ?_
  generalize l.getD j (0, 0, 0) = o at *
  generalize t.runS o.1 o.2.1 o.2.2 = w at *
  generalize t.runE o.1 o.2.1 o.2.2 = e at *
  generalize decide (t.runOk o.1 o.2.1 o.2.2) = d at *
  refine W_go ?_
  refine W_if (fun g => ?_) (fun g => ?_)
  · refine W_go ?_
    refine W_rt [(4104, (100, 0)), (4105, (101, 0)), (4106, (102, 0)), (4107, (103, 0))] [] ?_
    obtain ⟨e1, e2⟩ := hI.told
    rw [if_neg g] at e1 e2
    rw [← e1, ← e2, Nat.zero_add]
    exact ⟨rfl, rfl⟩
  have g : e = 0 := Decidable.of_not_not g
  refine W_go ?_
  refine W_rk 10 [(1024, (1024, 0)), (1032, (1032, 0)), (13352, (4104, 0)), (13353, (4105, 0)), (13354, (4106, 0)), (13355, (4107, 0)), (4112, (4112, 0))] ?_
  refine W_bh (w, j + 1) ⟨by dsimp only; omega, by dsimp only; omega, ⟨?_⟩⟩ ?_ ?_
  · obtain ⟨e1, e2⟩ := hI.told
    rw [if_pos g] at e1 e2
    exact ⟨e1, by dsimp only; omega⟩
  · dsimp only; omega
  · rfl
end Go.Proofs.YtnepiffboakehaaGreatDoor.S
