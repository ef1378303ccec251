/- Contracts: the given program's reference, garbage. Own work of this claim. -/
import Derived.Test.YthldlaiplfennaaDoorFd
namespace Go.Proofs.YthldlaiplfennaaDoor.S
set_option linter.all false
open Go Go.Proofs
set_option maxHeartbeats 4000000
set_option maxRecDepth 100000
set_option linter.unusedVariables false

theorem reach_nil {h : Hp} (g : h.valid = false) : h.reach = [] := by rw [Hp.reach, if_neg (by rw [g]; exact Bool.false_ne_true)]
theorem sReachable_c (h : Hp) (hl : h.L.length ≤ 4194304 ∧ h.R.length ≤ 4194304 ∧ h.T.length ≤ 4194304) : Fn Tryd.prog 105 [(0, .c false (.ints h.L)), (1, .c false (.ints h.R)), (2, .c false (.ints h.T))] [.agg [.sl 0 0 h.L.length, .sl 1 0 h.R.length, .sl 2 0 h.T.length]] (fun r H => r = .sl 100 0 h.reach.length ∧ H = [(100, .c true (.bools h.reach))]) := by
  have hv := sHeapValid_c h hl
  refine Fn_go Tryd.func105 ?_
  refine W_go ?_
  by_cases g1 : h.valid = true
  case neg =>
    have g1 : h.valid = false := by simpa using g1
    rw [g1] at hv
    refine W_c1 [(0, (0, 0)), (1, (1, 0)), (2, (2, 0))] hv ?_
    refine W_ift ?_
    refine W_go ?_
    refine W_rt [(2048, (100, 0))] [] ?_
    rw [reach_nil g1]
    exact ⟨rfl, rfl⟩
  rw [g1] at hv
  refine W_c1 [(0, (0, 0)), (1, (1, 0)), (2, (2, 0))] hv ?_
  refine W_iff ?_
  refine W_go ?_
  have ho := (Hp.ok_iff _).1 g1
  have hd := sl2Distances_c h ho
  have l1 : h.L.length ≤ 8 := ho.1.2.1
  replace ho : Hold _ := ⟨ho⟩
  refine W_ce [(0, (0, 0)), (1, (1, 0)), (2, (2, 0))] hd ?_
  rintro D ⟨hD, hR⟩
  replace hR : Hold _ := ⟨hR⟩
  refine W_go ?_
  refine W_lp (T := 6) (σ := Nat) (me := fun i => [(3, .sl 2048 0 i), (5, .int .i64 i)]) (mh := fun i => [(2048, .c true (.bools (posN D i)))]) (inv := fun i => i ≤ h.L.length) (m := fun i => h.L.length - i) (s0 := 0) (by omega) ?_
  rintro i hi
  have hpl := posN_len D i
  refine W_go ?_
  refine W_if (fun h1 => ?_) (fun h1 => ?_)
  · refine W_go ?_
    refine W_rk 6 [(1024, (1024, 0)), (9272, (2048, 0)), (5144, (5144, 0))] ?_
    exact W_bh (i + 1) (by omega) (by omega) (by rw [posN_succ, List.take_of_length_le (by omega)])
  · refine W_go ?_
    refine W_rt [(2048, (100, 0))] [] ?_
    have e : i = h.L.length := by omega
    subst e
    rw [← reach_of g1 hR.told, hpl]
    exact ⟨rfl, rfl⟩
theorem reach_le (h : Hp) : h.reach.length ≤ 8 := by
  rw [reach_len]; split
  · rename_i g; exact ((Hp.ok_iff _).1 g).1.2.1
  · omega
theorem garb_le (h : Hp) : h.garb.length ≤ 8 := Nat.le_trans (flsN_len _ _) (reach_le h)
theorem lost_le (s : Sto) : s.lost.length ≤ 8 := by
  unfold Sto.lost; split
  · exact Nat.le_trans (lkN_len _ _ _) (garb_le _)
  · simp
theorem sGarbageOf_c (h : Hp) (hl : h.L.length ≤ 4194304 ∧ h.R.length ≤ 4194304 ∧ h.T.length ≤ 4194304) : Fn Tryd.prog 89 [(0, .c false (.ints h.L)), (1, .c false (.ints h.R)), (2, .c false (.ints h.T))] [.agg [.sl 0 0 h.L.length, .sl 1 0 h.R.length, .sl 2 0 h.T.length]] (fun r H => r = .sl 100 0 h.garb.length ∧ H = [(100, .c true (.ints h.garb))]) := by
  have hr := sReachable_c h hl
  have hb := reach_le h
  refine Fn_go Tryd.func89 ?_
  refine W_go ?_
  refine W_c1 [(0, (0, 0)), (1, (1, 0)), (2, (2, 0))] hr ?_
  refine W_go ?_
  refine W_lp (T := 6) (σ := Nat) (me := fun i => [(3, .sl 2048 0 (flsN h.reach i).length), (5, .int .i64 i)]) (mh := fun i => [(2048, .c true (.ints (flsN h.reach i)))]) (inv := fun i => i ≤ h.reach.length) (m := fun i => h.reach.length - i) (s0 := 0) (by omega) ?_
  rintro i hi
  have hfl := flsN_len h.reach i
  refine W_go ?_
  refine W_if (fun h1 => ?_) (fun h1 => ?_)
  · refine W_go ?_
    refine W_ifb (fun h2 => ?_) (fun h2 => ?_)
    · have h3 : ¬ h.reach.getD i false = true := by simpa using h2
      have e : flsN h.reach (i + 1) = flsN h.reach i ++ [(i : Int)] := by rw [flsN, if_neg h3]
      have e2 : (flsN h.reach (i + 1)).length = (flsN h.reach i).length + 1 := by rw [e]; simp
      clear h2 h3
      replace e : Hold _ := ⟨e⟩
      refine W_go ?_
      refine W_rk 6 [(1024, (1024, 0)), (8216, (2048, 0)), (3080, (3080, 0))] ?_
      exact W_bh (i + 1) (by omega) (by omega) (by rw [e.told])
    · have h3 : h.reach.getD i false = true := by simpa using h2
      have e : flsN h.reach (i + 1) = flsN h.reach i := by rw [flsN, if_pos h3]
      have e2 : (flsN h.reach (i + 1)).length = (flsN h.reach i).length := by rw [e]
      clear h2 h3
      replace e : Hold _ := ⟨e⟩
      refine W_go ?_
      exact W_bh (i + 1) (by omega) (by omega) (by rw [e.told])
  · refine W_go ?_
    refine W_rt [(2048, (100, 0))] [] ?_
    have e : i = h.reach.length := by omega
    subst e
    exact ⟨rfl, rfl⟩
theorem lost_nil {s : Sto} (g : s.valid = false) : s.lost = [] := by rw [Sto.lost, if_neg (by rw [g]; exact Bool.false_ne_true)]
theorem sLeakedOf_c (s : Sto) (hl : (s.h.L.length ≤ 4194304 ∧ s.h.R.length ≤ 4194304 ∧ s.h.T.length ≤ 4194304) ∧ s.F.length ≤ 4194304) : Fn Tryd.prog 71 [(0, .c false (.ints s.h.L)), (1, .c false (.ints s.h.R)), (2, .c false (.ints s.h.T)), (3, .c false (.ints s.F))] [.agg [.sl 0 0 s.h.L.length, .sl 1 0 s.h.R.length, .sl 2 0 s.h.T.length, .sl 3 0 s.F.length]] (fun r H => r = .sl 100 0 s.lost.length ∧ H = [(100, .c true (.ints s.lost))]) := by
  have hv := sStoreValid_c s hl
  have hg := sGarbageOf_c s.h hl.1
  have hb := garb_le s.h
  refine Fn_go Tryd.func71 ?_
  refine W_go ?_
  by_cases g1 : s.valid = true
  case neg =>
    have g1 : s.valid = false := by simpa using g1
    rw [g1] at hv
    refine W_c1 [(0, (0, 0)), (1, (1, 0)), (2, (2, 0)), (3, (3, 0))] hv ?_
    refine W_ift ?_
    refine W_go ?_
    refine W_rt [(2048, (100, 0))] [] ?_
    rw [lost_nil g1]
    exact ⟨rfl, rfl⟩
  rw [g1] at hv
  refine W_c1 [(0, (0, 0)), (1, (1, 0)), (2, (2, 0)), (3, (3, 0))] hv ?_
  refine W_iff ?_
  refine W_go ?_
  refine W_c1 [(0, (0, 0)), (1, (1, 0)), (2, (2, 0))] hg ?_
  refine W_go ?_
  refine W_lp (T := 6) (σ := Nat) (me := fun i => [(3, .sl 2048 0 (lkN s.h.garb s.F i).length), (5, .int .i64 i)]) (mh := fun i => [(2048, .c true (.ints (lkN s.h.garb s.F i)))]) (inv := fun i => i ≤ s.h.garb.length) (m := fun i => s.h.garb.length - i) (s0 := 0) (by omega) ?_
  rintro i hi
  have hfl := lkN_len s.h.garb s.F i
  refine W_go ?_
  refine W_if (fun h1 => ?_) (fun h1 => ?_)
  · refine W_go ?_
    refine W_dc1 [(0, (3, 0))] (l4At_c s.F (s.h.garb.getD i 0) (by omega)) [.c _ _ _] ?_
    refine W_if (fun h2 => ?_) (fun h2 => ?_)
    · have h3 := (idx_neg _ _).1 h2
      have e : lkN s.h.garb s.F (i + 1) = lkN s.h.garb s.F i ++ [s.h.garb.getD i 0] := by rw [lkN, if_neg h3]
      have e2 : (lkN s.h.garb s.F (i + 1)).length = (lkN s.h.garb s.F i).length + 1 := by rw [e]; simp
      clear h2 h3
      replace e : Hold _ := ⟨e⟩
      refine W_go ?_
      refine W_rk 6 [(1024, (1024, 0)), (10288, (2048, 0)), (5136, (5136, 0))] ?_
      exact W_bh (i + 1) (by omega) (by omega) (by rw [e.told])
    · have h3 : s.h.garb.getD i 0 ∈ s.F := (idx_nonneg _ _).1 (by omega)
      have e : lkN s.h.garb s.F (i + 1) = lkN s.h.garb s.F i := by rw [lkN, if_pos h3]
      have e2 : (lkN s.h.garb s.F (i + 1)).length = (lkN s.h.garb s.F i).length := by rw [e]
      clear h2 h3
      replace e : Hold _ := ⟨e⟩
      refine W_go ?_
      exact W_bh (i + 1) (by omega) (by omega) (by rw [e.told])
  · refine W_go ?_
    refine W_rt [(2048, (100, 0))] [] ?_
    have e : i = s.h.garb.length := by omega
    subst e
    rw [Sto.lost, if_pos g1]
    exact ⟨rfl, rfl⟩
end Go.Proofs.YthldlaiplfennaaDoor.S
