/- Contracts: cells of counted stores are taken. Own work of this claim. -/
import Derived.Test.YtdkdepfgilbkeaaFu
namespace Go.Proofs.Ytdkdepfgilbkeaa.S
set_option linter.all false
open Go Go.Proofs
set_option maxHeartbeats 4000000
set_option maxRecDepth 100000

theorem Cnt.tak_len (c : Cnt) (r : Int) : (((c.tak r).s.h.L.length ≤ 8 ∧ (c.tak r).s.h.R.length ≤ 8 ∧ (c.tak r).s.h.T.length ≤ 8) ∧ (c.tak r).s.F.length ≤ c.s.F.length + 8) ∧ (c.tak r).C.length ≤ 8 := by
  rw [Cnt.tak]
  split
  · rename_i g
    obtain ⟨g1, g2⟩ := g
    have h0 := Cnt.tak_inv g1 g2
    have ho := (Cnt.ok_iff c).1 g1.1
    have hT : c.s.h.T.length ≤ 8 := by have := ho.1.1.1; omega
    have hn : c.s.h.L.length ≤ 8 := by have := ho.1.1.1; omega
    obtain ⟨d1, d2, d3, d4⟩ := down_len h0
    simp only [Cnt.down, List.length_set, List.length_append, List.length_drop]
    omega
  · simp [Cnt.zero, Sto.zero]
theorem Cnt.cell {c : Cnt} {r : Int} (h : c.rooted r) (hF : c.s.F.length ≠ 0) : 0 ≤ c.s.F.getD 0 0 ∧ c.s.F.getD 0 0 < c.s.h.L.length := by
  have ho := (Cnt.ok_iff c).1 h.1
  have f := (ho.1.2 0 (by omega)).1
  exact f.1
theorem sTakeCounted_c (c : Cnt) (r : Int) (hl : ((c.s.h.L.length ≤ 4194304 ∧ c.s.h.R.length ≤ 4194304 ∧ c.s.h.T.length ≤ 4194304) ∧ c.s.F.length ≤ 4194304) ∧ c.C.length ≤ 4194304) (hF : c.s.F.length ≤ 1048576) : Fn Try.prog 139 [(0, .c false (.ints c.s.h.L)), (1, .c false (.ints c.s.h.R)), (2, .c false (.ints c.s.h.T)), (3, .c false (.ints c.s.F)), (4, .c false (.ints c.C))] [.agg [.sl 0 0 c.s.h.L.length, .sl 1 0 c.s.h.R.length, .sl 2 0 c.s.h.T.length, .sl 3 0 c.s.F.length, .sl 4 0 c.C.length], .int .i64 r] (fun x H => x = .tup [.agg [.sl 100 0 (c.tak r).s.h.L.length, .sl 101 0 (c.tak r).s.h.R.length, .sl 102 0 (c.tak r).s.h.T.length, .sl 103 0 (c.tak r).s.F.length, .sl 104 0 (c.tak r).C.length], .bool (decide (c.rooted r ∧ c.s.F.length ≠ 0))] ∧ H = [(100, .c true (.ints (c.tak r).s.h.L)), (101, .c true (.ints (c.tak r).s.h.R)), (102, .c true (.ints (c.tak r).s.h.T)), (103, .c true (.ints (c.tak r).s.F)), (104, .c true (.ints (c.tak r).C))]) := by
  have hv := sl9Root_c c r hl
  refine Fn_go Try.func139 ?_
  refine W_go ?_
  by_cases g1 : c.rooted r
  case neg =>
    rw [decide_eq_false g1] at hv
    refine W_c1 [(0, (0, 0)), (1, (1, 0)), (2, (2, 0)), (3, (3, 0)), (4, (4, 0))] hv ?_
    refine W_ift ?_
    refine W_go ?_
    refine W_rt [] [(100, .ints []), (101, .ints []), (102, .ints []), (103, .ints []), (104, .ints [])] ?_
    rw [Cnt.tak, if_neg (fun q => g1 q.1), decide_eq_false (fun q => g1 q.1)]
    exact ⟨rfl, rfl⟩
  rw [decide_eq_true g1] at hv
  refine W_c1 [(0, (0, 0)), (1, (1, 0)), (2, (2, 0)), (3, (3, 0)), (4, (4, 0))] hv ?_
  refine W_if (fun g2 => ?_) (fun g2 => ?_)
  · have g3 : ¬ (c.rooted r ∧ c.s.F.length ≠ 0) := fun q => q.2 (by omega)
    clear g2
    refine W_go ?_
    refine W_rt [] [(100, .ints []), (101, .ints []), (102, .ints []), (103, .ints []), (104, .ints [])] ?_
    rw [Cnt.tak, if_neg g3, decide_eq_false g3]
    exact ⟨rfl, rfl⟩
  have g3 : c.s.F.length ≠ 0 := by omega
  clear g2
  have hc := sl9Copy_c c hl
  have h0 := Cnt.tak_inv g1 g3
  have ho := (Cnt.ok_iff c).1 g1.1
  have hT : c.s.h.T.length ≤ 8 := by have := ho.1.1.1; omega
  have hn : c.s.h.L.length ≤ 8 := by have := ho.1.1.1; omega
  have hD := sl9Down_c c.s.h.L.length c.s.h.L c.s.h.R (c.s.h.T.set r.toNat (c.s.F.getD 0 0)) (c.s.F.drop 1) (c.C.set (c.s.F.getD 0 0).toNat 1) (c.s.h.T.getD r.toNat 0) hn (by simp; omega) (by simp; omega) h0
  have hr := g1.2
  rw [Cnt.tak, if_pos ⟨g1, g3⟩, decide_eq_true (show c.rooted r ∧ c.s.F.length ≠ 0 from ⟨g1, g3⟩), Cnt.down]
  obtain ⟨d1, d2, d3, d4⟩ := down_len h0
  have lR := h0.lR
  have lC := h0.lC
  have hcell := Cnt.cell g1 g3
  simp only [List.length_set] at lR lC
  have hcl : c.s.F.getD 0 0 < c.C.length := by omega
  clear h0 ho g1
  have hTs : List.take c.s.h.T.length (c.s.h.T.set r.toNat (c.s.F.getD 0 0)) = c.s.h.T.set r.toNat (c.s.F.getD 0 0) := List.take_of_length_le (by simp)
  have hCs : List.take c.C.length (c.C.set (c.s.F.getD 0 0).toNat 1) = c.C.set (c.s.F.getD 0 0).toNat 1 := List.take_of_length_le (by simp)
  have hFs : List.take (c.s.F.length - 1) (List.drop 1 c.s.F) = List.drop 1 c.s.F := List.take_of_length_le (by simp)
  rw [← hTs, ← hCs, ← hFs] at hD
  refine W_go ?_
  refine W_c1 [(0, (0, 0)), (1, (1, 0)), (2, (2, 0)), (3, (3, 0)), (4, (4, 0))] hc ?_
  refine W_go ?_
  refine W_go ?_
  refine W_go ?_
  refine W_go ?_
  refine W_go ?_
  refine W_go ?_
  rw [show Int.toNat 1 = 1 from rfl, hFs]
  refine W_c1 [(0, (4104, 0)), (1, (4105, 0)), (2, (4106, 0)), (3, (7208, 0)), (4, (4108, 0)), (5, (10256, 0))] hD ?_
  refine W_rt [(4104, (100, 0)), (4105, (101, 0)), (4106, (102, 0)), (10264, (103, 0)), (4108, (104, 0))] [] ?_
  simp only [hTs, hCs, hFs]
  constructor <;> simp only [d1, d2, d3, lR, lC, List.length_set, List.length_append, List.length_drop]
end Go.Proofs.Ytdkdepfgilbkeaa.S
