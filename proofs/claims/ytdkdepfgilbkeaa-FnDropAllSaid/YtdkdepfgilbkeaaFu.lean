/- Contracts: roots of counted stores are given up. Own work of this claim. -/
import Derived.Test.YtdkdepfgilbkeaaFt
import Derived.Test.YtdkdepfgilbkeaaFj
namespace Go.Proofs.Ytdkdepfgilbkeaa.S
set_option linter.all false
open Go Go.Proofs
set_option maxHeartbeats 4000000
set_option maxRecDepth 100000

theorem dn_inv {n w : Nat} {T : List Int} : ∀ k s, DInv n T w s → DInv n T w (dn k s)
  | 0, s, h => h
  | k + 1, s, h => by
    rw [dn]; split
    · exact dn_inv k _ (h.step (by assumption))
    · exact h
def Cnt.zero : Cnt := ⟨Sto.zero, []⟩
def Cnt.down (c : Cnt) (T F C : List Int) (p : Int) : Cnt := ⟨⟨⟨(downE c.s.h.L c.s.h.R C p).L, (downE c.s.h.L c.s.h.R C p).R, T⟩, F ++ (downE c.s.h.L c.s.h.R C p).G⟩, (downE c.s.h.L c.s.h.R C p).C⟩
theorem down_len {n : Nat} {L R T C : List Int} {p : Int} (h : DInv n T 1 ⟨L, R, [], C, [p], 0⟩) : (downE L R C p).L.length = n ∧ (downE L R C p).R.length = n ∧ (downE L R C p).C.length = n ∧ (downE L R C p).G.length ≤ n := by
  have e := dn_inv 64 _ h
  exact ⟨e.lL, e.lR, e.lC, e.le.1⟩
def Cnt.rooted (c : Cnt) (r : Int) : Prop := c.valid = true ∧ 0 ≤ r ∧ r < c.s.h.T.length
instance decFu1 (c : Cnt) (r : Int) : Decidable (c.rooted r) := by unfold Cnt.rooted; infer_instance
noncomputable def Cnt.drp (c : Cnt) (r : Int) : Cnt := if c.rooted r then c.down (c.s.h.T.set r.toNat (-1)) c.s.F c.C (c.s.h.T.getD r.toNat 0) else .zero
noncomputable def Cnt.tak (c : Cnt) (r : Int) : Cnt := if c.rooted r ∧ c.s.F.length ≠ 0 then c.down (c.s.h.T.set r.toNat (c.s.F.getD 0 0)) (c.s.F.drop 1) (c.C.set (c.s.F.getD 0 0).toNat 1) (c.s.h.T.getD r.toNat 0) else .zero
theorem Cnt.drp_inv {c : Cnt} {r : Int} (h : c.rooted r) : DInv c.s.h.L.length (c.s.h.T.set r.toNat (-1)) 1 ⟨c.s.h.L, c.s.h.R, [], c.C, [c.s.h.T.getD r.toNat 0], 0⟩ := by
  have ho := (Cnt.ok_iff c).1 h.1
  rw [ho.2]
  exact DInv.drop ho.1.1 (by have := h.2; omega)
theorem Cnt.tak_inv {c : Cnt} {r : Int} (h : c.rooted r) (hF : c.s.F.length ≠ 0) : DInv c.s.h.L.length (c.s.h.T.set r.toNat (c.s.F.getD 0 0)) 1 ⟨c.s.h.L, c.s.h.R, [], c.C.set (c.s.F.getD 0 0).toNat 1, [c.s.h.T.getD r.toNat 0], 0⟩ := by
  have ho := (Cnt.ok_iff c).1 h.1
  rw [ho.2]
  exact DInv.take ho.1 (by have := h.2; omega) hF
theorem Cnt.drp_len (c : Cnt) (r : Int) : (((c.drp r).s.h.L.length ≤ 8 ∧ (c.drp r).s.h.R.length ≤ 8 ∧ (c.drp r).s.h.T.length ≤ 8) ∧ (c.drp r).s.F.length ≤ c.s.F.length + 8) ∧ (c.drp r).C.length ≤ 8 := by
  rw [Cnt.drp]
  split
  · rename_i g1
    have h0 := Cnt.drp_inv g1
    have ho := (Cnt.ok_iff c).1 g1.1
    have hT : c.s.h.T.length ≤ 8 := by have := ho.1.1.1; omega
    have hn : c.s.h.L.length ≤ 8 := by have := ho.1.1.1; omega
    obtain ⟨d1, d2, d3, d4⟩ := down_len h0
    simp only [Cnt.down, List.length_set, List.length_append]
    omega
  · simp [Cnt.zero, Sto.zero]
theorem sl9Copy_c (c : Cnt) (hl : ((c.s.h.L.length ≤ 4194304 ∧ c.s.h.R.length ≤ 4194304 ∧ c.s.h.T.length ≤ 4194304) ∧ c.s.F.length ≤ 4194304) ∧ c.C.length ≤ 4194304) : Fn Try.prog 71 [(0, .c false (.ints c.s.h.L)), (1, .c false (.ints c.s.h.R)), (2, .c false (.ints c.s.h.T)), (3, .c false (.ints c.s.F)), (4, .c false (.ints c.C))] [.agg [.sl 0 0 c.s.h.L.length, .sl 1 0 c.s.h.R.length, .sl 2 0 c.s.h.T.length, .sl 3 0 c.s.F.length, .sl 4 0 c.C.length]] (fun r H => r = .agg [.sl 100 0 c.s.h.L.length, .sl 101 0 c.s.h.R.length, .sl 102 0 c.s.h.T.length, .sl 103 0 c.s.F.length, .sl 104 0 c.C.length] ∧ H = [(100, .c true (.ints c.s.h.L)), (101, .c true (.ints c.s.h.R)), (102, .c true (.ints c.s.h.T)), (103, .c true (.ints c.s.F)), (104, .c true (.ints c.C))]) := by
  refine Fn_go Try.func71 ?_
  refine W_go ?_
  refine W_dc1 [(0, (0, 0)), (1, (1, 0)), (2, (2, 0)), (3, (3, 0))] (sl4Copy_c c.s hl.1) [.c _ _ _] ?_
  exact W_rt [(2064, (100, 0)), (2065, (101, 0)), (2066, (102, 0)), (2067, (103, 0)), (2096, (104, 0))] [] ⟨rfl, rfl⟩
theorem icounted_c (c : Cnt) (hl : ((c.s.h.L.length ≤ 4194304 ∧ c.s.h.R.length ≤ 4194304 ∧ c.s.h.T.length ≤ 4194304) ∧ c.s.F.length ≤ 4194304) ∧ c.C.length ≤ 4194304) : Fn Try.prog 68 [(0, .c false (.ints c.s.h.L)), (1, .c false (.ints c.s.h.R)), (2, .c false (.ints c.s.h.T)), (3, .c false (.ints c.s.F)), (4, .c false (.ints c.C))] [.agg [.sl 0 0 c.s.h.L.length, .sl 1 0 c.s.h.R.length, .sl 2 0 c.s.h.T.length, .sl 3 0 c.s.F.length, .sl 4 0 c.C.length]] (fun r H => r = .agg [.sl 100 0 c.s.h.L.length, .sl 101 0 c.s.h.R.length, .sl 102 0 c.s.h.T.length, .sl 103 0 c.s.F.length, .sl 104 0 c.C.length] ∧ H = [(100, .c true (.ints c.s.h.L)), (101, .c true (.ints c.s.h.R)), (102, .c true (.ints c.s.h.T)), (103, .c true (.ints c.s.F)), (104, .c true (.ints c.C))]) := by
  refine Fn_go Try.func68 ?_
  refine W_go ?_
  refine W_dc2 [(0, (0, 0)), (1, (1, 0)), (2, (2, 0)), (3, (3, 0))] (iagain_c c.s hl.1) [(0, (4, 0))] (zClone_c c.C (by omega)) [.c _ _ _, .c _ _ _] ?_
  exact W_rt [(2064, (100, 0)), (2065, (101, 0)), (2066, (102, 0)), (2067, (103, 0)), (2088, (104, 0))] [] ⟨rfl, rfl⟩
theorem sl9Root_c (c : Cnt) (r : Int) (hl : ((c.s.h.L.length ≤ 4194304 ∧ c.s.h.R.length ≤ 4194304 ∧ c.s.h.T.length ≤ 4194304) ∧ c.s.F.length ≤ 4194304) ∧ c.C.length ≤ 4194304) : Fn Try.prog 70 [(0, .c false (.ints c.s.h.L)), (1, .c false (.ints c.s.h.R)), (2, .c false (.ints c.s.h.T)), (3, .c false (.ints c.s.F)), (4, .c false (.ints c.C))] [.agg [.sl 0 0 c.s.h.L.length, .sl 1 0 c.s.h.R.length, .sl 2 0 c.s.h.T.length, .sl 3 0 c.s.F.length, .sl 4 0 c.C.length], .int .i64 r] (fun x H => x = .bool (decide (c.rooted r)) ∧ H = []) := by
  have hv := sCountedValid_c c hl
  refine Fn_go Try.func70 ?_
  by_cases g1 : c.valid = true
  case neg =>
    have g2 : c.valid = false := by simpa using g1
    rw [g2] at hv
    refine W_go ?_
    refine W_c1 [(0, (0, 0)), (1, (1, 0)), (2, (2, 0)), (3, (3, 0)), (4, (4, 0))] hv ?_
    refine W_rt [] [] ?_
    exact ⟨by rw [decide_eq_false]; exact fun q => g1 q.1, rfl⟩
  rw [g1] at hv
  by_cases g2 : 0 ≤ r
  case neg =>
    refine W_go ?_
    refine W_ch1 [(0, (0, 0)), (1, (1, 0)), (2, (2, 0)), (3, (3, 0)), (4, (4, 0))] hv ?_
    refine W_rt [] [] ?_
    exact ⟨by rw [decide_eq_false]; exact fun q => g2 q.2.1, rfl⟩
  refine W_go ?_
  refine W_ch1 [(0, (0, 0)), (1, (1, 0)), (2, (2, 0)), (3, (3, 0)), (4, (4, 0))] hv ?_
  refine W_rt [] [] ?_
  exact ⟨by rw [decide_eq_decide.2]; unfold Cnt.rooted; simp [g1, g2], rfl⟩
theorem irooted_c (c : Cnt) (r : Int) (hl : ((c.s.h.L.length ≤ 4194304 ∧ c.s.h.R.length ≤ 4194304 ∧ c.s.h.T.length ≤ 4194304) ∧ c.s.F.length ≤ 4194304) ∧ c.C.length ≤ 4194304) : Fn Try.prog 67 [(0, .c false (.ints c.s.h.L)), (1, .c false (.ints c.s.h.R)), (2, .c false (.ints c.s.h.T)), (3, .c false (.ints c.s.F)), (4, .c false (.ints c.C))] [.agg [.sl 0 0 c.s.h.L.length, .sl 1 0 c.s.h.R.length, .sl 2 0 c.s.h.T.length, .sl 3 0 c.s.F.length, .sl 4 0 c.C.length], .int .i64 r] (fun x H => x = .bool (decide (c.rooted r)) ∧ H = []) := by
  have hv := iCountedValid_c c hl
  refine Fn_go Try.func67 ?_
  by_cases g1 : c.valid = true
  case neg =>
    have g2 : c.valid = false := by simpa using g1
    rw [g2] at hv
    refine W_go ?_
    refine W_c1 [(0, (0, 0)), (1, (1, 0)), (2, (2, 0)), (3, (3, 0)), (4, (4, 0))] hv ?_
    refine W_rt [] [] ?_
    exact ⟨by rw [decide_eq_false]; exact fun q => g1 q.1, rfl⟩
  rw [g1] at hv
  by_cases g2 : 0 ≤ r
  case neg =>
    refine W_go ?_
    refine W_ch1 [(0, (0, 0)), (1, (1, 0)), (2, (2, 0)), (3, (3, 0)), (4, (4, 0))] hv ?_
    refine W_rt [] [] ?_
    exact ⟨by rw [decide_eq_false]; exact fun q => g2 q.2.1, rfl⟩
  refine W_go ?_
  refine W_ch1 [(0, (0, 0)), (1, (1, 0)), (2, (2, 0)), (3, (3, 0)), (4, (4, 0))] hv ?_
  refine W_rt [] [] ?_
  exact ⟨by rw [decide_eq_decide.2]; unfold Cnt.rooted; simp [g1, g2], rfl⟩
theorem sDropRoot_c (c : Cnt) (r : Int) (hl : ((c.s.h.L.length ≤ 4194304 ∧ c.s.h.R.length ≤ 4194304 ∧ c.s.h.T.length ≤ 4194304) ∧ c.s.F.length ≤ 4194304) ∧ c.C.length ≤ 4194304) (hF : c.s.F.length ≤ 1048576) : Fn Try.prog 23 [(0, .c false (.ints c.s.h.L)), (1, .c false (.ints c.s.h.R)), (2, .c false (.ints c.s.h.T)), (3, .c false (.ints c.s.F)), (4, .c false (.ints c.C))] [.agg [.sl 0 0 c.s.h.L.length, .sl 1 0 c.s.h.R.length, .sl 2 0 c.s.h.T.length, .sl 3 0 c.s.F.length, .sl 4 0 c.C.length], .int .i64 r] (fun x H => x = .tup [.agg [.sl 100 0 (c.drp r).s.h.L.length, .sl 101 0 (c.drp r).s.h.R.length, .sl 102 0 (c.drp r).s.h.T.length, .sl 103 0 (c.drp r).s.F.length, .sl 104 0 (c.drp r).C.length], .bool (decide (c.rooted r))] ∧ H = [(100, .c true (.ints (c.drp r).s.h.L)), (101, .c true (.ints (c.drp r).s.h.R)), (102, .c true (.ints (c.drp r).s.h.T)), (103, .c true (.ints (c.drp r).s.F)), (104, .c true (.ints (c.drp r).C))]) := by
  have hv := sl9Root_c c r hl
  refine Fn_go Try.func23 ?_
  refine W_go ?_
  by_cases g1 : c.rooted r
  case neg =>
    rw [decide_eq_false g1] at hv
    refine W_c1 [(0, (0, 0)), (1, (1, 0)), (2, (2, 0)), (3, (3, 0)), (4, (4, 0))] hv ?_
    refine W_ift ?_
    refine W_go ?_
    refine W_rt [] [(100, .ints []), (101, .ints []), (102, .ints []), (103, .ints []), (104, .ints [])] ?_
    rw [Cnt.drp, if_neg g1, decide_eq_false g1]
    exact ⟨rfl, rfl⟩
  rw [decide_eq_true g1] at hv
  have hc := sl9Copy_c c hl
  have h0 := Cnt.drp_inv g1
  have ho := (Cnt.ok_iff c).1 g1.1
  have hT : c.s.h.T.length ≤ 8 := by have := ho.1.1.1; omega
  have hn : c.s.h.L.length ≤ 8 := by have := ho.1.1.1; omega
  have hD := sl9Down_c c.s.h.L.length c.s.h.L c.s.h.R (c.s.h.T.set r.toNat (-1)) c.s.F c.C (c.s.h.T.getD r.toNat 0) hn (by simp; omega) hF h0
  have hr := g1.2
  rw [Cnt.drp, if_pos g1, decide_eq_true g1, Cnt.down]
  obtain ⟨d1, d2, d3, d4⟩ := down_len h0
  have lR := h0.lR
  have lC := h0.lC
  dsimp only at lR lC
  clear h0 ho g1
  have hTs : List.take c.s.h.T.length (c.s.h.T.set r.toNat (-1)) = c.s.h.T.set r.toNat (-1) := List.take_of_length_le (by simp)
  rw [← hTs] at hD
  refine W_c1 [(0, (0, 0)), (1, (1, 0)), (2, (2, 0)), (3, (3, 0)), (4, (4, 0))] hv ?_
  refine W_iff ?_
  refine W_go ?_
  refine W_c1 [(0, (0, 0)), (1, (1, 0)), (2, (2, 0)), (3, (3, 0)), (4, (4, 0))] hc ?_
  refine W_go ?_
  refine W_go ?_
  refine W_go ?_
  refine W_c1 [(0, (4104, 0)), (1, (4105, 0)), (2, (4106, 0)), (3, (4107, 0)), (4, (4108, 0)), (5, (7184, 0))] hD ?_
  refine W_rt [(4104, (100, 0)), (4105, (101, 0)), (4106, (102, 0)), (7192, (103, 0)), (4108, (104, 0))] [] ?_
  constructor <;> simp only [d1, d2, d3, hTs, lR, lC, List.length_set, List.length_append]
theorem iDropRoot_c (c : Cnt) (r : Int) (hl : ((c.s.h.L.length ≤ 4194304 ∧ c.s.h.R.length ≤ 4194304 ∧ c.s.h.T.length ≤ 4194304) ∧ c.s.F.length ≤ 4194304) ∧ c.C.length ≤ 4194304) (hF : c.s.F.length ≤ 1048576) : Fn Try.prog 22 [(0, .c false (.ints c.s.h.L)), (1, .c false (.ints c.s.h.R)), (2, .c false (.ints c.s.h.T)), (3, .c false (.ints c.s.F)), (4, .c false (.ints c.C))] [.agg [.sl 0 0 c.s.h.L.length, .sl 1 0 c.s.h.R.length, .sl 2 0 c.s.h.T.length, .sl 3 0 c.s.F.length, .sl 4 0 c.C.length], .int .i64 r] (fun x H => x = .tup [.agg [.sl 100 0 (c.drp r).s.h.L.length, .sl 101 0 (c.drp r).s.h.R.length, .sl 102 0 (c.drp r).s.h.T.length, .sl 103 0 (c.drp r).s.F.length, .sl 104 0 (c.drp r).C.length], .bool (decide (c.rooted r))] ∧ H = [(100, .c true (.ints (c.drp r).s.h.L)), (101, .c true (.ints (c.drp r).s.h.R)), (102, .c true (.ints (c.drp r).s.h.T)), (103, .c true (.ints (c.drp r).s.F)), (104, .c true (.ints (c.drp r).C))]) := by
  have hv := irooted_c c r hl
  refine Fn_go Try.func22 ?_
  refine W_go ?_
  by_cases g1 : c.rooted r
  case neg =>
    rw [decide_eq_false g1] at hv
    refine W_c1 [(0, (0, 0)), (1, (1, 0)), (2, (2, 0)), (3, (3, 0)), (4, (4, 0))] hv ?_
    refine W_ift ?_
    refine W_go ?_
    refine W_rt [] [(100, .ints []), (101, .ints []), (102, .ints []), (103, .ints []), (104, .ints [])] ?_
    rw [Cnt.drp, if_neg g1, decide_eq_false g1]
    exact ⟨rfl, rfl⟩
  rw [decide_eq_true g1] at hv
  have hc := icounted_c c hl
  have h0 := Cnt.drp_inv g1
  have ho := (Cnt.ok_iff c).1 g1.1
  have hT : c.s.h.T.length ≤ 8 := by have := ho.1.1.1; omega
  have hn : c.s.h.L.length ≤ 8 := by have := ho.1.1.1; omega
  have hD := igiveUp_c c.s.h.L.length c.s.h.L c.s.h.R (c.s.h.T.set r.toNat (-1)) c.s.F c.C (c.s.h.T.getD r.toNat 0) hn (by simp; omega) hF h0
  have hr := g1.2
  rw [Cnt.drp, if_pos g1, decide_eq_true g1, Cnt.down]
  obtain ⟨d1, d2, d3, d4⟩ := down_len h0
  have lR := h0.lR
  have lC := h0.lC
  dsimp only at lR lC
  clear h0 ho g1
  have hTs : List.take c.s.h.T.length (c.s.h.T.set r.toNat (-1)) = c.s.h.T.set r.toNat (-1) := List.take_of_length_le (by simp)
  rw [← hTs] at hD
  refine W_c1 [(0, (0, 0)), (1, (1, 0)), (2, (2, 0)), (3, (3, 0)), (4, (4, 0))] hv ?_
  refine W_iff ?_
  refine W_go ?_
  refine W_c1 [(0, (0, 0)), (1, (1, 0)), (2, (2, 0)), (3, (3, 0)), (4, (4, 0))] hc ?_
  refine W_go ?_
  refine W_go ?_
  refine W_go ?_
  refine W_c1 [(0, (1024, 0)), (1, (4104, 0)), (2, (4105, 0)), (3, (4106, 0)), (4, (4107, 0)), (5, (4108, 0))] hD ?_
  refine W_go ?_
  refine W_rt [(4104, (100, 0)), (4105, (101, 0)), (4106, (102, 0)), (7176, (103, 0)), (4108, (104, 0))] [] ?_
  constructor <;> simp only [d1, d2, d3, hTs, lR, lC, List.length_set, List.length_append]
end Go.Proofs.Ytdkdepfgilbkeaa.S
