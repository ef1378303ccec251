/- Contracts: the law FnRunOps. Own work of this claim. -/
import Derived.Test.YtbcnkfkmonpdeaaGo
import Derived.Test.YtbcnkfkmonpdeaaGf
import Derived.Test.YtbcnkfkmonpdeaaFr
import Derived.Test.YtbcnkfkmonpdeaaLj
namespace Go.Proofs.Ytbcnkfkmonpdeaa.S
set_option linter.all false
open Go Go.Proofs
set_option maxHeartbeats 4000000
set_option maxRecDepth 100000

theorem goS_len (l : List (Int × Int × Int)) : ∀ s : Sto, ((s.goS l).h.L.length ≤ s.h.L.length ∧ (s.goS l).h.R.length ≤ s.h.R.length ∧ (s.goS l).h.T.length ≤ s.h.T.length) ∧ (s.goS l).F.length ≤ s.F.length := by
  induction l with
  | nil => intro s; exact ⟨⟨Nat.le_refl _, Nat.le_refl _, Nat.le_refl _⟩, Nat.le_refl _⟩
  | cons o l ih =>
    intro s
    unfold Sto.goS
    split
    · have := ih (s.runS o.1 o.2.1 o.2.2)
      have := runS_len s o.1 o.2.1 o.2.2
      omega
    · exact ⟨⟨Nat.le_refl _, Nat.le_refl _, Nat.le_refl _⟩, Nat.le_refl _⟩
theorem opsS_len (s : Sto) (l : List (Int × Int × Int)) : ((s.opsS l).h.L.length ≤ s.h.L.length ∧ (s.opsS l).h.R.length ≤ s.h.R.length ∧ (s.opsS l).h.T.length ≤ s.h.T.length) ∧ (s.opsS l).F.length ≤ s.F.length := by
  unfold Sto.opsS
  split
  · exact goS_len l s
  · simp [Sto.zero]
theorem opAt_mem {l : List (Int × Int × Int)} {n : Nat} (h : opsV l n) {o : Int × Int × Int} (q : o ∈ l) : opOk o.1 o.2.1 o.2.2 n := by
  obtain ⟨j, hj, rfl⟩ := List.getElem_of_mem q
  have := h.2 j hj
  rw [opAt, List.getD_eq_getElem?_getD, List.getElem?_eq_getElem hj] at this
  exact this
def goAt (s : Sto) (l : List (Int × Int × Int)) (w : Sto) (n : Nat) (t : Sto) (i : Nat) : Prop := t.ok ∧ t.h.T.length = s.h.T.length ∧ t.goS (l.drop i) = w ∧ t.goN (l.drop i) + i = n
theorem go_run {s t w : Sto} {l : List (Int × Int × Int)} {i n : Nat} (hv : opsV l s.h.T.length) (h : goAt s l w n t i) (hi : i < l.length) :
    t.runOk (opAt l i).1 (opAt l i).2.1 (opAt l i).2.2 ∧ (i < n → t.runE (opAt l i).1 (opAt l i).2.1 (opAt l i).2.2 = 0 ∧ goAt s l w n (t.runS (opAt l i).1 (opAt l i).2.1 (opAt l i).2.2) (i + 1)) ∧ (i = n → t.runE (opAt l i).1 (opAt l i).2.1 (opAt l i).2.2 ≠ 0) := by
  obtain ⟨h1, h2, h3, h4⟩ := h
  have hr : t.runOk (opAt l i).1 (opAt l i).2.1 (opAt l i).2.2 := ⟨h1, h2 ▸ hv.2 i hi⟩
  rw [goS_step hi] at h3
  rw [goN_step hi] at h4
  refine ⟨hr, fun q => ?_, fun q e => ?_⟩
  · by_cases g : t.runE (opAt l i).1 (opAt l i).2.1 (opAt l i).2.2 = 0
    · rw [if_pos g] at h3 h4
      exact ⟨g, runS_ok hr, by rw [(runS_L hr).2, h2], h3, by omega⟩
    · rw [if_neg g] at h4; omega
  · rw [if_pos e] at h4; omega
theorem go_end {s t w : Sto} {l : List (Int × Int × Int)} {n : Nat} (hv : opsV l s.h.T.length) (h : goAt s l w n t n) : t = w := by
  by_cases hi : n < l.length
  · have e := (go_run hv h hi).2.2 rfl
    have h3 := h.2.2.1
    rw [goS_step hi, if_neg e] at h3
    exact h3
  · have h3 := h.2.2.1
    rw [List.drop_eq_nil_of_le (by omega)] at h3
    exact h3
theorem lRunOps_c (B : List UInt8) (hB : B.length ≤ 9223372036854775807) : Fn Try.prog 16 [(0, .c false (.bys B))] [.sl 0 0 B.length] (fun r H => r = .bool true ∧ H = []) := by
  refine Fn_go Try.func16 ?_
  refine W_go ?_
  refine W_if (fun h1 => ?_) (fun h1 => ?_)
  · refine W_go ?_
    refine W_rt [] [] ?_
    exact ⟨rfl, rfl⟩
  have hB : B.length ≤ 1048576 := by omega
  clear h1
  refine W_go ?_
  refine W_rw fun K hK => ?_
  refine RW_x ?_
  repeat (refine And.intro (by omega) ?_)
  refine CKy (μ := [(0, (0, 0))]) ⟨⟩ (drawRunOps_c B hB) (fun x hx => ?_)
  obtain ⟨s, l⟩ := x
  try dsimp only at hx ⊢
  refine RW_x ?_
  repeat (refine And.intro (by omega) ?_)
  refine hK _ _ ?_
  obtain ⟨hx, hll⟩ := hx
  unfold Sto.dr at hx
  have hbb : ((s.h.L.length ≤ 4194304 ∧ s.h.R.length ≤ 4194304 ∧ s.h.T.length ≤ 4194304) ∧ s.F.length ≤ 4194304) ∧ l.length ≤ 4194304 := by omega
  have hI := iRunOps_c s l hbb
  have hS := sRunOps_c s l hbb
  have hw := opsS_len s l
  have hE := iSame_t (s.opsS l) (by omega)
  by_cases g : s.opsOk l
  case neg =>
    rw [decide_eq_false g] at hI hS
    generalize s.opsS l = w at *
    generalize s.opsN l = n at *
    refine W_go ?_
    refine W_c1 [(0, (4104, 0)), (1, (4105, 0)), (2, (4106, 0)), (3, (4107, 0)), (4, (4108, 0))] hI ?_
    refine W_go ?_
    refine W_c1 [(0, (4104, 0)), (1, (4105, 0)), (2, (4106, 0)), (3, (4107, 0)), (4, (4108, 0))] hS ?_
    refine W_go ?_
    refine W_c1 [(0, (5136, 0)), (1, (5137, 0)), (2, (5138, 0)), (3, (5139, 0)), (4, (6160, 0)), (5, (6161, 0)), (6, (6162, 0)), (7, (6163, 0))] hE ?_
    refine W_ift ?_
    refine W_go ?_
    refine W_c1 [(0, (5136, 0)), (1, (5137, 0)), (2, (5138, 0)), (3, (5139, 0)), (4, (6160, 0)), (5, (6161, 0)), (6, (6162, 0)), (7, (6163, 0))] hE ?_
    refine W_go ?_
    refine W_rt [] [] ?_
    exact ⟨rfl, rfl⟩
  rw [decide_eq_true g] at hI hS
  have eS : s.opsS l = s.goS l := by rw [Sto.opsS, if_pos g]
  have eN : s.opsN l = s.goN l := by rw [Sto.opsN, if_pos g]
  rw [eS] at hI hS hE hw
  rw [eN] at hI hS
  have hg := goS_ok g.1 _ rfl (fun o q => opAt_mem g.2 q)
  have hV := iStoreValid_c (s.goS l) (by omega)
  rw [(Sto.ok_iff (s.goS l)).2 hg.1] at hV
  have hn := goN_le s l
  have h12 := g.2.1
  clear hg eS eN
  have g2 : Hold (s.ok ∧ opsV l s.h.T.length) := ⟨g⟩
  clear g
  have h0 : Hold (goAt s l (s.goS l) (s.goN l) s 0) := ⟨⟨g2.told.1, rfl, rfl, rfl⟩⟩
  generalize s.goS l = w at *
  generalize s.goN l = n at *
  refine W_go ?_
  refine W_c1 [(0, (4104, 0)), (1, (4105, 0)), (2, (4106, 0)), (3, (4107, 0)), (4, (4108, 0))] hI ?_
  refine W_go ?_
  refine W_c1 [(0, (4104, 0)), (1, (4105, 0)), (2, (4106, 0)), (3, (4107, 0)), (4, (4108, 0))] hS ?_
  refine W_go ?_
  refine W_c1 [(0, (5136, 0)), (1, (5137, 0)), (2, (5138, 0)), (3, (5139, 0)), (4, (6160, 0)), (5, (6161, 0)), (6, (6162, 0)), (7, (6163, 0))] hE ?_
  refine W_iff ?_
  refine W_go ?_
  refine W_fg [3, 8] ?_
  refine W_rk 13 [(4104, (4104, 0)), (4105, (4105, 0)), (4106, (4106, 0)), (4107, (4107, 0)), (4108, (4108, 0)), (5136, (5136, 0)), (5137, (5137, 0)), (5138, (5138, 0)), (5139, (5139, 0)), (5176, (5176, 0)), (9224, (9224, 0))] ?_
  refine W_lp (T := 13) (σ := Sto × Nat) (me := fun x => [(12, .int .i64 x.2)]) (mh := fun x => [(4104, .c true (.ints x.1.h.L)), (4105, .c true (.ints x.1.h.R)), (4106, .c true (.ints x.1.h.T)), (4107, .c true (.ints x.1.F)), (9224, .c true (.av 1 [.sl 4104 0 x.1.h.L.length, .sl 4105 0 x.1.h.R.length, .sl 4106 0 x.1.h.T.length, .sl 4107 0 x.1.F.length]))])
    (inv := fun x => x.2 ≤ n ∧ ((x.1.h.L.length ≤ 4194304 ∧ x.1.h.R.length ≤ 4194304 ∧ x.1.h.T.length ≤ 4194304) ∧ x.1.F.length ≤ 4194304) ∧ Hold (goAt s l w n x.1 x.2)) (m := fun x => n - x.2) (s0 := (s, 0)) ⟨Nat.zero_le _, hbb.1, h0⟩ ?_
  clear hI hS h0
  rintro ⟨t, i⟩ ⟨hi, hb, hG⟩
  dsimp only at hi hb hG ⊢
  have hR := iRunOp_c t (opAt l i).1 (opAt l i).2.1 (opAt l i).2.2 hb
  have hrl := runS_len t (opAt l i).1 (opAt l i).2.1 (opAt l i).2.2
  refine W_go ?_
  refine W_if (fun h2 => ?_) (fun h2 => ?_)
  · obtain ⟨r1, r2, _⟩ := go_run g2.told.2 hG.told (by omega)
    obtain ⟨r2, r3⟩ := r2 (by omega)
    rw [r2, decide_eq_true r1] at hR
    clear r1 r2 hG
    replace r3 : Hold _ := ⟨r3⟩
    unfold opAt at hR hrl r3
    refine W_go ?_
    refine W_dc1 [(0, (4104, 0)), (1, (4105, 0)), (2, (4106, 0)), (3, (4107, 0))] hR [.w 4 (.agg [.int .i64 (l.getD i (0, 0, 0)).1, .int .i64 (l.getD i (0, 0, 0)).2.1, .int .i64 (l.getD i (0, 0, 0)).2.2]), .c _ _ _] ?_
    generalize l.getD i (0, 0, 0) = o at *
    generalize t.runS o.1 o.2.1 o.2.2 = v at *
    refine W_go ?_
    refine W_iff ?_
    refine W_go ?_
    refine W_rk 13 [(13352, (4104, 0)), (13353, (4105, 0)), (13354, (4106, 0)), (13355, (4107, 0)), (4108, (4108, 0)), (5136, (5136, 0)), (5137, (5137, 0)), (5138, (5138, 0)), (5139, (5139, 0)), (5176, (5176, 0)), (9224, (9224, 0))] ?_
    refine W_bh (v, i + 1) ⟨by dsimp only; omega, by dsimp only; omega, r3⟩ ?_ ?_
    · dsimp only; omega
    · rfl
  obtain rfl : i = n := by omega
  have ew := go_end g2.told.2 hG.told
  subst ew
  by_cases h3 : (i : Int) < l.length
  · obtain ⟨r1, _, r2⟩ := go_run g2.told.2 hG.told (by omega)
    have r2 := r2 rfl
    rw [decide_eq_true r1] at hR
    clear r1 hG
    unfold opAt at hR r2 hrl
    refine W_go ?_
    refine W_if (fun _ => ?_) (fun z => ?_)
    case' refine_2 => exact absurd h3 z
    refine W_go ?_
    refine W_dc1 [(0, (4104, 0)), (1, (4105, 0)), (2, (4106, 0)), (3, (4107, 0))] hR [.w 4 (.agg [.int .i64 (l.getD i (0, 0, 0)).1, .int .i64 (l.getD i (0, 0, 0)).2.1, .int .i64 (l.getD i (0, 0, 0)).2.2]), .c _ _ _] ?_
    generalize l.getD i (0, 0, 0) = o at *
    generalize t.runS o.1 o.2.1 o.2.2 = v at *
    generalize t.runE o.1 o.2.1 o.2.2 = e at *
    refine W_go ?_
    refine W_if (fun z => ?_) (fun _ => ?_)
    case' refine_1 => exact absurd z r2
    refine W_go ?_
    refine W_ch2 [(0, (5136, 0)), (1, (5137, 0)), (2, (5138, 0)), (3, (5139, 0))] hV [(0, (5136, 0)), (1, (5137, 0)), (2, (5138, 0)), (3, (5139, 0)), (4, (4104, 0)), (5, (4105, 0)), (6, (4106, 0)), (7, (4107, 0))] hE ?_
    refine W_go ?_
    refine W_rt [] [] ?_
    exact ⟨rfl, rfl⟩
  · clear hG hR
    refine W_go ?_
    refine W_if (fun z => ?_) (fun _ => ?_)
    case' refine_1 => exact absurd z h3
    refine W_go ?_
    refine W_ch2 [(0, (5136, 0)), (1, (5137, 0)), (2, (5138, 0)), (3, (5139, 0))] hV [(0, (5136, 0)), (1, (5137, 0)), (2, (5138, 0)), (3, (5139, 0)), (4, (4104, 0)), (5, (4105, 0)), (6, (4106, 0)), (7, (4107, 0))] hE ?_
    refine W_go ?_
    refine W_rt [] [] ?_
    exact ⟨rfl, rfl⟩
end Go.Proofs.Ytbcnkfkmonpdeaa.S
