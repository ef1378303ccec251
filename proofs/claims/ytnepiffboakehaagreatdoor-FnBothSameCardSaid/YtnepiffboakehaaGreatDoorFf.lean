/- Contracts: the given program's reference, cells are freed. Own work of this claim. -/
import Derived.Test.YtnepiffboakehaaGreatDoorFe
namespace Go.Proofs.YtnepiffboakehaaGreatDoor.S
set_option linter.all false
open Go Go.Proofs
set_option maxHeartbeats 4000000
set_option maxRecDepth 100000
set_option linter.unusedVariables false

theorem clrAt_iff (l cells : List Int) (i : Nat) (a : Int) (ha : a = l.getD i 0) : clrAt l cells i = if 0 ≤ idx cells a ∨ 0 ≤ idx cells i then -1 else l.getD i 0 := by
  subst ha
  unfold clrAt
  simp only [idx_nonneg]
theorem sl4Clear_c (s : Sto) (cells : List Int) (ho : s.h.ok) (hl : s.F.length ≤ 1048576 ∧ cells.length ≤ 1048576) :
    Fn Tryz.prog 130 [(0, .c false (.ints s.h.L)), (1, .c false (.ints s.h.R)), (2, .c false (.ints s.h.T)), (3, .c false (.ints s.F)), (4, .c false (.ints cells))] [.agg [.sl 0 0 s.h.L.length, .sl 1 0 s.h.R.length, .sl 2 0 s.h.T.length, .sl 3 0 s.F.length], .sl 4 0 cells.length] (fun r H => r = .agg [.sl 100 0 (s.clr cells).h.L.length, .sl 101 0 (s.clr cells).h.R.length, .sl 102 0 (s.clr cells).h.T.length, .sl 103 0 (s.clr cells).F.length] ∧ H = [(100, .c true (.ints (s.clr cells).h.L)), (101, .c true (.ints (s.clr cells).h.R)), (102, .c true (.ints (s.clr cells).h.T)), (103, .c true (.ints (s.clr cells).F))]) := by
  obtain ⟨⟨l1, l2, l3, l4, l5⟩, _⟩ := ho
  have l3a : s.h.L.length ≤ s.h.R.length := by omega
  have l3b : s.h.R.length ≤ s.h.L.length := by omega
  clear l3
  refine Fn_go Tryz.func130 ?_
  refine W_go ?_
  refine W_c1 [(0, (0, 0)), (1, (1, 0)), (2, (2, 0)), (3, (3, 0))] (sl4Copy_c s (by omega)) ?_
  refine W_go ?_
  refine W_lp (T := 7) (σ := Nat) (me := fun i => [(6, .int .i64 i)]) (mh := fun i => [(2056, .c true (.ints (preN (clrAt s.h.L cells) s.h.L i))), (2057, .c true (.ints (preN (clrAt s.h.R cells) s.h.R i)))]) (inv := fun i => i ≤ s.h.L.length) (m := fun i => s.h.L.length - i) (s0 := 0) (by omega) ?_ (hh := by rw [pre_zero, pre_zero])
  rintro i hi
  have ll := pre_len (f := clrAt s.h.L cells) (l := s.h.L) (i := i) (by omega)
  have lr := pre_len (f := clrAt s.h.R cells) (l := s.h.R) (i := i) (by omega)
  have lla : s.h.L.length ≤ (preN (clrAt s.h.L cells) s.h.L i).length := by omega
  have lra : s.h.R.length ≤ (preN (clrAt s.h.R cells) s.h.R i).length := by omega
  clear ll lr
  refine W_go ?_
  refine W_if (fun h1 => ?_) (fun h1 => ?_)
  · have gl := pre_get (f := clrAt s.h.L cells) (l := s.h.L) (i := i) (by omega)
    have gr := pre_get (f := clrAt s.h.R cells) (l := s.h.R) (i := i) (by omega)
    have cl := clrAt_iff s.h.L cells i _ gl
    have cr := clrAt_iff s.h.R cells i _ gr
    have sl := pre_set (f := clrAt s.h.L cells) (l := s.h.L) (i := i) (by omega)
    have sr := pre_set (f := clrAt s.h.R cells) (l := s.h.R) (i := i) (by omega)
    have kl := pre_skip (f := clrAt s.h.L cells) (l := s.h.L) (i := i) (by omega)
    have kr := pre_skip (f := clrAt s.h.R cells) (l := s.h.R) (i := i) (by omega)
    have hA := l4At_c cells ((preN (clrAt s.h.L cells) s.h.L i).getD i 0) (by omega)
    have hB := l4At_c cells i (by omega)
    have hC := l4At_c cells ((preN (clrAt s.h.R cells) s.h.R i).getD i 0) (by omega)
    replace gl : Hold _ := ⟨gl⟩
    replace gr : Hold _ := ⟨gr⟩
    replace cl : Hold _ := ⟨cl⟩
    replace cr : Hold _ := ⟨cr⟩
    replace sl : Hold _ := ⟨sl⟩
    replace sr : Hold _ := ⟨sr⟩
    replace kl : Hold _ := ⟨kl⟩
    replace kr : Hold _ := ⟨kr⟩
    refine W_go ?_
    refine W_jn (σ := Bool) 7 (fun b => [(31, .bool b)]) (fun _ => []) (fun b => b = true ↔ (0 ≤ idx cells ((preN (clrAt s.h.L cells) s.h.L i).getD i 0) ∨ 0 ≤ idx cells i)) ?_ ?_
    · by_cases q : 0 ≤ idx cells ((preN (clrAt s.h.L cells) s.h.L i).getD i 0)
      · refine W_ch1 [(0, (4, 0))] hA ?_
        exact W_bj true ⟨fun _ => .inl q, fun _ => rfl⟩
      · refine W_ch2 [(0, (4, 0))] hA [(0, (4, 0))] hB ?_
        exact W_bj (decide (0 ≤ idx cells i)) ⟨fun h => .inr (of_decide_eq_true h), fun h => decide_eq_true (h.resolve_left q)⟩
    rintro b hb
    refine W_go ?_
    have hbl : (if b then (preN (clrAt s.h.L cells) s.h.L i).set i (-1) else preN (clrAt s.h.L cells) s.h.L i) = preN (clrAt s.h.L cells) s.h.L (i + 1) := by
      have cl := cl.told
      split
      · rename_i e; rw [if_pos (hb.1 e)] at cl; rw [← cl]; exact sl.told
      · rename_i e; rw [if_neg (fun q => e (hb.2 q))] at cl; exact kl.told cl
    clear hb
    refine W_jn (σ := Unit) 7 (fun _ => []) (fun _ => [(2056, .c true (.ints (preN (clrAt s.h.L cells) s.h.L (i + 1))))]) (fun _ => True) ?_ ?_
    · refine W_ifb (fun e => ?_) (fun e => ?_)
      · subst e
        rw [if_pos rfl] at hbl
        replace hbl : Hold _ := ⟨hbl⟩
        refine W_go ?_
        exact W_bj () trivial (hh := by rw [← hbl.told])
      · subst e
        rw [if_neg Bool.false_ne_true] at hbl
        replace hbl : Hold _ := ⟨hbl⟩
        refine W_go ?_
        exact W_bj () trivial (hh := by rw [← hbl.told])
    rintro _ _
    clear hbl
    refine W_go ?_
    refine W_jn (σ := Bool) 7 (fun b => [(51, .bool b)]) (fun _ => []) (fun b => b = true ↔ (0 ≤ idx cells ((preN (clrAt s.h.R cells) s.h.R i).getD i 0) ∨ 0 ≤ idx cells i)) ?_ ?_
    · by_cases q : 0 ≤ idx cells ((preN (clrAt s.h.R cells) s.h.R i).getD i 0)
      · refine W_ch1 [(0, (4, 0))] hC ?_
        exact W_bj true ⟨fun _ => .inl q, fun _ => rfl⟩
      · refine W_ch2 [(0, (4, 0))] hC [(0, (4, 0))] hB ?_
        exact W_bj (decide (0 ≤ idx cells i)) ⟨fun h => .inr (of_decide_eq_true h), fun h => decide_eq_true (h.resolve_left q)⟩
    rintro b hb
    refine W_go ?_
    have hbr : (if b then (preN (clrAt s.h.R cells) s.h.R i).set i (-1) else preN (clrAt s.h.R cells) s.h.R i) = preN (clrAt s.h.R cells) s.h.R (i + 1) := by
      have cr := cr.told
      split
      · rename_i e; rw [if_pos (hb.1 e)] at cr; rw [← cr]; exact sr.told
      · rename_i e; rw [if_neg (fun q => e (hb.2 q))] at cr; exact kr.told cr
    clear hb
    refine W_jn (σ := Unit) 7 (fun _ => []) (fun _ => [(2057, .c true (.ints (preN (clrAt s.h.R cells) s.h.R (i + 1))))]) (fun _ => True) ?_ ?_
    · refine W_ifb (fun e => ?_) (fun e => ?_)
      · subst e
        rw [if_pos rfl] at hbr
        replace hbr : Hold _ := ⟨hbr⟩
        refine W_go ?_
        exact W_bj () trivial (hh := by rw [← hbr.told])
      · subst e
        rw [if_neg Bool.false_ne_true] at hbr
        replace hbr : Hold _ := ⟨hbr⟩
        refine W_go ?_
        exact W_bj () trivial (hh := by rw [← hbr.told])
    rintro _ _
    refine W_go ?_
    exact W_bk (i + 1) (by omega) (by omega)
  · have ei : i = s.h.L.length := by omega
    have e1 : preN (clrAt s.h.L cells) s.h.L i = clrL s.h.L cells := by rw [ei, pre_full]; rfl
    have e2 : preN (clrAt s.h.R cells) s.h.R i = clrL s.h.R cells := by rw [show i = s.h.R.length by omega, pre_full]; rfl
    have c1 := clrL_len s.h.L cells
    have c2 := clrL_len s.h.R cells
    rw [e1] at lla ⊢
    rw [e2] at lra ⊢
    clear e1 e2 c1 c2
    refine W_go ?_
    refine W_rt [(2056, (100, 0)), (2057, (101, 0)), (2058, (102, 0)), (10264, (103, 0))] [] ?_
    simp [Sto.clr, clrL_len]
end Go.Proofs.YtnepiffboakehaaGreatDoor.S
