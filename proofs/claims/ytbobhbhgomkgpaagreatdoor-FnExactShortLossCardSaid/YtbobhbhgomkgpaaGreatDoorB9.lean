/- Texts of this claim's own, laid as one: Gp Ha Hc Hd. Own work of this claim. -/
import Derived.Test.YtbobhbhgomkgpaaGreatDoorB1
import Derived.Test.YtbobhbhgomkgpaaGreatDoorB6
import Derived.Test.YtbobhbhgomkgpaaGreatDoorA6
/- Contracts: the law's own small functions over lists of operations. Own work of this claim. -/
namespace Go.Proofs.YtbobhbhgomkgpaaGreatDoor.S
set_option linter.all false
open Go Go.Proofs
variable {D : Cx}
set_option maxHeartbeats 4000000
set_option maxRecDepth 100000

section
variable {nt : Nat} {ks : List It} {env : Env} {H H' : Heap} {R : Env → Heap → Prop}
/-- An entry is told anew: the same cells in other words. -/
theorem W_nt0 {P : Program} {own : Bool} {lv lv' : LV} (n : Nat) (h : W D P nt ks env (aset H n (.c own lv')) R)
    (h0 : aget H n = some (.c own lv)) (hz : lv'.z = lv.z) (hl : lv'.toL = lv.toL) : W D P nt ks env H R := by
  intro hk G hp hB hD ν a w st
  have hI := st.inv
  have g : ∀ m e, aget (aset H n (.c own lv')) m = some e → ∃ e0, aget H m = some e0 ∧ e0.isOwn = e.isOwn ∧ e0.live = e.live := by
    intro m e hm
    rw [aget_aset] at hm
    split at hm
    · rename_i y; subst y; cases hm; exact ⟨_, h0, rfl, rfl⟩
    · exact ⟨e, hm, rfl, rfl⟩
  refine h hk G hp hB hD ν a w ⟨st.defers, st.size, st.env, ?_, ?_, ?_, hI.gfr, fun m hm => ⟨(hI.nb m hm).1, aset_ne (hI.nb m hm).2⟩, ?_, hI.fx⟩
  · intro m e hm
    rw [aget_aset] at hm
    split at hm
    · rename_i x; subst x; cases hm
      have := hI.er n _ h0
      simp only [ER, hz, hl] at this ⊢
      exact this
    · exact hI.er m e hm
  · intro x y e e' hx hxo hy hyl hxy L L' hL hL'
    obtain ⟨e0, a1, a2, a3⟩ := g x e hx
    obtain ⟨e1, b1, b2, b3⟩ := g y e' hy
    exact hI.inj x y e0 e1 a1 (a2.trans hxo) b1 (b3.trans hyl) hxy L L' hL hL'
  · intro m hm
    rw [aget_aset] at hm
    split at hm
    · cases hm
    · exact hI.dom m hm
  · intro m e L hm ho hL
    obtain ⟨e0, a1, a2, a3⟩ := g m e hm
    exact hI.own m e0 L a1 (a2.trans ho) hL
theorem W_nt {own : Bool} {lv : LV} (n : Nat) (lv' : LV) (h : Wp D nt ks env H' R) (hl : lv'.toL = lv.toL)
    (h0 : aget H n = some (.c own lv) := by
      simp only [aget, Nat.reduceEqDiff, ↓reduceIte]
      try rfl)
    (hz : lv'.z = lv.z := by rfl)
    (hH : aset H n (.c own lv') = H' := by
      simp only [aset, Nat.reduceEqDiff, ↓reduceIte]
      try rfl) : Wp D nt ks env H R := W_nt0 n (by rw [hH]; exact h) h0 hz hl
end
theorem opL_set (l : List (Int × Int × Int)) : ∀ (i : Nat) (k : Int), i < l.length →
    (l.set i (k, (l.getD i (0, 0, 0)).2)).flatMap opL = (l.flatMap opL).set (i * 3) (.int .i64 k) ∧
    (l.set i ((l.getD i (0, 0, 0)).1, k, (l.getD i (0, 0, 0)).2.2)).flatMap opL = (l.flatMap opL).set (i * 3 + 1) (.int .i64 k) ∧
    (l.set i ((l.getD i (0, 0, 0)).1, (l.getD i (0, 0, 0)).2.1, k)).flatMap opL = (l.flatMap opL).set (i * 3 + 2) (.int .i64 k) := by
  induction l with
  | nil => intro i k h; simp at h
  | cons o l ih =>
    intro i k h
    cases i with
    | zero => simp [opL]
    | succ i =>
      have := ih i k (by simpa using h)
      have e : (i + 1) * 3 = i * 3 + 1 + 1 + 1 := by omega
      rw [e]
      simp only [List.set_cons_succ, List.getD_cons_succ, List.flatMap_cons, this]
      simp [opL]
theorem opL_set3 (l : List (Int × Int × Int)) (i : Nat) (h : i < l.length) (o : Int × Int × Int) :
    (l.set i o).flatMap opL = (((l.flatMap opL).set (i * 3) (.int .i64 o.1)).set (i * 3 + 1) (.int .i64 o.2.1)).set (i * 3 + 2) (.int .i64 o.2.2) := by
  rw [← (opL_set l i o.1 h).1, ← (opL_set _ i o.2.1 (by simpa using h)).2.1, ← (opL_set _ i o.2.2 (by simpa using h)).2.2]
  simp [h]
theorem szOpS_c (l : List (Int × Int × Int)) (n : Int) (hl : l.length ≤ 9223372036854775807) (hn : -1 ≤ n ∧ n < 1099511627776) : Fn Tryz.prog 42 [(0, .c false (.ops l))] [.sl 0 0 l.length, .int .i64 n] (fun r H => r = .int .i64 (if n < l.length then -1 else n - l.length) ∧ H = []) := by
  refine Fn_go Tryz.func42 ?_
  refine W_go ?_
  refine W_if (fun h1 => ?_) (fun h1 => ?_)
  · refine W_go ?_
    refine W_rt [] [] ?_
    exact ⟨by rw [if_pos (by omega)], rfl⟩
  · refine W_go ?_
    refine W_rt [] [] ?_
    exact ⟨by rw [if_neg (by omega)], rfl⟩
theorem toOp_c (o : Int × Int × Int) : Fn Tryz.prog 80 [] [.agg [.int .i64 o.1, .int .i64 o.2.1, .int .i64 o.2.2]] (fun r H => r = .agg [.int .i64 o.1, .int .i64 o.2.1, .int .i64 o.2.2] ∧ H = []) := by
  refine Fn_go Tryz.func80 ?_
  refine W_go ?_
  refine W_go ?_
  refine W_rt [] [] ?_
  exact ⟨rfl, rfl⟩
theorem eqOp_c (o q : Int × Int × Int) : Fn Tryz.prog 83 [] [.agg [.int .i64 o.1, .int .i64 o.2.1, .int .i64 o.2.2], .agg [.int .i64 q.1, .int .i64 q.2.1, .int .i64 q.2.2]] (fun r H => r = .bool (decide (o = q)) ∧ H = []) := by
  refine Fn_go Tryz.func83 ?_
  have no : ∀ x : Bool, (x = true ↔ o = q) → decide (o = q) = x := fun x h => by
    cases x
    · rw [decide_eq_false]; intro e; have := h.2 e; cases this
    · rw [decide_eq_true (h.1 rfl)]
  have ex : o = q ↔ o.1 = q.1 ∧ o.2.1 = q.2.1 ∧ o.2.2 = q.2.2 := by
    obtain ⟨a, b, c⟩ := o; obtain ⟨d, e, f⟩ := q; simp
  replace no : Hold _ := ⟨no⟩
  replace ex : Hold _ := ⟨ex⟩
  refine W_go ?_
  refine W_if (fun h1 => ?_) (fun h1 => ?_)
  · refine W_go ?_
    refine W_rt [] [] ?_
    exact ⟨by rw [no.told false (by rw [ex.told]; simp [h1])], rfl⟩
  refine W_go ?_
  refine W_if (fun h2 => ?_) (fun h2 => ?_)
  · refine W_go ?_
    refine W_rt [] [] ?_
    exact ⟨by rw [no.told false (by rw [ex.told]; simp [h2])], rfl⟩
  refine W_go ?_
  refine W_if (fun h3 => ?_) (fun h3 => ?_)
  · refine W_go ?_
    refine W_rt [] [] ?_
    exact ⟨by rw [no.told false (by rw [ex.told]; simp [h3])], rfl⟩
  · refine W_go ?_
    refine W_rt [] [] ?_
    exact ⟨by rw [no.told true (by rw [ex.told]; simp; omega)], rfl⟩
theorem fill_setO {l : List (Int × Int × Int)} {x : Int × Int × Int} {n i : Nat} (hn : n = l.length) (h : i < n) : (l.take i ++ List.replicate (n - i) x).set i (l.getD i (0, 0, 0)) = l.take (i + 1) ++ List.replicate (n - (i + 1)) x := by
  subst hn
  have e : l.length - i = (l.length - (i + 1)) + 1 := by omega
  rw [e, List.replicate_succ, List.set_append_right _ _ (by simp; omega)]
  have e2 : i - (l.take i).length = 0 := by simp; omega
  rw [e2, List.set_cons_zero, List.take_succ]
  rw [show l[i]?.toList = [l.getD i (0, 0, 0)] by rw [List.getD_eq_getElem?_getD, List.getElem?_eq_getElem h]; rfl, List.append_assoc]
  rfl
theorem toOpS_c (l : List (Int × Int × Int)) (hl : l.length ≤ 4194304) : Fn Tryz.prog 45 [(0, .c false (.ops l))] [.sl 0 0 l.length] (fun r H => r = .sl 100 0 l.length ∧ H = [(100, .c true (.ops l))]) := by
  refine Fn_go Tryz.func45 ?_
  refine W_go ?_
  refine W_nt 2064 (.ops (List.replicate l.length (0, 0, 0))) ?_ ?_
  case' refine_2 =>
    show (List.replicate l.length (0, 0, 0)).flatMap opL = (List.replicate l.length [AV.int .i64 0, .int .i64 0, .int .i64 0]).flatten
    rw [List.flatMap_def, List.map_replicate]; rfl
  refine W_lp (T := 5) (σ := Nat) (me := fun i => [(4, .int .i64 i)]) (mh := fun i => [(2064, .c true (.ops (l.take i ++ List.replicate (l.length - i) (0, 0, 0))))]) (inv := fun i => i ≤ l.length) (m := fun i => l.length - i) (s0 := 0) (by simp) ?_
  rintro i hi
  have hl2 : (l.take i ++ List.replicate (l.length - i) (0, 0, 0)).length = l.length := by simp; omega
  replace hl2 : Hold _ := ⟨hl2⟩
  have hC := toOp_c (l.getD i (0, 0, 0))
  refine W_go ?_
  refine W_if (fun h1 => ?_) (fun h1 => ?_)
  · refine W_go ?_
    refine W_c1 [] hC ?_
    refine W_nt 2064 (.ops (l.take (i + 1) ++ List.replicate (l.length - (i + 1)) (0, 0, 0))) ?_ ?_
    case' refine_2 =>
      rw [← fill_setO rfl (by omega)]
      exact opL_set3 _ i (by rw [hl2.told]; omega) _
    refine W_go ?_
    refine W_rk 5 [(2064, (2064, 0))] ?_
    refine W_bh (i + 1) (by omega) (by omega) (by rfl)
  · refine W_go ?_
    refine W_rt [(2064, (100, 0))] [] ?_
    have e : i = l.length := by omega
    subst e
    simp
theorem eqOpS_c (a b : List (Int × Int × Int)) (ha : a.length ≤ 4194304) (hb : b.length ≤ 4194304) : Fn Tryz.prog 48 [(0, .c false (.ops a)), (1, .c false (.ops b))] [.sl 0 0 a.length, .sl 1 0 b.length] (fun r H => r = .bool (decide (a = b)) ∧ H = []) := by
  refine Fn_go Tryz.func48 ?_
  refine W_go ?_
  refine W_if (fun h1 => ?_) (fun h1 => ?_)
  · refine W_go ?_
    refine W_rt [] [] ?_
    exact ⟨by rw [decide_eq_false]; rintro rfl; exact h1 rfl, rfl⟩
  have h1 : (a.length : Int) = b.length := Decidable.of_not_not h1
  have h3 : a.length ≤ b.length ∧ b.length ≤ a.length := by omega
  clear h1
  refine W_go ?_
  refine W_lp (T := 6) (σ := Nat) (me := fun i => [(5, .int .i64 i)]) (mh := fun _ => []) (inv := fun i => i ≤ a.length ∧ Hold (∀ j, j < i → a.getD j (0, 0, 0) = b.getD j (0, 0, 0))) (m := fun i => a.length - i) (s0 := 0) ⟨by omega, ⟨by intro j hj; omega⟩⟩ ?_
  rintro i ⟨hi, hI⟩
  have hC := eqOp_c (a.getD i (0, 0, 0)) (b.getD i (0, 0, 0))
  refine W_go ?_
  refine W_if (fun h2 => ?_) (fun h2 => ?_)
  case' refine_2 =>
    refine W_go ?_
    refine W_rt [] [] ?_
    refine ⟨?_, rfl⟩
    rw [decide_eq_true]
    refine List.ext_getElem (by omega) fun j x y => ?_
    have := hI.told j (by omega)
    rw [List.getD_eq_getElem?_getD, List.getD_eq_getElem?_getD, List.getElem?_eq_getElem x, List.getElem?_eq_getElem y] at this
    exact this
  refine W_go ?_
  by_cases g : a.getD i (0, 0, 0) = b.getD i (0, 0, 0)
  · rw [decide_eq_true g] at hC
    replace g : Hold _ := ⟨g⟩
    refine W_dc1 [] hC [.c _ _ _] ?_
    refine W_iff ?_
    refine W_go ?_
    refine W_bk (i + 1) ⟨by omega, ⟨fun j hj => ?_⟩⟩ (by omega)
    by_cases e : j = i
    · subst e; exact g.told
    · exact hI.told j (by omega)
  · rw [decide_eq_false g] at hC
    replace g : Hold _ := ⟨g⟩
    refine W_dc1 [] hC [.c _ _ _] ?_
    refine W_ift ?_
    refine W_go ?_
    refine W_rt [] [] ?_
    exact ⟨by rw [decide_eq_false]; rintro rfl; exact g.told rfl, rfl⟩
def mkO (n : Nat) (k : Int) : List (Int × Int × Int) := (List.range n).map fun (j : Nat) => (k + 3 * (j : Int), k + 3 * (j : Int) + 1, k + 3 * (j : Int) + 1 + 1)
end Go.Proofs.YtbobhbhgomkgpaaGreatDoor.S

/- Contracts: a collector in laws of the exact kind: its bulk, its copy, equality, marks. Own work of this claim. -/
namespace Go.Proofs.YtbobhbhgomkgpaaGreatDoor.S
set_option linter.all false
open Go Go.Proofs
set_option maxHeartbeats 4000000
set_option maxRecDepth 100000

theorem szS_le {s : Sto} {n : Int} (h : ¬ szS s n < 0) : szS s n ≤ n := by
  have s1 := @szH_lt s.h n
  have s2 := @szI_lt s.F (szH s.h n)
  unfold szS at h ⊢
  split at h
  · omega
  · split at h
    · omega
    · rw [if_neg (by assumption), if_neg (by assumption)]; omega
theorem szGc_c (g : Gcc) (n : Int) (hl : g.C.length ≤ 9223372036854775807) (hn : 0 ≤ n ∧ n < 1099511627776) : Fn Tryz.prog 41 [(0, .c false (.ints g.C))] [.agg [.int .i64 g.p, .sl 0 0 g.C.length, .int .i64 g.a], .int .i64 n] (fun r H => r = .int .i64 (szI g.C n) ∧ H = []) := by
  have hZ := szIntS_c g.C n hl (by omega)
  have b := @szI_lt g.C n
  generalize szI g.C n = v at *
  refine Fn_go Tryz.func41 ?_
  refine W_go ?_
  refine W_c1 [(0, (0, 0))] hZ ?_
  refine W_go ?_
  refine W_if (fun h1 => ?_) (fun h1 => ?_)
  · refine W_go ?_
    refine W_rt [] [] ?_
    have e : v = -1 := by omega
    rw [e]
    exact ⟨rfl, rfl⟩
  refine W_go ?_
  refine W_rt [] [] ?_
  exact ⟨rfl, rfl⟩
theorem toGc_c (g : Gcc) (hl : g.C.length ≤ 4194304) : Fn Tryz.prog 44 [(0, .c false (.ints g.C))] [.agg [.int .i64 g.p, .sl 0 0 g.C.length, .int .i64 g.a]] (fun r H => r = .agg [.int .i64 g.p, .sl 100 0 g.C.length, .int .i64 g.a] ∧ H = [(100, .c true (.ints g.C))]) := by
  refine Fn_go Tryz.func44 ?_
  refine W_go ?_
  refine W_c1 [(0, (0, 0))] (toIntS_c g.C (by omega)) ?_
  refine W_go ?_
  exact W_rt [(4112, (100, 0))] [] ⟨rfl, rfl⟩
theorem eqGc_t (g : Gcc) (hl : g.C.length ≤ 4194304) : Fn Tryz.prog 47 [(0, .c false (.ints g.C)), (1, .c false (.ints g.C))] [.agg [.int .i64 g.p, .sl 0 0 g.C.length, .int .i64 g.a], .agg [.int .i64 g.p, .sl 1 0 g.C.length, .int .i64 g.a]] (fun r H => r = .bool true ∧ H = []) := by
  have h := eqIntS_c g.C g.C (by omega) (by omega)
  rw [decide_eq_true rfl] at h
  refine Fn_go Tryz.func47 ?_
  refine W_go ?_
  refine W_iff ?_
  refine W_go ?_
  refine W_c1 [(0, (0, 0)), (1, (1, 0))] h ?_
  refine W_iff ?_
  refine W_go ?_
  refine W_iff ?_
  refine W_go ?_
  refine W_rt [] [] ?_
  exact ⟨rfl, rfl⟩
end Go.Proofs.YtbobhbhgomkgpaaGreatDoor.S

/- Contracts: a program and a collector in laws of the exact kind: equality, marks. Own work of this claim. -/
namespace Go.Proofs.YtbobhbhgomkgpaaGreatDoor.S
set_option linter.all false
open Go Go.Proofs
set_option maxHeartbeats 4000000
set_option maxRecDepth 100000

theorem eqOpS_s (l : List (Int × Int × Int)) (hl : l.length ≤ 4194304) : Fn Tryz.prog 48 [(0, .c false (.ops l)), (1, .c false (.ops l))] [.sl 0 0 l.length, .sl 1 0 l.length] (fun r H => r = .bool true ∧ H = []) := by
  have := eqOpS_c l l hl hl
  rwa [decide_eq_true rfl] at this
theorem eqBoth_t (b : Bth) (hl : (((b.s.h.L.length ≤ 4194304 ∧ b.s.h.R.length ≤ 4194304 ∧ b.s.h.T.length ≤ 4194304) ∧ b.s.F.length ≤ 4194304) ∧ b.g.C.length ≤ 4194304) ∧ b.o.length ≤ 4194304) : Fn Tryz.prog 24 [(0, .c false (.ints b.s.h.L)), (1, .c false (.ints b.s.h.R)), (2, .c false (.ints b.s.h.T)), (3, .c false (.ints b.s.F)), (4, .c false (.ints b.g.C)), (5, .c false (.ops b.o)), (6, .c false (.ints b.s.h.L)), (7, .c false (.ints b.s.h.R)), (8, .c false (.ints b.s.h.T)), (9, .c false (.ints b.s.F)), (10, .c false (.ints b.g.C)), (11, .c false (.ops b.o))] [.agg [.sl 0 0 b.s.h.L.length, .sl 1 0 b.s.h.R.length, .sl 2 0 b.s.h.T.length, .sl 3 0 b.s.F.length, .int .i64 b.g.p, .sl 4 0 b.g.C.length, .int .i64 b.g.a, .sl 5 0 b.o.length, .int .i64 b.a, .bool b.l], .agg [.sl 6 0 b.s.h.L.length, .sl 7 0 b.s.h.R.length, .sl 8 0 b.s.h.T.length, .sl 9 0 b.s.F.length, .int .i64 b.g.p, .sl 10 0 b.g.C.length, .int .i64 b.g.a, .sl 11 0 b.o.length, .int .i64 b.a, .bool b.l]] (fun r H => r = .bool true ∧ H = []) := by
  have h1 := eqStore_t b.s hl.1.1
  have h2 := eqGc_t b.g hl.1.2
  have h3 := eqOpS_s b.o hl.2
  refine Fn_go Tryz.func24 ?_
  refine W_go ?_
  refine W_c1 [(0, (0, 0)), (1, (1, 0)), (2, (2, 0)), (3, (3, 0)), (4, (6, 0)), (5, (7, 0)), (6, (8, 0)), (7, (9, 0))] h1 ?_
  refine W_iff ?_
  refine W_go ?_
  refine W_c1 [(0, (4, 0)), (1, (10, 0))] h2 ?_
  refine W_iff ?_
  refine W_go ?_
  refine W_c1 [(0, (5, 0)), (1, (11, 0))] h3 ?_
  refine W_iff ?_
  refine W_go ?_
  refine W_iff ?_
  refine W_go ?_
  refine W_iff ?_
  refine W_go ?_
  refine W_rt [] [] ?_
  exact ⟨rfl, rfl⟩
end Go.Proofs.YtbobhbhgomkgpaaGreatDoor.S

/- Contracts: sizes and copies of a program and a collector, for laws of the exact kind. Own work of this claim. -/
namespace Go.Proofs.YtbobhbhgomkgpaaGreatDoor.S
set_option linter.all false
open Go Go.Proofs
set_option maxHeartbeats 4000000
set_option maxRecDepth 100000

theorem szBoth_t (b : Bth) (hl : ((b.s.h.L.length ≤ 9223372036854775807 ∧ b.s.h.R.length ≤ 9223372036854775807 ∧ b.s.h.T.length ≤ 9223372036854775807) ∧ b.s.F.length ≤ 9223372036854775807) ∧ b.g.C.length ≤ 9223372036854775807 ∧ b.o.length ≤ 9223372036854775807) : ∃ v : Int, (¬ v < 0 → (((b.s.h.L.length ≤ 4194304 ∧ b.s.h.R.length ≤ 4194304 ∧ b.s.h.T.length ≤ 4194304) ∧ b.s.F.length ≤ 4194304) ∧ b.g.C.length ≤ 4194304) ∧ b.o.length ≤ 4194304) ∧
    Fn Tryz.prog 22 [(0, .c false (.ints b.s.h.L)), (1, .c false (.ints b.s.h.R)), (2, .c false (.ints b.s.h.T)), (3, .c false (.ints b.s.F)), (4, .c false (.ints b.g.C)), (5, .c false (.ops b.o))] [.agg [.sl 0 0 b.s.h.L.length, .sl 1 0 b.s.h.R.length, .sl 2 0 b.s.h.T.length, .sl 3 0 b.s.F.length, .int .i64 b.g.p, .sl 4 0 b.g.C.length, .int .i64 b.g.a, .sl 5 0 b.o.length, .int .i64 b.a, .bool b.l], .int .i64 1048576] (fun r H => r = .int .i64 v ∧ H = []) := by
  have hZ0 := szStore_c b.s 1048576 hl.1 (by omega)
  have hs0 := @szS_ok b.s 1048576
  have hs20 := @szS_le b.s 1048576
  have hC := hl.2.1
  have hO := hl.2.2
  clear hl
  generalize szS b.s 1048576 = v at *
  by_cases h1 : v < 0
  · refine ⟨-1, fun q => absurd (by omega : (-1 : Int) < 0) q, ?_⟩
    clear hs0 hs20
    refine Fn_go Tryz.func22 ?_
    refine W_go ?_
    refine W_c1 [(0, (0, 0)), (1, (1, 0)), (2, (2, 0)), (3, (3, 0))] hZ0 ?_
    refine W_go ?_
    refine W_if (fun z => ?_) (fun z => ?_)
    case' refine_2 => exact absurd h1 z
    refine W_go ?_
    refine W_rt [] [] ?_
    exact ⟨rfl, rfl⟩
  have hs := hs0 h1
  have hs2 := hs20 h1
  clear hs0 hs20
  have hZ1 := szGc_c b.g v hC (by omega)
  have b1 := @szI_lt b.g.C v
  generalize szI b.g.C v = v1 at *
  by_cases h2 : v1 < 0
  · refine ⟨-1, fun q => absurd (by omega : (-1 : Int) < 0) q, ?_⟩
    clear b1 hs
    refine Fn_go Tryz.func22 ?_
    refine W_go ?_
    refine W_c1 [(0, (0, 0)), (1, (1, 0)), (2, (2, 0)), (3, (3, 0))] hZ0 ?_
    refine W_go ?_
    refine W_if (fun z => ?_) (fun z => ?_)
    case' refine_1 => exact absurd z h1
    refine W_go ?_
    refine W_c1 [(0, (4, 0))] hZ1 ?_
    refine W_go ?_
    refine W_if (fun z => ?_) (fun z => ?_)
    case' refine_2 => exact absurd h2 z
    refine W_go ?_
    refine W_rt [] [] ?_
    exact ⟨rfl, rfl⟩
  have hZ2 := szOpS_c b.o v1 hO (by omega)
  have b2 : (if v1 < b.o.length then -1 else v1 - b.o.length : Int) < 0 ∨ b.o.length ≤ 4194304 := by split <;> omega
  generalize (if v1 < b.o.length then -1 else v1 - b.o.length : Int) = v2 at *
  by_cases h3 : v2 < 0
  · refine ⟨-1, fun q => absurd (by omega : (-1 : Int) < 0) q, ?_⟩
    clear b1 b2 hs
    refine Fn_go Tryz.func22 ?_
    refine W_go ?_
    refine W_c1 [(0, (0, 0)), (1, (1, 0)), (2, (2, 0)), (3, (3, 0))] hZ0 ?_
    refine W_go ?_
    refine W_if (fun z => ?_) (fun z => ?_)
    case' refine_1 => exact absurd z h1
    refine W_go ?_
    refine W_c1 [(0, (4, 0))] hZ1 ?_
    refine W_go ?_
    refine W_if (fun z => ?_) (fun z => ?_)
    case' refine_1 => exact absurd z h2
    refine W_go ?_
    refine W_c1 [(0, (5, 0))] hZ2 ?_
    refine W_go ?_
    refine W_if (fun z => ?_) (fun z => ?_)
    case' refine_2 => exact absurd h3 z
    refine W_go ?_
    refine W_rt [] [] ?_
    exact ⟨rfl, rfl⟩
  refine ⟨v2, fun _ => by omega, ?_⟩
  clear b1 b2 hs
  refine Fn_go Tryz.func22 ?_
  refine W_go ?_
  refine W_c1 [(0, (0, 0)), (1, (1, 0)), (2, (2, 0)), (3, (3, 0))] hZ0 ?_
  refine W_go ?_
  refine W_if (fun z => ?_) (fun z => ?_)
  case' refine_1 => exact absurd z h1
  refine W_go ?_
  refine W_c1 [(0, (4, 0))] hZ1 ?_
  refine W_go ?_
  refine W_if (fun z => ?_) (fun z => ?_)
  case' refine_1 => exact absurd z h2
  refine W_go ?_
  refine W_c1 [(0, (5, 0))] hZ2 ?_
  refine W_go ?_
  refine W_if (fun z => ?_) (fun z => ?_)
  case' refine_1 => exact absurd z h3
  refine W_go ?_
  refine W_rt [] [] ?_
  exact ⟨rfl, rfl⟩
theorem toBoth_c (b : Bth) (hl : (((b.s.h.L.length ≤ 4194304 ∧ b.s.h.R.length ≤ 4194304 ∧ b.s.h.T.length ≤ 4194304) ∧ b.s.F.length ≤ 4194304) ∧ b.g.C.length ≤ 4194304) ∧ b.o.length ≤ 4194304) : Fn Tryz.prog 23 [(0, .c false (.ints b.s.h.L)), (1, .c false (.ints b.s.h.R)), (2, .c false (.ints b.s.h.T)), (3, .c false (.ints b.s.F)), (4, .c false (.ints b.g.C)), (5, .c false (.ops b.o))] [.agg [.sl 0 0 b.s.h.L.length, .sl 1 0 b.s.h.R.length, .sl 2 0 b.s.h.T.length, .sl 3 0 b.s.F.length, .int .i64 b.g.p, .sl 4 0 b.g.C.length, .int .i64 b.g.a, .sl 5 0 b.o.length, .int .i64 b.a, .bool b.l]] (fun r H => r = .agg [.sl 100 0 b.s.h.L.length, .sl 101 0 b.s.h.R.length, .sl 102 0 b.s.h.T.length, .sl 103 0 b.s.F.length, .int .i64 b.g.p, .sl 104 0 b.g.C.length, .int .i64 b.g.a, .sl 105 0 b.o.length, .int .i64 b.a, .bool b.l] ∧ H = [(100, .c true (.ints b.s.h.L)), (101, .c true (.ints b.s.h.R)), (102, .c true (.ints b.s.h.T)), (103, .c true (.ints b.s.F)), (104, .c true (.ints b.g.C)), (105, .c true (.ops b.o))]) := by
  have h1 := toStore_c b.s (by omega)
  have h2 := toGc_c b.g hl.1.2
  have h3 := toOpS_c b.o hl.2
  refine Fn_go Tryz.func23 ?_
  refine W_go ?_
  refine W_c1 [(0, (0, 0)), (1, (1, 0)), (2, (2, 0)), (3, (3, 0))] h1 ?_
  refine W_go ?_
  refine W_c1 [(0, (4, 0))] h2 ?_
  refine W_go ?_
  refine W_c1 [(0, (5, 0))] h3 ?_
  refine W_go ?_
  refine W_rt [(3088, (100, 0)), (3089, (101, 0)), (3090, (102, 0)), (3091, (103, 0)), (4112, (104, 0)), (5136, (105, 0))] [] ?_
  exact ⟨rfl, rfl⟩
end Go.Proofs.YtbobhbhgomkgpaaGreatDoor.S
