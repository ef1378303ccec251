/- Contracts: the law's own small functions over lists of operations. Own work of this claim. -/
import Derived.Test.YthldlaiplfennaaGreatFa
namespace Go.Proofs.YthldlaiplfennaaGreat.S
set_option linter.all false
open Go Go.Proofs
set_option maxHeartbeats 4000000
set_option maxRecDepth 100000

section
variable {nt : Nat} {ks : List It} {env : Env} {H H' : Heap} {R : Env → Heap → Prop}
/-- An entry is told anew: the same cells in other words. -/
theorem W_nt0 {P : Program} {own : Bool} {lv lv' : LV} (n : Nat) (h : W P nt ks env (aset H n (.c own lv')) R)
    (h0 : aget H n = some (.c own lv)) (hz : lv'.z = lv.z) (hl : lv'.toL = lv.toL) : W P nt ks env H R := by
  intro hk G hp hB ν a w st
  have hI := st.inv
  have g : ∀ m e, aget (aset H n (.c own lv')) m = some e → ∃ e0, aget H m = some e0 ∧ e0.isOwn = e.isOwn ∧ e0.live = e.live := by
    intro m e hm
    rw [aget_aset] at hm
    split at hm
    · rename_i y; subst y; cases hm; exact ⟨_, h0, rfl, rfl⟩
    · exact ⟨e, hm, rfl, rfl⟩
  refine h hk G hp hB ν a w ⟨st.defers, st.size, st.env, ?_, ?_, ?_, hI.gfr, fun m hm => ⟨(hI.nb m hm).1, aset_ne (hI.nb m hm).2⟩, ?_, hI.fx⟩
  · intro m e hm
    rw [aget_aset] at hm
    split at hm
    · rename_i x; subst x; cases hm
      have := hI.er n _ h0
      simp only [ER, hz, hl] at this ⊢
      exact this
    · exact hI.er m e hm
  · intro x y e e' hx hxo hy hyl hxy L L' hL hL'
    obtain ⟨e0, a1, a2, a3⟩ := g x e hx
    obtain ⟨e1, b1, b2, b3⟩ := g y e' hy
    exact hI.inj x y e0 e1 a1 (a2.trans hxo) b1 (b3.trans hyl) hxy L L' hL hL'
  · intro m hm
    rw [aget_aset] at hm
    split at hm
    · cases hm
    · exact hI.dom m hm
  · intro m e L hm ho hL
    obtain ⟨e0, a1, a2, a3⟩ := g m e hm
    exact hI.own m e0 L a1 (a2.trans ho) hL
theorem W_nt {own : Bool} {lv : LV} (n : Nat) (lv' : LV) (h : Wp nt ks env H' R) (hl : lv'.toL = lv.toL)
    (h0 : aget H n = some (.c own lv) := by
      simp only [aget, Nat.reduceEqDiff, ↓reduceIte]
      try rfl)
    (hz : lv'.z = lv.z := by rfl)
    (hH : aset H n (.c own lv') = H' := by
      simp only [aset, Nat.reduceEqDiff, ↓reduceIte]
      try rfl) : Wp nt ks env H R := W_nt0 n (by rw [hH]; exact h) h0 hz hl
end
theorem opL_set (l : List (Int × Int × Int)) : ∀ (i : Nat) (k : Int), i < l.length →
    (l.set i (k, (l.getD i (0, 0, 0)).2)).flatMap opL = (l.flatMap opL).set (i * 3) (.int .i64 k) ∧
    (l.set i ((l.getD i (0, 0, 0)).1, k, (l.getD i (0, 0, 0)).2.2)).flatMap opL = (l.flatMap opL).set (i * 3 + 1) (.int .i64 k) ∧
    (l.set i ((l.getD i (0, 0, 0)).1, (l.getD i (0, 0, 0)).2.1, k)).flatMap opL = (l.flatMap opL).set (i * 3 + 2) (.int .i64 k) := by
  induction l with
  | nil => intro i k h; simp at h
  | cons o l ih =>
    intro i k h
    cases i with
    | zero => simp [opL]
    | succ i =>
      have := ih i k (by simpa using h)
      have e : (i + 1) * 3 = i * 3 + 1 + 1 + 1 := by omega
      rw [e]
      simp only [List.set_cons_succ, List.getD_cons_succ, List.flatMap_cons, this]
      simp [opL]
theorem opL_set3 (l : List (Int × Int × Int)) (i : Nat) (h : i < l.length) (o : Int × Int × Int) :
    (l.set i o).flatMap opL = (((l.flatMap opL).set (i * 3) (.int .i64 o.1)).set (i * 3 + 1) (.int .i64 o.2.1)).set (i * 3 + 2) (.int .i64 o.2.2) := by
  rw [← (opL_set l i o.1 h).1, ← (opL_set _ i o.2.1 (by simpa using h)).2.1, ← (opL_set _ i o.2.2 (by simpa using h)).2.2]
  simp [h]
theorem szOpS_c (l : List (Int × Int × Int)) (n : Int) (hl : l.length ≤ 9223372036854775807) (hn : -1 ≤ n ∧ n < 1099511627776) : Fn Tryz.prog 24 [(0, .c false (.ops l))] [.sl 0 0 l.length, .int .i64 n] (fun r H => r = .int .i64 (if n < l.length then -1 else n - l.length) ∧ H = []) := by
  refine Fn_go Tryz.func24 ?_
  refine W_go ?_
  refine W_if (fun h1 => ?_) (fun h1 => ?_)
  · refine W_go ?_
    refine W_rt [] [] ?_
    exact ⟨by rw [if_pos (by omega)], rfl⟩
  · refine W_go ?_
    refine W_rt [] [] ?_
    exact ⟨by rw [if_neg (by omega)], rfl⟩
theorem toOp_c (o : Int × Int × Int) : Fn Tryz.prog 76 [] [.agg [.int .i64 o.1, .int .i64 o.2.1, .int .i64 o.2.2]] (fun r H => r = .agg [.int .i64 o.1, .int .i64 o.2.1, .int .i64 o.2.2] ∧ H = []) := by
  refine Fn_go Tryz.func76 ?_
  refine W_go ?_
  refine W_go ?_
  refine W_rt [] [] ?_
  exact ⟨rfl, rfl⟩
theorem eqOp_c (o q : Int × Int × Int) : Fn Tryz.prog 81 [] [.agg [.int .i64 o.1, .int .i64 o.2.1, .int .i64 o.2.2], .agg [.int .i64 q.1, .int .i64 q.2.1, .int .i64 q.2.2]] (fun r H => r = .bool (decide (o = q)) ∧ H = []) := by
  refine Fn_go Tryz.func81 ?_
  have no : ∀ x : Bool, (x = true ↔ o = q) → decide (o = q) = x := fun x h => by
    cases x
    · rw [decide_eq_false]; intro e; have := h.2 e; cases this
    · rw [decide_eq_true (h.1 rfl)]
  have ex : o = q ↔ o.1 = q.1 ∧ o.2.1 = q.2.1 ∧ o.2.2 = q.2.2 := by
    obtain ⟨a, b, c⟩ := o; obtain ⟨d, e, f⟩ := q; simp
  replace no : Hold _ := ⟨no⟩
  replace ex : Hold _ := ⟨ex⟩
  refine W_go ?_
  refine W_if (fun h1 => ?_) (fun h1 => ?_)
  · refine W_go ?_
    refine W_rt [] [] ?_
    exact ⟨by rw [no.told false (by rw [ex.told]; simp [h1])], rfl⟩
  refine W_go ?_
  refine W_if (fun h2 => ?_) (fun h2 => ?_)
  · refine W_go ?_
    refine W_rt [] [] ?_
    exact ⟨by rw [no.told false (by rw [ex.told]; simp [h2])], rfl⟩
  refine W_go ?_
  refine W_if (fun h3 => ?_) (fun h3 => ?_)
  · refine W_go ?_
    refine W_rt [] [] ?_
    exact ⟨by rw [no.told false (by rw [ex.told]; simp [h3])], rfl⟩
  · refine W_go ?_
    refine W_rt [] [] ?_
    exact ⟨by rw [no.told true (by rw [ex.told]; simp; omega)], rfl⟩
theorem fill_setO {l : List (Int × Int × Int)} {x : Int × Int × Int} {n i : Nat} (hn : n = l.length) (h : i < n) : (l.take i ++ List.replicate (n - i) x).set i (l.getD i (0, 0, 0)) = l.take (i + 1) ++ List.replicate (n - (i + 1)) x := by
  subst hn
  have e : l.length - i = (l.length - (i + 1)) + 1 := by omega
  rw [e, List.replicate_succ, List.set_append_right _ _ (by simp; omega)]
  have e2 : i - (l.take i).length = 0 := by simp; omega
  rw [e2, List.set_cons_zero, List.take_succ]
  rw [show l[i]?.toList = [l.getD i (0, 0, 0)] by rw [List.getD_eq_getElem?_getD, List.getElem?_eq_getElem h]; rfl, List.append_assoc]
  rfl
theorem toOpS_c (l : List (Int × Int × Int)) (hl : l.length ≤ 4194304) : Fn Tryz.prog 31 [(0, .c false (.ops l))] [.sl 0 0 l.length] (fun r H => r = .sl 100 0 l.length ∧ H = [(100, .c true (.ops l))]) := by
  refine Fn_go Tryz.func31 ?_
  refine W_go ?_
  refine W_nt 2064 (.ops (List.replicate l.length (0, 0, 0))) ?_ ?_
  case' refine_2 =>
    show (List.replicate l.length (0, 0, 0)).flatMap opL = (List.replicate l.length [AV.int .i64 0, .int .i64 0, .int .i64 0]).flatten
    rw [List.flatMap_def, List.map_replicate]; rfl
  refine W_lp (T := 5) (σ := Nat) (me := fun i => [(4, .int .i64 i)]) (mh := fun i => [(2064, .c true (.ops (l.take i ++ List.replicate (l.length - i) (0, 0, 0))))]) (inv := fun i => i ≤ l.length) (m := fun i => l.length - i) (s0 := 0) (by simp) ?_
  rintro i hi
  have hl2 : (l.take i ++ List.replicate (l.length - i) (0, 0, 0)).length = l.length := by simp; omega
  replace hl2 : Hold _ := ⟨hl2⟩
  have hC := toOp_c (l.getD i (0, 0, 0))
  refine W_go ?_
  refine W_if (fun h1 => ?_) (fun h1 => ?_)
  · refine W_go ?_
    refine W_c1 [] hC ?_
    refine W_nt 2064 (.ops (l.take (i + 1) ++ List.replicate (l.length - (i + 1)) (0, 0, 0))) ?_ ?_
    case' refine_2 =>
      rw [← fill_setO rfl (by omega)]
      exact opL_set3 _ i (by rw [hl2.told]; omega) _
    refine W_go ?_
    refine W_rk 5 [(2064, (2064, 0))] ?_
    refine W_bh (i + 1) (by omega) (by omega) (by rfl)
  · refine W_go ?_
    refine W_rt [(2064, (100, 0))] [] ?_
    have e : i = l.length := by omega
    subst e
    simp
theorem eqOpS_c (a b : List (Int × Int × Int)) (ha : a.length ≤ 4194304) (hb : b.length ≤ 4194304) : Fn Tryz.prog 36 [(0, .c false (.ops a)), (1, .c false (.ops b))] [.sl 0 0 a.length, .sl 1 0 b.length] (fun r H => r = .bool (decide (a = b)) ∧ H = []) := by
  refine Fn_go Tryz.func36 ?_
  refine W_go ?_
  refine W_if (fun h1 => ?_) (fun h1 => ?_)
  · refine W_go ?_
    refine W_rt [] [] ?_
    exact ⟨by rw [decide_eq_false]; rintro rfl; exact h1 rfl, rfl⟩
  have h1 : (a.length : Int) = b.length := Decidable.of_not_not h1
  have h3 : a.length ≤ b.length ∧ b.length ≤ a.length := by omega
  clear h1
  refine W_go ?_
  refine W_lp (T := 6) (σ := Nat) (me := fun i => [(5, .int .i64 i)]) (mh := fun _ => []) (inv := fun i => i ≤ a.length ∧ Hold (∀ j, j < i → a.getD j (0, 0, 0) = b.getD j (0, 0, 0))) (m := fun i => a.length - i) (s0 := 0) ⟨by omega, ⟨by intro j hj; omega⟩⟩ ?_
  rintro i ⟨hi, hI⟩
  have hC := eqOp_c (a.getD i (0, 0, 0)) (b.getD i (0, 0, 0))
  refine W_go ?_
  refine W_if (fun h2 => ?_) (fun h2 => ?_)
  case' refine_2 =>
    refine W_go ?_
    refine W_rt [] [] ?_
    refine ⟨?_, rfl⟩
    rw [decide_eq_true]
    refine List.ext_getElem (by omega) fun j x y => ?_
    have := hI.told j (by omega)
    rw [List.getD_eq_getElem?_getD, List.getD_eq_getElem?_getD, List.getElem?_eq_getElem x, List.getElem?_eq_getElem y] at this
    exact this
  refine W_go ?_
  by_cases g : a.getD i (0, 0, 0) = b.getD i (0, 0, 0)
  · rw [decide_eq_true g] at hC
    replace g : Hold _ := ⟨g⟩
    refine W_dc1 [] hC [.c _ _ _] ?_
    refine W_iff ?_
    refine W_go ?_
    refine W_bk (i + 1) ⟨by omega, ⟨fun j hj => ?_⟩⟩ (by omega)
    by_cases e : j = i
    · subst e; exact g.told
    · exact hI.told j (by omega)
  · rw [decide_eq_false g] at hC
    replace g : Hold _ := ⟨g⟩
    refine W_dc1 [] hC [.c _ _ _] ?_
    refine W_ift ?_
    refine W_go ?_
    refine W_rt [] [] ?_
    exact ⟨by rw [decide_eq_false]; rintro rfl; exact g.told rfl, rfl⟩
def mkO (n : Nat) (k : Int) : List (Int × Int × Int) := (List.range n).map fun (j : Nat) => (k + 3 * (j : Int), k + 3 * (j : Int) + 1, k + 3 * (j : Int) + 1 + 1)
theorem mkO_set (l : List (Int × Int × Int)) (k : Int) (i : Nat) (h : i < l.length) : (mkO i k ++ l.drop i).set i (k + 3 * (i : Int), k + 3 * (i : Int) + 1, k + 3 * (i : Int) + 1 + 1) = mkO (i + 1) k ++ l.drop (i + 1) := by
  have e : (mkO i k).length = i := by simp [mkO]
  rw [List.set_append_right _ _ (by omega), e, Nat.sub_self, List.drop_eq_getElem_cons h, List.set_cons_zero]
  simp [mkO, List.range_succ]
theorem opL_len (l : List (Int × Int × Int)) : (l.flatMap opL).length = 3 * l.length := by
  induction l with
  | nil => rfl
  | cons o l ih => rw [List.flatMap_cons, List.length_append, ih, List.length_cons]; simp [opL]; omega
theorem markOpS_c (l : List (Int × Int × Int)) (k : Int) (hl : l.length ≤ 4194304) (hk : 0 ≤ k ∧ k < 274877906944) : Fn Tryz.prog 39 [(0, .c true (.ops l))] [.sl 0 0 l.length, .int .i64 k] (fun r H => r = .int .i64 (k + 3 * (l.length : Int)) ∧ H = [(0, .c true (.ops (mkO l.length k)))]) := by
  refine Fn_go Tryz.func39 ?_
  refine W_go ?_
  refine W_lp (T := 6) (σ := Nat) (me := fun i => [(5, .int .i64 i), (1, .int .i64 (k + 3 * (i : Int)))]) (mh := fun i => [(0, .c true (.ops (mkO i k ++ l.drop i)))]) (inv := fun i => i ≤ l.length) (m := fun i => l.length - i) (s0 := 0) (Nat.zero_le _) ?_ (hh := by simp [mkO])
  rintro i hi
  have hl2 : (mkO i k ++ l.drop i).length = l.length := by simp [mkO]; omega
  have hfl := opL_len (mkO i k ++ l.drop i)
  rw [hl2] at hfl
  have hfl : 3 * l.length ≤ ((mkO i k ++ l.drop i).flatMap opL).length := by omega
  have hm : (mkO i k).length ≤ i ∧ i ≤ (mkO i k).length := by simp [mkO]
  replace hl2 : Hold _ := ⟨hl2⟩
  refine W_go ?_
  refine W_if (fun h1 => ?_) (fun h1 => ?_)
  · refine W_go ?_
    refine W_nt 0 (.ops (mkO (i + 1) k ++ l.drop (i + 1))) ?_ ?_
    case' refine_2 =>
      rw [← mkO_set _ _ _ (by omega)]
      exact opL_set3 _ i (by rw [hl2.told]; omega) _
    refine W_rk 6 [] ?_
    refine W_bh (i + 1) (by omega) (by omega) (by rfl)
  · refine W_go ?_
    refine W_rt [(0, (0, 0))] [] ?_
    have e : i = l.length := by omega
    subst e
    simp
end Go.Proofs.YthldlaiplfennaaGreat.S
