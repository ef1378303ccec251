/- The common model, fourth part: pointers given up, counts. Own work of this claim; no program in sight. -/
import Derived.Test.YtbcnkfkmonpdeaaFn
namespace Go.Proofs.Ytbcnkfkmonpdeaa.S
set_option linter.all false

/-- Pointers are given up: left and right pointers, freed cells, counts, what is to be given up, and the place in it. -/
structure DS where
  L : List Int
  R : List Int
  G : List Int
  C : List Int
  W : List Int
  i : Nat
def DS.c (s : DS) : Int := s.W.getD s.i 0
def DS.C1 (s : DS) : List Int := s.C.set s.c.toNat (s.C.getD s.c.toNat 0 - 1)
def DS.step (s : DS) : DS :=
  if s.c = -1 then { s with i := s.i + 1 }
  else if 0 < s.C1.getD s.c.toNat 0 then { s with C := s.C1, i := s.i + 1 }
  else ⟨s.L.set s.c.toNat (-1), s.R.set s.c.toNat (-1), s.G ++ [s.c], s.C1, s.W ++ [s.L.getD s.c.toNat 0, s.R.getD s.c.toNat 0], s.i + 1⟩
def dn : Nat → DS → DS
  | 0, s => s
  | k + 1, s => if s.i < s.W.length then dn k s.step else s
structure DInv (n : Nat) (T : List Int) (w : Nat) (s : DS) : Prop where
  lL : s.L.length = n
  lR : s.R.length = n
  lC : s.C.length = n
  oL : okP s.L n
  oR : okP s.R n
  oW : okP s.W n
  nd : s.G.Nodup
  gz : ∀ x, x ∈ s.G → (0 ≤ x ∧ x < n) ∧ s.C.getD x.toNat 0 = 0
  lW : s.W.length = w + 2 * s.G.length
  iW : s.i ≤ s.W.length
  cn : ∀ x : Nat, x < n → s.C.getD x 0 = ((s.L.count (x : Int) + s.R.count (x : Int) + T.count (x : Int) + (s.W.drop s.i).count (x : Int) : Nat) : Int)
theorem DInv.le {n : Nat} {T : List Int} {w : Nat} {s : DS} (h : DInv n T w s) : s.G.length ≤ n ∧ s.W.length ≤ w + 2 * n := by
  have := nodup_le n s.G h.nd fun x hx => (h.gz x hx).1
  have := h.lW
  omega
theorem okP_set {l : List Int} {n : Nat} (h : okP l n) (k : Nat) {x : Int} (hx : -1 ≤ x ∧ x < n) : okP (l.set k x) n := by
  intro j hj
  simp only [List.length_set] at hj
  by_cases hk : k < l.length
  · rw [getD_set hk]; split
    · exact hx
    · exact h j hj
  · rw [List.set_eq_of_length_le (by omega)]; exact h j hj
theorem okP_app {l : List Int} {n : Nat} (h : okP l n) {x y : Int} (hx : -1 ≤ x ∧ x < n) (hy : -1 ≤ y ∧ y < n) : okP (l ++ [x, y]) n := by
  intro j hj
  simp only [List.length_append, List.length_cons, List.length_nil] at hj
  by_cases h1 : j < l.length
  · have : (l ++ [x, y]).getD j 0 = l.getD j 0 := by simp [List.getD_eq_getElem?_getD, List.getElem?_append_left h1]
    rw [this]; exact h j h1
  · have : (l ++ [x, y]).getD j 0 = [x, y].getD (j - l.length) 0 := by simp [List.getD_eq_getElem?_getD, List.getElem?_append_right (Nat.le_of_not_lt h1)]
    rw [this]
    have : j - l.length = 0 ∨ j - l.length = 1 := by omega
    rcases this with e | e <;> rw [e]
    · exact hx
    · exact hy
theorem count_set {l : List Int} {k : Nat} (hk : k < l.length) (x y : Int) : (l.set k y).count x + (if l.getD k 0 = x then 1 else 0) = l.count x + (if y = x then 1 else 0) := by
  induction l generalizing k with
  | nil => simp at hk
  | cons a l ih =>
    cases k with
    | zero => simp only [List.set_cons_zero, List.count_cons, List.getD_cons_zero, beq_iff_eq]; omega
    | succ k =>
      simp only [List.set_cons_succ, List.count_cons, List.getD_cons_succ]
      have := ih (k := k) (by simpa using hk)
      omega
theorem drop_cons {l : List Int} {i : Nat} (h : i < l.length) : l.drop i = l.getD i 0 :: l.drop (i + 1) := by
  rw [List.drop_eq_getElem_cons h]
  simp [List.getD_eq_getElem?_getD, h]
theorem DInv.c_ok {n : Nat} {T : List Int} {w : Nat} {s : DS} (h : DInv n T w s) (hi : s.i < s.W.length) : s.c = -1 ∨ 0 ≤ s.c ∧ s.c < n := okP_get h.oW hi
theorem DInv.bound {n : Nat} {T : List Int} {w : Nat} {s : DS} (h : DInv n T w s) {x : Nat} (hx : x < n) : 0 ≤ s.C.getD x 0 ∧ s.C.getD x 0 ≤ 4 * n + T.length + w := by
  have e := h.cn x hx
  have h1 : s.L.count (x : Int) ≤ s.L.length := List.count_le_length
  have h2 : s.R.count (x : Int) ≤ s.R.length := List.count_le_length
  have h3 : T.count (x : Int) ≤ T.length := List.count_le_length
  have h4 : (s.W.drop s.i).count (x : Int) ≤ (s.W.drop s.i).length := List.count_le_length
  have h5 : (s.W.drop s.i).length ≤ s.W.length := by simp
  have h6 := h.le.2
  have := h.lL
  have := h.lR
  omega
theorem DInv.step {n : Nat} {T : List Int} {w : Nat} {s : DS} (h : DInv n T w s) (hi : s.i < s.W.length) : DInv n T w s.step := by
  have hd := drop_cons hi
  have hc := h.c_ok hi
  have hcd : s.W.getD s.i 0 = s.c := rfl
  rw [hcd] at hd
  unfold DS.step
  by_cases c1 : s.c = -1
  · rw [if_pos c1]
    refine ⟨h.lL, h.lR, h.lC, h.oL, h.oR, h.oW, h.nd, h.gz, h.lW, hi, ?_⟩
    intro x hx
    have e := h.cn x hx
    rw [hd, List.count_cons, c1] at e
    have : ((-1 : Int) == (x : Int)) = false := by simp
    rw [this] at e
    simpa using e
  rw [if_neg c1]
  have hc' : 0 ≤ s.c ∧ s.c < n := by omega
  have hlt : s.c.toNat < n := by omega
  have hC := h.lC
  have hcc : ((s.c.toNat : Nat) : Int) = s.c := by omega
  have hcn := h.cn s.c.toNat hlt
  rw [hcc, hd, List.count_cons, beq_self_eq_true, if_pos rfl] at hcn
  have hnG : s.c ∉ s.G := fun hm => by
    have := (h.gz _ hm).2
    omega
  have hC1 : s.C1.getD s.c.toNat 0 = s.C.getD s.c.toNat 0 - 1 := by
    unfold DS.C1; rw [getD_set (by omega), if_pos rfl]
  have hCo : ∀ x : Nat, x ≠ s.c.toNat → s.C1.getD x 0 = s.C.getD x 0 := by
    intro x hx
    unfold DS.C1; rw [getD_set (by omega), if_neg (Ne.symm hx)]
  have hcnt : ∀ x : Nat, x < n → s.C1.getD x 0 = ((s.L.count (x : Int) + s.R.count (x : Int) + T.count (x : Int) + (s.W.drop (s.i + 1)).count (x : Int) : Nat) : Int) := by
    intro x hx
    by_cases e : x = s.c.toNat
    · subst e
      rw [hC1, hcc]; omega
    · rw [hCo x e, h.cn x hx, hd, List.count_cons]
      have : (s.c == (x : Int)) = false := by simp; omega
      rw [this]; simp
  have hlC : s.C1.length = n := by unfold DS.C1; simp [hC]
  have hgz : ∀ x, x ∈ s.G → (0 ≤ x ∧ x < n) ∧ s.C1.getD x.toNat 0 = 0 := by
    intro x hx
    have := h.gz x hx
    refine ⟨this.1, ?_⟩
    rw [hCo x.toNat (fun e => hnG ((show x = s.c by omega) ▸ hx))]
    exact this.2
  by_cases c2 : 0 < s.C1.getD s.c.toNat 0
  · rw [if_pos c2]
    exact ⟨h.lL, h.lR, hlC, h.oL, h.oR, h.oW, h.nd, hgz, h.lW, hi, hcnt⟩
  rw [if_neg c2]
  have hz : s.C1.getD s.c.toNat 0 = 0 := by
    have := hcnt s.c.toNat hlt
    omega
  have hL := h.lL
  have hR := h.lR
  refine ⟨by simp [hL], by simp [hR], hlC, okP_set h.oL _ (by omega), okP_set h.oR _ (by omega), okP_app h.oW (h.oL _ (by omega)) (h.oR _ (by omega)), ?_, ?_, ?_, by simp; omega, ?_⟩
  · rw [List.nodup_append]
    refine ⟨h.nd, by simp, ?_⟩
    intro x hx y hy e
    simp at hy; subst hy; subst e; exact hnG hx
  · intro x hx
    rw [List.mem_append] at hx
    rcases hx with hx | hx
    · exact hgz x hx
    · simp at hx; subst hx; exact ⟨hc', hz⟩
  · simp only [List.length_append, List.length_cons, List.length_nil]
    have := h.lW; omega
  · intro x hx
    have e := hcnt x hx
    have e1 := count_set (l := s.L) (k := s.c.toNat) (by omega) (x : Int) (-1)
    have e2 := count_set (l := s.R) (k := s.c.toNat) (by omega) (x : Int) (-1)
    rw [if_neg (by omega : ¬ (-1 : Int) = (x : Int))] at e1 e2
    have e3 : ((s.W ++ [s.L.getD s.c.toNat 0, s.R.getD s.c.toNat 0]).drop (s.i + 1)).count (x : Int) = (s.W.drop (s.i + 1)).count (x : Int) + (if s.L.getD s.c.toNat 0 = (x : Int) then 1 else 0) + (if s.R.getD s.c.toNat 0 = (x : Int) then 1 else 0) := by
      rw [List.drop_append_of_le_length (by omega), List.count_append]
      simp only [List.count_cons, List.count_nil, beq_iff_eq]
      omega
    simp only
    rw [e, e3]
    omega
theorem dn_end {s : DS} (h : ¬ s.i < s.W.length) : ∀ k, dn k s = s
  | 0 => rfl
  | k + 1 => by rw [dn, if_neg h]
theorem step_i (s : DS) : s.step.i = s.i + 1 := by
  unfold DS.step; split
  · rfl
  · split <;> rfl
theorem DInv.drop {h : Hp} (ho : h.ok) {r : Nat} (hr : r < h.T.length) : DInv h.L.length (h.T.set r (-1)) 1 ⟨h.L, h.R, [], h.cnt, [h.T.getD r 0], 0⟩ := by
  have hc : h.cnt = cntN h.L.length h.all h.all.length := by rw [Hp.cnt, if_pos (by simp [Hp.valid, ho])]
  have o3 := ho.2.2.2 r hr
  refine ⟨rfl, ho.1.2.2.1, by rw [hc, cntN_len], ho.2.1, ho.2.2.1, ?_, by simp, by simp, by simp, by simp, ?_⟩
  · intro j hj
    obtain rfl : j = 0 := by simpa using hj
    exact o3
  · intro x hx
    rw [hc, cntN_getD hx, List.take_length, Hp.all, List.count_append, List.count_append]
    have e := count_set hr (x : Int) (-1)
    rw [if_neg (by omega : ¬ (-1 : Int) = (x : Int))] at e
    simp only [List.drop_zero, List.count_cons, List.count_nil, beq_iff_eq]
    omega
theorem DInv.take {s : Sto} (ho : s.ok) {r : Nat} (hr : r < s.h.T.length) (hF : s.F.length ≠ 0) : DInv s.h.L.length (s.h.T.set r (s.F.getD 0 0)) 1 ⟨s.h.L, s.h.R, [], s.h.cnt.set (s.F.getD 0 0).toNat 1, [s.h.T.getD r 0], 0⟩ := by
  have hc : s.h.cnt = cntN s.h.L.length s.h.all s.h.all.length := by rw [Hp.cnt, if_pos (by simp [Hp.valid, ho.1])]
  have o3 := ho.1.2.2.2 r hr
  obtain ⟨f1, _, _, f4, f5, f6⟩ := (ho.2 0 (by omega)).1
  generalize hcell : s.F.getD 0 0 = cell at *
  have hlc : s.h.cnt.length = s.h.L.length := by rw [hc, cntN_len]
  refine ⟨rfl, ho.1.1.2.2.1, by simp [hlc], ho.1.2.1, ho.1.2.2.1, ?_, by simp, by simp, by simp, by simp, ?_⟩
  · intro j hj
    obtain rfl : j = 0 := by simpa using hj
    exact o3
  · intro x hx
    have e := count_set hr (x : Int) cell
    simp only [List.drop_zero, List.count_cons, List.count_nil, beq_iff_eq]
    rw [getD_set (by omega)]
    by_cases hxc : cell.toNat = x
    · rw [if_pos hxc]
      have hcx : cell = (x : Int) := by omega
      have z1 := List.count_eq_zero.2 f4
      have z2 := List.count_eq_zero.2 f5
      have z3 := List.count_eq_zero.2 f6
      rw [hcx] at z1 z2 z3
      rw [if_pos hcx] at e
      omega
    · rw [if_neg hxc]
      rw [if_neg (by omega : ¬ cell = (x : Int))] at e
      rw [hc, cntN_getD hx, List.take_length, Hp.all, List.count_append, List.count_append]
      omega
end Go.Proofs.Ytbcnkfkmonpdeaa.S
