/- Texts of this claim's own layer, laid as one: Fm Fn Fq Fs. Own work of this claim. -/

/- The common model: heaps and stores as lists, and what the program's functions answer of them. Own work of this claim; no program in sight. -/
namespace Go.Proofs.YtbobhbhgomkgpaaGreatDoor.S
set_option linter.all false

structure Hp where
  L : List Int
  R : List Int
  T : List Int
structure Sto where
  h : Hp
  F : List Int

def idx (l : List Int) (n : Int) : Int := match l.findIdx? (fun x => decide (x = n)) with | some i => i | none => -1
theorem idx_at {l : List Int} {n : Int} {i : Nat} (hi : i < l.length) (h : ∀ j, j < i → l.getD j 0 ≠ n) (he : l.getD i 0 = n) : idx l n = i := by
  have : l.findIdx? (fun x => decide (x = n)) = some i := by
    rw [List.findIdx?_eq_some_iff_getElem]
    refine ⟨hi, by simpa [List.getD_eq_getElem?_getD, hi] using he, fun j hj => ?_⟩
    have := h j hj
    have hj' : j < l.length := by omega
    simpa [List.getD_eq_getElem?_getD, hj'] using this
  simp [idx, this]
theorem idx_none {l : List Int} {n : Int} (h : ∀ j, j < l.length → l.getD j 0 ≠ n) : idx l n = -1 := by
  have : l.findIdx? (fun x => decide (x = n)) = none := by
    rw [List.findIdx?_eq_none_iff]
    intro x hx
    obtain ⟨j, hj, rfl⟩ := List.getElem_of_mem hx
    have := h j hj
    simpa [List.getD_eq_getElem?_getD, hj] using this
  simp [idx, this]

/-- Two lists agree up to a place. -/
theorem same_of {a b : List Int} (hl : a.length = b.length) (h : ∀ j, j < a.length → a.getD j 0 = b.getD j 0) : a = b := by
  apply List.ext_getElem hl
  intro i h1 h2
  have := h i h1
  simpa [List.getD_eq_getElem?_getD, h1, h2] using this
theorem take_succ_getD {l : List Int} {i : Nat} (h : i < l.length) : l.take i ++ [l.getD i 0] = l.take (i + 1) := by
  rw [List.take_add_one]; simp [List.getD_eq_getElem?_getD, h]

theorem fill_set {l : List Int} {x : Int} {n i : Nat} (hn : n = l.length) (h : i < n) : (l.take i ++ List.replicate (n - i) x).set i (l.getD i 0) = l.take (i + 1) ++ List.replicate (n - (i + 1)) x := by
  subst hn
  have e : l.length - i = (l.length - (i + 1)) + 1 := by omega
  rw [e, List.replicate_succ, List.set_append_right _ _ (by simp; omega)]
  have : i - (l.take i).length = 0 := by simp; omega
  rw [this, List.set_cons_zero, ← take_succ_getD h]
  simp
/-- The bulk of lists. -/
def szI (l : List Int) (n : Int) : Int := if n - l.length < 0 then -1 else n - l.length
def szH (h : Hp) (n : Int) : Int :=
  if szI h.L n < 0 then -1 else if szI h.R (szI h.L n) < 0 then -1 else if szI h.T (szI h.R (szI h.L n)) < 0 then -1 else szI h.T (szI h.R (szI h.L n))
def szS (s : Sto) (n : Int) : Int := if szH s.h n < 0 then -1 else if szI s.F (szH s.h n) < 0 then -1 else szI s.F (szH s.h n)
/-- Marks. -/
def mkI (n : Nat) (k : Int) : List Int := (List.range n).map fun (j : Nat) => k + (j : Int)
def hdI (l : List Int) (k : Int) : Int := if l = mkI l.length k then k + l.length else -1
def hdH (h : Hp) (k : Int) : Int := if hdI h.L k < 0 then -1 else if hdI h.R (hdI h.L k) < 0 then -1 else if hdI h.T (hdI h.R (hdI h.L k)) < 0 then -1 else hdI h.T (hdI h.R (hdI h.L k))
def hdS (s : Sto) (k : Int) : Int := if hdH s.h k < 0 then -1 else if hdI s.F (hdH s.h k) < 0 then -1 else hdI s.F (hdH s.h k)
/-- Two heaps, two stores agree. -/
def Hp.same (a b : Hp) : Bool := decide (a.L = b.L) && (decide (a.R = b.R) && decide (a.T = b.T))
def Sto.same (a b : Sto) : Bool := a.h.same b.h && decide (a.F = b.F)
theorem szI_lt {l : List Int} {n : Int} : szI l n = n - l.length ∧ 0 ≤ szI l n ∨ szI l n = -1 ∧ n < l.length := by
  unfold szI; split <;> omega
/-- Pointers into n cells. -/
def okP (l : List Int) (n : Nat) : Prop := ∀ j, j < l.length → (-1 ≤ l.getD j 0 ∧ l.getD j 0 < n)
instance decFm1 (l : List Int) (n : Nat) : Decidable (okP l n) := by unfold okP; infer_instance
def Hp.ok (h : Hp) : Prop := (1 ≤ h.L.length ∧ h.L.length ≤ 8 ∧ h.R.length = h.L.length ∧ 1 ≤ h.T.length ∧ h.T.length ≤ 3) ∧ okP h.L h.L.length ∧ okP h.R h.L.length ∧ okP h.T h.L.length
instance decFm2 (h : Hp) : Decidable h.ok := by unfold Hp.ok; infer_instance
def Hp.valid (h : Hp) : Bool := decide h.ok
end Go.Proofs.YtbobhbhgomkgpaaGreatDoor.S

/- The common model, second part: reach, counts, free cells, clearing. Own work of this claim; no program in sight. -/
namespace Go.Proofs.YtbobhbhgomkgpaaGreatDoor.S
set_option linter.all false

/-! Places -/
theorem getD_mem {l : List Int} {i : Nat} (h : i < l.length) : l.getD i 0 ∈ l := by
  rw [List.getD_eq_getElem?_getD, List.getElem?_eq_getElem h]; exact List.getElem_mem h
theorem mem_getD {l : List Int} {x : Int} (h : x ∈ l) : ∃ i, i < l.length ∧ l.getD i 0 = x := by
  obtain ⟨i, hi, rfl⟩ := List.getElem_of_mem h
  exact ⟨i, hi, by rw [List.getD_eq_getElem?_getD, List.getElem?_eq_getElem hi]; rfl⟩
theorem idx_nonneg (l : List Int) (n : Int) : 0 ≤ idx l n ↔ n ∈ l := by
  unfold idx
  split
  · rename_i i h
    refine ⟨fun _ => ?_, fun _ => by omega⟩
    rw [List.findIdx?_eq_some_iff_getElem] at h
    obtain ⟨hi, h1, _⟩ := h
    have := of_decide_eq_true h1
    rw [← this]; exact List.getElem_mem hi
  · rename_i h
    rw [List.findIdx?_eq_none_iff] at h
    refine ⟨fun q => by omega, fun hm => ?_⟩
    have := h n hm
    simp at this
theorem idx_neg (l : List Int) (n : Int) : idx l n < 0 ↔ n ∉ l := by
  rw [← idx_nonneg]; omega
theorem getD_set {l : List Int} {i j : Nat} {x : Int} (h : i < l.length) : (l.set i x).getD j 0 = if i = j then x else l.getD j 0 := by
  simp only [List.getD_eq_getElem?_getD, List.getElem?_set]
  split
  · simp [h]
  · rfl
theorem getD_range_map {f : Nat → Int} {n i : Nat} (h : i < n) : ((List.range n).map f).getD i 0 = f i := by
  simp [List.getD_eq_getElem?_getD, h]
/-! A list that is turned from its begin on -/
def preN (f : Nat → Int) (l : List Int) (i : Nat) : List Int := (List.range i).map f ++ l.drop i
theorem pre_zero (f : Nat → Int) (l : List Int) : preN f l 0 = l := by simp [preN]
theorem pre_len {f : Nat → Int} {l : List Int} {i : Nat} (h : i ≤ l.length) : (preN f l i).length = l.length := by simp [preN]; omega
theorem pre_get {f : Nat → Int} {l : List Int} {i : Nat} (h : i < l.length) : (preN f l i).getD i 0 = l.getD i 0 := by
  simp [preN, List.getD_eq_getElem?_getD, List.getElem?_append_right]
theorem pre_set {f : Nat → Int} {l : List Int} {i : Nat} (h : i < l.length) : (preN f l i).set i (f i) = preN f l (i + 1) := by
  unfold preN
  rw [List.set_append_right _ _ (by simp), List.length_map, List.length_range, Nat.sub_self, List.drop_eq_getElem_cons h, List.set_cons_zero]
  simp [List.range_succ]
theorem pre_skip {f : Nat → Int} {l : List Int} {i : Nat} (h : i < l.length) (he : f i = l.getD i 0) : preN f l i = preN f l (i + 1) := by
  unfold preN
  rw [List.drop_eq_getElem_cons h]
  simp [List.range_succ, he, List.getD_eq_getElem?_getD, h]
theorem pre_full (f : Nat → Int) (l : List Int) : preN f l l.length = (List.range l.length).map f := by simp [preN]

/-! Reach -/
inductive Reach (h : Hp) : Nat → Prop
  | root {j c : Nat} (hj : j < h.T.length) (hc : h.T.getD j 0 = c) : Reach h c
  | left {a c : Nat} (ha : Reach h a) (hc : h.L.getD a 0 = c) : Reach h c
  | right {a c : Nat} (ha : Reach h a) (hc : h.R.getD a 0 = c) : Reach h c
theorem Reach.lt {h : Hp} (ho : h.ok) {c : Nat} (hr : Reach h c) : c < h.L.length := by
  obtain ⟨⟨_, _, hR, _, _⟩, o1, o2, o3⟩ := ho
  induction hr with
  | root hj hc => have := o3 _ hj; omega
  | left ha hc ih => have := o1 _ ih; omega
  | @right a c ha hc ih => have := o2 a (by omega); omega
open Classical in
noncomputable def Hp.reach (h : Hp) : List Bool := if h.valid then (List.range h.L.length).map fun i => decide (Reach h i) else []
def posN (D : List Int) (i : Nat) : List Bool := (List.range i).map fun j => decide (0 < D.getD j 0)
theorem posN_succ (D : List Int) (i : Nat) : posN D (i + 1) = posN D i ++ [decide (0 < D.getD i 0)] := by simp [posN, List.range_succ]
theorem posN_len (D : List Int) (i : Nat) : (posN D i).length = i := by simp [posN]
theorem reach_len (h : Hp) : h.reach.length = if h.valid then h.L.length else 0 := by
  unfold Hp.reach; split <;> simp
theorem reach_of {h : Hp} (hv : h.valid = true) {D : List Int} (hD : ∀ c, c < h.L.length → (0 < D.getD c 0 ↔ Reach h c)) : posN D h.L.length = h.reach := by
  unfold Hp.reach posN
  rw [if_pos hv]
  apply List.map_congr_left
  intro c hc
  rw [List.mem_range] at hc
  rw [decide_eq_decide]
  exact hD c hc
theorem reach_getD {h : Hp} (hv : h.valid = true) {c : Nat} (hc : c < h.L.length) : h.reach.getD c false = true ↔ Reach h c := by
  unfold Hp.reach
  rw [if_pos hv]
  simp [List.getD_eq_getElem?_getD, hc]

/-! The walk over what roots lead to: distances (0: not met yet), and what is to be looked at -/
structure Bfs (h : Hp) (D Q : List Int) : Prop where
  len : D.length = h.L.length
  nd : Q.Nodup
  inn : ∀ x, x ∈ Q → 0 ≤ x ∧ x < h.L.length ∧ Reach h x.toNat
  met : ∀ c, c < h.L.length → (0 < D.getD c 0 ↔ (c : Int) ∈ Q)
  far : ∀ c, c < h.L.length → 0 ≤ D.getD c 0 ∧ D.getD c 0 ≤ Q.length
theorem nodup_le : ∀ (n : Nat) (l : List Int), l.Nodup → (∀ x, x ∈ l → 0 ≤ x ∧ x < n) → l.length ≤ n
  | 0, l, _, h => by
    cases l with
    | nil => simp
    | cons a l => have := h a (by simp); omega
  | n + 1, l, hn, h => by
    have h1 := nodup_le n (l.erase (n : Int)) (hn.erase _) (fun x hx => by
      rw [hn.mem_erase_iff] at hx
      have := h x hx.2
      have h3 := hx.1
      omega)
    have h2 := List.length_erase (a := (n : Int)) (l := l)
    split at h2 <;> omega
theorem Bfs.le {h : Hp} {D Q : List Int} (b : Bfs h D Q) : Q.length ≤ h.L.length := nodup_le _ _ b.nd fun x hx => by have := b.inn x hx; omega
def meetD (D : List Int) (p far : Int) : List Int := if p ≠ -1 ∧ D.getD p.toNat 0 = 0 then D.set p.toNat far else D
def meetQ (D Q : List Int) (p : Int) : List Int := if p ≠ -1 ∧ D.getD p.toNat 0 = 0 then Q ++ [p] else Q
theorem Bfs.meet {h : Hp} {D Q : List Int} (b : Bfs h D Q) {p far : Int} (hp : p = -1 ∨ 0 ≤ p ∧ p < h.L.length ∧ Reach h p.toNat) (hf : 0 < far ∧ far ≤ Q.length + 1) : Bfs h (meetD D p far) (meetQ D Q p) := by
  unfold meetD meetQ
  by_cases hc : p ≠ -1 ∧ D.getD p.toNat 0 = 0
  · rw [if_pos hc, if_pos hc]
    have hp' : 0 ≤ p ∧ p < h.L.length ∧ Reach h p.toNat := by rcases hp with q | q; exact absurd q hc.1; exact q
    have hlt : p.toNat < h.L.length := by omega
    have hnm : p ∉ Q := fun hm => by
      have := (b.met p.toNat hlt).2 (by rw [Int.toNat_of_nonneg hp'.1]; exact hm)
      omega
    have hl := b.len
    refine ⟨by simp [hl], ?_, ?_, ?_, ?_⟩
    · rw [List.nodup_append]
      refine ⟨b.nd, by simp, ?_⟩
      intro x hx y hy
      simp at hy; subst hy
      intro e; subst e; exact hnm hx
    · intro x hx
      rw [List.mem_append] at hx
      rcases hx with hx | hx
      · exact b.inn x hx
      · simp at hx; subst hx; exact hp'
    · intro c hcl
      rw [getD_set (by omega), List.mem_append]
      by_cases e : p.toNat = c
      · rw [if_pos e]
        have : (c : Int) = p := by omega
        simp [this]; exact hf.1
      · rw [if_neg e, b.met c hcl]
        have : (c : Int) ≠ p := by omega
        simp [this]
    · intro c hcl
      rw [getD_set (by omega), List.length_append]
      have := b.far c hcl
      simp only [List.length_cons, List.length_nil]
      split <;> omega
  · rw [if_neg hc, if_neg hc]
    exact b
theorem meetQ_sub (D Q : List Int) (p : Int) {x : Int} (hx : x ∈ Q) : x ∈ meetQ D Q p := by
  unfold meetQ; split
  · exact List.mem_append_left _ hx
  · exact hx
theorem meetQ_in {h : Hp} {D Q : List Int} (b : Bfs h D Q) {p : Int} (hp : p = -1 ∨ 0 ≤ p ∧ p < h.L.length ∧ Reach h p.toNat) (h1 : p ≠ -1) : p ∈ meetQ D Q p := by
  unfold meetQ
  by_cases hc : p ≠ -1 ∧ D.getD p.toNat 0 = 0
  · rw [if_pos hc]; simp
  · rw [if_neg hc]
    have hp' : 0 ≤ p ∧ p < h.L.length ∧ Reach h p.toNat := by rcases hp with q | q; exact absurd q h1; exact q
    have hlt : p.toNat < h.L.length := by omega
    have h2 : D.getD p.toNat 0 ≠ 0 := fun e => hc ⟨h1, e⟩
    have h3 := (b.far p.toNat hlt).1
    have := (b.met p.toNat hlt).1 (by omega)
    rwa [Int.toNat_of_nonneg hp'.1] at this
theorem meetQ_getD (D Q : List Int) (p : Int) {i : Nat} (hi : i < Q.length) : (meetQ D Q p).getD i 0 = Q.getD i 0 ∧ Q.length ≤ (meetQ D Q p).length := by
  unfold meetQ; split
  · simp [List.getD_eq_getElem?_getD, List.getElem?_append_left hi]
  · exact ⟨rfl, Nat.le_refl _⟩
/-- The roots up to k, and what the first i lead to, have been met. -/
structure Bfs2 (h : Hp) (D Q : List Int) (k i : Nat) : Prop where
  b : Bfs h D Q
  rt : ∀ j, j < k → h.T.getD j 0 ≠ -1 → h.T.getD j 0 ∈ Q
  ch : ∀ j, j < i → (h.L.getD (Q.getD j 0).toNat 0 ≠ -1 → h.L.getD (Q.getD j 0).toNat 0 ∈ Q) ∧ (h.R.getD (Q.getD j 0).toNat 0 ≠ -1 → h.R.getD (Q.getD j 0).toNat 0 ∈ Q)
theorem bfs_start (h : Hp) : Bfs2 h (List.replicate h.L.length 0) [] 0 0 := by
  refine ⟨⟨by simp, by simp, by simp, ?_, ?_⟩, by intro j hj; omega, by intro j hj; omega⟩
  · intro c hc
    have : (List.replicate h.L.length (0 : Int)).getD c 0 = 0 := by simp [List.getD_eq_getElem?_getD, List.getElem?_replicate]; split <;> rfl
    rw [this]; simp
  · intro c hc
    have : (List.replicate h.L.length (0 : Int)).getD c 0 = 0 := by simp [List.getD_eq_getElem?_getD, List.getElem?_replicate]; split <;> rfl
    rw [this]; simp
theorem okP_get {l : List Int} {n : Nat} (h : okP l n) {j : Nat} (hj : j < l.length) : l.getD j 0 = -1 ∨ 0 ≤ l.getD j 0 ∧ l.getD j 0 < n := by
  have := h j hj; omega
theorem Bfs2.root {h : Hp} (ho : h.ok) {D Q : List Int} {k : Nat} (b : Bfs2 h D Q k 0) (hk : k < h.T.length) : Bfs2 h (meetD D (h.T.getD k 0) 1) (meetQ D Q (h.T.getD k 0)) (k + 1) 0 := by
  have hp : h.T.getD k 0 = -1 ∨ 0 ≤ h.T.getD k 0 ∧ h.T.getD k 0 < h.L.length ∧ Reach h (h.T.getD k 0).toNat := by
    rcases okP_get ho.2.2.2 hk with q | q
    · exact .inl q
    · exact .inr ⟨q.1, q.2, .root hk (by omega)⟩
  refine ⟨b.b.meet hp (by omega), ?_, by intro j hj; omega⟩
  intro j hj hne
  by_cases e : j = k
  · subst e; exact meetQ_in b.b hp hne
  · exact meetQ_sub _ _ _ (b.rt j (by omega) hne)
/-- What one cell leads to is met. -/
theorem Bfs2.cell {h : Hp} (ho : h.ok) {D Q : List Int} {i : Nat} (b : Bfs2 h D Q h.T.length i) (hi : i < Q.length) :
    Bfs h (meetD D (h.L.getD (Q.getD i 0).toNat 0) (D.getD (Q.getD i 0).toNat 0 + 1)) (meetQ D Q (h.L.getD (Q.getD i 0).toNat 0)) ∧
    ∀ D1 Q1, D1 = meetD D (h.L.getD (Q.getD i 0).toNat 0) (D.getD (Q.getD i 0).toNat 0 + 1) → Q1 = meetQ D Q (h.L.getD (Q.getD i 0).toNat 0) →
      Q1.getD i 0 = Q.getD i 0 ∧ i < Q1.length ∧ Bfs2 h (meetD D1 (h.R.getD (Q.getD i 0).toNat 0) (D1.getD (Q.getD i 0).toNat 0 + 1)) (meetQ D1 Q1 (h.R.getD (Q.getD i 0).toNat 0)) h.T.length (i + 1) := by
  obtain ⟨⟨_, _, hR, _, _⟩, o1, o2, o3⟩ := ho
  obtain ⟨c1, c2, c3⟩ := b.b.inn _ (getD_mem hi)
  generalize hc : Q.getD i 0 = c at *
  have hlt : c.toNat < h.L.length := by omega
  have hpl : h.L.getD c.toNat 0 = -1 ∨ 0 ≤ h.L.getD c.toNat 0 ∧ h.L.getD c.toNat 0 < h.L.length ∧ Reach h (h.L.getD c.toNat 0).toNat := by
    rcases okP_get o1 hlt with q | q
    · exact .inl q
    · exact .inr ⟨q.1, q.2, .left c3 (by omega)⟩
  have hpr : h.R.getD c.toNat 0 = -1 ∨ 0 ≤ h.R.getD c.toNat 0 ∧ h.R.getD c.toNat 0 < h.L.length ∧ Reach h (h.R.getD c.toNat 0).toNat := by
    rcases okP_get o2 (j := c.toNat) (by omega) with q | q
    · exact .inl q
    · exact .inr ⟨q.1, q.2, .right c3 (by omega)⟩
  have hf := b.b.far c.toNat hlt
  have b1 := b.b.meet hpl (far := D.getD c.toNat 0 + 1) (by omega)
  refine ⟨b1, ?_⟩
  intro D1 Q1 e1 e2
  have g := meetQ_getD D Q (h.L.getD c.toNat 0) hi
  rw [← e2] at g
  rw [← e1, ← e2] at b1
  have hf1 := b1.far c.toNat hlt
  refine ⟨by rw [g.1, hc], by omega, b1.meet hpr (by omega), ?_, ?_⟩
  · intro j hj hne
    exact meetQ_sub _ _ _ (by rw [e2]; exact meetQ_sub _ _ _ (b.rt j hj hne))
  · intro j hj
    have g1 := meetQ_getD D Q (h.L.getD c.toNat 0) (i := j) (by omega)
    rw [← e2] at g1
    have g2 := meetQ_getD D1 Q1 (h.R.getD c.toNat 0) (i := j) (by omega)
    rw [g2.1, g1.1]
    by_cases e : j = i
    · subst e
      rw [hc]
      exact ⟨fun hne => meetQ_sub _ _ _ (by rw [e2]; exact meetQ_in b.b hpl hne), fun hne => meetQ_in b1 hpr hne⟩
    · have := b.ch j (by omega)
      exact ⟨fun hne => meetQ_sub _ _ _ (by rw [e2]; exact meetQ_sub _ _ _ (this.1 hne)), fun hne => meetQ_sub _ _ _ (by rw [e2]; exact meetQ_sub _ _ _ (this.2 hne))⟩
/-- The same in two steps; distances of the reference (-1: not met yet). -/
def nx (h : Hp) (c k : Nat) : Int := [h.L.getD c 0, h.R.getD c 0].getD k 0
def stD (h : Hp) (D : List Int) (c : Nat) : Nat → List Int
  | 0 => D
  | k + 1 => meetD (stD h D c k) (nx h c k) ((stD h D c k).getD c 0 + 1)
def stQ (h : Hp) (D Q : List Int) (c : Nat) : Nat → List Int
  | 0 => Q
  | k + 1 => meetQ (stD h D c k) (stQ h D Q c k) (nx h c k)
theorem Bfs2.st {h : Hp} (ho : h.ok) {D Q : List Int} {i : Nat} (b : Bfs2 h D Q h.T.length i) (hi : i < Q.length) {k : Nat} (hk : k < 2) :
    Bfs h (stD h D (Q.getD i 0).toNat k) (stQ h D Q (Q.getD i 0).toNat k) ∧ 0 < (stD h D (Q.getD i 0).toNat k).getD (Q.getD i 0).toNat 0 ∧
    (nx h (Q.getD i 0).toNat k = -1 ∨ 0 ≤ nx h (Q.getD i 0).toNat k ∧ nx h (Q.getD i 0).toNat k < h.L.length) ∧ (stQ h D Q (Q.getD i 0).toNat k).getD i 0 = Q.getD i 0 := by
  have hR : h.R.length = h.L.length := ho.1.2.2.1
  obtain ⟨c1, c2, c3⟩ := b.b.inn _ (getD_mem hi)
  have hlt : (Q.getD i 0).toNat < h.L.length := by omega
  obtain ⟨b1, b2⟩ := b.cell ho hi
  obtain ⟨d1, d2, _⟩ := b2 _ _ rfl rfl
  match k with
  | 0 =>
    refine ⟨b.b, (b.b.met _ hlt).2 (by rw [Int.toNat_of_nonneg c1]; exact getD_mem hi), ?_, rfl⟩
    exact okP_get ho.2.1 hlt
  | 1 =>
    refine ⟨b1, (b1.met _ hlt).2 (by rw [Int.toNat_of_nonneg c1]; exact meetQ_sub _ _ _ (getD_mem hi)), ?_, d1⟩
    exact okP_get ho.2.2.1 (by omega)
  | k + 2 => omega
theorem Bfs2.two {h : Hp} (ho : h.ok) {D Q : List Int} {i : Nat} (b : Bfs2 h D Q h.T.length i) (hi : i < Q.length) :
    Bfs2 h (stD h D (Q.getD i 0).toNat 2) (stQ h D Q (Q.getD i 0).toNat 2) h.T.length (i + 1) ∧ i < (stQ h D Q (Q.getD i 0).toNat 2).length := by
  obtain ⟨_, b2⟩ := b.cell ho hi
  obtain ⟨d1, d2, d3⟩ := b2 _ _ rfl rfl
  refine ⟨d3, ?_⟩
  have := (meetQ_getD (stD h D (Q.getD i 0).toNat 1) (stQ h D Q (Q.getD i 0).toNat 1) (nx h (Q.getD i 0).toNat 1) (i := i) d2).2
  exact Nat.lt_of_lt_of_le d2 this
def l2L (D : List Int) : List Int := D.map fun x => if x = 0 then -1 else x
theorem l2L_len (D : List Int) : (l2L D).length = D.length := by simp [l2L]
theorem l2L_rep (n : Nat) : l2L (List.replicate n 0) = List.replicate n (-1) := by simp [l2L]
theorem l2L_getD {D : List Int} {c : Nat} (h : c < D.length) : (l2L D).getD c 0 = if D.getD c 0 = 0 then -1 else D.getD c 0 := by
  simp [l2L, List.getD_eq_getElem?_getD, h]
theorem l2L_set {D : List Int} {c : Nat} {x : Int} (hx : x ≠ 0) : l2L (D.set c x) = (l2L D).set c x := by
  simp [l2L, List.map_set, hx]
theorem l2L_pos {D : List Int} {c : Nat} (h : c < D.length) : 0 < (l2L D).getD c 0 ↔ 0 < D.getD c 0 := by
  rw [l2L_getD h]; split <;> omega
theorem Bfs2.done {h : Hp} {D Q : List Int} (b : Bfs2 h D Q h.T.length Q.length) (ho : h.ok) : ∀ c, c < h.L.length → (0 < D.getD c 0 ↔ Reach h c) := by
  have key : ∀ c, Reach h c → (c : Int) ∈ Q := by
    intro c hr
    induction hr with
    | root hj hc => have := b.rt _ hj (by omega); rwa [hc] at this
    | left ha hc ih =>
      obtain ⟨j, hj, e⟩ := mem_getD ih
      have := (b.ch j hj).1
      rw [e, Int.toNat_natCast, hc] at this
      exact this (by omega)
    | right ha hc ih =>
      obtain ⟨j, hj, e⟩ := mem_getD ih
      have := (b.ch j hj).2
      rw [e, Int.toNat_natCast, hc] at this
      exact this (by omega)
  intro c hc
  rw [b.b.met c hc]
  refine ⟨fun hm => ?_, key c⟩
  have := (b.b.inn _ hm).2.2
  rwa [Int.toNat_natCast] at this

/-! Garbage -/
def flsN (r : List Bool) : Nat → List Int
  | 0 => []
  | n + 1 => if r.getD n false then flsN r n else flsN r n ++ [(n : Int)]
theorem flsN_mem (r : List Bool) : ∀ n x, x ∈ flsN r n ↔ ∃ i : Nat, i < n ∧ x = i ∧ r.getD i false = false
  | 0, x => by simp [flsN]
  | n + 1, x => by
    have ih := flsN_mem r n x
    unfold flsN; split
    · rename_i h
      rw [ih]
      constructor
      · rintro ⟨i, h1, h2, h3⟩; exact ⟨i, by omega, h2, h3⟩
      · rintro ⟨i, h1, h2, h3⟩
        refine ⟨i, ?_, h2, h3⟩
        by_cases e : i = n
        · subst e; rw [h] at h3; cases h3
        · omega
    · rename_i h
      rw [List.mem_append, ih]
      constructor
      · rintro (⟨i, h1, h2, h3⟩ | hx)
        · exact ⟨i, by omega, h2, h3⟩
        · simp at hx; exact ⟨n, by omega, hx, by simpa using h⟩
      · rintro ⟨i, h1, h2, h3⟩
        by_cases e : i = n
        · subst e; right; simp [h2]
        · left; exact ⟨i, by omega, h2, h3⟩
theorem flsN_nodup (r : List Bool) : ∀ n, (flsN r n).Nodup
  | 0 => by simp [flsN]
  | n + 1 => by
    have ih := flsN_nodup r n
    unfold flsN; split
    · exact ih
    · rw [List.nodup_append]
      refine ⟨ih, by simp, ?_⟩
      intro x hx y hy e
      simp at hy; subst hy; subst e
      obtain ⟨i, h1, h2, _⟩ := (flsN_mem r n _).1 hx
      omega
noncomputable def Hp.garb (h : Hp) : List Int := flsN h.reach h.reach.length
theorem garb_mem {h : Hp} (hv : h.valid = true) (x : Int) : x ∈ h.garb ↔ ∃ i : Nat, i < h.L.length ∧ x = i ∧ ¬ Reach h i := by
  unfold Hp.garb
  rw [flsN_mem, reach_len, if_pos hv]
  constructor
  · rintro ⟨i, h1, h2, h3⟩
    exact ⟨i, h1, h2, fun hr => by rw [(reach_getD hv h1).2 hr] at h3; cases h3⟩
  · rintro ⟨i, h1, h2, h3⟩
    refine ⟨i, h1, h2, ?_⟩
    cases hb : h.reach.getD i false with
    | false => rfl
    | true => exact absurd ((reach_getD hv h1).1 hb) h3

/-! Counts -/
def cntN (n : Nat) (l : List Int) (k : Nat) : List Int := (List.range n).map fun (i : Nat) => (((l.take k).count (i : Int) : Nat) : Int)
def Hp.all (h : Hp) : List Int := h.L ++ h.R ++ h.T
def Hp.cnt (h : Hp) : List Int := if h.valid then cntN h.L.length h.all h.all.length else []
theorem cntN_len (n : Nat) (l : List Int) (k : Nat) : (cntN n l k).length = n := by simp [cntN]
theorem cntN_zero (n : Nat) (l : List Int) : cntN n l 0 = List.replicate n 0 := by
  apply List.ext_getElem
  · simp [cntN]
  · intro i h1 h2; simp [cntN]
theorem cntN_getD {n : Nat} {l : List Int} {k i : Nat} (h : i < n) : (cntN n l k).getD i 0 = (((l.take k).count (i : Int) : Nat) : Int) := by
  unfold cntN; rw [getD_range_map h]
theorem cntN_skip {n : Nat} {l : List Int} {k : Nat} (hk : k < l.length) (h : l.getD k 0 = -1) : cntN n l (k + 1) = cntN n l k := by
  unfold cntN
  apply List.map_congr_left
  intro i _
  rw [← take_succ_getD hk, List.count_append, h]
  have : List.count (i : Int) [-1] = 0 := by rw [List.count_eq_zero]; simp
  omega
theorem cntN_step {n : Nat} {l : List Int} {k : Nat} (hk : k < l.length) (h : 0 ≤ l.getD k 0 ∧ l.getD k 0 < n) : (cntN n l k).set (l.getD k 0).toNat ((cntN n l k).getD (l.getD k 0).toNat 0 + 1) = cntN n l (k + 1) := by
  have hl := cntN_len n l k
  apply same_of
  · simp [cntN]
  · intro j hj
    rw [List.length_set, hl] at hj
    have hq : (l.getD k 0).toNat < n := by omega
    rw [getD_set (by rw [hl]; exact hq), cntN_getD hq, cntN_getD hj, cntN_getD hj, ← take_succ_getD hk, List.count_append]
    split
    · rename_i e
      have e2 : (j : Int) = l.getD k 0 := by omega
      have e3 : ((l.getD k 0).toNat : Int) = l.getD k 0 := by omega
      rw [e3, ← e2]; simp
    · rename_i e
      have : List.count (j : Int) [l.getD k 0] = 0 := by rw [List.count_eq_zero, List.mem_singleton]; omega
      omega
theorem cntN_bound (n : Nat) (l : List Int) (k i : Nat) (h : i < n) : 0 ≤ (cntN n l k).getD i 0 ∧ (cntN n l k).getD i 0 ≤ k := by
  rw [cntN_getD h]
  have h1 : (l.take k).count (i : Int) ≤ (l.take k).length := List.count_le_length
  have h2 : (l.take k).length ≤ k := by simp; omega
  omega
theorem all_ok {h : Hp} (ho : h.ok) : okP h.all h.L.length := by
  obtain ⟨_, o1, o2, o3⟩ := ho
  intro j hj
  have hm := getD_mem hj
  unfold Hp.all at hm
  rw [List.mem_append, List.mem_append] at hm
  have key : ∀ {l : List Int} {x : Int}, okP l h.L.length → x ∈ l → -1 ≤ x ∧ x < h.L.length := by
    intro l x hl hx
    obtain ⟨i, hi, rfl⟩ := mem_getD hx
    exact hl i hi
  rcases hm with (hm | hm) | hm
  · exact key o1 hm
  · exact key o2 hm
  · exact key o3 hm
theorem cnt_pos {h : Hp} (ho : h.ok) {c : Nat} (hc : c < h.L.length) : 0 < h.cnt.getD c 0 ↔ (c : Int) ∈ h.all := by
  unfold Hp.cnt
  rw [if_pos (by simp [Hp.valid, ho]), cntN_getD hc, List.take_length]
  have := List.count_pos_iff (a := (c : Int)) (l := h.all)
  rw [← this]; omega

/-! Stores -/
def Hp.fr (h : Hp) (c : Int) : Prop := (0 ≤ c ∧ c < h.L.length) ∧ h.L.getD c.toNat 0 = -1 ∧ h.R.getD c.toNat 0 = -1 ∧ c ∉ h.L ∧ c ∉ h.R ∧ c ∉ h.T
instance decFn1 (h : Hp) (c : Int) : Decidable (h.fr c) := by unfold Hp.fr; infer_instance
def Sto.ok (s : Sto) : Prop := s.h.ok ∧ ∀ i, i < s.F.length → s.h.fr (s.F.getD i 0) ∧ s.F.getD i 0 ∉ s.F.take i
instance decFn2 (s : Sto) : Decidable s.ok := by unfold Sto.ok; infer_instance
def Sto.valid (s : Sto) : Bool := decide s.ok
theorem Sto.ok_iff (s : Sto) : s.valid = true ↔ s.ok := by simp [Sto.valid]
theorem Hp.ok_iff (h : Hp) : h.valid = true ↔ h.ok := by simp [Hp.valid]
theorem nodup_of_take {l : List Int} (h : ∀ i, i < l.length → l.getD i 0 ∉ l.take i) : l.Nodup := by
  unfold List.Nodup
  rw [List.pairwise_iff_getElem]
  intro i j hi hj hij e
  have := h j hj
  rw [List.getD_eq_getElem?_getD, List.getElem?_eq_getElem hj] at this
  apply this
  rw [List.mem_take_iff_getElem]
  exact ⟨i, by omega, by simpa using e⟩
theorem Sto.ok.nd {s : Sto} (h : s.ok) : s.F.Nodup := nodup_of_take fun i hi => (h.2 i hi).2
theorem Sto.ok.mem {s : Sto} (h : s.ok) {c : Int} (hc : c ∈ s.F) : s.h.fr c := by
  obtain ⟨i, hi, rfl⟩ := mem_getD hc
  exact (h.2 i hi).1
theorem Sto.ok.le {s : Sto} (h : s.ok) : s.F.length ≤ s.h.L.length := nodup_le _ _ h.nd fun c hc => (h.mem hc).1
def lkN (g F : List Int) : Nat → List Int
  | 0 => []
  | n + 1 => if g.getD n 0 ∈ F then lkN g F n else lkN g F n ++ [g.getD n 0]
theorem lkN_eq (g F : List Int) : ∀ n, n ≤ g.length → lkN g F n = (g.take n).filter fun x => decide (x ∉ F)
  | 0, _ => by simp [lkN]
  | n + 1, h => by
    rw [← take_succ_getD (by omega), List.filter_append, ← lkN_eq g F n (by omega)]
    rw [lkN]; split
    · rename_i hm; simp [-List.getD_eq_getElem?_getD, hm]
    · rename_i hm; simp [-List.getD_eq_getElem?_getD, hm]
noncomputable def Sto.lost (s : Sto) : List Int := if s.valid then lkN s.h.garb s.F s.h.garb.length else []
theorem lost_mem {s : Sto} (ho : s.ok) (x : Int) : x ∈ s.lost ↔ x ∉ s.F ∧ ∃ i : Nat, i < s.h.L.length ∧ x = i ∧ ¬ Reach s.h i := by
  unfold Sto.lost
  rw [if_pos ((Sto.ok_iff s).2 ho), lkN_eq _ _ _ (Nat.le_refl _), List.take_length, List.mem_filter, garb_mem ((Hp.ok_iff _).2 ho.1)]
  simp [and_comm]
theorem lost_ok {s : Sto} {x : Int} (hx : x ∈ s.lost) : s.ok := by
  unfold Sto.lost at hx
  split at hx
  · rename_i h; exact (Sto.ok_iff s).1 h
  · simp at hx
theorem lost_nodup (s : Sto) : s.lost.Nodup := by
  unfold Sto.lost
  split
  · rw [lkN_eq _ _ _ (Nat.le_refl _)]
    exact List.Pairwise.filter _ (by rw [List.take_length]; exact flsN_nodup _ _)
  · simp
def clrAt (l cells : List Int) (i : Nat) : Int := if l.getD i 0 ∈ cells ∨ (i : Int) ∈ cells then -1 else l.getD i 0
def clrL (l cells : List Int) : List Int := (List.range l.length).map (clrAt l cells)
theorem clrL_len (l cells : List Int) : (clrL l cells).length = l.length := by simp [clrL]
theorem clrL_nil (l : List Int) : clrL l [] = l := by
  apply same_of (by simp [clrL])
  intro j hj
  unfold clrL at hj ⊢
  rw [getD_range_map (by simpa using hj)]
  simp [clrAt]
theorem clrL_getD {l cells : List Int} {i : Nat} (h : i < l.length) : (clrL l cells).getD i 0 = clrAt l cells i := by
  unfold clrL; rw [getD_range_map h]
theorem clrL_step (l a : List Int) (c : Int) (hc : 0 ≤ c) : clrL (clrL l a) [c] = clrL l (a ++ [c]) := by
  unfold clrL
  rw [List.length_map, List.length_range]
  apply List.map_congr_left
  intro i hi
  rw [List.mem_range] at hi
  unfold clrAt
  rw [getD_range_map hi]
  simp only [List.mem_append, List.mem_singleton, clrAt]
  by_cases h1 : l.getD i 0 ∈ a
  · simp [-List.getD_eq_getElem?_getD, h1]
  · by_cases h2 : (i : Int) ∈ a
    · simp [-List.getD_eq_getElem?_getD, h2]
    · simp [-List.getD_eq_getElem?_getD, h1, h2]
def Sto.clr (s : Sto) (cells : List Int) : Sto := ⟨⟨clrL s.h.L cells, clrL s.h.R cells, s.h.T⟩, s.F ++ cells⟩
def Sto.zero : Sto := ⟨⟨[], [], []⟩, []⟩
noncomputable def Sto.free (s : Sto) (c : Int) : Sto := if c ∈ s.lost then s.clr [c] else Sto.zero
noncomputable def Sto.coll (s : Sto) : Sto := if s.valid then s.clr s.lost else Sto.zero
end Go.Proofs.YtbobhbhgomkgpaaGreatDoor.S

/- The common model, third part: allocation, operations. Own work of this claim; no program in sight. -/
namespace Go.Proofs.YtbobhbhgomkgpaaGreatDoor.S
set_option linter.all false

def opOk (k a b : Int) (n : Nat) : Prop := ((1 ≤ k ∧ k ≤ 7) ∧ 0 ≤ a ∧ a < 3 ∧ a < n ∧ 0 ≤ b ∧ b < 3) ∧ (if k = 1 ∨ k = 7 then b = 0 else b < n)
instance decFq1 (k a b : Int) (n : Nat) : Decidable (opOk k a b n) := by unfold opOk; infer_instance
def Sto.alcOk (s : Sto) (r : Int) : Prop := s.ok ∧ 0 ≤ r ∧ r < s.h.T.length ∧ s.F.length ≠ 0
instance decFq2 (s : Sto) (r : Int) : Decidable (s.alcOk r) := by unfold Sto.alcOk; infer_instance
def Sto.alcS (s : Sto) (r : Int) : Sto := if s.alcOk r then ⟨⟨s.h.L, s.h.R, s.h.T.set r.toNat (s.F.getD 0 0)⟩, s.F.drop 1⟩ else Sto.zero
def Sto.alcC (s : Sto) (r : Int) : Int := if s.alcOk r then s.F.getD 0 0 else 0
def Sto.root (s : Sto) (a x : Int) : Sto := ⟨⟨s.h.L, s.h.R, s.h.T.set a.toNat x⟩, s.F⟩
/-- An operation that may be done: the store, and how it ends. -/
def Sto.doS (s : Sto) (k a b : Int) : Sto :=
  if k = 1 then (if s.alcOk a then s.alcS a else s)
  else if k = 2 then s.root a (s.h.T.getD b.toNat 0)
  else if k = 7 then s.root a (-1)
  else if k = 3 ∨ k = 4 then (if s.h.T.getD b.toNat 0 = -1 then s else s.root a ((if k = 4 then s.h.R else s.h.L).getD (s.h.T.getD b.toNat 0).toNat 0))
  else if s.h.T.getD a.toNat 0 = -1 then s
  else if k = 5 then ⟨⟨s.h.L.set (s.h.T.getD a.toNat 0).toNat (s.h.T.getD b.toNat 0), s.h.R, s.h.T⟩, s.F⟩
  else ⟨⟨s.h.L, s.h.R.set (s.h.T.getD a.toNat 0).toNat (s.h.T.getD b.toNat 0), s.h.T⟩, s.F⟩
def Sto.doE (s : Sto) (k a b : Int) : Int :=
  if k = 1 then (if s.alcOk a then 0 else 1)
  else if k = 2 then 0
  else if k = 7 then 0
  else if k = 3 ∨ k = 4 then (if s.h.T.getD b.toNat 0 = -1 then 2 else 0)
  else if s.h.T.getD a.toNat 0 = -1 then 2 else 0
def Sto.runOk (s : Sto) (k a b : Int) : Prop := s.ok ∧ opOk k a b s.h.T.length
instance decFq3 (s : Sto) (k a b : Int) : Decidable (s.runOk k a b) := by unfold Sto.runOk; infer_instance
def Sto.runS (s : Sto) (k a b : Int) : Sto := if s.runOk k a b then s.doS k a b else Sto.zero
def Sto.runE (s : Sto) (k a b : Int) : Int := if s.runOk k a b then s.doE k a b else 0
theorem alcS_len (s : Sto) (r : Int) : ((s.alcS r).h.L.length ≤ s.h.L.length ∧ (s.alcS r).h.R.length ≤ s.h.R.length ∧ (s.alcS r).h.T.length ≤ s.h.T.length) ∧ (s.alcS r).F.length ≤ s.F.length := by
  unfold Sto.alcS
  split
  · simp
  · simp [Sto.zero]
theorem doS_len (s : Sto) (k a b : Int) : ((s.doS k a b).h.L.length ≤ s.h.L.length ∧ (s.doS k a b).h.R.length ≤ s.h.R.length ∧ (s.doS k a b).h.T.length ≤ s.h.T.length) ∧ (s.doS k a b).F.length ≤ s.F.length := by
  have := alcS_len s a
  unfold Sto.doS
  repeat' split
  all_goals first | exact this | simp [Sto.root]
theorem runS_len (s : Sto) (k a b : Int) : ((s.runS k a b).h.L.length ≤ s.h.L.length ∧ (s.runS k a b).h.R.length ≤ s.h.R.length ∧ (s.runS k a b).h.T.length ≤ s.h.T.length) ∧ (s.runS k a b).F.length ≤ s.F.length := by
  unfold Sto.runS
  split
  · exact doS_len s k a b
  · simp [Sto.zero]
end Go.Proofs.YtbobhbhgomkgpaaGreatDoor.S

/- The common model, fourth part: pointers given up, counts. Own work of this claim; no program in sight. -/
namespace Go.Proofs.YtbobhbhgomkgpaaGreatDoor.S
set_option linter.all false

/-- Pointers are given up: left and right pointers, freed cells, counts, what is to be given up, and the place in it. -/
structure DS where
  L : List Int
  R : List Int
  G : List Int
  C : List Int
  W : List Int
  i : Nat
def DS.c (s : DS) : Int := s.W.getD s.i 0
def DS.C1 (s : DS) : List Int := s.C.set s.c.toNat (s.C.getD s.c.toNat 0 - 1)
def DS.step (s : DS) : DS :=
  if s.c = -1 then { s with i := s.i + 1 }
  else if 0 < s.C1.getD s.c.toNat 0 then { s with C := s.C1, i := s.i + 1 }
  else ⟨s.L.set s.c.toNat (-1), s.R.set s.c.toNat (-1), s.G ++ [s.c], s.C1, s.W ++ [s.L.getD s.c.toNat 0, s.R.getD s.c.toNat 0], s.i + 1⟩
def dn : Nat → DS → DS
  | 0, s => s
  | k + 1, s => if s.i < s.W.length then dn k s.step else s
structure DInv (n : Nat) (T : List Int) (w : Nat) (s : DS) : Prop where
  lL : s.L.length = n
  lR : s.R.length = n
  lC : s.C.length = n
  oL : okP s.L n
  oR : okP s.R n
  oW : okP s.W n
  nd : s.G.Nodup
  gz : ∀ x, x ∈ s.G → (0 ≤ x ∧ x < n) ∧ s.C.getD x.toNat 0 = 0
  lW : s.W.length = w + 2 * s.G.length
  iW : s.i ≤ s.W.length
  cn : ∀ x : Nat, x < n → s.C.getD x 0 = ((s.L.count (x : Int) + s.R.count (x : Int) + T.count (x : Int) + (s.W.drop s.i).count (x : Int) : Nat) : Int)
theorem DInv.le {n : Nat} {T : List Int} {w : Nat} {s : DS} (h : DInv n T w s) : s.G.length ≤ n ∧ s.W.length ≤ w + 2 * n := by
  have := nodup_le n s.G h.nd fun x hx => (h.gz x hx).1
  have := h.lW
  omega
theorem okP_set {l : List Int} {n : Nat} (h : okP l n) (k : Nat) {x : Int} (hx : -1 ≤ x ∧ x < n) : okP (l.set k x) n := by
  intro j hj
  simp only [List.length_set] at hj
  by_cases hk : k < l.length
  · rw [getD_set hk]; split
    · exact hx
    · exact h j hj
  · rw [List.set_eq_of_length_le (by omega)]; exact h j hj
theorem okP_app {l : List Int} {n : Nat} (h : okP l n) {x y : Int} (hx : -1 ≤ x ∧ x < n) (hy : -1 ≤ y ∧ y < n) : okP (l ++ [x, y]) n := by
  intro j hj
  simp only [List.length_append, List.length_cons, List.length_nil] at hj
  by_cases h1 : j < l.length
  · have : (l ++ [x, y]).getD j 0 = l.getD j 0 := by simp [List.getD_eq_getElem?_getD, List.getElem?_append_left h1]
    rw [this]; exact h j h1
  · have : (l ++ [x, y]).getD j 0 = [x, y].getD (j - l.length) 0 := by simp [List.getD_eq_getElem?_getD, List.getElem?_append_right (Nat.le_of_not_lt h1)]
    rw [this]
    have : j - l.length = 0 ∨ j - l.length = 1 := by omega
    rcases this with e | e <;> rw [e]
    · exact hx
    · exact hy
theorem count_set {l : List Int} {k : Nat} (hk : k < l.length) (x y : Int) : (l.set k y).count x + (if l.getD k 0 = x then 1 else 0) = l.count x + (if y = x then 1 else 0) := by
  induction l generalizing k with
  | nil => simp at hk
  | cons a l ih =>
    cases k with
    | zero => simp only [List.set_cons_zero, List.count_cons, List.getD_cons_zero, beq_iff_eq]; omega
    | succ k =>
      simp only [List.set_cons_succ, List.count_cons, List.getD_cons_succ]
      have := ih (k := k) (by simpa using hk)
      omega
theorem drop_cons {l : List Int} {i : Nat} (h : i < l.length) : l.drop i = l.getD i 0 :: l.drop (i + 1) := by
  rw [List.drop_eq_getElem_cons h]
  simp [List.getD_eq_getElem?_getD, h]
theorem DInv.c_ok {n : Nat} {T : List Int} {w : Nat} {s : DS} (h : DInv n T w s) (hi : s.i < s.W.length) : s.c = -1 ∨ 0 ≤ s.c ∧ s.c < n := okP_get h.oW hi
theorem DInv.bound {n : Nat} {T : List Int} {w : Nat} {s : DS} (h : DInv n T w s) {x : Nat} (hx : x < n) : 0 ≤ s.C.getD x 0 ∧ s.C.getD x 0 ≤ 4 * n + T.length + w := by
  have e := h.cn x hx
  have h1 : s.L.count (x : Int) ≤ s.L.length := List.count_le_length
  have h2 : s.R.count (x : Int) ≤ s.R.length := List.count_le_length
  have h3 : T.count (x : Int) ≤ T.length := List.count_le_length
  have h4 : (s.W.drop s.i).count (x : Int) ≤ (s.W.drop s.i).length := List.count_le_length
  have h5 : (s.W.drop s.i).length ≤ s.W.length := by simp
  have h6 := h.le.2
  have := h.lL
  have := h.lR
  omega
theorem DInv.step {n : Nat} {T : List Int} {w : Nat} {s : DS} (h : DInv n T w s) (hi : s.i < s.W.length) : DInv n T w s.step := by
  have hd := drop_cons hi
  have hc := h.c_ok hi
  have hcd : s.W.getD s.i 0 = s.c := rfl
  rw [hcd] at hd
  unfold DS.step
  by_cases c1 : s.c = -1
  · rw [if_pos c1]
    refine ⟨h.lL, h.lR, h.lC, h.oL, h.oR, h.oW, h.nd, h.gz, h.lW, hi, ?_⟩
    intro x hx
    have e := h.cn x hx
    rw [hd, List.count_cons, c1] at e
    have : ((-1 : Int) == (x : Int)) = false := by simp
    rw [this] at e
    simpa using e
  rw [if_neg c1]
  have hc' : 0 ≤ s.c ∧ s.c < n := by omega
  have hlt : s.c.toNat < n := by omega
  have hC := h.lC
  have hcc : ((s.c.toNat : Nat) : Int) = s.c := by omega
  have hcn := h.cn s.c.toNat hlt
  rw [hcc, hd, List.count_cons, beq_self_eq_true, if_pos rfl] at hcn
  have hnG : s.c ∉ s.G := fun hm => by
    have := (h.gz _ hm).2
    omega
  have hC1 : s.C1.getD s.c.toNat 0 = s.C.getD s.c.toNat 0 - 1 := by
    unfold DS.C1; rw [getD_set (by omega), if_pos rfl]
  have hCo : ∀ x : Nat, x ≠ s.c.toNat → s.C1.getD x 0 = s.C.getD x 0 := by
    intro x hx
    unfold DS.C1; rw [getD_set (by omega), if_neg (Ne.symm hx)]
  have hcnt : ∀ x : Nat, x < n → s.C1.getD x 0 = ((s.L.count (x : Int) + s.R.count (x : Int) + T.count (x : Int) + (s.W.drop (s.i + 1)).count (x : Int) : Nat) : Int) := by
    intro x hx
    by_cases e : x = s.c.toNat
    · subst e
      rw [hC1, hcc]; omega
    · rw [hCo x e, h.cn x hx, hd, List.count_cons]
      have : (s.c == (x : Int)) = false := by simp; omega
      rw [this]; simp
  have hlC : s.C1.length = n := by unfold DS.C1; simp [hC]
  have hgz : ∀ x, x ∈ s.G → (0 ≤ x ∧ x < n) ∧ s.C1.getD x.toNat 0 = 0 := by
    intro x hx
    have := h.gz x hx
    refine ⟨this.1, ?_⟩
    rw [hCo x.toNat (fun e => hnG ((show x = s.c by omega) ▸ hx))]
    exact this.2
  by_cases c2 : 0 < s.C1.getD s.c.toNat 0
  · rw [if_pos c2]
    exact ⟨h.lL, h.lR, hlC, h.oL, h.oR, h.oW, h.nd, hgz, h.lW, hi, hcnt⟩
  rw [if_neg c2]
  have hz : s.C1.getD s.c.toNat 0 = 0 := by
    have := hcnt s.c.toNat hlt
    omega
  have hL := h.lL
  have hR := h.lR
  refine ⟨by simp [hL], by simp [hR], hlC, okP_set h.oL _ (by omega), okP_set h.oR _ (by omega), okP_app h.oW (h.oL _ (by omega)) (h.oR _ (by omega)), ?_, ?_, ?_, by simp; omega, ?_⟩
  · rw [List.nodup_append]
    refine ⟨h.nd, by simp, ?_⟩
    intro x hx y hy e
    simp at hy; subst hy; subst e; exact hnG hx
  · intro x hx
    rw [List.mem_append] at hx
    rcases hx with hx | hx
    · exact hgz x hx
    · simp at hx; subst hx; exact ⟨hc', hz⟩
  · simp only [List.length_append, List.length_cons, List.length_nil]
    have := h.lW; omega
  · intro x hx
    have e := hcnt x hx
    have e1 := count_set (l := s.L) (k := s.c.toNat) (by omega) (x : Int) (-1)
    have e2 := count_set (l := s.R) (k := s.c.toNat) (by omega) (x : Int) (-1)
    rw [if_neg (by omega : ¬ (-1 : Int) = (x : Int))] at e1 e2
    have e3 : ((s.W ++ [s.L.getD s.c.toNat 0, s.R.getD s.c.toNat 0]).drop (s.i + 1)).count (x : Int) = (s.W.drop (s.i + 1)).count (x : Int) + (if s.L.getD s.c.toNat 0 = (x : Int) then 1 else 0) + (if s.R.getD s.c.toNat 0 = (x : Int) then 1 else 0) := by
      rw [List.drop_append_of_le_length (by omega), List.count_append]
      simp only [List.count_cons, List.count_nil, beq_iff_eq]
      omega
    simp only
    rw [e, e3]
    omega
theorem DInv.drop {h : Hp} (ho : h.ok) {r : Nat} (hr : r < h.T.length) : DInv h.L.length (h.T.set r (-1)) 1 ⟨h.L, h.R, [], h.cnt, [h.T.getD r 0], 0⟩ := by
  have hc : h.cnt = cntN h.L.length h.all h.all.length := by rw [Hp.cnt, if_pos (by simp [Hp.valid, ho])]
  have o3 := ho.2.2.2 r hr
  refine ⟨rfl, ho.1.2.2.1, by rw [hc, cntN_len], ho.2.1, ho.2.2.1, ?_, by simp, by simp, by simp, by simp, ?_⟩
  · intro j hj
    obtain rfl : j = 0 := by simpa using hj
    exact o3
  · intro x hx
    rw [hc, cntN_getD hx, List.take_length, Hp.all, List.count_append, List.count_append]
    have e := count_set hr (x : Int) (-1)
    rw [if_neg (by omega : ¬ (-1 : Int) = (x : Int))] at e
    simp only [List.drop_zero, List.count_cons, List.count_nil, beq_iff_eq]
    omega
theorem DInv.take {s : Sto} (ho : s.ok) {r : Nat} (hr : r < s.h.T.length) (hF : s.F.length ≠ 0) : DInv s.h.L.length (s.h.T.set r (s.F.getD 0 0)) 1 ⟨s.h.L, s.h.R, [], s.h.cnt.set (s.F.getD 0 0).toNat 1, [s.h.T.getD r 0], 0⟩ := by
  have hc : s.h.cnt = cntN s.h.L.length s.h.all s.h.all.length := by rw [Hp.cnt, if_pos (by simp [Hp.valid, ho.1])]
  have o3 := ho.1.2.2.2 r hr
  obtain ⟨f1, _, _, f4, f5, f6⟩ := (ho.2 0 (by omega)).1
  generalize hcell : s.F.getD 0 0 = cell at *
  have hlc : s.h.cnt.length = s.h.L.length := by rw [hc, cntN_len]
  refine ⟨rfl, ho.1.1.2.2.1, by simp [hlc], ho.1.2.1, ho.1.2.2.1, ?_, by simp, by simp, by simp, by simp, ?_⟩
  · intro j hj
    obtain rfl : j = 0 := by simpa using hj
    exact o3
  · intro x hx
    have e := count_set hr (x : Int) cell
    simp only [List.drop_zero, List.count_cons, List.count_nil, beq_iff_eq]
    rw [getD_set (by omega)]
    by_cases hxc : cell.toNat = x
    · rw [if_pos hxc]
      have hcx : cell = (x : Int) := by omega
      have z1 := List.count_eq_zero.2 f4
      have z2 := List.count_eq_zero.2 f5
      have z3 := List.count_eq_zero.2 f6
      rw [hcx] at z1 z2 z3
      rw [if_pos hcx] at e
      omega
    · rw [if_neg hxc]
      rw [if_neg (by omega : ¬ cell = (x : Int))] at e
      rw [hc, cntN_getD hx, List.take_length, Hp.all, List.count_append, List.count_append]
      omega
end Go.Proofs.YtbobhbhgomkgpaaGreatDoor.S
