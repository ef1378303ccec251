/- The common model: heaps and stores as lists, and what the program's functions answer of them. Own work of this claim; no program in sight. -/
namespace Go.Proofs.Ytbcnkfkmonpdeaa.S
set_option linter.all false

structure Hp where
  L : List Int
  R : List Int
  T : List Int
structure Sto where
  h : Hp
  F : List Int

def idx (l : List Int) (n : Int) : Int := match l.findIdx? (fun x => decide (x = n)) with | some i => i | none => -1
theorem idx_at {l : List Int} {n : Int} {i : Nat} (hi : i < l.length) (h : ∀ j, j < i → l.getD j 0 ≠ n) (he : l.getD i 0 = n) : idx l n = i := by
  have : l.findIdx? (fun x => decide (x = n)) = some i := by
    rw [List.findIdx?_eq_some_iff_getElem]
    refine ⟨hi, by simpa [List.getD_eq_getElem?_getD, hi] using he, fun j hj => ?_⟩
    have := h j hj
    have hj' : j < l.length := by omega
    simpa [List.getD_eq_getElem?_getD, hj'] using this
  simp [idx, this]
theorem idx_none {l : List Int} {n : Int} (h : ∀ j, j < l.length → l.getD j 0 ≠ n) : idx l n = -1 := by
  have : l.findIdx? (fun x => decide (x = n)) = none := by
    rw [List.findIdx?_eq_none_iff]
    intro x hx
    obtain ⟨j, hj, rfl⟩ := List.getElem_of_mem hx
    have := h j hj
    simpa [List.getD_eq_getElem?_getD, hj] using this
  simp [idx, this]

/-- Two lists agree up to a place. -/
theorem same_of {a b : List Int} (hl : a.length = b.length) (h : ∀ j, j < a.length → a.getD j 0 = b.getD j 0) : a = b := by
  apply List.ext_getElem hl
  intro i h1 h2
  have := h i h1
  simpa [List.getD_eq_getElem?_getD, h1, h2] using this
theorem take_succ_getD {l : List Int} {i : Nat} (h : i < l.length) : l.take i ++ [l.getD i 0] = l.take (i + 1) := by
  rw [List.take_add_one]; simp [List.getD_eq_getElem?_getD, h]

theorem fill_set {l : List Int} {x : Int} {n i : Nat} (hn : n = l.length) (h : i < n) : (l.take i ++ List.replicate (n - i) x).set i (l.getD i 0) = l.take (i + 1) ++ List.replicate (n - (i + 1)) x := by
  subst hn
  have e : l.length - i = (l.length - (i + 1)) + 1 := by omega
  rw [e, List.replicate_succ, List.set_append_right _ _ (by simp; omega)]
  have : i - (l.take i).length = 0 := by simp; omega
  rw [this, List.set_cons_zero, ← take_succ_getD h]
  simp
/-- The bulk of lists. -/
def szI (l : List Int) (n : Int) : Int := if n - l.length < 0 then -1 else n - l.length
def szH (h : Hp) (n : Int) : Int :=
  if szI h.L n < 0 then -1 else if szI h.R (szI h.L n) < 0 then -1 else if szI h.T (szI h.R (szI h.L n)) < 0 then -1 else szI h.T (szI h.R (szI h.L n))
def szS (s : Sto) (n : Int) : Int := if szH s.h n < 0 then -1 else if szI s.F (szH s.h n) < 0 then -1 else szI s.F (szH s.h n)
/-- Marks. -/
def mkI (n : Nat) (k : Int) : List Int := (List.range n).map fun (j : Nat) => k + (j : Int)
theorem mkI_len (n : Nat) (k : Int) : (mkI n k).length = n := by simp [mkI]
theorem mkI_getD {n : Nat} {k : Int} {j : Nat} (h : j < n) : (mkI n k).getD j 0 = k + j := by
  simp [mkI, List.getD_eq_getElem?_getD, h]
theorem mk_set {l : List Int} {k x : Int} {i : Nat} (h : i < l.length) (hx : x = k + i) : (mkI i k ++ l.drop i).set i x = mkI (i + 1) k ++ l.drop (i + 1) := by
  subst hx
  rw [List.set_append_right _ _ (by rw [mkI_len]; omega), mkI_len, Nat.sub_self, List.drop_eq_getElem_cons h, List.set_cons_zero]
  simp [mkI, List.range_succ]
theorem mkI_eq {l : List Int} {k : Int} (h : ∀ j, j < l.length → l.getD j 0 = k + j) : l = mkI l.length k :=
  same_of (mkI_len _ _).symm fun j hj => by rw [h j hj, mkI_getD hj]
theorem mkI_ne {l : List Int} {k : Int} {j : Nat} (hj : j < l.length) (h : l.getD j 0 ≠ k + j) : l ≠ mkI l.length k := fun e => h (by
  have := mkI_getD (n := l.length) (k := k) hj
  rw [← e] at this; exact this)
def hdI (l : List Int) (k : Int) : Int := if l = mkI l.length k then k + l.length else -1
def hdH (h : Hp) (k : Int) : Int := if hdI h.L k < 0 then -1 else if hdI h.R (hdI h.L k) < 0 then -1 else if hdI h.T (hdI h.R (hdI h.L k)) < 0 then -1 else hdI h.T (hdI h.R (hdI h.L k))
def hdS (s : Sto) (k : Int) : Int := if hdH s.h k < 0 then -1 else if hdI s.F (hdH s.h k) < 0 then -1 else hdI s.F (hdH s.h k)
/-- Two heaps, two stores agree. -/
def Hp.same (a b : Hp) : Bool := decide (a.L = b.L) && (decide (a.R = b.R) && decide (a.T = b.T))
def Sto.same (a b : Sto) : Bool := a.h.same b.h && decide (a.F = b.F)
theorem szI_lt {l : List Int} {n : Int} : szI l n = n - l.length ∧ 0 ≤ szI l n ∨ szI l n = -1 ∧ n < l.length := by
  unfold szI; split <;> omega
theorem hdI_lt (l : List Int) (k : Int) (hk : 0 ≤ k) : hdI l k = -1 ∨ hdI l k = k + l.length ∧ 0 ≤ hdI l k := by
  unfold hdI; split
  · right; omega
  · left; rfl
/-- Pointers into n cells. -/
def okP (l : List Int) (n : Nat) : Prop := ∀ j, j < l.length → (-1 ≤ l.getD j 0 ∧ l.getD j 0 < n)
instance (l : List Int) (n : Nat) : Decidable (okP l n) := by unfold okP; infer_instance
def Hp.ok (h : Hp) : Prop := (1 ≤ h.L.length ∧ h.L.length ≤ 8 ∧ h.R.length = h.L.length ∧ 1 ≤ h.T.length ∧ h.T.length ≤ 3) ∧ okP h.L h.L.length ∧ okP h.R h.L.length ∧ okP h.T h.L.length
instance (h : Hp) : Decidable h.ok := by unfold Hp.ok; infer_instance
def Hp.valid (h : Hp) : Bool := decide h.ok
end Go.Proofs.Ytbcnkfkmonpdeaa.S
