/- Plain laws of the common model: runs of operations. Own work of this claim; no program in sight. -/
import Derived.Test.YtbcnkfkmonpdeaaPb
namespace Go.Proofs.Ytbcnkfkmonpdeaa.S
set_option linter.all false

/-- As many operations as come without an error: the store, and how many. -/
def Sto.goS (s : Sto) : List (Int × Int × Int) → Sto
  | [] => s
  | o :: l => if s.runE o.1 o.2.1 o.2.2 = 0 then (s.runS o.1 o.2.1 o.2.2).goS l else s
def Sto.goN (s : Sto) : List (Int × Int × Int) → Nat
  | [] => 0
  | o :: l => if s.runE o.1 o.2.1 o.2.2 = 0 then (s.runS o.1 o.2.1 o.2.2).goN l + 1 else 0
def opAt (l : List (Int × Int × Int)) (i : Nat) : Int × Int × Int := l.getD i (0, 0, 0)
def opsV (l : List (Int × Int × Int)) (n : Nat) : Prop := l.length ≤ 12 ∧ ∀ j, j < l.length → opOk (opAt l j).1 (opAt l j).2.1 (opAt l j).2.2 n
instance (l : List (Int × Int × Int)) (n : Nat) : Decidable (opsV l n) := by unfold opsV; infer_instance
def Sto.opsOk (s : Sto) (l : List (Int × Int × Int)) : Prop := s.ok ∧ opsV l s.h.T.length
instance (s : Sto) (l : List (Int × Int × Int)) : Decidable (s.opsOk l) := by unfold Sto.opsOk; infer_instance
def Sto.opsS (s : Sto) (l : List (Int × Int × Int)) : Sto := if s.opsOk l then s.goS l else Sto.zero
def Sto.opsN (s : Sto) (l : List (Int × Int × Int)) : Nat := if s.opsOk l then s.goN l else 0
theorem go_step {s : Sto} {l : List (Int × Int × Int)} {i : Nat} (h : i < l.length) : l.drop i = opAt l i :: l.drop (i + 1) := by
  rw [List.drop_eq_getElem_cons h, opAt, List.getD_eq_getElem?_getD, List.getElem?_eq_getElem h]; rfl
theorem goS_step {s : Sto} {l : List (Int × Int × Int)} {i : Nat} (h : i < l.length) : s.goS (l.drop i) = if s.runE (opAt l i).1 (opAt l i).2.1 (opAt l i).2.2 = 0 then (s.runS (opAt l i).1 (opAt l i).2.1 (opAt l i).2.2).goS (l.drop (i + 1)) else s := by
  rw [go_step (s := s) h]; rfl
theorem goN_step {s : Sto} {l : List (Int × Int × Int)} {i : Nat} (h : i < l.length) : s.goN (l.drop i) = if s.runE (opAt l i).1 (opAt l i).2.1 (opAt l i).2.2 = 0 then (s.runS (opAt l i).1 (opAt l i).2.1 (opAt l i).2.2).goN (l.drop (i + 1)) + 1 else 0 := by
  rw [go_step (s := s) h]; rfl
theorem runS_ok {s : Sto} {k a b : Int} (h : s.runOk k a b) : (s.runS k a b).ok := by rw [Sto.runS, if_pos h]; exact do_ok h
theorem runS_L {s : Sto} {k a b : Int} (h : s.runOk k a b) : (s.runS k a b).h.L.length = s.h.L.length ∧ (s.runS k a b).h.T.length = s.h.T.length := by rw [Sto.runS, if_pos h]; exact doS_L s k a b
theorem goN_le (s : Sto) (l : List (Int × Int × Int)) : s.goN l ≤ l.length := by
  induction l generalizing s with
  | nil => exact Nat.le_refl _
  | cons o l ih => unfold Sto.goN; split <;> simp [ih]
/-- A run's end stays a store, with as many roots. -/
theorem goS_ok {s : Sto} {l : List (Int × Int × Int)} (h : s.ok) (n : Nat) (hn : n = s.h.T.length) (hl : ∀ o ∈ l, opOk o.1 o.2.1 o.2.2 n) : (s.goS l).ok ∧ (s.goS l).h.L.length = s.h.L.length ∧ (s.goS l).h.T.length = n := by
  induction l generalizing s with
  | nil => exact ⟨h, rfl, hn.symm⟩
  | cons o l ih =>
    unfold Sto.goS
    have hr : s.runOk o.1 o.2.1 o.2.2 := ⟨h, hn ▸ hl o (by simp)⟩
    split
    · have := runS_L hr
      obtain ⟨x, y, z⟩ := ih (runS_ok hr) (by omega) (fun o q => hl o (by simp [q]))
      exact ⟨x, by omega, z⟩
    · exact ⟨h, rfl, hn.symm⟩
theorem goS_app (s : Sto) (l m : List (Int × Int × Int)) (h : s.goN l = l.length) : s.goS (l ++ m) = (s.goS l).goS m ∧ s.goN (l ++ m) = l.length + (s.goS l).goN m := by
  induction l generalizing s with
  | nil => simp [Sto.goS]
  | cons o l ih =>
    by_cases g : s.runE o.1 o.2.1 o.2.2 = 0
    · simp only [Sto.goN, if_pos g, List.length_cons, Nat.add_right_cancel_iff] at h
      obtain ⟨x, y⟩ := ih _ h
      simp only [List.cons_append, Sto.goS, Sto.goN, if_pos g, x, y, List.length_cons, true_and]
      omega
    · simp [Sto.goN, if_neg g] at h
theorem goS_app' (s : Sto) (l m : List (Int × Int × Int)) (h : s.goN l ≠ l.length) : s.goS (l ++ m) = s.goS l ∧ s.goN (l ++ m) = s.goN l := by
  induction l generalizing s with
  | nil => simp [Sto.goN] at h
  | cons o l ih =>
    by_cases g : s.runE o.1 o.2.1 o.2.2 = 0
    · obtain ⟨x, y⟩ := ih (s.runS o.1 o.2.1 o.2.2) (fun q => h (by simp [Sto.goN, if_pos g, q]))
      simp only [List.cons_append, Sto.goS, Sto.goN, if_pos g, x, y, and_self]
    · simp [Sto.goN, Sto.goS, if_neg g]
theorem goS_len (l : List (Int × Int × Int)) : ∀ s : Sto, ((s.goS l).h.L.length ≤ s.h.L.length ∧ (s.goS l).h.R.length ≤ s.h.R.length ∧ (s.goS l).h.T.length ≤ s.h.T.length) ∧ (s.goS l).F.length ≤ s.F.length := by
  induction l with
  | nil => intro s; exact ⟨⟨Nat.le_refl _, Nat.le_refl _, Nat.le_refl _⟩, Nat.le_refl _⟩
  | cons o l ih =>
    intro s
    unfold Sto.goS
    split
    · have := ih (s.runS o.1 o.2.1 o.2.2)
      have := runS_len s o.1 o.2.1 o.2.2
      omega
    · exact ⟨⟨Nat.le_refl _, Nat.le_refl _, Nat.le_refl _⟩, Nat.le_refl _⟩
theorem opsS_len (s : Sto) (l : List (Int × Int × Int)) : ((s.opsS l).h.L.length ≤ s.h.L.length ∧ (s.opsS l).h.R.length ≤ s.h.R.length ∧ (s.opsS l).h.T.length ≤ s.h.T.length) ∧ (s.opsS l).F.length ≤ s.F.length := by
  unfold Sto.opsS
  split
  · exact goS_len l s
  · simp [Sto.zero]
theorem opAt_mem {l : List (Int × Int × Int)} {n : Nat} (h : opsV l n) {o : Int × Int × Int} (q : o ∈ l) : opOk o.1 o.2.1 o.2.2 n := by
  obtain ⟨j, hj, rfl⟩ := List.getElem_of_mem q
  have := h.2 j hj
  rw [opAt, List.getD_eq_getElem?_getD, List.getElem?_eq_getElem hj] at this
  exact this
end Go.Proofs.Ytbcnkfkmonpdeaa.S
