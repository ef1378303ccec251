/- The common model, fifth part: collectors by steps. Own work of this claim; no program in sight. -/
import Derived.Test.YtbcnkfkmonpdeaaPb
namespace Go.Proofs.Ytbcnkfkmonpdeaa.S
set_option linter.all false

/-- A collector: its phase, colors, place. -/
structure Gcc where
  p : Int
  C : List Int
  a : Int
def colOk (C : List Int) (n : Nat) : Prop := C.length = n ∧ ∀ j, j < C.length → (0 ≤ C.getD j 0 ∧ C.getD j 0 ≤ 2)
instance (C : List Int) (n : Nat) : Decidable (colOk C n) := by unfold colOk; infer_instance
def Gcc.atOk (g : Gcc) (s : Sto) : Prop := 0 ≤ g.a ∧ ((g.p = 0 ∨ g.p = 2) ∧ g.a = 0 ∨ g.p = 1 ∧ g.a < s.h.T.length ∨ g.p = 3 ∧ g.a < s.h.L.length)
instance (g : Gcc) (s : Sto) : Decidable (g.atOk s) := by unfold Gcc.atOk; infer_instance
def Gcc.ok (g : Gcc) (s : Sto) : Prop := s.ok ∧ colOk g.C s.h.L.length ∧ g.atOk s
instance (g : Gcc) (s : Sto) : Decidable (g.ok s) := by unfold Gcc.ok; infer_instance
def Gcc.same (x y : Gcc) : Bool := decide (x.p = y.p) && (decide (x.a = y.a) && decide (x.C = y.C))
theorem Gcc.same_self (x : Gcc) : x.same x = true := by simp [Gcc.same]
theorem Gcc.same_iff (x y : Gcc) : x.same y = true ↔ x = y := by
  obtain ⟨a, b, c⟩ := x
  obtain ⟨d, e, f⟩ := y
  simp [Gcc.same]
  exact fun _ => and_comm
def Gcc.zero : Gcc := ⟨0, [], 0⟩
/-- A cell is shaded. -/
def shd (C : List Int) (c : Int) : List Int := if c ≠ -1 ∧ C.getD c.toNat 0 = 0 then C.set c.toNat 1 else C
theorem shd_len (C : List Int) (c : Int) : (shd C c).length = C.length := by unfold shd; split <;> simp
theorem shd_getD {C : List Int} {c : Int} {j : Nat} (hj : j < C.length) : (shd C c).getD j 0 = if c ≠ -1 ∧ c.toNat = j ∧ C.getD j 0 = 0 then 1 else C.getD j 0 := by
  unfold shd
  by_cases h : c ≠ -1 ∧ C.getD c.toNat 0 = 0
  · rw [if_pos h, getD_set' hj]
    by_cases e : c.toNat = j
    · subst e; rw [if_pos rfl, if_pos ⟨h.1, rfl, h.2⟩]
    · rw [if_neg e, if_neg (by rintro ⟨_, q, _⟩; exact e q)]
  · rw [if_neg h, if_neg (by rintro ⟨q1, q2, q3⟩; subst q2; exact h ⟨q1, q3⟩)]
theorem shd_ok {C : List Int} {n : Nat} {c : Int} (h : colOk C n) : colOk (shd C c) n := by
  refine ⟨by rw [shd_len]; exact h.1, fun j hj => ?_⟩
  rw [shd_len] at hj
  rw [shd_getD hj]
  have := h.2 j hj
  split <;> omega
theorem col_set {C : List Int} {n : Nat} {x : Int} (h : colOk C n) (i : Nat) (hx : 0 ≤ x ∧ x ≤ 2) : colOk (C.set i x) n := by
  refine ⟨by rw [List.length_set]; exact h.1, fun j hj => ?_⟩
  rw [List.length_set] at hj
  rw [getD_set' hj]
  have := h.2 j hj
  split <;> omega
/-- New cells have a color. -/
def Gcc.newOk (g : Gcc) (s : Sto) (c : Int) : Prop := g.ok s ∧ 0 ≤ c ∧ c < s.h.L.length
instance (g : Gcc) (s : Sto) (c : Int) : Decidable (g.newOk s c) := by unfold Gcc.newOk; infer_instance
def Gcc.newC (g : Gcc) (c : Int) : Int := if g.p = 1 ∨ g.p = 2 ∨ g.p = 3 ∧ g.a ≤ c then 2 else 0
def Gcc.new (g : Gcc) (s : Sto) (c : Int) : Gcc := if g.newOk s c then ⟨g.p, g.C.set c.toNat (g.newC c), g.a⟩ else .zero
def Gcc.shade (g : Gcc) (s : Sto) (c : Int) : Gcc := if g.newOk s c then ⟨g.p, if g.p = 1 ∨ g.p = 2 then shd g.C c else g.C, g.a⟩ else .zero
theorem new_law {g : Gcc} {s : Sto} {c : Int} (h : g.newOk s c) : (∀ i : Nat, i < g.C.length → (i : Int) ≠ c → (g.new s c).C.getD i 0 = g.C.getD i 0) ∧ (g.new s c).ok s ∧ (g.new s c).C.getD c.toNat 0 ≠ 1 ∧ (g.p = 0 → (g.new s c).C.getD c.toNat 0 = 0) ∧ (g.new s c).p = g.p ∧ (g.new s c).a = g.a ∧ (g.new s c).newOk s c ∧ (g.new s c).new s c = g.new s c := by
  have hl : c.toNat < g.C.length := by have := h.1.2.1.1; have := h.2; omega
  have e : g.new s c = ⟨g.p, g.C.set c.toNat (g.newC c), g.a⟩ := by rw [Gcc.new, if_pos h]
  have hok : (g.new s c).ok s := by
    rw [e]
    refine ⟨h.1.1, col_set h.1.2.1 _ ?_, h.1.2.2⟩
    unfold Gcc.newC; split <;> omega
  have hnw : (g.new s c).newOk s c := ⟨hok, h.2⟩
  refine ⟨?_, hok, ?_, ?_, by rw [e], by rw [e], hnw, ?_⟩
  · intro i hi hc
    rw [e]
    show (g.C.set _ _).getD i 0 = _
    rw [getD_set' hi, if_neg (by have := h.2; omega)]
  · rw [e]
    show (g.C.set _ _).getD _ 0 ≠ 1
    rw [getD_set hl, if_pos rfl]
    unfold Gcc.newC; split <;> omega
  · intro hp
    rw [e]
    show (g.C.set _ _).getD _ 0 = 0
    rw [getD_set hl, if_pos rfl]
    unfold Gcc.newC; rw [if_neg (by omega)]
  · rw [Gcc.new, if_pos hnw, e]
    simp [Gcc.newC]
theorem shade_law {g : Gcc} {s : Sto} {c : Int} (h : g.newOk s c) : (g.shade s c).ok s ∧ (g.p = 1 ∨ g.p = 2 → (g.shade s c).C.getD c.toNat 0 ≠ 0) ∧ (g.shade s c).p = g.p ∧ (g.p ≠ 1 → g.p ≠ 2 → g.shade s c = g) := by
  have hl : c.toNat < g.C.length := by have := h.1.2.1.1; have := h.2; omega
  have e : g.shade s c = ⟨g.p, if g.p = 1 ∨ g.p = 2 then shd g.C c else g.C, g.a⟩ := by rw [Gcc.shade, if_pos h]
  refine ⟨?_, ?_, by rw [e], ?_⟩
  · rw [e]
    refine ⟨h.1.1, ?_, h.1.2.2⟩
    dsimp only
    split
    · exact shd_ok h.1.2.1
    · exact h.1.2.1
  · intro hp
    rw [e]
    show (if g.p = 1 ∨ g.p = 2 then shd g.C c else g.C).getD _ 0 ≠ 0
    rw [if_pos hp, shd_getD hl]
    split
    · omega
    · rename_i q
      intro z
      exact q ⟨by have := h.2; omega, rfl, z⟩
  · intro h1 h2
    rw [e, if_neg (by omega)]
/-- No black cell points to a white one. -/
def colHolds (h : Hp) (C : List Int) : Prop := h.ok ∧ colOk C h.L.length ∧ ∀ i, i < C.length → C.getD i 0 = 2 → (h.L.getD i 0 ≠ -1 → C.getD (h.L.getD i 0).toNat 0 ≠ 0) ∧ (h.R.getD i 0 ≠ -1 → C.getD (h.R.getD i 0).toNat 0 ≠ 0)
open Classical in
noncomputable def colHoldsB (h : Hp) (C : List Int) : Bool := decide (colHolds h C)
theorem shd_holds {h : Hp} {C : List Int} {c : Int} (q : colHolds h C) : colHolds h (shd C c) := by
  refine ⟨q.1, shd_ok q.2.1, fun i hi h2 => ?_⟩
  rw [shd_len] at hi
  rw [shd_getD hi] at h2
  have hl := q.2.1.1
  have hR : h.R.length = h.L.length := q.1.1.2.2.1
  have hC : C.getD i 0 = 2 := by split at h2 <;> omega
  have := q.2.2 i hi hC
  have key : ∀ {x : Int}, (x ≠ -1 → C.getD x.toNat 0 ≠ 0) → -1 ≤ x ∧ x < h.L.length → x ≠ -1 → (shd C c).getD x.toNat 0 ≠ 0 := by
    intro x hx hb h1
    rw [shd_getD (by omega)]
    split
    · omega
    · exact hx h1
  exact ⟨key this.1 (q.1.2.1 i (by omega)), key this.2 (q.1.2.2.1 i (by omega))⟩
end Go.Proofs.Ytbcnkfkmonpdeaa.S
