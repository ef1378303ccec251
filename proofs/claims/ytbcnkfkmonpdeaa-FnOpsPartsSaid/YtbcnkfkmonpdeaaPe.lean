/- Plain laws of the common model: pointers counted, sources, a root put. Own work of this claim; no program in sight. -/
import Derived.Test.YtbcnkfkmonpdeaaPb
namespace Go.Proofs.Ytbcnkfkmonpdeaa.S
set_option linter.all false

def ptN (l : List Int) : Nat → Nat
  | 0 => 0
  | k + 1 => if l.getD k 0 = -1 then ptN l k else ptN l k + 1
theorem ptN_le (l : List Int) : ∀ k, ptN l k ≤ k
  | 0 => Nat.le_refl _
  | k + 1 => by have := ptN_le l k; unfold ptN; split <;> omega
theorem ptN_eq (l : List Int) : ∀ k, k ≤ l.length → ptN l k + (l.take k).count (-1) = k
  | 0, _ => by simp [ptN]
  | k + 1, h => by
    have ih := ptN_eq l k (by omega)
    rw [← take_succ_getD (by omega), List.count_append, ptN]
    split
    · rename_i e; rw [e]; simp; omega
    · rename_i e
      have : List.count (-1) [l.getD k 0] = 0 := by rw [List.count_eq_zero, List.mem_singleton]; omega
      omega
def Hp.ptrs (h : Hp) : Int := if h.valid then (ptN h.all h.all.length : Nat) else 0
def srcN (h : Hp) (c : Int) : Nat → List Int
  | 0 => []
  | n + 1 => if h.L.getD n 0 = c ∨ h.R.getD n 0 = c then srcN h c n ++ [(n : Int)] else srcN h c n
theorem srcN_len (h : Hp) (c : Int) : ∀ n, (srcN h c n).length ≤ n
  | 0 => Nat.le_refl _
  | n + 1 => by
    have := srcN_len h c n
    unfold srcN; split
    · simp; omega
    · omega
theorem srcN_nil {h : Hp} {c : Int} (hL : c ∉ h.L) (hR : c ∉ h.R) : ∀ n, n ≤ h.L.length → n ≤ h.R.length → srcN h c n = []
  | 0, _, _ => rfl
  | n + 1, h1, h2 => by
    have ih := srcN_nil hL hR n (by omega) (by omega)
    unfold srcN
    rw [if_neg, ih]
    rintro (q | q)
    · exact hL (q ▸ getD_mem (by omega))
    · exact hR (q ▸ getD_mem (by omega))
def Hp.srcs (h : Hp) (c : Int) : List Int := if h.ok ∧ 0 ≤ c ∧ c < h.L.length then srcN h c h.L.length else []
/-- A root is put. -/
def Hp.zero : Hp := ⟨[], [], []⟩
def Hp.prOk (h : Hp) (r x : Int) : Prop := h.ok ∧ 0 ≤ r ∧ r < h.T.length ∧ -1 ≤ x ∧ x < h.L.length
instance (h : Hp) (r x : Int) : Decidable (h.prOk r x) := by unfold Hp.prOk; infer_instance
def Hp.pr (h : Hp) (r x : Int) : Hp := if h.prOk r x then ⟨h.L, h.R, h.T.set r.toNat x⟩ else .zero
theorem count_set' {l : List Int} {k : Nat} (hk : k < l.length) (x y : Int) : (l.set k y).count x + (if l.getD k 0 = x then 1 else 0) = l.count x + (if y = x then 1 else 0) := by
  induction l generalizing k with
  | nil => simp at hk
  | cons a l ih =>
    cases k with
    | zero => simp only [List.set_cons_zero, List.count_cons, List.getD_cons_zero, beq_iff_eq]; omega
    | succ k =>
      simp only [List.set_cons_succ, List.count_cons, List.getD_cons_succ]
      have := ih (k := k) (by simpa using hk)
      omega
theorem ptrs_eq {h : Hp} (ho : h.ok) : h.ptrs + (h.L.count (-1) + h.R.count (-1) + h.T.count (-1) : Nat) = (h.L.length + h.R.length + h.T.length : Nat) := by
  have := ptN_eq h.all h.all.length (Nat.le_refl _)
  rw [List.take_length] at this
  rw [Hp.ptrs, if_pos ((Hp.ok_iff h).2 ho)]
  unfold Hp.all at this ⊢
  rw [List.count_append, List.count_append] at this
  simp only [List.length_append] at this ⊢
  omega
/-- What a new cell is. -/
theorem new_cell {s : Sto} {a : Int} (h : s.alcOk a) :
    let c := s.F.getD 0 0
    (s.alcS a).h.T.getD a.toNat 0 = c ∧ (0 ≤ c ∧ c < s.h.L.length) ∧ c ∈ s.F ∧ (s.alcS a).h.L.getD c.toNat 0 = -1 ∧ (s.alcS a).h.R.getD c.toNat 0 = -1 ∧ (s.alcS a).h.srcs c = [] ∧ (s.alcS a).h.prOk a (-1) ∧ ((s.alcS a).h.pr a (-1)).ptrs = (s.alcS a).h.ptrs - 1 := by
  have e : s.alcS a = ⟨⟨s.h.L, s.h.R, s.h.T.set a.toNat (s.F.getD 0 0)⟩, s.F.drop 1⟩ := by rw [Sto.alcS, if_pos h]
  have hx := alc_ok h
  obtain ⟨m, _, _⟩ := alc_cell h
  obtain ⟨a1, a3, a4, a5, a6, a7⟩ := h.1.mem m
  have hr := h.2
  have hR : s.h.R.length = s.h.L.length := h.1.1.1.2.2.1
  have hpr : (s.alcS a).h.prOk a (-1) := by
    refine ⟨hx.1, hr.1, ?_, by omega, ?_⟩
    · rw [e]; simp; omega
    · rw [e]; show (-1 : Int) < s.h.L.length; omega
  refine ⟨?_, a1, m, ?_, ?_, ?_, hpr, ?_⟩
  · rw [e]
    show (s.h.T.set _ _).getD _ 0 = _
    rw [getD_set (by omega), if_pos rfl]
  · rw [e]; exact a3
  · rw [e]; exact a4
  · unfold Hp.srcs
    split
    · rw [e]; exact srcN_nil (h := ⟨s.h.L, s.h.R, s.h.T.set a.toNat (s.F.getD 0 0)⟩) a5 a6 _ (Nat.le_refl _) (by show s.h.L.length ≤ s.h.R.length; omega)
    · rfl
  · have hy := alc_drop h (x := -1) (.inl rfl)
    have e2 : (s.alcS a).h.pr a (-1) = ⟨s.h.L, s.h.R, s.h.T.set a.toNat (-1)⟩ := by
      rw [Hp.pr, if_pos hpr, e]
      show Hp.mk s.h.L s.h.R ((s.h.T.set _ _).set _ _) = _
      rw [List.set_set]
    have p1 := ptrs_eq hx.1
    have p2 := ptrs_eq hy.1
    rw [e2]
    rw [e] at p1 ⊢
    have q1 := count_set' (l := s.h.T) (k := a.toNat) (by omega) (-1) (-1)
    have q2 := count_set' (l := s.h.T) (k := a.toNat) (by omega) (-1) (s.F.getD 0 0)
    rw [if_neg (by omega : ¬ s.F.getD 0 0 = -1)] at q2
    rw [if_pos rfl] at q1
    dsimp only [List.length_set] at p1 p2 ⊢
    simp only [List.length_set] at p1 p2
    omega
end Go.Proofs.Ytbcnkfkmonpdeaa.S
