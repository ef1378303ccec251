/- The common model: a program and a collector on one store. Own work of this claim; no program in sight. -/
import Derived.Test.YtnepiffboakehaaDoorA5
namespace Go.Proofs.YtnepiffboakehaaDoor.S
set_option linter.all false

structure Bth where
  s : Sto
  g : Gcc
  o : List (Int × Int × Int)
  a : Int
  l : Bool
def Bth.zero : Bth := ⟨.zero, .zero, [], 0, false⟩
def Bth.ok (b : Bth) : Prop := b.g.ok b.s ∧ opsV b.o b.s.h.T.length ∧ 0 ≤ b.a ∧ b.a ≤ b.o.length
instance decPj1 (b : Bth) : Decidable b.ok := by unfold Bth.ok; infer_instance
/-- A new collector of a valid store: idle, all white. -/
def Bth.new (s : Sto) (l : List (Int × Int × Int)) : Bth := if s.opsOk l then ⟨s, ⟨0, List.replicate s.h.L.length 0, 0⟩, l, 0, false⟩ else .zero
theorem Bth.new_ok {s : Sto} {l : List (Int × Int × Int)} (h : s.opsOk l) : (Bth.new s l).ok := by
  rw [Bth.new, if_pos h]
  refine ⟨⟨h.1, colOk_rep _, ?_⟩, h.2, Int.le_refl _, ?_⟩
  · unfold Gcc.atOk; dsimp only; omega
  · dsimp only; omega
theorem Bth.ok.small {b : Bth} (h : b.ok) : (((b.s.h.L.length ≤ 8 ∧ b.s.h.R.length ≤ 8 ∧ b.s.h.T.length ≤ 3) ∧ b.s.F.length ≤ 8) ∧ b.g.C.length ≤ 8) ∧ b.o.length ≤ 12 := by
  have l8 := h.1.1.1.1
  have bF := h.1.1.le
  have hlc := h.1.2.1.1
  have ho := h.2.1.1
  omega
theorem Bth.new_small (s : Sto) (l : List (Int × Int × Int)) : (((((Bth.new s l).s.h.L.length ≤ 8 ∧ (Bth.new s l).s.h.R.length ≤ 8 ∧ (Bth.new s l).s.h.T.length ≤ 3) ∧ (Bth.new s l).s.F.length ≤ 8) ∧ (Bth.new s l).g.C.length ≤ 8) ∧ (Bth.new s l).o.length ≤ 12) := by
  by_cases h : s.opsOk l
  · exact (Bth.new_ok h).small
  · rw [Bth.new, if_neg h]; simp [Bth.zero, Sto.zero, Gcc.zero]
end Go.Proofs.YtnepiffboakehaaDoor.S
