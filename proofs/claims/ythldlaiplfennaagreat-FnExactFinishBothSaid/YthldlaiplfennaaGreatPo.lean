/- Plain laws of the common model: how a pair is finished. Own work of this claim; no program in sight. -/
import Derived.Test.YthldlaiplfennaaGreatPk
namespace Go.Proofs.YthldlaiplfennaaGreat.S
set_option linter.all false

theorem Bth.gcn_stop (k i : Nat) {b : Bth} (h : ¬ (i < 2 ∧ b.gcOk)) : Bth.gcn k i b = b := by
  cases k with
  | zero => rfl
  | succ k => rw [Bth.gcn, if_neg h]
theorem Bth.ops_stop (bar : Bool) (k : Nat) {b : Bth} (h : ¬ b.opOk) : Bth.ops bar k b = b := by
  cases k with
  | zero => rfl
  | succ k => rw [Bth.ops, if_neg h]
theorem Bth.ops_next {bar : Bool} {k : Nat} {b c : Bth} (h : b.opOk) (hk : (b.o.length - b.a).toNat ≤ k) (e : c = Bth.ops bar k b) : ∃ j, k = j + 1 ∧ c = Bth.ops bar j (b.op bar) ∧ (b.op bar).ok ∧ ((b.op bar).o.length - (b.op bar).a).toNat ≤ j := by
  have ha := h.at
  have h0 := h.1.2.2.1
  obtain ⟨j, rfl⟩ : ∃ j, k = j + 1 := ⟨k - 1, by omega⟩
  refine ⟨j, rfl, ?_, h.step bar, ?_⟩
  · rw [e, Bth.ops, if_pos h]
  · show (b.o.length - (b.a + 1)).toNat ≤ j
    omega
def Bth.left (b : Bth) (i : Nat) : Nat := (2 - i) * 41 + b.g.mu b.s.h.T.length
theorem mu_bd {b : Bth} (h : b.ok) : b.g.mu b.s.h.T.length ≤ 40 := by
  have h2 := mu_le h.1
  have h3 := h.1.1.1.1
  omega
theorem Bth.gcn_next {k i : Nat} {b c : Bth} (h : b.gcOk) (hi : i < 2) (hk : b.left i ≤ k) (e : c = Bth.gcn k i b) (i' : Nat) (hi' : b.gcs.l = false → i' = if b.gcs.g.p = 0 then i + 1 else i) :
    ∃ j, k = j + 1 ∧ c = Bth.gcn j i' b.gcs ∧ b.gcs.ok ∧ (b.gcs.l = false → b.gcs.left i' ≤ j) := by
  have hl : 41 ≤ b.left i := by unfold Bth.left; omega
  obtain ⟨j, rfl⟩ : ∃ j, k = j + 1 := ⟨k - 1, by omega⟩
  refine ⟨j, rfl, ?_, h.step, fun q => ?_⟩
  · rw [e, Bth.gcn, if_pos ⟨hi, h⟩]
    cases q : b.gcs.l with
    | true => rw [Bth.gcn_stop _ _ (fun z => by have := z.2.2; rw [q] at this; cases this), Bth.gcn_stop _ _ (fun z => by have := z.2.2; rw [q] at this; cases this)]
    | false =>
      rw [hi' q]
      by_cases z : b.gcs.g.p = 0
      · rw [if_pos ⟨rfl, z⟩, if_pos z]
      · rw [if_neg (fun y => z y.2), if_neg z]
  · rw [hi' q]
    have m1 := mu_bd h.step
    unfold Bth.left at hk ⊢
    by_cases z : b.gcs.g.p = 0
    · rw [if_pos z]; omega
    · rw [if_neg z]
      have := gcs_mu h q z
      omega
theorem Bth.sfin_eq {b : Bth} (h : b.ok) (bar : Bool) : b.sfin bar = Bth.gcn 128 0 (Bth.ops bar 16 b) := by rw [Bth.sfin, if_pos h]; rfl
end Go.Proofs.YthldlaiplfennaaGreat.S
