/- The common model, third part: allocation, operations. Own work of this claim; no program in sight. -/
import Derived.Test.YtbcnkfkmonpdeaaFn
namespace Go.Proofs.Ytbcnkfkmonpdeaa.S
set_option linter.all false

def opOk (k a b : Int) (n : Nat) : Prop := ((1 ≤ k ∧ k ≤ 7) ∧ 0 ≤ a ∧ a < 3 ∧ a < n ∧ 0 ≤ b ∧ b < 3) ∧ (if k = 1 ∨ k = 7 then b = 0 else b < n)
instance (k a b : Int) (n : Nat) : Decidable (opOk k a b n) := by unfold opOk; infer_instance
def Sto.alcOk (s : Sto) (r : Int) : Prop := s.ok ∧ 0 ≤ r ∧ r < s.h.T.length ∧ s.F.length ≠ 0
instance (s : Sto) (r : Int) : Decidable (s.alcOk r) := by unfold Sto.alcOk; infer_instance
def Sto.alcS (s : Sto) (r : Int) : Sto := if s.alcOk r then ⟨⟨s.h.L, s.h.R, s.h.T.set r.toNat (s.F.getD 0 0)⟩, s.F.drop 1⟩ else Sto.zero
def Sto.alcC (s : Sto) (r : Int) : Int := if s.alcOk r then s.F.getD 0 0 else 0
def Sto.root (s : Sto) (a x : Int) : Sto := ⟨⟨s.h.L, s.h.R, s.h.T.set a.toNat x⟩, s.F⟩
/-- An operation that may be done: the store, and how it ends. -/
def Sto.doS (s : Sto) (k a b : Int) : Sto :=
  if k = 1 then (if s.alcOk a then s.alcS a else s)
  else if k = 2 then s.root a (s.h.T.getD b.toNat 0)
  else if k = 7 then s.root a (-1)
  else if k = 3 ∨ k = 4 then (if s.h.T.getD b.toNat 0 = -1 then s else s.root a ((if k = 4 then s.h.R else s.h.L).getD (s.h.T.getD b.toNat 0).toNat 0))
  else if s.h.T.getD a.toNat 0 = -1 then s
  else if k = 5 then ⟨⟨s.h.L.set (s.h.T.getD a.toNat 0).toNat (s.h.T.getD b.toNat 0), s.h.R, s.h.T⟩, s.F⟩
  else ⟨⟨s.h.L, s.h.R.set (s.h.T.getD a.toNat 0).toNat (s.h.T.getD b.toNat 0), s.h.T⟩, s.F⟩
def Sto.doE (s : Sto) (k a b : Int) : Int :=
  if k = 1 then (if s.alcOk a then 0 else 1)
  else if k = 2 then 0
  else if k = 7 then 0
  else if k = 3 ∨ k = 4 then (if s.h.T.getD b.toNat 0 = -1 then 2 else 0)
  else if s.h.T.getD a.toNat 0 = -1 then 2 else 0
def Sto.runOk (s : Sto) (k a b : Int) : Prop := s.ok ∧ opOk k a b s.h.T.length
instance (s : Sto) (k a b : Int) : Decidable (s.runOk k a b) := by unfold Sto.runOk; infer_instance
def Sto.runS (s : Sto) (k a b : Int) : Sto := if s.runOk k a b then s.doS k a b else Sto.zero
def Sto.runE (s : Sto) (k a b : Int) : Int := if s.runOk k a b then s.doE k a b else 0
theorem alcS_len (s : Sto) (r : Int) : ((s.alcS r).h.L.length ≤ s.h.L.length ∧ (s.alcS r).h.R.length ≤ s.h.R.length ∧ (s.alcS r).h.T.length ≤ s.h.T.length) ∧ (s.alcS r).F.length ≤ s.F.length := by
  unfold Sto.alcS
  split
  · simp
  · simp [Sto.zero]
theorem doS_len (s : Sto) (k a b : Int) : ((s.doS k a b).h.L.length ≤ s.h.L.length ∧ (s.doS k a b).h.R.length ≤ s.h.R.length ∧ (s.doS k a b).h.T.length ≤ s.h.T.length) ∧ (s.doS k a b).F.length ≤ s.F.length := by
  have := alcS_len s a
  unfold Sto.doS
  repeat' split
  all_goals first | exact this | simp [Sto.root]
theorem runS_len (s : Sto) (k a b : Int) : ((s.runS k a b).h.L.length ≤ s.h.L.length ∧ (s.runS k a b).h.R.length ≤ s.h.R.length ∧ (s.runS k a b).h.T.length ≤ s.h.T.length) ∧ (s.runS k a b).F.length ≤ s.F.length := by
  unfold Sto.runS
  split
  · exact doS_len s k a b
  · simp [Sto.zero]
end Go.Proofs.Ytbcnkfkmonpdeaa.S
