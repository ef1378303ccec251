/- The symbolic heap: a function of the library by its own contract, where it reads no memory of ours. Own work of this claim. -/
import Derived.Test.YtnepiffboakehaaGreatDoorSp
import Derived.Below
namespace Go.Proofs.YtnepiffboakehaaGreatDoor.S
set_option linter.all false
open Go Go.Proofs

/-- A call that only lays new blocks, as a contract. -/
theorem Fn_below {P : Program} {f : Nat} {args : List AV} {vs0 : Array Value} {v : AV} {c : Value} (he : ∀ vs w, (callFunc f vs).run P w = .ok (.enter f vs) w)
    (ha : ∀ (ν : Nm) (vs : Array Value), F2 (VR ν) args vs.toList → vs = vs0) (hc : ∀ w, Calls P f vs0 w fun e w' => e = .returned c ∧ RowKit.Below w.heap.size w w') (hv : ∀ ν, VR ν v c) :
    Fn P f [] args (fun r H => r = v ∧ H = []) := by
  refine ⟨he, fun ν w vs hi hF => ?_⟩
  obtain rfl := ha ν vs hF
  refine (hc w).mono ?_
  rintro e w' ⟨rfl, b⟩
  refine ⟨c, v, [], fun _ => none, rfl, ⟨rfl, rfl⟩, fun n e h => (by cases h), hv _, fun n h => absurd rfl h, ?_⟩
  exact ⟨fun n e h => (by cases h), fun n m e e' h => (by cases h), fun _ _ => rfl, fun k hk => ⟨b.block k hk.1, Nat.lt_of_lt_of_le hk.1 b.size⟩, fun n h => h.elim, fun n e L h => (by cases h), ⟨b.os, b.tape, b.output⟩⟩
/-- Two texts as arguments. -/
theorem two_strs {ν : Nm} {a b : ByteArray} {vs : Array Value} (h : F2 (VR ν) [.str a, .str b] vs.toList) : vs = #[.string a, .string b] := by
  obtain ⟨l⟩ := vs
  cases h with
  | cons h1 t => cases t with
    | cons h2 t => cases t with
      | nil =>
        have e1 : _ = Value.string a := h1
        have e2 : _ = Value.string b := h2
        rw [e1, e2]
end Go.Proofs.YtnepiffboakehaaGreatDoor.S
