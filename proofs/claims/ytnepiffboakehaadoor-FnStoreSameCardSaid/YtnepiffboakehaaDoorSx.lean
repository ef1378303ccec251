/- The words of the order text, told as numbers. Own work of this claim, printed by a program of this session. -/
import Derived.Test.YtnepiffboakehaaDoorProg
import Derived.ProofKit
import Derived.JoinedOf
namespace Go.Proofs.YtnepiffboakehaaDoor.S
set_option linter.all false
set_option maxRecDepth 100000
open Go Go.Proofs
def ioc : List Nat := [104, 97, 114, 110, 101, 115, 115, 32, 55, 97, 49, 56, 55, 98, 57, 56, 51, 99, 97, 49, 54, 102, 48, 48, 53, 102, 56, 99, 49, 98, 49, 48, 56, 98, 101, 48, 48, 53, 101, 53, 48, 99, 102, 54, 97, 99, 101, 52, 48, 50, 53, 57, 49, 49, 54, 102, 53, 52, 56, 57, 98, 97, 51, 100, 55, 97, 100, 101, 101, 100, 101, 54, 32, 99, 117, 116, 32, 97, 116, 32, 108, 111, 111, 112, 46, 101, 120, 97, 109, 112, 108, 101, 47, 99, 101, 108, 108, 99, 111, 108, 108, 101, 99, 116, 111, 114, 47, 108, 97, 119, 115, 46, 70, 110, 83, 116, 111, 114, 101, 83, 97, 109, 101]
theorem io_eq : Tryd.prog.initOrder = String.ofList (ioc.map Char.ofNat) := by kernel_rfl
def iow : List (List Nat) := [[99, 117, 116], [97, 116], [108, 111, 111, 112, 46, 101, 120, 97, 109, 112, 108, 101, 47, 99, 101, 108, 108, 99, 111, 108, 108, 101, 99, 116, 111, 114, 47, 108, 97, 119, 115, 46, 70, 110, 83, 116, 111, 114, 101, 83, 97, 109, 101]]
theorem io_w : behindMainWord (wordsSigns Tryd.prog.initOrder.toList) = iow.map fun w => w.map Char.ofNat := by
  rw [io_eq, String.toList_ofList]
  kernel_rfl
theorem hl_of {P : Program} {ws : List (List Char)} (hw : behindMainWord (wordsSigns P.initOrder.toList) = ws) : P.headLifts = if (stripLifts liftWords ws).2.head? == some "cut".toList then (stripLifts liftWords ws).1 else [] := by
  subst hw; rfl
theorem enter_of {P : Program} {c : List Char} {rest : List (List Char)} (hw : behindMainWord (wordsSigns P.initOrder.toList) = c :: rest) : P.mayEnter = (((c == "gc".toList || c == "spec".toList) && (rest.isEmpty || rest.head? == some "stop".toList)) ||
    (c == "carried".toList && rest.take 2 == ["gc".toList, "cut".toList] && !P.laysLater && !P.bearsReflect) ||
    ((stripLifts liftWords (c :: rest)).2.head? == some "cut".toList &&
      ((stripLifts liftWords (c :: rest)).1.contains "finals" || !P.laysLater) && ((stripLifts liftWords (c :: rest)).1.contains "reflectrows" || !P.bearsReflect) &&
      ((stripLifts liftWords (c :: rest)).1.contains "reflectrows" || !(stripLifts liftWords (c :: rest)).1.contains "leanrows") && 
      P.doorFits (stripLifts liftWords (c :: rest)).1)) := by
  unfold Program.mayEnter; rw [hw]
theorem lifts_of {P : Program} {ws : List (List Char)} (hw : behindMainWord (wordsSigns P.initOrder.toList) = ws) (hl : P.headLifts = []) : P.liftsFinal = ((ws.head? == some "carried".toList && ws.take 3 != ["carried".toList, "gc".toList, "cut".toList]) || [].contains "finals") := by
  subst hw; unfold Program.liftsFinal; rw [hl]
theorem make_of {P : Program} {c : List Char} {rest : List (List Char)} (hw : behindMainWord (wordsSigns P.initOrder.toList) = c :: rest) : P.make = if c == "gc".toList || c == "spec".toList then some .whole else if c == "cut".toList || (c == "finals".toList && rest.head? == some "cut".toList) then some .cut else if c == "carried".toList then some .carried else if P.headLifts.isEmpty then none else some (.lifted P.headLifts) := by
  unfold Program.make; rw [hw]
theorem cut_eq : "cut".toList = [99, 117, 116].map Char.ofNat := by kernel_rfl
theorem io_hl : Tryd.prog.headLifts = [] := (hl_of io_w).trans (by kernel_rfl)
theorem io_enter : Tryd.prog.mayEnter = true := (enter_of io_w).trans (by kernel_rfl)
theorem io_lifts : Tryd.prog.liftsFinal = false := (lifts_of io_w io_hl).trans (by kernel_rfl)
theorem io_make : Tryd.prog.make = some .cut := (make_of io_w).trans (by kernel_rfl)
end Go.Proofs.YtnepiffboakehaaDoor.S
