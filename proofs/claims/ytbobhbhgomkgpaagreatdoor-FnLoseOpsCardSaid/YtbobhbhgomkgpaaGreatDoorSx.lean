/- The words of the order text, told as numbers. Own work of this claim, printed by a program of this session. -/
import Derived.Test.YtbobhbhgomkgpaaGreatDoorProg
import Derived.ProofKit
import Derived.JoinedOf
namespace Go.Proofs.YtbobhbhgomkgpaaGreatDoor.S
set_option linter.all false
set_option maxRecDepth 100000
open Go Go.Proofs
def ioc : List Nat := [104, 97, 114, 110, 101, 115, 115, 32, 51, 54, 101, 49, 48, 49, 57, 98, 100, 99, 100, 54, 56, 56, 53, 49, 50, 52, 57, 54, 52, 50, 98, 48, 48, 55, 97, 57, 54, 99, 99, 101, 54, 54, 49, 101, 56, 54, 97, 100, 101, 55, 51, 102, 54, 98, 101, 97, 49, 49, 102, 48, 48, 48, 101, 57, 51, 56, 54, 97, 56, 97, 56, 49, 32, 99, 117, 116, 32, 97, 116, 32, 108, 111, 111, 112, 46, 101, 120, 97, 109, 112, 108, 101, 47, 99, 101, 108, 108, 99, 111, 108, 108, 101, 99, 116, 111, 114, 47, 108, 97, 119, 115, 46, 70, 110, 67, 111, 117, 110, 116, 66, 111, 116, 104, 32, 108, 111, 111, 112, 46, 101, 120, 97, 109, 112, 108, 101, 47, 99, 101, 108, 108, 99, 111, 108, 108, 101, 99, 116, 111, 114, 47, 108, 97, 119, 115, 46, 70, 110, 67, 111, 117, 110, 116, 83, 116, 101, 112, 32, 108, 111, 111, 112, 46, 101, 120, 97, 109, 112, 108, 101, 47, 99, 101, 108, 108, 99, 111, 108, 108, 101, 99, 116, 111, 114, 47, 108, 97, 119, 115, 46, 70, 110, 76, 111, 115, 115, 83, 99, 104, 101, 100, 117, 108, 101, 32, 108, 111, 111, 112, 46, 101, 120, 97, 109, 112, 108, 101, 47, 99, 101, 108, 108, 99, 111, 108, 108, 101, 99, 116, 111, 114, 47, 108, 97, 119, 115, 46, 70, 110, 76, 111, 115, 101, 79, 112, 115, 32, 108, 111, 111, 112, 46, 101, 120, 97, 109, 112, 108, 101, 47, 99, 101, 108, 108, 99, 111, 108, 108, 101, 99, 116, 111, 114, 47, 108, 97, 119, 115, 46, 70, 110, 69, 120, 97, 99, 116, 67, 111, 117, 110, 116, 66, 111, 116, 104, 32, 108, 111, 111, 112, 46, 101, 120, 97, 109, 112, 108, 101, 47, 99, 101, 108, 108, 99, 111, 108, 108, 101, 99, 116, 111, 114, 47, 108, 97, 119, 115, 46, 70, 110, 69, 120, 97, 99, 116, 67, 97, 110, 76, 111, 115, 101, 32, 108, 111, 111, 112, 46, 101, 120, 97, 109, 112, 108, 101, 47, 99, 101, 108, 108, 99, 111, 108, 108, 101, 99, 116, 111, 114, 47, 108, 97, 119, 115, 46, 70, 110, 69, 120, 97, 99, 116, 83, 104, 111, 114, 116, 76, 111, 115, 115]
theorem io_eq : Tryz.prog.initOrder = String.ofList (ioc.map Char.ofNat) := by kernel_rfl
def iow : List (List Nat) := [[99, 117, 116], [97, 116], [108, 111, 111, 112, 46, 101, 120, 97, 109, 112, 108, 101, 47, 99, 101, 108, 108, 99, 111, 108, 108, 101, 99, 116, 111, 114, 47, 108, 97, 119, 115, 46, 70, 110, 67, 111, 117, 110, 116, 66, 111, 116, 104], [108, 111, 111, 112, 46, 101, 120, 97, 109, 112, 108, 101, 47, 99, 101, 108, 108, 99, 111, 108, 108, 101, 99, 116, 111, 114, 47, 108, 97, 119, 115, 46, 70, 110, 67, 111, 117, 110, 116, 83, 116, 101, 112], [108, 111, 111, 112, 46, 101, 120, 97, 109, 112, 108, 101, 47, 99, 101, 108, 108, 99, 111, 108, 108, 101, 99, 116, 111, 114, 47, 108, 97, 119, 115, 46, 70, 110, 76, 111, 115, 115, 83, 99, 104, 101, 100, 117, 108, 101], [108, 111, 111, 112, 46, 101, 120, 97, 109, 112, 108, 101, 47, 99, 101, 108, 108, 99, 111, 108, 108, 101, 99, 116, 111, 114, 47, 108, 97, 119, 115, 46, 70, 110, 76, 111, 115, 101, 79, 112, 115], [108, 111, 111, 112, 46, 101, 120, 97, 109, 112, 108, 101, 47, 99, 101, 108, 108, 99, 111, 108, 108, 101, 99, 116, 111, 114, 47, 108, 97, 119, 115, 46, 70, 110, 69, 120, 97, 99, 116, 67, 111, 117, 110, 116, 66, 111, 116, 104], [108, 111, 111, 112, 46, 101, 120, 97, 109, 112, 108, 101, 47, 99, 101, 108, 108, 99, 111, 108, 108, 101, 99, 116, 111, 114, 47, 108, 97, 119, 115, 46, 70, 110, 69, 120, 97, 99, 116, 67, 97, 110, 76, 111, 115, 101], [108, 111, 111, 112, 46, 101, 120, 97, 109, 112, 108, 101, 47, 99, 101, 108, 108, 99, 111, 108, 108, 101, 99, 116, 111, 114, 47, 108, 97, 119, 115, 46, 70, 110, 69, 120, 97, 99, 116, 83, 104, 111, 114, 116, 76, 111, 115, 115]]
theorem io_w : behindMainWord (wordsSigns Tryz.prog.initOrder.toList) = iow.map fun w => w.map Char.ofNat := by
  rw [io_eq, String.toList_ofList]
  kernel_rfl
theorem hl_of {P : Program} {ws : List (List Char)} (hw : behindMainWord (wordsSigns P.initOrder.toList) = ws) : P.headLifts = if (stripLifts liftWords ws).2.head? == some "cut".toList then (stripLifts liftWords ws).1 else [] := by
  subst hw; rfl
theorem enter_of {P : Program} {c : List Char} {rest : List (List Char)} (hw : behindMainWord (wordsSigns P.initOrder.toList) = c :: rest) : P.mayEnter = (((c == "gc".toList || c == "spec".toList) && (rest.isEmpty || rest.head? == some "stop".toList)) ||
    (c == "carried".toList && rest.take 2 == ["gc".toList, "cut".toList] && !P.laysLater && !P.bearsReflect) ||
    ((stripLifts liftWords (c :: rest)).2.head? == some "cut".toList &&
      ((stripLifts liftWords (c :: rest)).1.contains "finals" || !P.laysLater) && ((stripLifts liftWords (c :: rest)).1.contains "reflectrows" || !P.bearsReflect) &&
      ((stripLifts liftWords (c :: rest)).1.contains "reflectrows" || !(stripLifts liftWords (c :: rest)).1.contains "leanrows") && 
      P.doorFits (stripLifts liftWords (c :: rest)).1)) := by
  unfold Program.mayEnter; rw [hw]
theorem lifts_of {P : Program} {ws : List (List Char)} (hw : behindMainWord (wordsSigns P.initOrder.toList) = ws) (hl : P.headLifts = []) : P.liftsFinal = ((ws.head? == some "carried".toList && ws.take 3 != ["carried".toList, "gc".toList, "cut".toList]) || [].contains "finals") := by
  subst hw; unfold Program.liftsFinal; rw [hl]
theorem make_of {P : Program} {c : List Char} {rest : List (List Char)} (hw : behindMainWord (wordsSigns P.initOrder.toList) = c :: rest) : P.make = if c == "gc".toList || c == "spec".toList then some .whole else if c == "cut".toList || (c == "finals".toList && rest.head? == some "cut".toList) then some .cut else if c == "carried".toList then some .carried else if P.headLifts.isEmpty then none else some (.lifted P.headLifts) := by
  unfold Program.make; rw [hw]
theorem io_hl : Tryz.prog.headLifts = [] := (hl_of io_w).trans (by kernel_rfl)
theorem io_enter : Tryz.prog.mayEnter = true := (enter_of io_w).trans (by kernel_rfl)
theorem io_lifts : Tryz.prog.liftsFinal = false := (lifts_of io_w io_hl).trans (by kernel_rfl)
theorem io_make : Tryz.prog.make = some .cut := (make_of io_w).trans (by kernel_rfl)
end Go.Proofs.YtbobhbhgomkgpaaGreatDoor.S
