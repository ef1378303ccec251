/- The words of the order text, told as numbers. Own work of this claim, printed by a program of this session. -/
import Derived.Test.YthldlaiplfennaaDoorProg
import Derived.ProofKit
import Derived.JoinedOf
namespace Go.Proofs.YthldlaiplfennaaDoor.S
set_option linter.all false
set_option maxRecDepth 100000
open Go Go.Proofs
def ioc : List Nat := [104, 97, 114, 110, 101, 115, 115, 32, 55, 55, 50, 57, 52, 57, 53, 53, 97, 50, 49, 102, 48, 52, 52, 98, 57, 100, 100, 50, 101, 50, 98, 98, 55, 54, 98, 51, 100, 53, 51, 57, 54, 52, 57, 100, 102, 101, 50, 52, 54, 51, 50, 56, 52, 97, 97, 50, 51, 50, 48, 50, 57, 52, 51, 99, 99, 55, 99, 97, 99, 51, 53, 97, 32, 99, 117, 116, 32, 97, 116, 32, 108, 111, 111, 112, 46, 101, 120, 97, 109, 112, 108, 101, 47, 99, 101, 108, 108, 99, 111, 108, 108, 101, 99, 116, 111, 114, 47, 108, 97, 119, 115, 46, 70, 110, 83, 116, 111, 114, 101, 83, 97, 109, 101, 32, 108, 111, 111, 112, 46, 101, 120, 97, 109, 112, 108, 101, 47, 99, 101, 108, 108, 99, 111, 108, 108, 101, 99, 116, 111, 114, 47, 108, 97, 119, 115, 46, 70, 110, 70, 111, 114, 109, 97, 116, 83, 116, 111, 114, 101, 32, 108, 111, 111, 112, 46, 101, 120, 97, 109, 112, 108, 101, 47, 99, 101, 108, 108, 99, 111, 108, 108, 101, 99, 116, 111, 114, 47, 108, 97, 119, 115, 46, 70, 110, 83, 116, 111, 114, 101, 84, 101, 120, 116, 32, 108, 111, 111, 112, 46, 101, 120, 97, 109, 112, 108, 101, 47, 99, 101, 108, 108, 99, 111, 108, 108, 101, 99, 116, 111, 114, 47, 108, 97, 119, 115, 46, 70, 110, 69, 120, 97, 99, 116, 70, 111, 114, 109, 97, 116, 83, 116, 111, 114, 101, 32, 108, 111, 111, 112, 46, 101, 120, 97, 109, 112, 108, 101, 47, 99, 101, 108, 108, 99, 111, 108, 108, 101, 99, 116, 111, 114, 47, 108, 97, 119, 115, 46, 70, 110, 69, 120, 97, 99, 116, 70, 111, 114, 109, 97, 116, 66, 111, 116, 104, 32, 108, 111, 111, 112, 46, 101, 120, 97, 109, 112, 108, 101, 47, 99, 101, 108, 108, 99, 111, 108, 108, 101, 99, 116, 111, 114, 47, 108, 97, 119, 115, 46, 70, 110, 66, 111, 116, 104, 84, 101, 120, 116]
theorem io_eq : Tryd.prog.initOrder = String.ofList (ioc.map Char.ofNat) := by kernel_rfl
def iow : List (List Nat) := [[99, 117, 116], [97, 116], [108, 111, 111, 112, 46, 101, 120, 97, 109, 112, 108, 101, 47, 99, 101, 108, 108, 99, 111, 108, 108, 101, 99, 116, 111, 114, 47, 108, 97, 119, 115, 46, 70, 110, 83, 116, 111, 114, 101, 83, 97, 109, 101], [108, 111, 111, 112, 46, 101, 120, 97, 109, 112, 108, 101, 47, 99, 101, 108, 108, 99, 111, 108, 108, 101, 99, 116, 111, 114, 47, 108, 97, 119, 115, 46, 70, 110, 70, 111, 114, 109, 97, 116, 83, 116, 111, 114, 101], [108, 111, 111, 112, 46, 101, 120, 97, 109, 112, 108, 101, 47, 99, 101, 108, 108, 99, 111, 108, 108, 101, 99, 116, 111, 114, 47, 108, 97, 119, 115, 46, 70, 110, 83, 116, 111, 114, 101, 84, 101, 120, 116], [108, 111, 111, 112, 46, 101, 120, 97, 109, 112, 108, 101, 47, 99, 101, 108, 108, 99, 111, 108, 108, 101, 99, 116, 111, 114, 47, 108, 97, 119, 115, 46, 70, 110, 69, 120, 97, 99, 116, 70, 111, 114, 109, 97, 116, 83, 116, 111, 114, 101], [108, 111, 111, 112, 46, 101, 120, 97, 109, 112, 108, 101, 47, 99, 101, 108, 108, 99, 111, 108, 108, 101, 99, 116, 111, 114, 47, 108, 97, 119, 115, 46, 70, 110, 69, 120, 97, 99, 116, 70, 111, 114, 109, 97, 116, 66, 111, 116, 104], [108, 111, 111, 112, 46, 101, 120, 97, 109, 112, 108, 101, 47, 99, 101, 108, 108, 99, 111, 108, 108, 101, 99, 116, 111, 114, 47, 108, 97, 119, 115, 46, 70, 110, 66, 111, 116, 104, 84, 101, 120, 116]]
theorem io_w : behindMainWord (wordsSigns Tryd.prog.initOrder.toList) = iow.map fun w => w.map Char.ofNat := by
  rw [io_eq, String.toList_ofList]
  kernel_rfl
theorem hl_of {P : Program} {ws : List (List Char)} (hw : behindMainWord (wordsSigns P.initOrder.toList) = ws) : P.headLifts = if (stripLifts liftWords ws).2.head? == some "cut".toList then (stripLifts liftWords ws).1 else [] := by
  subst hw; rfl
theorem enter_of {P : Program} {c : List Char} {rest : List (List Char)} (hw : behindMainWord (wordsSigns P.initOrder.toList) = c :: rest) : P.mayEnter = (((c == "gc".toList || c == "spec".toList) && (rest.isEmpty || rest.head? == some "stop".toList)) ||
    (c == "carried".toList && rest.take 2 == ["gc".toList, "cut".toList] && !P.laysLater && !P.bearsReflect) ||
    ((stripLifts liftWords (c :: rest)).2.head? == some "cut".toList &&
      ((stripLifts liftWords (c :: rest)).1.contains "finals" || !P.laysLater) && ((stripLifts liftWords (c :: rest)).1.contains "reflectrows" || !P.bearsReflect) &&
      ((stripLifts liftWords (c :: rest)).1.contains "reflectrows" || !(stripLifts liftWords (c :: rest)).1.contains "leanrows") && 
      P.doorFits (stripLifts liftWords (c :: rest)).1)) := by
  unfold Program.mayEnter; rw [hw]
theorem lifts_of {P : Program} {ws : List (List Char)} (hw : behindMainWord (wordsSigns P.initOrder.toList) = ws) (hl : P.headLifts = []) : P.liftsFinal = ((ws.head? == some "carried".toList && ws.take 3 != ["carried".toList, "gc".toList, "cut".toList]) || [].contains "finals") := by
  subst hw; unfold Program.liftsFinal; rw [hl]
theorem make_of {P : Program} {c : List Char} {rest : List (List Char)} (hw : behindMainWord (wordsSigns P.initOrder.toList) = c :: rest) : P.make = if c == "gc".toList || c == "spec".toList then some .whole else if c == "cut".toList || (c == "finals".toList && rest.head? == some "cut".toList) then some .cut else if c == "carried".toList then some .carried else if P.headLifts.isEmpty then none else some (.lifted P.headLifts) := by
  unfold Program.make; rw [hw]
theorem cut_eq : "cut".toList = [99, 117, 116].map Char.ofNat := by kernel_rfl
theorem io_hl : Tryd.prog.headLifts = [] := (hl_of io_w).trans (by kernel_rfl)
theorem io_enter : Tryd.prog.mayEnter = true := (enter_of io_w).trans (by kernel_rfl)
theorem io_lifts : Tryd.prog.liftsFinal = false := (lifts_of io_w io_hl).trans (by kernel_rfl)
theorem io_make : Tryd.prog.make = some .cut := (make_of io_w).trans (by kernel_rfl)
end Go.Proofs.YthldlaiplfennaaDoor.S
