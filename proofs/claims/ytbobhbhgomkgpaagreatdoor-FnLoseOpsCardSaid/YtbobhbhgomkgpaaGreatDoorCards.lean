/-
  DERIVED. GIVEN WITH THE SEED: THE CARDS: each row of YtbobhbhgomkgpaaGreatDoorRows.lean that lists a variable, with what it lists TIED to the program's text (the seventh form; the later family's looks); each row that meets fmt, with fmt's text TOLD by the authors' own Lean function (tested against real Go, not proved from fmt's source: count such statements apart). THE CARD IS WHAT COUNTS. Prove the row's statement (the work); the ties are given (YtbobhbhgomkgpaaGreatDoorTie.lean); close each card by the builder's one call (the guide's Derived/Test/ToyasCard.lean, 'card_holds'). Laid BY PROGRAM, IN A SANDBOX (cutbox-door.mjs). By AI agents, Wed Nov 11 2026. No macro, syntax, notation, axiom, sorry.
-/
import Derived.Test.YtbobhbhgomkgpaaGreatDoorRows
import GoSem.ClaimSeven
namespace Go.Proofs.YtbobhbhgomkgpaaGreatDoor
namespace Rows

/-- THE TIED CARD OF 'laws.FnCountBoth'. -/
def fnCountBothCard : Claim7 := { stood := { row := fnCountBothRow, standIns := [], harness := (true, "36e1019bdcd68851249642b007a96cce661e86ade73f6bea11f000e9386a8a81"), looks := false }, kinds := [], alts := [], laidByText := true, laidKinds := [.data, .data, .data], laidTests := true, laidLooks := .later }
def FnCountBothCardSaid : Prop := Claim7.holds Tryz.pinned (.plain (OpenSpec.ofChange fnCountBothSpec)) fnCountBothCard

/-- THE TIED CARD OF 'laws.FnCountStep'. -/
def fnCountStepCard : Claim7 := { stood := { row := fnCountStepRow, standIns := [], harness := (true, "36e1019bdcd68851249642b007a96cce661e86ade73f6bea11f000e9386a8a81"), looks := false }, kinds := [], alts := [], laidByText := true, laidKinds := [.data, .data, .data], laidTests := true, laidLooks := .later }
def FnCountStepCardSaid : Prop := Claim7.holds Tryz.pinned (.plain (OpenSpec.ofChange fnCountStepSpec)) fnCountStepCard

/-- THE TIED CARD OF 'laws.FnLossSchedule'. -/
def fnLossScheduleCard : Claim7 := { stood := { row := fnLossScheduleRow, standIns := [], harness := (true, "36e1019bdcd68851249642b007a96cce661e86ade73f6bea11f000e9386a8a81"), looks := false }, kinds := [], alts := [], laidByText := true, laidKinds := [.data, .data, .data], laidTests := true, laidLooks := .later }
def FnLossScheduleCardSaid : Prop := Claim7.holds Tryz.pinned (.plain (OpenSpec.ofChange fnLossScheduleSpec)) fnLossScheduleCard

/-- THE TIED CARD OF 'laws.FnLoseOps'. -/
def fnLoseOpsCard : Claim7 := { stood := { row := fnLoseOpsRow, standIns := [], harness := (true, "36e1019bdcd68851249642b007a96cce661e86ade73f6bea11f000e9386a8a81"), looks := false }, kinds := [], alts := [], laidByText := true, laidKinds := [.data, .data, .data], laidTests := true, laidLooks := .later }
def FnLoseOpsCardSaid : Prop := Claim7.holds Tryz.pinned (.plain (OpenSpec.ofChange fnLoseOpsSpec)) fnLoseOpsCard

/-- THE TIED CARD OF 'laws.FnExactCountBoth'. -/
def fnExactCountBothCard : Claim7 := { stood := { row := fnExactCountBothRow, standIns := [], harness := (true, "36e1019bdcd68851249642b007a96cce661e86ade73f6bea11f000e9386a8a81"), looks := false }, kinds := [], alts := [], laidByText := true, laidKinds := [.data, .data, .data], laidTests := true, laidLooks := .later }
def FnExactCountBothCardSaid : Prop := Claim7.holds Tryz.pinned (.plain (OpenSpec.ofChange fnExactCountBothSpec)) fnExactCountBothCard

/-- THE TIED CARD OF 'laws.FnExactCanLose'. -/
def fnExactCanLoseCard : Claim7 := { stood := { row := fnExactCanLoseRow, standIns := [], harness := (true, "36e1019bdcd68851249642b007a96cce661e86ade73f6bea11f000e9386a8a81"), looks := false }, kinds := [], alts := [], laidByText := true, laidKinds := [.data, .data, .data], laidTests := true, laidLooks := .later }
def FnExactCanLoseCardSaid : Prop := Claim7.holds Tryz.pinned (.plain (OpenSpec.ofChange fnExactCanLoseSpec)) fnExactCanLoseCard

/-- THE TIED CARD OF 'laws.FnExactShortLoss'. -/
def fnExactShortLossCard : Claim7 := { stood := { row := fnExactShortLossRow, standIns := [], harness := (true, "36e1019bdcd68851249642b007a96cce661e86ade73f6bea11f000e9386a8a81"), looks := false }, kinds := [], alts := [], laidByText := true, laidKinds := [.data, .data, .data], laidTests := true, laidLooks := .later }
def FnExactShortLossCardSaid : Prop := Claim7.holds Tryz.pinned (.plain (OpenSpec.ofChange fnExactShortLossSpec)) fnExactShortLossCard

/-- THE SECOND FORM's CARD OF 'laws.FnCountBoth'. -/
def fnCountBothUptoCard : Claim7 := { stood := { row := fnCountBothUptoRow, standIns := [], harness := (true, "36e1019bdcd68851249642b007a96cce661e86ade73f6bea11f000e9386a8a81"), looks := false }, kinds := [], alts := [], laidByText := true, laidKinds := [.data, .data, .data], laidTests := true, laidLooks := .later }
def FnCountBothUptoCardSaid : Prop := Claim7.holds Tryz.pinned (.plain (OpenSpec.upto fnCountBothSpec)) fnCountBothUptoCard

/-- THE SECOND FORM's CARD OF 'laws.FnCountStep'. -/
def fnCountStepUptoCard : Claim7 := { stood := { row := fnCountStepUptoRow, standIns := [], harness := (true, "36e1019bdcd68851249642b007a96cce661e86ade73f6bea11f000e9386a8a81"), looks := false }, kinds := [], alts := [], laidByText := true, laidKinds := [.data, .data, .data], laidTests := true, laidLooks := .later }
def FnCountStepUptoCardSaid : Prop := Claim7.holds Tryz.pinned (.plain (OpenSpec.upto fnCountStepSpec)) fnCountStepUptoCard

/-- THE SECOND FORM's CARD OF 'laws.FnLossSchedule'. -/
def fnLossScheduleUptoCard : Claim7 := { stood := { row := fnLossScheduleUptoRow, standIns := [], harness := (true, "36e1019bdcd68851249642b007a96cce661e86ade73f6bea11f000e9386a8a81"), looks := false }, kinds := [], alts := [], laidByText := true, laidKinds := [.data, .data, .data], laidTests := true, laidLooks := .later }
def FnLossScheduleUptoCardSaid : Prop := Claim7.holds Tryz.pinned (.plain (OpenSpec.upto fnLossScheduleSpec)) fnLossScheduleUptoCard

/-- THE SECOND FORM's CARD OF 'laws.FnLoseOps'. -/
def fnLoseOpsUptoCard : Claim7 := { stood := { row := fnLoseOpsUptoRow, standIns := [], harness := (true, "36e1019bdcd68851249642b007a96cce661e86ade73f6bea11f000e9386a8a81"), looks := false }, kinds := [], alts := [], laidByText := true, laidKinds := [.data, .data, .data], laidTests := true, laidLooks := .later }
def FnLoseOpsUptoCardSaid : Prop := Claim7.holds Tryz.pinned (.plain (OpenSpec.upto fnLoseOpsSpec)) fnLoseOpsUptoCard

/-- THE SECOND FORM's CARD OF 'laws.FnExactCountBoth'. -/
def fnExactCountBothUptoCard : Claim7 := { stood := { row := fnExactCountBothUptoRow, standIns := [], harness := (true, "36e1019bdcd68851249642b007a96cce661e86ade73f6bea11f000e9386a8a81"), looks := false }, kinds := [], alts := [], laidByText := true, laidKinds := [.data, .data, .data], laidTests := true, laidLooks := .later }
def FnExactCountBothUptoCardSaid : Prop := Claim7.holds Tryz.pinned (.plain (OpenSpec.upto fnExactCountBothSpec)) fnExactCountBothUptoCard

/-- THE SECOND FORM's CARD OF 'laws.FnExactCanLose'. -/
def fnExactCanLoseUptoCard : Claim7 := { stood := { row := fnExactCanLoseUptoRow, standIns := [], harness := (true, "36e1019bdcd68851249642b007a96cce661e86ade73f6bea11f000e9386a8a81"), looks := false }, kinds := [], alts := [], laidByText := true, laidKinds := [.data, .data, .data], laidTests := true, laidLooks := .later }
def FnExactCanLoseUptoCardSaid : Prop := Claim7.holds Tryz.pinned (.plain (OpenSpec.upto fnExactCanLoseSpec)) fnExactCanLoseUptoCard

/-- THE SECOND FORM's CARD OF 'laws.FnExactShortLoss'. -/
def fnExactShortLossUptoCard : Claim7 := { stood := { row := fnExactShortLossUptoRow, standIns := [], harness := (true, "36e1019bdcd68851249642b007a96cce661e86ade73f6bea11f000e9386a8a81"), looks := false }, kinds := [], alts := [], laidByText := true, laidKinds := [.data, .data, .data], laidTests := true, laidLooks := .later }
def FnExactShortLossUptoCardSaid : Prop := Claim7.holds Tryz.pinned (.plain (OpenSpec.upto fnExactShortLossSpec)) fnExactShortLossUptoCard
end Rows
end Go.Proofs.YtbobhbhgomkgpaaGreatDoor
