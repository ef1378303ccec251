/-
  DERIVED. GIVEN WITH THE SEED: THE CARDS: each row of YtnepiffboakehaaGreatDoorRows.lean that lists a variable, with what it lists TIED to the program's text (the seventh form; the later family's looks); each row that meets fmt, with fmt's text TOLD by the authors' own Lean function (tested against real Go, not proved from fmt's source: count such statements apart). THE CARD IS WHAT COUNTS. Prove the row's statement (the work); the ties are given (YtnepiffboakehaaGreatDoorTie.lean); close each card by the builder's one call (the guide's Derived/Test/ToyasCard.lean, 'card_holds'). Laid BY PROGRAM, IN A SANDBOX (cutbox-door.mjs). By AI agents, Wed Nov 11 2026. No macro, syntax, notation, axiom, sorry.
-/
import Derived.Test.YtnepiffboakehaaGreatDoorRows
import GoSem.ClaimSeven
namespace Go.Proofs.YtnepiffboakehaaGreatDoor
namespace Rows

/-- THE TIED CARD OF 'laws.FnBarrier'. -/
def fnBarrierCard : Claim7 := { stood := { row := fnBarrierRow, standIns := [], harness := (true, "9b24f60278b73edfc3772e7d2603f58956da415e5becd6ff6b102c5c4c4ed6d3"), looks := false }, kinds := [], alts := [], laidByText := true, laidKinds := [.data, .pinned], laidTests := true, laidLooks := .later }
def FnBarrierCardSaid : Prop := Claim7.holds Tryz.pinned (.plain (OpenSpec.ofChange fnBarrierSpec)) fnBarrierCard

/-- THE TIED CARD OF 'laws.FnRunBoth'. -/
def fnRunBothCard : Claim7 := { stood := { row := fnRunBothRow, standIns := [], harness := (true, "9b24f60278b73edfc3772e7d2603f58956da415e5becd6ff6b102c5c4c4ed6d3"), looks := false }, kinds := [], alts := [], laidByText := true, laidKinds := [.data, .pinned], laidTests := true, laidLooks := .later }
def FnRunBothCardSaid : Prop := Claim7.holds Tryz.pinned (.plain (OpenSpec.ofChange fnRunBothSpec)) fnRunBothCard

/-- THE TIED CARD OF 'laws.FnBothStores'. -/
def fnBothStoresCard : Claim7 := { stood := { row := fnBothStoresRow, standIns := [], harness := (true, "9b24f60278b73edfc3772e7d2603f58956da415e5becd6ff6b102c5c4c4ed6d3"), looks := false }, kinds := [], alts := [], laidByText := true, laidKinds := [.data, .pinned], laidTests := true, laidLooks := .later }
def FnBothStoresCardSaid : Prop := Claim7.holds Tryz.pinned (.plain (OpenSpec.ofChange fnBothStoresSpec)) fnBothStoresCard

/-- THE TIED CARD OF 'laws.FnOnlyOps'. -/
def fnOnlyOpsCard : Claim7 := { stood := { row := fnOnlyOpsRow, standIns := [], harness := (true, "9b24f60278b73edfc3772e7d2603f58956da415e5becd6ff6b102c5c4c4ed6d3"), looks := false }, kinds := [], alts := [], laidByText := true, laidKinds := [.data, .pinned], laidTests := true, laidLooks := .later }
def FnOnlyOpsCardSaid : Prop := Claim7.holds Tryz.pinned (.plain (OpenSpec.ofChange fnOnlyOpsSpec)) fnOnlyOpsCard

/-- THE TIED CARD OF 'laws.FnOnlyGc'. -/
def fnOnlyGcCard : Claim7 := { stood := { row := fnOnlyGcRow, standIns := [], harness := (true, "9b24f60278b73edfc3772e7d2603f58956da415e5becd6ff6b102c5c4c4ed6d3"), looks := false }, kinds := [], alts := [], laidByText := true, laidKinds := [.data, .pinned], laidTests := true, laidLooks := .later }
def FnOnlyGcCardSaid : Prop := Claim7.holds Tryz.pinned (.plain (OpenSpec.ofChange fnOnlyGcSpec)) fnOnlyGcCard

/-- THE TIED CARD OF 'laws.FnFinishBoth'. -/
def fnFinishBothCard : Claim7 := { stood := { row := fnFinishBothRow, standIns := [], harness := (true, "9b24f60278b73edfc3772e7d2603f58956da415e5becd6ff6b102c5c4c4ed6d3"), looks := false }, kinds := [], alts := [], laidByText := true, laidKinds := [.data, .pinned], laidTests := true, laidLooks := .later }
def FnFinishBothCardSaid : Prop := Claim7.holds Tryz.pinned (.plain (OpenSpec.ofChange fnFinishBothSpec)) fnFinishBothCard

/-- THE TIED CARD OF 'laws.FnBothSame'. -/
def fnBothSameCard : Claim7 := { stood := { row := fnBothSameRow, standIns := [], harness := (true, "9b24f60278b73edfc3772e7d2603f58956da415e5becd6ff6b102c5c4c4ed6d3"), looks := false }, kinds := [], alts := [], laidByText := true, laidKinds := [.data, .data, .data], laidTests := true, laidLooks := .later }
def FnBothSameCardSaid : Prop := Claim7.holds Tryz.pinned (.plain (OpenSpec.ofChange fnBothSameSpec)) fnBothSameCard

/-- THE SECOND FORM's CARD OF 'laws.FnBarrier'. -/
def fnBarrierUptoCard : Claim7 := { stood := { row := fnBarrierUptoRow, standIns := [], harness := (true, "9b24f60278b73edfc3772e7d2603f58956da415e5becd6ff6b102c5c4c4ed6d3"), looks := false }, kinds := [], alts := [], laidByText := true, laidKinds := [.data, .pinned], laidTests := true, laidLooks := .later }
def FnBarrierUptoCardSaid : Prop := Claim7.holds Tryz.pinned (.plain (OpenSpec.upto fnBarrierSpec)) fnBarrierUptoCard

/-- THE SECOND FORM's CARD OF 'laws.FnRunBoth'. -/
def fnRunBothUptoCard : Claim7 := { stood := { row := fnRunBothUptoRow, standIns := [], harness := (true, "9b24f60278b73edfc3772e7d2603f58956da415e5becd6ff6b102c5c4c4ed6d3"), looks := false }, kinds := [], alts := [], laidByText := true, laidKinds := [.data, .pinned], laidTests := true, laidLooks := .later }
def FnRunBothUptoCardSaid : Prop := Claim7.holds Tryz.pinned (.plain (OpenSpec.upto fnRunBothSpec)) fnRunBothUptoCard

/-- THE SECOND FORM's CARD OF 'laws.FnBothStores'. -/
def fnBothStoresUptoCard : Claim7 := { stood := { row := fnBothStoresUptoRow, standIns := [], harness := (true, "9b24f60278b73edfc3772e7d2603f58956da415e5becd6ff6b102c5c4c4ed6d3"), looks := false }, kinds := [], alts := [], laidByText := true, laidKinds := [.data, .pinned], laidTests := true, laidLooks := .later }
def FnBothStoresUptoCardSaid : Prop := Claim7.holds Tryz.pinned (.plain (OpenSpec.upto fnBothStoresSpec)) fnBothStoresUptoCard

/-- THE SECOND FORM's CARD OF 'laws.FnOnlyOps'. -/
def fnOnlyOpsUptoCard : Claim7 := { stood := { row := fnOnlyOpsUptoRow, standIns := [], harness := (true, "9b24f60278b73edfc3772e7d2603f58956da415e5becd6ff6b102c5c4c4ed6d3"), looks := false }, kinds := [], alts := [], laidByText := true, laidKinds := [.data, .pinned], laidTests := true, laidLooks := .later }
def FnOnlyOpsUptoCardSaid : Prop := Claim7.holds Tryz.pinned (.plain (OpenSpec.upto fnOnlyOpsSpec)) fnOnlyOpsUptoCard

/-- THE SECOND FORM's CARD OF 'laws.FnOnlyGc'. -/
def fnOnlyGcUptoCard : Claim7 := { stood := { row := fnOnlyGcUptoRow, standIns := [], harness := (true, "9b24f60278b73edfc3772e7d2603f58956da415e5becd6ff6b102c5c4c4ed6d3"), looks := false }, kinds := [], alts := [], laidByText := true, laidKinds := [.data, .pinned], laidTests := true, laidLooks := .later }
def FnOnlyGcUptoCardSaid : Prop := Claim7.holds Tryz.pinned (.plain (OpenSpec.upto fnOnlyGcSpec)) fnOnlyGcUptoCard

/-- THE SECOND FORM's CARD OF 'laws.FnFinishBoth'. -/
def fnFinishBothUptoCard : Claim7 := { stood := { row := fnFinishBothUptoRow, standIns := [], harness := (true, "9b24f60278b73edfc3772e7d2603f58956da415e5becd6ff6b102c5c4c4ed6d3"), looks := false }, kinds := [], alts := [], laidByText := true, laidKinds := [.data, .pinned], laidTests := true, laidLooks := .later }
def FnFinishBothUptoCardSaid : Prop := Claim7.holds Tryz.pinned (.plain (OpenSpec.upto fnFinishBothSpec)) fnFinishBothUptoCard

/-- THE SECOND FORM's CARD OF 'laws.FnBothSame'. -/
def fnBothSameUptoCard : Claim7 := { stood := { row := fnBothSameUptoRow, standIns := [], harness := (true, "9b24f60278b73edfc3772e7d2603f58956da415e5becd6ff6b102c5c4c4ed6d3"), looks := false }, kinds := [], alts := [], laidByText := true, laidKinds := [.data, .data, .data], laidTests := true, laidLooks := .later }
def FnBothSameUptoCardSaid : Prop := Claim7.holds Tryz.pinned (.plain (OpenSpec.upto fnBothSameSpec)) fnBothSameUptoCard
end Rows
end Go.Proofs.YtnepiffboakehaaGreatDoor
