/-
  DERIVED. GIVEN WITH THE SEED: THE CARDS: each row of YthldlaiplfennaaDoorRows.lean that lists a variable, with what it lists TIED to the program's text (the seventh form; the later family's looks); each row that meets fmt, with fmt's text TOLD by the authors' own Lean function (tested against real Go, not proved from fmt's source: count such statements apart). THE CARD IS WHAT COUNTS. Prove the row's statement (the work); the ties are given (YthldlaiplfennaaDoorTie.lean); close each card by the builder's one call (the guide's Derived/Test/ToyasCard.lean, 'card_holds'). Laid BY PROGRAM, IN A SANDBOX (cutbox-door.mjs). By AI agents, Wed Nov 11 2026. No macro, syntax, notation, axiom, sorry.
-/
import Derived.Test.YthldlaiplfennaaDoorRows
import GoSem.ClaimSeven
namespace Go.Proofs.YthldlaiplfennaaDoor
namespace Rows

/-- THE TIED CARD OF 'laws.FnStoreSame'. -/
def fnStoreSameCard : Claim7 := { stood := { row := fnStoreSameRow, standIns := [], harness := (true, "77294955a21f044b9dd2e2bb76b3d539649dfe2463284aa23202943cc7cac35a"), looks := false }, kinds := [], alts := [], laidByText := true, laidKinds := [.data, .data, .data], laidTests := true, laidLooks := .later }
def FnStoreSameCardSaid : Prop := Claim7.holds Tryd.pinned (.plain (OpenSpec.ofChange fnStoreSameSpec)) fnStoreSameCard

/-- THE TIED CARD OF 'laws.FnFormatStore'. -/
def fnFormatStoreCard : Claim7 := { stood := { row := fnFormatStoreRow, standIns := [], harness := (true, "77294955a21f044b9dd2e2bb76b3d539649dfe2463284aa23202943cc7cac35a"), looks := false }, kinds := [], alts := [], laidByText := true, laidKinds := [.data, .data, .data], laidTests := true, laidLooks := .later }
def FnFormatStoreCardSaid : Prop := Claim7.holds Tryd.pinned (.plain (OpenSpec.ofChange fnFormatStoreSpec)) fnFormatStoreCard

/-- THE TIED CARD OF 'laws.FnStoreText'. -/
def fnStoreTextCard : Claim7 := { stood := { row := fnStoreTextRow, standIns := [], harness := (true, "77294955a21f044b9dd2e2bb76b3d539649dfe2463284aa23202943cc7cac35a"), looks := false }, kinds := [], alts := [], laidByText := true, laidKinds := [.data, .data, .data], laidTests := true, laidLooks := .later }
def FnStoreTextCardSaid : Prop := Claim7.holds Tryd.pinned (.plain (OpenSpec.ofChange fnStoreTextSpec)) fnStoreTextCard

/-- THE TIED CARD OF 'laws.FnExactFormatStore'. -/
def fnExactFormatStoreCard : Claim7 := { stood := { row := fnExactFormatStoreRow, standIns := [], harness := (true, "77294955a21f044b9dd2e2bb76b3d539649dfe2463284aa23202943cc7cac35a"), looks := false }, kinds := [], alts := [], laidByText := true, laidKinds := [.data, .data, .data], laidTests := true, laidLooks := .later }
def FnExactFormatStoreCardSaid : Prop := Claim7.holds Tryd.pinned (.plain (OpenSpec.ofChange fnExactFormatStoreSpec)) fnExactFormatStoreCard

/-- THE TIED CARD OF 'laws.FnExactFormatBoth'. -/
def fnExactFormatBothCard : Claim7 := { stood := { row := fnExactFormatBothRow, standIns := [], harness := (true, "77294955a21f044b9dd2e2bb76b3d539649dfe2463284aa23202943cc7cac35a"), looks := false }, kinds := [], alts := [], laidByText := true, laidKinds := [.data, .data, .data], laidTests := true, laidLooks := .later }
def FnExactFormatBothCardSaid : Prop := Claim7.holds Tryd.pinned (.plain (OpenSpec.ofChange fnExactFormatBothSpec)) fnExactFormatBothCard

/-- THE TIED CARD OF 'laws.FnBothText'. -/
def fnBothTextCard : Claim7 := { stood := { row := fnBothTextRow, standIns := [], harness := (true, "77294955a21f044b9dd2e2bb76b3d539649dfe2463284aa23202943cc7cac35a"), looks := false }, kinds := [], alts := [], laidByText := true, laidKinds := [.data, .data, .data], laidTests := true, laidLooks := .later }
def FnBothTextCardSaid : Prop := Claim7.holds Tryd.pinned (.plain (OpenSpec.ofChange fnBothTextSpec)) fnBothTextCard

/-- THE SECOND FORM's CARD OF 'laws.FnStoreSame'. -/
def fnStoreSameUptoCard : Claim7 := { stood := { row := fnStoreSameUptoRow, standIns := [], harness := (true, "77294955a21f044b9dd2e2bb76b3d539649dfe2463284aa23202943cc7cac35a"), looks := false }, kinds := [], alts := [], laidByText := true, laidKinds := [.data, .data, .data], laidTests := true, laidLooks := .later }
def FnStoreSameUptoCardSaid : Prop := Claim7.holds Tryd.pinned (.plain (OpenSpec.upto fnStoreSameSpec)) fnStoreSameUptoCard

/-- THE SECOND FORM's CARD OF 'laws.FnFormatStore'. -/
def fnFormatStoreUptoCard : Claim7 := { stood := { row := fnFormatStoreUptoRow, standIns := [], harness := (true, "77294955a21f044b9dd2e2bb76b3d539649dfe2463284aa23202943cc7cac35a"), looks := false }, kinds := [], alts := [], laidByText := true, laidKinds := [.data, .data, .data], laidTests := true, laidLooks := .later }
def FnFormatStoreUptoCardSaid : Prop := Claim7.holds Tryd.pinned (.plain (OpenSpec.upto fnFormatStoreSpec)) fnFormatStoreUptoCard

/-- THE SECOND FORM's CARD OF 'laws.FnStoreText'. -/
def fnStoreTextUptoCard : Claim7 := { stood := { row := fnStoreTextUptoRow, standIns := [], harness := (true, "77294955a21f044b9dd2e2bb76b3d539649dfe2463284aa23202943cc7cac35a"), looks := false }, kinds := [], alts := [], laidByText := true, laidKinds := [.data, .data, .data], laidTests := true, laidLooks := .later }
def FnStoreTextUptoCardSaid : Prop := Claim7.holds Tryd.pinned (.plain (OpenSpec.upto fnStoreTextSpec)) fnStoreTextUptoCard

/-- THE SECOND FORM's CARD OF 'laws.FnExactFormatStore'. -/
def fnExactFormatStoreUptoCard : Claim7 := { stood := { row := fnExactFormatStoreUptoRow, standIns := [], harness := (true, "77294955a21f044b9dd2e2bb76b3d539649dfe2463284aa23202943cc7cac35a"), looks := false }, kinds := [], alts := [], laidByText := true, laidKinds := [.data, .data, .data], laidTests := true, laidLooks := .later }
def FnExactFormatStoreUptoCardSaid : Prop := Claim7.holds Tryd.pinned (.plain (OpenSpec.upto fnExactFormatStoreSpec)) fnExactFormatStoreUptoCard

/-- THE SECOND FORM's CARD OF 'laws.FnExactFormatBoth'. -/
def fnExactFormatBothUptoCard : Claim7 := { stood := { row := fnExactFormatBothUptoRow, standIns := [], harness := (true, "77294955a21f044b9dd2e2bb76b3d539649dfe2463284aa23202943cc7cac35a"), looks := false }, kinds := [], alts := [], laidByText := true, laidKinds := [.data, .data, .data], laidTests := true, laidLooks := .later }
def FnExactFormatBothUptoCardSaid : Prop := Claim7.holds Tryd.pinned (.plain (OpenSpec.upto fnExactFormatBothSpec)) fnExactFormatBothUptoCard

/-- THE SECOND FORM's CARD OF 'laws.FnBothText'. -/
def fnBothTextUptoCard : Claim7 := { stood := { row := fnBothTextUptoRow, standIns := [], harness := (true, "77294955a21f044b9dd2e2bb76b3d539649dfe2463284aa23202943cc7cac35a"), looks := false }, kinds := [], alts := [], laidByText := true, laidKinds := [.data, .data, .data], laidTests := true, laidLooks := .later }
def FnBothTextUptoCardSaid : Prop := Claim7.holds Tryd.pinned (.plain (OpenSpec.upto fnBothTextSpec)) fnBothTextUptoCard
end Rows
end Go.Proofs.YthldlaiplfennaaDoor
