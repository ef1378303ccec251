/-
  DERIVED. GIVEN WITH THE SEED: THE CARDS: each row of YtnepiffboakehaaDoorRows.lean that lists a variable, with what it lists TIED to the program's text (the seventh form; the later family's looks); each row that meets fmt, with fmt's text TOLD by the authors' own Lean function (tested against real Go, not proved from fmt's source: count such statements apart). THE CARD IS WHAT COUNTS. Prove the row's statement (the work); the ties are given (YtnepiffboakehaaDoorTie.lean); close each card by the builder's one call (the guide's Derived/Test/ToyasCard.lean, 'card_holds'). Laid BY PROGRAM, IN A SANDBOX (cutbox-door.mjs). By AI agents, Wed Nov 11 2026. No macro, syntax, notation, axiom, sorry.
-/
import Derived.Test.YtnepiffboakehaaDoorRows
import GoSem.ClaimSeven
namespace Go.Proofs.YtnepiffboakehaaDoor
namespace Rows

/-- THE TIED CARD OF 'laws.FnStoreSame'. -/
def fnStoreSameCard : Claim7 := { stood := { row := fnStoreSameRow, standIns := [], harness := (true, "7a187b983ca16f005f8c1b108be005e50cf6ace40259116f5489ba3d7adeede6"), looks := false }, kinds := [], alts := [], laidByText := true, laidKinds := [.data, .data, .data], laidTests := true, laidLooks := .later }
def FnStoreSameCardSaid : Prop := Claim7.holds Tryd.pinned (.plain (OpenSpec.ofChange fnStoreSameSpec)) fnStoreSameCard

/-- THE SECOND FORM's CARD OF 'laws.FnStoreSame'. -/
def fnStoreSameUptoCard : Claim7 := { stood := { row := fnStoreSameUptoRow, standIns := [], harness := (true, "7a187b983ca16f005f8c1b108be005e50cf6ace40259116f5489ba3d7adeede6"), looks := false }, kinds := [], alts := [], laidByText := true, laidKinds := [.data, .data, .data], laidTests := true, laidLooks := .later }
def FnStoreSameUptoCardSaid : Prop := Claim7.holds Tryd.pinned (.plain (OpenSpec.upto fnStoreSameSpec)) fnStoreSameUptoCard
end Rows
end Go.Proofs.YtnepiffboakehaaDoor
