/-
  No cell of these rows narrows 'for every input' (looked for: loops, veiled, ifaces, maps, wideKeys, modest, calm, conditions, laid).
  DERIVED. THE GIVEN ROWS OF THIS SEAT. 12 by the template 'for every input the law returns true; each argument reads behind the call as it read before'; 0 by the template 'total and deterministic' (their statements: YtdkdepfgilbkeaaTotals.lean).
  GIVEN WITH THE SEED: the statements are not yours to turn. If you find one false, say at which input.
  Laid BY PROGRAM, IN A SANDBOX (cutbox-rows.mjs): the forced cells as the released guide's own fill.sh prints them over the translation 056b3731b31dfd43… (all of the seat's roots in one cut). By AI agents, Wed Nov 11 2026. No macro, syntax, notation, axiom, sorry.
-/
import Derived.Test.YtdkdepfgilbkeaaChecked
import GoSem.Claim
import GoSem.ClaimJoined
import GoSem.ClaimMapViews
import Derived.JoinedTies
import Derived.KernelRfl
namespace Go.Proofs.Ytdkdepfgilbkeaa
/- THE CELL 'sum', in the pinned program and in every row, IS THE sha256 OF THE DUMP (.gsa) THAT YtdkdepfgilbkeaaProg.lean LOADS. Nothing in Lean hashes anything: it is a label: what it is worth is what the hold of that sum in a sandbox is worth. -/
noncomputable def Try.pinned : Pinned := { name := "ytdkdepfgilbkeaa", sum := "056b3731b31dfd43fc678ae542d2af51f26710816efba6af0ef96af53220ea66", checked := Try.checked }
namespace Rows
def none {H : Type} : Left H := { results := [], args := [] }

/-- 'laws.FnCyclesOf': WHATEVER THE INPUT: true; the input reads as it did. -/
def fnCyclesOfSpec : ChangeSpec := { name := "fnCyclesOf", fn := fun _ => fun
  | [d] => { results := [.lit (.bool true)], args := [d] }
  | _ => none }
def fnCyclesOfRow : OpenClaim := { program := "ytdkdepfgilbkeaa", sum := "056b3731b31dfd43fc678ae542d2af51f26710816efba6af0ef96af53220ea66", func := "loop.example/cellcollector/laws.FnCyclesOf", spec := "fnCyclesOf", unfollowed := true, recurses := true, apart := false }
def FnCyclesOfSaid : Prop := fnCyclesOfRow.holds Try.pinned (OpenSpec.ofChange fnCyclesOfSpec)

/-- ITS FALSE NEIGHBOUR: 'it returns false'. Refute it at one input. -/
def fnCyclesOfWrong : ChangeSpec := { name := "fnCyclesOf", fn := fun _ => fun
  | [d] => { results := [.lit (.bool false)], args := [d] }
  | _ => none }
def FnCyclesOfWrongFalsely : Prop := fnCyclesOfRow.holds Try.pinned (OpenSpec.ofChange fnCyclesOfWrong)

/-- 'laws.FnDropAll': WHATEVER THE INPUT: true; the input reads as it did. -/
def fnDropAllSpec : ChangeSpec := { name := "fnDropAll", fn := fun _ => fun
  | [d] => { results := [.lit (.bool true)], args := [d] }
  | _ => none }
def fnDropAllRow : OpenClaim := { program := "ytdkdepfgilbkeaa", sum := "056b3731b31dfd43fc678ae542d2af51f26710816efba6af0ef96af53220ea66", func := "loop.example/cellcollector/laws.FnDropAll", spec := "fnDropAll", unfollowed := true, recurses := true, apart := false }
def FnDropAllSaid : Prop := fnDropAllRow.holds Try.pinned (OpenSpec.ofChange fnDropAllSpec)

/-- ITS FALSE NEIGHBOUR: 'it returns false'. Refute it at one input. -/
def fnDropAllWrong : ChangeSpec := { name := "fnDropAll", fn := fun _ => fun
  | [d] => { results := [.lit (.bool false)], args := [d] }
  | _ => none }
def FnDropAllWrongFalsely : Prop := fnDropAllRow.holds Try.pinned (OpenSpec.ofChange fnDropAllWrong)

/-- 'laws.FnExactNewBoth': WHATEVER THE INPUT: true; the input reads as it did. -/
def fnExactNewBothSpec : ChangeSpec := { name := "fnExactNewBoth", fn := fun _ => fun
  | [d1, d2] => { results := [.lit (.bool true)], args := [d1, d2] }
  | _ => none }
def fnExactNewBothRow : OpenClaim := { program := "ytdkdepfgilbkeaa", sum := "056b3731b31dfd43fc678ae542d2af51f26710816efba6af0ef96af53220ea66", func := "loop.example/cellcollector/laws.FnExactNewBoth", spec := "fnExactNewBoth", apart := false }
def FnExactNewBothSaid : Prop := fnExactNewBothRow.holds Try.pinned (OpenSpec.ofChange fnExactNewBothSpec)

/-- ITS FALSE NEIGHBOUR: 'it returns false'. Refute it at one input. -/
def fnExactNewBothWrong : ChangeSpec := { name := "fnExactNewBoth", fn := fun _ => fun
  | [d1, d2] => { results := [.lit (.bool false)], args := [d1, d2] }
  | _ => none }
def FnExactNewBothWrongFalsely : Prop := fnExactNewBothRow.holds Try.pinned (OpenSpec.ofChange fnExactNewBothWrong)

/-- 'laws.FnStepPhase': WHATEVER THE INPUT: true; the input reads as it did. -/
def fnStepPhaseSpec : ChangeSpec := { name := "fnStepPhase", fn := fun _ => fun
  | [d] => { results := [.lit (.bool true)], args := [d] }
  | _ => none }
def fnStepPhaseRow : OpenClaim := { program := "ytdkdepfgilbkeaa", sum := "056b3731b31dfd43fc678ae542d2af51f26710816efba6af0ef96af53220ea66", func := "loop.example/cellcollector/laws.FnStepPhase", spec := "fnStepPhase", unfollowed := true, recurses := true, apart := false }
def FnStepPhaseSaid : Prop := fnStepPhaseRow.holds Try.pinned (OpenSpec.ofChange fnStepPhaseSpec)

/-- ITS FALSE NEIGHBOUR: 'it returns false'. Refute it at one input. -/
def fnStepPhaseWrong : ChangeSpec := { name := "fnStepPhase", fn := fun _ => fun
  | [d] => { results := [.lit (.bool false)], args := [d] }
  | _ => none }
def FnStepPhaseWrongFalsely : Prop := fnStepPhaseRow.holds Try.pinned (OpenSpec.ofChange fnStepPhaseWrong)

/-- 'laws.FnStepWhite': WHATEVER THE INPUT: true; the input reads as it did. -/
def fnStepWhiteSpec : ChangeSpec := { name := "fnStepWhite", fn := fun _ => fun
  | [d] => { results := [.lit (.bool true)], args := [d] }
  | _ => none }
def fnStepWhiteRow : OpenClaim := { program := "ytdkdepfgilbkeaa", sum := "056b3731b31dfd43fc678ae542d2af51f26710816efba6af0ef96af53220ea66", func := "loop.example/cellcollector/laws.FnStepWhite", spec := "fnStepWhite", unfollowed := true, recurses := true, apart := false }
def FnStepWhiteSaid : Prop := fnStepWhiteRow.holds Try.pinned (OpenSpec.ofChange fnStepWhiteSpec)

/-- ITS FALSE NEIGHBOUR: 'it returns false'. Refute it at one input. -/
def fnStepWhiteWrong : ChangeSpec := { name := "fnStepWhite", fn := fun _ => fun
  | [d] => { results := [.lit (.bool false)], args := [d] }
  | _ => none }
def FnStepWhiteWrongFalsely : Prop := fnStepWhiteRow.holds Try.pinned (OpenSpec.ofChange fnStepWhiteWrong)

/-- 'laws.FnSweepColor': WHATEVER THE INPUT: true; the input reads as it did. -/
def fnSweepColorSpec : ChangeSpec := { name := "fnSweepColor", fn := fun _ => fun
  | [d] => { results := [.lit (.bool true)], args := [d] }
  | _ => none }
def fnSweepColorRow : OpenClaim := { program := "ytdkdepfgilbkeaa", sum := "056b3731b31dfd43fc678ae542d2af51f26710816efba6af0ef96af53220ea66", func := "loop.example/cellcollector/laws.FnSweepColor", spec := "fnSweepColor", unfollowed := true, recurses := true, apart := false }
def FnSweepColorSaid : Prop := fnSweepColorRow.holds Try.pinned (OpenSpec.ofChange fnSweepColorSpec)

/-- ITS FALSE NEIGHBOUR: 'it returns false'. Refute it at one input. -/
def fnSweepColorWrong : ChangeSpec := { name := "fnSweepColor", fn := fun _ => fun
  | [d] => { results := [.lit (.bool false)], args := [d] }
  | _ => none }
def FnSweepColorWrongFalsely : Prop := fnSweepColorRow.holds Try.pinned (OpenSpec.ofChange fnSweepColorWrong)

/-- 'laws.FnStepGc': WHATEVER THE INPUT: true; the input reads as it did. -/
def fnStepGcSpec : ChangeSpec := { name := "fnStepGc", fn := fun _ => fun
  | [d] => { results := [.lit (.bool true)], args := [d] }
  | _ => none }
def fnStepGcRow : OpenClaim := { program := "ytdkdepfgilbkeaa", sum := "056b3731b31dfd43fc678ae542d2af51f26710816efba6af0ef96af53220ea66", func := "loop.example/cellcollector/laws.FnStepGc", spec := "fnStepGc", unfollowed := true, recurses := true, apart := false }
def FnStepGcSaid : Prop := fnStepGcRow.holds Try.pinned (OpenSpec.ofChange fnStepGcSpec)

/-- ITS FALSE NEIGHBOUR: 'it returns false'. Refute it at one input. -/
def fnStepGcWrong : ChangeSpec := { name := "fnStepGc", fn := fun _ => fun
  | [d] => { results := [.lit (.bool false)], args := [d] }
  | _ => none }
def FnStepGcWrongFalsely : Prop := fnStepGcRow.holds Try.pinned (OpenSpec.ofChange fnStepGcWrong)

/-- 'laws.FnMarkEnd': WHATEVER THE INPUT: true; the input reads as it did. -/
def fnMarkEndSpec : ChangeSpec := { name := "fnMarkEnd", fn := fun _ => fun
  | [d] => { results := [.lit (.bool true)], args := [d] }
  | _ => none }
def fnMarkEndRow : OpenClaim := { program := "ytdkdepfgilbkeaa", sum := "056b3731b31dfd43fc678ae542d2af51f26710816efba6af0ef96af53220ea66", func := "loop.example/cellcollector/laws.FnMarkEnd", spec := "fnMarkEnd", unfollowed := true, recurses := true, apart := false }
def FnMarkEndSaid : Prop := fnMarkEndRow.holds Try.pinned (OpenSpec.ofChange fnMarkEndSpec)

/-- ITS FALSE NEIGHBOUR: 'it returns false'. Refute it at one input. -/
def fnMarkEndWrong : ChangeSpec := { name := "fnMarkEnd", fn := fun _ => fun
  | [d] => { results := [.lit (.bool false)], args := [d] }
  | _ => none }
def FnMarkEndWrongFalsely : Prop := fnMarkEndRow.holds Try.pinned (OpenSpec.ofChange fnMarkEndWrong)

/-- 'laws.FnRunBound': WHATEVER THE INPUT: true; the input reads as it did. -/
def fnRunBoundSpec : ChangeSpec := { name := "fnRunBound", fn := fun _ => fun
  | [d] => { results := [.lit (.bool true)], args := [d] }
  | _ => none }
def fnRunBoundRow : OpenClaim := { program := "ytdkdepfgilbkeaa", sum := "056b3731b31dfd43fc678ae542d2af51f26710816efba6af0ef96af53220ea66", func := "loop.example/cellcollector/laws.FnRunBound", spec := "fnRunBound", unfollowed := true, recurses := true, apart := false }
def FnRunBoundSaid : Prop := fnRunBoundRow.holds Try.pinned (OpenSpec.ofChange fnRunBoundSpec)

/-- ITS FALSE NEIGHBOUR: 'it returns false'. Refute it at one input. -/
def fnRunBoundWrong : ChangeSpec := { name := "fnRunBound", fn := fun _ => fun
  | [d] => { results := [.lit (.bool false)], args := [d] }
  | _ => none }
def FnRunBoundWrongFalsely : Prop := fnRunBoundRow.holds Try.pinned (OpenSpec.ofChange fnRunBoundWrong)

/-- 'laws.FnExactStepGc': WHATEVER THE INPUT: true; the input reads as it did. -/
def fnExactStepGcSpec : ChangeSpec := { name := "fnExactStepGc", fn := fun _ => fun
  | [d1, d2] => { results := [.lit (.bool true)], args := [d1, d2] }
  | _ => none }
def fnExactStepGcRow : OpenClaim := { program := "ytdkdepfgilbkeaa", sum := "056b3731b31dfd43fc678ae542d2af51f26710816efba6af0ef96af53220ea66", func := "loop.example/cellcollector/laws.FnExactStepGc", spec := "fnExactStepGc", unfollowed := true, recurses := true, apart := false }
def FnExactStepGcSaid : Prop := fnExactStepGcRow.holds Try.pinned (OpenSpec.ofChange fnExactStepGcSpec)

/-- ITS FALSE NEIGHBOUR: 'it returns false'. Refute it at one input. -/
def fnExactStepGcWrong : ChangeSpec := { name := "fnExactStepGc", fn := fun _ => fun
  | [d1, d2] => { results := [.lit (.bool false)], args := [d1, d2] }
  | _ => none }
def FnExactStepGcWrongFalsely : Prop := fnExactStepGcRow.holds Try.pinned (OpenSpec.ofChange fnExactStepGcWrong)

/-- 'laws.FnExactRunGc': WHATEVER THE INPUT: true; the input reads as it did. -/
def fnExactRunGcSpec : ChangeSpec := { name := "fnExactRunGc", fn := fun _ => fun
  | [d1, d2] => { results := [.lit (.bool true)], args := [d1, d2] }
  | _ => none }
def fnExactRunGcRow : OpenClaim := { program := "ytdkdepfgilbkeaa", sum := "056b3731b31dfd43fc678ae542d2af51f26710816efba6af0ef96af53220ea66", func := "loop.example/cellcollector/laws.FnExactRunGc", spec := "fnExactRunGc", unfollowed := true, recurses := true, apart := false }
def FnExactRunGcSaid : Prop := fnExactRunGcRow.holds Try.pinned (OpenSpec.ofChange fnExactRunGcSpec)

/-- ITS FALSE NEIGHBOUR: 'it returns false'. Refute it at one input. -/
def fnExactRunGcWrong : ChangeSpec := { name := "fnExactRunGc", fn := fun _ => fun
  | [d1, d2] => { results := [.lit (.bool false)], args := [d1, d2] }
  | _ => none }
def FnExactRunGcWrongFalsely : Prop := fnExactRunGcRow.holds Try.pinned (OpenSpec.ofChange fnExactRunGcWrong)

/-- 'laws.FnRunGc': WHATEVER THE INPUT: true; the input reads as it did. -/
def fnRunGcSpec : ChangeSpec := { name := "fnRunGc", fn := fun _ => fun
  | [d] => { results := [.lit (.bool true)], args := [d] }
  | _ => none }
def fnRunGcRow : OpenClaim := { program := "ytdkdepfgilbkeaa", sum := "056b3731b31dfd43fc678ae542d2af51f26710816efba6af0ef96af53220ea66", func := "loop.example/cellcollector/laws.FnRunGc", spec := "fnRunGc", unfollowed := true, recurses := true, apart := false }
def FnRunGcSaid : Prop := fnRunGcRow.holds Try.pinned (OpenSpec.ofChange fnRunGcSpec)

/-- ITS FALSE NEIGHBOUR: 'it returns false'. Refute it at one input. -/
def fnRunGcWrong : ChangeSpec := { name := "fnRunGc", fn := fun _ => fun
  | [d] => { results := [.lit (.bool false)], args := [d] }
  | _ => none }
def FnRunGcWrongFalsely : Prop := fnRunGcRow.holds Try.pinned (OpenSpec.ofChange fnRunGcWrong)

/- THE SECOND FORM. 'bulk': how many values and letters a reading holds, each counted each time it is reached (what is shared counts as often as it is met; a slice's spare places count too). A statement '..UptoSaid' is the law's where the arguments, and the package variables that the reading takes, are together of bulk at most 1048576: NARROWER than '..Said'. Prove '..Said' where nothing that the law and all that it calls make is longer than what came in: it says more and counts as full. Else prove '..UptoSaid'. A law counts once. -/
mutual
def uptoBulk {H : Type} : DataW H → Nat
  | .lit (.string bytes) => bytes.length + 1
  | .lit _ => 1
  | .nil => 1
  | .ptr d => uptoBulk d + 1
  | .slice elems spare => uptoBulkAll elems + uptoBulkAll spare + 1
  | .agg parts => uptoBulkAll parts + 1
  | .iface _ d => uptoBulk d + 1
  | .map entries => uptoBulkEntries entries + 1
  | .held _ => 1
def uptoBulkAll {H : Type} : List (DataW H) → Nat
  | [] => 0
  | d :: r => uptoBulk d + uptoBulkAll r
def uptoBulkEntries {H : Type} : List (Lit × DataW H) → Nat
  | [] => 0
  | x :: r => uptoBulkEntry x + uptoBulkEntries r
def uptoBulkEntry {H : Type} : Lit × DataW H → Nat
  | (.string bytes, d) => bytes.length + uptoBulk d + 1
  | (_, d) => uptoBulk d + 1
 end
def uptoSmall : (H : Type) → List (DataW H) → Bool := fun _ ds => decide (uptoBulkAll ds ≤ 1048576)
def OpenSpec.upto (s : _root_.Go.ChangeSpec) : _root_.Go.OpenSpec := { _root_.Go.OpenSpec.ofChange s with cond := some uptoSmall }

/-- 'laws.FnCyclesOf', WHERE WHAT IT READS IS OF BULK AT MOST 1048576: true; the input reads as it did. -/
def fnCyclesOfUptoRow : OpenClaim := { program := "ytdkdepfgilbkeaa", sum := "056b3731b31dfd43fc678ae542d2af51f26710816efba6af0ef96af53220ea66", func := "loop.example/cellcollector/laws.FnCyclesOf", spec := "fnCyclesOf", unfollowed := true, recurses := true, apart := false, narrowed := true }
def FnCyclesOfUptoSaid : Prop := fnCyclesOfUptoRow.holds Try.pinned (OpenSpec.upto fnCyclesOfSpec)

/-- 'laws.FnDropAll', WHERE WHAT IT READS IS OF BULK AT MOST 1048576: true; the input reads as it did. -/
def fnDropAllUptoRow : OpenClaim := { program := "ytdkdepfgilbkeaa", sum := "056b3731b31dfd43fc678ae542d2af51f26710816efba6af0ef96af53220ea66", func := "loop.example/cellcollector/laws.FnDropAll", spec := "fnDropAll", unfollowed := true, recurses := true, apart := false, narrowed := true }
def FnDropAllUptoSaid : Prop := fnDropAllUptoRow.holds Try.pinned (OpenSpec.upto fnDropAllSpec)

/-- 'laws.FnExactNewBoth', WHERE WHAT IT READS IS OF BULK AT MOST 1048576: true; the input reads as it did. -/
def fnExactNewBothUptoRow : OpenClaim := { program := "ytdkdepfgilbkeaa", sum := "056b3731b31dfd43fc678ae542d2af51f26710816efba6af0ef96af53220ea66", func := "loop.example/cellcollector/laws.FnExactNewBoth", spec := "fnExactNewBoth", apart := false, narrowed := true }
def FnExactNewBothUptoSaid : Prop := fnExactNewBothUptoRow.holds Try.pinned (OpenSpec.upto fnExactNewBothSpec)

/-- 'laws.FnStepPhase', WHERE WHAT IT READS IS OF BULK AT MOST 1048576: true; the input reads as it did. -/
def fnStepPhaseUptoRow : OpenClaim := { program := "ytdkdepfgilbkeaa", sum := "056b3731b31dfd43fc678ae542d2af51f26710816efba6af0ef96af53220ea66", func := "loop.example/cellcollector/laws.FnStepPhase", spec := "fnStepPhase", unfollowed := true, recurses := true, apart := false, narrowed := true }
def FnStepPhaseUptoSaid : Prop := fnStepPhaseUptoRow.holds Try.pinned (OpenSpec.upto fnStepPhaseSpec)

/-- 'laws.FnStepWhite', WHERE WHAT IT READS IS OF BULK AT MOST 1048576: true; the input reads as it did. -/
def fnStepWhiteUptoRow : OpenClaim := { program := "ytdkdepfgilbkeaa", sum := "056b3731b31dfd43fc678ae542d2af51f26710816efba6af0ef96af53220ea66", func := "loop.example/cellcollector/laws.FnStepWhite", spec := "fnStepWhite", unfollowed := true, recurses := true, apart := false, narrowed := true }
def FnStepWhiteUptoSaid : Prop := fnStepWhiteUptoRow.holds Try.pinned (OpenSpec.upto fnStepWhiteSpec)

/-- 'laws.FnSweepColor', WHERE WHAT IT READS IS OF BULK AT MOST 1048576: true; the input reads as it did. -/
def fnSweepColorUptoRow : OpenClaim := { program := "ytdkdepfgilbkeaa", sum := "056b3731b31dfd43fc678ae542d2af51f26710816efba6af0ef96af53220ea66", func := "loop.example/cellcollector/laws.FnSweepColor", spec := "fnSweepColor", unfollowed := true, recurses := true, apart := false, narrowed := true }
def FnSweepColorUptoSaid : Prop := fnSweepColorUptoRow.holds Try.pinned (OpenSpec.upto fnSweepColorSpec)

/-- 'laws.FnStepGc', WHERE WHAT IT READS IS OF BULK AT MOST 1048576: true; the input reads as it did. -/
def fnStepGcUptoRow : OpenClaim := { program := "ytdkdepfgilbkeaa", sum := "056b3731b31dfd43fc678ae542d2af51f26710816efba6af0ef96af53220ea66", func := "loop.example/cellcollector/laws.FnStepGc", spec := "fnStepGc", unfollowed := true, recurses := true, apart := false, narrowed := true }
def FnStepGcUptoSaid : Prop := fnStepGcUptoRow.holds Try.pinned (OpenSpec.upto fnStepGcSpec)

/-- 'laws.FnMarkEnd', WHERE WHAT IT READS IS OF BULK AT MOST 1048576: true; the input reads as it did. -/
def fnMarkEndUptoRow : OpenClaim := { program := "ytdkdepfgilbkeaa", sum := "056b3731b31dfd43fc678ae542d2af51f26710816efba6af0ef96af53220ea66", func := "loop.example/cellcollector/laws.FnMarkEnd", spec := "fnMarkEnd", unfollowed := true, recurses := true, apart := false, narrowed := true }
def FnMarkEndUptoSaid : Prop := fnMarkEndUptoRow.holds Try.pinned (OpenSpec.upto fnMarkEndSpec)

/-- 'laws.FnRunBound', WHERE WHAT IT READS IS OF BULK AT MOST 1048576: true; the input reads as it did. -/
def fnRunBoundUptoRow : OpenClaim := { program := "ytdkdepfgilbkeaa", sum := "056b3731b31dfd43fc678ae542d2af51f26710816efba6af0ef96af53220ea66", func := "loop.example/cellcollector/laws.FnRunBound", spec := "fnRunBound", unfollowed := true, recurses := true, apart := false, narrowed := true }
def FnRunBoundUptoSaid : Prop := fnRunBoundUptoRow.holds Try.pinned (OpenSpec.upto fnRunBoundSpec)

/-- 'laws.FnExactStepGc', WHERE WHAT IT READS IS OF BULK AT MOST 1048576: true; the input reads as it did. -/
def fnExactStepGcUptoRow : OpenClaim := { program := "ytdkdepfgilbkeaa", sum := "056b3731b31dfd43fc678ae542d2af51f26710816efba6af0ef96af53220ea66", func := "loop.example/cellcollector/laws.FnExactStepGc", spec := "fnExactStepGc", unfollowed := true, recurses := true, apart := false, narrowed := true }
def FnExactStepGcUptoSaid : Prop := fnExactStepGcUptoRow.holds Try.pinned (OpenSpec.upto fnExactStepGcSpec)

/-- 'laws.FnExactRunGc', WHERE WHAT IT READS IS OF BULK AT MOST 1048576: true; the input reads as it did. -/
def fnExactRunGcUptoRow : OpenClaim := { program := "ytdkdepfgilbkeaa", sum := "056b3731b31dfd43fc678ae542d2af51f26710816efba6af0ef96af53220ea66", func := "loop.example/cellcollector/laws.FnExactRunGc", spec := "fnExactRunGc", unfollowed := true, recurses := true, apart := false, narrowed := true }
def FnExactRunGcUptoSaid : Prop := fnExactRunGcUptoRow.holds Try.pinned (OpenSpec.upto fnExactRunGcSpec)

/-- 'laws.FnRunGc', WHERE WHAT IT READS IS OF BULK AT MOST 1048576: true; the input reads as it did. -/
def fnRunGcUptoRow : OpenClaim := { program := "ytdkdepfgilbkeaa", sum := "056b3731b31dfd43fc678ae542d2af51f26710816efba6af0ef96af53220ea66", func := "loop.example/cellcollector/laws.FnRunGc", spec := "fnRunGc", unfollowed := true, recurses := true, apart := false, narrowed := true }
def FnRunGcUptoSaid : Prop := fnRunGcUptoRow.holds Try.pinned (OpenSpec.upto fnRunGcSpec)

end Rows
end Go.Proofs.Ytdkdepfgilbkeaa
