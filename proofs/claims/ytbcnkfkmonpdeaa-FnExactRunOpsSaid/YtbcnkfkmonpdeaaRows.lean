/-
  No cell of these rows narrows 'for every input' (looked for: loops, veiled, ifaces, maps, wideKeys, modest, calm, conditions, laid).
  DERIVED. THE GIVEN ROWS OF THIS SEAT. 22 by the template 'for every input the law returns true; each argument reads behind the call as it read before'; 0 by the template 'total and deterministic' (their statements: YtbcnkfkmonpdeaaTotals.lean).
  GIVEN WITH THE SEED: the statements are not yours to turn. If you find one false, say at which input.
  Laid BY PROGRAM, IN A SANDBOX (cutbox-rows.mjs): the forced cells as the released guide's own fill.sh prints them over the translation fabf0c9d963c2907… (all of the seat's roots in one cut). By AI agents, Wed Nov 11 2026. No macro, syntax, notation, axiom, sorry.
-/
import Derived.Test.YtbcnkfkmonpdeaaChecked
import GoSem.Claim
import GoSem.ClaimJoined
import GoSem.ClaimMapViews
import Derived.JoinedTies
import Derived.KernelRfl
namespace Go.Proofs.Ytbcnkfkmonpdeaa
/- THE CELL 'sum', in the pinned program and in every row, IS THE sha256 OF THE DUMP (.gsa) THAT YtbcnkfkmonpdeaaProg.lean LOADS. Nothing in Lean hashes anything: it is a label: what it is worth is what the hold of that sum in a sandbox is worth. -/
noncomputable def Try.pinned : Pinned := { name := "ytbcnkfkmonpdeaa", sum := "fabf0c9d963c2907cfc0958226912bf25e0d80766adca61cd29153f0cf26bee6", checked := Try.checked }
namespace Rows
def none {H : Type} : Left H := { results := [], args := [] }

/-- 'laws.FnRunLive': WHATEVER THE INPUT: true; the input reads as it did. -/
def fnRunLiveSpec : ChangeSpec := { name := "fnRunLive", fn := fun _ => fun
  | [d] => { results := [.lit (.bool true)], args := [d] }
  | _ => none }
def fnRunLiveRow : OpenClaim := { program := "ytbcnkfkmonpdeaa", sum := "fabf0c9d963c2907cfc0958226912bf25e0d80766adca61cd29153f0cf26bee6", func := "loop.example/cellcollector/laws.FnRunLive", spec := "fnRunLive", unfollowed := true, recurses := true, apart := false }
def FnRunLiveSaid : Prop := fnRunLiveRow.holds Try.pinned (OpenSpec.ofChange fnRunLiveSpec)

/-- ITS FALSE NEIGHBOUR: 'it returns false'. Refute it at one input. -/
def fnRunLiveWrong : ChangeSpec := { name := "fnRunLive", fn := fun _ => fun
  | [d] => { results := [.lit (.bool false)], args := [d] }
  | _ => none }
def FnRunLiveWrongFalsely : Prop := fnRunLiveRow.holds Try.pinned (OpenSpec.ofChange fnRunLiveWrong)

/-- 'laws.FnAllocLeak': WHATEVER THE INPUT: true; the input reads as it did. -/
def fnAllocLeakSpec : ChangeSpec := { name := "fnAllocLeak", fn := fun _ => fun
  | [d] => { results := [.lit (.bool true)], args := [d] }
  | _ => none }
def fnAllocLeakRow : OpenClaim := { program := "ytbcnkfkmonpdeaa", sum := "fabf0c9d963c2907cfc0958226912bf25e0d80766adca61cd29153f0cf26bee6", func := "loop.example/cellcollector/laws.FnAllocLeak", spec := "fnAllocLeak", unfollowed := true, recurses := true, apart := false }
def FnAllocLeakSaid : Prop := fnAllocLeakRow.holds Try.pinned (OpenSpec.ofChange fnAllocLeakSpec)

/-- ITS FALSE NEIGHBOUR: 'it returns false'. Refute it at one input. -/
def fnAllocLeakWrong : ChangeSpec := { name := "fnAllocLeak", fn := fun _ => fun
  | [d] => { results := [.lit (.bool false)], args := [d] }
  | _ => none }
def FnAllocLeakWrongFalsely : Prop := fnAllocLeakRow.holds Try.pinned (OpenSpec.ofChange fnAllocLeakWrong)

/-- 'laws.FnRunNew': WHATEVER THE INPUT: true; the input reads as it did. -/
def fnRunNewSpec : ChangeSpec := { name := "fnRunNew", fn := fun _ => fun
  | [d] => { results := [.lit (.bool true)], args := [d] }
  | _ => none }
def fnRunNewRow : OpenClaim := { program := "ytbcnkfkmonpdeaa", sum := "fabf0c9d963c2907cfc0958226912bf25e0d80766adca61cd29153f0cf26bee6", func := "loop.example/cellcollector/laws.FnRunNew", spec := "fnRunNew", apart := false }
def FnRunNewSaid : Prop := fnRunNewRow.holds Try.pinned (OpenSpec.ofChange fnRunNewSpec)

/-- ITS FALSE NEIGHBOUR: 'it returns false'. Refute it at one input. -/
def fnRunNewWrong : ChangeSpec := { name := "fnRunNew", fn := fun _ => fun
  | [d] => { results := [.lit (.bool false)], args := [d] }
  | _ => none }
def FnRunNewWrongFalsely : Prop := fnRunNewRow.holds Try.pinned (OpenSpec.ofChange fnRunNewWrong)

/-- 'laws.FnColorNew': WHATEVER THE INPUT: true; the input reads as it did. -/
def fnColorNewSpec : ChangeSpec := { name := "fnColorNew", fn := fun _ => fun
  | [d] => { results := [.lit (.bool true)], args := [d] }
  | _ => none }
def fnColorNewRow : OpenClaim := { program := "ytbcnkfkmonpdeaa", sum := "fabf0c9d963c2907cfc0958226912bf25e0d80766adca61cd29153f0cf26bee6", func := "loop.example/cellcollector/laws.FnColorNew", spec := "fnColorNew", apart := false }
def FnColorNewSaid : Prop := fnColorNewRow.holds Try.pinned (OpenSpec.ofChange fnColorNewSpec)

/-- ITS FALSE NEIGHBOUR: 'it returns false'. Refute it at one input. -/
def fnColorNewWrong : ChangeSpec := { name := "fnColorNew", fn := fun _ => fun
  | [d] => { results := [.lit (.bool false)], args := [d] }
  | _ => none }
def FnColorNewWrongFalsely : Prop := fnColorNewRow.holds Try.pinned (OpenSpec.ofChange fnColorNewWrong)

/-- 'laws.FnColorTwice': WHATEVER THE INPUT: true; the input reads as it did. -/
def fnColorTwiceSpec : ChangeSpec := { name := "fnColorTwice", fn := fun _ => fun
  | [d] => { results := [.lit (.bool true)], args := [d] }
  | _ => none }
def fnColorTwiceRow : OpenClaim := { program := "ytbcnkfkmonpdeaa", sum := "fabf0c9d963c2907cfc0958226912bf25e0d80766adca61cd29153f0cf26bee6", func := "loop.example/cellcollector/laws.FnColorTwice", spec := "fnColorTwice", apart := false }
def FnColorTwiceSaid : Prop := fnColorTwiceRow.holds Try.pinned (OpenSpec.ofChange fnColorTwiceSpec)

/-- ITS FALSE NEIGHBOUR: 'it returns false'. Refute it at one input. -/
def fnColorTwiceWrong : ChangeSpec := { name := "fnColorTwice", fn := fun _ => fun
  | [d] => { results := [.lit (.bool false)], args := [d] }
  | _ => none }
def FnColorTwiceWrongFalsely : Prop := fnColorTwiceRow.holds Try.pinned (OpenSpec.ofChange fnColorTwiceWrong)

/-- 'laws.FnClearOp': WHATEVER THE INPUT: true; the input reads as it did. -/
def fnClearOpSpec : ChangeSpec := { name := "fnClearOp", fn := fun _ => fun
  | [d] => { results := [.lit (.bool true)], args := [d] }
  | _ => none }
def fnClearOpRow : OpenClaim := { program := "ytbcnkfkmonpdeaa", sum := "fabf0c9d963c2907cfc0958226912bf25e0d80766adca61cd29153f0cf26bee6", func := "loop.example/cellcollector/laws.FnClearOp", spec := "fnClearOp", unfollowed := true, recurses := true, apart := false }
def FnClearOpSaid : Prop := fnClearOpRow.holds Try.pinned (OpenSpec.ofChange fnClearOpSpec)

/-- ITS FALSE NEIGHBOUR: 'it returns false'. Refute it at one input. -/
def fnClearOpWrong : ChangeSpec := { name := "fnClearOp", fn := fun _ => fun
  | [d] => { results := [.lit (.bool false)], args := [d] }
  | _ => none }
def FnClearOpWrongFalsely : Prop := fnClearOpRow.holds Try.pinned (OpenSpec.ofChange fnClearOpWrong)

/-- 'laws.FnFreeCell': WHATEVER THE INPUT: true; the input reads as it did. -/
def fnFreeCellSpec : ChangeSpec := { name := "fnFreeCell", fn := fun _ => fun
  | [d] => { results := [.lit (.bool true)], args := [d] }
  | _ => none }
def fnFreeCellRow : OpenClaim := { program := "ytbcnkfkmonpdeaa", sum := "fabf0c9d963c2907cfc0958226912bf25e0d80766adca61cd29153f0cf26bee6", func := "loop.example/cellcollector/laws.FnFreeCell", spec := "fnFreeCell", unfollowed := true, recurses := true, apart := false }
def FnFreeCellSaid : Prop := fnFreeCellRow.holds Try.pinned (OpenSpec.ofChange fnFreeCellSpec)

/-- ITS FALSE NEIGHBOUR: 'it returns false'. Refute it at one input. -/
def fnFreeCellWrong : ChangeSpec := { name := "fnFreeCell", fn := fun _ => fun
  | [d] => { results := [.lit (.bool false)], args := [d] }
  | _ => none }
def FnFreeCellWrongFalsely : Prop := fnFreeCellRow.holds Try.pinned (OpenSpec.ofChange fnFreeCellWrong)

/-- 'laws.FnShadeGc': WHATEVER THE INPUT: true; the input reads as it did. -/
def fnShadeGcSpec : ChangeSpec := { name := "fnShadeGc", fn := fun _ => fun
  | [d] => { results := [.lit (.bool true)], args := [d] }
  | _ => none }
def fnShadeGcRow : OpenClaim := { program := "ytbcnkfkmonpdeaa", sum := "fabf0c9d963c2907cfc0958226912bf25e0d80766adca61cd29153f0cf26bee6", func := "loop.example/cellcollector/laws.FnShadeGc", spec := "fnShadeGc", apart := false }
def FnShadeGcSaid : Prop := fnShadeGcRow.holds Try.pinned (OpenSpec.ofChange fnShadeGcSpec)

/-- ITS FALSE NEIGHBOUR: 'it returns false'. Refute it at one input. -/
def fnShadeGcWrong : ChangeSpec := { name := "fnShadeGc", fn := fun _ => fun
  | [d] => { results := [.lit (.bool false)], args := [d] }
  | _ => none }
def FnShadeGcWrongFalsely : Prop := fnShadeGcRow.holds Try.pinned (OpenSpec.ofChange fnShadeGcWrong)

/-- 'laws.FnExactLinkCounted': WHATEVER THE INPUT: true; the input reads as it did. -/
def fnExactLinkCountedSpec : ChangeSpec := { name := "fnExactLinkCounted", fn := fun _ => fun
  | [d1, d2, d3] => { results := [.lit (.bool true)], args := [d1, d2, d3] }
  | _ => none }
def fnExactLinkCountedRow : OpenClaim := { program := "ytbcnkfkmonpdeaa", sum := "fabf0c9d963c2907cfc0958226912bf25e0d80766adca61cd29153f0cf26bee6", func := "loop.example/cellcollector/laws.FnExactLinkCounted", spec := "fnExactLinkCounted", apart := false }
def FnExactLinkCountedSaid : Prop := fnExactLinkCountedRow.holds Try.pinned (OpenSpec.ofChange fnExactLinkCountedSpec)

/-- ITS FALSE NEIGHBOUR: 'it returns false'. Refute it at one input. -/
def fnExactLinkCountedWrong : ChangeSpec := { name := "fnExactLinkCounted", fn := fun _ => fun
  | [d1, d2, d3] => { results := [.lit (.bool false)], args := [d1, d2, d3] }
  | _ => none }
def FnExactLinkCountedWrongFalsely : Prop := fnExactLinkCountedRow.holds Try.pinned (OpenSpec.ofChange fnExactLinkCountedWrong)

/-- 'laws.FnCollectTwice': WHATEVER THE INPUT: true; the input reads as it did. -/
def fnCollectTwiceSpec : ChangeSpec := { name := "fnCollectTwice", fn := fun _ => fun
  | [d] => { results := [.lit (.bool true)], args := [d] }
  | _ => none }
def fnCollectTwiceRow : OpenClaim := { program := "ytbcnkfkmonpdeaa", sum := "fabf0c9d963c2907cfc0958226912bf25e0d80766adca61cd29153f0cf26bee6", func := "loop.example/cellcollector/laws.FnCollectTwice", spec := "fnCollectTwice", unfollowed := true, recurses := true, apart := false }
def FnCollectTwiceSaid : Prop := fnCollectTwiceRow.holds Try.pinned (OpenSpec.ofChange fnCollectTwiceSpec)

/-- ITS FALSE NEIGHBOUR: 'it returns false'. Refute it at one input. -/
def fnCollectTwiceWrong : ChangeSpec := { name := "fnCollectTwice", fn := fun _ => fun
  | [d] => { results := [.lit (.bool false)], args := [d] }
  | _ => none }
def FnCollectTwiceWrongFalsely : Prop := fnCollectTwiceRow.holds Try.pinned (OpenSpec.ofChange fnCollectTwiceWrong)

/-- 'laws.FnCollectStore': WHATEVER THE INPUT: true; the input reads as it did. -/
def fnCollectStoreSpec : ChangeSpec := { name := "fnCollectStore", fn := fun _ => fun
  | [d] => { results := [.lit (.bool true)], args := [d] }
  | _ => none }
def fnCollectStoreRow : OpenClaim := { program := "ytbcnkfkmonpdeaa", sum := "fabf0c9d963c2907cfc0958226912bf25e0d80766adca61cd29153f0cf26bee6", func := "loop.example/cellcollector/laws.FnCollectStore", spec := "fnCollectStore", unfollowed := true, recurses := true, apart := false }
def FnCollectStoreSaid : Prop := fnCollectStoreRow.holds Try.pinned (OpenSpec.ofChange fnCollectStoreSpec)

/-- ITS FALSE NEIGHBOUR: 'it returns false'. Refute it at one input. -/
def fnCollectStoreWrong : ChangeSpec := { name := "fnCollectStore", fn := fun _ => fun
  | [d] => { results := [.lit (.bool false)], args := [d] }
  | _ => none }
def FnCollectStoreWrongFalsely : Prop := fnCollectStoreRow.holds Try.pinned (OpenSpec.ofChange fnCollectStoreWrong)

/-- 'laws.FnCollectCount': WHATEVER THE INPUT: true; the input reads as it did. -/
def fnCollectCountSpec : ChangeSpec := { name := "fnCollectCount", fn := fun _ => fun
  | [d] => { results := [.lit (.bool true)], args := [d] }
  | _ => none }
def fnCollectCountRow : OpenClaim := { program := "ytbcnkfkmonpdeaa", sum := "fabf0c9d963c2907cfc0958226912bf25e0d80766adca61cd29153f0cf26bee6", func := "loop.example/cellcollector/laws.FnCollectCount", spec := "fnCollectCount", unfollowed := true, recurses := true, apart := false }
def FnCollectCountSaid : Prop := fnCollectCountRow.holds Try.pinned (OpenSpec.ofChange fnCollectCountSpec)

/-- ITS FALSE NEIGHBOUR: 'it returns false'. Refute it at one input. -/
def fnCollectCountWrong : ChangeSpec := { name := "fnCollectCount", fn := fun _ => fun
  | [d] => { results := [.lit (.bool false)], args := [d] }
  | _ => none }
def FnCollectCountWrongFalsely : Prop := fnCollectCountRow.holds Try.pinned (OpenSpec.ofChange fnCollectCountWrong)

/-- 'laws.FnOpsParts': WHATEVER THE INPUT: true; the input reads as it did. -/
def fnOpsPartsSpec : ChangeSpec := { name := "fnOpsParts", fn := fun _ => fun
  | [d] => { results := [.lit (.bool true)], args := [d] }
  | _ => none }
def fnOpsPartsRow : OpenClaim := { program := "ytbcnkfkmonpdeaa", sum := "fabf0c9d963c2907cfc0958226912bf25e0d80766adca61cd29153f0cf26bee6", func := "loop.example/cellcollector/laws.FnOpsParts", spec := "fnOpsParts", apart := false }
def FnOpsPartsSaid : Prop := fnOpsPartsRow.holds Try.pinned (OpenSpec.ofChange fnOpsPartsSpec)

/-- ITS FALSE NEIGHBOUR: 'it returns false'. Refute it at one input. -/
def fnOpsPartsWrong : ChangeSpec := { name := "fnOpsParts", fn := fun _ => fun
  | [d] => { results := [.lit (.bool false)], args := [d] }
  | _ => none }
def FnOpsPartsWrongFalsely : Prop := fnOpsPartsRow.holds Try.pinned (OpenSpec.ofChange fnOpsPartsWrong)

/-- 'laws.FnRunOps': WHATEVER THE INPUT: true; the input reads as it did. -/
def fnRunOpsSpec : ChangeSpec := { name := "fnRunOps", fn := fun _ => fun
  | [d] => { results := [.lit (.bool true)], args := [d] }
  | _ => none }
def fnRunOpsRow : OpenClaim := { program := "ytbcnkfkmonpdeaa", sum := "fabf0c9d963c2907cfc0958226912bf25e0d80766adca61cd29153f0cf26bee6", func := "loop.example/cellcollector/laws.FnRunOps", spec := "fnRunOps", apart := false }
def FnRunOpsSaid : Prop := fnRunOpsRow.holds Try.pinned (OpenSpec.ofChange fnRunOpsSpec)

/-- ITS FALSE NEIGHBOUR: 'it returns false'. Refute it at one input. -/
def fnRunOpsWrong : ChangeSpec := { name := "fnRunOps", fn := fun _ => fun
  | [d] => { results := [.lit (.bool false)], args := [d] }
  | _ => none }
def FnRunOpsWrongFalsely : Prop := fnRunOpsRow.holds Try.pinned (OpenSpec.ofChange fnRunOpsWrong)

/-- 'laws.FnExactRunOps': WHATEVER THE INPUT: true; the input reads as it did. -/
def fnExactRunOpsSpec : ChangeSpec := { name := "fnExactRunOps", fn := fun _ => fun
  | [d1, d2] => { results := [.lit (.bool true)], args := [d1, d2] }
  | _ => none }
def fnExactRunOpsRow : OpenClaim := { program := "ytbcnkfkmonpdeaa", sum := "fabf0c9d963c2907cfc0958226912bf25e0d80766adca61cd29153f0cf26bee6", func := "loop.example/cellcollector/laws.FnExactRunOps", spec := "fnExactRunOps", apart := false }
def FnExactRunOpsSaid : Prop := fnExactRunOpsRow.holds Try.pinned (OpenSpec.ofChange fnExactRunOpsSpec)

/-- ITS FALSE NEIGHBOUR: 'it returns false'. Refute it at one input. -/
def fnExactRunOpsWrong : ChangeSpec := { name := "fnExactRunOps", fn := fun _ => fun
  | [d1, d2] => { results := [.lit (.bool false)], args := [d1, d2] }
  | _ => none }
def FnExactRunOpsWrongFalsely : Prop := fnExactRunOpsRow.holds Try.pinned (OpenSpec.ofChange fnExactRunOpsWrong)

/-- 'laws.FnNewGc': WHATEVER THE INPUT: true; the input reads as it did. -/
def fnNewGcSpec : ChangeSpec := { name := "fnNewGc", fn := fun _ => fun
  | [d] => { results := [.lit (.bool true)], args := [d] }
  | _ => none }
def fnNewGcRow : OpenClaim := { program := "ytbcnkfkmonpdeaa", sum := "fabf0c9d963c2907cfc0958226912bf25e0d80766adca61cd29153f0cf26bee6", func := "loop.example/cellcollector/laws.FnNewGc", spec := "fnNewGc", unfollowed := true, recurses := true, apart := false }
def FnNewGcSaid : Prop := fnNewGcRow.holds Try.pinned (OpenSpec.ofChange fnNewGcSpec)

/-- ITS FALSE NEIGHBOUR: 'it returns false'. Refute it at one input. -/
def fnNewGcWrong : ChangeSpec := { name := "fnNewGc", fn := fun _ => fun
  | [d] => { results := [.lit (.bool false)], args := [d] }
  | _ => none }
def FnNewGcWrongFalsely : Prop := fnNewGcRow.holds Try.pinned (OpenSpec.ofChange fnNewGcWrong)

/-- 'laws.FnGcValid': WHATEVER THE INPUT: true; the input reads as it did. -/
def fnGcValidSpec : ChangeSpec := { name := "fnGcValid", fn := fun _ => fun
  | [d] => { results := [.lit (.bool true)], args := [d] }
  | _ => none }
def fnGcValidRow : OpenClaim := { program := "ytbcnkfkmonpdeaa", sum := "fabf0c9d963c2907cfc0958226912bf25e0d80766adca61cd29153f0cf26bee6", func := "loop.example/cellcollector/laws.FnGcValid", spec := "fnGcValid", unfollowed := true, recurses := true, apart := false }
def FnGcValidSaid : Prop := fnGcValidRow.holds Try.pinned (OpenSpec.ofChange fnGcValidSpec)

/-- ITS FALSE NEIGHBOUR: 'it returns false'. Refute it at one input. -/
def fnGcValidWrong : ChangeSpec := { name := "fnGcValid", fn := fun _ => fun
  | [d] => { results := [.lit (.bool false)], args := [d] }
  | _ => none }
def FnGcValidWrongFalsely : Prop := fnGcValidRow.holds Try.pinned (OpenSpec.ofChange fnGcValidWrong)

/-- 'laws.FnShadeHolds': WHATEVER THE INPUT: true; the input reads as it did. -/
def fnShadeHoldsSpec : ChangeSpec := { name := "fnShadeHolds", fn := fun _ => fun
  | [d] => { results := [.lit (.bool true)], args := [d] }
  | _ => none }
def fnShadeHoldsRow : OpenClaim := { program := "ytbcnkfkmonpdeaa", sum := "fabf0c9d963c2907cfc0958226912bf25e0d80766adca61cd29153f0cf26bee6", func := "loop.example/cellcollector/laws.FnShadeHolds", spec := "fnShadeHolds", unfollowed := true, recurses := true, apart := false }
def FnShadeHoldsSaid : Prop := fnShadeHoldsRow.holds Try.pinned (OpenSpec.ofChange fnShadeHoldsSpec)

/-- ITS FALSE NEIGHBOUR: 'it returns false'. Refute it at one input. -/
def fnShadeHoldsWrong : ChangeSpec := { name := "fnShadeHolds", fn := fun _ => fun
  | [d] => { results := [.lit (.bool false)], args := [d] }
  | _ => none }
def FnShadeHoldsWrongFalsely : Prop := fnShadeHoldsRow.holds Try.pinned (OpenSpec.ofChange fnShadeHoldsWrong)

/-- 'laws.FnCyclesOf': WHATEVER THE INPUT: true; the input reads as it did. -/
def fnCyclesOfSpec : ChangeSpec := { name := "fnCyclesOf", fn := fun _ => fun
  | [d] => { results := [.lit (.bool true)], args := [d] }
  | _ => none }
def fnCyclesOfRow : OpenClaim := { program := "ytbcnkfkmonpdeaa", sum := "fabf0c9d963c2907cfc0958226912bf25e0d80766adca61cd29153f0cf26bee6", func := "loop.example/cellcollector/laws.FnCyclesOf", spec := "fnCyclesOf", unfollowed := true, recurses := true, apart := false }
def FnCyclesOfSaid : Prop := fnCyclesOfRow.holds Try.pinned (OpenSpec.ofChange fnCyclesOfSpec)

/-- ITS FALSE NEIGHBOUR: 'it returns false'. Refute it at one input. -/
def fnCyclesOfWrong : ChangeSpec := { name := "fnCyclesOf", fn := fun _ => fun
  | [d] => { results := [.lit (.bool false)], args := [d] }
  | _ => none }
def FnCyclesOfWrongFalsely : Prop := fnCyclesOfRow.holds Try.pinned (OpenSpec.ofChange fnCyclesOfWrong)

/-- 'laws.FnDropAll': WHATEVER THE INPUT: true; the input reads as it did. -/
def fnDropAllSpec : ChangeSpec := { name := "fnDropAll", fn := fun _ => fun
  | [d] => { results := [.lit (.bool true)], args := [d] }
  | _ => none }
def fnDropAllRow : OpenClaim := { program := "ytbcnkfkmonpdeaa", sum := "fabf0c9d963c2907cfc0958226912bf25e0d80766adca61cd29153f0cf26bee6", func := "loop.example/cellcollector/laws.FnDropAll", spec := "fnDropAll", unfollowed := true, recurses := true, apart := false }
def FnDropAllSaid : Prop := fnDropAllRow.holds Try.pinned (OpenSpec.ofChange fnDropAllSpec)

/-- ITS FALSE NEIGHBOUR: 'it returns false'. Refute it at one input. -/
def fnDropAllWrong : ChangeSpec := { name := "fnDropAll", fn := fun _ => fun
  | [d] => { results := [.lit (.bool false)], args := [d] }
  | _ => none }
def FnDropAllWrongFalsely : Prop := fnDropAllRow.holds Try.pinned (OpenSpec.ofChange fnDropAllWrong)

/-- 'laws.FnStepLive': WHATEVER THE INPUT: true; the input reads as it did. -/
def fnStepLiveSpec : ChangeSpec := { name := "fnStepLive", fn := fun _ => fun
  | [d] => { results := [.lit (.bool true)], args := [d] }
  | _ => none }
def fnStepLiveRow : OpenClaim := { program := "ytbcnkfkmonpdeaa", sum := "fabf0c9d963c2907cfc0958226912bf25e0d80766adca61cd29153f0cf26bee6", func := "loop.example/cellcollector/laws.FnStepLive", spec := "fnStepLive", unfollowed := true, recurses := true, apart := false }
def FnStepLiveSaid : Prop := fnStepLiveRow.holds Try.pinned (OpenSpec.ofChange fnStepLiveSpec)

/-- ITS FALSE NEIGHBOUR: 'it returns false'. Refute it at one input. -/
def fnStepLiveWrong : ChangeSpec := { name := "fnStepLive", fn := fun _ => fun
  | [d] => { results := [.lit (.bool false)], args := [d] }
  | _ => none }
def FnStepLiveWrongFalsely : Prop := fnStepLiveRow.holds Try.pinned (OpenSpec.ofChange fnStepLiveWrong)

/-- 'laws.FnExactNewBoth': WHATEVER THE INPUT: true; the input reads as it did. -/
def fnExactNewBothSpec : ChangeSpec := { name := "fnExactNewBoth", fn := fun _ => fun
  | [d1, d2] => { results := [.lit (.bool true)], args := [d1, d2] }
  | _ => none }
def fnExactNewBothRow : OpenClaim := { program := "ytbcnkfkmonpdeaa", sum := "fabf0c9d963c2907cfc0958226912bf25e0d80766adca61cd29153f0cf26bee6", func := "loop.example/cellcollector/laws.FnExactNewBoth", spec := "fnExactNewBoth", apart := false }
def FnExactNewBothSaid : Prop := fnExactNewBothRow.holds Try.pinned (OpenSpec.ofChange fnExactNewBothSpec)

/-- ITS FALSE NEIGHBOUR: 'it returns false'. Refute it at one input. -/
def fnExactNewBothWrong : ChangeSpec := { name := "fnExactNewBoth", fn := fun _ => fun
  | [d1, d2] => { results := [.lit (.bool false)], args := [d1, d2] }
  | _ => none }
def FnExactNewBothWrongFalsely : Prop := fnExactNewBothRow.holds Try.pinned (OpenSpec.ofChange fnExactNewBothWrong)

/- THE SECOND FORM. 'bulk': how many values and letters a reading holds, each counted each time it is reached (what is shared counts as often as it is met; a slice's spare places count too). A statement '..UptoSaid' is the law's where the arguments, and the package variables that the reading takes, are together of bulk at most 1048576: NARROWER than '..Said'. Prove '..Said' where nothing that the law and all that it calls make is longer than what came in: it says more and counts as full. Else prove '..UptoSaid'. A law counts once. -/
mutual
def uptoBulk {H : Type} : DataW H → Nat
  | .lit (.string bytes) => bytes.length + 1
  | .lit _ => 1
  | .nil => 1
  | .ptr d => uptoBulk d + 1
  | .slice elems spare => uptoBulkAll elems + uptoBulkAll spare + 1
  | .agg parts => uptoBulkAll parts + 1
  | .iface _ d => uptoBulk d + 1
  | .map entries => uptoBulkEntries entries + 1
  | .held _ => 1
def uptoBulkAll {H : Type} : List (DataW H) → Nat
  | [] => 0
  | d :: r => uptoBulk d + uptoBulkAll r
def uptoBulkEntries {H : Type} : List (Lit × DataW H) → Nat
  | [] => 0
  | x :: r => uptoBulkEntry x + uptoBulkEntries r
def uptoBulkEntry {H : Type} : Lit × DataW H → Nat
  | (.string bytes, d) => bytes.length + uptoBulk d + 1
  | (_, d) => uptoBulk d + 1
 end
def uptoSmall : (H : Type) → List (DataW H) → Bool := fun _ ds => decide (uptoBulkAll ds ≤ 1048576)
def OpenSpec.upto (s : _root_.Go.ChangeSpec) : _root_.Go.OpenSpec := { _root_.Go.OpenSpec.ofChange s with cond := some uptoSmall }

/-- 'laws.FnRunLive', WHERE WHAT IT READS IS OF BULK AT MOST 1048576: true; the input reads as it did. -/
def fnRunLiveUptoRow : OpenClaim := { program := "ytbcnkfkmonpdeaa", sum := "fabf0c9d963c2907cfc0958226912bf25e0d80766adca61cd29153f0cf26bee6", func := "loop.example/cellcollector/laws.FnRunLive", spec := "fnRunLive", unfollowed := true, recurses := true, apart := false, narrowed := true }
def FnRunLiveUptoSaid : Prop := fnRunLiveUptoRow.holds Try.pinned (OpenSpec.upto fnRunLiveSpec)

/-- 'laws.FnAllocLeak', WHERE WHAT IT READS IS OF BULK AT MOST 1048576: true; the input reads as it did. -/
def fnAllocLeakUptoRow : OpenClaim := { program := "ytbcnkfkmonpdeaa", sum := "fabf0c9d963c2907cfc0958226912bf25e0d80766adca61cd29153f0cf26bee6", func := "loop.example/cellcollector/laws.FnAllocLeak", spec := "fnAllocLeak", unfollowed := true, recurses := true, apart := false, narrowed := true }
def FnAllocLeakUptoSaid : Prop := fnAllocLeakUptoRow.holds Try.pinned (OpenSpec.upto fnAllocLeakSpec)

/-- 'laws.FnRunNew', WHERE WHAT IT READS IS OF BULK AT MOST 1048576: true; the input reads as it did. -/
def fnRunNewUptoRow : OpenClaim := { program := "ytbcnkfkmonpdeaa", sum := "fabf0c9d963c2907cfc0958226912bf25e0d80766adca61cd29153f0cf26bee6", func := "loop.example/cellcollector/laws.FnRunNew", spec := "fnRunNew", apart := false, narrowed := true }
def FnRunNewUptoSaid : Prop := fnRunNewUptoRow.holds Try.pinned (OpenSpec.upto fnRunNewSpec)

/-- 'laws.FnColorNew', WHERE WHAT IT READS IS OF BULK AT MOST 1048576: true; the input reads as it did. -/
def fnColorNewUptoRow : OpenClaim := { program := "ytbcnkfkmonpdeaa", sum := "fabf0c9d963c2907cfc0958226912bf25e0d80766adca61cd29153f0cf26bee6", func := "loop.example/cellcollector/laws.FnColorNew", spec := "fnColorNew", apart := false, narrowed := true }
def FnColorNewUptoSaid : Prop := fnColorNewUptoRow.holds Try.pinned (OpenSpec.upto fnColorNewSpec)

/-- 'laws.FnColorTwice', WHERE WHAT IT READS IS OF BULK AT MOST 1048576: true; the input reads as it did. -/
def fnColorTwiceUptoRow : OpenClaim := { program := "ytbcnkfkmonpdeaa", sum := "fabf0c9d963c2907cfc0958226912bf25e0d80766adca61cd29153f0cf26bee6", func := "loop.example/cellcollector/laws.FnColorTwice", spec := "fnColorTwice", apart := false, narrowed := true }
def FnColorTwiceUptoSaid : Prop := fnColorTwiceUptoRow.holds Try.pinned (OpenSpec.upto fnColorTwiceSpec)

/-- 'laws.FnClearOp', WHERE WHAT IT READS IS OF BULK AT MOST 1048576: true; the input reads as it did. -/
def fnClearOpUptoRow : OpenClaim := { program := "ytbcnkfkmonpdeaa", sum := "fabf0c9d963c2907cfc0958226912bf25e0d80766adca61cd29153f0cf26bee6", func := "loop.example/cellcollector/laws.FnClearOp", spec := "fnClearOp", unfollowed := true, recurses := true, apart := false, narrowed := true }
def FnClearOpUptoSaid : Prop := fnClearOpUptoRow.holds Try.pinned (OpenSpec.upto fnClearOpSpec)

/-- 'laws.FnFreeCell', WHERE WHAT IT READS IS OF BULK AT MOST 1048576: true; the input reads as it did. -/
def fnFreeCellUptoRow : OpenClaim := { program := "ytbcnkfkmonpdeaa", sum := "fabf0c9d963c2907cfc0958226912bf25e0d80766adca61cd29153f0cf26bee6", func := "loop.example/cellcollector/laws.FnFreeCell", spec := "fnFreeCell", unfollowed := true, recurses := true, apart := false, narrowed := true }
def FnFreeCellUptoSaid : Prop := fnFreeCellUptoRow.holds Try.pinned (OpenSpec.upto fnFreeCellSpec)

/-- 'laws.FnShadeGc', WHERE WHAT IT READS IS OF BULK AT MOST 1048576: true; the input reads as it did. -/
def fnShadeGcUptoRow : OpenClaim := { program := "ytbcnkfkmonpdeaa", sum := "fabf0c9d963c2907cfc0958226912bf25e0d80766adca61cd29153f0cf26bee6", func := "loop.example/cellcollector/laws.FnShadeGc", spec := "fnShadeGc", apart := false, narrowed := true }
def FnShadeGcUptoSaid : Prop := fnShadeGcUptoRow.holds Try.pinned (OpenSpec.upto fnShadeGcSpec)

/-- 'laws.FnExactLinkCounted', WHERE WHAT IT READS IS OF BULK AT MOST 1048576: true; the input reads as it did. -/
def fnExactLinkCountedUptoRow : OpenClaim := { program := "ytbcnkfkmonpdeaa", sum := "fabf0c9d963c2907cfc0958226912bf25e0d80766adca61cd29153f0cf26bee6", func := "loop.example/cellcollector/laws.FnExactLinkCounted", spec := "fnExactLinkCounted", apart := false, narrowed := true }
def FnExactLinkCountedUptoSaid : Prop := fnExactLinkCountedUptoRow.holds Try.pinned (OpenSpec.upto fnExactLinkCountedSpec)

/-- 'laws.FnCollectTwice', WHERE WHAT IT READS IS OF BULK AT MOST 1048576: true; the input reads as it did. -/
def fnCollectTwiceUptoRow : OpenClaim := { program := "ytbcnkfkmonpdeaa", sum := "fabf0c9d963c2907cfc0958226912bf25e0d80766adca61cd29153f0cf26bee6", func := "loop.example/cellcollector/laws.FnCollectTwice", spec := "fnCollectTwice", unfollowed := true, recurses := true, apart := false, narrowed := true }
def FnCollectTwiceUptoSaid : Prop := fnCollectTwiceUptoRow.holds Try.pinned (OpenSpec.upto fnCollectTwiceSpec)

/-- 'laws.FnCollectStore', WHERE WHAT IT READS IS OF BULK AT MOST 1048576: true; the input reads as it did. -/
def fnCollectStoreUptoRow : OpenClaim := { program := "ytbcnkfkmonpdeaa", sum := "fabf0c9d963c2907cfc0958226912bf25e0d80766adca61cd29153f0cf26bee6", func := "loop.example/cellcollector/laws.FnCollectStore", spec := "fnCollectStore", unfollowed := true, recurses := true, apart := false, narrowed := true }
def FnCollectStoreUptoSaid : Prop := fnCollectStoreUptoRow.holds Try.pinned (OpenSpec.upto fnCollectStoreSpec)

/-- 'laws.FnCollectCount', WHERE WHAT IT READS IS OF BULK AT MOST 1048576: true; the input reads as it did. -/
def fnCollectCountUptoRow : OpenClaim := { program := "ytbcnkfkmonpdeaa", sum := "fabf0c9d963c2907cfc0958226912bf25e0d80766adca61cd29153f0cf26bee6", func := "loop.example/cellcollector/laws.FnCollectCount", spec := "fnCollectCount", unfollowed := true, recurses := true, apart := false, narrowed := true }
def FnCollectCountUptoSaid : Prop := fnCollectCountUptoRow.holds Try.pinned (OpenSpec.upto fnCollectCountSpec)

/-- 'laws.FnOpsParts', WHERE WHAT IT READS IS OF BULK AT MOST 1048576: true; the input reads as it did. -/
def fnOpsPartsUptoRow : OpenClaim := { program := "ytbcnkfkmonpdeaa", sum := "fabf0c9d963c2907cfc0958226912bf25e0d80766adca61cd29153f0cf26bee6", func := "loop.example/cellcollector/laws.FnOpsParts", spec := "fnOpsParts", apart := false, narrowed := true }
def FnOpsPartsUptoSaid : Prop := fnOpsPartsUptoRow.holds Try.pinned (OpenSpec.upto fnOpsPartsSpec)

/-- 'laws.FnRunOps', WHERE WHAT IT READS IS OF BULK AT MOST 1048576: true; the input reads as it did. -/
def fnRunOpsUptoRow : OpenClaim := { program := "ytbcnkfkmonpdeaa", sum := "fabf0c9d963c2907cfc0958226912bf25e0d80766adca61cd29153f0cf26bee6", func := "loop.example/cellcollector/laws.FnRunOps", spec := "fnRunOps", apart := false, narrowed := true }
def FnRunOpsUptoSaid : Prop := fnRunOpsUptoRow.holds Try.pinned (OpenSpec.upto fnRunOpsSpec)

/-- 'laws.FnExactRunOps', WHERE WHAT IT READS IS OF BULK AT MOST 1048576: true; the input reads as it did. -/
def fnExactRunOpsUptoRow : OpenClaim := { program := "ytbcnkfkmonpdeaa", sum := "fabf0c9d963c2907cfc0958226912bf25e0d80766adca61cd29153f0cf26bee6", func := "loop.example/cellcollector/laws.FnExactRunOps", spec := "fnExactRunOps", apart := false, narrowed := true }
def FnExactRunOpsUptoSaid : Prop := fnExactRunOpsUptoRow.holds Try.pinned (OpenSpec.upto fnExactRunOpsSpec)

/-- 'laws.FnNewGc', WHERE WHAT IT READS IS OF BULK AT MOST 1048576: true; the input reads as it did. -/
def fnNewGcUptoRow : OpenClaim := { program := "ytbcnkfkmonpdeaa", sum := "fabf0c9d963c2907cfc0958226912bf25e0d80766adca61cd29153f0cf26bee6", func := "loop.example/cellcollector/laws.FnNewGc", spec := "fnNewGc", unfollowed := true, recurses := true, apart := false, narrowed := true }
def FnNewGcUptoSaid : Prop := fnNewGcUptoRow.holds Try.pinned (OpenSpec.upto fnNewGcSpec)

/-- 'laws.FnGcValid', WHERE WHAT IT READS IS OF BULK AT MOST 1048576: true; the input reads as it did. -/
def fnGcValidUptoRow : OpenClaim := { program := "ytbcnkfkmonpdeaa", sum := "fabf0c9d963c2907cfc0958226912bf25e0d80766adca61cd29153f0cf26bee6", func := "loop.example/cellcollector/laws.FnGcValid", spec := "fnGcValid", unfollowed := true, recurses := true, apart := false, narrowed := true }
def FnGcValidUptoSaid : Prop := fnGcValidUptoRow.holds Try.pinned (OpenSpec.upto fnGcValidSpec)

/-- 'laws.FnShadeHolds', WHERE WHAT IT READS IS OF BULK AT MOST 1048576: true; the input reads as it did. -/
def fnShadeHoldsUptoRow : OpenClaim := { program := "ytbcnkfkmonpdeaa", sum := "fabf0c9d963c2907cfc0958226912bf25e0d80766adca61cd29153f0cf26bee6", func := "loop.example/cellcollector/laws.FnShadeHolds", spec := "fnShadeHolds", unfollowed := true, recurses := true, apart := false, narrowed := true }
def FnShadeHoldsUptoSaid : Prop := fnShadeHoldsUptoRow.holds Try.pinned (OpenSpec.upto fnShadeHoldsSpec)

/-- 'laws.FnCyclesOf', WHERE WHAT IT READS IS OF BULK AT MOST 1048576: true; the input reads as it did. -/
def fnCyclesOfUptoRow : OpenClaim := { program := "ytbcnkfkmonpdeaa", sum := "fabf0c9d963c2907cfc0958226912bf25e0d80766adca61cd29153f0cf26bee6", func := "loop.example/cellcollector/laws.FnCyclesOf", spec := "fnCyclesOf", unfollowed := true, recurses := true, apart := false, narrowed := true }
def FnCyclesOfUptoSaid : Prop := fnCyclesOfUptoRow.holds Try.pinned (OpenSpec.upto fnCyclesOfSpec)

/-- 'laws.FnDropAll', WHERE WHAT IT READS IS OF BULK AT MOST 1048576: true; the input reads as it did. -/
def fnDropAllUptoRow : OpenClaim := { program := "ytbcnkfkmonpdeaa", sum := "fabf0c9d963c2907cfc0958226912bf25e0d80766adca61cd29153f0cf26bee6", func := "loop.example/cellcollector/laws.FnDropAll", spec := "fnDropAll", unfollowed := true, recurses := true, apart := false, narrowed := true }
def FnDropAllUptoSaid : Prop := fnDropAllUptoRow.holds Try.pinned (OpenSpec.upto fnDropAllSpec)

/-- 'laws.FnStepLive', WHERE WHAT IT READS IS OF BULK AT MOST 1048576: true; the input reads as it did. -/
def fnStepLiveUptoRow : OpenClaim := { program := "ytbcnkfkmonpdeaa", sum := "fabf0c9d963c2907cfc0958226912bf25e0d80766adca61cd29153f0cf26bee6", func := "loop.example/cellcollector/laws.FnStepLive", spec := "fnStepLive", unfollowed := true, recurses := true, apart := false, narrowed := true }
def FnStepLiveUptoSaid : Prop := fnStepLiveUptoRow.holds Try.pinned (OpenSpec.upto fnStepLiveSpec)

/-- 'laws.FnExactNewBoth', WHERE WHAT IT READS IS OF BULK AT MOST 1048576: true; the input reads as it did. -/
def fnExactNewBothUptoRow : OpenClaim := { program := "ytbcnkfkmonpdeaa", sum := "fabf0c9d963c2907cfc0958226912bf25e0d80766adca61cd29153f0cf26bee6", func := "loop.example/cellcollector/laws.FnExactNewBoth", spec := "fnExactNewBoth", apart := false, narrowed := true }
def FnExactNewBothUptoSaid : Prop := fnExactNewBothUptoRow.holds Try.pinned (OpenSpec.upto fnExactNewBothSpec)

end Rows
end Go.Proofs.Ytbcnkfkmonpdeaa
