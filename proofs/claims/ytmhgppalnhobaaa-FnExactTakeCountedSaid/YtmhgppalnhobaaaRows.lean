/-
  No cell of these rows narrows 'for every input' (looked for: loops, veiled, ifaces, maps, wideKeys, modest, calm, conditions, laid).
  DERIVED. THE GIVEN ROWS OF THIS SEAT. 12 by the template 'for every input the law returns true; each argument reads behind the call as it read before'; 0 by the template 'total and deterministic' (their statements: YtmhgppalnhobaaaTotals.lean).
  GIVEN WITH THE SEED: the statements are not yours to turn. If you find one false, say at which input.
  Laid BY PROGRAM, IN A SANDBOX (cutbox-rows.mjs): the forced cells as the released guide's own fill.sh prints them over the translation 493aae92c639c1aa… (all of the seat's roots in one cut). By AI agents, Wed Nov 11 2026. No macro, syntax, notation, axiom, sorry.
-/
import Derived.Test.YtmhgppalnhobaaaChecked
import GoSem.Claim
import GoSem.ClaimJoined
import GoSem.ClaimMapViews
import Derived.JoinedTies
import Derived.KernelRfl
namespace Go.Proofs.Ytmhgppalnhobaaa
/- THE CELL 'sum', in the pinned program and in every row, IS THE sha256 OF THE DUMP (.gsa) THAT YtmhgppalnhobaaaProg.lean LOADS. Nothing in Lean hashes anything: it is a label: what it is worth is what the hold of that sum in a sandbox is worth. -/
noncomputable def Try.pinned : Pinned := { name := "ytmhgppalnhobaaa", sum := "493aae92c639c1aaa1f144f86f2503e5b412736530dfde1c9a51bc04fe576f3b", checked := Try.checked }
namespace Rows
def none {H : Type} : Left H := { results := [], args := [] }

/-- 'laws.FnRunLive': WHATEVER THE INPUT: true; the input reads as it did. -/
def fnRunLiveSpec : ChangeSpec := { name := "fnRunLive", fn := fun _ => fun
  | [d] => { results := [.lit (.bool true)], args := [d] }
  | _ => none }
def fnRunLiveRow : OpenClaim := { program := "ytmhgppalnhobaaa", sum := "493aae92c639c1aaa1f144f86f2503e5b412736530dfde1c9a51bc04fe576f3b", func := "loop.example/cellcollector/laws.FnRunLive", spec := "fnRunLive", unfollowed := true, recurses := true, apart := false }
def FnRunLiveSaid : Prop := fnRunLiveRow.holds Try.pinned (OpenSpec.ofChange fnRunLiveSpec)

/-- ITS FALSE NEIGHBOUR: 'it returns false'. Refute it at one input. -/
def fnRunLiveWrong : ChangeSpec := { name := "fnRunLive", fn := fun _ => fun
  | [d] => { results := [.lit (.bool false)], args := [d] }
  | _ => none }
def FnRunLiveWrongFalsely : Prop := fnRunLiveRow.holds Try.pinned (OpenSpec.ofChange fnRunLiveWrong)

/-- 'laws.FnAllocLeak': WHATEVER THE INPUT: true; the input reads as it did. -/
def fnAllocLeakSpec : ChangeSpec := { name := "fnAllocLeak", fn := fun _ => fun
  | [d] => { results := [.lit (.bool true)], args := [d] }
  | _ => none }
def fnAllocLeakRow : OpenClaim := { program := "ytmhgppalnhobaaa", sum := "493aae92c639c1aaa1f144f86f2503e5b412736530dfde1c9a51bc04fe576f3b", func := "loop.example/cellcollector/laws.FnAllocLeak", spec := "fnAllocLeak", unfollowed := true, recurses := true, apart := false }
def FnAllocLeakSaid : Prop := fnAllocLeakRow.holds Try.pinned (OpenSpec.ofChange fnAllocLeakSpec)

/-- ITS FALSE NEIGHBOUR: 'it returns false'. Refute it at one input. -/
def fnAllocLeakWrong : ChangeSpec := { name := "fnAllocLeak", fn := fun _ => fun
  | [d] => { results := [.lit (.bool false)], args := [d] }
  | _ => none }
def FnAllocLeakWrongFalsely : Prop := fnAllocLeakRow.holds Try.pinned (OpenSpec.ofChange fnAllocLeakWrong)

/-- 'laws.FnExactDropRoot': WHATEVER THE INPUT: true; the input reads as it did. -/
def fnExactDropRootSpec : ChangeSpec := { name := "fnExactDropRoot", fn := fun _ => fun
  | [d1, d2] => { results := [.lit (.bool true)], args := [d1, d2] }
  | _ => none }
def fnExactDropRootRow : OpenClaim := { program := "ytmhgppalnhobaaa", sum := "493aae92c639c1aaa1f144f86f2503e5b412736530dfde1c9a51bc04fe576f3b", func := "loop.example/cellcollector/laws.FnExactDropRoot", spec := "fnExactDropRoot", apart := false }
def FnExactDropRootSaid : Prop := fnExactDropRootRow.holds Try.pinned (OpenSpec.ofChange fnExactDropRootSpec)

/-- ITS FALSE NEIGHBOUR: 'it returns false'. Refute it at one input. -/
def fnExactDropRootWrong : ChangeSpec := { name := "fnExactDropRoot", fn := fun _ => fun
  | [d1, d2] => { results := [.lit (.bool false)], args := [d1, d2] }
  | _ => none }
def FnExactDropRootWrongFalsely : Prop := fnExactDropRootRow.holds Try.pinned (OpenSpec.ofChange fnExactDropRootWrong)

/-- 'laws.FnExactCyclesOf': WHATEVER THE INPUT: true; the input reads as it did. -/
def fnExactCyclesOfSpec : ChangeSpec := { name := "fnExactCyclesOf", fn := fun _ => fun
  | [d] => { results := [.lit (.bool true)], args := [d] }
  | _ => none }
def fnExactCyclesOfRow : OpenClaim := { program := "ytmhgppalnhobaaa", sum := "493aae92c639c1aaa1f144f86f2503e5b412736530dfde1c9a51bc04fe576f3b", func := "loop.example/cellcollector/laws.FnExactCyclesOf", spec := "fnExactCyclesOf", unfollowed := true, recurses := true, apart := false }
def FnExactCyclesOfSaid : Prop := fnExactCyclesOfRow.holds Try.pinned (OpenSpec.ofChange fnExactCyclesOfSpec)

/-- ITS FALSE NEIGHBOUR: 'it returns false'. Refute it at one input. -/
def fnExactCyclesOfWrong : ChangeSpec := { name := "fnExactCyclesOf", fn := fun _ => fun
  | [d] => { results := [.lit (.bool false)], args := [d] }
  | _ => none }
def FnExactCyclesOfWrongFalsely : Prop := fnExactCyclesOfRow.holds Try.pinned (OpenSpec.ofChange fnExactCyclesOfWrong)

/-- 'laws.FnExactFreeCell': WHATEVER THE INPUT: true; the input reads as it did. -/
def fnExactFreeCellSpec : ChangeSpec := { name := "fnExactFreeCell", fn := fun _ => fun
  | [d1, d2] => { results := [.lit (.bool true)], args := [d1, d2] }
  | _ => none }
def fnExactFreeCellRow : OpenClaim := { program := "ytmhgppalnhobaaa", sum := "493aae92c639c1aaa1f144f86f2503e5b412736530dfde1c9a51bc04fe576f3b", func := "loop.example/cellcollector/laws.FnExactFreeCell", spec := "fnExactFreeCell", unfollowed := true, recurses := true, apart := false }
def FnExactFreeCellSaid : Prop := fnExactFreeCellRow.holds Try.pinned (OpenSpec.ofChange fnExactFreeCellSpec)

/-- ITS FALSE NEIGHBOUR: 'it returns false'. Refute it at one input. -/
def fnExactFreeCellWrong : ChangeSpec := { name := "fnExactFreeCell", fn := fun _ => fun
  | [d1, d2] => { results := [.lit (.bool false)], args := [d1, d2] }
  | _ => none }
def FnExactFreeCellWrongFalsely : Prop := fnExactFreeCellRow.holds Try.pinned (OpenSpec.ofChange fnExactFreeCellWrong)

/-- 'laws.FnRunNew': WHATEVER THE INPUT: true; the input reads as it did. -/
def fnRunNewSpec : ChangeSpec := { name := "fnRunNew", fn := fun _ => fun
  | [d] => { results := [.lit (.bool true)], args := [d] }
  | _ => none }
def fnRunNewRow : OpenClaim := { program := "ytmhgppalnhobaaa", sum := "493aae92c639c1aaa1f144f86f2503e5b412736530dfde1c9a51bc04fe576f3b", func := "loop.example/cellcollector/laws.FnRunNew", spec := "fnRunNew", apart := false }
def FnRunNewSaid : Prop := fnRunNewRow.holds Try.pinned (OpenSpec.ofChange fnRunNewSpec)

/-- ITS FALSE NEIGHBOUR: 'it returns false'. Refute it at one input. -/
def fnRunNewWrong : ChangeSpec := { name := "fnRunNew", fn := fun _ => fun
  | [d] => { results := [.lit (.bool false)], args := [d] }
  | _ => none }
def FnRunNewWrongFalsely : Prop := fnRunNewRow.holds Try.pinned (OpenSpec.ofChange fnRunNewWrong)

/-- 'laws.FnExactCollectStore': WHATEVER THE INPUT: true; the input reads as it did. -/
def fnExactCollectStoreSpec : ChangeSpec := { name := "fnExactCollectStore", fn := fun _ => fun
  | [d] => { results := [.lit (.bool true)], args := [d] }
  | _ => none }
def fnExactCollectStoreRow : OpenClaim := { program := "ytmhgppalnhobaaa", sum := "493aae92c639c1aaa1f144f86f2503e5b412736530dfde1c9a51bc04fe576f3b", func := "loop.example/cellcollector/laws.FnExactCollectStore", spec := "fnExactCollectStore", unfollowed := true, recurses := true, apart := false }
def FnExactCollectStoreSaid : Prop := fnExactCollectStoreRow.holds Try.pinned (OpenSpec.ofChange fnExactCollectStoreSpec)

/-- ITS FALSE NEIGHBOUR: 'it returns false'. Refute it at one input. -/
def fnExactCollectStoreWrong : ChangeSpec := { name := "fnExactCollectStore", fn := fun _ => fun
  | [d] => { results := [.lit (.bool false)], args := [d] }
  | _ => none }
def FnExactCollectStoreWrongFalsely : Prop := fnExactCollectStoreRow.holds Try.pinned (OpenSpec.ofChange fnExactCollectStoreWrong)

/-- 'laws.FnColorNew': WHATEVER THE INPUT: true; the input reads as it did. -/
def fnColorNewSpec : ChangeSpec := { name := "fnColorNew", fn := fun _ => fun
  | [d] => { results := [.lit (.bool true)], args := [d] }
  | _ => none }
def fnColorNewRow : OpenClaim := { program := "ytmhgppalnhobaaa", sum := "493aae92c639c1aaa1f144f86f2503e5b412736530dfde1c9a51bc04fe576f3b", func := "loop.example/cellcollector/laws.FnColorNew", spec := "fnColorNew", apart := false }
def FnColorNewSaid : Prop := fnColorNewRow.holds Try.pinned (OpenSpec.ofChange fnColorNewSpec)

/-- ITS FALSE NEIGHBOUR: 'it returns false'. Refute it at one input. -/
def fnColorNewWrong : ChangeSpec := { name := "fnColorNew", fn := fun _ => fun
  | [d] => { results := [.lit (.bool false)], args := [d] }
  | _ => none }
def FnColorNewWrongFalsely : Prop := fnColorNewRow.holds Try.pinned (OpenSpec.ofChange fnColorNewWrong)

/-- 'laws.FnClearOp': WHATEVER THE INPUT: true; the input reads as it did. -/
def fnClearOpSpec : ChangeSpec := { name := "fnClearOp", fn := fun _ => fun
  | [d] => { results := [.lit (.bool true)], args := [d] }
  | _ => none }
def fnClearOpRow : OpenClaim := { program := "ytmhgppalnhobaaa", sum := "493aae92c639c1aaa1f144f86f2503e5b412736530dfde1c9a51bc04fe576f3b", func := "loop.example/cellcollector/laws.FnClearOp", spec := "fnClearOp", unfollowed := true, recurses := true, apart := false }
def FnClearOpSaid : Prop := fnClearOpRow.holds Try.pinned (OpenSpec.ofChange fnClearOpSpec)

/-- ITS FALSE NEIGHBOUR: 'it returns false'. Refute it at one input. -/
def fnClearOpWrong : ChangeSpec := { name := "fnClearOp", fn := fun _ => fun
  | [d] => { results := [.lit (.bool false)], args := [d] }
  | _ => none }
def FnClearOpWrongFalsely : Prop := fnClearOpRow.holds Try.pinned (OpenSpec.ofChange fnClearOpWrong)

/-- 'laws.FnFreeCell': WHATEVER THE INPUT: true; the input reads as it did. -/
def fnFreeCellSpec : ChangeSpec := { name := "fnFreeCell", fn := fun _ => fun
  | [d] => { results := [.lit (.bool true)], args := [d] }
  | _ => none }
def fnFreeCellRow : OpenClaim := { program := "ytmhgppalnhobaaa", sum := "493aae92c639c1aaa1f144f86f2503e5b412736530dfde1c9a51bc04fe576f3b", func := "loop.example/cellcollector/laws.FnFreeCell", spec := "fnFreeCell", unfollowed := true, recurses := true, apart := false }
def FnFreeCellSaid : Prop := fnFreeCellRow.holds Try.pinned (OpenSpec.ofChange fnFreeCellSpec)

/-- ITS FALSE NEIGHBOUR: 'it returns false'. Refute it at one input. -/
def fnFreeCellWrong : ChangeSpec := { name := "fnFreeCell", fn := fun _ => fun
  | [d] => { results := [.lit (.bool false)], args := [d] }
  | _ => none }
def FnFreeCellWrongFalsely : Prop := fnFreeCellRow.holds Try.pinned (OpenSpec.ofChange fnFreeCellWrong)

/-- 'laws.FnExactTakeCounted': WHATEVER THE INPUT: true; the input reads as it did. -/
def fnExactTakeCountedSpec : ChangeSpec := { name := "fnExactTakeCounted", fn := fun _ => fun
  | [d1, d2] => { results := [.lit (.bool true)], args := [d1, d2] }
  | _ => none }
def fnExactTakeCountedRow : OpenClaim := { program := "ytmhgppalnhobaaa", sum := "493aae92c639c1aaa1f144f86f2503e5b412736530dfde1c9a51bc04fe576f3b", func := "loop.example/cellcollector/laws.FnExactTakeCounted", spec := "fnExactTakeCounted", apart := false }
def FnExactTakeCountedSaid : Prop := fnExactTakeCountedRow.holds Try.pinned (OpenSpec.ofChange fnExactTakeCountedSpec)

/-- ITS FALSE NEIGHBOUR: 'it returns false'. Refute it at one input. -/
def fnExactTakeCountedWrong : ChangeSpec := { name := "fnExactTakeCounted", fn := fun _ => fun
  | [d1, d2] => { results := [.lit (.bool false)], args := [d1, d2] }
  | _ => none }
def FnExactTakeCountedWrongFalsely : Prop := fnExactTakeCountedRow.holds Try.pinned (OpenSpec.ofChange fnExactTakeCountedWrong)

/-- 'laws.FnCollectStore': WHATEVER THE INPUT: true; the input reads as it did. -/
def fnCollectStoreSpec : ChangeSpec := { name := "fnCollectStore", fn := fun _ => fun
  | [d] => { results := [.lit (.bool true)], args := [d] }
  | _ => none }
def fnCollectStoreRow : OpenClaim := { program := "ytmhgppalnhobaaa", sum := "493aae92c639c1aaa1f144f86f2503e5b412736530dfde1c9a51bc04fe576f3b", func := "loop.example/cellcollector/laws.FnCollectStore", spec := "fnCollectStore", unfollowed := true, recurses := true, apart := false }
def FnCollectStoreSaid : Prop := fnCollectStoreRow.holds Try.pinned (OpenSpec.ofChange fnCollectStoreSpec)

/-- ITS FALSE NEIGHBOUR: 'it returns false'. Refute it at one input. -/
def fnCollectStoreWrong : ChangeSpec := { name := "fnCollectStore", fn := fun _ => fun
  | [d] => { results := [.lit (.bool false)], args := [d] }
  | _ => none }
def FnCollectStoreWrongFalsely : Prop := fnCollectStoreRow.holds Try.pinned (OpenSpec.ofChange fnCollectStoreWrong)

/- THE SECOND FORM. 'bulk': how many values and letters a reading holds, each counted each time it is reached (what is shared counts as often as it is met; a slice's spare places count too). A statement '..UptoSaid' is the law's where the arguments, and the package variables that the reading takes, are together of bulk at most 1048576: NARROWER than '..Said'. Prove '..Said' where nothing that the law and all that it calls make is longer than what came in: it says more and counts as full. Else prove '..UptoSaid'. A law counts once. -/
mutual
def uptoBulk {H : Type} : DataW H → Nat
  | .lit (.string bytes) => bytes.length + 1
  | .lit _ => 1
  | .nil => 1
  | .ptr d => uptoBulk d + 1
  | .slice elems spare => uptoBulkAll elems + uptoBulkAll spare + 1
  | .agg parts => uptoBulkAll parts + 1
  | .iface _ d => uptoBulk d + 1
  | .map entries => uptoBulkEntries entries + 1
  | .held _ => 1
def uptoBulkAll {H : Type} : List (DataW H) → Nat
  | [] => 0
  | d :: r => uptoBulk d + uptoBulkAll r
def uptoBulkEntries {H : Type} : List (Lit × DataW H) → Nat
  | [] => 0
  | x :: r => uptoBulkEntry x + uptoBulkEntries r
def uptoBulkEntry {H : Type} : Lit × DataW H → Nat
  | (.string bytes, d) => bytes.length + uptoBulk d + 1
  | (_, d) => uptoBulk d + 1
 end
def uptoSmall : (H : Type) → List (DataW H) → Bool := fun _ ds => decide (uptoBulkAll ds ≤ 1048576)
def OpenSpec.upto (s : _root_.Go.ChangeSpec) : _root_.Go.OpenSpec := { _root_.Go.OpenSpec.ofChange s with cond := some uptoSmall }

/-- 'laws.FnRunLive', WHERE WHAT IT READS IS OF BULK AT MOST 1048576: true; the input reads as it did. -/
def fnRunLiveUptoRow : OpenClaim := { program := "ytmhgppalnhobaaa", sum := "493aae92c639c1aaa1f144f86f2503e5b412736530dfde1c9a51bc04fe576f3b", func := "loop.example/cellcollector/laws.FnRunLive", spec := "fnRunLive", unfollowed := true, recurses := true, apart := false, narrowed := true }
def FnRunLiveUptoSaid : Prop := fnRunLiveUptoRow.holds Try.pinned (OpenSpec.upto fnRunLiveSpec)

/-- 'laws.FnAllocLeak', WHERE WHAT IT READS IS OF BULK AT MOST 1048576: true; the input reads as it did. -/
def fnAllocLeakUptoRow : OpenClaim := { program := "ytmhgppalnhobaaa", sum := "493aae92c639c1aaa1f144f86f2503e5b412736530dfde1c9a51bc04fe576f3b", func := "loop.example/cellcollector/laws.FnAllocLeak", spec := "fnAllocLeak", unfollowed := true, recurses := true, apart := false, narrowed := true }
def FnAllocLeakUptoSaid : Prop := fnAllocLeakUptoRow.holds Try.pinned (OpenSpec.upto fnAllocLeakSpec)

/-- 'laws.FnExactDropRoot', WHERE WHAT IT READS IS OF BULK AT MOST 1048576: true; the input reads as it did. -/
def fnExactDropRootUptoRow : OpenClaim := { program := "ytmhgppalnhobaaa", sum := "493aae92c639c1aaa1f144f86f2503e5b412736530dfde1c9a51bc04fe576f3b", func := "loop.example/cellcollector/laws.FnExactDropRoot", spec := "fnExactDropRoot", apart := false, narrowed := true }
def FnExactDropRootUptoSaid : Prop := fnExactDropRootUptoRow.holds Try.pinned (OpenSpec.upto fnExactDropRootSpec)

/-- 'laws.FnExactCyclesOf', WHERE WHAT IT READS IS OF BULK AT MOST 1048576: true; the input reads as it did. -/
def fnExactCyclesOfUptoRow : OpenClaim := { program := "ytmhgppalnhobaaa", sum := "493aae92c639c1aaa1f144f86f2503e5b412736530dfde1c9a51bc04fe576f3b", func := "loop.example/cellcollector/laws.FnExactCyclesOf", spec := "fnExactCyclesOf", unfollowed := true, recurses := true, apart := false, narrowed := true }
def FnExactCyclesOfUptoSaid : Prop := fnExactCyclesOfUptoRow.holds Try.pinned (OpenSpec.upto fnExactCyclesOfSpec)

/-- 'laws.FnExactFreeCell', WHERE WHAT IT READS IS OF BULK AT MOST 1048576: true; the input reads as it did. -/
def fnExactFreeCellUptoRow : OpenClaim := { program := "ytmhgppalnhobaaa", sum := "493aae92c639c1aaa1f144f86f2503e5b412736530dfde1c9a51bc04fe576f3b", func := "loop.example/cellcollector/laws.FnExactFreeCell", spec := "fnExactFreeCell", unfollowed := true, recurses := true, apart := false, narrowed := true }
def FnExactFreeCellUptoSaid : Prop := fnExactFreeCellUptoRow.holds Try.pinned (OpenSpec.upto fnExactFreeCellSpec)

/-- 'laws.FnRunNew', WHERE WHAT IT READS IS OF BULK AT MOST 1048576: true; the input reads as it did. -/
def fnRunNewUptoRow : OpenClaim := { program := "ytmhgppalnhobaaa", sum := "493aae92c639c1aaa1f144f86f2503e5b412736530dfde1c9a51bc04fe576f3b", func := "loop.example/cellcollector/laws.FnRunNew", spec := "fnRunNew", apart := false, narrowed := true }
def FnRunNewUptoSaid : Prop := fnRunNewUptoRow.holds Try.pinned (OpenSpec.upto fnRunNewSpec)

/-- 'laws.FnExactCollectStore', WHERE WHAT IT READS IS OF BULK AT MOST 1048576: true; the input reads as it did. -/
def fnExactCollectStoreUptoRow : OpenClaim := { program := "ytmhgppalnhobaaa", sum := "493aae92c639c1aaa1f144f86f2503e5b412736530dfde1c9a51bc04fe576f3b", func := "loop.example/cellcollector/laws.FnExactCollectStore", spec := "fnExactCollectStore", unfollowed := true, recurses := true, apart := false, narrowed := true }
def FnExactCollectStoreUptoSaid : Prop := fnExactCollectStoreUptoRow.holds Try.pinned (OpenSpec.upto fnExactCollectStoreSpec)

/-- 'laws.FnColorNew', WHERE WHAT IT READS IS OF BULK AT MOST 1048576: true; the input reads as it did. -/
def fnColorNewUptoRow : OpenClaim := { program := "ytmhgppalnhobaaa", sum := "493aae92c639c1aaa1f144f86f2503e5b412736530dfde1c9a51bc04fe576f3b", func := "loop.example/cellcollector/laws.FnColorNew", spec := "fnColorNew", apart := false, narrowed := true }
def FnColorNewUptoSaid : Prop := fnColorNewUptoRow.holds Try.pinned (OpenSpec.upto fnColorNewSpec)

/-- 'laws.FnClearOp', WHERE WHAT IT READS IS OF BULK AT MOST 1048576: true; the input reads as it did. -/
def fnClearOpUptoRow : OpenClaim := { program := "ytmhgppalnhobaaa", sum := "493aae92c639c1aaa1f144f86f2503e5b412736530dfde1c9a51bc04fe576f3b", func := "loop.example/cellcollector/laws.FnClearOp", spec := "fnClearOp", unfollowed := true, recurses := true, apart := false, narrowed := true }
def FnClearOpUptoSaid : Prop := fnClearOpUptoRow.holds Try.pinned (OpenSpec.upto fnClearOpSpec)

/-- 'laws.FnFreeCell', WHERE WHAT IT READS IS OF BULK AT MOST 1048576: true; the input reads as it did. -/
def fnFreeCellUptoRow : OpenClaim := { program := "ytmhgppalnhobaaa", sum := "493aae92c639c1aaa1f144f86f2503e5b412736530dfde1c9a51bc04fe576f3b", func := "loop.example/cellcollector/laws.FnFreeCell", spec := "fnFreeCell", unfollowed := true, recurses := true, apart := false, narrowed := true }
def FnFreeCellUptoSaid : Prop := fnFreeCellUptoRow.holds Try.pinned (OpenSpec.upto fnFreeCellSpec)

/-- 'laws.FnExactTakeCounted', WHERE WHAT IT READS IS OF BULK AT MOST 1048576: true; the input reads as it did. -/
def fnExactTakeCountedUptoRow : OpenClaim := { program := "ytmhgppalnhobaaa", sum := "493aae92c639c1aaa1f144f86f2503e5b412736530dfde1c9a51bc04fe576f3b", func := "loop.example/cellcollector/laws.FnExactTakeCounted", spec := "fnExactTakeCounted", apart := false, narrowed := true }
def FnExactTakeCountedUptoSaid : Prop := fnExactTakeCountedUptoRow.holds Try.pinned (OpenSpec.upto fnExactTakeCountedSpec)

/-- 'laws.FnCollectStore', WHERE WHAT IT READS IS OF BULK AT MOST 1048576: true; the input reads as it did. -/
def fnCollectStoreUptoRow : OpenClaim := { program := "ytmhgppalnhobaaa", sum := "493aae92c639c1aaa1f144f86f2503e5b412736530dfde1c9a51bc04fe576f3b", func := "loop.example/cellcollector/laws.FnCollectStore", spec := "fnCollectStore", unfollowed := true, recurses := true, apart := false, narrowed := true }
def FnCollectStoreUptoSaid : Prop := fnCollectStoreUptoRow.holds Try.pinned (OpenSpec.upto fnCollectStoreSpec)

end Rows
end Go.Proofs.Ytmhgppalnhobaaa
