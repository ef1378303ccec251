/- for every input, without operations nothing is lost: the law FnLoseOps holds, tied to the program's text.
Conditions: none. -/
import Derived.Test.YtbobhbhgomkgpaaGreatDoorRows
import Derived.Test.YtbobhbhgomkgpaaGreatDoorNg
import Derived.Test.YtbobhbhgomkgpaaGreatDoorA8
import Derived.Test.YtbobhbhgomkgpaaGreatDoorSx
import Derived.Test.YtbobhbhgomkgpaaGreatDoorCards
import Derived.Test.YtbobhbhgomkgpaaGreatDoorTie
import Derived.WalkKit
import Derived.ProofKit
import Derived.OpenShut
import Derived.ShutString
import Derived.ChangeOld
import Derived.Below
import Derived.SizedLaws
import Derived.LaidMore
import Derived.Stop.Joined
import Derived.SevenTiedAt
import Derived.Lay
import Derived.MakeChecks
namespace Go.Proofs.YtbobhbhgomkgpaaGreatDoor.fnLoseOps
open Go Go.ChangeShapes Go.WideShapes Go.ChangeAt Go.RowKit Go.Proofs Go.Proofs.YtbobhbhgomkgpaaGreatDoor.S
open Go.ChangeMaps (open_string shut_string)
set_option linter.all false
theorem VR_slB {w : World} {v : Value} {l : List Int} (h : RdI .u8 w v l) {ν : Nm} {n : Nat} (hn : ν n = locOf v) : VR ν (.sl n 0 (bysOf l).length) v := h.crB hn
theorem VR_slI {k : IntKind} {w : World} {v : Value} {l : List Int} (h : RdI k w v l) {ν : Nm} {n : Nat} (hn : ν n = locOf v) : VR ν (.sl n 0 l.length) v := h.cr hn
theorem own : ownKnob Tryz.prog.godebug = none := by kernel_rfl
theorem laidOut : laidOutB Tryz.prog = true := by kernel_rfl
set_option maxRecDepth 100000 in
theorem door_met (os : Os) (args : Array Value) : laidMetH Tryz.prog Rows.fnLoseOpsRow.laid ((World.doorLaid Tryz.prog 24 os).forCall (fun _ _ => 0) ⟨#[], args, []⟩).memory :=
  laidMetH_of_parts3 (fuel := 8) (laidMet_of_run' 8 (by kernel_rfl) (by kernel_rfl)) (by kernel_rfl) (by kernel_rfl)
set_option maxRecDepth 100000 in
theorem lifted (os : Os) (started : os.Started) (H : Type) (enc : TypeId × Value → H) :
    ReturnsInHanded {} Tryz.checked os 6 .any (fun w args => (Rows.fnLoseOpsSpec.pre enc Tryz.prog Tryz.f6 [] false w args ∧ laidMetH Tryz.prog Rows.fnLoseOpsRow.laid w) ∧ sizedMet enc Tryz.prog Tryz.f6 (OpenSpec.ofChange Rows.fnLoseOpsSpec) false w args) (Rows.fnLoseOpsSpec.post enc Tryz.prog Tryz.f6 false true false false) := by
  refine returnsInHanded_of_change_and (C := Tryz.checked) (X := fun w _ => laidMetH Tryz.prog Rows.fnLoseOpsRow.laid w) (fun _ _ _ hh h => h.of_heap hh) own started (by kernel_rfl) Tryz.func6
    (ChangeSpec.witness_shaped (enc := enc) (C := Tryz.checked) (os := os) (X := fun w _ => laidMetH Tryz.prog Rows.fnLoseOpsRow.laid w) false (World.doorLaid Tryz.prog 24 os) #[.slice none 0 0] 8 rfl (World.shaped_of_RefB (by kernel_rfl) (by kernel_rfl)) (by kernel_rfl) (by kernel_rfl) (by kernel_rfl) (door_met os _)) ?_
  intro W base args ds gs before hval0 hW hcnd hsz0 hL _
  have hval : ∀ (j : Nat) t v, Tryz.f6.params[j]? = some t → args[j]? = some v → Value.okWide Tryz.prog W .any base t v := hval0
  have hW' := hW
  obtain ⟨p, q, hA0, hV, rfl, hfz, hnd⟩ := hW
  have hA : DataW.TrodAll enc Tryz.prog W 0 (fun _ => true) true Tryz.f6.params.toList args.toList ds p := hA0
  rw [Tryz.params6] at hA hval
  obtain ⟨v0, vs0, d0, ds0, p0, q0, hargs, rfl, rfl, h0, r0⟩ := trodAll_cons hA
  obtain ⟨rfl, rfl, rfl⟩ := trodAll_nil r0
  obtain rfl : args = #[v0] := by cases args; simp_all
  obtain ⟨rfl, rfl⟩ := trodVars_none hV
  have lt0 : ∀ x ∈ p0, x.block < W.heap.size := by obtain ⟨m, hm⟩ := h0; exact DataW.trod_lt m _ _ _ hm
  obtain ⟨fuel0, hf0⟩ := id h0
  obtain ⟨a0, len0, cap0, rfl⟩ := okWide_slice Tryz.underlying22 (hval 0 22 v0 rfl rfl)
  obtain ⟨c0, l0, hcs0, e0⟩ := rd_ints Tryz.underlying22 Tryz.underlying5 (by kernel_rfl) hf0
  obtain rfl : c0 = .slice a0 len0 cap0 := by have := hcs0; simp [Value.cells] at this; exact this.symm
  clear hA0 hval0 hsz0
  refine (Fn_law (lLoseOps_c (bysOf l0) (by rw [bysOf_len]; exact e0.len)) ?_ (ν := fun k => match k with | 0 => locOf (.slice a0 len0 cap0) | _ => none) ?_ ?_ ?_).mono ?_
  · intro k e he
    simp only [aget] at he
    split at he
    · cases he; rfl
    · cases he
  · intro k e he
    simp only [aget] at he
    split at he
    · rename_i q; subst q; cases he; exact e0.erB rfl
    · cases he
  · intro k hk
    match k, hk with
    | 0, hk => cases hk
    | k + 1, _ => rfl
  · exact .cons (VR_slB e0 rfl) .nil
  · rintro e W' ⟨rfl, bel⟩
    exact ⟨_, rfl, _, _, _, [], _, [], hW', trodAll_mk1 (shut_bool Tryz.underlying4 _), (trodAll_cons_mk (Below.trod laidOut (by kernel_rfl) (of_decide_eq_true (by kernel_rfl)) h0 bel lt0) trodAll_mk0), rfl, bel.frame _, fun h => by cases h⟩
set_option maxRecDepth 100000 in
set_option maxHeartbeats 4000000 in
theorem jf : joinedFacts Tryz.prog 6 Tryz.f6 Rows.fnLoseOpsSpec Rows.fnLoseOpsRow = true := by
  unfold joinedFacts
  simp only [Bool.and_eq_true]
  repeat' apply And.intro
  all_goals first | (rw [io_enter]; done) | (rw [io_lifts]; as_aux_lemma => kernel_rfl) | (rw [io_make]; as_aux_lemma => kernel_rfl) | (as_aux_lemma => kernel_rfl)
theorem over : Rows.fnLoseOpsRow.holds Tryz.pinned (OpenSpec.ofChange Rows.fnLoseOpsSpec) :=
  OpenClaim.holds_of_wide 6 Tryz.f6 rfl rfl rfl rfl rfl rfl rfl ⟨rfl, rfl, rfl, rfl, rfl⟩ rfl rfl rfl rfl rfl (by kernel_rfl) Tryz.func6 jf
    (of_decide_eq_true (by kernel_rfl)) (by unfold Func.isWrapper; first | (rw [if_pos (by decide +kernel)]; kernel_rfl) | (rw [if_neg (by decide +kernel)]; exact ⟨rfl, rfl⟩))
    (fun os started H enc _ => lifted os started H enc)
theorem proved : Rows.FnLoseOpsSaid := over
#print axioms proved
end Go.Proofs.YtbobhbhgomkgpaaGreatDoor.fnLoseOps
namespace Go.Proofs.YtbobhbhgomkgpaaGreatDoor
open Go
/-- The tied card, for the claim. -/
theorem fnLoseOps_holds : Rows.FnLoseOpsCardSaid :=
  Claim7.holds_tied_plain_at .later [] [.data, .data, .data] true (true, "36e1019bdcd68851249642b007a96cce661e86ade73f6bea11f000e9386a8a81") false
    fnLoseOps.proved (fun _ h => by cases h) (by kernel_rfl) (fun _ h => by cases h) fnLoseOps_row_tie rfl ⟨rfl, rfl⟩ (by kernel_rfl) rfl
    (fun f fn hf hfn => by
      obtain rfl : f = 6 := Option.some.inj ((show Tryz.prog.funcNamed "loop.example/cellcollector/laws.FnLoseOps" = some 6 by kernel_rfl).symm.trans hf) |>.symm
      obtain rfl : fn = Tryz.f6 := (Option.some.inj (Tryz.func6.symm.trans hfn)).symm
      exact ⟨by kernel_rfl, fun j t ht => by
        rw [Tryz.params6] at ht
        have hm : t ∈ [22] := by simpa using Array.mem_of_getElem? ht
        have hall : ([22].all fun u => !Tryz.prog.wantsStandIn u) = true := by kernel_rfl
        exact (show Tryz.prog.wantsStandIn t = false by simpa using List.all_eq_true.1 hall t hm)⟩)
    (by kernel_rfl)
#print axioms fnLoseOps_holds
end Go.Proofs.YtbobhbhgomkgpaaGreatDoor
