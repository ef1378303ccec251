/- for every program, collector and store, the shortest schedule to a loss is the reference's, and the arguments stay: the law FnExactShortLoss holds, tied to the program's text.
Conditions: none. -/
import Derived.Test.YtbobhbhgomkgpaaGreatDoorRows
import Derived.Test.YtbobhbhgomkgpaaGreatDoorNc
import Derived.Test.YtbobhbhgomkgpaaGreatDoorA8
import Derived.Test.YtbobhbhgomkgpaaGreatDoorSx
import Derived.Test.YtbobhbhgomkgpaaGreatDoorCards
import Derived.Test.YtbobhbhgomkgpaaGreatDoorTie
import Derived.WalkKit
import Derived.ProofKit
import Derived.OpenShut
import Derived.ShutString
import Derived.ChangeOld
import Derived.Below
import Derived.SizedLaws
import Derived.LaidMore
import Derived.Stop.Joined
import Derived.SevenTiedAt
import Derived.Lay
import Derived.MakeChecks
namespace Go.Proofs.YtbobhbhgomkgpaaGreatDoor.fnExactShortLoss
open Go Go.ChangeShapes Go.WideShapes Go.ChangeAt Go.RowKit Go.Proofs Go.Proofs.YtbobhbhgomkgpaaGreatDoor.S
open Go.ChangeMaps (open_string shut_string)
set_option linter.all false
theorem VR_slB {w : World} {v : Value} {l : List Int} (h : RdI .u8 w v l) {ν : Nm} {n : Nat} (hn : ν n = locOf v) : VR ν (.sl n 0 (bysOf l).length) v := h.crB hn
theorem VR_slI {k : IntKind} {w : World} {v : Value} {l : List Int} (h : RdI k w v l) {ν : Nm} {n : Nat} (hn : ν n = locOf v) : VR ν (.sl n 0 l.length) v := h.cr hn
theorem VR_slO {w : World} {v : Value} {l : List (Int × Int × Int)} (h : RdO w v l) {ν : Nm} {n : Nat} (hn : ν n = locO v) : VR ν (.sl n 0 l.length) v := h.cr hn
theorem own : ownKnob Tryz.prog.godebug = none := by kernel_rfl
theorem laidOut : laidOutB Tryz.prog = true := by kernel_rfl
set_option maxRecDepth 100000 in
theorem door_met (os : Os) (args : Array Value) : laidMetH Tryz.prog Rows.fnExactShortLossRow.laid ((World.doorLaid Tryz.prog 24 os).forCall (fun _ _ => 0) ⟨#[], args, []⟩).memory :=
  laidMetH_of_parts3 (fuel := 8) (laidMet_of_run' 8 (by kernel_rfl) (by kernel_rfl)) (by kernel_rfl) (by kernel_rfl)
set_option maxRecDepth 100000 in
theorem lifted (os : Os) (started : os.Started) (H : Type) (enc : TypeId × Value → H) :
    ReturnsInHanded {} Tryz.checked os 9 .any (fun w args => (Rows.fnExactShortLossSpec.pre enc Tryz.prog Tryz.f9 [] false w args ∧ laidMetH Tryz.prog Rows.fnExactShortLossRow.laid w) ∧ sizedMet enc Tryz.prog Tryz.f9 (OpenSpec.ofChange Rows.fnExactShortLossSpec) false w args) (Rows.fnExactShortLossSpec.post enc Tryz.prog Tryz.f9 false true false false) := by
  refine returnsInHanded_of_change_and (C := Tryz.checked) (X := fun w _ => laidMetH Tryz.prog Rows.fnExactShortLossRow.laid w) (fun _ _ _ hh h => h.of_heap hh) own started (by kernel_rfl) Tryz.func9
    (ChangeSpec.witness_shaped (enc := enc) (C := Tryz.checked) (os := os) (X := fun w _ => laidMetH Tryz.prog Rows.fnExactShortLossRow.laid w) false (World.doorLaid Tryz.prog 24 os) #[.agg #[.slice none 0 0, .slice none 0 0, .slice none 0 0, .slice none 0 0, .int .i64 0, .slice none 0 0, .int .i64 0, .slice none 0 0, .int .i64 0, .bool false], .bool false] 8 rfl (World.shaped_of_RefB (by kernel_rfl) (by kernel_rfl)) (by kernel_rfl) (by kernel_rfl) (by kernel_rfl) (door_met os _)) ?_
  intro W base args ds gs before hval0 hW hcnd hsz0 hL _
  have hval : ∀ (j : Nat) t v, Tryz.f9.params[j]? = some t → args[j]? = some v → Value.okWide Tryz.prog W .any base t v := hval0
  have hW' := hW
  obtain ⟨p, q, hA0, hV, rfl, hfz, hnd⟩ := hW
  have hA : DataW.TrodAll enc Tryz.prog W 0 (fun _ => true) true Tryz.f9.params.toList args.toList ds p := hA0
  rw [Tryz.params9] at hA hval
  obtain ⟨v0, vs0, d0, ds0, p0, q0, hargs, rfl, rfl, h0, r0⟩ := trodAll_cons hA
  obtain ⟨v1, vs1, d1, ds1, p1, q1, rfl, rfl, rfl, h1, r1⟩ := trodAll_cons r0
  obtain ⟨rfl, rfl, rfl⟩ := trodAll_nil r1
  obtain rfl : args = #[v0, v1] := by cases args; simp_all
  obtain ⟨rfl, rfl⟩ := trodVars_none hV
  have lt0 : ∀ x ∈ p0, x.block < W.heap.size := by obtain ⟨m, hm⟩ := h0; exact DataW.trod_lt m _ _ _ hm
  obtain ⟨fuel0, hf0⟩ := id h0
  obtain ⟨arr0, rfl, hsz0⟩ := okWide_struct Tryz.underlying51 (hval 0 51 v0 rfl rfl)
  obtain ⟨c0, c1, c2, c3, c4, c5, l0, l1, l2, l3, l4, l5, gp0, ga0, ba0, bl0, hcs0, e0, e1, e2, e3, e4, e5⟩ := rd_both (e := 3) (eo := 124) (u := 3) Tryz.underlying51 ⟨rfl, rfl, rfl, rfl, rfl, by kernel_rfl⟩ Tryz.underlying47 ⟨rfl, rfl, by kernel_rfl⟩ Tryz.underlying45 ⟨rfl, rfl, rfl, by kernel_rfl⟩ ⟨Tryz.underlying23, Tryz.underlying23, Tryz.underlying23⟩ ⟨by kernel_rfl, by kernel_rfl, by kernel_rfl⟩ ⟨Tryz.underlying23, by kernel_rfl⟩ Tryz.underlying3 (by kernel_rfl) Tryz.underlying48 ⟨rfl, rfl, rfl, by kernel_rfl⟩ ⟨Tryz.underlying3, by kernel_rfl⟩ ⟨Tryz.underlying23, by kernel_rfl⟩ ⟨Tryz.underlying3, by kernel_rfl⟩ ⟨Tryz.underlying49, by kernel_rfl⟩ Tryz.underlying124 ⟨rfl, rfl, rfl, rfl, rfl, rfl⟩ Tryz.underlying3 (by kernel_rfl) (by kernel_rfl) ⟨Tryz.underlying3, by kernel_rfl⟩ ⟨Tryz.underlying4, by kernel_rfl⟩ hf0
  obtain rfl : arr0 = #[c0, c1, c2, c3, .int .i64 gp0, c4, .int .i64 ga0, c5, .int .i64 ba0, .bool bl0] := by
    have : arr0.toList = [c0, c1, c2, c3, .int .i64 gp0, c4, .int .i64 ga0, c5, .int .i64 ba0, .bool bl0] := hcs0
    exact Array.ext' this
  obtain ⟨b1, rfl, rfl, rfl⟩ := open_bool Tryz.underlying4 (hval 1 4 v1 rfl rfl) h1
  clear hA0 hval0 hsz0
  refine (Fn_law (lExactShortLoss_c ⟨⟨⟨l0, l1, l2⟩, l3⟩, ⟨gp0, l4, ga0⟩, l5, ba0, bl0⟩ b1 ⟨⟨⟨e0.len, e1.len, e2.len⟩, e3.len⟩, e4.len, e5.len⟩) ?_ (ν := fun k => match k with | 0 => locOf c0 | 1 => locOf c1 | 2 => locOf c2 | 3 => locOf c3 | 4 => locOf c4 | 5 => locO c5 | _ => none) ?_ ?_ ?_).mono ?_
  · intro k e he
    simp only [aget] at he
    split at he
    · cases he; rfl
    · split at he
      · cases he; rfl
      · split at he
        · cases he; rfl
        · split at he
          · cases he; rfl
          · split at he
            · cases he; rfl
            · split at he
              · cases he; rfl
              · cases he
  · intro k e he
    simp only [aget] at he
    split at he
    · rename_i q; subst q; cases he; exact e0.er rfl
    · split at he
      · rename_i q; subst q; cases he; exact e1.er rfl
      · split at he
        · rename_i q; subst q; cases he; exact e2.er rfl
        · split at he
          · rename_i q; subst q; cases he; exact e3.er rfl
          · split at he
            · rename_i q; subst q; cases he; exact e4.er rfl
            · split at he
              · rename_i q; subst q; cases he; exact e5.er rfl
              · cases he
  · intro k hk
    match k, hk with
    | 0, hk => cases hk
    | 1, hk => cases hk
    | 2, hk => cases hk
    | 3, hk => cases hk
    | 4, hk => cases hk
    | 5, hk => cases hk
    | k + 6, _ => rfl
  · exact .cons ⟨_, rfl, .cons (e0.cr rfl) (.cons (e1.cr rfl) (.cons (e2.cr rfl) (.cons (e3.cr rfl) (.cons rfl (.cons (e4.cr rfl) (.cons rfl (.cons (e5.cr rfl) (.cons rfl (.cons rfl .nil)))))))))⟩ (.cons rfl .nil)
  · rintro e W' ⟨rfl, bel⟩
    exact ⟨_, rfl, _, _, _, [], _, [], hW', trodAll_mk1 (shut_bool Tryz.underlying4 _), (trodAll_cons_mk (Below.trod laidOut (by kernel_rfl) (of_decide_eq_true (by kernel_rfl)) h0 bel lt0) (trodAll_cons_mk (shut_bool Tryz.underlying4 _) trodAll_mk0)), rfl, bel.frame _, fun h => by cases h⟩
set_option maxRecDepth 100000 in
set_option maxHeartbeats 4000000 in
theorem jf : joinedFacts Tryz.prog 9 Tryz.f9 Rows.fnExactShortLossSpec Rows.fnExactShortLossRow = true := by
  unfold joinedFacts
  simp only [Bool.and_eq_true]
  repeat' apply And.intro
  all_goals first | (rw [io_enter]; done) | (rw [io_lifts]; as_aux_lemma => kernel_rfl) | (rw [io_make]; as_aux_lemma => kernel_rfl) | (as_aux_lemma => kernel_rfl)
theorem over : Rows.fnExactShortLossRow.holds Tryz.pinned (OpenSpec.ofChange Rows.fnExactShortLossSpec) :=
  OpenClaim.holds_of_wide 9 Tryz.f9 rfl rfl rfl rfl rfl rfl rfl ⟨rfl, rfl, rfl, rfl, rfl⟩ rfl rfl rfl rfl rfl (by kernel_rfl) Tryz.func9 jf
    (of_decide_eq_true (by kernel_rfl)) (by unfold Func.isWrapper; first | (rw [if_pos (by decide +kernel)]; kernel_rfl) | (rw [if_neg (by decide +kernel)]; exact ⟨rfl, rfl⟩))
    (fun os started H enc _ => lifted os started H enc)
theorem proved : Rows.FnExactShortLossSaid := over
#print axioms proved
end Go.Proofs.YtbobhbhgomkgpaaGreatDoor.fnExactShortLoss
namespace Go.Proofs.YtbobhbhgomkgpaaGreatDoor
open Go
/-- The tied card, for the claim. -/
theorem fnExactShortLoss_holds : Rows.FnExactShortLossCardSaid :=
  Claim7.holds_tied_plain_at .later [] [.data, .data, .data] true (true, "36e1019bdcd68851249642b007a96cce661e86ade73f6bea11f000e9386a8a81") false
    fnExactShortLoss.proved (fun _ h => by cases h) (by kernel_rfl) (fun _ h => by cases h) fnExactShortLoss_row_tie rfl ⟨rfl, rfl⟩ (by kernel_rfl) rfl
    (fun f fn hf hfn => by
      obtain rfl : f = 9 := Option.some.inj ((show Tryz.prog.funcNamed "loop.example/cellcollector/laws.FnExactShortLoss" = some 9 by kernel_rfl).symm.trans hf) |>.symm
      obtain rfl : fn = Tryz.f9 := (Option.some.inj (Tryz.func9.symm.trans hfn)).symm
      exact ⟨by kernel_rfl, fun j t ht => by
        rw [Tryz.params9] at ht
        have hm : t ∈ [51, 4] := by simpa using Array.mem_of_getElem? ht
        have hall : ([51, 4].all fun u => !Tryz.prog.wantsStandIn u) = true := by kernel_rfl
        exact (show Tryz.prog.wantsStandIn t = false by simpa using List.all_eq_true.1 hall t hm)⟩)
    (by kernel_rfl)
#print axioms fnExactShortLoss_holds
end Go.Proofs.YtbobhbhgomkgpaaGreatDoor
