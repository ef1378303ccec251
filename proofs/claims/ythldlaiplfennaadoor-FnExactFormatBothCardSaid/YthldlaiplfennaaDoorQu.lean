/- for every program, collector and store, the program's text of them is the reference's, and they stay: the law FnExactFormatBoth holds, tied to the program's text.
Conditions: none. -/
import Derived.Test.YthldlaiplfennaaDoorRows
import Derived.Test.YthldlaiplfennaaDoorKs
import Derived.Test.YthldlaiplfennaaDoorSv
import Derived.Test.YthldlaiplfennaaDoorSy
import Derived.Test.YthldlaiplfennaaDoorSx
import Derived.Test.YthldlaiplfennaaDoorCards
import Derived.Test.YthldlaiplfennaaDoorTie
import Derived.WalkKit
import Derived.ProofKit
import Derived.OpenShut
import Derived.ShutString
import Derived.ChangeOld
import Derived.Below
import Derived.SizedLaws
import Derived.LaidMore
import Derived.Stop.Joined
import Derived.SevenTiedAt
namespace Go.Proofs.YthldlaiplfennaaDoor.fnExactFormatBoth
open Go Go.ChangeShapes Go.WideShapes Go.ChangeAt Go.RowKit Go.Proofs Go.Proofs.YthldlaiplfennaaDoor.S
open Go.ChangeMaps (open_string shut_string)
set_option linter.all false
theorem VR_slB {w : World} {v : Value} {l : List Int} (h : RdI .u8 w v l) {ν : Nm} {n : Nat} (hn : ν n = locOf v) : VR ν (.sl n 0 (bysOf l).length) v := h.crB hn
theorem VR_slI {k : IntKind} {w : World} {v : Value} {l : List Int} (h : RdI k w v l) {ν : Nm} {n : Nat} (hn : ν n = locOf v) : VR ν (.sl n 0 l.length) v := h.cr hn
theorem VR_slO {w : World} {v : Value} {l : List (Int × Int × Int)} (h : RdO w v l) {ν : Nm} {n : Nat} (hn : ν n = locO v) : VR ν (.sl n 0 l.length) v := h.cr hn
theorem own : ownKnob Tryd.prog.godebug = none := by kernel_rfl
theorem laidOut : laidOutB Tryd.prog = true := by kernel_rfl
set_option maxRecDepth 100000 in
theorem door_met (os : Os) (args : Array Value) : laidMetH Tryd.prog Rows.fnExactFormatBothRow.laid ((World.doorLaid Tryd.prog 24 os).forCall (fun _ _ => 0) ⟨#[], args, []⟩).memory :=
  laidMetH_of_parts3 (fuel := 8) (laidMet_of_run' 8 (by kernel_rfl) (by kernel_rfl)) (by kernel_rfl) (by kernel_rfl)
set_option maxRecDepth 100000 in
theorem lifted (os : Os) (started : os.Started) (H : Type) (enc : TypeId × Value → H) :
    ReturnsInHanded {} Tryd.checked os 7 .any (fun w args => (Rows.fnExactFormatBothSpec.pre enc Tryd.prog Tryd.f7 [] false w args ∧ laidMetH Tryd.prog Rows.fnExactFormatBothRow.laid w) ∧ sizedMet enc Tryd.prog Tryd.f7 (OpenSpec.ofChange Rows.fnExactFormatBothSpec) false w args) (Rows.fnExactFormatBothSpec.post enc Tryd.prog Tryd.f7 false true false false) := by
  refine returnsInHanded_of_change_and (C := Tryd.checked) (X := fun w _ => laidMetH Tryd.prog Rows.fnExactFormatBothRow.laid w) (fun _ _ _ hh h => h.of_heap hh) own started (by kernel_rfl) Tryd.func7
    (ChangeSpec.witness_shaped (enc := enc) (C := Tryd.checked) (os := os) (X := fun w _ => laidMetH Tryd.prog Rows.fnExactFormatBothRow.laid w) false (World.doorLaid Tryd.prog 24 os) #[.agg #[.slice none 0 0, .slice none 0 0, .slice none 0 0, .slice none 0 0, .int .i64 0, .slice none 0 0, .int .i64 0, .slice none 0 0, .int .i64 0, .bool false]] 8 rfl (World.shaped_of_RefB (by kernel_rfl) (by kernel_rfl)) (by kernel_rfl) (by kernel_rfl) (by kernel_rfl) (door_met os _)) ?_
  intro W base args ds gs before hval0 hW hcnd hsz0 hL _
  have hval : ∀ (j : Nat) t v, Tryd.f7.params[j]? = some t → args[j]? = some v → Value.okWide Tryd.prog W .any base t v := hval0
  have hW' := hW
  obtain ⟨p, q, hA0, hV, rfl, hfz, hnd⟩ := hW
  have hA : DataW.TrodAll enc Tryd.prog W 0 (fun _ => true) true Tryd.f7.params.toList args.toList ds p := hA0
  rw [Tryd.params7] at hA hval
  obtain ⟨v0, vs0, d0, ds0, p0, q0, hargs, rfl, rfl, h0, r0⟩ := trodAll_cons hA
  obtain ⟨rfl, rfl, rfl⟩ := trodAll_nil r0
  obtain rfl : args = #[v0] := by cases args; simp_all
  obtain ⟨rfl, rfl⟩ := trodVars_none hV
  have lt0 : ∀ x ∈ p0, x.block < W.heap.size := by obtain ⟨m, hm⟩ := h0; exact DataW.trod_lt m _ _ _ hm
  obtain ⟨fuel0, hf0⟩ := id h0
  obtain ⟨arr0, rfl, hsz0⟩ := okWide_struct Tryd.underlying46 (hval 0 46 v0 rfl rfl)
  obtain ⟨c0, c1, c2, c3, c4, c5, l0, l1, l2, l3, l4, l5, gp0, ga0, ba0, bl0, hcs0, e0, e1, e2, e3, e4, e5⟩ := rd_both (e := 3) (eo := 103) (u := 3) Tryd.underlying46 ⟨rfl, rfl, rfl, rfl, rfl, by kernel_rfl⟩ Tryd.underlying38 ⟨rfl, rfl, by kernel_rfl⟩ Tryd.underlying36 ⟨rfl, rfl, rfl, by kernel_rfl⟩ ⟨Tryd.underlying23, Tryd.underlying23, Tryd.underlying23⟩ ⟨by kernel_rfl, by kernel_rfl, by kernel_rfl⟩ ⟨Tryd.underlying23, by kernel_rfl⟩ Tryd.underlying3 (by kernel_rfl) Tryd.underlying43 ⟨rfl, rfl, rfl, by kernel_rfl⟩ ⟨Tryd.underlying3, by kernel_rfl⟩ ⟨Tryd.underlying23, by kernel_rfl⟩ ⟨Tryd.underlying3, by kernel_rfl⟩ ⟨Tryd.underlying44, by kernel_rfl⟩ Tryd.underlying103 ⟨rfl, rfl, rfl, rfl, rfl, rfl⟩ Tryd.underlying3 (by kernel_rfl) (by kernel_rfl) ⟨Tryd.underlying3, by kernel_rfl⟩ ⟨Tryd.underlying4, by kernel_rfl⟩ hf0
  obtain rfl : arr0 = #[c0, c1, c2, c3, .int .i64 gp0, c4, .int .i64 ga0, c5, .int .i64 ba0, .bool bl0] := by
    have : arr0.toList = [c0, c1, c2, c3, .int .i64 gp0, c4, .int .i64 ga0, c5, .int .i64 ba0, .bool bl0] := hcs0
    exact Array.ext' this
  clear hA0 hval0 hsz0
  refine (Fn_law (lExactFormatBoth_c ⟨⟨⟨l0, l1, l2⟩, l3⟩, ⟨gp0, l4, ga0⟩, l5, ba0, bl0⟩ ⟨⟨⟨e0.len, e1.len, e2.len⟩, e3.len⟩, e4.len, e5.len⟩) ?_ (ν := fun k => match k with | 0 => locOf c0 | 1 => locOf c1 | 2 => locOf c2 | 3 => locOf c3 | 4 => locOf c4 | 5 => locO c5 | _ => none) ?_ ?_ ?_).mono ?_
  · intro k e he
    simp only [aget] at he
    split at he
    · cases he; rfl
    · split at he
      · cases he; rfl
      · split at he
        · cases he; rfl
        · split at he
          · cases he; rfl
          · split at he
            · cases he; rfl
            · split at he
              · cases he; rfl
              · cases he
  · intro k e he
    simp only [aget] at he
    split at he
    · rename_i q; subst q; cases he; exact e0.er rfl
    · split at he
      · rename_i q; subst q; cases he; exact e1.er rfl
      · split at he
        · rename_i q; subst q; cases he; exact e2.er rfl
        · split at he
          · rename_i q; subst q; cases he; exact e3.er rfl
          · split at he
            · rename_i q; subst q; cases he; exact e4.er rfl
            · split at he
              · rename_i q; subst q; cases he; exact e5.er rfl
              · cases he
  · intro k hk
    match k, hk with
    | 0, hk => cases hk
    | 1, hk => cases hk
    | 2, hk => cases hk
    | 3, hk => cases hk
    | 4, hk => cases hk
    | 5, hk => cases hk
    | k + 6, _ => rfl
  · exact .cons ⟨_, rfl, .cons (e0.cr rfl) (.cons (e1.cr rfl) (.cons (e2.cr rfl) (.cons (e3.cr rfl) (.cons rfl (.cons (e4.cr rfl) (.cons rfl (.cons (e5.cr rfl) (.cons rfl (.cons rfl .nil)))))))))⟩ .nil
  · rintro e W' ⟨rfl, bel⟩
    exact ⟨_, rfl, _, _, _, [], _, [], hW', trodAll_mk1 (shut_bool Tryd.underlying4 _), (trodAll_cons_mk (Below.trod laidOut (by kernel_rfl) (of_decide_eq_true (by kernel_rfl)) h0 bel lt0) trodAll_mk0), rfl, bel.frame _, fun h => by cases h⟩
set_option maxRecDepth 100000 in
set_option maxHeartbeats 4000000 in
theorem jf : joinedFacts Tryd.prog 7 Tryd.f7 Rows.fnExactFormatBothSpec Rows.fnExactFormatBothRow = true := by
  unfold joinedFacts
  simp only [Bool.and_eq_true]
  repeat' apply And.intro
  all_goals first | (rw [io_enter]; done) | (rw [io_lifts]; as_aux_lemma => kernel_rfl) | (rw [io_make]; as_aux_lemma => kernel_rfl) | (as_aux_lemma => kernel_rfl)
theorem over : Rows.fnExactFormatBothRow.holds Tryd.pinned (OpenSpec.ofChange Rows.fnExactFormatBothSpec) :=
  OpenClaim.holds_of_wide 7 Tryd.f7 rfl rfl rfl rfl rfl rfl rfl ⟨rfl, rfl, rfl, rfl, rfl⟩ rfl rfl rfl rfl rfl (by kernel_rfl) Tryd.func7 jf
    (of_decide_eq_true (by kernel_rfl)) (by unfold Func.isWrapper; first | (rw [if_pos (by decide +kernel)]; kernel_rfl) | (rw [if_neg (by decide +kernel)]; exact ⟨rfl, rfl⟩))
    (fun os started H enc _ => lifted os started H enc)
theorem proved : Rows.FnExactFormatBothSaid := over
#print axioms proved
end Go.Proofs.YthldlaiplfennaaDoor.fnExactFormatBoth
namespace Go.Proofs.YthldlaiplfennaaDoor
open Go
/-- The tied card, for the claim. -/
theorem fnExactFormatBoth_holds : Rows.FnExactFormatBothCardSaid :=
  Claim7.holds_tied_plain_at .later [] [.data, .data, .data] true (true, "77294955a21f044b9dd2e2bb76b3d539649dfe2463284aa23202943cc7cac35a") false
    fnExactFormatBoth.proved (fun _ h => by cases h) (by kernel_rfl) (fun _ h => by cases h) fnExactFormatBoth_row_tie rfl ⟨rfl, rfl⟩ (by kernel_rfl) rfl
    (fun f fn hf hfn => by
      obtain rfl : f = 7 := Option.some.inj ((show Tryd.prog.funcNamed "loop.example/cellcollector/laws.FnExactFormatBoth" = some 7 by kernel_rfl).symm.trans hf) |>.symm
      obtain rfl : fn = Tryd.f7 := (Option.some.inj (Tryd.func7.symm.trans hfn)).symm
      exact ⟨by kernel_rfl, fun j t ht => by
        rw [Tryd.params7] at ht
        have hm : t ∈ [46] := by simpa using Array.mem_of_getElem? ht
        have hall : ([46].all fun u => !Tryd.prog.wantsStandIn u) = true := by kernel_rfl
        exact (show Tryd.prog.wantsStandIn t = false by simpa using List.all_eq_true.1 hall t hm)⟩)
    (by kernel_rfl)
#print axioms fnExactFormatBoth_holds
end Go.Proofs.YthldlaiplfennaaDoor
