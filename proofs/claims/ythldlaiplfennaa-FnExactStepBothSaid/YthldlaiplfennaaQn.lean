/- for every program, collector and store, one step of the collector gives what the reference gives, and keeps its arguments: the law FnExactStepBoth holds.
Conditions: none. -/
import Derived.Test.YthldlaiplfennaaRows
import Derived.Test.YthldlaiplfennaaKl
import Derived.Test.YthldlaiplfennaaSv
import Derived.Test.YthldlaiplfennaaSy
import Derived.Test.YthldlaiplfennaaSx
import Derived.WalkKit
import Derived.ProofKit
import Derived.OpenShut
import Derived.ShutString
import Derived.ChangeOld
import Derived.Below
import Derived.SizedLaws
namespace Go.Proofs.Ythldlaiplfennaa.fnExactStepBoth
open Go Go.ChangeShapes Go.WideShapes Go.ChangeAt Go.RowKit Go.Proofs Go.Proofs.Ythldlaiplfennaa.S
open Go.ChangeMaps (open_string shut_string)
set_option linter.all false
theorem VR_slB {w : World} {v : Value} {l : List Int} (h : RdI .u8 w v l) {ν : Nm} {n : Nat} (hn : ν n = locOf v) : VR ν (.sl n 0 (bysOf l).length) v := h.crB hn
theorem VR_slI {k : IntKind} {w : World} {v : Value} {l : List Int} (h : RdI k w v l) {ν : Nm} {n : Nat} (hn : ν n = locOf v) : VR ν (.sl n 0 l.length) v := h.cr hn
theorem VR_slO {w : World} {v : Value} {l : List (Int × Int × Int)} (h : RdO w v l) {ν : Nm} {n : Nat} (hn : ν n = locO v) : VR ν (.sl n 0 l.length) v := h.cr hn
theorem own : ownKnob Try.prog.godebug = none := by kernel_rfl
theorem laidOut : laidOutB Try.prog = true := by kernel_rfl
set_option maxRecDepth 100000 in
theorem lifted (os : Os) (started : os.Started) (H : Type) (enc : TypeId × Value → H) :
    ReturnsInHanded {} Try.checked os 4 .any (Rows.fnExactStepBothSpec.pre6 enc Try.prog Try.f4 Rows.fnExactStepBothRow.domain false) (Rows.fnExactStepBothSpec.post enc Try.prog Try.f4 false true false false) := by
  refine returnsInHanded_of_change_sized (C := Try.checked) own started (by kernel_rfl) Try.func4
    (ChangeSpec.witness6 (enc := enc) (C := Try.checked) false ⟨#[], #[.agg #[.slice none 0 0, .slice none 0 0, .slice none 0 0, .slice none 0 0, .int .i64 0, .slice none 0 0, .int .i64 0, .slice none 0 0, .int .i64 0, .bool false]], []⟩ 8 (by kernel_rfl) (by kernel_rfl) (by kernel_rfl) (by kernel_rfl)) ?_
  intro W base args ds gs before hval0 hW hcnd hsz0 _
  have hval : ∀ (j : Nat) t v, Try.f4.params[j]? = some t → args[j]? = some v → Value.okWide Try.prog W .any base t v := hval0
  have hW' := hW
  obtain ⟨p, q, hA0, hV, rfl, hfz, hnd⟩ := hW
  have hA : DataW.TrodAll enc Try.prog W 0 (fun _ => true) true Try.f4.params.toList args.toList ds p := hA0
  rw [Try.params4] at hA hval
  obtain ⟨v0, vs0, d0, ds0, p0, q0, hargs, rfl, rfl, h0, r0⟩ := trodAll_cons hA
  obtain ⟨rfl, rfl, rfl⟩ := trodAll_nil r0
  obtain rfl : args = #[v0] := by cases args; simp_all
  obtain ⟨rfl, rfl⟩ := trodVars_none hV
  have lt0 : ∀ x ∈ p0, x.block < W.heap.size := by obtain ⟨m, hm⟩ := h0; exact DataW.trod_lt m _ _ _ hm
  obtain ⟨fuel0, hf0⟩ := id h0
  obtain ⟨arr0, rfl, hsz0⟩ := okWide_struct Try.underlying31 (hval 0 31 v0 rfl rfl)
  obtain ⟨c0, c1, c2, c3, c4, c5, l0, l1, l2, l3, l4, l5, gp0, ga0, ba0, bl0, hcs0, e0, e1, e2, e3, e4, e5⟩ := rd_both (e := 3) (eo := 99) (u := 3) Try.underlying31 ⟨rfl, rfl, rfl, rfl, rfl, by kernel_rfl⟩ Try.underlying26 ⟨rfl, rfl, by kernel_rfl⟩ Try.underlying24 ⟨rfl, rfl, rfl, by kernel_rfl⟩ ⟨Try.underlying22, Try.underlying22, Try.underlying22⟩ ⟨by kernel_rfl, by kernel_rfl, by kernel_rfl⟩ ⟨Try.underlying22, by kernel_rfl⟩ Try.underlying3 (by kernel_rfl) Try.underlying28 ⟨rfl, rfl, rfl, by kernel_rfl⟩ ⟨Try.underlying3, by kernel_rfl⟩ ⟨Try.underlying22, by kernel_rfl⟩ ⟨Try.underlying3, by kernel_rfl⟩ ⟨Try.underlying29, by kernel_rfl⟩ Try.underlying99 ⟨rfl, rfl, rfl, rfl, rfl, rfl⟩ Try.underlying3 (by kernel_rfl) (by kernel_rfl) ⟨Try.underlying3, by kernel_rfl⟩ ⟨Try.underlying4, by kernel_rfl⟩ hf0
  obtain rfl : arr0 = #[c0, c1, c2, c3, .int .i64 gp0, c4, .int .i64 ga0, c5, .int .i64 ba0, .bool bl0] := by
    have : arr0.toList = [c0, c1, c2, c3, .int .i64 gp0, c4, .int .i64 ga0, c5, .int .i64 ba0, .bool bl0] := hcs0
    exact Array.ext' this
  clear hA0 hval0 hsz0
  refine (Fn_law (lExactStepBoth_c ⟨⟨⟨l0, l1, l2⟩, l3⟩, ⟨gp0, l4, ga0⟩, l5, ba0, bl0⟩ ⟨⟨⟨e0.len, e1.len, e2.len⟩, e3.len⟩, e4.len, e5.len⟩) ?_ (ν := fun k => match k with | 0 => locOf c0 | 1 => locOf c1 | 2 => locOf c2 | 3 => locOf c3 | 4 => locOf c4 | 5 => locO c5 | _ => none) ?_ ?_ ?_).mono ?_
  · intro k e he
    simp only [aget] at he
    split at he
    · cases he; rfl
    · split at he
      · cases he; rfl
      · split at he
        · cases he; rfl
        · split at he
          · cases he; rfl
          · split at he
            · cases he; rfl
            · split at he
              · cases he; rfl
              · cases he
  · intro k e he
    simp only [aget] at he
    split at he
    · rename_i q; subst q; cases he; exact e0.er rfl
    · split at he
      · rename_i q; subst q; cases he; exact e1.er rfl
      · split at he
        · rename_i q; subst q; cases he; exact e2.er rfl
        · split at he
          · rename_i q; subst q; cases he; exact e3.er rfl
          · split at he
            · rename_i q; subst q; cases he; exact e4.er rfl
            · split at he
              · rename_i q; subst q; cases he; exact e5.er rfl
              · cases he
  · intro k hk
    match k, hk with
    | 0, hk => cases hk
    | 1, hk => cases hk
    | 2, hk => cases hk
    | 3, hk => cases hk
    | 4, hk => cases hk
    | 5, hk => cases hk
    | k + 6, _ => rfl
  · exact .cons ⟨_, rfl, .cons (e0.cr rfl) (.cons (e1.cr rfl) (.cons (e2.cr rfl) (.cons (e3.cr rfl) (.cons rfl (.cons (e4.cr rfl) (.cons rfl (.cons (e5.cr rfl) (.cons rfl (.cons rfl .nil)))))))))⟩ .nil
  · rintro e W' ⟨rfl, bel⟩
    exact ⟨_, rfl, _, _, _, [], _, [], hW', trodAll_mk1 (shut_bool Try.underlying4 _), (trodAll_cons_mk (Below.trod laidOut (by kernel_rfl) (of_decide_eq_true (by kernel_rfl)) h0 bel lt0) trodAll_mk0), rfl, bel.frame _, fun h => by cases h⟩
set_option maxRecDepth 100000 in
set_option maxHeartbeats 4000000 in
theorem jf : joinedFacts Try.prog 4 Try.f4 Rows.fnExactStepBothSpec Rows.fnExactStepBothRow = true := by
  unfold joinedFacts
  simp only [Bool.and_eq_true]
  repeat' apply And.intro
  all_goals first | (rw [io_enter]; done) | (rw [io_lifts]; as_aux_lemma => kernel_rfl) | (rw [io_make]; as_aux_lemma => kernel_rfl) | (as_aux_lemma => kernel_rfl)
theorem over : Rows.fnExactStepBothRow.holds Try.pinned (OpenSpec.ofChange Rows.fnExactStepBothSpec) :=
  OpenClaim.holds_of_wide 4 Try.f4 rfl rfl rfl rfl rfl rfl rfl ⟨rfl, rfl, rfl, rfl, rfl⟩ rfl rfl rfl rfl rfl (by kernel_rfl) Try.func4 jf
    (of_decide_eq_true (by kernel_rfl)) (by unfold Func.isWrapper; first | (rw [if_pos (by decide +kernel)]; kernel_rfl) | (rw [if_neg (by decide +kernel)]; exact ⟨rfl, rfl⟩))
    (fun os started H enc _ => lifted os started H enc)
theorem proved : Rows.FnExactStepBothSaid := over
#print axioms proved
end Go.Proofs.Ythldlaiplfennaa.fnExactStepBoth
namespace Go.Proofs.Ythldlaiplfennaa
/-- The row, under a short name, for the claim. -/
theorem fnExactStepBoth_holds : Rows.FnExactStepBothSaid := fnExactStepBoth.proved
end Go.Proofs.Ythldlaiplfennaa
