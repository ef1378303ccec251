/- for every store and list of operations, NewBoth gives what the reference gives and keeps its arguments: the law FnExactNewBoth holds.
Conditions: none. -/
import Derived.Test.YtdkdepfgilbkeaaRows
import Derived.Test.YtdkdepfgilbkeaaLz
import Derived.Test.YtdkdepfgilbkeaaSv
import Derived.Test.YtdkdepfgilbkeaaSy
import Derived.Test.YtdkdepfgilbkeaaSx
import Derived.WalkKit
import Derived.ProofKit
import Derived.OpenShut
import Derived.ShutString
import Derived.ChangeOld
import Derived.Below
import Derived.SizedLaws
namespace Go.Proofs.Ytdkdepfgilbkeaa.fnExactNewBoth
open Go Go.ChangeShapes Go.WideShapes Go.ChangeAt Go.RowKit Go.Proofs Go.Proofs.Ytdkdepfgilbkeaa.S
open Go.ChangeMaps (open_string shut_string)
set_option linter.all false
theorem VR_slB {w : World} {v : Value} {l : List Int} (h : RdI .u8 w v l) {ν : Nm} {n : Nat} (hn : ν n = locOf v) : VR ν (.sl n 0 (bysOf l).length) v := h.crB hn
theorem VR_slI {k : IntKind} {w : World} {v : Value} {l : List Int} (h : RdI k w v l) {ν : Nm} {n : Nat} (hn : ν n = locOf v) : VR ν (.sl n 0 l.length) v := h.cr hn
theorem VR_slO {w : World} {v : Value} {l : List (Int × Int × Int)} (h : RdO w v l) {ν : Nm} {n : Nat} (hn : ν n = locO v) : VR ν (.sl n 0 l.length) v := h.cr hn
theorem own : ownKnob Try.prog.godebug = none := by kernel_rfl
theorem laidOut : laidOutB Try.prog = true := by kernel_rfl
set_option maxRecDepth 100000 in
theorem lifted (os : Os) (started : os.Started) (H : Type) (enc : TypeId × Value → H) :
    ReturnsInHanded {} Try.checked os 5 .any (Rows.fnExactNewBothSpec.pre6 enc Try.prog Try.f5 Rows.fnExactNewBothRow.domain false) (Rows.fnExactNewBothSpec.post enc Try.prog Try.f5 false true false false) := by
  refine returnsInHanded_of_change_sized (C := Try.checked) own started (by kernel_rfl) Try.func5
    (ChangeSpec.witness6 (enc := enc) (C := Try.checked) false ⟨#[], #[.agg #[.slice none 0 0, .slice none 0 0, .slice none 0 0, .slice none 0 0], .slice none 0 0], []⟩ 8 (by kernel_rfl) (by kernel_rfl) (by kernel_rfl) (by kernel_rfl)) ?_
  intro W base args ds gs before hval0 hW hcnd hsz0 _
  have hval : ∀ (j : Nat) t v, Try.f5.params[j]? = some t → args[j]? = some v → Value.okWide Try.prog W .any base t v := hval0
  have hW' := hW
  obtain ⟨p, q, hA0, hV, rfl, hfz, hnd⟩ := hW
  have hA : DataW.TrodAll enc Try.prog W 0 (fun _ => true) true Try.f5.params.toList args.toList ds p := hA0
  rw [Try.params5] at hA hval
  obtain ⟨v0, vs0, d0, ds0, p0, q0, hargs, rfl, rfl, h0, r0⟩ := trodAll_cons hA
  obtain ⟨v1, vs1, d1, ds1, p1, q1, rfl, rfl, rfl, h1, r1⟩ := trodAll_cons r0
  obtain ⟨rfl, rfl, rfl⟩ := trodAll_nil r1
  obtain rfl : args = #[v0, v1] := by cases args; simp_all
  obtain ⟨rfl, rfl⟩ := trodVars_none hV
  have lt0 : ∀ x ∈ p0, x.block < W.heap.size := by obtain ⟨m, hm⟩ := h0; exact DataW.trod_lt m _ _ _ hm
  obtain ⟨fuel0, hf0⟩ := id h0
  obtain ⟨arr0, rfl, hsz0⟩ := okWide_struct Try.underlying46 (hval 0 46 v0 rfl rfl)
  obtain ⟨c0, c1, c2, c3, l0, l1, l2, l3, hcs0, e0, e1, e2, e3⟩ := rd_store (e := 3) Try.underlying46 ⟨rfl, rfl, by kernel_rfl⟩ Try.underlying44 ⟨rfl, rfl, rfl, by kernel_rfl⟩ ⟨Try.underlying23, Try.underlying23, Try.underlying23⟩ ⟨by kernel_rfl, by kernel_rfl, by kernel_rfl⟩ ⟨Try.underlying23, by kernel_rfl⟩ Try.underlying3 (by kernel_rfl) hf0
  obtain rfl : arr0 = #[c0, c1, c2, c3] := by
    have : arr0.toList = [c0, c1, c2, c3] := hcs0
    exact Array.ext' this
  have lt1 : ∀ x ∈ p1, x.block < W.heap.size := by obtain ⟨m, hm⟩ := h1; exact DataW.trod_lt m _ _ _ hm
  obtain ⟨fuel1, hf1⟩ := id h1
  obtain ⟨a1, len1, cap1, rfl⟩ := okWide_slice Try.underlying47 (hval 1 47 v1 rfl rfl)
  obtain ⟨c4, l4, hcs1, e4⟩ := rd_ops (u := 3) Try.underlying47 Try.underlying107 ⟨rfl, rfl, rfl, rfl, rfl, rfl⟩ Try.underlying3 (by kernel_rfl) (by kernel_rfl) hf1
  obtain rfl : c4 = .slice a1 len1 cap1 := by have := hcs1; simp [Value.cells] at this; exact this.symm
  clear hA0 hval0 hsz0
  refine (Fn_law (lExactNewBoth_c ⟨⟨l0, l1, l2⟩, l3⟩ l4 ⟨⟨e0.len, e1.len, e2.len⟩, e3.len⟩ e4.len) ?_ (ν := fun k => match k with | 0 => locOf c0 | 1 => locOf c1 | 2 => locOf c2 | 3 => locOf c3 | 4 => locO (.slice a1 len1 cap1) | _ => none) ?_ ?_ ?_).mono ?_
  · intro k e he
    simp only [aget] at he
    split at he
    · cases he; rfl
    · split at he
      · cases he; rfl
      · split at he
        · cases he; rfl
        · split at he
          · cases he; rfl
          · split at he
            · cases he; rfl
            · cases he
  · intro k e he
    simp only [aget] at he
    split at he
    · rename_i q; subst q; cases he; exact e0.er rfl
    · split at he
      · rename_i q; subst q; cases he; exact e1.er rfl
      · split at he
        · rename_i q; subst q; cases he; exact e2.er rfl
        · split at he
          · rename_i q; subst q; cases he; exact e3.er rfl
          · split at he
            · rename_i q; subst q; cases he; exact e4.er rfl
            · cases he
  · intro k hk
    match k, hk with
    | 0, hk => cases hk
    | 1, hk => cases hk
    | 2, hk => cases hk
    | 3, hk => cases hk
    | 4, hk => cases hk
    | k + 5, _ => rfl
  · exact .cons ⟨_, rfl, .cons (e0.cr rfl) (.cons (e1.cr rfl) (.cons (e2.cr rfl) (.cons (e3.cr rfl) .nil)))⟩ (.cons (VR_slO e4 rfl) .nil)
  · rintro e W' ⟨rfl, bel⟩
    exact ⟨_, rfl, _, _, _, [], _, [], hW', trodAll_mk1 (shut_bool Try.underlying4 _), (trodAll_cons_mk (Below.trod laidOut (by kernel_rfl) (of_decide_eq_true (by kernel_rfl)) h0 bel lt0) (trodAll_cons_mk (Below.trod laidOut (by kernel_rfl) (of_decide_eq_true (by kernel_rfl)) h1 bel lt1) trodAll_mk0)), rfl, bel.frame _, fun h => by cases h⟩
set_option maxRecDepth 100000 in
set_option maxHeartbeats 4000000 in
theorem jf : joinedFacts Try.prog 5 Try.f5 Rows.fnExactNewBothSpec Rows.fnExactNewBothRow = true := by
  unfold joinedFacts
  simp only [Bool.and_eq_true]
  repeat' apply And.intro
  all_goals first | (rw [io_enter]; done) | (rw [io_lifts]; as_aux_lemma => kernel_rfl) | (rw [io_make]; as_aux_lemma => kernel_rfl) | (as_aux_lemma => kernel_rfl)
theorem over : Rows.fnExactNewBothRow.holds Try.pinned (OpenSpec.ofChange Rows.fnExactNewBothSpec) :=
  OpenClaim.holds_of_wide 5 Try.f5 rfl rfl rfl rfl rfl rfl rfl ⟨rfl, rfl, rfl, rfl, rfl⟩ rfl rfl rfl rfl rfl (by kernel_rfl) Try.func5 jf
    (of_decide_eq_true (by kernel_rfl)) (by unfold Func.isWrapper; first | (rw [if_pos (by decide +kernel)]; kernel_rfl) | (rw [if_neg (by decide +kernel)]; exact ⟨rfl, rfl⟩))
    (fun os started H enc _ => lifted os started H enc)
theorem proved : Rows.FnExactNewBothSaid := over
#print axioms proved
end Go.Proofs.Ytdkdepfgilbkeaa.fnExactNewBoth
namespace Go.Proofs.Ytdkdepfgilbkeaa
/-- The row, under a short name, for the claim. -/
theorem fnExactNewBoth_holds : Rows.FnExactNewBothSaid := fnExactNewBoth.proved
end Go.Proofs.Ytdkdepfgilbkeaa
