/- for every counted store and any two numbers, the program's LinkCounted returns what the reference's returns.
Conditions: none. -/
import Derived.Test.YtbcnkfkmonpdeaaRows
import Derived.Test.YtbcnkfkmonpdeaaLe
import Derived.Test.YtbcnkfkmonpdeaaSv
import Derived.Test.YtbcnkfkmonpdeaaSx
import Derived.WalkKit
import Derived.ProofKit
import Derived.OpenShut
import Derived.ShutString
import Derived.ChangeOld
import Derived.Below
import Derived.SizedLaws
namespace Go.Proofs.Ytbcnkfkmonpdeaa.fnExactLinkCounted
open Go Go.ChangeShapes Go.WideShapes Go.ChangeAt Go.RowKit Go.Proofs Go.Proofs.Ytbcnkfkmonpdeaa.S
open Go.ChangeMaps (open_string shut_string)
set_option linter.all false
theorem own : ownKnob Try.prog.godebug = none := by kernel_rfl
theorem laidOut : laidOutB Try.prog = true := by kernel_rfl
set_option maxRecDepth 100000 in
theorem lifted (os : Os) (started : os.Started) (H : Type) (enc : TypeId × Value → H) :
    ReturnsInHanded {} Try.checked os 11 .any (Rows.fnExactLinkCountedSpec.pre6 enc Try.prog Try.f11 Rows.fnExactLinkCountedRow.domain false) (Rows.fnExactLinkCountedSpec.post enc Try.prog Try.f11 false true false false) := by
  refine returnsInHanded_of_change_sized (C := Try.checked) own started (by kernel_rfl) Try.func11
    (ChangeSpec.witness6 (enc := enc) (C := Try.checked) false ⟨#[], #[.agg #[.slice none 0 0, .slice none 0 0, .slice none 0 0, .slice none 0 0, .slice none 0 0], .int .i64 0, .int .i64 0], []⟩ 8 (by kernel_rfl) (by kernel_rfl) (by kernel_rfl) (by kernel_rfl)) ?_
  intro W base args ds gs before hval0 hW hcnd hsz0 _
  have hval : ∀ (j : Nat) t v, Try.f11.params[j]? = some t → args[j]? = some v → Value.okWide Try.prog W .any base t v := hval0
  have hW' := hW
  obtain ⟨p, q, hA0, hV, rfl, hfz, hnd⟩ := hW
  have hA : DataW.TrodAll enc Try.prog W 0 (fun _ => true) true Try.f11.params.toList args.toList ds p := hA0
  rw [Try.params11] at hA hval
  obtain ⟨v0, vs0, d0, ds0, p0, q0, hargs, rfl, rfl, h0, r0⟩ := trodAll_cons hA
  obtain ⟨v1, vs1, d1, ds1, p1, q1, rfl, rfl, rfl, h1, r1⟩ := trodAll_cons r0
  obtain ⟨v2, vs2, d2, ds2, p2, q2, rfl, rfl, rfl, h2, r2⟩ := trodAll_cons r1
  obtain ⟨rfl, rfl, rfl⟩ := trodAll_nil r2
  obtain rfl : args = #[v0, v1, v2] := by cases args; simp_all
  obtain ⟨rfl, rfl⟩ := trodVars_none hV
  have lt0 : ∀ x ∈ p0, x.block < W.heap.size := by obtain ⟨m, hm⟩ := h0; exact DataW.trod_lt m _ _ _ hm
  obtain ⟨fuel0, hf0⟩ := id h0
  obtain ⟨arr0, rfl, hsz0⟩ := okWide_struct Try.underlying63 (hval 0 63 v0 rfl rfl)
  obtain ⟨c0, c1, c2, c3, c4, l0, l1, l2, l3, l4, hcs0, e0, e1, e2, e3, e4⟩ := rd_counted (e := 3) Try.underlying63 ⟨rfl, rfl, by kernel_rfl⟩ Try.underlying61 ⟨rfl, rfl, by kernel_rfl⟩ Try.underlying59 ⟨rfl, rfl, rfl, by kernel_rfl⟩ ⟨Try.underlying23, Try.underlying23, Try.underlying23⟩ ⟨by kernel_rfl, by kernel_rfl, by kernel_rfl⟩ ⟨Try.underlying23, by kernel_rfl⟩ ⟨Try.underlying23, by kernel_rfl⟩ Try.underlying3 (by kernel_rfl) hf0
  obtain rfl : arr0 = #[c0, c1, c2, c3, c4] := by
    have : arr0.toList = [c0, c1, c2, c3, c4] := hcs0
    exact Array.ext' this
  obtain ⟨n1, rfl, rfl, rfl, w1⟩ := open_int Try.underlying3 (hval 1 3 v1 rfl rfl) h1
  obtain ⟨n2, rfl, rfl, rfl, w2⟩ := open_int Try.underlying3 (hval 2 3 v2 rfl rfl) h2
  clear hA0 hval0 hsz0
  refine (Fn_law (lExactLinkCounted_c ⟨⟨⟨l0, l1, l2⟩, l3⟩, l4⟩ n1 n2 ⟨⟨⟨e0.len, e1.len, e2.len⟩, e3.len⟩, e4.len⟩) ?_ (ν := fun k => match k with | 0 => locOf c0 | 1 => locOf c1 | 2 => locOf c2 | 3 => locOf c3 | 4 => locOf c4 | _ => none) ?_ ?_ ?_).mono ?_
  · intro k e he
    simp only [aget] at he
    split at he
    · cases he; rfl
    · split at he
      · cases he; rfl
      · split at he
        · cases he; rfl
        · split at he
          · cases he; rfl
          · split at he
            · cases he; rfl
            · cases he
  · intro k e he
    simp only [aget] at he
    split at he
    · rename_i q; subst q; cases he; exact e0.er rfl
    · split at he
      · rename_i q; subst q; cases he; exact e1.er rfl
      · split at he
        · rename_i q; subst q; cases he; exact e2.er rfl
        · split at he
          · rename_i q; subst q; cases he; exact e3.er rfl
          · split at he
            · rename_i q; subst q; cases he; exact e4.er rfl
            · cases he
  · intro k hk
    match k, hk with
    | 0, hk => cases hk
    | 1, hk => cases hk
    | 2, hk => cases hk
    | 3, hk => cases hk
    | 4, hk => cases hk
    | k + 5, _ => rfl
  · exact .cons ⟨_, rfl, .cons (e0.cr rfl) (.cons (e1.cr rfl) (.cons (e2.cr rfl) (.cons (e3.cr rfl) (.cons (e4.cr rfl) .nil))))⟩ (.cons rfl (.cons rfl .nil))
  · rintro e W' ⟨rfl, bel⟩
    exact ⟨_, rfl, _, _, _, [], _, [], hW', trodAll_mk1 (shut_bool Try.underlying4 _), (trodAll_cons_mk (Below.trod laidOut (by kernel_rfl) (of_decide_eq_true (by kernel_rfl)) h0 bel lt0) (trodAll_cons_mk (shut_int Try.underlying3 w1) (trodAll_cons_mk (shut_int Try.underlying3 w2) trodAll_mk0))), rfl, bel.frame _, fun h => by cases h⟩
set_option maxRecDepth 100000 in
set_option maxHeartbeats 4000000 in
theorem jf : joinedFacts Try.prog 11 Try.f11 Rows.fnExactLinkCountedSpec Rows.fnExactLinkCountedRow = true := by
  unfold joinedFacts
  simp only [Bool.and_eq_true]
  repeat' apply And.intro
  all_goals first | (rw [io_enter]; done) | (rw [io_lifts]; as_aux_lemma => kernel_rfl) | (rw [io_make]; as_aux_lemma => kernel_rfl) | (as_aux_lemma => kernel_rfl)
theorem over : Rows.fnExactLinkCountedRow.holds Try.pinned (OpenSpec.ofChange Rows.fnExactLinkCountedSpec) :=
  OpenClaim.holds_of_wide 11 Try.f11 rfl rfl rfl rfl rfl rfl rfl ⟨rfl, rfl, rfl, rfl, rfl⟩ rfl rfl rfl rfl rfl (by kernel_rfl) Try.func11 jf
    (of_decide_eq_true (by kernel_rfl)) (by unfold Func.isWrapper; first | (rw [if_pos (by decide +kernel)]; kernel_rfl) | (rw [if_neg (by decide +kernel)]; exact ⟨rfl, rfl⟩))
    (fun os started H enc _ => lifted os started H enc)
theorem proved : Rows.FnExactLinkCountedSaid := over
#print axioms proved
end Go.Proofs.Ytbcnkfkmonpdeaa.fnExactLinkCounted
namespace Go.Proofs.Ytbcnkfkmonpdeaa
/-- The row, under a short name, for the claim. -/
theorem fnExactLinkCounted_holds : Rows.FnExactLinkCountedSaid := fnExactLinkCounted.proved
end Go.Proofs.Ytbcnkfkmonpdeaa
