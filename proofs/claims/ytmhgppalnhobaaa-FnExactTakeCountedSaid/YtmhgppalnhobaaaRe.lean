/- for every counted store and every number, the program's TakeCounted returns what the reference's returns.
Conditions: none. -/
import Derived.Test.YtmhgppalnhobaaaRows
import Derived.Test.YtmhgppalnhobaaaLd
import Derived.Test.YtmhgppalnhobaaaSv
import Derived.WalkKit
import Derived.ProofKit
import Derived.OpenShut
import Derived.ShutString
import Derived.ChangeOld
import Derived.Below
import Derived.SizedLaws
namespace Go.Proofs.Ytmhgppalnhobaaa.fnExactTakeCounted
open Go Go.ChangeShapes Go.WideShapes Go.ChangeAt Go.RowKit Go.Proofs Go.Proofs.Ytmhgppalnhobaaa.S
open Go.ChangeMaps (open_string shut_string)
set_option linter.all false
theorem own : ownKnob Try.prog.godebug = none := by kernel_rfl
theorem laidOut : laidOutB Try.prog = true := by kernel_rfl
set_option maxRecDepth 100000 in
theorem lifted (os : Os) (started : os.Started) (H : Type) (enc : TypeId × Value → H) :
    ReturnsInHanded {} Try.checked os 13 .any (Rows.fnExactTakeCountedSpec.pre6 enc Try.prog Try.f13 Rows.fnExactTakeCountedRow.domain false) (Rows.fnExactTakeCountedSpec.post enc Try.prog Try.f13 false true false false) := by
  refine returnsInHanded_of_change_sized (C := Try.checked) own started (by kernel_rfl) Try.func13
    (ChangeSpec.witness6 (enc := enc) (C := Try.checked) false ⟨#[], #[.agg #[.slice none 0 0, .slice none 0 0, .slice none 0 0, .slice none 0 0, .slice none 0 0], .int .i64 0], []⟩ 8 (by kernel_rfl) (by kernel_rfl) (by kernel_rfl) (by kernel_rfl)) ?_
  intro W base args ds gs before hval0 hW hcnd hsz0 _
  have hval : ∀ (j : Nat) t v, Try.f13.params[j]? = some t → args[j]? = some v → Value.okWide Try.prog W .any base t v := hval0
  have hW' := hW
  obtain ⟨p, q, hA0, hV, rfl, hfz, hnd⟩ := hW
  have hA : DataW.TrodAll enc Try.prog W 0 (fun _ => true) true Try.f13.params.toList args.toList ds p := hA0
  rw [Try.params13] at hA hval
  obtain ⟨v0, vs0, d0, ds0, p0, q0, hargs, rfl, rfl, h0, r0⟩ := trodAll_cons hA
  obtain ⟨v1, vs1, d1, ds1, p1, q1, rfl, rfl, rfl, h1, r1⟩ := trodAll_cons r0
  obtain ⟨rfl, rfl, rfl⟩ := trodAll_nil r1
  obtain rfl : args = #[v0, v1] := by cases args; simp_all
  obtain ⟨rfl, rfl⟩ := trodVars_none hV
  have lt0 : ∀ x ∈ p0, x.block < W.heap.size := by obtain ⟨m, hm⟩ := h0; exact DataW.trod_lt m _ _ _ hm
  obtain ⟨fuel0, hf0⟩ := id h0
  obtain ⟨arr0, rfl, hsz0⟩ := okWide_struct Try.underlying51 (hval 0 51 v0 rfl rfl)
  obtain ⟨c0, c1, c2, c3, c4, l0, l1, l2, l3, l4, hcs0, e0, e1, e2, e3, e4⟩ := rd_counted (e := 3) Try.underlying51 ⟨rfl, rfl, by kernel_rfl⟩ Try.underlying49 ⟨rfl, rfl, by kernel_rfl⟩ Try.underlying47 ⟨rfl, rfl, rfl, by kernel_rfl⟩ ⟨Try.underlying23, Try.underlying23, Try.underlying23⟩ ⟨by kernel_rfl, by kernel_rfl, by kernel_rfl⟩ ⟨Try.underlying23, by kernel_rfl⟩ ⟨Try.underlying23, by kernel_rfl⟩ Try.underlying3 (by kernel_rfl) hf0
  obtain rfl : arr0 = #[c0, c1, c2, c3, c4] := by
    have : arr0.toList = [c0, c1, c2, c3, c4] := hcs0
    exact Array.ext' this
  obtain ⟨n1, rfl, rfl, rfl, w1⟩ := open_int Try.underlying3 (hval 1 3 v1 rfl rfl) h1
  clear hA0 hval0 hsz0
  refine (Fn_law (lExactTakeCounted_c ⟨⟨⟨l0, l1, l2⟩, l3⟩, l4⟩ n1 ⟨⟨⟨e0.len, e1.len, e2.len⟩, e3.len⟩, e4.len⟩) ?_ (ν := fun k => match k with | 0 => locOf c0 | 1 => locOf c1 | 2 => locOf c2 | 3 => locOf c3 | 4 => locOf c4 | _ => none) ?_ ?_ ?_).mono ?_
  · intro k e he
    simp only [aget] at he
    split at he
    · cases he; rfl
    · split at he
      · cases he; rfl
      · split at he
        · cases he; rfl
        · split at he
          · cases he; rfl
          · split at he
            · cases he; rfl
            · cases he
  · intro k e he
    simp only [aget] at he
    split at he
    · rename_i q; subst q; cases he; exact e0.er rfl
    · split at he
      · rename_i q; subst q; cases he; exact e1.er rfl
      · split at he
        · rename_i q; subst q; cases he; exact e2.er rfl
        · split at he
          · rename_i q; subst q; cases he; exact e3.er rfl
          · split at he
            · rename_i q; subst q; cases he; exact e4.er rfl
            · cases he
  · intro k hk
    match k, hk with
    | 0, hk => cases hk
    | 1, hk => cases hk
    | 2, hk => cases hk
    | 3, hk => cases hk
    | 4, hk => cases hk
    | k + 5, _ => rfl
  · exact .cons ⟨_, rfl, .cons (e0.cr rfl) (.cons (e1.cr rfl) (.cons (e2.cr rfl) (.cons (e3.cr rfl) (.cons (e4.cr rfl) .nil))))⟩ (.cons rfl .nil)
  · rintro e W' ⟨rfl, bel⟩
    exact ⟨_, rfl, _, _, _, [], _, [], hW', trodAll_mk1 (shut_bool Try.underlying4 _), (trodAll_cons_mk (Below.trod laidOut (by kernel_rfl) (of_decide_eq_true (by kernel_rfl)) h0 bel lt0) (trodAll_cons_mk (shut_int Try.underlying3 w1) trodAll_mk0)), rfl, bel.frame _, fun h => by cases h⟩
theorem over : Rows.fnExactTakeCountedRow.holds Try.pinned (OpenSpec.ofChange Rows.fnExactTakeCountedSpec) :=
  OpenClaim.holds_of_wide 13 Try.f13 rfl rfl rfl rfl rfl rfl rfl ⟨rfl, rfl, rfl, rfl, rfl⟩ rfl rfl rfl rfl rfl (by kernel_rfl) Try.func13 (by kernel_rfl)
    (of_decide_eq_true (by kernel_rfl)) (by unfold Func.isWrapper; first | (rw [if_pos (by decide +kernel)]; kernel_rfl) | (rw [if_neg (by decide +kernel)]; exact ⟨rfl, rfl⟩))
    (fun os started H enc _ => lifted os started H enc)
theorem proved : Rows.FnExactTakeCountedSaid := over
#print axioms proved
end Go.Proofs.Ytmhgppalnhobaaa.fnExactTakeCounted
namespace Go.Proofs.Ytmhgppalnhobaaa
/-- The row, under a short name, for the claim. -/
theorem fnExactTakeCounted_holds : Rows.FnExactTakeCountedSaid := fnExactTakeCounted.proved
end Go.Proofs.Ytmhgppalnhobaaa
