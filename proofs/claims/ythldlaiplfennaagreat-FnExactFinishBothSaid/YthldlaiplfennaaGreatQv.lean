/- for every program, collector and store, finishing gives what the reference gives, and keeps its arguments: the law FnExactFinishBoth holds.
Conditions: none. -/
import Derived.Test.YthldlaiplfennaaGreatRows
import Derived.Test.YthldlaiplfennaaGreatKm
import Derived.Test.YthldlaiplfennaaGreatSv
import Derived.Test.YthldlaiplfennaaGreatSy
import Derived.Test.YthldlaiplfennaaGreatSx
import Derived.WalkKit
import Derived.ProofKit
import Derived.OpenShut
import Derived.ShutString
import Derived.ChangeOld
import Derived.Below
import Derived.SizedLaws
namespace Go.Proofs.YthldlaiplfennaaGreat.fnExactFinishBoth
open Go Go.ChangeShapes Go.WideShapes Go.ChangeAt Go.RowKit Go.Proofs Go.Proofs.YthldlaiplfennaaGreat.S
open Go.ChangeMaps (open_string shut_string)
set_option linter.all false
theorem VR_slB {w : World} {v : Value} {l : List Int} (h : RdI .u8 w v l) {ν : Nm} {n : Nat} (hn : ν n = locOf v) : VR ν (.sl n 0 (bysOf l).length) v := h.crB hn
theorem VR_slI {k : IntKind} {w : World} {v : Value} {l : List Int} (h : RdI k w v l) {ν : Nm} {n : Nat} (hn : ν n = locOf v) : VR ν (.sl n 0 l.length) v := h.cr hn
theorem VR_slO {w : World} {v : Value} {l : List (Int × Int × Int)} (h : RdO w v l) {ν : Nm} {n : Nat} (hn : ν n = locO v) : VR ν (.sl n 0 l.length) v := h.cr hn
theorem own : ownKnob Tryz.prog.godebug = none := by kernel_rfl
theorem laidOut : laidOutB Tryz.prog = true := by kernel_rfl
set_option maxRecDepth 100000 in
theorem lifted (os : Os) (started : os.Started) (H : Type) (enc : TypeId × Value → H) :
    ReturnsInHanded {} Tryz.checked os 3 .any (Rows.fnExactFinishBothSpec.pre6 enc Tryz.prog Tryz.f3 Rows.fnExactFinishBothRow.domain false) (Rows.fnExactFinishBothSpec.post enc Tryz.prog Tryz.f3 false true false false) := by
  refine returnsInHanded_of_change_sized (C := Tryz.checked) own started (by kernel_rfl) Tryz.func3
    (ChangeSpec.witness6 (enc := enc) (C := Tryz.checked) false ⟨#[], #[.agg #[.slice none 0 0, .slice none 0 0, .slice none 0 0, .slice none 0 0, .int .i64 0, .slice none 0 0, .int .i64 0, .slice none 0 0, .int .i64 0, .bool false], .bool false], []⟩ 8 (by kernel_rfl) (by kernel_rfl) (by kernel_rfl) (by kernel_rfl)) ?_
  intro W base args ds gs before hval0 hW hcnd hsz0 _
  have hval : ∀ (j : Nat) t v, Tryz.f3.params[j]? = some t → args[j]? = some v → Value.okWide Tryz.prog W .any base t v := hval0
  have hW' := hW
  obtain ⟨p, q, hA0, hV, rfl, hfz, hnd⟩ := hW
  have hA : DataW.TrodAll enc Tryz.prog W 0 (fun _ => true) true Tryz.f3.params.toList args.toList ds p := hA0
  rw [Tryz.params3] at hA hval
  obtain ⟨v0, vs0, d0, ds0, p0, q0, hargs, rfl, rfl, h0, r0⟩ := trodAll_cons hA
  obtain ⟨v1, vs1, d1, ds1, p1, q1, rfl, rfl, rfl, h1, r1⟩ := trodAll_cons r0
  obtain ⟨rfl, rfl, rfl⟩ := trodAll_nil r1
  obtain rfl : args = #[v0, v1] := by cases args; simp_all
  obtain ⟨rfl, rfl⟩ := trodVars_none hV
  have lt0 : ∀ x ∈ p0, x.block < W.heap.size := by obtain ⟨m, hm⟩ := h0; exact DataW.trod_lt m _ _ _ hm
  obtain ⟨fuel0, hf0⟩ := id h0
  obtain ⟨arr0, rfl, hsz0⟩ := okWide_struct Tryz.underlying31 (hval 0 31 v0 rfl rfl)
  obtain ⟨c0, c1, c2, c3, c4, c5, l0, l1, l2, l3, l4, l5, gp0, ga0, ba0, bl0, hcs0, e0, e1, e2, e3, e4, e5⟩ := rd_both (e := 3) (eo := 102) (u := 3) Tryz.underlying31 ⟨rfl, rfl, rfl, rfl, rfl, by kernel_rfl⟩ Tryz.underlying26 ⟨rfl, rfl, by kernel_rfl⟩ Tryz.underlying24 ⟨rfl, rfl, rfl, by kernel_rfl⟩ ⟨Tryz.underlying22, Tryz.underlying22, Tryz.underlying22⟩ ⟨by kernel_rfl, by kernel_rfl, by kernel_rfl⟩ ⟨Tryz.underlying22, by kernel_rfl⟩ Tryz.underlying3 (by kernel_rfl) Tryz.underlying28 ⟨rfl, rfl, rfl, by kernel_rfl⟩ ⟨Tryz.underlying3, by kernel_rfl⟩ ⟨Tryz.underlying22, by kernel_rfl⟩ ⟨Tryz.underlying3, by kernel_rfl⟩ ⟨Tryz.underlying29, by kernel_rfl⟩ Tryz.underlying102 ⟨rfl, rfl, rfl, rfl, rfl, rfl⟩ Tryz.underlying3 (by kernel_rfl) (by kernel_rfl) ⟨Tryz.underlying3, by kernel_rfl⟩ ⟨Tryz.underlying4, by kernel_rfl⟩ hf0
  obtain rfl : arr0 = #[c0, c1, c2, c3, .int .i64 gp0, c4, .int .i64 ga0, c5, .int .i64 ba0, .bool bl0] := by
    have : arr0.toList = [c0, c1, c2, c3, .int .i64 gp0, c4, .int .i64 ga0, c5, .int .i64 ba0, .bool bl0] := hcs0
    exact Array.ext' this
  obtain ⟨b1, rfl, rfl, rfl⟩ := open_bool Tryz.underlying4 (hval 1 4 v1 rfl rfl) h1
  clear hA0 hval0 hsz0
  refine (Fn_law (lExactFinishBoth_c ⟨⟨⟨l0, l1, l2⟩, l3⟩, ⟨gp0, l4, ga0⟩, l5, ba0, bl0⟩ b1 ⟨⟨⟨e0.len, e1.len, e2.len⟩, e3.len⟩, e4.len, e5.len⟩) ?_ (ν := fun k => match k with | 0 => locOf c0 | 1 => locOf c1 | 2 => locOf c2 | 3 => locOf c3 | 4 => locOf c4 | 5 => locO c5 | _ => none) ?_ ?_ ?_).mono ?_
  · intro k e he
    simp only [aget] at he
    split at he
    · cases he; rfl
    · split at he
      · cases he; rfl
      · split at he
        · cases he; rfl
        · split at he
          · cases he; rfl
          · split at he
            · cases he; rfl
            · split at he
              · cases he; rfl
              · cases he
  · intro k e he
    simp only [aget] at he
    split at he
    · rename_i q; subst q; cases he; exact e0.er rfl
    · split at he
      · rename_i q; subst q; cases he; exact e1.er rfl
      · split at he
        · rename_i q; subst q; cases he; exact e2.er rfl
        · split at he
          · rename_i q; subst q; cases he; exact e3.er rfl
          · split at he
            · rename_i q; subst q; cases he; exact e4.er rfl
            · split at he
              · rename_i q; subst q; cases he; exact e5.er rfl
              · cases he
  · intro k hk
    match k, hk with
    | 0, hk => cases hk
    | 1, hk => cases hk
    | 2, hk => cases hk
    | 3, hk => cases hk
    | 4, hk => cases hk
    | 5, hk => cases hk
    | k + 6, _ => rfl
  · exact .cons ⟨_, rfl, .cons (e0.cr rfl) (.cons (e1.cr rfl) (.cons (e2.cr rfl) (.cons (e3.cr rfl) (.cons rfl (.cons (e4.cr rfl) (.cons rfl (.cons (e5.cr rfl) (.cons rfl (.cons rfl .nil)))))))))⟩ (.cons rfl .nil)
  · rintro e W' ⟨rfl, bel⟩
    exact ⟨_, rfl, _, _, _, [], _, [], hW', trodAll_mk1 (shut_bool Tryz.underlying4 _), (trodAll_cons_mk (Below.trod laidOut (by kernel_rfl) (of_decide_eq_true (by kernel_rfl)) h0 bel lt0) (trodAll_cons_mk (shut_bool Tryz.underlying4 _) trodAll_mk0)), rfl, bel.frame _, fun h => by cases h⟩
set_option maxRecDepth 100000 in
set_option maxHeartbeats 4000000 in
theorem jf : joinedFacts Tryz.prog 3 Tryz.f3 Rows.fnExactFinishBothSpec Rows.fnExactFinishBothRow = true := by
  unfold joinedFacts
  simp only [Bool.and_eq_true]
  repeat' apply And.intro
  all_goals first | (rw [io_enter]; done) | (rw [io_lifts]; as_aux_lemma => kernel_rfl) | (rw [io_make]; as_aux_lemma => kernel_rfl) | (as_aux_lemma => kernel_rfl)
theorem over : Rows.fnExactFinishBothRow.holds Tryz.pinned (OpenSpec.ofChange Rows.fnExactFinishBothSpec) :=
  OpenClaim.holds_of_wide 3 Tryz.f3 rfl rfl rfl rfl rfl rfl rfl ⟨rfl, rfl, rfl, rfl, rfl⟩ rfl rfl rfl rfl rfl (by kernel_rfl) Tryz.func3 jf
    (of_decide_eq_true (by kernel_rfl)) (by unfold Func.isWrapper; first | (rw [if_pos (by decide +kernel)]; kernel_rfl) | (rw [if_neg (by decide +kernel)]; exact ⟨rfl, rfl⟩))
    (fun os started H enc _ => lifted os started H enc)
theorem proved : Rows.FnExactFinishBothSaid := over
#print axioms proved
end Go.Proofs.YthldlaiplfennaaGreat.fnExactFinishBoth
namespace Go.Proofs.YthldlaiplfennaaGreat
/-- The row, under a short name, for the claim. -/
theorem fnExactFinishBoth_holds : Rows.FnExactFinishBothSaid := fnExactFinishBoth.proved
end Go.Proofs.YthldlaiplfennaaGreat
