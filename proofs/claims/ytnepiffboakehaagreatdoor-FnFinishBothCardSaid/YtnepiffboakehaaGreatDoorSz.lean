/- The symbolic heap: a loop whose first round begins otherwise than the others. Own work of this claim. -/
import Derived.Test.YtnepiffboakehaaGreatDoorSw
namespace Go.Proofs.YtnepiffboakehaaGreatDoor.S
set_option linter.all false
open Go Go.Proofs
section
variable {nt : Nat} {ks : List It} {env env' : Env} {H H' : Heap} {R : Env → Heap → Prop} {id : Nat} {ops : Array Oper}
theorem W_bmono {P : Program} {J J' : Env → Heap → Prop} {c : Code} (hJ : ∀ e h, J e h → J' e h) (h : W P nt (.code c :: .back J :: ks) env H R) : W P nt (.code c :: .back J' :: ks) env H R := by
  intro hk G hp hB ν a w st
  refine wp_mono (h ?_ G hp hB ν a w st) ?_
  · intro k hk'
    simp only [List.mem_cons] at hk'
    rcases hk' with rfl | rfl | hk'
    · exact hk _ (by simp)
    · trivial
    · exact hk k (by simp [hk'])
  · intro e a w he
    cases e <;> first | exact he | skip
    obtain ⟨ν', env', H', hj, st'⟩ := he
    exact ⟨ν', env', H', hJ _ _ hj, st'⟩
/-- A loop whose first round is walked apart. -/
theorem W_lpu {σ : Type} {E : σ → Env} {Hs : σ → Heap} {c : Code} {env1 : Env} (T : Nat) (me : σ → List (Nat × AV)) (mh : σ → List (Nat × Ent)) (inv : σ → Prop) (m : σ → Nat) (M : Nat) (hM : ∀ s, inv s → m s < M)
    (h1 : Wp nt (.code c :: .back (Join inv E Hs) :: ks) env1 H R)
    (h : ∀ s, inv s → Wp nt (.code c :: .back (Back inv m E Hs s) :: ks) (E s) (Hs s) R)
    (he : env1 = ltE T env := by
      simp (maxSteps := 1000000) only [setsE, aset, ltE, cns_t, cns_f, Nat.reduceEqDiff, Nat.reduceLT, ↓reduceIte, decide_true, decide_false, Bool.false_eq_true]
      rfl)
    (hE : ∀ s, E s = setsE (ltE T env) (me s) := by
      intro s
      simp (maxSteps := 1000000) only [setsE, aset, ltE, cns_t, cns_f, Nat.reduceEqDiff, Nat.reduceLT, ↓reduceIte, decide_true, decide_false, Bool.false_eq_true]
      rfl)
    (hH : ∀ s, Hs s = setsH H (mh s) := by
      intro s
      simp only [setsH, aset, Nat.reduceEqDiff, ↓reduceIte]
      rfl)
    (hl : EnvLe env1 env := by
      simp (maxSteps := 1000000) (disch := omega) only [EnvLe, IntWalk.i64_in, nat0, natS, Int.add_zero, AV.int.injEq, AV.sl.injEq, Env.get, aget, Nat.reduceEqDiff, ↓reduceIte, Option.getD_some, Option.getD_none, true_and, and_true, and_self, List.length_nil, List.length_cons, List.length_append, List.length_set, List.length_take, List.length_drop]
      try first | done | rfl | omega) : Wp nt (.code (.loop c) :: ks) env H R := by
  refine W_lp0 (σ := Option σ) (E := fun o => o.elim env1 E) (Hs := fun o => o.elim H Hs) (fun o => o.elim True inv) (fun o => o.elim M m) none trivial ?_ hl rfl
  intro o ho
  cases o with
  | none =>
    refine W_bmono ?_ h1
    rintro e h ⟨s', i, l, rfl⟩
    exact ⟨some s', i, hM s' i, l, rfl⟩
  | some s =>
    refine W_bmono ?_ (h s ho)
    rintro e h ⟨s', i, l1, l, rfl⟩
    exact ⟨some s', i, l1, l, rfl⟩
end
end Go.Proofs.YtnepiffboakehaaGreatDoor.S
