/- The symbolic heap: a function's contract out of its code. Own work of this claim. -/
import Derived.Test.YtbcnkfkmonpdeaaSn
namespace Go.Proofs.Ytbcnkfkmonpdeaa.S
set_option linter.all false
open Go

def envOf (args : List AV) : Env := args.zipIdx.map fun p => (p.2, p.1)
theorem envOf_get : ∀ (args : List AV) (k t : Nat), aget (args.zipIdx k |>.map fun p => (p.2, p.1)) t = if k ≤ t then args[t - k]? else none
  | [], k, t => by simp [aget]
  | a :: args, k, t => by
    simp only [List.zipIdx_cons, List.map_cons, aget]
    by_cases h : k = t
    · subst h; simp
    · rw [if_neg h, envOf_get args (k + 1) t]
      by_cases h1 : k ≤ t
      · rw [if_pos h1, if_pos (by omega)]
        have : t - k = (t - (k + 1)) + 1 := by omega
        rw [this, List.getElem?_cons_succ]
      · rw [if_neg h1, if_neg (by omega)]

theorem Inv.addE {G : Nat → Prop} {hp : HP} {ν : Nm} {H H' : Heap} {w : World} (h : Inv G hp ν H w) (hB : ∀ n, ¬ hp.B n)
    (he : ∀ n, aget H' n = aget H n ∨ (aget H n = none ∧ ∃ lv, aget H' n = some (.c true lv) ∧ lv.len = 0)) : Inv G hp ν H' w where
  fx := h.fx
  er n e hn := by
    rcases he n with h1 | ⟨h1, lv, h2, h3⟩
    · exact h.er n e (h1 ▸ hn)
    · rw [h2] at hn; cases hn
      simp only [ER, h.dom n h1]
      exact List.eq_nil_of_length_eq_zero (by rw [LV.len_eq]; exact h3)
  inj n m e e' hn ho hm hl hne L L' hL hL' := by
    rcases he n with h1 | ⟨h1, lv, h2, h3⟩
    · rcases he m with g1 | ⟨g1, _⟩
      · exact h.inj n m e e' (h1 ▸ hn) ho (g1 ▸ hm) hl hne L L' hL hL'
      · rw [h.dom m g1] at hL'; cases hL'
    · rw [h.dom n h1] at hL; cases hL
  dom n hn := by
    rcases he n with h1 | ⟨h1, _⟩
    · exact h.dom n (h1 ▸ hn)
    · exact h.dom n h1
  gfr := h.gfr
  nb n hn := absurd hn (hB n)
  own n e L hn ho hL := by
    rcases he n with h1 | ⟨h1, _⟩
    · exact h.own n e L (h1 ▸ hn) ho hL
    · rw [h.dom n h1] at hL; cases hL

theorem tgt_mem {H0 : Heap} : ∀ {ρ : Rho}, tgtOk H0 ρ = true → ∀ {n m o0}, (n, (m, o0)) ∈ ρ → (100 ≤ m ∧ m < 108) ∨ (n = m ∧ o0 = 0 ∧ ∃ e, aget H0 m = some e ∧ e.isOwn = true)
  | (k, (j, p0)) :: r, h, n, m, o0, hm => by
    simp only [tgtOk, Bool.and_eq_true, Bool.or_eq_true] at h
    simp only [List.mem_cons, Prod.mk.injEq] at hm
    rcases hm with ⟨rfl, rfl, rfl⟩ | hm
    · rcases h.1 with h | h
      · left; simpa using h
      · right
        obtain ⟨⟨h1, h2⟩, h3⟩ := h
        refine ⟨by simpa using h1, by simpa using h2, ?_⟩
        split at h3
        · rename_i e he; exact ⟨e, he, h3⟩
        · cases h3
    · exact tgt_mem h.2 hm
theorem own_mem {H : Heap} : ∀ {ρ : Rho}, ownAll H ρ = true → ∀ {n p}, (n, p) ∈ ρ → ∃ e, aget H n = some e ∧ e.isOwn = true
  | (k, q) :: r, h, n, p, hm => by
    simp only [ownAll, Bool.and_eq_true] at h
    simp only [List.mem_cons, Prod.mk.injEq] at hm
    rcases hm with ⟨rfl, rfl⟩ | hm
    · have := h.1
      split at this
      · rename_i e he; exact ⟨e, he, this⟩
      · cases this
    · exact own_mem h.2 hm
theorem emp_mem {ρ : Rho} : ∀ {l : List (Nat × LV)}, empOk ρ l = true → ∀ {m : Nat} {e : Ent}, aget (l.map fun p => (p.1, Ent.c true p.2)) m = some e → (100 ≤ m ∧ m < 108) ∧ (∃ lv, e = .c true lv ∧ lv.len = 0) ∧ (∀ p ∈ ρ, p.2.1 ≠ m)
  | (k, lv) :: r, h, m, e, hm => by
    simp only [empOk, Bool.and_eq_true] at h
    obtain ⟨⟨⟨⟨⟨h1, h2⟩, h3⟩, h4⟩, h5⟩, h6⟩ := h
    simp only [List.map_cons, aget] at hm
    split at hm
    · rename_i hk; subst hk; cases hm
      refine ⟨by simp at h1 h2; omega, ⟨lv, rfl, by simpa using h3⟩, fun p hp => ?_⟩
      have := List.all_eq_true.1 h4 p hp
      simpa using this
    · exact emp_mem h6 hm
theorem ros_get {H0 : Heap} (hnd : nodupB H0 = true) {n : Nat} : aget (ros H0) n = match aget H0 n with | some e => if e.isOwn then none else some e | none => none := by
  induction H0 with
  | nil => rfl
  | cons p r ih =>
    obtain ⟨k, e⟩ := p
    simp only [nodupB, Bool.and_eq_true] at hnd
    have ih := ih hnd.2
    simp only [ros, List.filter_cons]
    by_cases hk : k = n
    · subst hk
      have hr : aget r k = none := by
        cases hg : aget r k with
        | none => rfl
        | some x =>
          have := List.all_eq_true.1 hnd.1 _ (mem_of_aget hg)
          simp at this
      rw [hr] at ih
      simp only [aget, if_pos]
      cases ho : e.isOwn with
      | true => simp; exact ih
      | false => simp [aget]
    · simp only [aget, if_neg hk]
      rw [← ih]
      cases ho : e.isOwn with
      | true => simp [ros]
      | false => simp [aget, hk, ros]
theorem rosOk_get {H : Heap} {ρ : Rho} : ∀ {H0 : Heap}, rosOk H ρ H0 → ∀ {n e}, (n, e) ∈ H0 → e.isOwn = false → aget H n = some e ∧ renDE ρ 0 e = e
  | (k, x) :: r, h, n, e, hm, ho => by
    simp only [List.mem_cons, Prod.mk.injEq] at hm
    rcases hm with ⟨rfl, rfl⟩ | hm
    · exact h.1 ho
    · exact rosOk_get h.2 hm ho
theorem aget_app {β : Type} (l m : List (Nat × β)) (n : Nat) : aget (l ++ m) n = match aget l n with | some e => some e | none => aget m n := by
  induction l with
  | nil => rfl
  | cons p l ih =>
    obtain ⟨k, e⟩ := p
    simp only [List.cons_append, aget]
    by_cases h : k = n
    · simp [h]
    · simp [h, ih]
theorem selH_app (ρf : Rho) (H : Heap) : ∀ (a b : Rho), selH ρf H (a ++ b) = selH ρf H a ++ selH ρf H b
  | [], b => rfl
  | (n, (m, o0)) :: a, b => by
    simp only [List.cons_append, selH]
    split <;> simp [selH_app ρf H a b]
theorem selRO_get {ρf : Rho} {H : Heap} : ∀ {H0 : Heap}, rosOk H ρf H0 → ∀ n, aget (selH ρf H (idRO H0)) n = aget (ros H0) n
  | [], _, n => rfl
  | (k, e) :: r, h, n => by
    have ih := selRO_get (H0 := r) h.2 n
    simp only [idRO, ros, List.filter_cons] at ih ⊢
    cases ho : e.isOwn with
    | true => simpa using ih
    | false =>
      obtain ⟨h1, h2⟩ := h.1 ho
      simp only [Bool.not_false, if_true, List.map_cons, selH, h1, h2, aget]
      by_cases hk : k = n
      · simp [hk]
      · simp only [if_neg hk]; exact ih

theorem ret_ok {H0 : Heap} {R : AV → Heap → Prop} {r : AV} {H : Heap} (h : RetP H0 R r H) (hnd : nodupB H0 = true) (h100 : ∀ p ∈ H0, p.1 < 100) {G : Nat → Prop} {a : World} {νb ν : Nm} {w : World} {c : Value}
    (hi : Inv G ⟨a, fun n => aget H0 n ≠ none, νb⟩ ν H w) (hv : VR ν r c) :
    ∃ r' H1 ν1, R r' H1 ∧ okNames H0 H1 ∧ VR ν1 r' c ∧ (∀ n, aget H0 n ≠ none → aget (H1 ++ ros H0) n ≠ none → ν1 n = νb n) ∧ Inv G ⟨a, fun _ => False, νb⟩ ν1 (H1 ++ ros H0) w := by
  obtain ⟨ρ, emps, hok, hros, htgt, hown, hemp, hR⟩ := h
  have hRO : ∀ n, aget (ros H0) n ≠ none → (n, (n, 0)) ∈ idRO H0 ++ ρ := by
    intro n hn
    obtain ⟨e, he⟩ := Option.ne_none_iff_exists'.1 hn
    exact List.mem_append_left _ (List.mem_map.2 ⟨(n, e), mem_of_aget he, rfl⟩)
  have hROlt : ∀ n e, aget (ros H0) n = some e → n < 100 ∧ aget H0 n = some e ∧ e.isOwn = false := by
    intro n e he
    have hm := List.mem_filter.1 (mem_of_aget he)
    exact ⟨h100 _ hm.1, nodup_get hnd hm.1, by simpa using hm.2⟩
  have hsel : ∀ m e', aget (selH (idRO H0 ++ ρ) H ρ) m = some e' → ∃ n o0 e, (n, (m, o0)) ∈ ρ ∧ aget H n = some e ∧ e' = renDE (idRO H0 ++ ρ) o0 e := by
    intro m e' h
    obtain ⟨n, o0, e, h1, h2, h3⟩ := selH_get hok ρ (fun p hp => List.mem_append_right _ hp) m e' h
    exact ⟨n, o0, e, h1, h2, h3⟩
  have hI := hi.ren (hp' := ⟨a, fun _ => False, νb⟩) hok rfl (fun _ h => h.elim)
  have hnuid : ∀ n, (n, (n, 0)) ∈ idRO H0 ++ ρ → nuR (idRO H0 ++ ρ) ν n = ν n := by
    intro n hn
    unfold nuR
    rw [invR_of hok hn]
    simp only
    cases ν n with
    | none => rfl
    | some L => simp [shift0]
  refine ⟨_, _, nuR (idRO H0 ++ ρ) ν, hR, ?_, fillV_ok _ (hv.ren hok), ?_, hI.addE (fun _ h => h) ?_⟩
  · intro n e hn
    rw [aget_app] at hn
    split at hn
    · rename_i e' he'
      cases hn
      obtain ⟨n', o0, e0, q1, q2, rfl⟩ := hsel n e he'
      obtain ⟨e0', r1, r2⟩ := own_mem hown q1
      rw [q2] at r1; cases r1
      refine ⟨.inl ?_, ?_⟩
      · cases e0 <;> simp only [renDE] <;> first | exact r2 | (split <;> exact r2)
      · rcases tgt_mem htgt q1 with h | ⟨_, _, h⟩
        · exact .inr h
        · exact .inl h
    · obtain ⟨h1, ⟨lv, rfl, _⟩, _⟩ := emp_mem hemp hn
      exact ⟨.inl rfl, .inr h1⟩
  · intro n h0 h1
    have hnb := (hi.nb n h0).1
    simp only at hnb
    rw [← hnb]
    rw [aget_app, aget_app] at h1
    have hlt : n < 100 := by
      obtain ⟨e, he⟩ := Option.ne_none_iff_exists'.1 h0
      exact h100 _ (mem_of_aget he)
    split at h1
    · rename_i e' he'
      split at he'
      · rename_i e2 he2
        obtain ⟨n', o0, e0, q1, q2, _⟩ := hsel n e2 he2
        rcases tgt_mem htgt q1 with h | ⟨rfl, rfl, _⟩
        · omega
        · exact hnuid _ (List.mem_append_right _ q1)
      · obtain ⟨hh, _⟩ := emp_mem hemp he'
        omega
    · exact hnuid n (hRO n h1)
  · intro n
    rw [selH_app, aget_app, aget_app, aget_app, selRO_get hros]
    cases h1 : aget (selH (idRO H0 ++ ρ) H ρ) n with
    | some e =>
      left
      simp only
      cases h2 : aget (ros H0) n with
      | none => rfl
      | some e2 =>
        exfalso
        obtain ⟨q1, q2, q3⟩ := hROlt n e2 h2
        obtain ⟨n', o0, e0, r1, _, _⟩ := hsel n e h1
        rcases tgt_mem htgt r1 with h | ⟨_, _, e3, r2, r3⟩
        · omega
        · rw [q2] at r2; cases r2; rw [q3] at r3; cases r3
    | none =>
      simp only
      cases h2 : aget (emps.map fun p => (p.1, Ent.c true p.2)) n with
      | some e =>
        right
        obtain ⟨q1, ⟨lv, rfl, q2⟩, q3⟩ := emp_mem hemp h2
        refine ⟨?_, lv, rfl, q2⟩
        cases h3 : aget (ros H0) n with
        | none => rfl
        | some e2 =>
          have := (hROlt n e2 h3).1
          omega
      | none =>
        left
        simp only
        cases h3 : aget (ros H0) n <;> rfl

theorem res_ok {P : Program} {ν : Nm} {env : Env} {H : Heap} {G : Nat → Prop} {hp : HP} {w : World} {tmps : Array Value} (he : EnvRel ν env tmps) (hi : Inv G hp ν H w) {fn : Func} {r : AV} (h : resA P fn.results.toList env H = some r) :
    ∃ v, (results fn tmps).run P w = .ok v w ∧ VR ν r v := by
  have hone : ∀ rv x, resOne P env H rv = some x → ∃ v, ((match rv with | .tmp t => pure (tmps.getD t undef) | .cell a t => do loadVar t (← asAddr (tmps.getD a undef)) : Sem Value)).run P w = .ok v w ∧ VA ν x v := by
    intro rv x hx
    cases rv with
    | tmp t =>
      simp only [resOne] at hx
      split at hx
      · rename_i hf; cases hx
        exact ⟨_, rfl, (he t).fits hf⟩
      · cases hx
    | cell a t =>
      simp only [resOne] at hx
      have hv := he a
      split at hx
      · rename_i n off hp
        rw [hp] at hv
        split at hx
        · rename_i own lv hH
          split at hx
          · rename_i hle
            obtain ⟨cv, v, r1, r2, rfl⟩ := sLoad_ok (P := P) (t := t) (K := fun v => v = x) hi hv (by
              simp only [sLoad, hH]
              refine ⟨hle, ?_⟩
              split at hx
              · rename_i hagg; rw [if_pos hagg]; cases hx; rfl
              · rename_i hagg
                rw [if_neg hagg]
                split at hx
                · rename_i hs; cases hx; exact ⟨hs, rfl⟩
                · cases hx)
            refine ⟨cv, ?_, r2⟩
            obtain ⟨L, hL, hv⟩ := hv
            rw [hv] at r1
            simp only [Instr.loadAt, Instr.sureAddr, Sem.run_bind, Sem.run_pure, Result.andThen_ok] at r1
            simp only [hv, asAddr, Sem.run_bind, Sem.run_pure, Result.andThen_ok]
            exact r1
          · cases hx
        · cases hx
      · cases hx
  have hall : ∀ (rs : List ResultVar) (xs : List AV), rs.mapM (resOne P env H) = some xs → ∃ vs : List Value,
      (rs.mapM (fun rv => match rv with | .tmp t => pure (tmps.getD t undef) | .cell a t => do loadVar t (← asAddr (tmps.getD a undef)) : ResultVar → Sem Value)).run P w = .ok vs w ∧ F2 (VA ν) xs vs := by
    intro rs
    induction rs with
    | nil => intro xs h; simp at h; subst h; exact ⟨[], rfl, .nil⟩
    | cons rv rs ih =>
      intro xs h
      simp only [List.mapM_cons, Option.bind_eq_bind, Option.pure_def] at h
      cases h1 : resOne P env H rv with
      | none => simp [h1] at h
      | some x =>
        cases h2 : rs.mapM (resOne P env H) with
        | none => simp [h1, h2] at h
        | some xs' =>
          simp [h1, h2] at h
          subst h
          obtain ⟨v, a1, a2⟩ := hone rv x h1
          obtain ⟨vs, b1, b2⟩ := ih xs' h2
          refine ⟨v :: vs, ?_, .cons a2 b2⟩
          rw [List.mapM_cons]
          simp only [Sem.run_bind, a1, b1, Result.andThen_ok, Sem.run_pure]
  unfold resA at h
  unfold results
  rw [Array.mapM_eq_mapM_toList]
  split at h
  · rename_i v hm
    cases h
    obtain ⟨vs, h1, h2⟩ := hall _ _ hm
    cases h2 with
    | cons hv ht =>
      cases ht
      refine ⟨_, ?_, hv.vr⟩
      simp only [Sem.run_bind, Sem.run_map]
      refine (congrArg (fun z => Result.andThen (Result.andThen z _) _) h1).trans ?_
      rfl
  · rename_i vs' hne hm
    cases h
    obtain ⟨vs, h1, h2⟩ := hall _ _ hm
    refine ⟨.tuple vs.toArray, ?_, vs.toArray, rfl, h2⟩
    simp only [Sem.run_bind, Sem.run_map]
    refine (congrArg (fun z => Result.andThen (Result.andThen z _) _) h1).trans ?_
    simp only [Result.andThen_ok, Sem.run_pure]
    rw [dif_neg]
    intro hsz
    simp only [List.size_toArray] at hsz
    rw [← h2.length] at hsz
    match vs', hsz with
    | [v], _ => exact hne v rfl
  · cases h

theorem Fn_of_code {P : Program} {f : Nat} {fn : Func} {c : Code} {H0 : Heap} {args : List AV} {R : AV → Heap → Prop} (hf : P.funcs[f]? = some fn) (hb : fn.body = some c) (hname : (fn.name == "runtime.NumGoroutine") = false)
    (hok : codeOk fn.ntmps c = true) (hlen : args.length ≤ fn.ntmps) (hnd : nodupB H0 = true) (h100 : ∀ p ∈ H0, p.1 < 100)
    (h : W P fn.ntmps [.code c] (envOf args) H0 fun env H => ∃ r, resA P fn.results.toList env H = some r ∧ RetP H0 R r H) : Fn P f H0 args R := by
  refine ⟨fun vs w => ?_, fun ν w vs hi hF => ?_⟩
  · simp [callFunc, hf, hb]
    simpa using hname
  · refine calls_of_wp hf hb ?_
    have hvs : vs.size = args.length := by rw [hF.length]; simp
    have st : St (Gof ν H0 w) ⟨w, fun n => aget H0 n ≠ none, ν⟩ fn.ntmps ν (envOf args) H0 { tmps := vs ++ Array.replicate (fn.ntmps - vs.size) undef, defers := [] } w := by
      refine ⟨rfl, by simp; omega, fun t => ?_, hi⟩
      unfold Env.get envOf
      rw [envOf_get args 0 t, if_pos (Nat.zero_le _), Nat.sub_zero]
      cases ha : args[t]? with
      | none => trivial
      | some a =>
        obtain ⟨v, hv, hr⟩ := hF.get ha
        have hlt : t < vs.size := by
          have := (List.getElem?_eq_some_iff.1 hv).1
          simpa using this
        have : (vs ++ Array.replicate (fn.ntmps - vs.size) undef).getD t undef = v := by
          rw [Array.getD_eq_getD_getElem?, Array.getElem?_append_left hlt]
          simp at hv
          rw [hv]; rfl
        rw [this]; exact hr
    have hW := h (by intro k hk; simp at hk; subst hk; exact hok) _ _ (fun n hn => by
      obtain ⟨e, he⟩ := Option.ne_none_iff_exists'.1 hn
      exact h100 _ (mem_of_aget he)) ν _ w st
    refine wp_mono hW ?_
    rintro e a w' ⟨he, ν', env, H, ⟨r, hr, hret⟩, st'⟩
    obtain ⟨v, hv, hvr⟩ := res_ok st'.env st'.inv hr
    obtain ⟨r', H1, ν1, g1, g2, g3, g4, g5⟩ := ret_ok hret hnd h100 st'.inv hvr
    have : a.defers = [] ∧ ∃ v, (results fn a.tmps).run P w' = .ok v w' ∧ ∃ c r H1 ν1, Ending.returned v = .returned c ∧ R r H1 ∧ okNames H0 H1 ∧ VR ν1 r c ∧ (∀ n, aget H0 n ≠ none → aget (H1 ++ ros H0) n ≠ none → ν1 n = ν n) ∧ Inv (Gof ν H0 w) ⟨w, fun _ => False, ν⟩ ν1 (H1 ++ ros H0) w' :=
      ⟨st'.defers, v, hv, v, r', H1, ν1, rfl, g1, g2, g3, g4, g5⟩
    rcases he with rfl | rfl <;> exact this

end Go.Proofs.Ytbcnkfkmonpdeaa.S
