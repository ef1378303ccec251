/- The symbolic heap: rules that walk code by themselves. Own work of this claim. -/
import Derived.Test.YtbobhbhgomkgpaaGreatDoorSt
import Derived.Test.YtbobhbhgomkgpaaGreatDoorA3
import Derived.IntWalk
namespace Go.Proofs.YtbobhbhgomkgpaaGreatDoor.S
set_option linter.all false
open Go Go.Proofs
variable {D : Cx}

def EnvLe : Env → Env → Prop
  | [], _ => True
  | (t, v) :: r, env => env.get t = v ∧ EnvLe r env
theorem EnvLe.rel {ν : Nm} {tmps : Array Value} {env : Env} (h : EnvRel ν env tmps) : ∀ {env' : Env}, EnvLe env' env → EnvRel ν env' tmps
  | [], _ => fun t => by simp [Env.get, aget, VR]
  | (k, v) :: r, hl => fun t => by
    simp only [Env.get, aget]
    by_cases hk : k = t
    · subst hk; rw [if_pos rfl]
      have := h k
      rw [hl.1] at this
      exact this
    · rw [if_neg hk]; exact EnvLe.rel h hl.2 t
def setsE (env : Env) : List (Nat × AV) → Env
  | [] => env
  | (t, v) :: r => setsE (aset env t v) r
/-- The end of a loop's round. -/
def Back {σ : Type} (inv : σ → Prop) (m : σ → Nat) (E : σ → Env) (Hs : σ → Heap) (s : σ) (env : Env) (H : Heap) : Prop := ∃ s', inv s' ∧ m s' < m s ∧ EnvLe (E s') env ∧ H = Hs s'

theorem W_le {P : Program} {nt : Nat} {ks : List It} {env : Env} {H : Heap} {R : Env → Heap → Prop} (env' : Env) (hl : EnvLe env' env) (h : W D P nt ks env' H R) : W D P nt ks env H R :=
  fun hk G hp hB hD ν a w st => h hk G hp hB hD ν a w ⟨st.defers, st.size, EnvLe.rel st.env hl, st.inv⟩
def EnvLe' (env' env : Env) : Prop := ∀ t, (aget env' t).isSome = true → env.get t = (aget env' t).getD .any
theorem W_le' {P : Program} {nt : Nat} {ks : List It} {env : Env} {H : Heap} {R : Env → Heap → Prop} (env' : Env) (hl : EnvLe' env' env) (h : W D P nt ks env' H R) : W D P nt ks env H R :=
  fun hk G hp hB hD ν a w st => h hk G hp hB hD ν a w ⟨st.defers, st.size, fun t => by
    have h1 := st.env t
    have h2 := hl t
    unfold Env.get at h1 h2 ⊢
    cases e : aget env' t with
    | none => simp [VR]
    | some v => rw [e] at h2; have h3 := h2 rfl; rw [h3] at h1; exact h1, st.inv⟩
theorem aget_filter (T : Nat) : ∀ (env : Env) (t : Nat), t < T → aget (env.filter fun p => decide (p.1 < T)) t = aget env t
  | [], _, _ => rfl
  | (k, v) :: r, t, h => by
    rw [List.filter_cons]
    by_cases hk : k < T
    · rw [if_pos (by simpa using hk)]
      simp only [aget]
      rw [aget_filter T r t h]
    · rw [if_neg (by simpa using hk), aget_filter T r t h]
      simp only [aget]
      rw [if_neg (by omega)]
theorem aget_filter' (T : Nat) : ∀ (env : Env) (t : Nat), ¬ t < T → aget (env.filter fun p => decide (p.1 < T)) t = none
  | [], _, _ => rfl
  | (k, v) :: r, t, h => by
    rw [List.filter_cons]
    by_cases hk : k < T
    · rw [if_pos (by simpa using hk)]
      simp only [aget]
      rw [if_neg (by omega), aget_filter' T r t h]
    · rw [if_neg (by simpa using hk), aget_filter' T r t h]
def cns {α : Type} (b : Bool) (a : α) (l : List α) : List α := match b with
  | true => a :: l
  | false => l
theorem cns_t {α : Type} (a : α) (l : List α) : cns true a l = a :: l := rfl
theorem cns_f {α : Type} (a : α) (l : List α) : cns false a l = l := rfl
theorem idOld_nil : idOld [] = [] := rfl
theorem idOld_cons (n : Nat) (e : Ent) (r : Heap) : idOld ((n, e) :: r) = cns (decide (n < 100)) (n, (n, 0)) (idOld r) := by
  unfold idOld
  rw [List.filter_cons]
  by_cases h : n < 100
  · rw [decide_eq_true h, if_pos rfl]; rfl
  · rw [decide_eq_false h, if_neg Bool.false_ne_true]; rfl
theorem ros_nil : ros [] = [] := rfl
theorem ros_cons (n : Nat) (e : Ent) (r : Heap) : ros ((n, e) :: r) = cns (!e.isOwn) (n, e) (ros r) := by
  unfold ros
  rw [List.filter_cons]
  cases h : (!e.isOwn) <;> simp [h, cns]
/-- The slots below T. -/
def ltE (T : Nat) : Env → Env
  | [] => []
  | (k, v) :: r => cns (decide (k < T)) (k, v) (ltE T r)
theorem ltE_eq (T : Nat) : ∀ env : Env, ltE T env = env.filter fun p => decide (p.1 < T)
  | [] => rfl
  | (k, v) :: r => by
    rw [List.filter_cons]
    simp only [ltE]
    rw [ltE_eq T r]
    by_cases h : k < T
    · rw [decide_eq_true h]; rfl
    · rw [decide_eq_false h]; rfl
/-- The slots that are not named. -/
def noE (L : List Nat) : Env → Env
  | [] => []
  | (k, v) :: r => cns (!L.elem k) (k, v) (noE L r)
theorem noE_eq (L : List Nat) : ∀ env : Env, noE L env = env.filter fun p => !L.elem p.1
  | [] => rfl
  | (k, v) :: r => by
    rw [List.filter_cons]
    simp only [noE]
    rw [noE_eq L r]
    cases h : (!L.elem k) <;> rfl
theorem bm_t {b : Bool} : (match true with | true => true | false => b) = true := rfl
theorem bm_f {b : Bool} : (match false with | true => true | false => b) = b := rfl
theorem EnvLe_filter (T : Nat) (env : Env) : EnvLe' (ltE T env) env := by
  rw [ltE_eq]
  intro t ht
  by_cases h : t < T
  · rw [aget_filter T env t h]; rfl
  · rw [aget_filter' T env t h] at ht; cases ht
def dd : Env → Env
  | [] => []
  | (k, v) :: r => (k, v) :: noE [k] (dd r)
theorem aget_ne (k : Nat) : ∀ (env : Env) (t : Nat), t ≠ k → aget (noE [k] env) t = aget env t
  | [], _, _ => rfl
  | (j, v) :: r, t, h => by
    simp only [noE]
    by_cases e : j = k
    · subst e
      rw [show (!List.elem j [j]) = false by simp]
      simp only [cns, aget]
      rw [if_neg (Ne.symm h), aget_ne j r t h]
    · rw [show (!List.elem j [k]) = true by simp [e]]
      simp only [cns, aget]
      rw [aget_ne k r t h]
theorem aget_dd : ∀ (env : Env) (t : Nat), aget (dd env) t = aget env t
  | [], _ => rfl
  | (k, v) :: r, t => by
    simp (maxSteps := 1000000) only [dd, aget]
    by_cases e : k = t
    · rw [if_pos e, if_pos e]
    · rw [if_neg e, if_neg e, aget_ne k (dd r) t (Ne.symm e), aget_dd r t]
theorem EnvLe_dd (env : Env) : EnvLe' (dd env) env := by
  intro t _
  rw [aget_dd]; rfl
theorem EnvLe_drop (L : List Nat) (env : Env) : EnvLe' (noE L env) env := by
  rw [noE_eq]
  intro t ht
  have key : ∀ (env : Env), aget (env.filter fun p => !L.elem p.1) t = if L.elem t then none else aget env t := by
    intro env
    induction env with
    | nil => simp [aget]
    | cons p r ih =>
      obtain ⟨k, v⟩ := p
      rw [List.filter_cons]
      by_cases hk : L.elem k = true
      · rw [if_neg (by rw [hk]; decide), ih]
        simp only [aget]
        by_cases e : k = t
        · subst e; simp only [hk, if_true]
        · simp only [e, if_false]
      · rw [if_pos (by simpa using hk)]
        simp only [aget]
        by_cases e : k = t
        · subst e; simp only [hk, if_true]; rfl
        · simp only [e, if_false]; exact ih
  rw [key] at ht ⊢
  split at ht
  · cases ht
  · rename_i h; rw [if_neg h]; rfl
theorem W_lp0 {P : Program} {nt : Nat} {ks : List It} {env : Env} {H : Heap} {R : Env → Heap → Prop} {c : Code} {σ : Type} {E : σ → Env} {Hs : σ → Heap} (inv : σ → Prop) (m : σ → Nat) (s0 : σ) (h0 : inv s0)
    (h : ∀ s, inv s → W D P nt (.code c :: .back (Back inv m E Hs s) :: ks) (E s) (Hs s) R) (he : EnvLe (E s0) env) (hh : H = Hs s0) : W D P nt (.code (.loop c) :: ks) env H R := by
  subst hh
  refine W_le _ he ?_
  intro hk G hp hB hD ν a w st
  have hc : codeOk nt c = true := hk (.code (.loop c)) (by simp)
  have hks : ∀ k ∈ ks, itOk nt k := fun k hk' => hk k (by simp [hk'])
  refine wp_loop_ghost (σ := Nm × σ) (fun s a w => inv s.2 ∧ St G hp nt s.1 (E s.2) (Hs s.2) a w) (fun s => m s.2) (ν, s0) ⟨h0, st⟩ ?_
  rintro ⟨ν, s⟩ a w ⟨hI, st⟩
  refine wp_mono (h s hI ?_ G hp hB hD ν a w st) ?_
  · intro k hk'
    simp only [List.mem_cons] at hk'
    rcases hk' with rfl | rfl | hk'
    · exact hc
    · trivial
    · exact hks k hk'
  · intro e a w he
    cases e <;> first | exact he | skip
    obtain ⟨ν', env', H', ⟨s', h1, h2, h3, rfl⟩, st'⟩ := he
    exact ⟨(ν', s'), ⟨h1, ⟨st'.defers, st'.size, EnvLe.rel st'.env h3, st'.inv⟩⟩, h2⟩

/-- Where ways meet again. -/
def Join {σ : Type} (inv : σ → Prop) (E : σ → Env) (Hs : σ → Heap) (env : Env) (H : Heap) : Prop := ∃ s', inv s' ∧ EnvLe (E s') env ∧ H = Hs s'
theorem W_jn0 {P : Program} {nt : Nat} {ks : List It} {env : Env} {H : Heap} {R : Env → Heap → Prop} {c : Code} {σ : Type} {E : σ → Env} {Hs : σ → Heap} {inv : σ → Prop}
    (h : W D P nt (.code c :: .back (Join inv E Hs) :: ks) env H R) (k : ∀ s, inv s → W D P nt ks (E s) (Hs s) R) : W D P nt (.code c :: ks) env H R := by
  intro hk G hp hB hD ν a w st
  have hc : codeOk nt c = true := hk (.code c) (by simp)
  have hks : ∀ k ∈ ks, itOk nt k := fun k hk' => hk k (by simp [hk'])
  refine wp_mono (h ?_ G hp hB hD ν a w st) ?_
  · intro k hk'
    simp only [List.mem_cons] at hk'
    rcases hk' with rfl | rfl | hk'
    · exact hc
    · trivial
    · exact hks k hk'
  · intro e a w he
    cases e <;> first | exact he | skip
    obtain ⟨ν', env', H', ⟨s', h1, h2, rfl⟩, st'⟩ := he
    exact k s' h1 hks G hp hB hD ν' a w ⟨st'.defers, st'.size, EnvLe.rel st'.env h2, st'.inv⟩
abbrev Wp (D : Cx) := W D Tryz.prog
theorem bq1 : (true == false) = false := rfl
theorem bq2 : (false == true) = false := rfl
theorem bq3 : (true == true) = true := rfl
theorem bq4 : (false == false) = true := rfl
theorem ev_tmp {env : Env} {t : Tmp} : ev env (.tmp t) = Env.get env t := rfl
theorem ev_const {env : Env} {v : Value} : ev env (.const v) = cv v := rfl
theorem ev_func {env : Env} {f : FuncId} : ev env (.func f) = .fn f [] := rfl
theorem nat0 : ((0 : Nat) : Int) = 0 := rfl
theorem natS (n : Nat) : ((n + 1 : Nat) : Int) = (n : Int) + 1 := rfl
structure Hold (p : Prop) : Prop where
  told : p
section
variable {nt : Nat} {ks : List It} {env env' : Env} {H H' : Heap} {R : Env → Heap → Prop} {id : Nat} {ops : Array Oper}

/-- A region whose demands are met by reckoning. -/
theorem W_o (h : Wp D nt ks env' H' R)
    (h0 : ∀ K : Env → Heap → Prop, Hold (K env' H') → rwalk Tryz.prog (callA Tryz.prog) ops.toList id 0 ops.toList env H K := by
      intro K hK
      simp (maxSteps := 1000000) (disch := omega) only [List.toList_toArray, Rs_ok, Rs_pick, Rs_call, Rs_nilc, Gd_t, Gd_f, Rd_ok, Rd_pick, Rd_call, sv_n, sv_g, sv_c, sv_w, sr_n, sr_g, sr_c, sr_w, rwalk_cons, rdr_cons, rdr_nil, afterD, backOwnD, backNewD, setsH, killD, srcG, baseG, optG, bq1, bq2, bq3, bq4, List.take_replicate, Nat.min_self, Nat.min_eq_left, lim40, limB, IntWalk.i64_in, rwalk_nil, gA, res, three, rLoad, rStore, rInt, rStr, rBin, rNil, rLen, rSlice, rAppend, rMake, isInt, LV.rep, rCall, isSlice, sBuild, fillL, partsIn, ev_tmp, ev_const, ev_func, cv, cvc, optInt, S.put, S.putc, Env.get, aget, aset, stAll, baseOf, srcOf, lenOf?, killO, apartO, LV.app2, LV.app, LV.view, LV.mk, LV.rep, LV.z, LV.st, LV.lk, LV.ex, LV.len, LV.toL, allInts, allBools, allStrs, allBytes, allOps, cellsOf, AV.fits, isNil, tys, nmOf,
        renV, renA, renC, renL, renE, mu1, nwK, afterH, backOwn, backNew, Ent.isOwn, Ent.live, renDV, renDA, renD, renDL, renDE, selH, idOld_nil, idOld_cons, cns_t, cns_f, idRO, ros_nil, ros_cons, fillV, fillT, fillA, fillC,
        List.map_cons, List.map_nil, List.map_append, noN_renC, noN_renD, noN_len, List.filter_cons, List.filter_nil, List.append_nil, List.nil_append, List.cons_append, List.all_cons, List.all_nil, List.flatMap_cons, List.flatMap_nil, List.foldl_cons, List.foldl_nil, List.mapM_cons, List.mapM_nil, Option.pure_def, Option.bind_eq_bind, Option.bind_some,
        List.length_cons, List.length_nil, List.length_append, List.length_take, List.length_drop, List.length_replicate, List.length_set, List.length_map, List.drop_zero, List.drop_succ_cons, List.take_succ_cons, List.take_zero, List.take_length, List.take_nil, List.drop_nil, List.set_cons_zero, List.set_cons_succ, List.getD_cons_zero, List.getD_cons_succ, List.size_toArray,
        Option.getD_some, Option.getD_none, Option.map_some, Option.map_none, Option.isSome_some, List.getElem?_cons_zero, List.getElem?_cons_succ, List.getElem?_toArray, Nat.reduceEqDiff, Nat.reduceAdd, Nat.reduceSub, Nat.reduceMul, Nat.reduceDiv, Nat.reduceMod, opL, Nat.mul_mod_left, Nat.mul_mod_right, Nat.mul_div_cancel, Nat.mul_div_cancel_left, Nat.reduceLeDiff, Nat.reduceLT, Nat.reduceBEq, Nat.reduceBNe, Nat.zero_add, Nat.add_zero, Nat.mul_one, Nat.zero_mul, Nat.sub_zero, Nat.sub_self, Nat.le_refl, Nat.zero_le, Nat.not_lt_zero, Nat.lt_irrefl, Int.toNat_zero, Int.toNat_natCast, Int.natCast_zero, Int.le_refl,
        ↓reduceIte, if_true, if_false, true_and, and_true, and_self, and_assoc, cond_true, cond_false, decide_true, decide_false, decide_eq_true_eq, ← decide_not, Bool.not_true, Bool.not_false, Bool.true_and, Bool.and_true, Bool.false_and, Bool.and_false, Bool.or_false, Bool.false_or, Bool.or_true, Bool.true_or, Bool.and_eq_true, Bool.not_not, forall_const, true_implies, false_implies, implies_true, reduceCtorEq, ne_eq, not_true_eq_false, not_false_eq_true, Bool.false_eq_true, Bool.true_eq_false, bne_self_eq_false, beq_self_eq_true, eq_self_iff_true]
      repeat (refine And.intro (by omega) ?_)
      exact hK.told) :
    Wp D nt (.code (.region id ops false) :: ks) env H R :=
  W_rw fun K hK => h0 K ⟨hK _ _ h⟩
theorem W_oh (h : Wp D nt ks env' H' R)
    (h0 : ∀ K : Env → Heap → Prop, Hold (K env' H') → rwalk Tryz.prog (callA Tryz.prog) ops.toList id 0 ops.toList env H K := by
      intro K hK
      simp (maxSteps := 1000000) (disch := omega) only [List.toList_toArray, Rs_ok, Rs_pick, Rs_call, Rs_nilc, Gd_t, Gd_f, Rd_ok, Rd_pick, Rd_call, sv_n, sv_g, sv_c, sv_w, sr_n, sr_g, sr_c, sr_w, rwalk_cons, rdr_cons, rdr_nil, afterD, backOwnD, backNewD, setsH, killD, srcG, baseG, optG, bq1, bq2, bq3, bq4, List.take_replicate, Nat.min_self, Nat.min_eq_left, lim40, limB, IntWalk.i64_in, rwalk_nil, gA, res, three, rLoad, rStore, rInt, rStr, rBin, rNil, rLen, rSlice, rAppend, rMake, isInt, LV.rep, rCall, isSlice, sBuild, fillL, partsIn, ev_tmp, ev_const, ev_func, cv, cvc, optInt, S.put, S.putc, Env.get, aget, aset, stAll, baseOf, srcOf, lenOf?, killO, apartO, LV.app2, LV.app, LV.view, LV.mk, LV.rep, LV.z, LV.st, LV.lk, LV.ex, LV.len, LV.toL, allInts, allBools, allStrs, allBytes, allOps, cellsOf, AV.fits, isNil, tys, nmOf,
        renV, renA, renC, renL, renE, mu1, nwK, afterH, backOwn, backNew, Ent.isOwn, Ent.live, renDV, renDA, renD, renDL, renDE, selH, idOld_nil, idOld_cons, cns_t, cns_f, idRO, ros_nil, ros_cons, fillV, fillT, fillA, fillC,
        List.map_cons, List.map_nil, List.map_append, noN_renC, noN_renD, noN_len, List.filter_cons, List.filter_nil, List.append_nil, List.nil_append, List.cons_append, List.all_cons, List.all_nil, List.flatMap_cons, List.flatMap_nil, List.foldl_cons, List.foldl_nil, List.mapM_cons, List.mapM_nil, Option.pure_def, Option.bind_eq_bind, Option.bind_some,
        List.length_cons, List.length_nil, List.length_append, List.length_take, List.length_drop, List.length_replicate, List.length_set, List.length_map, List.drop_zero, List.drop_succ_cons, List.take_succ_cons, List.take_zero, List.take_length, List.take_nil, List.drop_nil, List.set_cons_zero, List.set_cons_succ, List.getD_cons_zero, List.getD_cons_succ, List.size_toArray,
        Option.getD_some, Option.getD_none, Option.map_some, Option.map_none, Option.isSome_some, List.getElem?_cons_zero, List.getElem?_cons_succ, List.getElem?_toArray, Nat.reduceEqDiff, Nat.reduceAdd, Nat.reduceSub, Nat.reduceMul, Nat.reduceDiv, Nat.reduceMod, opL, Nat.mul_mod_left, Nat.mul_mod_right, Nat.mul_div_cancel, Nat.mul_div_cancel_left, Nat.reduceLeDiff, Nat.reduceLT, Nat.reduceBEq, Nat.reduceBNe, Nat.zero_add, Nat.add_zero, Nat.mul_one, Nat.zero_mul, Nat.sub_zero, Nat.sub_self, Nat.le_refl, Nat.zero_le, Nat.not_lt_zero, Nat.lt_irrefl, Int.toNat_zero, Int.toNat_natCast, Int.natCast_zero, Int.le_refl,
        ↓reduceIte, if_true, if_false, true_and, and_true, and_self, and_assoc, cond_true, cond_false, decide_true, decide_false, decide_eq_true_eq, ← decide_not, Bool.not_true, Bool.not_false, Bool.true_and, Bool.and_true, Bool.false_and, Bool.and_false, Bool.or_false, Bool.false_or, Bool.or_true, Bool.true_or, Bool.and_eq_true, Bool.not_not, forall_const, true_implies, false_implies, implies_true, reduceCtorEq, ne_eq, not_true_eq_false, not_false_eq_true, Bool.false_eq_true, Bool.true_eq_false, bne_self_eq_false, beq_self_eq_true, eq_self_iff_true, *, -hK]
      repeat (refine And.intro (by omega) ?_)
      exact hK.told) :
    Wp D nt (.code (.region id ops false) :: ks) env H R :=
  W_rw fun K hK => h0 K ⟨hK _ _ h⟩
theorem mixed_ok : Tryz.prog.follows .mixedOrders = true := by kernel_rfl
theorem W_do (h : Wp D nt ks env' H' R)
    (hback : backB 0 ops.toList = true := by rfl)
    (h0 : ∀ K : Env → Heap → Prop, Hold (K env' H') → rdr Tryz.prog (callA Tryz.prog) ops.toList id 0 ops.toList env H [] K := by
      intro K hK
      simp (maxSteps := 1000000) (disch := omega) only [List.toList_toArray, Rs_ok, Rs_pick, Rs_call, Rs_nilc, Gd_t, Gd_f, Rd_ok, Rd_pick, Rd_call, sv_n, sv_g, sv_c, sv_w, sr_n, sr_g, sr_c, sr_w, rwalk_cons, rdr_cons, rdr_nil, afterD, backOwnD, backNewD, setsH, killD, srcG, baseG, optG, bq1, bq2, bq3, bq4, List.take_replicate, Nat.min_self, Nat.min_eq_left, lim40, limB, IntWalk.i64_in, rwalk_nil, gA, res, three, rLoad, rStore, rInt, rStr, rBin, rNil, rLen, rSlice, rAppend, rMake, isInt, LV.rep, rCall, isSlice, sBuild, fillL, partsIn, ev_tmp, ev_const, ev_func, cv, cvc, optInt, S.put, S.putc, Env.get, aget, aset, stAll, baseOf, srcOf, lenOf?, killO, apartO, LV.app2, LV.app, LV.view, LV.mk, LV.rep, LV.z, LV.st, LV.lk, LV.ex, LV.len, LV.toL, allInts, allBools, allStrs, allBytes, allOps, cellsOf, AV.fits, isNil, tys, nmOf,
        renV, renA, renC, renL, renE, mu1, nwK, afterH, backOwn, backNew, Ent.isOwn, Ent.live, renDV, renDA, renD, renDL, renDE, selH, idOld_nil, idOld_cons, cns_t, cns_f, idRO, ros_nil, ros_cons, fillV, fillT, fillA, fillC,
        List.map_cons, List.map_nil, List.map_append, noN_renC, noN_renD, noN_len, List.filter_cons, List.filter_nil, List.append_nil, List.nil_append, List.cons_append, List.all_cons, List.all_nil, List.flatMap_cons, List.flatMap_nil, List.foldl_cons, List.foldl_nil, List.mapM_cons, List.mapM_nil, Option.pure_def, Option.bind_eq_bind, Option.bind_some,
        List.length_cons, List.length_nil, List.length_append, List.length_take, List.length_drop, List.length_replicate, List.length_set, List.length_map, List.drop_zero, List.drop_succ_cons, List.take_succ_cons, List.take_zero, List.take_length, List.take_nil, List.drop_nil, List.set_cons_zero, List.set_cons_succ, List.getD_cons_zero, List.getD_cons_succ, List.size_toArray,
        Option.getD_some, Option.getD_none, Option.map_some, Option.map_none, Option.isSome_some, List.getElem?_cons_zero, List.getElem?_cons_succ, List.getElem?_toArray, Nat.reduceEqDiff, Nat.reduceAdd, Nat.reduceSub, Nat.reduceMul, Nat.reduceDiv, Nat.reduceMod, opL, Nat.mul_mod_left, Nat.mul_mod_right, Nat.mul_div_cancel, Nat.mul_div_cancel_left, Nat.reduceLeDiff, Nat.reduceLT, Nat.reduceBEq, Nat.reduceBNe, Nat.zero_add, Nat.add_zero, Nat.mul_one, Nat.zero_mul, Nat.sub_zero, Nat.sub_self, Nat.le_refl, Nat.zero_le, Nat.not_lt_zero, Nat.lt_irrefl, Int.toNat_zero, Int.toNat_natCast, Int.natCast_zero, Int.le_refl,
        ↓reduceIte, if_true, if_false, true_and, and_true, and_self, and_assoc, cond_true, cond_false, decide_true, decide_false, decide_eq_true_eq, ← decide_not, Bool.not_true, Bool.not_false, Bool.true_and, Bool.and_true, Bool.false_and, Bool.and_false, Bool.or_false, Bool.false_or, Bool.or_true, Bool.true_or, Bool.and_eq_true, Bool.not_not, forall_const, true_implies, false_implies, implies_true, reduceCtorEq, ne_eq, not_true_eq_false, not_false_eq_true, Bool.false_eq_true, Bool.true_eq_false, bne_self_eq_false, beq_self_eq_true, eq_self_iff_true]
      repeat (first | refine And.intro (by omega) ?_)
      exact hK.told)
    (hok : drawOk Tryz.prog ops.toList id 0 ops.toList env H [] [] = true := by kernel_rfl) :
    Wp D nt (.code (.region id ops true) :: ks) env H R :=
  W_ds mixed_ok [] hback hok fun K hK => h0 K ⟨hK _ _ h⟩
theorem W_doh (h : Wp D nt ks env' H' R)
    (hback : backB 0 ops.toList = true := by rfl)
    (h0 : ∀ K : Env → Heap → Prop, Hold (K env' H') → rdr Tryz.prog (callA Tryz.prog) ops.toList id 0 ops.toList env H [] K := by
      intro K hK
      simp (maxSteps := 1000000) (disch := omega) only [List.toList_toArray, Rs_ok, Rs_pick, Rs_call, Rs_nilc, Gd_t, Gd_f, Rd_ok, Rd_pick, Rd_call, sv_n, sv_g, sv_c, sv_w, sr_n, sr_g, sr_c, sr_w, rwalk_cons, rdr_cons, rdr_nil, afterD, backOwnD, backNewD, setsH, killD, srcG, baseG, optG, bq1, bq2, bq3, bq4, List.take_replicate, Nat.min_self, Nat.min_eq_left, lim40, limB, IntWalk.i64_in, rwalk_nil, gA, res, three, rLoad, rStore, rInt, rStr, rBin, rNil, rLen, rSlice, rAppend, rMake, isInt, LV.rep, rCall, isSlice, sBuild, fillL, partsIn, ev_tmp, ev_const, ev_func, cv, cvc, optInt, S.put, S.putc, Env.get, aget, aset, stAll, baseOf, srcOf, lenOf?, killO, apartO, LV.app2, LV.app, LV.view, LV.mk, LV.rep, LV.z, LV.st, LV.lk, LV.ex, LV.len, LV.toL, allInts, allBools, allStrs, allBytes, allOps, cellsOf, AV.fits, isNil, tys, nmOf,
        renV, renA, renC, renL, renE, mu1, nwK, afterH, backOwn, backNew, Ent.isOwn, Ent.live, renDV, renDA, renD, renDL, renDE, selH, idOld_nil, idOld_cons, cns_t, cns_f, idRO, ros_nil, ros_cons, fillV, fillT, fillA, fillC,
        List.map_cons, List.map_nil, List.map_append, noN_renC, noN_renD, noN_len, List.filter_cons, List.filter_nil, List.append_nil, List.nil_append, List.cons_append, List.all_cons, List.all_nil, List.flatMap_cons, List.flatMap_nil, List.foldl_cons, List.foldl_nil, List.mapM_cons, List.mapM_nil, Option.pure_def, Option.bind_eq_bind, Option.bind_some,
        List.length_cons, List.length_nil, List.length_append, List.length_take, List.length_drop, List.length_replicate, List.length_set, List.length_map, List.drop_zero, List.drop_succ_cons, List.take_succ_cons, List.take_zero, List.take_length, List.take_nil, List.drop_nil, List.set_cons_zero, List.set_cons_succ, List.getD_cons_zero, List.getD_cons_succ, List.size_toArray,
        Option.getD_some, Option.getD_none, Option.map_some, Option.map_none, Option.isSome_some, List.getElem?_cons_zero, List.getElem?_cons_succ, List.getElem?_toArray, Nat.reduceEqDiff, Nat.reduceAdd, Nat.reduceSub, Nat.reduceMul, Nat.reduceDiv, Nat.reduceMod, opL, Nat.mul_mod_left, Nat.mul_mod_right, Nat.mul_div_cancel, Nat.mul_div_cancel_left, Nat.reduceLeDiff, Nat.reduceLT, Nat.reduceBEq, Nat.reduceBNe, Nat.zero_add, Nat.add_zero, Nat.mul_one, Nat.zero_mul, Nat.sub_zero, Nat.sub_self, Nat.le_refl, Nat.zero_le, Nat.not_lt_zero, Nat.lt_irrefl, Int.toNat_zero, Int.toNat_natCast, Int.natCast_zero, Int.le_refl,
        ↓reduceIte, if_true, if_false, true_and, and_true, and_self, and_assoc, cond_true, cond_false, decide_true, decide_false, decide_eq_true_eq, ← decide_not, Bool.not_true, Bool.not_false, Bool.true_and, Bool.and_true, Bool.false_and, Bool.and_false, Bool.or_false, Bool.false_or, Bool.or_true, Bool.true_or, Bool.and_eq_true, Bool.not_not, forall_const, true_implies, false_implies, implies_true, reduceCtorEq, ne_eq, not_true_eq_false, not_false_eq_true, Bool.false_eq_true, Bool.true_eq_false, bne_self_eq_false, beq_self_eq_true, eq_self_iff_true, *, -hK]
      repeat (first | refine And.intro (by omega) ?_)
      exact hK.told)
    (hok : drawOk Tryz.prog ops.toList id 0 ops.toList env H [] [] = true := by kernel_rfl) :
    Wp D nt (.code (.region id ops true) :: ks) env H R :=
  W_ds mixed_ok [] hback hok fun K hK => h0 K ⟨hK _ _ h⟩
theorem W_dos (scr : List Scr) (h : Wp D nt ks env' H' R)
    (hback : backB 0 ops.toList = true := by rfl)
    (h0 : ∀ K : Env → Heap → Prop, Hold (K env' H') → rdr Tryz.prog (callA Tryz.prog) ops.toList id 0 ops.toList env H scr K := by
      intro K hK
      simp (maxSteps := 1000000) (disch := omega) only [List.toList_toArray, Rs_ok, Rs_pick, Rs_call, Rs_nilc, Gd_t, Gd_f, Rd_ok, Rd_pick, Rd_call, sv_n, sv_g, sv_c, sv_w, sr_n, sr_g, sr_c, sr_w, rwalk_cons, rdr_cons, rdr_nil, afterD, backOwnD, backNewD, setsH, killD, srcG, baseG, optG, bq1, bq2, bq3, bq4, List.take_replicate, Nat.min_self, Nat.min_eq_left, lim40, limB, IntWalk.i64_in, rwalk_nil, gA, res, three, rLoad, rStore, rInt, rStr, rBin, rNil, rLen, rSlice, rAppend, rMake, isInt, LV.rep, rCall, isSlice, sBuild, fillL, partsIn, ev_tmp, ev_const, ev_func, cv, cvc, optInt, S.put, S.putc, Env.get, aget, aset, stAll, baseOf, srcOf, lenOf?, killO, apartO, LV.app2, LV.app, LV.view, LV.mk, LV.rep, LV.z, LV.st, LV.lk, LV.ex, LV.len, LV.toL, allInts, allBools, allStrs, allBytes, allOps, cellsOf, AV.fits, isNil, tys, nmOf,
        renV, renA, renC, renL, renE, mu1, nwK, afterH, backOwn, backNew, Ent.isOwn, Ent.live, renDV, renDA, renD, renDL, renDE, selH, idOld_nil, idOld_cons, cns_t, cns_f, idRO, ros_nil, ros_cons, fillV, fillT, fillA, fillC,
        List.map_cons, List.map_nil, List.map_append, noN_renC, noN_renD, noN_len, List.filter_cons, List.filter_nil, List.append_nil, List.nil_append, List.cons_append, List.all_cons, List.all_nil, List.flatMap_cons, List.flatMap_nil, List.foldl_cons, List.foldl_nil, List.mapM_cons, List.mapM_nil, Option.pure_def, Option.bind_eq_bind, Option.bind_some,
        List.length_cons, List.length_nil, List.length_append, List.length_take, List.length_drop, List.length_replicate, List.length_set, List.length_map, List.drop_zero, List.drop_succ_cons, List.take_succ_cons, List.take_zero, List.take_length, List.take_nil, List.drop_nil, List.set_cons_zero, List.set_cons_succ, List.getD_cons_zero, List.getD_cons_succ, List.size_toArray,
        Option.getD_some, Option.getD_none, Option.map_some, Option.map_none, Option.isSome_some, List.getElem?_cons_zero, List.getElem?_cons_succ, List.getElem?_toArray, Nat.reduceEqDiff, Nat.reduceAdd, Nat.reduceSub, Nat.reduceMul, Nat.reduceDiv, Nat.reduceMod, opL, Nat.mul_mod_left, Nat.mul_mod_right, Nat.mul_div_cancel, Nat.mul_div_cancel_left, Nat.reduceLeDiff, Nat.reduceLT, Nat.reduceBEq, Nat.reduceBNe, Nat.zero_add, Nat.add_zero, Nat.mul_one, Nat.zero_mul, Nat.sub_zero, Nat.sub_self, Nat.le_refl, Nat.zero_le, Nat.not_lt_zero, Nat.lt_irrefl, Int.toNat_zero, Int.toNat_natCast, Int.natCast_zero, Int.le_refl,
        ↓reduceIte, if_true, if_false, true_and, and_true, and_self, and_assoc, cond_true, cond_false, decide_true, decide_false, decide_eq_true_eq, ← decide_not, Bool.not_true, Bool.not_false, Bool.true_and, Bool.and_true, Bool.false_and, Bool.and_false, Bool.or_false, Bool.false_or, Bool.or_true, Bool.true_or, Bool.and_eq_true, Bool.not_not, forall_const, true_implies, false_implies, implies_true, reduceCtorEq, ne_eq, not_true_eq_false, not_false_eq_true, Bool.false_eq_true, Bool.true_eq_false, bne_self_eq_false, beq_self_eq_true, eq_self_iff_true, *, -hK]
      repeat (first | refine And.intro (by omega) ?_)
      exact hK.told)
    (hok : drawOk Tryz.prog ops.toList id 0 ops.toList env H scr [] = true := by kernel_rfl) :
    Wp D nt (.code (.region id ops true) :: ks) env H R :=
  W_ds mixed_ok scr hback hok fun K hK => h0 K ⟨hK _ _ h⟩
/-- Straight on, as far as it goes. -/
theorem W_go {X : Prop} (h : X)
    (h0 : Hold X → Wp D nt ks env H R := by
      intro h
      repeat (first | refine W_seq ?_ | refine W_skip ?_ | refine W_block ?_ | refine W_pop ?_ | refine W_o ?_ | refine W_do ?_ | refine W_oh ?_ | refine W_doh ?_ | refine W_ex ?_)
      exact h.told) : Wp D nt ks env H R := h0 ⟨h⟩
/-- Straight on, with guards that the hypotheses decide. -/
theorem W_gh {X : Prop} (h : X)
    (h0 : Hold X → Wp D nt ks env H R := by
      intro h
      repeat (first | refine W_seq ?_ | refine W_skip ?_ | refine W_block ?_ | refine W_pop ?_ | refine W_oh ?_ | refine W_doh ?_ | refine W_ex ?_)
      exact h.told) : Wp D nt ks env H R := h0 ⟨h⟩
/-- What is left of a region. -/
theorem RW_x {call : CallT} {all os : List Oper} {i : Nat} {K : Env → Heap → Prop} {X : Prop} (h : X)
    (h0 : X → rwalk Tryz.prog call all id i os env H K := by
      simp (maxSteps := 1000000) (disch := omega) only [List.toList_toArray, Rs_ok, Rs_pick, Rs_call, Rs_nilc, Gd_t, Gd_f, Rd_ok, Rd_pick, Rd_call, sv_n, sv_g, sv_c, sv_w, sr_n, sr_g, sr_c, sr_w, rwalk_cons, rdr_cons, rdr_nil, afterD, backOwnD, backNewD, setsH, killD, srcG, baseG, optG, bq1, bq2, bq3, bq4, List.take_replicate, Nat.min_self, Nat.min_eq_left, lim40, limB, IntWalk.i64_in, rwalk_nil, gA, res, three, rLoad, rStore, rInt, rStr, rBin, rNil, rLen, rSlice, rAppend, rMake, isInt, LV.rep, rCall, isSlice, sBuild, fillL, partsIn, ev_tmp, ev_const, ev_func, cv, cvc, optInt, S.put, S.putc, Env.get, aget, aset, stAll, baseOf, srcOf, lenOf?, killO, apartO, LV.app2, LV.app, LV.view, LV.mk, LV.rep, LV.z, LV.st, LV.lk, LV.ex, LV.len, LV.toL, allInts, allBools, allStrs, allBytes, allOps, cellsOf, AV.fits, isNil, tys, nmOf,
        renV, renA, renC, renL, renE, mu1, nwK, afterH, backOwn, backNew, Ent.isOwn, Ent.live, renDV, renDA, renD, renDL, renDE, selH, idOld_nil, idOld_cons, cns_t, cns_f, idRO, ros_nil, ros_cons, fillV, fillT, fillA, fillC,
        List.map_cons, List.map_nil, List.map_append, noN_renC, noN_renD, noN_len, List.filter_cons, List.filter_nil, List.append_nil, List.nil_append, List.cons_append, List.all_cons, List.all_nil, List.flatMap_cons, List.flatMap_nil, List.foldl_cons, List.foldl_nil, List.mapM_cons, List.mapM_nil, Option.pure_def, Option.bind_eq_bind, Option.bind_some,
        List.length_cons, List.length_nil, List.length_append, List.length_take, List.length_drop, List.length_replicate, List.length_set, List.length_map, List.drop_zero, List.drop_succ_cons, List.take_succ_cons, List.take_zero, List.take_length, List.take_nil, List.drop_nil, List.set_cons_zero, List.set_cons_succ, List.getD_cons_zero, List.getD_cons_succ, List.size_toArray,
        Option.getD_some, Option.getD_none, Option.map_some, Option.map_none, Option.isSome_some, List.getElem?_cons_zero, List.getElem?_cons_succ, List.getElem?_toArray, Nat.reduceEqDiff, Nat.reduceAdd, Nat.reduceSub, Nat.reduceMul, Nat.reduceDiv, Nat.reduceMod, opL, Nat.mul_mod_left, Nat.mul_mod_right, Nat.mul_div_cancel, Nat.mul_div_cancel_left, Nat.reduceLeDiff, Nat.reduceLT, Nat.reduceBEq, Nat.reduceBNe, Nat.zero_add, Nat.add_zero, Nat.mul_one, Nat.zero_mul, Nat.sub_zero, Nat.sub_self, Nat.le_refl, Nat.zero_le, Nat.not_lt_zero, Nat.lt_irrefl, Int.toNat_zero, Int.toNat_natCast, Int.natCast_zero, Int.le_refl,
        ↓reduceIte, if_true, if_false, true_and, and_true, and_self, and_assoc, cond_true, cond_false, decide_true, decide_false, decide_eq_true_eq, ← decide_not, Bool.not_true, Bool.not_false, Bool.true_and, Bool.and_true, Bool.false_and, Bool.and_false, Bool.or_false, Bool.false_or, Bool.or_true, Bool.true_or, Bool.and_eq_true, Bool.not_not, forall_const, true_implies, false_implies, implies_true, reduceCtorEq, ne_eq, not_true_eq_false, not_false_eq_true, Bool.false_eq_true, Bool.true_eq_false, bne_self_eq_false, beq_self_eq_true, eq_self_iff_true]
      exact _root_.id) : rwalk Tryz.prog call all id i os env H K := h0 h
theorem NilK_x {call : CallT} {all os : List Oper} {i : Nat} {K : Env → Heap → Prop} {d : Option Tmp} {n : Nat} {neg : Bool} (h : ∀ r : Bool, (r = !neg → n = 0) → rwalk Tryz.prog call all id (i + 1) os (S.putc env d (.bool r)) H K) :
    NilK Tryz.prog call all id i os d env K n neg H := h
/-- A call by its contract. -/
theorem CK {all os : List Oper} {i g : Nat} {K : Env → Heap → Prop} {d : Option Tmp} {args args0 : List AV} {H0 : Heap} {R : AV → Heap → Prop} (μ : List (Nat × (Nat × Nat))) (hfn : Fn Tryz.prog g H0 args0 R)
    (h : ∀ r H1, R r H1 → nodupB H1 = true ∧ rwalk Tryz.prog (callA Tryz.prog) all id (i + 1) os (S.putc env d (renV (mu1 μ (nmOf id i)) r)) (afterH μ (nmOf id i) H H0 H1) K)
    (hs : args.all AV.fits = true ∧ args = args0.map (renA (aget μ)) ∧ matchH μ H H0 ∧ apartB μ H0 = true ∧ freeB H (nmOf id i) = true ∧ domB μ H0 = true ∧ nodupB H0 = true ∧ 100 ≤ nmOf id i := by
      simp only [List.toList_toArray, Rs_ok, Rs_pick, Rs_call, Rs_nilc, Gd_t, Gd_f, Rd_ok, Rd_pick, Rd_call, sv_n, sv_g, sv_c, sv_w, sr_n, sr_g, sr_c, sr_w, rwalk_cons, rdr_cons, rdr_nil, afterD, backOwnD, backNewD, setsH, killD, srcG, baseG, optG, bq1, bq2, bq3, bq4, List.take_replicate, Nat.min_self, Nat.min_eq_left, lim40, limB, IntWalk.i64_in, rwalk_nil, gA, res, three, rLoad, rStore, rInt, rStr, rBin, rNil, rLen, rSlice, rAppend, rMake, isInt, LV.rep, rCall, isSlice, sBuild, fillL, partsIn, ev_tmp, ev_const, ev_func, cv, cvc, optInt, S.put, S.putc, Env.get, aget, aset, stAll, baseOf, srcOf, lenOf?, killO, apartO, LV.app2, LV.app, LV.view, LV.mk, LV.rep, LV.z, LV.st, LV.lk, LV.ex, LV.len, LV.toL, allInts, allBools, allStrs, allBytes, allOps, cellsOf, AV.fits, isNil, tys, nmOf,
        renV, renA, renC, renL, renE, mu1, nwK, afterH, backOwn, backNew, Ent.isOwn, Ent.live, renDV, renDA, renD, renDL, renDE, selH, idOld_nil, idOld_cons, cns_t, cns_f, idRO, ros_nil, ros_cons, fillV, fillT, fillA, fillC,
        List.map_cons, List.map_nil, List.map_append, noN_renC, noN_renD, noN_len, List.filter_cons, List.filter_nil, List.append_nil, List.nil_append, List.cons_append, List.all_cons, List.all_nil, List.flatMap_cons, List.flatMap_nil, List.foldl_cons, List.foldl_nil, List.mapM_cons, List.mapM_nil, Option.pure_def, Option.bind_eq_bind, Option.bind_some,
        List.length_cons, List.length_nil, List.length_append, List.length_take, List.length_drop, List.length_replicate, List.length_set, List.length_map, List.drop_zero, List.drop_succ_cons, List.take_succ_cons, List.take_zero, List.take_length, List.take_nil, List.drop_nil, List.set_cons_zero, List.set_cons_succ, List.getD_cons_zero, List.getD_cons_succ, List.size_toArray,
        Option.getD_some, Option.getD_none, Option.map_some, Option.map_none, Option.isSome_some, List.getElem?_cons_zero, List.getElem?_cons_succ, List.getElem?_toArray, Nat.reduceEqDiff, Nat.reduceAdd, Nat.reduceSub, Nat.reduceMul, Nat.reduceDiv, Nat.reduceMod, opL, Nat.mul_mod_left, Nat.mul_mod_right, Nat.mul_div_cancel, Nat.mul_div_cancel_left, Nat.reduceLeDiff, Nat.reduceLT, Nat.reduceBEq, Nat.reduceBNe, Nat.zero_add, Nat.add_zero, Nat.mul_one, Nat.zero_mul, Nat.sub_zero, Nat.sub_self, Nat.le_refl, Nat.zero_le, Nat.not_lt_zero, Nat.lt_irrefl, Int.toNat_zero, Int.toNat_natCast, Int.natCast_zero, Int.le_refl,
        ↓reduceIte, if_true, if_false, true_and, and_true, and_self, and_assoc, cond_true, cond_false, decide_true, decide_false, decide_eq_true_eq, ← decide_not, Bool.not_true, Bool.not_false, Bool.true_and, Bool.and_true, Bool.false_and, Bool.and_false, Bool.or_false, Bool.false_or, Bool.or_true, Bool.true_or, Bool.and_eq_true, Bool.not_not, forall_const, true_implies, false_implies, implies_true, reduceCtorEq, ne_eq, not_true_eq_false, not_false_eq_true, Bool.false_eq_true, Bool.true_eq_false, bne_self_eq_false, beq_self_eq_true, eq_self_iff_true, matchH, match1, apartB, freeB, domB, nodupB, okRen, rosOk, tgtOk, ownAll, empOk, resA, resOne]) :
    CallK Tryz.prog (callA Tryz.prog) all id i os d env K g args H :=
  ⟨H0, args0, R, μ, hfn, hs.1, hs.2.1, hs.2.2.1, hs.2.2.2.1, hs.2.2.2.2.1, hs.2.2.2.2.2.1, hs.2.2.2.2.2.2.1, hs.2.2.2.2.2.2.2, h⟩
/-- A call of a function whose result and memory are told outright. -/
theorem CKe {all os : List Oper} {i g : Nat} {K : Env → Heap → Prop} {d : Option Tmp} {args args0 : List AV} {H0 H1 : Heap} {r : AV} {X : Prop} (μ : List (Nat × (Nat × Nat))) (hfn : Fn Tryz.prog g H0 args0 fun r' H' => r' = r ∧ H' = H1)
    (h : X)
    (hs : args.all AV.fits = true ∧ args = args0.map (renA (aget μ)) ∧ matchH μ H H0 ∧ apartB μ H0 = true ∧ freeB H (nmOf id i) = true ∧ domB μ H0 = true ∧ nodupB H0 = true ∧ 100 ≤ nmOf id i ∧ nodupB H1 = true := by
      simp only [List.toList_toArray, Rs_ok, Rs_pick, Rs_call, Rs_nilc, Gd_t, Gd_f, Rd_ok, Rd_pick, Rd_call, sv_n, sv_g, sv_c, sv_w, sr_n, sr_g, sr_c, sr_w, rwalk_cons, rdr_cons, rdr_nil, afterD, backOwnD, backNewD, setsH, killD, srcG, baseG, optG, bq1, bq2, bq3, bq4, List.take_replicate, Nat.min_self, Nat.min_eq_left, lim40, limB, IntWalk.i64_in, rwalk_nil, gA, res, three, rLoad, rStore, rInt, rStr, rBin, rNil, rLen, rSlice, rAppend, rMake, isInt, LV.rep, rCall, isSlice, sBuild, fillL, partsIn, ev_tmp, ev_const, ev_func, cv, cvc, optInt, S.put, S.putc, Env.get, aget, aset, stAll, baseOf, srcOf, lenOf?, killO, apartO, LV.app2, LV.app, LV.view, LV.mk, LV.rep, LV.z, LV.st, LV.lk, LV.ex, LV.len, LV.toL, allInts, allBools, allStrs, allBytes, allOps, cellsOf, AV.fits, isNil, tys, nmOf,
        renV, renA, renC, renL, renE, mu1, nwK, afterH, backOwn, backNew, Ent.isOwn, Ent.live, renDV, renDA, renD, renDL, renDE, selH, idOld_nil, idOld_cons, cns_t, cns_f, idRO, ros_nil, ros_cons, fillV, fillT, fillA, fillC,
        List.map_cons, List.map_nil, List.map_append, noN_renC, noN_renD, noN_len, List.filter_cons, List.filter_nil, List.append_nil, List.nil_append, List.cons_append, List.all_cons, List.all_nil, List.flatMap_cons, List.flatMap_nil, List.foldl_cons, List.foldl_nil, List.mapM_cons, List.mapM_nil, Option.pure_def, Option.bind_eq_bind, Option.bind_some,
        List.length_cons, List.length_nil, List.length_append, List.length_take, List.length_drop, List.length_replicate, List.length_set, List.length_map, List.drop_zero, List.drop_succ_cons, List.take_succ_cons, List.take_zero, List.take_length, List.take_nil, List.drop_nil, List.set_cons_zero, List.set_cons_succ, List.getD_cons_zero, List.getD_cons_succ, List.size_toArray,
        Option.getD_some, Option.getD_none, Option.map_some, Option.map_none, Option.isSome_some, List.getElem?_cons_zero, List.getElem?_cons_succ, List.getElem?_toArray, Nat.reduceEqDiff, Nat.reduceAdd, Nat.reduceSub, Nat.reduceMul, Nat.reduceDiv, Nat.reduceMod, opL, Nat.mul_mod_left, Nat.mul_mod_right, Nat.mul_div_cancel, Nat.mul_div_cancel_left, Nat.reduceLeDiff, Nat.reduceLT, Nat.reduceBEq, Nat.reduceBNe, Nat.zero_add, Nat.add_zero, Nat.mul_one, Nat.zero_mul, Nat.sub_zero, Nat.sub_self, Nat.le_refl, Nat.zero_le, Nat.not_lt_zero, Nat.lt_irrefl, Int.toNat_zero, Int.toNat_natCast, Int.natCast_zero, Int.le_refl,
        ↓reduceIte, if_true, if_false, true_and, and_true, and_self, and_assoc, cond_true, cond_false, decide_true, decide_false, decide_eq_true_eq, ← decide_not, Bool.not_true, Bool.not_false, Bool.true_and, Bool.and_true, Bool.false_and, Bool.and_false, Bool.or_false, Bool.false_or, Bool.or_true, Bool.true_or, Bool.and_eq_true, Bool.not_not, forall_const, true_implies, false_implies, implies_true, reduceCtorEq, ne_eq, not_true_eq_false, not_false_eq_true, Bool.false_eq_true, Bool.true_eq_false, bne_self_eq_false, beq_self_eq_true, eq_self_iff_true, matchH, match1, apartB, freeB, domB, nodupB, okRen, rosOk, tgtOk, ownAll, empOk, resA, resOne])
    (h0 : X → rwalk Tryz.prog (callA Tryz.prog) all id (i + 1) os (S.putc env d (renV (mu1 μ (nmOf id i)) r)) (afterH μ (nmOf id i) H H0 H1) K := by
      simp (maxSteps := 1000000) (disch := omega) only [List.toList_toArray, Rs_ok, Rs_pick, Rs_call, Rs_nilc, Gd_t, Gd_f, Rd_ok, Rd_pick, Rd_call, sv_n, sv_g, sv_c, sv_w, sr_n, sr_g, sr_c, sr_w, rwalk_cons, rdr_cons, rdr_nil, afterD, backOwnD, backNewD, setsH, killD, srcG, baseG, optG, bq1, bq2, bq3, bq4, List.take_replicate, Nat.min_self, Nat.min_eq_left, lim40, limB, IntWalk.i64_in, rwalk_nil, gA, res, three, rLoad, rStore, rInt, rStr, rBin, rNil, rLen, rSlice, rAppend, rMake, isInt, LV.rep, rCall, isSlice, sBuild, fillL, partsIn, ev_tmp, ev_const, ev_func, cv, cvc, optInt, S.put, S.putc, Env.get, aget, aset, stAll, baseOf, srcOf, lenOf?, killO, apartO, LV.app2, LV.app, LV.view, LV.mk, LV.rep, LV.z, LV.st, LV.lk, LV.ex, LV.len, LV.toL, allInts, allBools, allStrs, allBytes, allOps, cellsOf, AV.fits, isNil, tys, nmOf,
        renV, renA, renC, renL, renE, mu1, nwK, afterH, backOwn, backNew, Ent.isOwn, Ent.live, renDV, renDA, renD, renDL, renDE, selH, idOld_nil, idOld_cons, cns_t, cns_f, idRO, ros_nil, ros_cons, fillV, fillT, fillA, fillC,
        List.map_cons, List.map_nil, List.map_append, noN_renC, noN_renD, noN_len, List.filter_cons, List.filter_nil, List.append_nil, List.nil_append, List.cons_append, List.all_cons, List.all_nil, List.flatMap_cons, List.flatMap_nil, List.foldl_cons, List.foldl_nil, List.mapM_cons, List.mapM_nil, Option.pure_def, Option.bind_eq_bind, Option.bind_some,
        List.length_cons, List.length_nil, List.length_append, List.length_take, List.length_drop, List.length_replicate, List.length_set, List.length_map, List.drop_zero, List.drop_succ_cons, List.take_succ_cons, List.take_zero, List.take_length, List.take_nil, List.drop_nil, List.set_cons_zero, List.set_cons_succ, List.getD_cons_zero, List.getD_cons_succ, List.size_toArray,
        Option.getD_some, Option.getD_none, Option.map_some, Option.map_none, Option.isSome_some, List.getElem?_cons_zero, List.getElem?_cons_succ, List.getElem?_toArray, Nat.reduceEqDiff, Nat.reduceAdd, Nat.reduceSub, Nat.reduceMul, Nat.reduceDiv, Nat.reduceMod, opL, Nat.mul_mod_left, Nat.mul_mod_right, Nat.mul_div_cancel, Nat.mul_div_cancel_left, Nat.reduceLeDiff, Nat.reduceLT, Nat.reduceBEq, Nat.reduceBNe, Nat.zero_add, Nat.add_zero, Nat.mul_one, Nat.zero_mul, Nat.sub_zero, Nat.sub_self, Nat.le_refl, Nat.zero_le, Nat.not_lt_zero, Nat.lt_irrefl, Int.toNat_zero, Int.toNat_natCast, Int.natCast_zero, Int.le_refl,
        ↓reduceIte, if_true, if_false, true_and, and_true, and_self, and_assoc, cond_true, cond_false, decide_true, decide_false, decide_eq_true_eq, ← decide_not, Bool.not_true, Bool.not_false, Bool.true_and, Bool.and_true, Bool.false_and, Bool.and_false, Bool.or_false, Bool.false_or, Bool.or_true, Bool.true_or, Bool.and_eq_true, Bool.not_not, forall_const, true_implies, false_implies, implies_true, reduceCtorEq, ne_eq, not_true_eq_false, not_false_eq_true, Bool.false_eq_true, Bool.true_eq_false, bne_self_eq_false, beq_self_eq_true, eq_self_iff_true]
      exact _root_.id) :
    CallK Tryz.prog (callA Tryz.prog) all id i os d env K g args H :=
  CK μ hfn (by rintro _ _ ⟨rfl, rfl⟩; exact ⟨hs.2.2.2.2.2.2.2.2, h0 h⟩) ⟨hs.1, hs.2.1, hs.2.2.1, hs.2.2.2.1, hs.2.2.2.2.1, hs.2.2.2.2.2.1, hs.2.2.2.2.2.2.1, hs.2.2.2.2.2.2.2.1⟩
/-- Regions with calls whose contracts are told outright. -/
structure Tok (μ : List (Nat × (Nat × Nat))) : Prop where
theorem CKu {all os : List Oper} {i g : Nat} {K : Env → Heap → Prop} {d : Option Tmp} {args args0 : List AV} {H0 H1 : Heap} {r : AV} {μ : List (Nat × (Nat × Nat))} (_ : Tok μ) (hfn : Fn Tryz.prog g H0 args0 fun r' H' => r' = r ∧ H' = H1)
    (hs : args.all AV.fits = true ∧ args = args0.map (renA (aget μ)) ∧ matchH μ H H0 ∧ apartB μ H0 = true ∧ freeB H (nmOf id i) = true ∧ domB μ H0 = true ∧ nodupB H0 = true ∧ 100 ≤ nmOf id i ∧ nodupB H1 = true)
    (h : rwalk Tryz.prog (callA Tryz.prog) all id (i + 1) os (S.putc env d (renV (mu1 μ (nmOf id i)) r)) (afterH μ (nmOf id i) H H0 H1) K) : CallK Tryz.prog (callA Tryz.prog) all id i os d env K g args H :=
  CKe μ hfn h hs _root_.id
theorem CKv {all os : List Oper} {i g : Nat} {scr : List Scr} {K : Env → Heap → Prop} {d : Option Tmp} {args args0 : List AV} {H0 H1 : Heap} {r v : AV} {rd : List Nat} {dl : List (Nat × Ent)} {μ : List (Nat × (Nat × Nat))} (_ : Tok μ) (hfn : Fn Tryz.prog g H0 args0 fun r' H' => r' = r ∧ H' = H1)
    (e : rd = rdOf (nmOf id i) μ ∧ v = renV (mu1 μ (nmOf id i)) r ∧ dl = afterD μ (nmOf id i) H0 H1)
    (hs : args.all AV.fits = true ∧ args = args0.map (renA (aget μ)) ∧ matchH μ H H0 ∧ apartB μ H0 = true ∧ freeB H (nmOf id i) = true ∧ domB μ H0 = true ∧ nodupB H0 = true ∧ 100 ≤ nmOf id i ∧ nodupB H1 = true)
    (h : rdr Tryz.prog (callA Tryz.prog) all id (i + 1) os (S.put env d (renV (mu1 μ (nmOf id i)) r)) (setsH H (afterD μ (nmOf id i) H0 H1)) scr K) :
    CallKd Tryz.prog (callA Tryz.prog) all id i os d env scr K g args H rd v dl := by
  obtain ⟨rfl, rfl, rfl⟩ := e
  exact callKd_of hfn hs h
theorem CKx {all os : List Oper} {i g : Nat} {K : Env → Heap → Prop} {d : Option Tmp} {args args0 : List AV} {X : Type} {I : X → Prop} {H0 : Heap} {H1 : X → Heap} {r : X → AV} {μ : List (Nat × (Nat × Nat))} (_ : Tok μ) (hfn : Fn Tryz.prog g H0 args0 fun r' H' => ∃ x, I x ∧ r' = r x ∧ H' = H1 x)
    (hs : args.all AV.fits = true ∧ args = args0.map (renA (aget μ)) ∧ matchH μ H H0 ∧ apartB μ H0 = true ∧ freeB H (nmOf id i) = true ∧ domB μ H0 = true ∧ nodupB H0 = true ∧ 100 ≤ nmOf id i)
    (hn : ∀ x, nodupB (H1 x) = true)
    (h : ∀ x, I x → rwalk Tryz.prog (callA Tryz.prog) all id (i + 1) os (S.putc env d (renV (mu1 μ (nmOf id i)) (r x))) (afterH μ (nmOf id i) H H0 (H1 x)) K) : CallK Tryz.prog (callA Tryz.prog) all id i os d env K g args H :=
  CK μ hfn (by rintro _ _ ⟨x, hx, rfl, rfl⟩; exact ⟨hn x, h x hx⟩) hs
/-- A region with one call whose outcome is told of some x. -/
theorem W_ce {g0 : Nat} {a0 : List AV} {P0 : Heap} {X : Type} {I : X → Prop} {Q0 : X → Heap} {r0 : X → AV} {ee : X → Env} {hh : X → Heap} (μ0 : List (Nat × (Nat × Nat))) (f0 : Fn Tryz.prog g0 P0 a0 fun r' H' => ∃ x, I x ∧ r' = r0 x ∧ H' = Q0 x)
    (h : ∀ x, I x → Wp D nt ks (ee x) (hh x) R)
    (h0 : Tok μ0 → (Fn Tryz.prog g0 P0 a0 fun r' H' => ∃ x, I x ∧ r' = r0 x ∧ H' = Q0 x) → ∀ K : Env → Heap → Prop, Hold (∀ x, I x → K (ee x) (hh x)) → rwalk Tryz.prog (callA Tryz.prog) ops.toList id 0 ops.toList env H K := by
      intro m0 f0 K hK
      simp (maxSteps := 1000000) (disch := omega) only [List.toList_toArray, Rs_ok, Rs_pick, Rs_call, Rs_nilc, Gd_t, Gd_f, Rd_ok, Rd_pick, Rd_call, sv_n, sv_g, sv_c, sv_w, sr_n, sr_g, sr_c, sr_w, rwalk_cons, rdr_cons, rdr_nil, afterD, backOwnD, backNewD, setsH, killD, srcG, baseG, optG, bq1, bq2, bq3, bq4, List.take_replicate, Nat.min_self, Nat.min_eq_left, lim40, limB, IntWalk.i64_in, rwalk_nil, gA, res, three, rLoad, rStore, rInt, rStr, rBin, rNil, rLen, rSlice, rAppend, rMake, isInt, LV.rep, rCall, isSlice, sBuild, fillL, partsIn, ev_tmp, ev_const, ev_func, cv, cvc, optInt, S.put, S.putc, Env.get, aget, aset, stAll, baseOf, srcOf, lenOf?, killO, apartO, LV.app2, LV.app, LV.view, LV.mk, LV.rep, LV.z, LV.st, LV.lk, LV.ex, LV.len, LV.toL, allInts, allBools, allStrs, allBytes, allOps, cellsOf, AV.fits, isNil, tys, nmOf,
        renV, renA, renC, renL, renE, mu1, nwK, afterH, backOwn, backNew, Ent.isOwn, Ent.live, renDV, renDA, renD, renDL, renDE, selH, idOld_nil, idOld_cons, cns_t, cns_f, idRO, ros_nil, ros_cons, fillV, fillT, fillA, fillC,
        List.map_cons, List.map_nil, List.map_append, noN_renC, noN_renD, noN_len, List.filter_cons, List.filter_nil, List.append_nil, List.nil_append, List.cons_append, List.all_cons, List.all_nil, List.flatMap_cons, List.flatMap_nil, List.foldl_cons, List.foldl_nil, List.mapM_cons, List.mapM_nil, Option.pure_def, Option.bind_eq_bind, Option.bind_some,
        List.length_cons, List.length_nil, List.length_append, List.length_take, List.length_drop, List.length_replicate, List.length_set, List.length_map, List.drop_zero, List.drop_succ_cons, List.take_succ_cons, List.take_zero, List.take_length, List.take_nil, List.drop_nil, List.set_cons_zero, List.set_cons_succ, List.getD_cons_zero, List.getD_cons_succ, List.size_toArray,
        Option.getD_some, Option.getD_none, Option.map_some, Option.map_none, Option.isSome_some, List.getElem?_cons_zero, List.getElem?_cons_succ, List.getElem?_toArray, Nat.reduceEqDiff, Nat.reduceAdd, Nat.reduceSub, Nat.reduceMul, Nat.reduceDiv, Nat.reduceMod, opL, Nat.mul_mod_left, Nat.mul_mod_right, Nat.mul_div_cancel, Nat.mul_div_cancel_left, Nat.reduceLeDiff, Nat.reduceLT, Nat.reduceBEq, Nat.reduceBNe, Nat.zero_add, Nat.add_zero, Nat.mul_one, Nat.zero_mul, Nat.sub_zero, Nat.sub_self, Nat.le_refl, Nat.zero_le, Nat.not_lt_zero, Nat.lt_irrefl, Int.toNat_zero, Int.toNat_natCast, Int.natCast_zero, Int.le_refl,
        ↓reduceIte, if_true, if_false, true_and, and_true, and_self, and_assoc, cond_true, cond_false, decide_true, decide_false, decide_eq_true_eq, ← decide_not, Bool.not_true, Bool.not_false, Bool.true_and, Bool.and_true, Bool.false_and, Bool.and_false, Bool.or_false, Bool.false_or, Bool.or_true, Bool.true_or, Bool.and_eq_true, Bool.not_not, forall_const, true_implies, false_implies, implies_true, reduceCtorEq, ne_eq, not_true_eq_false, not_false_eq_true, Bool.false_eq_true, Bool.true_eq_false, bne_self_eq_false, beq_self_eq_true, eq_self_iff_true]
      repeat (refine And.intro (by omega) ?_)
      refine CKx m0 f0 ?_ (fun x => ?_) (fun x hx => ?_)
      · simp only [List.toList_toArray, Rs_ok, Rs_pick, Rs_call, Rs_nilc, Gd_t, Gd_f, Rd_ok, Rd_pick, Rd_call, sv_n, sv_g, sv_c, sv_w, sr_n, sr_g, sr_c, sr_w, rwalk_cons, rdr_cons, rdr_nil, afterD, backOwnD, backNewD, setsH, killD, srcG, baseG, optG, bq1, bq2, bq3, bq4, List.take_replicate, Nat.min_self, Nat.min_eq_left, lim40, limB, IntWalk.i64_in, rwalk_nil, gA, res, three, rLoad, rStore, rInt, rStr, rBin, rNil, rLen, rSlice, rAppend, rMake, isInt, LV.rep, rCall, isSlice, sBuild, fillL, partsIn, ev_tmp, ev_const, ev_func, cv, cvc, optInt, S.put, S.putc, Env.get, aget, aset, stAll, baseOf, srcOf, lenOf?, killO, apartO, LV.app2, LV.app, LV.view, LV.mk, LV.rep, LV.z, LV.st, LV.lk, LV.ex, LV.len, LV.toL, allInts, allBools, allStrs, allBytes, allOps, cellsOf, AV.fits, isNil, tys, nmOf,
        renV, renA, renC, renL, renE, mu1, nwK, afterH, backOwn, backNew, Ent.isOwn, Ent.live, renDV, renDA, renD, renDL, renDE, selH, idOld_nil, idOld_cons, cns_t, cns_f, idRO, ros_nil, ros_cons, fillV, fillT, fillA, fillC,
        List.map_cons, List.map_nil, List.map_append, noN_renC, noN_renD, noN_len, List.filter_cons, List.filter_nil, List.append_nil, List.nil_append, List.cons_append, List.all_cons, List.all_nil, List.flatMap_cons, List.flatMap_nil, List.foldl_cons, List.foldl_nil, List.mapM_cons, List.mapM_nil, Option.pure_def, Option.bind_eq_bind, Option.bind_some,
        List.length_cons, List.length_nil, List.length_append, List.length_take, List.length_drop, List.length_replicate, List.length_set, List.length_map, List.drop_zero, List.drop_succ_cons, List.take_succ_cons, List.take_zero, List.take_length, List.take_nil, List.drop_nil, List.set_cons_zero, List.set_cons_succ, List.getD_cons_zero, List.getD_cons_succ, List.size_toArray,
        Option.getD_some, Option.getD_none, Option.map_some, Option.map_none, Option.isSome_some, List.getElem?_cons_zero, List.getElem?_cons_succ, List.getElem?_toArray, Nat.reduceEqDiff, Nat.reduceAdd, Nat.reduceSub, Nat.reduceMul, Nat.reduceDiv, Nat.reduceMod, opL, Nat.mul_mod_left, Nat.mul_mod_right, Nat.mul_div_cancel, Nat.mul_div_cancel_left, Nat.reduceLeDiff, Nat.reduceLT, Nat.reduceBEq, Nat.reduceBNe, Nat.zero_add, Nat.add_zero, Nat.mul_one, Nat.zero_mul, Nat.sub_zero, Nat.sub_self, Nat.le_refl, Nat.zero_le, Nat.not_lt_zero, Nat.lt_irrefl, Int.toNat_zero, Int.toNat_natCast, Int.natCast_zero, Int.le_refl,
        ↓reduceIte, if_true, if_false, true_and, and_true, and_self, and_assoc, cond_true, cond_false, decide_true, decide_false, decide_eq_true_eq, ← decide_not, Bool.not_true, Bool.not_false, Bool.true_and, Bool.and_true, Bool.false_and, Bool.and_false, Bool.or_false, Bool.false_or, Bool.or_true, Bool.true_or, Bool.and_eq_true, Bool.not_not, forall_const, true_implies, false_implies, implies_true, reduceCtorEq, ne_eq, not_true_eq_false, not_false_eq_true, Bool.false_eq_true, Bool.true_eq_false, bne_self_eq_false, beq_self_eq_true, eq_self_iff_true, matchH, match1, apartB, freeB, domB, nodupB, okRen, rosOk, tgtOk, ownAll, empOk, resA, resOne]
        try omega
      · rfl
      simp (maxSteps := 1000000) (disch := omega) only [List.toList_toArray, Rs_ok, Rs_pick, Rs_call, Rs_nilc, Gd_t, Gd_f, Rd_ok, Rd_pick, Rd_call, sv_n, sv_g, sv_c, sv_w, sr_n, sr_g, sr_c, sr_w, rwalk_cons, rdr_cons, rdr_nil, afterD, backOwnD, backNewD, setsH, killD, srcG, baseG, optG, bq1, bq2, bq3, bq4, List.take_replicate, Nat.min_self, Nat.min_eq_left, lim40, limB, IntWalk.i64_in, rwalk_nil, gA, res, three, rLoad, rStore, rInt, rStr, rBin, rNil, rLen, rSlice, rAppend, rMake, isInt, LV.rep, rCall, isSlice, sBuild, fillL, partsIn, ev_tmp, ev_const, ev_func, cv, cvc, optInt, S.put, S.putc, Env.get, aget, aset, stAll, baseOf, srcOf, lenOf?, killO, apartO, LV.app2, LV.app, LV.view, LV.mk, LV.rep, LV.z, LV.st, LV.lk, LV.ex, LV.len, LV.toL, allInts, allBools, allStrs, allBytes, allOps, cellsOf, AV.fits, isNil, tys, nmOf,
        renV, renA, renC, renL, renE, mu1, nwK, afterH, backOwn, backNew, Ent.isOwn, Ent.live, renDV, renDA, renD, renDL, renDE, selH, idOld_nil, idOld_cons, cns_t, cns_f, idRO, ros_nil, ros_cons, fillV, fillT, fillA, fillC,
        List.map_cons, List.map_nil, List.map_append, noN_renC, noN_renD, noN_len, List.filter_cons, List.filter_nil, List.append_nil, List.nil_append, List.cons_append, List.all_cons, List.all_nil, List.flatMap_cons, List.flatMap_nil, List.foldl_cons, List.foldl_nil, List.mapM_cons, List.mapM_nil, Option.pure_def, Option.bind_eq_bind, Option.bind_some,
        List.length_cons, List.length_nil, List.length_append, List.length_take, List.length_drop, List.length_replicate, List.length_set, List.length_map, List.drop_zero, List.drop_succ_cons, List.take_succ_cons, List.take_zero, List.take_length, List.take_nil, List.drop_nil, List.set_cons_zero, List.set_cons_succ, List.getD_cons_zero, List.getD_cons_succ, List.size_toArray,
        Option.getD_some, Option.getD_none, Option.map_some, Option.map_none, Option.isSome_some, List.getElem?_cons_zero, List.getElem?_cons_succ, List.getElem?_toArray, Nat.reduceEqDiff, Nat.reduceAdd, Nat.reduceSub, Nat.reduceMul, Nat.reduceDiv, Nat.reduceMod, opL, Nat.mul_mod_left, Nat.mul_mod_right, Nat.mul_div_cancel, Nat.mul_div_cancel_left, Nat.reduceLeDiff, Nat.reduceLT, Nat.reduceBEq, Nat.reduceBNe, Nat.zero_add, Nat.add_zero, Nat.mul_one, Nat.zero_mul, Nat.sub_zero, Nat.sub_self, Nat.le_refl, Nat.zero_le, Nat.not_lt_zero, Nat.lt_irrefl, Int.toNat_zero, Int.toNat_natCast, Int.natCast_zero, Int.le_refl,
        ↓reduceIte, if_true, if_false, true_and, and_true, and_self, and_assoc, cond_true, cond_false, decide_true, decide_false, decide_eq_true_eq, ← decide_not, Bool.not_true, Bool.not_false, Bool.true_and, Bool.and_true, Bool.false_and, Bool.and_false, Bool.or_false, Bool.false_or, Bool.or_true, Bool.true_or, Bool.and_eq_true, Bool.not_not, forall_const, true_implies, false_implies, implies_true, reduceCtorEq, ne_eq, not_true_eq_false, not_false_eq_true, Bool.false_eq_true, Bool.true_eq_false, bne_self_eq_false, beq_self_eq_true, eq_self_iff_true]
      repeat (refine And.intro (by omega) ?_)
      exact hK.told x hx) :
    Wp D nt (.code (.region id ops false) :: ks) env H R :=
  W_rw fun K hK => h0 ⟨⟩ f0 K ⟨fun x hx => hK _ _ (h x hx)⟩

/-- A branch on a decided proposition. -/
theorem W_if {p : Prop} {dp : Decidable p} {c : Operand} {x y : Code} (h1 : p → Wp D nt (.code x :: ks) env H R) (h2 : ¬ p → Wp D nt (.code y :: ks) env H R)
    (hb : ev env c = .bool (@decide p dp) := by
      simp only [ev_tmp, ev_const, cv, cvc, Env.get, aget, Nat.reduceEqDiff, ↓reduceIte, Option.getD_some, ← decide_not]
      rfl) : Wp D nt (.code (.cond c x y) :: ks) env H R :=
  W_cond hb (fun e => h1 (of_decide_eq_true e)) (fun e => h2 (of_decide_eq_false e))
theorem W_ifb {b : Bool} {c : Operand} {x y : Code} (h1 : b = true → Wp D nt (.code x :: ks) env H R) (h2 : b = false → Wp D nt (.code y :: ks) env H R)
    (hb : ev env c = .bool b := by
      simp only [ev_tmp, ev_const, cv, cvc, Env.get, aget, Nat.reduceEqDiff, ↓reduceIte, Option.getD_some, ← decide_not]
      rfl) : Wp D nt (.code (.cond c x y) :: ks) env H R :=
  W_cond hb h1 h2
theorem W_ift {c : Operand} {x y : Code} (h1 : Wp D nt (.code x :: ks) env H R)
    (hb : ev env c = .bool true := by simp only [ev_tmp, ev_const, cv, cvc, Env.get, aget, Nat.reduceEqDiff, ↓reduceIte, Option.getD_some]) : Wp D nt (.code (.cond c x y) :: ks) env H R :=
  W_cond hb (fun _ => h1) (fun e => nomatch e)
theorem W_iff {c : Operand} {x y : Code} (h1 : Wp D nt (.code y :: ks) env H R)
    (hb : ev env c = .bool false := by simp only [ev_tmp, ev_const, cv, cvc, Env.get, aget, Nat.reduceEqDiff, ↓reduceIte, Option.getD_some]) : Wp D nt (.code (.cond c x y) :: ks) env H R :=
  W_cond hb (fun e => nomatch e) (fun _ => h1)
theorem W_ex {e : Nat} {ks' : List It} (h : Wp D nt ks' env H R) (hp : popTo e ks = some ks' := by simp only [popTo, Nat.reduceEqDiff, ↓reduceIte]; rfl) : Wp D nt (.code (.exit e) :: ks) env H R := W_exit hp h
/-- A loop. Slots from T on are forgotten; the slots of `me` and the entries of `mh` change. -/
theorem W_lp {σ : Type} {E : σ → Env} {Hs : σ → Heap} {c : Code} (T : Nat) (me : σ → List (Nat × AV)) (mh : σ → List (Nat × Ent)) (inv : σ → Prop) (m : σ → Nat) (s0 : σ) (h0 : inv s0)
    (h : ∀ s, inv s → Wp D nt (.code c :: .back (Back inv m E Hs s) :: ks) (E s) (Hs s) R)
    (hE : ∀ s, E s = setsE (ltE T env) (me s) := by
      intro s
      simp (maxSteps := 1000000) only [setsE, aset, ltE, cns_t, cns_f, Nat.reduceEqDiff, Nat.reduceLT, ↓reduceIte, decide_true, decide_false, Bool.false_eq_true]
      rfl)
    (hH : ∀ s, Hs s = setsH H (mh s) := by
      intro s
      simp only [setsH, aset, Nat.reduceEqDiff, ↓reduceIte]
      rfl)
    (hl : EnvLe (E s0) env := by
      simp (maxSteps := 1000000) (disch := omega) only [EnvLe, IntWalk.i64_in, nat0, natS, Int.add_zero, AV.int.injEq, AV.sl.injEq, Env.get, aget, Nat.reduceEqDiff, ↓reduceIte, Option.getD_some, Option.getD_none, true_and, and_true, and_self, List.length_nil, List.length_cons, List.length_append, List.length_set, List.length_take, List.length_drop]
      try first | done | rfl | omega)
    (hh : H = Hs s0 := by rfl) : Wp D nt (.code (.loop c) :: ks) env H R := W_lp0 inv m s0 h0 h hl hh
/-- The end of a round. -/
theorem W_bk {σ : Type} {E : σ → Env} {Hs : σ → Heap} {inv : σ → Prop} {m : σ → Nat} {s : σ} (s' : σ) (h1 : inv s') (h2 : m s' < m s)
    (hl : EnvLe (E s') env := by
      simp (maxSteps := 1000000) (disch := omega) only [EnvLe, IntWalk.i64_in, nat0, natS, Int.add_zero, AV.int.injEq, AV.sl.injEq, Env.get, aget, Nat.reduceEqDiff, ↓reduceIte, Option.getD_some, Option.getD_none, true_and, and_true, and_self, List.length_nil, List.length_cons, List.length_append, List.length_set, List.length_take, List.length_drop]
      try first | done | rfl | omega)
    (hh : H = Hs s' := by rfl) : Wp D nt (.back (Back inv m E Hs s) :: ks) env H R := W_back ⟨s', h1, h2, hl, hh⟩
/-- The end of a round, where memory's agreement is shown by hand. -/
theorem W_bh {σ : Type} {E : σ → Env} {Hs : σ → Heap} {inv : σ → Prop} {m : σ → Nat} {s : σ} (s' : σ) (h1 : inv s') (h2 : m s' < m s) (hh : H = Hs s')
    (hl : EnvLe (E s') env := by
      simp (maxSteps := 1000000) (disch := omega) only [EnvLe, IntWalk.i64_in, nat0, natS, Int.add_zero, AV.int.injEq, AV.sl.injEq, Env.get, aget, Nat.reduceEqDiff, ↓reduceIte, Option.getD_some, Option.getD_none, true_and, and_true, and_self, List.length_nil, List.length_cons, List.length_append, List.length_set, List.length_take, List.length_drop]
      try first | done | rfl | omega) : Wp D nt (.back (Back inv m E Hs s) :: ks) env H R := W_back ⟨s', h1, h2, hl, hh⟩
/-- Ways that meet again behind a piece of code. Slots from T on are forgotten; the slots of `me` and the entries of `mh` change. -/
theorem W_jn {σ : Type} {E : σ → Env} {Hs : σ → Heap} {c : Code} (T : Nat) (me : σ → List (Nat × AV)) (mh : σ → List (Nat × Ent)) (inv : σ → Prop)
    (h : Wp D nt (.code c :: .back (Join inv E Hs) :: ks) env H R)
    (k : ∀ s, inv s → Wp D nt ks (E s) (Hs s) R)
    (hE : ∀ s, E s = setsE (ltE T env) (me s) := by
      intro s
      simp (maxSteps := 1000000) only [setsE, aset, ltE, cns_t, cns_f, Nat.reduceEqDiff, Nat.reduceLT, ↓reduceIte, decide_true, decide_false, Bool.false_eq_true]
      rfl)
    (hH : ∀ s, Hs s = setsH H (mh s) := by
      intro s
      simp only [setsH, aset, Nat.reduceEqDiff, ↓reduceIte]
      rfl) : Wp D nt (.code c :: ks) env H R := W_jn0 h k
/-- A way's end at a meeting. -/
theorem W_bj {σ : Type} {E : σ → Env} {Hs : σ → Heap} {inv : σ → Prop} (s' : σ) (h1 : inv s')
    (hl : EnvLe (E s') env := by
      simp (maxSteps := 1000000) (disch := omega) only [EnvLe, IntWalk.i64_in, nat0, natS, Int.add_zero, AV.int.injEq, AV.sl.injEq, Env.get, aget, Nat.reduceEqDiff, ↓reduceIte, Option.getD_some, Option.getD_none, true_and, and_true, and_self, List.length_nil, List.length_cons, List.length_append, List.length_set, List.length_take, List.length_drop]
      try first | done | rfl | omega)
    (hh : H = Hs s' := by rfl) : Wp D nt (.back (Join inv E Hs) :: ks) env H R := W_back ⟨s', h1, hl, hh⟩
/-- Names anew. -/
theorem W_rn (ρ : Rho) (h : Wp D nt ks env' H' R)
    (hok : okRen H (idOld H ++ ρ) = true := by
      first
        | rfl
        | (simp only [List.toList_toArray, Rs_ok, Rs_pick, Rs_call, Rs_nilc, Gd_t, Gd_f, Rd_ok, Rd_pick, Rd_call, sv_n, sv_g, sv_c, sv_w, sr_n, sr_g, sr_c, sr_w, rwalk_cons, rdr_cons, rdr_nil, afterD, backOwnD, backNewD, setsH, killD, srcG, baseG, optG, bq1, bq2, bq3, bq4, List.take_replicate, Nat.min_self, Nat.min_eq_left, lim40, limB, IntWalk.i64_in, rwalk_nil, gA, res, three, rLoad, rStore, rInt, rStr, rBin, rNil, rLen, rSlice, rAppend, rMake, isInt, LV.rep, rCall, isSlice, sBuild, fillL, partsIn, ev_tmp, ev_const, ev_func, cv, cvc, optInt, S.put, S.putc, Env.get, aget, aset, stAll, baseOf, srcOf, lenOf?, killO, apartO, LV.app2, LV.app, LV.view, LV.mk, LV.rep, LV.z, LV.st, LV.lk, LV.ex, LV.len, LV.toL, allInts, allBools, allStrs, allBytes, allOps, cellsOf, AV.fits, isNil, tys, nmOf,
        renV, renA, renC, renL, renE, mu1, nwK, afterH, backOwn, backNew, Ent.isOwn, Ent.live, renDV, renDA, renD, renDL, renDE, selH, idOld_nil, idOld_cons, cns_t, cns_f, idRO, ros_nil, ros_cons, fillV, fillT, fillA, fillC,
        List.map_cons, List.map_nil, List.map_append, noN_renC, noN_renD, noN_len, List.filter_cons, List.filter_nil, List.append_nil, List.nil_append, List.cons_append, List.all_cons, List.all_nil, List.flatMap_cons, List.flatMap_nil, List.foldl_cons, List.foldl_nil, List.mapM_cons, List.mapM_nil, Option.pure_def, Option.bind_eq_bind, Option.bind_some,
        List.length_cons, List.length_nil, List.length_append, List.length_take, List.length_drop, List.length_replicate, List.length_set, List.length_map, List.drop_zero, List.drop_succ_cons, List.take_succ_cons, List.take_zero, List.take_length, List.take_nil, List.drop_nil, List.set_cons_zero, List.set_cons_succ, List.getD_cons_zero, List.getD_cons_succ, List.size_toArray,
        Option.getD_some, Option.getD_none, Option.map_some, Option.map_none, Option.isSome_some, List.getElem?_cons_zero, List.getElem?_cons_succ, List.getElem?_toArray, Nat.reduceEqDiff, Nat.reduceAdd, Nat.reduceSub, Nat.reduceMul, Nat.reduceDiv, Nat.reduceMod, opL, Nat.mul_mod_left, Nat.mul_mod_right, Nat.mul_div_cancel, Nat.mul_div_cancel_left, Nat.reduceLeDiff, Nat.reduceLT, Nat.reduceBEq, Nat.reduceBNe, Nat.zero_add, Nat.add_zero, Nat.mul_one, Nat.zero_mul, Nat.sub_zero, Nat.sub_self, Nat.le_refl, Nat.zero_le, Nat.not_lt_zero, Nat.lt_irrefl, Int.toNat_zero, Int.toNat_natCast, Int.natCast_zero, Int.le_refl,
        ↓reduceIte, if_true, if_false, true_and, and_true, and_self, and_assoc, cond_true, cond_false, decide_true, decide_false, decide_eq_true_eq, ← decide_not, Bool.not_true, Bool.not_false, Bool.true_and, Bool.and_true, Bool.false_and, Bool.and_false, Bool.or_false, Bool.false_or, Bool.or_true, Bool.true_or, Bool.and_eq_true, Bool.not_not, forall_const, true_implies, false_implies, implies_true, reduceCtorEq, ne_eq, not_true_eq_false, not_false_eq_true, Bool.false_eq_true, Bool.true_eq_false, bne_self_eq_false, beq_self_eq_true, eq_self_iff_true, matchH, match1, apartB, freeB, domB, nodupB, okRen, rosOk, tgtOk, ownAll, empOk, resA, resOne]
           try exact decide_eq_true (by omega)))
    (hE : (env.map fun p => (p.1, renDV (idOld H ++ ρ) p.2)) = env' := by
      simp (maxSteps := 1000000) (disch := omega) only [List.toList_toArray, Rs_ok, Rs_pick, Rs_call, Rs_nilc, Gd_t, Gd_f, Rd_ok, Rd_pick, Rd_call, sv_n, sv_g, sv_c, sv_w, sr_n, sr_g, sr_c, sr_w, rwalk_cons, rdr_cons, rdr_nil, afterD, backOwnD, backNewD, setsH, killD, srcG, baseG, optG, bq1, bq2, bq3, bq4, List.take_replicate, Nat.min_self, Nat.min_eq_left, lim40, limB, IntWalk.i64_in, rwalk_nil, gA, res, three, rLoad, rStore, rInt, rStr, rBin, rNil, rLen, rSlice, rAppend, rMake, isInt, LV.rep, rCall, isSlice, sBuild, fillL, partsIn, ev_tmp, ev_const, ev_func, cv, cvc, optInt, S.put, S.putc, Env.get, aget, aset, stAll, baseOf, srcOf, lenOf?, killO, apartO, LV.app2, LV.app, LV.view, LV.mk, LV.rep, LV.z, LV.st, LV.lk, LV.ex, LV.len, LV.toL, allInts, allBools, allStrs, allBytes, allOps, cellsOf, AV.fits, isNil, tys, nmOf,
        renV, renA, renC, renL, renE, mu1, nwK, afterH, backOwn, backNew, Ent.isOwn, Ent.live, renDV, renDA, renD, renDL, renDE, selH, idOld_nil, idOld_cons, cns_t, cns_f, idRO, ros_nil, ros_cons, fillV, fillT, fillA, fillC,
        List.map_cons, List.map_nil, List.map_append, noN_renC, noN_renD, noN_len, List.filter_cons, List.filter_nil, List.append_nil, List.nil_append, List.cons_append, List.all_cons, List.all_nil, List.flatMap_cons, List.flatMap_nil, List.foldl_cons, List.foldl_nil, List.mapM_cons, List.mapM_nil, Option.pure_def, Option.bind_eq_bind, Option.bind_some,
        List.length_cons, List.length_nil, List.length_append, List.length_take, List.length_drop, List.length_replicate, List.length_set, List.length_map, List.drop_zero, List.drop_succ_cons, List.take_succ_cons, List.take_zero, List.take_length, List.take_nil, List.drop_nil, List.set_cons_zero, List.set_cons_succ, List.getD_cons_zero, List.getD_cons_succ, List.size_toArray,
        Option.getD_some, Option.getD_none, Option.map_some, Option.map_none, Option.isSome_some, List.getElem?_cons_zero, List.getElem?_cons_succ, List.getElem?_toArray, Nat.reduceEqDiff, Nat.reduceAdd, Nat.reduceSub, Nat.reduceMul, Nat.reduceDiv, Nat.reduceMod, opL, Nat.mul_mod_left, Nat.mul_mod_right, Nat.mul_div_cancel, Nat.mul_div_cancel_left, Nat.reduceLeDiff, Nat.reduceLT, Nat.reduceBEq, Nat.reduceBNe, Nat.zero_add, Nat.add_zero, Nat.mul_one, Nat.zero_mul, Nat.sub_zero, Nat.sub_self, Nat.le_refl, Nat.zero_le, Nat.not_lt_zero, Nat.lt_irrefl, Int.toNat_zero, Int.toNat_natCast, Int.natCast_zero, Int.le_refl,
        ↓reduceIte, if_true, if_false, true_and, and_true, and_self, and_assoc, cond_true, cond_false, decide_true, decide_false, decide_eq_true_eq, ← decide_not, Bool.not_true, Bool.not_false, Bool.true_and, Bool.and_true, Bool.false_and, Bool.and_false, Bool.or_false, Bool.false_or, Bool.or_true, Bool.true_or, Bool.and_eq_true, Bool.not_not, forall_const, true_implies, false_implies, implies_true, reduceCtorEq, ne_eq, not_true_eq_false, not_false_eq_true, Bool.false_eq_true, Bool.true_eq_false, bne_self_eq_false, beq_self_eq_true, eq_self_iff_true]
      try rfl)
    (hH : selH (idOld H ++ ρ) H (idOld H ++ ρ) = H' := by
      simp (maxSteps := 1000000) (disch := omega) only [List.toList_toArray, Rs_ok, Rs_pick, Rs_call, Rs_nilc, Gd_t, Gd_f, Rd_ok, Rd_pick, Rd_call, sv_n, sv_g, sv_c, sv_w, sr_n, sr_g, sr_c, sr_w, rwalk_cons, rdr_cons, rdr_nil, afterD, backOwnD, backNewD, setsH, killD, srcG, baseG, optG, bq1, bq2, bq3, bq4, List.take_replicate, Nat.min_self, Nat.min_eq_left, lim40, limB, IntWalk.i64_in, rwalk_nil, gA, res, three, rLoad, rStore, rInt, rStr, rBin, rNil, rLen, rSlice, rAppend, rMake, isInt, LV.rep, rCall, isSlice, sBuild, fillL, partsIn, ev_tmp, ev_const, ev_func, cv, cvc, optInt, S.put, S.putc, Env.get, aget, aset, stAll, baseOf, srcOf, lenOf?, killO, apartO, LV.app2, LV.app, LV.view, LV.mk, LV.rep, LV.z, LV.st, LV.lk, LV.ex, LV.len, LV.toL, allInts, allBools, allStrs, allBytes, allOps, cellsOf, AV.fits, isNil, tys, nmOf,
        renV, renA, renC, renL, renE, mu1, nwK, afterH, backOwn, backNew, Ent.isOwn, Ent.live, renDV, renDA, renD, renDL, renDE, selH, idOld_nil, idOld_cons, cns_t, cns_f, idRO, ros_nil, ros_cons, fillV, fillT, fillA, fillC,
        List.map_cons, List.map_nil, List.map_append, noN_renC, noN_renD, noN_len, List.filter_cons, List.filter_nil, List.append_nil, List.nil_append, List.cons_append, List.all_cons, List.all_nil, List.flatMap_cons, List.flatMap_nil, List.foldl_cons, List.foldl_nil, List.mapM_cons, List.mapM_nil, Option.pure_def, Option.bind_eq_bind, Option.bind_some,
        List.length_cons, List.length_nil, List.length_append, List.length_take, List.length_drop, List.length_replicate, List.length_set, List.length_map, List.drop_zero, List.drop_succ_cons, List.take_succ_cons, List.take_zero, List.take_length, List.take_nil, List.drop_nil, List.set_cons_zero, List.set_cons_succ, List.getD_cons_zero, List.getD_cons_succ, List.size_toArray,
        Option.getD_some, Option.getD_none, Option.map_some, Option.map_none, Option.isSome_some, List.getElem?_cons_zero, List.getElem?_cons_succ, List.getElem?_toArray, Nat.reduceEqDiff, Nat.reduceAdd, Nat.reduceSub, Nat.reduceMul, Nat.reduceDiv, Nat.reduceMod, opL, Nat.mul_mod_left, Nat.mul_mod_right, Nat.mul_div_cancel, Nat.mul_div_cancel_left, Nat.reduceLeDiff, Nat.reduceLT, Nat.reduceBEq, Nat.reduceBNe, Nat.zero_add, Nat.add_zero, Nat.mul_one, Nat.zero_mul, Nat.sub_zero, Nat.sub_self, Nat.le_refl, Nat.zero_le, Nat.not_lt_zero, Nat.lt_irrefl, Int.toNat_zero, Int.toNat_natCast, Int.natCast_zero, Int.le_refl,
        ↓reduceIte, if_true, if_false, true_and, and_true, and_self, and_assoc, cond_true, cond_false, decide_true, decide_false, decide_eq_true_eq, ← decide_not, Bool.not_true, Bool.not_false, Bool.true_and, Bool.and_true, Bool.false_and, Bool.and_false, Bool.or_false, Bool.false_or, Bool.or_true, Bool.true_or, Bool.and_eq_true, Bool.not_not, forall_const, true_implies, false_implies, implies_true, reduceCtorEq, ne_eq, not_true_eq_false, not_false_eq_true, Bool.false_eq_true, Bool.true_eq_false, bne_self_eq_false, beq_self_eq_true, eq_self_iff_true]
      try rfl) : Wp D nt ks env H R := W_ren ρ hok (by rw [hE, hH]; exact h)
/-- Slots told twice are told once. -/
theorem W_dd (h : Wp D nt ks env' H R)
    (hE : dd env = env' := by
      simp (maxSteps := 1000000) only [dd, noE, cns_t, cns_f, List.elem_cons, List.elem_nil, Nat.reduceBEq, Bool.not_true, Bool.not_false, bm_t, bm_f]
      try rfl) : Wp D nt ks env H R :=
  W_le' _ (EnvLe_dd env) (by rw [hE]; exact h)
/-- Some slots are forgotten. -/
theorem W_fg (L : List Nat) (h : Wp D nt ks env' H R)
    (hE : (noE L env) = env' := by
      simp (maxSteps := 1000000) only [noE, cns_t, cns_f, List.elem_cons, List.elem_nil, Nat.reduceBEq, Bool.not_true, Bool.not_false, bm_t, bm_f]
      try rfl) : Wp D nt ks env H R :=
  W_le' _ (EnvLe_drop L env) (by rw [hE]; exact h)
/-- Slots from T on are forgotten. -/
theorem W_ft (T : Nat) (h : Wp D nt ks env' H R)
    (hE : (ltE T env) = env' := by
      simp (maxSteps := 1000000) only [ltE, cns_t, cns_f, Nat.reduceLT, decide_true, decide_false, ↓reduceIte, Bool.false_eq_true]
      try rfl) : Wp D nt ks env H R :=
  W_le' _ (EnvLe_filter T env) (by rw [hE]; exact h)
/-- Names anew; slots from T on are forgotten. -/
theorem W_rk (T : Nat) (ρ : Rho) (h : Wp D nt ks env' H' R)
    (hok : okRen H (idOld H ++ ρ) = true := by
      first
        | rfl
        | (simp only [List.toList_toArray, Rs_ok, Rs_pick, Rs_call, Rs_nilc, Gd_t, Gd_f, Rd_ok, Rd_pick, Rd_call, sv_n, sv_g, sv_c, sv_w, sr_n, sr_g, sr_c, sr_w, rwalk_cons, rdr_cons, rdr_nil, afterD, backOwnD, backNewD, setsH, killD, srcG, baseG, optG, bq1, bq2, bq3, bq4, List.take_replicate, Nat.min_self, Nat.min_eq_left, lim40, limB, IntWalk.i64_in, rwalk_nil, gA, res, three, rLoad, rStore, rInt, rStr, rBin, rNil, rLen, rSlice, rAppend, rMake, isInt, LV.rep, rCall, isSlice, sBuild, fillL, partsIn, ev_tmp, ev_const, ev_func, cv, cvc, optInt, S.put, S.putc, Env.get, aget, aset, stAll, baseOf, srcOf, lenOf?, killO, apartO, LV.app2, LV.app, LV.view, LV.mk, LV.rep, LV.z, LV.st, LV.lk, LV.ex, LV.len, LV.toL, allInts, allBools, allStrs, allBytes, allOps, cellsOf, AV.fits, isNil, tys, nmOf,
        renV, renA, renC, renL, renE, mu1, nwK, afterH, backOwn, backNew, Ent.isOwn, Ent.live, renDV, renDA, renD, renDL, renDE, selH, idOld_nil, idOld_cons, cns_t, cns_f, idRO, ros_nil, ros_cons, fillV, fillT, fillA, fillC,
        List.map_cons, List.map_nil, List.map_append, noN_renC, noN_renD, noN_len, List.filter_cons, List.filter_nil, List.append_nil, List.nil_append, List.cons_append, List.all_cons, List.all_nil, List.flatMap_cons, List.flatMap_nil, List.foldl_cons, List.foldl_nil, List.mapM_cons, List.mapM_nil, Option.pure_def, Option.bind_eq_bind, Option.bind_some,
        List.length_cons, List.length_nil, List.length_append, List.length_take, List.length_drop, List.length_replicate, List.length_set, List.length_map, List.drop_zero, List.drop_succ_cons, List.take_succ_cons, List.take_zero, List.take_length, List.take_nil, List.drop_nil, List.set_cons_zero, List.set_cons_succ, List.getD_cons_zero, List.getD_cons_succ, List.size_toArray,
        Option.getD_some, Option.getD_none, Option.map_some, Option.map_none, Option.isSome_some, List.getElem?_cons_zero, List.getElem?_cons_succ, List.getElem?_toArray, Nat.reduceEqDiff, Nat.reduceAdd, Nat.reduceSub, Nat.reduceMul, Nat.reduceDiv, Nat.reduceMod, opL, Nat.mul_mod_left, Nat.mul_mod_right, Nat.mul_div_cancel, Nat.mul_div_cancel_left, Nat.reduceLeDiff, Nat.reduceLT, Nat.reduceBEq, Nat.reduceBNe, Nat.zero_add, Nat.add_zero, Nat.mul_one, Nat.zero_mul, Nat.sub_zero, Nat.sub_self, Nat.le_refl, Nat.zero_le, Nat.not_lt_zero, Nat.lt_irrefl, Int.toNat_zero, Int.toNat_natCast, Int.natCast_zero, Int.le_refl,
        ↓reduceIte, if_true, if_false, true_and, and_true, and_self, and_assoc, cond_true, cond_false, decide_true, decide_false, decide_eq_true_eq, ← decide_not, Bool.not_true, Bool.not_false, Bool.true_and, Bool.and_true, Bool.false_and, Bool.and_false, Bool.or_false, Bool.false_or, Bool.or_true, Bool.true_or, Bool.and_eq_true, Bool.not_not, forall_const, true_implies, false_implies, implies_true, reduceCtorEq, ne_eq, not_true_eq_false, not_false_eq_true, Bool.false_eq_true, Bool.true_eq_false, bne_self_eq_false, beq_self_eq_true, eq_self_iff_true, matchH, match1, apartB, freeB, domB, nodupB, okRen, rosOk, tgtOk, ownAll, empOk, resA, resOne]
           try exact decide_eq_true (by omega)))
    (hE : ((ltE T env).map fun p => (p.1, renDV (idOld H ++ ρ) p.2)) = env' := by
      simp (maxSteps := 1000000) only [ltE, cns_t, cns_f, idOld_nil, idOld_cons, Nat.reduceLT, decide_true, decide_false, List.map_cons, List.map_nil, List.cons_append, List.nil_append]
      simp (maxSteps := 1000000) (disch := omega) only [List.toList_toArray, Rs_ok, Rs_pick, Rs_call, Rs_nilc, Gd_t, Gd_f, Rd_ok, Rd_pick, Rd_call, sv_n, sv_g, sv_c, sv_w, sr_n, sr_g, sr_c, sr_w, rwalk_cons, rdr_cons, rdr_nil, afterD, backOwnD, backNewD, setsH, killD, srcG, baseG, optG, bq1, bq2, bq3, bq4, List.take_replicate, Nat.min_self, Nat.min_eq_left, lim40, limB, IntWalk.i64_in, rwalk_nil, gA, res, three, rLoad, rStore, rInt, rStr, rBin, rNil, rLen, rSlice, rAppend, rMake, isInt, LV.rep, rCall, isSlice, sBuild, fillL, partsIn, ev_tmp, ev_const, ev_func, cv, cvc, optInt, S.put, S.putc, Env.get, aget, aset, stAll, baseOf, srcOf, lenOf?, killO, apartO, LV.app2, LV.app, LV.view, LV.mk, LV.rep, LV.z, LV.st, LV.lk, LV.ex, LV.len, LV.toL, allInts, allBools, allStrs, allBytes, allOps, cellsOf, AV.fits, isNil, tys, nmOf,
        renV, renA, renC, renL, renE, mu1, nwK, afterH, backOwn, backNew, Ent.isOwn, Ent.live, renDV, renDA, renD, renDL, renDE, selH, idOld_nil, idOld_cons, cns_t, cns_f, idRO, ros_nil, ros_cons, fillV, fillT, fillA, fillC,
        List.map_cons, List.map_nil, List.map_append, noN_renC, noN_renD, noN_len, List.filter_cons, List.filter_nil, List.append_nil, List.nil_append, List.cons_append, List.all_cons, List.all_nil, List.flatMap_cons, List.flatMap_nil, List.foldl_cons, List.foldl_nil, List.mapM_cons, List.mapM_nil, Option.pure_def, Option.bind_eq_bind, Option.bind_some,
        List.length_cons, List.length_nil, List.length_append, List.length_take, List.length_drop, List.length_replicate, List.length_set, List.length_map, List.drop_zero, List.drop_succ_cons, List.take_succ_cons, List.take_zero, List.take_length, List.take_nil, List.drop_nil, List.set_cons_zero, List.set_cons_succ, List.getD_cons_zero, List.getD_cons_succ, List.size_toArray,
        Option.getD_some, Option.getD_none, Option.map_some, Option.map_none, Option.isSome_some, List.getElem?_cons_zero, List.getElem?_cons_succ, List.getElem?_toArray, Nat.reduceEqDiff, Nat.reduceAdd, Nat.reduceSub, Nat.reduceMul, Nat.reduceDiv, Nat.reduceMod, opL, Nat.mul_mod_left, Nat.mul_mod_right, Nat.mul_div_cancel, Nat.mul_div_cancel_left, Nat.reduceLeDiff, Nat.reduceLT, Nat.reduceBEq, Nat.reduceBNe, Nat.zero_add, Nat.add_zero, Nat.mul_one, Nat.zero_mul, Nat.sub_zero, Nat.sub_self, Nat.le_refl, Nat.zero_le, Nat.not_lt_zero, Nat.lt_irrefl, Int.toNat_zero, Int.toNat_natCast, Int.natCast_zero, Int.le_refl,
        ↓reduceIte, if_true, if_false, true_and, and_true, and_self, and_assoc, cond_true, cond_false, decide_true, decide_false, decide_eq_true_eq, ← decide_not, Bool.not_true, Bool.not_false, Bool.true_and, Bool.and_true, Bool.false_and, Bool.and_false, Bool.or_false, Bool.false_or, Bool.or_true, Bool.true_or, Bool.and_eq_true, Bool.not_not, forall_const, true_implies, false_implies, implies_true, reduceCtorEq, ne_eq, not_true_eq_false, not_false_eq_true, Bool.false_eq_true, Bool.true_eq_false, bne_self_eq_false, beq_self_eq_true, eq_self_iff_true]
      try rfl)
    (hH : selH (idOld H ++ ρ) H (idOld H ++ ρ) = H' := by
      simp (maxSteps := 1000000) (disch := omega) only [List.toList_toArray, Rs_ok, Rs_pick, Rs_call, Rs_nilc, Gd_t, Gd_f, Rd_ok, Rd_pick, Rd_call, sv_n, sv_g, sv_c, sv_w, sr_n, sr_g, sr_c, sr_w, rwalk_cons, rdr_cons, rdr_nil, afterD, backOwnD, backNewD, setsH, killD, srcG, baseG, optG, bq1, bq2, bq3, bq4, List.take_replicate, Nat.min_self, Nat.min_eq_left, lim40, limB, IntWalk.i64_in, rwalk_nil, gA, res, three, rLoad, rStore, rInt, rStr, rBin, rNil, rLen, rSlice, rAppend, rMake, isInt, LV.rep, rCall, isSlice, sBuild, fillL, partsIn, ev_tmp, ev_const, ev_func, cv, cvc, optInt, S.put, S.putc, Env.get, aget, aset, stAll, baseOf, srcOf, lenOf?, killO, apartO, LV.app2, LV.app, LV.view, LV.mk, LV.rep, LV.z, LV.st, LV.lk, LV.ex, LV.len, LV.toL, allInts, allBools, allStrs, allBytes, allOps, cellsOf, AV.fits, isNil, tys, nmOf,
        renV, renA, renC, renL, renE, mu1, nwK, afterH, backOwn, backNew, Ent.isOwn, Ent.live, renDV, renDA, renD, renDL, renDE, selH, idOld_nil, idOld_cons, cns_t, cns_f, idRO, ros_nil, ros_cons, fillV, fillT, fillA, fillC,
        List.map_cons, List.map_nil, List.map_append, noN_renC, noN_renD, noN_len, List.filter_cons, List.filter_nil, List.append_nil, List.nil_append, List.cons_append, List.all_cons, List.all_nil, List.flatMap_cons, List.flatMap_nil, List.foldl_cons, List.foldl_nil, List.mapM_cons, List.mapM_nil, Option.pure_def, Option.bind_eq_bind, Option.bind_some,
        List.length_cons, List.length_nil, List.length_append, List.length_take, List.length_drop, List.length_replicate, List.length_set, List.length_map, List.drop_zero, List.drop_succ_cons, List.take_succ_cons, List.take_zero, List.take_length, List.take_nil, List.drop_nil, List.set_cons_zero, List.set_cons_succ, List.getD_cons_zero, List.getD_cons_succ, List.size_toArray,
        Option.getD_some, Option.getD_none, Option.map_some, Option.map_none, Option.isSome_some, List.getElem?_cons_zero, List.getElem?_cons_succ, List.getElem?_toArray, Nat.reduceEqDiff, Nat.reduceAdd, Nat.reduceSub, Nat.reduceMul, Nat.reduceDiv, Nat.reduceMod, opL, Nat.mul_mod_left, Nat.mul_mod_right, Nat.mul_div_cancel, Nat.mul_div_cancel_left, Nat.reduceLeDiff, Nat.reduceLT, Nat.reduceBEq, Nat.reduceBNe, Nat.zero_add, Nat.add_zero, Nat.mul_one, Nat.zero_mul, Nat.sub_zero, Nat.sub_self, Nat.le_refl, Nat.zero_le, Nat.not_lt_zero, Nat.lt_irrefl, Int.toNat_zero, Int.toNat_natCast, Int.natCast_zero, Int.le_refl,
        ↓reduceIte, if_true, if_false, true_and, and_true, and_self, and_assoc, cond_true, cond_false, decide_true, decide_false, decide_eq_true_eq, ← decide_not, Bool.not_true, Bool.not_false, Bool.true_and, Bool.and_true, Bool.false_and, Bool.and_false, Bool.or_false, Bool.false_or, Bool.or_true, Bool.true_or, Bool.and_eq_true, Bool.not_not, forall_const, true_implies, false_implies, implies_true, reduceCtorEq, ne_eq, not_true_eq_false, not_false_eq_true, Bool.false_eq_true, Bool.true_eq_false, bne_self_eq_false, beq_self_eq_true, eq_self_iff_true]
      try rfl) : Wp D nt ks env H R :=
  W_le' (ltE T env) (EnvLe_filter T env) (W_ren ρ hok (by rw [hE, hH]; exact h))
/-- An entry is cut short. -/
theorem W_cut {own : Bool} {lv : LV} (n : Nat) (lv' : LV) (h : Wp D nt ks env H' R)
    (h0 : aget H n = some (.c own lv) := by
      simp only [aget, Nat.reduceEqDiff, ↓reduceIte]
      rfl)
    (hl : lv'.toL <+: lv.toL := by simp [LV.toL])
    (hz : lv'.z = lv.z := by rfl)
    (hH : aset H n (.c own lv') = H' := by
      simp only [aset, Nat.reduceEqDiff, ↓reduceIte]
      try rfl) : Wp D nt ks env H R := W_cut0 n lv' (by rw [hH]; exact h) h0 hl hz
/-- An entry under another name. -/
theorem W_mv {lv : LV} (n m : Nat) (h : Wp D nt ks env' H' R)
    (h0 : aget H n = some (.c true lv) := by
      simp only [aget, Nat.reduceEqDiff, ↓reduceIte]
      rfl)
    (hm : aget H m = none := by
      simp only [aget, Nat.reduceEqDiff, ↓reduceIte])
    (hE : (env.map fun p => (p.1, renV (swapMu n m) p.2)) = env' := by
      simp only [swapMu, List.toList_toArray, Rs_ok, Rs_pick, Rs_call, Rs_nilc, Gd_t, Gd_f, Rd_ok, Rd_pick, Rd_call, sv_n, sv_g, sv_c, sv_w, sr_n, sr_g, sr_c, sr_w, rwalk_cons, rdr_cons, rdr_nil, afterD, backOwnD, backNewD, setsH, killD, srcG, baseG, optG, bq1, bq2, bq3, bq4, List.take_replicate, Nat.min_self, Nat.min_eq_left, lim40, limB, IntWalk.i64_in, rwalk_nil, gA, res, three, rLoad, rStore, rInt, rStr, rBin, rNil, rLen, rSlice, rAppend, rMake, isInt, LV.rep, rCall, isSlice, sBuild, fillL, partsIn, ev_tmp, ev_const, ev_func, cv, cvc, optInt, S.put, S.putc, Env.get, aget, aset, stAll, baseOf, srcOf, lenOf?, killO, apartO, LV.app2, LV.app, LV.view, LV.mk, LV.rep, LV.z, LV.st, LV.lk, LV.ex, LV.len, LV.toL, allInts, allBools, allStrs, allBytes, allOps, cellsOf, AV.fits, isNil, tys, nmOf,
        renV, renA, renC, renL, renE, mu1, nwK, afterH, backOwn, backNew, Ent.isOwn, Ent.live, renDV, renDA, renD, renDL, renDE, selH, idOld_nil, idOld_cons, cns_t, cns_f, idRO, ros_nil, ros_cons, fillV, fillT, fillA, fillC,
        List.map_cons, List.map_nil, List.map_append, noN_renC, noN_renD, noN_len, List.filter_cons, List.filter_nil, List.append_nil, List.nil_append, List.cons_append, List.all_cons, List.all_nil, List.flatMap_cons, List.flatMap_nil, List.foldl_cons, List.foldl_nil, List.mapM_cons, List.mapM_nil, Option.pure_def, Option.bind_eq_bind, Option.bind_some,
        List.length_cons, List.length_nil, List.length_append, List.length_take, List.length_drop, List.length_replicate, List.length_set, List.length_map, List.drop_zero, List.drop_succ_cons, List.take_succ_cons, List.take_zero, List.take_length, List.take_nil, List.drop_nil, List.set_cons_zero, List.set_cons_succ, List.getD_cons_zero, List.getD_cons_succ, List.size_toArray,
        Option.getD_some, Option.getD_none, Option.map_some, Option.map_none, Option.isSome_some, List.getElem?_cons_zero, List.getElem?_cons_succ, List.getElem?_toArray, Nat.reduceEqDiff, Nat.reduceAdd, Nat.reduceSub, Nat.reduceMul, Nat.reduceDiv, Nat.reduceMod, opL, Nat.mul_mod_left, Nat.mul_mod_right, Nat.mul_div_cancel, Nat.mul_div_cancel_left, Nat.reduceLeDiff, Nat.reduceLT, Nat.reduceBEq, Nat.reduceBNe, Nat.zero_add, Nat.add_zero, Nat.mul_one, Nat.zero_mul, Nat.sub_zero, Nat.sub_self, Nat.le_refl, Nat.zero_le, Nat.not_lt_zero, Nat.lt_irrefl, Int.toNat_zero, Int.toNat_natCast, Int.natCast_zero, Int.le_refl,
        ↓reduceIte, if_true, if_false, true_and, and_true, and_self, and_assoc, cond_true, cond_false, decide_true, decide_false, decide_eq_true_eq, ← decide_not, Bool.not_true, Bool.not_false, Bool.true_and, Bool.and_true, Bool.false_and, Bool.and_false, Bool.or_false, Bool.false_or, Bool.or_true, Bool.true_or, Bool.and_eq_true, Bool.not_not, forall_const, true_implies, false_implies, implies_true, reduceCtorEq, ne_eq, not_true_eq_false, not_false_eq_true, Bool.false_eq_true, Bool.true_eq_false, bne_self_eq_false, beq_self_eq_true, eq_self_iff_true]
      try rfl)
    (hH : ((aset (aset H n .dead) m (.c true lv)).map fun p => (p.1, renE (swapMu n m) p.2)) = H' := by
      simp only [swapMu, List.toList_toArray, Rs_ok, Rs_pick, Rs_call, Rs_nilc, Gd_t, Gd_f, Rd_ok, Rd_pick, Rd_call, sv_n, sv_g, sv_c, sv_w, sr_n, sr_g, sr_c, sr_w, rwalk_cons, rdr_cons, rdr_nil, afterD, backOwnD, backNewD, setsH, killD, srcG, baseG, optG, bq1, bq2, bq3, bq4, List.take_replicate, Nat.min_self, Nat.min_eq_left, lim40, limB, IntWalk.i64_in, rwalk_nil, gA, res, three, rLoad, rStore, rInt, rStr, rBin, rNil, rLen, rSlice, rAppend, rMake, isInt, LV.rep, rCall, isSlice, sBuild, fillL, partsIn, ev_tmp, ev_const, ev_func, cv, cvc, optInt, S.put, S.putc, Env.get, aget, aset, stAll, baseOf, srcOf, lenOf?, killO, apartO, LV.app2, LV.app, LV.view, LV.mk, LV.rep, LV.z, LV.st, LV.lk, LV.ex, LV.len, LV.toL, allInts, allBools, allStrs, allBytes, allOps, cellsOf, AV.fits, isNil, tys, nmOf,
        renV, renA, renC, renL, renE, mu1, nwK, afterH, backOwn, backNew, Ent.isOwn, Ent.live, renDV, renDA, renD, renDL, renDE, selH, idOld_nil, idOld_cons, cns_t, cns_f, idRO, ros_nil, ros_cons, fillV, fillT, fillA, fillC,
        List.map_cons, List.map_nil, List.map_append, noN_renC, noN_renD, noN_len, List.filter_cons, List.filter_nil, List.append_nil, List.nil_append, List.cons_append, List.all_cons, List.all_nil, List.flatMap_cons, List.flatMap_nil, List.foldl_cons, List.foldl_nil, List.mapM_cons, List.mapM_nil, Option.pure_def, Option.bind_eq_bind, Option.bind_some,
        List.length_cons, List.length_nil, List.length_append, List.length_take, List.length_drop, List.length_replicate, List.length_set, List.length_map, List.drop_zero, List.drop_succ_cons, List.take_succ_cons, List.take_zero, List.take_length, List.take_nil, List.drop_nil, List.set_cons_zero, List.set_cons_succ, List.getD_cons_zero, List.getD_cons_succ, List.size_toArray,
        Option.getD_some, Option.getD_none, Option.map_some, Option.map_none, Option.isSome_some, List.getElem?_cons_zero, List.getElem?_cons_succ, List.getElem?_toArray, Nat.reduceEqDiff, Nat.reduceAdd, Nat.reduceSub, Nat.reduceMul, Nat.reduceDiv, Nat.reduceMod, opL, Nat.mul_mod_left, Nat.mul_mod_right, Nat.mul_div_cancel, Nat.mul_div_cancel_left, Nat.reduceLeDiff, Nat.reduceLT, Nat.reduceBEq, Nat.reduceBNe, Nat.zero_add, Nat.add_zero, Nat.mul_one, Nat.zero_mul, Nat.sub_zero, Nat.sub_self, Nat.le_refl, Nat.zero_le, Nat.not_lt_zero, Nat.lt_irrefl, Int.toNat_zero, Int.toNat_natCast, Int.natCast_zero, Int.le_refl,
        ↓reduceIte, if_true, if_false, true_and, and_true, and_self, and_assoc, cond_true, cond_false, decide_true, decide_false, decide_eq_true_eq, ← decide_not, Bool.not_true, Bool.not_false, Bool.true_and, Bool.and_true, Bool.false_and, Bool.and_false, Bool.or_false, Bool.false_or, Bool.or_true, Bool.true_or, Bool.and_eq_true, Bool.not_not, forall_const, true_implies, false_implies, implies_true, reduceCtorEq, ne_eq, not_true_eq_false, not_false_eq_true, Bool.false_eq_true, Bool.true_eq_false, bne_self_eq_false, beq_self_eq_true, eq_self_iff_true]
      try rfl) : Wp D nt ks env H R := W_mv0 n m (by rw [hE, hH]; exact h) h0 hm
/-- A region that ends in a slice held against nil. -/
theorem W_nl {ee : Bool → Env} (n : Nat) (h : ∀ r : Bool, (r = true → n = 0) → Wp D nt ks (ee r) H' R)
    (h0 : ∀ K : Env → Heap → Prop, Hold (∀ r : Bool, (r = true → n = 0) → K (ee r) H') → rwalk Tryz.prog (callA Tryz.prog) ops.toList id 0 ops.toList env H K := by
      intro K hK
      simp (maxSteps := 1000000) (disch := omega) only [List.toList_toArray, Rs_ok, Rs_pick, Rs_call, Rs_nilc, Gd_t, Gd_f, Rd_ok, Rd_pick, Rd_call, sv_n, sv_g, sv_c, sv_w, sr_n, sr_g, sr_c, sr_w, rwalk_cons, rdr_cons, rdr_nil, afterD, backOwnD, backNewD, setsH, killD, srcG, baseG, optG, bq1, bq2, bq3, bq4, List.take_replicate, Nat.min_self, Nat.min_eq_left, lim40, limB, IntWalk.i64_in, rwalk_nil, gA, res, three, rLoad, rStore, rInt, rStr, rBin, rNil, rLen, rSlice, rAppend, rMake, isInt, LV.rep, rCall, isSlice, sBuild, fillL, partsIn, ev_tmp, ev_const, ev_func, cv, cvc, optInt, S.put, S.putc, Env.get, aget, aset, stAll, baseOf, srcOf, lenOf?, killO, apartO, LV.app2, LV.app, LV.view, LV.mk, LV.rep, LV.z, LV.st, LV.lk, LV.ex, LV.len, LV.toL, allInts, allBools, allStrs, allBytes, allOps, cellsOf, AV.fits, isNil, tys, nmOf,
        renV, renA, renC, renL, renE, mu1, nwK, afterH, backOwn, backNew, Ent.isOwn, Ent.live, renDV, renDA, renD, renDL, renDE, selH, idOld_nil, idOld_cons, cns_t, cns_f, idRO, ros_nil, ros_cons, fillV, fillT, fillA, fillC,
        List.map_cons, List.map_nil, List.map_append, noN_renC, noN_renD, noN_len, List.filter_cons, List.filter_nil, List.append_nil, List.nil_append, List.cons_append, List.all_cons, List.all_nil, List.flatMap_cons, List.flatMap_nil, List.foldl_cons, List.foldl_nil, List.mapM_cons, List.mapM_nil, Option.pure_def, Option.bind_eq_bind, Option.bind_some,
        List.length_cons, List.length_nil, List.length_append, List.length_take, List.length_drop, List.length_replicate, List.length_set, List.length_map, List.drop_zero, List.drop_succ_cons, List.take_succ_cons, List.take_zero, List.take_length, List.take_nil, List.drop_nil, List.set_cons_zero, List.set_cons_succ, List.getD_cons_zero, List.getD_cons_succ, List.size_toArray,
        Option.getD_some, Option.getD_none, Option.map_some, Option.map_none, Option.isSome_some, List.getElem?_cons_zero, List.getElem?_cons_succ, List.getElem?_toArray, Nat.reduceEqDiff, Nat.reduceAdd, Nat.reduceSub, Nat.reduceMul, Nat.reduceDiv, Nat.reduceMod, opL, Nat.mul_mod_left, Nat.mul_mod_right, Nat.mul_div_cancel, Nat.mul_div_cancel_left, Nat.reduceLeDiff, Nat.reduceLT, Nat.reduceBEq, Nat.reduceBNe, Nat.zero_add, Nat.add_zero, Nat.mul_one, Nat.zero_mul, Nat.sub_zero, Nat.sub_self, Nat.le_refl, Nat.zero_le, Nat.not_lt_zero, Nat.lt_irrefl, Int.toNat_zero, Int.toNat_natCast, Int.natCast_zero, Int.le_refl,
        ↓reduceIte, if_true, if_false, true_and, and_true, and_self, and_assoc, cond_true, cond_false, decide_true, decide_false, decide_eq_true_eq, ← decide_not, Bool.not_true, Bool.not_false, Bool.true_and, Bool.and_true, Bool.false_and, Bool.and_false, Bool.or_false, Bool.false_or, Bool.or_true, Bool.true_or, Bool.and_eq_true, Bool.not_not, forall_const, true_implies, false_implies, implies_true, reduceCtorEq, ne_eq, not_true_eq_false, not_false_eq_true, Bool.false_eq_true, Bool.true_eq_false, bne_self_eq_false, beq_self_eq_true, eq_self_iff_true]
      refine NilK_x fun r hr => ?_
      simp (maxSteps := 1000000) (disch := omega) only [List.toList_toArray, Rs_ok, Rs_pick, Rs_call, Rs_nilc, Gd_t, Gd_f, Rd_ok, Rd_pick, Rd_call, sv_n, sv_g, sv_c, sv_w, sr_n, sr_g, sr_c, sr_w, rwalk_cons, rdr_cons, rdr_nil, afterD, backOwnD, backNewD, setsH, killD, srcG, baseG, optG, bq1, bq2, bq3, bq4, List.take_replicate, Nat.min_self, Nat.min_eq_left, lim40, limB, IntWalk.i64_in, rwalk_nil, gA, res, three, rLoad, rStore, rInt, rStr, rBin, rNil, rLen, rSlice, rAppend, rMake, isInt, LV.rep, rCall, isSlice, sBuild, fillL, partsIn, ev_tmp, ev_const, ev_func, cv, cvc, optInt, S.put, S.putc, Env.get, aget, aset, stAll, baseOf, srcOf, lenOf?, killO, apartO, LV.app2, LV.app, LV.view, LV.mk, LV.rep, LV.z, LV.st, LV.lk, LV.ex, LV.len, LV.toL, allInts, allBools, allStrs, allBytes, allOps, cellsOf, AV.fits, isNil, tys, nmOf,
        renV, renA, renC, renL, renE, mu1, nwK, afterH, backOwn, backNew, Ent.isOwn, Ent.live, renDV, renDA, renD, renDL, renDE, selH, idOld_nil, idOld_cons, cns_t, cns_f, idRO, ros_nil, ros_cons, fillV, fillT, fillA, fillC,
        List.map_cons, List.map_nil, List.map_append, noN_renC, noN_renD, noN_len, List.filter_cons, List.filter_nil, List.append_nil, List.nil_append, List.cons_append, List.all_cons, List.all_nil, List.flatMap_cons, List.flatMap_nil, List.foldl_cons, List.foldl_nil, List.mapM_cons, List.mapM_nil, Option.pure_def, Option.bind_eq_bind, Option.bind_some,
        List.length_cons, List.length_nil, List.length_append, List.length_take, List.length_drop, List.length_replicate, List.length_set, List.length_map, List.drop_zero, List.drop_succ_cons, List.take_succ_cons, List.take_zero, List.take_length, List.take_nil, List.drop_nil, List.set_cons_zero, List.set_cons_succ, List.getD_cons_zero, List.getD_cons_succ, List.size_toArray,
        Option.getD_some, Option.getD_none, Option.map_some, Option.map_none, Option.isSome_some, List.getElem?_cons_zero, List.getElem?_cons_succ, List.getElem?_toArray, Nat.reduceEqDiff, Nat.reduceAdd, Nat.reduceSub, Nat.reduceMul, Nat.reduceDiv, Nat.reduceMod, opL, Nat.mul_mod_left, Nat.mul_mod_right, Nat.mul_div_cancel, Nat.mul_div_cancel_left, Nat.reduceLeDiff, Nat.reduceLT, Nat.reduceBEq, Nat.reduceBNe, Nat.zero_add, Nat.add_zero, Nat.mul_one, Nat.zero_mul, Nat.sub_zero, Nat.sub_self, Nat.le_refl, Nat.zero_le, Nat.not_lt_zero, Nat.lt_irrefl, Int.toNat_zero, Int.toNat_natCast, Int.natCast_zero, Int.le_refl,
        ↓reduceIte, if_true, if_false, true_and, and_true, and_self, and_assoc, cond_true, cond_false, decide_true, decide_false, decide_eq_true_eq, ← decide_not, Bool.not_true, Bool.not_false, Bool.true_and, Bool.and_true, Bool.false_and, Bool.and_false, Bool.or_false, Bool.false_or, Bool.or_true, Bool.true_or, Bool.and_eq_true, Bool.not_not, forall_const, true_implies, false_implies, implies_true, reduceCtorEq, ne_eq, not_true_eq_false, not_false_eq_true, Bool.false_eq_true, Bool.true_eq_false, bne_self_eq_false, beq_self_eq_true, eq_self_iff_true]
      exact hK.told r hr) :
    Wp D nt (.code (.region id ops false) :: ks) env H R :=
  W_rw fun K hK => h0 K ⟨fun r hr => hK _ _ (h r hr)⟩
/-- The return. -/
theorem W_rt {rs : List ResultVar} {H0 : Heap} {R : AV → Heap → Prop} {r r' : AV} (ρ : Rho) (emps : List (Nat × LV)) (h : R r' H')
    (hr : resA Tryz.prog rs env H = some r := by
      simp only [List.toList_toArray, Rs_ok, Rs_pick, Rs_call, Rs_nilc, Gd_t, Gd_f, Rd_ok, Rd_pick, Rd_call, sv_n, sv_g, sv_c, sv_w, sr_n, sr_g, sr_c, sr_w, rwalk_cons, rdr_cons, rdr_nil, afterD, backOwnD, backNewD, setsH, killD, srcG, baseG, optG, bq1, bq2, bq3, bq4, List.take_replicate, Nat.min_self, Nat.min_eq_left, lim40, limB, IntWalk.i64_in, rwalk_nil, gA, res, three, rLoad, rStore, rInt, rStr, rBin, rNil, rLen, rSlice, rAppend, rMake, isInt, LV.rep, rCall, isSlice, sBuild, fillL, partsIn, ev_tmp, ev_const, ev_func, cv, cvc, optInt, S.put, S.putc, Env.get, aget, aset, stAll, baseOf, srcOf, lenOf?, killO, apartO, LV.app2, LV.app, LV.view, LV.mk, LV.rep, LV.z, LV.st, LV.lk, LV.ex, LV.len, LV.toL, allInts, allBools, allStrs, allBytes, allOps, cellsOf, AV.fits, isNil, tys, nmOf,
        renV, renA, renC, renL, renE, mu1, nwK, afterH, backOwn, backNew, Ent.isOwn, Ent.live, renDV, renDA, renD, renDL, renDE, selH, idOld_nil, idOld_cons, cns_t, cns_f, idRO, ros_nil, ros_cons, fillV, fillT, fillA, fillC,
        List.map_cons, List.map_nil, List.map_append, noN_renC, noN_renD, noN_len, List.filter_cons, List.filter_nil, List.append_nil, List.nil_append, List.cons_append, List.all_cons, List.all_nil, List.flatMap_cons, List.flatMap_nil, List.foldl_cons, List.foldl_nil, List.mapM_cons, List.mapM_nil, Option.pure_def, Option.bind_eq_bind, Option.bind_some,
        List.length_cons, List.length_nil, List.length_append, List.length_take, List.length_drop, List.length_replicate, List.length_set, List.length_map, List.drop_zero, List.drop_succ_cons, List.take_succ_cons, List.take_zero, List.take_length, List.take_nil, List.drop_nil, List.set_cons_zero, List.set_cons_succ, List.getD_cons_zero, List.getD_cons_succ, List.size_toArray,
        Option.getD_some, Option.getD_none, Option.map_some, Option.map_none, Option.isSome_some, List.getElem?_cons_zero, List.getElem?_cons_succ, List.getElem?_toArray, Nat.reduceEqDiff, Nat.reduceAdd, Nat.reduceSub, Nat.reduceMul, Nat.reduceDiv, Nat.reduceMod, opL, Nat.mul_mod_left, Nat.mul_mod_right, Nat.mul_div_cancel, Nat.mul_div_cancel_left, Nat.reduceLeDiff, Nat.reduceLT, Nat.reduceBEq, Nat.reduceBNe, Nat.zero_add, Nat.add_zero, Nat.mul_one, Nat.zero_mul, Nat.sub_zero, Nat.sub_self, Nat.le_refl, Nat.zero_le, Nat.not_lt_zero, Nat.lt_irrefl, Int.toNat_zero, Int.toNat_natCast, Int.natCast_zero, Int.le_refl,
        ↓reduceIte, if_true, if_false, true_and, and_true, and_self, and_assoc, cond_true, cond_false, decide_true, decide_false, decide_eq_true_eq, ← decide_not, Bool.not_true, Bool.not_false, Bool.true_and, Bool.and_true, Bool.false_and, Bool.and_false, Bool.or_false, Bool.false_or, Bool.or_true, Bool.true_or, Bool.and_eq_true, Bool.not_not, forall_const, true_implies, false_implies, implies_true, reduceCtorEq, ne_eq, not_true_eq_false, not_false_eq_true, Bool.false_eq_true, Bool.true_eq_false, bne_self_eq_false, beq_self_eq_true, eq_self_iff_true, matchH, match1, apartB, freeB, domB, nodupB, okRen, rosOk, tgtOk, ownAll, empOk, resA, resOne]
      try rfl)
    (hs : okRen H (idRO H0 ++ ρ) = true ∧ rosOk H (idRO H0 ++ ρ) H0 ∧ tgtOk H0 ρ = true ∧ ownAll H ρ = true ∧ empOk ρ emps = true := by
      first
        | (refine ⟨rfl, ?_, rfl, rfl, rfl⟩
           simp only [List.toList_toArray, Rs_ok, Rs_pick, Rs_call, Rs_nilc, Gd_t, Gd_f, Rd_ok, Rd_pick, Rd_call, sv_n, sv_g, sv_c, sv_w, sr_n, sr_g, sr_c, sr_w, rwalk_cons, rdr_cons, rdr_nil, afterD, backOwnD, backNewD, setsH, killD, srcG, baseG, optG, bq1, bq2, bq3, bq4, List.take_replicate, Nat.min_self, Nat.min_eq_left, lim40, limB, IntWalk.i64_in, rwalk_nil, gA, res, three, rLoad, rStore, rInt, rStr, rBin, rNil, rLen, rSlice, rAppend, rMake, isInt, LV.rep, rCall, isSlice, sBuild, fillL, partsIn, ev_tmp, ev_const, ev_func, cv, cvc, optInt, S.put, S.putc, Env.get, aget, aset, stAll, baseOf, srcOf, lenOf?, killO, apartO, LV.app2, LV.app, LV.view, LV.mk, LV.rep, LV.z, LV.st, LV.lk, LV.ex, LV.len, LV.toL, allInts, allBools, allStrs, allBytes, allOps, cellsOf, AV.fits, isNil, tys, nmOf,
        renV, renA, renC, renL, renE, mu1, nwK, afterH, backOwn, backNew, Ent.isOwn, Ent.live, renDV, renDA, renD, renDL, renDE, selH, idOld_nil, idOld_cons, cns_t, cns_f, idRO, ros_nil, ros_cons, fillV, fillT, fillA, fillC,
        List.map_cons, List.map_nil, List.map_append, noN_renC, noN_renD, noN_len, List.filter_cons, List.filter_nil, List.append_nil, List.nil_append, List.cons_append, List.all_cons, List.all_nil, List.flatMap_cons, List.flatMap_nil, List.foldl_cons, List.foldl_nil, List.mapM_cons, List.mapM_nil, Option.pure_def, Option.bind_eq_bind, Option.bind_some,
        List.length_cons, List.length_nil, List.length_append, List.length_take, List.length_drop, List.length_replicate, List.length_set, List.length_map, List.drop_zero, List.drop_succ_cons, List.take_succ_cons, List.take_zero, List.take_length, List.take_nil, List.drop_nil, List.set_cons_zero, List.set_cons_succ, List.getD_cons_zero, List.getD_cons_succ, List.size_toArray,
        Option.getD_some, Option.getD_none, Option.map_some, Option.map_none, Option.isSome_some, List.getElem?_cons_zero, List.getElem?_cons_succ, List.getElem?_toArray, Nat.reduceEqDiff, Nat.reduceAdd, Nat.reduceSub, Nat.reduceMul, Nat.reduceDiv, Nat.reduceMod, opL, Nat.mul_mod_left, Nat.mul_mod_right, Nat.mul_div_cancel, Nat.mul_div_cancel_left, Nat.reduceLeDiff, Nat.reduceLT, Nat.reduceBEq, Nat.reduceBNe, Nat.zero_add, Nat.add_zero, Nat.mul_one, Nat.zero_mul, Nat.sub_zero, Nat.sub_self, Nat.le_refl, Nat.zero_le, Nat.not_lt_zero, Nat.lt_irrefl, Int.toNat_zero, Int.toNat_natCast, Int.natCast_zero, Int.le_refl,
        ↓reduceIte, if_true, if_false, true_and, and_true, and_self, and_assoc, cond_true, cond_false, decide_true, decide_false, decide_eq_true_eq, ← decide_not, Bool.not_true, Bool.not_false, Bool.true_and, Bool.and_true, Bool.false_and, Bool.and_false, Bool.or_false, Bool.false_or, Bool.or_true, Bool.true_or, Bool.and_eq_true, Bool.not_not, forall_const, true_implies, false_implies, implies_true, reduceCtorEq, ne_eq, not_true_eq_false, not_false_eq_true, Bool.false_eq_true, Bool.true_eq_false, bne_self_eq_false, beq_self_eq_true, eq_self_iff_true, matchH, match1, apartB, freeB, domB, nodupB, okRen, rosOk, tgtOk, ownAll, empOk, resA, resOne]
           done)
        | (simp only [List.toList_toArray, Rs_ok, Rs_pick, Rs_call, Rs_nilc, Gd_t, Gd_f, Rd_ok, Rd_pick, Rd_call, sv_n, sv_g, sv_c, sv_w, sr_n, sr_g, sr_c, sr_w, rwalk_cons, rdr_cons, rdr_nil, afterD, backOwnD, backNewD, setsH, killD, srcG, baseG, optG, bq1, bq2, bq3, bq4, List.take_replicate, Nat.min_self, Nat.min_eq_left, lim40, limB, IntWalk.i64_in, rwalk_nil, gA, res, three, rLoad, rStore, rInt, rStr, rBin, rNil, rLen, rSlice, rAppend, rMake, isInt, LV.rep, rCall, isSlice, sBuild, fillL, partsIn, ev_tmp, ev_const, ev_func, cv, cvc, optInt, S.put, S.putc, Env.get, aget, aset, stAll, baseOf, srcOf, lenOf?, killO, apartO, LV.app2, LV.app, LV.view, LV.mk, LV.rep, LV.z, LV.st, LV.lk, LV.ex, LV.len, LV.toL, allInts, allBools, allStrs, allBytes, allOps, cellsOf, AV.fits, isNil, tys, nmOf,
        renV, renA, renC, renL, renE, mu1, nwK, afterH, backOwn, backNew, Ent.isOwn, Ent.live, renDV, renDA, renD, renDL, renDE, selH, idOld_nil, idOld_cons, cns_t, cns_f, idRO, ros_nil, ros_cons, fillV, fillT, fillA, fillC,
        List.map_cons, List.map_nil, List.map_append, noN_renC, noN_renD, noN_len, List.filter_cons, List.filter_nil, List.append_nil, List.nil_append, List.cons_append, List.all_cons, List.all_nil, List.flatMap_cons, List.flatMap_nil, List.foldl_cons, List.foldl_nil, List.mapM_cons, List.mapM_nil, Option.pure_def, Option.bind_eq_bind, Option.bind_some,
        List.length_cons, List.length_nil, List.length_append, List.length_take, List.length_drop, List.length_replicate, List.length_set, List.length_map, List.drop_zero, List.drop_succ_cons, List.take_succ_cons, List.take_zero, List.take_length, List.take_nil, List.drop_nil, List.set_cons_zero, List.set_cons_succ, List.getD_cons_zero, List.getD_cons_succ, List.size_toArray,
        Option.getD_some, Option.getD_none, Option.map_some, Option.map_none, Option.isSome_some, List.getElem?_cons_zero, List.getElem?_cons_succ, List.getElem?_toArray, Nat.reduceEqDiff, Nat.reduceAdd, Nat.reduceSub, Nat.reduceMul, Nat.reduceDiv, Nat.reduceMod, opL, Nat.mul_mod_left, Nat.mul_mod_right, Nat.mul_div_cancel, Nat.mul_div_cancel_left, Nat.reduceLeDiff, Nat.reduceLT, Nat.reduceBEq, Nat.reduceBNe, Nat.zero_add, Nat.add_zero, Nat.mul_one, Nat.zero_mul, Nat.sub_zero, Nat.sub_self, Nat.le_refl, Nat.zero_le, Nat.not_lt_zero, Nat.lt_irrefl, Int.toNat_zero, Int.toNat_natCast, Int.natCast_zero, Int.le_refl,
        ↓reduceIte, if_true, if_false, true_and, and_true, and_self, and_assoc, cond_true, cond_false, decide_true, decide_false, decide_eq_true_eq, ← decide_not, Bool.not_true, Bool.not_false, Bool.true_and, Bool.and_true, Bool.false_and, Bool.and_false, Bool.or_false, Bool.false_or, Bool.or_true, Bool.true_or, Bool.and_eq_true, Bool.not_not, forall_const, true_implies, false_implies, implies_true, reduceCtorEq, ne_eq, not_true_eq_false, not_false_eq_true, Bool.false_eq_true, Bool.true_eq_false, bne_self_eq_false, beq_self_eq_true, eq_self_iff_true, matchH, match1, apartB, freeB, domB, nodupB, okRen, rosOk, tgtOk, ownAll, empOk, resA, resOne]
           try exact decide_eq_true (by omega)))
    (hr' : fillV (emps.map (·.1)) (renDV (idRO H0 ++ ρ) r) = r' := by
      simp (maxSteps := 1000000) (disch := omega) only [List.toList_toArray, Rs_ok, Rs_pick, Rs_call, Rs_nilc, Gd_t, Gd_f, Rd_ok, Rd_pick, Rd_call, sv_n, sv_g, sv_c, sv_w, sr_n, sr_g, sr_c, sr_w, rwalk_cons, rdr_cons, rdr_nil, afterD, backOwnD, backNewD, setsH, killD, srcG, baseG, optG, bq1, bq2, bq3, bq4, List.take_replicate, Nat.min_self, Nat.min_eq_left, lim40, limB, IntWalk.i64_in, rwalk_nil, gA, res, three, rLoad, rStore, rInt, rStr, rBin, rNil, rLen, rSlice, rAppend, rMake, isInt, LV.rep, rCall, isSlice, sBuild, fillL, partsIn, ev_tmp, ev_const, ev_func, cv, cvc, optInt, S.put, S.putc, Env.get, aget, aset, stAll, baseOf, srcOf, lenOf?, killO, apartO, LV.app2, LV.app, LV.view, LV.mk, LV.rep, LV.z, LV.st, LV.lk, LV.ex, LV.len, LV.toL, allInts, allBools, allStrs, allBytes, allOps, cellsOf, AV.fits, isNil, tys, nmOf,
        renV, renA, renC, renL, renE, mu1, nwK, afterH, backOwn, backNew, Ent.isOwn, Ent.live, renDV, renDA, renD, renDL, renDE, selH, idOld_nil, idOld_cons, cns_t, cns_f, idRO, ros_nil, ros_cons, fillV, fillT, fillA, fillC,
        List.map_cons, List.map_nil, List.map_append, noN_renC, noN_renD, noN_len, List.filter_cons, List.filter_nil, List.append_nil, List.nil_append, List.cons_append, List.all_cons, List.all_nil, List.flatMap_cons, List.flatMap_nil, List.foldl_cons, List.foldl_nil, List.mapM_cons, List.mapM_nil, Option.pure_def, Option.bind_eq_bind, Option.bind_some,
        List.length_cons, List.length_nil, List.length_append, List.length_take, List.length_drop, List.length_replicate, List.length_set, List.length_map, List.drop_zero, List.drop_succ_cons, List.take_succ_cons, List.take_zero, List.take_length, List.take_nil, List.drop_nil, List.set_cons_zero, List.set_cons_succ, List.getD_cons_zero, List.getD_cons_succ, List.size_toArray,
        Option.getD_some, Option.getD_none, Option.map_some, Option.map_none, Option.isSome_some, List.getElem?_cons_zero, List.getElem?_cons_succ, List.getElem?_toArray, Nat.reduceEqDiff, Nat.reduceAdd, Nat.reduceSub, Nat.reduceMul, Nat.reduceDiv, Nat.reduceMod, opL, Nat.mul_mod_left, Nat.mul_mod_right, Nat.mul_div_cancel, Nat.mul_div_cancel_left, Nat.reduceLeDiff, Nat.reduceLT, Nat.reduceBEq, Nat.reduceBNe, Nat.zero_add, Nat.add_zero, Nat.mul_one, Nat.zero_mul, Nat.sub_zero, Nat.sub_self, Nat.le_refl, Nat.zero_le, Nat.not_lt_zero, Nat.lt_irrefl, Int.toNat_zero, Int.toNat_natCast, Int.natCast_zero, Int.le_refl,
        ↓reduceIte, if_true, if_false, true_and, and_true, and_self, and_assoc, cond_true, cond_false, decide_true, decide_false, decide_eq_true_eq, ← decide_not, Bool.not_true, Bool.not_false, Bool.true_and, Bool.and_true, Bool.false_and, Bool.and_false, Bool.or_false, Bool.false_or, Bool.or_true, Bool.true_or, Bool.and_eq_true, Bool.not_not, forall_const, true_implies, false_implies, implies_true, reduceCtorEq, ne_eq, not_true_eq_false, not_false_eq_true, Bool.false_eq_true, Bool.true_eq_false, bne_self_eq_false, beq_self_eq_true, eq_self_iff_true]
      try rfl)
    (hH' : selH (idRO H0 ++ ρ) H ρ ++ emps.map (fun p => (p.1, .c true p.2)) = H' := by
      simp (maxSteps := 1000000) (disch := omega) only [List.toList_toArray, Rs_ok, Rs_pick, Rs_call, Rs_nilc, Gd_t, Gd_f, Rd_ok, Rd_pick, Rd_call, sv_n, sv_g, sv_c, sv_w, sr_n, sr_g, sr_c, sr_w, rwalk_cons, rdr_cons, rdr_nil, afterD, backOwnD, backNewD, setsH, killD, srcG, baseG, optG, bq1, bq2, bq3, bq4, List.take_replicate, Nat.min_self, Nat.min_eq_left, lim40, limB, IntWalk.i64_in, rwalk_nil, gA, res, three, rLoad, rStore, rInt, rStr, rBin, rNil, rLen, rSlice, rAppend, rMake, isInt, LV.rep, rCall, isSlice, sBuild, fillL, partsIn, ev_tmp, ev_const, ev_func, cv, cvc, optInt, S.put, S.putc, Env.get, aget, aset, stAll, baseOf, srcOf, lenOf?, killO, apartO, LV.app2, LV.app, LV.view, LV.mk, LV.rep, LV.z, LV.st, LV.lk, LV.ex, LV.len, LV.toL, allInts, allBools, allStrs, allBytes, allOps, cellsOf, AV.fits, isNil, tys, nmOf,
        renV, renA, renC, renL, renE, mu1, nwK, afterH, backOwn, backNew, Ent.isOwn, Ent.live, renDV, renDA, renD, renDL, renDE, selH, idOld_nil, idOld_cons, cns_t, cns_f, idRO, ros_nil, ros_cons, fillV, fillT, fillA, fillC,
        List.map_cons, List.map_nil, List.map_append, noN_renC, noN_renD, noN_len, List.filter_cons, List.filter_nil, List.append_nil, List.nil_append, List.cons_append, List.all_cons, List.all_nil, List.flatMap_cons, List.flatMap_nil, List.foldl_cons, List.foldl_nil, List.mapM_cons, List.mapM_nil, Option.pure_def, Option.bind_eq_bind, Option.bind_some,
        List.length_cons, List.length_nil, List.length_append, List.length_take, List.length_drop, List.length_replicate, List.length_set, List.length_map, List.drop_zero, List.drop_succ_cons, List.take_succ_cons, List.take_zero, List.take_length, List.take_nil, List.drop_nil, List.set_cons_zero, List.set_cons_succ, List.getD_cons_zero, List.getD_cons_succ, List.size_toArray,
        Option.getD_some, Option.getD_none, Option.map_some, Option.map_none, Option.isSome_some, List.getElem?_cons_zero, List.getElem?_cons_succ, List.getElem?_toArray, Nat.reduceEqDiff, Nat.reduceAdd, Nat.reduceSub, Nat.reduceMul, Nat.reduceDiv, Nat.reduceMod, opL, Nat.mul_mod_left, Nat.mul_mod_right, Nat.mul_div_cancel, Nat.mul_div_cancel_left, Nat.reduceLeDiff, Nat.reduceLT, Nat.reduceBEq, Nat.reduceBNe, Nat.zero_add, Nat.add_zero, Nat.mul_one, Nat.zero_mul, Nat.sub_zero, Nat.sub_self, Nat.le_refl, Nat.zero_le, Nat.not_lt_zero, Nat.lt_irrefl, Int.toNat_zero, Int.toNat_natCast, Int.natCast_zero, Int.le_refl,
        ↓reduceIte, if_true, if_false, true_and, and_true, and_self, and_assoc, cond_true, cond_false, decide_true, decide_false, decide_eq_true_eq, ← decide_not, Bool.not_true, Bool.not_false, Bool.true_and, Bool.and_true, Bool.false_and, Bool.and_false, Bool.or_false, Bool.false_or, Bool.or_true, Bool.true_or, Bool.and_eq_true, Bool.not_not, forall_const, true_implies, false_implies, implies_true, reduceCtorEq, ne_eq, not_true_eq_false, not_false_eq_true, Bool.false_eq_true, Bool.true_eq_false, bne_self_eq_false, beq_self_eq_true, eq_self_iff_true]
      try rfl) :
    Wp D nt (.code .ret :: ks) env H fun env H => ∃ r, resA Tryz.prog rs env H = some r ∧ RetP H0 R r H :=
  W_ret ⟨r, hr, ρ, emps, hs.1, hs.2.1, hs.2.2.1, hs.2.2.2.1, hs.2.2.2.2, by subst hr' hH'; exact h⟩
/-- The end without a return. -/
theorem W_re {rs : List ResultVar} {H0 : Heap} {R : AV → Heap → Prop} {r r' : AV} (ρ : Rho) (emps : List (Nat × LV)) (h : R r' H')
    (hr : resA Tryz.prog rs env H = some r := by
      simp only [List.toList_toArray, Rs_ok, Rs_pick, Rs_call, Rs_nilc, Gd_t, Gd_f, Rd_ok, Rd_pick, Rd_call, sv_n, sv_g, sv_c, sv_w, sr_n, sr_g, sr_c, sr_w, rwalk_cons, rdr_cons, rdr_nil, afterD, backOwnD, backNewD, setsH, killD, srcG, baseG, optG, bq1, bq2, bq3, bq4, List.take_replicate, Nat.min_self, Nat.min_eq_left, lim40, limB, IntWalk.i64_in, rwalk_nil, gA, res, three, rLoad, rStore, rInt, rStr, rBin, rNil, rLen, rSlice, rAppend, rMake, isInt, LV.rep, rCall, isSlice, sBuild, fillL, partsIn, ev_tmp, ev_const, ev_func, cv, cvc, optInt, S.put, S.putc, Env.get, aget, aset, stAll, baseOf, srcOf, lenOf?, killO, apartO, LV.app2, LV.app, LV.view, LV.mk, LV.rep, LV.z, LV.st, LV.lk, LV.ex, LV.len, LV.toL, allInts, allBools, allStrs, allBytes, allOps, cellsOf, AV.fits, isNil, tys, nmOf,
        renV, renA, renC, renL, renE, mu1, nwK, afterH, backOwn, backNew, Ent.isOwn, Ent.live, renDV, renDA, renD, renDL, renDE, selH, idOld_nil, idOld_cons, cns_t, cns_f, idRO, ros_nil, ros_cons, fillV, fillT, fillA, fillC,
        List.map_cons, List.map_nil, List.map_append, noN_renC, noN_renD, noN_len, List.filter_cons, List.filter_nil, List.append_nil, List.nil_append, List.cons_append, List.all_cons, List.all_nil, List.flatMap_cons, List.flatMap_nil, List.foldl_cons, List.foldl_nil, List.mapM_cons, List.mapM_nil, Option.pure_def, Option.bind_eq_bind, Option.bind_some,
        List.length_cons, List.length_nil, List.length_append, List.length_take, List.length_drop, List.length_replicate, List.length_set, List.length_map, List.drop_zero, List.drop_succ_cons, List.take_succ_cons, List.take_zero, List.take_length, List.take_nil, List.drop_nil, List.set_cons_zero, List.set_cons_succ, List.getD_cons_zero, List.getD_cons_succ, List.size_toArray,
        Option.getD_some, Option.getD_none, Option.map_some, Option.map_none, Option.isSome_some, List.getElem?_cons_zero, List.getElem?_cons_succ, List.getElem?_toArray, Nat.reduceEqDiff, Nat.reduceAdd, Nat.reduceSub, Nat.reduceMul, Nat.reduceDiv, Nat.reduceMod, opL, Nat.mul_mod_left, Nat.mul_mod_right, Nat.mul_div_cancel, Nat.mul_div_cancel_left, Nat.reduceLeDiff, Nat.reduceLT, Nat.reduceBEq, Nat.reduceBNe, Nat.zero_add, Nat.add_zero, Nat.mul_one, Nat.zero_mul, Nat.sub_zero, Nat.sub_self, Nat.le_refl, Nat.zero_le, Nat.not_lt_zero, Nat.lt_irrefl, Int.toNat_zero, Int.toNat_natCast, Int.natCast_zero, Int.le_refl,
        ↓reduceIte, if_true, if_false, true_and, and_true, and_self, and_assoc, cond_true, cond_false, decide_true, decide_false, decide_eq_true_eq, ← decide_not, Bool.not_true, Bool.not_false, Bool.true_and, Bool.and_true, Bool.false_and, Bool.and_false, Bool.or_false, Bool.false_or, Bool.or_true, Bool.true_or, Bool.and_eq_true, Bool.not_not, forall_const, true_implies, false_implies, implies_true, reduceCtorEq, ne_eq, not_true_eq_false, not_false_eq_true, Bool.false_eq_true, Bool.true_eq_false, bne_self_eq_false, beq_self_eq_true, eq_self_iff_true, matchH, match1, apartB, freeB, domB, nodupB, okRen, rosOk, tgtOk, ownAll, empOk, resA, resOne]
      try rfl)
    (hs : okRen H (idRO H0 ++ ρ) = true ∧ rosOk H (idRO H0 ++ ρ) H0 ∧ tgtOk H0 ρ = true ∧ ownAll H ρ = true ∧ empOk ρ emps = true := by
      first
        | (refine ⟨rfl, ?_, rfl, rfl, rfl⟩
           simp only [List.toList_toArray, Rs_ok, Rs_pick, Rs_call, Rs_nilc, Gd_t, Gd_f, Rd_ok, Rd_pick, Rd_call, sv_n, sv_g, sv_c, sv_w, sr_n, sr_g, sr_c, sr_w, rwalk_cons, rdr_cons, rdr_nil, afterD, backOwnD, backNewD, setsH, killD, srcG, baseG, optG, bq1, bq2, bq3, bq4, List.take_replicate, Nat.min_self, Nat.min_eq_left, lim40, limB, IntWalk.i64_in, rwalk_nil, gA, res, three, rLoad, rStore, rInt, rStr, rBin, rNil, rLen, rSlice, rAppend, rMake, isInt, LV.rep, rCall, isSlice, sBuild, fillL, partsIn, ev_tmp, ev_const, ev_func, cv, cvc, optInt, S.put, S.putc, Env.get, aget, aset, stAll, baseOf, srcOf, lenOf?, killO, apartO, LV.app2, LV.app, LV.view, LV.mk, LV.rep, LV.z, LV.st, LV.lk, LV.ex, LV.len, LV.toL, allInts, allBools, allStrs, allBytes, allOps, cellsOf, AV.fits, isNil, tys, nmOf,
        renV, renA, renC, renL, renE, mu1, nwK, afterH, backOwn, backNew, Ent.isOwn, Ent.live, renDV, renDA, renD, renDL, renDE, selH, idOld_nil, idOld_cons, cns_t, cns_f, idRO, ros_nil, ros_cons, fillV, fillT, fillA, fillC,
        List.map_cons, List.map_nil, List.map_append, noN_renC, noN_renD, noN_len, List.filter_cons, List.filter_nil, List.append_nil, List.nil_append, List.cons_append, List.all_cons, List.all_nil, List.flatMap_cons, List.flatMap_nil, List.foldl_cons, List.foldl_nil, List.mapM_cons, List.mapM_nil, Option.pure_def, Option.bind_eq_bind, Option.bind_some,
        List.length_cons, List.length_nil, List.length_append, List.length_take, List.length_drop, List.length_replicate, List.length_set, List.length_map, List.drop_zero, List.drop_succ_cons, List.take_succ_cons, List.take_zero, List.take_length, List.take_nil, List.drop_nil, List.set_cons_zero, List.set_cons_succ, List.getD_cons_zero, List.getD_cons_succ, List.size_toArray,
        Option.getD_some, Option.getD_none, Option.map_some, Option.map_none, Option.isSome_some, List.getElem?_cons_zero, List.getElem?_cons_succ, List.getElem?_toArray, Nat.reduceEqDiff, Nat.reduceAdd, Nat.reduceSub, Nat.reduceMul, Nat.reduceDiv, Nat.reduceMod, opL, Nat.mul_mod_left, Nat.mul_mod_right, Nat.mul_div_cancel, Nat.mul_div_cancel_left, Nat.reduceLeDiff, Nat.reduceLT, Nat.reduceBEq, Nat.reduceBNe, Nat.zero_add, Nat.add_zero, Nat.mul_one, Nat.zero_mul, Nat.sub_zero, Nat.sub_self, Nat.le_refl, Nat.zero_le, Nat.not_lt_zero, Nat.lt_irrefl, Int.toNat_zero, Int.toNat_natCast, Int.natCast_zero, Int.le_refl,
        ↓reduceIte, if_true, if_false, true_and, and_true, and_self, and_assoc, cond_true, cond_false, decide_true, decide_false, decide_eq_true_eq, ← decide_not, Bool.not_true, Bool.not_false, Bool.true_and, Bool.and_true, Bool.false_and, Bool.and_false, Bool.or_false, Bool.false_or, Bool.or_true, Bool.true_or, Bool.and_eq_true, Bool.not_not, forall_const, true_implies, false_implies, implies_true, reduceCtorEq, ne_eq, not_true_eq_false, not_false_eq_true, Bool.false_eq_true, Bool.true_eq_false, bne_self_eq_false, beq_self_eq_true, eq_self_iff_true, matchH, match1, apartB, freeB, domB, nodupB, okRen, rosOk, tgtOk, ownAll, empOk, resA, resOne]
           done)
        | (simp only [List.toList_toArray, Rs_ok, Rs_pick, Rs_call, Rs_nilc, Gd_t, Gd_f, Rd_ok, Rd_pick, Rd_call, sv_n, sv_g, sv_c, sv_w, sr_n, sr_g, sr_c, sr_w, rwalk_cons, rdr_cons, rdr_nil, afterD, backOwnD, backNewD, setsH, killD, srcG, baseG, optG, bq1, bq2, bq3, bq4, List.take_replicate, Nat.min_self, Nat.min_eq_left, lim40, limB, IntWalk.i64_in, rwalk_nil, gA, res, three, rLoad, rStore, rInt, rStr, rBin, rNil, rLen, rSlice, rAppend, rMake, isInt, LV.rep, rCall, isSlice, sBuild, fillL, partsIn, ev_tmp, ev_const, ev_func, cv, cvc, optInt, S.put, S.putc, Env.get, aget, aset, stAll, baseOf, srcOf, lenOf?, killO, apartO, LV.app2, LV.app, LV.view, LV.mk, LV.rep, LV.z, LV.st, LV.lk, LV.ex, LV.len, LV.toL, allInts, allBools, allStrs, allBytes, allOps, cellsOf, AV.fits, isNil, tys, nmOf,
        renV, renA, renC, renL, renE, mu1, nwK, afterH, backOwn, backNew, Ent.isOwn, Ent.live, renDV, renDA, renD, renDL, renDE, selH, idOld_nil, idOld_cons, cns_t, cns_f, idRO, ros_nil, ros_cons, fillV, fillT, fillA, fillC,
        List.map_cons, List.map_nil, List.map_append, noN_renC, noN_renD, noN_len, List.filter_cons, List.filter_nil, List.append_nil, List.nil_append, List.cons_append, List.all_cons, List.all_nil, List.flatMap_cons, List.flatMap_nil, List.foldl_cons, List.foldl_nil, List.mapM_cons, List.mapM_nil, Option.pure_def, Option.bind_eq_bind, Option.bind_some,
        List.length_cons, List.length_nil, List.length_append, List.length_take, List.length_drop, List.length_replicate, List.length_set, List.length_map, List.drop_zero, List.drop_succ_cons, List.take_succ_cons, List.take_zero, List.take_length, List.take_nil, List.drop_nil, List.set_cons_zero, List.set_cons_succ, List.getD_cons_zero, List.getD_cons_succ, List.size_toArray,
        Option.getD_some, Option.getD_none, Option.map_some, Option.map_none, Option.isSome_some, List.getElem?_cons_zero, List.getElem?_cons_succ, List.getElem?_toArray, Nat.reduceEqDiff, Nat.reduceAdd, Nat.reduceSub, Nat.reduceMul, Nat.reduceDiv, Nat.reduceMod, opL, Nat.mul_mod_left, Nat.mul_mod_right, Nat.mul_div_cancel, Nat.mul_div_cancel_left, Nat.reduceLeDiff, Nat.reduceLT, Nat.reduceBEq, Nat.reduceBNe, Nat.zero_add, Nat.add_zero, Nat.mul_one, Nat.zero_mul, Nat.sub_zero, Nat.sub_self, Nat.le_refl, Nat.zero_le, Nat.not_lt_zero, Nat.lt_irrefl, Int.toNat_zero, Int.toNat_natCast, Int.natCast_zero, Int.le_refl,
        ↓reduceIte, if_true, if_false, true_and, and_true, and_self, and_assoc, cond_true, cond_false, decide_true, decide_false, decide_eq_true_eq, ← decide_not, Bool.not_true, Bool.not_false, Bool.true_and, Bool.and_true, Bool.false_and, Bool.and_false, Bool.or_false, Bool.false_or, Bool.or_true, Bool.true_or, Bool.and_eq_true, Bool.not_not, forall_const, true_implies, false_implies, implies_true, reduceCtorEq, ne_eq, not_true_eq_false, not_false_eq_true, Bool.false_eq_true, Bool.true_eq_false, bne_self_eq_false, beq_self_eq_true, eq_self_iff_true, matchH, match1, apartB, freeB, domB, nodupB, okRen, rosOk, tgtOk, ownAll, empOk, resA, resOne]
           try exact decide_eq_true (by omega)))
    (hr' : fillV (emps.map (·.1)) (renDV (idRO H0 ++ ρ) r) = r' := by
      simp (maxSteps := 1000000) (disch := omega) only [List.toList_toArray, Rs_ok, Rs_pick, Rs_call, Rs_nilc, Gd_t, Gd_f, Rd_ok, Rd_pick, Rd_call, sv_n, sv_g, sv_c, sv_w, sr_n, sr_g, sr_c, sr_w, rwalk_cons, rdr_cons, rdr_nil, afterD, backOwnD, backNewD, setsH, killD, srcG, baseG, optG, bq1, bq2, bq3, bq4, List.take_replicate, Nat.min_self, Nat.min_eq_left, lim40, limB, IntWalk.i64_in, rwalk_nil, gA, res, three, rLoad, rStore, rInt, rStr, rBin, rNil, rLen, rSlice, rAppend, rMake, isInt, LV.rep, rCall, isSlice, sBuild, fillL, partsIn, ev_tmp, ev_const, ev_func, cv, cvc, optInt, S.put, S.putc, Env.get, aget, aset, stAll, baseOf, srcOf, lenOf?, killO, apartO, LV.app2, LV.app, LV.view, LV.mk, LV.rep, LV.z, LV.st, LV.lk, LV.ex, LV.len, LV.toL, allInts, allBools, allStrs, allBytes, allOps, cellsOf, AV.fits, isNil, tys, nmOf,
        renV, renA, renC, renL, renE, mu1, nwK, afterH, backOwn, backNew, Ent.isOwn, Ent.live, renDV, renDA, renD, renDL, renDE, selH, idOld_nil, idOld_cons, cns_t, cns_f, idRO, ros_nil, ros_cons, fillV, fillT, fillA, fillC,
        List.map_cons, List.map_nil, List.map_append, noN_renC, noN_renD, noN_len, List.filter_cons, List.filter_nil, List.append_nil, List.nil_append, List.cons_append, List.all_cons, List.all_nil, List.flatMap_cons, List.flatMap_nil, List.foldl_cons, List.foldl_nil, List.mapM_cons, List.mapM_nil, Option.pure_def, Option.bind_eq_bind, Option.bind_some,
        List.length_cons, List.length_nil, List.length_append, List.length_take, List.length_drop, List.length_replicate, List.length_set, List.length_map, List.drop_zero, List.drop_succ_cons, List.take_succ_cons, List.take_zero, List.take_length, List.take_nil, List.drop_nil, List.set_cons_zero, List.set_cons_succ, List.getD_cons_zero, List.getD_cons_succ, List.size_toArray,
        Option.getD_some, Option.getD_none, Option.map_some, Option.map_none, Option.isSome_some, List.getElem?_cons_zero, List.getElem?_cons_succ, List.getElem?_toArray, Nat.reduceEqDiff, Nat.reduceAdd, Nat.reduceSub, Nat.reduceMul, Nat.reduceDiv, Nat.reduceMod, opL, Nat.mul_mod_left, Nat.mul_mod_right, Nat.mul_div_cancel, Nat.mul_div_cancel_left, Nat.reduceLeDiff, Nat.reduceLT, Nat.reduceBEq, Nat.reduceBNe, Nat.zero_add, Nat.add_zero, Nat.mul_one, Nat.zero_mul, Nat.sub_zero, Nat.sub_self, Nat.le_refl, Nat.zero_le, Nat.not_lt_zero, Nat.lt_irrefl, Int.toNat_zero, Int.toNat_natCast, Int.natCast_zero, Int.le_refl,
        ↓reduceIte, if_true, if_false, true_and, and_true, and_self, and_assoc, cond_true, cond_false, decide_true, decide_false, decide_eq_true_eq, ← decide_not, Bool.not_true, Bool.not_false, Bool.true_and, Bool.and_true, Bool.false_and, Bool.and_false, Bool.or_false, Bool.false_or, Bool.or_true, Bool.true_or, Bool.and_eq_true, Bool.not_not, forall_const, true_implies, false_implies, implies_true, reduceCtorEq, ne_eq, not_true_eq_false, not_false_eq_true, Bool.false_eq_true, Bool.true_eq_false, bne_self_eq_false, beq_self_eq_true, eq_self_iff_true]
      try rfl)
    (hH' : selH (idRO H0 ++ ρ) H ρ ++ emps.map (fun p => (p.1, .c true p.2)) = H' := by
      simp (maxSteps := 1000000) (disch := omega) only [List.toList_toArray, Rs_ok, Rs_pick, Rs_call, Rs_nilc, Gd_t, Gd_f, Rd_ok, Rd_pick, Rd_call, sv_n, sv_g, sv_c, sv_w, sr_n, sr_g, sr_c, sr_w, rwalk_cons, rdr_cons, rdr_nil, afterD, backOwnD, backNewD, setsH, killD, srcG, baseG, optG, bq1, bq2, bq3, bq4, List.take_replicate, Nat.min_self, Nat.min_eq_left, lim40, limB, IntWalk.i64_in, rwalk_nil, gA, res, three, rLoad, rStore, rInt, rStr, rBin, rNil, rLen, rSlice, rAppend, rMake, isInt, LV.rep, rCall, isSlice, sBuild, fillL, partsIn, ev_tmp, ev_const, ev_func, cv, cvc, optInt, S.put, S.putc, Env.get, aget, aset, stAll, baseOf, srcOf, lenOf?, killO, apartO, LV.app2, LV.app, LV.view, LV.mk, LV.rep, LV.z, LV.st, LV.lk, LV.ex, LV.len, LV.toL, allInts, allBools, allStrs, allBytes, allOps, cellsOf, AV.fits, isNil, tys, nmOf,
        renV, renA, renC, renL, renE, mu1, nwK, afterH, backOwn, backNew, Ent.isOwn, Ent.live, renDV, renDA, renD, renDL, renDE, selH, idOld_nil, idOld_cons, cns_t, cns_f, idRO, ros_nil, ros_cons, fillV, fillT, fillA, fillC,
        List.map_cons, List.map_nil, List.map_append, noN_renC, noN_renD, noN_len, List.filter_cons, List.filter_nil, List.append_nil, List.nil_append, List.cons_append, List.all_cons, List.all_nil, List.flatMap_cons, List.flatMap_nil, List.foldl_cons, List.foldl_nil, List.mapM_cons, List.mapM_nil, Option.pure_def, Option.bind_eq_bind, Option.bind_some,
        List.length_cons, List.length_nil, List.length_append, List.length_take, List.length_drop, List.length_replicate, List.length_set, List.length_map, List.drop_zero, List.drop_succ_cons, List.take_succ_cons, List.take_zero, List.take_length, List.take_nil, List.drop_nil, List.set_cons_zero, List.set_cons_succ, List.getD_cons_zero, List.getD_cons_succ, List.size_toArray,
        Option.getD_some, Option.getD_none, Option.map_some, Option.map_none, Option.isSome_some, List.getElem?_cons_zero, List.getElem?_cons_succ, List.getElem?_toArray, Nat.reduceEqDiff, Nat.reduceAdd, Nat.reduceSub, Nat.reduceMul, Nat.reduceDiv, Nat.reduceMod, opL, Nat.mul_mod_left, Nat.mul_mod_right, Nat.mul_div_cancel, Nat.mul_div_cancel_left, Nat.reduceLeDiff, Nat.reduceLT, Nat.reduceBEq, Nat.reduceBNe, Nat.zero_add, Nat.add_zero, Nat.mul_one, Nat.zero_mul, Nat.sub_zero, Nat.sub_self, Nat.le_refl, Nat.zero_le, Nat.not_lt_zero, Nat.lt_irrefl, Int.toNat_zero, Int.toNat_natCast, Int.natCast_zero, Int.le_refl,
        ↓reduceIte, if_true, if_false, true_and, and_true, and_self, and_assoc, cond_true, cond_false, decide_true, decide_false, decide_eq_true_eq, ← decide_not, Bool.not_true, Bool.not_false, Bool.true_and, Bool.and_true, Bool.false_and, Bool.and_false, Bool.or_false, Bool.false_or, Bool.or_true, Bool.true_or, Bool.and_eq_true, Bool.not_not, forall_const, true_implies, false_implies, implies_true, reduceCtorEq, ne_eq, not_true_eq_false, not_false_eq_true, Bool.false_eq_true, Bool.true_eq_false, bne_self_eq_false, beq_self_eq_true, eq_self_iff_true]
      try rfl) :
    Wp D nt [] env H fun env H => ∃ r, resA Tryz.prog rs env H = some r ∧ RetP H0 R r H :=
  W_end ⟨r, hr, ρ, emps, hs.1, hs.2.1, hs.2.2.1, hs.2.2.2.1, hs.2.2.2.2, by subst hr' hH'; exact h⟩
/-- A list, written out. -/
structure Lit (l rs : List ResultVar) : Prop where
  eq : l = rs
/-- A function's contract, out of its code. -/
theorem Fn_go {rs : List ResultVar} {f : Nat} {fn : Func} {c : Code} {H0 : Heap} {args : List AV} {R : AV → Heap → Prop} (hf : Tryz.prog.funcs[f]? = some fn)
    (h : Wp Cx0 fn.ntmps [.code c] env H0 fun env H => ∃ r, resA Tryz.prog rs env H = some r ∧ RetP H0 R r H)
    (hres : Lit fn.results.toList rs := by first | exact ⟨(rfl : _ = [_])⟩ | exact ⟨(rfl : _ = [_, _])⟩ | exact ⟨(rfl : _ = [_, _, _])⟩ | exact ⟨(rfl : _ = [_, _, _, _])⟩ | exact ⟨(rfl : _ = [])⟩)
    (hb : fn.body = some c := by rfl)
    (henv : envOf args = env := by
      simp only [envOf, List.zipIdx_cons, List.zipIdx_nil, List.map_cons, List.map_nil, Nat.reduceAdd, Nat.zero_add]
      try rfl)
    (hname : (fn.name == "runtime.NumGoroutine") = false := by kernel_rfl) (hok : codeOk fn.ntmps c = true := by kernel_rfl)
    (hlen : Nat.ble args.length fn.ntmps = true := by rfl) (hnd : nodupB H0 = true := by rfl) (h100 : ∀ p ∈ H0, p.1 < 100 := by simp) : Fn Tryz.prog f H0 args R :=
  Fn_of_code hf hb hname hok (Nat.le_of_ble_eq_true hlen) hnd h100 (by rw [henv, hres.eq]; exact h)
end
end Go.Proofs.YtbobhbhgomkgpaaGreatDoor.S
