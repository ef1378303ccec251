/- Contracts: the steps, on lists told by the values that point at them. Own work of this claim. -/
import Derived.Test.YtbobhbhgomkgpaaGreatDoorGx
import Derived.Test.YtbobhbhgomkgpaaGreatDoorGw
import Derived.Test.YtbobhbhgomkgpaaGreatDoorA7
namespace Go.Proofs.YtbobhbhgomkgpaaGreatDoor.S
set_option linter.all false
open Go Go.Proofs
set_option maxHeartbeats 4000000
set_option maxRecDepth 100000
/-- A function's contract under what is known. -/
theorem Fn_goC {C : Cx} {rs : List ResultVar} {f : Nat} {fn : Func} {c : Code} {env : Env} {H0 : Heap} {args : List AV} {R : AV → Heap → Prop} (hf : Tryz.prog.funcs[f]? = some fn)
    (h : Wp C fn.ntmps [.code c] env H0 fun env H => ∃ r, resA Tryz.prog rs env H = some r ∧ RetP H0 R r H)
    (hres : Lit fn.results.toList rs := by first | exact ⟨(rfl : _ = [_])⟩ | exact ⟨(rfl : _ = [_, _])⟩ | exact ⟨(rfl : _ = [_, _, _])⟩ | exact ⟨(rfl : _ = [_, _, _, _])⟩ | exact ⟨(rfl : _ = [])⟩)
    (hb : fn.body = some c := by rfl)
    (henv : envOf args = env := by
      simp only [envOf, List.zipIdx_cons, List.zipIdx_nil, List.map_cons, List.map_nil, Nat.reduceAdd, Nat.zero_add]
      try rfl)
    (hname : (fn.name == "runtime.NumGoroutine") = false := by kernel_rfl) (hok : codeOk fn.ntmps c = true := by kernel_rfl)
    (hlen : Nat.ble args.length fn.ntmps = true := by rfl) (hnd : nodupB H0 = true := by rfl) (h100 : ∀ p ∈ H0, p.1 < 100 := by simp) : FnC C Tryz.prog f H0 args R :=
  Fn_of_code hf hb hname hok (Nat.le_of_ble_eq_true hlen) hnd h100 (by rw [henv, hres.eq]; exact h)

theorem noN_take (l : List AV) : List.take l.length (noN l) = noN l := List.take_of_length_le (by rw [noN_len]; exact Nat.le_refl _)
section
variable {D : Cx} {nt : Nat} {ks : List It} {env env' : Env} {H H' : Heap} {R : Env → Heap → Prop} {id : Nat} {ops : Array Oper}
theorem CKuC {C : Cx} {all os : List Oper} {i g : Nat} {K : Env → Heap → Prop} {d : Option Tmp} {args args0 : List AV} {H0 H1 : Heap} {r : AV} {μ : List (Nat × (Nat × Nat))} (_ : Tok μ) (hfn : FnC C Tryz.prog g H0 args0 fun r' H' => r' = r ∧ H' = H1) (htr : C.tr) (hDC : ∀ G hp, D G hp → C G hp)
    (hs : args.all AV.fits = true ∧ args = args0.map (renA (aget μ)) ∧ matchH μ H H0 ∧ apartB μ H0 = true ∧ freeB H (nmOf id i) = true ∧ domB μ H0 = true ∧ nodupB H0 = true ∧ 100 ≤ nmOf id i ∧ nodupB H1 = true)
    (h : rwalk Tryz.prog (callC D Tryz.prog) all id (i + 1) os (S.putc env d (renV (mu1 μ (nmOf id i)) r)) (afterH μ (nmOf id i) H H0 H1) K) : CallK Tryz.prog (callC D Tryz.prog) all id i os d env K g args H :=
  ⟨C, H0, args0, _, μ, hfn, htr, hDC, hs.1, hs.2.1, hs.2.2.1, hs.2.2.2.1, hs.2.2.2.2.1, hs.2.2.2.2.2.1, hs.2.2.2.2.2.2.1, hs.2.2.2.2.2.2.2.1, by rintro _ _ ⟨rfl, rfl⟩; exact ⟨hs.2.2.2.2.2.2.2.2, h⟩⟩
theorem W_cC {C : Cx} {g0 : Nat} {a0 : List AV} {P0 Q0 : Heap} {r0 : AV} (μ0 : List (Nat × (Nat × Nat))) (f0 : FnC C Tryz.prog g0 P0 a0 fun r' H' => r' = r0 ∧ H' = Q0) (htr : C.tr) (hDC : ∀ G hp, D G hp → C G hp) (h : Wp D nt ks env' H' R)
    (h0 : Tok μ0 → FnC C Tryz.prog g0 P0 a0 (fun r' H' => r' = r0 ∧ H' = Q0) → C.tr → (∀ G hp, D G hp → C G hp) → ∀ K : Env → Heap → Prop, Hold (K env' H') → rwalk Tryz.prog (callC D Tryz.prog) ops.toList id 0 ops.toList env H K := by
      intro m0 f0 t0 d0 K hK
      simp (maxSteps := 1000000) (disch := omega) only [List.toList_toArray, Rs_ok, Rs_pick, Rs_call, Rs_nilc, Gd_t, Gd_f, Rd_ok, Rd_pick, Rd_call, sv_n, sv_g, sv_c, sv_w, sr_n, sr_g, sr_c, sr_w, rwalk_cons, rdr_cons, rdr_nil, afterD, backOwnD, backNewD, setsH, killD, srcG, baseG, optG, bq1, bq2, bq3, bq4, List.take_replicate, Nat.min_self, Nat.min_eq_left, lim40, limB, IntWalk.i64_in, rwalk_nil, gA, res, three, rLoad, rStore, rInt, rStr, rBin, rNil, rLen, rSlice, rAppend, rMake, isInt, LV.rep, rCall, isSlice, sBuild, fillL, partsIn, ev_tmp, ev_const, ev_func, cv, cvc, optInt, S.put, S.putc, Env.get, aget, aset, stAll, baseOf, srcOf, lenOf?, killO, apartO, LV.app2, LV.app, LV.view, LV.mk, LV.rep, LV.z, LV.st, LV.lk, LV.ex, LV.len, LV.toL, allInts, allBools, allStrs, allBytes, allOps, cellsOf, AV.fits, isNil, tys, nmOf,
        renV, renA, renC, renL, renE, mu1, nwK, afterH, backOwn, backNew, Ent.isOwn, Ent.live, renDV, renDA, renD, renDL, renDE, selH, idOld_nil, idOld_cons, cns_t, cns_f, idRO, ros_nil, ros_cons, fillV, fillT, fillA, fillC,
        List.map_cons, List.map_nil, List.map_append, noN_renC, noN_renD, noN_len, noN_take, List.filter_cons, List.filter_nil, List.append_nil, List.nil_append, List.cons_append, List.all_cons, List.all_nil, List.flatMap_cons, List.flatMap_nil, List.foldl_cons, List.foldl_nil, List.mapM_cons, List.mapM_nil, Option.pure_def, Option.bind_eq_bind, Option.bind_some,
        List.length_cons, List.length_nil, List.length_append, List.length_take, List.length_drop, List.length_replicate, List.length_set, List.length_map, List.drop_zero, List.drop_succ_cons, List.take_succ_cons, List.take_zero, List.take_length, List.take_nil, List.drop_nil, List.set_cons_zero, List.set_cons_succ, List.getD_cons_zero, List.getD_cons_succ, List.size_toArray,
        Option.getD_some, Option.getD_none, Option.map_some, Option.map_none, Option.isSome_some, List.getElem?_cons_zero, List.getElem?_cons_succ, List.getElem?_toArray, Nat.reduceEqDiff, Nat.reduceAdd, Nat.reduceSub, Nat.reduceMul, Nat.reduceDiv, Nat.reduceMod, opL, Nat.mul_mod_left, Nat.mul_mod_right, Nat.mul_div_cancel, Nat.mul_div_cancel_left, Nat.reduceLeDiff, Nat.reduceLT, Nat.reduceBEq, Nat.reduceBNe, Nat.zero_add, Nat.add_zero, Nat.mul_one, Nat.zero_mul, Nat.sub_zero, Nat.sub_self, Nat.le_refl, Nat.zero_le, Nat.not_lt_zero, Nat.lt_irrefl, Int.toNat_zero, Int.toNat_natCast, Int.natCast_zero, Int.le_refl,
        ↓reduceIte, if_true, if_false, true_and, and_true, and_self, and_assoc, cond_true, cond_false, decide_true, decide_false, decide_eq_true_eq, ← decide_not, Bool.not_true, Bool.not_false, Bool.true_and, Bool.and_true, Bool.false_and, Bool.and_false, Bool.or_false, Bool.false_or, Bool.or_true, Bool.true_or, Bool.and_eq_true, Bool.not_not, forall_const, true_implies, false_implies, implies_true, reduceCtorEq, ne_eq, not_true_eq_false, not_false_eq_true, Bool.false_eq_true, Bool.true_eq_false, bne_self_eq_false, beq_self_eq_true, eq_self_iff_true, *, -hK]
      repeat (refine And.intro (by omega) ?_)
      refine CKuC m0 f0 t0 d0 ?_ ?_
      · (refine ⟨rfl, ?_, ?_, rfl, rfl, rfl, rfl, Nat.le_of_ble_eq_true rfl, rfl⟩ <;> simp (maxSteps := 1000000) (disch := omega) only [List.toList_toArray, Rs_ok, Rs_pick, Rs_call, Rs_nilc, Gd_t, Gd_f, Rd_ok, Rd_pick, Rd_call, sv_n, sv_g, sv_c, sv_w, sr_n, sr_g, sr_c, sr_w, rwalk_cons, rdr_cons, rdr_nil, afterD, backOwnD, backNewD, setsH, killD, srcG, baseG, optG, bq1, bq2, bq3, bq4, List.take_replicate, Nat.min_self, Nat.min_eq_left, lim40, limB, IntWalk.i64_in, rwalk_nil, gA, res, three, rLoad, rStore, rInt, rStr, rBin, rNil, rLen, rSlice, rAppend, rMake, isInt, LV.rep, rCall, isSlice, sBuild, fillL, partsIn, ev_tmp, ev_const, ev_func, cv, cvc, optInt, S.put, S.putc, Env.get, aget, aset, stAll, baseOf, srcOf, lenOf?, killO, apartO, LV.app2, LV.app, LV.view, LV.mk, LV.rep, LV.z, LV.st, LV.lk, LV.ex, LV.len, LV.toL, allInts, allBools, allStrs, allBytes, allOps, cellsOf, AV.fits, isNil, tys, nmOf,
        renV, renA, renC, renL, renE, mu1, nwK, afterH, backOwn, backNew, Ent.isOwn, Ent.live, renDV, renDA, renD, renDL, renDE, selH, idOld_nil, idOld_cons, cns_t, cns_f, idRO, ros_nil, ros_cons, fillV, fillT, fillA, fillC,
        List.map_cons, List.map_nil, List.map_append, noN_renC, noN_renD, noN_len, noN_take, List.filter_cons, List.filter_nil, List.append_nil, List.nil_append, List.cons_append, List.all_cons, List.all_nil, List.flatMap_cons, List.flatMap_nil, List.foldl_cons, List.foldl_nil, List.mapM_cons, List.mapM_nil, Option.pure_def, Option.bind_eq_bind, Option.bind_some,
        List.length_cons, List.length_nil, List.length_append, List.length_take, List.length_drop, List.length_replicate, List.length_set, List.length_map, List.drop_zero, List.drop_succ_cons, List.take_succ_cons, List.take_zero, List.take_length, List.take_nil, List.drop_nil, List.set_cons_zero, List.set_cons_succ, List.getD_cons_zero, List.getD_cons_succ, List.size_toArray,
        Option.getD_some, Option.getD_none, Option.map_some, Option.map_none, Option.isSome_some, List.getElem?_cons_zero, List.getElem?_cons_succ, List.getElem?_toArray, Nat.reduceEqDiff, Nat.reduceAdd, Nat.reduceSub, Nat.reduceMul, Nat.reduceDiv, Nat.reduceMod, opL, Nat.mul_mod_left, Nat.mul_mod_right, Nat.mul_div_cancel, Nat.mul_div_cancel_left, Nat.reduceLeDiff, Nat.reduceLT, Nat.reduceBEq, Nat.reduceBNe, Nat.zero_add, Nat.add_zero, Nat.mul_one, Nat.zero_mul, Nat.sub_zero, Nat.sub_self, Nat.le_refl, Nat.zero_le, Nat.not_lt_zero, Nat.lt_irrefl, Int.toNat_zero, Int.toNat_natCast, Int.natCast_zero, Int.le_refl,
        ↓reduceIte, if_true, if_false, true_and, and_true, and_self, and_assoc, cond_true, cond_false, decide_true, decide_false, decide_eq_true_eq, ← decide_not, Bool.not_true, Bool.not_false, Bool.true_and, Bool.and_true, Bool.false_and, Bool.and_false, Bool.or_false, Bool.false_or, Bool.or_true, Bool.true_or, Bool.and_eq_true, Bool.not_not, forall_const, true_implies, false_implies, implies_true, reduceCtorEq, ne_eq, not_true_eq_false, not_false_eq_true, Bool.false_eq_true, Bool.true_eq_false, bne_self_eq_false, beq_self_eq_true, eq_self_iff_true, matchH, match1, apartB, freeB, domB, nodupB, okRen, rosOk, tgtOk, ownAll, empOk, resA, resOne]) <;> try omega
      simp (maxSteps := 1000000) (disch := omega) only [List.toList_toArray, Rs_ok, Rs_pick, Rs_call, Rs_nilc, Gd_t, Gd_f, Rd_ok, Rd_pick, Rd_call, sv_n, sv_g, sv_c, sv_w, sr_n, sr_g, sr_c, sr_w, rwalk_cons, rdr_cons, rdr_nil, afterD, backOwnD, backNewD, setsH, killD, srcG, baseG, optG, bq1, bq2, bq3, bq4, List.take_replicate, Nat.min_self, Nat.min_eq_left, lim40, limB, IntWalk.i64_in, rwalk_nil, gA, res, three, rLoad, rStore, rInt, rStr, rBin, rNil, rLen, rSlice, rAppend, rMake, isInt, LV.rep, rCall, isSlice, sBuild, fillL, partsIn, ev_tmp, ev_const, ev_func, cv, cvc, optInt, S.put, S.putc, Env.get, aget, aset, stAll, baseOf, srcOf, lenOf?, killO, apartO, LV.app2, LV.app, LV.view, LV.mk, LV.rep, LV.z, LV.st, LV.lk, LV.ex, LV.len, LV.toL, allInts, allBools, allStrs, allBytes, allOps, cellsOf, AV.fits, isNil, tys, nmOf,
        renV, renA, renC, renL, renE, mu1, nwK, afterH, backOwn, backNew, Ent.isOwn, Ent.live, renDV, renDA, renD, renDL, renDE, selH, idOld_nil, idOld_cons, cns_t, cns_f, idRO, ros_nil, ros_cons, fillV, fillT, fillA, fillC,
        List.map_cons, List.map_nil, List.map_append, noN_renC, noN_renD, noN_len, noN_take, List.filter_cons, List.filter_nil, List.append_nil, List.nil_append, List.cons_append, List.all_cons, List.all_nil, List.flatMap_cons, List.flatMap_nil, List.foldl_cons, List.foldl_nil, List.mapM_cons, List.mapM_nil, Option.pure_def, Option.bind_eq_bind, Option.bind_some,
        List.length_cons, List.length_nil, List.length_append, List.length_take, List.length_drop, List.length_replicate, List.length_set, List.length_map, List.drop_zero, List.drop_succ_cons, List.take_succ_cons, List.take_zero, List.take_length, List.take_nil, List.drop_nil, List.set_cons_zero, List.set_cons_succ, List.getD_cons_zero, List.getD_cons_succ, List.size_toArray,
        Option.getD_some, Option.getD_none, Option.map_some, Option.map_none, Option.isSome_some, List.getElem?_cons_zero, List.getElem?_cons_succ, List.getElem?_toArray, Nat.reduceEqDiff, Nat.reduceAdd, Nat.reduceSub, Nat.reduceMul, Nat.reduceDiv, Nat.reduceMod, opL, Nat.mul_mod_left, Nat.mul_mod_right, Nat.mul_div_cancel, Nat.mul_div_cancel_left, Nat.reduceLeDiff, Nat.reduceLT, Nat.reduceBEq, Nat.reduceBNe, Nat.zero_add, Nat.add_zero, Nat.mul_one, Nat.zero_mul, Nat.sub_zero, Nat.sub_self, Nat.le_refl, Nat.zero_le, Nat.not_lt_zero, Nat.lt_irrefl, Int.toNat_zero, Int.toNat_natCast, Int.natCast_zero, Int.le_refl,
        ↓reduceIte, if_true, if_false, true_and, and_true, and_self, and_assoc, cond_true, cond_false, decide_true, decide_false, decide_eq_true_eq, ← decide_not, Bool.not_true, Bool.not_false, Bool.true_and, Bool.and_true, Bool.false_and, Bool.and_false, Bool.or_false, Bool.false_or, Bool.or_true, Bool.true_or, Bool.and_eq_true, Bool.not_not, forall_const, true_implies, false_implies, implies_true, reduceCtorEq, ne_eq, not_true_eq_false, not_false_eq_true, Bool.false_eq_true, Bool.true_eq_false, bne_self_eq_false, beq_self_eq_true, eq_self_iff_true, *, -hK]
      repeat (refine And.intro (by omega) ?_)
      exact hK.told) :
    Wp D nt (.code (.region id ops false) :: ks) env H R :=
  W_rwC fun K hK => h0 ⟨⟩ f0 htr hDC K ⟨hK _ _ h⟩
theorem W_dcD {C : Cx} {g0 : Nat} {a0 : List AV} {P0 Q0 : Heap} {r0 : AV} (μ0 : List (Nat × (Nat × Nat))) (f0 : FnC C Tryz.prog g0 P0 a0 fun r' H' => r' = r0 ∧ H' = Q0) (htr : C.tr) (hDC : ∀ G hp, D G hp → C G hp) (scr : List Scr) (h : Wp D nt ks env' H' R)
    (hback : backB 0 ops.toList = true := by rfl)
    (h0 : Tok μ0 → FnC C Tryz.prog g0 P0 a0 (fun r' H' => r' = r0 ∧ H' = Q0) → C.tr → (∀ G hp, D G hp → C G hp) → ∀ K : Env → Heap → Prop, Hold (K env' H') → rdr Tryz.prog (callC D Tryz.prog) ops.toList id 0 ops.toList env H scr K := by
      intro m0 f0 t0 d0 K hK
      simp (maxSteps := 1000000) (disch := omega) only [List.toList_toArray, Rs_ok, Rs_pick, Rs_call, Rs_nilc, Gd_t, Gd_f, Rd_ok, Rd_pick, Rd_call, sv_n, sv_g, sv_c, sv_w, sr_n, sr_g, sr_c, sr_w, rwalk_cons, rdr_cons, rdr_nil, afterD, backOwnD, backNewD, setsH, killD, srcG, baseG, optG, bq1, bq2, bq3, bq4, List.take_replicate, Nat.min_self, Nat.min_eq_left, lim40, limB, IntWalk.i64_in, rwalk_nil, gA, res, three, rLoad, rStore, rInt, rStr, rBin, rNil, rLen, rSlice, rAppend, rMake, isInt, LV.rep, rCall, isSlice, sBuild, fillL, partsIn, ev_tmp, ev_const, ev_func, cv, cvc, optInt, S.put, S.putc, Env.get, aget, aset, stAll, baseOf, srcOf, lenOf?, killO, apartO, LV.app2, LV.app, LV.view, LV.mk, LV.rep, LV.z, LV.st, LV.lk, LV.ex, LV.len, LV.toL, allInts, allBools, allStrs, allBytes, allOps, cellsOf, AV.fits, isNil, tys, nmOf,
        renV, renA, renC, renL, renE, mu1, nwK, afterH, backOwn, backNew, Ent.isOwn, Ent.live, renDV, renDA, renD, renDL, renDE, selH, idOld_nil, idOld_cons, cns_t, cns_f, idRO, ros_nil, ros_cons, fillV, fillT, fillA, fillC,
        List.map_cons, List.map_nil, List.map_append, noN_renC, noN_renD, noN_len, List.filter_cons, List.filter_nil, List.append_nil, List.nil_append, List.cons_append, List.all_cons, List.all_nil, List.flatMap_cons, List.flatMap_nil, List.foldl_cons, List.foldl_nil, List.mapM_cons, List.mapM_nil, Option.pure_def, Option.bind_eq_bind, Option.bind_some,
        List.length_cons, List.length_nil, List.length_append, List.length_take, List.length_drop, List.length_replicate, List.length_set, List.length_map, List.drop_zero, List.drop_succ_cons, List.take_succ_cons, List.take_zero, List.take_length, List.take_nil, List.drop_nil, List.set_cons_zero, List.set_cons_succ, List.getD_cons_zero, List.getD_cons_succ, List.size_toArray,
        Option.getD_some, Option.getD_none, Option.map_some, Option.map_none, Option.isSome_some, List.getElem?_cons_zero, List.getElem?_cons_succ, List.getElem?_toArray, Nat.reduceEqDiff, Nat.reduceAdd, Nat.reduceSub, Nat.reduceMul, Nat.reduceDiv, Nat.reduceMod, opL, Nat.mul_mod_left, Nat.mul_mod_right, Nat.mul_div_cancel, Nat.mul_div_cancel_left, Nat.reduceLeDiff, Nat.reduceLT, Nat.reduceBEq, Nat.reduceBNe, Nat.zero_add, Nat.add_zero, Nat.mul_one, Nat.zero_mul, Nat.sub_zero, Nat.sub_self, Nat.le_refl, Nat.zero_le, Nat.not_lt_zero, Nat.lt_irrefl, Int.toNat_zero, Int.toNat_natCast, Int.natCast_zero, Int.le_refl,
        ↓reduceIte, if_true, if_false, true_and, and_true, and_self, and_assoc, cond_true, cond_false, decide_true, decide_false, decide_eq_true_eq, ← decide_not, Bool.not_true, Bool.not_false, Bool.true_and, Bool.and_true, Bool.false_and, Bool.and_false, Bool.or_false, Bool.false_or, Bool.or_true, Bool.true_or, Bool.and_eq_true, Bool.not_not, forall_const, true_implies, false_implies, implies_true, reduceCtorEq, ne_eq, not_true_eq_false, not_false_eq_true, Bool.false_eq_true, Bool.true_eq_false, bne_self_eq_false, beq_self_eq_true, eq_self_iff_true, *, -hK]
      repeat (refine And.intro (by omega) ?_)
      refine CKvC m0 f0 t0 d0 ⟨rfl, rfl, rfl⟩ ?_ ?_
      · (refine ⟨rfl, ?_, ?_, rfl, rfl, rfl, rfl, Nat.le_of_ble_eq_true rfl, rfl⟩ <;> simp (maxSteps := 1000000) (disch := omega) only [List.toList_toArray, Rs_ok, Rs_pick, Rs_call, Rs_nilc, Gd_t, Gd_f, Rd_ok, Rd_pick, Rd_call, sv_n, sv_g, sv_c, sv_w, sr_n, sr_g, sr_c, sr_w, rwalk_cons, rdr_cons, rdr_nil, afterD, backOwnD, backNewD, setsH, killD, srcG, baseG, optG, bq1, bq2, bq3, bq4, List.take_replicate, Nat.min_self, Nat.min_eq_left, lim40, limB, IntWalk.i64_in, rwalk_nil, gA, res, three, rLoad, rStore, rInt, rStr, rBin, rNil, rLen, rSlice, rAppend, rMake, isInt, LV.rep, rCall, isSlice, sBuild, fillL, partsIn, ev_tmp, ev_const, ev_func, cv, cvc, optInt, S.put, S.putc, Env.get, aget, aset, stAll, baseOf, srcOf, lenOf?, killO, apartO, LV.app2, LV.app, LV.view, LV.mk, LV.rep, LV.z, LV.st, LV.lk, LV.ex, LV.len, LV.toL, allInts, allBools, allStrs, allBytes, allOps, cellsOf, AV.fits, isNil, tys, nmOf,
        renV, renA, renC, renL, renE, mu1, nwK, afterH, backOwn, backNew, Ent.isOwn, Ent.live, renDV, renDA, renD, renDL, renDE, selH, idOld_nil, idOld_cons, cns_t, cns_f, idRO, ros_nil, ros_cons, fillV, fillT, fillA, fillC,
        List.map_cons, List.map_nil, List.map_append, noN_renC, noN_renD, noN_len, List.filter_cons, List.filter_nil, List.append_nil, List.nil_append, List.cons_append, List.all_cons, List.all_nil, List.flatMap_cons, List.flatMap_nil, List.foldl_cons, List.foldl_nil, List.mapM_cons, List.mapM_nil, Option.pure_def, Option.bind_eq_bind, Option.bind_some,
        List.length_cons, List.length_nil, List.length_append, List.length_take, List.length_drop, List.length_replicate, List.length_set, List.length_map, List.drop_zero, List.drop_succ_cons, List.take_succ_cons, List.take_zero, List.take_length, List.take_nil, List.drop_nil, List.set_cons_zero, List.set_cons_succ, List.getD_cons_zero, List.getD_cons_succ, List.size_toArray,
        Option.getD_some, Option.getD_none, Option.map_some, Option.map_none, Option.isSome_some, List.getElem?_cons_zero, List.getElem?_cons_succ, List.getElem?_toArray, Nat.reduceEqDiff, Nat.reduceAdd, Nat.reduceSub, Nat.reduceMul, Nat.reduceDiv, Nat.reduceMod, opL, Nat.mul_mod_left, Nat.mul_mod_right, Nat.mul_div_cancel, Nat.mul_div_cancel_left, Nat.reduceLeDiff, Nat.reduceLT, Nat.reduceBEq, Nat.reduceBNe, Nat.zero_add, Nat.add_zero, Nat.mul_one, Nat.zero_mul, Nat.sub_zero, Nat.sub_self, Nat.le_refl, Nat.zero_le, Nat.not_lt_zero, Nat.lt_irrefl, Int.toNat_zero, Int.toNat_natCast, Int.natCast_zero, Int.le_refl,
        ↓reduceIte, if_true, if_false, true_and, and_true, and_self, and_assoc, cond_true, cond_false, decide_true, decide_false, decide_eq_true_eq, ← decide_not, Bool.not_true, Bool.not_false, Bool.true_and, Bool.and_true, Bool.false_and, Bool.and_false, Bool.or_false, Bool.false_or, Bool.or_true, Bool.true_or, Bool.and_eq_true, Bool.not_not, forall_const, true_implies, false_implies, implies_true, reduceCtorEq, ne_eq, not_true_eq_false, not_false_eq_true, Bool.false_eq_true, Bool.true_eq_false, bne_self_eq_false, beq_self_eq_true, eq_self_iff_true, matchH, match1, apartB, freeB, domB, nodupB, okRen, rosOk, tgtOk, ownAll, empOk, resA, resOne]) <;> try omega
      simp (maxSteps := 1000000) (disch := omega) only [List.toList_toArray, Rs_ok, Rs_pick, Rs_call, Rs_nilc, Gd_t, Gd_f, Rd_ok, Rd_pick, Rd_call, sv_n, sv_g, sv_c, sv_w, sr_n, sr_g, sr_c, sr_w, rwalk_cons, rdr_cons, rdr_nil, afterD, backOwnD, backNewD, setsH, killD, srcG, baseG, optG, bq1, bq2, bq3, bq4, List.take_replicate, Nat.min_self, Nat.min_eq_left, lim40, limB, IntWalk.i64_in, rwalk_nil, gA, res, three, rLoad, rStore, rInt, rStr, rBin, rNil, rLen, rSlice, rAppend, rMake, isInt, LV.rep, rCall, isSlice, sBuild, fillL, partsIn, ev_tmp, ev_const, ev_func, cv, cvc, optInt, S.put, S.putc, Env.get, aget, aset, stAll, baseOf, srcOf, lenOf?, killO, apartO, LV.app2, LV.app, LV.view, LV.mk, LV.rep, LV.z, LV.st, LV.lk, LV.ex, LV.len, LV.toL, allInts, allBools, allStrs, allBytes, allOps, cellsOf, AV.fits, isNil, tys, nmOf,
        renV, renA, renC, renL, renE, mu1, nwK, afterH, backOwn, backNew, Ent.isOwn, Ent.live, renDV, renDA, renD, renDL, renDE, selH, idOld_nil, idOld_cons, cns_t, cns_f, idRO, ros_nil, ros_cons, fillV, fillT, fillA, fillC,
        List.map_cons, List.map_nil, List.map_append, noN_renC, noN_renD, noN_len, List.filter_cons, List.filter_nil, List.append_nil, List.nil_append, List.cons_append, List.all_cons, List.all_nil, List.flatMap_cons, List.flatMap_nil, List.foldl_cons, List.foldl_nil, List.mapM_cons, List.mapM_nil, Option.pure_def, Option.bind_eq_bind, Option.bind_some,
        List.length_cons, List.length_nil, List.length_append, List.length_take, List.length_drop, List.length_replicate, List.length_set, List.length_map, List.drop_zero, List.drop_succ_cons, List.take_succ_cons, List.take_zero, List.take_length, List.take_nil, List.drop_nil, List.set_cons_zero, List.set_cons_succ, List.getD_cons_zero, List.getD_cons_succ, List.size_toArray,
        Option.getD_some, Option.getD_none, Option.map_some, Option.map_none, Option.isSome_some, List.getElem?_cons_zero, List.getElem?_cons_succ, List.getElem?_toArray, Nat.reduceEqDiff, Nat.reduceAdd, Nat.reduceSub, Nat.reduceMul, Nat.reduceDiv, Nat.reduceMod, opL, Nat.mul_mod_left, Nat.mul_mod_right, Nat.mul_div_cancel, Nat.mul_div_cancel_left, Nat.reduceLeDiff, Nat.reduceLT, Nat.reduceBEq, Nat.reduceBNe, Nat.zero_add, Nat.add_zero, Nat.mul_one, Nat.zero_mul, Nat.sub_zero, Nat.sub_self, Nat.le_refl, Nat.zero_le, Nat.not_lt_zero, Nat.lt_irrefl, Int.toNat_zero, Int.toNat_natCast, Int.natCast_zero, Int.le_refl,
        ↓reduceIte, if_true, if_false, true_and, and_true, and_self, and_assoc, cond_true, cond_false, decide_true, decide_false, decide_eq_true_eq, ← decide_not, Bool.not_true, Bool.not_false, Bool.true_and, Bool.and_true, Bool.false_and, Bool.and_false, Bool.or_false, Bool.false_or, Bool.or_true, Bool.true_or, Bool.and_eq_true, Bool.not_not, forall_const, true_implies, false_implies, implies_true, reduceCtorEq, ne_eq, not_true_eq_false, not_false_eq_true, Bool.false_eq_true, Bool.true_eq_false, bne_self_eq_false, beq_self_eq_true, eq_self_iff_true, *, -hK]
      repeat (refine And.intro (by omega) ?_)
      exact hK.told)
    (hok : drawOk Tryz.prog ops.toList id 0 ops.toList env H scr [] = true := by kernel_rfl) :
    Wp D nt (.code (.region id ops true) :: ks) env H R :=
  W_dsC mixed_ok scr hback hok fun K hK => h0 ⟨⟩ f0 htr hDC K ⟨hK _ _ h⟩
end
theorem iStepBothL_c (v : Nat → Value) (b : Bth) (hl : (((b.s.h.L.length ≤ 4194304 ∧ b.s.h.R.length ≤ 4194304 ∧ b.s.h.T.length ≤ 4194304) ∧ b.s.F.length ≤ 4194304) ∧ b.g.C.length ≤ 4194304) ∧ b.o.length ≤ 4194304) : FnC (HB v b) Tryz.prog 13 [] [.agg [.lit (v 0), .lit (v 1), .lit (v 2), .lit (v 3), .int .i64 b.g.p, .lit (v 4), .int .i64 b.g.a, .lit (v 5), .int .i64 b.a, .bool b.l]]
    (fun r H => r = .tup [.agg [.sl 100 0 b.sgc.s.h.L.length, .sl 101 0 b.sgc.s.h.R.length, .sl 102 0 b.sgc.s.h.T.length, .sl 103 0 b.sgc.s.F.length, .int .i64 b.sgc.g.p, .sl 104 0 b.sgc.g.C.length, .int .i64 b.sgc.g.a, .sl 105 0 b.sgc.o.length, .int .i64 b.sgc.a, .bool b.sgc.l], .bool (decide b.gcOk)] ∧ H = [(100, .c true (.ints b.sgc.s.h.L)), (101, .c true (.ints b.sgc.s.h.R)), (102, .c true (.ints b.sgc.s.h.T)), (103, .c true (.ints b.sgc.s.F)), (104, .c true (.ints b.sgc.g.C)), (105, .c true (.ops b.sgc.o))]) := by
  have hN := ianew_c b hl
  have hv := iBothValid_c b hl
  have no : ¬ b.gcOk → b.sgc = .zero ∧ decide b.gcOk = false := fun q => ⟨by rw [Bth.sgc, if_neg q], decide_eq_false q⟩
  replace no : Hold _ := ⟨no⟩
  by_cases g1 : b.ok
  case neg =>
    rw [decide_eq_false g1] at hv
    obtain ⟨e1, e3⟩ := no.told (fun q => g1 q.1)
    rw [e1, e3]
    clear e1 e3 no g1 hN
    refine Fn_goC Tryz.func13 ?_
    refine W_go ?_
    refine W_thaw 1024 300 0 (fun G hp q => q.1) ?_
    refine W_thaw 1024 301 1 (fun G hp q => q.2.1) ?_
    refine W_thaw 1024 302 2 (fun G hp q => q.2.2.1) ?_
    refine W_thaw 1024 303 3 (fun G hp q => q.2.2.2.1) ?_
    refine W_thaw 1024 304 5 (fun G hp q => q.2.2.2.2.1) ?_
    refine W_thaw 1024 305 7 (fun G hp q => q.2.2.2.2.2) ?_
    refine W_ch1 [(0, (300, 0)), (1, (301, 0)), (2, (302, 0)), (3, (303, 0)), (4, (304, 0)), (5, (305, 0))] hv ?_
    refine W_ift ?_
    refine W_go ?_
    refine W_rt [] [(100, .ints []), (101, .ints []), (102, .ints []), (103, .ints []), (104, .ints []), (105, .ops [])] ?_
    exact ⟨rfl, rfl⟩
  rw [decide_eq_true g1] at hv
  cases gl : b.l
  case true =>
    obtain ⟨e1, e3⟩ := no.told (fun q => by have := q.2; rw [gl] at this; cases this)
    rw [gl] at hv
    rw [e1, e3]
    clear e1 e3 no g1 hN
    refine Fn_goC Tryz.func13 ?_
    refine W_go ?_
    refine W_thaw 1024 300 0 (fun G hp q => q.1) ?_
    refine W_thaw 1024 301 1 (fun G hp q => q.2.1) ?_
    refine W_thaw 1024 302 2 (fun G hp q => q.2.2.1) ?_
    refine W_thaw 1024 303 3 (fun G hp q => q.2.2.2.1) ?_
    refine W_thaw 1024 304 5 (fun G hp q => q.2.2.2.2.1) ?_
    refine W_thaw 1024 305 7 (fun G hp q => q.2.2.2.2.2) ?_
    refine W_ch1 [(0, (300, 0)), (1, (301, 0)), (2, (302, 0)), (3, (303, 0)), (4, (304, 0)), (5, (305, 0))] hv ?_
    refine W_ift ?_
    refine W_go ?_
    refine W_rt [] [(100, .ints []), (101, .ints []), (102, .ints []), (103, .ints []), (104, .ints []), (105, .ops [])] ?_
    exact ⟨rfl, rfl⟩
  clear no
  have gr : b.gcOk := ⟨g1, gl⟩
  have gg := g1.1
  have hW := iSweptCell_c b.s b.g hl.1.1 hl.1.2
  rw [show b.g.swept b.s = b.g.sw b.s by rw [Gcc.swept, if_pos gg]] at hW
  have hR := iReachable_c b.s.h hl.1.1.1
  have hn : b.s.h.reach.length = b.s.h.L.length := by rw [reach_len, if_pos ((Hp.ok_iff _).2 gg.1.1)]
  have hx := fun q => sw_in gg q
  have hT := iStepGc_c b.s b.g hl.1.1 hl.1.2
  have e1 := fun q => gcs_y (b := b) gg q
  have e2 := fun q => gcs_n (b := b) gg q
  rw [Bth.sgc, if_pos gr, decide_eq_true gr]
  have st := fun q => live_st (s := b.s) (g := b.g) gg q
  have lv : b.s.live (b.g.sw b.s) = if b.g.sw b.s = -1 then false else b.s.h.reach.getD (b.g.sw b.s).toNat false := rfl
  rw [gl] at hv hN e2
  clear g1 gr gg
  cases gv : b.s.live (b.g.sw b.s)
  case true =>
    rw [e1 gv]
    rw [gv] at lv
    by_cases q1 : b.g.sw b.s = -1
    · rw [if_pos q1] at lv; cases lv
    rw [if_neg q1] at lv
    have hx2 := hx q1
    clear e1 e2 gv hT st hx
    generalize b.g.sw b.s = x at *
    generalize b.s.h.reach = B at *
    have hx3 : 0 ≤ x ∧ x < B.length := by omega
    clear hn hx2
    replace lv := lv.symm
    refine Fn_goC Tryz.func13 ?_
    refine W_go ?_
    refine W_thaw 1024 300 0 (fun G hp q => q.1) ?_
    refine W_thaw 1024 301 1 (fun G hp q => q.2.1) ?_
    refine W_thaw 1024 302 2 (fun G hp q => q.2.2.1) ?_
    refine W_thaw 1024 303 3 (fun G hp q => q.2.2.2.1) ?_
    refine W_thaw 1024 304 5 (fun G hp q => q.2.2.2.2.1) ?_
    refine W_thaw 1024 305 7 (fun G hp q => q.2.2.2.2.2) ?_
    refine W_ch1 [(0, (300, 0)), (1, (301, 0)), (2, (302, 0)), (3, (303, 0)), (4, (304, 0)), (5, (305, 0))] hv ?_
    clear hv
    refine W_iff ?_
    refine W_go ?_
    refine W_c1 [(0, (300, 0)), (1, (301, 0)), (2, (302, 0)), (3, (303, 0)), (4, (304, 0)), (5, (305, 0))] hN ?_
    clear hN
    refine W_go ?_
    refine W_c1 [(0, (4104, 0)), (1, (4105, 0)), (2, (4106, 0)), (3, (4107, 0)), (4, (4108, 0))] hW ?_
    clear hW
    refine W_go ?_
    refine W_ch1 [(0, (4104, 0)), (1, (4105, 0)), (2, (4106, 0))] hR ?_
    clear hR
    refine W_ift ?_
    refine W_go ?_
    refine W_rt [(4104, (100, 0)), (4105, (101, 0)), (4106, (102, 0)), (4107, (103, 0)), (4108, (104, 0)), (4109, (105, 0))] [] ?_
    exact ⟨rfl, rfl⟩
  case false =>
    rw [e2 gv]
    rw [gv] at lv
    have so := st gv
    rw [Gcc.stepS, Gcc.stepG, if_pos so, if_pos so, decide_eq_true so] at hT
    clear e1 e2 gv st so
    generalize b.g.stS b.s = w at *
    generalize b.g.stG b.s = gg at *
    by_cases q1 : b.g.sw b.s = -1
    · clear hR hn hx lv
      generalize b.g.sw b.s = x at *
      subst q1
      refine Fn_goC Tryz.func13 ?_
      refine W_go ?_
      refine W_thaw 1024 300 0 (fun G hp q => q.1) ?_
      refine W_thaw 1024 301 1 (fun G hp q => q.2.1) ?_
      refine W_thaw 1024 302 2 (fun G hp q => q.2.2.1) ?_
      refine W_thaw 1024 303 3 (fun G hp q => q.2.2.2.1) ?_
      refine W_thaw 1024 304 5 (fun G hp q => q.2.2.2.2.1) ?_
      refine W_thaw 1024 305 7 (fun G hp q => q.2.2.2.2.2) ?_
      refine W_ch1 [(0, (300, 0)), (1, (301, 0)), (2, (302, 0)), (3, (303, 0)), (4, (304, 0)), (5, (305, 0))] hv ?_
      clear hv
      refine W_iff ?_
      refine W_go ?_
      refine W_c1 [(0, (300, 0)), (1, (301, 0)), (2, (302, 0)), (3, (303, 0)), (4, (304, 0)), (5, (305, 0))] hN ?_
      clear hN
      refine W_go ?_
      refine W_c1 [(0, (4104, 0)), (1, (4105, 0)), (2, (4106, 0)), (3, (4107, 0)), (4, (4108, 0))] hW ?_
      clear hW
      refine W_go ?_
      refine W_gh ?_
      refine W_iff ?_
      refine W_go ?_
      refine W_c1 [(0, (4104, 0)), (1, (4105, 0)), (2, (4106, 0)), (3, (4107, 0)), (4, (4108, 0))] hT ?_
      refine W_go ?_
      refine W_rt [(9248, (100, 0)), (9249, (101, 0)), (9250, (102, 0)), (9251, (103, 0)), (9252, (104, 0)), (4109, (105, 0))] [] ?_
      exact ⟨rfl, rfl⟩
    rw [if_neg q1] at lv
    have hx2 := hx q1
    clear hx
    generalize b.g.sw b.s = x at *
    generalize b.s.h.reach = B at *
    have hx3 : 0 ≤ x ∧ x < B.length := by omega
    clear hn hx2
    replace lv := lv.symm
    refine Fn_goC Tryz.func13 ?_
    refine W_go ?_
    refine W_thaw 1024 300 0 (fun G hp q => q.1) ?_
    refine W_thaw 1024 301 1 (fun G hp q => q.2.1) ?_
    refine W_thaw 1024 302 2 (fun G hp q => q.2.2.1) ?_
    refine W_thaw 1024 303 3 (fun G hp q => q.2.2.2.1) ?_
    refine W_thaw 1024 304 5 (fun G hp q => q.2.2.2.2.1) ?_
    refine W_thaw 1024 305 7 (fun G hp q => q.2.2.2.2.2) ?_
    refine W_ch1 [(0, (300, 0)), (1, (301, 0)), (2, (302, 0)), (3, (303, 0)), (4, (304, 0)), (5, (305, 0))] hv ?_
    clear hv
    refine W_iff ?_
    refine W_go ?_
    refine W_c1 [(0, (300, 0)), (1, (301, 0)), (2, (302, 0)), (3, (303, 0)), (4, (304, 0)), (5, (305, 0))] hN ?_
    clear hN
    refine W_go ?_
    refine W_c1 [(0, (4104, 0)), (1, (4105, 0)), (2, (4106, 0)), (3, (4107, 0)), (4, (4108, 0))] hW ?_
    clear hW
    refine W_go ?_
    refine W_ch1 [(0, (4104, 0)), (1, (4105, 0)), (2, (4106, 0))] hR ?_
    clear hR
    refine W_iff ?_
    refine W_go ?_
    refine W_c1 [(0, (4104, 0)), (1, (4105, 0)), (2, (4106, 0)), (3, (4107, 0)), (4, (4108, 0))] hT ?_
    refine W_go ?_
    refine W_rt [(9248, (100, 0)), (9249, (101, 0)), (9250, (102, 0)), (9251, (103, 0)), (9252, (104, 0)), (4109, (105, 0))] [] ?_
    exact ⟨rfl, rfl⟩
theorem iStepOpL_c (v : Nat → Value) (b : Bth) (bar : Bool) (hl : (((b.s.h.L.length ≤ 4194304 ∧ b.s.h.R.length ≤ 4194304 ∧ b.s.h.T.length ≤ 4194304) ∧ b.s.F.length ≤ 4194304) ∧ b.g.C.length ≤ 4194304) ∧ b.o.length ≤ 4194304) : FnC (HB v b) Tryz.prog 14 [] [.agg [.lit (v 0), .lit (v 1), .lit (v 2), .lit (v 3), .int .i64 b.g.p, .lit (v 4), .int .i64 b.g.a, .lit (v 5), .int .i64 b.a, .bool b.l], .bool bar]
    (fun r H => r = .tup [.agg [.sl 100 0 (b.sop bar).s.h.L.length, .sl 101 0 (b.sop bar).s.h.R.length, .sl 102 0 (b.sop bar).s.h.T.length, .sl 103 0 (b.sop bar).s.F.length, .int .i64 (b.sop bar).g.p, .sl 104 0 (b.sop bar).g.C.length, .int .i64 (b.sop bar).g.a, .sl 105 0 (b.sop bar).o.length, .int .i64 (b.sop bar).a, .bool (b.sop bar).l], .bool (decide b.opOk)] ∧ H = [(100, .c true (.ints (b.sop bar).s.h.L)), (101, .c true (.ints (b.sop bar).s.h.R)), (102, .c true (.ints (b.sop bar).s.h.T)), (103, .c true (.ints (b.sop bar).s.F)), (104, .c true (.ints (b.sop bar).g.C)), (105, .c true (.ops (b.sop bar).o))]) := by
  have hs := istep_c b bar hl
  generalize b.sop bar = w at *
  generalize decide b.opOk = d at *
  generalize (if b.opOk then b.opE else 0) = e at *
  refine Fn_goC Tryz.func14 ?_
  refine W_go ?_
  refine W_thaw 1024 300 0 (fun G hp q => q.1) ?_
  refine W_thaw 1024 301 1 (fun G hp q => q.2.1) ?_
  refine W_thaw 1024 302 2 (fun G hp q => q.2.2.1) ?_
  refine W_thaw 1024 303 3 (fun G hp q => q.2.2.2.1) ?_
  refine W_thaw 1024 304 5 (fun G hp q => q.2.2.2.2.1) ?_
  refine W_thaw 1024 305 7 (fun G hp q => q.2.2.2.2.2) ?_
  refine W_c1 [(0, (300, 0)), (1, (301, 0)), (2, (302, 0)), (3, (303, 0)), (4, (304, 0)), (5, (305, 0))] hs ?_
  refine W_go ?_
  refine W_rt [(2064, (100, 0)), (2065, (101, 0)), (2066, (102, 0)), (2067, (103, 0)), (2068, (104, 0)), (2069, (105, 0))] [] ?_
  exact ⟨rfl, rfl⟩
end Go.Proofs.YtbobhbhgomkgpaaGreatDoor.S
