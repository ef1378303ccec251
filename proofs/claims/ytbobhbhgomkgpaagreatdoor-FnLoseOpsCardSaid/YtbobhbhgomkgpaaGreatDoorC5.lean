/- Texts of this claim's own, laid as one: Mb Mc. Own work of this claim. -/
import Derived.Test.YtbobhbhgomkgpaaGreatDoorMa
import Derived.Test.YtbobhbhgomkgpaaGreatDoorMl
import Derived.Test.YtbobhbhgomkgpaaGreatDoorA7
/- Contracts: all values to which a program and a collector can come, the program's. Own work of this claim. -/
namespace Go.Proofs.YtbobhbhgomkgpaaGreatDoor.S
set_option linter.all false
open Go Go.Proofs
set_option maxHeartbeats 8000000
set_option maxRecDepth 100000

theorem iComes_c (b : Bth) (bar : Bool) (hb : (((b.s.h.L.length ≤ 4194304 ∧ b.s.h.R.length ≤ 4194304 ∧ b.s.h.T.length ≤ 4194304) ∧ b.s.F.length ≤ 4194304) ∧ b.g.C.length ≤ 4194304) ∧ b.o.length ≤ 4194304) : Fn Tryz.prog 26 [(0, .c false (.ints b.s.h.L)), (1, .c false (.ints b.s.h.R)), (2, .c false (.ints b.s.h.T)), (3, .c false (.ints b.s.F)), (4, .c false (.ints b.g.C)), (5, .c false (.ops b.o))] [.agg [.sl 0 0 b.s.h.L.length, .sl 1 0 b.s.h.R.length, .sl 2 0 b.s.h.T.length, .sl 3 0 b.s.F.length, .int .i64 b.g.p, .sl 4 0 b.g.C.length, .int .i64 b.g.a, .sl 5 0 b.o.length, .int .i64 b.a, .bool b.l], .bool bar]
    (fun r H => ∃ E : List Row, Hold (match b.all bar with | some l => E.map Prod.fst = l | none => E = []) ∧ r = .tup [.sl 100 0 E.length, .bool (b.all bar).isSome] ∧ H = [(100, .c true (.av 11 (noN (cellsE E))))]) := by
  have hv := iBothValid_c b hb
  have hN := ianew_c b hb
  by_cases ok : b.ok
  case neg =>
    rw [decide_eq_false ok] at hv
    rw [all_bad ok]
    clear ok hN
    refine Fn_go Tryz.func26 ?_
    refine W_go ?_
    refine W_c1 [(0, (0, 0)), (1, (1, 0)), (2, (2, 0)), (3, (3, 0)), (4, (4, 0)), (5, (5, 0))] hv ?_
    refine W_ift ?_
    refine W_go ?_
    refine W_rt [] [(100, .av 11 [])] ?_
    exact ⟨[], ⟨rfl⟩, rfl, rfl⟩
  rw [decide_eq_true ok] at hv
  have hF := iFormatBoth_c b hb
  rw [text_both ok] at hF
  have hbo := ok
  replace ok : Hold _ := ⟨ok⟩
  generalize hft : bs (txB b) = t at *
  refine Fn_go Tryz.func26 ?_
  refine W_go ?_
  refine W_c1 [(0, (0, 0)), (1, (1, 0)), (2, (2, 0)), (3, (3, 0)), (4, (4, 0)), (5, (5, 0))] hv ?_
  refine W_iff ?_
  clear hv
  refine W_go ?_
  refine W_c1 [(0, (0, 0)), (1, (1, 0)), (2, (2, 0)), (3, (3, 0)), (4, (4, 0)), (5, (5, 0))] hN ?_
  clear hN
  refine W_go ?_
  refine W_c1 [(0, (0, 0)), (1, (1, 0)), (2, (2, 0)), (3, (3, 0)), (4, (4, 0)), (5, (5, 0))] hF ?_
  clear hF
  refine W_go ?_
  refine W_frz (A := []) (lv := .ints b.s.h.L) (k := b.s.h.L.length) 4120 4104 0 Cx0.tr (ints_plain _) (by simp [LV.len, LV.z]) (by simp [LV.z]) (fun v0 => ?_)
  refine W_frz (A := []) (lv := .ints b.s.h.R) (k := b.s.h.R.length) 4120 4105 1 (Cx.tr_and Cx0.tr (Held.tr _ _ _)) (ints_plain _) (by simp [LV.len, LV.z]) (by simp [LV.z]) (fun v1 => ?_)
  refine W_frz (A := []) (lv := .ints b.s.h.T) (k := b.s.h.T.length) 4120 4106 2 (Cx.tr_and (Cx.tr_and Cx0.tr (Held.tr _ _ _)) (Held.tr _ _ _)) (ints_plain _) (by simp [LV.len, LV.z]) (by simp [LV.z]) (fun v2 => ?_)
  refine W_frz (A := []) (lv := .ints b.s.F) (k := b.s.F.length) 4120 4107 3 (Cx.tr_and (Cx.tr_and (Cx.tr_and Cx0.tr (Held.tr _ _ _)) (Held.tr _ _ _)) (Held.tr _ _ _)) (ints_plain _) (by simp [LV.len, LV.z]) (by simp [LV.z]) (fun v3 => ?_)
  refine W_frz (A := []) (lv := .ints b.g.C) (k := b.g.C.length) 4120 4108 5 (Cx.tr_and (Cx.tr_and (Cx.tr_and (Cx.tr_and Cx0.tr (Held.tr _ _ _)) (Held.tr _ _ _)) (Held.tr _ _ _)) (Held.tr _ _ _)) (ints_plain _) (by simp [LV.len, LV.z]) (by simp [LV.z]) (fun v4 => ?_)
  refine W_frz (A := []) (lv := .ops b.o) (k := b.o.length) 4120 4109 7 (Cx.tr_and (Cx.tr_and (Cx.tr_and (Cx.tr_and (Cx.tr_and Cx0.tr (Held.tr _ _ _)) (Held.tr _ _ _)) (Held.tr _ _ _)) (Held.tr _ _ _)) (Held.tr _ _ _)) (ops_plain _) (by simp [LV.len, LV.z, Nat.mul_comm]) (by simp [LV.z]) (fun v5 => ?_)
  refine W_rk 9 [(4128, (4128, 0)), (5160, (5160, 0)), (5120, (5120, 0)), (4120, (60000, 0))] ?_
  refine W_lpD (T := 9) (σ := List Row × Nat) (me := fun s => [(8, .int .i64 s.2)]) (mh := fun s => [(4128, .c true (.av 1 [.sl 60000 0 s.1.length])), (5120, .mp (seen (s.1.map Prod.fst))), (60000, .c true (.av 11 (noN (cellsE s.1))))])
    (inv := fun s => Hold (Rnd bar b s.1 s.2) ∧ s.2 ≤ s.1.length ∧ s.1.length ≤ 400) (Dl := fun s => DE s.1) (m := fun s => 401 - s.2) (s0 := ([((b, []), (fun k => match k with | 0 => v0 | 1 => v1 | 2 => v2 | 3 => v3 | 4 => v4 | _ => v5))], 0)) ⟨⟨?_⟩, ?_, ?_⟩ ?_ ?_ (hh := ?_)
  · refine ⟨by unfold Bth.all; rw [if_pos ok.told]; rfl, .start bar b, ?_⟩
    intro j p hp
    have := List.mem_of_getElem? hp
    simp only [List.map_cons, List.map_nil, List.mem_singleton] at this
    subst this; exact Nat.zero_le _
  · exact Nat.zero_le _
  · exact Nat.le_of_ble_eq_true rfl
  · intro G hp h e he
    simp only [List.mem_singleton] at he
    subst he
    exact ⟨h.1.1.1.1.1.2, h.1.1.1.1.2, h.1.1.1.2, h.1.1.2, h.1.2, h.2⟩
  case' refine_6 => rw [← hft]; rfl
  clear hft t
  rintro ⟨E, i⟩ ⟨hR, hi, hl⟩
  dsimp only at hR hi hl ⊢
  refine W_go ?_
  refine W_if (fun g => ?_) (fun g => ?_)
  case' refine_2 =>
    have e : b.all bar = some (E.map Prod.fst) := by
      have := hR.told.all
      obtain ⟨k, hk⟩ : ∃ k, 401 - i = k + 1 := ⟨400 - i, by omega⟩
      rw [hk, comesN, if_neg (by rw [List.length_map]; omega)] at this
      exact this
    rw [e]
    clear e
    refine W_go ?_
    refine W_rt [(60000, (100, 0))] [] ?_
    exact ⟨E, ⟨rfl⟩, rfl, rfl⟩
  have hil : i < E.length := by omega
  obtain ⟨⟨⟨x, w⟩, v⟩, hEi⟩ : ∃ e, E[i]? = some e := ⟨E[i], List.getElem?_eq_getElem hil⟩
  have hm : ((x, w), v) ∈ E := List.mem_of_getElem? hEi
  have hmx : (E.map Prod.fst)[i]? = some (x, w) := by rw [List.getElem?_map, hEi]; rfl
  have hxm := hR.told.mem hbo _ (List.mem_of_getElem? hmx)
  have hwl := hR.told.road i _ hmx
  have hxo : x.ok := hxm.1
  have hxs := hxo.small
  have hx : (((x.s.h.L.length ≤ 4194304 ∧ x.s.h.R.length ≤ 4194304 ∧ x.s.h.T.length ≤ 4194304) ∧ x.s.F.length ≤ 4194304) ∧ x.g.C.length ≤ 4194304) ∧ x.o.length ≤ 4194304 := by omega
  have hAll : b.all bar = if 400 < (gro bar (x, w) true (gro bar (x, w) false (E.map Prod.fst))).length then none else comesN bar (401 - (i + 1)) (gro bar (x, w) true (gro bar (x, w) false (E.map Prod.fst))) (i + 1) := by
    have := hR.told.all
    obtain ⟨k, hk⟩ : ∃ k, 401 - i = k + 1 := ⟨400 - i, by omega⟩
    rw [hk, comesN, if_pos (by rw [List.length_map]; exact hil), rnd_some hmx] at this
    rw [this, show 401 - (i + 1) = k by omega]
  have hWx := hR.told.ways
  have hRo := hR.told.road
  have hMm := hR.told.mem hbo
  have hxoo : x.o = b.o := hxm.2
  have hEx : List.take 11 (List.drop (i * 11) (noN (cellsE E))) = [.lit (v 0), .lit (v 1), .lit (v 2), .lit (v 3), .int .i64 x.g.p, .lit (v 4), .int .i64 x.g.a, .lit (v 5), .int .i64 x.a, .bool x.l, .str (sch w)] := cellsN_at hEi
  have hcl0 := cellsE_len E
  have hcl : (cellsE E).length ≤ E.length * 11 ∧ E.length * 11 ≤ (cellsE E).length := by omega
  have hsw := sch_size w
  have hsz : (sch w).size ≤ 400 := by simp only at hwl; omega
  have hs1 := sch_snoc w false
  have hs2 := sch_snoc w true
  have hb1 : i * 11 + 11 ≤ (cellsE E).length := by omega
  clear hsw hxs hwl hxm hR hcl0
  replace hAll : Hold _ := ⟨hAll⟩
  replace hWx : Hold _ := ⟨hWx⟩
  replace hRo : Hold _ := ⟨hRo⟩
  replace hMm : Hold _ := ⟨hMm⟩
  replace hs1 : Hold _ := ⟨hs1⟩
  replace hs2 : Hold _ := ⟨hs2⟩
  replace hxo : Hold _ := ⟨hxo⟩
  replace hm : Hold _ := ⟨hm⟩
  generalize hcs : cellsE E = cs at *
  have hs1 : Hold (sch w ++ ⟨#[103]⟩ = sch (w ++ [false])) := hs1
  have hs2 : Hold (sch w ++ ⟨#[111]⟩ = sch (w ++ [true])) := hs2
  have hO := iStepBothL_c v x hx
  have hO2 := iStepOpL_c v x bar hx
  have hg1 : Hold (x.gcOk → x.nx bar false = some x.gcs ∧ x.gcs.ok ∧ x.gcs.o = x.o) := ⟨fun q => ⟨nx_g q.1 q.2, q.step, (gcs_oa x).1⟩⟩
  have hg2 : Hold (x.opOk → x.nx bar true = some (x.op bar) ∧ (x.op bar).ok ∧ (x.op bar).o = x.o) := ⟨fun q => ⟨by unfold Bth.nx; rw [if_pos rfl, if_pos q], q.step bar, rfl⟩⟩
  have hn1 : Hold (¬ x.gcOk → x.nx bar false = none) := ⟨fun q => by unfold Bth.nx; rw [if_neg (by simp), if_neg q]⟩
  have hn2 : Hold (¬ x.opOk → x.nx bar true = none) := ⟨fun q => by unfold Bth.nx; rw [if_pos rfl, if_neg q]⟩
  have hsm1 := x.sgc_small
  have hsm2 := x.sop_small bar
  refine W_gh ?_
  refine W_cC [] hO (HB.tr v x) (fun G hp q => q _ hm.told) ?_
  clear hO hEx
  refine W_go ?_
  refine W_jnD 12 (σ := List Row × Int × Int × Int × Bool) (fun s => []) [] (fun s => [(0, .c false (.ints b.s.h.L)), (1, .c false (.ints b.s.h.R)), (2, .c false (.ints b.s.h.T)), (3, .c false (.ints b.s.F)), (4, .c false (.ints b.g.C)), (5, .c false (.ops b.o)), (4128, .c true (.av 1 [.sl 60000 0 s.1.length])), (5120, .mp (seen (s.1.map Prod.fst))), (5160, .c true (.av 1 [.mapv 5120])), (60000, .c true (.av 11 (noN (cellsE s.1)))), (9248, .c true (.av 1 [.lit (v 0), .lit (v 1), .lit (v 2), .lit (v 3), .int .i64 x.g.p, .lit (v 4), .int .i64 x.g.a, .lit (v 5), .int .i64 x.a, .bool x.l, .str (sch w)])), (11312, .c true (.av 1 [.any, .any, .any, .any, .int .i64 s.2.1, .any, .int .i64 s.2.2.1, .any, .int .i64 s.2.2.2.1, .bool s.2.2.2.2]))])
    (fun s => Hold (s.1.map Prod.fst = gro bar (x, w) false (E.map Prod.fst) ∧ ((x, w), v) ∈ s.1)) (fun s => DE s.1) ?_ ?_
  · clear hO2 hg2 hn2 hs2 hsm2
    by_cases gr : x.gcOk
    · obtain ⟨e1, e2, e3⟩ := hg1.told gr
      rw [decide_eq_true gr, show x.sgc = x.gcs by rw [Bth.sgc, if_pos gr]]
      clear gr hg1 hn1 hsm1
      generalize x.gcs = y at *
      have hys := e2.small
      have hy : (((y.s.h.L.length ≤ 4194304 ∧ y.s.h.R.length ≤ 4194304 ∧ y.s.h.T.length ≤ 4194304) ∧ y.s.F.length ≤ 4194304) ∧ y.g.C.length ≤ 4194304) ∧ y.o.length ≤ 4194304 := by omega
      have et := text_both e2
      have hl1 : ∀ p ∈ E.map Prod.fst, p.1.ok ∧ p.1.o = y.o := fun p hp => ⟨(hMm.told p hp).1, by rw [(hMm.told p hp).2, e3, hxoo]⟩
      by_cases hmem : y ∈ (E.map Prod.fst).map Prod.fst
      · have eg := gro_old (bar := bar) (x := (x, w)) (c := false) (l := E.map Prod.fst) (fun z hz => by rw [e1] at hz; cases hz; exact hmem)
        have hM := meet_n v cs E.length (seen (E.map Prod.fst)) x y (sch w) ⟨#[103]⟩ hy hcl (by omega) true (fun _ => by rw [et]; exact (seen_get hl1 e2).2 hmem)
        replace eg : Hold _ := ⟨eg.symm⟩
        clear e1 e2 e3 hmem hl1 et hys
        refine W_cC [(0, (5160, 0)), (1, (5120, 0)), (2, (4128, 0)), (3, (60000, 0)), (4, (9248, 0)), (5, (11280, 0)), (6, (11281, 0)), (7, (11282, 0)), (8, (11283, 0)), (9, (11284, 0)), (10, (11285, 0))] hM Cx0.tr (fun _ _ _ => trivial) ?_
        refine W_ft 12 ?_
        refine W_rk (env' := [(11, .ptr 11312 0), (10, .fn 53 [(5160, 0), (4128, 0), (9248, 0)]), (9, .ptr 9248 0), (8, .int .i64 i), (7, .ptr 5160 0), (6, .ptr 4128 0), (5, .bool false), (4, .emp), (2, .any), (0, .agg [.sl 0 0 b.s.h.L.length, .sl 1 0 b.s.h.R.length, .sl 2 0 b.s.h.T.length, .sl 3 0 b.s.F.length, .int .i64 b.g.p, .sl 4 0 b.g.C.length, .int .i64 b.g.a, .sl 5 0 b.o.length, .int .i64 b.a, .bool b.l]), (1, .bool bar)]) 12 [(4128, (4128, 0)), (5120, (5120, 0)), (5160, (5160, 0)), (60000, (60000, 0)), (9248, (9248, 0)), (11312, (11312, 0))] ?_ (hE := by kernel_rfl)
        refine W_bjD (E, y.g.p, y.g.a, y.a, y.l) ⟨eg.told, hm.told⟩ (fun G hp h => h) (hh := by rw [← hcs])
      · have eg := gro_new (x := (x, w)) e1 hmem
        obtain ⟨sn1, sn2⟩ := seen_new hl1 e2 hmem (w ++ [false])
        have hM := meet_y v cs E.length (seen (E.map Prod.fst)) x y (sch w) ⟨#[103]⟩ hy hcl (by omega) ⟨by omega, by decide⟩ (by rw [et]; exact sn1)
        rw [et, sn2, hs1.told] at hM
        replace eg : Hold _ := ⟨eg⟩
        clear e1 e2 e3 hmem hl1 et hys sn1 sn2
        refine W_cC [(0, (5160, 0)), (1, (5120, 0)), (2, (4128, 0)), (3, (60000, 0)), (4, (9248, 0)), (5, (11280, 0)), (6, (11281, 0)), (7, (11282, 0)), (8, (11283, 0)), (9, (11284, 0)), (10, (11285, 0))] hM Cx0.tr (fun _ _ _ => trivial) ?_
        refine W_frz (A := noN cs) (lv := .ints y.s.h.L) (k := y.s.h.L.length) 12312 11280 0 (DE.tr E) (ints_plain _) (by simp [LV.len, LV.z]) (by simp [LV.z]) (fun u0 => ?_)
        refine W_frz (A := noN cs) (lv := .ints y.s.h.R) (k := y.s.h.R.length) 12312 11281 1 (Cx.tr_and (DE.tr E) (Held.tr _ _ _)) (ints_plain _) (by simp [LV.len, LV.z]) (by simp [LV.z]) (fun u1 => ?_)
        refine W_frz (A := noN cs) (lv := .ints y.s.h.T) (k := y.s.h.T.length) 12312 11282 2 (Cx.tr_and (Cx.tr_and (DE.tr E) (Held.tr _ _ _)) (Held.tr _ _ _)) (ints_plain _) (by simp [LV.len, LV.z]) (by simp [LV.z]) (fun u2 => ?_)
        refine W_frz (A := noN cs) (lv := .ints y.s.F) (k := y.s.F.length) 12312 11283 3 (Cx.tr_and (Cx.tr_and (Cx.tr_and (DE.tr E) (Held.tr _ _ _)) (Held.tr _ _ _)) (Held.tr _ _ _)) (ints_plain _) (by simp [LV.len, LV.z]) (by simp [LV.z]) (fun u3 => ?_)
        refine W_frz (A := noN cs) (lv := .ints y.g.C) (k := y.g.C.length) 12312 11284 5 (Cx.tr_and (Cx.tr_and (Cx.tr_and (Cx.tr_and (DE.tr E) (Held.tr _ _ _)) (Held.tr _ _ _)) (Held.tr _ _ _)) (Held.tr _ _ _)) (ints_plain _) (by simp [LV.len, LV.z]) (by simp [LV.z]) (fun u4 => ?_)
        refine W_frz (A := noN cs) (lv := .ops y.o) (k := y.o.length) 12312 11285 7 (Cx.tr_and (Cx.tr_and (Cx.tr_and (Cx.tr_and (Cx.tr_and (DE.tr E) (Held.tr _ _ _)) (Held.tr _ _ _)) (Held.tr _ _ _)) (Held.tr _ _ _)) (Held.tr _ _ _)) (ops_plain _) (by simp [LV.len, LV.z, Nat.mul_comm]) (by simp [LV.z]) (fun u5 => ?_)
        refine W_ft 12 ?_
        refine W_rk (env' := [(11, .ptr 11312 0), (10, .fn 53 [(5160, 0), (4128, 0), (9248, 0)]), (9, .ptr 9248 0), (8, .int .i64 i), (7, .ptr 5160 0), (6, .ptr 4128 0), (5, .bool false), (4, .emp), (2, .any), (0, .agg [.sl 0 0 b.s.h.L.length, .sl 1 0 b.s.h.R.length, .sl 2 0 b.s.h.T.length, .sl 3 0 b.s.F.length, .int .i64 b.g.p, .sl 4 0 b.g.C.length, .int .i64 b.g.a, .sl 5 0 b.o.length, .int .i64 b.a, .bool b.l]), (1, .bool bar)]) 12 [(4128, (4128, 0)), (5120, (5120, 0)), (5160, (5160, 0)), (12312, (60000, 0)), (9248, (9248, 0)), (11312, (11312, 0))] ?_ (hE := by kernel_rfl)
        have ec : noN (cellsE (E ++ [((y, w ++ [false]), (fun k => match k with | 0 => u0 | 1 => u1 | 2 => u2 | 3 => u3 | 4 => u4 | _ => u5))])) = noN cs ++ [.lit u0, .lit u1, .lit u2, .lit u3, .int .i64 y.g.p, .lit u4, .int .i64 y.g.a, .lit u5, .int .i64 y.a, .bool y.l, .str (sch (w ++ [false]))] := by
          rw [cellsE_snoc, noN_app, hcs]; rfl
        refine W_bjD (E ++ [((y, w ++ [false]), (fun k => match k with | 0 => u0 | 1 => u1 | 2 => u2 | 3 => u3 | 4 => u4 | _ => u5))], y.g.p, y.g.a, y.a, y.l) ⟨?_, List.mem_append_left _ hm.told⟩ (fun G hp h => DE.snoc h.1.1.1.1.1.1 ⟨h.1.1.1.1.1.2, h.1.1.1.1.2, h.1.1.1.2, h.1.1.2, h.1.2, h.2⟩) (hh := ?_)
        · dsimp only; rw [List.map_append, eg.told]; rfl
        · dsimp only; rw [ec, List.map_append, List.length_append]; rfl
    · have eg := gro_old (bar := bar) (x := (x, w)) (c := false) (l := E.map Prod.fst) (fun z hz => by rw [hn1.told gr] at hz; cases hz)
      rw [decide_eq_false gr]
      replace eg : Hold _ := ⟨eg.symm⟩
      clear gr hg1 hn1
      generalize x.sgc = y at *
      have hy : (((y.s.h.L.length ≤ 4194304 ∧ y.s.h.R.length ≤ 4194304 ∧ y.s.h.T.length ≤ 4194304) ∧ y.s.F.length ≤ 4194304) ∧ y.g.C.length ≤ 4194304) ∧ y.o.length ≤ 4194304 := by omega
      have hM := meet_n v cs E.length (seen (E.map Prod.fst)) x y (sch w) ⟨#[103]⟩ hy hcl (by omega) false (fun q => by cases q)
      clear hsm1
      refine W_cC [(0, (5160, 0)), (1, (5120, 0)), (2, (4128, 0)), (3, (60000, 0)), (4, (9248, 0)), (5, (11280, 0)), (6, (11281, 0)), (7, (11282, 0)), (8, (11283, 0)), (9, (11284, 0)), (10, (11285, 0))] hM Cx0.tr (fun _ _ _ => trivial) ?_
      refine W_ft 12 ?_
      refine W_rk (env' := [(11, .ptr 11312 0), (10, .fn 53 [(5160, 0), (4128, 0), (9248, 0)]), (9, .ptr 9248 0), (8, .int .i64 i), (7, .ptr 5160 0), (6, .ptr 4128 0), (5, .bool false), (4, .emp), (2, .any), (0, .agg [.sl 0 0 b.s.h.L.length, .sl 1 0 b.s.h.R.length, .sl 2 0 b.s.h.T.length, .sl 3 0 b.s.F.length, .int .i64 b.g.p, .sl 4 0 b.g.C.length, .int .i64 b.g.a, .sl 5 0 b.o.length, .int .i64 b.a, .bool b.l]), (1, .bool bar)]) 12 [(4128, (4128, 0)), (5120, (5120, 0)), (5160, (5160, 0)), (60000, (60000, 0)), (9248, (9248, 0)), (11312, (11312, 0))] ?_ (hE := by kernel_rfl)
      refine W_bjD (E, y.g.p, y.g.a, y.a, y.l) ⟨eg.told, hm.told⟩ (fun G hp h => h) (hh := by rw [← hcs])
  clear hg1 hn1 hs1 hsm1 hcl hb1 hcs cs hm
  rintro ⟨E1, p1, p2, p3, p4⟩ hI
  dsimp only at hI ⊢
  have hW1 := hWx.told.gro (x := (x, w)) (c := false) (List.mem_of_getElem? hmx)
  have hR1 := road_gro (c := false) (bar := bar) hmx hRo.told
  have hgl := gro_len bar (x, w) false (E.map Prod.fst)
  have hmx1 := gro_get (bar := bar) (x := (x, w)) (c := false) hmx
  have hm : Hold (((x, w), v) ∈ E1) := ⟨hI.told.2⟩
  have hI : Hold (E1.map Prod.fst = gro bar (x, w) false (E.map Prod.fst)) := ⟨hI.told.1⟩
  rw [← hI.told] at hAll hW1 hR1 hgl hmx1
  have hl1 : E1.length ≤ 401 ∧ i < E1.length := by simp only [List.length_map] at hgl; omega
  have hM1 : ∀ p ∈ E1.map Prod.fst, p.1.ok ∧ p.1.o = x.o := fun p hp => ⟨(hW1.rch p hp).ok hbo, by rw [(hW1.rch p hp).oa.1, hxoo]⟩
  have hW2 := hW1.gro (x := (x, w)) (c := true) (List.mem_of_getElem? hmx1)
  have hR2 := road_gro (c := true) (bar := bar) hmx1 hR1
  replace hW2 : Hold _ := ⟨hW2⟩
  replace hR2 : Hold _ := ⟨hR2⟩
  replace hM1 : Hold _ := ⟨hM1⟩
  clear hI hWx hRo hMm hW1 hR1 hgl hmx hmx1 hi hl hil
  have hcl0 := cellsE_len E1
  have hcl : (cellsE E1).length ≤ E1.length * 11 ∧ E1.length * 11 ≤ (cellsE E1).length := by omega
  clear hcl0
  generalize hcs : cellsE E1 = cs at *
  refine W_go ?_
  refine W_cC [] hO2 (HB.tr v x) (fun G hp q => q _ hm.told) ?_
  clear hO2
  refine W_go ?_
  have fin : ∀ E2 : List Row, E2.map Prod.fst = gro bar (x, w) true (E1.map Prod.fst) → (400 < E2.length → b.all bar = none) ∧ (¬ 400 < E2.length → Rnd bar b E2 (i + 1)) := by
    intro E2 he
    rw [← he, List.length_map] at hAll
    have h2 := hW2.told
    have h3 := hR2.told
    rw [← he] at h2 h3
    refine ⟨fun q => by rw [hAll.told, if_pos q], fun q => ⟨by rw [hAll.told, if_neg q], h2, h3⟩⟩
  replace fin : Hold _ := ⟨fin⟩
  clear hAll hW2 hR2
  by_cases gr : x.opOk
  · obtain ⟨e1, e2, e3⟩ := hg2.told gr
    rw [decide_eq_true gr, show x.sop bar = x.op bar by rw [Bth.sop, if_pos gr]]
    clear gr hg2 hn2 hsm2
    generalize x.op bar = y at *
    have hys := e2.small
    have hy : (((y.s.h.L.length ≤ 4194304 ∧ y.s.h.R.length ≤ 4194304 ∧ y.s.h.T.length ≤ 4194304) ∧ y.s.F.length ≤ 4194304) ∧ y.g.C.length ≤ 4194304) ∧ y.o.length ≤ 4194304 := by omega
    have et := text_both e2
    have hl2 : ∀ p ∈ E1.map Prod.fst, p.1.ok ∧ p.1.o = y.o := fun p hp => ⟨(hM1.told p hp).1, by rw [(hM1.told p hp).2, e3]⟩
    by_cases hmem : y ∈ (E1.map Prod.fst).map Prod.fst
    · have eg := gro_old (bar := bar) (x := (x, w)) (c := true) (l := E1.map Prod.fst) (fun z hz => by rw [e1] at hz; cases hz; exact hmem)
      have hM := meet_n v cs E1.length (seen (E1.map Prod.fst)) x y (sch w) ⟨#[111]⟩ hy hcl (by omega) true (fun _ => by rw [et]; exact (seen_get hl2 e2).2 hmem)
      have f := fin.told E1 eg.symm
      replace f : Hold _ := ⟨f⟩
      clear e1 e2 e3 hmem hl2 et hys eg fin
      refine W_cC [(0, (5160, 0)), (1, (5120, 0)), (2, (4128, 0)), (3, (60000, 0)), (4, (9248, 0)), (5, (13336, 0)), (6, (13337, 0)), (7, (13338, 0)), (8, (13339, 0)), (9, (13340, 0)), (10, (13341, 0))] hM Cx0.tr (fun _ _ _ => trivial) ?_
      clear hM
      refine W_go ?_
      refine W_if (fun q => ?_) (fun q => ?_)
      · rw [f.told.1 (by omega)]
        refine W_go ?_
        refine W_rt [] [(100, .av 11 [])] ?_
        exact ⟨[], ⟨rfl⟩, rfl, rfl⟩
      · refine W_go ?_
        refine W_rk 9 [(4128, (4128, 0)), (5160, (5160, 0)), (5120, (5120, 0)), (60000, (60000, 0))] ?_
        refine W_bkD (E1, i + 1) ⟨⟨f.told.2 (by omega)⟩, ?_, ?_⟩ ?_ (fun G hp h => h) (hh := by rw [← hcs])
        · dsimp only; omega
        · dsimp only; omega
        · dsimp only; omega
    · have eg := gro_new (x := (x, w)) e1 hmem
      obtain ⟨sn1, sn2⟩ := seen_new hl2 e2 hmem (w ++ [true])
      have hM := meet_y v cs E1.length (seen (E1.map Prod.fst)) x y (sch w) ⟨#[111]⟩ hy hcl (by omega) ⟨by omega, by decide⟩ (by rw [et]; exact sn1)
      rw [et, sn2, hs2.told] at hM
      replace eg : Hold _ := ⟨eg⟩
      clear e1 e2 e3 hmem hl2 et hys sn1 sn2
      refine W_cC [(0, (5160, 0)), (1, (5120, 0)), (2, (4128, 0)), (3, (60000, 0)), (4, (9248, 0)), (5, (13336, 0)), (6, (13337, 0)), (7, (13338, 0)), (8, (13339, 0)), (9, (13340, 0)), (10, (13341, 0))] hM Cx0.tr (fun _ _ _ => trivial) ?_
      clear hM
      refine W_frz (A := noN cs) (lv := .ints y.s.h.L) (k := y.s.h.L.length) 14360 13336 0 (DE.tr E1) (ints_plain _) (by simp [LV.len, LV.z]) (by simp [LV.z]) (fun u0 => ?_)
      refine W_frz (A := noN cs) (lv := .ints y.s.h.R) (k := y.s.h.R.length) 14360 13337 1 (Cx.tr_and (DE.tr E1) (Held.tr _ _ _)) (ints_plain _) (by simp [LV.len, LV.z]) (by simp [LV.z]) (fun u1 => ?_)
      refine W_frz (A := noN cs) (lv := .ints y.s.h.T) (k := y.s.h.T.length) 14360 13338 2 (Cx.tr_and (Cx.tr_and (DE.tr E1) (Held.tr _ _ _)) (Held.tr _ _ _)) (ints_plain _) (by simp [LV.len, LV.z]) (by simp [LV.z]) (fun u2 => ?_)
      refine W_frz (A := noN cs) (lv := .ints y.s.F) (k := y.s.F.length) 14360 13339 3 (Cx.tr_and (Cx.tr_and (Cx.tr_and (DE.tr E1) (Held.tr _ _ _)) (Held.tr _ _ _)) (Held.tr _ _ _)) (ints_plain _) (by simp [LV.len, LV.z]) (by simp [LV.z]) (fun u3 => ?_)
      refine W_frz (A := noN cs) (lv := .ints y.g.C) (k := y.g.C.length) 14360 13340 5 (Cx.tr_and (Cx.tr_and (Cx.tr_and (Cx.tr_and (DE.tr E1) (Held.tr _ _ _)) (Held.tr _ _ _)) (Held.tr _ _ _)) (Held.tr _ _ _)) (ints_plain _) (by simp [LV.len, LV.z]) (by simp [LV.z]) (fun u4 => ?_)
      refine W_frz (A := noN cs) (lv := .ops y.o) (k := y.o.length) 14360 13341 7 (Cx.tr_and (Cx.tr_and (Cx.tr_and (Cx.tr_and (Cx.tr_and (DE.tr E1) (Held.tr _ _ _)) (Held.tr _ _ _)) (Held.tr _ _ _)) (Held.tr _ _ _)) (Held.tr _ _ _)) (ops_plain _) (by simp [LV.len, LV.z, Nat.mul_comm]) (by simp [LV.z]) (fun u5 => ?_)
      have ec : noN (cellsE (E1 ++ [((y, w ++ [true]), (fun k => match k with | 0 => u0 | 1 => u1 | 2 => u2 | 3 => u3 | 4 => u4 | _ => u5))])) = noN cs ++ [.lit u0, .lit u1, .lit u2, .lit u3, .int .i64 y.g.p, .lit u4, .int .i64 y.g.a, .lit u5, .int .i64 y.a, .bool y.l, .str (sch (w ++ [true]))] := by
        rw [cellsE_snoc, noN_app, hcs]; rfl
      have f := fin.told (E1 ++ [((y, w ++ [true]), (fun k => match k with | 0 => u0 | 1 => u1 | 2 => u2 | 3 => u3 | 4 => u4 | _ => u5))]) (by rw [List.map_append, eg.told]; rfl)
      rw [List.length_append, List.length_singleton] at f
      replace f : Hold _ := ⟨f⟩
      replace ec : Hold _ := ⟨ec⟩
      clear fin eg
      refine W_go ?_
      refine W_if (fun q => ?_) (fun q => ?_)
      · rw [f.told.1 (by omega)]
        refine W_go ?_
        refine W_rt [] [(100, .av 11 [])] ?_
        exact ⟨[], ⟨rfl⟩, rfl, rfl⟩
      · refine W_go ?_
        refine W_rk 9 [(4128, (4128, 0)), (5160, (5160, 0)), (5120, (5120, 0)), (14360, (60000, 0))] ?_
        refine W_bkD (E1 ++ [((y, w ++ [true]), (fun k => match k with | 0 => u0 | 1 => u1 | 2 => u2 | 3 => u3 | 4 => u4 | _ => u5))], i + 1) ⟨⟨f.told.2 (by omega)⟩, ?_, ?_⟩ ?_ (fun G hp h => DE.snoc h.1.1.1.1.1.1 ⟨h.1.1.1.1.1.2, h.1.1.1.1.2, h.1.1.1.2, h.1.1.2, h.1.2, h.2⟩) (hh := ?_)
        · dsimp only; rw [List.length_append, List.length_singleton]; omega
        · dsimp only; rw [List.length_append, List.length_singleton]; omega
        · dsimp only; omega
        · dsimp only; rw [ec.told, List.map_append, List.length_append]; rfl
  · have eg := gro_old (bar := bar) (x := (x, w)) (c := true) (l := E1.map Prod.fst) (fun z hz => by rw [hn2.told gr] at hz; cases hz)
    have f := fin.told E1 eg.symm
    rw [decide_eq_false gr]
    replace f : Hold _ := ⟨f⟩
    clear gr hg2 hn2 eg fin
    generalize x.sop bar = y at *
    have hy : (((y.s.h.L.length ≤ 4194304 ∧ y.s.h.R.length ≤ 4194304 ∧ y.s.h.T.length ≤ 4194304) ∧ y.s.F.length ≤ 4194304) ∧ y.g.C.length ≤ 4194304) ∧ y.o.length ≤ 4194304 := by omega
    have hM := meet_n v cs E1.length (seen (E1.map Prod.fst)) x y (sch w) ⟨#[111]⟩ hy hcl (by omega) false (fun q => by cases q)
    clear hsm2
    refine W_cC [(0, (5160, 0)), (1, (5120, 0)), (2, (4128, 0)), (3, (60000, 0)), (4, (9248, 0)), (5, (13336, 0)), (6, (13337, 0)), (7, (13338, 0)), (8, (13339, 0)), (9, (13340, 0)), (10, (13341, 0))] hM Cx0.tr (fun _ _ _ => trivial) ?_
    clear hM
    refine W_go ?_
    refine W_if (fun q => ?_) (fun q => ?_)
    · rw [f.told.1 (by omega)]
      refine W_go ?_
      refine W_rt [] [(100, .av 11 [])] ?_
      exact ⟨[], ⟨rfl⟩, rfl, rfl⟩
    · refine W_go ?_
      refine W_rk 9 [(4128, (4128, 0)), (5160, (5160, 0)), (5120, (5120, 0)), (60000, (60000, 0))] ?_
      refine W_bkD (E1, i + 1) ⟨⟨f.told.2 (by omega)⟩, ?_, ?_⟩ ?_ (fun G hp h => h) (hh := by rw [← hcs])
      · dsimp only; omega
      · dsimp only; omega
      · dsimp only; omega
end Go.Proofs.YtbobhbhgomkgpaaGreatDoor.S

/- Contracts: counts and losses over all schedules, the program's. Own work of this claim. -/
namespace Go.Proofs.YtbobhbhgomkgpaaGreatDoor.S
set_option linter.all false
open Go Go.Proofs
set_option maxHeartbeats 4000000
set_option maxRecDepth 100000

theorem iCameL_c (v : Nat → Value) (y : Bth) (w : List Bool) : Fn Tryz.prog 35 [] [.agg [.lit (v 0), .lit (v 1), .lit (v 2), .lit (v 3), .int .i64 y.g.p, .lit (v 4), .int .i64 y.g.a, .lit (v 5), .int .i64 y.a, .bool y.l, .str (sch w)]] (fun r H => r = .bool y.l ∧ H = []) := by
  refine Fn_go Tryz.func35 ?_
  refine W_go ?_
  refine W_go ?_
  refine W_rt [] [] ?_
  exact ⟨rfl, rfl⟩
theorem iFindL_c (E : List Row) (hE : E.length ≤ 1000) : Fn Tryz.prog 72 [(0, .c false (.av 11 (noN (cellsE E))))] [.sl 0 0 E.length, .fn 35 []] (fun r H => r = .int .i64 (fndL E) ∧ H = []) := by
  have hcl0 := cellsE_len E
  have hcl : (cellsE E).length ≤ E.length * 11 ∧ E.length * 11 ≤ (cellsE E).length := by omega
  clear hcl0
  refine Fn_go Tryz.func72 ?_
  refine W_go ?_
  refine W_lp (T := 9) (σ := Nat) (me := fun i => [(8, .int .i64 i)]) (mh := fun _ => []) (inv := fun i => i ≤ E.length ∧ Hold (∀ j, j < i → ∀ e, E[j]? = some e → e.1.1.l = false)) (m := fun i => E.length - i) (s0 := 0) ⟨by omega, ⟨by intro j hj; omega⟩⟩ ?_
  rintro i ⟨hi, hI⟩
  refine W_go ?_
  refine W_if (fun h2 => ?_) (fun h2 => ?_)
  case' refine_2 =>
    refine W_go ?_
    refine W_rt [] [] ?_
    exact ⟨by rw [(fndL_none (E := E) fun j hj => hI.told j (by omega)).1], rfl⟩
  obtain ⟨⟨⟨y, w⟩, v⟩, he⟩ : ∃ e, E[i]? = some e := ⟨E[i], List.getElem?_eq_getElem (by omega)⟩
  have hEx : List.take 11 (List.drop (i * 11) (noN (cellsE E))) = [.lit (v 0), .lit (v 1), .lit (v 2), .lit (v 3), .int .i64 y.g.p, .lit (v 4), .int .i64 y.g.a, .lit (v 5), .int .i64 y.a, .bool y.l, .str (sch w)] := cellsN_at he
  have hb1 : i * 11 + 11 ≤ (cellsE E).length := by omega
  have hw := iCameL_c v y w
  cases c1 : y.l
  case true =>
    rw [c1] at hw hEx
    have f := (fndL_at he c1 hI.told).1
    replace f : Hold _ := ⟨f⟩
    clear hI
    refine W_go ?_
    refine W_ch1 [] hw ?_
    refine W_ift ?_
    refine W_go ?_
    refine W_rt [] [] ?_
    exact ⟨by rw [f.told], rfl⟩
  rw [c1] at hw hEx
  refine W_go ?_
  refine W_ch1 [] hw ?_
  refine W_iff ?_
  refine W_go ?_
  refine W_bk (i + 1) ⟨by omega, ⟨fun j hj e' he' => ?_⟩⟩ (by omega)
  by_cases q : j = i
  · subst q; rw [he] at he'; cases he'; exact c1
  · exact hI.told j (by omega) e' he'
theorem iHasL_c (E : List Row) (hE : E.length ≤ 1000) : Fn Tryz.prog 34 [(0, .c false (.av 11 (noN (cellsE E))))] [.sl 0 0 E.length, .fn 35 []] (fun r H => r = .bool (decide (0 ≤ fndL E)) ∧ H = []) := by
  have hf := iFindL_c E hE
  refine Fn_go Tryz.func34 ?_
  refine W_go ?_
  refine W_cC [(0, (0, 0))] hf Cx0.tr (fun _ _ _ => trivial) ?_
  refine W_go ?_
  refine W_rt [] [] ?_
  exact ⟨rfl, rfl⟩
theorem iCount_c (b : Bth) (bar : Bool) (hb : (((b.s.h.L.length ≤ 4194304 ∧ b.s.h.R.length ≤ 4194304 ∧ b.s.h.T.length ≤ 4194304) ∧ b.s.F.length ≤ 4194304) ∧ b.g.C.length ≤ 4194304) ∧ b.o.length ≤ 4194304) : Fn Tryz.prog 11 [(0, .c false (.ints b.s.h.L)), (1, .c false (.ints b.s.h.R)), (2, .c false (.ints b.s.h.T)), (3, .c false (.ints b.s.F)), (4, .c false (.ints b.g.C)), (5, .c false (.ops b.o))] [.agg [.sl 0 0 b.s.h.L.length, .sl 1 0 b.s.h.R.length, .sl 2 0 b.s.h.T.length, .sl 3 0 b.s.F.length, .int .i64 b.g.p, .sl 4 0 b.g.C.length, .int .i64 b.g.a, .sl 5 0 b.o.length, .int .i64 b.a, .bool b.l], .bool bar] (fun r H => r = .tup [.int .i64 (b.cnt bar : Nat), .bool (b.all bar).isSome] ∧ H = []) := by
  have hC := iComes_c b bar hb
  refine Fn_go Tryz.func11 ?_
  refine W_go ?_
  refine W_rw fun K hK => ?_
  refine RW_x ?_
  repeat (refine And.intro (by omega) ?_)
  refine CKy (μ := [(0, (0, 0)), (1, (1, 0)), (2, (2, 0)), (3, (3, 0)), (4, (4, 0)), (5, (5, 0))]) ⟨⟩ (hC) (fun E hE => ?_)
  try dsimp only at hE ⊢
  refine RW_x ?_
  repeat (refine And.intro (by omega) ?_)
  refine hK _ _ ?_
  have hE : Come bar b E := hE.told
  have hl := hE.len
  rw [hE.cnt]
  clear hE hC
  refine W_go ?_
  refine W_go ?_
  refine W_rt [] [] ?_
  exact ⟨rfl, rfl⟩
theorem iCanLose_c (b : Bth) (bar : Bool) (hb : (((b.s.h.L.length ≤ 4194304 ∧ b.s.h.R.length ≤ 4194304 ∧ b.s.h.T.length ≤ 4194304) ∧ b.s.F.length ≤ 4194304) ∧ b.g.C.length ≤ 4194304) ∧ b.o.length ≤ 4194304) : Fn Tryz.prog 19 [(0, .c false (.ints b.s.h.L)), (1, .c false (.ints b.s.h.R)), (2, .c false (.ints b.s.h.T)), (3, .c false (.ints b.s.F)), (4, .c false (.ints b.g.C)), (5, .c false (.ops b.o))] [.agg [.sl 0 0 b.s.h.L.length, .sl 1 0 b.s.h.R.length, .sl 2 0 b.s.h.T.length, .sl 3 0 b.s.F.length, .int .i64 b.g.p, .sl 4 0 b.g.C.length, .int .i64 b.g.a, .sl 5 0 b.o.length, .int .i64 b.a, .bool b.l], .bool bar] (fun r H => r = .tup [.bool (b.can bar), .bool (b.all bar).isSome] ∧ H = []) := by
  have hC := iComes_c b bar hb
  refine Fn_go Tryz.func19 ?_
  refine W_go ?_
  refine W_rw fun K hK => ?_
  refine RW_x ?_
  repeat (refine And.intro (by omega) ?_)
  refine CKy (μ := [(0, (0, 0)), (1, (1, 0)), (2, (2, 0)), (3, (3, 0)), (4, (4, 0)), (5, (5, 0))]) ⟨⟩ (hC) (fun E hE => ?_)
  try dsimp only at hE ⊢
  refine RW_x ?_
  repeat (refine And.intro (by omega) ?_)
  refine hK _ _ ?_
  have hE : Come bar b E := hE.told
  have hl := hE.len
  have hf := iHasL_c E (by omega)
  rw [hE.can]
  clear hE hC
  refine W_go ?_
  refine W_cC [(0, (2064, 0))] hf Cx0.tr (fun _ _ _ => trivial) ?_
  refine W_go ?_
  refine W_rt [] [] ?_
  exact ⟨rfl, rfl⟩
theorem iShortLoss_c (b : Bth) (bar : Bool) (hb : (((b.s.h.L.length ≤ 4194304 ∧ b.s.h.R.length ≤ 4194304 ∧ b.s.h.T.length ≤ 4194304) ∧ b.s.F.length ≤ 4194304) ∧ b.g.C.length ≤ 4194304) ∧ b.o.length ≤ 4194304) : Fn Tryz.prog 16 [(0, .c false (.ints b.s.h.L)), (1, .c false (.ints b.s.h.R)), (2, .c false (.ints b.s.h.T)), (3, .c false (.ints b.s.F)), (4, .c false (.ints b.g.C)), (5, .c false (.ops b.o))] [.agg [.sl 0 0 b.s.h.L.length, .sl 1 0 b.s.h.R.length, .sl 2 0 b.s.h.T.length, .sl 3 0 b.s.F.length, .int .i64 b.g.p, .sl 4 0 b.g.C.length, .int .i64 b.g.a, .sl 5 0 b.o.length, .int .i64 b.a, .bool b.l], .bool bar] (fun r H => r = .tup [.str (sloS (b.slo bar)), .bool (b.slo bar).isSome] ∧ H = []) := by
  have hC := iComes_c b bar hb
  refine Fn_go Tryz.func16 ?_
  refine W_go ?_
  refine W_rw fun K hK => ?_
  refine RW_x ?_
  repeat (refine And.intro (by omega) ?_)
  refine CKy (μ := [(0, (0, 0)), (1, (1, 0)), (2, (2, 0)), (3, (3, 0)), (4, (4, 0)), (5, (5, 0))]) ⟨⟩ (hC) (fun E hE => ?_)
  try dsimp only at hE ⊢
  refine RW_x ?_
  repeat (refine And.intro (by omega) ?_)
  refine hK _ _ ?_
  have hE : Come bar b E := hE.told
  have hl := hE.len
  rw [hE.slo]
  clear hE hC
  have hcl0 := cellsE_len E
  have hcl : (cellsE E).length ≤ E.length * 11 ∧ E.length * 11 ≤ (cellsE E).length := by omega
  clear hcl0
  refine W_go ?_
  refine W_rk 19 [(2064, (2064, 0))] ?_
  refine W_lp (T := 19) (σ := Nat) (me := fun i => [(18, .int .i64 i)]) (mh := fun _ => []) (inv := fun i => i ≤ E.length ∧ Hold (∀ j, j < i → ∀ e, E[j]? = some e → e.1.1.l = false)) (m := fun i => E.length - i) (s0 := 0) ⟨by omega, ⟨by intro j hj; omega⟩⟩ ?_
  rintro i ⟨hi, hI⟩
  refine W_go ?_
  refine W_if (fun h2 => ?_) (fun h2 => ?_)
  case' refine_2 =>
    rw [(fndL_none (E := E) fun j hj => hI.told j (by omega)).2]
    refine W_go ?_
    refine W_go ?_
    refine W_rt [] [] ?_
    exact ⟨rfl, rfl⟩
  obtain ⟨⟨⟨y, w⟩, v⟩, he⟩ : ∃ e, E[i]? = some e := ⟨E[i], List.getElem?_eq_getElem (by omega)⟩
  have hEx : List.take 11 (List.drop (i * 11) (noN (cellsE E))) = [.lit (v 0), .lit (v 1), .lit (v 2), .lit (v 3), .int .i64 y.g.p, .lit (v 4), .int .i64 y.g.a, .lit (v 5), .int .i64 y.a, .bool y.l, .str (sch w)] := cellsN_at he
  have hb1 : i * 11 + 11 ≤ (cellsE E).length := by omega
  refine W_gh ?_
  cases c1 : y.l
  case true =>
    have f := (fndL_at he c1 hI.told).2
    rw [f]
    clear f hI
    refine W_go ?_
    refine W_ift ?_
    refine W_go ?_
    refine W_go ?_
    refine W_rt [] [] ?_
    exact ⟨rfl, rfl⟩
  refine W_go ?_
  refine W_iff ?_
  refine W_go ?_
  refine W_rk 19 [(2064, (2064, 0))] ?_
  refine W_bk (i + 1) ⟨by omega, ⟨fun j hj e' he' => ?_⟩⟩ (by omega)
  by_cases q : j = i
  · subst q; rw [he] at he'; cases he'; exact c1
  · exact hI.told j (by omega) e' he'
end Go.Proofs.YtbobhbhgomkgpaaGreatDoor.S
