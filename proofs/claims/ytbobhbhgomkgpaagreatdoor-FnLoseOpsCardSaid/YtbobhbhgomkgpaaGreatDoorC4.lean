/- Texts of this claim's own, laid as one: Mf Mh. Own work of this claim. -/
import Derived.Test.YtbobhbhgomkgpaaGreatDoorA7
import Derived.Test.YtbobhbhgomkgpaaGreatDoorC3
/- Contracts: all values to which a program and a collector can come, the specification's. Own work of this claim. -/
namespace Go.Proofs.YtbobhbhgomkgpaaGreatDoor.S
set_option linter.all false
open Go Go.Proofs
set_option maxHeartbeats 8000000
set_option maxRecDepth 100000

/-- How far a round is. -/
noncomputable def stg (bar : Bool) (x : Way) (l : List Way) : Nat → List Way
  | 0 => l
  | 1 => gro bar x false l
  | _ => gro bar x true (gro bar x false l)
theorem aset_same {β : Type} : ∀ {H : List (Nat × β)} {n : Nat} {e : β}, aget H n = some e → aset H n e = H
  | [], _, _, h => by cases h
  | (m, f) :: H, n, e, h => by
    unfold aget at h
    unfold aset
    by_cases q : m = n
    · rw [if_pos q] at h ⊢; cases h; rw [q]
    · rw [if_neg q] at h ⊢; rw [aset_same h]
section
variable {D : Cx} {nt : Nat} {ks : List It} {env : Env} {H H' : Heap} {R : Env → Heap → Prop}
/-- An entry's list is told in other words. -/
theorem W_ent {own : Bool} {lv lv' : LV} (n : Nat) (h : Wp D nt ks env H' R) (e : lv = lv')
    (h0 : aget H n = some (.c own lv) := by
      simp only [aget, Nat.reduceEqDiff, ↓reduceIte]
      try rfl)
    (hH : aset H n (.c own lv') = H' := by
      simp only [aset, Nat.reduceEqDiff, ↓reduceIte]
      try rfl) : Wp D nt ks env H R := by
  subst e
  rw [aset_same h0] at hH
  rw [hH]; exact h
end
theorem app3 (cs : List AV) (c : AV) (X : List AV) (n : Nat) (h : cs.length ≤ n * 11) : (LV.av 11 (List.take (n * 11) (noN cs))).app2 (.av 11 (c :: X)) = .av 11 (noN cs ++ c :: X) := by
  rw [List.take_of_length_le (by rw [noN_len]; exact h)]
  generalize noN cs = l
  cases l <;> rfl
theorem zero_small : (((Bth.zero.s.h.L.length ≤ 4194304 ∧ Bth.zero.s.h.R.length ≤ 4194304 ∧ Bth.zero.s.h.T.length ≤ 4194304) ∧ Bth.zero.s.F.length ≤ 4194304) ∧ Bth.zero.g.C.length ≤ 4194304) ∧ Bth.zero.o.length ≤ 4194304 := by simp [Bth.zero, Sto.zero, Gcc.zero]
theorem l8All_c (b : Bth) (bar : Bool) (hb : (((b.s.h.L.length ≤ 4194304 ∧ b.s.h.R.length ≤ 4194304 ∧ b.s.h.T.length ≤ 4194304) ∧ b.s.F.length ≤ 4194304) ∧ b.g.C.length ≤ 4194304) ∧ b.o.length ≤ 4194304) : Fn Tryz.prog 27 [(0, .c false (.ints b.s.h.L)), (1, .c false (.ints b.s.h.R)), (2, .c false (.ints b.s.h.T)), (3, .c false (.ints b.s.F)), (4, .c false (.ints b.g.C)), (5, .c false (.ops b.o))] [.agg [.sl 0 0 b.s.h.L.length, .sl 1 0 b.s.h.R.length, .sl 2 0 b.s.h.T.length, .sl 3 0 b.s.F.length, .int .i64 b.g.p, .sl 4 0 b.g.C.length, .int .i64 b.g.a, .sl 5 0 b.o.length, .int .i64 b.a, .bool b.l], .bool bar]
    (fun r H => ∃ E : List Row, Hold (match b.all bar with | some l => E.map Prod.fst = l | none => E = []) ∧ r = .tup [.sl 100 0 E.length, .bool (b.all bar).isSome] ∧ H = [(100, .c true (.av 11 (noN (cellsE E))))]) := by
  have hv := sBothValid_c b hb
  have hN := sl7Copy_c b hb
  by_cases ok : b.ok
  case neg =>
    rw [decide_eq_false ok] at hv
    rw [all_bad ok]
    clear ok hN
    refine Fn_go Tryz.func27 ?_
    refine W_go ?_
    refine W_c1 [(0, (0, 0)), (1, (1, 0)), (2, (2, 0)), (3, (3, 0)), (4, (4, 0)), (5, (5, 0))] hv ?_
    refine W_ift ?_
    refine W_go ?_
    refine W_rt [(3072, (100, 0))] [] ?_
    exact ⟨[], ⟨rfl⟩, rfl, rfl⟩
  rw [decide_eq_true ok] at hv
  have hbo := ok
  replace ok : Hold _ := ⟨ok⟩
  refine Fn_go Tryz.func27 ?_
  refine W_go ?_
  refine W_c1 [(0, (0, 0)), (1, (1, 0)), (2, (2, 0)), (3, (3, 0)), (4, (4, 0)), (5, (5, 0))] hv ?_
  refine W_iff ?_
  clear hv
  refine W_go ?_
  refine W_c1 [(0, (0, 0)), (1, (1, 0)), (2, (2, 0)), (3, (3, 0)), (4, (4, 0)), (5, (5, 0))] hN ?_
  clear hN
  refine W_go ?_
  refine W_frz (A := []) (lv := .ints b.s.h.L) (k := b.s.h.L.length) 4120 4104 0 Cx0.tr (ints_plain _) (by simp [LV.len, LV.z]) (by simp [LV.z]) (fun v0 => ?_)
  refine W_frz (A := []) (lv := .ints b.s.h.R) (k := b.s.h.R.length) 4120 4105 1 (Cx.tr_and Cx0.tr (Held.tr _ _ _)) (ints_plain _) (by simp [LV.len, LV.z]) (by simp [LV.z]) (fun v1 => ?_)
  refine W_frz (A := []) (lv := .ints b.s.h.T) (k := b.s.h.T.length) 4120 4106 2 (Cx.tr_and (Cx.tr_and Cx0.tr (Held.tr _ _ _)) (Held.tr _ _ _)) (ints_plain _) (by simp [LV.len, LV.z]) (by simp [LV.z]) (fun v2 => ?_)
  refine W_frz (A := []) (lv := .ints b.s.F) (k := b.s.F.length) 4120 4107 3 (Cx.tr_and (Cx.tr_and (Cx.tr_and Cx0.tr (Held.tr _ _ _)) (Held.tr _ _ _)) (Held.tr _ _ _)) (ints_plain _) (by simp [LV.len, LV.z]) (by simp [LV.z]) (fun v3 => ?_)
  refine W_frz (A := []) (lv := .ints b.g.C) (k := b.g.C.length) 4120 4108 5 (Cx.tr_and (Cx.tr_and (Cx.tr_and (Cx.tr_and Cx0.tr (Held.tr _ _ _)) (Held.tr _ _ _)) (Held.tr _ _ _)) (Held.tr _ _ _)) (ints_plain _) (by simp [LV.len, LV.z]) (by simp [LV.z]) (fun v4 => ?_)
  refine W_frz (A := []) (lv := .ops b.o) (k := b.o.length) 4120 4109 7 (Cx.tr_and (Cx.tr_and (Cx.tr_and (Cx.tr_and (Cx.tr_and Cx0.tr (Held.tr _ _ _)) (Held.tr _ _ _)) (Held.tr _ _ _)) (Held.tr _ _ _)) (Held.tr _ _ _)) (ops_plain _) (by simp [LV.len, LV.z, Nat.mul_comm]) (by simp [LV.z]) (fun v5 => ?_)
  refine W_rk 9 [(4120, (60000, 0))] ?_
  have i1 : (0:Int) ≤ 103 := by decide
  have i2 : (103:Int) < 256 := by decide
  have i3 : (0:Int) ≤ 111 := by decide
  have i4 : (111:Int) < 256 := by decide
  refine W_go ?_
  refine W_lpD (T := 9) (σ := List Row × Nat) (me := fun s => [(6, .sl 60000 0 s.1.length), (8, .int .i64 s.2)]) (mh := fun s => [(5120, .c true (.bys [103, 111])), (60000, .c true (.av 11 (noN (cellsE s.1))))])
    (inv := fun s => Hold (Rnd bar b s.1 s.2) ∧ s.2 ≤ s.1.length ∧ s.1.length ≤ 400) (Dl := fun s => DE s.1) (m := fun s => 401 - s.2) (s0 := ([((b, []), (fun k => match k with | 0 => v0 | 1 => v1 | 2 => v2 | 3 => v3 | 4 => v4 | _ => v5))], 0)) ⟨⟨?_⟩, ?_, ?_⟩ ?_ ?_ (hh := ?_)
  · refine ⟨by unfold Bth.all; rw [if_pos ok.told]; rfl, .start bar b, ?_⟩
    intro j p hp
    have := List.mem_of_getElem? hp
    simp only [List.map_cons, List.map_nil, List.mem_singleton] at this
    subst this; exact Nat.zero_le _
  · exact Nat.zero_le _
  · exact Nat.le_of_ble_eq_true rfl
  · intro G hp h e he
    simp only [List.mem_singleton] at he
    subst he
    exact ⟨h.1.1.1.1.1.2, h.1.1.1.1.2, h.1.1.1.2, h.1.1.2, h.1.2, h.2⟩
  case' refine_6 => rfl
  rintro ⟨E, i⟩ ⟨hR, hi, hl⟩
  dsimp only at hR hi hl ⊢
  refine W_go ?_
  refine W_if (fun g => ?_) (fun g => ?_)
  case' refine_2 =>
    have e : b.all bar = some (E.map Prod.fst) := by
      have := hR.told.all
      obtain ⟨k, hk⟩ : ∃ k, 401 - i = k + 1 := ⟨400 - i, by omega⟩
      rw [hk, comesN, if_neg (by rw [List.length_map]; omega)] at this
      exact this
    rw [e]
    clear e
    refine W_go ?_
    refine W_rt [(60000, (100, 0))] [] ?_
    exact ⟨E, ⟨rfl⟩, rfl, rfl⟩
  have hil : i < E.length := by omega
  obtain ⟨⟨⟨x, w⟩, v⟩, hEi⟩ : ∃ e, E[i]? = some e := ⟨E[i], List.getElem?_eq_getElem hil⟩
  have hmx : (E.map Prod.fst)[i]? = some (x, w) := by rw [List.getElem?_map, hEi]; rfl
  have hxm := hR.told.mem hbo _ (List.mem_of_getElem? hmx)
  have hwl := hR.told.road i _ hmx
  have hxo : x.ok := hxm.1
  have hxoo : x.o = b.o := hxm.2
  have hxs := hxo.small
  have hx : (((x.s.h.L.length ≤ 4194304 ∧ x.s.h.R.length ≤ 4194304 ∧ x.s.h.T.length ≤ 4194304) ∧ x.s.F.length ≤ 4194304) ∧ x.g.C.length ≤ 4194304) ∧ x.o.length ≤ 4194304 := by omega
  have hAll : b.all bar = if 400 < (gro bar (x, w) true (gro bar (x, w) false (E.map Prod.fst))).length then none else comesN bar (401 - (i + 1)) (gro bar (x, w) true (gro bar (x, w) false (E.map Prod.fst))) (i + 1) := by
    have := hR.told.all
    obtain ⟨k, hk⟩ : ∃ k, 401 - i = k + 1 := ⟨400 - i, by omega⟩
    rw [hk, comesN, if_pos (by rw [List.length_map]; exact hil), rnd_some hmx] at this
    rw [this, show 401 - (i + 1) = k by omega]
  have hWx := hR.told.ways
  have hRo := hR.told.road
  have hsz : (sch w).size ≤ 400 := by have := sch_size w; simp only at hwl; omega
  have hs1 := sch_snoc w false
  have hs2 := sch_snoc w true
  have i5 : (((103 : UInt8).toNat : Nat) : Int) = 103 := rfl
  have i6 : (((111 : UInt8).toNat : Nat) : Int) = 111 := rfl
  -- the stages
  have hS : ∀ j, Ways bar b (stg bar (x, w) (E.map Prod.fst) j) ∧ (stg bar (x, w) (E.map Prod.fst) j)[i]? = some (x, w) := by
    intro j
    have m0 := List.mem_of_getElem? hmx
    have w1 := hWx.gro (x := (x, w)) (c := false) m0
    have g1 := gro_get (bar := bar) (x := (x, w)) (c := false) hmx
    match j with
    | 0 => exact ⟨hWx, hmx⟩
    | 1 => exact ⟨w1, g1⟩
    | k + 2 => exact ⟨w1.gro (x := (x, w)) (c := true) (List.mem_of_getElem? g1), gro_get g1⟩
  have hfin : ∀ E2 : List Row, E2.map Prod.fst = stg bar (x, w) (E.map Prod.fst) 2 → E2.length ≤ 400 → Rnd bar b E2 (i + 1) := by
    intro E2 he hl2
    have h2 := (hS 2).1
    have h3 := road_gro (c := true) (bar := bar) (gro_get (bar := bar) (x := (x, w)) (c := false) hmx) (road_gro (c := false) (bar := bar) hmx hRo)
    have he' : E2.map Prod.fst = gro bar (x, w) true (gro bar (x, w) false (E.map Prod.fst)) := he
    rw [← he] at h2
    rw [← he'] at h3 hAll
    rw [List.length_map, if_neg (by omega)] at hAll
    exact ⟨hAll, h2, h3⟩
  have hful : ∀ (j : Nat) (c : Bool), (j = 0 ∧ c = false ∨ j = 1 ∧ c = true) → 400 < (gro bar (x, w) c (stg bar (x, w) (E.map Prod.fst) j)).length → b.all bar = none := by
    intro j c hj q
    rw [hAll, if_pos]
    rcases hj with ⟨rfl, rfl⟩ | ⟨rfl, rfl⟩
    · exact Nat.lt_of_lt_of_le q (gro_len _ _ _ _).1
    · exact q
  replace hS : Hold _ := ⟨hS⟩
  replace hfin : Hold _ := ⟨hfin⟩
  replace hful : Hold _ := ⟨hful⟩
  replace hs1 : Hold _ := ⟨hs1⟩
  replace hs2 : Hold _ := ⟨hs2⟩
  replace hxo : Hold _ := ⟨hxo⟩
  replace hxoo : Hold _ := ⟨hxoo⟩
  have hs1 : Hold (sch w ++ ⟨#[103]⟩ = sch (w ++ [false])) := hs1
  have hs2 : Hold (sch w ++ ⟨#[111]⟩ = sch (w ++ [true])) := hs2
  clear hAll hWx hRo hwl hxs hxm hR
  refine W_go ?_
  refine W_lpD (T := 10) (σ := List Row × Nat) (me := fun s => [(6, .sl 60000 0 s.1.length), (9, .int .i64 s.2)]) (mh := fun s => [(60000, .c true (.av 11 (noN (cellsE s.1))))])
    (inv := fun s => Hold (s.1.map Prod.fst = stg bar (x, w) (E.map Prod.fst) s.2) ∧ s.2 ≤ 2 ∧ s.1.length ≤ 400) (Dl := fun s => DE s.1) (m := fun s => 2 - s.2) (s0 := (E, 0)) ⟨⟨rfl⟩, by omega, hl⟩ (fun G hp h => h) ?_
  clear hEi hmx hil hi hl
  rintro ⟨E1, j⟩ ⟨hI, hj, hl1⟩
  dsimp only at hI hj hl1 ⊢
  refine W_go ?_
  refine W_if (fun g2 => ?_) (fun g2 => ?_)
  case' refine_2 =>
    obtain rfl : j = 2 := by omega
    have hn := hfin.told E1 hI.told hl1
    have hw := (hS.told 2).2
    rw [← hI.told, List.getElem?_map] at hw
    have hi1 : i < E1.length := by
      rcases Nat.lt_or_ge i E1.length with q | q
      · exact q
      · rw [List.getElem?_eq_none q] at hw; cases hw
    replace hn : Hold _ := ⟨hn⟩
    clear hw hfin hful hS hI
    refine W_go ?_
    refine W_rk 9 [(60000, (60000, 0)), (5120, (5120, 0))] ?_
    refine W_bkD (E1, i + 1) ⟨hn, ?_, ?_⟩ ?_ (fun G hp h => h)
    · dsimp only; omega
    · dsimp only; omega
    · dsimp only; omega
  repeat (first | refine W_seq ?_ | refine W_skip ?_ | refine W_block ?_)
  rcases (show j = 0 ∨ j = 1 by omega) with rfl | rfl
  · have hst : stg bar (x, w) (E.map Prod.fst) 1 = gro bar (x, w) false (stg bar (x, w) (E.map Prod.fst) 0) := rfl
    have hfu := hful.told 0 false (by decide)
    have hW := (hS.told 0).1
    have hw := (hS.told 0).2
    clear hS hful hfin
    rw [← hI.told] at hfu hW hw
    have hI0 := hI.told
    rw [← hI0] at hst
    rw [List.getElem?_map] at hw
    obtain ⟨⟨xw, v⟩, he, hxe⟩ := Option.map_eq_some_iff.1 hw
    dsimp only at hxe
    subst hxe
    clear hw hI0
    have hm : ((x, w), v) ∈ E1 := List.mem_of_getElem? he
    have hil : i < E1.length := (List.getElem?_eq_some_iff.1 he).1
    have hEx : List.take 10 (List.drop (i * 11) (noN (cellsE E1))) = [.lit (v 0), .lit (v 1), .lit (v 2), .lit (v 3), .int .i64 x.g.p, .lit (v 4), .int .i64 x.g.a, .lit (v 5), .int .i64 x.a, .bool x.l] := cellsN_at10 he
    have hE1 : List.getD (noN (cellsE E1)) (i * 11 + 10) .any = .str (sch w) := cellsN_g10 he
    have hcl0 := cellsE_len E1
    have hcl : (cellsE E1).length ≤ E1.length * 11 ∧ E1.length * 11 ≤ (cellsE E1).length := by omega
    have hb1 : i * 11 + 11 ≤ (cellsE E1).length := by omega
    have hso : ∀ e ∈ E1, e.1.1.ok ∧ e.1.1.o = b.o := fun e he => ⟨(hW.rch e.1 (List.mem_map.2 ⟨e, he, rfl⟩)).ok hbo, (hW.rch e.1 (List.mem_map.2 ⟨e, he, rfl⟩)).oa.1⟩
    have hss : ∀ y : Bth, y ∈ E1.map (fun e => e.1.1) → (((y.s.h.L.length ≤ 4194304 ∧ y.s.h.R.length ≤ 4194304 ∧ y.s.h.T.length ≤ 4194304) ∧ y.s.F.length ≤ 4194304) ∧ y.g.C.length ≤ 4194304) ∧ y.o.length ≤ 4194304 := by
      intro y hy
      obtain ⟨e, he, rfl⟩ := List.mem_map.1 hy
      have := (hso e he).1.small
      omega
    have hN := l8NextG_c v x bar hxo.told hx
    clear hcl0 hW he
    replace hm : Hold _ := ⟨hm⟩
    replace hso : Hold _ := ⟨hso⟩
    replace hss : Hold _ := ⟨hss⟩
    replace hfu : Hold _ := ⟨hfu⟩
    replace hst : Hold _ := ⟨hst⟩
    cases hn : x.nx bar false with
    | none =>
      have eg := gro_old (bar := bar) (x := (x, w)) (c := false) (l := E1.map Prod.fst) (fun z hz => by rw [hn] at hz; cases hz)
      have e2 := hst.told.trans eg
      rw [hn] at hN
      dsimp only [nz, Option.getD_none, Option.isSome_none] at hN
      have hz := zero_small
      generalize Bth.zero = z at *
      generalize hcs : cellsE E1 = cs at *
      replace e2 : Hold _ := ⟨e2⟩
      clear hn eg hst hfu hso hss hs1 hs2
      refine W_dcD [] hN (HB.tr v x) (fun G hp q => q _ hm.told) [.w 4 (.agg [.lit (v 0), .lit (v 1), .lit (v 2), .lit (v 3), .int .i64 x.g.p, .lit (v 4), .int .i64 x.g.a, .lit (v 5), .int .i64 x.a, .bool x.l]), .c _ _ _] ?_
      clear hN
      refine W_go ?_
      refine W_ift ?_
      refine W_go ?_
      refine W_rk 10 [(60000, (60000, 0)), (5120, (5120, 0))] ?_
      refine W_bkD (E1, 1) ⟨⟨e2.told.symm⟩, by dsimp only; omega, hl1⟩ (by dsimp only; omega) (fun G hp h => h) (hh := by rw [← hcs])
    | some y =>
      have hyo : y.ok := nx_ok hn
      have hyq : y.o = b.o := (nx_oa hn).1.trans hxoo.told
      have hys := hyo.small
      have hy : (((y.s.h.L.length ≤ 4194304 ∧ y.s.h.R.length ≤ 4194304 ∧ y.s.h.T.length ≤ 4194304) ∧ y.s.F.length ≤ 4194304) ∧ y.g.C.length ≤ 4194304) ∧ y.o.length ≤ 4194304 := by omega
      have hF := l8Find_c E1 y (by omega) hss.told hy
      have hfy := fndY_mem (y := y) (E := E1) (fun e he => by rw [(hso.told e he).2, hyq])
      rw [hn] at hN
      dsimp only [nz, Option.getD_some, Option.isSome_some] at hN
      replace hN : FnC (HB v x) Tryz.prog 56 [] [.agg [.lit (v 0), .lit (v 1), .lit (v 2), .lit (v 3), .int .i64 x.g.p, .lit (v 4), .int .i64 x.g.a, .lit (v 5), .int .i64 x.a, .bool x.l], .int .u8 103, .bool bar] (fun r H => r = .tup [.agg [.sl 100 0 y.s.h.L.length, .sl 101 0 y.s.h.R.length, .sl 102 0 y.s.h.T.length, .sl 103 0 y.s.F.length, .int .i64 y.g.p, .sl 104 0 y.g.C.length, .int .i64 y.g.a, .sl 105 0 y.o.length, .int .i64 y.a, .bool y.l], .bool true] ∧ H = [(100, .c true (.ints y.s.h.L)), (101, .c true (.ints y.s.h.R)), (102, .c true (.ints y.s.h.T)), (103, .c true (.ints y.s.F)), (104, .c true (.ints y.g.C)), (105, .c true (.ops y.o))]) := hN
      generalize fndY y E1 = q at *
      clear hys hss hso hyq hyo
      by_cases hmem : y ∈ (E1.map Prod.fst).map Prod.fst
      · have hq : 0 ≤ q := hfy.2 hmem
        have e2 := hst.told.trans (gro_old (bar := bar) (x := (x, w)) (c := false) (l := E1.map Prod.fst) (fun z hz => by rw [hn] at hz; cases hz; exact hmem))
        generalize hcs : cellsE E1 = cs at *
        replace e2 : Hold _ := ⟨e2⟩
        clear hn hst hfu hs1 hs2 hfy hmem
        refine W_dcD [] hN (HB.tr v x) (fun G hp q => q _ hm.told) [.w 4 (.agg [.lit (v 0), .lit (v 1), .lit (v 2), .lit (v 3), .int .i64 x.g.p, .lit (v 4), .int .i64 x.g.a, .lit (v 5), .int .i64 x.a, .bool x.l]), .c _ _ _] ?_
        clear hN
        repeat (first | refine W_seq ?_ | refine W_skip ?_ | refine W_block ?_)
        refine W_cC [(0, (60000, 0)), (1, (12368, 0)), (2, (12369, 0)), (3, (12370, 0)), (4, (12371, 0)), (5, (12372, 0)), (6, (12373, 0))] hF (DE.tr E1) (fun G hp q => q) ?_
        refine W_ift ?_
        refine W_go ?_
        refine W_rk 10 [(60000, (60000, 0)), (5120, (5120, 0))] ?_
        refine W_bkD (E1, 1) ⟨⟨e2.told.symm⟩, by dsimp only; omega, hl1⟩ (by dsimp only; omega) (fun G hp h => h) (hh := by rw [← hcs])
      · have hq : ¬ 0 ≤ q := fun k => hmem (hfy.1 k)
        have eg := gro_new (bar := bar) (x := (x, w)) (c := false) hn hmem
        have e2 := hst.told.trans eg
        have e3 := hfu.told
        rw [eg, List.length_append, List.length_map, List.length_singleton] at e3
        have hcs0 : noN (cellsE E1) = noN (cellsE E1) := rfl
        generalize hcs : cellsE E1 = cs at *
        replace e2 : Hold _ := ⟨e2⟩
        replace e3 : Hold _ := ⟨e3⟩
        clear hn hst hfu hfy hmem eg hcs0
        refine W_dcD [] hN (HB.tr v x) (fun G hp q => q _ hm.told) [.w 4 (.agg [.lit (v 0), .lit (v 1), .lit (v 2), .lit (v 3), .int .i64 x.g.p, .lit (v 4), .int .i64 x.g.a, .lit (v 5), .int .i64 x.a, .bool x.l]), .c _ _ _] ?_
        clear hN
        repeat (first | refine W_seq ?_ | refine W_skip ?_ | refine W_block ?_)
        refine W_cC [(0, (60000, 0)), (1, (12368, 0)), (2, (12369, 0)), (3, (12370, 0)), (4, (12371, 0)), (5, (12372, 0)), (6, (12373, 0))] hF (DE.tr E1) (fun G hp q => q) ?_
        clear hF hq
        refine W_iff ?_
        refine W_go ?_
        refine W_if (fun g => ?_) (fun g => ?_)
        · rw [e3.told (by omega)]
          clear hs1 hs2
          refine W_go ?_
          refine W_rt [(15360, (100, 0))] [] ?_
          exact ⟨[], ⟨rfl⟩, rfl, rfl⟩
        · have hlt : E1.length < 400 := by omega
          clear g hEx
          repeat (first | refine W_seq ?_ | refine W_skip ?_ | refine W_block ?_)
          have i7 : (⟨#[UInt8.ofNat (Int.toNat 103)]⟩ : ByteArray).size ≤ 1 := by decide
          refine W_dos [.w 6 (.str (sch w))] ?_
          refine W_ent 16512 (lv' := .av 11 (noN cs ++ [.sl 12368 0 y.s.h.L.length, .sl 12369 0 y.s.h.R.length, .sl 12370 0 y.s.h.T.length, .sl 12371 0 y.s.F.length, .int .i64 y.g.p, .sl 12372 0 y.g.C.length, .int .i64 y.g.a, .sl 12373 0 y.o.length, .int .i64 y.a, .bool y.l, .str (sch w ++ ⟨#[UInt8.ofNat (Int.toNat 103)]⟩)])) ?_ (app3 _ _ _ _ hcl.1)
          refine W_frz (A := noN cs) (lv := .ints y.s.h.L) (k := y.s.h.L.length) 16512 12368 0 (DE.tr E1) (ints_plain _) (by simp [LV.len, LV.z]) (by simp [LV.z]) (fun u0 => ?_)
          refine W_frz (A := noN cs) (lv := .ints y.s.h.R) (k := y.s.h.R.length) 16512 12369 1 (Cx.tr_and (DE.tr E1) (Held.tr _ _ _)) (ints_plain _) (by simp [LV.len, LV.z]) (by simp [LV.z]) (fun u1 => ?_)
          refine W_frz (A := noN cs) (lv := .ints y.s.h.T) (k := y.s.h.T.length) 16512 12370 2 (Cx.tr_and (Cx.tr_and (DE.tr E1) (Held.tr _ _ _)) (Held.tr _ _ _)) (ints_plain _) (by simp [LV.len, LV.z]) (by simp [LV.z]) (fun u2 => ?_)
          refine W_frz (A := noN cs) (lv := .ints y.s.F) (k := y.s.F.length) 16512 12371 3 (Cx.tr_and (Cx.tr_and (Cx.tr_and (DE.tr E1) (Held.tr _ _ _)) (Held.tr _ _ _)) (Held.tr _ _ _)) (ints_plain _) (by simp [LV.len, LV.z]) (by simp [LV.z]) (fun u3 => ?_)
          refine W_frz (A := noN cs) (lv := .ints y.g.C) (k := y.g.C.length) 16512 12372 5 (Cx.tr_and (Cx.tr_and (Cx.tr_and (Cx.tr_and (DE.tr E1) (Held.tr _ _ _)) (Held.tr _ _ _)) (Held.tr _ _ _)) (Held.tr _ _ _)) (ints_plain _) (by simp [LV.len, LV.z]) (by simp [LV.z]) (fun u4 => ?_)
          refine W_frz (A := noN cs) (lv := .ops y.o) (k := y.o.length) 16512 12373 7 (Cx.tr_and (Cx.tr_and (Cx.tr_and (Cx.tr_and (Cx.tr_and (DE.tr E1) (Held.tr _ _ _)) (Held.tr _ _ _)) (Held.tr _ _ _)) (Held.tr _ _ _)) (Held.tr _ _ _)) (ops_plain _) (by simp [LV.len, LV.z, Nat.mul_comm]) (by simp [LV.z]) (fun u5 => ?_)
          have ec : noN (cellsE (E1 ++ [((y, w ++ [false]), (fun k => match k with | 0 => u0 | 1 => u1 | 2 => u2 | 3 => u3 | 4 => u4 | _ => u5))])) = noN cs ++ [.lit u0, .lit u1, .lit u2, .lit u3, .int .i64 y.g.p, .lit u4, .int .i64 y.g.a, .lit u5, .int .i64 y.a, .bool y.l, .str (sch w ++ ⟨#[UInt8.ofNat (Int.toNat 103)]⟩)] := by
            have h1 : sch w ++ ⟨#[UInt8.ofNat (Int.toNat 103)]⟩ = sch (w ++ [false]) := hs1.told
            rw [cellsE_snoc, noN_app, hcs, h1]; rfl
          replace ec : Hold _ := ⟨ec⟩
          clear hcl hb1 hs1 hs2
          refine W_go ?_
          refine W_rk 10 [(16512, (60000, 0)), (5120, (5120, 0))] ?_
          refine W_bkD (E1 ++ [((y, w ++ [false]), (fun k => match k with | 0 => u0 | 1 => u1 | 2 => u2 | 3 => u3 | 4 => u4 | _ => u5))], 1) ⟨⟨?_⟩, ?_, ?_⟩ ?_ (fun G hp h => DE.snoc h.1.1.1.1.1.1 ⟨h.1.1.1.1.1.2, h.1.1.1.1.2, h.1.1.1.2, h.1.1.2, h.1.2, h.2⟩) (hh := ?_)
          · dsimp only; rw [List.map_append, e2.told]; rfl
          · dsimp only; omega
          · dsimp only; rw [List.length_append, List.length_singleton]; omega
          · dsimp only; omega
          · dsimp only; rw [ec.told]
  · have hst : stg bar (x, w) (E.map Prod.fst) 2 = gro bar (x, w) true (stg bar (x, w) (E.map Prod.fst) 1) := rfl
    have hfu := hful.told 1 true (by decide)
    have hW := (hS.told 1).1
    have hw := (hS.told 1).2
    clear hS hful hfin
    rw [← hI.told] at hfu hW hw
    have hI0 := hI.told
    rw [← hI0] at hst
    rw [List.getElem?_map] at hw
    obtain ⟨⟨xw, v⟩, he, hxe⟩ := Option.map_eq_some_iff.1 hw
    dsimp only at hxe
    subst hxe
    clear hw hI0
    have hm : ((x, w), v) ∈ E1 := List.mem_of_getElem? he
    have hil : i < E1.length := (List.getElem?_eq_some_iff.1 he).1
    have hEx : List.take 10 (List.drop (i * 11) (noN (cellsE E1))) = [.lit (v 0), .lit (v 1), .lit (v 2), .lit (v 3), .int .i64 x.g.p, .lit (v 4), .int .i64 x.g.a, .lit (v 5), .int .i64 x.a, .bool x.l] := cellsN_at10 he
    have hE1 : List.getD (noN (cellsE E1)) (i * 11 + 10) .any = .str (sch w) := cellsN_g10 he
    have hcl0 := cellsE_len E1
    have hcl : (cellsE E1).length ≤ E1.length * 11 ∧ E1.length * 11 ≤ (cellsE E1).length := by omega
    have hb1 : i * 11 + 11 ≤ (cellsE E1).length := by omega
    have hso : ∀ e ∈ E1, e.1.1.ok ∧ e.1.1.o = b.o := fun e he => ⟨(hW.rch e.1 (List.mem_map.2 ⟨e, he, rfl⟩)).ok hbo, (hW.rch e.1 (List.mem_map.2 ⟨e, he, rfl⟩)).oa.1⟩
    have hss : ∀ y : Bth, y ∈ E1.map (fun e => e.1.1) → (((y.s.h.L.length ≤ 4194304 ∧ y.s.h.R.length ≤ 4194304 ∧ y.s.h.T.length ≤ 4194304) ∧ y.s.F.length ≤ 4194304) ∧ y.g.C.length ≤ 4194304) ∧ y.o.length ≤ 4194304 := by
      intro y hy
      obtain ⟨e, he, rfl⟩ := List.mem_map.1 hy
      have := (hso e he).1.small
      omega
    have hN := l8NextO_c v x bar hxo.told hx
    clear hcl0 hW he
    replace hm : Hold _ := ⟨hm⟩
    replace hso : Hold _ := ⟨hso⟩
    replace hss : Hold _ := ⟨hss⟩
    replace hfu : Hold _ := ⟨hfu⟩
    replace hst : Hold _ := ⟨hst⟩
    cases hn : x.nx bar true with
    | none =>
      have eg := gro_old (bar := bar) (x := (x, w)) (c := true) (l := E1.map Prod.fst) (fun z hz => by rw [hn] at hz; cases hz)
      have e2 := hst.told.trans eg
      rw [hn] at hN
      dsimp only [nz, Option.getD_none, Option.isSome_none] at hN
      have hz := zero_small
      generalize Bth.zero = z at *
      generalize hcs : cellsE E1 = cs at *
      replace e2 : Hold _ := ⟨e2⟩
      clear hn eg hst hfu hso hss hs1 hs2
      refine W_dcD [] hN (HB.tr v x) (fun G hp q => q _ hm.told) [.w 4 (.agg [.lit (v 0), .lit (v 1), .lit (v 2), .lit (v 3), .int .i64 x.g.p, .lit (v 4), .int .i64 x.g.a, .lit (v 5), .int .i64 x.a, .bool x.l]), .c _ _ _] ?_
      clear hN
      refine W_go ?_
      refine W_ift ?_
      refine W_go ?_
      refine W_rk 10 [(60000, (60000, 0)), (5120, (5120, 0))] ?_
      refine W_bkD (E1, 2) ⟨⟨e2.told.symm⟩, by dsimp only; omega, hl1⟩ (by dsimp only; omega) (fun G hp h => h) (hh := by rw [← hcs])
    | some y =>
      have hyo : y.ok := nx_ok hn
      have hyq : y.o = b.o := (nx_oa hn).1.trans hxoo.told
      have hys := hyo.small
      have hy : (((y.s.h.L.length ≤ 4194304 ∧ y.s.h.R.length ≤ 4194304 ∧ y.s.h.T.length ≤ 4194304) ∧ y.s.F.length ≤ 4194304) ∧ y.g.C.length ≤ 4194304) ∧ y.o.length ≤ 4194304 := by omega
      have hF := l8Find_c E1 y (by omega) hss.told hy
      have hfy := fndY_mem (y := y) (E := E1) (fun e he => by rw [(hso.told e he).2, hyq])
      rw [hn] at hN
      dsimp only [nz, Option.getD_some, Option.isSome_some] at hN
      replace hN : FnC (HB v x) Tryz.prog 56 [] [.agg [.lit (v 0), .lit (v 1), .lit (v 2), .lit (v 3), .int .i64 x.g.p, .lit (v 4), .int .i64 x.g.a, .lit (v 5), .int .i64 x.a, .bool x.l], .int .u8 111, .bool bar] (fun r H => r = .tup [.agg [.sl 100 0 y.s.h.L.length, .sl 101 0 y.s.h.R.length, .sl 102 0 y.s.h.T.length, .sl 103 0 y.s.F.length, .int .i64 y.g.p, .sl 104 0 y.g.C.length, .int .i64 y.g.a, .sl 105 0 y.o.length, .int .i64 y.a, .bool y.l], .bool true] ∧ H = [(100, .c true (.ints y.s.h.L)), (101, .c true (.ints y.s.h.R)), (102, .c true (.ints y.s.h.T)), (103, .c true (.ints y.s.F)), (104, .c true (.ints y.g.C)), (105, .c true (.ops y.o))]) := hN
      generalize fndY y E1 = q at *
      clear hys hss hso hyq hyo
      by_cases hmem : y ∈ (E1.map Prod.fst).map Prod.fst
      · have hq : 0 ≤ q := hfy.2 hmem
        have e2 := hst.told.trans (gro_old (bar := bar) (x := (x, w)) (c := true) (l := E1.map Prod.fst) (fun z hz => by rw [hn] at hz; cases hz; exact hmem))
        generalize hcs : cellsE E1 = cs at *
        replace e2 : Hold _ := ⟨e2⟩
        clear hn hst hfu hs1 hs2 hfy hmem
        refine W_dcD [] hN (HB.tr v x) (fun G hp q => q _ hm.told) [.w 4 (.agg [.lit (v 0), .lit (v 1), .lit (v 2), .lit (v 3), .int .i64 x.g.p, .lit (v 4), .int .i64 x.g.a, .lit (v 5), .int .i64 x.a, .bool x.l]), .c _ _ _] ?_
        clear hN
        repeat (first | refine W_seq ?_ | refine W_skip ?_ | refine W_block ?_)
        refine W_cC [(0, (60000, 0)), (1, (12368, 0)), (2, (12369, 0)), (3, (12370, 0)), (4, (12371, 0)), (5, (12372, 0)), (6, (12373, 0))] hF (DE.tr E1) (fun G hp q => q) ?_
        refine W_ift ?_
        refine W_go ?_
        refine W_rk 10 [(60000, (60000, 0)), (5120, (5120, 0))] ?_
        refine W_bkD (E1, 2) ⟨⟨e2.told.symm⟩, by dsimp only; omega, hl1⟩ (by dsimp only; omega) (fun G hp h => h) (hh := by rw [← hcs])
      · have hq : ¬ 0 ≤ q := fun k => hmem (hfy.1 k)
        have eg := gro_new (bar := bar) (x := (x, w)) (c := true) hn hmem
        have e2 := hst.told.trans eg
        have e3 := hfu.told
        rw [eg, List.length_append, List.length_map, List.length_singleton] at e3
        have hcs0 : noN (cellsE E1) = noN (cellsE E1) := rfl
        generalize hcs : cellsE E1 = cs at *
        replace e2 : Hold _ := ⟨e2⟩
        replace e3 : Hold _ := ⟨e3⟩
        clear hn hst hfu hfy hmem eg hcs0
        refine W_dcD [] hN (HB.tr v x) (fun G hp q => q _ hm.told) [.w 4 (.agg [.lit (v 0), .lit (v 1), .lit (v 2), .lit (v 3), .int .i64 x.g.p, .lit (v 4), .int .i64 x.g.a, .lit (v 5), .int .i64 x.a, .bool x.l]), .c _ _ _] ?_
        clear hN
        repeat (first | refine W_seq ?_ | refine W_skip ?_ | refine W_block ?_)
        refine W_cC [(0, (60000, 0)), (1, (12368, 0)), (2, (12369, 0)), (3, (12370, 0)), (4, (12371, 0)), (5, (12372, 0)), (6, (12373, 0))] hF (DE.tr E1) (fun G hp q => q) ?_
        clear hF hq
        refine W_iff ?_
        refine W_go ?_
        refine W_if (fun g => ?_) (fun g => ?_)
        · rw [e3.told (by omega)]
          clear hs1 hs2
          refine W_go ?_
          refine W_rt [(15360, (100, 0))] [] ?_
          exact ⟨[], ⟨rfl⟩, rfl, rfl⟩
        · have hlt : E1.length < 400 := by omega
          clear g hEx
          repeat (first | refine W_seq ?_ | refine W_skip ?_ | refine W_block ?_)
          have i7 : (⟨#[UInt8.ofNat (Int.toNat 111)]⟩ : ByteArray).size ≤ 1 := by decide
          refine W_dos [.w 6 (.str (sch w))] ?_
          refine W_ent 16512 (lv' := .av 11 (noN cs ++ [.sl 12368 0 y.s.h.L.length, .sl 12369 0 y.s.h.R.length, .sl 12370 0 y.s.h.T.length, .sl 12371 0 y.s.F.length, .int .i64 y.g.p, .sl 12372 0 y.g.C.length, .int .i64 y.g.a, .sl 12373 0 y.o.length, .int .i64 y.a, .bool y.l, .str (sch w ++ ⟨#[UInt8.ofNat (Int.toNat 111)]⟩)])) ?_ (app3 _ _ _ _ hcl.1)
          refine W_frz (A := noN cs) (lv := .ints y.s.h.L) (k := y.s.h.L.length) 16512 12368 0 (DE.tr E1) (ints_plain _) (by simp [LV.len, LV.z]) (by simp [LV.z]) (fun u0 => ?_)
          refine W_frz (A := noN cs) (lv := .ints y.s.h.R) (k := y.s.h.R.length) 16512 12369 1 (Cx.tr_and (DE.tr E1) (Held.tr _ _ _)) (ints_plain _) (by simp [LV.len, LV.z]) (by simp [LV.z]) (fun u1 => ?_)
          refine W_frz (A := noN cs) (lv := .ints y.s.h.T) (k := y.s.h.T.length) 16512 12370 2 (Cx.tr_and (Cx.tr_and (DE.tr E1) (Held.tr _ _ _)) (Held.tr _ _ _)) (ints_plain _) (by simp [LV.len, LV.z]) (by simp [LV.z]) (fun u2 => ?_)
          refine W_frz (A := noN cs) (lv := .ints y.s.F) (k := y.s.F.length) 16512 12371 3 (Cx.tr_and (Cx.tr_and (Cx.tr_and (DE.tr E1) (Held.tr _ _ _)) (Held.tr _ _ _)) (Held.tr _ _ _)) (ints_plain _) (by simp [LV.len, LV.z]) (by simp [LV.z]) (fun u3 => ?_)
          refine W_frz (A := noN cs) (lv := .ints y.g.C) (k := y.g.C.length) 16512 12372 5 (Cx.tr_and (Cx.tr_and (Cx.tr_and (Cx.tr_and (DE.tr E1) (Held.tr _ _ _)) (Held.tr _ _ _)) (Held.tr _ _ _)) (Held.tr _ _ _)) (ints_plain _) (by simp [LV.len, LV.z]) (by simp [LV.z]) (fun u4 => ?_)
          refine W_frz (A := noN cs) (lv := .ops y.o) (k := y.o.length) 16512 12373 7 (Cx.tr_and (Cx.tr_and (Cx.tr_and (Cx.tr_and (Cx.tr_and (DE.tr E1) (Held.tr _ _ _)) (Held.tr _ _ _)) (Held.tr _ _ _)) (Held.tr _ _ _)) (Held.tr _ _ _)) (ops_plain _) (by simp [LV.len, LV.z, Nat.mul_comm]) (by simp [LV.z]) (fun u5 => ?_)
          have ec : noN (cellsE (E1 ++ [((y, w ++ [true]), (fun k => match k with | 0 => u0 | 1 => u1 | 2 => u2 | 3 => u3 | 4 => u4 | _ => u5))])) = noN cs ++ [.lit u0, .lit u1, .lit u2, .lit u3, .int .i64 y.g.p, .lit u4, .int .i64 y.g.a, .lit u5, .int .i64 y.a, .bool y.l, .str (sch w ++ ⟨#[UInt8.ofNat (Int.toNat 111)]⟩)] := by
            have h1 : sch w ++ ⟨#[UInt8.ofNat (Int.toNat 111)]⟩ = sch (w ++ [true]) := hs2.told
            rw [cellsE_snoc, noN_app, hcs, h1]; rfl
          replace ec : Hold _ := ⟨ec⟩
          clear hcl hb1 hs1 hs2
          refine W_go ?_
          refine W_rk 10 [(16512, (60000, 0)), (5120, (5120, 0))] ?_
          refine W_bkD (E1 ++ [((y, w ++ [true]), (fun k => match k with | 0 => u0 | 1 => u1 | 2 => u2 | 3 => u3 | 4 => u4 | _ => u5))], 2) ⟨⟨?_⟩, ?_, ?_⟩ ?_ (fun G hp h => DE.snoc h.1.1.1.1.1.1 ⟨h.1.1.1.1.1.2, h.1.1.1.1.2, h.1.1.1.2, h.1.1.2, h.1.2, h.2⟩) (hh := ?_)
          · dsimp only; rw [List.map_append, e2.told]; rfl
          · dsimp only; omega
          · dsimp only; rw [List.length_append, List.length_singleton]; omega
          · dsimp only; omega
          · dsimp only; rw [ec.told]
end Go.Proofs.YtbobhbhgomkgpaaGreatDoor.S

/- Contracts: counts and losses over all schedules, the specification's. Own work of this claim. -/
namespace Go.Proofs.YtbobhbhgomkgpaaGreatDoor.S
set_option linter.all false
open Go Go.Proofs
set_option maxHeartbeats 4000000
set_option maxRecDepth 100000

theorem sCount_c (b : Bth) (bar : Bool) (hb : (((b.s.h.L.length ≤ 4194304 ∧ b.s.h.R.length ≤ 4194304 ∧ b.s.h.T.length ≤ 4194304) ∧ b.s.F.length ≤ 4194304) ∧ b.g.C.length ≤ 4194304) ∧ b.o.length ≤ 4194304) : Fn Tryz.prog 12 [(0, .c false (.ints b.s.h.L)), (1, .c false (.ints b.s.h.R)), (2, .c false (.ints b.s.h.T)), (3, .c false (.ints b.s.F)), (4, .c false (.ints b.g.C)), (5, .c false (.ops b.o))] [.agg [.sl 0 0 b.s.h.L.length, .sl 1 0 b.s.h.R.length, .sl 2 0 b.s.h.T.length, .sl 3 0 b.s.F.length, .int .i64 b.g.p, .sl 4 0 b.g.C.length, .int .i64 b.g.a, .sl 5 0 b.o.length, .int .i64 b.a, .bool b.l], .bool bar] (fun r H => r = .tup [.int .i64 (b.cnt bar : Nat), .bool (b.all bar).isSome] ∧ H = []) := by
  have hC := l8All_c b bar hb
  refine Fn_go Tryz.func12 ?_
  refine W_go ?_
  refine W_rw fun K hK => ?_
  refine RW_x ?_
  repeat (refine And.intro (by omega) ?_)
  refine CKy (μ := [(0, (0, 0)), (1, (1, 0)), (2, (2, 0)), (3, (3, 0)), (4, (4, 0)), (5, (5, 0))]) ⟨⟩ (hC) (fun E hE => ?_)
  try dsimp only at hE ⊢
  refine RW_x ?_
  repeat (refine And.intro (by omega) ?_)
  refine hK _ _ ?_
  have hE : Come bar b E := hE.told
  have hl := hE.len
  rw [hE.cnt]
  clear hE hC
  refine W_go ?_
  refine W_go ?_
  refine W_rt [] [] ?_
  exact ⟨rfl, rfl⟩
theorem sCanLose_c (b : Bth) (bar : Bool) (hb : (((b.s.h.L.length ≤ 4194304 ∧ b.s.h.R.length ≤ 4194304 ∧ b.s.h.T.length ≤ 4194304) ∧ b.s.F.length ≤ 4194304) ∧ b.g.C.length ≤ 4194304) ∧ b.o.length ≤ 4194304) : Fn Tryz.prog 20 [(0, .c false (.ints b.s.h.L)), (1, .c false (.ints b.s.h.R)), (2, .c false (.ints b.s.h.T)), (3, .c false (.ints b.s.F)), (4, .c false (.ints b.g.C)), (5, .c false (.ops b.o))] [.agg [.sl 0 0 b.s.h.L.length, .sl 1 0 b.s.h.R.length, .sl 2 0 b.s.h.T.length, .sl 3 0 b.s.F.length, .int .i64 b.g.p, .sl 4 0 b.g.C.length, .int .i64 b.g.a, .sl 5 0 b.o.length, .int .i64 b.a, .bool b.l], .bool bar] (fun r H => r = .tup [.bool (b.can bar), .bool (b.all bar).isSome] ∧ H = []) := by
  have hC := l8All_c b bar hb
  refine Fn_go Tryz.func20 ?_
  refine W_go ?_
  refine W_rw fun K hK => ?_
  refine RW_x ?_
  repeat (refine And.intro (by omega) ?_)
  refine CKy (μ := [(0, (0, 0)), (1, (1, 0)), (2, (2, 0)), (3, (3, 0)), (4, (4, 0)), (5, (5, 0))]) ⟨⟩ (hC) (fun E hE => ?_)
  try dsimp only at hE ⊢
  refine RW_x ?_
  repeat (refine And.intro (by omega) ?_)
  refine hK _ _ ?_
  have hE : Come bar b E := hE.told
  have hl := hE.len
  have hsm := can_some (bar := bar) (b := b)
  rw [hE.can] at hsm ⊢
  generalize (b.all bar).isSome = z at *
  replace hsm : Hold _ := ⟨hsm⟩
  clear hE hC
  have hcl0 := cellsE_len E
  have hcl : (cellsE E).length ≤ E.length * 11 ∧ E.length * 11 ≤ (cellsE E).length := by omega
  clear hcl0
  refine W_go ?_
  refine W_rk 9 [(2064, (2064, 0))] ?_
  refine W_lp (T := 9) (σ := Nat) (me := fun i => [(8, .int .i64 i)]) (mh := fun _ => []) (inv := fun i => i ≤ E.length ∧ Hold (∀ j, j < i → ∀ e, E[j]? = some e → e.1.1.l = false)) (m := fun i => E.length - i) (s0 := 0) ⟨by omega, ⟨by intro j hj; omega⟩⟩ ?_
  rintro i ⟨hi, hI⟩
  refine W_go ?_
  refine W_if (fun h2 => ?_) (fun h2 => ?_)
  case' refine_2 =>
    rw [show decide (0 ≤ fndL E) = false by rw [(fndL_none (E := E) fun j hj => hI.told j (by omega)).1]; rfl]
    clear hsm
    refine W_go ?_
    refine W_go ?_
    refine W_rt [] [] ?_
    exact ⟨rfl, rfl⟩
  obtain ⟨⟨⟨y, w⟩, v⟩, he⟩ : ∃ e, E[i]? = some e := ⟨E[i], List.getElem?_eq_getElem (by omega)⟩
  have hE9 : List.getD (noN (cellsE E)) (i * 11 + 9) .any = .bool y.l := cellsN_g9 he
  have hb1 : i * 11 + 11 ≤ (cellsE E).length := by omega
  cases c1 : y.l
  case true =>
    rw [c1] at hE9
    have f : decide (0 ≤ fndL E) = true := by rw [(fndL_at he c1 hI.told).1]; exact decide_eq_true (by omega)
    rw [hsm.told f, f]
    clear hI hsm f
    refine W_gh ?_
    refine W_ift ?_
    refine W_go ?_
    refine W_go ?_
    refine W_rt [] [] ?_
    exact ⟨rfl, rfl⟩
  rw [c1] at hE9
  refine W_gh ?_
  refine W_iff ?_
  refine W_go ?_
  refine W_rk 9 [(2064, (2064, 0))] ?_
  refine W_bk (i + 1) ⟨by omega, ⟨fun j hj e' he' => ?_⟩⟩ (by omega)
  by_cases q : j = i
  · subst q; rw [he] at he'; cases he'; exact c1
  · exact hI.told j (by omega) e' he'
theorem sShortLoss_c (b : Bth) (bar : Bool) (hb : (((b.s.h.L.length ≤ 4194304 ∧ b.s.h.R.length ≤ 4194304 ∧ b.s.h.T.length ≤ 4194304) ∧ b.s.F.length ≤ 4194304) ∧ b.g.C.length ≤ 4194304) ∧ b.o.length ≤ 4194304) : Fn Tryz.prog 17 [(0, .c false (.ints b.s.h.L)), (1, .c false (.ints b.s.h.R)), (2, .c false (.ints b.s.h.T)), (3, .c false (.ints b.s.F)), (4, .c false (.ints b.g.C)), (5, .c false (.ops b.o))] [.agg [.sl 0 0 b.s.h.L.length, .sl 1 0 b.s.h.R.length, .sl 2 0 b.s.h.T.length, .sl 3 0 b.s.F.length, .int .i64 b.g.p, .sl 4 0 b.g.C.length, .int .i64 b.g.a, .sl 5 0 b.o.length, .int .i64 b.a, .bool b.l], .bool bar] (fun r H => r = .tup [.str (sloS (b.slo bar)), .bool (b.slo bar).isSome] ∧ H = []) := by
  have hC := l8All_c b bar hb
  refine Fn_go Tryz.func17 ?_
  refine W_go ?_
  refine W_rw fun K hK => ?_
  refine RW_x ?_
  repeat (refine And.intro (by omega) ?_)
  refine CKy (μ := [(0, (0, 0)), (1, (1, 0)), (2, (2, 0)), (3, (3, 0)), (4, (4, 0)), (5, (5, 0))]) ⟨⟩ (hC) (fun E hE => ?_)
  try dsimp only at hE ⊢
  refine RW_x ?_
  repeat (refine And.intro (by omega) ?_)
  refine hK _ _ ?_
  have hE : Come bar b E := hE.told
  have hl := hE.len
  rw [hE.slo]
  clear hE hC
  have hcl0 := cellsE_len E
  have hcl : (cellsE E).length ≤ E.length * 11 ∧ E.length * 11 ≤ (cellsE E).length := by omega
  clear hcl0
  refine W_go ?_
  refine W_rk 9 [(2064, (2064, 0))] ?_
  refine W_lp (T := 9) (σ := Nat) (me := fun i => [(8, .int .i64 i)]) (mh := fun _ => []) (inv := fun i => i ≤ E.length ∧ Hold (∀ j, j < i → ∀ e, E[j]? = some e → e.1.1.l = false)) (m := fun i => E.length - i) (s0 := 0) ⟨by omega, ⟨by intro j hj; omega⟩⟩ ?_
  rintro i ⟨hi, hI⟩
  refine W_go ?_
  refine W_if (fun h2 => ?_) (fun h2 => ?_)
  case' refine_2 =>
    rw [(fndL_none (E := E) fun j hj => hI.told j (by omega)).2]
    refine W_go ?_
    refine W_go ?_
    refine W_rt [] [] ?_
    exact ⟨rfl, rfl⟩
  obtain ⟨⟨⟨y, w⟩, v⟩, he⟩ : ∃ e, E[i]? = some e := ⟨E[i], List.getElem?_eq_getElem (by omega)⟩
  have hE9 : List.getD (noN (cellsE E)) (i * 11 + 9) .any = .bool y.l := cellsN_g9 he
  have hE1 : List.getD (noN (cellsE E)) (i * 11 + 10) .any = .str (sch w) := cellsN_g10 he
  have hb1 : i * 11 + 11 ≤ (cellsE E).length := by omega
  cases c1 : y.l
  case true =>
    rw [c1] at hE9
    have f := (fndL_at he c1 hI.told).2
    rw [f]
    clear f hI
    refine W_gh ?_
    refine W_ift ?_
    refine W_gh ?_
    refine W_rt [] [] ?_
    exact ⟨rfl, rfl⟩
  rw [c1] at hE9
  refine W_gh ?_
  refine W_iff ?_
  refine W_go ?_
  refine W_rk 9 [(2064, (2064, 0))] ?_
  refine W_bk (i + 1) ⟨by omega, ⟨fun j hj e' he' => ?_⟩⟩ (by omega)
  by_cases q : j = i
  · subst q; rw [he] at he'; cases he'; exact c1
  · exact hI.told j (by omega) e' he'
end Go.Proofs.YtbobhbhgomkgpaaGreatDoor.S
