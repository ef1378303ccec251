/- Contracts: one operation of a program beside the collector. Own work of this claim. -/
import Derived.Test.YtbobhbhgomkgpaaGreatDoorB8
namespace Go.Proofs.YtbobhbhgomkgpaaGreatDoor.S
set_option linter.all false
open Go Go.Proofs
set_option maxHeartbeats 4000000
set_option maxRecDepth 100000

theorem opOk_rt {b : Bth} (h : b.opOk) (k : b.cur.1 = 1) : 0 ≤ (b.o.getD b.a.toNat (0, 0, 0)).2.1 ∧ (b.o.getD b.a.toNat (0, 0, 0)).2.1 < b.opS.h.T.length := by
  have := h.run.2
  have e := h.S.2.2
  unfold opOk at this
  obtain ⟨⟨_, a1, a2, a3, b1, b2⟩, hb⟩ := this
  rw [e]
  exact ⟨a1, a3⟩
theorem iopR_c (b : Bth) (h : b.opOk) (hl : (((b.s.h.L.length ≤ 4194304 ∧ b.s.h.R.length ≤ 4194304 ∧ b.s.h.T.length ≤ 4194304) ∧ b.s.F.length ≤ 4194304) ∧ b.g.C.length ≤ 4194304) ∧ b.o.length ≤ 4194304) : Fn Tryz.prog 69 [(0, .c false (.ints b.s.h.L)), (1, .c false (.ints b.s.h.R)), (2, .c false (.ints b.s.h.T)), (3, .c false (.ints b.s.F))] [.agg [.sl 0 0 b.s.h.L.length, .sl 1 0 b.s.h.R.length, .sl 2 0 b.s.h.T.length, .sl 3 0 b.s.F.length], .agg [.int .i64 (b.o.getD b.a.toNat (0, 0, 0)).1, .int .i64 (b.o.getD b.a.toNat (0, 0, 0)).2.1, .int .i64 (b.o.getD b.a.toNat (0, 0, 0)).2.2]] (fun r H => r = .tup [.agg [.sl 100 0 b.opS.h.L.length, .sl 101 0 b.opS.h.R.length, .sl 102 0 b.opS.h.T.length, .sl 103 0 b.opS.F.length], .int .i64 b.opE, .bool true] ∧ H = [(100, .c true (.ints b.opS.h.L)), (101, .c true (.ints b.opS.h.R)), (102, .c true (.ints b.opS.h.T)), (103, .c true (.ints b.opS.F))]) := by
  have := iRunOp_c b.s b.cur.1 b.cur.2.1 b.cur.2.2 hl.1.1
  rw [decide_eq_true h.run] at this
  exact this
theorem iopT_c (b : Bth) (hl : (((b.s.h.L.length ≤ 4194304 ∧ b.s.h.R.length ≤ 4194304 ∧ b.s.h.T.length ≤ 4194304) ∧ b.s.F.length ≤ 4194304) ∧ b.g.C.length ≤ 4194304) ∧ b.o.length ≤ 4194304) : Fn Tryz.prog 68 [(0, .c false (.ints b.s.h.L)), (1, .c false (.ints b.s.h.R)), (2, .c false (.ints b.s.h.T)), (3, .c false (.ints b.s.F))] [.agg [.sl 0 0 b.s.h.L.length, .sl 1 0 b.s.h.R.length, .sl 2 0 b.s.h.T.length, .sl 3 0 b.s.F.length], .agg [.int .i64 (b.o.getD b.a.toNat (0, 0, 0)).1, .int .i64 (b.o.getD b.a.toNat (0, 0, 0)).2.1, .int .i64 (b.o.getD b.a.toNat (0, 0, 0)).2.2]] (fun r H => r = .int .i64 b.opT ∧ H = []) :=
  iTargetOf_c b.s b.cur.1 b.cur.2.1 b.cur.2.2 hl.1.1
theorem iopN_c (b : Bth) (h : b.opOk) (q : b.opE = 0) (k : b.cur.1 = 1) (hl : (((b.s.h.L.length ≤ 4194304 ∧ b.s.h.R.length ≤ 4194304 ∧ b.s.h.T.length ≤ 4194304) ∧ b.s.F.length ≤ 4194304) ∧ b.g.C.length ≤ 4194304) ∧ b.o.length ≤ 4194304) : Fn Tryz.prog 70 [(0, .c false (.ints b.opS.h.L)), (1, .c false (.ints b.opS.h.R)), (2, .c false (.ints b.opS.h.T)), (3, .c false (.ints b.opS.F)), (4, .c false (.ints b.g.C))] [.agg [.sl 0 0 b.opS.h.L.length, .sl 1 0 b.opS.h.R.length, .sl 2 0 b.opS.h.T.length, .sl 3 0 b.opS.F.length], .agg [.int .i64 b.g.p, .sl 4 0 b.g.C.length, .int .i64 b.g.a], .int .i64 (b.opS.h.T.getD (b.o.getD b.a.toNat (0, 0, 0)).2.1.toNat 0)] (fun r H => r = .tup [.agg [.int .i64 b.nw.p, .sl 100 0 b.nw.C.length, .int .i64 b.nw.a], .bool true] ∧ H = [(100, .c true (.ints b.nw.C))]) := by
  have hs := (h.step true).small
  have := iColorNew_c b.opS b.g (b.opS.h.T.getD b.cur.2.1.toNat 0) (by have e := hs.1.1; dsimp only [Bth.op] at e; omega) hl.1.2
  rw [decide_eq_true (h.nwOk q k)] at this
  rw [Bth.nw, if_pos k]
  exact this
theorem iopSh_c (b : Bth) (h : b.opOk) (q : b.opE = 0) (t : b.opT ≠ -1) (hl : (((b.s.h.L.length ≤ 4194304 ∧ b.s.h.R.length ≤ 4194304 ∧ b.s.h.T.length ≤ 4194304) ∧ b.s.F.length ≤ 4194304) ∧ b.g.C.length ≤ 4194304) ∧ b.o.length ≤ 4194304) : Fn Tryz.prog 71 [(0, .c false (.ints b.opS.h.L)), (1, .c false (.ints b.opS.h.R)), (2, .c false (.ints b.opS.h.T)), (3, .c false (.ints b.opS.F)), (4, .c false (.ints b.nw.C))] [.agg [.sl 0 0 b.opS.h.L.length, .sl 1 0 b.opS.h.R.length, .sl 2 0 b.opS.h.T.length, .sl 3 0 b.opS.F.length], .agg [.int .i64 b.nw.p, .sl 4 0 b.nw.C.length, .int .i64 b.nw.a], .int .i64 b.opT] (fun r H => r = .tup [.agg [.int .i64 (b.col true).p, .sl 100 0 (b.col true).C.length, .int .i64 (b.col true).a], .bool true] ∧ H = [(100, .c true (.ints (b.col true).C))]) := by
  have hs := (h.step true).small
  have := iShadeGc_c b.opS b.nw b.opT (by have e := hs.1.1; dsimp only [Bth.op] at e; omega) (by rw [(h.nw q).2.2.2]; exact hl.1.2)
  rw [decide_eq_true (h.shOk q t)] at this
  rw [Bth.col, if_pos ⟨rfl, t⟩]
  exact this
theorem sopR_c (b : Bth) (h : b.opOk) (hl : (((b.s.h.L.length ≤ 4194304 ∧ b.s.h.R.length ≤ 4194304 ∧ b.s.h.T.length ≤ 4194304) ∧ b.s.F.length ≤ 4194304) ∧ b.g.C.length ≤ 4194304) ∧ b.o.length ≤ 4194304) : Fn Tryz.prog 112 [(0, .c false (.ints b.s.h.L)), (1, .c false (.ints b.s.h.R)), (2, .c false (.ints b.s.h.T)), (3, .c false (.ints b.s.F))] [.agg [.sl 0 0 b.s.h.L.length, .sl 1 0 b.s.h.R.length, .sl 2 0 b.s.h.T.length, .sl 3 0 b.s.F.length], .agg [.int .i64 (b.o.getD b.a.toNat (0, 0, 0)).1, .int .i64 (b.o.getD b.a.toNat (0, 0, 0)).2.1, .int .i64 (b.o.getD b.a.toNat (0, 0, 0)).2.2]] (fun r H => r = .tup [.agg [.sl 100 0 b.opS.h.L.length, .sl 101 0 b.opS.h.R.length, .sl 102 0 b.opS.h.T.length, .sl 103 0 b.opS.F.length], .int .i64 b.opE, .bool true] ∧ H = [(100, .c true (.ints b.opS.h.L)), (101, .c true (.ints b.opS.h.R)), (102, .c true (.ints b.opS.h.T)), (103, .c true (.ints b.opS.F))]) := by
  have := sRunOp_c b.s b.cur.1 b.cur.2.1 b.cur.2.2 hl.1.1
  rw [decide_eq_true h.run] at this
  exact this
theorem sopT_c (b : Bth) (hl : (((b.s.h.L.length ≤ 4194304 ∧ b.s.h.R.length ≤ 4194304 ∧ b.s.h.T.length ≤ 4194304) ∧ b.s.F.length ≤ 4194304) ∧ b.g.C.length ≤ 4194304) ∧ b.o.length ≤ 4194304) : Fn Tryz.prog 119 [(0, .c false (.ints b.s.h.L)), (1, .c false (.ints b.s.h.R)), (2, .c false (.ints b.s.h.T)), (3, .c false (.ints b.s.F))] [.agg [.sl 0 0 b.s.h.L.length, .sl 1 0 b.s.h.R.length, .sl 2 0 b.s.h.T.length, .sl 3 0 b.s.F.length], .agg [.int .i64 (b.o.getD b.a.toNat (0, 0, 0)).1, .int .i64 (b.o.getD b.a.toNat (0, 0, 0)).2.1, .int .i64 (b.o.getD b.a.toNat (0, 0, 0)).2.2]] (fun r H => r = .int .i64 b.opT ∧ H = []) :=
  sTargetOf_c b.s b.cur.1 b.cur.2.1 b.cur.2.2 hl.1.1
theorem sopN_c (b : Bth) (h : b.opOk) (q : b.opE = 0) (k : b.cur.1 = 1) (hl : (((b.s.h.L.length ≤ 4194304 ∧ b.s.h.R.length ≤ 4194304 ∧ b.s.h.T.length ≤ 4194304) ∧ b.s.F.length ≤ 4194304) ∧ b.g.C.length ≤ 4194304) ∧ b.o.length ≤ 4194304) : Fn Tryz.prog 120 [(0, .c false (.ints b.opS.h.L)), (1, .c false (.ints b.opS.h.R)), (2, .c false (.ints b.opS.h.T)), (3, .c false (.ints b.opS.F)), (4, .c false (.ints b.g.C))] [.agg [.sl 0 0 b.opS.h.L.length, .sl 1 0 b.opS.h.R.length, .sl 2 0 b.opS.h.T.length, .sl 3 0 b.opS.F.length], .agg [.int .i64 b.g.p, .sl 4 0 b.g.C.length, .int .i64 b.g.a], .int .i64 (b.opS.h.T.getD (b.o.getD b.a.toNat (0, 0, 0)).2.1.toNat 0)] (fun r H => r = .tup [.agg [.int .i64 b.nw.p, .sl 100 0 b.nw.C.length, .int .i64 b.nw.a], .bool true] ∧ H = [(100, .c true (.ints b.nw.C))]) := by
  have hs := (h.step true).small
  have := sColorNew_c b.opS b.g (b.opS.h.T.getD b.cur.2.1.toNat 0) (by have e := hs.1.1; dsimp only [Bth.op] at e; omega) hl.1.2
  rw [decide_eq_true (h.nwOk q k)] at this
  rw [Bth.nw, if_pos k]
  exact this
theorem sopSh_c (b : Bth) (h : b.opOk) (q : b.opE = 0) (t : b.opT ≠ -1) (hl : (((b.s.h.L.length ≤ 4194304 ∧ b.s.h.R.length ≤ 4194304 ∧ b.s.h.T.length ≤ 4194304) ∧ b.s.F.length ≤ 4194304) ∧ b.g.C.length ≤ 4194304) ∧ b.o.length ≤ 4194304) : Fn Tryz.prog 121 [(0, .c false (.ints b.opS.h.L)), (1, .c false (.ints b.opS.h.R)), (2, .c false (.ints b.opS.h.T)), (3, .c false (.ints b.opS.F)), (4, .c false (.ints b.nw.C))] [.agg [.sl 0 0 b.opS.h.L.length, .sl 1 0 b.opS.h.R.length, .sl 2 0 b.opS.h.T.length, .sl 3 0 b.opS.F.length], .agg [.int .i64 b.nw.p, .sl 4 0 b.nw.C.length, .int .i64 b.nw.a], .int .i64 b.opT] (fun r H => r = .tup [.agg [.int .i64 (b.col true).p, .sl 100 0 (b.col true).C.length, .int .i64 (b.col true).a], .bool true] ∧ H = [(100, .c true (.ints (b.col true).C))]) := by
  have hs := (h.step true).small
  have := sShadeGc_c b.opS b.nw b.opT (by have e := hs.1.1; dsimp only [Bth.op] at e; omega) (by rw [(h.nw q).2.2.2]; exact hl.1.2)
  rw [decide_eq_true (h.shOk q t)] at this
  rw [Bth.col, if_pos ⟨rfl, t⟩]
  exact this
theorem istep_c (b : Bth) (bar : Bool) (hl : (((b.s.h.L.length ≤ 4194304 ∧ b.s.h.R.length ≤ 4194304 ∧ b.s.h.T.length ≤ 4194304) ∧ b.s.F.length ≤ 4194304) ∧ b.g.C.length ≤ 4194304) ∧ b.o.length ≤ 4194304) : Fn Tryz.prog 33 [(0, .c false (.ints b.s.h.L)), (1, .c false (.ints b.s.h.R)), (2, .c false (.ints b.s.h.T)), (3, .c false (.ints b.s.F)), (4, .c false (.ints b.g.C)), (5, .c false (.ops b.o))] [.agg [.sl 0 0 b.s.h.L.length, .sl 1 0 b.s.h.R.length, .sl 2 0 b.s.h.T.length, .sl 3 0 b.s.F.length, .int .i64 b.g.p, .sl 4 0 b.g.C.length, .int .i64 b.g.a, .sl 5 0 b.o.length, .int .i64 b.a, .bool b.l], .bool bar]
    (fun r H => r = .tup [.agg [.sl 100 0 (b.sop bar).s.h.L.length, .sl 101 0 (b.sop bar).s.h.R.length, .sl 102 0 (b.sop bar).s.h.T.length, .sl 103 0 (b.sop bar).s.F.length, .int .i64 (b.sop bar).g.p, .sl 104 0 (b.sop bar).g.C.length, .int .i64 (b.sop bar).g.a, .sl 105 0 (b.sop bar).o.length, .int .i64 (b.sop bar).a, .bool (b.sop bar).l], .int .i64 (if b.opOk then b.opE else 0), .bool (decide b.opOk)] ∧ H = [(100, .c true (.ints (b.sop bar).s.h.L)), (101, .c true (.ints (b.sop bar).s.h.R)), (102, .c true (.ints (b.sop bar).s.h.T)), (103, .c true (.ints (b.sop bar).s.F)), (104, .c true (.ints (b.sop bar).g.C)), (105, .c true (.ops (b.sop bar).o))]) := by
  have hv := iBothValid_c b hl
  have hN := ianew_c b hl
  have no : ¬ b.opOk → b.sop bar = .zero ∧ (if b.opOk then b.opE else 0) = 0 ∧ decide b.opOk = false := fun q => ⟨by rw [Bth.sop, if_neg q], if_neg q, decide_eq_false q⟩
  replace no : Hold _ := ⟨no⟩
  by_cases g1 : b.ok
  case neg =>
    rw [decide_eq_false g1] at hv
    obtain ⟨e1, e2, e3⟩ := no.told (fun q => g1 q.1)
    rw [e1, e2, e3]
    clear e1 e2 e3 no g1 hN
    refine Fn_go Tryz.func33 ?_
    refine W_go ?_
    refine W_ch1 [(0, (0, 0)), (1, (1, 0)), (2, (2, 0)), (3, (3, 0)), (4, (4, 0)), (5, (5, 0))] hv ?_
    refine W_ift ?_
    refine W_go ?_
    refine W_rt [] [(100, .ints []), (101, .ints []), (102, .ints []), (103, .ints []), (104, .ints []), (105, .ops [])] ?_
    exact ⟨rfl, rfl⟩
  rw [decide_eq_true g1] at hv
  cases gl : b.l
  case true =>
    obtain ⟨e1, e2, e3⟩ := no.told (fun q => by have := q.2.1; rw [gl] at this; cases this)
    rw [gl] at hv
    rw [e1, e2, e3]
    clear e1 e2 e3 no g1 hN
    refine Fn_go Tryz.func33 ?_
    refine W_go ?_
    refine W_ch1 [(0, (0, 0)), (1, (1, 0)), (2, (2, 0)), (3, (3, 0)), (4, (4, 0)), (5, (5, 0))] hv ?_
    refine W_ift ?_
    refine W_go ?_
    refine W_rt [] [(100, .ints []), (101, .ints []), (102, .ints []), (103, .ints []), (104, .ints []), (105, .ops [])] ?_
    exact ⟨rfl, rfl⟩
  by_cases g3 : b.a = b.o.length
  · obtain ⟨e1, e2, e3⟩ := no.told (fun q => q.2.2 g3)
    rw [gl] at hv
    rw [e1, e2, e3]
    replace g3 := eq_true g3
    clear e1 e2 e3 no g1 hN
    refine Fn_go Tryz.func33 ?_
    refine W_go ?_
    refine W_ch1 [(0, (0, 0)), (1, (1, 0)), (2, (2, 0)), (3, (3, 0)), (4, (4, 0)), (5, (5, 0))] hv ?_
    refine W_ift ?_
    refine W_go ?_
    refine W_rt [] [(100, .ints []), (101, .ints []), (102, .ints []), (103, .ints []), (104, .ints []), (105, .ops [])] ?_
    exact ⟨rfl, rfl⟩
  clear no
  have gr : b.opOk := ⟨g1, gl, g3⟩
  have h0 : 0 ≤ b.a := g1.2.2.1
  have h1 : b.a < b.o.length := by have := g1.2.2.2; omega
  have hT := iopT_c b hl
  have hR := iopR_c b gr hl
  have hC := fun q k => iopN_c b gr q k hl
  have hS := fun q t => iopSh_c b gr q t hl
  have rt := fun k => opOk_rt gr k
  have k1 : b.cur.1 = (b.o.getD b.a.toNat (0, 0, 0)).1 := rfl
  rw [k1] at hC rt
  have en : b.cur.1 ≠ 1 → b.nw = b.g := fun k => by rw [Bth.nw, if_neg k]
  rw [k1] at en
  have ec : ¬ (bar = true ∧ b.opT ≠ -1) → b.col bar = b.nw := fun k => by rw [Bth.col, if_neg k]
  have eo : b.sop bar = ⟨b.opS, b.opG bar, b.o, b.a + 1, false⟩ := by rw [Bth.sop, if_pos gr, Bth.op, gl]
  rw [eo, if_pos gr, decide_eq_true gr]
  have eG1 : b.opE ≠ 0 → b.opG bar = b.g := fun q => by rw [Bth.opG, if_neg q]
  have eG2 : b.opE = 0 → b.opG bar = b.col bar := fun q => by rw [Bth.opG, if_pos q]
  rw [gl] at hv hN
  clear eo k1 gr g1
  generalize b.opS = w at *
  generalize b.opE = e at *
  generalize b.opT = t at *
  generalize b.opG bar = gg at *
  have ht : t ≠ -1 ∨ t = -1 := by omega
  replace rt : Hold _ := ⟨rt⟩
  replace en : Hold _ := ⟨en⟩
  replace ec : Hold _ := ⟨ec⟩
  replace eG1 : Hold _ := ⟨eG1⟩
  replace eG2 : Hold _ := ⟨eG2⟩
  dsimp only
  refine Fn_go Tryz.func33 ?_
  refine W_go ?_
  refine W_ch1 [(0, (0, 0)), (1, (1, 0)), (2, (2, 0)), (3, (3, 0)), (4, (4, 0)), (5, (5, 0))] hv ?_
  clear hv
  refine W_iff ?_
  refine W_go ?_
  refine W_c1 [(0, (0, 0)), (1, (1, 0)), (2, (2, 0)), (3, (3, 0)), (4, (4, 0)), (5, (5, 0))] hN ?_
  clear hN
  refine W_go ?_
  refine W_c1 [(0, (4104, 0)), (1, (4105, 0)), (2, (4106, 0)), (3, (4107, 0))] hT ?_
  clear hT
  refine W_go ?_
  refine W_c1 [(0, (4104, 0)), (1, (4105, 0)), (2, (4106, 0)), (3, (4107, 0))] hR ?_
  clear hR
  refine W_go ?_
  refine W_if (fun c1 => ?_) (fun c1 => ?_)
  · rw [eG1.told c1]
    clear hC hS rt en ec eG1 eG2
    refine W_go ?_
    refine W_rt [(7192, (100, 0)), (7193, (101, 0)), (7194, (102, 0)), (7195, (103, 0)), (4108, (104, 0)), (4109, (105, 0))] [] ?_
    exact ⟨rfl, rfl⟩
  have c1 : e = 0 := by omega
  rw [eG2.told c1]
  replace hC := hC c1
  replace hS := hS c1
  clear eG1 eG2
  subst c1
  refine W_go ?_
  refine W_if (fun c2 => ?_) (fun c2 => ?_)
  · have hC := hC c2
    have rt := rt.told c2
    refine W_go ?_
    refine W_dc1 [(0, (7192, 0)), (1, (7193, 0)), (2, (7194, 0)), (3, (7195, 0)), (4, (4108, 0))] hC [.c _ _ _] ?_
    clear hC
    refine W_go ?_
    cases bar
    · rw [ec.told (by simp)]
      clear hS ec
      refine W_gh ?_
      refine W_iff ?_
      refine W_go ?_
      refine W_rt [(7192, (100, 0)), (7193, (101, 0)), (7194, (102, 0)), (7195, (103, 0)), (13408, (104, 0)), (4109, (105, 0))] [] ?_
      exact ⟨rfl, rfl⟩
    · rcases ht with c3 | c3
      · have hS := hS c3
        refine W_gh ?_
        refine W_ift ?_
        refine W_go ?_
        refine W_c1 [(0, (7192, 0)), (1, (7193, 0)), (2, (7194, 0)), (3, (7195, 0)), (4, (13408, 0))] hS ?_
        refine W_go ?_
        refine W_rt [(7192, (100, 0)), (7193, (101, 0)), (7194, (102, 0)), (7195, (103, 0)), (15400, (104, 0)), (4109, (105, 0))] [] ?_
        exact ⟨rfl, rfl⟩
      · rw [ec.told (by simp [c3])]
        clear hS ec
        refine W_gh ?_
        refine W_iff ?_
        refine W_go ?_
        refine W_rt [(7192, (100, 0)), (7193, (101, 0)), (7194, (102, 0)), (7195, (103, 0)), (13408, (104, 0)), (4109, (105, 0))] [] ?_
        exact ⟨rfl, rfl⟩
  · rw [en.told c2] at hS ec
    clear hC rt en
    refine W_go ?_
    cases bar
    · rw [ec.told (by simp)]
      clear hS ec
      refine W_gh ?_
      refine W_iff ?_
      refine W_go ?_
      refine W_rt [(7192, (100, 0)), (7193, (101, 0)), (7194, (102, 0)), (7195, (103, 0)), (4108, (104, 0)), (4109, (105, 0))] [] ?_
      exact ⟨rfl, rfl⟩
    · rcases ht with c3 | c3
      · have hS := hS c3
        refine W_gh ?_
        refine W_ift ?_
        refine W_go ?_
        refine W_c1 [(0, (7192, 0)), (1, (7193, 0)), (2, (7194, 0)), (3, (7195, 0)), (4, (4108, 0))] hS ?_
        refine W_go ?_
        refine W_rt [(7192, (100, 0)), (7193, (101, 0)), (7194, (102, 0)), (7195, (103, 0)), (15400, (104, 0)), (4109, (105, 0))] [] ?_
        exact ⟨rfl, rfl⟩
      · rw [ec.told (by simp [c3])]
        clear hS ec
        refine W_gh ?_
        refine W_iff ?_
        refine W_go ?_
        refine W_rt [(7192, (100, 0)), (7193, (101, 0)), (7194, (102, 0)), (7195, (103, 0)), (4108, (104, 0)), (4109, (105, 0))] [] ?_
        exact ⟨rfl, rfl⟩
theorem iStepOp_c (b : Bth) (bar : Bool) (hl : (((b.s.h.L.length ≤ 4194304 ∧ b.s.h.R.length ≤ 4194304 ∧ b.s.h.T.length ≤ 4194304) ∧ b.s.F.length ≤ 4194304) ∧ b.g.C.length ≤ 4194304) ∧ b.o.length ≤ 4194304) : Fn Tryz.prog 14 [(0, .c false (.ints b.s.h.L)), (1, .c false (.ints b.s.h.R)), (2, .c false (.ints b.s.h.T)), (3, .c false (.ints b.s.F)), (4, .c false (.ints b.g.C)), (5, .c false (.ops b.o))] [.agg [.sl 0 0 b.s.h.L.length, .sl 1 0 b.s.h.R.length, .sl 2 0 b.s.h.T.length, .sl 3 0 b.s.F.length, .int .i64 b.g.p, .sl 4 0 b.g.C.length, .int .i64 b.g.a, .sl 5 0 b.o.length, .int .i64 b.a, .bool b.l], .bool bar]
    (fun r H => r = .tup [.agg [.sl 100 0 (b.sop bar).s.h.L.length, .sl 101 0 (b.sop bar).s.h.R.length, .sl 102 0 (b.sop bar).s.h.T.length, .sl 103 0 (b.sop bar).s.F.length, .int .i64 (b.sop bar).g.p, .sl 104 0 (b.sop bar).g.C.length, .int .i64 (b.sop bar).g.a, .sl 105 0 (b.sop bar).o.length, .int .i64 (b.sop bar).a, .bool (b.sop bar).l], .bool (decide b.opOk)] ∧ H = [(100, .c true (.ints (b.sop bar).s.h.L)), (101, .c true (.ints (b.sop bar).s.h.R)), (102, .c true (.ints (b.sop bar).s.h.T)), (103, .c true (.ints (b.sop bar).s.F)), (104, .c true (.ints (b.sop bar).g.C)), (105, .c true (.ops (b.sop bar).o))]) := by
  have hs := istep_c b bar hl
  generalize b.sop bar = w at *
  generalize decide b.opOk = d at *
  generalize (if b.opOk then b.opE else 0) = e at *
  refine Fn_go Tryz.func14 ?_
  refine W_go ?_
  refine W_c1 [(0, (0, 0)), (1, (1, 0)), (2, (2, 0)), (3, (3, 0)), (4, (4, 0)), (5, (5, 0))] hs ?_
  refine W_go ?_
  refine W_rt [(2064, (100, 0)), (2065, (101, 0)), (2066, (102, 0)), (2067, (103, 0)), (2068, (104, 0)), (2069, (105, 0))] [] ?_
  exact ⟨rfl, rfl⟩
theorem sl7Op_c (b : Bth) (bar : Bool) (gr : b.opOk) (hl : (((b.s.h.L.length ≤ 4194304 ∧ b.s.h.R.length ≤ 4194304 ∧ b.s.h.T.length ≤ 4194304) ∧ b.s.F.length ≤ 4194304) ∧ b.g.C.length ≤ 4194304) ∧ b.o.length ≤ 4194304) : Fn Tryz.prog 96 [(0, .c false (.ints b.s.h.L)), (1, .c false (.ints b.s.h.R)), (2, .c false (.ints b.s.h.T)), (3, .c false (.ints b.s.F)), (4, .c false (.ints b.g.C)), (5, .c false (.ops b.o))] [.agg [.sl 0 0 b.s.h.L.length, .sl 1 0 b.s.h.R.length, .sl 2 0 b.s.h.T.length, .sl 3 0 b.s.F.length, .int .i64 b.g.p, .sl 4 0 b.g.C.length, .int .i64 b.g.a, .sl 5 0 b.o.length, .int .i64 b.a, .bool b.l], .bool bar]
    (fun r H => r = .agg [.sl 100 0 (b.op bar).s.h.L.length, .sl 101 0 (b.op bar).s.h.R.length, .sl 102 0 (b.op bar).s.h.T.length, .sl 103 0 (b.op bar).s.F.length, .int .i64 (b.op bar).g.p, .sl 104 0 (b.op bar).g.C.length, .int .i64 (b.op bar).g.a, .sl 105 0 (b.op bar).o.length, .int .i64 (b.op bar).a, .bool (b.op bar).l] ∧ H = [(100, .c true (.ints (b.op bar).s.h.L)), (101, .c true (.ints (b.op bar).s.h.R)), (102, .c true (.ints (b.op bar).s.h.T)), (103, .c true (.ints (b.op bar).s.F)), (104, .c true (.ints (b.op bar).g.C)), (105, .c true (.ops (b.op bar).o))]) := by
  have hN := sl7Copy_c b hl
  have gl := gr.2.1
  have h0 : 0 ≤ b.a := gr.1.2.2.1
  have h1 : b.a < b.o.length := by have := gr.1.2.2.2; have := gr.2.2; omega
  have hT := sopT_c b hl
  have hR := sopR_c b gr hl
  have hC := fun q k => sopN_c b gr q k hl
  have hS := fun q t => sopSh_c b gr q t hl
  have rt := fun k => opOk_rt gr k
  have k1 : b.cur.1 = (b.o.getD b.a.toNat (0, 0, 0)).1 := rfl
  rw [k1] at hC rt
  have en : b.cur.1 ≠ 1 → b.nw = b.g := fun k => by rw [Bth.nw, if_neg k]
  rw [k1] at en
  have ec : ¬ (bar = true ∧ b.opT ≠ -1) → b.col bar = b.nw := fun k => by rw [Bth.col, if_neg k]
  have eo : b.op bar = ⟨b.opS, b.opG bar, b.o, b.a + 1, false⟩ := by rw [Bth.op, gl]
  rw [eo]
  have eG1 : b.opE ≠ 0 → b.opG bar = b.g := fun q => by rw [Bth.opG, if_neg q]
  have eG2 : b.opE = 0 → b.opG bar = b.col bar := fun q => by rw [Bth.opG, if_pos q]
  have eS : b.opE ≠ 0 → b.opS = b.s := fun q => run_end gr.run q
  rw [gl] at hN ⊢
  clear eo k1 gr
  generalize b.opS = w at *
  generalize b.opE = e at *
  generalize b.opT = t at *
  generalize b.opG bar = gg at *
  have ht : t ≠ -1 ∨ t = -1 := by omega
  replace rt : Hold _ := ⟨rt⟩
  replace en : Hold _ := ⟨en⟩
  replace ec : Hold _ := ⟨ec⟩
  replace eG1 : Hold _ := ⟨eG1⟩
  replace eG2 : Hold _ := ⟨eG2⟩
  replace eS : Hold _ := ⟨eS⟩
  dsimp only
  refine Fn_go Tryz.func96 ?_
  refine W_go ?_
  refine W_c1 [(0, (0, 0)), (1, (1, 0)), (2, (2, 0)), (3, (3, 0)), (4, (4, 0)), (5, (5, 0))] hN ?_
  clear hN
  refine W_go ?_
  refine W_c1 [(0, (0, 0)), (1, (1, 0)), (2, (2, 0)), (3, (3, 0))] hT ?_
  clear hT
  refine W_go ?_
  refine W_c1 [(0, (0, 0)), (1, (1, 0)), (2, (2, 0)), (3, (3, 0))] hR ?_
  clear hR
  refine W_go ?_
  refine W_if (fun c1 => ?_) (fun c1 => ?_)
  · rw [eG1.told c1, eS.told c1]
    clear hC hS rt en ec eG1 eG2 eS
    refine W_go ?_
    refine W_rt [(2056, (100, 0)), (2057, (101, 0)), (2058, (102, 0)), (2059, (103, 0)), (2060, (104, 0)), (2061, (105, 0))] [] ?_
    exact ⟨rfl, rfl⟩
  have c1 : e = 0 := by omega
  rw [eG2.told c1]
  replace hC := hC c1
  replace hS := hS c1
  clear eG1 eG2 eS
  subst c1
  refine W_go ?_
  refine W_if (fun c2 => ?_) (fun c2 => ?_)
  · replace hC := hC c2
    replace rt := rt.told c2
    refine W_go ?_
    refine W_dc1 [(0, (6168, 0)), (1, (6169, 0)), (2, (6170, 0)), (3, (6171, 0)), (4, (2060, 0))] hC [.c _ _ _] ?_
    clear hC
    refine W_go ?_
    cases bar
    · rw [ec.told (by simp)]
      clear hS ec
      refine W_gh ?_
      refine W_iff ?_
      refine W_go ?_
      refine W_rt [(6168, (100, 0)), (6169, (101, 0)), (6170, (102, 0)), (6171, (103, 0)), (11344, (104, 0)), (2061, (105, 0))] [] ?_
      exact ⟨rfl, rfl⟩
    · rcases ht with c3 | c3
      · replace hS := hS c3
        refine W_gh ?_
        refine W_ift ?_
        refine W_go ?_
        refine W_c1 [(0, (6168, 0)), (1, (6169, 0)), (2, (6170, 0)), (3, (6171, 0)), (4, (11344, 0))] hS ?_
        refine W_go ?_
        refine W_rt [(6168, (100, 0)), (6169, (101, 0)), (6170, (102, 0)), (6171, (103, 0)), (14368, (104, 0)), (2061, (105, 0))] [] ?_
        exact ⟨rfl, rfl⟩
      · rw [ec.told (by simp [c3])]
        clear hS ec
        refine W_gh ?_
        refine W_iff ?_
        refine W_go ?_
        refine W_rt [(6168, (100, 0)), (6169, (101, 0)), (6170, (102, 0)), (6171, (103, 0)), (11344, (104, 0)), (2061, (105, 0))] [] ?_
        exact ⟨rfl, rfl⟩
  · rw [en.told c2] at hS ec
    clear hC rt en
    refine W_go ?_
    cases bar
    · rw [ec.told (by simp)]
      clear hS ec
      refine W_gh ?_
      refine W_iff ?_
      refine W_go ?_
      refine W_rt [(6168, (100, 0)), (6169, (101, 0)), (6170, (102, 0)), (6171, (103, 0)), (2060, (104, 0)), (2061, (105, 0))] [] ?_
      exact ⟨rfl, rfl⟩
    · rcases ht with c3 | c3
      · replace hS := hS c3
        refine W_gh ?_
        refine W_ift ?_
        refine W_go ?_
        refine W_c1 [(0, (6168, 0)), (1, (6169, 0)), (2, (6170, 0)), (3, (6171, 0)), (4, (2060, 0))] hS ?_
        refine W_go ?_
        refine W_rt [(6168, (100, 0)), (6169, (101, 0)), (6170, (102, 0)), (6171, (103, 0)), (14368, (104, 0)), (2061, (105, 0))] [] ?_
        exact ⟨rfl, rfl⟩
      · rw [ec.told (by simp [c3])]
        clear hS ec
        refine W_gh ?_
        refine W_iff ?_
        refine W_go ?_
        refine W_rt [(6168, (100, 0)), (6169, (101, 0)), (6170, (102, 0)), (6171, (103, 0)), (2060, (104, 0)), (2061, (105, 0))] [] ?_
        exact ⟨rfl, rfl⟩
end Go.Proofs.YtbobhbhgomkgpaaGreatDoor.S
