/- Contracts: one step of the collector beside a program. Own work of this claim. -/
import Derived.Test.YtbobhbhgomkgpaaGreatDoorGw
import Derived.Test.YtbobhbhgomkgpaaGreatDoorB7
namespace Go.Proofs.YtbobhbhgomkgpaaGreatDoor.S
set_option linter.all false
open Go Go.Proofs
set_option maxHeartbeats 4000000
set_option maxRecDepth 100000

noncomputable def Sto.live (s : Sto) (x : Int) : Bool := if x = -1 then false else s.h.reach.getD x.toNat false
theorem sw_in {s : Sto} {g : Gcc} (h : g.ok s) (q : g.sw s ≠ -1) : 0 ≤ g.sw s ∧ g.sw s < s.h.L.length := by
  obtain ⟨p3, ea, _, _⟩ := sw_at q
  have ha := h.2.2
  unfold Gcc.atOk at ha
  have := h.2.1.1
  omega
theorem live_iff {s : Sto} {g : Gcc} (h : g.ok s) : s.live (g.sw s) = true ↔ (g.sw s ≠ -1 ∧ Reach s.h (g.sw s).toNat) := by
  unfold Sto.live
  by_cases q : g.sw s = -1
  · rw [if_pos q]
    exact ⟨fun z => absurd z (by simp), fun z => absurd q z.1⟩
  · rw [if_neg q, reach_getD ((Hp.ok_iff _).2 h.1.1) (by have := sw_in h q; omega)]
    exact ⟨fun z => ⟨q, z⟩, fun z => z.2⟩
theorem gcs_y {b : Bth} (h : b.g.ok b.s) (q : b.s.live (b.g.sw b.s) = true) : b.gcs = ⟨b.s, b.g, b.o, b.a, true⟩ := by rw [Bth.gcs, if_pos ((live_iff h).1 q)]
theorem gcs_n {b : Bth} (h : b.g.ok b.s) (q : b.s.live (b.g.sw b.s) = false) : b.gcs = ⟨b.g.stS b.s, b.g.stG b.s, b.o, b.a, b.l⟩ := by rw [Bth.gcs, if_neg (fun z => by rw [(live_iff h).2 z] at q; cases q)]
theorem live_st {s : Sto} {g : Gcc} (h : g.ok s) (q : s.live (g.sw s) = false) : g.stOk s := sw_root h (fun z => by rw [(live_iff h).2 z] at q; cases q)
theorem sl7Live_c (s : Sto) (x : Int) (hv : s.h.valid = true) (hx : x = -1 ∨ 0 ≤ x ∧ x < s.h.L.length) (hl : (s.h.L.length ≤ 4194304 ∧ s.h.R.length ≤ 4194304 ∧ s.h.T.length ≤ 4194304) ∧ s.F.length ≤ 4194304) : Fn Tryz.prog 122 [(0, .c false (.ints s.h.L)), (1, .c false (.ints s.h.R)), (2, .c false (.ints s.h.T)), (3, .c false (.ints s.F))] [.agg [.sl 0 0 s.h.L.length, .sl 1 0 s.h.R.length, .sl 2 0 s.h.T.length, .sl 3 0 s.F.length], .int .i64 x]
    (fun r H => r = .bool (s.live x) ∧ H = []) := by
  have hR := sReachable_c s.h hl.1
  have hn : s.h.reach.length = s.h.L.length := by rw [reach_len, if_pos hv]
  have e1 : x = -1 → s.live x = false := fun q => by rw [Sto.live, if_pos q]
  have e2 : ¬ x = -1 → s.live x = s.h.reach.getD x.toNat false := fun q => by rw [Sto.live, if_neg q]
  replace e1 : Hold _ := ⟨e1⟩
  replace e2 : Hold _ := ⟨e2⟩
  generalize s.h.reach = B at *
  clear hv
  have hi : x = -1 ∨ 0 ≤ x ∧ x < B.length := by omega
  clear hn hx
  refine Fn_go Tryz.func122 ?_
  refine W_go ?_
  refine W_if (fun q => ?_) (fun q => ?_)
  · rw [e1.told q]
    refine W_go ?_
    refine W_rt [] [] ?_
    exact ⟨rfl, rfl⟩
  · rw [e2.told q]
    have hi2 : 0 ≤ x ∧ x < B.length := by omega
    clear hi
    refine W_go ?_
    refine W_c1 [(0, (0, 0)), (1, (1, 0)), (2, (2, 0))] hR ?_
    refine W_go ?_
    refine W_go ?_
    refine W_rt [] [] ?_
    exact ⟨rfl, rfl⟩
theorem sl7Gc_c (b : Bth) (gr : b.gcOk) (hl : (((b.s.h.L.length ≤ 4194304 ∧ b.s.h.R.length ≤ 4194304 ∧ b.s.h.T.length ≤ 4194304) ∧ b.s.F.length ≤ 4194304) ∧ b.g.C.length ≤ 4194304) ∧ b.o.length ≤ 4194304) : Fn Tryz.prog 97 [(0, .c false (.ints b.s.h.L)), (1, .c false (.ints b.s.h.R)), (2, .c false (.ints b.s.h.T)), (3, .c false (.ints b.s.F)), (4, .c false (.ints b.g.C)), (5, .c false (.ops b.o))] [.agg [.sl 0 0 b.s.h.L.length, .sl 1 0 b.s.h.R.length, .sl 2 0 b.s.h.T.length, .sl 3 0 b.s.F.length, .int .i64 b.g.p, .sl 4 0 b.g.C.length, .int .i64 b.g.a, .sl 5 0 b.o.length, .int .i64 b.a, .bool b.l]]
    (fun r H => r = .agg [.sl 100 0 b.gcs.s.h.L.length, .sl 101 0 b.gcs.s.h.R.length, .sl 102 0 b.gcs.s.h.T.length, .sl 103 0 b.gcs.s.F.length, .int .i64 b.gcs.g.p, .sl 104 0 b.gcs.g.C.length, .int .i64 b.gcs.g.a, .sl 105 0 b.gcs.o.length, .int .i64 b.gcs.a, .bool b.gcs.l] ∧ H = [(100, .c true (.ints b.gcs.s.h.L)), (101, .c true (.ints b.gcs.s.h.R)), (102, .c true (.ints b.gcs.s.h.T)), (103, .c true (.ints b.gcs.s.F)), (104, .c true (.ints b.gcs.g.C)), (105, .c true (.ops b.gcs.o))]) := by
  have g1 := gr.1.1
  have hS := gr.1.small
  have hF : b.s.F.length ≤ 1048576 := by omega
  have hN := sl7Copy_c b hl
  have hW := sl6Swept_c b.s b.g g1.weak hF
  have hL := sl7Live_c b.s (b.g.sw b.s) ((Hp.ok_iff _).2 g1.1.1) ((Decidable.em (b.g.sw b.s = -1)).imp id (fun q => sw_in g1 q)) hl.1.1
  have hT := sl6Step_c b.s b.g g1.weak hF
  have e1 := fun q => gcs_y (b := b) g1 q
  have e2 := fun q => gcs_n (b := b) g1 q
  have gl := gr.2
  cases gv : b.s.live (b.g.sw b.s)
  case true =>
    rw [e1 gv]
    rw [gv] at hL
    rw [gl] at hN ⊢
    clear e1 e2 gr g1 hF gv hT hS
    generalize b.g.sw b.s = x at *
    refine Fn_go Tryz.func97 ?_
    refine W_go ?_
    refine W_c1 [(0, (0, 0)), (1, (1, 0)), (2, (2, 0)), (3, (3, 0)), (4, (4, 0)), (5, (5, 0))] hN ?_
    refine W_go ?_
    refine W_dc2 [(0, (0, 0)), (1, (1, 0)), (2, (2, 0)), (3, (3, 0)), (4, (4, 0))] hW [(0, (0, 0)), (1, (1, 0)), (2, (2, 0)), (3, (3, 0))] hL [.c _ _ _, .c _ _ _] ?_
    refine W_ift ?_
    refine W_go ?_
    refine W_rt [(2056, (100, 0)), (2057, (101, 0)), (2058, (102, 0)), (2059, (103, 0)), (2060, (104, 0)), (2061, (105, 0))] [] ?_
    exact ⟨rfl, rfl⟩
  case false =>
    rw [e2 gv]
    rw [gv] at hL
    clear e1 e2 gr g1 hF gv hS
    generalize b.g.sw b.s = x at *
    generalize b.g.stS b.s = w at *
    generalize b.g.stG b.s = gg at *
    rw [gl] at hN ⊢
    refine Fn_go Tryz.func97 ?_
    refine W_go ?_
    refine W_c1 [(0, (0, 0)), (1, (1, 0)), (2, (2, 0)), (3, (3, 0)), (4, (4, 0)), (5, (5, 0))] hN ?_
    refine W_go ?_
    refine W_dc2 [(0, (0, 0)), (1, (1, 0)), (2, (2, 0)), (3, (3, 0)), (4, (4, 0))] hW [(0, (0, 0)), (1, (1, 0)), (2, (2, 0)), (3, (3, 0))] hL [.c _ _ _, .c _ _ _] ?_
    refine W_iff ?_
    refine W_go ?_
    refine W_c1 [(0, (0, 0)), (1, (1, 0)), (2, (2, 0)), (3, (3, 0)), (4, (4, 0))] hT ?_
    refine W_go ?_
    refine W_rt [(6176, (100, 0)), (6177, (101, 0)), (6178, (102, 0)), (6179, (103, 0)), (6180, (104, 0)), (2061, (105, 0))] [] ?_
    exact ⟨rfl, rfl⟩
theorem iStepBoth_c (b : Bth) (hl : (((b.s.h.L.length ≤ 4194304 ∧ b.s.h.R.length ≤ 4194304 ∧ b.s.h.T.length ≤ 4194304) ∧ b.s.F.length ≤ 4194304) ∧ b.g.C.length ≤ 4194304) ∧ b.o.length ≤ 4194304) : Fn Tryz.prog 13 [(0, .c false (.ints b.s.h.L)), (1, .c false (.ints b.s.h.R)), (2, .c false (.ints b.s.h.T)), (3, .c false (.ints b.s.F)), (4, .c false (.ints b.g.C)), (5, .c false (.ops b.o))] [.agg [.sl 0 0 b.s.h.L.length, .sl 1 0 b.s.h.R.length, .sl 2 0 b.s.h.T.length, .sl 3 0 b.s.F.length, .int .i64 b.g.p, .sl 4 0 b.g.C.length, .int .i64 b.g.a, .sl 5 0 b.o.length, .int .i64 b.a, .bool b.l]]
    (fun r H => r = .tup [.agg [.sl 100 0 b.sgc.s.h.L.length, .sl 101 0 b.sgc.s.h.R.length, .sl 102 0 b.sgc.s.h.T.length, .sl 103 0 b.sgc.s.F.length, .int .i64 b.sgc.g.p, .sl 104 0 b.sgc.g.C.length, .int .i64 b.sgc.g.a, .sl 105 0 b.sgc.o.length, .int .i64 b.sgc.a, .bool b.sgc.l], .bool (decide b.gcOk)] ∧ H = [(100, .c true (.ints b.sgc.s.h.L)), (101, .c true (.ints b.sgc.s.h.R)), (102, .c true (.ints b.sgc.s.h.T)), (103, .c true (.ints b.sgc.s.F)), (104, .c true (.ints b.sgc.g.C)), (105, .c true (.ops b.sgc.o))]) := by
  have hN := ianew_c b hl
  have hv := iBothValid_c b hl
  have no : ¬ b.gcOk → b.sgc = .zero ∧ decide b.gcOk = false := fun q => ⟨by rw [Bth.sgc, if_neg q], decide_eq_false q⟩
  replace no : Hold _ := ⟨no⟩
  by_cases g1 : b.ok
  case neg =>
    rw [decide_eq_false g1] at hv
    obtain ⟨e1, e3⟩ := no.told (fun q => g1 q.1)
    rw [e1, e3]
    clear e1 e3 no g1 hN
    refine Fn_go Tryz.func13 ?_
    refine W_go ?_
    refine W_ch1 [(0, (0, 0)), (1, (1, 0)), (2, (2, 0)), (3, (3, 0)), (4, (4, 0)), (5, (5, 0))] hv ?_
    refine W_ift ?_
    refine W_go ?_
    refine W_rt [] [(100, .ints []), (101, .ints []), (102, .ints []), (103, .ints []), (104, .ints []), (105, .ops [])] ?_
    exact ⟨rfl, rfl⟩
  rw [decide_eq_true g1] at hv
  cases gl : b.l
  case true =>
    obtain ⟨e1, e3⟩ := no.told (fun q => by have := q.2; rw [gl] at this; cases this)
    rw [gl] at hv
    rw [e1, e3]
    clear e1 e3 no g1 hN
    refine Fn_go Tryz.func13 ?_
    refine W_go ?_
    refine W_ch1 [(0, (0, 0)), (1, (1, 0)), (2, (2, 0)), (3, (3, 0)), (4, (4, 0)), (5, (5, 0))] hv ?_
    refine W_ift ?_
    refine W_go ?_
    refine W_rt [] [(100, .ints []), (101, .ints []), (102, .ints []), (103, .ints []), (104, .ints []), (105, .ops [])] ?_
    exact ⟨rfl, rfl⟩
  clear no
  have gr : b.gcOk := ⟨g1, gl⟩
  have gg := g1.1
  have hW := iSweptCell_c b.s b.g hl.1.1 hl.1.2
  rw [show b.g.swept b.s = b.g.sw b.s by rw [Gcc.swept, if_pos gg]] at hW
  have hR := iReachable_c b.s.h hl.1.1.1
  have hn : b.s.h.reach.length = b.s.h.L.length := by rw [reach_len, if_pos ((Hp.ok_iff _).2 gg.1.1)]
  have hx := fun q => sw_in gg q
  have hT := iStepGc_c b.s b.g hl.1.1 hl.1.2
  have e1 := fun q => gcs_y (b := b) gg q
  have e2 := fun q => gcs_n (b := b) gg q
  rw [Bth.sgc, if_pos gr, decide_eq_true gr]
  have st := fun q => live_st (s := b.s) (g := b.g) gg q
  have lv : b.s.live (b.g.sw b.s) = if b.g.sw b.s = -1 then false else b.s.h.reach.getD (b.g.sw b.s).toNat false := rfl
  rw [gl] at hv hN e2
  clear g1 gr gg
  cases gv : b.s.live (b.g.sw b.s)
  case true =>
    rw [e1 gv]
    rw [gv] at lv
    by_cases q1 : b.g.sw b.s = -1
    · rw [if_pos q1] at lv; cases lv
    rw [if_neg q1] at lv
    have hx2 := hx q1
    clear e1 e2 gv hT st hx
    generalize b.g.sw b.s = x at *
    generalize b.s.h.reach = B at *
    have hx3 : 0 ≤ x ∧ x < B.length := by omega
    clear hn hx2
    replace lv := lv.symm
    refine Fn_go Tryz.func13 ?_
    refine W_go ?_
    refine W_ch1 [(0, (0, 0)), (1, (1, 0)), (2, (2, 0)), (3, (3, 0)), (4, (4, 0)), (5, (5, 0))] hv ?_
    clear hv
    refine W_iff ?_
    refine W_go ?_
    refine W_c1 [(0, (0, 0)), (1, (1, 0)), (2, (2, 0)), (3, (3, 0)), (4, (4, 0)), (5, (5, 0))] hN ?_
    clear hN
    refine W_go ?_
    refine W_c1 [(0, (4104, 0)), (1, (4105, 0)), (2, (4106, 0)), (3, (4107, 0)), (4, (4108, 0))] hW ?_
    clear hW
    refine W_go ?_
    refine W_ch1 [(0, (4104, 0)), (1, (4105, 0)), (2, (4106, 0))] hR ?_
    clear hR
    refine W_ift ?_
    refine W_go ?_
    refine W_rt [(4104, (100, 0)), (4105, (101, 0)), (4106, (102, 0)), (4107, (103, 0)), (4108, (104, 0)), (4109, (105, 0))] [] ?_
    exact ⟨rfl, rfl⟩
  case false =>
    rw [e2 gv]
    rw [gv] at lv
    have so := st gv
    rw [Gcc.stepS, Gcc.stepG, if_pos so, if_pos so, decide_eq_true so] at hT
    clear e1 e2 gv st so
    generalize b.g.stS b.s = w at *
    generalize b.g.stG b.s = gg at *
    by_cases q1 : b.g.sw b.s = -1
    · clear hR hn hx lv
      generalize b.g.sw b.s = x at *
      subst q1
      refine Fn_go Tryz.func13 ?_
      refine W_go ?_
      refine W_ch1 [(0, (0, 0)), (1, (1, 0)), (2, (2, 0)), (3, (3, 0)), (4, (4, 0)), (5, (5, 0))] hv ?_
      clear hv
      refine W_iff ?_
      refine W_go ?_
      refine W_c1 [(0, (0, 0)), (1, (1, 0)), (2, (2, 0)), (3, (3, 0)), (4, (4, 0)), (5, (5, 0))] hN ?_
      clear hN
      refine W_go ?_
      refine W_c1 [(0, (4104, 0)), (1, (4105, 0)), (2, (4106, 0)), (3, (4107, 0)), (4, (4108, 0))] hW ?_
      clear hW
      refine W_go ?_
      refine W_gh ?_
      refine W_iff ?_
      refine W_go ?_
      refine W_c1 [(0, (4104, 0)), (1, (4105, 0)), (2, (4106, 0)), (3, (4107, 0)), (4, (4108, 0))] hT ?_
      refine W_go ?_
      refine W_rt [(9248, (100, 0)), (9249, (101, 0)), (9250, (102, 0)), (9251, (103, 0)), (9252, (104, 0)), (4109, (105, 0))] [] ?_
      exact ⟨rfl, rfl⟩
    rw [if_neg q1] at lv
    have hx2 := hx q1
    clear hx
    generalize b.g.sw b.s = x at *
    generalize b.s.h.reach = B at *
    have hx3 : 0 ≤ x ∧ x < B.length := by omega
    clear hn hx2
    replace lv := lv.symm
    refine Fn_go Tryz.func13 ?_
    refine W_go ?_
    refine W_ch1 [(0, (0, 0)), (1, (1, 0)), (2, (2, 0)), (3, (3, 0)), (4, (4, 0)), (5, (5, 0))] hv ?_
    clear hv
    refine W_iff ?_
    refine W_go ?_
    refine W_c1 [(0, (0, 0)), (1, (1, 0)), (2, (2, 0)), (3, (3, 0)), (4, (4, 0)), (5, (5, 0))] hN ?_
    clear hN
    refine W_go ?_
    refine W_c1 [(0, (4104, 0)), (1, (4105, 0)), (2, (4106, 0)), (3, (4107, 0)), (4, (4108, 0))] hW ?_
    clear hW
    refine W_go ?_
    refine W_ch1 [(0, (4104, 0)), (1, (4105, 0)), (2, (4106, 0))] hR ?_
    clear hR
    refine W_iff ?_
    refine W_go ?_
    refine W_c1 [(0, (4104, 0)), (1, (4105, 0)), (2, (4106, 0)), (3, (4107, 0)), (4, (4108, 0))] hT ?_
    refine W_go ?_
    refine W_rt [(9248, (100, 0)), (9249, (101, 0)), (9250, (102, 0)), (9251, (103, 0)), (9252, (104, 0)), (4109, (105, 0))] [] ?_
    exact ⟨rfl, rfl⟩
end Go.Proofs.YtbobhbhgomkgpaaGreatDoor.S
