/- Contracts: one step of the collector beside a program. Own work of this claim. -/
import Derived.Test.YtnepiffboakehaaGreatDoorGw
import Derived.Test.YtnepiffboakehaaGreatDoorGs
namespace Go.Proofs.YtnepiffboakehaaGreatDoor.S
set_option linter.all false
open Go Go.Proofs
set_option maxHeartbeats 4000000
set_option maxRecDepth 100000

noncomputable def Sto.live (s : Sto) (x : Int) : Bool := if x = -1 then false else s.h.reach.getD x.toNat false
theorem sw_in {s : Sto} {g : Gcc} (h : g.ok s) (q : g.sw s ≠ -1) : 0 ≤ g.sw s ∧ g.sw s < s.h.L.length := by
  obtain ⟨p3, ea, _, _⟩ := sw_at q
  have ha := h.2.2
  unfold Gcc.atOk at ha
  have := h.2.1.1
  omega
theorem live_iff {s : Sto} {g : Gcc} (h : g.ok s) : s.live (g.sw s) = true ↔ (g.sw s ≠ -1 ∧ Reach s.h (g.sw s).toNat) := by
  unfold Sto.live
  by_cases q : g.sw s = -1
  · rw [if_pos q]
    exact ⟨fun z => absurd z (by simp), fun z => absurd q z.1⟩
  · rw [if_neg q, reach_getD ((Hp.ok_iff _).2 h.1.1) (by have := sw_in h q; omega)]
    exact ⟨fun z => ⟨q, z⟩, fun z => z.2⟩
theorem gcs_y {b : Bth} (h : b.g.ok b.s) (q : b.s.live (b.g.sw b.s) = true) : b.gcs = ⟨b.s, b.g, b.o, b.a, true⟩ := by rw [Bth.gcs, if_pos ((live_iff h).1 q)]
theorem gcs_n {b : Bth} (h : b.g.ok b.s) (q : b.s.live (b.g.sw b.s) = false) : b.gcs = ⟨b.g.stS b.s, b.g.stG b.s, b.o, b.a, b.l⟩ := by rw [Bth.gcs, if_neg (fun z => by rw [(live_iff h).2 z] at q; cases q)]
theorem sl7Live_c (s : Sto) (x : Int) (hv : s.h.valid = true) (hx : x = -1 ∨ 0 ≤ x ∧ x < s.h.L.length) (hl : (s.h.L.length ≤ 4194304 ∧ s.h.R.length ≤ 4194304 ∧ s.h.T.length ≤ 4194304) ∧ s.F.length ≤ 4194304) : Fn Tryz.prog 82 [(0, .c false (.ints s.h.L)), (1, .c false (.ints s.h.R)), (2, .c false (.ints s.h.T)), (3, .c false (.ints s.F))] [.agg [.sl 0 0 s.h.L.length, .sl 1 0 s.h.R.length, .sl 2 0 s.h.T.length, .sl 3 0 s.F.length], .int .i64 x]
    (fun r H => r = .bool (s.live x) ∧ H = []) := by
  have hR := sReachable_c s.h hl.1
  have hn : s.h.reach.length = s.h.L.length := by rw [reach_len, if_pos hv]
  have e1 : x = -1 → s.live x = false := fun q => by rw [Sto.live, if_pos q]
  have e2 : ¬ x = -1 → s.live x = s.h.reach.getD x.toNat false := fun q => by rw [Sto.live, if_neg q]
  replace e1 : Hold _ := ⟨e1⟩
  replace e2 : Hold _ := ⟨e2⟩
  generalize s.h.reach = B at *
  clear hv
  have hi : x = -1 ∨ 0 ≤ x ∧ x < B.length := by omega
  clear hn hx
  refine Fn_go Tryz.func82 ?_
  refine W_go ?_
  refine W_if (fun q => ?_) (fun q => ?_)
  · rw [e1.told q]
    refine W_go ?_
    refine W_rt [] [] ?_
    exact ⟨rfl, rfl⟩
  · rw [e2.told q]
    have hi2 : 0 ≤ x ∧ x < B.length := by omega
    clear hi
    refine W_go ?_
    refine W_c1 [(0, (0, 0)), (1, (1, 0)), (2, (2, 0))] hR ?_
    refine W_go ?_
    refine W_go ?_
    refine W_rt [] [] ?_
    exact ⟨rfl, rfl⟩
theorem sl7Gc_c (b : Bth) (gr : b.gcOk) (hl : (((b.s.h.L.length ≤ 4194304 ∧ b.s.h.R.length ≤ 4194304 ∧ b.s.h.T.length ≤ 4194304) ∧ b.s.F.length ≤ 4194304) ∧ b.g.C.length ≤ 4194304) ∧ b.o.length ≤ 4194304) : Fn Tryz.prog 36 [(0, .c false (.ints b.s.h.L)), (1, .c false (.ints b.s.h.R)), (2, .c false (.ints b.s.h.T)), (3, .c false (.ints b.s.F)), (4, .c false (.ints b.g.C)), (5, .c false (.ops b.o))] [.agg [.sl 0 0 b.s.h.L.length, .sl 1 0 b.s.h.R.length, .sl 2 0 b.s.h.T.length, .sl 3 0 b.s.F.length, .int .i64 b.g.p, .sl 4 0 b.g.C.length, .int .i64 b.g.a, .sl 5 0 b.o.length, .int .i64 b.a, .bool b.l]]
    (fun r H => r = .agg [.sl 100 0 b.gcs.s.h.L.length, .sl 101 0 b.gcs.s.h.R.length, .sl 102 0 b.gcs.s.h.T.length, .sl 103 0 b.gcs.s.F.length, .int .i64 b.gcs.g.p, .sl 104 0 b.gcs.g.C.length, .int .i64 b.gcs.g.a, .sl 105 0 b.gcs.o.length, .int .i64 b.gcs.a, .bool b.gcs.l] ∧ H = [(100, .c true (.ints b.gcs.s.h.L)), (101, .c true (.ints b.gcs.s.h.R)), (102, .c true (.ints b.gcs.s.h.T)), (103, .c true (.ints b.gcs.s.F)), (104, .c true (.ints b.gcs.g.C)), (105, .c true (.ops b.gcs.o))]) := by
  have g1 := gr.1.1
  have hS := gr.1.small
  have hF : b.s.F.length ≤ 1048576 := by omega
  have hN := sl7Copy_c b hl
  have hW := sl6Swept_c b.s b.g g1.weak hF
  have hL := sl7Live_c b.s (b.g.sw b.s) ((Hp.ok_iff _).2 g1.1.1) ((Decidable.em (b.g.sw b.s = -1)).imp id (fun q => sw_in g1 q)) hl.1.1
  have hT := sl6Step_c b.s b.g g1.weak hF
  have e1 := fun q => gcs_y (b := b) g1 q
  have e2 := fun q => gcs_n (b := b) g1 q
  have gl := gr.2
  cases gv : b.s.live (b.g.sw b.s)
  case true =>
    rw [e1 gv]
    rw [gv] at hL
    rw [gl] at hN ⊢
    clear e1 e2 gr g1 hF gv hT hS
    generalize b.g.sw b.s = x at *
    refine Fn_go Tryz.func36 ?_
    refine W_go ?_
    refine W_c1 [(0, (0, 0)), (1, (1, 0)), (2, (2, 0)), (3, (3, 0)), (4, (4, 0)), (5, (5, 0))] hN ?_
    refine W_go ?_
    refine W_dc2 [(0, (0, 0)), (1, (1, 0)), (2, (2, 0)), (3, (3, 0)), (4, (4, 0))] hW [(0, (0, 0)), (1, (1, 0)), (2, (2, 0)), (3, (3, 0))] hL [.c _ _ _, .c _ _ _] ?_
    refine W_ift ?_
    refine W_go ?_
    refine W_rt [(2056, (100, 0)), (2057, (101, 0)), (2058, (102, 0)), (2059, (103, 0)), (2060, (104, 0)), (2061, (105, 0))] [] ?_
    exact ⟨rfl, rfl⟩
  case false =>
    rw [e2 gv]
    rw [gv] at hL
    clear e1 e2 gr g1 hF gv hS
    generalize b.g.sw b.s = x at *
    generalize b.g.stS b.s = w at *
    generalize b.g.stG b.s = gg at *
    rw [gl] at hN ⊢
    refine Fn_go Tryz.func36 ?_
    refine W_go ?_
    refine W_c1 [(0, (0, 0)), (1, (1, 0)), (2, (2, 0)), (3, (3, 0)), (4, (4, 0)), (5, (5, 0))] hN ?_
    refine W_go ?_
    refine W_dc2 [(0, (0, 0)), (1, (1, 0)), (2, (2, 0)), (3, (3, 0)), (4, (4, 0))] hW [(0, (0, 0)), (1, (1, 0)), (2, (2, 0)), (3, (3, 0))] hL [.c _ _ _, .c _ _ _] ?_
    refine W_iff ?_
    refine W_go ?_
    refine W_c1 [(0, (0, 0)), (1, (1, 0)), (2, (2, 0)), (3, (3, 0)), (4, (4, 0))] hT ?_
    refine W_go ?_
    refine W_rt [(6176, (100, 0)), (6177, (101, 0)), (6178, (102, 0)), (6179, (103, 0)), (6180, (104, 0)), (2061, (105, 0))] [] ?_
    exact ⟨rfl, rfl⟩
end Go.Proofs.YtnepiffboakehaaGreatDoor.S
