/- Contracts: a pair is finished, on both sides. Own work of this claim. -/
import Derived.Test.YtnepiffboakehaaGreatDoorGx
import Derived.Test.YtnepiffboakehaaGreatDoorA6
namespace Go.Proofs.YtnepiffboakehaaGreatDoor.S
set_option linter.all false
open Go Go.Proofs
set_option maxHeartbeats 4000000
set_option maxRecDepth 100000

theorem iFinishBoth_c (b : Bth) (bar : Bool) (hl : (((b.s.h.L.length ≤ 4194304 ∧ b.s.h.R.length ≤ 4194304 ∧ b.s.h.T.length ≤ 4194304) ∧ b.s.F.length ≤ 4194304) ∧ b.g.C.length ≤ 4194304) ∧ b.o.length ≤ 4194304) : Fn Tryz.prog 22 [(0, .c false (.ints b.s.h.L)), (1, .c false (.ints b.s.h.R)), (2, .c false (.ints b.s.h.T)), (3, .c false (.ints b.s.F)), (4, .c false (.ints b.g.C)), (5, .c false (.ops b.o))] [.agg [.sl 0 0 b.s.h.L.length, .sl 1 0 b.s.h.R.length, .sl 2 0 b.s.h.T.length, .sl 3 0 b.s.F.length, .int .i64 b.g.p, .sl 4 0 b.g.C.length, .int .i64 b.g.a, .sl 5 0 b.o.length, .int .i64 b.a, .bool b.l], .bool bar]
    (fun r H => r = .tup [.agg [.sl 100 0 (b.sfin bar).s.h.L.length, .sl 101 0 (b.sfin bar).s.h.R.length, .sl 102 0 (b.sfin bar).s.h.T.length, .sl 103 0 (b.sfin bar).s.F.length, .int .i64 (b.sfin bar).g.p, .sl 104 0 (b.sfin bar).g.C.length, .int .i64 (b.sfin bar).g.a, .sl 105 0 (b.sfin bar).o.length, .int .i64 (b.sfin bar).a, .bool (b.sfin bar).l], .bool (decide b.ok)] ∧ H = [(100, .c true (.ints (b.sfin bar).s.h.L)), (101, .c true (.ints (b.sfin bar).s.h.R)), (102, .c true (.ints (b.sfin bar).s.h.T)), (103, .c true (.ints (b.sfin bar).s.F)), (104, .c true (.ints (b.sfin bar).g.C)), (105, .c true (.ops (b.sfin bar).o))]) := by
  have hv := iBothValid_c b hl
  have hN := ianew_c b hl
  by_cases g1 : b.ok
  case neg =>
    rw [decide_eq_false g1] at hv ⊢
    rw [show b.sfin bar = .zero by rw [Bth.sfin, if_neg g1]]
    clear g1 hN
    refine Fn_go Tryz.func22 ?_
    refine W_go ?_
    refine W_c1 [(0, (0, 0)), (1, (1, 0)), (2, (2, 0)), (3, (3, 0)), (4, (4, 0)), (5, (5, 0))] hv ?_
    refine W_ift ?_
    refine W_go ?_
    refine W_rt [] [(100, .ints []), (101, .ints []), (102, .ints []), (103, .ints []), (104, .ints []), (105, .ops [])] ?_
    exact ⟨rfl, rfl⟩
  rw [decide_eq_true g1] at hv ⊢
  rw [Bth.sfin_eq g1 bar]
  have hok : Hold b.ok := ⟨g1⟩
  have hlen : (b.o.length - b.a).toNat ≤ 16 := by have := g1.2.1.1; have := g1.2.2.1; omega
  clear g1
  refine Fn_go Tryz.func22 ?_
  refine W_go ?_
  refine W_c1 [(0, (0, 0)), (1, (1, 0)), (2, (2, 0)), (3, (3, 0)), (4, (4, 0)), (5, (5, 0))] hv ?_
  clear hv
  refine W_iff ?_
  refine W_go ?_
  refine W_c1 [(0, (0, 0)), (1, (1, 0)), (2, (2, 0)), (3, (3, 0)), (4, (4, 0)), (5, (5, 0))] hN ?_
  clear hN
  refine W_go ?_
  refine W_rk 6 [(1024, (1024, 0)), (1032, (1032, 0)), (4104, (300, 0)), (4105, (301, 0)), (4106, (302, 0)), (4107, (303, 0)), (4108, (304, 0)), (4109, (305, 0))] ?_
  refine W_lp (T := 6) (σ := Nat × Bth) (me := fun s => []) (mh := (fun s => [(1024, .c true (.av 1 [.sl 300 0 s.2.s.h.L.length, .sl 301 0 s.2.s.h.R.length, .sl 302 0 s.2.s.h.T.length, .sl 303 0 s.2.s.F.length, .int .i64 s.2.g.p, .sl 304 0 s.2.g.C.length, .int .i64 s.2.g.a, .sl 305 0 s.2.o.length, .int .i64 s.2.a, .bool s.2.l])), (300, .c true (.ints s.2.s.h.L)), (301, .c true (.ints s.2.s.h.R)), (302, .c true (.ints s.2.s.h.T)), (303, .c true (.ints s.2.s.F)), (304, .c true (.ints s.2.g.C)), (305, .c true (.ops s.2.o))]))
    (inv := (fun s => Hold (s.2.ok ∧ Bth.ops bar 16 b = Bth.ops bar s.1 s.2 ∧ (s.2.o.length - s.2.a).toNat ≤ s.1))) (m := fun s => s.1) (s0 := (16, b)) ⟨hok.told, rfl, hlen⟩ ?_ (hh := by rfl)
  clear hok hlen
  rintro ⟨k, x⟩ hI
  dsimp only at hI ⊢
  have hxs := hI.told.1.small
  have hx : (((x.s.h.L.length ≤ 4194304 ∧ x.s.h.R.length ≤ 4194304 ∧ x.s.h.T.length ≤ 4194304) ∧ x.s.F.length ≤ 4194304) ∧ x.g.C.length ≤ 4194304) ∧ x.o.length ≤ 4194304 := by omega
  clear hxs
  have hO := iStepOp_c x bar hx
  by_cases go : x.opOk
  case' neg =>
    have no := go
    rw [decide_eq_false go] at hO
    clear go
    generalize x.sop bar = w at *
    refine W_go ?_
    refine W_c1 [(0, (300, 0)), (1, (301, 0)), (2, (302, 0)), (3, (303, 0)), (4, (304, 0)), (5, (305, 0))] hO ?_
    clear hO
    refine W_go ?_
    refine W_ift ?_
    refine W_go ?_
    have hy : Bth.ops bar 16 b = x := hI.told.2.1.trans (Bth.ops_stop bar k no)
    have hok2 : Hold x.ok := ⟨hI.told.1⟩
    have hst : Hold (x.ok ∧ Bth.gcn 128 0 (Bth.ops bar 16 b) = Bth.gcn 128 0 x ∧ (x.l = false → x.left 0 ≤ 128)) := ⟨hI.told.1, by rw [hy], fun _ => by have := mu_bd hI.told.1; unfold Bth.left; omega⟩
    clear hI hy no hx
    refine W_rk 9 [(1024, (1024, 0)), (1032, (1032, 0)), (300, (300, 0)), (301, (301, 0)), (302, (302, 0)), (303, (303, 0)), (304, (304, 0)), (305, (305, 0))] ?_
    refine W_lp (T := 9) (σ := Nat × Nat × Bth) (me := fun s => [(8, .int .i64 s.2.1)]) (mh := (fun s => [(1024, .c true (.av 1 [.sl 300 0 s.2.2.s.h.L.length, .sl 301 0 s.2.2.s.h.R.length, .sl 302 0 s.2.2.s.h.T.length, .sl 303 0 s.2.2.s.F.length, .int .i64 s.2.2.g.p, .sl 304 0 s.2.2.g.C.length, .int .i64 s.2.2.g.a, .sl 305 0 s.2.2.o.length, .int .i64 s.2.2.a, .bool s.2.2.l])), (300, .c true (.ints s.2.2.s.h.L)), (301, .c true (.ints s.2.2.s.h.R)), (302, .c true (.ints s.2.2.s.h.T)), (303, .c true (.ints s.2.2.s.F)), (304, .c true (.ints s.2.2.g.C)), (305, .c true (.ops s.2.2.o))]))
      (inv := (fun s => Hold (s.2.2.ok ∧ Bth.gcn 128 0 (Bth.ops bar 16 b) = Bth.gcn s.1 s.2.1 s.2.2 ∧ (s.2.2.l = false → s.2.2.left s.2.1 ≤ s.1)) ∧ s.2.1 ≤ 2)) (m := fun s => s.1) (s0 := (128, 0, x)) ⟨hst, by dsimp only; omega⟩ ?_ (hh := by rfl)
    clear hst hok2
    rintro ⟨k2, i, y⟩ ⟨hJ, hi⟩
    dsimp only at hJ hi ⊢
    have hys := hJ.told.1.small
    have hyb : (((y.s.h.L.length ≤ 4194304 ∧ y.s.h.R.length ≤ 4194304 ∧ y.s.h.T.length ≤ 4194304) ∧ y.s.F.length ≤ 4194304) ∧ y.g.C.length ≤ 4194304) ∧ y.o.length ≤ 4194304 := by omega
    clear hys
    refine W_go ?_
    refine W_if (fun i2 => ?_) (fun i2 => ?_)
    case' refine_2 =>
      have e : Bth.gcn 128 0 (Bth.ops bar 16 b) = y := hJ.told.2.1.trans (Bth.gcn_stop _ _ (fun q => i2 (by omega)))
      rw [e]
      refine W_go ?_
      refine W_rt [(300, (100, 0)), (301, (101, 0)), (302, (102, 0)), (303, (103, 0)), (304, (104, 0)), (305, (105, 0))] [] ?_
      exact ⟨rfl, rfl⟩
    have hO := iStepBoth_c y hyb
    by_cases go : y.gcOk
    case' neg =>
      have e : Bth.gcn 128 0 (Bth.ops bar 16 b) = y := hJ.told.2.1.trans (Bth.gcn_stop _ _ (fun q => go q.2))
      rw [e]
      rw [decide_eq_false go] at hO
      clear e hJ go
      generalize y.sgc = z at *
      refine W_go ?_
      refine W_c1 [(0, (300, 0)), (1, (301, 0)), (2, (302, 0)), (3, (303, 0)), (4, (304, 0)), (5, (305, 0))] hO ?_
      refine W_go ?_
      refine W_ift ?_
      refine W_go ?_
      refine W_rt [(300, (100, 0)), (301, (101, 0)), (302, (102, 0)), (303, (103, 0)), (304, (104, 0)), (305, (105, 0))] [] ?_
      exact ⟨rfl, rfl⟩
    have nx := fun (i' : Nat) (q : y.gcs.l = false → i' = if y.gcs.g.p = 0 then i + 1 else i) => Bth.gcn_next go (by omega) (hJ.told.2.2 go.2) hJ.told.2.1 i' q
    have zs := y.sgc_small
    rw [decide_eq_true go, Bth.sgc, if_pos go] at hO
    rw [Bth.sgc, if_pos go] at zs
    replace nx : Hold _ := ⟨nx⟩
    clear hJ go
    generalize y.gcs = z at *
    refine W_go ?_
    refine W_c1 [(0, (300, 0)), (1, (301, 0)), (2, (302, 0)), (3, (303, 0)), (4, (304, 0)), (5, (305, 0))] hO ?_
    clear hO
    refine W_go ?_
    refine W_iff ?_
    refine W_go ?_
    by_cases q : z.l = false ∧ z.g.p = 0
    · obtain ⟨j, rfl, e, ok2, lf⟩ := nx.told (i + 1) (fun _ => by rw [if_pos q.2])
      have q1 := q.1
      have q2 := eq_true q.2
      refine W_gh ?_
      refine W_ift ?_
      refine W_go ?_
      refine W_rk 9 [(1024, (1024, 0)), (1032, (1032, 0)), (10248, (300, 0)), (10249, (301, 0)), (10250, (302, 0)), (10251, (303, 0)), (10252, (304, 0)), (10253, (305, 0))] ?_
      refine W_bh (j, i + 1, z) ⟨⟨ok2, e, lf⟩, by dsimp only; omega⟩ (by dsimp only; omega) ?_
      dsimp only; rw [q1, q.2]
    · obtain ⟨j, rfl, e, ok2, lf⟩ := nx.told i (fun w => by rw [if_neg (fun p => q ⟨w, p⟩)])
      cases q1 : z.l
      case true =>
        refine W_gh ?_
        refine W_iff ?_
        refine W_go ?_
        refine W_rk 9 [(1024, (1024, 0)), (1032, (1032, 0)), (10248, (300, 0)), (10249, (301, 0)), (10250, (302, 0)), (10251, (303, 0)), (10252, (304, 0)), (10253, (305, 0))] ?_
        refine W_bh (j, i, z) ⟨⟨ok2, e, lf⟩, by dsimp only; omega⟩ (by dsimp only; omega) ?_
        dsimp only; rw [q1]
      case false =>
        have q2 : ¬ z.g.p = 0 := fun p => q ⟨q1, p⟩
        clear q
        refine W_gh ?_
        refine W_iff ?_
        refine W_go ?_
        refine W_rk 9 [(1024, (1024, 0)), (1032, (1032, 0)), (10248, (300, 0)), (10249, (301, 0)), (10250, (302, 0)), (10251, (303, 0)), (10252, (304, 0)), (10253, (305, 0))] ?_
        refine W_bh (j, i, z) ⟨⟨ok2, e, lf⟩, by dsimp only; omega⟩ (by dsimp only; omega) ?_
        dsimp only; rw [q1]
  rw [decide_eq_true go, Bth.sop, if_pos go] at hO
  obtain ⟨j, rfl, e, ok2, lf⟩ := Bth.ops_next go hI.told.2.2 hI.told.2.1
  have hJ : Hold ((x.op bar).ok ∧ Bth.ops bar 16 b = Bth.ops bar j (x.op bar) ∧ ((x.op bar).o.length - (x.op bar).a).toNat ≤ j) := ⟨ok2, e, lf⟩
  clear e ok2 lf go hI
  generalize x.op bar = z at *
  refine W_go ?_
  refine W_c1 [(0, (300, 0)), (1, (301, 0)), (2, (302, 0)), (3, (303, 0)), (4, (304, 0)), (5, (305, 0))] hO ?_
  clear hO
  refine W_go ?_
  refine W_iff ?_
  refine W_go ?_
  refine W_rk 6 [(1024, (1024, 0)), (1032, (1032, 0)), (5136, (300, 0)), (5137, (301, 0)), (5138, (302, 0)), (5139, (303, 0)), (5140, (304, 0)), (5141, (305, 0))] ?_
  refine W_bk (j, z) hJ (by dsimp only; omega)
end Go.Proofs.YtnepiffboakehaaGreatDoor.S
