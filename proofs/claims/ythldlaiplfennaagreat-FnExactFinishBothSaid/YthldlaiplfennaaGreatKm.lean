/- Contracts: the law FnExactFinishBoth. Own work of this claim. -/
import Derived.Test.YthldlaiplfennaaGreatGz
import Derived.Test.YthldlaiplfennaaGreatHd
namespace Go.Proofs.YthldlaiplfennaaGreat.S
set_option linter.all false
open Go Go.Proofs
set_option maxHeartbeats 4000000
set_option maxRecDepth 100000

theorem lExactFinishBoth_c (b : Bth) (x : Bool) (hl : (((b.s.h.L.length ≤ 9223372036854775807 ∧ b.s.h.R.length ≤ 9223372036854775807 ∧ b.s.h.T.length ≤ 9223372036854775807) ∧ b.s.F.length ≤ 9223372036854775807) ∧ b.g.C.length ≤ 9223372036854775807 ∧ b.o.length ≤ 9223372036854775807)) :
    Fn Tryz.prog 3 [(0, .c false (.ints b.s.h.L)), (1, .c false (.ints b.s.h.R)), (2, .c false (.ints b.s.h.T)), (3, .c false (.ints b.s.F)), (4, .c false (.ints b.g.C)), (5, .c false (.ops b.o))] [.agg [.sl 0 0 b.s.h.L.length, .sl 1 0 b.s.h.R.length, .sl 2 0 b.s.h.T.length, .sl 3 0 b.s.F.length, .int .i64 b.g.p, .sl 4 0 b.g.C.length, .int .i64 b.g.a, .sl 5 0 b.o.length, .int .i64 b.a, .bool b.l], .bool x] (fun r H => r = .bool true ∧ H = []) := by
  refine Fn_go Tryz.func3 ?_
  obtain ⟨v, hv, hZ0⟩ := szBoth_t b hl
  refine W_go ?_
  refine W_c1 [(0, (0, 0)), (1, (1, 0)), (2, (2, 0)), (3, (3, 0)), (4, (4, 0)), (5, (5, 0))] hZ0 ?_
  refine W_go ?_
  refine W_if (fun h1 => ?_) (fun h1 => ?_)
  · refine W_go ?_
    refine W_rt [] [] ?_
    exact ⟨rfl, rfl⟩
  have hb := hv h1
  clear hZ0 hv hl h1
  have hT0 := toBoth_c b hb
  have hE00 := eqBoth_t b hb
  obtain ⟨k1, ms, hk1, hM00, -⟩ := markBoth_t b hb
  have hS := sFinishBoth_c b x hb
  have hI := iFinishBoth_c b x hb
  have hw := b.sfin_small x
  generalize b.sfin x = w at *
  generalize decide b.ok = wb at *
  have hw7 : (((w.s.h.L.length ≤ 4194304 ∧ w.s.h.R.length ≤ 4194304 ∧ w.s.h.T.length ≤ 4194304) ∧ w.s.F.length ≤ 4194304) ∧ w.g.C.length ≤ 4194304) ∧ w.o.length ≤ 4194304 := by omega
  have hE0 := eqBoth_t w hw7
  obtain ⟨k2, mw, hk2, hM0, hH0⟩ := markBoth_t w hw7
  refine W_ft 16 ?_
  refine W_go ?_
  refine W_c2 [(0, (0, 0)), (1, (1, 0)), (2, (2, 0)), (3, (3, 0)), (4, (4, 0)), (5, (5, 0))] hT0 [(0, (6152, 0)), (1, (6153, 0)), (2, (6154, 0)), (3, (6155, 0)), (4, (6156, 0)), (5, (6157, 0))] hS ?_
  refine W_go ?_
  refine W_c1 [(0, (0, 0)), (1, (1, 0)), (2, (2, 0)), (3, (3, 0)), (4, (4, 0)), (5, (5, 0))] hT0 ?_
  refine W_go ?_
  refine W_c1 [(0, (7176, 0)), (1, (7177, 0)), (2, (7178, 0)), (3, (7179, 0)), (4, (7180, 0)), (5, (7181, 0))] hI ?_
  refine W_go ?_
  refine W_rk 16 [(1024, (1024, 0)), (6200, (6200, 0)), (6168, (6168, 0)), (6169, (6169, 0)), (6170, (6170, 0)), (6171, (6171, 0)), (6172, (6172, 0)), (6173, (6173, 0)), (7184, (7184, 0)), (7176, (7176, 0)), (7177, (7177, 0)), (7178, (7178, 0)), (7179, (7179, 0)), (7180, (7180, 0)), (7181, (7181, 0)), (8240, (8240, 0)), (8208, (8208, 0)), (8209, (8209, 0)), (8210, (8210, 0)), (8211, (8211, 0)), (8212, (8212, 0)), (8213, (8213, 0))] ?_
  refine W_go ?_
  refine W_c1 [(0, (8208, 0)), (1, (8209, 0)), (2, (8210, 0)), (3, (8211, 0)), (4, (8212, 0)), (5, (8213, 0)), (6, (6168, 0)), (7, (6169, 0)), (8, (6170, 0)), (9, (6171, 0)), (10, (6172, 0)), (11, (6173, 0))] hE0 ?_
  refine W_iff ?_
  refine W_ft 16 ?_
  refine W_go ?_
  refine W_dc2 [(0, (0, 0)), (1, (1, 0)), (2, (2, 0)), (3, (3, 0)), (4, (4, 0)), (5, (5, 0))] hT0 [(0, (7176, 0)), (1, (7177, 0)), (2, (7178, 0)), (3, (7179, 0)), (4, (7180, 0)), (5, (7181, 0)), (6, (11280, 0)), (7, (11281, 0)), (8, (11282, 0)), (9, (11283, 0)), (10, (11284, 0)), (11, (11285, 0))] hE00 [.c _ _ _, .c _ _ _] ?_
  refine W_iff ?_
  refine W_ft 16 ?_
  refine W_go ?_
  refine W_c1 [(0, (7176, 0)), (1, (7177, 0)), (2, (7178, 0)), (3, (7179, 0)), (4, (7180, 0)), (5, (7181, 0))] hM00 ?_
  refine W_go ?_
  refine W_ch1 [(0, (8208, 0)), (1, (8209, 0)), (2, (8210, 0)), (3, (8211, 0)), (4, (8212, 0)), (5, (8213, 0)), (6, (6168, 0)), (7, (6169, 0)), (8, (6170, 0)), (9, (6171, 0)), (10, (6172, 0)), (11, (6173, 0))] hE0 ?_
  refine W_iff ?_
  refine W_ft 16 ?_
  refine W_go ?_
  refine W_c1 [(0, (8208, 0)), (1, (8209, 0)), (2, (8210, 0)), (3, (8211, 0)), (4, (8212, 0)), (5, (8213, 0))] hM0 ?_
  refine W_go ?_
  refine W_c1 [(0, (8208, 0)), (1, (8209, 0)), (2, (8210, 0)), (3, (8211, 0)), (4, (8212, 0)), (5, (8213, 0))] hH0 ?_
  refine W_go ?_
  refine W_if (fun h1 => ?_) (fun h1 => ?_)
  · exact absurd h1 (by assumption)
  clear h1
  refine W_ft 16 ?_
  refine W_go ?_
  refine W_iff ?_
  refine W_ft 16 ?_
  refine W_go ?_
  refine W_c2 [(0, (0, 0)), (1, (1, 0)), (2, (2, 0)), (3, (3, 0)), (4, (4, 0)), (5, (5, 0))] hT0 [(0, (25608, 0)), (1, (25609, 0)), (2, (25610, 0)), (3, (25611, 0)), (4, (25612, 0)), (5, (25613, 0))] hI ?_
  refine W_go ?_
  refine W_rk 16 [(1024, (1024, 0)), (6200, (6200, 0)), (6168, (6168, 0)), (6169, (6169, 0)), (6170, (6170, 0)), (6171, (6171, 0)), (6172, (6172, 0)), (6173, (6173, 0)), (7184, (7184, 0)), (7176, (7176, 0)), (7177, (7177, 0)), (7178, (7178, 0)), (7179, (7179, 0)), (7180, (7180, 0)), (7181, (7181, 0)), (8240, (8240, 0)), (8208, (8208, 0)), (8209, (8209, 0)), (8210, (8210, 0)), (8211, (8211, 0)), (8212, (8212, 0)), (8213, (8213, 0)), (25656, (25656, 0)), (25624, (25624, 0)), (25625, (25625, 0)), (25626, (25626, 0)), (25627, (25627, 0)), (25628, (25628, 0)), (25629, (25629, 0))] ?_
  refine W_go ?_
  refine W_c1 [(0, (25624, 0)), (1, (25625, 0)), (2, (25626, 0)), (3, (25627, 0)), (4, (25628, 0)), (5, (25629, 0)), (6, (6168, 0)), (7, (6169, 0)), (8, (6170, 0)), (9, (6171, 0)), (10, (6172, 0)), (11, (6173, 0))] hE0 ?_
  refine W_iff ?_
  refine W_ft 16 ?_
  refine W_go ?_
  refine W_c1 [(0, (8208, 0)), (1, (8209, 0)), (2, (8210, 0)), (3, (8211, 0)), (4, (8212, 0)), (5, (8213, 0))] hH0 ?_
  refine W_go ?_
  refine W_if (fun h1 => ?_) (fun h1 => ?_)
  · exact absurd h1 (by assumption)
  clear h1
  refine W_ft 16 ?_
  refine W_go ?_
  refine W_iff ?_
  refine W_ft 16 ?_
  refine W_go ?_
  refine W_rt [] [] ?_
  exact ⟨rfl, rfl⟩
end Go.Proofs.YthldlaiplfennaaGreat.S
