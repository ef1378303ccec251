/- Contracts: runs of a collector, of both. Own work of this claim. -/
import Derived.Test.YtdkdepfgilbkeaaGs
namespace Go.Proofs.Ytdkdepfgilbkeaa.S
set_option linter.all false
open Go Go.Proofs
set_option maxHeartbeats 4000000
set_option maxRecDepth 100000

theorem iRunGc_c (s : Sto) (g : Gcc) (hl : (s.h.L.length ≤ 4194304 ∧ s.h.R.length ≤ 4194304 ∧ s.h.T.length ≤ 4194304) ∧ s.F.length ≤ 4194304) (hC : g.C.length ≤ 4194304) : Fn Try.prog 49 [(0, .c false (.ints s.h.L)), (1, .c false (.ints s.h.R)), (2, .c false (.ints s.h.T)), (3, .c false (.ints s.F)), (4, .c false (.ints g.C))] [.agg [.sl 0 0 s.h.L.length, .sl 1 0 s.h.R.length, .sl 2 0 s.h.T.length, .sl 3 0 s.F.length], .agg [.int .i64 g.p, .sl 4 0 g.C.length, .int .i64 g.a]]
    (fun r H => r = .tup [.agg [.sl 100 0 (runK 64 s g).1.h.L.length, .sl 101 0 (runK 64 s g).1.h.R.length, .sl 102 0 (runK 64 s g).1.h.T.length, .sl 103 0 (runK 64 s g).1.F.length], .agg [.int .i64 (runK 64 s g).2.1.p, .sl 104 0 (runK 64 s g).2.1.C.length, .int .i64 (runK 64 s g).2.1.a], .int .i64 ((runK 64 s g).2.2 : Nat), .bool (decide ((runK 64 s g).2.2 ≠ 0))] ∧ H = [(100, .c true (.ints (runK 64 s g).1.h.L)), (101, .c true (.ints (runK 64 s g).1.h.R)), (102, .c true (.ints (runK 64 s g).1.h.T)), (103, .c true (.ints (runK 64 s g).1.F)), (104, .c true (.ints (runK 64 s g).2.1.C))]) := by
  have hS := iStepGc_c s g hl hC
  refine Fn_go Try.func49 ?_
  refine W_go ?_
  refine W_lpu (T := 9) (σ := Sto × Gcc × Nat) (me := fun x => [(8, .int .i64 ((x.2.2 : Int) + 1))]) (mh := fun x => [(1024, .c true (.av 1 [.sl 300 0 x.1.h.L.length, .sl 301 0 x.1.h.R.length, .sl 302 0 x.1.h.T.length, .sl 303 0 x.1.F.length])), (1032, .c true (.av 1 [.int .i64 x.2.1.p, .sl 304 0 x.2.1.C.length, .int .i64 x.2.1.a])), (300, .c true (.ints x.1.h.L)), (301, .c true (.ints x.1.h.R)), (302, .c true (.ints x.1.h.T)), (303, .c true (.ints x.1.F)), (304, .c true (.ints x.2.1.C))])
    (inv := fun x => Hold (x.2.1.ok x.1 ∧ runK 64 s g = runAt x.2.2 (runK (64 - x.2.2) x.1 x.2.1) ∧ x.2.2 + x.2.1.mu x.1.h.T.length ≤ 40) ∧ 1 ≤ x.2.2 ∧ x.2.2 ≤ 40) (m := fun x => x.2.1.mu x.1.h.T.length) (M := 41) (fun x hx => by have := hx.1.told.2.2; omega) ?_ ?_
  · by_cases q : g.stOk s
    case neg =>
      have e : runK 64 s g = (.zero, .zero, 0) := by rw [runK, if_neg q]
      rw [e]
      rw [Gcc.stepS, Gcc.stepG, if_neg q, if_neg q, decide_eq_false q] at hS
      clear e q
      refine W_go ?_
      refine W_c1 [(0, (0, 0)), (1, (1, 0)), (2, (2, 0)), (3, (3, 0)), (4, (4, 0))] hS ?_
      refine W_go ?_
      refine W_ift ?_
      refine W_go ?_
      refine W_rt [] [(100, .ints []), (101, .ints []), (102, .ints []), (103, .ints []), (104, .ints [])] ?_
      exact ⟨rfl, rfl⟩
    rw [Gcc.stepS, Gcc.stepG, if_pos q, if_pos q, decide_eq_true q] at hS
    have hok := q.step
    have hend : (g.stG s).p = 0 → runK 64 s g = (g.stS s, g.stG s, 1) := fun z => by rw [runK, if_pos q, if_pos z]
    have hgo : ¬ (g.stG s).p = 0 → runK 64 s g = runAt 1 (runK 63 (g.stS s) (g.stG s)) ∧ 1 + (g.stG s).mu (g.stS s).h.T.length ≤ 40 := fun z => by
      refine ⟨by rw [← runAt_0]; exact runAt_step q z, ?_⟩
      have h1 := mu_step q.1 z
      have h2 := mu_le q.1
      have h3 := q.1.1.1.1
      rw [stS_T]; omega
    have l8 := hok.1.1.1
    have bF := hok.1.le
    have hlc := hok.2.1.1
    have b8 : (((g.stS s).h.L.length ≤ 8 ∧ (g.stS s).h.R.length ≤ 8 ∧ (g.stS s).h.T.length ≤ 3) ∧ (g.stS s).F.length ≤ 8) ∧ (g.stG s).C.length ≤ 8 := by omega
    replace hok : Hold _ := ⟨hok⟩
    replace hend : Hold _ := ⟨hend⟩
    replace hgo : Hold _ := ⟨hgo⟩
    clear q l8 bF hlc
    generalize g.stS s = s' at *
    generalize g.stG s = g' at *
    refine W_go ?_
    refine W_c1 [(0, (0, 0)), (1, (1, 0)), (2, (2, 0)), (3, (3, 0)), (4, (4, 0))] hS ?_
    refine W_go ?_
    refine W_iff ?_
    refine W_go ?_
    refine W_if (fun z => ?_) (fun z => ?_)
    · rw [hend.told z]
      refine W_go ?_
      refine W_rt [(5136, (100, 0)), (5137, (101, 0)), (5138, (102, 0)), (5139, (103, 0)), (5140, (104, 0))] [] ?_
      exact ⟨rfl, rfl⟩
    · have h1 := hgo.told z
      replace h1 : Hold _ := ⟨h1⟩
      refine W_go ?_
      refine W_rk 9 [(1024, (1024, 0)), (1032, (1032, 0)), (1040, (1040, 0)), (1048, (1048, 0)), (5136, (300, 0)), (5137, (301, 0)), (5138, (302, 0)), (5139, (303, 0)), (5140, (304, 0))] ?_
      refine W_bj (s', g', 1) ⟨⟨hok.told, h1.told.1, h1.told.2⟩, ?_⟩
      dsimp only; omega
  · clear hS
    rintro ⟨s1, g1, i⟩ ⟨hI, hi⟩
    dsimp only at hI hi ⊢
    obtain ⟨hok, hR, hmu⟩ := hI.told
    have l8 := hok.1.1.1
    have bF := hok.1.le
    have hlc := hok.2.1.1
    have b7 : ((s1.h.L.length ≤ 4194304 ∧ s1.h.R.length ≤ 4194304 ∧ s1.h.T.length ≤ 4194304) ∧ s1.F.length ≤ 4194304) ∧ g1.C.length ≤ 8 := by omega
    have hS := iStepGc_c s1 g1 b7.1 (by omega)
    rw [show 64 - i = 63 - i + 1 by omega] at hR
    clear l8 bF hlc
    by_cases q : g1.stOk s1
    case neg =>
      rw [runAt_bad q] at hR
      rw [hR]
      rw [Gcc.stepS, Gcc.stepG, if_neg q, if_neg q, decide_eq_false q] at hS
      clear q hR hI hok
      refine W_go ?_
      refine W_c1 [(0, (300, 0)), (1, (301, 0)), (2, (302, 0)), (3, (303, 0)), (4, (304, 0))] hS ?_
      refine W_go ?_
      refine W_ift ?_
      refine W_go ?_
      refine W_rt [] [(100, .ints []), (101, .ints []), (102, .ints []), (103, .ints []), (104, .ints [])] ?_
      exact ⟨rfl, rfl⟩
    rw [Gcc.stepS, Gcc.stepG, if_pos q, if_pos q, decide_eq_true q] at hS
    have hend : (g1.stG s1).p = 0 → runK 64 s g = (g1.stS s1, g1.stG s1, i + 1) := fun z => by rw [hR, runAt_end q z]
    have hgo : ¬ (g1.stG s1).p = 0 → (runK 64 s g = runAt (i + 1) (runK (64 - (i + 1)) (g1.stS s1) (g1.stG s1)) ∧ (i + 1) + (g1.stG s1).mu (g1.stS s1).h.T.length ≤ 40) ∧ (g1.stG s1).mu (g1.stS s1).h.T.length < g1.mu s1.h.T.length := fun z => by
      have h1 := mu_step hok z
      refine ⟨⟨by rw [hR, runAt_step q z, show 64 - (i + 1) = 63 - i by omega], ?_⟩, ?_⟩
      · rw [stS_T]; omega
      · rw [stS_T]; exact h1
    have hok' := q.step
    have l8 := hok'.1.1.1
    have bF := hok'.1.le
    have hlc := hok'.2.1.1
    have b8 : (((g1.stS s1).h.L.length ≤ 8 ∧ (g1.stS s1).h.R.length ≤ 8 ∧ (g1.stS s1).h.T.length ≤ 3) ∧ (g1.stS s1).F.length ≤ 8) ∧ (g1.stG s1).C.length ≤ 8 := by omega
    replace hok' : Hold _ := ⟨hok'⟩
    replace hend : Hold _ := ⟨hend⟩
    replace hgo : Hold _ := ⟨hgo⟩
    clear q l8 bF hlc hR hI hok hmu
    generalize hs' : g1.stS s1 = s' at *
    generalize hg' : g1.stG s1 = g' at *
    clear hs' hg'
    refine W_go ?_
    refine W_c1 [(0, (300, 0)), (1, (301, 0)), (2, (302, 0)), (3, (303, 0)), (4, (304, 0))] hS ?_
    refine W_go ?_
    refine W_iff ?_
    refine W_go ?_
    refine W_if (fun z => ?_) (fun z => ?_)
    · rw [hend.told z]
      refine W_go ?_
      refine W_rt [(5136, (100, 0)), (5137, (101, 0)), (5138, (102, 0)), (5139, (103, 0)), (5140, (104, 0))] [] ?_
      exact ⟨rfl, rfl⟩
    · have h1 := hgo.told z
      replace h1 : Hold _ := ⟨h1⟩
      refine W_go ?_
      refine W_rk 9 [(1024, (1024, 0)), (1032, (1032, 0)), (1040, (1040, 0)), (1048, (1048, 0)), (5136, (300, 0)), (5137, (301, 0)), (5138, (302, 0)), (5139, (303, 0)), (5140, (304, 0))] ?_
      refine W_bh (s', g', i + 1) ⟨⟨hok'.told, h1.told.1.1, h1.told.1.2⟩, ?_⟩ ?_ ?_
      · have := h1.told.1.2; dsimp only at this ⊢; omega
      · exact h1.told.2
      · rfl
theorem sRunGc_c (s : Sto) (g : Gcc) (hl : (s.h.L.length ≤ 4194304 ∧ s.h.R.length ≤ 4194304 ∧ s.h.T.length ≤ 4194304) ∧ s.F.length ≤ 4194304) (hC : g.C.length ≤ 4194304) : Fn Try.prog 50 [(0, .c false (.ints s.h.L)), (1, .c false (.ints s.h.R)), (2, .c false (.ints s.h.T)), (3, .c false (.ints s.F)), (4, .c false (.ints g.C))] [.agg [.sl 0 0 s.h.L.length, .sl 1 0 s.h.R.length, .sl 2 0 s.h.T.length, .sl 3 0 s.F.length], .agg [.int .i64 g.p, .sl 4 0 g.C.length, .int .i64 g.a]]
    (fun r H => r = .tup [.agg [.sl 100 0 (runK 64 s g).1.h.L.length, .sl 101 0 (runK 64 s g).1.h.R.length, .sl 102 0 (runK 64 s g).1.h.T.length, .sl 103 0 (runK 64 s g).1.F.length], .agg [.int .i64 (runK 64 s g).2.1.p, .sl 104 0 (runK 64 s g).2.1.C.length, .int .i64 (runK 64 s g).2.1.a], .int .i64 ((runK 64 s g).2.2 : Nat), .bool (decide ((runK 64 s g).2.2 ≠ 0))] ∧ H = [(100, .c true (.ints (runK 64 s g).1.h.L)), (101, .c true (.ints (runK 64 s g).1.h.R)), (102, .c true (.ints (runK 64 s g).1.h.T)), (103, .c true (.ints (runK 64 s g).1.F)), (104, .c true (.ints (runK 64 s g).2.1.C))]) := by
  have hS := sStepGc_c s g hl hC
  have hO := sl13OwnStore_c s hl
  refine Fn_go Try.func50 ?_
  refine W_go ?_
  refine W_c1 [(0, (0, 0)), (1, (1, 0)), (2, (2, 0)), (3, (3, 0))] hO ?_
  refine W_go ?_
  refine W_lpu (T := 9) (σ := Sto × Gcc × Nat) (me := fun x => [(8, .int .i64 (x.2.2 : Int))]) (mh := fun x => [(1024, .c true (.av 1 [.sl 2056 0 x.1.h.L.length, .sl 2057 0 x.1.h.R.length, .sl 2058 0 x.1.h.T.length, .sl 2059 0 x.1.F.length])), (1032, .c true (.av 1 [.int .i64 x.2.1.p, .sl 304 0 x.2.1.C.length, .int .i64 x.2.1.a])), (2056, .c true (.ints x.1.h.L)), (2057, .c true (.ints x.1.h.R)), (2058, .c true (.ints x.1.h.T)), (2059, .c true (.ints x.1.F)), (304, .c true (.ints x.2.1.C))])
    (inv := fun x => Hold (x.2.1.ok x.1 ∧ runK 64 s g = runAt x.2.2 (runK (64 - x.2.2) x.1 x.2.1) ∧ x.2.2 + x.2.1.mu x.1.h.T.length ≤ 40) ∧ 1 ≤ x.2.2 ∧ x.2.2 ≤ 40) (m := fun x => x.2.1.mu x.1.h.T.length) (M := 41) (fun x hx => by have := hx.1.told.2.2; omega) ?_ ?_
  · by_cases q : g.stOk s
    case neg =>
      have e : runK 64 s g = (.zero, .zero, 0) := by rw [runK, if_neg q]
      rw [e]
      rw [Gcc.stepS, Gcc.stepG, if_neg q, if_neg q, decide_eq_false q] at hS
      clear e q
      refine W_go ?_
      refine W_c1 [(0, (2056, 0)), (1, (2057, 0)), (2, (2058, 0)), (3, (2059, 0)), (4, (4, 0))] hS ?_
      refine W_go ?_
      refine W_ift ?_
      refine W_go ?_
      refine W_rt [] [(100, .ints []), (101, .ints []), (102, .ints []), (103, .ints []), (104, .ints [])] ?_
      exact ⟨rfl, rfl⟩
    rw [Gcc.stepS, Gcc.stepG, if_pos q, if_pos q, decide_eq_true q] at hS
    have hok := q.step
    have hend : (g.stG s).p = 0 → runK 64 s g = (g.stS s, g.stG s, 1) := fun z => by rw [runK, if_pos q, if_pos z]
    have hgo : ¬ (g.stG s).p = 0 → runK 64 s g = runAt 1 (runK 63 (g.stS s) (g.stG s)) ∧ 1 + (g.stG s).mu (g.stS s).h.T.length ≤ 40 := fun z => by
      refine ⟨by rw [← runAt_0]; exact runAt_step q z, ?_⟩
      have h1 := mu_step q.1 z
      have h2 := mu_le q.1
      have h3 := q.1.1.1.1
      rw [stS_T]; omega
    have l8 := hok.1.1.1
    have bF := hok.1.le
    have hlc := hok.2.1.1
    have b8 : (((g.stS s).h.L.length ≤ 8 ∧ (g.stS s).h.R.length ≤ 8 ∧ (g.stS s).h.T.length ≤ 3) ∧ (g.stS s).F.length ≤ 8) ∧ (g.stG s).C.length ≤ 8 := by omega
    replace hok : Hold _ := ⟨hok⟩
    replace hend : Hold _ := ⟨hend⟩
    replace hgo : Hold _ := ⟨hgo⟩
    clear q l8 bF hlc
    generalize g.stS s = s' at *
    generalize g.stG s = g' at *
    refine W_go ?_
    refine W_c1 [(0, (2056, 0)), (1, (2057, 0)), (2, (2058, 0)), (3, (2059, 0)), (4, (4, 0))] hS ?_
    refine W_go ?_
    refine W_iff ?_
    refine W_go ?_
    refine W_if (fun z => ?_) (fun z => ?_)
    · rw [hend.told z]
      refine W_go ?_
      refine W_rt [(4112, (100, 0)), (4113, (101, 0)), (4114, (102, 0)), (4115, (103, 0)), (4116, (104, 0))] [] ?_
      exact ⟨rfl, rfl⟩
    · have h1 := hgo.told z
      replace h1 : Hold _ := ⟨h1⟩
      refine W_go ?_
      refine W_rk 9 [(1024, (1024, 0)), (1032, (1032, 0)), (1040, (1040, 0)), (1048, (1048, 0)), (4112, (2056, 0)), (4113, (2057, 0)), (4114, (2058, 0)), (4115, (2059, 0)), (4116, (304, 0))] ?_
      refine W_bj (s', g', 1) ⟨⟨hok.told, h1.told.1, h1.told.2⟩, ?_⟩
      dsimp only; omega
  · clear hS hO
    rintro ⟨s1, g1, i⟩ ⟨hI, hi⟩
    dsimp only at hI hi ⊢
    obtain ⟨hok, hR, hmu⟩ := hI.told
    have l8 := hok.1.1.1
    have bF := hok.1.le
    have hlc := hok.2.1.1
    have b7 : ((s1.h.L.length ≤ 4194304 ∧ s1.h.R.length ≤ 4194304 ∧ s1.h.T.length ≤ 4194304) ∧ s1.F.length ≤ 4194304) ∧ g1.C.length ≤ 8 := by omega
    have hS := sStepGc_c s1 g1 b7.1 (by omega)
    rw [show 64 - i = 63 - i + 1 by omega] at hR
    clear l8 bF hlc
    by_cases q : g1.stOk s1
    case neg =>
      rw [runAt_bad q] at hR
      rw [hR]
      rw [Gcc.stepS, Gcc.stepG, if_neg q, if_neg q, decide_eq_false q] at hS
      clear q hR hI hok
      refine W_go ?_
      refine W_c1 [(0, (2056, 0)), (1, (2057, 0)), (2, (2058, 0)), (3, (2059, 0)), (4, (304, 0))] hS ?_
      refine W_go ?_
      refine W_ift ?_
      refine W_go ?_
      refine W_rt [] [(100, .ints []), (101, .ints []), (102, .ints []), (103, .ints []), (104, .ints [])] ?_
      exact ⟨rfl, rfl⟩
    rw [Gcc.stepS, Gcc.stepG, if_pos q, if_pos q, decide_eq_true q] at hS
    have hend : (g1.stG s1).p = 0 → runK 64 s g = (g1.stS s1, g1.stG s1, i + 1) := fun z => by rw [hR, runAt_end q z]
    have hgo : ¬ (g1.stG s1).p = 0 → (runK 64 s g = runAt (i + 1) (runK (64 - (i + 1)) (g1.stS s1) (g1.stG s1)) ∧ (i + 1) + (g1.stG s1).mu (g1.stS s1).h.T.length ≤ 40) ∧ (g1.stG s1).mu (g1.stS s1).h.T.length < g1.mu s1.h.T.length := fun z => by
      have h1 := mu_step hok z
      refine ⟨⟨by rw [hR, runAt_step q z, show 64 - (i + 1) = 63 - i by omega], ?_⟩, ?_⟩
      · rw [stS_T]; omega
      · rw [stS_T]; exact h1
    have hok' := q.step
    have l8 := hok'.1.1.1
    have bF := hok'.1.le
    have hlc := hok'.2.1.1
    have b8 : (((g1.stS s1).h.L.length ≤ 8 ∧ (g1.stS s1).h.R.length ≤ 8 ∧ (g1.stS s1).h.T.length ≤ 3) ∧ (g1.stS s1).F.length ≤ 8) ∧ (g1.stG s1).C.length ≤ 8 := by omega
    replace hok' : Hold _ := ⟨hok'⟩
    replace hend : Hold _ := ⟨hend⟩
    replace hgo : Hold _ := ⟨hgo⟩
    clear q l8 bF hlc hR hI hok hmu
    generalize hs' : g1.stS s1 = s' at *
    generalize hg' : g1.stG s1 = g' at *
    clear hs' hg'
    refine W_go ?_
    refine W_c1 [(0, (2056, 0)), (1, (2057, 0)), (2, (2058, 0)), (3, (2059, 0)), (4, (304, 0))] hS ?_
    refine W_go ?_
    refine W_iff ?_
    refine W_go ?_
    refine W_if (fun z => ?_) (fun z => ?_)
    · rw [hend.told z]
      refine W_go ?_
      refine W_rt [(4112, (100, 0)), (4113, (101, 0)), (4114, (102, 0)), (4115, (103, 0)), (4116, (104, 0))] [] ?_
      exact ⟨rfl, rfl⟩
    · have h1 := hgo.told z
      replace h1 : Hold _ := ⟨h1⟩
      refine W_go ?_
      refine W_rk 9 [(1024, (1024, 0)), (1032, (1032, 0)), (1040, (1040, 0)), (1048, (1048, 0)), (4112, (2056, 0)), (4113, (2057, 0)), (4114, (2058, 0)), (4115, (2059, 0)), (4116, (304, 0))] ?_
      refine W_bh (s', g', i + 1) ⟨⟨hok'.told, h1.told.1.1, h1.told.1.2⟩, ?_⟩ ?_ ?_
      · have := h1.told.1.2; dsimp only at this ⊢; omega
      · exact h1.told.2
      · rfl
end Go.Proofs.Ytdkdepfgilbkeaa.S
