/- Texts of this claim's own, laid as one: Gm Gs. Own work of this claim. -/
import Derived.Test.YtbobhbhgomkgpaaGreatDoorB6
import Derived.Test.YtbobhbhgomkgpaaGreatDoorB2
import Derived.Test.YtbobhbhgomkgpaaGreatDoorA5
import Derived.Test.YtbobhbhgomkgpaaGreatDoorSz
/- Contracts: the program's collector by steps. Own work of this claim. -/
namespace Go.Proofs.YtbobhbhgomkgpaaGreatDoor.S
set_option linter.all false
open Go Go.Proofs
set_option maxHeartbeats 4000000
set_option maxRecDepth 100000

theorem iSweptCell_c (s : Sto) (g : Gcc) (hl : (s.h.L.length ≤ 4194304 ∧ s.h.R.length ≤ 4194304 ∧ s.h.T.length ≤ 4194304) ∧ s.F.length ≤ 4194304) (hC : g.C.length ≤ 4194304) : Fn Tryz.prog 30 [(0, .c false (.ints s.h.L)), (1, .c false (.ints s.h.R)), (2, .c false (.ints s.h.T)), (3, .c false (.ints s.F)), (4, .c false (.ints g.C))] [.agg [.sl 0 0 s.h.L.length, .sl 1 0 s.h.R.length, .sl 2 0 s.h.T.length, .sl 3 0 s.F.length], .agg [.int .i64 g.p, .sl 4 0 g.C.length, .int .i64 g.a]] (fun r H => r = .int .i64 (g.swept s) ∧ H = []) := by
  have hv := iGcValid_c s g hl hC
  have hc := zContains_c s.F g.a (by omega)
  refine Fn_go Tryz.func30 ?_
  refine W_go ?_
  unfold Gcc.swept
  by_cases g1 : g.ok s
  case neg =>
    rw [decide_eq_false g1] at hv
    rw [if_neg g1]
    refine W_c1 [(0, (0, 0)), (1, (1, 0)), (2, (2, 0)), (3, (3, 0)), (4, (4, 0))] hv ?_
    refine W_ift ?_
    refine W_go ?_
    refine W_rt [] [] ?_
    exact ⟨rfl, rfl⟩
  rw [decide_eq_true g1] at hv
  rw [if_pos g1]
  have hat := g1.2.2
  unfold Gcc.atOk at hat
  have hlc := g1.2.1.1
  clear g1
  by_cases c1 : g.p = 3
  case neg =>
    have e : g.sw s = -1 := by rw [Gcc.sw, if_neg (fun q => c1 q.1)]
    rw [e]
    clear e hat hlc
    refine W_ch1 [(0, (0, 0)), (1, (1, 0)), (2, (2, 0)), (3, (3, 0)), (4, (4, 0))] hv ?_
    refine W_ift ?_
    refine W_go ?_
    refine W_rt [] [] ?_
    exact ⟨rfl, rfl⟩
  have ha : 0 ≤ g.a ∧ g.a < g.C.length := by omega
  clear hat hlc
  by_cases c2 : g.C.getD g.a.toNat 0 = 0
  case neg =>
    have e : g.sw s = -1 := by rw [Gcc.sw, if_neg (fun q => c2 q.2.1)]
    rw [e]
    clear e
    replace c1 := eq_true c1
    refine W_ch1 [(0, (0, 0)), (1, (1, 0)), (2, (2, 0)), (3, (3, 0)), (4, (4, 0))] hv ?_
    refine W_ift ?_
    refine W_go ?_
    refine W_rt [] [] ?_
    exact ⟨rfl, rfl⟩
  by_cases c3 : g.a ∈ s.F
  · have e : g.sw s = -1 := by rw [Gcc.sw, if_neg (fun q => q.2.2 c3)]
    rw [e]
    rw [decide_eq_true c3] at hc
    clear e c3
    replace c1 := eq_true c1
    replace c2 := eq_true c2
    refine W_ch2 [(0, (0, 0)), (1, (1, 0)), (2, (2, 0)), (3, (3, 0)), (4, (4, 0))] hv [(0, (3, 0))] hc ?_
    refine W_ift ?_
    refine W_go ?_
    refine W_rt [] [] ?_
    exact ⟨rfl, rfl⟩
  have e : g.sw s = g.a := by rw [Gcc.sw, if_pos ⟨c1, c2, c3⟩]
  rw [e]
  rw [decide_eq_false c3] at hc
  clear e c3
  replace c1 := eq_true c1
  replace c2 := eq_true c2
  refine W_ch2 [(0, (0, 0)), (1, (1, 0)), (2, (2, 0)), (3, (3, 0)), (4, (4, 0))] hv [(0, (3, 0))] hc ?_
  refine W_iff ?_
  refine W_go ?_
  refine W_rt [] [] ?_
  exact ⟨rfl, rfl⟩
theorem ilook_c (h : Hp) (C : List Int) (ho : h.ok) (hC : C.length = h.L.length) : Fn Tryz.prog 64 [(0, .c false (.ints h.L)), (1, .c false (.ints h.R)), (2, .c false (.ints h.T)), (3, .c true (.ints C))] [.agg [.sl 0 0 h.L.length, .sl 1 0 h.R.length, .sl 2 0 h.T.length], .sl 3 0 C.length]
    (fun r H => r = .bool (decide (0 ≤ idx C 1)) ∧ H = [(3, .c true (.ints (if 0 ≤ idx C 1 then blk h C (idx C 1).toNat else C)))]) := by
  have l8 := ho.1.2.1
  have hR : h.R.length = h.L.length := ho.1.2.2.1
  have hI := zIndex_c C 1 (by omega)
  refine Fn_go Tryz.func64 ?_
  rcases idx_cases C 1 with ⟨i, hi, ei, _⟩ | ⟨ei, _⟩
  case inr =>
    rw [ei] at hI ⊢
    rw [if_neg (by omega), decide_eq_false (by omega)]
    refine W_go ?_
    refine W_c1 [(0, (3, 0))] hI ?_
    refine W_go ?_
    refine W_if (fun _ => ?_) (fun q => ?_)
    case' refine_2 => exact absurd (by omega) q
    refine W_go ?_
    refine W_rt [(3, (3, 0))] [] ?_
    exact ⟨rfl, rfl⟩
  rw [ei] at hI ⊢
  rw [if_pos (by omega), decide_eq_true (by omega), Int.toNat_natCast]
  have kL := okP_get ho.2.1 (show i < h.L.length by omega)
  have kR := okP_get ho.2.2.1 (show i < h.R.length by omega)
  have e1 := shd_len C (h.L.getD i 0)
  have h1 := ishade_c C (h.L.getD i 0) (by omega) (by omega)
  have h2 := ishade_c (shd C (h.L.getD i 0)) (h.R.getD i 0) (by omega) (by omega)
  rw [e1] at h2
  have e2 := shd_len (shd C (h.L.getD i 0)) (h.R.getD i 0)
  have b1 : i < h.L.length ∧ i < h.R.length := by omega
  have b2 : i < (shd (shd C (h.L.getD i 0)) (h.R.getD i 0)).length := by omega
  have t1 : List.take C.length (shd C (h.L.getD i 0)) = shd C (h.L.getD i 0) := List.take_of_length_le (by omega)
  have t2 : List.take C.length (shd (shd C (h.L.getD i 0)) (h.R.getD i 0)) = shd (shd C (h.L.getD i 0)) (h.R.getD i 0) := List.take_of_length_le (by omega)
  have t3 : List.take C.length ((shd (shd C (h.L.getD i 0)) (h.R.getD i 0)).set i 2) = (shd (shd C (h.L.getD i 0)) (h.R.getD i 0)).set i 2 := List.take_of_length_le (by rw [List.length_set]; omega)
  have b3 : (C.length ≤ (shd (shd C (h.L.getD i 0)) (h.R.getD i 0)).length ∧ C.length ≤ (shd C (h.L.getD i 0)).length) ∧ (shd (shd C (h.L.getD i 0)) (h.R.getD i 0)).length ≤ C.length ∧ (shd C (h.L.getD i 0)).length ≤ C.length := by omega
  rw [← t1] at h2
  clear hR kL kR ho hC e1 e2 ei
  replace t1 : Hold _ := ⟨t1⟩
  replace t2 : Hold _ := ⟨t2⟩
  replace t3 : Hold _ := ⟨t3⟩
  unfold blk
  refine W_go ?_
  refine W_c1 [(0, (3, 0))] hI ?_
  refine W_go ?_
  refine W_if (fun q => ?_) (fun _ => ?_)
  · exact absurd q (by omega)
  refine W_go ?_
  refine W_c1 [(0, (3, 0))] h1 ?_
  refine W_go ?_
  refine W_c1 [(0, (3, 0))] h2 ?_
  rw [t1.told]
  refine W_go ?_
  refine W_rt [(3, (3, 0))] [] ?_
  simp [t2.told, t3.told]
theorem iwhiteG_c (q a : Int) (C : List Int) (p : Int) (hp : p = -1 ∨ 0 ≤ p ∧ p < C.length) (hC : C.length ≤ 4194304) :
    Fn Tryz.prog 66 [(0, .c false (.av 1 [.int .i64 q, .sl 1 0 C.length, .int .i64 a])), (1, .c false (.ints C))] [.int .i64 p, .ptr 0 0] (fun r H => r = .bool (decide (p ≠ -1 ∧ C.getD p.toNat 0 = 0)) ∧ H = []) := by
  refine Fn_go Tryz.func66 ?_
  by_cases c1 : p = -1
  · have e : decide (p ≠ -1 ∧ C.getD p.toNat 0 = 0) = false := decide_eq_false (fun q => q.1 c1)
    rw [e]
    clear e
    subst c1
    refine W_go ?_
    refine W_gh ?_
    refine W_go ?_
    refine W_rt [] [] ?_
    exact ⟨rfl, rfl⟩
  have e : decide (p ≠ -1 ∧ C.getD p.toNat 0 = 0) = decide (C.getD p.toNat 0 = 0) := by rw [decide_eq_decide]; exact ⟨fun q => q.2, fun q => ⟨c1, q⟩⟩
  rw [e]
  have hp' : 0 ≤ p ∧ p < C.length := by omega
  clear e hp
  refine W_go ?_
  refine W_gh ?_
  refine W_go ?_
  refine W_rt [] [] ?_
  exact ⟨rfl, rfl⟩
theorem zIndexFunc_c (T : List Int) (q a : Int) (C : List Int) (n : Nat) (hT : okP T n) (hn : n ≤ C.length) (hC : C.length ≤ 4194304) (hTl : T.length ≤ 4194304) :
    Fn Tryz.prog 65 [(0, .c false (.ints T)), (1, .c false (.av 1 [.int .i64 q, .sl 2 0 C.length, .int .i64 a])), (2, .c false (.ints C))] [.sl 0 0 T.length, .fn 66 [(1, 0)]] (fun r H => r = .int .i64 (wrt T C) ∧ H = []) := by
  replace hT : Hold _ := ⟨hT⟩
  refine Fn_go Tryz.func65 ?_
  refine W_go ?_
  refine W_lp (T := 9) (σ := Nat) (me := fun i => [(8, .int .i64 i)]) (mh := fun _ => []) (inv := fun i => i ≤ T.length ∧ Hold (∀ j, j < i → ¬ (T.getD j 0 ≠ -1 ∧ C.getD (T.getD j 0).toNat 0 = 0))) (m := fun i => T.length - i) (s0 := 0) ⟨by omega, ⟨by intro j hj; omega⟩⟩ ?_
  rintro i ⟨hi, hI⟩
  refine W_go ?_
  refine W_if (fun h2 => ?_) (fun h2 => ?_)
  case' refine_2 =>
    refine W_go ?_
    refine W_rt [] [] ?_
    exact ⟨by rw [wrt_none fun j hj => hI.told j (by omega)], rfl⟩
  have kT := okP_get hT.told (show i < T.length by omega)
  have hw := iwhiteG_c q a C (T.getD i 0) (by omega) hC
  replace kT : Hold _ := ⟨kT⟩
  by_cases c1 : T.getD i 0 ≠ -1 ∧ C.getD (T.getD i 0).toNat 0 = 0
  · rw [decide_eq_true c1] at hw
    replace c1 : Hold _ := ⟨c1⟩
    refine W_go ?_
    refine W_c1 [(0, (1, 0)), (1, (2, 0))] hw ?_
    refine W_ift ?_
    refine W_go ?_
    refine W_rt [] [] ?_
    exact ⟨by rw [wrt_at (by omega) hI.told c1.told], rfl⟩
  rw [decide_eq_false c1] at hw
  replace c1 : Hold _ := ⟨c1⟩
  refine W_go ?_
  refine W_c1 [(0, (1, 0)), (1, (2, 0))] hw ?_
  refine W_iff ?_
  refine W_go ?_
  refine W_bk (i + 1) ⟨by omega, ⟨fun j hj => ?_⟩⟩ (by omega)
  by_cases e : j = i
  · subst e; exact c1.told
  · exact hI.told j (by omega)
theorem iStepGc_c (s : Sto) (g : Gcc) (hl : (s.h.L.length ≤ 4194304 ∧ s.h.R.length ≤ 4194304 ∧ s.h.T.length ≤ 4194304) ∧ s.F.length ≤ 4194304) (hC : g.C.length ≤ 4194304) : Fn Tryz.prog 32 [(0, .c false (.ints s.h.L)), (1, .c false (.ints s.h.R)), (2, .c false (.ints s.h.T)), (3, .c false (.ints s.F)), (4, .c false (.ints g.C))] [.agg [.sl 0 0 s.h.L.length, .sl 1 0 s.h.R.length, .sl 2 0 s.h.T.length, .sl 3 0 s.F.length], .agg [.int .i64 g.p, .sl 4 0 g.C.length, .int .i64 g.a]]
    (fun r H => r = .tup [.agg [.sl 100 0 (g.stepS s).h.L.length, .sl 101 0 (g.stepS s).h.R.length, .sl 102 0 (g.stepS s).h.T.length, .sl 103 0 (g.stepS s).F.length], .agg [.int .i64 (g.stepG s).p, .sl 104 0 (g.stepG s).C.length, .int .i64 (g.stepG s).a], .bool (decide (g.stOk s))] ∧ H = [(100, .c true (.ints (g.stepS s).h.L)), (101, .c true (.ints (g.stepS s).h.R)), (102, .c true (.ints (g.stepS s).h.T)), (103, .c true (.ints (g.stepS s).F)), (104, .c true (.ints (g.stepG s).C))]) := by
  have hw := iSweptCell_c s g hl hC
  have hv := iGcValid_c s g hl hC
  have bad : ¬ g.stOk s → g.stepS s = Sto.zero ∧ g.stepG s = Gcc.zero ∧ decide (g.stOk s) = false := fun q => ⟨by rw [Gcc.stepS, if_neg q], by rw [Gcc.stepG, if_neg q], decide_eq_false q⟩
  refine Fn_go Tryz.func32 ?_
  by_cases g1 : g.ok s
  case neg =>
    rw [decide_eq_false g1] at hv
    obtain ⟨b1, b2, b3⟩ := bad (fun q => g1 q.1)
    rw [b1, b2, b3]
    clear b1 b2 b3 bad
    refine W_go ?_
    refine W_c1 [(0, (0, 0)), (1, (1, 0)), (2, (2, 0)), (3, (3, 0)), (4, (4, 0))] hw ?_
    refine W_go ?_
    refine W_c1 [(0, (0, 0)), (1, (1, 0)), (2, (2, 0)), (3, (3, 0)), (4, (4, 0))] hv ?_
    refine W_ift ?_
    refine W_go ?_
    refine W_rt [] [(100, .ints []), (101, .ints []), (102, .ints []), (103, .ints []), (104, .ints [])] ?_
    exact ⟨rfl, rfl⟩
  rw [decide_eq_true g1] at hv
  rw [show g.swept s = g.sw s by rw [Gcc.swept, if_pos g1]] at hw
  have hct := zContains_c s.h.T (g.sw s) (by omega)
  by_cases g2 : g.sw s ≠ -1 ∧ g.sw s ∈ s.h.T
  · obtain ⟨b1, b2, b3⟩ := bad (fun q => q.2 g2)
    rw [b1, b2, b3]
    rw [decide_eq_true g2.2] at hct
    have g3 := g2.1
    clear b1 b2 b3 bad g1 g2
    generalize g.sw s = x at *
    refine W_go ?_
    refine W_c1 [(0, (0, 0)), (1, (1, 0)), (2, (2, 0)), (3, (3, 0)), (4, (4, 0))] hw ?_
    refine W_go ?_
    refine W_ch2 [(0, (0, 0)), (1, (1, 0)), (2, (2, 0)), (3, (3, 0)), (4, (4, 0))] hv [(0, (2, 0))] hct ?_
    refine W_ift ?_
    refine W_go ?_
    refine W_rt [] [(100, .ints []), (101, .ints []), (102, .ints []), (103, .ints []), (104, .ints [])] ?_
    exact ⟨rfl, rfl⟩
  have gs : g.stOk s := ⟨g1, g2⟩
  rw [Gcc.stepS, Gcc.stepG, if_pos gs, if_pos gs, decide_eq_true gs]
  have hk := zClone_c g.C (by omega)
  have hy := iagain_c s hl
  have w : g.weak s := g1.weak
  have hlc := w.c.1
  have l8 := w.h.1
  have hat := w.a
  unfold Gcc.atOk at hat
  have oT := w.h.2.2.2
  have oH := w.h
  have bF := g1.1.le
  have b8 : ((s.h.L.length ≤ 8 ∧ s.h.R.length ≤ 8 ∧ s.h.T.length ≤ 3) ∧ g.C.length ≤ 8) ∧ s.F.length ≤ 8 := by omega
  have bG : s.h.L.length ≤ g.C.length ∧ g.C.length ≤ s.h.L.length := by omega
  clear bad gs g1 w bF
  replace l8 : Hold _ := ⟨l8⟩
  replace hlc : Hold _ := ⟨hlc⟩
  replace oT : Hold _ := ⟨oT⟩
  replace oH : Hold _ := ⟨oH⟩
  refine W_go ?_
  refine W_c1 [(0, (0, 0)), (1, (1, 0)), (2, (2, 0)), (3, (3, 0)), (4, (4, 0))] hw ?_
  by_cases g3 : g.sw s = -1
  · have eS : g.stS s = s := by unfold Gcc.stS; rw [if_neg (fun q => q g3)]
    rw [eS]
    clear eS g2
    rw [g3] at hw ⊢
    replace g3 : Hold _ := ⟨g3⟩
    refine W_go ?_
    refine W_ch1 [(0, (0, 0)), (1, (1, 0)), (2, (2, 0)), (3, (3, 0)), (4, (4, 0))] hv ?_
    refine W_iff ?_
    refine W_go ?_
    refine W_c1 [(0, (0, 0)), (1, (1, 0)), (2, (2, 0)), (3, (3, 0))] hy ?_
    refine W_go ?_
    refine W_c1 [(0, (4, 0))] hk ?_
    refine W_go ?_
    by_cases p0 : g.p = 0
    · have eG : g.stG s = ⟨1, List.replicate g.C.length 0, 0⟩ := by rw [Gcc.stG, if_pos p0]
      rw [eG]
      clear eG hat
      have l9 : g.C.length ≤ 8 := by omega
      replace l8 : Hold _ := ⟨l8⟩
      replace hlc : Hold _ := ⟨hlc⟩
      refine W_if (fun _ => ?_) (fun q => ?_)
      case' refine_2 => exact absurd p0 q
      refine W_go ?_
      refine W_rt [(5128, (100, 0)), (5129, (101, 0)), (5130, (102, 0)), (5131, (103, 0)), (9240, (104, 0))] [] ?_
      simp
    refine W_if (fun q => ?_) (fun _ => ?_)
    · exact absurd q p0
    refine W_go ?_
    by_cases p1 : g.p = 1
    · have ha : 0 ≤ g.a ∧ g.a < s.h.T.length := by omega
      have eG : g.stG s = Gcc.nx ⟨g.p, shd g.C (s.h.T.getD g.a.toNat 0), g.a⟩ s.h.T.length 2 := by rw [Gcc.stG, if_neg p0, if_pos p1, p1]
      have kT := okP_get oT.told (show g.a.toNat < s.h.T.length by omega)
      have hb := ishade_c g.C (s.h.T.getD g.a.toNat 0) (by omega) (by omega)
      have eb := shd_len g.C (s.h.T.getD g.a.toNat 0)
      have tD : List.take g.C.length (shd g.C (s.h.T.getD g.a.toNat 0)) = shd g.C (s.h.T.getD g.a.toNat 0) := List.take_of_length_le (by omega)
      rw [eG]
      unfold Gcc.nx
      dsimp only
      generalize shd g.C (s.h.T.getD g.a.toNat 0) = D at *
      clear eG hat kT
      replace l8 : Hold _ := ⟨l8⟩
      replace hlc : Hold _ := ⟨hlc⟩
      replace eb : Hold _ := ⟨eb⟩
      replace tD : Hold _ := ⟨tD⟩
      refine W_if (fun _ => ?_) (fun q => ?_)
      case' refine_2 => exact absurd p1 q
      refine W_go ?_
      refine W_dc1 [(0, (6160, 0))] hb [.c _ _ _] ?_
      refine W_go ?_
      refine W_if (fun q => ?_) (fun q => ?_)
      · rw [if_pos q]
        refine W_go ?_
        refine W_rt [(5128, (100, 0)), (5129, (101, 0)), (5130, (102, 0)), (5131, (103, 0)), (6160, (104, 0))] [] ?_
        simp [tD.told, eb.told]
      · rw [if_neg q]
        refine W_go ?_
        refine W_rt [(5128, (100, 0)), (5129, (101, 0)), (5130, (102, 0)), (5131, (103, 0)), (6160, (104, 0))] [] ?_
        simp [tD.told, eb.told]
    refine W_if (fun q => ?_) (fun _ => ?_)
    · exact absurd q p1
    refine W_go ?_
    by_cases p2 : g.p = 2
    · have eG : g.stG s = g.mark s := by rw [Gcc.stG, if_neg p0, if_neg p1, if_pos p2]
      have hlk := ilook_c s.h g.C oH.told hlc.told
      rw [eG]
      unfold Gcc.mark
      refine W_if (fun _ => ?_) (fun q => ?_)
      case' refine_2 => exact absurd p2 q
      by_cases i0 : 0 ≤ idx g.C 1
      · rw [if_pos i0, decide_eq_true i0] at hlk
        rw [if_pos i0]
        have eb := blk_len s.h g.C (idx g.C 1).toNat
        have tD : List.take g.C.length (blk s.h g.C (idx g.C 1).toNat) = blk s.h g.C (idx g.C 1).toNat := List.take_of_length_le (by omega)
        generalize blk s.h g.C (idx g.C 1).toNat = D at *
        clear eG hat
        replace l8 : Hold _ := ⟨l8⟩
        replace hlc : Hold _ := ⟨hlc⟩
        replace eb : Hold _ := ⟨eb⟩
        replace tD : Hold _ := ⟨tD⟩
        refine W_go ?_
        refine W_c1 [(0, (5128, 0)), (1, (5129, 0)), (2, (5130, 0)), (3, (6160, 0))] hlk ?_
        refine W_ift ?_
        refine W_go ?_
        refine W_rt [(5128, (100, 0)), (5129, (101, 0)), (5130, (102, 0)), (5131, (103, 0)), (6160, (104, 0))] [] ?_
        simp [tD.told, eb.told]
      rw [if_neg i0, decide_eq_false i0] at hlk
      rw [if_neg i0]
      have hif := zIndexFunc_c s.h.T g.p g.a g.C s.h.L.length oT.told (by omega) (by omega) (by omega)
      rcases wrt_cases s.h.T g.C with ⟨i, hi, ew, _⟩ | ⟨ew, _⟩
      · rw [ew] at hif ⊢
        rw [if_pos (by omega), Int.toNat_natCast]
        have kT := okP_get oT.told hi
        have hb := ishade_c g.C (s.h.T.getD i 0) (by omega) (by omega)
        have eb := shd_len g.C (s.h.T.getD i 0)
        have tD : List.take g.C.length (shd g.C (s.h.T.getD i 0)) = shd g.C (s.h.T.getD i 0) := List.take_of_length_le (by omega)
        generalize shd g.C (s.h.T.getD i 0) = D at *
        have l9 : s.h.T.length ≤ 3 := by omega
        clear eG hat kT
        replace l8 : Hold _ := ⟨l8⟩
        replace hlc : Hold _ := ⟨hlc⟩
        replace eb : Hold _ := ⟨eb⟩
        replace tD : Hold _ := ⟨tD⟩
        refine W_go ?_
        refine W_c1 [(0, (5128, 0)), (1, (5129, 0)), (2, (5130, 0)), (3, (6160, 0))] hlk ?_
        refine W_iff ?_
        refine W_go ?_
        refine W_c1 [(0, (5130, 0)), (1, (1032, 0)), (2, (6160, 0))] hif ?_
        refine W_go ?_
        refine W_if (fun _ => ?_) (fun q => ?_)
        case' refine_2 => exact absurd (by omega) q
        refine W_go ?_
        refine W_dc1 [(0, (6160, 0))] hb [.c _ _ _] ?_
        refine W_go ?_
        refine W_rt [(5128, (100, 0)), (5129, (101, 0)), (5130, (102, 0)), (5131, (103, 0)), (6160, (104, 0))] [] ?_
        simp [tD.told, eb.told]
      · rw [ew] at hif ⊢
        rw [if_neg (by omega)]
        clear eG hat
        replace l8 : Hold _ := ⟨l8⟩
        replace hlc : Hold _ := ⟨hlc⟩
        refine W_go ?_
        refine W_c1 [(0, (5128, 0)), (1, (5129, 0)), (2, (5130, 0)), (3, (6160, 0))] hlk ?_
        refine W_iff ?_
        refine W_go ?_
        refine W_c1 [(0, (5130, 0)), (1, (1032, 0)), (2, (6160, 0))] hif ?_
        refine W_go ?_
        refine W_if (fun q => ?_) (fun _ => ?_)
        · exact absurd q (by omega)
        refine W_go ?_
        refine W_rt [(5128, (100, 0)), (5129, (101, 0)), (5130, (102, 0)), (5131, (103, 0)), (6160, (104, 0))] [] ?_
        exact ⟨rfl, rfl⟩
    refine W_if (fun q => ?_) (fun _ => ?_)
    · exact absurd q p2
    refine W_go ?_
    have p3 : g.p = 3 := by omega
    have ha : 0 ≤ g.a ∧ g.a < g.C.length := by omega
    have eG : g.stG s = Gcc.nx ⟨g.p, g.C.set g.a.toNat 0, g.a⟩ g.C.length 0 := by rw [Gcc.stG, if_neg p0, if_neg p1, if_neg p2, p3]
    have tD : List.take g.C.length (g.C.set g.a.toNat 0) = g.C.set g.a.toNat 0 := List.take_of_length_le (by simp)
    rw [eG]
    unfold Gcc.nx
    dsimp only
    clear eG hat
    replace l8 : Hold _ := ⟨l8⟩
    replace hlc : Hold _ := ⟨hlc⟩
    replace tD : Hold _ := ⟨tD⟩
    refine W_if (fun _ => ?_) (fun q => ?_)
    case' refine_2 => exact absurd p3 q
    refine W_go ?_
    refine W_iff ?_
    refine W_go ?_
    refine W_if (fun q => ?_) (fun q => ?_)
    · rw [if_pos q]
      refine W_go ?_
      refine W_rt [(5128, (100, 0)), (5129, (101, 0)), (5130, (102, 0)), (5131, (103, 0)), (6160, (104, 0))] [] ?_
      simp [tD.told]
    · rw [if_neg q]
      refine W_go ?_
      refine W_rt [(5128, (100, 0)), (5129, (101, 0)), (5130, (102, 0)), (5131, (103, 0)), (6160, (104, 0))] [] ?_
      simp [tD.told]
  obtain ⟨p3, ex, _, _⟩ := sw_at g3
  have eS : g.stS s = s.clr [g.sw s] := by unfold Gcc.stS; rw [if_pos g3]
  rw [decide_eq_false (fun q => g2 ⟨g3, q⟩)] at hct
  have ha : 0 ≤ g.a ∧ g.a < g.C.length := by omega
  have hcl := iclear_c s [g.sw s] oH.told ⟨by omega, by simp⟩ (by intro x hx; simp at hx; subst hx; rw [ex]; omega)
  have eG : g.stG s = Gcc.nx ⟨g.p, g.C.set g.a.toNat 0, g.a⟩ g.C.length 0 := by rw [Gcc.stG, if_neg (by omega), if_neg (by omega), if_neg (by omega), p3]
  have tD : List.take g.C.length (g.C.set g.a.toNat 0) = g.C.set g.a.toNat 0 := List.take_of_length_le (by simp)
  rw [eS, eG]
  unfold Gcc.nx Sto.clr
  dsimp only
  clear eS eG hat ex g2
  have eL := clrL_len s.h.L [g.sw s]
  have eR := clrL_len s.h.R [g.sw s]
  generalize clrL s.h.L [g.sw s] = L' at *
  generalize clrL s.h.R [g.sw s] = R' at *
  generalize g.sw s = x at *
  have q0 : ¬ g.p = 0 := by omega
  have q1 : ¬ g.p = 1 := by omega
  have q2 : ¬ g.p = 2 := by omega
  replace p3 : Hold _ := ⟨p3⟩
  have tL : List.take s.h.L.length L' = L' := List.take_of_length_le (by omega)
  have tR : List.take s.h.R.length R' = R' := List.take_of_length_le (by omega)
  replace l8 : Hold _ := ⟨l8⟩
  replace hlc : Hold _ := ⟨hlc⟩
  replace tD : Hold _ := ⟨tD⟩
  replace tL : Hold _ := ⟨tL⟩
  replace tR : Hold _ := ⟨tR⟩
  replace eL : Hold _ := ⟨eL⟩
  replace eR : Hold _ := ⟨eR⟩
  refine W_go ?_
  refine W_ch2 [(0, (0, 0)), (1, (1, 0)), (2, (2, 0)), (3, (3, 0)), (4, (4, 0))] hv [(0, (2, 0))] hct ?_
  refine W_iff ?_
  refine W_go ?_
  refine W_c1 [(0, (0, 0)), (1, (1, 0)), (2, (2, 0)), (3, (3, 0))] hy ?_
  refine W_go ?_
  refine W_c1 [(0, (4, 0))] hk ?_
  refine W_go ?_
  refine W_if (fun q => ?_) (fun _ => ?_)
  · exact absurd q q0
  refine W_go ?_
  refine W_if (fun q => ?_) (fun _ => ?_)
  · exact absurd q q1
  refine W_go ?_
  refine W_if (fun q => ?_) (fun _ => ?_)
  · exact absurd q q2
  refine W_go ?_
  refine W_if (fun _ => ?_) (fun q => ?_)
  case' refine_2 => exact absurd p3.told q
  refine W_go ?_
  refine W_if (fun _ => ?_) (fun q => ?_)
  case' refine_2 => exact absurd g3 q
  refine W_go ?_
  refine W_c1 [(0, (1024, 0)), (1, (5128, 0)), (2, (5129, 0)), (3, (5130, 0)), (4, (5131, 0)), (5, (23560, 0))] hcl ?_
  refine W_go ?_
  refine W_if (fun q => ?_) (fun q => ?_)
  · rw [if_pos q]
    refine W_go ?_
    refine W_rt [(5128, (100, 0)), (5129, (101, 0)), (5130, (102, 0)), (23568, (103, 0)), (6160, (104, 0))] [] ?_
    simp [tD.told, tL.told, tR.told, eL.told, eR.told]
  · rw [if_neg q]
    refine W_go ?_
    refine W_rt [(5128, (100, 0)), (5129, (101, 0)), (5130, (102, 0)), (23568, (103, 0)), (6160, (104, 0))] [] ?_
    simp [tD.told, tL.told, tR.told, eL.told, eR.told]
end Go.Proofs.YtbobhbhgomkgpaaGreatDoor.S

/- Contracts: the reference's step of a collector, runs of both, what is drawn for them. Own work of this claim. -/
namespace Go.Proofs.YtbobhbhgomkgpaaGreatDoor.S
set_option linter.all false
open Go Go.Proofs
set_option maxHeartbeats 4000000
set_option maxRecDepth 100000

end Go.Proofs.YtbobhbhgomkgpaaGreatDoor.S
