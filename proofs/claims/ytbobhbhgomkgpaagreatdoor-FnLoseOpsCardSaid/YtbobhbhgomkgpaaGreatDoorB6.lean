/- Texts of this claim's own, laid as one: Gh Gi Gk. Own work of this claim. -/
import Derived.Test.YtbobhbhgomkgpaaGreatDoorB4
import Derived.Test.YtbobhbhgomkgpaaGreatDoorB1
import Derived.Test.YtbobhbhgomkgpaaGreatDoorA5
import Derived.Test.YtbobhbhgomkgpaaGreatDoorB3
/- Contracts: collectors, their colors. Own work of this claim. -/
namespace Go.Proofs.YtbobhbhgomkgpaaGreatDoor.S
set_option linter.all false
open Go Go.Proofs
set_option maxHeartbeats 4000000
set_option maxRecDepth 100000

def Gcc.fresh (s : Sto) : Gcc := if s.valid then ⟨0, List.replicate s.h.L.length 0, 0⟩ else .zero
theorem icolorsOk_c (C : List Int) (n : Nat) (hC : C.length ≤ 4194304) (hn : n ≤ 4194304) : Fn Tryz.prog 100 [(0, .c false (.ints C))] [.sl 0 0 C.length, .int .i64 n] (fun r H => r = .bool (decide (colOk C n)) ∧ H = []) := by
  refine Fn_go Tryz.func100 ?_
  refine W_go ?_
  refine W_lp (T := 10) (σ := Nat) (me := fun i => [(9, .int .i64 i)]) (mh := fun _ => []) (inv := fun i => i ≤ C.length ∧ Hold (∀ j, j < i → 0 ≤ C.getD j 0 ∧ C.getD j 0 ≤ 2)) (m := fun i => C.length - i) (s0 := 0) ⟨by omega, ⟨by intro j hj; omega⟩⟩ ?_
  rintro i ⟨hi, hI⟩
  refine W_go ?_
  refine W_if (fun h2 => ?_) (fun h2 => ?_)
  case' refine_2 =>
    have e : decide (colOk C n) = decide ((C.length : Int) = n) := by
      rw [decide_eq_decide]
      refine ⟨fun q => by have := q.1; omega, fun q => ⟨by omega, fun j hj => hI.told j (by omega)⟩⟩
    rw [e]
    refine W_go ?_
    refine W_rt [] [] ?_
    exact ⟨rfl, rfl⟩
  by_cases c1 : C.getD i 0 < 0
  · refine W_go ?_
    refine W_gh ?_
    refine W_ift ?_
    refine W_go ?_
    refine W_rt [] [] ?_
    exact ⟨by rw [decide_eq_false]; intro q; have := q.2 i (by omega); omega, rfl⟩
  by_cases c2 : 2 < C.getD i 0
  · refine W_go ?_
    refine W_gh ?_
    refine W_ift ?_
    refine W_go ?_
    refine W_rt [] [] ?_
    exact ⟨by rw [decide_eq_false]; intro q; have := q.2 i (by omega); omega, rfl⟩
  refine W_go ?_
  refine W_gh ?_
  refine W_iff ?_
  refine W_go ?_
  refine W_bk (i + 1) ⟨by omega, ⟨fun j hj => ?_⟩⟩ (by omega)
  by_cases e : j = i
  · subst e; omega
  · exact hI.told j (by omega)
theorem sColoredValid_c (h : Hp) (C : List Int) (hl : h.L.length ≤ 4194304 ∧ h.R.length ≤ 4194304 ∧ h.T.length ≤ 4194304) (hC : C.length ≤ 4194304) : Fn Tryz.prog 117 [(0, .c false (.ints h.L)), (1, .c false (.ints h.R)), (2, .c false (.ints h.T)), (3, .c false (.ints C))] [.agg [.sl 0 0 h.L.length, .sl 1 0 h.R.length, .sl 2 0 h.T.length, .sl 3 0 C.length]] (fun r H => r = .bool (decide (h.ok ∧ colOk C h.L.length)) ∧ H = []) := by
  have hv := sHeapValid_c h hl
  refine Fn_go Tryz.func117 ?_
  refine W_go ?_
  by_cases g1 : h.ok
  case neg =>
    rw [show h.valid = false by rw [Hp.valid, decide_eq_false g1]] at hv
    refine W_c1 [(0, (0, 0)), (1, (1, 0)), (2, (2, 0))] hv ?_
    refine W_ift ?_
    refine W_go ?_
    refine W_rt [] [] ?_
    exact ⟨by rw [decide_eq_false (fun q => g1 q.1)], rfl⟩
  rw [(Hp.ok_iff h).2 g1] at hv
  refine W_c1 [(0, (0, 0)), (1, (1, 0)), (2, (2, 0))] hv ?_
  refine W_if (fun g2 => ?_) (fun g2 => ?_)
  · refine W_go ?_
    refine W_rt [] [] ?_
    exact ⟨by rw [decide_eq_false]; intro q; exact g2 (by rw [q.2.1]), rfl⟩
  have g2 : (C.length : Int) = h.L.length := Decidable.of_not_not g2
  have g3 : C.length = h.L.length := by omega
  clear g2
  replace g3 : Hold _ := ⟨g3⟩
  replace g1 : Hold _ := ⟨g1⟩
  refine W_go ?_
  refine W_lp (T := 4) (σ := Nat) (me := fun i => [(3, .int .i64 i)]) (mh := fun _ => []) (inv := fun i => i ≤ C.length ∧ Hold (∀ j, j < i → 0 ≤ C.getD j 0 ∧ C.getD j 0 ≤ 2)) (m := fun i => C.length - i) (s0 := 0) ⟨by omega, ⟨by intro j hj; omega⟩⟩ ?_
  rintro i ⟨hi, hI⟩
  refine W_go ?_
  refine W_if (fun h2 => ?_) (fun h2 => ?_)
  case' refine_2 =>
    refine W_go ?_
    refine W_rt [] [] ?_
    exact ⟨by rw [decide_eq_true]; exact ⟨g1.told, g3.told, fun j hj => hI.told j (by omega)⟩, rfl⟩
  by_cases c1 : C.getD i 0 < 0
  · refine W_go ?_
    refine W_gh ?_
    refine W_ift ?_
    refine W_go ?_
    refine W_rt [] [] ?_
    exact ⟨by rw [decide_eq_false]; intro q; have := q.2.2 i (by omega); omega, rfl⟩
  by_cases c2 : 2 < C.getD i 0
  · refine W_go ?_
    refine W_gh ?_
    refine W_ift ?_
    refine W_go ?_
    refine W_rt [] [] ?_
    exact ⟨by rw [decide_eq_false]; intro q; have := q.2.2 i (by omega); omega, rfl⟩
  refine W_go ?_
  refine W_gh ?_
  refine W_iff ?_
  refine W_go ?_
  refine W_bk (i + 1) ⟨by omega, ⟨fun j hj => ?_⟩⟩ (by omega)
  by_cases e : j = i
  · subst e; omega
  · exact hI.told j (by omega)
theorem iGcValid_c (s : Sto) (g : Gcc) (hl : (s.h.L.length ≤ 4194304 ∧ s.h.R.length ≤ 4194304 ∧ s.h.T.length ≤ 4194304) ∧ s.F.length ≤ 4194304) (hC : g.C.length ≤ 4194304) : Fn Tryz.prog 58 [(0, .c false (.ints s.h.L)), (1, .c false (.ints s.h.R)), (2, .c false (.ints s.h.T)), (3, .c false (.ints s.F)), (4, .c false (.ints g.C))] [.agg [.sl 0 0 s.h.L.length, .sl 1 0 s.h.R.length, .sl 2 0 s.h.T.length, .sl 3 0 s.F.length], .agg [.int .i64 g.p, .sl 4 0 g.C.length, .int .i64 g.a]] (fun r H => r = .bool (decide (g.ok s)) ∧ H = []) := by
  have hv := iStoreValid_c s hl
  have hc := icolorsOk_c g.C s.h.L.length hC (by omega)
  refine Fn_go Tryz.func58 ?_
  refine W_go ?_
  by_cases g1 : s.ok
  case neg =>
    rw [show s.valid = false by rw [Sto.valid, decide_eq_false g1]] at hv
    refine W_c1 [(0, (0, 0)), (1, (1, 0)), (2, (2, 0)), (3, (3, 0))] hv ?_
    refine W_ift ?_
    refine W_go ?_
    refine W_rt [] [] ?_
    exact ⟨by rw [decide_eq_false (fun q => g1 q.1)], rfl⟩
  rw [(Sto.ok_iff s).2 g1] at hv
  by_cases g2 : colOk g.C s.h.L.length
  case neg =>
    rw [decide_eq_false g2] at hc
    refine W_c2 [(0, (0, 0)), (1, (1, 0)), (2, (2, 0)), (3, (3, 0))] hv [(0, (4, 0))] hc ?_
    refine W_ift ?_
    refine W_go ?_
    refine W_rt [] [] ?_
    exact ⟨by rw [decide_eq_false (fun q => g2 q.2.1)], rfl⟩
  rw [decide_eq_true g2] at hc
  replace g1 : Hold _ := ⟨g1⟩
  replace g2 : Hold _ := ⟨g2⟩
  by_cases g3 : g.a < 0
  · refine W_ch2 [(0, (0, 0)), (1, (1, 0)), (2, (2, 0)), (3, (3, 0))] hv [(0, (4, 0))] hc ?_
    refine W_ift ?_
    refine W_go ?_
    refine W_rt [] [] ?_
    exact ⟨by rw [decide_eq_false]; rintro ⟨_, _, q, _⟩; omega, rfl⟩
  refine W_ch2 [(0, (0, 0)), (1, (1, 0)), (2, (2, 0)), (3, (3, 0))] hv [(0, (4, 0))] hc ?_
  refine W_iff ?_
  have key : g.ok s ↔ g.atOk s := ⟨fun q => q.2.2, fun q => ⟨g1.told, g2.told, q⟩⟩
  replace key : Hold _ := ⟨key⟩
  unfold Gcc.atOk at key
  have fin : ∀ b : Bool, (b = true ↔ g.ok s) → b = decide (g.ok s) := by
    intro b q
    by_cases z : g.ok s
    · rw [decide_eq_true z]; exact q.2 z
    · rw [decide_eq_false z]; cases b
      · rfl
      · exact absurd (q.1 rfl) z
  replace fin : Hold _ := ⟨fin⟩
  refine W_go ?_
  refine W_if (fun p0 => ?_) (fun p0 => ?_)
  · refine W_go ?_
    refine W_if (fun _ => ?_) (fun z => ?_)
    case' refine_2 => exact absurd p0 z
    refine W_go ?_
    refine W_rt [] [] ?_
    exact ⟨by congr 1; apply fin.told; rw [key.told, decide_eq_true_eq]; omega, rfl⟩
  refine W_go ?_
  refine W_if (fun p2 => ?_) (fun p2 => ?_)
  · refine W_go ?_
    refine W_rt [] [] ?_
    exact ⟨by congr 1; apply fin.told; rw [key.told, decide_eq_true_eq]; omega, rfl⟩
  refine W_go ?_
  refine W_if (fun p1 => ?_) (fun p1 => ?_)
  · refine W_go ?_
    refine W_rt [] [] ?_
    exact ⟨by congr 1; apply fin.told; rw [key.told, decide_eq_true_eq]; omega, rfl⟩
  refine W_go ?_
  refine W_if (fun p3 => ?_) (fun p3 => ?_)
  · refine W_go ?_
    refine W_rt [] [] ?_
    exact ⟨by congr 1; apply fin.told; rw [key.told, decide_eq_true_eq]; omega, rfl⟩
  refine W_go ?_
  refine W_rt [] [] ?_
  exact ⟨by congr 1; apply fin.told; rw [key.told]; simp only [Bool.false_eq_true, false_iff]; omega, rfl⟩
theorem sGcValid_c (s : Sto) (g : Gcc) (hl : (s.h.L.length ≤ 4194304 ∧ s.h.R.length ≤ 4194304 ∧ s.h.T.length ≤ 4194304) ∧ s.F.length ≤ 4194304) (hC : g.C.length ≤ 4194304) : Fn Tryz.prog 92 [(0, .c false (.ints s.h.L)), (1, .c false (.ints s.h.R)), (2, .c false (.ints s.h.T)), (3, .c false (.ints s.F)), (4, .c false (.ints g.C))] [.agg [.sl 0 0 s.h.L.length, .sl 1 0 s.h.R.length, .sl 2 0 s.h.T.length, .sl 3 0 s.F.length], .agg [.int .i64 g.p, .sl 4 0 g.C.length, .int .i64 g.a]] (fun r H => r = .bool (decide (g.ok s)) ∧ H = []) := by
  have hv := sStoreValid_c s hl
  have hc := sColoredValid_c s.h g.C (by omega) hC
  refine Fn_go Tryz.func92 ?_
  refine W_go ?_
  by_cases g1 : s.ok
  case neg =>
    rw [show s.valid = false by rw [Sto.valid, decide_eq_false g1]] at hv
    refine W_c1 [(0, (0, 0)), (1, (1, 0)), (2, (2, 0)), (3, (3, 0))] hv ?_
    refine W_ift ?_
    refine W_go ?_
    refine W_rt [] [] ?_
    exact ⟨by rw [decide_eq_false (fun q => g1 q.1)], rfl⟩
  rw [(Sto.ok_iff s).2 g1] at hv
  by_cases g2 : colOk g.C s.h.L.length
  case neg =>
    rw [decide_eq_false (fun q => g2 q.2)] at hc
    refine W_c2 [(0, (0, 0)), (1, (1, 0)), (2, (2, 0)), (3, (3, 0))] hv [(0, (0, 0)), (1, (1, 0)), (2, (2, 0)), (3, (4, 0))] hc ?_
    refine W_ift ?_
    refine W_go ?_
    refine W_rt [] [] ?_
    exact ⟨by rw [decide_eq_false (fun q => g2 q.2.1)], rfl⟩
  rw [decide_eq_true (show s.h.ok ∧ colOk g.C s.h.L.length from ⟨g1.1, g2⟩)] at hc
  replace g1 : Hold _ := ⟨g1⟩
  replace g2 : Hold _ := ⟨g2⟩
  by_cases g3 : g.a < 0
  · refine W_ch2 [(0, (0, 0)), (1, (1, 0)), (2, (2, 0)), (3, (3, 0))] hv [(0, (0, 0)), (1, (1, 0)), (2, (2, 0)), (3, (4, 0))] hc ?_
    refine W_ift ?_
    refine W_go ?_
    refine W_rt [] [] ?_
    exact ⟨by rw [decide_eq_false]; rintro ⟨_, _, q, _⟩; omega, rfl⟩
  refine W_ch2 [(0, (0, 0)), (1, (1, 0)), (2, (2, 0)), (3, (3, 0))] hv [(0, (0, 0)), (1, (1, 0)), (2, (2, 0)), (3, (4, 0))] hc ?_
  refine W_iff ?_
  have key : g.ok s ↔ g.atOk s := ⟨fun q => q.2.2, fun q => ⟨g1.told, g2.told, q⟩⟩
  replace key : Hold _ := ⟨key⟩
  unfold Gcc.atOk at key
  have fin : ∀ b : Bool, (b = true ↔ g.ok s) → b = decide (g.ok s) := by
    intro b q
    by_cases z : g.ok s
    · rw [decide_eq_true z]; exact q.2 z
    · rw [decide_eq_false z]; cases b
      · rfl
      · exact absurd (q.1 rfl) z
  replace fin : Hold _ := ⟨fin⟩
  refine W_go ?_
  refine W_if (fun p0 => ?_) (fun p0 => ?_)
  · refine W_go ?_
    refine W_if (fun _ => ?_) (fun z => ?_)
    case' refine_2 => exact absurd p0 z
    refine W_go ?_
    refine W_rt [] [] ?_
    exact ⟨by congr 1; apply fin.told; rw [key.told, decide_eq_true_eq]; omega, rfl⟩
  refine W_go ?_
  refine W_if (fun p2 => ?_) (fun p2 => ?_)
  · refine W_go ?_
    refine W_rt [] [] ?_
    exact ⟨by congr 1; apply fin.told; rw [key.told, decide_eq_true_eq]; omega, rfl⟩
  refine W_go ?_
  refine W_if (fun p1 => ?_) (fun p1 => ?_)
  · refine W_go ?_
    refine W_rt [] [] ?_
    exact ⟨by congr 1; apply fin.told; rw [key.told, decide_eq_true_eq]; omega, rfl⟩
  refine W_go ?_
  refine W_if (fun p3 => ?_) (fun p3 => ?_)
  · refine W_go ?_
    refine W_rt [] [] ?_
    exact ⟨by congr 1; apply fin.told; rw [key.told, decide_eq_true_eq]; omega, rfl⟩
  refine W_go ?_
  refine W_rt [] [] ?_
  exact ⟨by congr 1; apply fin.told; rw [key.told]; simp only [Bool.false_eq_true, false_iff]; omega, rfl⟩
theorem sl6Copy_c (g : Gcc) (hC : g.C.length ≤ 4194304) : Fn Tryz.prog 95 [(0, .c false (.ints g.C))] [.agg [.int .i64 g.p, .sl 0 0 g.C.length, .int .i64 g.a]] (fun r H => r = .agg [.int .i64 g.p, .sl 100 0 g.C.length, .int .i64 g.a] ∧ H = [(100, .c true (.ints g.C))]) := by
  refine Fn_go Tryz.func95 ?_
  refine W_go ?_
  refine W_rt [(2088, (100, 0))] [] ?_
  exact ⟨rfl, rfl⟩
theorem ishade_c (C : List Int) (c : Int) (hc : c = -1 ∨ 0 ≤ c ∧ c < C.length) (hC : C.length ≤ 4194304) : Fn Tryz.prog 63 [(0, .c true (.ints C))] [.sl 0 0 C.length, .int .i64 c] (fun r H => r = .tup [] ∧ H = [(0, .c true (.ints (shd C c)))]) := by
  refine Fn_go Tryz.func63 ?_
  by_cases c1 : c = -1
  · have e : shd C c = C := by rw [shd, if_neg (fun q => q.1 c1)]
    rw [e]
    clear e
    subst c1
    refine W_gh ?_
    refine W_iff ?_
    refine W_go ?_
    refine W_re [(0, (0, 0))] [] ?_
    exact ⟨rfl, rfl⟩
  have hc' : 0 ≤ c ∧ c < C.length := by omega
  clear hc
  by_cases c2 : C.getD c.toNat 0 = 0
  · have e : shd C c = C.set c.toNat 1 := by rw [shd, if_pos ⟨c1, c2⟩]
    rw [e]
    clear e
    replace c2 := eq_true c2
    refine W_gh ?_
    refine W_ift ?_
    refine W_go ?_
    refine W_re [(0, (0, 0))] [] ?_
    simp
  have e : shd C c = C := by rw [shd, if_neg (fun q => c2 q.2)]
  rw [e]
  clear e
  refine W_gh ?_
  refine W_iff ?_
  refine W_go ?_
  refine W_re [(0, (0, 0))] [] ?_
  exact ⟨rfl, rfl⟩
theorem sl3Shade_c (C : List Int) (c : Int) (hc : c = -1 ∨ 0 ≤ c ∧ c < C.length) (hC : C.length ≤ 4194304) : Fn Tryz.prog 140 [(0, .c true (.ints C))] [.sl 0 0 C.length, .int .i64 c] (fun r H => r = .sl 0 0 C.length ∧ H = [(0, .c true (.ints (shd C c)))]) := by
  refine Fn_go Tryz.func140 ?_
  by_cases c1 : c = -1
  · have e : shd C c = C := by rw [shd, if_neg (fun q => q.1 c1)]
    rw [e]
    clear e
    subst c1
    refine W_go ?_
    refine W_gh ?_
    refine W_iff ?_
    refine W_go ?_
    refine W_rt [(0, (0, 0))] [] ?_
    exact ⟨rfl, rfl⟩
  have hc' : 0 ≤ c ∧ c < C.length := by omega
  clear hc
  by_cases c2 : C.getD c.toNat 0 = 0
  · have e : shd C c = C.set c.toNat 1 := by rw [shd, if_pos ⟨c1, c2⟩]
    rw [e]
    clear e
    replace c2 := eq_true c2
    refine W_go ?_
    refine W_gh ?_
    refine W_ift ?_
    refine W_go ?_
    refine W_rt [(0, (0, 0))] [] ?_
    simp
  have e : shd C c = C := by rw [shd, if_neg (fun q => c2 q.2)]
  rw [e]
  clear e
  refine W_go ?_
  refine W_gh ?_
  refine W_iff ?_
  refine W_go ?_
  refine W_rt [(0, (0, 0))] [] ?_
  exact ⟨rfl, rfl⟩
theorem sl1Cell_c (h : Hp) (c : Int) (hl : h.L.length ≤ 4194304 ∧ h.R.length ≤ 4194304 ∧ h.T.length ≤ 4194304) : Fn Tryz.prog 139 [(0, .c false (.ints h.L)), (1, .c false (.ints h.R)), (2, .c false (.ints h.T))] [.agg [.sl 0 0 h.L.length, .sl 1 0 h.R.length, .sl 2 0 h.T.length], .int .i64 c] (fun r H => r = .bool (decide (h.ok ∧ 0 ≤ c ∧ c < h.L.length)) ∧ H = []) := by
  have hv := sHeapValid_c h hl
  refine Fn_go Tryz.func139 ?_
  by_cases g1 : h.ok
  case neg =>
    rw [show h.valid = false by rw [Hp.valid, decide_eq_false g1]] at hv
    refine W_go ?_
    refine W_c1 [(0, (0, 0)), (1, (1, 0)), (2, (2, 0))] hv ?_
    refine W_go ?_
    refine W_rt [] [] ?_
    exact ⟨by rw [decide_eq_false (fun q => g1 q.1)], rfl⟩
  rw [(Hp.ok_iff h).2 g1] at hv
  by_cases g2 : 0 ≤ c
  case neg =>
    refine W_go ?_
    refine W_ch1 [(0, (0, 0)), (1, (1, 0)), (2, (2, 0))] hv ?_
    refine W_go ?_
    refine W_rt [] [] ?_
    exact ⟨by rw [decide_eq_false (fun q => g2 q.2.1)], rfl⟩
  have es : decide (h.ok ∧ 0 ≤ c ∧ c < h.L.length) = decide (c < h.L.length) := by rw [decide_eq_decide]; exact ⟨fun q => q.2.2, fun q => ⟨g1, g2, q⟩⟩
  rw [es]
  clear es g1
  refine W_go ?_
  refine W_ch1 [(0, (0, 0)), (1, (1, 0)), (2, (2, 0))] hv ?_
  refine W_go ?_
  refine W_rt [] [] ?_
  exact ⟨rfl, rfl⟩
theorem sNewGc_c (s : Sto) (hl : (s.h.L.length ≤ 4194304 ∧ s.h.R.length ≤ 4194304 ∧ s.h.T.length ≤ 4194304) ∧ s.F.length ≤ 4194304) : Fn Tryz.prog 113 [(0, .c false (.ints s.h.L)), (1, .c false (.ints s.h.R)), (2, .c false (.ints s.h.T)), (3, .c false (.ints s.F))] [.agg [.sl 0 0 s.h.L.length, .sl 1 0 s.h.R.length, .sl 2 0 s.h.T.length, .sl 3 0 s.F.length]] (fun r H => r = .tup [.agg [.int .i64 (Gcc.fresh s).p, .sl 100 0 (Gcc.fresh s).C.length, .int .i64 (Gcc.fresh s).a], .bool s.valid] ∧ H = [(100, .c true (.ints (Gcc.fresh s).C))]) := by
  have hv := sStoreValid_c s hl
  refine Fn_go Tryz.func113 ?_
  refine W_go ?_
  unfold Gcc.fresh
  by_cases g1 : s.valid = true
  case neg =>
    have g1 : s.valid = false := by simpa using g1
    rw [g1] at hv ⊢
    refine W_c1 [(0, (0, 0)), (1, (1, 0)), (2, (2, 0)), (3, (3, 0))] hv ?_
    refine W_ift ?_
    refine W_go ?_
    refine W_rt [] [(100, .ints [])] ?_
    exact ⟨rfl, rfl⟩
  rw [g1] at hv ⊢
  refine W_c1 [(0, (0, 0)), (1, (1, 0)), (2, (2, 0)), (3, (3, 0))] hv ?_
  refine W_iff ?_
  refine W_go ?_
  refine W_rt [(4128, (100, 0))] [] ?_
  simp
theorem iNewGc_c (s : Sto) (hl : (s.h.L.length ≤ 4194304 ∧ s.h.R.length ≤ 4194304 ∧ s.h.T.length ≤ 4194304) ∧ s.F.length ≤ 4194304) : Fn Tryz.prog 36 [(0, .c false (.ints s.h.L)), (1, .c false (.ints s.h.R)), (2, .c false (.ints s.h.T)), (3, .c false (.ints s.F))] [.agg [.sl 0 0 s.h.L.length, .sl 1 0 s.h.R.length, .sl 2 0 s.h.T.length, .sl 3 0 s.F.length]] (fun r H => r = .tup [.agg [.int .i64 (Gcc.fresh s).p, .sl 100 0 (Gcc.fresh s).C.length, .int .i64 (Gcc.fresh s).a], .bool s.valid] ∧ H = [(100, .c true (.ints (Gcc.fresh s).C))]) := by
  have hv := iStoreValid_c s hl
  refine Fn_go Tryz.func36 ?_
  refine W_go ?_
  unfold Gcc.fresh
  by_cases g1 : s.valid = true
  case neg =>
    have g1 : s.valid = false := by simpa using g1
    rw [g1] at hv ⊢
    refine W_c1 [(0, (0, 0)), (1, (1, 0)), (2, (2, 0)), (3, (3, 0))] hv ?_
    refine W_ift ?_
    refine W_go ?_
    refine W_rt [] [(100, .ints [])] ?_
    exact ⟨rfl, rfl⟩
  rw [g1] at hv ⊢
  refine W_c1 [(0, (0, 0)), (1, (1, 0)), (2, (2, 0)), (3, (3, 0))] hv ?_
  refine W_iff ?_
  refine W_go ?_
  refine W_rt [(4128, (100, 0))] [] ?_
  simp
end Go.Proofs.YtbobhbhgomkgpaaGreatDoor.S

/- Contracts: the reference's collector by steps. Own work of this claim. -/
namespace Go.Proofs.YtbobhbhgomkgpaaGreatDoor.S
set_option linter.all false
open Go Go.Proofs
set_option maxHeartbeats 4000000
set_option maxRecDepth 100000

theorem sl6Swept_c (s : Sto) (g : Gcc) (w : g.weak s) (hF : s.F.length ≤ 1048576) : Fn Tryz.prog 123 [(0, .c false (.ints s.h.L)), (1, .c false (.ints s.h.R)), (2, .c false (.ints s.h.T)), (3, .c false (.ints s.F)), (4, .c false (.ints g.C))] [.agg [.sl 0 0 s.h.L.length, .sl 1 0 s.h.R.length, .sl 2 0 s.h.T.length, .sl 3 0 s.F.length], .agg [.int .i64 g.p, .sl 4 0 g.C.length, .int .i64 g.a]] (fun r H => r = .int .i64 (g.sw s) ∧ H = []) := by
  have hat := w.a
  unfold Gcc.atOk at hat
  have hlc := w.c.1
  have l8 := w.h.1.2.1
  have hA := l4At_c s.F g.a (by omega)
  have hi := idx_neg s.F g.a
  refine Fn_go Tryz.func123 ?_
  by_cases c1 : g.p = 3
  case neg =>
    have e : g.sw s = -1 := by rw [Gcc.sw, if_neg (fun q => c1 q.1)]
    rw [e]
    clear e hat hlc
    refine W_go ?_
    refine W_gh ?_
    refine W_iff ?_
    refine W_go ?_
    refine W_rt [] [] ?_
    exact ⟨rfl, rfl⟩
  have hl : 0 ≤ g.a ∧ g.a < g.C.length := by omega
  clear hat hlc
  by_cases c2 : g.C.getD g.a.toNat 0 = 0
  case neg =>
    have e : g.sw s = -1 := by rw [Gcc.sw, if_neg (fun q => c2 q.2.1)]
    rw [e]
    clear e
    replace c1 := eq_true c1
    refine W_go ?_
    refine W_gh ?_
    refine W_iff ?_
    refine W_go ?_
    refine W_rt [] [] ?_
    exact ⟨rfl, rfl⟩
  have e1 : g.a ∉ s.F → g.sw s = g.a := fun q => by rw [Gcc.sw, if_pos ⟨c1, c2, q⟩]
  have e2 : ¬ g.a ∉ s.F → g.sw s = -1 := fun q => by rw [Gcc.sw, if_neg (fun z => q z.2.2)]
  replace c1 := eq_true c1
  replace c2 := eq_true c2
  replace e1 : Hold _ := ⟨e1⟩
  replace e2 : Hold _ := ⟨e2⟩
  replace hi : Hold _ := ⟨hi⟩
  refine W_go ?_
  refine W_ch1 [(0, (3, 0))] hA ?_
  refine W_if (fun q => ?_) (fun q => ?_)
  · refine W_go ?_
    refine W_rt [] [] ?_
    exact ⟨by rw [e1.told (hi.told.1 q)], rfl⟩
  · refine W_go ?_
    refine W_rt [] [] ?_
    exact ⟨by rw [e2.told (fun z => q (hi.told.2 z))], rfl⟩
theorem nx_C (g : Gcc) (n : Nat) (ph : Int) : (g.nx n ph).C = g.C := by unfold Gcc.nx; split <;> rfl
theorem sl6Next_c (g : Gcc) (n : Nat) (ph : Int) (ha : 0 ≤ g.a ∧ g.a < 1000000) : Fn Tryz.prog 142 [(0, .c false (.ints g.C))] [.agg [.int .i64 g.p, .sl 0 0 g.C.length, .int .i64 g.a], .int .i64 n, .int .i64 ph] (fun r H => r = .agg [.int .i64 (g.nx n ph).p, .sl 0 0 g.C.length, .int .i64 (g.nx n ph).a] ∧ H = []) := by
  refine Fn_go Tryz.func142 ?_
  refine W_go ?_
  unfold Gcc.nx
  refine W_if (fun q => ?_) (fun q => ?_)
  · rw [if_pos q]
    refine W_go ?_
    refine W_rt [] [] ?_
    exact ⟨rfl, rfl⟩
  · rw [if_neg q]
    refine W_go ?_
    refine W_rt [] [] ?_
    exact ⟨rfl, rfl⟩
theorem sl3First_c (h : Hp) (C : List Int) (k : Int) (hC : C.length ≤ 4194304) : Fn Tryz.prog 153 [(0, .c false (.ints h.L)), (1, .c false (.ints h.R)), (2, .c false (.ints h.T)), (3, .c false (.ints C))] [.agg [.sl 0 0 h.L.length, .sl 1 0 h.R.length, .sl 2 0 h.T.length, .sl 3 0 C.length], .int .i64 k] (fun r H => r = .int .i64 (idx C k) ∧ H = []) := by
  refine Fn_go Tryz.func153 ?_
  refine W_go ?_
  refine W_lp (T := 6) (σ := Nat) (me := fun i => [(5, .int .i64 i)]) (mh := fun _ => []) (inv := fun i => i ≤ C.length ∧ Hold (∀ j, j < i → C.getD j 0 ≠ k)) (m := fun i => C.length - i) (s0 := 0) ⟨by omega, ⟨by intro j hj; omega⟩⟩ ?_
  rintro i ⟨hi, hI⟩
  refine W_go ?_
  refine W_if (fun h2 => ?_) (fun h2 => ?_)
  case' refine_2 =>
    refine W_go ?_
    refine W_rt [] [] ?_
    exact ⟨by rw [idx_none fun j hj => hI.told j (by omega)], rfl⟩
  refine W_go ?_
  refine W_if (fun h3 => ?_) (fun h3 => ?_)
  · replace h3 : Hold _ := ⟨h3⟩
    refine W_go ?_
    refine W_rt [] [] ?_
    exact ⟨by rw [idx_at (by omega) hI.told h3.told], rfl⟩
  replace h3 : Hold _ := ⟨h3⟩
  refine W_go ?_
  refine W_bk (i + 1) ⟨by omega, ⟨fun j hj => ?_⟩⟩ (by omega)
  by_cases e : j = i
  · subst e; exact h3.told
  · exact hI.told j (by omega)
theorem sl3Black_c (h : Hp) (C : List Int) (i : Nat) (ho : h.ok) (hC : C.length = h.L.length) (hi : i < C.length) : Fn Tryz.prog 154 [(0, .c false (.ints h.L)), (1, .c false (.ints h.R)), (2, .c false (.ints h.T)), (3, .c true (.ints C))] [.agg [.sl 0 0 h.L.length, .sl 1 0 h.R.length, .sl 2 0 h.T.length, .sl 3 0 C.length], .int .i64 i] (fun r H => r = .agg [.sl 0 0 h.L.length, .sl 1 0 h.R.length, .sl 2 0 h.T.length, .sl 3 0 C.length] ∧ H = [(3, .c true (.ints (blk h C i)))]) := by
  have l8 := ho.1.2.1
  have hR : h.R.length = h.L.length := ho.1.2.2.1
  have kL := okP_get ho.2.1 (show i < h.L.length by omega)
  have kR := okP_get ho.2.2.1 (show i < h.R.length by omega)
  have e1 := shd_len C (h.L.getD i 0)
  have h1 := sl3Shade_c C (h.L.getD i 0) (by omega) (by omega)
  have h2 := sl3Shade_c (shd C (h.L.getD i 0)) (h.R.getD i 0) (by omega) (by omega)
  rw [e1] at h2
  have e2 := shd_len (shd C (h.L.getD i 0)) (h.R.getD i 0)
  have b1 : i < h.L.length ∧ i < h.R.length := by omega
  have b2 : i < (shd (shd C (h.L.getD i 0)) (h.R.getD i 0)).length := by omega
  have t1 : List.take C.length (shd C (h.L.getD i 0)) = shd C (h.L.getD i 0) := List.take_of_length_le (by omega)
  have t2 : List.take C.length (shd (shd C (h.L.getD i 0)) (h.R.getD i 0)) = shd (shd C (h.L.getD i 0)) (h.R.getD i 0) := List.take_of_length_le (by omega)
  have t3 : List.take C.length ((shd (shd C (h.L.getD i 0)) (h.R.getD i 0)).set i 2) = (shd (shd C (h.L.getD i 0)) (h.R.getD i 0)).set i 2 := List.take_of_length_le (by rw [List.length_set]; omega)
  have b3 : (C.length ≤ (shd (shd C (h.L.getD i 0)) (h.R.getD i 0)).length ∧ C.length ≤ (shd C (h.L.getD i 0)).length) ∧ (shd (shd C (h.L.getD i 0)) (h.R.getD i 0)).length ≤ C.length ∧ (shd C (h.L.getD i 0)).length ≤ C.length := by omega
  rw [← t1] at h2
  clear hR kL kR ho hC e1 e2
  replace t1 : Hold _ := ⟨t1⟩
  replace t2 : Hold _ := ⟨t2⟩
  replace t3 : Hold _ := ⟨t3⟩
  unfold blk
  refine Fn_go Tryz.func154 ?_
  refine W_go ?_
  refine W_dc1 [(0, (3, 0))] h1 [.c _ _ _] ?_
  refine W_go ?_
  refine W_dc1 [(0, (3, 0))] h2 [.c _ _ _] ?_
  rw [t1.told]
  refine W_go ?_
  refine W_rt [(3, (3, 0))] [] ?_
  simp [t2.told, t3.told]
theorem sl6Root_c (s : Sto) (g : Gcc) (w : g.weak s) (hF : s.F.length ≤ 1048576) : Fn Tryz.prog 155 [(0, .c false (.ints s.h.L)), (1, .c false (.ints s.h.R)), (2, .c false (.ints s.h.T)), (3, .c false (.ints s.F)), (4, .c false (.ints g.C))] [.agg [.sl 0 0 s.h.L.length, .sl 1 0 s.h.R.length, .sl 2 0 s.h.T.length, .sl 3 0 s.F.length], .agg [.int .i64 g.p, .sl 4 0 g.C.length, .int .i64 g.a]] (fun r H => r = .int .i64 (wrt s.h.T g.C) ∧ H = []) := by
  have hlc := w.c.1
  have l8 := w.h.1
  have oT := w.h.2.2.2
  have l9 : s.h.T.length ≤ 3 := by omega
  have l10 : s.h.L.length ≤ g.C.length := by omega
  clear l8 hlc
  replace oT : Hold _ := ⟨oT⟩
  refine Fn_go Tryz.func155 ?_
  refine W_go ?_
  refine W_lp (T := 6) (σ := Nat) (me := fun i => [(5, .int .i64 i)]) (mh := fun _ => []) (inv := fun i => i ≤ s.h.T.length ∧ Hold (∀ j, j < i → ¬ (s.h.T.getD j 0 ≠ -1 ∧ g.C.getD (s.h.T.getD j 0).toNat 0 = 0))) (m := fun i => s.h.T.length - i) (s0 := 0) ⟨by omega, ⟨by intro j hj; omega⟩⟩ ?_
  rintro i ⟨hi, hI⟩
  refine W_go ?_
  refine W_if (fun h2 => ?_) (fun h2 => ?_)
  case' refine_2 =>
    refine W_go ?_
    refine W_rt [] [] ?_
    exact ⟨by rw [wrt_none fun j hj => hI.told j (by omega)], rfl⟩
  have kT := okP_get oT.told (show i < s.h.T.length by omega)
  by_cases c1 : s.h.T.getD i 0 = -1
  · refine W_go ?_
    refine W_gh ?_
    refine W_iff ?_
    refine W_go ?_
    refine W_bk (i + 1) ⟨by omega, ⟨fun j hj => ?_⟩⟩ (by omega)
    by_cases e : j = i
    · subst e; exact fun q => q.1 c1
    · exact hI.told j (by omega)
  have kT' : 0 ≤ s.h.T.getD i 0 ∧ s.h.T.getD i 0 < s.h.L.length := by omega
  clear kT
  refine W_go ?_
  refine W_gh ?_
  refine W_if (fun c2 => ?_) (fun c2 => ?_)
  · replace c2 : Hold _ := ⟨c2⟩
    refine W_go ?_
    refine W_rt [] [] ?_
    exact ⟨by rw [wrt_at (by omega) hI.told ⟨c1, c2.told⟩], rfl⟩
  replace c2 : Hold _ := ⟨c2⟩
  refine W_go ?_
  refine W_bk (i + 1) ⟨by omega, ⟨fun j hj => ?_⟩⟩ (by omega)
  by_cases e : j = i
  · subst e; exact fun q => c2.told q.2
  · exact hI.told j (by omega)
theorem mark_len (g : Gcc) (s : Sto) : (g.mark s).C.length = g.C.length := by
  unfold Gcc.mark
  split
  · exact blk_len _ _ _
  · split
    · exact shd_len _ _
    · rfl
theorem sl6Mark_c (s : Sto) (g : Gcc) (w : g.weak s) (hF : s.F.length ≤ 1048576) : Fn Tryz.prog 143 [(0, .c false (.ints s.h.L)), (1, .c false (.ints s.h.R)), (2, .c false (.ints s.h.T)), (3, .c false (.ints s.F)), (4, .c true (.ints g.C))] [.agg [.sl 0 0 s.h.L.length, .sl 1 0 s.h.R.length, .sl 2 0 s.h.T.length, .sl 3 0 s.F.length], .agg [.int .i64 g.p, .sl 4 0 g.C.length, .int .i64 g.a]] (fun r H => r = .agg [.int .i64 (g.mark s).p, .sl 4 0 g.C.length, .int .i64 (g.mark s).a] ∧ H = [(4, .c true (.ints (g.mark s).C))]) := by
  have hlc := w.c.1
  have l8 := w.h.1
  have hf := sl3First_c s.h g.C 1 (by omega)
  have hr := sl6Root_c s g w hF
  refine Fn_go Tryz.func143 ?_
  unfold Gcc.mark
  rcases idx_cases g.C 1 with ⟨i, hi, ei, _⟩ | ⟨ei, _⟩
  · rw [ei] at hf ⊢
    rw [if_pos (by omega)]
    have hb := sl3Black_c s.h g.C i w.h hlc hi
    have eb := blk_len s.h g.C i
    have tb : List.take g.C.length (blk s.h g.C i) = blk s.h g.C i := List.take_of_length_le (by omega)
    clear hr w l8 hlc
    dsimp only
    rw [Int.toNat_natCast]
    generalize blk s.h g.C i = D at *
    replace tb : Hold _ := ⟨tb⟩
    replace eb : Hold _ := ⟨eb⟩
    refine W_go ?_
    refine W_c1 [(0, (0, 0)), (1, (1, 0)), (2, (2, 0)), (3, (4, 0))] hf ?_
    refine W_go ?_
    refine W_if (fun _ => ?_) (fun q => ?_)
    case' refine_2 => exact absurd (by omega) q
    refine W_go ?_
    refine W_c1 [(0, (0, 0)), (1, (1, 0)), (2, (2, 0)), (3, (4, 0))] hb ?_
    refine W_go ?_
    refine W_rt [(4, (4, 0))] [] ?_
    exact ⟨rfl, rfl⟩
  rw [ei] at hf ⊢
  rw [if_neg (by omega)]
  rcases wrt_cases s.h.T g.C with ⟨i, hi, ew, _⟩ | ⟨ew, _⟩
  · rw [ew] at hr ⊢
    rw [if_pos (by omega)]
    have kT := okP_get w.h.2.2.2 hi
    have hb := sl3Shade_c g.C (s.h.T.getD i 0) (by omega) (by omega)
    have eb := shd_len g.C (s.h.T.getD i 0)
    clear w hlc
    dsimp only
    rw [Int.toNat_natCast]
    generalize shd g.C (s.h.T.getD i 0) = D at *
    replace eb : Hold _ := ⟨eb⟩
    replace kT : Hold _ := ⟨kT⟩
    have l9 : s.h.T.length ≤ 3 := by omega
    clear l8
    refine W_go ?_
    refine W_c1 [(0, (0, 0)), (1, (1, 0)), (2, (2, 0)), (3, (4, 0))] hf ?_
    refine W_go ?_
    refine W_if (fun q => ?_) (fun _ => ?_)
    · exact absurd q (by omega)
    refine W_go ?_
    refine W_c1 [(0, (0, 0)), (1, (1, 0)), (2, (2, 0)), (3, (3, 0)), (4, (4, 0))] hr ?_
    refine W_go ?_
    refine W_if (fun _ => ?_) (fun q => ?_)
    case' refine_2 => exact absurd (by omega) q
    refine W_go ?_
    refine W_dc1 [(0, (4, 0))] hb [.c _ _ _] ?_
    refine W_go ?_
    refine W_rt [(4, (4, 0))] [] ?_
    exact ⟨rfl, rfl⟩
  · rw [ew] at hr ⊢
    rw [if_neg (by omega)]
    clear w hlc l8
    dsimp only
    refine W_go ?_
    refine W_c1 [(0, (0, 0)), (1, (1, 0)), (2, (2, 0)), (3, (4, 0))] hf ?_
    refine W_go ?_
    refine W_if (fun q => ?_) (fun _ => ?_)
    · exact absurd q (by omega)
    refine W_go ?_
    refine W_c1 [(0, (0, 0)), (1, (1, 0)), (2, (2, 0)), (3, (3, 0)), (4, (4, 0))] hr ?_
    refine W_go ?_
    refine W_if (fun q => ?_) (fun _ => ?_)
    · exact absurd q (by omega)
    refine W_go ?_
    refine W_rt [(4, (4, 0))] [] ?_
    exact ⟨rfl, rfl⟩
end Go.Proofs.YtbobhbhgomkgpaaGreatDoor.S

/- Contracts: collectors drawn out of bytes. Own work of this claim. -/
namespace Go.Proofs.YtbobhbhgomkgpaaGreatDoor.S
set_option linter.all false
open Go Go.Proofs
set_option maxHeartbeats 4000000
set_option maxRecDepth 100000

theorem sl6Step_c (s : Sto) (g : Gcc) (w : g.weak s) (hF : s.F.length ≤ 1048576) : Fn Tryz.prog 124 [(0, .c false (.ints s.h.L)), (1, .c false (.ints s.h.R)), (2, .c false (.ints s.h.T)), (3, .c false (.ints s.F)), (4, .c false (.ints g.C))] [.agg [.sl 0 0 s.h.L.length, .sl 1 0 s.h.R.length, .sl 2 0 s.h.T.length, .sl 3 0 s.F.length], .agg [.int .i64 g.p, .sl 4 0 g.C.length, .int .i64 g.a]]
    (fun r H => r = .tup [.agg [.sl 100 0 (g.stS s).h.L.length, .sl 101 0 (g.stS s).h.R.length, .sl 102 0 (g.stS s).h.T.length, .sl 103 0 (g.stS s).F.length], .agg [.int .i64 (g.stG s).p, .sl 104 0 (g.stG s).C.length, .int .i64 (g.stG s).a]] ∧ H = [(100, .c true (.ints (g.stS s).h.L)), (101, .c true (.ints (g.stS s).h.R)), (102, .c true (.ints (g.stS s).h.T)), (103, .c true (.ints (g.stS s).F)), (104, .c true (.ints (g.stG s).C))]) := by
  have hlc := w.c.1
  have l8 := w.h.1
  have hat := w.a
  unfold Gcc.atOk at hat
  have hk := sl6Copy_c g (by omega)
  have hy := sl4Copy_c s (by omega)
  have oT := w.h.2.2.2
  replace oT : Hold _ := ⟨oT⟩
  have hw := sl6Swept_c s g w hF
  have w' : Hold (g.weak s) := ⟨w⟩
  clear w
  refine Fn_go Tryz.func124 ?_
  by_cases p0 : g.p = 0
  · have eG : g.stG s = ⟨1, List.replicate g.C.length 0, 0⟩ := by rw [Gcc.stG, if_pos p0]
    have eS : g.stS s = s := by unfold Gcc.stS Gcc.sw; rw [if_neg (by rw [if_neg (by omega)]; omega)]
    rw [eG, eS]
    clear eG eS hw hat
    replace l8 : Hold _ := ⟨l8⟩
    replace hlc : Hold _ := ⟨hlc⟩
    have l9 : g.C.length ≤ 8 := by have := hlc.told; have := l8.told; omega
    refine W_go ?_
    refine W_c1 [(0, (4, 0))] hk ?_
    refine W_go ?_
    refine W_if (fun _ => ?_) (fun q => ?_)
    case' refine_2 => exact absurd p0 q
    refine W_go ?_
    refine W_dc1 [(0, (0, 0)), (1, (1, 0)), (2, (2, 0)), (3, (3, 0))] hy [.c _ _ _] ?_
    refine W_go ?_
    refine W_rt [(5128, (100, 0)), (5129, (101, 0)), (5130, (102, 0)), (5131, (103, 0)), (5160, (104, 0))] [] ?_
    simp
  by_cases p1 : g.p = 1
  · have ha : 0 ≤ g.a ∧ g.a < s.h.T.length := by omega
    have eG : g.stG s = Gcc.nx ⟨g.p, shd g.C (s.h.T.getD g.a.toNat 0), g.a⟩ s.h.T.length 2 := by rw [Gcc.stG, if_neg p0, if_pos p1, p1]
    have eS : g.stS s = s := by unfold Gcc.stS Gcc.sw; rw [if_neg (by rw [if_neg (by omega)]; omega)]
    have kT := okP_get oT.told (show g.a.toNat < s.h.T.length by omega)
    have hb := sl3Shade_c g.C (s.h.T.getD g.a.toNat 0) (by omega) (by omega)
    have eb := shd_len g.C (s.h.T.getD g.a.toNat 0)
    have hn := sl6Next_c ⟨g.p, shd g.C (s.h.T.getD g.a.toNat 0), g.a⟩ s.h.T.length 2 (by dsimp only; omega)
    have en := nx_C ⟨g.p, shd g.C (s.h.T.getD g.a.toNat 0), g.a⟩ s.h.T.length 2
    dsimp only at hn en
    rw [eG, eS, en]
    generalize Gcc.nx ⟨g.p, shd g.C (s.h.T.getD g.a.toNat 0), g.a⟩ s.h.T.length 2 = y at *
    generalize shd g.C (s.h.T.getD g.a.toNat 0) = D at *
    have tD : List.take g.C.length D = D := List.take_of_length_le (by omega)
    rw [eb] at hn ⊢
    replace tD : Hold _ := ⟨tD⟩
    clear eG eS hw hat kT eb en
    replace l8 : Hold _ := ⟨l8⟩
    replace hlc : Hold _ := ⟨hlc⟩
    refine W_go ?_
    refine W_c1 [(0, (4, 0))] hk ?_
    refine W_go ?_
    refine W_if (fun q => ?_) (fun _ => ?_)
    · exact absurd q p0
    refine W_go ?_
    refine W_if (fun _ => ?_) (fun q => ?_)
    case' refine_2 => exact absurd p1 q
    refine W_go ?_
    refine W_dc1 [(0, (2056, 0))] hb [.c _ _ _] ?_
    refine W_go ?_
    refine W_dc2 [(0, (0, 0)), (1, (1, 0)), (2, (2, 0)), (3, (3, 0))] hy [(0, (2056, 0))] hn [.c _ _ _, .c _ _ _] ?_
    refine W_go ?_
    refine W_rt [(8200, (100, 0)), (8201, (101, 0)), (8202, (102, 0)), (8203, (103, 0)), (2056, (104, 0))] [] ?_
    simp [tD.told]
  by_cases p2 : g.p = 2
  · have eG : g.stG s = g.mark s := by rw [Gcc.stG, if_neg p0, if_neg p1, if_pos p2]
    have eS : g.stS s = s := by unfold Gcc.stS Gcc.sw; rw [if_neg (by rw [if_neg (by omega)]; omega)]
    have hn := sl6Mark_c s g w'.told hF
    have em := mark_len g s
    rw [eG, eS, em]
    generalize g.mark s = y at *
    have tD : List.take g.C.length y.C = y.C := List.take_of_length_le (by omega)
    replace tD : Hold _ := ⟨tD⟩
    replace em : Hold _ := ⟨em⟩
    clear eG eS hw hat
    replace l8 : Hold _ := ⟨l8⟩
    replace hlc : Hold _ := ⟨hlc⟩
    refine W_go ?_
    refine W_c1 [(0, (4, 0))] hk ?_
    refine W_go ?_
    refine W_if (fun q => ?_) (fun _ => ?_)
    · exact absurd q p0
    refine W_go ?_
    refine W_if (fun q => ?_) (fun _ => ?_)
    · exact absurd q p1
    refine W_go ?_
    refine W_if (fun _ => ?_) (fun q => ?_)
    case' refine_2 => exact absurd p2 q
    refine W_go ?_
    refine W_dc2 [(0, (0, 0)), (1, (1, 0)), (2, (2, 0)), (3, (3, 0))] hy [(0, (0, 0)), (1, (1, 0)), (2, (2, 0)), (3, (3, 0)), (4, (2056, 0))] hn [.c _ _ _, .c _ _ _] ?_
    refine W_go ?_
    refine W_rt [(10248, (100, 0)), (10249, (101, 0)), (10250, (102, 0)), (10251, (103, 0)), (2056, (104, 0))] [] ?_
    simp [tD.told]
  have p3 : g.p = 3 := by omega
  have ha : 0 ≤ g.a ∧ g.a < g.C.length := by omega
  have eG : g.stG s = Gcc.nx ⟨g.p, g.C.set g.a.toNat 0, g.a⟩ g.C.length 0 := by rw [Gcc.stG, if_neg p0, if_neg p1, if_neg p2, p3]
  have hn := sl6Next_c ⟨g.p, g.C.set g.a.toNat 0, g.a⟩ g.C.length 0 (by dsimp only; omega)
  have en := nx_C ⟨g.p, g.C.set g.a.toNat 0, g.a⟩ g.C.length 0
  dsimp only at hn en
  rw [eG, en]
  generalize Gcc.nx ⟨g.p, g.C.set g.a.toNat 0, g.a⟩ g.C.length 0 = y at *
  have tD : List.take g.C.length (g.C.set g.a.toNat 0) = g.C.set g.a.toNat 0 := List.take_of_length_le (by simp)
  rw [List.length_set] at hn
  rw [← tD] at hn
  have hcl := sl4Clear_c s [g.sw s] w'.told.h ⟨hF, by simp⟩
  replace tD : Hold _ := ⟨tD⟩
  clear eG hat en
  have eS : g.sw s ≠ -1 → g.stS s = s.clr [g.sw s] := fun q => by rw [Gcc.stS, if_pos q]
  have eS2 : ¬ g.sw s ≠ -1 → g.stS s = s := fun q => by rw [Gcc.stS, if_neg q]
  replace eS : Hold _ := ⟨eS⟩
  replace eS2 : Hold _ := ⟨eS2⟩
  replace l8 : Hold _ := ⟨l8⟩
  replace hlc : Hold _ := ⟨hlc⟩
  generalize g.sw s = x at *
  refine W_go ?_
  refine W_c1 [(0, (4, 0))] hk ?_
  refine W_go ?_
  refine W_if (fun q => ?_) (fun _ => ?_)
  · exact absurd q p0
  refine W_go ?_
  refine W_if (fun q => ?_) (fun _ => ?_)
  · exact absurd q p1
  refine W_go ?_
  refine W_if (fun q => ?_) (fun _ => ?_)
  · exact absurd q p2
  refine W_go ?_
  refine W_c1 [(0, (0, 0)), (1, (1, 0)), (2, (2, 0)), (3, (3, 0)), (4, (4, 0))] hw ?_
  refine W_go ?_
  refine W_c1 [(0, (0, 0)), (1, (1, 0)), (2, (2, 0)), (3, (3, 0))] hy ?_
  refine W_go ?_
  refine W_if (fun q => ?_) (fun q => ?_)
  · rw [eS.told q]
    replace q : Hold _ := ⟨q⟩
    generalize s.clr [x] = z at *
    refine W_go ?_
    refine W_c1 [(0, (0, 0)), (1, (1, 0)), (2, (2, 0)), (3, (3, 0)), (4, (14352, 0))] hcl ?_
    refine W_go ?_
    refine W_dc1 [(0, (2056, 0))] hn [.c _ _ _] ?_
    refine W_go ?_
    refine W_rt [(14360, (100, 0)), (14361, (101, 0)), (14362, (102, 0)), (14363, (103, 0)), (2056, (104, 0))] [] ?_
    simp [tD.told]
  · rw [eS2.told q]
    replace q : Hold _ := ⟨q⟩
    refine W_go ?_
    refine W_dc1 [(0, (2056, 0))] hn [.c _ _ _] ?_
    refine W_go ?_
    refine W_rt [(12296, (100, 0)), (12297, (101, 0)), (12298, (102, 0)), (12299, (103, 0)), (2056, (104, 0))] [] ?_
    simp [tD.told]
def wrongG (B : List UInt8) (m : Nat) (p : Int) (g : Gcc) : Gcc :=
  if pkV B m p 20 = 0 then ⟨pkN B m (p + 1) [4, -1, 0, 1, 2, 3], g.C, g.a⟩
  else if pkV B m p 20 = 1 then ⟨g.p, g.C, pkN B m (p + 1) [-1, 8, 1]⟩
  else if pkV B m p 20 = 2 then ⟨g.p, g.C.set (pkV B m (p + 1) g.C.length).toNat (pkN B m (p + 1 + 1) [3, 0, 1, 2]), g.a⟩ else g
def wrongP (B : List UInt8) (m : Nat) (p : Int) : Int :=
  if pkV B m p 20 = 0 then p + 1 + 1
  else if pkV B m p 20 = 1 then p + 1 + 1
  else if pkV B m p 20 = 2 then p + 1 + 1 + 1 else p + 1
/-- What is drawn is small. -/
def drG (s : Sto) (g : Gcc) : Prop := (1 ≤ s.h.L.length ∧ s.h.L.length ≤ 8 ∧ s.h.R.length ≤ 8 ∧ s.h.T.length ≤ 3 ∧ s.F.length ≤ 28) ∧ g.C.length ≤ 8
end Go.Proofs.YtbobhbhgomkgpaaGreatDoor.S
