/- Contracts: colors that hold. Own work of this claim. -/
import Derived.Test.YtdkdepfgilbkeaaGh
namespace Go.Proofs.Ytdkdepfgilbkeaa.S
set_option linter.all false
open Go Go.Proofs
set_option maxHeartbeats 4000000
set_option maxRecDepth 100000

open Classical in
theorem chT {h : Hp} {C : List Int} (q : colHolds h C) : colHoldsB h C = true := by unfold colHoldsB; exact decide_eq_true q
open Classical in
theorem chF {h : Hp} {C : List Int} (q : ¬ colHolds h C) : colHoldsB h C = false := by unfold colHoldsB; exact decide_eq_false q
theorem iColoredValid_c (h : Hp) (C : List Int) (hl : h.L.length ≤ 4194304 ∧ h.R.length ≤ 4194304 ∧ h.T.length ≤ 4194304) (hC : C.length ≤ 4194304) : Fn Try.prog 107 [(0, .c false (.ints h.L)), (1, .c false (.ints h.R)), (2, .c false (.ints h.T)), (3, .c false (.ints C))] [.agg [.sl 0 0 h.L.length, .sl 1 0 h.R.length, .sl 2 0 h.T.length, .sl 3 0 C.length]] (fun r H => r = .bool (decide (h.ok ∧ colOk C h.L.length)) ∧ H = []) := by
  have hv := iHeapValid_c h hl
  have hc := icolorsOk_c C h.L.length hC (by omega)
  refine Fn_go Try.func107 ?_
  refine W_go ?_
  by_cases g1 : h.ok
  case neg =>
    rw [show h.valid = false by rw [Hp.valid, decide_eq_false g1]] at hv
    refine W_c1 [(0, (0, 0)), (1, (1, 0)), (2, (2, 0))] hv ?_
    refine W_go ?_
    refine W_rt [] [] ?_
    exact ⟨by rw [decide_eq_false (fun q => g1 q.1)], rfl⟩
  rw [(Hp.ok_iff h).2 g1] at hv
  have es : decide (h.ok ∧ colOk C h.L.length) = decide (colOk C h.L.length) := by rw [decide_eq_decide]; exact ⟨fun q => q.2, fun q => ⟨g1, q⟩⟩
  rw [es]
  clear es g1
  refine W_c2 [(0, (0, 0)), (1, (1, 0)), (2, (2, 0))] hv [(0, (3, 0))] hc ?_
  refine W_go ?_
  refine W_rt [] [] ?_
  exact ⟨rfl, rfl⟩
end Go.Proofs.Ytdkdepfgilbkeaa.S
