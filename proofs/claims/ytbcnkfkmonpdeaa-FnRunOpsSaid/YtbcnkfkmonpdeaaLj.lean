/- Contracts: the law FnAllocLeak. Own work of this claim. -/
import Derived.Test.YtbcnkfkmonpdeaaLf
import Derived.Test.YtbcnkfkmonpdeaaGf
import Derived.Test.YtbcnkfkmonpdeaaFr
namespace Go.Proofs.Ytbcnkfkmonpdeaa.S
set_option linter.all false
open Go Go.Proofs
set_option maxHeartbeats 4000000
set_option maxRecDepth 100000

theorem pr_alc {s : Sto} {a : Int} (h : s.alcOk a) : (s.alcS a).h.pr a (-1) = ⟨s.h.L, s.h.R, s.h.T.set a.toNat (-1)⟩ ∧ (s.alcS a).F = s.F.drop 1 := by
  have hp := (new_cell h).2.2.2.2.2.2.1
  have e : s.alcS a = ⟨⟨s.h.L, s.h.R, s.h.T.set a.toNat (s.F.getD 0 0)⟩, s.F.drop 1⟩ := by rw [Sto.alcS, if_pos h]
  rw [Hp.pr, if_pos hp, e]
  exact ⟨by show Hp.mk s.h.L s.h.R ((s.h.T.set _ _).set _ _) = _; rw [List.set_set], rfl⟩
theorem lAllocLeak_c (B : List UInt8) (hB : B.length ≤ 9223372036854775807) : Fn Try.prog 4 [(0, .c false (.bys B))] [.sl 0 0 B.length] (fun r H => r = .bool true ∧ H = []) := by
  refine Fn_go Try.func4 ?_
  refine W_go ?_
  refine W_if (fun h1 => ?_) (fun h1 => ?_)
  · refine W_go ?_
    refine W_rt [] [] ?_
    exact ⟨rfl, rfl⟩
  have hB : B.length ≤ 1048576 := by omega
  clear h1
  refine W_go ?_
  refine W_rw fun K hK => ?_
  refine RW_x ?_
  repeat (refine And.intro (by omega) ?_)
  refine CKy (μ := [(0, (0, 0))]) ⟨⟩ (drawAllocCell_c B hB) (fun x hx => ?_)
  obtain ⟨s, a⟩ := x
  try dsimp only at hx ⊢
  refine RW_x ?_
  repeat (refine And.intro (by omega) ?_)
  refine hK _ _ ?_
  unfold Sto.dr at hx
  have hb : (s.h.L.length ≤ 4194304 ∧ s.h.R.length ≤ 4194304 ∧ s.h.T.length ≤ 4194304) ∧ s.F.length ≤ 4194304 := by omega
  have hI := iAllocCell_c s a hb
  have hS := sAllocCell_c s a hb
  have hw := alcS_len s a
  have hE := iSame_t (s.alcS a) (by omega)
  by_cases g : s.alcOk a
  case neg =>
    rw [decide_eq_false g] at hI hS
    generalize s.alcS a = w at *
    generalize s.alcC a = c at *
    refine W_go ?_
    refine W_c1 [(0, (4104, 0)), (1, (4105, 0)), (2, (4106, 0)), (3, (4107, 0))] hI ?_
    refine W_go ?_
    refine W_c1 [(0, (4104, 0)), (1, (4105, 0)), (2, (4106, 0)), (3, (4107, 0))] hS ?_
    refine W_go ?_
    refine W_c1 [(0, (5136, 0)), (1, (5137, 0)), (2, (5138, 0)), (3, (5139, 0)), (4, (6160, 0)), (5, (6161, 0)), (6, (6162, 0)), (7, (6163, 0))] hE ?_
    refine W_ift ?_
    refine W_go ?_
    refine W_c1 [(0, (5136, 0)), (1, (5137, 0)), (2, (5138, 0)), (3, (5139, 0)), (4, (6160, 0)), (5, (6161, 0)), (6, (6162, 0)), (7, (6163, 0))] hE ?_
    refine W_go ?_
    refine W_rt [] [] ?_
    exact ⟨rfl, rfl⟩
  rw [decide_eq_true g] at hI hS
  have nc := new_cell g
  have hP := iPutRoot_c (s.alcS a).h a (-1) (by omega) nc.2.2.2.2.2.2.1
  have pe := pr_alc g
  have ec : s.alcC a = s.F.getD 0 0 := by rw [Sto.alcC, if_pos g]
  have hFl : s.F.length ≠ 0 := g.2.2.2
  obtain ⟨y, ey⟩ : ∃ y : Sto, y = ⟨⟨s.h.L, s.h.R, s.h.T.set a.toNat (-1)⟩, s.F.drop 1⟩ := ⟨_, rfl⟩
  have yh : (s.alcS a).h.pr a (-1) = y.h := by rw [pe.1, ey]
  have yF : (s.alcS a).F = y.F := by rw [pe.2, ey]
  have yl : (y.h.L.length ≤ 8 ∧ y.h.R.length ≤ 10 ∧ y.h.T.length ≤ 5) ∧ y.F.length + 1 = s.F.length := by rw [ey]; simp; omega
  have yok : y.ok := by rw [ey]; exact alc_drop g (.inl rfl)
  have yc : s.alcC a ∈ y.lost := by rw [ey, ec]; exact alc_lost g
  rw [yh] at hP
  have hV := iStoreValid_c y (by omega)
  rw [(Sto.ok_iff _).2 yok] at hV
  have hR := iFreeCell_c y (s.alcC a) (by omega) (by omega)
  rw [decide_eq_true yc, show y.free (s.alcC a) = y.clr [s.alcC a] by rw [Sto.free, if_pos yc]] at hR
  have gn := Gone.one yc
  have zl := clr_len y [s.alcC a]
  simp only [List.length_cons, List.length_nil] at zl
  have hZ := iIsFree_c (y.clr [s.alcC a]) (s.alcC a) (by omega)
  rw [decide_eq_true (show (y.clr [s.alcC a]).ok ∧ s.alcC a ∈ (y.clr [s.alcC a]).F from ⟨gn.clr_ok, by simp [Sto.clr]⟩)] at hZ
  have hlen : ((y.clr [s.alcC a]).F.length : Int) = s.F.length := by
    have := zl.2.2.2
    omega
  have zl' : (y.clr [s.alcC a]).F.length ≤ 20 := by omega
  clear zl ey pe ec nc yok yc gn yh g hFl
  generalize y.clr [s.alcC a] = z at *
  generalize s.alcC a = c at *
  generalize hwe : s.alcS a = w at *
  obtain ⟨wh, wF⟩ := w
  dsimp only at yF hI hS hE hP hw ⊢
  subst yF
  clear hwe
  refine W_go ?_
  refine W_c1 [(0, (4104, 0)), (1, (4105, 0)), (2, (4106, 0)), (3, (4107, 0))] hI ?_
  refine W_go ?_
  refine W_c1 [(0, (4104, 0)), (1, (4105, 0)), (2, (4106, 0)), (3, (4107, 0))] hS ?_
  refine W_go ?_
  refine W_c1 [(0, (5136, 0)), (1, (5137, 0)), (2, (5138, 0)), (3, (5139, 0)), (4, (6160, 0)), (5, (6161, 0)), (6, (6162, 0)), (7, (6163, 0))] hE ?_
  refine W_iff ?_
  refine W_go ?_
  refine W_c1 [(0, (5136, 0)), (1, (5137, 0)), (2, (5138, 0))] hP ?_
  refine W_go ?_
  refine W_c1 [(0, (9240, 0)), (1, (9241, 0)), (2, (9242, 0)), (3, (5139, 0))] hR ?_
  refine W_go ?_
  refine W_ch2 [(0, (9240, 0)), (1, (9241, 0)), (2, (9242, 0)), (3, (5139, 0))] hV [(0, (11280, 0)), (1, (11281, 0)), (2, (11282, 0)), (3, (11283, 0))] hZ ?_
  refine W_go ?_
  refine W_rt [] [] ?_
  exact ⟨rfl, rfl⟩
end Go.Proofs.Ytbcnkfkmonpdeaa.S
