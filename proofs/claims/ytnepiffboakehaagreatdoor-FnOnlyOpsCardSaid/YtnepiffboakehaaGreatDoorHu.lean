/- Contracts: the law FnOnlyOps. Own work of this claim. -/
import Derived.Test.YtnepiffboakehaaGreatDoorHm
import Derived.Test.YtnepiffboakehaaGreatDoorHe
import Derived.Test.YtnepiffboakehaaGreatDoorGn
namespace Go.Proofs.YtnepiffboakehaaGreatDoor.S
set_option linter.all false
open Go Go.Proofs
set_option maxHeartbeats 4000000
set_option maxRecDepth 100000

theorem lOnlyOps_c (B : List UInt8) (hB : B.length ≤ 9223372036854775807) : Fn Tryz.prog 6 [(0, .c false (.bys B))] [.sl 0 0 B.length] (fun r H => r = .bool true ∧ H = []) := by
  refine Fn_go Tryz.func6 ?_
  refine W_go ?_
  refine W_if (fun h1 => ?_) (fun h1 => ?_)
  · refine W_go ?_
    refine W_rt [] [] ?_
    exact ⟨rfl, rfl⟩
  have hB : B.length ≤ 1048576 := by omega
  clear h1
  refine W_go ?_
  refine W_rw fun K hK => ?_
  refine RW_x ?_
  repeat (refine And.intro (by omega) ?_)
  refine CKy (μ := [(0, (0, 0))]) ⟨⟩ (drawRunBoth_c B hB) (fun y hy => ?_)
  obtain ⟨sl, bad, bar⟩ := y
  try dsimp only at hy ⊢
  refine RW_x ?_
  repeat (refine And.intro (by omega) ?_)
  refine hK _ _ ?_
  obtain ⟨sl, l⟩ := sl
  dsimp only at hy ⊢
  have hl : l.length ≤ 24 := hy.2
  have ok : (Bth.new sl.1 sl.2).ok := Bth.new_ok hy.1.told
  have hg0 : (Bth.new sl.1 sl.2).g.p = 0 := by rw [Bth.new, if_pos hy.1.told]
  have hl0 : (Bth.new sl.1 sl.2).l = false := by rw [Bth.new, if_pos hy.1.told]
  have ha0 : (Bth.new sl.1 sl.2).a = 0 := by rw [Bth.new, if_pos hy.1.told]
  clear hy
  generalize Bth.new sl.1 sl.2 = b at *
  have hs := ok.small
  have hb : (((b.s.h.L.length ≤ 4194304 ∧ b.s.h.R.length ≤ 4194304 ∧ b.s.h.T.length ≤ 4194304) ∧ b.s.F.length ≤ 4194304) ∧ b.g.C.length ≤ 4194304) ∧ b.o.length ≤ 4194304 := by omega
  clear hs
  cases bad
  case true =>
    have hI := iRunBothX_c b hb l hl bar
    have hS := sRunBothX_c b ok l hl bar
    have hE := iBothT_c .zero (by simp [Bth.zero, Sto.zero, Gcc.zero])
    clear ok hg0 hl0 ha0
    rw [if_pos rfl]
    generalize schX l = z at *
    generalize Bth.zero = w at *
    refine W_go ?_
    refine W_c1 [(0, (4104, 0)), (1, (4105, 0)), (2, (4106, 0)), (3, (4107, 0)), (4, (4108, 0)), (5, (4109, 0))] hI ?_
    clear hI
    refine W_go ?_
    refine W_c1 [(0, (4104, 0)), (1, (4105, 0)), (2, (4106, 0)), (3, (4107, 0)), (4, (4108, 0)), (5, (4109, 0))] hS ?_
    clear hS
    refine W_go ?_
    refine W_c1 [(0, (5144, 0)), (1, (5145, 0)), (2, (5146, 0)), (3, (5147, 0)), (4, (5148, 0)), (5, (5149, 0)), (6, (6168, 0)), (7, (6169, 0)), (8, (6170, 0)), (9, (6171, 0)), (10, (6172, 0)), (11, (6173, 0))] hE ?_
    refine W_ift ?_
    refine W_go ?_
    refine W_c1 [(0, (5144, 0)), (1, (5145, 0)), (2, (5146, 0)), (3, (5147, 0)), (4, (5148, 0)), (5, (5149, 0)), (6, (6168, 0)), (7, (6169, 0)), (8, (6170, 0)), (9, (6171, 0)), (10, (6172, 0)), (11, (6173, 0))] hE ?_
    refine W_go ?_
    refine W_rt [] [] ?_
    exact ⟨rfl, rfl⟩
  rw [if_neg Bool.false_ne_true]
  have hI := iRunBoth_c b ok l (by omega) bar
  have hS := sRunBoth_c b ok l (by omega) bar
  have hrs := (Bth.run_ok bar l ok).small
  have hE := iBothT_c (Bth.run bar l b) (by omega)
  have hI1 := iRunBoth_c b ok (List.replicate 12 true) (by simp) bar
  have hR := iRunOps_c b.s b.o ⟨hb.1.1, hb.2⟩
  have hop : b.s.opsOk b.o := ⟨ok.1.1, ok.2.1⟩
  have hlen := ok.2.1.1
  rw [decide_eq_true hop, show b.s.opsN b.o = b.s.goN b.o by rw [Sto.opsN, if_pos hop], show b.s.opsS b.o = b.s.goS b.o by rw [Sto.opsS, if_pos hop]] at hR
  have hgo := ops_go bar 12 ok hl0 (by omega)
  rw [← run_ops bar 12 ok hl0, ha0, show (0 : Int).toNat = 0 from rfl, List.drop_zero, Nat.sub_zero] at hgo
  have hlo := (Bth.ops_end bar 12 ok (by omega))
  rw [← run_ops bar 12 ok hl0] at hlo
  have hll : (Bth.run bar (List.replicate 12 true) b).l = false := by rw [hlo.2.2.1]; exact hl0
  have hoo : (Bth.run bar (List.replicate 12 true) b).o = b.o := hlo.2.1
  have hys := (Bth.run_ok bar (List.replicate 12 true) ok).small
  have hSS := iSame_t (Bth.run bar (List.replicate 12 true) b).s (by omega)
  have hsc : sch (List.replicate 12 true) = ⟨#[111, 111, 111, 111, 111, 111, 111, 111, 111, 111, 111, 111]⟩ := rfl
  rw [hsc, hll] at hI1
  have hgl := goN_le b.s b.o
  clear hl ok hg0 hl0 ha0 hrs hlo hsc hys hop hoo
  generalize Bth.run bar (List.replicate 12 true) b = y at *
  generalize Bth.run bar l b = x at *
  generalize sch l = z at *
  replace hgo : Hold _ := ⟨hgo⟩
  generalize b.s.goN b.o = n at *
  generalize b.s.goS b.o = t at *
  refine W_go ?_
  refine W_c1 [(0, (4104, 0)), (1, (4105, 0)), (2, (4106, 0)), (3, (4107, 0)), (4, (4108, 0)), (5, (4109, 0))] hI ?_
  clear hI
  refine W_go ?_
  refine W_c1 [(0, (4104, 0)), (1, (4105, 0)), (2, (4106, 0)), (3, (4107, 0)), (4, (4108, 0)), (5, (4109, 0))] hS ?_
  clear hS
  refine W_go ?_
  refine W_c1 [(0, (5144, 0)), (1, (5145, 0)), (2, (5146, 0)), (3, (5147, 0)), (4, (5148, 0)), (5, (5149, 0)), (6, (6168, 0)), (7, (6169, 0)), (8, (6170, 0)), (9, (6171, 0)), (10, (6172, 0)), (11, (6173, 0))] hE ?_
  refine W_iff ?_
  refine W_go ?_
  refine W_c1 [(0, (4104, 0)), (1, (4105, 0)), (2, (4106, 0)), (3, (4107, 0)), (4, (4109, 0))] hR ?_
  clear hR
  refine W_go ?_
  refine W_if (fun q => ?_) (fun q => ?_)
  · refine W_go ?_
    refine W_rt [] [] ?_
    exact ⟨rfl, rfl⟩
  obtain ⟨e1, e2⟩ := hgo.told (by omega)
  subst e1
  rw [e2] at hI1
  clear hgo hgl q e2
  refine W_go ?_
  refine W_c1 [(0, (4104, 0)), (1, (4105, 0)), (2, (4106, 0)), (3, (4107, 0)), (4, (4108, 0)), (5, (4109, 0))] hI1 ?_
  refine W_go ?_
  refine W_ch1 [(0, (12304, 0)), (1, (12305, 0)), (2, (12306, 0)), (3, (12307, 0)), (4, (9248, 0)), (5, (9249, 0)), (6, (9250, 0)), (7, (9251, 0))] hSS ?_
  refine W_go ?_
  refine W_rt [] [] ?_
  exact ⟨rfl, rfl⟩
end Go.Proofs.YtnepiffboakehaaGreatDoor.S
