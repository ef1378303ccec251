/- Contracts: the law FnStepBoth. Own work of this claim. -/
import Derived.Test.YthldlaiplfennaaGreatGx
import Derived.Test.YthldlaiplfennaaGreatHe
import Derived.Test.YthldlaiplfennaaGreatHh
namespace Go.Proofs.YthldlaiplfennaaGreat.S
set_option linter.all false
open Go Go.Proofs
set_option maxHeartbeats 4000000
set_option maxRecDepth 100000

theorem lStepBoth_c (B : List UInt8) (hB : B.length ≤ 9223372036854775807) : Fn Tryz.prog 4 [(0, .c false (.bys B))] [.sl 0 0 B.length] (fun r H => r = .bool true ∧ H = []) := by
  refine Fn_go Tryz.func4 ?_
  refine W_go ?_
  refine W_if (fun h1 => ?_) (fun h1 => ?_)
  · refine W_go ?_
    refine W_rt [] [] ?_
    exact ⟨rfl, rfl⟩
  have hB : B.length ≤ 1048576 := by omega
  clear h1
  refine W_go ?_
  refine W_rw fun K hK => ?_
  refine RW_x ?_
  repeat (refine And.intro (by omega) ?_)
  refine CKy (μ := [(0, (0, 0))]) ⟨⟩ (lDrawStepBoth_c B hB) (fun b hb => ?_)
  try dsimp only at hb ⊢
  refine RW_x ?_
  repeat (refine And.intro (by omega) ?_)
  refine hK _ _ ?_
  have hx : (((b.s.h.L.length ≤ 4194304 ∧ b.s.h.R.length ≤ 4194304 ∧ b.s.h.T.length ≤ 4194304) ∧ b.s.F.length ≤ 4194304) ∧ b.g.C.length ≤ 4194304) ∧ b.o.length ≤ 4194304 := hb.1
  clear hb
  have hI := iStepBoth_c b hx
  have hS := sStepBoth_c b hx
  have hsm := b.sgc_small
  have hE := iBothT_c b.sgc (by omega)
  by_cases gr : b.gcOk
  case neg =>
    rw [decide_eq_false gr] at hI hS
    clear gr
    generalize b.sgc = w at *
    refine W_go ?_
    refine W_c1 [(0, (4104, 0)), (1, (4105, 0)), (2, (4106, 0)), (3, (4107, 0)), (4, (4108, 0)), (5, (4109, 0))] hI ?_
    refine W_go ?_
    refine W_c1 [(0, (4104, 0)), (1, (4105, 0)), (2, (4106, 0)), (3, (4107, 0)), (4, (4108, 0)), (5, (4109, 0))] hS ?_
    refine W_go ?_
    refine W_c1 [(0, (5128, 0)), (1, (5129, 0)), (2, (5130, 0)), (3, (5131, 0)), (4, (5132, 0)), (5, (5133, 0)), (6, (6152, 0)), (7, (6153, 0)), (8, (6154, 0)), (9, (6155, 0)), (10, (6156, 0)), (11, (6157, 0))] hE ?_
    refine W_ift ?_
    refine W_go ?_
    refine W_c1 [(0, (5128, 0)), (1, (5129, 0)), (2, (5130, 0)), (3, (5131, 0)), (4, (5132, 0)), (5, (5133, 0)), (6, (6152, 0)), (7, (6153, 0)), (8, (6154, 0)), (9, (6155, 0)), (10, (6156, 0)), (11, (6157, 0))] hE ?_
    refine W_go ?_
    refine W_rt [] [] ?_
    exact ⟨rfl, rfl⟩
  have gg := gr.1.1
  rw [decide_eq_true gr] at hI hS
  rw [show b.sgc = b.gcs by rw [Bth.sgc, if_pos gr]] at hI hS hE hsm
  have gl := gr.2
  have lv : b.s.live (b.g.sw b.s) = if b.g.sw b.s = -1 then false else b.s.h.reach.getD (b.g.sw b.s).toNat false := rfl
  cases gv : b.s.live (b.g.sw b.s)
  case true =>
    rw [gcs_y gg gv] at hI hS hE
    dsimp only at hI hS hE
    rw [gv] at lv
    have q1 : ¬ b.g.sw b.s = -1 := fun q => by rw [if_pos q] at lv; cases lv
    rw [if_neg q1] at lv
    have hW := iSweptCell_c b.s b.g hx.1.1 hx.1.2
    rw [show b.g.swept b.s = b.g.sw b.s by rw [Gcc.swept, if_pos gg]] at hW
    have hR := iReachable_c b.s.h hx.1.1.1
    have hn : b.s.h.reach.length = b.s.h.L.length := by rw [reach_len, if_pos ((Hp.ok_iff _).2 gg.1.1)]
    have hx2 := sw_in gg q1
    have hSS := iSame_t b.s hx.1.1
    have hGG := iGcSame_t b.g hx.1.2
    clear gr gg gv hsm
    generalize b.g.sw b.s = c at *
    generalize b.s.h.reach = rr at *
    have hx3 : 0 ≤ c ∧ c < rr.length := by omega
    clear hn hx2
    replace lv := lv.symm
    rw [gl] at hI hS ⊢
    refine W_go ?_
    refine W_c1 [(0, (4104, 0)), (1, (4105, 0)), (2, (4106, 0)), (3, (4107, 0)), (4, (4108, 0)), (5, (4109, 0))] hI ?_
    clear hI
    refine W_go ?_
    refine W_c1 [(0, (4104, 0)), (1, (4105, 0)), (2, (4106, 0)), (3, (4107, 0)), (4, (4108, 0)), (5, (4109, 0))] hS ?_
    clear hS
    refine W_go ?_
    refine W_c1 [(0, (5128, 0)), (1, (5129, 0)), (2, (5130, 0)), (3, (5131, 0)), (4, (5132, 0)), (5, (5133, 0)), (6, (6152, 0)), (7, (6153, 0)), (8, (6154, 0)), (9, (6155, 0)), (10, (6156, 0)), (11, (6157, 0))] hE ?_
    clear hE
    refine W_iff ?_
    refine W_go ?_
    refine W_ift ?_
    refine W_go ?_
    refine W_c1 [(0, (4104, 0)), (1, (4105, 0)), (2, (4106, 0)), (3, (4107, 0)), (4, (4108, 0))] hW ?_
    refine W_go ?_
    refine W_c1 [(0, (4104, 0)), (1, (4105, 0)), (2, (4106, 0))] hR ?_
    clear hW hR
    refine W_go ?_
    refine W_ch2 [(0, (5128, 0)), (1, (5129, 0)), (2, (5130, 0)), (3, (5131, 0)), (4, (4104, 0)), (5, (4105, 0)), (6, (4106, 0)), (7, (4107, 0))] hSS [(0, (5132, 0)), (1, (4108, 0))] hGG ?_
    refine W_go ?_
    refine W_rt [] [] ?_
    exact ⟨rfl, rfl⟩
  case false =>
    have so := live_st gg gv
    have hV := iBothValid_c b.gcs (by omega)
    rw [decide_eq_true gr.step] at hV
    rw [gcs_n gg gv] at hI hS hE hV hsm
    dsimp only at hI hS hE hV hsm
    have hT := iStepGc_c b.s b.g hx.1.1 hx.1.2
    rw [Gcc.stepS, Gcc.stepG, if_pos so, if_pos so, decide_eq_true so] at hT
    have hSS := iSame_t (b.g.stS b.s) (by omega)
    have hGG := iGcSame_t (b.g.stG b.s) (by omega)
    clear gr gg gv so lv
    generalize b.g.stS b.s = u at *
    generalize b.g.stG b.s = gc at *
    rw [gl] at hI hS hE hV ⊢
    refine W_go ?_
    refine W_c1 [(0, (4104, 0)), (1, (4105, 0)), (2, (4106, 0)), (3, (4107, 0)), (4, (4108, 0)), (5, (4109, 0))] hI ?_
    clear hI
    refine W_go ?_
    refine W_c1 [(0, (4104, 0)), (1, (4105, 0)), (2, (4106, 0)), (3, (4107, 0)), (4, (4108, 0)), (5, (4109, 0))] hS ?_
    clear hS
    refine W_go ?_
    refine W_c1 [(0, (5128, 0)), (1, (5129, 0)), (2, (5130, 0)), (3, (5131, 0)), (4, (5132, 0)), (5, (5133, 0)), (6, (6152, 0)), (7, (6153, 0)), (8, (6154, 0)), (9, (6155, 0)), (10, (6156, 0)), (11, (6157, 0))] hE ?_
    clear hE
    refine W_iff ?_
    refine W_go ?_
    refine W_iff ?_
    refine W_go ?_
    refine W_c1 [(0, (4104, 0)), (1, (4105, 0)), (2, (4106, 0)), (3, (4107, 0)), (4, (4108, 0))] hT ?_
    clear hT
    refine W_go ?_
    refine W_ch3 [(0, (5128, 0)), (1, (5129, 0)), (2, (5130, 0)), (3, (5131, 0)), (4, (5132, 0)), (5, (5133, 0))] hV [(0, (5128, 0)), (1, (5129, 0)), (2, (5130, 0)), (3, (5131, 0)), (4, (13344, 0)), (5, (13345, 0)), (6, (13346, 0)), (7, (13347, 0))] hSS [(0, (5132, 0)), (1, (13348, 0))] hGG ?_
    refine W_go ?_
    refine W_rt [] [] ?_
    exact ⟨rfl, rfl⟩
end Go.Proofs.YthldlaiplfennaaGreat.S
