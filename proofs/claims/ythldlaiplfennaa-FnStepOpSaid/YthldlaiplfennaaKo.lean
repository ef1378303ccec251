/- Contracts: the law FnStepOp. Own work of this claim. -/
import Derived.Test.YthldlaiplfennaaGw
import Derived.Test.YthldlaiplfennaaHe
import Derived.Test.YthldlaiplfennaaHh
import Derived.Test.YthldlaiplfennaaGe
namespace Go.Proofs.Ythldlaiplfennaa.S
set_option linter.all false
open Go Go.Proofs
set_option maxHeartbeats 4000000
set_option maxRecDepth 100000

theorem lStepOp_c (B : List UInt8) (hB : B.length ≤ 9223372036854775807) : Fn Try.prog 7 [(0, .c false (.bys B))] [.sl 0 0 B.length] (fun r H => r = .bool true ∧ H = []) := by
  refine Fn_go Try.func7 ?_
  refine W_go ?_
  refine W_if (fun h1 => ?_) (fun h1 => ?_)
  · refine W_go ?_
    refine W_rt [] [] ?_
    exact ⟨rfl, rfl⟩
  have hB : B.length ≤ 1048576 := by omega
  clear h1
  refine W_go ?_
  refine W_rw fun K hK => ?_
  refine RW_x ?_
  repeat (refine And.intro (by omega) ?_)
  refine CKy (μ := [(0, (0, 0))]) ⟨⟩ (drawStepOp_c B hB) (fun x hx => ?_)
  obtain ⟨b, bar⟩ := x
  try dsimp only at hx ⊢
  refine RW_x ?_
  repeat (refine And.intro (by omega) ?_)
  refine hK _ _ ?_
  have hb : (((b.s.h.L.length ≤ 4194304 ∧ b.s.h.R.length ≤ 4194304 ∧ b.s.h.T.length ≤ 4194304) ∧ b.s.F.length ≤ 4194304) ∧ b.g.C.length ≤ 4194304) ∧ b.o.length ≤ 4194304 := hx.1
  clear hx
  have hI := iStepOp_c b bar hb
  have hS := sStepOp_c b bar hb
  have hsm := b.sop_small bar
  have hE := iBothT_c (b.sop bar) (by omega)
  by_cases gr : b.opOk
  case neg =>
    rw [decide_eq_false gr] at hI hS
    clear gr
    generalize b.sop bar = w at *
    refine W_go ?_
    refine W_c1 [(0, (4104, 0)), (1, (4105, 0)), (2, (4106, 0)), (3, (4107, 0)), (4, (4108, 0)), (5, (4109, 0))] hI ?_
    refine W_go ?_
    refine W_c1 [(0, (4104, 0)), (1, (4105, 0)), (2, (4106, 0)), (3, (4107, 0)), (4, (4108, 0)), (5, (4109, 0))] hS ?_
    refine W_go ?_
    refine W_c1 [(0, (5136, 0)), (1, (5137, 0)), (2, (5138, 0)), (3, (5139, 0)), (4, (5140, 0)), (5, (5141, 0)), (6, (6160, 0)), (7, (6161, 0)), (8, (6162, 0)), (9, (6163, 0)), (10, (6164, 0)), (11, (6165, 0))] hE ?_
    refine W_ift ?_
    refine W_go ?_
    refine W_c1 [(0, (5136, 0)), (1, (5137, 0)), (2, (5138, 0)), (3, (5139, 0)), (4, (5140, 0)), (5, (5141, 0)), (6, (6160, 0)), (7, (6161, 0)), (8, (6162, 0)), (9, (6163, 0)), (10, (6164, 0)), (11, (6165, 0))] hE ?_
    refine W_go ?_
    refine W_rt [] [] ?_
    exact ⟨rfl, rfl⟩
  have ew : b.sop bar = ⟨b.opS, b.opG bar, b.o, b.a + 1, false⟩ := by rw [Bth.sop, if_pos gr, Bth.op, gr.2.1]
  rw [decide_eq_true gr] at hI hS
  rw [ew] at hI hS hE hsm
  dsimp only at hI hS hE hsm
  have gl := gr.2.1
  have hR := iopR_c b gr hb
  have h0 : 0 ≤ b.a := gr.1.2.2.1
  have h1 : b.a < b.o.length := by have := gr.1.2.2.2; have := gr.2.2; omega
  have h2 : b.o.length ≤ 12 := gr.1.2.1.1
  have hok := gr.1.1.1
  have hgrow := gr.grow bar
  have hG := gr.G bar
  have hV := iBothValid_c (b.op bar) (by have := (gr.step bar).small; omega)
  rw [decide_eq_true (gr.step bar), show b.op bar = ⟨b.opS, b.opG bar, b.o, b.a + 1, false⟩ by rw [Bth.op, gl]] at hV
  dsimp only at hV
  have hSS := iSame_t b.opS (by have := (gr.step bar).small; dsimp only [Bth.op] at this; omega)
  have hF := fun (i : Int) => iIsFree_c b.s i hb.1.1
  have eP := hG.2.1
  have eC : (b.opG bar).C.length ≤ b.g.C.length ∧ b.g.C.length ≤ (b.opG bar).C.length := by have := hG.2.2.2; omega
  clear ew gr hG
  generalize b.opS = u at *
  generalize b.opG bar = gg at *
  generalize b.opE = e at *
  obtain ⟨gp, gC, ga⟩ := gg
  dsimp only at *
  subst eP
  replace hok : Hold _ := ⟨hok⟩
  replace hgrow : Hold _ := ⟨hgrow⟩
  rw [gl] at hI hS ⊢
  refine W_go ?_
  refine W_c1 [(0, (4104, 0)), (1, (4105, 0)), (2, (4106, 0)), (3, (4107, 0)), (4, (4108, 0)), (5, (4109, 0))] hI ?_
  clear hI
  refine W_go ?_
  refine W_c1 [(0, (4104, 0)), (1, (4105, 0)), (2, (4106, 0)), (3, (4107, 0)), (4, (4108, 0)), (5, (4109, 0))] hS ?_
  clear hS
  refine W_go ?_
  refine W_c1 [(0, (5136, 0)), (1, (5137, 0)), (2, (5138, 0)), (3, (5139, 0)), (4, (5140, 0)), (5, (5141, 0)), (6, (6160, 0)), (7, (6161, 0)), (8, (6162, 0)), (9, (6163, 0)), (10, (6164, 0)), (11, (6165, 0))] hE ?_
  clear hE
  refine W_iff ?_
  repeat (first | refine W_seq ?_ | refine W_skip ?_ | refine W_block ?_ | refine W_pop ?_ | refine W_o ?_)
  refine W_dc1 [(0, (4104, 0)), (1, (4105, 0)), (2, (4106, 0)), (3, (4107, 0))] hR [.w 7 (.agg [.int .i64 (b.o.getD b.a.toNat (0, 0, 0)).1, .int .i64 (b.o.getD b.a.toNat (0, 0, 0)).2.1, .int .i64 (b.o.getD b.a.toNat (0, 0, 0)).2.2]), .c _ _ _] ?_
  clear hR
  refine W_go ?_
  refine W_lp (T := 13) (σ := Nat) (me := fun i => [(12, .int .i64 i)]) (mh := fun _ => []) (inv := fun i => i ≤ b.g.C.length) (m := fun i => b.g.C.length - i) (s0 := 0) (Nat.zero_le _) ?_
  · intro i hi
    refine W_go ?_
    refine W_if (fun q => ?_) (fun q => ?_)
    · have hil : i < b.g.C.length := by omega
      have hg := hgrow.told i hil
      have hFi := hF i
      clear hF hV hSS
      repeat (first | refine W_seq ?_ | refine W_skip ?_ | refine W_block ?_ | refine W_pop ?_ | refine W_o ?_)
      by_cases lt : gC.getD i 0 < b.g.C.getD i 0
      · have hm : (i : Int) ∈ b.s.F := hg.resolve_left (by omega)
        rw [decide_eq_true (⟨hok.told, hm⟩ : b.s.ok ∧ (i : Int) ∈ b.s.F)] at hFi
        clear hg hm
        refine W_dch1 [(0, (4104, 0)), (1, (4105, 0)), (2, (4106, 0)), (3, (4107, 0))] hFi [.g true, .g true, .g true, .g true, .c _ _ _, .g true] ?_
        refine W_iff ?_
        refine W_go ?_
        refine W_bk (i + 1) (by omega) (by omega)
      · clear hg
        refine W_dos [.g false, .g false, .g false, .g false, .g false] ?_
        refine W_iff ?_
        refine W_go ?_
        refine W_bk (i + 1) (by omega) (by omega)
    · clear hF
      refine W_go ?_
      refine W_ch2 [(0, (5136, 0)), (1, (5137, 0)), (2, (5138, 0)), (3, (5139, 0)), (4, (5140, 0)), (5, (5141, 0))] hV [(0, (5136, 0)), (1, (5137, 0)), (2, (5138, 0)), (3, (5139, 0)), (4, (9280, 0)), (5, (9281, 0)), (6, (9282, 0)), (7, (9283, 0))] hSS ?_
      refine W_go ?_
      refine W_rt [] [] ?_
      exact ⟨rfl, rfl⟩
end Go.Proofs.Ythldlaiplfennaa.S
