/- Contracts: the law FnBarrierColor. Own work of this claim. -/
import Derived.Test.YthldlaiplfennaaGw
import Derived.Test.YthldlaiplfennaaHe
import Derived.Test.YthldlaiplfennaaHh
import Derived.Test.YthldlaiplfennaaGe
namespace Go.Proofs.Ythldlaiplfennaa.S
set_option linter.all false
open Go Go.Proofs
set_option maxHeartbeats 4000000
set_option maxRecDepth 100000

theorem lBarrierColor_c (B : List UInt8) (hB : B.length ≤ 9223372036854775807) : Fn Try.prog 5 [(0, .c false (.bys B))] [.sl 0 0 B.length] (fun r H => r = .bool true ∧ H = []) := by
  refine Fn_go Try.func5 ?_
  refine W_go ?_
  refine W_if (fun h1 => ?_) (fun h1 => ?_)
  · refine W_go ?_
    refine W_rt [] [] ?_
    exact ⟨rfl, rfl⟩
  have hB : B.length ≤ 1048576 := by omega
  clear h1
  refine W_go ?_
  refine W_rw fun K hK => ?_
  refine RW_x ?_
  repeat (refine And.intro (by omega) ?_)
  refine CKy (μ := [(0, (0, 0))]) ⟨⟩ (drawStepOp_c B hB) (fun x hx => ?_)
  obtain ⟨b, bar⟩ := x
  try dsimp only at hx ⊢
  refine RW_x ?_
  repeat (refine And.intro (by omega) ?_)
  refine hK _ _ ?_
  have hb : (((b.s.h.L.length ≤ 4194304 ∧ b.s.h.R.length ≤ 4194304 ∧ b.s.h.T.length ≤ 4194304) ∧ b.s.F.length ≤ 4194304) ∧ b.g.C.length ≤ 4194304) ∧ b.o.length ≤ 4194304 := hx.1
  clear hx
  have hI := iStepOp_c b bar hb
  have hS := sStepOp_c b bar hb
  have hsm := b.sop_small bar
  have hE := iBothT_c (b.sop bar) (by omega)
  by_cases gr : b.opOk
  case neg =>
    rw [decide_eq_false gr] at hI hS
    clear gr
    generalize b.sop bar = w at *
    refine W_go ?_
    refine W_c1 [(0, (4104, 0)), (1, (4105, 0)), (2, (4106, 0)), (3, (4107, 0)), (4, (4108, 0)), (5, (4109, 0))] hI ?_
    refine W_go ?_
    refine W_c1 [(0, (4104, 0)), (1, (4105, 0)), (2, (4106, 0)), (3, (4107, 0)), (4, (4108, 0)), (5, (4109, 0))] hS ?_
    refine W_go ?_
    refine W_c1 [(0, (5136, 0)), (1, (5137, 0)), (2, (5138, 0)), (3, (5139, 0)), (4, (5140, 0)), (5, (5141, 0)), (6, (6160, 0)), (7, (6161, 0)), (8, (6162, 0)), (9, (6163, 0)), (10, (6164, 0)), (11, (6165, 0))] hE ?_
    refine W_ift ?_
    refine W_go ?_
    refine W_c1 [(0, (5136, 0)), (1, (5137, 0)), (2, (5138, 0)), (3, (5139, 0)), (4, (5140, 0)), (5, (5141, 0)), (6, (6160, 0)), (7, (6161, 0)), (8, (6162, 0)), (9, (6163, 0)), (10, (6164, 0)), (11, (6165, 0))] hE ?_
    refine W_go ?_
    refine W_rt [] [] ?_
    exact ⟨rfl, rfl⟩
  have ew : b.sop bar = ⟨b.opS, b.opG bar, b.o, b.a + 1, false⟩ := by rw [Bth.sop, if_pos gr, Bth.op, gr.2.1]
  rw [decide_eq_true gr] at hI hS
  rw [ew] at hI hS hE hsm
  dsimp only at hI hS hE hsm
  have gl := gr.2.1
  have hI1 := iStepOp_c b true hb
  have hI0 := iStepOp_c b false hb
  rw [decide_eq_true gr] at hI1 hI0
  rw [show b.sop true = ⟨b.opS, b.opG true, b.o, b.a + 1, false⟩ by rw [Bth.sop, if_pos gr, Bth.op, gl]] at hI1
  rw [show b.sop false = ⟨b.opS, b.opG false, b.o, b.a + 1, false⟩ by rw [Bth.sop, if_pos gr, Bth.op, gl]] at hI0
  dsimp only at hI1 hI0
  obtain ⟨x, hx⟩ := gr.barrier
  have hG := gr.G bar
  have hG1 := gr.G true
  have hG0 := gr.G false
  have sm := (gr.step bar).small
  dsimp only [Bth.op] at sm
  have hSS := iSame_t b.opS (by omega)
  have eC : (b.opG true).C.length ≤ (b.opG false).C.length ∧ (b.opG false).C.length ≤ (b.opG true).C.length ∧ (b.opG true).C.length ≤ 8 := by have := hG1.2.2.2; have := hG0.2.2.2; have := hG.2.2.2; omega
  clear ew gr hG hG1 hG0 gl
  generalize b.opS = u at *
  generalize b.opG bar = gg at *
  generalize b.opG true = g1 at *
  generalize b.opG false = g0 at *
  generalize b.opE = e at *
  replace hx : Hold _ := ⟨hx⟩
  refine W_go ?_
  refine W_c1 [(0, (4104, 0)), (1, (4105, 0)), (2, (4106, 0)), (3, (4107, 0)), (4, (4108, 0)), (5, (4109, 0))] hI ?_
  clear hI
  refine W_go ?_
  refine W_c1 [(0, (4104, 0)), (1, (4105, 0)), (2, (4106, 0)), (3, (4107, 0)), (4, (4108, 0)), (5, (4109, 0))] hS ?_
  clear hS
  refine W_go ?_
  refine W_c1 [(0, (5136, 0)), (1, (5137, 0)), (2, (5138, 0)), (3, (5139, 0)), (4, (5140, 0)), (5, (5141, 0)), (6, (6160, 0)), (7, (6161, 0)), (8, (6162, 0)), (9, (6163, 0)), (10, (6164, 0)), (11, (6165, 0))] hE ?_
  clear hE
  refine W_iff ?_
  refine W_go ?_
  refine W_c1 [(0, (4104, 0)), (1, (4105, 0)), (2, (4106, 0)), (3, (4107, 0)), (4, (4108, 0)), (5, (4109, 0))] hI1 ?_
  clear hI1
  refine W_go ?_
  refine W_c1 [(0, (4104, 0)), (1, (4105, 0)), (2, (4106, 0)), (3, (4107, 0)), (4, (4108, 0)), (5, (4109, 0))] hI0 ?_
  clear hI0
  refine W_go ?_
  refine W_lp (T := 15) (σ := Nat × Nat) (me := fun s => [(14, .int .i64 s.1), (13, .int .i64 s.2)]) (mh := fun _ => []) (inv := fun s => s.1 ≤ g1.C.length ∧ (s.2 = 0 ∨ s.2 = 1 ∧ x < s.1)) (m := fun s => g1.C.length - s.1) (s0 := (0, 0)) ⟨Nat.zero_le _, .inl rfl⟩ ?_
  · rintro ⟨i, n⟩ ⟨hi, hn⟩
    dsimp only at hi hn ⊢
    refine W_go ?_
    refine W_if (fun q => ?_) (fun q => ?_)
    · have hil : i < g1.C.length := by omega
      have hxi := hx.told i hil
      clear hSS
      refine W_go ?_
      refine W_if (fun d => ?_) (fun d => ?_)
      · obtain ⟨rfl, c1, c0⟩ := hxi.resolve_left d
        obtain rfl : n = 0 := by omega
        clear d hn
        refine W_go ?_
        refine W_gh ?_
        refine W_iff ?_
        refine W_go ?_
        refine W_bk (i + 1, 1) ⟨by dsimp only; omega, .inr ⟨rfl, by dsimp only; omega⟩⟩ (by dsimp only; omega)
      · clear hxi
        refine W_go ?_
        refine W_bk (i + 1, n) ⟨by dsimp only; omega, by dsimp only; omega⟩ (by dsimp only; omega)
    · have hn1 : (n : Int) ≤ 1 := by omega
      refine W_go ?_
      refine W_ch1 [(0, (9224, 0)), (1, (9225, 0)), (2, (9226, 0)), (3, (9227, 0)), (4, (10248, 0)), (5, (10249, 0)), (6, (10250, 0)), (7, (10251, 0))] hSS ?_
      refine W_go ?_
      refine W_rt [] [] ?_
      exact ⟨rfl, rfl⟩
end Go.Proofs.Ythldlaiplfennaa.S
