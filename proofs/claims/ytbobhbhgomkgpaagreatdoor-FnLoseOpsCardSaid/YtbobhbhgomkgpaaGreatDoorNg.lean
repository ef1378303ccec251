/- Contracts: the law FnLoseOps. Own work of this claim. -/
import Derived.Test.YtbobhbhgomkgpaaGreatDoorC5
import Derived.Test.YtbobhbhgomkgpaaGreatDoorC4
import Derived.Test.YtbobhbhgomkgpaaGreatDoorMg
namespace Go.Proofs.YtbobhbhgomkgpaaGreatDoor.S
set_option linter.all false
open Go Go.Proofs
set_option maxHeartbeats 4000000
set_option maxRecDepth 100000

theorem lLoseOps_c (B : List UInt8) (hB : B.length ≤ 9223372036854775807) : Fn Tryz.prog 6 [(0, .c false (.bys B))] [.sl 0 0 B.length] (fun r H => r = .bool true ∧ H = []) := by
  refine Fn_go Tryz.func6 ?_
  refine W_go ?_
  refine W_if (fun h1 => ?_) (fun h1 => ?_)
  · refine W_go ?_
    refine W_rt [] [] ?_
    exact ⟨rfl, rfl⟩
  have hB : B.length ≤ 1048576 := by omega
  clear h1
  refine W_go ?_
  refine W_rw fun K hK => ?_
  refine RW_x ?_
  repeat (refine And.intro (by omega) ?_)
  refine CKy (μ := [(0, (0, 0))]) ⟨⟩ (drawCanLose_c B hB) (fun y hy => ?_)
  obtain ⟨b, bar⟩ := y
  try dsimp only at hy ⊢
  refine RW_x ?_
  repeat (refine And.intro (by omega) ?_)
  refine hK _ _ ?_
  obtain ⟨hb, hp, hl⟩ := hy
  have hI := iCanLose_c b bar hb
  have hS := sCanLose_c b bar hb
  have hcs := can_some (bar := bar) (b := b)
  generalize hc : b.can bar = c at *
  cases z : (b.all bar).isSome
  · have hc0 : c = false := by
      cases c
      · rfl
      · rw [hcs rfl] at z; cases z
    subst hc0
    rw [z] at hI hS
    clear hcs hc
    refine W_go ?_
    refine W_c1 [(0, (4104, 0)), (1, (4105, 0)), (2, (4106, 0)), (3, (4107, 0)), (4, (4108, 0)), (5, (4109, 0))] hI ?_
    clear hI
    refine W_go ?_
    refine W_c1 [(0, (4104, 0)), (1, (4105, 0)), (2, (4106, 0)), (3, (4107, 0)), (4, (4108, 0)), (5, (4109, 0))] hS ?_
    clear hS
    refine W_go ?_
    refine W_ift ?_
    refine W_go ?_
    refine W_rt [] [] ?_
    exact ⟨rfl, rfl⟩
  · obtain ⟨r, e⟩ := Option.isSome_iff_exists.1 z
    have hok := (all_some e).1
    have hso : b.s.opsOk [] := ⟨hok.1.1, opsV_mem (by simp) (fun o ho => by cases ho)⟩
    obtain ⟨n1, n2, n3⟩ := noops_law (bar := bar) hso
    have hN := iNewBoth_c b.s [] ⟨hb.1.1, by simp⟩
    rw [decide_eq_true hso] at hN
    have hw := Bth.new_ok hso
    have hws := hw.small
    have hwb : ((((Bth.new b.s []).s.h.L.length ≤ 4194304 ∧ (Bth.new b.s []).s.h.R.length ≤ 4194304 ∧ (Bth.new b.s []).s.h.T.length ≤ 4194304) ∧ (Bth.new b.s []).s.F.length ≤ 4194304) ∧ (Bth.new b.s []).g.C.length ≤ 4194304) ∧ (Bth.new b.s []).o.length ≤ 4194304 := by omega
    have hC := iCount_c (Bth.new b.s []) bar hwb
    have hL := iCanLose_c (Bth.new b.s []) bar hwb
    have hle := cnt_le bar (Bth.new b.s [])
    rw [n1] at hC hL
    rw [n3] at hL
    rw [z] at hI hS
    clear z e hok hso n1 n3 hw hws hcs hc hp hl
    generalize (Bth.new b.s []).cnt bar = n at *
    generalize Bth.new b.s [] = w at *
    have n2 : (4 : Int) ≤ (n : Int) := by omega
    refine W_go ?_
    refine W_c1 [(0, (4104, 0)), (1, (4105, 0)), (2, (4106, 0)), (3, (4107, 0)), (4, (4108, 0)), (5, (4109, 0))] hI ?_
    clear hI
    refine W_go ?_
    refine W_c1 [(0, (4104, 0)), (1, (4105, 0)), (2, (4106, 0)), (3, (4107, 0)), (4, (4108, 0)), (5, (4109, 0))] hS ?_
    clear hS
    refine W_go ?_
    refine W_iff ?_
    refine W_go ?_
    refine W_c1 [(0, (4104, 0)), (1, (4105, 0)), (2, (4106, 0)), (3, (4107, 0)), (4, (9232, 0))] hN ?_
    clear hN
    refine W_go ?_
    refine W_c1 [(0, (9240, 0)), (1, (9241, 0)), (2, (9242, 0)), (3, (9243, 0)), (4, (9244, 0)), (5, (9245, 0))] hC ?_
    clear hC
    refine W_go ?_
    refine W_c1 [(0, (9240, 0)), (1, (9241, 0)), (2, (9242, 0)), (3, (9243, 0)), (4, (9244, 0)), (5, (9245, 0))] hL ?_
    clear hL
    refine W_gh ?_
    refine W_rt [] [] ?_
    exact ⟨rfl, rfl⟩
end Go.Proofs.YtbobhbhgomkgpaaGreatDoor.S
