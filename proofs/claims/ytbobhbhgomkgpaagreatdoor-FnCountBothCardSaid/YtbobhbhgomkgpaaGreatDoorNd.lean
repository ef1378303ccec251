/- Contracts: the law FnCountBoth. Own work of this claim. -/
import Derived.Test.YtbobhbhgomkgpaaGreatDoorC5
import Derived.Test.YtbobhbhgomkgpaaGreatDoorC4
import Derived.Test.YtbobhbhgomkgpaaGreatDoorMg
namespace Go.Proofs.YtbobhbhgomkgpaaGreatDoor.S
set_option linter.all false
open Go Go.Proofs
set_option maxHeartbeats 4000000
set_option maxRecDepth 100000

theorem lCountBoth_c (B : List UInt8) (hB : B.length ≤ 9223372036854775807) : Fn Tryz.prog 3 [(0, .c false (.bys B))] [.sl 0 0 B.length] (fun r H => r = .bool true ∧ H = []) := by
  refine Fn_go Tryz.func3 ?_
  refine W_go ?_
  refine W_if (fun h1 => ?_) (fun h1 => ?_)
  · refine W_go ?_
    refine W_rt [] [] ?_
    exact ⟨rfl, rfl⟩
  have hB : B.length ≤ 1048576 := by omega
  clear h1
  refine W_go ?_
  refine W_rw fun K hK => ?_
  refine RW_x ?_
  repeat (refine And.intro (by omega) ?_)
  refine CKy (μ := [(0, (0, 0))]) ⟨⟩ (drawCountBoth_c B hB) (fun y hy => ?_)
  obtain ⟨b, bar⟩ := y
  try dsimp only at hy ⊢
  refine RW_x ?_
  repeat (refine And.intro (by omega) ?_)
  refine hK _ _ ?_
  obtain ⟨hb, hp, hl⟩ := hy
  have hI := iCount_c b bar hb
  have hS := sCount_c b bar hb
  have hc := cnt_law (bar := bar) (b := b)
  have hz := cnt_none (bar := bar) (b := b)
  have hle := cnt_le bar b
  have hok : (b.all bar).isSome = true → b.ok := fun q => by
    obtain ⟨r, e⟩ := Option.isSome_iff_exists.1 q
    exact (all_some e).1
  generalize b.cnt bar = n at *
  generalize (b.all bar).isSome = z at *
  cases z
  · obtain rfl := hz rfl
    clear hc hok hz
    refine W_go ?_
    refine W_c1 [(0, (4104, 0)), (1, (4105, 0)), (2, (4106, 0)), (3, (4107, 0)), (4, (4108, 0)), (5, (4109, 0))] hI ?_
    clear hI
    refine W_go ?_
    refine W_c1 [(0, (4104, 0)), (1, (4105, 0)), (2, (4106, 0)), (3, (4107, 0)), (4, (4108, 0)), (5, (4109, 0))] hS ?_
    clear hS
    refine W_go ?_
    refine W_ift ?_
    refine W_go ?_
    refine W_rt [] [] ?_
    exact ⟨rfl, rfl⟩
  · have h5 := hc rfl hp hl
    have h6 := (hok rfl)
    have h7 : 0 ≤ b.a ∧ b.a ≤ b.o.length := h6.2.2
    have h8 : (b.o.length : Int) - b.a + 4 ≤ (n : Int) := h5.1
    have h9 : (n : Int) ≤ 400 := by omega
    clear hc hz hok h6 h5 hp
    refine W_go ?_
    refine W_c1 [(0, (4104, 0)), (1, (4105, 0)), (2, (4106, 0)), (3, (4107, 0)), (4, (4108, 0)), (5, (4109, 0))] hI ?_
    clear hI
    refine W_go ?_
    refine W_c1 [(0, (4104, 0)), (1, (4105, 0)), (2, (4106, 0)), (3, (4107, 0)), (4, (4108, 0)), (5, (4109, 0))] hS ?_
    clear hS
    refine W_go ?_
    refine W_iff ?_
    refine W_gh ?_
    refine W_rt [] [] ?_
    exact ⟨rfl, rfl⟩
end Go.Proofs.YtbobhbhgomkgpaaGreatDoor.S
