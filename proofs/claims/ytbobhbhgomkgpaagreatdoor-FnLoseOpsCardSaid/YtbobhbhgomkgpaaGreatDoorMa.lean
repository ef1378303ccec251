/- Contracts: one more value of both is met. Own work of this claim. -/
import Derived.Test.YtbobhbhgomkgpaaGreatDoorGx
import Derived.Test.YtbobhbhgomkgpaaGreatDoorGw
import Derived.Test.YtbobhbhgomkgpaaGreatDoorC2
import Derived.Test.YtbobhbhgomkgpaaGreatDoorA7
namespace Go.Proofs.YtbobhbhgomkgpaaGreatDoor.S
set_option linter.all false
open Go Go.Proofs
set_option maxHeartbeats 4000000
set_option maxRecDepth 100000

theorem app_ren (ρ : Rho) (cells X : List AV) (n : Nat) (hn : cells.length ≤ n * 11) (hX : X ≠ []) : renDL ρ ((LV.av 11 (List.take (n * 11) (noN cells))).app2 (.av 11 X)) = .av 11 (noN cells ++ X.map (renD ρ)) := by
  rw [List.take_of_length_le (by rw [noN_len]; exact hn)]
  have h := noN_renD ρ cells
  generalize noN cells = l at *
  cases X with
  | nil => exact (hX rfl).elim
  | cons x X =>
    cases l with
    | nil => rfl
    | cons c l =>
      show LV.av 11 (List.map (renD ρ) ((c :: l) ++ (x :: X))) = _
      rw [List.map_append, h]
theorem meet_y (v : Nat → Value) (cells : List AV) (n : Nat) (es : List (ByteArray × Bool)) (x y : Bth) (s c : ByteArray) (hy : (((y.s.h.L.length ≤ 4194304 ∧ y.s.h.R.length ≤ 4194304 ∧ y.s.h.T.length ≤ 4194304) ∧ y.s.F.length ≤ 4194304) ∧ y.g.C.length ≤ 4194304) ∧ y.o.length ≤ 4194304) (hc : cells.length ≤ n * 11 ∧ n * 11 ≤ cells.length) (hn : n ≤ 1000) (hs : s.size ≤ 1000 ∧ c.size ≤ 1000) (e : mpGet es (bs y.text) = false) :
    Fn Tryz.prog 53 [(0, .c false (.av 1 [.mapv 1])), (1, .mp es), (2, .c true (.av 1 [.sl 3 0 n])), (3, .c true (.av 11 (noN cells))), (4, .c false (.av 1 [.lit (v 0), .lit (v 1), .lit (v 2), .lit (v 3), .int .i64 x.g.p, .lit (v 4), .int .i64 x.g.a, .lit (v 5), .int .i64 x.a, .bool x.l, .str s])), (5, .c false (.ints y.s.h.L)), (6, .c false (.ints y.s.h.R)), (7, .c false (.ints y.s.h.T)), (8, .c false (.ints y.s.F)), (9, .c false (.ints y.g.C)), (10, .c false (.ops y.o))] [.agg [.sl 5 0 y.s.h.L.length, .sl 6 0 y.s.h.R.length, .sl 7 0 y.s.h.T.length, .sl 8 0 y.s.F.length, .int .i64 y.g.p, .sl 9 0 y.g.C.length, .int .i64 y.g.a, .sl 10 0 y.o.length, .int .i64 y.a, .bool y.l], .bool true, .str c, .ptr 0 0, .ptr 2 0, .ptr 4 0]
    (fun r H => r = .tup [] ∧ H = [(1, .mp (mpPut es (bs y.text) true)), (2, .c true (.av 1 [.sl 100 0 (n + 1)])), (100, .c true (.av 11 (noN cells ++ [.sl 5 0 y.s.h.L.length, .sl 6 0 y.s.h.R.length, .sl 7 0 y.s.h.T.length, .sl 8 0 y.s.F.length, .int .i64 y.g.p, .sl 9 0 y.g.C.length, .int .i64 y.g.a, .sl 10 0 y.o.length, .int .i64 y.a, .bool y.l, .str (s ++ c)])))]) := by
  have hF := iFormatBoth_c y hy
  generalize bs y.text = t at *
  refine Fn_go Tryz.func53 ?_
  refine W_go ?_
  refine W_c1 [(0, (5, 0)), (1, (6, 0)), (2, (7, 0)), (3, (8, 0)), (4, (9, 0)), (5, (10, 0))] hF ?_
  refine W_go ?_
  refine W_gh ?_
  refine W_ift (hb := by rw [e]; rfl) ?_
  refine W_go ?_
  refine W_gh ?_
  refine W_re [(1, (1, 0)), (2, (2, 0)), (5184, (100, 0))] [] ?_
  exact ⟨rfl, congrArg (fun l => [(1, Ent.mp (mpPut es t true)), (2, Ent.c true (LV.av 1 [.sl 100 0 (n + 1)])), (100, Ent.c true l)]) (app_ren _ cells _ n hc.1 (by simp))⟩
theorem meet_n (v : Nat → Value) (cells : List AV) (n : Nat) (es : List (ByteArray × Bool)) (x y : Bth) (s c : ByteArray) (hy : (((y.s.h.L.length ≤ 4194304 ∧ y.s.h.R.length ≤ 4194304 ∧ y.s.h.T.length ≤ 4194304) ∧ y.s.F.length ≤ 4194304) ∧ y.g.C.length ≤ 4194304) ∧ y.o.length ≤ 4194304) (hc : cells.length ≤ n * 11 ∧ n * 11 ≤ cells.length) (hn : n ≤ 1000) (ok : Bool) (e : ok = true → mpGet es (bs y.text) = true) :
    Fn Tryz.prog 53 [(0, .c false (.av 1 [.mapv 1])), (1, .mp es), (2, .c true (.av 1 [.sl 3 0 n])), (3, .c true (.av 11 (noN cells))), (4, .c false (.av 1 [.lit (v 0), .lit (v 1), .lit (v 2), .lit (v 3), .int .i64 x.g.p, .lit (v 4), .int .i64 x.g.a, .lit (v 5), .int .i64 x.a, .bool x.l, .str s])), (5, .c false (.ints y.s.h.L)), (6, .c false (.ints y.s.h.R)), (7, .c false (.ints y.s.h.T)), (8, .c false (.ints y.s.F)), (9, .c false (.ints y.g.C)), (10, .c false (.ops y.o))] [.agg [.sl 5 0 y.s.h.L.length, .sl 6 0 y.s.h.R.length, .sl 7 0 y.s.h.T.length, .sl 8 0 y.s.F.length, .int .i64 y.g.p, .sl 9 0 y.g.C.length, .int .i64 y.g.a, .sl 10 0 y.o.length, .int .i64 y.a, .bool y.l], .bool ok, .str c, .ptr 0 0, .ptr 2 0, .ptr 4 0]
    (fun r H => r = .tup [] ∧ H = [(1, .mp es), (2, .c true (.av 1 [.sl 3 0 n])), (3, .c true (.av 11 (noN cells)))]) := by
  have hF := iFormatBoth_c y hy
  generalize bs y.text = t at *
  refine Fn_go Tryz.func53 ?_
  cases ok
  · clear e
    refine W_go ?_
    refine W_c1 [(0, (5, 0)), (1, (6, 0)), (2, (7, 0)), (3, (8, 0)), (4, (9, 0)), (5, (10, 0))] hF ?_
    refine W_go ?_
    refine W_iff ?_
    refine W_go ?_
    refine W_re [(1, (1, 0)), (2, (2, 0)), (3, (3, 0))] [] ?_
    exact ⟨rfl, rfl⟩
  · have e := e rfl
    refine W_go ?_
    refine W_c1 [(0, (5, 0)), (1, (6, 0)), (2, (7, 0)), (3, (8, 0)), (4, (9, 0)), (5, (10, 0))] hF ?_
    refine W_go ?_
    refine W_gh ?_
    refine W_iff (hb := by rw [e]; rfl) ?_
    refine W_go ?_
    refine W_re [(1, (1, 0)), (2, (2, 0)), (3, (3, 0))] [] ?_
    exact ⟨rfl, rfl⟩
end Go.Proofs.YtbobhbhgomkgpaaGreatDoor.S
