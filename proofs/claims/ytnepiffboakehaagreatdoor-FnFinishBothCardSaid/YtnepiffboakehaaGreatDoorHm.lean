/- Contracts: the program's RunBoth, schedules that are misspelt (both sides), and what is drawn for RunBoth. Own work of this claim. -/
import Derived.Test.YtnepiffboakehaaGreatDoorGx
import Derived.Test.YtnepiffboakehaaGreatDoorGw
import Derived.Test.YtnepiffboakehaaGreatDoorHh
import Derived.Test.YtnepiffboakehaaGreatDoorTf
import Derived.Test.YtnepiffboakehaaGreatDoorA6
import Derived.Test.YtnepiffboakehaaGreatDoorTk
namespace Go.Proofs.YtnepiffboakehaaGreatDoor.S
set_option linter.all false
open Go Go.Proofs
set_option maxHeartbeats 4000000
set_option maxRecDepth 100000

theorem enters_f {P : Program} {f : Nat} {fn : Func} {c : Code} (hf : P.funcs[f]? = some fn) (hb : fn.body = some c) (hname : (fn.name == "runtime.NumGoroutine") = false) (vs : Array Value) (w : World) : (callFunc f vs).run P w = .ok (.enter f vs) w := by
  simp [callFunc, hf, hb]
  simpa using hname
theorem iTrim_c (l : List UInt8) (h : l.length ≤ 1099511627776) : Fn Tryz.prog 31 [] [.str (bs l), .str ⟨#[111, 103]⟩] (fun r H => r = .str (bs (Lib.trimS l [111, 103])) ∧ H = []) := by
  refine Fn_below (vs0 := #[.string (bs l), .string ⟨#[111, 103]⟩]) (c := .string (bs (Lib.trimS l [111, 103]))) (enters_f Tryz.func31 rfl (by kernel_rfl)) (fun ν vs hF => two_strs hF) (fun w => ?_) (fun ν => rfl)
  exact Any.strings_Trim_laid Tryz.lays160 (by kernel_rfl) (bs l) ⟨#[111, 103]⟩ w (by rw [bs_size]; omega) (by decide) (ascii_of_all (by decide))
theorem nil_is : ((bs []).toList == (⟨#[]⟩ : ByteArray).toList) = true := by rw [show (⟨#[]⟩ : ByteArray) = bs [] from rfl, beq_self_eq_true]
theorem nil_not {l : List UInt8} (h : l ≠ []) : ((bs l).toList == (⟨#[]⟩ : ByteArray).toList) = false := by
  rw [show (⟨#[]⟩ : ByteArray) = bs [] from rfl, bs_toList, bs_toList]
  exact beq_eq_false_iff_ne.2 h
theorem iRunBoth_c (b : Bth) (ok : b.ok) (l : List Bool) (hl : l.length ≤ 100) (bar : Bool) : Fn Tryz.prog 11 [(0, .c false (.ints b.s.h.L)), (1, .c false (.ints b.s.h.R)), (2, .c false (.ints b.s.h.T)), (3, .c false (.ints b.s.F)), (4, .c false (.ints b.g.C)), (5, .c false (.ops b.o))] [.agg [.sl 0 0 b.s.h.L.length, .sl 1 0 b.s.h.R.length, .sl 2 0 b.s.h.T.length, .sl 3 0 b.s.F.length, .int .i64 b.g.p, .sl 4 0 b.g.C.length, .int .i64 b.g.a, .sl 5 0 b.o.length, .int .i64 b.a, .bool b.l], .str (sch l), .bool bar]
    (fun r H => r = .tup [.agg [.sl 100 0 (Bth.run bar l b).s.h.L.length, .sl 101 0 (Bth.run bar l b).s.h.R.length, .sl 102 0 (Bth.run bar l b).s.h.T.length, .sl 103 0 (Bth.run bar l b).s.F.length, .int .i64 (Bth.run bar l b).g.p, .sl 104 0 (Bth.run bar l b).g.C.length, .int .i64 (Bth.run bar l b).g.a, .sl 105 0 (Bth.run bar l b).o.length, .int .i64 (Bth.run bar l b).a, .bool (Bth.run bar l b).l], .bool true] ∧ H = [(100, .c true (.ints (Bth.run bar l b).s.h.L)), (101, .c true (.ints (Bth.run bar l b).s.h.R)), (102, .c true (.ints (Bth.run bar l b).s.h.T)), (103, .c true (.ints (Bth.run bar l b).s.F)), (104, .c true (.ints (Bth.run bar l b).g.C)), (105, .c true (.ops (Bth.run bar l b).o))]) := by
  have hs := ok.small
  have hb : (((b.s.h.L.length ≤ 4194304 ∧ b.s.h.R.length ≤ 4194304 ∧ b.s.h.T.length ≤ 4194304) ∧ b.s.F.length ≤ 4194304) ∧ b.g.C.length ≤ 4194304) ∧ b.o.length ≤ 4194304 := by omega
  have hv := iBothValid_c b hb
  have hN := ianew_c b hb
  rw [decide_eq_true ok] at hv
  have hz := sch_size l
  have hat := sch_at l
  have hT : Fn Tryz.prog 31 [] [.str (sch l), .str ⟨#[111, 103]⟩] (fun r H => r = .str (bs []) ∧ H = []) := by
    have := iTrim_c (l.map fun c => if c then (111 : UInt8) else 103) (by rw [List.length_map]; omega)
    rw [sch_trim] at this
    exact this
  have e0 := nil_is
  generalize bs [] = y at *
  generalize sch l = z at *
  have hz1 : z.size ≤ l.length ∧ l.length ≤ z.size := by omega
  have q100 : ¬ (100 : Int) < z.size := by omega
  clear hz hs
  replace ok : Hold _ := ⟨ok⟩
  replace hat : Hold _ := ⟨hat⟩
  refine Fn_go Tryz.func11 ?_
  refine W_go ?_
  refine W_ch2 [(0, (0, 0)), (1, (1, 0)), (2, (2, 0)), (3, (3, 0)), (4, (4, 0)), (5, (5, 0))] hv [] hT ?_
  refine W_iff ?_
  clear hv hT e0
  refine W_go ?_
  refine W_c1 [(0, (0, 0)), (1, (1, 0)), (2, (2, 0)), (3, (3, 0)), (4, (4, 0)), (5, (5, 0))] hN ?_
  clear hN
  refine W_go ?_
  refine W_fg [11, 25, 26] ?_
  refine W_rk 30 [(1024, (1024, 0)), (1032, (1032, 0)), (4104, (300, 0)), (4105, (301, 0)), (4106, (302, 0)), (4107, (303, 0)), (4108, (304, 0)), (4109, (305, 0))] ?_
  refine W_lp (T := 30) (σ := Nat × Bth) (me := fun s => [(29, .int .i64 s.1)]) (mh := fun s => [(1024, .c true (.av 1 [.sl 300 0 s.2.s.h.L.length, .sl 301 0 s.2.s.h.R.length, .sl 302 0 s.2.s.h.T.length, .sl 303 0 s.2.s.F.length, .int .i64 s.2.g.p, .sl 304 0 s.2.g.C.length, .int .i64 s.2.g.a, .sl 305 0 s.2.o.length, .int .i64 s.2.a, .bool s.2.l])), (300, .c true (.ints s.2.s.h.L)), (301, .c true (.ints s.2.s.h.R)), (302, .c true (.ints s.2.s.h.T)), (303, .c true (.ints s.2.s.F)), (304, .c true (.ints s.2.g.C)), (305, .c true (.ops s.2.o))])
    (inv := fun s => s.1 ≤ l.length ∧ Hold (s.2.ok ∧ s.2 = Bth.run bar (l.take s.1) b)) (m := fun s => l.length - s.1) (s0 := (0, b)) ⟨by dsimp only; omega, ⟨ok.told, rfl⟩⟩ ?_ (hh := by rfl)
  rintro ⟨i, x⟩ ⟨hi, hI⟩
  dsimp only at hi hI ⊢
  have hxs := hI.told.1.small
  have hx : (((x.s.h.L.length ≤ 4194304 ∧ x.s.h.R.length ≤ 4194304 ∧ x.s.h.T.length ≤ 4194304) ∧ x.s.F.length ≤ 4194304) ∧ x.g.C.length ≤ 4194304) ∧ x.o.length ≤ 4194304 := by omega
  clear hxs
  refine W_go ?_
  refine W_if (fun g => ?_) (fun g => ?_)
  case' refine_2 =>
    have e : x = Bth.run bar l b := by rw [hI.told.2, List.take_of_length_le (by omega)]
    rw [← e]
    clear e
    refine W_go ?_
    refine W_rt [(300, (100, 0)), (301, (101, 0)), (302, (102, 0)), (303, (103, 0)), (304, (104, 0)), (305, (105, 0))] [] ?_
    exact ⟨rfl, rfl⟩
  have hil : i < l.length := by omega
  have hst : Bth.run bar (l.take (i + 1)) b = x.one bar (l.getD i false) := by rw [Bth.run_take hil, ← hI.told.2]
  have hok1 := Bth.one_ok hI.told.1 bar (l.getD i false)
  have hc := hat.told i hil
  have hm2 : l.length - (i + 1) < l.length - i := by omega
  generalize l.getD i false = c at *
  replace hst : Hold _ := ⟨hst⟩
  replace hok1 : Hold _ := ⟨hok1⟩
  cases c
  case true =>
    have hc : ((z.data.getD i 0).toNat : Int) = 111 := hc
    refine W_go ?_
    rw [hc, decide_eq_true (rfl : (111 : Int) = 111)]
    refine W_ift ?_
    have hO := iStepOp_c x bar hx
    by_cases gr : x.opOk
    · rw [decide_eq_true gr, show x.sop bar = x.op bar by rw [Bth.sop, if_pos gr]] at hO
      have e : x.one bar true = x.op bar := by rw [Bth.one, if_pos rfl, if_pos gr]
      rw [e] at hst hok1
      clear e gr hI
      generalize x.op bar = y at *
      refine W_go ?_
      refine W_c1 [(0, (300, 0)), (1, (301, 0)), (2, (302, 0)), (3, (303, 0)), (4, (304, 0)), (5, (305, 0))] hO ?_
      refine W_go ?_
      refine W_ift ?_
      refine W_go ?_
      refine W_rk 30 [(1024, (1024, 0)), (1032, (1032, 0)), (10256, (300, 0)), (10257, (301, 0)), (10258, (302, 0)), (10259, (303, 0)), (10260, (304, 0)), (10261, (305, 0))] ?_
      refine W_bk (i + 1, y) ⟨by dsimp only; omega, ⟨hok1.told, hst.told.symm⟩⟩ hm2
    · rw [decide_eq_false gr, show x.sop bar = .zero by rw [Bth.sop, if_neg gr]] at hO
      have e : x.one bar true = x := by rw [Bth.one, if_pos rfl, if_neg gr]
      rw [e] at hst hok1
      clear e gr hI
      generalize Bth.zero = y at *
      refine W_go ?_
      refine W_c1 [(0, (300, 0)), (1, (301, 0)), (2, (302, 0)), (3, (303, 0)), (4, (304, 0)), (5, (305, 0))] hO ?_
      refine W_go ?_
      refine W_iff ?_
      refine W_go ?_
      refine W_rk 30 [(1024, (1024, 0)), (1032, (1032, 0)), (300, (300, 0)), (301, (301, 0)), (302, (302, 0)), (303, (303, 0)), (304, (304, 0)), (305, (305, 0))] ?_
      refine W_bk (i + 1, x) ⟨by dsimp only; omega, ⟨hok1.told, hst.told.symm⟩⟩ hm2
  case false =>
    have hc : ((z.data.getD i 0).toNat : Int) = 103 := hc
    refine W_go ?_
    rw [hc, decide_eq_false (by omega : ¬ (103 : Int) = 111)]
    refine W_iff ?_
    have hO := iStepBoth_c x hx
    by_cases gr : x.gcOk
    · rw [decide_eq_true gr, show x.sgc = x.gcs by rw [Bth.sgc, if_pos gr]] at hO
      have e : x.one bar false = x.gcs := by rw [Bth.one, if_neg (by simp), if_pos gr]
      rw [e] at hst hok1
      clear e gr hI
      generalize x.gcs = y at *
      refine W_go ?_
      refine W_c1 [(0, (300, 0)), (1, (301, 0)), (2, (302, 0)), (3, (303, 0)), (4, (304, 0)), (5, (305, 0))] hO ?_
      refine W_go ?_
      refine W_ift ?_
      refine W_go ?_
      refine W_rk 30 [(1024, (1024, 0)), (1032, (1032, 0)), (11272, (300, 0)), (11273, (301, 0)), (11274, (302, 0)), (11275, (303, 0)), (11276, (304, 0)), (11277, (305, 0))] ?_
      refine W_bk (i + 1, y) ⟨by dsimp only; omega, ⟨hok1.told, hst.told.symm⟩⟩ hm2
    · rw [decide_eq_false gr, show x.sgc = .zero by rw [Bth.sgc, if_neg gr]] at hO
      have e : x.one bar false = x := by rw [Bth.one, if_neg (by simp), if_neg gr]
      rw [e] at hst hok1
      clear e gr hI
      generalize Bth.zero = y at *
      refine W_go ?_
      refine W_c1 [(0, (300, 0)), (1, (301, 0)), (2, (302, 0)), (3, (303, 0)), (4, (304, 0)), (5, (305, 0))] hO ?_
      refine W_go ?_
      refine W_iff ?_
      refine W_go ?_
      refine W_rk 30 [(1024, (1024, 0)), (1032, (1032, 0)), (300, (300, 0)), (301, (301, 0)), (302, (302, 0)), (303, (303, 0)), (304, (304, 0)), (305, (305, 0))] ?_
      refine W_bk (i + 1, x) ⟨by dsimp only; omega, ⟨hok1.told, hst.told.symm⟩⟩ hm2
/-- A schedule that is misspelt at its end. -/
def schX (l : List Bool) : ByteArray := sch l ++ ⟨#[120]⟩
theorem schX_eq (l : List Bool) : schX l = bs ((l.map fun c => if c then (111 : UInt8) else 103) ++ [120]) := by
  unfold schX sch
  rw [show (⟨#[120]⟩ : ByteArray) = bs [120] from rfl, bs_app]
theorem iRunBothX_c (b : Bth) (hb : (((b.s.h.L.length ≤ 4194304 ∧ b.s.h.R.length ≤ 4194304 ∧ b.s.h.T.length ≤ 4194304) ∧ b.s.F.length ≤ 4194304) ∧ b.g.C.length ≤ 4194304) ∧ b.o.length ≤ 4194304) (l : List Bool) (hl : l.length ≤ 24) (bar : Bool) : Fn Tryz.prog 11 [(0, .c false (.ints b.s.h.L)), (1, .c false (.ints b.s.h.R)), (2, .c false (.ints b.s.h.T)), (3, .c false (.ints b.s.F)), (4, .c false (.ints b.g.C)), (5, .c false (.ops b.o))] [.agg [.sl 0 0 b.s.h.L.length, .sl 1 0 b.s.h.R.length, .sl 2 0 b.s.h.T.length, .sl 3 0 b.s.F.length, .int .i64 b.g.p, .sl 4 0 b.g.C.length, .int .i64 b.g.a, .sl 5 0 b.o.length, .int .i64 b.a, .bool b.l], .str (schX l), .bool bar]
    (fun r H => r = .tup [.agg [.sl 100 0 Bth.zero.s.h.L.length, .sl 101 0 Bth.zero.s.h.R.length, .sl 102 0 Bth.zero.s.h.T.length, .sl 103 0 Bth.zero.s.F.length, .int .i64 Bth.zero.g.p, .sl 104 0 Bth.zero.g.C.length, .int .i64 Bth.zero.g.a, .sl 105 0 Bth.zero.o.length, .int .i64 Bth.zero.a, .bool Bth.zero.l], .bool false] ∧ H = [(100, .c true (.ints Bth.zero.s.h.L)), (101, .c true (.ints Bth.zero.s.h.R)), (102, .c true (.ints Bth.zero.s.h.T)), (103, .c true (.ints Bth.zero.s.F)), (104, .c true (.ints Bth.zero.g.C)), (105, .c true (.ops Bth.zero.o))]) := by
  have hv := iBothValid_c b hb
  have hT : ∃ y : ByteArray, (y.toList == (⟨#[]⟩ : ByteArray).toList) = false ∧ Fn Tryz.prog 31 [] [.str (schX l), .str ⟨#[111, 103]⟩] (fun r H => r = .str y ∧ H = []) := by
    refine ⟨_, ?_, by rw [schX_eq]; exact iTrim_c _ (by rw [List.length_append, List.length_map, List.length_singleton]; omega)⟩
    refine nil_not fun q => ?_
    have := trim_nil.1 q 120 (by simp)
    revert this; decide
  obtain ⟨y, e0, hT⟩ := hT
  have hz : (schX l).size ≤ 25 := by rw [schX_eq, bs_size, List.length_append, List.length_map, List.length_singleton]; omega
  generalize schX l = z at *
  have q100 : ¬ (100 : Int) < z.size := by omega
  by_cases ok : b.ok
  · rw [decide_eq_true ok] at hv
    clear ok
    refine Fn_go Tryz.func11 ?_
    refine W_go ?_
    refine W_ch2 [(0, (0, 0)), (1, (1, 0)), (2, (2, 0)), (3, (3, 0)), (4, (4, 0)), (5, (5, 0))] hv [] hT ?_
    refine W_ift ?_
    refine W_go ?_
    refine W_rt [] [(100, .ints []), (101, .ints []), (102, .ints []), (103, .ints []), (104, .ints []), (105, .ops [])] ?_
    exact ⟨rfl, rfl⟩
  · rw [decide_eq_false ok] at hv
    clear ok hT
    refine Fn_go Tryz.func11 ?_
    refine W_go ?_
    refine W_ch1 [(0, (0, 0)), (1, (1, 0)), (2, (2, 0)), (3, (3, 0)), (4, (4, 0)), (5, (5, 0))] hv ?_
    refine W_ift ?_
    refine W_go ?_
    refine W_rt [] [(100, .ints []), (101, .ints []), (102, .ints []), (103, .ints []), (104, .ints []), (105, .ops [])] ?_
    exact ⟨rfl, rfl⟩
theorem drawRunBoth_c (B : List UInt8) (hB : B.length ≤ 1048576) : Fn Tryz.prog 10 [(0, .c false (.bys B))] [.sl 0 0 B.length]
    (fun r H => ∃ y : ((Sto × List (Int × Int × Int)) × List Bool) × Bool × Bool, (Hold (y.1.1.1.opsOk y.1.1.2) ∧ y.1.2.length ≤ 24) ∧ r = .tup [.agg [.sl 100 0 (Bth.new y.1.1.1 y.1.1.2).s.h.L.length, .sl 101 0 (Bth.new y.1.1.1 y.1.1.2).s.h.R.length, .sl 102 0 (Bth.new y.1.1.1 y.1.1.2).s.h.T.length, .sl 103 0 (Bth.new y.1.1.1 y.1.1.2).s.F.length, .int .i64 (Bth.new y.1.1.1 y.1.1.2).g.p, .sl 104 0 (Bth.new y.1.1.1 y.1.1.2).g.C.length, .int .i64 (Bth.new y.1.1.1 y.1.1.2).g.a, .sl 105 0 (Bth.new y.1.1.1 y.1.1.2).o.length, .int .i64 (Bth.new y.1.1.1 y.1.1.2).a, .bool (Bth.new y.1.1.1 y.1.1.2).l], .str (if y.2.1 then schX y.1.2 else sch y.1.2), .bool y.2.2] ∧ H = [(100, .c true (.ints (Bth.new y.1.1.1 y.1.1.2).s.h.L)), (101, .c true (.ints (Bth.new y.1.1.1 y.1.1.2).s.h.R)), (102, .c true (.ints (Bth.new y.1.1.1 y.1.1.2).s.h.T)), (103, .c true (.ints (Bth.new y.1.1.1 y.1.1.2).s.F)), (104, .c true (.ints (Bth.new y.1.1.1 y.1.1.2).g.C)), (105, .c true (.ops (Bth.new y.1.1.1 y.1.1.2).o))]) := by
  have hO := open_c B (by omega)
  refine Fn_go Tryz.func10 ?_
  refine W_go ?_
  refine W_c1 [(0, (0, 0))] hO ?_
  have hm : min B.length 2000 ≤ B.length ∧ min B.length 2000 < 1099511627776 := by omega
  generalize min B.length 2000 = m at *
  clear hO
  refine W_go ?_
  refine W_rw fun K hK => ?_
  refine RW_x ?_
  repeat (refine And.intro (by omega) ?_)
  refine CKy (μ := [(0, (2056, 0)), (1, (0, 0))]) ⟨⟩ (l7Draw_c B m 0 (by omega) hm) (fun x hx => ?_)
  obtain ⟨sl, p⟩ := x
  try dsimp only at hx ⊢
  refine RW_x ?_
  repeat (refine And.intro (by omega) ?_)
  generalize hbn : Bth.new sl.1 sl.2 = bn at *
  refine hK _ _ ?_
  refine W_go ?_
  refine W_rw fun K hK => ?_
  refine RW_x ?_
  repeat (refine And.intro (by omega) ?_)
  refine CKy (μ := [(0, (2056, 0)), (1, (0, 0))]) ⟨⟩ (l7Schedule_c B m p (by omega) hm) (fun y hy => ?_)
  obtain ⟨l, p1⟩ := y
  try dsimp only at hy ⊢
  refine RW_x ?_
  repeat (refine And.intro (by omega) ?_)
  refine hK _ _ ?_
  have hP := pick_c B m p1 30 (by omega) hm
  have hP2 := pick_c B m (p1 + 1) 2 (by omega) hm
  generalize pkV B m p1 30 = k1 at *
  generalize pkV B m (p1 + 1) 2 = k2 at *
  have hz := sch_size l
  have hsx : sch l ++ ⟨#[120]⟩ = schX l := rfl
  generalize hq1 : sch l = z at *
  generalize hq2 : schX l = zx at *
  have hz1 : z.size ≤ 24 := by omega
  have hz2 : (⟨#[120]⟩ : ByteArray).size ≤ 1 := by decide
  clear hz
  replace hq1 : Hold _ := ⟨hq1⟩
  replace hq2 : Hold _ := ⟨hq2⟩
  replace hsx : Hold _ := ⟨hsx⟩
  refine W_go ?_
  refine W_c1 [(0, (2056, 0)), (1, (0, 0))] hP ?_
  clear hP
  refine W_if (fun q => ?_) (fun q => ?_)
  · refine W_go ?_
    refine W_dc1 [(0, (2056, 0)), (1, (0, 0))] hP2 [.c _ _ _] ?_
    refine W_go ?_
    rw [hsx.told]
    refine W_rt [(3080, (100, 0)), (3081, (101, 0)), (3082, (102, 0)), (3083, (103, 0)), (3084, (104, 0)), (3085, (105, 0))] [] ?_
    exact ⟨((sl, l), true, decide (k2 = 0)), ⟨hx.1, by dsimp only; omega⟩, by dsimp only; rw [hbn, if_pos rfl, hq2.told], by dsimp only; rw [hbn]⟩
  · refine W_go ?_
    refine W_dc1 [(0, (2056, 0)), (1, (0, 0))] hP2 [.c _ _ _] ?_
    refine W_go ?_
    refine W_rt [(3080, (100, 0)), (3081, (101, 0)), (3082, (102, 0)), (3083, (103, 0)), (3084, (104, 0)), (3085, (105, 0))] [] ?_
    exact ⟨((sl, l), false, decide (k2 = 0)), ⟨hx.1, by dsimp only; omega⟩, by dsimp only; rw [hbn, if_neg (by simp), hq1.told], by dsimp only; rw [hbn]⟩
theorem schX_size (l : List Bool) : (schX l).size = l.length + 1 := by rw [schX_eq, bs_size, List.length_append, List.length_map, List.length_singleton]
theorem schX_at (l : List Bool) (i : Nat) (h : i < l.length) : (((schX l).data.getD i 0).toNat : Int) = if l.getD i false then 111 else 103 := by
  rw [← sch_at l i h, schX_eq]
  unfold sch bs
  rw [Array.getD_eq_getD_getElem?, Array.getD_eq_getD_getElem?]
  simp only [List.getElem?_toArray]
  rw [List.getElem?_append_left (by simpa using h)]
theorem schX_end (l : List Bool) : (((schX l).data.getD l.length 0).toNat : Int) = 120 := by
  rw [schX_eq]
  unfold bs
  rw [Array.getD_eq_getD_getElem?]
  simp only [List.getElem?_toArray]
  rw [List.getElem?_append_right (by simp)]
  simp
/-- The reference's run of a schedule that is misspelt at its end. -/
theorem sRunBothX_c (b : Bth) (ok : b.ok) (l : List Bool) (hl : l.length ≤ 24) (bar : Bool) : Fn Tryz.prog 12 [(0, .c false (.ints b.s.h.L)), (1, .c false (.ints b.s.h.R)), (2, .c false (.ints b.s.h.T)), (3, .c false (.ints b.s.F)), (4, .c false (.ints b.g.C)), (5, .c false (.ops b.o))] [.agg [.sl 0 0 b.s.h.L.length, .sl 1 0 b.s.h.R.length, .sl 2 0 b.s.h.T.length, .sl 3 0 b.s.F.length, .int .i64 b.g.p, .sl 4 0 b.g.C.length, .int .i64 b.g.a, .sl 5 0 b.o.length, .int .i64 b.a, .bool b.l], .str (schX l), .bool bar]
    (fun r H => r = .tup [.agg [.sl 100 0 Bth.zero.s.h.L.length, .sl 101 0 Bth.zero.s.h.R.length, .sl 102 0 Bth.zero.s.h.T.length, .sl 103 0 Bth.zero.s.F.length, .int .i64 Bth.zero.g.p, .sl 104 0 Bth.zero.g.C.length, .int .i64 Bth.zero.g.a, .sl 105 0 Bth.zero.o.length, .int .i64 Bth.zero.a, .bool Bth.zero.l], .bool false] ∧ H = [(100, .c true (.ints Bth.zero.s.h.L)), (101, .c true (.ints Bth.zero.s.h.R)), (102, .c true (.ints Bth.zero.s.h.T)), (103, .c true (.ints Bth.zero.s.F)), (104, .c true (.ints Bth.zero.g.C)), (105, .c true (.ops Bth.zero.o))]) := by
  have hs := ok.small
  have hb : (((b.s.h.L.length ≤ 4194304 ∧ b.s.h.R.length ≤ 4194304 ∧ b.s.h.T.length ≤ 4194304) ∧ b.s.F.length ≤ 4194304) ∧ b.g.C.length ≤ 4194304) ∧ b.o.length ≤ 4194304 := by omega
  have hv := sBothValid_c b hb
  have hN := sl7Copy_c b hb
  rw [decide_eq_true ok] at hv
  have hz := schX_size l
  have hat := schX_at l
  have hatX := schX_end l
  generalize schX l = z at *
  have hz1 : z.size ≤ l.length + 1 ∧ l.length + 1 ≤ z.size := by omega
  clear hz hs
  replace ok : Hold _ := ⟨ok⟩
  replace hat : Hold _ := ⟨hat⟩
  replace hatX : Hold _ := ⟨hatX⟩
  refine Fn_go Tryz.func12 ?_
  refine W_go ?_
  refine W_ch1 [(0, (0, 0)), (1, (1, 0)), (2, (2, 0)), (3, (3, 0)), (4, (4, 0)), (5, (5, 0))] hv ?_
  refine W_if (fun q => ?_) (fun q => ?_)
  · exact absurd q (by omega)
  clear q hv
  refine W_go ?_
  refine W_c1 [(0, (0, 0)), (1, (1, 0)), (2, (2, 0)), (3, (3, 0)), (4, (4, 0)), (5, (5, 0))] hN ?_
  clear hN
  refine W_go ?_
  refine W_rk 10 [(1024, (1024, 0)), (1032, (1032, 0)), (4112, (4112, 0)), (4104, (300, 0)), (4105, (301, 0)), (4106, (302, 0)), (4107, (303, 0)), (4108, (304, 0)), (4109, (305, 0))] ?_
  refine W_lp (T := 10) (σ := Nat × Bth) (me := fun s => [(9, .int .i64 s.1)]) (mh := fun s => [(4112, .c true (.av 1 [.sl 300 0 s.2.s.h.L.length, .sl 301 0 s.2.s.h.R.length, .sl 302 0 s.2.s.h.T.length, .sl 303 0 s.2.s.F.length, .int .i64 s.2.g.p, .sl 304 0 s.2.g.C.length, .int .i64 s.2.g.a, .sl 305 0 s.2.o.length, .int .i64 s.2.a, .bool s.2.l])), (300, .c true (.ints s.2.s.h.L)), (301, .c true (.ints s.2.s.h.R)), (302, .c true (.ints s.2.s.h.T)), (303, .c true (.ints s.2.s.F)), (304, .c true (.ints s.2.g.C)), (305, .c true (.ops s.2.o))])
    (inv := fun s => s.1 ≤ l.length ∧ Hold (s.2.ok ∧ s.2 = Bth.run bar (l.take s.1) b)) (m := fun s => l.length - s.1) (s0 := (0, b)) ⟨by dsimp only; omega, ⟨ok.told, rfl⟩⟩ ?_ (hh := by rfl)
  rintro ⟨i, x⟩ ⟨hi, hI⟩
  dsimp only at hi hI ⊢
  have hxs := hI.told.1.small
  have hx : (((x.s.h.L.length ≤ 4194304 ∧ x.s.h.R.length ≤ 4194304 ∧ x.s.h.T.length ≤ 4194304) ∧ x.s.F.length ≤ 4194304) ∧ x.g.C.length ≤ 4194304) ∧ x.o.length ≤ 4194304 := by omega
  clear hxs
  refine W_go ?_
  refine W_if (fun g => ?_) (fun g => ?_)
  case' refine_2 => exact absurd (by omega) g
  by_cases hil : i < l.length
  case neg =>
    have hc : ((z.data.getD i 0).toNat : Int) = 120 := by rw [show i = l.length by omega]; exact hatX.told
    have z1 : ¬ (120 : Int) = 111 := by omega
    have z2 : ¬ (120 : Int) = 103 := by omega
    clear hat hatX hI
    refine W_go ?_
    refine W_gh ?_
    refine W_ift ?_
    refine W_go ?_
    refine W_rt [] [(100, .ints []), (101, .ints []), (102, .ints []), (103, .ints []), (104, .ints []), (105, .ops [])] ?_
    exact ⟨rfl, rfl⟩
  have hst : Bth.run bar (l.take (i + 1)) b = x.one bar (l.getD i false) := by rw [Bth.run_take hil, ← hI.told.2]
  have hok1 := Bth.one_ok hI.told.1 bar (l.getD i false)
  have hc := hat.told i hil
  have hm2 : l.length - (i + 1) < l.length - i := by omega
  generalize l.getD i false = c at *
  replace hst : Hold _ := ⟨hst⟩
  replace hok1 : Hold _ := ⟨hok1⟩
  cases c
  case true =>
    have hc : ((z.data.getD i 0).toNat : Int) = 111 := hc
    have z1 : ¬ (111 : Int) = 103 := by omega
    refine W_go ?_
    refine W_gh ?_
    refine W_iff ?_
    refine W_go ?_
    cases gl : x.l
    case true =>
      have e : x.one bar true = x := by rw [Bth.one, if_pos rfl, if_neg (fun q => by have := q.2.1; rw [gl] at this; cases this)]
      rw [e] at hst hok1
      clear e
      refine W_ift ?_
      refine W_go ?_
      refine W_bh (i + 1, x) ⟨by dsimp only; omega, ⟨hok1.told, hst.told.symm⟩⟩ hm2 ?_
      dsimp only; rw [gl]
    case false =>
      refine W_iff ?_
      refine W_go ?_
      rw [hc, decide_eq_false z1]
      refine W_iff ?_
      refine W_go ?_
      refine W_if (fun q => ?_) (fun q => ?_)
      · have gr : x.opOk := ⟨hI.told.1, gl, by omega⟩
        have hO := sl7Op_c x bar gr hx
        rw [gl] at hO
        have e : x.one bar true = x.op bar := by rw [Bth.one, if_pos rfl, if_pos gr]
        rw [e] at hst hok1
        clear e gr hI
        generalize x.op bar = y at *
        refine W_go ?_
        refine W_c1 [(0, (300, 0)), (1, (301, 0)), (2, (302, 0)), (3, (303, 0)), (4, (304, 0)), (5, (305, 0))] hO ?_
        refine W_go ?_
        refine W_rk 10 [(1024, (1024, 0)), (1032, (1032, 0)), (4112, (4112, 0)), (14352, (300, 0)), (14353, (301, 0)), (14354, (302, 0)), (14355, (303, 0)), (14356, (304, 0)), (14357, (305, 0))] ?_
        refine W_bk (i + 1, y) ⟨by dsimp only; omega, ⟨hok1.told, hst.told.symm⟩⟩ hm2
      · have e : x.one bar true = x := by rw [Bth.one, if_pos rfl, if_neg (fun z => by have := z.at; have := hI.told.1.2.2; omega)]
        rw [e] at hst hok1
        clear e
        refine W_go ?_
        refine W_bh (i + 1, x) ⟨by dsimp only; omega, ⟨hok1.told, hst.told.symm⟩⟩ hm2 ?_
        dsimp only; rw [gl]
  case false =>
    have hc : ((z.data.getD i 0).toNat : Int) = 103 := hc
    have z1 : ¬ (103 : Int) = 111 := by omega
    refine W_go ?_
    refine W_gh ?_
    refine W_iff ?_
    refine W_go ?_
    cases gl : x.l
    case true =>
      have e : x.one bar false = x := by rw [Bth.one, if_neg (by simp), if_neg (fun q => by have := q.2; rw [gl] at this; cases this)]
      rw [e] at hst hok1
      clear e
      refine W_ift ?_
      refine W_go ?_
      refine W_bh (i + 1, x) ⟨by dsimp only; omega, ⟨hok1.told, hst.told.symm⟩⟩ hm2 ?_
      dsimp only; rw [gl]
    case false =>
      refine W_iff ?_
      refine W_go ?_
      rw [hc, decide_eq_true (rfl : (103 : Int) = 103)]
      refine W_ift ?_
      have gr : x.gcOk := ⟨hI.told.1, gl⟩
      have hO := sl7Gc_c x gr hx
      rw [gl] at hO
      have e : x.one bar false = x.gcs := by rw [Bth.one, if_neg (by simp), if_pos gr]
      rw [e] at hst hok1
      clear e gr hI
      generalize x.gcs = y at *
      refine W_go ?_
      refine W_c1 [(0, (300, 0)), (1, (301, 0)), (2, (302, 0)), (3, (303, 0)), (4, (304, 0)), (5, (305, 0))] hO ?_
      refine W_go ?_
      refine W_rk 10 [(1024, (1024, 0)), (1032, (1032, 0)), (4112, (4112, 0)), (12296, (300, 0)), (12297, (301, 0)), (12298, (302, 0)), (12299, (303, 0)), (12300, (304, 0)), (12301, (305, 0))] ?_
      refine W_bk (i + 1, y) ⟨by dsimp only; omega, ⟨hok1.told, hst.told.symm⟩⟩ hm2
end Go.Proofs.YtnepiffboakehaaGreatDoor.S
