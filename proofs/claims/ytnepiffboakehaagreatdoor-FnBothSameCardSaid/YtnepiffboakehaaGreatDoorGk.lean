/- Contracts: collectors drawn out of bytes. Own work of this claim. -/
import Derived.Test.YtnepiffboakehaaGreatDoorGi
import Derived.Test.YtnepiffboakehaaGreatDoorGd
namespace Go.Proofs.YtnepiffboakehaaGreatDoor.S
set_option linter.all false
open Go Go.Proofs
set_option maxHeartbeats 4000000
set_option maxRecDepth 100000

theorem sl6Step_c (s : Sto) (g : Gcc) (w : g.weak s) (hF : s.F.length ≤ 1048576) : Fn Tryz.prog 84 [(0, .c false (.ints s.h.L)), (1, .c false (.ints s.h.R)), (2, .c false (.ints s.h.T)), (3, .c false (.ints s.F)), (4, .c false (.ints g.C))] [.agg [.sl 0 0 s.h.L.length, .sl 1 0 s.h.R.length, .sl 2 0 s.h.T.length, .sl 3 0 s.F.length], .agg [.int .i64 g.p, .sl 4 0 g.C.length, .int .i64 g.a]]
    (fun r H => r = .tup [.agg [.sl 100 0 (g.stS s).h.L.length, .sl 101 0 (g.stS s).h.R.length, .sl 102 0 (g.stS s).h.T.length, .sl 103 0 (g.stS s).F.length], .agg [.int .i64 (g.stG s).p, .sl 104 0 (g.stG s).C.length, .int .i64 (g.stG s).a]] ∧ H = [(100, .c true (.ints (g.stS s).h.L)), (101, .c true (.ints (g.stS s).h.R)), (102, .c true (.ints (g.stS s).h.T)), (103, .c true (.ints (g.stS s).F)), (104, .c true (.ints (g.stG s).C))]) := by
  have hlc := w.c.1
  have l8 := w.h.1
  have hat := w.a
  unfold Gcc.atOk at hat
  have hk := sl6Copy_c g (by omega)
  have hy := sl4Copy_c s (by omega)
  have oT := w.h.2.2.2
  replace oT : Hold _ := ⟨oT⟩
  have hw := sl6Swept_c s g w hF
  have w' : Hold (g.weak s) := ⟨w⟩
  clear w
  refine Fn_go Tryz.func84 ?_
  by_cases p0 : g.p = 0
  · have eG : g.stG s = ⟨1, List.replicate g.C.length 0, 0⟩ := by rw [Gcc.stG, if_pos p0]
    have eS : g.stS s = s := by unfold Gcc.stS Gcc.sw; rw [if_neg (by rw [if_neg (by omega)]; omega)]
    rw [eG, eS]
    clear eG eS hw hat
    replace l8 : Hold _ := ⟨l8⟩
    replace hlc : Hold _ := ⟨hlc⟩
    have l9 : g.C.length ≤ 8 := by have := hlc.told; have := l8.told; omega
    refine W_go ?_
    refine W_c1 [(0, (4, 0))] hk ?_
    refine W_go ?_
    refine W_if (fun _ => ?_) (fun q => ?_)
    case' refine_2 => exact absurd p0 q
    refine W_go ?_
    refine W_dc1 [(0, (0, 0)), (1, (1, 0)), (2, (2, 0)), (3, (3, 0))] hy [.c _ _ _] ?_
    refine W_go ?_
    refine W_rt [(5128, (100, 0)), (5129, (101, 0)), (5130, (102, 0)), (5131, (103, 0)), (5160, (104, 0))] [] ?_
    simp
  by_cases p1 : g.p = 1
  · have ha : 0 ≤ g.a ∧ g.a < s.h.T.length := by omega
    have eG : g.stG s = Gcc.nx ⟨g.p, shd g.C (s.h.T.getD g.a.toNat 0), g.a⟩ s.h.T.length 2 := by rw [Gcc.stG, if_neg p0, if_pos p1, p1]
    have eS : g.stS s = s := by unfold Gcc.stS Gcc.sw; rw [if_neg (by rw [if_neg (by omega)]; omega)]
    have kT := okP_get oT.told (show g.a.toNat < s.h.T.length by omega)
    have hb := sl3Shade_c g.C (s.h.T.getD g.a.toNat 0) (by omega) (by omega)
    have eb := shd_len g.C (s.h.T.getD g.a.toNat 0)
    have hn := sl6Next_c ⟨g.p, shd g.C (s.h.T.getD g.a.toNat 0), g.a⟩ s.h.T.length 2 (by dsimp only; omega)
    have en := nx_C ⟨g.p, shd g.C (s.h.T.getD g.a.toNat 0), g.a⟩ s.h.T.length 2
    dsimp only at hn en
    rw [eG, eS, en]
    generalize Gcc.nx ⟨g.p, shd g.C (s.h.T.getD g.a.toNat 0), g.a⟩ s.h.T.length 2 = y at *
    generalize shd g.C (s.h.T.getD g.a.toNat 0) = D at *
    have tD : List.take g.C.length D = D := List.take_of_length_le (by omega)
    rw [eb] at hn ⊢
    replace tD : Hold _ := ⟨tD⟩
    clear eG eS hw hat kT eb en
    replace l8 : Hold _ := ⟨l8⟩
    replace hlc : Hold _ := ⟨hlc⟩
    refine W_go ?_
    refine W_c1 [(0, (4, 0))] hk ?_
    refine W_go ?_
    refine W_if (fun q => ?_) (fun _ => ?_)
    · exact absurd q p0
    refine W_go ?_
    refine W_if (fun _ => ?_) (fun q => ?_)
    case' refine_2 => exact absurd p1 q
    refine W_go ?_
    refine W_dc1 [(0, (2056, 0))] hb [.c _ _ _] ?_
    refine W_go ?_
    refine W_dc2 [(0, (0, 0)), (1, (1, 0)), (2, (2, 0)), (3, (3, 0))] hy [(0, (2056, 0))] hn [.c _ _ _, .c _ _ _] ?_
    refine W_go ?_
    refine W_rt [(8200, (100, 0)), (8201, (101, 0)), (8202, (102, 0)), (8203, (103, 0)), (2056, (104, 0))] [] ?_
    simp [tD.told]
  by_cases p2 : g.p = 2
  · have eG : g.stG s = g.mark s := by rw [Gcc.stG, if_neg p0, if_neg p1, if_pos p2]
    have eS : g.stS s = s := by unfold Gcc.stS Gcc.sw; rw [if_neg (by rw [if_neg (by omega)]; omega)]
    have hn := sl6Mark_c s g w'.told hF
    have em := mark_len g s
    rw [eG, eS, em]
    generalize g.mark s = y at *
    have tD : List.take g.C.length y.C = y.C := List.take_of_length_le (by omega)
    replace tD : Hold _ := ⟨tD⟩
    replace em : Hold _ := ⟨em⟩
    clear eG eS hw hat
    replace l8 : Hold _ := ⟨l8⟩
    replace hlc : Hold _ := ⟨hlc⟩
    refine W_go ?_
    refine W_c1 [(0, (4, 0))] hk ?_
    refine W_go ?_
    refine W_if (fun q => ?_) (fun _ => ?_)
    · exact absurd q p0
    refine W_go ?_
    refine W_if (fun q => ?_) (fun _ => ?_)
    · exact absurd q p1
    refine W_go ?_
    refine W_if (fun _ => ?_) (fun q => ?_)
    case' refine_2 => exact absurd p2 q
    refine W_go ?_
    refine W_dc2 [(0, (0, 0)), (1, (1, 0)), (2, (2, 0)), (3, (3, 0))] hy [(0, (0, 0)), (1, (1, 0)), (2, (2, 0)), (3, (3, 0)), (4, (2056, 0))] hn [.c _ _ _, .c _ _ _] ?_
    refine W_go ?_
    refine W_rt [(10248, (100, 0)), (10249, (101, 0)), (10250, (102, 0)), (10251, (103, 0)), (2056, (104, 0))] [] ?_
    simp [tD.told]
  have p3 : g.p = 3 := by omega
  have ha : 0 ≤ g.a ∧ g.a < g.C.length := by omega
  have eG : g.stG s = Gcc.nx ⟨g.p, g.C.set g.a.toNat 0, g.a⟩ g.C.length 0 := by rw [Gcc.stG, if_neg p0, if_neg p1, if_neg p2, p3]
  have hn := sl6Next_c ⟨g.p, g.C.set g.a.toNat 0, g.a⟩ g.C.length 0 (by dsimp only; omega)
  have en := nx_C ⟨g.p, g.C.set g.a.toNat 0, g.a⟩ g.C.length 0
  dsimp only at hn en
  rw [eG, en]
  generalize Gcc.nx ⟨g.p, g.C.set g.a.toNat 0, g.a⟩ g.C.length 0 = y at *
  have tD : List.take g.C.length (g.C.set g.a.toNat 0) = g.C.set g.a.toNat 0 := List.take_of_length_le (by simp)
  rw [List.length_set] at hn
  rw [← tD] at hn
  have hcl := sl4Clear_c s [g.sw s] w'.told.h ⟨hF, by simp⟩
  replace tD : Hold _ := ⟨tD⟩
  clear eG hat en
  have eS : g.sw s ≠ -1 → g.stS s = s.clr [g.sw s] := fun q => by rw [Gcc.stS, if_pos q]
  have eS2 : ¬ g.sw s ≠ -1 → g.stS s = s := fun q => by rw [Gcc.stS, if_neg q]
  replace eS : Hold _ := ⟨eS⟩
  replace eS2 : Hold _ := ⟨eS2⟩
  replace l8 : Hold _ := ⟨l8⟩
  replace hlc : Hold _ := ⟨hlc⟩
  generalize g.sw s = x at *
  refine W_go ?_
  refine W_c1 [(0, (4, 0))] hk ?_
  refine W_go ?_
  refine W_if (fun q => ?_) (fun _ => ?_)
  · exact absurd q p0
  refine W_go ?_
  refine W_if (fun q => ?_) (fun _ => ?_)
  · exact absurd q p1
  refine W_go ?_
  refine W_if (fun q => ?_) (fun _ => ?_)
  · exact absurd q p2
  refine W_go ?_
  refine W_c1 [(0, (0, 0)), (1, (1, 0)), (2, (2, 0)), (3, (3, 0)), (4, (4, 0))] hw ?_
  refine W_go ?_
  refine W_c1 [(0, (0, 0)), (1, (1, 0)), (2, (2, 0)), (3, (3, 0))] hy ?_
  refine W_go ?_
  refine W_if (fun q => ?_) (fun q => ?_)
  · rw [eS.told q]
    replace q : Hold _ := ⟨q⟩
    generalize s.clr [x] = z at *
    refine W_go ?_
    refine W_c1 [(0, (0, 0)), (1, (1, 0)), (2, (2, 0)), (3, (3, 0)), (4, (14352, 0))] hcl ?_
    refine W_go ?_
    refine W_dc1 [(0, (2056, 0))] hn [.c _ _ _] ?_
    refine W_go ?_
    refine W_rt [(14360, (100, 0)), (14361, (101, 0)), (14362, (102, 0)), (14363, (103, 0)), (2056, (104, 0))] [] ?_
    simp [tD.told]
  · rw [eS2.told q]
    replace q : Hold _ := ⟨q⟩
    refine W_go ?_
    refine W_dc1 [(0, (2056, 0))] hn [.c _ _ _] ?_
    refine W_go ?_
    refine W_rt [(12296, (100, 0)), (12297, (101, 0)), (12298, (102, 0)), (12299, (103, 0)), (2056, (104, 0))] [] ?_
    simp [tD.told]
def wrongG (B : List UInt8) (m : Nat) (p : Int) (g : Gcc) : Gcc :=
  if pkV B m p 20 = 0 then ⟨pkN B m (p + 1) [4, -1, 0, 1, 2, 3], g.C, g.a⟩
  else if pkV B m p 20 = 1 then ⟨g.p, g.C, pkN B m (p + 1) [-1, 8, 1]⟩
  else if pkV B m p 20 = 2 then ⟨g.p, g.C.set (pkV B m (p + 1) g.C.length).toNat (pkN B m (p + 1 + 1) [3, 0, 1, 2]), g.a⟩ else g
def wrongP (B : List UInt8) (m : Nat) (p : Int) : Int :=
  if pkV B m p 20 = 0 then p + 1 + 1
  else if pkV B m p 20 = 1 then p + 1 + 1
  else if pkV B m p 20 = 2 then p + 1 + 1 + 1 else p + 1
theorem wrongP_b (B : List UInt8) (m : Nat) (p : Int) : p ≤ wrongP B m p ∧ wrongP B m p ≤ p + 3 := by
  unfold wrongP; split
  · omega
  · split
    · omega
    · split <;> omega
theorem wrongG_len (B : List UInt8) (m : Nat) (p : Int) (g : Gcc) : (wrongG B m p g).C.length = g.C.length := by
  unfold wrongG; split
  · rfl
  · split
    · rfl
    · split
      · simp
      · rfl
theorem l6Wrong_c (B : List UInt8) (m : Nat) (p : Int) (g : Gcc) (hp : 0 ≤ p ∧ p < 1099511620000) (hm : m ≤ B.length ∧ m < 1099511627776) (hl : 1 ≤ g.C.length ∧ g.C.length ≤ 4190000) :
    Fn Tryz.prog 95 [(0, .c true (.av 1 [.sl 1 0 m, .int .i64 p])), (1, .c false (.bys B)), (2, .c false (.ints g.C))] [.ptr 0 0, .agg [.int .i64 g.p, .sl 2 0 g.C.length, .int .i64 g.a]]
      (fun r H => r = .agg [.int .i64 (wrongG B m p g).p, .sl 100 0 (wrongG B m p g).C.length, .int .i64 (wrongG B m p g).a] ∧ H = [(0, .c true (.av 1 [.sl 1 0 m, .int .i64 (wrongP B m p)])), (100, .c true (.ints (wrongG B m p g).C))]) := by
  have hC := sl6Copy_c g (by omega)
  have hP := pick_c B m p 20 (by omega) hm
  have hP2 := pick_c B m (p + 1) g.C.length (by omega) hm
  have hN0 := num_c B m (p + 1) [4, -1, 0, 1, 2, 3] (by omega) hm (by simp)
  have hN1 := num_c B m (p + 1) [-1, 8, 1] (by omega) hm (by simp)
  have hN2 := num_c B m (p + 1 + 1) [3, 0, 1, 2] (by omega) hm (by simp)
  have b2 := pkV_b (B := B) (m := m) (n := g.C.length) (k := p + 1) (by omega)
  have b3 := b2.2 (by omega)
  have b4 := b2.1
  clear b2
  unfold wrongG wrongP
  generalize pkV B m p 20 = v at *
  generalize pkV B m (p + 1) g.C.length = v2 at *
  generalize pkN B m (p + 1) [4, -1, 0, 1, 2, 3] = n0 at *
  generalize pkN B m (p + 1) [-1, 8, 1] = n1 at *
  generalize pkN B m (p + 1 + 1) [3, 0, 1, 2] = n2 at *
  refine Fn_go Tryz.func95 ?_
  refine W_go ?_
  refine W_c1 [(0, (2, 0))] hC ?_
  refine W_go ?_
  refine W_c1 [(0, (0, 0)), (1, (1, 0))] hP ?_
  refine W_go ?_
  refine W_if (fun h1 => ?_) (fun h1 => ?_)
  · rw [if_pos h1, if_pos h1]
    refine W_go ?_
    refine W_c1 [(0, (0, 0)), (1, (1, 0)), (2, (5128, 0))] hN0 ?_
    refine W_go ?_
    refine W_rt [(0, (0, 0)), (2056, (100, 0))] [] ?_
    exact ⟨rfl, rfl⟩
  rw [if_neg h1, if_neg h1]
  refine W_go ?_
  refine W_if (fun h2 => ?_) (fun h2 => ?_)
  · rw [if_pos h2, if_pos h2]
    refine W_go ?_
    refine W_c1 [(0, (0, 0)), (1, (1, 0)), (2, (7176, 0))] hN1 ?_
    refine W_go ?_
    refine W_rt [(0, (0, 0)), (2056, (100, 0))] [] ?_
    exact ⟨rfl, rfl⟩
  rw [if_neg h2, if_neg h2]
  refine W_go ?_
  refine W_if (fun h3 => ?_) (fun h3 => ?_)
  · rw [if_pos h3, if_pos h3]
    refine W_go ?_
    refine W_dc2 [(0, (0, 0)), (1, (1, 0))] hP2 [(0, (0, 0)), (1, (1, 0)), (2, (9280, 0))] hN2 [.c _ _ _, .c _ _ _] ?_
    refine W_go ?_
    refine W_rt [(0, (0, 0)), (2056, (100, 0))] [] ?_
    simp
  · rw [if_neg h3, if_neg h3]
    refine W_go ?_
    refine W_rt [(0, (0, 0)), (2056, (100, 0))] [] ?_
    exact ⟨rfl, rfl⟩
/-- What is drawn is small. -/
def drG (s : Sto) (g : Gcc) : Prop := (1 ≤ s.h.L.length ∧ s.h.L.length ≤ 8 ∧ s.h.R.length ≤ 8 ∧ s.h.T.length ≤ 3 ∧ s.F.length ≤ 28) ∧ g.C.length ≤ 8
end Go.Proofs.YtnepiffboakehaaGreatDoor.S
