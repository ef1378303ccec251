/- Contracts: collectors drawn out of bytes. Own work of this claim. -/
import Derived.Test.YtdkdepfgilbkeaaGi
import Derived.Test.YtdkdepfgilbkeaaGd
namespace Go.Proofs.Ytdkdepfgilbkeaa.S
set_option linter.all false
open Go Go.Proofs
set_option maxHeartbeats 4000000
set_option maxRecDepth 100000

theorem sl6Step_c (s : Sto) (g : Gcc) (w : g.weak s) (hF : s.F.length ≤ 1048576) : Fn Try.prog 104 [(0, .c false (.ints s.h.L)), (1, .c false (.ints s.h.R)), (2, .c false (.ints s.h.T)), (3, .c false (.ints s.F)), (4, .c false (.ints g.C))] [.agg [.sl 0 0 s.h.L.length, .sl 1 0 s.h.R.length, .sl 2 0 s.h.T.length, .sl 3 0 s.F.length], .agg [.int .i64 g.p, .sl 4 0 g.C.length, .int .i64 g.a]]
    (fun r H => r = .tup [.agg [.sl 100 0 (g.stS s).h.L.length, .sl 101 0 (g.stS s).h.R.length, .sl 102 0 (g.stS s).h.T.length, .sl 103 0 (g.stS s).F.length], .agg [.int .i64 (g.stG s).p, .sl 104 0 (g.stG s).C.length, .int .i64 (g.stG s).a]] ∧ H = [(100, .c true (.ints (g.stS s).h.L)), (101, .c true (.ints (g.stS s).h.R)), (102, .c true (.ints (g.stS s).h.T)), (103, .c true (.ints (g.stS s).F)), (104, .c true (.ints (g.stG s).C))]) := by
  have hlc := w.c.1
  have l8 := w.h.1
  have hat := w.a
  unfold Gcc.atOk at hat
  have hk := sl6Copy_c g (by omega)
  have hy := sl4Copy_c s (by omega)
  have oT := w.h.2.2.2
  replace oT : Hold _ := ⟨oT⟩
  have hw := sl6Swept_c s g w hF
  have w' : Hold (g.weak s) := ⟨w⟩
  clear w
  refine Fn_go Try.func104 ?_
  by_cases p0 : g.p = 0
  · have eG : g.stG s = ⟨1, List.replicate g.C.length 0, 0⟩ := by rw [Gcc.stG, if_pos p0]
    have eS : g.stS s = s := by unfold Gcc.stS Gcc.sw; rw [if_neg (by rw [if_neg (by omega)]; omega)]
    rw [eG, eS]
    clear eG eS hw hat
    replace l8 : Hold _ := ⟨l8⟩
    replace hlc : Hold _ := ⟨hlc⟩
    have l9 : g.C.length ≤ 8 := by have := hlc.told; have := l8.told; omega
    refine W_go ?_
    refine W_c1 [(0, (4, 0))] hk ?_
    refine W_go ?_
    refine W_if (fun _ => ?_) (fun q => ?_)
    case' refine_2 => exact absurd p0 q
    refine W_go ?_
    refine W_dc1 [(0, (0, 0)), (1, (1, 0)), (2, (2, 0)), (3, (3, 0))] hy [.c _ _ _] ?_
    refine W_go ?_
    refine W_rt [(5128, (100, 0)), (5129, (101, 0)), (5130, (102, 0)), (5131, (103, 0)), (5160, (104, 0))] [] ?_
    simp
  by_cases p1 : g.p = 1
  · have ha : 0 ≤ g.a ∧ g.a < s.h.T.length := by omega
    have eG : g.stG s = Gcc.nx ⟨g.p, shd g.C (s.h.T.getD g.a.toNat 0), g.a⟩ s.h.T.length 2 := by rw [Gcc.stG, if_neg p0, if_pos p1, p1]
    have eS : g.stS s = s := by unfold Gcc.stS Gcc.sw; rw [if_neg (by rw [if_neg (by omega)]; omega)]
    have kT := okP_get oT.told (show g.a.toNat < s.h.T.length by omega)
    have hb := sl3Shade_c g.C (s.h.T.getD g.a.toNat 0) (by omega) (by omega)
    have eb := shd_len g.C (s.h.T.getD g.a.toNat 0)
    have hn := sl6Next_c ⟨g.p, shd g.C (s.h.T.getD g.a.toNat 0), g.a⟩ s.h.T.length 2 (by dsimp only; omega)
    have en := nx_C ⟨g.p, shd g.C (s.h.T.getD g.a.toNat 0), g.a⟩ s.h.T.length 2
    dsimp only at hn en
    rw [eG, eS, en]
    generalize Gcc.nx ⟨g.p, shd g.C (s.h.T.getD g.a.toNat 0), g.a⟩ s.h.T.length 2 = y at *
    generalize shd g.C (s.h.T.getD g.a.toNat 0) = D at *
    have tD : List.take g.C.length D = D := List.take_of_length_le (by omega)
    rw [eb] at hn ⊢
    replace tD : Hold _ := ⟨tD⟩
    clear eG eS hw hat kT eb en
    replace l8 : Hold _ := ⟨l8⟩
    replace hlc : Hold _ := ⟨hlc⟩
    refine W_go ?_
    refine W_c1 [(0, (4, 0))] hk ?_
    refine W_go ?_
    refine W_if (fun q => ?_) (fun _ => ?_)
    · exact absurd q p0
    refine W_go ?_
    refine W_if (fun _ => ?_) (fun q => ?_)
    case' refine_2 => exact absurd p1 q
    refine W_go ?_
    refine W_dc1 [(0, (2056, 0))] hb [.c _ _ _] ?_
    refine W_go ?_
    refine W_dc2 [(0, (0, 0)), (1, (1, 0)), (2, (2, 0)), (3, (3, 0))] hy [(0, (2056, 0))] hn [.c _ _ _, .c _ _ _] ?_
    refine W_go ?_
    refine W_rt [(8200, (100, 0)), (8201, (101, 0)), (8202, (102, 0)), (8203, (103, 0)), (2056, (104, 0))] [] ?_
    simp [tD.told]
  by_cases p2 : g.p = 2
  · have eG : g.stG s = g.mark s := by rw [Gcc.stG, if_neg p0, if_neg p1, if_pos p2]
    have eS : g.stS s = s := by unfold Gcc.stS Gcc.sw; rw [if_neg (by rw [if_neg (by omega)]; omega)]
    have hn := sl6Mark_c s g w'.told hF
    have em := mark_len g s
    rw [eG, eS, em]
    generalize g.mark s = y at *
    have tD : List.take g.C.length y.C = y.C := List.take_of_length_le (by omega)
    replace tD : Hold _ := ⟨tD⟩
    replace em : Hold _ := ⟨em⟩
    clear eG eS hw hat
    replace l8 : Hold _ := ⟨l8⟩
    replace hlc : Hold _ := ⟨hlc⟩
    refine W_go ?_
    refine W_c1 [(0, (4, 0))] hk ?_
    refine W_go ?_
    refine W_if (fun q => ?_) (fun _ => ?_)
    · exact absurd q p0
    refine W_go ?_
    refine W_if (fun q => ?_) (fun _ => ?_)
    · exact absurd q p1
    refine W_go ?_
    refine W_if (fun _ => ?_) (fun q => ?_)
    case' refine_2 => exact absurd p2 q
    refine W_go ?_
    refine W_dc2 [(0, (0, 0)), (1, (1, 0)), (2, (2, 0)), (3, (3, 0))] hy [(0, (0, 0)), (1, (1, 0)), (2, (2, 0)), (3, (3, 0)), (4, (2056, 0))] hn [.c _ _ _, .c _ _ _] ?_
    refine W_go ?_
    refine W_rt [(10248, (100, 0)), (10249, (101, 0)), (10250, (102, 0)), (10251, (103, 0)), (2056, (104, 0))] [] ?_
    simp [tD.told]
  have p3 : g.p = 3 := by omega
  have ha : 0 ≤ g.a ∧ g.a < g.C.length := by omega
  have eG : g.stG s = Gcc.nx ⟨g.p, g.C.set g.a.toNat 0, g.a⟩ g.C.length 0 := by rw [Gcc.stG, if_neg p0, if_neg p1, if_neg p2, p3]
  have hn := sl6Next_c ⟨g.p, g.C.set g.a.toNat 0, g.a⟩ g.C.length 0 (by dsimp only; omega)
  have en := nx_C ⟨g.p, g.C.set g.a.toNat 0, g.a⟩ g.C.length 0
  dsimp only at hn en
  rw [eG, en]
  generalize Gcc.nx ⟨g.p, g.C.set g.a.toNat 0, g.a⟩ g.C.length 0 = y at *
  have tD : List.take g.C.length (g.C.set g.a.toNat 0) = g.C.set g.a.toNat 0 := List.take_of_length_le (by simp)
  rw [List.length_set] at hn
  rw [← tD] at hn
  have hcl := sl4Clear_c s [g.sw s] w'.told.h ⟨hF, by simp⟩
  replace tD : Hold _ := ⟨tD⟩
  clear eG hat en
  have eS : g.sw s ≠ -1 → g.stS s = s.clr [g.sw s] := fun q => by rw [Gcc.stS, if_pos q]
  have eS2 : ¬ g.sw s ≠ -1 → g.stS s = s := fun q => by rw [Gcc.stS, if_neg q]
  replace eS : Hold _ := ⟨eS⟩
  replace eS2 : Hold _ := ⟨eS2⟩
  replace l8 : Hold _ := ⟨l8⟩
  replace hlc : Hold _ := ⟨hlc⟩
  generalize g.sw s = x at *
  refine W_go ?_
  refine W_c1 [(0, (4, 0))] hk ?_
  refine W_go ?_
  refine W_if (fun q => ?_) (fun _ => ?_)
  · exact absurd q p0
  refine W_go ?_
  refine W_if (fun q => ?_) (fun _ => ?_)
  · exact absurd q p1
  refine W_go ?_
  refine W_if (fun q => ?_) (fun _ => ?_)
  · exact absurd q p2
  refine W_go ?_
  refine W_c1 [(0, (0, 0)), (1, (1, 0)), (2, (2, 0)), (3, (3, 0)), (4, (4, 0))] hw ?_
  refine W_go ?_
  refine W_c1 [(0, (0, 0)), (1, (1, 0)), (2, (2, 0)), (3, (3, 0))] hy ?_
  refine W_go ?_
  refine W_if (fun q => ?_) (fun q => ?_)
  · rw [eS.told q]
    replace q : Hold _ := ⟨q⟩
    generalize s.clr [x] = z at *
    refine W_go ?_
    refine W_c1 [(0, (0, 0)), (1, (1, 0)), (2, (2, 0)), (3, (3, 0)), (4, (14352, 0))] hcl ?_
    refine W_go ?_
    refine W_dc1 [(0, (2056, 0))] hn [.c _ _ _] ?_
    refine W_go ?_
    refine W_rt [(14360, (100, 0)), (14361, (101, 0)), (14362, (102, 0)), (14363, (103, 0)), (2056, (104, 0))] [] ?_
    simp [tD.told]
  · rw [eS2.told q]
    replace q : Hold _ := ⟨q⟩
    refine W_go ?_
    refine W_dc1 [(0, (2056, 0))] hn [.c _ _ _] ?_
    refine W_go ?_
    refine W_rt [(12296, (100, 0)), (12297, (101, 0)), (12298, (102, 0)), (12299, (103, 0)), (2056, (104, 0))] [] ?_
    simp [tD.told]
def wrongG (B : List UInt8) (m : Nat) (p : Int) (g : Gcc) : Gcc :=
  if pkV B m p 20 = 0 then ⟨pkN B m (p + 1) [4, -1, 0, 1, 2, 3], g.C, g.a⟩
  else if pkV B m p 20 = 1 then ⟨g.p, g.C, pkN B m (p + 1) [-1, 8, 1]⟩
  else if pkV B m p 20 = 2 then ⟨g.p, g.C.set (pkV B m (p + 1) g.C.length).toNat (pkN B m (p + 1 + 1) [3, 0, 1, 2]), g.a⟩ else g
def wrongP (B : List UInt8) (m : Nat) (p : Int) : Int :=
  if pkV B m p 20 = 0 then p + 1 + 1
  else if pkV B m p 20 = 1 then p + 1 + 1
  else if pkV B m p 20 = 2 then p + 1 + 1 + 1 else p + 1
theorem wrongP_b (B : List UInt8) (m : Nat) (p : Int) : p ≤ wrongP B m p ∧ wrongP B m p ≤ p + 3 := by
  unfold wrongP; split
  · omega
  · split
    · omega
    · split <;> omega
theorem wrongG_len (B : List UInt8) (m : Nat) (p : Int) (g : Gcc) : (wrongG B m p g).C.length = g.C.length := by
  unfold wrongG; split
  · rfl
  · split
    · rfl
    · split
      · simp
      · rfl
theorem l6Wrong_c (B : List UInt8) (m : Nat) (p : Int) (g : Gcc) (hp : 0 ≤ p ∧ p < 1099511620000) (hm : m ≤ B.length ∧ m < 1099511627776) (hl : 1 ≤ g.C.length ∧ g.C.length ≤ 4190000) :
    Fn Try.prog 127 [(0, .c true (.av 1 [.sl 1 0 m, .int .i64 p])), (1, .c false (.bys B)), (2, .c false (.ints g.C))] [.ptr 0 0, .agg [.int .i64 g.p, .sl 2 0 g.C.length, .int .i64 g.a]]
      (fun r H => r = .agg [.int .i64 (wrongG B m p g).p, .sl 100 0 (wrongG B m p g).C.length, .int .i64 (wrongG B m p g).a] ∧ H = [(0, .c true (.av 1 [.sl 1 0 m, .int .i64 (wrongP B m p)])), (100, .c true (.ints (wrongG B m p g).C))]) := by
  have hC := sl6Copy_c g (by omega)
  have hP := pick_c B m p 20 (by omega) hm
  have hP2 := pick_c B m (p + 1) g.C.length (by omega) hm
  have hN0 := num_c B m (p + 1) [4, -1, 0, 1, 2, 3] (by omega) hm (by simp)
  have hN1 := num_c B m (p + 1) [-1, 8, 1] (by omega) hm (by simp)
  have hN2 := num_c B m (p + 1 + 1) [3, 0, 1, 2] (by omega) hm (by simp)
  have b2 := pkV_b (B := B) (m := m) (n := g.C.length) (k := p + 1) (by omega)
  have b3 := b2.2 (by omega)
  have b4 := b2.1
  clear b2
  unfold wrongG wrongP
  generalize pkV B m p 20 = v at *
  generalize pkV B m (p + 1) g.C.length = v2 at *
  generalize pkN B m (p + 1) [4, -1, 0, 1, 2, 3] = n0 at *
  generalize pkN B m (p + 1) [-1, 8, 1] = n1 at *
  generalize pkN B m (p + 1 + 1) [3, 0, 1, 2] = n2 at *
  refine Fn_go Try.func127 ?_
  refine W_go ?_
  refine W_c1 [(0, (2, 0))] hC ?_
  refine W_go ?_
  refine W_c1 [(0, (0, 0)), (1, (1, 0))] hP ?_
  refine W_go ?_
  refine W_if (fun h1 => ?_) (fun h1 => ?_)
  · rw [if_pos h1, if_pos h1]
    refine W_go ?_
    refine W_c1 [(0, (0, 0)), (1, (1, 0)), (2, (5128, 0))] hN0 ?_
    refine W_go ?_
    refine W_rt [(0, (0, 0)), (2056, (100, 0))] [] ?_
    exact ⟨rfl, rfl⟩
  rw [if_neg h1, if_neg h1]
  refine W_go ?_
  refine W_if (fun h2 => ?_) (fun h2 => ?_)
  · rw [if_pos h2, if_pos h2]
    refine W_go ?_
    refine W_c1 [(0, (0, 0)), (1, (1, 0)), (2, (7176, 0))] hN1 ?_
    refine W_go ?_
    refine W_rt [(0, (0, 0)), (2056, (100, 0))] [] ?_
    exact ⟨rfl, rfl⟩
  rw [if_neg h2, if_neg h2]
  refine W_go ?_
  refine W_if (fun h3 => ?_) (fun h3 => ?_)
  · rw [if_pos h3, if_pos h3]
    refine W_go ?_
    refine W_dc2 [(0, (0, 0)), (1, (1, 0))] hP2 [(0, (0, 0)), (1, (1, 0)), (2, (9280, 0))] hN2 [.c _ _ _, .c _ _ _] ?_
    refine W_go ?_
    refine W_rt [(0, (0, 0)), (2056, (100, 0))] [] ?_
    simp
  · rw [if_neg h3, if_neg h3]
    refine W_go ?_
    refine W_rt [(0, (0, 0)), (2056, (100, 0))] [] ?_
    exact ⟨rfl, rfl⟩
theorem fresh_weak {s : Sto} (ho : s.ok) : (Gcc.fresh s).weak s ∧ (Gcc.fresh s).C.length = s.h.L.length := by
  have e : Gcc.fresh s = ⟨0, List.replicate s.h.L.length 0, 0⟩ := by rw [Gcc.fresh, if_pos ((Sto.ok_iff s).2 ho)]
  rw [e]
  refine ⟨⟨ho.1, colOk_rep _, ?_⟩, by simp⟩
  unfold Gcc.atOk; dsimp only; omega
theorem l6Draw_c (B : List UInt8) (m : Nat) (p0 : Int) (hp : 0 ≤ p0 ∧ p0 < 1099511600000) (hm : m ≤ B.length ∧ m < 1099511627776) :
    Fn Try.prog 126 [(0, .c true (.av 1 [.sl 1 0 m, .int .i64 p0])), (1, .c false (.bys B))] [.ptr 0 0]
      (fun r H => ∃ x : Sto × Gcc × Int, (Hold (x.2.1.weak x.1) ∧ x.1.F.length ≤ 28 ∧ p0 ≤ x.2.2 ∧ x.2.2 ≤ p0 + 110) ∧ r = .tup [.agg [.sl 100 0 x.1.h.L.length, .sl 101 0 x.1.h.R.length, .sl 102 0 x.1.h.T.length, .sl 103 0 x.1.F.length], .agg [.int .i64 x.2.1.p, .sl 104 0 x.2.1.C.length, .int .i64 x.2.1.a]] ∧ H = [(0, .c true (.av 1 [.sl 1 0 m, .int .i64 x.2.2])), (100, .c true (.ints x.1.h.L)), (101, .c true (.ints x.1.h.R)), (102, .c true (.ints x.1.h.T)), (103, .c true (.ints x.1.F)), (104, .c true (.ints x.2.1.C))]) := by
  refine Fn_go Try.func126 ?_
  refine W_go ?_
  refine W_rw fun K hK => ?_
  refine RW_x ?_
  repeat (refine And.intro (by omega) ?_)
  refine CKy (μ := [(0, (0, 0)), (1, (1, 0))]) ⟨⟩ (l4Draw_c B m p0 hp hm) (fun x hx => ?_)
  obtain ⟨s0, p⟩ := x
  try dsimp only at hx ⊢
  refine RW_x ?_
  repeat (refine And.intro (by omega) ?_)
  refine hK _ _ ?_
  obtain ⟨ho, hx⟩ := hx
  have l8 := ho.told.1.1
  have hN := sNewGc_c s0 (by omega)
  rw [(Sto.ok_iff _).2 ho.told] at hN
  have hv := fresh_weak ho.told
  have l9 : (Gcc.fresh s0).C.length ≤ 8 := by rw [hv.2]; omega
  have hw : Hold ((Gcc.fresh s0).weak s0) := ⟨hv.1⟩
  clear hv
  generalize Gcc.fresh s0 = g0 at *
  have hM := num_c B m p [3, 1, 5, 8, 0, 14, 20] (by omega) hm (by simp)
  have b3 := pkN_mem (B := B) (m := m) (k := p) (l := [3, 1, 5, 8, 0, 14, 20]) (by omega) (by simp)
  generalize pkN B m p [3, 1, 5, 8, 0, 14, 20] = vc at *
  simp only [List.mem_cons, List.not_mem_nil, or_false] at b3
  have hc : 0 ≤ vc ∧ vc ≤ 20 := by omega
  clear b3
  replace l8 : Hold _ := ⟨l8⟩
  refine W_go ?_
  refine W_c1 [(0, (2056, 0)), (1, (2057, 0)), (2, (2058, 0)), (3, (2059, 0))] hN ?_
  refine W_go ?_
  refine W_c1 [(0, (0, 0)), (1, (1, 0)), (2, (4104, 0))] hM ?_
  refine W_go ?_
  refine W_rk 8 [(1024, (1024, 0)), (1032, (1032, 0)), (2056, (2056, 0)), (2057, (2057, 0)), (2058, (2058, 0)), (2059, (2059, 0)), (2064, (2064, 0)), (3080, (3080, 0)), (3112, (3112, 0))] ?_
  refine W_lp (T := 8) (σ := Sto × Gcc × Int) (me := fun s => [(7, .int .i64 s.2.2)]) (mh := fun s => [(2056, .c true (.ints s.1.h.L)), (2057, .c true (.ints s.1.h.R)), (2058, .c true (.ints s.1.h.T)), (2059, .c true (.ints s.1.F)), (2064, .c true (.av 1 [.sl 2056 0 s.1.h.L.length, .sl 2057 0 s.1.h.R.length, .sl 2058 0 s.1.h.T.length, .sl 2059 0 s.1.F.length])), (3080, .c true (.ints s.2.1.C)), (3112, .c true (.av 1 [.int .i64 s.2.1.p, .sl 3080 0 s.2.1.C.length, .int .i64 s.2.1.a]))])
    (inv := fun s => Hold (s.2.1.weak s.1) ∧ s.1.F.length ≤ 8 + (20 - s.2.2) ∧ 0 ≤ s.2.2 ∧ s.2.2 ≤ 20) (m := fun s => s.2.2.toNat) (s0 := (s0, g0, vc)) ⟨hw, ?_⟩ ?_ (hh := by rfl)
  · dsimp only; omega
  clear hw hN l9 hM hc ho l8
  rintro ⟨s, g, i⟩ ⟨hw, hi⟩
  dsimp only at hw hi ⊢
  have hS := sl6Step_c s g hw.told (by omega)
  have ws := hw.told.step
  have ls := (stS_lens g s).2.2.2
  have b8 := hw.told.h.1
  have b9 := hw.told.c.1
  have hl8 : (s.h.L.length ≤ 4194304 ∧ s.h.R.length ≤ 4194304 ∧ s.h.T.length ≤ 4194304) ∧ s.F.length ≤ 4194304 ∧ g.C.length ≤ 8 := by omega
  have hl7 : ((g.stS s).h.L.length ≤ 4194304 ∧ (g.stS s).h.R.length ≤ 4194304 ∧ (g.stS s).h.T.length ≤ 4194304) ∧ (g.stS s).F.length ≤ 4194304 ∧ (g.stG s).C.length ≤ 8 := by
    have b1 := ws.h.1
    have b2 := ws.c.1
    omega
  clear b8 b9
  replace ws : Hold _ := ⟨ws⟩
  generalize g.stS s = s' at *
  generalize g.stG s = g' at *
  refine W_go ?_
  refine W_if (fun h1 => ?_) (fun h1 => ?_)
  · refine W_go ?_
    refine W_c1 [(0, (2056, 0)), (1, (2057, 0)), (2, (2058, 0)), (3, (2059, 0)), (4, (3080, 0))] hS ?_
    refine W_go ?_
    refine W_rk 8 [(1024, (1024, 0)), (1032, (1032, 0)), (7184, (2056, 0)), (7185, (2057, 0)), (7186, (2058, 0)), (7187, (2059, 0)), (2064, (2064, 0)), (7188, (3080, 0)), (3112, (3112, 0))] ?_
    refine W_bh (s', g', i - 1) ⟨ws, ?_⟩ ?_ ?_
    · dsimp only; omega
    · dsimp only; omega
    · rfl
  · refine W_go ?_
    refine W_rt [(0, (0, 0)), (2056, (100, 0)), (2057, (101, 0)), (2058, (102, 0)), (2059, (103, 0)), (3080, (104, 0))] [] ?_
    refine ⟨(s, g, p + 1), ⟨hw, ?_⟩, rfl, rfl⟩
    dsimp only; omega
/-- What is drawn is small. -/
def drG (s : Sto) (g : Gcc) : Prop := (1 ≤ s.h.L.length ∧ s.h.L.length ≤ 8 ∧ s.h.R.length ≤ 8 ∧ s.h.T.length ≤ 3 ∧ s.F.length ≤ 28) ∧ g.C.length ≤ 8
theorem l6Case_c (B : List UInt8) (hB : B.length ≤ 1048576) : Fn Try.prog 93 [(0, .c false (.bys B))] [.sl 0 0 B.length]
    (fun r H => ∃ x : Sto × Gcc × Int, drG x.1 x.2.1 ∧ r = .tup [.agg [.sl 100 0 x.1.h.L.length, .sl 101 0 x.1.h.R.length, .sl 102 0 x.1.h.T.length, .sl 103 0 x.1.F.length], .agg [.int .i64 x.2.1.p, .sl 104 0 x.2.1.C.length, .int .i64 x.2.1.a], .int .i64 x.2.2] ∧ H = [(100, .c true (.ints x.1.h.L)), (101, .c true (.ints x.1.h.R)), (102, .c true (.ints x.1.h.T)), (103, .c true (.ints x.1.F)), (104, .c true (.ints x.2.1.C))]) := by
  have hO := open_c B (by omega)
  refine Fn_go Try.func93 ?_
  refine W_go ?_
  refine W_c1 [(0, (0, 0))] hO ?_
  have hm : min B.length 2000 ≤ B.length ∧ min B.length 2000 < 1099511627776 := by omega
  generalize min B.length 2000 = m at *
  refine W_go ?_
  refine W_rw fun K hK => ?_
  refine RW_x ?_
  repeat (refine And.intro (by omega) ?_)
  refine CKy (μ := [(0, (2056, 0)), (1, (0, 0))]) ⟨⟩ (l6Draw_c B m 0 (by omega) hm) (fun x hx => ?_)
  obtain ⟨s, g, p⟩ := x
  try dsimp only at hx ⊢
  refine RW_x ?_
  repeat (refine And.intro (by omega) ?_)
  refine hK _ _ ?_
  obtain ⟨hw, hx⟩ := hx
  have b8 := hw.told.h.1
  have b9 := hw.told.c.1
  have hG := l6Wrong_c B m p g (by omega) hm (by omega)
  have pb := wrongP_b B m p
  have gl := wrongG_len B m p g
  have hN := num_c B m (wrongP B m p) [0, 1, 2, 3, 8, -1] (by omega) hm (by simp)
  have hd : drG s (wrongG B m p g) := by unfold drG; omega
  have l7 : (wrongG B m p g).C.length ≤ 8 := by omega
  have l6 : s.h.L.length ≤ 8 ∧ s.h.R.length ≤ 8 ∧ s.h.T.length ≤ 8 := by omega
  generalize wrongG B m p g = g' at *
  generalize pkN B m (wrongP B m p) [0, 1, 2, 3, 8, -1] = n at *
  generalize wrongP B m p = p' at *
  clear b8 b9 gl hw
  replace hd : Hold _ := ⟨hd⟩
  refine W_go ?_
  refine W_dc2 [(0, (2056, 0)), (1, (0, 0)), (2, (3084, 0))] hG [(0, (2056, 0)), (1, (0, 0)), (2, (4136, 0))] hN [.c _ _ _, .c _ _ _] ?_
  refine W_go ?_
  refine W_rt [(3080, (100, 0)), (3081, (101, 0)), (3082, (102, 0)), (3083, (103, 0)), (4120, (104, 0))] [] ?_
  exact ⟨(s, g', n), hd.told, rfl, rfl⟩
end Go.Proofs.Ytdkdepfgilbkeaa.S
