/- Contracts: two stores, drawn out of bytes. Own work of this claim. -/
import Derived.Test.YtnepiffboakehaaDoorGc
import Derived.Test.YtnepiffboakehaaDoorGd
import Derived.Test.YtnepiffboakehaaDoorTh
namespace Go.Proofs.YtnepiffboakehaaDoor.S
set_option linter.all false
open Go Go.Proofs
set_option maxHeartbeats 4000000
set_option maxRecDepth 100000

/-- A heap that is spoilt, sometimes, and the place behind. -/
def wrH (B : List UInt8) (m : Nat) (p : Int) (h : Hp) : Hp × Int :=
  if pkV B m p 20 = 0 then (⟨h.L.set (pkV B m (p + 1) h.L.length).toNat (pkN B m (p + 1 + 1) [-2, 8, 0]), h.R, h.T⟩, p + 1 + 1 + 1)
  else if pkV B m p 20 = 1 then (⟨h.L, h.R ++ [-1], h.T⟩, p + 1)
  else if pkV B m p 20 = 2 then (⟨h.L, h.R, h.T ++ [pkN B m (p + 1) [0, -1, 9]]⟩, p + 1 + 1)
  else if pkV B m p 20 = 3 then (⟨h.L, h.R, []⟩, p + 1)
  else (h, p + 1)
theorem wrH_eq (B : List UInt8) (m : Nat) (p : Int) (h : Hp) : wrH B m p h =
  if pkV B m p 20 = 0 then (⟨h.L.set (pkV B m (p + 1) h.L.length).toNat (pkN B m (p + 1 + 1) [-2, 8, 0]), h.R, h.T⟩, p + 1 + 1 + 1)
  else if pkV B m p 20 = 1 then (⟨h.L, h.R ++ [-1], h.T⟩, p + 1)
  else if pkV B m p 20 = 2 then (⟨h.L, h.R, h.T ++ [pkN B m (p + 1) [0, -1, 9]]⟩, p + 1 + 1)
  else if pkV B m p 20 = 3 then (⟨h.L, h.R, []⟩, p + 1)
  else (h, p + 1) := rfl
theorem wrH_len (B : List UInt8) (m : Nat) (p : Int) (h : Hp) : (wrH B m p h).1.L.length = h.L.length ∧ (wrH B m p h).1.R.length ≤ h.R.length + 1 ∧ (wrH B m p h).1.T.length ≤ h.T.length + 1 ∧ p ≤ (wrH B m p h).2 ∧ (wrH B m p h).2 ≤ p + 3 := by
  unfold wrH
  split
  · refine ⟨by simp, ?_, ?_, ?_, ?_⟩ <;> dsimp only <;> omega
  · split
    · refine ⟨by simp, ?_, ?_, ?_, ?_⟩ <;> dsimp only <;> (try simp only [List.length_append, List.length_cons, List.length_nil]) <;> omega
    · split
      · refine ⟨by simp, ?_, ?_, ?_, ?_⟩ <;> dsimp only <;> (try simp only [List.length_append, List.length_cons, List.length_nil]) <;> omega
      · split
        · refine ⟨by simp, ?_, ?_, ?_, ?_⟩ <;> dsimp only <;> (try simp only [List.length_nil]) <;> omega
        · refine ⟨rfl, ?_, ?_, ?_, ?_⟩ <;> dsimp only <;> omega
/-- A store that is spoilt, sometimes, and the place behind. -/
def wrS (B : List UInt8) (m : Nat) (p : Int) (s : Sto) : Sto × Int :=
  if pkV B m p 20 = 0 then (⟨s.h, s.F ++ [pkN B m (p + 1) [0, 1, 8, -1]]⟩, p + 1 + 1)
  else if pkV B m p 20 = 1 then (⟨(wrH B m (wrH B m (p + 1) s.h).2 (wrH B m (p + 1) s.h).1).1, s.F⟩, (wrH B m (wrH B m (p + 1) s.h).2 (wrH B m (p + 1) s.h).1).2)
  else (s, p + 1)
theorem wrS_eq (B : List UInt8) (m : Nat) (p : Int) (s : Sto) : wrS B m p s =
  if pkV B m p 20 = 0 then (⟨s.h, s.F ++ [pkN B m (p + 1) [0, 1, 8, -1]]⟩, p + 1 + 1)
  else if pkV B m p 20 = 1 then (⟨(wrH B m (wrH B m (p + 1) s.h).2 (wrH B m (p + 1) s.h).1).1, s.F⟩, (wrH B m (wrH B m (p + 1) s.h).2 (wrH B m (p + 1) s.h).1).2)
  else (s, p + 1) := rfl
theorem wrS_len (B : List UInt8) (m : Nat) (p : Int) (s : Sto) : (wrS B m p s).1.h.L.length = s.h.L.length ∧ (wrS B m p s).1.h.R.length ≤ s.h.R.length + 2 ∧ (wrS B m p s).1.h.T.length ≤ s.h.T.length + 2 ∧ (wrS B m p s).1.F.length ≤ s.F.length + 1 ∧ p ≤ (wrS B m p s).2 ∧ (wrS B m p s).2 ≤ p + 7 := by
  have h1 := wrH_len B m (p + 1) s.h
  have h2 := wrH_len B m (wrH B m (p + 1) s.h).2 (wrH B m (p + 1) s.h).1
  unfold wrS
  split
  · refine ⟨by simp, ?_, ?_, ?_, ?_, ?_⟩ <;> dsimp only <;> (try simp only [List.length_append, List.length_cons, List.length_nil]) <;> omega
  · split
    · refine ⟨?_, ?_, ?_, ?_, ?_, ?_⟩ <;> dsimp only <;> omega
    · refine ⟨rfl, ?_, ?_, ?_, ?_, ?_⟩ <;> dsimp only <;> omega
theorem l1WrongE_c (B : List UInt8) (m : Nat) (p : Int) (h : Hp) (hp : 0 ≤ p ∧ p < 1099511620000) (hm : m ≤ B.length ∧ m < 1099511627776) (hl : 1 ≤ h.L.length ∧ h.L.length ≤ 4190000 ∧ h.R.length ≤ 4190000 ∧ h.T.length ≤ 4190000) :
    Fn Tryd.prog 23 [(0, .c true (.av 1 [.sl 1 0 m, .int .i64 p])), (1, .c false (.bys B)), (2, .c false (.ints h.L)), (3, .c false (.ints h.R)), (4, .c false (.ints h.T))] [.ptr 0 0, .agg [.sl 2 0 h.L.length, .sl 3 0 h.R.length, .sl 4 0 h.T.length]]
      (fun r H => r = .agg [.sl 100 0 (wrH B m p h).1.L.length, .sl 101 0 (wrH B m p h).1.R.length, .sl 102 0 (wrH B m p h).1.T.length] ∧ H = [(0, .c true (.av 1 [.sl 1 0 m, .int .i64 (wrH B m p h).2])), (100, .c true (.ints (wrH B m p h).1.L)), (101, .c true (.ints (wrH B m p h).1.R)), (102, .c true (.ints (wrH B m p h).1.T))]) := by
  have hC := sl1Copy_c h (by omega)
  have hP := pick_c B m p 20 (by omega) hm
  have hP2 := pick_c B m (p + 1) h.L.length (by omega) hm
  have hN := num_c B m (p + 1 + 1) [-2, 8, 0] (by omega) hm (by simp)
  have hN2 := num_c B m (p + 1) [0, -1, 9] (by omega) hm (by simp)
  have b1 := pkV_b (B := B) (m := m) (n := 20) (k := p) (by omega)
  have b2 := pkV_b (B := B) (m := m) (n := h.L.length) (k := p + 1) (by omega)
  have b3 := b2.2 (by omega)
  have ee := wrH_eq B m p h
  generalize wrH B m p h = w at *
  generalize pkV B m p 20 = v at *
  generalize pkV B m (p + 1) h.L.length = v2 at *
  generalize pkN B m (p + 1 + 1) [-2, 8, 0] = v3 at *
  generalize pkN B m (p + 1) [0, -1, 9] = v4 at *
  replace ee : Hold _ := ⟨ee⟩
  refine Fn_go Tryd.func23 ?_
  refine W_go ?_
  refine W_c1 [(0, (2, 0)), (1, (3, 0)), (2, (4, 0))] hC ?_
  refine W_go ?_
  refine W_c1 [(0, (0, 0)), (1, (1, 0))] hP ?_
  refine W_go ?_
  refine W_if (fun h1 => ?_) (fun h1 => ?_)
  · refine W_go ?_
    refine W_dc2 [(0, (0, 0)), (1, (1, 0))] hP2 [(0, (0, 0)), (1, (1, 0)), (2, (5184, 0))] hN [.c _ _ _, .c _ _ _] ?_
    refine W_go ?_
    refine W_rt [(0, (0, 0)), (2056, (100, 0)), (2057, (101, 0)), (2058, (102, 0))] [] ?_
    have ee := ee.told
    rw [if_pos h1] at ee
    subst ee
    exact ⟨by simp, by simp⟩
  refine W_go ?_
  refine W_if (fun h2 => ?_) (fun h2 => ?_)
  · refine W_go ?_
    refine W_rt [(0, (0, 0)), (2056, (100, 0)), (7192, (101, 0)), (2058, (102, 0))] [] ?_
    have ee := ee.told
    rw [if_neg h1, if_pos h2] at ee
    subst ee
    exact ⟨by simp, by simp⟩
  refine W_go ?_
  refine W_if (fun h3 => ?_) (fun h3 => ?_)
  · refine W_go ?_
    refine W_dc1 [(0, (0, 0)), (1, (1, 0)), (2, (9240, 0))] hN2 [.c _ _ _] ?_
    refine W_go ?_
    refine W_rt [(0, (0, 0)), (2056, (100, 0)), (2057, (101, 0)), (9264, (102, 0))] [] ?_
    have ee := ee.told
    rw [if_neg h1, if_neg h2, if_pos h3] at ee
    subst ee
    exact ⟨by simp, by simp⟩
  refine W_go ?_
  refine W_if (fun h4 => ?_) (fun h4 => ?_)
  · refine W_go ?_
    refine W_rt [(0, (0, 0)), (2056, (100, 0)), (2057, (101, 0)), (11264, (102, 0))] [] ?_
    have ee := ee.told
    rw [if_neg h1, if_neg h2, if_neg h3, if_pos h4] at ee
    subst ee
    exact ⟨by simp, by simp⟩
  · refine W_go ?_
    refine W_rt [(0, (0, 0)), (2056, (100, 0)), (2057, (101, 0)), (2058, (102, 0))] [] ?_
    have ee := ee.told
    rw [if_neg h1, if_neg h2, if_neg h3, if_neg h4] at ee
    subst ee
    exact ⟨by simp, by simp⟩
theorem l4WrongE_c (B : List UInt8) (m : Nat) (p : Int) (s : Sto) (hp : 0 ≤ p ∧ p < 1099511610000) (hm : m ≤ B.length ∧ m < 1099511627776) (hl : 1 ≤ s.h.L.length ∧ s.h.L.length ≤ 4100000 ∧ s.h.R.length ≤ 4100000 ∧ s.h.T.length ≤ 4100000 ∧ s.F.length ≤ 4100000) :
    Fn Tryd.prog 11 [(0, .c true (.av 1 [.sl 1 0 m, .int .i64 p])), (1, .c false (.bys B)), (2, .c false (.ints s.h.L)), (3, .c false (.ints s.h.R)), (4, .c false (.ints s.h.T)), (5, .c false (.ints s.F))] [.ptr 0 0, .agg [.sl 2 0 s.h.L.length, .sl 3 0 s.h.R.length, .sl 4 0 s.h.T.length, .sl 5 0 s.F.length]]
      (fun r H => r = .agg [.sl 100 0 (wrS B m p s).1.h.L.length, .sl 101 0 (wrS B m p s).1.h.R.length, .sl 102 0 (wrS B m p s).1.h.T.length, .sl 103 0 (wrS B m p s).1.F.length] ∧ H = [(0, .c true (.av 1 [.sl 1 0 m, .int .i64 (wrS B m p s).2])), (100, .c true (.ints (wrS B m p s).1.h.L)), (101, .c true (.ints (wrS B m p s).1.h.R)), (102, .c true (.ints (wrS B m p s).1.h.T)), (103, .c true (.ints (wrS B m p s).1.F))]) := by
  have hC := sl4Copy_c s (by omega)
  have hP := pick_c B m p 20 (by omega) hm
  have hN := num_c B m (p + 1) [0, 1, 8, -1] (by omega) hm (by simp)
  have hb1 := wrH_len B m (p + 1) s.h
  have hb2 := wrH_len B m (wrH B m (p + 1) s.h).2 (wrH B m (p + 1) s.h).1
  have hW1 := l1WrongE_c B m (p + 1) s.h (by omega) hm (by omega)
  have hW2 := l1WrongE_c B m (wrH B m (p + 1) s.h).2 (wrH B m (p + 1) s.h).1 (by omega) hm (by omega)
  have ee := wrS_eq B m p s
  generalize wrS B m p s = w at *
  generalize pkV B m p 20 = v at *
  generalize pkN B m (p + 1) [0, 1, 8, -1] = v2 at *
  generalize wrH B m (wrH B m (p + 1) s.h).2 (wrH B m (p + 1) s.h).1 = x2 at *
  generalize wrH B m (p + 1) s.h = x1 at *
  replace ee : Hold _ := ⟨ee⟩
  refine Fn_go Tryd.func11 ?_
  refine W_go ?_
  refine W_c1 [(0, (2, 0)), (1, (3, 0)), (2, (4, 0)), (3, (5, 0))] hC ?_
  refine W_go ?_
  refine W_c1 [(0, (0, 0)), (1, (1, 0))] hP ?_
  refine W_go ?_
  refine W_if (fun h1 => ?_) (fun h1 => ?_)
  · refine W_go ?_
    refine W_dc1 [(0, (0, 0)), (1, (1, 0)), (2, (5144, 0))] hN [.c _ _ _] ?_
    refine W_go ?_
    refine W_rt [(0, (0, 0)), (2056, (100, 0)), (2057, (101, 0)), (2058, (102, 0)), (5168, (103, 0))] [] ?_
    have ee := ee.told
    rw [if_pos h1] at ee
    subst ee
    exact ⟨by simp, by simp⟩
  refine W_go ?_
  refine W_if (fun h2 => ?_) (fun h2 => ?_)
  · refine W_go ?_
    refine W_c2 [(0, (0, 0)), (1, (1, 0)), (2, (2056, 0)), (3, (2057, 0)), (4, (2058, 0))] hW1 [(0, (0, 0)), (1, (1, 0)), (2, (7200, 0)), (3, (7201, 0)), (4, (7202, 0))] hW2 ?_
    refine W_go ?_
    refine W_rt [(0, (0, 0)), (7208, (100, 0)), (7209, (101, 0)), (7210, (102, 0)), (2059, (103, 0))] [] ?_
    have ee := ee.told
    rw [if_neg h1, if_pos h2] at ee
    subst ee
    exact ⟨rfl, rfl⟩
  · refine W_go ?_
    refine W_rt [(0, (0, 0)), (2056, (100, 0)), (2057, (101, 0)), (2058, (102, 0)), (2059, (103, 0))] [] ?_
    have ee := ee.told
    rw [if_neg h1, if_neg h2] at ee
    subst ee
    exact ⟨rfl, rfl⟩
theorem drawStoreSame_c (B : List UInt8) (hB : B.length ≤ 1048576) : Fn Tryd.prog 4 [(0, .c false (.bys B))] [.sl 0 0 B.length]
    (fun r H => ∃ y : Sto × Sto, (((y.1.h.L.length ≤ 4194304 ∧ y.1.h.R.length ≤ 4194304 ∧ y.1.h.T.length ≤ 4194304) ∧ y.1.F.length ≤ 4194304) ∧ ((y.2.h.L.length ≤ 4194304 ∧ y.2.h.R.length ≤ 4194304 ∧ y.2.h.T.length ≤ 4194304) ∧ y.2.F.length ≤ 4194304)) ∧ r = .tup [.agg [.sl 100 0 y.1.h.L.length, .sl 101 0 y.1.h.R.length, .sl 102 0 y.1.h.T.length, .sl 103 0 y.1.F.length], .agg [.sl 104 0 y.2.h.L.length, .sl 105 0 y.2.h.R.length, .sl 106 0 y.2.h.T.length, .sl 107 0 y.2.F.length]] ∧ H = [(100, .c true (.ints y.1.h.L)), (101, .c true (.ints y.1.h.R)), (102, .c true (.ints y.1.h.T)), (103, .c true (.ints y.1.F)), (104, .c true (.ints y.2.h.L)), (105, .c true (.ints y.2.h.R)), (106, .c true (.ints y.2.h.T)), (107, .c true (.ints y.2.F))]) := by
  have hO := open_c B (by omega)
  refine Fn_go Tryd.func4 ?_
  refine W_go ?_
  refine W_c1 [(0, (0, 0))] hO ?_
  have hm : min B.length 2000 ≤ B.length ∧ min B.length 2000 < 1099511627776 := by omega
  generalize min B.length 2000 = m at *
  clear hO
  refine W_go ?_
  refine W_rw fun K hK => ?_
  refine RW_x ?_
  repeat (refine And.intro (by omega) ?_)
  refine CKy (μ := [(0, (2056, 0)), (1, (0, 0))]) ⟨⟩ (l4Draw_c B m 0 (by omega) hm) (fun x hx => ?_)
  obtain ⟨s, p⟩ := x
  try dsimp only at hx ⊢
  refine RW_x ?_
  repeat (refine And.intro (by omega) ?_)
  refine hK _ _ ?_
  have hP := pick_c B m p 3 (by omega) hm
  generalize pkV B m p 3 = k at *
  have ho := hx.1.told.1.1
  refine W_go ?_
  refine W_c1 [(0, (2056, 0)), (1, (0, 0))] hP ?_
  clear hP
  refine W_go ?_
  refine W_if (fun q => ?_) (fun q => ?_)
  · refine W_go ?_
    refine W_de 2 [(0, (2056, 0)), (1, (0, 0))] (l4Draw_c B m (p + 1) (by omega) hm) [] [] (fun y hy => ?_)
    obtain ⟨t, p2⟩ := y
    have hy1 := hy.1.told.1.1
    dsimp only at hy hy1 ⊢
    refine W_go ?_
    refine W_rt [(3080, (100, 0)), (3081, (101, 0)), (3082, (102, 0)), (3083, (103, 0)), (5136, (104, 0)), (5137, (105, 0)), (5138, (106, 0)), (5139, (107, 0))] [] ?_
    refine ⟨(s, t), ⟨?_, ?_⟩, rfl, rfl⟩
    · dsimp only; omega
    · dsimp only; omega
  · have b1 := wrS_len B m (p + 1) s
    have hW1 := l4WrongE_c B m (p + 1) s (by omega) hm (by omega)
    generalize wrS B m (p + 1) s = x1 at *
    have b2 := wrS_len B m x1.2 x1.1
    have hW2 := l4WrongE_c B m x1.2 x1.1 (by omega) hm (by omega)
    generalize wrS B m x1.2 x1.1 = x2 at *
    refine W_go ?_
    refine W_dc2 [(0, (2056, 0)), (1, (0, 0)), (2, (3080, 0)), (3, (3081, 0)), (4, (3082, 0)), (5, (3083, 0))] hW1 [(0, (2056, 0)), (1, (0, 0)), (2, (6176, 0)), (3, (6177, 0)), (4, (6178, 0)), (5, (6179, 0))] hW2 [.c _ _ _, .c _ _ _] ?_
    refine W_go ?_
    refine W_rt [(3080, (100, 0)), (3081, (101, 0)), (3082, (102, 0)), (3083, (103, 0)), (6184, (104, 0)), (6185, (105, 0)), (6186, (106, 0)), (6187, (107, 0))] [] ?_
    refine ⟨(s, x2.1), ⟨?_, ?_⟩, rfl, rfl⟩
    · dsimp only; omega
    · dsimp only; omega
end Go.Proofs.YtnepiffboakehaaDoor.S
