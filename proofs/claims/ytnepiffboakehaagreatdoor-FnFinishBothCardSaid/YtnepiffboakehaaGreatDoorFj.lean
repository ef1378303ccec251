/- Contracts: the given program, cells are freed. Own work of this claim. -/
import Derived.Test.YtnepiffboakehaaGreatDoorFi
namespace Go.Proofs.YtnepiffboakehaaGreatDoor.S
set_option linter.all false
open Go Go.Proofs
set_option maxHeartbeats 4000000
set_option maxRecDepth 100000
set_option linter.unusedVariables false

/-- One cell is cleared. -/
def f1 (l : List Int) (c : Int) (j : Nat) : Int := if (l.set c.toNat (-1)).getD j 0 = c then -1 else (l.set c.toNat (-1)).getD j 0
theorem clr1 (l : List Int) (c : Int) (hc : 0 ≤ c ∧ c < l.length) : preN (f1 l c) (l.set c.toNat (-1)) l.length = clrL l [c] := by
  have e : l.length = (l.set c.toNat (-1)).length := by simp
  have : preN (f1 l c) (l.set c.toNat (-1)) l.length = (List.range l.length).map (f1 l c) := by
    conv => lhs; rw [e]
    rw [pre_full, ← e]
  rw [this]
  unfold clrL
  apply List.map_congr_left
  intro j hj
  rw [List.mem_range] at hj
  unfold f1 clrAt
  rw [getD_set (by omega)]
  simp only [List.mem_singleton]
  by_cases h1 : c.toNat = j
  · rw [if_pos h1, if_neg (by omega), if_pos (.inr (by omega))]
  · rw [if_neg h1]
    by_cases h2 : l.getD j 0 = c
    · rw [if_pos h2, if_pos (.inl h2)]
    · rw [if_neg h2, if_neg (by rintro (q | q); exact h2 q; omega)]
theorem iclear_c (s : Sto) (cells : List Int) (ho : s.h.ok) (hl : s.F.length ≤ 1048576 ∧ cells.length ≤ 1048576) (hc : ∀ x, x ∈ cells → 0 ≤ x ∧ x < s.h.L.length) :
    Fn Tryz.prog 101 [(0, .c true (.av 1 [.sl 1 0 s.h.L.length, .sl 2 0 s.h.R.length, .sl 3 0 s.h.T.length, .sl 4 0 s.F.length])), (1, .c true (.ints s.h.L)), (2, .c true (.ints s.h.R)), (3, .c true (.ints s.h.T)), (4, .c true (.ints s.F)), (5, .c false (.ints cells))] [.ptr 0 0, .sl 5 0 cells.length]
      (fun r H => r = .tup [] ∧ H = [(0, .c true (.av 1 [.sl 1 0 s.h.L.length, .sl 2 0 s.h.R.length, .sl 3 0 s.h.T.length, .sl 100 0 (s.F ++ cells).length])), (1, .c true (.ints (clrL s.h.L cells))), (2, .c true (.ints (clrL s.h.R cells))), (3, .c true (.ints s.h.T)), (100, .c true (.ints (s.F ++ cells)))]) := by
  obtain ⟨⟨l1, l2, l3, l4, l5⟩, _⟩ := ho
  have l3a : s.h.L.length ≤ s.h.R.length := by omega
  have l3b : s.h.R.length ≤ s.h.L.length := by omega
  clear l3
  replace hc : Hold _ := ⟨hc⟩
  refine Fn_go Tryz.func101 ?_
  refine W_mv 4 2048 ?_
  refine W_go ?_
  refine W_lp (T := 10) (σ := Nat) (me := fun k => [(9, .int .i64 k)]) (mh := fun k => [(0, .c true (.av 1 [.sl 1 0 s.h.L.length, .sl 2 0 s.h.R.length, .sl 3 0 s.h.T.length, .sl 2048 0 (s.F ++ cells.take k).length])), (1, .c true (.ints (clrL s.h.L (cells.take k)))), (2, .c true (.ints (clrL s.h.R (cells.take k)))), (2048, .c true (.ints (s.F ++ cells.take k)))])
    (inv := fun k => k ≤ cells.length) (m := fun k => cells.length - k) (s0 := 0) (by omega) ?_ (hh := by simp [clrL_nil])
  rintro k hk
  refine W_go ?_
  refine W_if (fun h1 => ?_) (fun h1 => ?_)
  · have hkl : k < cells.length := by omega
    have hcr := hc.told _ (getD_mem hkl)
    have htk := take_succ_getD hkl
    have sL := clrL_step s.h.L (cells.take k) (cells.getD k 0) hcr.1
    have sR := clrL_step s.h.R (cells.take k) (cells.getD k 0) hcr.1
    rw [htk] at sL sR
    have l0 := clrL_len s.h.L (cells.take k)
    have r0 := clrL_len s.h.R (cells.take k)
    have oL := clr1 (clrL s.h.L (cells.take k)) (cells.getD k 0) (by omega)
    have oR := clr1 (clrL s.h.R (cells.take k)) (cells.getD k 0) (by omega)
    rw [sL, l0] at oL
    rw [sR, r0] at oR
    have htl : (s.F ++ cells.take (k + 1)).length = (s.F ++ cells.take k).length + 1 := by rw [← htk]; simp; omega
    have htl2 : (s.F ++ cells.take k).length ≤ 2097152 := by simp; omega
    have htF : s.F ++ cells.take (k + 1) = s.F ++ cells.take k ++ [cells.getD k 0] := by rw [← htk, List.append_assoc]
    have hF' : (s.F ++ cells.take k).length = s.F.length + k := by simp; omega
    clear sL sR
    generalize clrL s.h.L (cells.take k) = L' at *
    generalize clrL s.h.R (cells.take k) = R' at *
    generalize s.F ++ cells.take k = F' at *
    have l0a : s.h.L.length ≤ L'.length := by omega
    have r0a : s.h.R.length ≤ R'.length := by omega
    replace l0 : Hold _ := ⟨l0⟩
    replace r0 : Hold _ := ⟨r0⟩
    replace htk : Hold _ := ⟨htk⟩
    replace oL : Hold _ := ⟨oL⟩
    replace oR : Hold _ := ⟨oR⟩
    replace htF : Hold _ := ⟨htF⟩
    replace htl : Hold _ := ⟨htl⟩
    refine W_go ?_
    refine W_lp (T := 34) (σ := Nat) (me := fun j => [(33, .int .i64 j)]) (mh := fun j => [(1, .c true (.ints (preN (f1 L' (cells.getD k 0)) (L'.set (cells.getD k 0).toNat (-1)) j))), (2, .c true (.ints (preN (f1 R' (cells.getD k 0)) (R'.set (cells.getD k 0).toNat (-1)) j)))])
      (inv := fun j => j ≤ s.h.L.length) (m := fun j => s.h.L.length - j) (s0 := 0) (by omega) ?_ (hh := by rw [pre_zero, pre_zero])
    rintro j hj
    refine W_go ?_
    refine W_if (fun h2 => ?_) (fun h2 => ?_)
    · have ll := pre_len (f := f1 L' (cells.getD k 0)) (l := L'.set (cells.getD k 0).toNat (-1)) (i := j) (by simp; omega)
      have lr := pre_len (f := f1 R' (cells.getD k 0)) (l := R'.set (cells.getD k 0).toNat (-1)) (i := j) (by simp; omega)
      rw [List.length_set] at ll lr
      have lla : s.h.L.length ≤ (preN (f1 L' (cells.getD k 0)) (L'.set (cells.getD k 0).toNat (-1)) j).length := by omega
      have lra : s.h.R.length ≤ (preN (f1 R' (cells.getD k 0)) (R'.set (cells.getD k 0).toNat (-1)) j).length := by omega
      clear ll lr
      have jl : j < (L'.set (cells.getD k 0).toNat (-1)).length := by simp; omega
      have jr : j < (R'.set (cells.getD k 0).toNat (-1)).length := by simp; omega
      have gl := pre_get (f := f1 L' (cells.getD k 0)) jl
      have gr := pre_get (f := f1 R' (cells.getD k 0)) jr
      have sl := pre_set (f := f1 L' (cells.getD k 0)) jl
      have sr := pre_set (f := f1 R' (cells.getD k 0)) jr
      have kl := pre_skip (f := f1 L' (cells.getD k 0)) jl
      have kr := pre_skip (f := f1 R' (cells.getD k 0)) jr
      clear jl jr
      replace sl : Hold _ := ⟨sl⟩
      replace sr : Hold _ := ⟨sr⟩
      replace kl : Hold _ := ⟨kl⟩
      replace kr : Hold _ := ⟨kr⟩
      replace gl : Hold _ := ⟨gl⟩
      replace gr : Hold _ := ⟨gr⟩
      refine W_go ?_
      refine W_jn (σ := Unit) 34 (fun _ => [(6, .int .i64 j)]) (fun _ => [(1, .c true (.ints (preN (f1 L' (cells.getD k 0)) (L'.set (cells.getD k 0).toNat (-1)) (j + 1))))]) (fun _ => True) ?_ ?_
      · refine W_if (fun e => ?_) (fun e => ?_)
        · have hb := sl.told
          rw [show f1 L' (cells.getD k 0) j = -1 by rw [f1, if_pos (by rw [← gl.told]; exact e)]] at hb
          replace hb : Hold _ := ⟨hb⟩
          refine W_go ?_
          exact W_bj () trivial (hh := by rw [← hb.told])
        · have hb := kl.told (by rw [f1, if_neg (by rw [← gl.told]; exact e)])
          replace hb : Hold _ := ⟨hb⟩
          refine W_go ?_
          exact W_bj () trivial (hh := by rw [← hb.told])
      rintro _ _
      refine W_go ?_
      refine W_jn (σ := Unit) 34 (fun _ => []) (fun _ => [(2, .c true (.ints (preN (f1 R' (cells.getD k 0)) (R'.set (cells.getD k 0).toNat (-1)) (j + 1))))]) (fun _ => True) ?_ ?_
      · refine W_if (fun e => ?_) (fun e => ?_)
        · have hb := sr.told
          rw [show f1 R' (cells.getD k 0) j = -1 by rw [f1, if_pos (by rw [← gr.told]; exact e)]] at hb
          replace hb : Hold _ := ⟨hb⟩
          refine W_go ?_
          exact W_bj () trivial (hh := by rw [← hb.told])
        · have hb := kr.told (by rw [f1, if_neg (by rw [← gr.told]; exact e)])
          replace hb : Hold _ := ⟨hb⟩
          refine W_go ?_
          exact W_bj () trivial (hh := by rw [← hb.told])
      rintro _ _
      refine W_go ?_
      exact W_bk (j + 1) (by omega) (by omega)
    · have ej : j = s.h.L.length := by omega
      have ej2 : j = s.h.R.length := by omega
      rw [show preN (f1 L' (cells.getD k 0)) (L'.set (cells.getD k 0).toNat (-1)) j = clrL s.h.L (cells.take (k + 1)) by rw [ej]; exact oL.told]
      rw [show preN (f1 R' (cells.getD k 0)) (R'.set (cells.getD k 0).toNat (-1)) j = clrL s.h.R (cells.take (k + 1)) by rw [ej2]; exact oR.told]
      clear ej ej2
      refine W_go ?_
      refine W_rk 10 [(13368, (2048, 0))] ?_
      exact W_bh (k + 1) (by omega) (by omega) (by rw [htF.told, List.take_of_length_le (show F'.length ≤ s.F.length + k by omega)]; simp [hF'])
  · have ek : k = cells.length := by omega
    subst ek
    rw [List.take_length]
    refine W_go ?_
    refine W_re [(0, (0, 0)), (1, (1, 0)), (2, (2, 0)), (3, (3, 0)), (2048, (100, 0))] [] ?_
    exact ⟨rfl, by simp⟩
end Go.Proofs.YtnepiffboakehaaGreatDoor.S
