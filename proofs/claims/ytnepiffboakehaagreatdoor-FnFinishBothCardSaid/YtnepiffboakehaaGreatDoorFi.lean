/- Contracts: the given program, reach and garbage. Own work of this claim. -/
import Derived.Test.YtnepiffboakehaaGreatDoorFh
namespace Go.Proofs.YtnepiffboakehaaGreatDoor.S
set_option linter.all false
open Go Go.Proofs
set_option maxHeartbeats 4000000
set_option maxRecDepth 100000
set_option linter.unusedVariables false

theorem imeet_c (D Q : List Int) (p far : Int) (hp : p = -1 ∨ 0 ≤ p ∧ p < D.length) (hl : D.length ≤ 4194304 ∧ Q.length ≤ 4194304) :
    Fn Tryz.prog 135 [(0, .c true (.av 1 [.sl 1 0 D.length])), (1, .c true (.ints D)), (2, .c true (.av 1 [.sl 3 0 Q.length])), (3, .c true (.ints Q))] [.int .i64 p, .int .i64 far, .ptr 0 0, .ptr 2 0]
      (fun r H => r = .tup [] ∧ H = [(0, .c true (.av 1 [.sl 1 0 D.length])), (1, .c true (.ints (meetD D p far))), (2, .c true (.av 1 [.sl 100 0 (meetQ D Q p).length])), (100, .c true (.ints (meetQ D Q p)))]) := by
  refine Fn_go Tryz.func135 ?_
  by_cases p1 : p = -1
  · have e1 : meetD D p far = D := by rw [meetD, if_neg (fun q => q.1 p1)]
    have e2 : meetQ D Q p = Q := by rw [meetQ, if_neg (fun q => q.1 p1)]
    replace e1 : Hold _ := ⟨e1⟩
    replace e2 : Hold _ := ⟨e2⟩
    refine W_gh ?_
    refine W_iff ?_
    refine W_gh ?_
    refine W_re [(0, (0, 0)), (1, (1, 0)), (2, (2, 0)), (3, (100, 0))] [] ?_
    rw [e1.told, e2.told]
    exact ⟨rfl, rfl⟩
  · have hp' : 0 ≤ p ∧ p < D.length := by omega
    refine W_gh ?_
    refine W_if (fun h2 => ?_) (fun h2 => ?_)
    · have e1 : meetD D p far = D.set p.toNat far := by rw [meetD, if_pos ⟨p1, h2⟩]
      have e2 : meetQ D Q p = Q ++ [p] := by rw [meetQ, if_pos ⟨p1, h2⟩]
      replace e1 : Hold _ := ⟨e1⟩
      replace e2 : Hold _ := ⟨e2⟩
      refine W_go ?_
      refine W_re [(0, (0, 0)), (1, (1, 0)), (2, (2, 0)), (3096, (100, 0))] [] ?_
      rw [e1.told, e2.told]
      exact ⟨rfl, by simp⟩
    · have e1 : meetD D p far = D := by rw [meetD, if_neg (fun q => h2 q.2)]
      have e2 : meetQ D Q p = Q := by rw [meetQ, if_neg (fun q => h2 q.2)]
      replace e1 : Hold _ := ⟨e1⟩
      replace e2 : Hold _ := ⟨e2⟩
      refine W_go ?_
      refine W_re [(0, (0, 0)), (1, (1, 0)), (2, (2, 0)), (3, (100, 0))] [] ?_
      rw [e1.told, e2.told]
      exact ⟨rfl, rfl⟩
theorem imeet_n (n : Nat) (D Q : List Int) (p far : Int) (hn : D.length = n) (hp : p = -1 ∨ 0 ≤ p ∧ p < n) (hl : n ≤ 4194304 ∧ Q.length ≤ 4194304) :
    Fn Tryz.prog 135 [(0, .c true (.av 1 [.sl 1 0 n])), (1, .c true (.ints D)), (2, .c true (.av 1 [.sl 3 0 Q.length])), (3, .c true (.ints Q))] [.int .i64 p, .int .i64 far, .ptr 0 0, .ptr 2 0]
      (fun r H => r = .tup [] ∧ H = [(0, .c true (.av 1 [.sl 1 0 n])), (1, .c true (.ints (meetD D p far))), (2, .c true (.av 1 [.sl 100 0 (meetQ D Q p).length])), (100, .c true (.ints (meetQ D Q p)))]) := by
  subst hn; exact imeet_c D Q p far hp hl
theorem idistances_c (h : Hp) (ho : h.ok) : Fn Tryz.prog 96 [(0, .c false (.ints h.L)), (1, .c false (.ints h.R)), (2, .c false (.ints h.T))] [.agg [.sl 0 0 h.L.length, .sl 1 0 h.R.length, .sl 2 0 h.T.length]] (fun r H => ∃ D : List Int, (D.length = h.L.length ∧ ∀ c, c < h.L.length → (0 < D.getD c 0 ↔ Reach h c)) ∧ r = .sl 100 0 h.L.length ∧ H = [(100, .c true (.ints D))]) := by
  have l1 : h.L.length ≤ 8 := ho.1.2.1
  have l2 : h.T.length ≤ 3 := ho.1.2.2.2.2
  have l3 : h.L.length ≤ h.R.length := by have := ho.1.2.2.1; omega
  have ho' := ho
  replace ho : Hold _ := ⟨ho⟩
  refine Fn_go Tryz.func96 ?_
  refine W_go ?_
  refine W_fg [12, 13] ?_
  refine W_lp (T := 19) (σ := Nat × List Int × List Int) (me := fun s => [(18, .int .i64 s.1)]) (mh := fun s => [(2072, .c true (.ints s.2.1)), (3072, .c true (.ints s.2.2)), (3080, .c true (.av 1 [.sl 3072 0 s.2.2.length]))])
    (inv := fun s => s.1 ≤ h.T.length ∧ Hold (Bfs2 h s.2.1 s.2.2 s.1 0)) (m := fun s => h.T.length - s.1) (s0 := (0, List.replicate h.L.length 0, [])) ⟨by simp, ⟨bfs_start h⟩⟩ ?_
  rintro ⟨k, D, Q⟩ ⟨hk, ⟨hB⟩⟩
  dsimp only at hk hB ⊢
  have hQ := hB.b.le
  refine W_go ?_
  refine W_if (fun h1 => ?_) (fun h1 => ?_)
  · refine W_go ?_
    have hkl : k < h.T.length := by omega
    have hb2 := hB.root ho' hkl
    have hm := imeet_n h.L.length D Q (h.T.getD k 0) 1 hB.b.len (okP_get ho'.2.2.2 hkl) (by omega)
    replace hB : Hold _ := ⟨hB⟩
    replace hb2 : Hold _ := ⟨hb2⟩
    refine W_c1 [(0, (2080, 0)), (1, (2072, 0)), (2, (3080, 0)), (3, (3072, 0))] hm ?_
    refine W_go ?_
    refine W_rk 19 [(1024, (1024, 0)), (2072, (2072, 0)), (2080, (2080, 0)), (8208, (3072, 0)), (3080, (3080, 0))] ?_
    exact W_bh (k + 1, _, _) ⟨by dsimp only; omega, hb2⟩ (by dsimp only; omega) rfl
  refine W_go ?_
  have ek : k = h.T.length := by omega
  subst ek
  refine W_lp (T := 9) (σ := Nat × List Int × List Int) (me := fun s => [(8, .int .i64 s.1)]) (mh := fun s => [(2072, .c true (.ints s.2.1)), (3072, .c true (.ints s.2.2)), (3080, .c true (.av 1 [.sl 3072 0 s.2.2.length]))])
    (inv := fun s => s.1 ≤ s.2.2.length ∧ Hold (Bfs2 h s.2.1 s.2.2 h.T.length s.1)) (m := fun s => h.L.length - s.1) (s0 := (0, D, Q)) ⟨by simp, ⟨hB⟩⟩ ?_
  clear hB hQ h1 hk
  clear D Q
  rintro ⟨i, D, Q⟩ ⟨hi, ⟨hB⟩⟩
  dsimp only at hi hB ⊢
  have hQ := hB.b.le
  refine W_go ?_
  refine W_if (fun h1 => ?_) (fun h1 => ?_)
  · have hil : i < Q.length := by omega
    have hc := hB.b.inn _ (getD_mem hil)
    have hc1 := hc.1
    have hc2 := hc.2.1
    obtain ⟨b1, b2, b3, b4⟩ := hB.st ho' hil (k := 0) (by omega)
    obtain ⟨d1, d2, d3, d4⟩ := hB.st ho' hil (k := 1) (by omega)
    have htw : Bfs2 h (meetD (stD h D (Q.getD i 0).toNat 1) (h.R.getD (Q.getD i 0).toNat 0) ((stD h D (Q.getD i 0).toNat 1).getD (Q.getD i 0).toNat 0 + 1)) (meetQ (stD h D (Q.getD i 0).toNat 1) (stQ h D Q (Q.getD i 0).toNat 1) (h.R.getD (Q.getD i 0).toNat 0)) h.T.length (i + 1) ∧
      i < (meetQ (stD h D (Q.getD i 0).toNat 1) (stQ h D Q (Q.getD i 0).toNat 1) (h.R.getD (Q.getD i 0).toNat 0)).length := hB.two ho' hil
    have hcf := b1.far (Q.getD i 0).toNat (by omega)
    have hdf := d1.far (Q.getD i 0).toNat (by omega)
    have hq1 := d1.le
    have hDl : D.length = h.L.length := hB.b.len
    have hDa : h.L.length ≤ D.length := by omega
    have hDb : h.L.length ≤ (stD h D (Q.getD i 0).toNat 1).length := by rw [d1.len]; exact Nat.le_refl _
    have hiq : i < (stQ h D Q (Q.getD i 0).toNat 1).length := Nat.lt_of_lt_of_le hil (meetQ_getD D Q (nx h (Q.getD i 0).toNat 0) hil).2
    have hm0 := imeet_n h.L.length D Q (h.L.getD (Q.getD i 0).toNat 0) (D.getD (Q.getD i 0).toNat 0 + 1) hB.b.len b3 (by omega)
    have hm1 := imeet_n h.L.length (stD h D (Q.getD i 0).toNat 1) (stQ h D Q (Q.getD i 0).toNat 1) (h.R.getD (Q.getD i 0).toNat 0) ((stD h D (Q.getD i 0).toNat 1).getD (Q.getD i 0).toNat 0 + 1) d1.len d3 (by omega)
    have hf : 0 ≤ D.getD (Q.getD i 0).toNat 0 ∧ D.getD (Q.getD i 0).toNat 0 ≤ Q.length := hcf
    clear hc hcf hDl
    replace hB : Hold _ := ⟨hB⟩
    replace b1 : Hold _ := ⟨b1⟩
    replace b2 : Hold _ := ⟨b2⟩
    replace b3 : Hold _ := ⟨b3⟩
    replace b4 : Hold _ := ⟨b4⟩
    replace d1 : Hold _ := ⟨d1⟩
    replace d2 : Hold _ := ⟨d2⟩
    replace d3 : Hold _ := ⟨d3⟩
    replace d4 : Hold _ := ⟨d4⟩
    replace htw : Hold _ := ⟨htw⟩
    refine W_go ?_
    refine W_dc1 [(0, (2080, 0)), (1, (2072, 0)), (2, (3080, 0)), (3, (3072, 0))] hm0 [.c _ _ _] ?_
    rw [show meetD D (h.L.getD (Q.getD i 0).toNat 0) (D.getD (Q.getD i 0).toNat 0 + 1) = stD h D (Q.getD i 0).toNat 1 from rfl, show meetQ D Q (h.L.getD (Q.getD i 0).toNat 0) = stQ h D Q (Q.getD i 0).toNat 1 from rfl]
    generalize stD h D (Q.getD i 0).toNat 1 = D1 at *
    generalize stQ h D Q (Q.getD i 0).toNat 1 = Q1 at *
    have e4 := d4.told
    rw [← e4] at hm1 hc1 hc2 hdf
    replace htw := htw.told
    rw [← e4] at htw
    replace htw : Hold _ := ⟨htw⟩
    replace e4 : Hold _ := ⟨e4⟩
    refine W_go ?_
    refine W_dc1 [(0, (2080, 0)), (1, (2072, 0)), (2, (3080, 0)), (3, (13448, 0))] hm1 [.c _ _ _] ?_
    refine W_go ?_
    refine W_rk 9 [(1024, (1024, 0)), (2072, (2072, 0)), (2080, (2080, 0)), (14472, (3072, 0)), (3080, (3080, 0))] ?_
    exact W_bh (i + 1, _, _) ⟨Nat.succ_le_of_lt htw.told.2, ⟨htw.told.1⟩⟩ (by dsimp only; omega) rfl
  · refine W_go ?_
    have ei : i = Q.length := by omega
    subst ei
    refine W_rt [(2072, (100, 0))] [] ?_
    exact ⟨D, ⟨hB.b.len, hB.done ho'⟩, rfl, rfl⟩
theorem reach_nil' {h : Hp} (g : h.valid = false) : h.reach = [] := by rw [Hp.reach, if_neg (by rw [g]; exact Bool.false_ne_true)]
theorem reach_le' (h : Hp) : h.reach.length ≤ 8 := by
  rw [reach_len]; split
  · rename_i g; exact ((Hp.ok_iff _).1 g).1.2.1
  · omega
theorem garb_le' (h : Hp) : h.garb.length ≤ 8 := Nat.le_trans (flsN_len _ _) (reach_le' h)
theorem iReachable_c (h : Hp) (hl : h.L.length ≤ 4194304 ∧ h.R.length ≤ 4194304 ∧ h.T.length ≤ 4194304) : Fn Tryz.prog 51 [(0, .c false (.ints h.L)), (1, .c false (.ints h.R)), (2, .c false (.ints h.T))] [.agg [.sl 0 0 h.L.length, .sl 1 0 h.R.length, .sl 2 0 h.T.length]] (fun r H => r = .sl 100 0 h.reach.length ∧ H = [(100, .c true (.bools h.reach))]) := by
  have hv := iHeapValid_c h hl
  refine Fn_go Tryz.func51 ?_
  refine W_go ?_
  by_cases g1 : h.valid = true
  case neg =>
    have g1 : h.valid = false := by simpa using g1
    rw [g1] at hv
    refine W_c1 [(0, (0, 0)), (1, (1, 0)), (2, (2, 0))] hv ?_
    refine W_ift ?_
    refine W_go ?_
    refine W_rt [] [(100, .bools [])] ?_
    rw [reach_nil' g1]
    exact ⟨rfl, rfl⟩
  rw [g1] at hv
  refine W_c1 [(0, (0, 0)), (1, (1, 0)), (2, (2, 0))] hv ?_
  refine W_iff ?_
  refine W_go ?_
  have ho := (Hp.ok_iff _).1 g1
  have hd := idistances_c h ho
  have l1 : h.L.length ≤ 8 := ho.1.2.1
  replace ho : Hold _ := ⟨ho⟩
  refine W_ce [(0, (0, 0)), (1, (1, 0)), (2, (2, 0))] hd ?_
  rintro D ⟨hD, hR⟩
  replace hR : Hold _ := ⟨hR⟩
  have hDa : h.L.length ≤ D.length := by omega
  clear hD
  refine W_go ?_
  refine W_fg [9] ?_
  refine W_lp (T := 14) (σ := Nat) (me := fun i => [(3, .sl 4096 0 i), (13, .int .i64 i)]) (mh := fun i => [(4096, .c true (.bools (posN D i)))]) (inv := fun i => i ≤ h.L.length) (m := fun i => h.L.length - i) (s0 := 0) (by omega) ?_
  rintro i hi
  have hpl := posN_len D i
  refine W_go ?_
  refine W_if (fun h1 => ?_) (fun h1 => ?_)
  · refine W_go ?_
    refine W_rk 14 [(1024, (1024, 0)), (8224, (4096, 0)), (5128, (5128, 0))] ?_
    exact W_bh (i + 1) (by omega) (by omega) (by rw [posN_succ, List.take_of_length_le (by omega)])
  · refine W_go ?_
    refine W_rt [(4096, (100, 0))] [] ?_
    have e : i = h.L.length := by omega
    subst e
    rw [← reach_of g1 hR.told, hpl]
    exact ⟨rfl, rfl⟩
theorem iGarbageOf_c (h : Hp) (hl : h.L.length ≤ 4194304 ∧ h.R.length ≤ 4194304 ∧ h.T.length ≤ 4194304) : Fn Tryz.prog 54 [(0, .c false (.ints h.L)), (1, .c false (.ints h.R)), (2, .c false (.ints h.T))] [.agg [.sl 0 0 h.L.length, .sl 1 0 h.R.length, .sl 2 0 h.T.length]] (fun r H => r = .sl 100 0 h.garb.length ∧ H = [(100, .c true (.ints h.garb))]) := by
  have hr := iReachable_c h hl
  have hb := reach_le' h
  refine Fn_go Tryz.func54 ?_
  refine W_go ?_
  refine W_c1 [(0, (0, 0)), (1, (1, 0)), (2, (2, 0))] hr ?_
  refine W_go ?_
  refine W_fg [6] ?_
  refine W_lp (T := 11) (σ := Nat) (me := fun i => [(3, .sl 2048 0 (flsN h.reach i).length), (10, .int .i64 i)]) (mh := fun i => [(2048, .c true (.ints (flsN h.reach i)))]) (inv := fun i => i ≤ h.reach.length) (m := fun i => h.reach.length - i) (s0 := 0) (by omega) ?_
  rintro i hi
  have hfl := flsN_len h.reach i
  refine W_go ?_
  refine W_if (fun h1 => ?_) (fun h1 => ?_)
  · refine W_go ?_
    refine W_ifb (fun h2 => ?_) (fun h2 => ?_)
    · have h3 : ¬ h.reach.getD i false = true := by simpa using h2
      have e : flsN h.reach (i + 1) = flsN h.reach i ++ [(i : Int)] := by rw [flsN, if_neg h3]
      have e2 : (flsN h.reach (i + 1)).length = (flsN h.reach i).length + 1 := by rw [e]; simp
      clear h2 h3
      replace e : Hold _ := ⟨e⟩
      refine W_go ?_
      refine W_rk 11 [(1024, (1024, 0)), (7192, (2048, 0)), (3080, (3080, 0))] ?_
      exact W_bh (i + 1) (by omega) (by omega) (by rw [e.told])
    · have h3 : h.reach.getD i false = true := by simpa using h2
      have e : flsN h.reach (i + 1) = flsN h.reach i := by rw [flsN, if_pos h3]
      have e2 : (flsN h.reach (i + 1)).length = (flsN h.reach i).length := by rw [e]
      clear h2 h3
      replace e : Hold _ := ⟨e⟩
      refine W_go ?_
      exact W_bh (i + 1) (by omega) (by omega) (by rw [e.told])
  · refine W_go ?_
    refine W_rt [(2048, (100, 0))] [] ?_
    have e : i = h.reach.length := by omega
    subst e
    exact ⟨rfl, rfl⟩
theorem lost_nil' {s : Sto} (g : s.valid = false) : s.lost = [] := by rw [Sto.lost, if_neg (by rw [g]; exact Bool.false_ne_true)]
theorem iLeakedOf_c (s : Sto) (hl : (s.h.L.length ≤ 4194304 ∧ s.h.R.length ≤ 4194304 ∧ s.h.T.length ≤ 4194304) ∧ s.F.length ≤ 4194304) : Fn Tryz.prog 23 [(0, .c false (.ints s.h.L)), (1, .c false (.ints s.h.R)), (2, .c false (.ints s.h.T)), (3, .c false (.ints s.F))] [.agg [.sl 0 0 s.h.L.length, .sl 1 0 s.h.R.length, .sl 2 0 s.h.T.length, .sl 3 0 s.F.length]] (fun r H => r = .sl 100 0 s.lost.length ∧ H = [(100, .c true (.ints s.lost))]) := by
  have hv := iStoreValid_c s hl
  have hg := iGarbageOf_c s.h hl.1
  have hb := garb_le' s.h
  refine Fn_go Tryz.func23 ?_
  refine W_go ?_
  by_cases g1 : s.valid = true
  case neg =>
    have g1 : s.valid = false := by simpa using g1
    rw [g1] at hv
    refine W_c1 [(0, (0, 0)), (1, (1, 0)), (2, (2, 0)), (3, (3, 0))] hv ?_
    refine W_ift ?_
    refine W_go ?_
    refine W_rt [] [(100, .ints [])] ?_
    rw [lost_nil' g1]
    exact ⟨rfl, rfl⟩
  rw [g1] at hv
  refine W_c1 [(0, (0, 0)), (1, (1, 0)), (2, (2, 0)), (3, (3, 0))] hv ?_
  refine W_iff ?_
  refine W_go ?_
  refine W_c1 [(0, (0, 0)), (1, (1, 0)), (2, (2, 0))] hg ?_
  refine W_go ?_
  refine W_fg [9] ?_
  refine W_lp (T := 15) (σ := Nat) (me := fun i => [(3, .sl 4096 0 (lkN s.h.garb s.F i).length), (14, .int .i64 i)]) (mh := fun i => [(4096, .c true (.ints (lkN s.h.garb s.F i)))]) (inv := fun i => i ≤ s.h.garb.length) (m := fun i => s.h.garb.length - i) (s0 := 0) (by omega) ?_
  rintro i hi
  have hfl := lkN_len s.h.garb s.F i
  refine W_go ?_
  refine W_if (fun h1 => ?_) (fun h1 => ?_)
  · refine W_go ?_
    refine W_c1 [(0, (3, 0))] (zContains_c s.F (s.h.garb.getD i 0) (by omega)) ?_
    refine W_if (fun h2 => ?_) (fun h2 => ?_)
    · have e : lkN s.h.garb s.F (i + 1) = lkN s.h.garb s.F i ++ [s.h.garb.getD i 0] := by rw [lkN, if_neg h2]
      have e2 : (lkN s.h.garb s.F (i + 1)).length = (lkN s.h.garb s.F i).length + 1 := by rw [e]; simp
      clear h2
      replace e : Hold _ := ⟨e⟩
      refine W_go ?_
      refine W_rk 15 [(1024, (1024, 0)), (9240, (4096, 0)), (5136, (5136, 0))] ?_
      exact W_bh (i + 1) (by omega) (by omega) (by rw [e.told])
    · have e : lkN s.h.garb s.F (i + 1) = lkN s.h.garb s.F i := by rw [lkN, if_pos (Decidable.not_not.1 h2)]
      have e2 : (lkN s.h.garb s.F (i + 1)).length = (lkN s.h.garb s.F i).length := by rw [e]
      clear h2
      replace e : Hold _ := ⟨e⟩
      refine W_go ?_
      exact W_bh (i + 1) (by omega) (by omega) (by rw [e.told])
  · refine W_go ?_
    refine W_rt [(4096, (100, 0))] [] ?_
    have e : i = s.h.garb.length := by omega
    subst e
    rw [Sto.lost, if_pos g1]
    exact ⟨rfl, rfl⟩
end Go.Proofs.YtnepiffboakehaaGreatDoor.S
