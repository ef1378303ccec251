/- Contracts: the given program's reference, reach. Own work of this claim. -/
import Derived.Test.YtnepiffboakehaaGreatDoorFc
namespace Go.Proofs.YtnepiffboakehaaGreatDoor.S
set_option linter.all false
open Go Go.Proofs
set_option maxHeartbeats 4000000
set_option maxRecDepth 100000
set_option linter.unusedVariables false

theorem sl2Distances_c (h : Hp) (ho : h.ok) : Fn Tryz.prog 149 [(0, .c false (.ints h.L)), (1, .c false (.ints h.R)), (2, .c false (.ints h.T))] [.agg [.sl 0 0 h.L.length, .sl 1 0 h.R.length, .sl 2 0 h.T.length], .sl 2 0 h.T.length] (fun r H => ∃ D : List Int, (D.length = h.L.length ∧ ∀ c, c < h.L.length → (0 < D.getD c 0 ↔ Reach h c)) ∧ r = .sl 100 0 h.L.length ∧ H = [(100, .c true (.ints D))]) := by
  have l1 : h.L.length ≤ 8 := ho.1.2.1
  have l2 : h.T.length ≤ 3 := ho.1.2.2.2.2
  have l3 : h.L.length ≤ h.R.length := by have := ho.1.2.2.1; omega
  have ho' := ho
  replace ho : Hold _ := ⟨ho⟩
  refine Fn_go Tryz.func149 ?_
  refine W_go ?_
  refine W_c1 [] (sl1Many_c h.L.length (by omega)) ?_
  refine W_go ?_
  refine W_lp (T := 8) (σ := Nat × List Int × List Int) (me := fun s => [(6, .sl 3072 0 s.2.2.length), (7, .int .i64 s.1)]) (mh := fun s => [(2072, .c true (.ints (l2L s.2.1))), (3072, .c true (.ints s.2.2))])
    (inv := fun s => s.1 ≤ h.T.length ∧ Hold (Bfs2 h s.2.1 s.2.2 s.1 0)) (m := fun s => h.T.length - s.1) (s0 := (0, List.replicate h.L.length 0, [])) ⟨by simp, ⟨bfs_start h⟩⟩ ?_ (hh := by dsimp only; rw [l2L_rep])
  rintro ⟨k, D, Q⟩ ⟨hk, ⟨hB⟩⟩
  dsimp only at hk hB ⊢
  have hlen : (l2L D).length = h.L.length := by rw [l2L_len, hB.b.len]
  have hQ := hB.b.le
  refine W_go ?_
  refine W_if (fun h1 => ?_) (fun h1 => ?_)
  · refine W_go ?_
    have hkl : k < h.T.length := by omega
    have hb2 := hB.root ho' hkl
    have hp := okP_get ho'.2.2.2 hkl
    have hget : 0 ≤ h.T.getD k 0 → (l2L D).getD (h.T.getD k 0).toNat 0 = if D.getD (h.T.getD k 0).toNat 0 = 0 then -1 else D.getD (h.T.getD k 0).toNat 0 := fun q => l2L_getD (by rw [hB.b.len]; omega)
    have hfar : 0 ≤ h.T.getD k 0 → 0 ≤ D.getD (h.T.getD k 0).toNat 0 := fun q => (hB.b.far _ (by omega)).1
    replace hB : Hold _ := ⟨hB⟩
    replace hb2 : Hold _ := ⟨hb2⟩
    replace hget : Hold _ := ⟨hget⟩
    replace hfar : Hold _ := ⟨hfar⟩
    by_cases p1 : h.T.getD k 0 = -1
    · refine W_go ?_
      refine W_iff ?_
      refine W_go ?_
      have e1 : meetD D (h.T.getD k 0) 1 = D := by rw [meetD, if_neg (fun q => q.1 p1)]
      have e2 : meetQ D Q (h.T.getD k 0) = Q := by rw [meetQ, if_neg (fun q => q.1 p1)]
      rw [e1, e2] at hb2
      exact W_bh (k + 1, D, Q) ⟨by dsimp only; omega, hb2⟩ (by dsimp only; omega) rfl
    · refine W_go ?_
      have hp' : 0 ≤ h.T.getD k 0 := by omega
      refine W_if (fun h2 => ?_) (fun h2 => ?_)
      · refine W_go ?_
        refine W_rk 8 [(1024, (1024, 0)), (2072, (2072, 0)), (9264, (3072, 0))] ?_
        have h3 : D.getD (h.T.getD k 0).toNat 0 = 0 := by
          have := hget.told hp'
          split at this
          · assumption
          · have := hfar.told hp'; omega
        have e1 : meetD D (h.T.getD k 0) 1 = D.set (h.T.getD k 0).toNat 1 := by rw [meetD, if_pos ⟨p1, h3⟩]
        have e2 : meetQ D Q (h.T.getD k 0) = Q ++ [h.T.getD k 0] := by rw [meetQ, if_pos ⟨p1, h3⟩]
        rw [e1, e2] at hb2
        exact W_bh (k + 1, _, _) ⟨by dsimp only; omega, hb2⟩ (by dsimp only; omega) (by rw [l2L_set (by omega)])
      · refine W_go ?_
        have h3 : ¬ D.getD (h.T.getD k 0).toNat 0 = 0 := by
          have := hget.told hp'
          split at this
          · omega
          · assumption
        have e1 : meetD D (h.T.getD k 0) 1 = D := by rw [meetD, if_neg (fun q => h3 q.2)]
        have e2 : meetQ D Q (h.T.getD k 0) = Q := by rw [meetQ, if_neg (fun q => h3 q.2)]
        rw [e1, e2] at hb2
        exact W_bh (k + 1, D, Q) ⟨by dsimp only; omega, hb2⟩ (by dsimp only; omega) rfl
  refine W_go ?_
  have ek : k = h.T.length := by omega
  subst ek
  refine W_lp (T := 9) (σ := Nat × List Int × List Int) (me := fun s => [(6, .sl 3072 0 s.2.2.length), (8, .int .i64 s.1)]) (mh := fun s => [(2072, .c true (.ints (l2L s.2.1))), (3072, .c true (.ints s.2.2))])
    (inv := fun s => s.1 ≤ s.2.2.length ∧ Hold (Bfs2 h s.2.1 s.2.2 h.T.length s.1)) (m := fun s => h.L.length - s.1) (s0 := (0, D, Q)) ⟨by simp, ⟨hB⟩⟩ ?_
  clear hB hQ hlen h1 hk
  clear D Q
  rintro ⟨i, D, Q⟩ ⟨hi, ⟨hB⟩⟩
  dsimp only at hi hB ⊢
  have hQ := hB.b.le
  refine W_go ?_
  refine W_if (fun h1 => ?_) (fun h1 => ?_)
  · have hil : i < Q.length := by omega
    have hc := hB.b.inn _ (getD_mem hil)
    have hc1 := hc.1
    have hc2 := hc.2.1
    have hst := @Bfs2.st h ho' D Q i hB hil
    have htw := hB.two ho' hil
    clear hc
    replace hB : Hold _ := ⟨hB⟩
    replace hst : Hold _ := ⟨@hst⟩
    replace htw : Hold _ := ⟨htw⟩
    refine W_go ?_
    refine W_lp (T := 12) (σ := Nat) (me := fun k => [(6, .sl 3072 0 (stQ h D Q (Q.getD i 0).toNat k).length), (11, .int .i64 k)]) (mh := fun k => [(2072, .c true (.ints (l2L (stD h D (Q.getD i 0).toNat k)))), (3072, .c true (.ints (stQ h D Q (Q.getD i 0).toNat k)))])
      (inv := fun k => k ≤ 2) (m := fun k => 2 - k) (s0 := 0) (by omega) ?_
    rintro k hk
    refine W_go ?_
    refine W_if (fun h2 => ?_) (fun h2 => ?_)
    · have hk2 : k < 2 := by omega
      obtain ⟨b1, b2, b3, b4⟩ := hst.told hk2
      have hlen : (l2L (stD h D (Q.getD i 0).toNat k)).length = h.L.length := by rw [l2L_len, b1.len]
      have hq2 := b1.le
      have hcv : (l2L (stD h D (Q.getD i 0).toNat k)).getD (Q.getD i 0).toNat 0 = (stD h D (Q.getD i 0).toNat k).getD (Q.getD i 0).toNat 0 := by
        rw [l2L_getD (by rw [b1.len]; omega), if_neg (by omega)]
      have hcf := b1.far (Q.getD i 0).toNat (by omega)
      have hget : 0 ≤ nx h (Q.getD i 0).toNat k → (l2L (stD h D (Q.getD i 0).toNat k)).getD (nx h (Q.getD i 0).toNat k).toNat 0 = if (stD h D (Q.getD i 0).toNat k).getD (nx h (Q.getD i 0).toNat k).toNat 0 = 0 then -1 else (stD h D (Q.getD i 0).toNat k).getD (nx h (Q.getD i 0).toNat k).toNat 0 := fun q => l2L_getD (by rw [b1.len]; omega)
      have hfar : 0 ≤ nx h (Q.getD i 0).toNat k → 0 ≤ (stD h D (Q.getD i 0).toNat k).getD (nx h (Q.getD i 0).toNat k).toNat 0 := fun q => (b1.far _ (by omega)).1
      have hnx : [h.L.getD (Q.getD i 0).toNat 0, h.R.getD (Q.getD i 0).toNat 0].getD k 0 = nx h (Q.getD i 0).toNat k := rfl
      have es : stD h D (Q.getD i 0).toNat (k + 1) = meetD (stD h D (Q.getD i 0).toNat k) (nx h (Q.getD i 0).toNat k) ((stD h D (Q.getD i 0).toNat k).getD (Q.getD i 0).toNat 0 + 1) := rfl
      have et : stQ h D Q (Q.getD i 0).toNat (k + 1) = meetQ (stD h D (Q.getD i 0).toNat k) (stQ h D Q (Q.getD i 0).toNat k) (nx h (Q.getD i 0).toNat k) := rfl
      replace hget : Hold _ := ⟨hget⟩
      replace hfar : Hold _ := ⟨hfar⟩
      replace es : Hold _ := ⟨es⟩
      replace et : Hold _ := ⟨et⟩
      replace b1 : Hold _ := ⟨b1⟩
      replace b4 : Hold _ := ⟨b4⟩
      generalize stD h D (Q.getD i 0).toNat k = D' at *
      generalize stQ h D Q (Q.getD i 0).toNat k = Q' at *
      generalize nx h (Q.getD i 0).toNat k = p at *
      by_cases p1 : p = -1
      · refine W_go ?_
        refine W_iff ?_
        refine W_go ?_
        have es := es.told
        have et := et.told
        rw [meetD, if_neg (fun q => q.1 p1)] at es
        rw [meetQ, if_neg (fun q => q.1 p1)] at et
        have et2 := congrArg List.length et
        exact W_bh (k + 1) (by omega) (by omega) (by rw [es, et])
      · refine W_go ?_
        have hp' : 0 ≤ p := by omega
        refine W_if (fun h3 => ?_) (fun h3 => ?_)
        · refine W_go ?_
          refine W_rk 12 [(1024, (1024, 0)), (2072, (2072, 0)), (20528, (3072, 0)), (14416, (14416, 0))] ?_
          have h4 : D'.getD p.toNat 0 = 0 := by
            have := hget.told hp'
            split at this
            · assumption
            · have := hfar.told hp'; omega
          have es := es.told
          have et := et.told
          rw [meetD, if_pos ⟨p1, h4⟩] at es
          rw [meetQ, if_pos ⟨p1, h4⟩] at et
          have et2 := congrArg List.length et
          rw [List.length_append] at et2
          simp only [List.length_cons, List.length_nil] at et2
          exact W_bh (k + 1) (by omega) (by omega) (by rw [hnx, es, et, l2L_set (by omega), hcv])
        · refine W_go ?_
          have h4 : ¬ D'.getD p.toNat 0 = 0 := by
            have := hget.told hp'
            split at this
            · omega
            · assumption
          have es := es.told
          have et := et.told
          rw [meetD, if_neg (fun q => h4 q.2)] at es
          rw [meetQ, if_neg (fun q => h4 q.2)] at et
          have et2 := congrArg List.length et
          exact W_bh (k + 1) (by omega) (by omega) (by rw [es, et])
    · refine W_go ?_
      have ek : k = 2 := by omega
      subst ek
      refine W_rk 9 [(1024, (1024, 0)), (2072, (2072, 0)), (3072, (3072, 0))] ?_
      obtain ⟨t1, t2⟩ := htw.told
      exact W_bh (i + 1, _, _) ⟨Nat.succ_le_of_lt t2, ⟨t1⟩⟩ (by dsimp only; omega) rfl
  · refine W_go ?_
    have ei : i = Q.length := by omega
    subst ei
    refine W_rt [(2072, (100, 0))] [] ?_
    have hd := hB.done ho'
    refine ⟨l2L D, ⟨by rw [l2L_len, hB.b.len], fun c hc => ?_⟩, rfl, rfl⟩
    rw [l2L_pos (by rw [hB.b.len]; exact hc)]
    exact hd c hc
end Go.Proofs.YtnepiffboakehaaGreatDoor.S
