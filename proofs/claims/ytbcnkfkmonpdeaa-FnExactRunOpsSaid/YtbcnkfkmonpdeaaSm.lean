/- The symbolic heap: a call by its contract is sound. Own work of this claim. -/
import Derived.Test.YtbcnkfkmonpdeaaSl
namespace Go.Proofs.Ytbcnkfkmonpdeaa.S
set_option linter.all false
open Go

theorem callA_ok (P : Program) : CallOk P (callA P) := by
  intro g args H nm K h G hp ν w vs hi hF
  obtain ⟨H0, args0, R, μ, hfn, hfit, rfl, hm, hap, hfr, hdom, hnd0, h100, hK⟩ := h
  refine ⟨hfn.enters _ _, ?_⟩
  have hdom' : ∀ i p, aget μ i = some p → ∃ e, aget H0 i = some e := by
    intro i p hip
    have := List.all_eq_true.1 hdom _ (mem_of_aget hip)
    exact Option.isSome_iff_exists.1 this
  obtain ⟨ν0, hν0d⟩ : ∃ ν0 : Nm, ν0 = fun i => match aget μ i with | some (j, o) => (ν j).map (shiftL · o) | none => none := ⟨_, rfl⟩
  have hν0 : ∀ i j o L, aget μ i = some (j, o) → ν j = some L → ν0 i = some (shiftL L o) := by
    intro i j o L h1 h2; rw [hν0d]; simp [h1, h2]
  have hν0' : ∀ i L0, ν0 i = some L0 → ∃ j o L, aget μ i = some (j, o) ∧ ν j = some L ∧ L0 = shiftL L o := by
    intro i L0 h1
    rw [hν0d] at h1
    simp only at h1
    split at h1
    · rename_i j o hj
      cases hL : ν j with
      | none => rw [hL] at h1; cases h1
      | some L => rw [hL] at h1; cases h1; exact ⟨j, o, L, hj, hL, rfl⟩
    · cases h1
  -- what the entries handed over are
  have hlim : ∀ i e0 j o L, aget H0 i = some e0 → aget μ i = some (j, o) → ν j = some L → o ≤ L.lim ∧ (e0.isOwn = true → o = 0 ∧ ∃ e, aget H j = some e ∧ e.isOwn = true) ∧ (e0.live = true → ∃ e, aget H j = some e ∧ e.live = true) := by
    intro i e0 j o L h1 h2 h3
    have hmm := (matchH_get hm i e0 h1).2
    rw [h2] at hmm
    simp only at hmm
    split at hmm
    · rename_i own0 lv0 own lv hj
      obtain ⟨q1, q2, q3, q4⟩ := hmm
      have he := hi.er j _ hj
      simp only [ER, h3] at he
      obtain ⟨_, arr, T, fr, g1, g2, g3, _⟩ := he
      rw [LV.len_eq] at g3
      exact ⟨by omega, fun ho => ⟨(q4 ho).2.1, _, hj, (q4 ho).1⟩, fun _ => ⟨_, hj, rfl⟩⟩
    · rename_i es es' hj
      exact ⟨by rw [hmm.2]; omega, fun _ => ⟨hmm.2, _, hj, rfl⟩, fun _ => ⟨_, hj, rfl⟩⟩
    · exact hmm.elim
  have hI0 : Inv (Gof ν0 H0 w) ⟨w, fun n => aget H0 n ≠ none, ν0⟩ ν0 H0 w := by
    refine ⟨?_, ?_, ?_, fun b hb => ⟨rfl, hb.1⟩, fun n hn => ⟨rfl, hn⟩, fun n e L h1 h2 h3 hg => hg.2 n e L h1 h2 h3 rfl, ⟨rfl, rfl, rfl⟩⟩
    · intro i e0 h1
      have hmm := (matchH_get hm i e0 h1).2
      split at hmm
      · rename_i j o hj
        split at hmm
        · rename_i own0 lv0 own lv hHj
          obtain ⟨q1, q2, q3, q4⟩ := hmm
          have he := hi.er j _ hHj
          have hL2 : lv0.toL.map (renC (aget μ)) = (lv.toL.drop o).take lv0.len := by rw [← renL_toL, q2, LV.view_eq]
          cases hL : ν j with
          | none =>
            simp only [ER, hL] at he
            have : ν0 i = none := by
              cases h0 : ν0 i with
              | none => rfl
              | some L0 =>
                obtain ⟨j', o', L, e1, e2, _⟩ := hν0' _ _ h0
                rw [hj] at e1; cases e1; rw [hL] at e2; cases e2
            simp only [ER, this]
            rw [he] at hL2
            simpa using hL2
          | some L =>
            simp only [ER, hL] at he
            obtain ⟨g0, arr, T, fr, g1, g2, g3, g4, g5⟩ := he
            rw [LV.len_eq] at g3
            simp only [ER, hν0 i j o L hj hL]
            refine ⟨by simp only [shiftL]; rw [g0, q1], arr, T, fr, g1, by simp only [shiftL]; omega, by rw [LV.len_eq]; simp only [shiftL]; omega, ?_, fun ho => g5 (q4 ho).1⟩
            intro k hk
            rw [LV.len_eq] at hk
            obtain ⟨v, hv, c, hc, hr⟩ := g4 (o + k) (by rw [LV.len_eq]; omega)
            refine ⟨v, by simp only [shiftL]; rw [← hv, Nat.add_assoc], ?_⟩
            have hk2 := congrArg (·[k]?) hL2
            simp only [List.getElem?_map, List.getElem?_take_of_lt hk, List.getElem?_drop, hc] at hk2
            cases hc0 : lv0.toL[k]? with
            | none => rw [hc0] at hk2; cases hk2
            | some c0 =>
              rw [hc0] at hk2
              simp only [Option.map_some, Option.some.injEq] at hk2
              subst hk2
              exact ⟨c0, hc0, hr.enter hν0⟩
        · rename_i es es' hHj
          obtain ⟨rfl, rfl⟩ := hmm
          obtain ⟨L, hL, rest⟩ := hi.er j _ hHj
          exact ⟨_, hν0 i j 0 L hj hL, rest⟩
        · exact hmm.elim
      · rename_i hj
        have hnone : ν0 i = none := by
          cases h0 : ν0 i with
          | none => rfl
          | some L0 =>
            obtain ⟨j', o', L, e1, e2, _⟩ := hν0' _ _ h0
            rw [hj] at e1; cases e1
        split at hmm
        · rename_i own0 lv0
          simp only [ER, hnone]
          exact List.eq_nil_of_length_eq_zero (by rw [LV.len_eq]; exact hmm)
        · exact hmm.elim
    · intro i i' e e' h1 ho h2 hl hne L0 L0' hL0 hL0'
      obtain ⟨j, o, L, a1, a2, rfl⟩ := hν0' _ _ hL0
      obtain ⟨j', o', L', b1, b2, rfl⟩ := hν0' _ _ hL0'
      obtain ⟨_, x1, _⟩ := hlim i e j o L h1 a1 a2
      obtain ⟨_, _, x2⟩ := hlim i' e' j' o' L' h2 b1 b2
      obtain ⟨_, ej, y1, y2⟩ := x1 ho
      obtain ⟨ej', z1, z2⟩ := x2 hl
      have hjj : j ≠ j' := by
        have := List.all_eq_true.1 hap _ (mem_of_aget h1)
        simp only [ho, Bool.not_true, Bool.false_or] at this
        have := List.all_eq_true.1 this _ (mem_of_aget h2)
        simp only [a1, b1, Bool.or_eq_true, beq_iff_eq] at this
        rcases this with h | h
        · exact absurd h hne
        · simpa using h
      exact hi.inj j j' ej ej' y1 y2 z1 z2 hjj L L' a2 b2
    · intro i hi0
      cases h0 : ν0 i with
      | none => rfl
      | some L0 =>
        obtain ⟨j', o', L, e1, e2, _⟩ := hν0' _ _ h0
        obtain ⟨e, he⟩ := hdom' _ _ e1
        rw [hi0] at he; cases he
  have hF0 : F2 (VR ν0) args0 vs.toList := by
    have := F2.all_imp (S := VA ν) (fun a b hp hr => VR.fits hr hp) hfit hF
    exact F2.mem_map (fun a b h => (VA.enter hν0 h).vr) this
  refine (hfn.calls ν0 w vs hI0 hF0).mono ?_
  rintro e w' ⟨c, r, H1, ν1, rfl, hR, hok, hv, hkeep, hI1⟩
  obtain ⟨hnd, hk⟩ := hK r H1 hR
  have hfree : ∀ k, k < 8 → ν (nm + k) = none := fun k hk => hi.dom _ (free_get hfr hk)
  obtain ⟨ν', hν'd⟩ : ∃ ν' : Nm, ν' = fun m => if nm ≤ m ∧ m < nm + 8 then ν1 (100 + (m - nm)) else ν m := ⟨_, rfl⟩
  have hnew : ∀ i, 100 ≤ i → i < 108 → ν' (nm + (i - 100)) = ν1 i := by
    intro i h1 h2
    rw [hν'd]
    simp only
    rw [if_pos (by omega)]
    congr 1; omega
  have hold : ∀ m, (∀ k, k < 8 → m ≠ nm + k) → ν' m = ν m := by
    intro m h1
    rw [hν'd]
    simp only
    rw [if_neg]
    rintro ⟨h2, h3⟩
    exact h1 (m - nm) (by omega) (by omega)
  have holds : ∀ m L, ν m = some L → ν' m = some L := by
    intro m L hL
    rw [hold m (by rintro k hk rfl; rw [hfree k hk] at hL; cases hL)]; exact hL
  have hargs : ∀ n e0 L, aget H0 n = some e0 → ν1 n = some L → ∃ m o L', mu1 μ nm n = some (m, o) ∧ ν' m = some L' ∧ L = shiftL L' o ∧ o ≤ L'.lim := by
    intro n e0 L h1 h2
    rw [hkeep n (by rw [h1]; simp) (fun h => by rw [hI1.dom n h] at h2; cases h2)] at h2
    obtain ⟨j, o, L', a1, a2, rfl⟩ := hν0' _ _ h2
    have hlt := (matchH_get hm n e0 h1).1
    refine ⟨j, o, L', ?_, holds _ _ a2, rfl, (hlim n e0 j o L' h1 a1 a2).1⟩
    unfold mu1
    rw [if_neg (by omega)]; exact a1
  have hleave : ∀ n L, ν1 n = some L → ∃ m o L', mu1 μ nm n = some (m, o) ∧ ν' m = some L' ∧ L = shiftL L' o ∧ o ≤ L'.lim := by
    intro n L hL
    have hin : aget (H1 ++ ros H0) n ≠ none := fun h => by rw [hI1.dom n h] at hL; cases hL
    rw [aget_append] at hin
    cases h1 : aget H1 n with
    | some e1 =>
      rcases (hok n e1 h1).2 with ⟨e0, h0, _⟩ | ⟨h2, h3⟩
      · exact hargs n e0 L h0 hL
      · refine ⟨nm + (n - 100), 0, L, ?_, ?_, (shift0 L).symm, Nat.zero_le _⟩
        · unfold mu1; rw [if_pos ⟨h2, h3⟩]
        · rw [hnew n h2 h3]; exact hL
    | none =>
      rw [h1] at hin
      simp only at hin
      cases h2 : aget (ros H0) n with
      | none => exact absurd h2 hin
      | some e0 =>
        have hmem := mem_of_aget h2
        have hmem' : (n, e0) ∈ H0 := (List.mem_filter.1 hmem).1
        exact hargs n e0 L (nodup_get hnd0 hmem') hL
  have hG : ∀ b, G b → Gof ν0 H0 w b := by
    intro b hb
    refine ⟨(hi.gfr b hb).2, ?_⟩
    rintro n e0 L h1 h2 h3 rfl
    obtain ⟨j, o, L', a1, a2, rfl⟩ := hν0' _ _ h3
    obtain ⟨_, x, _⟩ := hlim n e0 j o L' h1 a1 a2
    obtain ⟨_, ej, y1, y2⟩ := x h2
    exact hi.own j ej L' y1 y2 a2 hb
  -- what stands unchanged lies apart from what the callee owns
  have hfar : ∀ m x M, aget H m = some x → x.live = true → ν m = some M → (∀ i e0 o, aget H0 i = some e0 → e0.isOwn = true → aget μ i = some (m, o) → False) → Gof ν0 H0 w M.blk := by
    intro m x M h1 h2 h3 h4
    refine ⟨(hi.er m x h1).lt h2 h3, ?_⟩
    intro n e0 L q1 q2 q3
    obtain ⟨j, o, L', a1, a2, rfl⟩ := hν0' _ _ q3
    obtain ⟨_, x', _⟩ := hlim n e0 j o L' q1 a1 a2
    obtain ⟨_, ej, y1, y2⟩ := x' q2
    exact hi.inj j m ej x y1 y2 h1 h2 (fun e => h4 n e0 o q1 q2 (e ▸ a1)) L' M a2 h3
  -- the entries that come back
  have hback : ∀ m e', ((∃ i e1, 100 ≤ i ∧ i < 108 ∧ m = nm + (i - 100) ∧ aget H1 i = some e1 ∧ e' = renE (mu1 μ nm) e1) ∨ (∃ i e0, aget H0 i = some e0 ∧ e0.isOwn = true ∧ aget μ i = some (m, 0) ∧ (∃ e1, aget H1 i = some e1 ∧ e' = renE (mu1 μ nm) e1))) →
      ∃ i e1, aget H1 i = some e1 ∧ e' = renE (mu1 μ nm) e1 ∧ ν' m = ν1 i := by
    rintro m e' (⟨i, e1, a1, a2, rfl, a3, rfl⟩ | ⟨i, e0, a1, a2, a3, e1, a4, rfl⟩)
    · exact ⟨i, e1, a3, rfl, hnew i a1 a2⟩
    · refine ⟨i, e1, a4, rfl, ?_⟩
      rw [hkeep i (by rw [a1]; simp) (by rw [aget_append, a4]; simp), hν0d]
      simp only [a3]
      have hmH : aget H m ≠ none := by
        have hmm := (matchH_get hm i e0 a1).2
        rw [a3] at hmm
        simp only at hmm
        split at hmm
        · rename_i q; rw [q]; simp
        · rename_i q; rw [q]; simp
        · exact hmm.elim
      rw [hold m (by rintro k hk rfl; exact hmH (free_get hfr hk))]
      cases hL : ν m with
      | none => rfl
      | some L => simp [shift0]
  have hH1 : ∀ i e1, aget H1 i = some e1 → aget (H1 ++ ros H0) i = some e1 := fun i e1 h => by rw [aget_append, h]
  refine ⟨c, renV (mu1 μ nm) r, afterH μ nm H H0 H1, ν', rfl, holds, hv.leave hleave, ?_, hk⟩
  have hcases := @afterH_cases μ nm H H0 H1 hfr hm hap hnd0 hnd
  refine Inv.mk ?er ?inj ?dom ?gfr ?nb ?own ⟨hI1.fx.1.trans hi.fx.1, hI1.fx.2.1.trans hi.fx.2.1, hI1.fx.2.2.trans hi.fx.2.2⟩
  case nb =>
    intro n hn
    have h1 := hi.nb n hn
    refine ⟨?_, fun h => h1.2 (afterH_none hnd h).1⟩
    rw [hold n (by rintro k hk rfl; exact h1.2 (free_get hfr hk))]; exact h1.1
  · intro m e' h
    rcases hcases h with h | ⟨i, e0, a1, a2, a3, h | rfl⟩ | ⟨h1, h2, h3⟩
    · obtain ⟨i, e1, b1, rfl, b2⟩ := hback m e' (.inl h)
      exact ER.leave hleave b2 (hI1.er i e1 (hH1 i e1 b1))
    · obtain ⟨i, e1, b1, rfl, b2⟩ := hback m e' (.inr ⟨i, e0, a1, a2, a3, h⟩)
      exact ER.leave hleave b2 (hI1.er i e1 (hH1 i e1 b1))
    · trivial
    · by_cases hl : e'.live = true
      · exact (hi.er m e' h1).move holds (hold m h2) (fun L hL => (hI1.gfr _ (hfar m e' L h1 hl hL h3)).1)
      · cases e' <;> first | trivial | (simp [Ent.live] at hl)
  · -- two entries lie apart
    have hown1 : ∀ i e1, aget H1 i = some e1 → e1.live = true → e1.isOwn = true := by
      intro i e1 h hl
      rcases (hok i e1 h).1 with h | rfl
      · exact h
      · cases hl
    have key : ∀ m m' x y, aget (afterH μ nm H H0 H1) m = some x → aget (afterH μ nm H H0 H1) m' = some y → x.live = true → y.live = true → m ≠ m' → ∀ L L', ν' m = some L → ν' m' = some L' → (x.isOwn = true ∨ y.isOwn = true) → L.blk ≠ L'.blk := by
      intro m m' x y hx hy hxl hyl hne L L' hL hL' hor
      have cls : ∀ m x, aget (afterH μ nm H H0 H1) m = some x → x.live = true → (∃ i e1, aget H1 i = some e1 ∧ x = renE (mu1 μ nm) e1 ∧ ν' m = ν1 i ∧ (m = nm + (i - 100) ∧ 100 ≤ i ∧ i < 108 ∨ aget μ i = some (m, 0) ∧ i < 100)) ∨ (aget H m = some x ∧ ν' m = ν m ∧ ∀ i e0 o, aget H0 i = some e0 → e0.isOwn = true → aget μ i = some (m, o) → False) := by
        intro m x h hl
        rcases hcases h with h | ⟨i, e0, a1, a2, a3, h | rfl⟩ | ⟨h1, h2, h3⟩
        · obtain ⟨i, e1, a1, a2, rfl, a3, rfl⟩ := h
          exact .inl ⟨i, e1, a3, rfl, hnew i a1 a2, .inl ⟨rfl, a1, a2⟩⟩
        · obtain ⟨e1, b1, rfl⟩ := h
          obtain ⟨i', e1', c1, c2, c3⟩ := hback m _ (.inr ⟨i, e0, a1, a2, a3, e1, b1, rfl⟩)
          refine .inl ⟨i, e1, b1, rfl, ?_, .inr ⟨a3, (matchH_get hm i e0 a1).1⟩⟩
          -- the name is the same
          rw [hkeep i (by rw [a1]; simp) (by rw [aget_append, b1]; simp), hν0d]
          simp only [a3]
          have hmH : aget H m ≠ none := by
            have hmm := (matchH_get hm i e0 a1).2
            rw [a3] at hmm
            simp only at hmm
            split at hmm
            · rename_i q; rw [q]; simp
            · rename_i q; rw [q]; simp
            · exact hmm.elim
          rw [hold m (by rintro k hk rfl; exact hmH (free_get hfr hk))]
          cases hL : ν m with
          | none => rfl
          | some L => simp [shift0]
        · cases hl
        · exact .inr ⟨h1, hold m h2, h3⟩
      rcases cls m x hx hxl with ⟨i, e1, a1, rfl, a2, a3⟩ | ⟨a1, a2, a3⟩ <;> rcases cls m' y hy hyl with ⟨i', e1', b1, rfl, b2, b3⟩ | ⟨b1, b2, b3⟩
      · have hii : i ≠ i' := by
          rintro rfl
          apply hne
          rcases a3 with ⟨q1, q2, q3⟩ | ⟨q1, q2⟩ <;> rcases b3 with ⟨r1, r2, r3⟩ | ⟨r1, r2⟩
          · rw [q1, r1]
          · omega
          · omega
          · rw [q1] at r1; cases r1; rfl
        rw [live_ren] at hxl hyl
        exact hI1.inj i i' e1 e1' (hH1 _ _ a1) (hown1 i e1 a1 hxl) (hH1 _ _ b1) hyl hii L L' (a2 ▸ hL) (b2 ▸ hL')
      · rw [live_ren] at hxl
        have h1 := hI1.own i e1 L (hH1 _ _ a1) (hown1 i e1 a1 hxl) (a2 ▸ hL)
        have h2 := hfar m' y L' b1 hyl (b2 ▸ hL') b3
        intro e; rw [e] at h1; exact h1 h2
      · rw [live_ren] at hyl
        have h1 := hI1.own i' e1' L' (hH1 _ _ b1) (hown1 i' e1' b1 hyl) (b2 ▸ hL')
        have h2 := hfar m x L a1 hxl (a2 ▸ hL) a3
        intro e; rw [← e] at h1; exact h1 h2
      · rcases hor with ho | ho
        · exact hi.inj m m' x y a1 ho b1 hyl hne L L' (a2 ▸ hL) (b2 ▸ hL')
        · exact (hi.inj m' m y x b1 ho a1 hxl (Ne.symm hne) L' L (b2 ▸ hL') (a2 ▸ hL)).symm
    intro m m' x y hx hxo hy hyl hne L L' hL hL'
    exact key m m' x y hx hy (by cases x <;> first | rfl | (simp [Ent.isOwn] at hxo)) hyl hne L L' hL hL' (.inl hxo)
  · intro m h
    obtain ⟨h1, h2⟩ := afterH_none hnd h
    rw [hν'd]
    simp only
    split
    · rename_i hr
      have h3 := h2 (100 + (m - nm)) (by omega) (by omega) (by omega)
      refine hI1.dom _ ?_
      rw [aget_append, h3]
      simp only
      cases h4 : aget (ros H0) (100 + (m - nm)) with
      | none => rfl
      | some e0 =>
        have hmem' : (100 + (m - nm), e0) ∈ H0 := (List.mem_filter.1 (mem_of_aget h4)).1
        have := (matchH_get hm _ e0 (nodup_get hnd0 hmem')).1
        omega
    · exact hi.dom m h1
  · intro b hb
    obtain ⟨h1, h2⟩ := hI1.gfr b (hG b hb)
    exact ⟨h1.trans (hi.gfr b hb).1, h2⟩
  · intro m x L hx hxo hL hg
    rcases hcases hx with h | ⟨i, e0, a1, a2, a3, h | rfl⟩ | ⟨h1, h2, h3⟩
    · obtain ⟨i, e1, b1, rfl, b2⟩ := hback m x (.inl h)
      rw [isOwn_ren] at hxo
      exact hI1.own i e1 L (hH1 _ _ b1) hxo (b2 ▸ hL) (hG _ hg)
    · obtain ⟨i, e1, b1, rfl, b2⟩ := hback m x (.inr ⟨i, e0, a1, a2, a3, h⟩)
      rw [isOwn_ren] at hxo
      exact hI1.own i e1 L (hH1 _ _ b1) hxo (b2 ▸ hL) (hG _ hg)
    · cases hxo
    · exact hi.own m x L h1 hxo (by rw [← hold m h2]; exact hL) hg

end Go.Proofs.Ytbcnkfkmonpdeaa.S
