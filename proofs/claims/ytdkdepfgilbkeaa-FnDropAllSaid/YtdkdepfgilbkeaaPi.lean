/- Plain laws of the common model: roots of counted stores dropped. Own work of this claim; no program in sight. -/
import Derived.Test.YtdkdepfgilbkeaaFu
import Derived.Test.YtdkdepfgilbkeaaA5
namespace Go.Proofs.Ytdkdepfgilbkeaa.S
set_option linter.all false

/-- Free cells and given up cells, while pointers are given up. -/
structure DFr (n : Nat) (T F : List Int) (s : DS) : Prop where
  f : ∀ x, x ∈ F → (0 ≤ x ∧ x < n) ∧ s.L.getD x.toNat 0 = -1 ∧ s.R.getD x.toNat 0 = -1 ∧ x ∉ s.L ∧ x ∉ s.R ∧ x ∉ s.W ∧ x ∉ s.G
  g : ∀ x, x ∈ s.G → s.L.getD x.toNat 0 = -1 ∧ s.R.getD x.toNat 0 = -1
theorem DFr.step {n w : Nat} {T F : List Int} {s : DS} (h : DInv n T w s) (d : DFr n T F s) (hi : s.i < s.W.length) : DFr n T F s.step := by
  have hc := h.c_ok hi
  have hcW : s.c ∈ s.W := getD_mem hi
  have hL := h.lL
  have hR := h.lR
  unfold DS.step
  by_cases c1 : s.c = -1
  · rw [if_pos c1]; exact ⟨d.f, d.g⟩
  rw [if_neg c1]
  by_cases c2 : 0 < s.C1.getD s.c.toNat 0
  · rw [if_pos c2]; exact ⟨d.f, d.g⟩
  rw [if_neg c2]
  refine ⟨fun x hx => ?_, fun x hx => ?_⟩
  · obtain ⟨a0, a1, a2, a3, a4, a5, a6⟩ := d.f x hx
    have hne : x ≠ s.c := fun e => a5 (e ▸ hcW)
    dsimp only
    refine ⟨a0, ?_, ?_, ?_, ?_, ?_, ?_⟩
    · rw [getD_set' (by omega)]; split
      · rfl
      · exact a1
    · rw [getD_set' (by omega)]; split
      · rfl
      · exact a2
    · intro q; rcases mem_set_of q with q | q
      · omega
      · exact a3 q
    · intro q; rcases mem_set_of q with q | q
      · omega
      · exact a4 q
    · rw [List.mem_append]
      rintro (q | q)
      · exact a5 q
      · simp only [List.mem_cons, List.not_mem_nil, or_false] at q
        rcases q with q | q
        · exact a3 (q ▸ getD_mem (by omega))
        · exact a4 (q ▸ getD_mem (by omega))
    · rw [List.mem_append, List.mem_singleton]
      rintro (q | q)
      · exact a6 q
      · exact hne q
  · rw [List.mem_append, List.mem_singleton] at hx
    dsimp only
    have hxb : 0 ≤ x ∧ x < n := by
      rcases hx with q | q
      · exact (h.gz x q).1
      · omega
    rw [getD_set' (by omega), getD_set' (by omega)]
    rcases hx with q | q
    · have := d.g x q
      constructor
      · split
        · rfl
        · exact this.1
      · split
        · rfl
        · exact this.2
    · subst q
      rw [if_pos rfl, if_pos rfl]; exact ⟨rfl, rfl⟩
theorem dn_all {n w : Nat} {T F : List Int} : ∀ (k : Nat) (s : DS), DInv n T w s → DFr n T F s → w + 2 * n ≤ k + s.i → DInv n T w (dn k s) ∧ DFr n T F (dn k s) ∧ (dn k s).i = (dn k s).W.length
  | 0, s, h, d, hk => by
    refine ⟨h, d, ?_⟩
    have := h.iW
    have := h.le.2
    show s.i = s.W.length
    omega
  | k + 1, s, h, d, hk => by
    rw [dn]
    split
    · rename_i hi
      exact dn_all k _ (h.step hi) (d.step h hi) (by rw [step_i]; omega)
    · exact ⟨h, d, by have := h.iW; omega⟩
theorem drp_ok {c : Cnt} {r : Int} (g : c.rooted r) : (c.drp r).ok ∧ (c.drp r).s.h.T = c.s.h.T.set r.toNat (-1) ∧ (c.drp r).s.h.L.length = c.s.h.L.length := by
  have ho := (Cnt.ok_iff c).1 g.1
  have h0 := Cnt.drp_inv g
  have hn : c.s.h.L.length ≤ 8 := by have := ho.1.1.1; omega
  have hR : c.s.h.R.length = c.s.h.L.length := ho.1.1.1.2.2.1
  have hr := g.2
  have d0 : DFr c.s.h.L.length (c.s.h.T.set r.toNat (-1)) c.s.F ⟨c.s.h.L, c.s.h.R, [], c.C, [c.s.h.T.getD r.toNat 0], 0⟩ := by
    refine ⟨fun x hx => ?_, fun x hx => by simp at hx⟩
    obtain ⟨a0, a1, a2, a3, a4, a5⟩ := ho.1.mem hx
    refine ⟨a0, a1, a2, a3, a4, ?_, by simp⟩
    rw [List.mem_singleton]
    intro e
    exact a5 (e ▸ getD_mem (by omega))
  obtain ⟨e, d, hi⟩ := dn_all 64 _ h0 d0 (by dsimp only; omega)
  have eD : dn 64 ⟨c.s.h.L, c.s.h.R, [], c.C, [c.s.h.T.getD r.toNat 0], 0⟩ = downE c.s.h.L c.s.h.R c.C (c.s.h.T.getD r.toNat 0) := rfl
  rw [eD] at e d hi
  rw [Cnt.drp, if_pos g, Cnt.down]
  generalize downE c.s.h.L c.s.h.R c.C (c.s.h.T.getD r.toNat 0) = s at *
  have lL := e.lL
  have lR := e.lR
  have lC := e.lC
  have oT : okP (c.s.h.T.set r.toNat (-1)) c.s.h.L.length := okP_set' ho.1.1.2.2.2 _ (by omega)
  have hh : Hp.ok ⟨s.L, s.R, c.s.h.T.set r.toNat (-1)⟩ := by
    have l8 := ho.1.1.1
    refine ⟨?_, ?_, ?_, ?_⟩
    · dsimp only; rw [List.length_set]; omega
    · dsimp only; rw [lL]; exact e.oL
    · dsimp only; rw [lL]; exact e.oR
    · dsimp only; rw [lL]; exact oT
  have hc : ∀ x : Nat, x < c.s.h.L.length → s.C.getD x 0 = ((s.L.count (x : Int) + s.R.count (x : Int) + (c.s.h.T.set r.toNat (-1)).count (x : Int) : Nat) : Int) := by
    intro x hx
    have := e.cn x hx
    rw [hi, List.drop_length, List.count_nil, Nat.add_zero] at this
    exact this
  refine ⟨⟨Sto.ok_of hh ?_ ?_, ?_⟩, rfl, lL⟩
  · show (c.s.F ++ s.G).Nodup
    rw [List.nodup_append]
    refine ⟨ho.1.nd, e.nd, ?_⟩
    intro x hx y hy q
    subst q
    exact (d.f x hx).2.2.2.2.2.2 hy
  · intro x hx
    have hx : x ∈ c.s.F ++ s.G := hx
    rw [List.mem_append] at hx
    rcases hx with hx | hx
    · obtain ⟨a0, a1, a2, a3, a4, a5, a6⟩ := d.f x hx
      refine ⟨by dsimp only; omega, a1, a2, a3, a4, ?_⟩
      intro q
      rcases mem_set_of q with q | q
      · omega
      · exact (ho.1.mem hx).2.2.2.2.2 q
    · have a0 := e.gz x hx
      have a1 := d.g x hx
      have z := hc x.toNat (by omega)
      rw [a0.2, Int.toNat_of_nonneg a0.1.1] at z
      have z1 : s.L.count x = 0 ∧ s.R.count x = 0 ∧ (c.s.h.T.set r.toNat (-1)).count x = 0 := by omega
      refine ⟨by dsimp only; omega, a1.1, a1.2, List.count_eq_zero.1 z1.1, List.count_eq_zero.1 z1.2.1, List.count_eq_zero.1 z1.2.2⟩
  · show s.C = Hp.cnt ⟨s.L, s.R, c.s.h.T.set r.toNat (-1)⟩
    have hcn : Hp.cnt ⟨s.L, s.R, c.s.h.T.set r.toNat (-1)⟩ = cntN s.L.length (s.L ++ s.R ++ c.s.h.T.set r.toNat (-1)) (s.L ++ s.R ++ c.s.h.T.set r.toNat (-1)).length := by rw [Hp.cnt, if_pos ((Hp.ok_iff _).2 hh)]; rfl
    rw [hcn]
    refine same_of (by rw [cntN_len]; omega) fun x hx => ?_
    rw [cntN_getD (by omega), List.take_length, hc x (by omega), List.count_append, List.count_append]
/-- Nothing is reached without roots. -/
theorem dead_all {s : Sto} (ho : s.ok) (hT : ∀ j, j < s.h.T.length → s.h.T.getD j 0 = -1) : s.h.live = 0 ∧ s.lost.length + s.F.length = s.h.L.length := by
  have nr : ∀ c, ¬ Reach s.h c := by
    intro c q
    refine Reach.sub (h := s.h) (fun _ => False) (fun j c hj hc => ?_) (fun _ _ a _ => a) (fun _ _ a _ => a) q
    have := hT j hj; omega
  constructor
  · unfold Hp.live
    rw [List.count_eq_zero]
    unfold Hp.reach
    rw [if_pos ((Hp.ok_iff _).2 ho.1), List.mem_map]
    rintro ⟨c, _, q⟩
    simp only [decide_eq_true_eq] at q
    exact nr c q
  · have nd : (s.lost ++ s.F).Nodup := by
      rw [List.nodup_append]
      refine ⟨lost_nodup s, ho.nd, ?_⟩
      intro x hx y hy e
      subst e
      exact ((lost_mem ho x).1 hx).1 hy
    have nd2 : ((List.range s.h.L.length).map fun i : Nat => (i : Int)).Nodup := by
      unfold List.Nodup
      rw [List.pairwise_map]
      exact (List.nodup_range (n := s.h.L.length)).imp fun h q => h (by omega)
    have hm : ∀ x, x ∈ s.lost ++ s.F ↔ x ∈ (List.range s.h.L.length).map fun i : Nat => (i : Int) := by
      intro x
      rw [List.mem_append, List.mem_map, lost_mem ho]
      constructor
      · rintro (⟨_, i, hi, e, _⟩ | q)
        · exact ⟨i, List.mem_range.2 hi, e.symm⟩
        · have := (ho.mem q).1
          exact ⟨x.toNat, List.mem_range.2 (by omega), by omega⟩
      · rintro ⟨i, hi, e⟩
        by_cases q : x ∈ s.F
        · exact .inr q
        · exact .inl ⟨q, i, List.mem_range.1 hi, e.symm, nr i⟩
    have e := ((List.perm_ext_iff_of_nodup nd nd2).2 hm).length_eq
    rw [List.length_append, List.length_map, List.length_range] at e
    exact e
theorem cyc_all {c : Cnt} (h : c.ok) (hT : ∀ j, j < c.s.h.T.length → c.s.h.T.getD j 0 = -1) : c.cyc.length + c.s.F.length = c.C.length := by
  have hc : c.s.h.cnt = cntN c.s.h.L.length c.s.h.all c.s.h.all.length := by rw [Hp.cnt, if_pos ((Hp.ok_iff _).2 h.1.1)]
  rw [Cnt.cyc, if_pos ((Cnt.ok_iff c).2 h), h.2, hc, cntN_len]
  exact (dead_all h.1 hT).2
end Go.Proofs.Ytdkdepfgilbkeaa.S
