/- Plain laws of the common model: allocation and operations. Own work of this claim; no program in sight. -/
import Derived.Test.YtbcnkfkmonpdeaaPa
namespace Go.Proofs.Ytbcnkfkmonpdeaa.S
set_option linter.all false

theorem mem_set_of {l : List Int} {i : Nat} {x y : Int} (h : y ∈ l.set i x) : y = x ∨ y ∈ l := (List.mem_or_eq_of_mem_set h).symm
theorem getD_set' {l : List Int} {i j : Nat} {x : Int} (hj : j < l.length) : (l.set i x).getD j 0 = if i = j then x else l.getD j 0 := by
  by_cases h : i < l.length
  · exact getD_set h
  · rw [List.set_eq_of_length_le (by omega), if_neg (by omega)]
theorem okP_set' {l : List Int} {n : Nat} (h : okP l n) (k : Nat) {x : Int} (hx : -1 ≤ x ∧ x < n) : okP (l.set k x) n := by
  intro j hj
  simp only [List.length_set] at hj
  rw [getD_set' hj]; split
  · exact hx
  · exact h j hj
theorem okP_mem {l : List Int} {n : Nat} (h : okP l n) {x : Int} (hx : x ∈ l) : -1 ≤ x ∧ x < n := by
  obtain ⟨i, hi, rfl⟩ := mem_getD hx
  exact h i hi
/-- A root is put: it stays a store when what it points to is no free cell. -/
theorem root_ok {s : Sto} (ho : s.ok) (a : Nat) {x : Int} (hx : x = -1 ∨ x ∈ s.h.L ∨ x ∈ s.h.R ∨ x ∈ s.h.T) : Sto.ok ⟨⟨s.h.L, s.h.R, s.h.T.set a x⟩, s.F⟩ := by
  obtain ⟨⟨l1, l2, l3, l4, l5⟩, o1, o2, o3⟩ := ho.1
  have hb : -1 ≤ x ∧ x < s.h.L.length := by
    rcases hx with rfl | q | q | q
    · omega
    · exact okP_mem o1 q
    · exact okP_mem o2 q
    · exact okP_mem o3 q
  refine Sto.ok_of ⟨⟨l1, l2, l3, by simpa using l4, by simpa using l5⟩, o1, o2, okP_set' o3 a hb⟩ ho.nd ?_
  intro c hc
  obtain ⟨a1, a3, a4, a5, a6, a7⟩ := ho.mem hc
  refine ⟨a1, a3, a4, a5, a6, fun q => ?_⟩
  rcases mem_set_of q with rfl | q
  · rcases hx with e | q | q | q
    · omega
    · exact a5 q
    · exact a6 q
    · exact a7 q
  · exact a7 q
/-- A field of a cell that a root points to is put. -/
theorem put_ok {s : Sto} (ho : s.ok) {f to : Int} (hf : f ∈ s.h.T) (hf0 : f ≠ -1) (ht : to ∈ s.h.T) : Sto.ok ⟨⟨s.h.L.set f.toNat to, s.h.R, s.h.T⟩, s.F⟩ ∧ Sto.ok ⟨⟨s.h.L, s.h.R.set f.toNat to, s.h.T⟩, s.F⟩ := by
  obtain ⟨⟨l1, l2, l3, l4, l5⟩, o1, o2, o3⟩ := ho.1
  have hb := okP_mem o3 ht
  have hfb := okP_mem o3 hf
  constructor
  · refine Sto.ok_of ⟨⟨by simpa using l1, by simpa using l2, by simpa using l3, l4, l5⟩, ?_, ?_, ?_⟩ ho.nd ?_
    · simpa using okP_set' o1 f.toNat hb
    · simpa using o2
    · simpa using o3
    · intro c hc
      obtain ⟨a1, a3, a4, a5, a6, a7⟩ := ho.mem hc
      have hcf : c ≠ f := fun e => a7 (e ▸ hf)
      refine ⟨by simpa using a1, ?_, a4, fun q => ?_, a6, a7⟩
      · show (s.h.L.set f.toNat to).getD c.toNat 0 = -1
        rw [getD_set' (by omega), if_neg (by omega)]; exact a3
      · rcases mem_set_of q with rfl | q
        · exact a7 ht
        · exact a5 q
  · refine Sto.ok_of ⟨⟨l1, l2, by simpa using l3, l4, l5⟩, o1, ?_, o3⟩ ho.nd ?_
    · exact okP_set' o2 f.toNat hb
    · intro c hc
      obtain ⟨a1, a3, a4, a5, a6, a7⟩ := ho.mem hc
      have hcf : c ≠ f := fun e => a7 (e ▸ hf)
      refine ⟨a1, a3, ?_, a5, fun q => ?_, a7⟩
      · show (s.h.R.set f.toNat to).getD c.toNat 0 = -1
        rw [getD_set' (by omega), if_neg (by omega)]; exact a4
      · rcases mem_set_of q with rfl | q
        · exact a7 ht
        · exact a6 q
/-- The first free cell. -/
theorem alc_cell {s : Sto} {r : Int} (h : s.alcOk r) : s.F.getD 0 0 ∈ s.F ∧ s.F = s.F.getD 0 0 :: s.F.drop 1 ∧ s.F.getD 0 0 ∉ s.F.drop 1 := by
  have hF := h.2.2.2
  have e : s.F = s.F.getD 0 0 :: s.F.drop 1 := by
    cases hq : s.F with
    | nil => rw [hq] at hF; exact absurd rfl hF
    | cons a l => simp
  refine ⟨getD_mem (by omega), e, ?_⟩
  have nd := h.1.nd
  rw [e] at nd
  exact (List.nodup_cons.1 nd).1
/-- A free cell is taken: the store with a root x instead of it. -/
theorem alc_drop {s : Sto} {r : Int} (h : s.alcOk r) {x : Int} (hx : x = -1 ∨ x = s.F.getD 0 0) : Sto.ok ⟨⟨s.h.L, s.h.R, s.h.T.set r.toNat x⟩, s.F.drop 1⟩ := by
  obtain ⟨m, e, n⟩ := alc_cell h
  have ho := h.1
  obtain ⟨⟨l1, l2, l3, l4, l5⟩, o1, o2, o3⟩ := ho.1
  have hc := ho.mem m
  have nd := ho.nd
  rw [e] at nd
  refine Sto.ok_of ⟨⟨l1, l2, l3, by simpa using l4, by simpa using l5⟩, o1, o2, okP_set' o3 _ ?_⟩ (List.nodup_cons.1 nd).2 ?_
  · rcases hx with rfl | rfl
    · omega
    · have := hc.1; omega
  · intro c hm
    have hm : c ∈ s.F.drop 1 := hm
    obtain ⟨a1, a3, a4, a5, a6, a7⟩ := ho.mem (List.mem_of_mem_drop hm)
    refine ⟨a1, a3, a4, a5, a6, fun q => ?_⟩
    rcases mem_set_of q with rfl | q
    · rcases hx with e | e
      · omega
      · rw [e] at hm; exact n hm
    · exact a7 q
theorem alc_ok {s : Sto} {r : Int} (h : s.alcOk r) : (s.alcS r).ok := by
  rw [Sto.alcS, if_pos h]; exact alc_drop h (.inr rfl)
/-- The cell is given up again. -/
theorem alc_lost {s : Sto} {r : Int} (h : s.alcOk r) : s.F.getD 0 0 ∈ Sto.lost ⟨⟨s.h.L, s.h.R, s.h.T.set r.toNat (-1)⟩, s.F.drop 1⟩ := by
  obtain ⟨m, e, n⟩ := alc_cell h
  have ho := alc_drop h (x := -1) (.inl rfl)
  obtain ⟨a1, a3, a4, a5, a6, a7⟩ := h.1.mem m
  rw [lost_mem ho]
  refine ⟨n, (s.F.getD 0 0).toNat, by show _ < s.h.L.length; omega, by omega, fun q => ?_⟩
  have := q.okmem ho.1
  rw [Int.toNat_of_nonneg a1.1] at this
  rcases this with q | q | q
  · exact a5 q
  · exact a6 q
  · rcases mem_set_of q with e | q
    · omega
    · exact a7 q
theorem rt_mem {s : Sto} {j : Int} (h : 0 ≤ j ∧ j < s.h.T.length) : s.h.T.getD j.toNat 0 ∈ s.h.T := getD_mem (by omega)
theorem do_ok {s : Sto} {k a b : Int} (h : s.runOk k a b) : (s.doS k a b).ok := by
  obtain ⟨ho, ⟨⟨k1, k2⟩, a1, a2, a3, b1, b2⟩, hb⟩ := h
  have hbT : k ≠ 1 → k ≠ 7 → b < s.h.T.length := fun x y => by rw [if_neg (by omega)] at hb; exact hb
  unfold Sto.doS
  by_cases c1 : k = 1
  · rw [if_pos c1]
    by_cases g : s.alcOk a
    · rw [if_pos g]; exact alc_ok g
    · rw [if_neg g]; exact ho
  rw [if_neg c1]
  by_cases c2 : k = 2
  · rw [if_pos c2]; exact root_ok ho _ (.inr (.inr (.inr (rt_mem ⟨b1, hbT c1 (by omega)⟩))))
  rw [if_neg c2]
  by_cases c7 : k = 7
  · rw [if_pos c7]; exact root_ok ho _ (.inl rfl)
  rw [if_neg c7]
  have hbT := hbT c1 c7
  have hm := rt_mem ⟨b1, hbT⟩
  have hm2 := rt_mem ⟨a1, a3⟩
  by_cases c3 : k = 3 ∨ k = 4
  · rw [if_pos c3]
    by_cases g : s.h.T.getD b.toNat 0 = -1
    · rw [if_pos g]; exact ho
    · rw [if_neg g]
      have hlt := okP_mem ho.1.2.2.2 hm
      have hR : s.h.R.length = s.h.L.length := ho.1.1.2.2.1
      by_cases c4 : k = 4
      · rw [if_pos c4]; exact root_ok ho _ (.inr (.inr (.inl (getD_mem (by omega)))))
      · rw [if_neg c4]; exact root_ok ho _ (.inr (.inl (getD_mem (by omega))))
  rw [if_neg c3]
  by_cases g : s.h.T.getD a.toNat 0 = -1
  · rw [if_pos g]; exact ho
  rw [if_neg g]
  have := put_ok ho hm2 g hm
  split
  · exact this.1
  · exact this.2
/-- What an operation makes reached was reached, or was free. -/
theorem do_reach {s : Sto} {k a b : Int} (h : s.runOk k a b) {i : Nat} (q : Reach (s.doS k a b).h i) : Reach s.h i ∨ k = 1 ∧ s.alcOk a ∧ (i : Int) = s.F.getD 0 0 := by
  obtain ⟨ho, ⟨⟨k1, k2⟩, a1, a2, a3, b1, b2⟩, hb⟩ := h
  have hbT : k ≠ 1 → k ≠ 7 → b < s.h.T.length := fun x y => by rw [if_neg (by omega)] at hb; exact hb
  have rootL : ∀ {x : Int}, (∀ c : Nat, x = c → Reach s.h c) → ∀ {i}, Reach ⟨s.h.L, s.h.R, s.h.T.set a.toNat x⟩ i → Reach s.h i := by
    intro x hx i q
    refine Reach.sub (h := ⟨s.h.L, s.h.R, s.h.T.set a.toNat x⟩) (fun c => Reach s.h c) (fun j c hj hc => ?_) (fun a c ha hc => .left ha hc) (fun a c ha hc => .right ha hc) q
    have hj : j < (s.h.T.set a.toNat x).length := hj
    rw [List.length_set] at hj
    have hc : (s.h.T.set a.toNat x).getD j 0 = c := hc
    rw [getD_set' hj] at hc
    split at hc
    · exact hx c hc
    · exact .root hj hc
  unfold Sto.doS at q
  by_cases c1 : k = 1
  · rw [if_pos c1] at q
    by_cases g : s.alcOk a
    · rw [if_pos g, Sto.alcS, if_pos g] at q
      have hf := ho.mem (alc_cell g).1
      have : Reach s.h i ∨ (i : Int) = s.F.getD 0 0 := by
        refine Reach.sub (fun c => Reach s.h c ∨ (c : Int) = s.F.getD 0 0) (fun j c hj hc => ?_) (fun a c ha hc => ?_) (fun a c ha hc => ?_) q
        · have hj : j < (s.h.T.set a.toNat (s.F.getD 0 0)).length := hj
          rw [List.length_set] at hj
          have hc : (s.h.T.set a.toNat (s.F.getD 0 0)).getD j 0 = c := hc
          rw [getD_set' hj] at hc
          split at hc
          · exact .inr hc.symm
          · exact .inl (.root hj hc)
        · rcases ha with ha | ha
          · exact .inl (.left ha hc)
          · have := hf.2.1
            have hc : s.h.L.getD a 0 = c := hc
            rw [← ha, Int.toNat_natCast] at this
            omega
        · rcases ha with ha | ha
          · exact .inl (.right ha hc)
          · have := hf.2.2.1
            have hc : s.h.R.getD a 0 = c := hc
            rw [← ha, Int.toNat_natCast] at this
            omega
      rcases this with q | q
      · exact .inl q
      · exact .inr ⟨c1, g, q⟩
    · rw [if_neg g] at q; exact .inl q
  left
  rw [if_neg c1] at q
  by_cases c2 : k = 2
  · rw [if_pos c2] at q
    refine rootL (fun c hc => .root (j := b.toNat) ?_ hc) q
    have := hbT c1 (by omega); omega
  rw [if_neg c2] at q
  by_cases c7 : k = 7
  · rw [if_pos c7] at q
    exact rootL (fun c hc => by omega) q
  rw [if_neg c7] at q
  have hbT := hbT c1 c7
  have hrt : ∀ c : Nat, s.h.T.getD b.toNat 0 = c → Reach s.h c := fun c hc => .root (j := b.toNat) (by omega) hc
  by_cases c3 : k = 3 ∨ k = 4
  · rw [if_pos c3] at q
    by_cases g : s.h.T.getD b.toNat 0 = -1
    · rw [if_pos g] at q; exact q
    · rw [if_neg g] at q
      have hlt := okP_mem ho.1.2.2.2 (rt_mem ⟨b1, hbT⟩)
      have hr := hrt (s.h.T.getD b.toNat 0).toNat (by omega)
      refine rootL (fun c hc => ?_) q
      by_cases c4 : k = 4
      · rw [if_pos c4] at hc; exact .right hr hc
      · rw [if_neg c4] at hc; exact .left hr hc
  rw [if_neg c3] at q
  by_cases g : s.h.T.getD a.toNat 0 = -1
  · rw [if_pos g] at q; exact q
  rw [if_neg g] at q
  have hlt := okP_mem ho.1.2.2.2 (rt_mem ⟨a1, a3⟩)
  have hR : s.h.R.length = s.h.L.length := ho.1.1.2.2.1
  split at q
  · refine Reach.sub (h := ⟨s.h.L.set (s.h.T.getD a.toNat 0).toNat (s.h.T.getD b.toNat 0), s.h.R, s.h.T⟩) (fun c => Reach s.h c) (fun j c hj hc => .root hj hc) (fun x c ha hc => ?_) (fun x c ha hc => .right ha hc) q
    have hc : (s.h.L.set (s.h.T.getD a.toNat 0).toNat (s.h.T.getD b.toNat 0)).getD x 0 = c := hc
    rw [getD_set' (ha.lt ho.1)] at hc
    split at hc
    · exact hrt c hc
    · exact .left ha hc
  · refine Reach.sub (h := ⟨s.h.L, s.h.R.set (s.h.T.getD a.toNat 0).toNat (s.h.T.getD b.toNat 0), s.h.T⟩) (fun c => Reach s.h c) (fun j c hj hc => .root hj hc) (fun x c ha hc => .left ha hc) (fun x c ha hc => ?_) q
    have hc : (s.h.R.set (s.h.T.getD a.toNat 0).toNat (s.h.T.getD b.toNat 0)).getD x 0 = c := hc
    rw [getD_set' (by have := ha.lt ho.1; omega)] at hc
    split at hc
    · exact hrt c hc
    · exact .right ha hc
theorem doS_L (s : Sto) (k a b : Int) : (s.doS k a b).h.L.length = s.h.L.length ∧ (s.doS k a b).h.T.length = s.h.T.length := by
  unfold Sto.doS Sto.alcS
  repeat' split
  all_goals simp [Sto.root]
end Go.Proofs.Ytbcnkfkmonpdeaa.S
