/- Texts of this claim's own layer, laid as one: Pa Pb Pc Pd Pe Pf Pg Ph. Own work of this claim. -/
import Derived.Test.YtbobhbhgomkgpaaGreatDoorA4
/- Plain laws of the common model: clearing garbage, allocation, operations. Own work of this claim; no program in sight. -/
namespace Go.Proofs.YtbobhbhgomkgpaaGreatDoor.S
set_option linter.all false

/-! Reach, generally -/
theorem Reach.sub {h : Hp} (P : Nat → Prop) (hr : ∀ j c : Nat, j < h.T.length → h.T.getD j 0 = c → P c) (hL : ∀ a c : Nat, P a → h.L.getD a 0 = c → P c) (hR : ∀ a c : Nat, P a → h.R.getD a 0 = c → P c) {c : Nat} (q : Reach h c) : P c := by
  induction q with
  | root hj hc => exact hr _ _ hj hc
  | left _ hc ih => exact hL _ _ ih hc
  | right _ hc ih => exact hR _ _ ih hc
theorem Reach.okmem {h : Hp} (ho : h.ok) {c : Nat} (q : Reach h c) : (c : Int) ∈ h.L ∨ (c : Int) ∈ h.R ∨ (c : Int) ∈ h.T := by
  cases q with
  | root hj hc => right; right; rw [← hc]; exact getD_mem hj
  | @left a _ ha hc => left; rw [← hc]; exact getD_mem (ha.lt ho)
  | @right a _ ha hc => right; left; rw [← hc]; exact getD_mem (by rw [ho.1.2.2.1]; exact ha.lt ho)
theorem fr_noreach {h : Hp} (ho : h.ok) {c : Int} (hf : h.fr c) : ¬ Reach h c.toNat := by
  intro q
  have := q.okmem ho
  rw [Int.toNat_of_nonneg hf.1.1] at this
  rcases this with q | q | q
  · exact hf.2.2.2.1 q
  · exact hf.2.2.2.2.1 q
  · exact hf.2.2.2.2.2 q

/-! Clearing cells that are not reached -/
theorem clrAt_eq {l cells : List Int} {i : Nat} (h : clrAt l cells i ≠ -1) : clrAt l cells i = l.getD i 0 ∧ l.getD i 0 ∉ cells ∧ (i : Int) ∉ cells := by
  unfold clrAt at h ⊢
  split
  · rename_i q; rw [if_pos q] at h; exact absurd rfl h
  · rename_i q
    exact ⟨rfl, fun a => q (.inl a), fun a => q (.inr a)⟩
theorem clrL_mem {l cells : List Int} {x : Int} (h : x ∈ clrL l cells) : x = -1 ∨ x ∈ l ∧ x ∉ cells := by
  obtain ⟨i, hi, rfl⟩ := mem_getD h
  rw [clrL_len] at hi
  rw [clrL_getD hi]
  by_cases q : clrAt l cells i = -1
  · exact .inl q
  · have := clrAt_eq q
    rw [this.1]
    exact .inr ⟨getD_mem hi, this.2.1⟩
theorem clrL_okP {l cells : List Int} {n : Nat} (h : okP l n) : okP (clrL l cells) n := by
  intro j hj
  rw [clrL_len] at hj
  rw [clrL_getD hj]
  by_cases q : clrAt l cells j = -1
  · rw [q]; omega
  · rw [(clrAt_eq q).1]; exact h j hj
/-- Cells that may be cleared: not reached, and told once. -/
structure Gone (s : Sto) (cells : List Int) : Prop where
  ok : s.ok
  nd : cells.Nodup
  un : ∀ x, x ∈ cells → x ∉ s.F ∧ ∃ i : Nat, i < s.h.L.length ∧ x = i ∧ ¬ Reach s.h i
theorem Gone.lost {s : Sto} (ho : s.ok) : Gone s s.lost := ⟨ho, lost_nodup s, fun x hx => (lost_mem ho x).1 hx⟩
theorem Gone.one {s : Sto} {c : Int} (h : c ∈ s.lost) : Gone s [c] := by
  have ho := lost_ok h
  refine ⟨ho, by simp, fun x hx => ?_⟩
  simp at hx; subst hx
  exact (lost_mem ho _).1 h
theorem Gone.h_ok {s : Sto} {cells : List Int} (g : Gone s cells) : (s.clr cells).h.ok := by
  obtain ⟨⟨⟨l1, l2, l3, l4, l5⟩, o1, o2, o3⟩, _⟩ := g.ok
  refine ⟨⟨?_, ?_, ?_, l4, l5⟩, ?_, ?_, ?_⟩ <;> simp only [Sto.clr, clrL_len]
  · exact l1
  · exact l2
  · exact l3
  · exact clrL_okP o1
  · exact clrL_okP o2
  · exact o3
theorem Gone.getD {s : Sto} {cells : List Int} (g : Gone s cells) {a : Nat} (ha : Reach s.h a) : (clrL s.h.L cells).getD a 0 = s.h.L.getD a 0 ∧ (clrL s.h.R cells).getD a 0 = s.h.R.getD a 0 := by
  have hlt := ha.lt g.ok.1
  have hR : s.h.R.length = s.h.L.length := g.ok.1.1.2.2.1
  have na : (a : Int) ∉ cells := fun q => by
    obtain ⟨_, i, _, e, hn⟩ := g.un _ q
    obtain rfl : a = i := by omega
    exact hn ha
  have nl : s.h.L.getD a 0 ∉ cells := fun q => by
    obtain ⟨_, i, _, e, hn⟩ := g.un _ q
    exact hn (.left ha e)
  have nr : s.h.R.getD a 0 ∉ cells := fun q => by
    obtain ⟨_, i, _, e, hn⟩ := g.un _ q
    exact hn (.right ha e)
  rw [clrL_getD hlt, clrL_getD (by omega)]
  unfold clrAt
  rw [if_neg (by rintro (q | q); exact nl q; exact na q), if_neg (by rintro (q | q); exact nr q; exact na q)]
  exact ⟨rfl, rfl⟩
theorem Gone.reach {s : Sto} {cells : List Int} (g : Gone s cells) (c : Nat) : Reach (s.clr cells).h c ↔ Reach s.h c := by
  constructor
  · intro q
    refine Reach.sub (h := (s.clr cells).h) (fun c => Reach s.h c) (fun j c hj hc => .root hj hc) (fun a c ha hc => ?_) (fun a c ha hc => ?_) q
    · rw [show (s.clr cells).h.L = clrL s.h.L cells from rfl, (g.getD ha).1] at hc; exact .left ha hc
    · rw [show (s.clr cells).h.R = clrL s.h.R cells from rfl, (g.getD ha).2] at hc; exact .right ha hc
  · intro q
    have : Reach (s.clr cells).h c ∧ Reach s.h c := by
      refine Reach.sub (h := s.h) (fun c => Reach (s.clr cells).h c ∧ Reach s.h c) (fun j c hj hc => ⟨.root hj hc, .root hj hc⟩) (fun a c ha hc => ⟨.left ha.1 ?_, .left ha.2 hc⟩) (fun a c ha hc => ⟨.right ha.1 ?_, .right ha.2 hc⟩) q
      · exact (g.getD ha.2).1.trans hc
      · exact (g.getD ha.2).2.trans hc
    exact this.1
theorem Gone.fr {s : Sto} {cells : List Int} (g : Gone s cells) {c : Int} (h : c ∈ s.F ∨ c ∈ cells) : (s.clr cells).h.fr c := by
  have hR : s.h.R.length = s.h.L.length := g.ok.1.1.2.2.1
  rcases h with h | h
  · obtain ⟨⟨a1, a2⟩, a3, a4, a5, a6, a7⟩ := g.ok.mem h
    have c1 : c ≠ -1 := by omega
    refine ⟨⟨a1, by simpa only [Sto.clr, clrL_len] using a2⟩, ?_, ?_, ?_, ?_, a7⟩
    · rw [show (s.clr cells).h.L = clrL s.h.L cells from rfl, clrL_getD (by omega)]; unfold clrAt; split
      · rfl
      · exact a3
    · rw [show (s.clr cells).h.R = clrL s.h.R cells from rfl, clrL_getD (by omega)]; unfold clrAt; split
      · rfl
      · exact a4
    · intro q; rcases clrL_mem q with q | q
      · exact c1 q
      · exact a5 q.1
    · intro q; rcases clrL_mem q with q | q
      · exact c1 q
      · exact a6 q.1
  · obtain ⟨hF, i, hi, rfl, hn⟩ := g.un _ h
    refine ⟨⟨by omega, by simp only [Sto.clr, clrL_len]; omega⟩, ?_, ?_, ?_, ?_, ?_⟩
    · rw [show (s.clr cells).h.L = clrL s.h.L cells from rfl, clrL_getD (by omega)]; unfold clrAt
      rw [if_pos (.inr (by simpa using h))]
    · rw [show (s.clr cells).h.R = clrL s.h.R cells from rfl, clrL_getD (by omega)]; unfold clrAt
      rw [if_pos (.inr (by simpa using h))]
    · intro q; rcases clrL_mem q with q | q
      · omega
      · exact q.2 h
    · intro q; rcases clrL_mem q with q | q
      · omega
      · exact q.2 h
    · intro q
      obtain ⟨j, hj, e⟩ := mem_getD q
      exact hn (.root hj e)
theorem take_of_nodup {l : List Int} (h : l.Nodup) : ∀ i, i < l.length → l.getD i 0 ∉ l.take i := by
  intro i hi hm
  rw [List.mem_take_iff_getElem] at hm
  obtain ⟨j, hj, e⟩ := hm
  have hj' : j < i := by omega
  unfold List.Nodup at h
  rw [List.pairwise_iff_getElem] at h
  have := h j i (by omega) hi hj'
  apply this
  rw [e, List.getD_eq_getElem?_getD, List.getElem?_eq_getElem hi]; rfl
theorem Sto.ok_of {s : Sto} (h : s.h.ok) (nd : s.F.Nodup) (hf : ∀ c, c ∈ s.F → s.h.fr c) : s.ok :=
  ⟨h, fun i hi => ⟨hf _ (getD_mem hi), take_of_nodup nd i hi⟩⟩
theorem Gone.clr_ok {s : Sto} {cells : List Int} (g : Gone s cells) : (s.clr cells).ok := by
  refine Sto.ok_of g.h_ok ?_ ?_
  · show (s.F ++ cells).Nodup
    rw [List.nodup_append]
    refine ⟨g.ok.nd, g.nd, ?_⟩
    intro x hx y hy e
    subst e
    exact (g.un _ hy).1 hx
  · intro c hc
    have hc : c ∈ s.F ++ cells := hc
    rw [List.mem_append] at hc
    exact g.fr hc
theorem Gone.lost_mem {s : Sto} {cells : List Int} (g : Gone s cells) (x : Int) : x ∈ (s.clr cells).lost ↔ x ∈ s.lost ∧ x ∉ cells := by
  rw [S.lost_mem g.clr_ok, S.lost_mem g.ok]
  show x ∉ s.F ++ cells ∧ _ ↔ _
  rw [List.mem_append]
  constructor
  · rintro ⟨h1, i, h2, h3, h4⟩
    refine ⟨⟨fun q => h1 (.inl q), i, by simpa only [Sto.clr, clrL_len] using h2, h3, fun q => h4 ((g.reach i).2 q)⟩, fun q => h1 (.inr q)⟩
  · rintro ⟨⟨h1, i, h2, h3, h4⟩, h5⟩
    exact ⟨by rintro (q | q); exact h1 q; exact h5 q, i, by simpa only [Sto.clr, clrL_len] using h2, h3, fun q => h4 ((g.reach i).1 q)⟩
theorem coll_lost {s : Sto} (ho : s.ok) : s.coll.lost = [] := by
  have g := Gone.lost ho
  have e : s.coll = s.clr s.lost := by rw [Sto.coll, if_pos ((Sto.ok_iff s).2 ho)]
  rw [e]
  apply List.eq_nil_iff_forall_not_mem.2
  intro x hx
  have := (g.lost_mem x).1 hx
  exact this.2 this.1
theorem coll_eq {s : Sto} (ho : s.ok) : s.coll = s.clr s.lost := by rw [Sto.coll, if_pos ((Sto.ok_iff s).2 ho)]
theorem coll_ok {s : Sto} (ho : s.ok) : s.coll.ok := by rw [coll_eq ho]; exact (Gone.lost ho).clr_ok
theorem clr_nil (s : Sto) : s.clr [] = s := by
  obtain ⟨⟨L, R, T⟩, F⟩ := s
  simp [Sto.clr, clrL_nil]
theorem coll_twice {s : Sto} (ho : s.ok) : s.coll.coll = s.coll := by
  rw [coll_eq (coll_ok ho), coll_lost ho, clr_nil]
theorem clrL_two (l a b : List Int) (hb : (-1 : Int) ∉ b) : clrL (clrL l a) b = clrL l (a ++ b) := by
  unfold clrL
  rw [List.length_map, List.length_range]
  apply List.map_congr_left
  intro i hi
  rw [List.mem_range] at hi
  unfold clrAt
  rw [getD_range_map hi]
  simp only [List.mem_append, clrAt]
  by_cases h1 : l.getD i 0 ∈ a ∨ (i : Int) ∈ a
  · rw [if_pos h1]
    have e : (l.getD i 0 ∈ a ∨ l.getD i 0 ∈ b) ∨ (i : Int) ∈ a ∨ (i : Int) ∈ b := by
      rcases h1 with q | q
      · exact .inl (.inl q)
      · exact .inr (.inl q)
    rw [if_pos e]
    split <;> rfl
  · rw [if_neg h1]
    have n1 : l.getD i 0 ∉ a := fun q => h1 (.inl q)
    have n2 : (i : Int) ∉ a := fun q => h1 (.inr q)
    by_cases h2 : l.getD i 0 ∈ b ∨ (i : Int) ∈ b
    · rw [if_pos h2, if_pos (show (l.getD i 0 ∈ a ∨ l.getD i 0 ∈ b) ∨ (i : Int) ∈ a ∨ (i : Int) ∈ b by rcases h2 with q | q; exact .inl (.inr q); exact .inr (.inr q))]
    · rw [if_neg h2, if_neg (by rintro ((q | q) | (q | q)); exact n1 q; exact h2 (.inl q); exact n2 q; exact h2 (.inr q))]
/-- How many cells are reached. -/
noncomputable def Hp.live (h : Hp) : Nat := h.reach.count true
end Go.Proofs.YtbobhbhgomkgpaaGreatDoor.S

/- Plain laws of the common model: allocation and operations. Own work of this claim; no program in sight. -/
namespace Go.Proofs.YtbobhbhgomkgpaaGreatDoor.S
set_option linter.all false

theorem mem_set_of {l : List Int} {i : Nat} {x y : Int} (h : y ∈ l.set i x) : y = x ∨ y ∈ l := (List.mem_or_eq_of_mem_set h).symm
theorem getD_set' {l : List Int} {i j : Nat} {x : Int} (hj : j < l.length) : (l.set i x).getD j 0 = if i = j then x else l.getD j 0 := by
  by_cases h : i < l.length
  · exact getD_set h
  · rw [List.set_eq_of_length_le (by omega), if_neg (by omega)]
theorem okP_set' {l : List Int} {n : Nat} (h : okP l n) (k : Nat) {x : Int} (hx : -1 ≤ x ∧ x < n) : okP (l.set k x) n := by
  intro j hj
  simp only [List.length_set] at hj
  rw [getD_set' hj]; split
  · exact hx
  · exact h j hj
theorem okP_mem {l : List Int} {n : Nat} (h : okP l n) {x : Int} (hx : x ∈ l) : -1 ≤ x ∧ x < n := by
  obtain ⟨i, hi, rfl⟩ := mem_getD hx
  exact h i hi
/-- A root is put: it stays a store when what it points to is no free cell. -/
theorem root_ok {s : Sto} (ho : s.ok) (a : Nat) {x : Int} (hx : x = -1 ∨ x ∈ s.h.L ∨ x ∈ s.h.R ∨ x ∈ s.h.T) : Sto.ok ⟨⟨s.h.L, s.h.R, s.h.T.set a x⟩, s.F⟩ := by
  obtain ⟨⟨l1, l2, l3, l4, l5⟩, o1, o2, o3⟩ := ho.1
  have hb : -1 ≤ x ∧ x < s.h.L.length := by
    rcases hx with rfl | q | q | q
    · omega
    · exact okP_mem o1 q
    · exact okP_mem o2 q
    · exact okP_mem o3 q
  refine Sto.ok_of ⟨⟨l1, l2, l3, by simpa using l4, by simpa using l5⟩, o1, o2, okP_set' o3 a hb⟩ ho.nd ?_
  intro c hc
  obtain ⟨a1, a3, a4, a5, a6, a7⟩ := ho.mem hc
  refine ⟨a1, a3, a4, a5, a6, fun q => ?_⟩
  rcases mem_set_of q with rfl | q
  · rcases hx with e | q | q | q
    · omega
    · exact a5 q
    · exact a6 q
    · exact a7 q
  · exact a7 q
/-- A field of a cell that a root points to is put. -/
theorem put_ok {s : Sto} (ho : s.ok) {f to : Int} (hf : f ∈ s.h.T) (hf0 : f ≠ -1) (ht : to ∈ s.h.T) : Sto.ok ⟨⟨s.h.L.set f.toNat to, s.h.R, s.h.T⟩, s.F⟩ ∧ Sto.ok ⟨⟨s.h.L, s.h.R.set f.toNat to, s.h.T⟩, s.F⟩ := by
  obtain ⟨⟨l1, l2, l3, l4, l5⟩, o1, o2, o3⟩ := ho.1
  have hb := okP_mem o3 ht
  have hfb := okP_mem o3 hf
  constructor
  · refine Sto.ok_of ⟨⟨by simpa using l1, by simpa using l2, by simpa using l3, l4, l5⟩, ?_, ?_, ?_⟩ ho.nd ?_
    · simpa using okP_set' o1 f.toNat hb
    · simpa using o2
    · simpa using o3
    · intro c hc
      obtain ⟨a1, a3, a4, a5, a6, a7⟩ := ho.mem hc
      have hcf : c ≠ f := fun e => a7 (e ▸ hf)
      refine ⟨by simpa using a1, ?_, a4, fun q => ?_, a6, a7⟩
      · show (s.h.L.set f.toNat to).getD c.toNat 0 = -1
        rw [getD_set' (by omega), if_neg (by omega)]; exact a3
      · rcases mem_set_of q with rfl | q
        · exact a7 ht
        · exact a5 q
  · refine Sto.ok_of ⟨⟨l1, l2, by simpa using l3, l4, l5⟩, o1, ?_, o3⟩ ho.nd ?_
    · exact okP_set' o2 f.toNat hb
    · intro c hc
      obtain ⟨a1, a3, a4, a5, a6, a7⟩ := ho.mem hc
      have hcf : c ≠ f := fun e => a7 (e ▸ hf)
      refine ⟨a1, a3, ?_, a5, fun q => ?_, a7⟩
      · show (s.h.R.set f.toNat to).getD c.toNat 0 = -1
        rw [getD_set' (by omega), if_neg (by omega)]; exact a4
      · rcases mem_set_of q with rfl | q
        · exact a7 ht
        · exact a6 q
/-- The first free cell. -/
theorem alc_cell {s : Sto} {r : Int} (h : s.alcOk r) : s.F.getD 0 0 ∈ s.F ∧ s.F = s.F.getD 0 0 :: s.F.drop 1 ∧ s.F.getD 0 0 ∉ s.F.drop 1 := by
  have hF := h.2.2.2
  have e : s.F = s.F.getD 0 0 :: s.F.drop 1 := by
    cases hq : s.F with
    | nil => rw [hq] at hF; exact absurd rfl hF
    | cons a l => simp
  refine ⟨getD_mem (by omega), e, ?_⟩
  have nd := h.1.nd
  rw [e] at nd
  exact (List.nodup_cons.1 nd).1
/-- A free cell is taken: the store with a root x instead of it. -/
theorem alc_drop {s : Sto} {r : Int} (h : s.alcOk r) {x : Int} (hx : x = -1 ∨ x = s.F.getD 0 0) : Sto.ok ⟨⟨s.h.L, s.h.R, s.h.T.set r.toNat x⟩, s.F.drop 1⟩ := by
  obtain ⟨m, e, n⟩ := alc_cell h
  have ho := h.1
  obtain ⟨⟨l1, l2, l3, l4, l5⟩, o1, o2, o3⟩ := ho.1
  have hc := ho.mem m
  have nd := ho.nd
  rw [e] at nd
  refine Sto.ok_of ⟨⟨l1, l2, l3, by simpa using l4, by simpa using l5⟩, o1, o2, okP_set' o3 _ ?_⟩ (List.nodup_cons.1 nd).2 ?_
  · rcases hx with rfl | rfl
    · omega
    · have := hc.1; omega
  · intro c hm
    have hm : c ∈ s.F.drop 1 := hm
    obtain ⟨a1, a3, a4, a5, a6, a7⟩ := ho.mem (List.mem_of_mem_drop hm)
    refine ⟨a1, a3, a4, a5, a6, fun q => ?_⟩
    rcases mem_set_of q with rfl | q
    · rcases hx with e | e
      · omega
      · rw [e] at hm; exact n hm
    · exact a7 q
theorem alc_ok {s : Sto} {r : Int} (h : s.alcOk r) : (s.alcS r).ok := by
  rw [Sto.alcS, if_pos h]; exact alc_drop h (.inr rfl)
theorem rt_mem {s : Sto} {j : Int} (h : 0 ≤ j ∧ j < s.h.T.length) : s.h.T.getD j.toNat 0 ∈ s.h.T := getD_mem (by omega)
theorem do_ok {s : Sto} {k a b : Int} (h : s.runOk k a b) : (s.doS k a b).ok := by
  obtain ⟨ho, ⟨⟨k1, k2⟩, a1, a2, a3, b1, b2⟩, hb⟩ := h
  have hbT : k ≠ 1 → k ≠ 7 → b < s.h.T.length := fun x y => by rw [if_neg (by omega)] at hb; exact hb
  unfold Sto.doS
  by_cases c1 : k = 1
  · rw [if_pos c1]
    by_cases g : s.alcOk a
    · rw [if_pos g]; exact alc_ok g
    · rw [if_neg g]; exact ho
  rw [if_neg c1]
  by_cases c2 : k = 2
  · rw [if_pos c2]; exact root_ok ho _ (.inr (.inr (.inr (rt_mem ⟨b1, hbT c1 (by omega)⟩))))
  rw [if_neg c2]
  by_cases c7 : k = 7
  · rw [if_pos c7]; exact root_ok ho _ (.inl rfl)
  rw [if_neg c7]
  have hbT := hbT c1 c7
  have hm := rt_mem ⟨b1, hbT⟩
  have hm2 := rt_mem ⟨a1, a3⟩
  by_cases c3 : k = 3 ∨ k = 4
  · rw [if_pos c3]
    by_cases g : s.h.T.getD b.toNat 0 = -1
    · rw [if_pos g]; exact ho
    · rw [if_neg g]
      have hlt := okP_mem ho.1.2.2.2 hm
      have hR : s.h.R.length = s.h.L.length := ho.1.1.2.2.1
      by_cases c4 : k = 4
      · rw [if_pos c4]; exact root_ok ho _ (.inr (.inr (.inl (getD_mem (by omega)))))
      · rw [if_neg c4]; exact root_ok ho _ (.inr (.inl (getD_mem (by omega))))
  rw [if_neg c3]
  by_cases g : s.h.T.getD a.toNat 0 = -1
  · rw [if_pos g]; exact ho
  rw [if_neg g]
  have := put_ok ho hm2 g hm
  split
  · exact this.1
  · exact this.2
/-- What an operation makes reached was reached, or was free. -/
theorem do_reach {s : Sto} {k a b : Int} (h : s.runOk k a b) {i : Nat} (q : Reach (s.doS k a b).h i) : Reach s.h i ∨ k = 1 ∧ s.alcOk a ∧ (i : Int) = s.F.getD 0 0 := by
  obtain ⟨ho, ⟨⟨k1, k2⟩, a1, a2, a3, b1, b2⟩, hb⟩ := h
  have hbT : k ≠ 1 → k ≠ 7 → b < s.h.T.length := fun x y => by rw [if_neg (by omega)] at hb; exact hb
  have rootL : ∀ {x : Int}, (∀ c : Nat, x = c → Reach s.h c) → ∀ {i}, Reach ⟨s.h.L, s.h.R, s.h.T.set a.toNat x⟩ i → Reach s.h i := by
    intro x hx i q
    refine Reach.sub (h := ⟨s.h.L, s.h.R, s.h.T.set a.toNat x⟩) (fun c => Reach s.h c) (fun j c hj hc => ?_) (fun a c ha hc => .left ha hc) (fun a c ha hc => .right ha hc) q
    have hj : j < (s.h.T.set a.toNat x).length := hj
    rw [List.length_set] at hj
    have hc : (s.h.T.set a.toNat x).getD j 0 = c := hc
    rw [getD_set' hj] at hc
    split at hc
    · exact hx c hc
    · exact .root hj hc
  unfold Sto.doS at q
  by_cases c1 : k = 1
  · rw [if_pos c1] at q
    by_cases g : s.alcOk a
    · rw [if_pos g, Sto.alcS, if_pos g] at q
      have hf := ho.mem (alc_cell g).1
      have : Reach s.h i ∨ (i : Int) = s.F.getD 0 0 := by
        refine Reach.sub (fun c => Reach s.h c ∨ (c : Int) = s.F.getD 0 0) (fun j c hj hc => ?_) (fun a c ha hc => ?_) (fun a c ha hc => ?_) q
        · have hj : j < (s.h.T.set a.toNat (s.F.getD 0 0)).length := hj
          rw [List.length_set] at hj
          have hc : (s.h.T.set a.toNat (s.F.getD 0 0)).getD j 0 = c := hc
          rw [getD_set' hj] at hc
          split at hc
          · exact .inr hc.symm
          · exact .inl (.root hj hc)
        · rcases ha with ha | ha
          · exact .inl (.left ha hc)
          · have := hf.2.1
            have hc : s.h.L.getD a 0 = c := hc
            rw [← ha, Int.toNat_natCast] at this
            omega
        · rcases ha with ha | ha
          · exact .inl (.right ha hc)
          · have := hf.2.2.1
            have hc : s.h.R.getD a 0 = c := hc
            rw [← ha, Int.toNat_natCast] at this
            omega
      rcases this with q | q
      · exact .inl q
      · exact .inr ⟨c1, g, q⟩
    · rw [if_neg g] at q; exact .inl q
  left
  rw [if_neg c1] at q
  by_cases c2 : k = 2
  · rw [if_pos c2] at q
    refine rootL (fun c hc => .root (j := b.toNat) ?_ hc) q
    have := hbT c1 (by omega); omega
  rw [if_neg c2] at q
  by_cases c7 : k = 7
  · rw [if_pos c7] at q
    exact rootL (fun c hc => by omega) q
  rw [if_neg c7] at q
  have hbT := hbT c1 c7
  have hrt : ∀ c : Nat, s.h.T.getD b.toNat 0 = c → Reach s.h c := fun c hc => .root (j := b.toNat) (by omega) hc
  by_cases c3 : k = 3 ∨ k = 4
  · rw [if_pos c3] at q
    by_cases g : s.h.T.getD b.toNat 0 = -1
    · rw [if_pos g] at q; exact q
    · rw [if_neg g] at q
      have hlt := okP_mem ho.1.2.2.2 (rt_mem ⟨b1, hbT⟩)
      have hr := hrt (s.h.T.getD b.toNat 0).toNat (by omega)
      refine rootL (fun c hc => ?_) q
      by_cases c4 : k = 4
      · rw [if_pos c4] at hc; exact .right hr hc
      · rw [if_neg c4] at hc; exact .left hr hc
  rw [if_neg c3] at q
  by_cases g : s.h.T.getD a.toNat 0 = -1
  · rw [if_pos g] at q; exact q
  rw [if_neg g] at q
  have hlt := okP_mem ho.1.2.2.2 (rt_mem ⟨a1, a3⟩)
  have hR : s.h.R.length = s.h.L.length := ho.1.1.2.2.1
  split at q
  · refine Reach.sub (h := ⟨s.h.L.set (s.h.T.getD a.toNat 0).toNat (s.h.T.getD b.toNat 0), s.h.R, s.h.T⟩) (fun c => Reach s.h c) (fun j c hj hc => .root hj hc) (fun x c ha hc => ?_) (fun x c ha hc => .right ha hc) q
    have hc : (s.h.L.set (s.h.T.getD a.toNat 0).toNat (s.h.T.getD b.toNat 0)).getD x 0 = c := hc
    rw [getD_set' (ha.lt ho.1)] at hc
    split at hc
    · exact hrt c hc
    · exact .left ha hc
  · refine Reach.sub (h := ⟨s.h.L, s.h.R.set (s.h.T.getD a.toNat 0).toNat (s.h.T.getD b.toNat 0), s.h.T⟩) (fun c => Reach s.h c) (fun j c hj hc => .root hj hc) (fun x c ha hc => .left ha hc) (fun x c ha hc => ?_) q
    have hc : (s.h.R.set (s.h.T.getD a.toNat 0).toNat (s.h.T.getD b.toNat 0)).getD x 0 = c := hc
    rw [getD_set' (by have := ha.lt ho.1; omega)] at hc
    split at hc
    · exact hrt c hc
    · exact .right ha hc
theorem doS_L (s : Sto) (k a b : Int) : (s.doS k a b).h.L.length = s.h.L.length ∧ (s.doS k a b).h.T.length = s.h.T.length := by
  unfold Sto.doS Sto.alcS
  repeat' split
  all_goals simp [Sto.root]
end Go.Proofs.YtbobhbhgomkgpaaGreatDoor.S

/- The common model, fifth part: collectors by steps. Own work of this claim; no program in sight. -/
namespace Go.Proofs.YtbobhbhgomkgpaaGreatDoor.S
set_option linter.all false

/-- A collector: its phase, colors, place. -/
structure Gcc where
  p : Int
  C : List Int
  a : Int
def colOk (C : List Int) (n : Nat) : Prop := C.length = n ∧ ∀ j, j < C.length → (0 ≤ C.getD j 0 ∧ C.getD j 0 ≤ 2)
instance decPc1 (C : List Int) (n : Nat) : Decidable (colOk C n) := by unfold colOk; infer_instance
def Gcc.atOk (g : Gcc) (s : Sto) : Prop := 0 ≤ g.a ∧ ((g.p = 0 ∨ g.p = 2) ∧ g.a = 0 ∨ g.p = 1 ∧ g.a < s.h.T.length ∨ g.p = 3 ∧ g.a < s.h.L.length)
instance decPc2 (g : Gcc) (s : Sto) : Decidable (g.atOk s) := by unfold Gcc.atOk; infer_instance
def Gcc.ok (g : Gcc) (s : Sto) : Prop := s.ok ∧ colOk g.C s.h.L.length ∧ g.atOk s
instance decPc3 (g : Gcc) (s : Sto) : Decidable (g.ok s) := by unfold Gcc.ok; infer_instance
def Gcc.same (x y : Gcc) : Bool := decide (x.p = y.p) && (decide (x.a = y.a) && decide (x.C = y.C))
theorem Gcc.same_self (x : Gcc) : x.same x = true := by simp [Gcc.same]
def Gcc.zero : Gcc := ⟨0, [], 0⟩
/-- A cell is shaded. -/
def shd (C : List Int) (c : Int) : List Int := if c ≠ -1 ∧ C.getD c.toNat 0 = 0 then C.set c.toNat 1 else C
theorem shd_len (C : List Int) (c : Int) : (shd C c).length = C.length := by unfold shd; split <;> simp
theorem shd_getD {C : List Int} {c : Int} {j : Nat} (hj : j < C.length) : (shd C c).getD j 0 = if c ≠ -1 ∧ c.toNat = j ∧ C.getD j 0 = 0 then 1 else C.getD j 0 := by
  unfold shd
  by_cases h : c ≠ -1 ∧ C.getD c.toNat 0 = 0
  · rw [if_pos h, getD_set' hj]
    by_cases e : c.toNat = j
    · subst e; rw [if_pos rfl, if_pos ⟨h.1, rfl, h.2⟩]
    · rw [if_neg e, if_neg (by rintro ⟨_, q, _⟩; exact e q)]
  · rw [if_neg h, if_neg (by rintro ⟨q1, q2, q3⟩; subst q2; exact h ⟨q1, q3⟩)]
theorem shd_ok {C : List Int} {n : Nat} {c : Int} (h : colOk C n) : colOk (shd C c) n := by
  refine ⟨by rw [shd_len]; exact h.1, fun j hj => ?_⟩
  rw [shd_len] at hj
  rw [shd_getD hj]
  have := h.2 j hj
  split <;> omega
theorem col_set {C : List Int} {n : Nat} {x : Int} (h : colOk C n) (i : Nat) (hx : 0 ≤ x ∧ x ≤ 2) : colOk (C.set i x) n := by
  refine ⟨by rw [List.length_set]; exact h.1, fun j hj => ?_⟩
  rw [List.length_set] at hj
  rw [getD_set' hj]
  have := h.2 j hj
  split <;> omega
/-- New cells have a color. -/
def Gcc.newOk (g : Gcc) (s : Sto) (c : Int) : Prop := g.ok s ∧ 0 ≤ c ∧ c < s.h.L.length
instance decPc4 (g : Gcc) (s : Sto) (c : Int) : Decidable (g.newOk s c) := by unfold Gcc.newOk; infer_instance
def Gcc.newC (g : Gcc) (c : Int) : Int := if g.p = 1 ∨ g.p = 2 ∨ g.p = 3 ∧ g.a ≤ c then 2 else 0
def Gcc.new (g : Gcc) (s : Sto) (c : Int) : Gcc := if g.newOk s c then ⟨g.p, g.C.set c.toNat (g.newC c), g.a⟩ else .zero
def Gcc.shade (g : Gcc) (s : Sto) (c : Int) : Gcc := if g.newOk s c then ⟨g.p, if g.p = 1 ∨ g.p = 2 then shd g.C c else g.C, g.a⟩ else .zero
theorem new_law {g : Gcc} {s : Sto} {c : Int} (h : g.newOk s c) : (∀ i : Nat, i < g.C.length → (i : Int) ≠ c → (g.new s c).C.getD i 0 = g.C.getD i 0) ∧ (g.new s c).ok s ∧ (g.new s c).C.getD c.toNat 0 ≠ 1 ∧ (g.p = 0 → (g.new s c).C.getD c.toNat 0 = 0) ∧ (g.new s c).p = g.p ∧ (g.new s c).a = g.a ∧ (g.new s c).newOk s c ∧ (g.new s c).new s c = g.new s c := by
  have hl : c.toNat < g.C.length := by have := h.1.2.1.1; have := h.2; omega
  have e : g.new s c = ⟨g.p, g.C.set c.toNat (g.newC c), g.a⟩ := by rw [Gcc.new, if_pos h]
  have hok : (g.new s c).ok s := by
    rw [e]
    refine ⟨h.1.1, col_set h.1.2.1 _ ?_, h.1.2.2⟩
    unfold Gcc.newC; split <;> omega
  have hnw : (g.new s c).newOk s c := ⟨hok, h.2⟩
  refine ⟨?_, hok, ?_, ?_, by rw [e], by rw [e], hnw, ?_⟩
  · intro i hi hc
    rw [e]
    show (g.C.set _ _).getD i 0 = _
    rw [getD_set' hi, if_neg (by have := h.2; omega)]
  · rw [e]
    show (g.C.set _ _).getD _ 0 ≠ 1
    rw [getD_set hl, if_pos rfl]
    unfold Gcc.newC; split <;> omega
  · intro hp
    rw [e]
    show (g.C.set _ _).getD _ 0 = 0
    rw [getD_set hl, if_pos rfl]
    unfold Gcc.newC; rw [if_neg (by omega)]
  · rw [Gcc.new, if_pos hnw, e]
    simp [Gcc.newC]
theorem shade_law {g : Gcc} {s : Sto} {c : Int} (h : g.newOk s c) : (g.shade s c).ok s ∧ (g.p = 1 ∨ g.p = 2 → (g.shade s c).C.getD c.toNat 0 ≠ 0) ∧ (g.shade s c).p = g.p ∧ (g.p ≠ 1 → g.p ≠ 2 → g.shade s c = g) := by
  have hl : c.toNat < g.C.length := by have := h.1.2.1.1; have := h.2; omega
  have e : g.shade s c = ⟨g.p, if g.p = 1 ∨ g.p = 2 then shd g.C c else g.C, g.a⟩ := by rw [Gcc.shade, if_pos h]
  refine ⟨?_, ?_, by rw [e], ?_⟩
  · rw [e]
    refine ⟨h.1.1, ?_, h.1.2.2⟩
    dsimp only
    split
    · exact shd_ok h.1.2.1
    · exact h.1.2.1
  · intro hp
    rw [e]
    show (if g.p = 1 ∨ g.p = 2 then shd g.C c else g.C).getD _ 0 ≠ 0
    rw [if_pos hp, shd_getD hl]
    split
    · omega
    · rename_i q
      intro z
      exact q ⟨by have := h.2; omega, rfl, z⟩
  · intro h1 h2
    rw [e, if_neg (by omega)]
/-- No black cell points to a white one. -/
def colHolds (h : Hp) (C : List Int) : Prop := h.ok ∧ colOk C h.L.length ∧ ∀ i, i < C.length → C.getD i 0 = 2 → (h.L.getD i 0 ≠ -1 → C.getD (h.L.getD i 0).toNat 0 ≠ 0) ∧ (h.R.getD i 0 ≠ -1 → C.getD (h.R.getD i 0).toNat 0 ≠ 0)
open Classical in
noncomputable def colHoldsB (h : Hp) (C : List Int) : Bool := decide (colHolds h C)
theorem shd_holds {h : Hp} {C : List Int} {c : Int} (q : colHolds h C) : colHolds h (shd C c) := by
  refine ⟨q.1, shd_ok q.2.1, fun i hi h2 => ?_⟩
  rw [shd_len] at hi
  rw [shd_getD hi] at h2
  have hl := q.2.1.1
  have hR : h.R.length = h.L.length := q.1.1.2.2.1
  have hC : C.getD i 0 = 2 := by split at h2 <;> omega
  have := q.2.2 i hi hC
  have key : ∀ {x : Int}, (x ≠ -1 → C.getD x.toNat 0 ≠ 0) → -1 ≤ x ∧ x < h.L.length → x ≠ -1 → (shd C c).getD x.toNat 0 ≠ 0 := by
    intro x hx hb h1
    rw [shd_getD (by omega)]
    split
    · omega
    · exact hx h1
  exact ⟨key this.1 (q.1.2.1 i (by omega)), key this.2 (q.1.2.2.1 i (by omega))⟩
end Go.Proofs.YtbobhbhgomkgpaaGreatDoor.S

/- The common model, sixth part: a collector's steps. Own work of this claim; no program in sight. -/
namespace Go.Proofs.YtbobhbhgomkgpaaGreatDoor.S
set_option linter.all false

def blk (h : Hp) (C : List Int) (i : Nat) : List Int := (shd (shd C (h.L.getD i 0)) (h.R.getD i 0)).set i 2
/-- The first root that points to a white cell. -/
def wrt (T C : List Int) : Int := match T.findIdx? (fun p => decide (p ≠ -1 ∧ C.getD p.toNat 0 = 0)) with | some i => i | none => -1
theorem wrt_at {T C : List Int} {i : Nat} (hi : i < T.length) (h : ∀ j, j < i → ¬ (T.getD j 0 ≠ -1 ∧ C.getD (T.getD j 0).toNat 0 = 0)) (he : T.getD i 0 ≠ -1 ∧ C.getD (T.getD i 0).toNat 0 = 0) : wrt T C = i := by
  have : T.findIdx? (fun p => decide (p ≠ -1 ∧ C.getD p.toNat 0 = 0)) = some i := by
    rw [List.findIdx?_eq_some_iff_getElem]
    refine ⟨hi, ?_, fun j hj => ?_⟩
    · rw [List.getD_eq_getElem?_getD (l := T), List.getElem?_eq_getElem hi] at he
      exact decide_eq_true he
    · have := h j hj
      rw [List.getD_eq_getElem?_getD (l := T), List.getElem?_eq_getElem (by omega)] at this
      rw [decide_eq_true_eq]
      exact this
  simp only [wrt, this]
theorem wrt_none {T C : List Int} (h : ∀ j, j < T.length → ¬ (T.getD j 0 ≠ -1 ∧ C.getD (T.getD j 0).toNat 0 = 0)) : wrt T C = -1 := by
  have : T.findIdx? (fun p => decide (p ≠ -1 ∧ C.getD p.toNat 0 = 0)) = none := by
    rw [List.findIdx?_eq_none_iff]
    intro x hx
    obtain ⟨j, hj, rfl⟩ := List.getElem_of_mem hx
    have := h j hj
    rw [List.getD_eq_getElem?_getD (l := T), List.getElem?_eq_getElem hj] at this
    rw [decide_eq_false_iff_not]
    exact this
  simp only [wrt, this]
theorem wrt_cases (T C : List Int) : (∃ i : Nat, i < T.length ∧ wrt T C = i ∧ T.getD i 0 ≠ -1 ∧ C.getD (T.getD i 0).toNat 0 = 0) ∨ wrt T C = -1 ∧ ∀ j, j < T.length → T.getD j 0 ≠ -1 → C.getD (T.getD j 0).toNat 0 ≠ 0 := by
  unfold wrt
  split
  · rename_i i h
    rw [List.findIdx?_eq_some_iff_getElem] at h
    obtain ⟨hi, h1, _⟩ := h
    left
    refine ⟨i, hi, rfl, ?_⟩
    rw [List.getD_eq_getElem?_getD (l := T), List.getElem?_eq_getElem hi]
    exact of_decide_eq_true h1
  · rename_i h
    rw [List.findIdx?_eq_none_iff] at h
    right
    refine ⟨rfl, fun j hj h1 h2 => ?_⟩
    have := h _ (getD_mem hj)
    rw [decide_eq_false_iff_not] at this
    exact this ⟨h1, h2⟩
theorem idx_cases (l : List Int) (n : Int) : (∃ i : Nat, i < l.length ∧ idx l n = i ∧ l.getD i 0 = n) ∨ idx l n = -1 ∧ n ∉ l := by
  unfold idx
  split
  · rename_i i h
    rw [List.findIdx?_eq_some_iff_getElem] at h
    obtain ⟨hi, h1, _⟩ := h
    left
    refine ⟨i, hi, rfl, ?_⟩
    rw [List.getD_eq_getElem?_getD, List.getElem?_eq_getElem hi]
    exact of_decide_eq_true h1
  · rename_i h
    rw [List.findIdx?_eq_none_iff] at h
    right
    refine ⟨rfl, fun hm => ?_⟩
    have := h n hm
    simp at this
def Gcc.sw (g : Gcc) (s : Sto) : Int := if g.p = 3 ∧ g.C.getD g.a.toNat 0 = 0 ∧ g.a ∉ s.F then g.a else -1
def Gcc.swept (g : Gcc) (s : Sto) : Int := if g.ok s then g.sw s else -1
def Gcc.stOk (g : Gcc) (s : Sto) : Prop := g.ok s ∧ ¬ (g.sw s ≠ -1 ∧ g.sw s ∈ s.h.T)
instance decPd1 (g : Gcc) (s : Sto) : Decidable (g.stOk s) := by unfold Gcc.stOk; infer_instance
def Gcc.nx (g : Gcc) (n : Nat) (ph : Int) : Gcc := if g.a + 1 = n then ⟨ph, g.C, 0⟩ else ⟨g.p, g.C, g.a + 1⟩
def Gcc.mark (g : Gcc) (s : Sto) : Gcc :=
  if 0 ≤ idx g.C 1 then ⟨g.p, blk s.h g.C (idx g.C 1).toNat, g.a⟩
  else if 0 ≤ wrt s.h.T g.C then ⟨g.p, shd g.C (s.h.T.getD (wrt s.h.T g.C).toNat 0), g.a⟩
  else ⟨3, g.C, g.a⟩
/-- A step: the collector's, and the store's. -/
def Gcc.stG (g : Gcc) (s : Sto) : Gcc :=
  if g.p = 0 then ⟨1, List.replicate g.C.length 0, 0⟩
  else if g.p = 1 then Gcc.nx ⟨1, shd g.C (s.h.T.getD g.a.toNat 0), g.a⟩ s.h.T.length 2
  else if g.p = 2 then g.mark s
  else Gcc.nx ⟨3, g.C.set g.a.toNat 0, g.a⟩ g.C.length 0
def Gcc.stS (g : Gcc) (s : Sto) : Sto := if g.sw s ≠ -1 then s.clr [g.sw s] else s
def Gcc.stepG (g : Gcc) (s : Sto) : Gcc := if g.stOk s then g.stG s else .zero
def Gcc.stepS (g : Gcc) (s : Sto) : Sto := if g.stOk s then g.stS s else .zero
theorem blk_ok {h : Hp} {C : List Int} {n : Nat} {i : Nat} (q : colOk C n) : colOk (blk h C i) n := col_set (shd_ok (shd_ok q)) i (by omega)
theorem blk_len (h : Hp) (C : List Int) (i : Nat) : (blk h C i).length = C.length := by simp [blk, shd_len]
theorem colOk_rep (n : Nat) : colOk (List.replicate n 0) n := by
  refine ⟨by simp, fun j hj => ?_⟩
  rw [List.length_replicate] at hj
  have : (List.replicate n (0 : Int)).getD j 0 = 0 := by simp [List.getD_eq_getElem?_getD, List.getElem?_replicate]; split <;> rfl
  omega
/-- What a step needs of a store, if it is not valid. -/
structure Gcc.weak (g : Gcc) (s : Sto) : Prop where
  h : s.h.ok
  c : colOk g.C s.h.L.length
  a : g.atOk s
theorem Gcc.ok.weak {g : Gcc} {s : Sto} (h : g.ok s) : g.weak s := ⟨h.1.1, h.2.1, h.2.2⟩
theorem clr_hok {s : Sto} {cells : List Int} (h : s.h.ok) : (s.clr cells).h.ok := by
  obtain ⟨⟨l1, l2, l3, l4, l5⟩, o1, o2, o3⟩ := h
  refine ⟨⟨?_, ?_, ?_, l4, l5⟩, ?_, ?_, ?_⟩ <;> simp only [Sto.clr, clrL_len]
  · exact l1
  · exact l2
  · exact l3
  · exact clrL_okP o1
  · exact clrL_okP o2
  · exact o3
theorem stS_lens (g : Gcc) (s : Sto) : (g.stS s).h.L.length = s.h.L.length ∧ (g.stS s).h.R.length = s.h.R.length ∧ (g.stS s).h.T.length = s.h.T.length ∧ (g.stS s).F.length ≤ s.F.length + 1 := by
  unfold Gcc.stS
  split
  · simp [Sto.clr, clrL_len]
  · simp
theorem Gcc.weak.step {g : Gcc} {s : Sto} (w : g.weak s) : (g.stG s).weak (g.stS s) := by
  have hl := stS_lens g s
  have hh : (g.stS s).h.ok := by
    unfold Gcc.stS
    split
    · exact clr_hok w.h
    · exact w.h
  obtain ⟨⟨l1, l2, l3, l4, l5⟩, o1, o2, o3⟩ := w.h
  have hc := w.c
  have ha := w.a
  unfold Gcc.atOk at ha
  have hC := hc.1
  unfold Gcc.stG
  by_cases p0 : g.p = 0
  · rw [if_pos p0]
    refine ⟨hh, by rw [hl.1, ← hC]; exact colOk_rep _, ?_⟩
    unfold Gcc.atOk; rw [hl.2.2.1]; dsimp only; omega
  rw [if_neg p0]
  by_cases p1 : g.p = 1
  · rw [if_pos p1]
    unfold Gcc.nx
    dsimp only
    split
    · refine ⟨hh, by rw [hl.1]; exact shd_ok hc, ?_⟩
      unfold Gcc.atOk; dsimp only; omega
    · refine ⟨hh, by rw [hl.1]; exact shd_ok hc, ?_⟩
      unfold Gcc.atOk; rw [hl.2.2.1]; dsimp only; omega
  rw [if_neg p1]
  by_cases p2 : g.p = 2
  · rw [if_pos p2]
    unfold Gcc.mark
    split
    · refine ⟨hh, by rw [hl.1]; exact blk_ok hc, ?_⟩
      unfold Gcc.atOk; dsimp only; omega
    · split
      · refine ⟨hh, by rw [hl.1]; exact shd_ok hc, ?_⟩
        unfold Gcc.atOk; dsimp only; omega
      · refine ⟨hh, by rw [hl.1]; exact hc, ?_⟩
        unfold Gcc.atOk; rw [hl.1]; dsimp only; omega
  rw [if_neg p2]
  unfold Gcc.nx
  dsimp only
  split
  · refine ⟨hh, by rw [hl.1]; exact col_set hc _ (by omega), ?_⟩
    unfold Gcc.atOk; dsimp only; omega
  · refine ⟨hh, by rw [hl.1]; exact col_set hc _ (by omega), ?_⟩
    unfold Gcc.atOk; rw [hl.1]; dsimp only; omega
theorem sw_at {g : Gcc} {s : Sto} (h : g.sw s ≠ -1) : g.p = 3 ∧ g.sw s = g.a ∧ g.C.getD g.a.toNat 0 = 0 ∧ g.a ∉ s.F := by
  unfold Gcc.sw at h ⊢
  split at h
  · rename_i q; rw [if_pos q]; exact ⟨q.1, rfl, q.2.1, q.2.2⟩
  · exact absurd rfl h
end Go.Proofs.YtbobhbhgomkgpaaGreatDoor.S

/- Plain laws of the common model: pointers counted, sources, a root put. Own work of this claim; no program in sight. -/
namespace Go.Proofs.YtbobhbhgomkgpaaGreatDoor.S
set_option linter.all false

def ptN (l : List Int) : Nat → Nat
  | 0 => 0
  | k + 1 => if l.getD k 0 = -1 then ptN l k else ptN l k + 1
def Hp.ptrs (h : Hp) : Int := if h.valid then (ptN h.all h.all.length : Nat) else 0
def srcN (h : Hp) (c : Int) : Nat → List Int
  | 0 => []
  | n + 1 => if h.L.getD n 0 = c ∨ h.R.getD n 0 = c then srcN h c n ++ [(n : Int)] else srcN h c n
def Hp.srcs (h : Hp) (c : Int) : List Int := if h.ok ∧ 0 ≤ c ∧ c < h.L.length then srcN h c h.L.length else []
/-- A root is put. -/
def Hp.zero : Hp := ⟨[], [], []⟩
def Hp.prOk (h : Hp) (r x : Int) : Prop := h.ok ∧ 0 ≤ r ∧ r < h.T.length ∧ -1 ≤ x ∧ x < h.L.length
instance decPe1 (h : Hp) (r x : Int) : Decidable (h.prOk r x) := by unfold Hp.prOk; infer_instance
def Hp.pr (h : Hp) (r x : Int) : Hp := if h.prOk r x then ⟨h.L, h.R, h.T.set r.toNat x⟩ else .zero
end Go.Proofs.YtbobhbhgomkgpaaGreatDoor.S

/- Plain laws of the common model: a collector that began idle keeps live cells and frees the others. Own work of this claim; no program in sight. -/
namespace Go.Proofs.YtbobhbhgomkgpaaGreatDoor.S
set_option linter.all false

/-- Where a collector that began idle is. -/
structure Tri (s : Sto) (g : Gcc) : Prop where
  ok : g.ok s
  r1 : g.p = 1 → (∀ j : Nat, (j : Int) < g.a → s.h.T.getD j 0 ≠ -1 → g.C.getD (s.h.T.getD j 0).toNat 0 ≠ 0) ∧ (∀ c, c < g.C.length → g.C.getD c 0 ≠ 2) ∧ (∀ c, c < g.C.length → g.C.getD c 0 ≠ 0 → Reach s.h c)
  r2 : g.p = 2 → colHolds s.h g.C ∧ (∀ c, c < g.C.length → g.C.getD c 0 ≠ 0 → Reach s.h c)
  r3 : g.p = 3 → ∀ c : Nat, c < s.h.L.length → g.a ≤ c → (g.C.getD c 0 ≠ 0 ↔ Reach s.h c)
theorem tri_idle {s : Sto} {g : Gcc} (h : g.ok s) (hp : g.p = 0) : Tri s g := ⟨h, by omega, by omega, by omega⟩
theorem Tri.sw {s : Sto} {g : Gcc} (t : Tri s g) (h : g.sw s ≠ -1) : ¬ Reach s.h (g.sw s).toNat ∧ 0 ≤ g.sw s ∧ g.sw s < s.h.L.length ∧ g.sw s ∉ s.F := by
  obtain ⟨p3, e, c0, nf⟩ := sw_at h
  have ha := t.ok.2.2
  unfold Gcc.atOk at ha
  rw [e]
  have hlt : g.a.toNat < s.h.L.length := by omega
  refine ⟨fun q => ?_, ha.1, by omega, nf⟩
  exact (t.r3 p3 g.a.toNat hlt (by omega)).2 q c0
theorem Tri.stOk {s : Sto} {g : Gcc} (t : Tri s g) : g.stOk s := by
  refine ⟨t.ok, fun ⟨h1, h2⟩ => ?_⟩
  obtain ⟨q, a, b, _⟩ := t.sw h1
  obtain ⟨j, hj, e⟩ := mem_getD h2
  exact q (.root hj (by omega))
theorem Tri.gone {s : Sto} {g : Gcc} (t : Tri s g) (h : g.sw s ≠ -1) : Gone s [g.sw s] := by
  obtain ⟨q, a, b, nf⟩ := t.sw h
  refine ⟨t.ok.1, by simp, fun x hx => ?_⟩
  simp at hx; subst hx
  exact ⟨nf, _, by omega, by omega, q⟩
theorem Tri.stS_ok {s : Sto} {g : Gcc} (t : Tri s g) : (g.stS s).ok ∧ ∀ c, Reach (g.stS s).h c ↔ Reach s.h c := by
  unfold Gcc.stS
  split
  · rename_i h; exact ⟨(t.gone h).clr_ok, (t.gone h).reach⟩
  · exact ⟨t.ok.1, fun _ => Iff.rfl⟩
theorem stS_id {s : Sto} {g : Gcc} (h : g.p ≠ 3) : g.stS s = s := by
  unfold Gcc.stS Gcc.sw
  rw [if_neg (by intro q; exact q (if_neg (by rintro ⟨a, _⟩; exact h a)))]
theorem shd_reach {h : Hp} {C : List Int} {x : Int} (hC : ∀ c, c < C.length → C.getD c 0 ≠ 0 → Reach h c) (hx : x ≠ -1 → Reach h x.toNat) : ∀ c, c < (shd C x).length → (shd C x).getD c 0 ≠ 0 → Reach h c := by
  intro c hc q
  rw [shd_len] at hc
  rw [shd_getD hc] at q
  split at q
  · rename_i z; rw [← z.2.1]; exact hx z.1
  · exact hC c hc q
theorem Tri.step {s : Sto} {g : Gcc} (t : Tri s g) : Tri (g.stS s) (g.stG s) := by
  have w := t.ok.weak.step
  have hS := t.stS_ok
  have hl := stS_lens g s
  have hok : (g.stG s).ok (g.stS s) := ⟨hS.1, w.c, w.a⟩
  have hcl := t.ok.2.1.1
  have hTok := t.ok.1.1.2.2.2
  have hLok := t.ok.1.1.2.1
  have hRok := t.ok.1.1.2.2.1
  have hRl : s.h.R.length = s.h.L.length := t.ok.1.1.1.2.2.1
  have hat := t.ok.2.2
  unfold Gcc.atOk at hat
  by_cases p0 : g.p = 0
  · have e : g.stG s = ⟨1, List.replicate g.C.length 0, 0⟩ := by rw [Gcc.stG, if_pos p0]
    have z : ∀ c, (List.replicate g.C.length (0 : Int)).getD c 0 = 0 := by
      intro c; simp [List.getD_eq_getElem?_getD, List.getElem?_replicate]; split <;> rfl
    refine ⟨hok, fun _ => ?_, ?_, ?_⟩ <;> rw [e] <;> dsimp only
    · exact ⟨by intro j hj; omega, fun c _ => by rw [z]; omega, fun c _ q => absurd (z c) q⟩
    · intro q; omega
    · intro q; omega
  by_cases p1 : g.p = 1
  · have eS : g.stS s = s := stS_id (by omega)
    rw [eS] at hok ⊢
    obtain ⟨i1, i2, i3⟩ := t.r1 p1
    have hTa : g.a.toNat < s.h.T.length := by omega
    have hTr : s.h.T.getD g.a.toNat 0 ≠ -1 → Reach s.h (s.h.T.getD g.a.toNat 0).toNat := fun q => .root hTa (by have := okP_get hTok hTa; omega)
    have e : g.stG s = Gcc.nx ⟨1, shd g.C (s.h.T.getD g.a.toNat 0), g.a⟩ s.h.T.length 2 := by rw [Gcc.stG, if_neg p0, if_pos p1]
    have j3 := shd_reach i3 hTr
    have j2 : ∀ c, c < (shd g.C (s.h.T.getD g.a.toNat 0)).length → (shd g.C (s.h.T.getD g.a.toNat 0)).getD c 0 ≠ 2 := by
      intro c hc
      rw [shd_len] at hc
      rw [shd_getD hc]
      have := i2 c hc
      split <;> omega
    have j1 : ∀ j : Nat, (j : Int) < g.a + 1 → s.h.T.getD j 0 ≠ -1 → (shd g.C (s.h.T.getD g.a.toNat 0)).getD (s.h.T.getD j 0).toNat 0 ≠ 0 := by
      intro j hj q
      have hjl : j < s.h.T.length := by omega
      have := okP_get hTok hjl
      rw [shd_getD (by omega)]
      split
      · omega
      · rename_i z
        by_cases ej : (j : Int) = g.a
        · have : g.a.toNat = j := by omega
          rw [this] at z
          intro y; exact z ⟨q, rfl, y⟩
        · exact i1 j (by omega) q
    unfold Gcc.nx at e
    dsimp only at e
    split at e
    · rename_i ea
      refine ⟨hok, ?_, fun _ => ?_, ?_⟩ <;> rw [e] <;> dsimp only
      · intro q; omega
      · refine ⟨⟨t.ok.1.1, shd_ok t.ok.2.1, fun i hi q => absurd q (j2 i hi)⟩, j3⟩
      · intro q; omega
    · refine ⟨hok, fun _ => ?_, ?_, ?_⟩ <;> rw [e] <;> dsimp only
      · exact ⟨j1, j2, j3⟩
      · intro q; omega
      · intro q; omega
  by_cases p2 : g.p = 2
  · have eS : g.stS s = s := stS_id (by omega)
    rw [eS] at hok ⊢
    obtain ⟨⟨c1, c2, c3⟩, c4⟩ := t.r2 p2
    have e : g.stG s = g.mark s := by rw [Gcc.stG, if_neg p0, if_neg p1, if_pos p2]
    unfold Gcc.mark at e
    split at e
    · rename_i hi
      obtain ⟨i, hil, ei, hg1⟩ : ∃ i : Nat, i < g.C.length ∧ idx g.C 1 = i ∧ g.C.getD i 0 = 1 := by
        rcases idx_cases g.C 1 with q | q
        · exact q
        · omega
      rw [ei, Int.toNat_natCast] at e
      have hri := c4 i hil (by omega)
      have kL := okP_get hLok (show i < s.h.L.length by omega)
      have kR := okP_get hRok (show i < s.h.R.length by omega)
      have a1 := shd_reach c4 (x := s.h.L.getD i 0) (fun q => .left hri (by omega))
      have a2 := shd_reach a1 (x := s.h.R.getD i 0) (fun q => .right hri (by omega))
      have b1 := shd_holds (c := s.h.R.getD i 0) (shd_holds (c := s.h.L.getD i 0) ⟨c1, c2, c3⟩)
      refine ⟨hok, ?_, fun _ => ?_, ?_⟩ <;> rw [e] <;> dsimp only
      · intro q; omega
      · have nz : ∀ x : Int, -1 ≤ x ∧ x < s.h.L.length → x ≠ -1 → (shd (shd g.C (s.h.L.getD i 0)) (s.h.R.getD i 0)).getD x.toNat 0 ≠ 0 → (blk s.h g.C i).getD x.toNat 0 ≠ 0 := by
          intro x hx _ q
          unfold blk
          rw [getD_set' (by rw [shd_len, shd_len]; omega)]
          split
          · omega
          · exact q
        refine ⟨⟨c1, blk_ok c2, fun j hj q => ?_⟩, fun c hc q => ?_⟩
        · rw [blk_len] at hj
          have oL := hLok j (by omega)
          have oR := hRok j (by omega)
          by_cases ej : i = j
          · subst ej
            constructor
            · intro z
              refine nz _ oL z ?_
              rw [shd_getD (by rw [shd_len]; omega)]
              split
              · omega
              · rw [shd_getD (by omega)]
                split
                · omega
                · rename_i y; intro w; exact y ⟨z, rfl, w⟩
            · intro z
              refine nz _ oR z ?_
              rw [shd_getD (by rw [shd_len]; omega)]
              split
              · omega
              · rename_i y; intro w; exact y ⟨z, rfl, w⟩
          · have q2 : (shd (shd g.C (s.h.L.getD i 0)) (s.h.R.getD i 0)).getD j 0 = 2 := by
              unfold blk at q
              rw [getD_set' (by rw [shd_len, shd_len]; omega), if_neg ej] at q
              exact q
            have := b1.2.2 j (by rw [shd_len, shd_len]; omega) q2
            exact ⟨fun z => nz _ oL z (this.1 z), fun z => nz _ oR z (this.2 z)⟩
        · rw [blk_len] at hc
          unfold blk at q
          rw [getD_set' (by rw [shd_len, shd_len]; omega)] at q
          split at q
          · rename_i z; subst z; exact hri
          · exact a2 c (by rw [shd_len, shd_len]; omega) q
      · intro q; omega
    · rename_i hi
      have hno : (1 : Int) ∉ g.C := by
        rcases idx_cases g.C 1 with ⟨i, _, q, _⟩ | q
        · omega
        · exact q.2
      split at e
      · rename_i hw
        obtain ⟨i, hil, ei, hT, hz⟩ : ∃ i : Nat, i < s.h.T.length ∧ wrt s.h.T g.C = i ∧ s.h.T.getD i 0 ≠ -1 ∧ g.C.getD (s.h.T.getD i 0).toNat 0 = 0 := by
          rcases wrt_cases s.h.T g.C with q | q
          · exact q
          · omega
        rw [ei, Int.toNat_natCast] at e
        have kT := okP_get hTok hil
        refine ⟨hok, ?_, fun _ => ?_, ?_⟩ <;> rw [e] <;> dsimp only
        · intro q; omega
        · exact ⟨shd_holds ⟨c1, c2, c3⟩, shd_reach c4 (fun q => .root hil (by omega))⟩
        · intro q; omega
      · rename_i hw
        have hroots : ∀ j, j < s.h.T.length → s.h.T.getD j 0 ≠ -1 → g.C.getD (s.h.T.getD j 0).toNat 0 ≠ 0 := by
          rcases wrt_cases s.h.T g.C with ⟨i, _, q, _⟩ | q
          · omega
          · exact q.2
        have blackOf : ∀ c, c < g.C.length → g.C.getD c 0 ≠ 0 → g.C.getD c 0 = 2 := by
          intro c hc q
          have h1 := c2.2 c hc
          have h2 : g.C.getD c 0 ≠ 1 := fun z => hno (z ▸ getD_mem hc)
          omega
        have all : ∀ c, Reach s.h c → c < g.C.length ∧ g.C.getD c 0 ≠ 0 := by
          intro c q
          refine Reach.sub (h := s.h) (fun c => c < g.C.length ∧ g.C.getD c 0 ≠ 0) (fun j c hj hc => ?_) (fun a c ha hc => ?_) (fun a c ha hc => ?_) q
          · have := hTok j hj
            have h1 := hroots j hj (by omega)
            rw [hc, Int.toNat_natCast] at h1
            exact ⟨by omega, h1⟩
          · have h1 := (c3 a ha.1 (blackOf a ha.1 ha.2)).1 (by omega)
            rw [hc, Int.toNat_natCast] at h1
            have := hLok a (by omega)
            exact ⟨by omega, h1⟩
          · have h1 := (c3 a ha.1 (blackOf a ha.1 ha.2)).2 (by omega)
            rw [hc, Int.toNat_natCast] at h1
            have := hRok a (by omega)
            exact ⟨by omega, h1⟩
        refine ⟨hok, ?_, ?_, fun _ => ?_⟩ <;> rw [e] <;> dsimp only
        · intro q; omega
        · intro q; omega
        · intro c hc _
          exact ⟨fun q => c4 c (by omega) q, fun q => (all c q).2⟩
  have p3 : g.p = 3 := by omega
  have e : g.stG s = Gcc.nx ⟨3, g.C.set g.a.toNat 0, g.a⟩ g.C.length 0 := by rw [Gcc.stG, if_neg p0, if_neg p1, if_neg p2]
  unfold Gcc.nx at e
  dsimp only at e
  split at e
  · exact tri_idle hok (by rw [e])
  · refine ⟨hok, ?_, ?_, fun _ => ?_⟩ <;> rw [e] <;> dsimp only
    · intro q; omega
    · intro q; omega
    · intro c hc hac
      rw [hl.1] at hc
      rw [getD_set' (by omega), if_neg (by omega), hS.2 c]
      exact t.r3 p3 c hc (by omega)
end Go.Proofs.YtbobhbhgomkgpaaGreatDoor.S

/- Plain laws of the common model: runs of operations. Own work of this claim; no program in sight. -/
namespace Go.Proofs.YtbobhbhgomkgpaaGreatDoor.S
set_option linter.all false

/-- As many operations as come without an error: the store, and how many. -/
def Sto.goS (s : Sto) : List (Int × Int × Int) → Sto
  | [] => s
  | o :: l => if s.runE o.1 o.2.1 o.2.2 = 0 then (s.runS o.1 o.2.1 o.2.2).goS l else s
def Sto.goN (s : Sto) : List (Int × Int × Int) → Nat
  | [] => 0
  | o :: l => if s.runE o.1 o.2.1 o.2.2 = 0 then (s.runS o.1 o.2.1 o.2.2).goN l + 1 else 0
def opAt (l : List (Int × Int × Int)) (i : Nat) : Int × Int × Int := l.getD i (0, 0, 0)
def opsV (l : List (Int × Int × Int)) (n : Nat) : Prop := l.length ≤ 12 ∧ ∀ j, j < l.length → opOk (opAt l j).1 (opAt l j).2.1 (opAt l j).2.2 n
instance decPg1 (l : List (Int × Int × Int)) (n : Nat) : Decidable (opsV l n) := by unfold opsV; infer_instance
def Sto.opsOk (s : Sto) (l : List (Int × Int × Int)) : Prop := s.ok ∧ opsV l s.h.T.length
instance decPg2 (s : Sto) (l : List (Int × Int × Int)) : Decidable (s.opsOk l) := by unfold Sto.opsOk; infer_instance
def Sto.opsS (s : Sto) (l : List (Int × Int × Int)) : Sto := if s.opsOk l then s.goS l else Sto.zero
def Sto.opsN (s : Sto) (l : List (Int × Int × Int)) : Nat := if s.opsOk l then s.goN l else 0
theorem go_step {s : Sto} {l : List (Int × Int × Int)} {i : Nat} (h : i < l.length) : l.drop i = opAt l i :: l.drop (i + 1) := by
  rw [List.drop_eq_getElem_cons h, opAt, List.getD_eq_getElem?_getD, List.getElem?_eq_getElem h]; rfl
theorem goS_step {s : Sto} {l : List (Int × Int × Int)} {i : Nat} (h : i < l.length) : s.goS (l.drop i) = if s.runE (opAt l i).1 (opAt l i).2.1 (opAt l i).2.2 = 0 then (s.runS (opAt l i).1 (opAt l i).2.1 (opAt l i).2.2).goS (l.drop (i + 1)) else s := by
  rw [go_step (s := s) h]; rfl
theorem goN_step {s : Sto} {l : List (Int × Int × Int)} {i : Nat} (h : i < l.length) : s.goN (l.drop i) = if s.runE (opAt l i).1 (opAt l i).2.1 (opAt l i).2.2 = 0 then (s.runS (opAt l i).1 (opAt l i).2.1 (opAt l i).2.2).goN (l.drop (i + 1)) + 1 else 0 := by
  rw [go_step (s := s) h]; rfl
theorem runS_ok {s : Sto} {k a b : Int} (h : s.runOk k a b) : (s.runS k a b).ok := by rw [Sto.runS, if_pos h]; exact do_ok h
theorem runS_L {s : Sto} {k a b : Int} (h : s.runOk k a b) : (s.runS k a b).h.L.length = s.h.L.length ∧ (s.runS k a b).h.T.length = s.h.T.length := by rw [Sto.runS, if_pos h]; exact doS_L s k a b
theorem goS_len (l : List (Int × Int × Int)) : ∀ s : Sto, ((s.goS l).h.L.length ≤ s.h.L.length ∧ (s.goS l).h.R.length ≤ s.h.R.length ∧ (s.goS l).h.T.length ≤ s.h.T.length) ∧ (s.goS l).F.length ≤ s.F.length := by
  induction l with
  | nil => intro s; exact ⟨⟨Nat.le_refl _, Nat.le_refl _, Nat.le_refl _⟩, Nat.le_refl _⟩
  | cons o l ih =>
    intro s
    unfold Sto.goS
    split
    · have := ih (s.runS o.1 o.2.1 o.2.2)
      have := runS_len s o.1 o.2.1 o.2.2
      omega
    · exact ⟨⟨Nat.le_refl _, Nat.le_refl _, Nat.le_refl _⟩, Nat.le_refl _⟩
theorem opsS_len (s : Sto) (l : List (Int × Int × Int)) : ((s.opsS l).h.L.length ≤ s.h.L.length ∧ (s.opsS l).h.R.length ≤ s.h.R.length ∧ (s.opsS l).h.T.length ≤ s.h.T.length) ∧ (s.opsS l).F.length ≤ s.F.length := by
  unfold Sto.opsS
  split
  · exact goS_len l s
  · simp [Sto.zero]
end Go.Proofs.YtbobhbhgomkgpaaGreatDoor.S

/- Plain laws of the common model: a step of a valid collector, and runs of steps. Own work of this claim; no program in sight. -/
namespace Go.Proofs.YtbobhbhgomkgpaaGreatDoor.S
set_option linter.all false

theorem clr1_fr {s : Sto} (ho : s.ok) {x : Int} (hx : 0 ≤ x ∧ x < s.h.L.length) (hT : x ∉ s.h.T) {c : Int} (h : c ∈ s.F ∨ c = x) : (s.clr [x]).h.fr c := by
  have hR : s.h.R.length = s.h.L.length := ho.1.1.2.2.1
  rcases h with h | h
  · obtain ⟨⟨a1, a2⟩, a3, a4, a5, a6, a7⟩ := ho.mem h
    have c1 : c ≠ -1 := by omega
    refine ⟨⟨a1, by simpa only [Sto.clr, clrL_len] using a2⟩, ?_, ?_, ?_, ?_, a7⟩
    · rw [show (s.clr [x]).h.L = clrL s.h.L [x] from rfl, clrL_getD (by omega)]; unfold clrAt; split
      · rfl
      · exact a3
    · rw [show (s.clr [x]).h.R = clrL s.h.R [x] from rfl, clrL_getD (by omega)]; unfold clrAt; split
      · rfl
      · exact a4
    · intro q; rcases clrL_mem q with q | q
      · exact c1 q
      · exact a5 q.1
    · intro q; rcases clrL_mem q with q | q
      · exact c1 q
      · exact a6 q.1
  · subst h
    have ci : ((c.toNat : Nat) : Int) = c := by omega
    refine ⟨⟨by omega, by simp only [Sto.clr, clrL_len]; omega⟩, ?_, ?_, ?_, ?_, hT⟩
    · rw [show (s.clr [c]).h.L = clrL s.h.L [c] from rfl, clrL_getD (by omega)]; unfold clrAt
      rw [if_pos (.inr (by simp [ci]))]
    · rw [show (s.clr [c]).h.R = clrL s.h.R [c] from rfl, clrL_getD (by omega)]; unfold clrAt
      rw [if_pos (.inr (by simp [ci]))]
    · intro q; rcases clrL_mem q with q | q
      · omega
      · exact q.2 (by simp)
    · intro q; rcases clrL_mem q with q | q
      · omega
      · exact q.2 (by simp)
theorem clr1_ok {s : Sto} (ho : s.ok) {x : Int} (hx : 0 ≤ x ∧ x < s.h.L.length) (hT : x ∉ s.h.T) (hF : x ∉ s.F) : (s.clr [x]).ok := by
  refine Sto.ok_of (clr_hok ho.1) ?_ fun c hc => ?_
  · show (s.F ++ [x]).Nodup
    rw [List.nodup_append]
    refine ⟨ho.nd, by simp, ?_⟩
    intro a ha b hb e
    simp at hb; subst hb; subst e; exact hF ha
  · have hc : c ∈ s.F ++ [x] := hc
    rw [List.mem_append, List.mem_singleton] at hc
    exact clr1_fr ho hx hT hc
theorem Gcc.stOk.swp {s : Sto} {g : Gcc} (h : g.stOk s) (q : g.sw s ≠ -1) : (0 ≤ g.sw s ∧ g.sw s < s.h.L.length) ∧ g.sw s ∉ s.h.T ∧ g.sw s ∉ s.F := by
  obtain ⟨p3, e, c0, nf⟩ := sw_at q
  have ha := h.1.2.2
  unfold Gcc.atOk at ha
  refine ⟨by omega, fun z => h.2 ⟨q, z⟩, by rw [e]; exact nf⟩
theorem Gcc.stOk.stS_ok {s : Sto} {g : Gcc} (h : g.stOk s) : (g.stS s).ok := by
  unfold Gcc.stS
  split
  · rename_i q
    obtain ⟨a, b, c⟩ := h.swp q
    exact clr1_ok h.1.1 a b c
  · exact h.1.1
theorem Gcc.stOk.step {s : Sto} {g : Gcc} (h : g.stOk s) : (g.stG s).ok (g.stS s) := ⟨h.stS_ok, h.1.weak.step.c, h.1.weak.step.a⟩
theorem stG_phase {s : Sto} {g : Gcc} (h : g.ok s) : (g.stG s).p = g.p ∨ (g.stG s).a = 0 ∧ (g.p = 0 ∧ (g.stG s).p = 1 ∨ g.p = 1 ∧ (g.stG s).p = 2 ∨ g.p = 2 ∧ (g.stG s).p = 3 ∨ g.p = 3 ∧ (g.stG s).p = 0) := by
  have ha := h.2.2
  unfold Gcc.atOk at ha
  unfold Gcc.stG
  by_cases p0 : g.p = 0
  · rw [if_pos p0]; right; dsimp only; omega
  rw [if_neg p0]
  by_cases p1 : g.p = 1
  · rw [if_pos p1]; unfold Gcc.nx; dsimp only
    split
    · right; dsimp only; omega
    · left; dsimp only; omega
  rw [if_neg p1]
  by_cases p2 : g.p = 2
  · rw [if_pos p2]; unfold Gcc.mark
    split
    · left; rfl
    · split
      · left; rfl
      · right; dsimp only; omega
  rw [if_neg p2]
  unfold Gcc.nx; dsimp only
  split
  · right; dsimp only; omega
  · left; dsimp only; omega
/-- Colors, while a collector marks: what changes, and where. -/
theorem shd_grow {C : List Int} (c : Int) {j : Nat} (hj : j < C.length) : (C.getD j 0 ≤ (shd C c).getD j 0) ∧ (j ≠ c.toNat → (shd C c).getD j 0 = C.getD j 0) ∧ (C.getD j 0 ≠ 0 → (shd C c).getD j 0 = C.getD j 0) := by
  rw [shd_getD hj]
  split
  · refine ⟨by omega, fun q => ?_, fun q => ?_⟩ <;> omega
  · exact ⟨by omega, fun _ => rfl, fun _ => rfl⟩
/-- In how many places two lists differ. -/
def difN (C D : List Int) : Nat → Nat
  | 0 => 0
  | k + 1 => if D.getD k 0 ≠ C.getD k 0 then difN C D k + 1 else difN C D k
theorem stG_len (s : Sto) (g : Gcc) : (g.stG s).C.length = g.C.length := by
  unfold Gcc.stG
  split
  · simp
  split
  · unfold Gcc.nx; dsimp only; split <;> simp [shd_len]
  split
  · unfold Gcc.mark; split
    · simp [blk_len]
    · split
      · simp [shd_len]
      · rfl
  · unfold Gcc.nx; dsimp only; split <;> simp
/-- A run's measure. -/
def csum : List Int → Int
  | [] => 0
  | x :: l => x + csum l
theorem csum_set : ∀ (l : List Int) (i : Nat) (x : Int), i < l.length → csum (l.set i x) = csum l - l.getD i 0 + x
  | [], i, x, h => by simp at h
  | a :: l, 0, x, _ => by simp [csum]; omega
  | a :: l, i + 1, x, h => by
    have := csum_set l i x (by simpa using h)
    simp only [List.set_cons_succ, csum, List.getD_cons_succ, this]; omega
theorem csum_b : ∀ (l : List Int), (∀ j, j < l.length → 0 ≤ l.getD j 0 ∧ l.getD j 0 ≤ 2) → 0 ≤ csum l ∧ csum l ≤ 2 * l.length
  | [], _ => by simp [csum]
  | a :: l, h => by
    have h0 := h 0 (by simp)
    have := csum_b l fun j hj => by have := h (j + 1) (by simpa using hj); simpa using this
    simp only [csum, List.length_cons]
    simp at h0
    omega
def Gcc.mu (g : Gcc) (t : Nat) : Nat :=
  if g.p = 0 then 3 * g.C.length + t + 2
  else if g.p = 1 then (t - g.a).toNat + 3 * g.C.length + 1
  else if g.p = 2 then (2 * g.C.length - csum g.C).toNat + 1 + g.C.length
  else (g.C.length - g.a).toNat
theorem shd_csum {C : List Int} {c : Int} (hc : -1 ≤ c ∧ c < C.length) : csum (shd C c) = csum C ∨ csum (shd C c) = csum C + 1 := by
  unfold shd
  split
  · rename_i q
    right
    rw [csum_set _ _ _ (by omega)]; omega
  · left; rfl
theorem mu_step {s : Sto} {g : Gcc} (h : g.ok s) (hq : (g.stG s).p ≠ 0) : (g.stG s).mu s.h.T.length < g.mu s.h.T.length := by
  have hc := h.2.1
  have ha := h.2.2
  have hcb := csum_b g.C hc.2
  have hlc := hc.1
  have hT := h.1.1.2.2.2
  have hL := h.1.1.2.1
  have hR := h.1.1.2.2.1
  have hRl : s.h.R.length = s.h.L.length := h.1.1.1.2.2.1
  unfold Gcc.atOk at ha
  by_cases p0 : g.p = 0
  · have e : g.stG s = ⟨1, List.replicate g.C.length 0, 0⟩ := by rw [Gcc.stG, if_pos p0]
    rw [e]
    unfold Gcc.mu
    rw [if_pos p0]
    dsimp only
    rw [if_neg (by omega), if_pos rfl, List.length_replicate]
    omega
  by_cases p1 : g.p = 1
  · have e : g.stG s = Gcc.nx ⟨1, shd g.C (s.h.T.getD g.a.toNat 0), g.a⟩ s.h.T.length 2 := by rw [Gcc.stG, if_neg p0, if_pos p1]
    have e2 : g.mu s.h.T.length = (s.h.T.length - g.a).toNat + 3 * g.C.length + 1 := by unfold Gcc.mu; rw [if_neg p0, if_pos p1]
    rw [e, e2]
    have hb := csum_b _ (shd_ok (c := s.h.T.getD g.a.toNat 0) hc).2
    rw [shd_len] at hb
    unfold Gcc.nx
    dsimp only
    split
    · unfold Gcc.mu; dsimp only; rw [if_neg (by omega), if_neg (by omega), if_pos rfl, shd_len]; omega
    · unfold Gcc.mu; dsimp only; rw [if_neg (by omega), if_pos rfl, shd_len]; omega
  by_cases p2 : g.p = 2
  · have e : g.stG s = g.mark s := by rw [Gcc.stG, if_neg p0, if_neg p1, if_pos p2]
    have e2 : g.mu s.h.T.length = (2 * g.C.length - csum g.C).toNat + 1 + g.C.length := by unfold Gcc.mu; rw [if_neg p0, if_neg p1, if_pos p2]
    rw [e, e2]
    unfold Gcc.mark
    split
    · rename_i hi
      obtain ⟨i, hil, ei, hg1⟩ : ∃ i : Nat, i < g.C.length ∧ idx g.C 1 = i ∧ g.C.getD i 0 = 1 := by
        rcases idx_cases g.C 1 with q | q
        · exact q
        · omega
      rw [ei, Int.toNat_natCast]
      have hb := csum_b _ (blk_ok (h := s.h) (i := i) hc).2
      rw [blk_len] at hb
      have k1 := hL i (by omega)
      have k2 := hR i (by omega)
      have s1 := shd_csum (C := g.C) (c := s.h.L.getD i 0) (by omega)
      have s2 := shd_csum (C := shd g.C (s.h.L.getD i 0)) (c := s.h.R.getD i 0) (by rw [shd_len]; omega)
      have d1 := (shd_grow (s.h.L.getD i 0) hil).2.2 (by omega)
      have d2 := (shd_grow (C := shd g.C (s.h.L.getD i 0)) (s.h.R.getD i 0) (j := i) (by rw [shd_len]; exact hil)).2.2 (by omega)
      have s3 : csum (blk s.h g.C i) = csum (shd (shd g.C (s.h.L.getD i 0)) (s.h.R.getD i 0)) + 1 := by
        unfold blk
        rw [csum_set _ _ _ (by rw [shd_len, shd_len]; exact hil)]; omega
      unfold Gcc.mu; dsimp only; rw [if_neg (by omega), if_neg (by omega), if_pos (by omega), blk_len]; omega
    · split
      · rename_i hw
        obtain ⟨i, hil, ei, hTi, hz⟩ : ∃ i : Nat, i < s.h.T.length ∧ wrt s.h.T g.C = i ∧ s.h.T.getD i 0 ≠ -1 ∧ g.C.getD (s.h.T.getD i 0).toNat 0 = 0 := by
          rcases wrt_cases s.h.T g.C with q | q
          · exact q
          · omega
        rw [ei, Int.toNat_natCast]
        have k := hT i hil
        have s3 : csum (shd g.C (s.h.T.getD i 0)) = csum g.C + 1 := by
          unfold shd
          rw [if_pos ⟨hTi, hz⟩, csum_set _ _ _ (by omega)]; omega
        have hb := csum_b _ (shd_ok (c := s.h.T.getD i 0) hc).2
        rw [shd_len] at hb
        unfold Gcc.mu; dsimp only; rw [if_neg (by omega), if_neg (by omega), if_pos (by omega), shd_len]; omega
      · unfold Gcc.mu; dsimp only; rw [if_neg (by omega), if_neg (by omega), if_neg (by omega)]; omega
  have p3 : g.p = 3 := by omega
  have e : g.stG s = Gcc.nx ⟨3, g.C.set g.a.toNat 0, g.a⟩ g.C.length 0 := by rw [Gcc.stG, if_neg p0, if_neg p1, if_neg p2]
  have e2 : g.mu s.h.T.length = (g.C.length - g.a).toNat := by unfold Gcc.mu; rw [if_neg p0, if_neg p1, if_neg p2]
  rw [e] at hq ⊢
  rw [e2]
  unfold Gcc.nx at hq ⊢
  dsimp only at hq ⊢
  split
  · rename_i z; rw [if_pos z] at hq; exact absurd rfl hq
  · unfold Gcc.mu; dsimp only; rw [if_neg (by omega), if_neg (by omega), if_neg (by omega), List.length_set]; omega
theorem mu_le {s : Sto} {g : Gcc} (h : g.ok s) : g.mu s.h.T.length ≤ 3 * s.h.L.length + s.h.T.length + 2 := by
  have hc := h.2.1
  have ha := h.2.2
  have hcb := csum_b g.C hc.2
  have hlc := hc.1
  unfold Gcc.atOk at ha
  unfold Gcc.mu
  split
  · omega
  split
  · omega
  split <;> omega
/-- A run: its end, and how many steps it takes; none if a step cannot be made. -/
def runK : Nat → Sto → Gcc → Sto × Gcc × Nat
  | 0, _, _ => (.zero, .zero, 0)
  | k + 1, s, g =>
    if g.stOk s then
      if (g.stG s).p = 0 then (g.stS s, g.stG s, 1)
      else if (runK k (g.stS s) (g.stG s)).2.2 = 0 then (.zero, .zero, 0)
      else ((runK k (g.stS s) (g.stG s)).1, (runK k (g.stS s) (g.stG s)).2.1, (runK k (g.stS s) (g.stG s)).2.2 + 1)
    else (.zero, .zero, 0)
/-- What a run answers behind its first i steps. -/
def runAt (i : Nat) (r : Sto × Gcc × Nat) : Sto × Gcc × Nat := if r.2.2 = 0 then (.zero, .zero, 0) else (r.1, r.2.1, r.2.2 + i)
theorem stS_T (g : Gcc) (s : Sto) : (g.stS s).h.T = s.h.T := by unfold Gcc.stS; split <;> rfl
/-- A run from idle is a collection. -/
structure TriC (x s : Sto) (g : Gcc) : Prop where
  t : Tri s g
  xo : x.ok
  e : g.p ≠ 3 → s = x
  e3 : g.p = 3 → s = x.clr (x.lost.filter fun c => decide (c < g.a))
theorem flsN_asc (r : List Bool) : ∀ n, (flsN r n).Pairwise (· < ·)
  | 0 => by simp [flsN]
  | n + 1 => by
    have ih := flsN_asc r n
    unfold flsN
    split
    · exact ih
    · rw [List.pairwise_append]
      refine ⟨ih, by simp, fun a ha b hb => ?_⟩
      simp at hb; subst hb
      obtain ⟨i, hi, e, _⟩ := (flsN_mem r n a).1 ha
      omega
theorem lost_asc (s : Sto) : s.lost.Pairwise (· < ·) := by
  unfold Sto.lost
  split
  · rw [lkN_eq _ _ _ (Nat.le_refl _), List.take_length]
    exact (flsN_asc _ _).filter _
  · simp
theorem filter_lt_succ : ∀ (l : List Int) (a : Int), l.Pairwise (· < ·) → l.filter (fun c => decide (c < a + 1)) = l.filter (fun c => decide (c < a)) ++ (if a ∈ l then [a] else [])
  | [], a, _ => by simp
  | y :: l, a, h => by
    rw [List.pairwise_cons] at h
    have ih := filter_lt_succ l a h.2
    by_cases h1 : y < a
    · rw [List.filter_cons_of_pos (by simp; omega), List.filter_cons_of_pos (by simp; omega), ih, List.cons_append]
      congr 2
      by_cases h2 : a ∈ l
      · rw [if_pos h2, if_pos (by simp [h2])]
      · rw [if_neg h2, if_neg (by simp [h2]; omega)]
    · have e1 : ∀ b : Int, b ≤ a + 1 → y ≥ a → (l.filter fun c => decide (c < b)) = [] := by
        intro b hb hy
        rw [List.filter_eq_nil_iff]
        intro c hc
        have := h.1 c hc
        simp; omega
      by_cases h2 : y = a
      · subst h2
        rw [List.filter_cons_of_pos (by simp; omega), List.filter_cons_of_neg (by simp), e1 _ (by omega) (by omega), e1 _ (by omega) (by omega), if_pos (by simp)]
        rfl
      · rw [List.filter_cons_of_neg (by simp; omega), List.filter_cons_of_neg (by simp; omega), e1 _ (by omega) (by omega), e1 _ (by omega) (by omega), if_neg]
        · rfl
        · intro q
          rw [List.mem_cons] at q
          rcases q with q | q
          · omega
          · have := h.1 _ q; omega
theorem clr_app (x : Sto) (a b : List Int) (hb : (-1 : Int) ∉ b) : (x.clr a).clr b = x.clr (a ++ b) := by
  simp only [Sto.clr]
  rw [clrL_two _ _ _ hb, clrL_two _ _ _ hb, List.append_assoc]
theorem Gone.sub {s : Sto} {cells : List Int} (p : Int → Bool) (g : Gone s cells) : Gone s (cells.filter p) :=
  ⟨g.ok, g.nd.filter _, fun x hx => g.un x ((List.mem_filter.1 hx).1)⟩
theorem TriC.step {x s : Sto} {g : Gcc} (t : TriC x s g) (hq : (g.stG s).p ≠ 0) : TriC x (g.stS s) (g.stG s) := by
  have ph := stG_phase t.t.ok
  have ha := t.t.ok.2.2
  unfold Gcc.atOk at ha
  refine ⟨t.t.step, t.xo, ?_, ?_⟩
  · intro q
    by_cases p3 : g.p = 3
    · exfalso; omega
    · rw [stS_id p3]; exact t.e p3
  · intro q
    by_cases p3 : g.p = 3
    · have e := t.e3 p3
      have gn := (Gone.lost t.xo).sub (fun c => decide (c < g.a))
      have eG : g.stG s = Gcc.nx ⟨3, g.C.set g.a.toNat 0, g.a⟩ g.C.length 0 := by rw [Gcc.stG, if_neg (by omega), if_neg (by omega), if_neg (by omega)]
      have ea : (g.stG s).a = g.a + 1 := by
        rw [eG] at q ⊢
        unfold Gcc.nx at q ⊢
        dsimp only at q ⊢
        split
        · rename_i z; rw [if_pos z] at q; dsimp only at q; omega
        · rfl
      rw [ea, filter_lt_succ _ _ (lost_asc x)]
      have hlL : s.h.L.length = x.h.L.length := by rw [e]; simp [Sto.clr, clrL_len]
      have hre : Reach s.h g.a.toNat ↔ Reach x.h g.a.toNat := by rw [e]; exact gn.reach _
      have hmF : g.a ∈ s.F ↔ g.a ∈ x.F := by
        rw [e]
        show g.a ∈ x.F ++ _ ↔ _
        rw [List.mem_append, List.mem_filter]
        constructor
        · rintro (w | w)
          · exact w
          · have := w.2; simp at this
        · exact .inl
      have hw : g.sw s ≠ -1 ↔ g.a ∈ x.lost := by
        rw [lost_mem t.xo]
        have hc := t.t.r3 p3 g.a.toNat (by omega) (by omega)
        rw [hre] at hc
        constructor
        · intro w
          obtain ⟨_, _, c0, nf⟩ := sw_at w
          refine ⟨fun z => nf (hmF.2 z), g.a.toNat, by omega, by omega, fun z => hc.2 z c0⟩
        · rintro ⟨w1, i, hi, ei, w2⟩
          obtain rfl : i = g.a.toNat := by omega
          unfold Gcc.sw
          rw [if_pos ⟨p3, Decidable.byContradiction fun z => w2 (hc.1 z), fun z => w1 (hmF.1 z)⟩]
          omega
      unfold Gcc.stS
      by_cases w : g.sw s ≠ -1
      · rw [if_pos w, if_pos (hw.1 w), (sw_at w).2.1]
        conv => lhs; rw [e]
        exact clr_app _ _ _ (by simp; omega)
      · rw [if_neg w, if_neg (fun z => w (hw.2 z)), List.append_nil]
        exact e
    · have eS := stS_id (s := s) p3
      have p2 : (g.stG s).a = 0 := by omega
      rw [eS, p2, t.e p3]
      have : (x.lost.filter fun c => decide (c < 0)) = [] := by
        rw [List.filter_eq_nil_iff]
        intro c hc
        obtain ⟨_, i, _, e, _⟩ := (lost_mem t.xo c).1 hc
        simp; omega
      rw [this, clr_nil]
theorem TriC.fin {x s : Sto} {g : Gcc} (t : TriC x s g) (hq : (g.stG s).p = 0) : g.stS s = x.coll := by
  have ph := stG_phase t.t.ok
  have ha := t.t.ok.2.2
  unfold Gcc.atOk at ha
  have hlc := t.t.ok.2.1.1
  have eG0 : g.p ≠ 0 := by
    intro q
    have : g.stG s = ⟨1, List.replicate g.C.length 0, 0⟩ := by rw [Gcc.stG, if_pos q]
    rw [this] at hq; dsimp only at hq; omega
  have p3 : g.p = 3 := by omega
  have e := t.e3 p3
  have gn := (Gone.lost t.xo).sub (fun c => decide (c < g.a))
  have eG : g.stG s = Gcc.nx ⟨3, g.C.set g.a.toNat 0, g.a⟩ g.C.length 0 := by rw [Gcc.stG, if_neg (by omega), if_neg (by omega), if_neg (by omega)]
  have ea : g.a + 1 = g.C.length := by
    rw [eG] at hq
    unfold Gcc.nx at hq
    dsimp only at hq
    split at hq
    · assumption
    · dsimp only at hq; omega
  have hlL : s.h.L.length = x.h.L.length := by rw [e]; simp [Sto.clr, clrL_len]
  have hre : Reach s.h g.a.toNat ↔ Reach x.h g.a.toNat := by rw [e]; exact gn.reach _
  have hmF : g.a ∈ s.F ↔ g.a ∈ x.F := by
    rw [e]
    show g.a ∈ x.F ++ _ ↔ _
    rw [List.mem_append, List.mem_filter]
    constructor
    · rintro (w | w)
      · exact w
      · have := w.2; simp at this
    · exact .inl
  have hw : g.sw s ≠ -1 ↔ g.a ∈ x.lost := by
    rw [lost_mem t.xo]
    have hc := t.t.r3 p3 g.a.toNat (by omega) (by omega)
    rw [hre] at hc
    constructor
    · intro w
      obtain ⟨_, _, c0, nf⟩ := sw_at w
      refine ⟨fun z => nf (hmF.2 z), g.a.toNat, by omega, by omega, fun z => hc.2 z c0⟩
    · rintro ⟨w1, i, hi, ei, w2⟩
      obtain rfl : i = g.a.toNat := by omega
      unfold Gcc.sw
      rw [if_pos ⟨p3, Decidable.byContradiction fun z => w2 (hc.1 z), fun z => w1 (hmF.1 z)⟩]
      omega
  rw [coll_eq t.xo]
  have all : x.lost = x.lost.filter fun c => decide (c < g.a + 1) := by
    symm
    rw [List.filter_eq_self]
    intro c hc
    obtain ⟨_, i, hi, e, _⟩ := (lost_mem t.xo c).1 hc
    simp; omega
  conv => rhs; rw [all, filter_lt_succ _ _ (lost_asc x)]
  unfold Gcc.stS
  by_cases w : g.sw s ≠ -1
  · rw [if_pos w, if_pos (hw.1 w), (sw_at w).2.1]
    conv => lhs; rw [e]
    exact clr_app _ _ _ (by simp; omega)
  · rw [if_neg w, if_neg (fun z => w (hw.2 z)), List.append_nil]
    exact e
theorem triC_idle {s : Sto} {g : Gcc} (h : g.ok s) (hp : g.p = 0) : TriC s s g := ⟨tri_idle h hp, h.1, fun _ => rfl, by omega⟩
end Go.Proofs.YtbobhbhgomkgpaaGreatDoor.S
