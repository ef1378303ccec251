/- Plain laws of the common model: clearing garbage, allocation, operations. Own work of this claim; no program in sight. -/
import Derived.Test.YtbcnkfkmonpdeaaFq
namespace Go.Proofs.Ytbcnkfkmonpdeaa.S
set_option linter.all false

/-! Reach, generally -/
theorem Reach.sub {h : Hp} (P : Nat → Prop) (hr : ∀ j c : Nat, j < h.T.length → h.T.getD j 0 = c → P c) (hL : ∀ a c : Nat, P a → h.L.getD a 0 = c → P c) (hR : ∀ a c : Nat, P a → h.R.getD a 0 = c → P c) {c : Nat} (q : Reach h c) : P c := by
  induction q with
  | root hj hc => exact hr _ _ hj hc
  | left _ hc ih => exact hL _ _ ih hc
  | right _ hc ih => exact hR _ _ ih hc
theorem mem_all_of {l : List Int} {i : Nat} {c : Nat} (h : l.getD i 0 = c) : (c : Int) ∈ l ∨ c = 0 := by
  by_cases hi : i < l.length
  · left; rw [← h]; exact getD_mem hi
  · right
    rw [List.getD_eq_getElem?_getD, List.getElem?_eq_none (by omega)] at h
    simp at h; omega
theorem Reach.okmem {h : Hp} (ho : h.ok) {c : Nat} (q : Reach h c) : (c : Int) ∈ h.L ∨ (c : Int) ∈ h.R ∨ (c : Int) ∈ h.T := by
  cases q with
  | root hj hc => right; right; rw [← hc]; exact getD_mem hj
  | @left a _ ha hc => left; rw [← hc]; exact getD_mem (ha.lt ho)
  | @right a _ ha hc => right; left; rw [← hc]; exact getD_mem (by rw [ho.1.2.2.1]; exact ha.lt ho)
theorem fr_noreach {h : Hp} (ho : h.ok) {c : Int} (hf : h.fr c) : ¬ Reach h c.toNat := by
  intro q
  have := q.okmem ho
  rw [Int.toNat_of_nonneg hf.1.1] at this
  rcases this with q | q | q
  · exact hf.2.2.2.1 q
  · exact hf.2.2.2.2.1 q
  · exact hf.2.2.2.2.2 q

/-! Clearing cells that are not reached -/
theorem clrAt_eq {l cells : List Int} {i : Nat} (h : clrAt l cells i ≠ -1) : clrAt l cells i = l.getD i 0 ∧ l.getD i 0 ∉ cells ∧ (i : Int) ∉ cells := by
  unfold clrAt at h ⊢
  split
  · rename_i q; rw [if_pos q] at h; exact absurd rfl h
  · rename_i q
    exact ⟨rfl, fun a => q (.inl a), fun a => q (.inr a)⟩
theorem clrL_mem {l cells : List Int} {x : Int} (h : x ∈ clrL l cells) : x = -1 ∨ x ∈ l ∧ x ∉ cells := by
  obtain ⟨i, hi, rfl⟩ := mem_getD h
  rw [clrL_len] at hi
  rw [clrL_getD hi]
  by_cases q : clrAt l cells i = -1
  · exact .inl q
  · have := clrAt_eq q
    rw [this.1]
    exact .inr ⟨getD_mem hi, this.2.1⟩
theorem clrL_okP {l cells : List Int} {n : Nat} (h : okP l n) : okP (clrL l cells) n := by
  intro j hj
  rw [clrL_len] at hj
  rw [clrL_getD hj]
  by_cases q : clrAt l cells j = -1
  · rw [q]; omega
  · rw [(clrAt_eq q).1]; exact h j hj
/-- Cells that may be cleared: not reached, and told once. -/
structure Gone (s : Sto) (cells : List Int) : Prop where
  ok : s.ok
  nd : cells.Nodup
  un : ∀ x, x ∈ cells → x ∉ s.F ∧ ∃ i : Nat, i < s.h.L.length ∧ x = i ∧ ¬ Reach s.h i
theorem Gone.lost {s : Sto} (ho : s.ok) : Gone s s.lost := ⟨ho, lost_nodup s, fun x hx => (lost_mem ho x).1 hx⟩
theorem Gone.one {s : Sto} {c : Int} (h : c ∈ s.lost) : Gone s [c] := by
  have ho := lost_ok h
  refine ⟨ho, by simp, fun x hx => ?_⟩
  simp at hx; subst hx
  exact (lost_mem ho _).1 h
theorem Gone.h_ok {s : Sto} {cells : List Int} (g : Gone s cells) : (s.clr cells).h.ok := by
  obtain ⟨⟨⟨l1, l2, l3, l4, l5⟩, o1, o2, o3⟩, _⟩ := g.ok
  refine ⟨⟨?_, ?_, ?_, l4, l5⟩, ?_, ?_, ?_⟩ <;> simp only [Sto.clr, clrL_len]
  · exact l1
  · exact l2
  · exact l3
  · exact clrL_okP o1
  · exact clrL_okP o2
  · exact o3
theorem Gone.getD {s : Sto} {cells : List Int} (g : Gone s cells) {a : Nat} (ha : Reach s.h a) : (clrL s.h.L cells).getD a 0 = s.h.L.getD a 0 ∧ (clrL s.h.R cells).getD a 0 = s.h.R.getD a 0 := by
  have hlt := ha.lt g.ok.1
  have hR : s.h.R.length = s.h.L.length := g.ok.1.1.2.2.1
  have na : (a : Int) ∉ cells := fun q => by
    obtain ⟨_, i, _, e, hn⟩ := g.un _ q
    obtain rfl : a = i := by omega
    exact hn ha
  have nl : s.h.L.getD a 0 ∉ cells := fun q => by
    obtain ⟨_, i, _, e, hn⟩ := g.un _ q
    exact hn (.left ha e)
  have nr : s.h.R.getD a 0 ∉ cells := fun q => by
    obtain ⟨_, i, _, e, hn⟩ := g.un _ q
    exact hn (.right ha e)
  rw [clrL_getD hlt, clrL_getD (by omega)]
  unfold clrAt
  rw [if_neg (by rintro (q | q); exact nl q; exact na q), if_neg (by rintro (q | q); exact nr q; exact na q)]
  exact ⟨rfl, rfl⟩
theorem Gone.reach {s : Sto} {cells : List Int} (g : Gone s cells) (c : Nat) : Reach (s.clr cells).h c ↔ Reach s.h c := by
  constructor
  · intro q
    refine Reach.sub (h := (s.clr cells).h) (fun c => Reach s.h c) (fun j c hj hc => .root hj hc) (fun a c ha hc => ?_) (fun a c ha hc => ?_) q
    · rw [show (s.clr cells).h.L = clrL s.h.L cells from rfl, (g.getD ha).1] at hc; exact .left ha hc
    · rw [show (s.clr cells).h.R = clrL s.h.R cells from rfl, (g.getD ha).2] at hc; exact .right ha hc
  · intro q
    have : Reach (s.clr cells).h c ∧ Reach s.h c := by
      refine Reach.sub (h := s.h) (fun c => Reach (s.clr cells).h c ∧ Reach s.h c) (fun j c hj hc => ⟨.root hj hc, .root hj hc⟩) (fun a c ha hc => ⟨.left ha.1 ?_, .left ha.2 hc⟩) (fun a c ha hc => ⟨.right ha.1 ?_, .right ha.2 hc⟩) q
      · exact (g.getD ha.2).1.trans hc
      · exact (g.getD ha.2).2.trans hc
    exact this.1
theorem Gone.fr {s : Sto} {cells : List Int} (g : Gone s cells) {c : Int} (h : c ∈ s.F ∨ c ∈ cells) : (s.clr cells).h.fr c := by
  have hR : s.h.R.length = s.h.L.length := g.ok.1.1.2.2.1
  rcases h with h | h
  · obtain ⟨⟨a1, a2⟩, a3, a4, a5, a6, a7⟩ := g.ok.mem h
    have c1 : c ≠ -1 := by omega
    refine ⟨⟨a1, by simpa only [Sto.clr, clrL_len] using a2⟩, ?_, ?_, ?_, ?_, a7⟩
    · rw [show (s.clr cells).h.L = clrL s.h.L cells from rfl, clrL_getD (by omega)]; unfold clrAt; split
      · rfl
      · exact a3
    · rw [show (s.clr cells).h.R = clrL s.h.R cells from rfl, clrL_getD (by omega)]; unfold clrAt; split
      · rfl
      · exact a4
    · intro q; rcases clrL_mem q with q | q
      · exact c1 q
      · exact a5 q.1
    · intro q; rcases clrL_mem q with q | q
      · exact c1 q
      · exact a6 q.1
  · obtain ⟨hF, i, hi, rfl, hn⟩ := g.un _ h
    refine ⟨⟨by omega, by simp only [Sto.clr, clrL_len]; omega⟩, ?_, ?_, ?_, ?_, ?_⟩
    · rw [show (s.clr cells).h.L = clrL s.h.L cells from rfl, clrL_getD (by omega)]; unfold clrAt
      rw [if_pos (.inr (by simpa using h))]
    · rw [show (s.clr cells).h.R = clrL s.h.R cells from rfl, clrL_getD (by omega)]; unfold clrAt
      rw [if_pos (.inr (by simpa using h))]
    · intro q; rcases clrL_mem q with q | q
      · omega
      · exact q.2 h
    · intro q; rcases clrL_mem q with q | q
      · omega
      · exact q.2 h
    · intro q
      obtain ⟨j, hj, e⟩ := mem_getD q
      exact hn (.root hj e)
theorem take_of_nodup {l : List Int} (h : l.Nodup) : ∀ i, i < l.length → l.getD i 0 ∉ l.take i := by
  intro i hi hm
  rw [List.mem_take_iff_getElem] at hm
  obtain ⟨j, hj, e⟩ := hm
  have hj' : j < i := by omega
  unfold List.Nodup at h
  rw [List.pairwise_iff_getElem] at h
  have := h j i (by omega) hi hj'
  apply this
  rw [e, List.getD_eq_getElem?_getD, List.getElem?_eq_getElem hi]; rfl
theorem Sto.ok_of {s : Sto} (h : s.h.ok) (nd : s.F.Nodup) (hf : ∀ c, c ∈ s.F → s.h.fr c) : s.ok :=
  ⟨h, fun i hi => ⟨hf _ (getD_mem hi), take_of_nodup nd i hi⟩⟩
theorem Gone.clr_ok {s : Sto} {cells : List Int} (g : Gone s cells) : (s.clr cells).ok := by
  refine Sto.ok_of g.h_ok ?_ ?_
  · show (s.F ++ cells).Nodup
    rw [List.nodup_append]
    refine ⟨g.ok.nd, g.nd, ?_⟩
    intro x hx y hy e
    subst e
    exact (g.un _ hy).1 hx
  · intro c hc
    have hc : c ∈ s.F ++ cells := hc
    rw [List.mem_append] at hc
    exact g.fr hc
theorem Gone.lost_mem {s : Sto} {cells : List Int} (g : Gone s cells) (x : Int) : x ∈ (s.clr cells).lost ↔ x ∈ s.lost ∧ x ∉ cells := by
  rw [S.lost_mem g.clr_ok, S.lost_mem g.ok]
  show x ∉ s.F ++ cells ∧ _ ↔ _
  rw [List.mem_append]
  constructor
  · rintro ⟨h1, i, h2, h3, h4⟩
    refine ⟨⟨fun q => h1 (.inl q), i, by simpa only [Sto.clr, clrL_len] using h2, h3, fun q => h4 ((g.reach i).2 q)⟩, fun q => h1 (.inr q)⟩
  · rintro ⟨⟨h1, i, h2, h3, h4⟩, h5⟩
    exact ⟨by rintro (q | q); exact h1 q; exact h5 q, i, by simpa only [Sto.clr, clrL_len] using h2, h3, fun q => h4 ((g.reach i).1 q)⟩
theorem coll_lost {s : Sto} (ho : s.ok) : s.coll.lost = [] := by
  have g := Gone.lost ho
  have e : s.coll = s.clr s.lost := by rw [Sto.coll, if_pos ((Sto.ok_iff s).2 ho)]
  rw [e]
  apply List.eq_nil_iff_forall_not_mem.2
  intro x hx
  have := (g.lost_mem x).1 hx
  exact this.2 this.1
theorem coll_eq {s : Sto} (ho : s.ok) : s.coll = s.clr s.lost := by rw [Sto.coll, if_pos ((Sto.ok_iff s).2 ho)]
theorem coll_ok {s : Sto} (ho : s.ok) : s.coll.ok := by rw [coll_eq ho]; exact (Gone.lost ho).clr_ok
theorem clr_nil (s : Sto) : s.clr [] = s := by
  obtain ⟨⟨L, R, T⟩, F⟩ := s
  simp [Sto.clr, clrL_nil]
theorem coll_twice {s : Sto} (ho : s.ok) : s.coll.coll = s.coll := by
  rw [coll_eq (coll_ok ho), coll_lost ho, clr_nil]
theorem clrL_congr {l a b : List Int} (h : ∀ x, x ∈ a ↔ x ∈ b) : clrL l a = clrL l b := by
  unfold clrL
  apply List.map_congr_left
  intro i _
  unfold clrAt
  simp only [h]
theorem clrL_two (l a b : List Int) (hb : (-1 : Int) ∉ b) : clrL (clrL l a) b = clrL l (a ++ b) := by
  unfold clrL
  rw [List.length_map, List.length_range]
  apply List.map_congr_left
  intro i hi
  rw [List.mem_range] at hi
  unfold clrAt
  rw [getD_range_map hi]
  simp only [List.mem_append, clrAt]
  by_cases h1 : l.getD i 0 ∈ a ∨ (i : Int) ∈ a
  · rw [if_pos h1]
    have e : (l.getD i 0 ∈ a ∨ l.getD i 0 ∈ b) ∨ (i : Int) ∈ a ∨ (i : Int) ∈ b := by
      rcases h1 with q | q
      · exact .inl (.inl q)
      · exact .inr (.inl q)
    rw [if_pos e]
    split <;> rfl
  · rw [if_neg h1]
    have n1 : l.getD i 0 ∉ a := fun q => h1 (.inl q)
    have n2 : (i : Int) ∉ a := fun q => h1 (.inr q)
    by_cases h2 : l.getD i 0 ∈ b ∨ (i : Int) ∈ b
    · rw [if_pos h2, if_pos (show (l.getD i 0 ∈ a ∨ l.getD i 0 ∈ b) ∨ (i : Int) ∈ a ∨ (i : Int) ∈ b by rcases h2 with q | q; exact .inl (.inr q); exact .inr (.inr q))]
    · rw [if_neg h2, if_neg (by rintro ((q | q) | (q | q)); exact n1 q; exact h2 (.inl q); exact n2 q; exact h2 (.inr q))]
/-- A cell is freed before the rest is. -/
theorem free_coll {s : Sto} {c : Int} (h : c ∈ s.lost) : (s.clr [c]).coll.h = s.coll.h ∧ (s.clr [c]).coll.F.length = s.coll.F.length := by
  have ho := lost_ok h
  have g := Gone.one h
  rw [coll_eq ho, coll_eq g.clr_ok]
  have hm : ∀ x, x ∈ [c] ++ (s.clr [c]).lost ↔ x ∈ s.lost := by
    intro x
    rw [List.mem_append, g.lost_mem]
    constructor
    · rintro (q | q)
      · simp at q; subst q; exact h
      · exact q.1
    · intro q
      by_cases e : x = c
      · left; simp [e]
      · right; exact ⟨q, by simp [e]⟩
  have hb : (-1 : Int) ∉ (s.clr [c]).lost := fun q => by
    obtain ⟨_, i, _, e, _⟩ := (S.lost_mem g.clr_ok _).1 q
    omega
  constructor
  · simp only [Sto.clr] at hb hm ⊢
    rw [clrL_two _ _ _ hb, clrL_two _ _ _ hb, clrL_congr hm, clrL_congr hm]
  · have nd : ([c] ++ (s.clr [c]).lost).Nodup := by
      rw [List.nodup_append]
      refine ⟨by simp, lost_nodup _, ?_⟩
      intro x hx y hy e
      subst e
      exact ((g.lost_mem x).1 hy).2 hx
    have e := (List.perm_ext_iff_of_nodup nd (lost_nodup s)).2 hm
    have := e.length_eq
    simp only [Sto.clr, List.length_append, List.length_cons, List.length_nil] at this ⊢
    omega
theorem coll_at {s : Sto} (ho : s.ok) {i : Nat} (hi : i < s.h.L.length) : (Reach s.h i → s.coll.h.L.getD i 0 = s.h.L.getD i 0 ∧ s.coll.h.R.getD i 0 = s.h.R.getD i 0 ∧ (i : Int) ∉ s.coll.F) ∧ (¬ Reach s.h i → (i : Int) ∈ s.coll.F) := by
  have g := Gone.lost ho
  rw [coll_eq ho]
  refine ⟨fun hr => ⟨(g.getD hr).1, (g.getD hr).2, ?_⟩, fun hr => ?_⟩
  · intro q
    have q : (i : Int) ∈ s.F ++ s.lost := q
    rw [List.mem_append] at q
    rcases q with q | q
    · have := fr_noreach ho.1 (ho.mem q)
      rw [Int.toNat_natCast] at this
      exact this hr
    · obtain ⟨_, j, _, e, hn⟩ := (lost_mem ho _).1 q
      obtain rfl : i = j := by omega
      exact hn hr
  · show (i : Int) ∈ s.F ++ s.lost
    rw [List.mem_append]
    by_cases q : (i : Int) ∈ s.F
    · exact .inl q
    · exact .inr ((lost_mem ho _).2 ⟨q, i, hi, rfl, hr⟩)
/-- How many cells are reached. -/
noncomputable def Hp.live (h : Hp) : Nat := h.reach.count true
theorem reach_congr {a b : Hp} (hv : a.valid = b.valid) (hl : a.L.length = b.L.length) (hr : ∀ c, Reach a c ↔ Reach b c) : a.reach = b.reach := by
  unfold Hp.reach
  rw [hv, hl]
  split
  · apply List.map_congr_left
    intro c _
    rw [decide_eq_decide]
    exact hr c
  · rfl
theorem coll_live {s : Sto} (ho : s.ok) : s.coll.h.live = s.h.live := by
  have g := Gone.lost ho
  rw [coll_eq ho]
  unfold Hp.live
  rw [reach_congr (b := s.h)]
  · rw [(Hp.ok_iff _).2 g.h_ok, (Hp.ok_iff _).2 ho.1]
  · simp [Sto.clr, clrL_len]
  · exact g.reach
theorem count_mono {n : Nat} {p q : Nat → Bool} (h : ∀ i, i < n → p i = true → q i = true) : ((List.range n).map p).count true ≤ ((List.range n).map q).count true := by
  induction n with
  | zero => simp
  | succ n ih =>
    rw [List.range_succ, List.map_append, List.map_append, List.count_append, List.count_append]
    have := ih fun i hi => h i (by omega)
    have h2 := h n (by omega)
    simp only [List.map_cons, List.map_nil]
    cases e : p n
    · simp; omega
    · rw [h2 e]; omega
theorem live_mono {a b : Hp} (hv : b.ok) (hl : a.L.length = b.L.length) (hr : ∀ c, Reach a c → Reach b c) : a.live ≤ b.live := by
  unfold Hp.live Hp.reach
  rw [if_pos ((Hp.ok_iff b).2 hv), hl]
  split
  · apply count_mono
    intro i hi h
    simp only [decide_eq_true_eq] at h ⊢
    exact hr i h
  · simp
end Go.Proofs.Ytbcnkfkmonpdeaa.S
