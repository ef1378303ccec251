/- The symbolic heap: a call by its contract is sound; a function's contract out of its code. Own work of this claim. -/
import Derived.Test.YtbcnkfkmonpdeaaSk
namespace Go.Proofs.Ytbcnkfkmonpdeaa.S
set_option linter.all false
open Go

/-! The call -/
def mu1 (μ : List (Nat × (Nat × Nat))) (nm : Nat) : Mu := fun n => if 100 ≤ n ∧ n < 108 then some (nm + (n - 100), 0) else aget μ n
/-- One entry of the callee's memory, held against the caller's. -/
def match1 (μ : List (Nat × (Nat × Nat))) (H : Heap) (i : Nat) (e0 : Ent) : Prop :=
  i < 100 ∧ match aget μ i with
  | some (j, o) => match e0, aget H j with
    | .c own0 lv0, some (.c own lv) => lv0.z = lv.z ∧ renL (aget μ) lv0 = lv.view o lv0.len ∧ o + lv0.len ≤ lv.len ∧ (own0 = true → own = true ∧ o = 0 ∧ lv0.len = lv.len)
    | .mp es, some (.mp es') => es = es' ∧ o = 0
    | _, _ => False
  | none => match e0 with
    | .c _ lv0 => lv0.len = 0
    | _ => False
def matchH (μ : List (Nat × (Nat × Nat))) (H : Heap) : Heap → Prop
  | [] => True
  | (i, e) :: r => match1 μ H i e ∧ matchH μ H r
/-- No own entry is handed over under two names. -/
def apartB (μ : List (Nat × (Nat × Nat))) (H0 : Heap) : Bool :=
  H0.all fun p => !p.2.isOwn || H0.all fun q => p.1 == q.1 || match aget μ p.1, aget μ q.1 with
    | some (j, _), some (j', _) => j != j'
    | _, _ => true
def freeB (H : Heap) (nm : Nat) : Bool := H.all fun p => p.1 < nm || nm + 8 ≤ p.1
def domB (μ : List (Nat × (Nat × Nat))) (H0 : Heap) : Bool := μ.all fun p => (aget H0 p.1).isSome
def backOwn (μ : List (Nat × (Nat × Nat))) (ρ : Mu) (H1 : Heap) : Heap → Heap → Heap
  | [], H => H
  | (i, e) :: r, H => backOwn μ ρ H1 r (if e.isOwn then match aget μ i with
      | some (j, _) => aset H j (match aget H1 i with | some e => renE ρ e | none => .dead)
      | none => H
    else H)
def backNew (ρ : Mu) (nm : Nat) : Heap → Heap → Heap
  | [], H => H
  | (i, e) :: r, H => backNew ρ nm r (if 100 ≤ i ∧ i < 108 then aset H (nm + (i - 100)) (renE ρ e) else H)
def afterH (μ : List (Nat × (Nat × Nat))) (nm : Nat) (H H0 H1 : Heap) : Heap := backNew (mu1 μ nm) nm H1 (backOwn μ (mu1 μ nm) H1 H0 H)
def nodupB (H : Heap) : Bool := match H with
  | [] => true
  | (i, _) :: r => (r.all fun p => p.1 != i) && nodupB r

def callA (P : Program) : CallT := fun g args H nm K => ∃ (H0 : Heap) (args0 : List AV) (R : AV → Heap → Prop) (μ : List (Nat × (Nat × Nat))), Fn P g H0 args0 R ∧
  args.all AV.fits = true ∧ args = args0.map (renA (aget μ)) ∧ matchH μ H H0 ∧ apartB μ H0 = true ∧ freeB H nm = true ∧ domB μ H0 = true ∧ nodupB H0 = true ∧ 100 ≤ nm ∧
  ∀ r H1, R r H1 → nodupB H1 = true ∧ K (renV (mu1 μ nm) r) (afterH μ nm H H0 H1)

theorem matchH_get {μ : List (Nat × (Nat × Nat))} {H : Heap} : ∀ {H0 : Heap}, matchH μ H H0 → ∀ i e, aget H0 i = some e → match1 μ H i e
  | [], _, _, _, h => by simp [aget] at h
  | (k, x) :: r, hm, i, e, h => by
    simp only [aget] at h
    split at h
    · rename_i hk; cases h; subst hk; exact hm.1
    · exact matchH_get hm.2 i e h
theorem mem_of_aget {β : Type} : ∀ {l : List (Nat × β)} {n : Nat} {e : β}, aget l n = some e → (n, e) ∈ l
  | [], _, _, h => by simp [aget] at h
  | (k, x) :: r, n, e, h => by
    simp only [aget] at h
    split at h
    · rename_i hk; cases h; subst hk; simp
    · exact List.mem_cons_of_mem _ (mem_of_aget h)
theorem free_get {H : Heap} {nm : Nat} (h : freeB H nm = true) {k : Nat} (hk : k < 8) : aget H (nm + k) = none := by
  cases hg : aget H (nm + k) with
  | none => rfl
  | some e =>
    have := List.all_eq_true.1 h _ (mem_of_aget hg)
    simp at this
    omega

theorem backOwn_get (μ : List (Nat × (Nat × Nat))) (ρ : Mu) (H1 : Heap) (n : Nat) : ∀ (H0 H : Heap), (∀ i e j o, (i, e) ∈ H0 → e.isOwn = true → aget μ i = some (j, o) → j ≠ n) → aget (backOwn μ ρ H1 H0 H) n = aget H n
  | [], _, _ => rfl
  | (i, e) :: r, H, h => by
    simp only [backOwn]
    rw [backOwn_get μ ρ H1 n r _ (fun i e j o hm => h i e j o (by simp [hm]))]
    split
    · rename_i ho
      split
      · rename_i j o hj
        rw [aget_aset, if_neg (h i e j o (by simp) ho hj)]
      · rfl
    · rfl
theorem backOwn_hit (μ : List (Nat × (Nat × Nat))) (ρ : Mu) (H1 : Heap) {i j o : Nat} (hj : aget μ i = some (j, o)) : ∀ (H0 H : Heap) (e0 : Ent), (i, e0) ∈ H0 → e0.isOwn = true →
    (∀ i' e' o', (i', e') ∈ H0 → e'.isOwn = true → aget μ i' = some (j, o') → i' = i) → aget (backOwn μ ρ H1 H0 H) j = some (match aget H1 i with | some e => renE ρ e | none => .dead)
  | (k, x) :: r, H, e0, hm, ho, hu => by
    simp only [backOwn]
    by_cases hr : ∃ e', (i, e') ∈ r ∧ e'.isOwn = true
    · obtain ⟨e', hr1, hr2⟩ := hr
      exact backOwn_hit μ ρ H1 hj r _ e' hr1 hr2 (fun i' e' o' hm => hu i' e' o' (by simp [hm]))
    · have hkx : k = i ∧ x = e0 := by
        simp only [List.mem_cons, Prod.mk.injEq] at hm
        rcases hm with ⟨h1, h2⟩ | hm
        · exact ⟨h1.symm, h2.symm⟩
        · exact absurd ⟨e0, hm, ho⟩ hr
      obtain ⟨rfl, rfl⟩ := hkx
      rw [backOwn_get μ ρ H1 j r _ (by
        intro i' e' j' o' hm' ho' hj' hjj
        subst hjj
        have := hu i' e' o' (by simp [hm']) ho' hj'
        subst this
        exact hr ⟨e', hm', ho'⟩)]
      rw [if_pos ho, hj]
      simp only
      rw [aget_aset, if_pos rfl]
theorem backNew_get (ρ : Mu) (nm n : Nat) : ∀ (H1 H : Heap), (∀ i e, (i, e) ∈ H1 → 100 ≤ i ∧ i < 108 → nm + (i - 100) ≠ n) → aget (backNew ρ nm H1 H) n = aget H n
  | [], _, _ => rfl
  | (i, e) :: r, H, h => by
    simp only [backNew]
    rw [backNew_get ρ nm n r _ (fun i e hm => h i e (by simp [hm]))]
    split
    · rename_i hi; rw [aget_aset, if_neg (h i e (by simp) hi)]
    · rfl
theorem backNew_hit (ρ : Mu) (nm : Nat) {i : Nat} (hi : 100 ≤ i ∧ i < 108) : ∀ (H1 H : Heap) (e : Ent), nodupB H1 = true → (i, e) ∈ H1 → aget (backNew ρ nm H1 H) (nm + (i - 100)) = some (renE ρ e)
  | (k, x) :: r, H, e, hn, hm => by
    simp only [nodupB, Bool.and_eq_true] at hn
    simp only [backNew]
    simp only [List.mem_cons, Prod.mk.injEq] at hm
    rcases hm with ⟨rfl, rfl⟩ | hm
    · rw [backNew_get ρ nm _ r _ (by
        intro i' e' hm' hi' he
        have : i' = i := by omega
        subst this
        have := List.all_eq_true.1 hn.1 _ hm'
        simp at this)]
      rw [if_pos hi, aget_aset, if_pos rfl]
    · exact backNew_hit ρ nm hi r _ e hn.2 hm
theorem nodup_get {l : Heap} (h : nodupB l = true) : ∀ {i : Nat} {e : Ent}, (i, e) ∈ l → aget l i = some e := by
  induction l with
  | nil => intro i e hm; simp at hm
  | cons p r ih =>
    obtain ⟨k, x⟩ := p
    intro i e hm
    simp only [nodupB, Bool.and_eq_true] at h
    simp only [aget]
    simp only [List.mem_cons, Prod.mk.injEq] at hm
    rcases hm with ⟨rfl, rfl⟩ | hm
    · simp
    · split
      · rename_i hk; subst hk
        have := List.all_eq_true.1 h.1 _ hm
        simp at this
      · exact ih h.2 hm

theorem F2.mem_map {α β γ : Type} {R : β → γ → Prop} {S : α → γ → Prop} {f : α → β} (h : ∀ a b, R (f a) b → S a b) : ∀ {l : List α} {m : List γ}, F2 R (l.map f) m → F2 S l m
  | [], _, .nil => .nil
  | _ :: _, _, .cons r t => .cons (h _ _ r) (F2.mem_map h t)
theorem F2.all_imp {α β : Type} {R S : α → β → Prop} {p : α → Bool} (h : ∀ a b, p a = true → R a b → S a b) : ∀ {l : List α} {m : List β}, l.all p = true → F2 R l m → F2 S l m
  | _, _, _, .nil => .nil
  | _, _, ha, .cons r t => by
    simp only [List.all_cons, Bool.and_eq_true] at ha
    exact .cons (h _ _ ha.1 r) (F2.all_imp h ha.2 t)
theorem shift0 (L : Loc) : shiftL L 0 = L := by cases L; simp [shiftL]
theorem ER.leave {μ : Mu} {ν1 ν' : Nm} {w : World} (h1 : ∀ n L, ν1 n = some L → ∃ m o L', μ n = some (m, o) ∧ ν' m = some L' ∧ L = shiftL L' o ∧ o ≤ L'.lim) {i m : Nat} {e : Ent} (hm : ν' m = ν1 i) (h : ER ν1 w i e) : ER ν' w m (renE μ e) := by
  cases e with
  | dead => trivial
  | mp es =>
    obtain ⟨L, hL, rest⟩ := h
    exact ⟨L, by rw [hm]; exact hL, rest⟩
  | c own lv =>
    simp only [renE, ER] at h ⊢
    rw [hm]
    cases hL : ν1 i with
    | none => rw [hL] at h; simp only at h ⊢; rw [renL_toL, h]; rfl
    | some L =>
      rw [hL] at h
      simp only at h ⊢
      obtain ⟨h0, arr, T, fr, g1, g2, g3, g4, g5⟩ := h
      refine ⟨by rw [renL_z]; exact h0, arr, T, fr, g1, g2, by rw [renL_toL, List.length_map]; exact g3, ?_, g5⟩
      intro k hk
      rw [renL_toL, List.length_map] at hk
      obtain ⟨v, hv, c, hc, hr⟩ := g4 k hk
      exact ⟨v, hv, _, by rw [renL_toL, List.getElem?_map, hc]; rfl, hr.leave h1⟩
theorem isOwn_ren {μ : Mu} {e : Ent} : (renE μ e).isOwn = e.isOwn := by cases e <;> rfl
theorem live_ren {μ : Mu} {e : Ent} : (renE μ e).live = e.live := by cases e <;> rfl

/-- What stands in the caller's memory behind the call. -/
theorem afterH_cases {μ : List (Nat × (Nat × Nat))} {nm : Nat} {H H0 H1 : Heap} (hfr : freeB H nm = true) (hm : matchH μ H H0) (hap : apartB μ H0 = true) (hnd0 : nodupB H0 = true) (hnd : nodupB H1 = true) {m : Nat} {e : Ent} (h : aget (afterH μ nm H H0 H1) m = some e) :
    (∃ i e1, 100 ≤ i ∧ i < 108 ∧ m = nm + (i - 100) ∧ aget H1 i = some e1 ∧ e = renE (mu1 μ nm) e1) ∨
    (∃ i e0, aget H0 i = some e0 ∧ e0.isOwn = true ∧ aget μ i = some (m, 0) ∧ ((∃ e1, aget H1 i = some e1 ∧ e = renE (mu1 μ nm) e1) ∨ e = .dead)) ∨
    (aget H m = some e ∧ (∀ k, k < 8 → m ≠ nm + k) ∧ ∀ i e0 o, aget H0 i = some e0 → e0.isOwn = true → aget μ i = some (m, o) → False) := by
  unfold afterH at h
  by_cases hnew : ∃ i e1, (i, e1) ∈ H1 ∧ 100 ≤ i ∧ i < 108 ∧ m = nm + (i - 100)
  · obtain ⟨i, e1, h1, h2, h3, rfl⟩ := hnew
    rw [backNew_hit _ nm ⟨h2, h3⟩ H1 _ e1 hnd h1] at h
    cases h
    exact .inl ⟨i, e1, h2, h3, rfl, nodup_get hnd h1, rfl⟩
  · rw [backNew_get _ nm m H1 _ (fun i e hi hr he => hnew ⟨i, e, hi, hr.1, hr.2, he.symm⟩)] at h
    by_cases hown : ∃ i e0 o, (i, e0) ∈ H0 ∧ e0.isOwn = true ∧ aget μ i = some (m, o)
    · obtain ⟨i, e0, o, h1, h2, h3⟩ := hown
      have hg := nodup_get hnd0 h1
      have ho : o = 0 := by
        have := (matchH_get hm i e0 hg).2
        rw [h3] at this
        simp only at this
        cases e0 with
        | dead => cases h2
        | mp es => split at this <;> first | exact this.2 | exact this.elim | (rename_i q _; cases q)
        | c own0 lv0 =>
          simp only [Ent.isOwn] at h2
          split at this
          · rename_i q _; cases q; exact (this.2.2.2 h2).2.1
          · rename_i q _; cases q
          · exact this.elim
      subst ho
      rw [backOwn_hit μ _ H1 h3 H0 H e0 h1 h2 (by
        intro i' e' o' h1' h2' h3'
        have := List.all_eq_true.1 hap _ h1'
        simp only [h2', Bool.not_true, Bool.false_or] at this
        have := List.all_eq_true.1 this _ h1
        simp only [h3', h3, Bool.or_eq_true, beq_iff_eq] at this
        rcases this with h | h
        · exact h
        · simp at h)] at h
      cases h
      refine .inr (.inl ⟨i, e0, hg, h2, h3, ?_⟩)
      cases hH1 : aget H1 i with
      | none => exact .inr rfl
      | some e1 => exact .inl ⟨e1, rfl, rfl⟩
    · rw [backOwn_get μ _ H1 m H0 H (fun i e j o h1 h2 h3 hj => hown ⟨i, e, o, h1, h2, hj ▸ h3⟩)] at h
      refine .inr (.inr ⟨h, ?_, fun i e0 o h1 h2 h3 => hown ⟨i, e0, o, mem_of_aget h1, h2, h3⟩⟩)
      rintro k hk rfl
      rw [free_get hfr hk] at h; cases h
/-- What was in the caller's memory, or is new, stands there. -/
theorem afterH_none {μ : List (Nat × (Nat × Nat))} {nm : Nat} {H H0 H1 : Heap} (hnd : nodupB H1 = true) {m : Nat} (h : aget (afterH μ nm H H0 H1) m = none) :
    aget H m = none ∧ ∀ i, 100 ≤ i → i < 108 → m = nm + (i - 100) → aget H1 i = none := by
  unfold afterH at h
  by_cases hnew : ∃ i e1, (i, e1) ∈ H1 ∧ 100 ≤ i ∧ i < 108 ∧ m = nm + (i - 100)
  · obtain ⟨i, e1, h1, h2, h3, rfl⟩ := hnew
    rw [backNew_hit _ nm ⟨h2, h3⟩ H1 _ e1 hnd h1] at h
    cases h
  · rw [backNew_get _ nm m H1 _ (fun i e hi hr he => hnew ⟨i, e, hi, hr.1, hr.2, he.symm⟩)] at h
    refine ⟨?_, fun i h1 h2 h3 => ?_⟩
    · have hh : ∀ (H0 H : Heap), aget (backOwn μ (mu1 μ nm) H1 H0 H) m = none → aget H m = none := by
        intro H0
        induction H0 with
        | nil => intro H h; exact h
        | cons p r ih =>
          obtain ⟨i, e⟩ := p
          intro H h
          simp only [backOwn] at h
          have := ih _ h
          split at this
          · split at this
            · rw [aget_aset] at this
              split at this
              · cases this
              · exact this
            · exact this
          · exact this
      exact hh H0 H h
    · cases hg : aget H1 i with
      | none => rfl
      | some e1 => exact absurd ⟨i, e1, mem_of_aget hg, h1, h2, h3⟩ hnew

end Go.Proofs.Ytbcnkfkmonpdeaa.S
