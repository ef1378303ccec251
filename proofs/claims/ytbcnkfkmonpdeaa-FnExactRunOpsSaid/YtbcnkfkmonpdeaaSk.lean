/- The symbolic heap: contracts of functions, and the call of a function by its contract. Own work of this claim. -/
import Derived.Test.YtbcnkfkmonpdeaaSj
namespace Go.Proofs.Ytbcnkfkmonpdeaa.S
set_option linter.all false
open Go

/-! Names handed over -/
abbrev Mu := Nat → Option (Nat × Nat)
def renC (μ : Mu) : AV → AV
  | .ptr n o => match μ n with | some (m, o') => .ptr m (o' + o) | none => .tup []
  | .sl n o l => match μ n with | some (m, o') => .sl m (o' + o) l | none => if l = 0 then .emp else .tup []
  | .mapv n => match μ n with | some (m, _) => .mapv m | none => .tup []
  | .fn f caps => if caps.all fun p => (μ p.1).isSome then .fn f (caps.map fun p => match μ p.1 with | some (m, o') => (m, o' + p.2) | none => p) else .tup []
  | c => c
def renA (μ : Mu) : AV → AV
  | .agg cs => .agg (cs.map (renC μ))
  | c => renC μ c
def renV (μ : Mu) : AV → AV
  | .tup vs => .tup (vs.map (renA μ))
  | c => renA μ c
def renL (μ : Mu) : LV → LV
  | .av z l => .av z (l.map (renC μ))
  | l => l
def renE (μ : Mu) : Ent → Ent
  | .c b lv => .c b (renL μ lv)
  | e => e
theorem renL_toL (μ : Mu) (lv : LV) : (renL μ lv).toL = lv.toL.map (renC μ) := by
  cases lv <;> simp [renL, LV.toL, renC, Function.comp_def]
  rename_i l
  induction l with
  | nil => rfl
  | cons a l ih => simp [opL, renC] at ih ⊢; rw [← ih]
theorem renL_z (μ : Mu) (lv : LV) : (renL μ lv).z = lv.z := by cases lv <;> rfl
theorem renL_len (μ : Mu) (lv : LV) : (renL μ lv).len = lv.len := by rw [← LV.len_eq, renL_toL, List.length_map, LV.len_eq]

def shiftL (L : Loc) (o : Nat) : Loc := ⟨L.blk, L.off + o, L.lim - o, L.esz⟩
/-- From the caller's names to the callee's. -/
theorem PR.enter {μ : Mu} {ν ν0 : Nm} (h1 : ∀ i j o L, μ i = some (j, o) → ν j = some L → ν0 i = some (shiftL L o)) {n o : Nat} {v : Value} (h : CR ν (renC μ (.ptr n o)) v) : PR ν0 (n, o) v := by
  simp only [renC] at h
  split at h
  · rename_i m o' hm
    obtain ⟨L, hL, rfl⟩ := h
    exact ⟨_, h1 _ _ _ _ hm hL, by simp [shiftL, Nat.add_assoc]⟩
  · simp [CR] at h
theorem CR.enter {μ : Mu} {ν ν0 : Nm} (h1 : ∀ i j o L, μ i = some (j, o) → ν j = some L → ν0 i = some (shiftL L o)) {c : AV} {v : Value} (h : CR ν (renC μ c) v) : CR ν0 c v := by
  cases c with
  | ptr n o => exact PR.enter h1 h
  | sl n o l =>
    simp only [renC] at h
    split at h
    · rename_i m o' hm
      rcases h with ⟨L, cp, q1, q2, q3, rfl⟩ | ⟨rfl, p, rfl⟩
      · exact Or.inl ⟨_, cp, h1 _ _ _ _ hm q1, q2, by simp [shiftL]; omega, by simp [shiftL, Nat.add_assoc]⟩
      · exact Or.inr ⟨rfl, p, rfl⟩
    · split at h
      · rename_i hl
        obtain ⟨p, rfl⟩ := h
        exact Or.inr ⟨hl, p, rfl⟩
      · simp [CR] at h
  | mapv n =>
    simp only [renC] at h
    split at h
    · rename_i m o' hm
      obtain ⟨L, hL, rfl⟩ := h
      exact ⟨_, h1 _ _ _ _ hm hL, rfl⟩
    · simp [CR] at h
  | fn f caps =>
    simp only [renC] at h
    split at h
    case isFalse => simp [CR] at h
    case isTrue hall =>
    simp only [CR] at h ⊢
    obtain ⟨arr, rfl, hF⟩ := h
    refine ⟨arr, rfl, ?_⟩
    have hf' : ∀ p ∈ caps, μ p.1 ≠ none := fun p hp => by
      have := List.all_eq_true.1 hall p hp
      intro e; rw [e] at this; cases this
    clear hall
    generalize arr.toList = vs at hF
    revert vs hf'
    induction caps with
    | nil => intro hf' vs hF; cases hF; exact .nil
    | cons p caps ih =>
      intro hf' vs hF
      cases hF with
      | cons hp ht =>
        refine .cons ?_ (ih (fun q hq => hf' q (by simp [hq])) _ ht)
        have := hf' p (by simp)
        cases hm : μ p.1 with
        | none => exact absurd hm this
        | some mo =>
          obtain ⟨m, o'⟩ := mo
          simp only [hm] at hp
          obtain ⟨L, hL, rfl⟩ := hp
          exact ⟨_, h1 _ _ _ _ hm hL, by simp [shiftL, Nat.add_assoc]⟩
  | int _ _ => exact h
  | bool _ => exact h
  | str _ => exact h
  | emp => exact h
  | any => exact h
  | agg _ => simp [renC, CR] at h
  | tup _ => simp [renC, CR] at h
/-- From the callee's names back to the caller's. -/
theorem CR.leave {μ : Mu} {ν1 ν' : Nm} (h1 : ∀ n L, ν1 n = some L → ∃ m o L', μ n = some (m, o) ∧ ν' m = some L' ∧ L = shiftL L' o ∧ o ≤ L'.lim) {c : AV} {v : Value} (h : CR ν1 c v) : CR ν' (renC μ c) v := by
  have hPR : ∀ n o v, PR ν1 (n, o) v → ∃ m o', μ n = some (m, o') ∧ PR ν' (m, o' + o) v := by
    rintro n o v ⟨L, hL, rfl⟩
    obtain ⟨m, o', L', e1, e2, rfl, e4⟩ := h1 _ _ hL
    exact ⟨m, o', e1, L', e2, by simp [shiftL, Nat.add_assoc]⟩
  cases c with
  | ptr n o =>
    obtain ⟨m, o', e1, e2⟩ := hPR _ _ _ h
    simp only [renC, e1]; exact e2
  | sl n o l =>
    rcases h with ⟨L, cp, q1, q2, q3, rfl⟩ | ⟨rfl, p, rfl⟩
    · obtain ⟨m, o', L', e1, e2, rfl, e4⟩ := h1 _ _ q1
      simp only [renC, e1]
      refine Or.inl ⟨L', cp, e2, q2, ?_, by simp [shiftL, Nat.add_assoc]⟩
      simp only [shiftL] at q3; omega
    · simp only [renC]
      split
      · exact Or.inr ⟨rfl, p, rfl⟩
      · simp only [if_true]; exact ⟨p, rfl⟩
  | mapv n =>
    obtain ⟨L, hL, rfl⟩ := h
    obtain ⟨m, o', L', e1, e2, rfl, e4⟩ := h1 _ _ hL
    simp only [renC, e1]; exact ⟨L', e2, rfl⟩
  | fn f caps =>
    simp only [CR] at h
    obtain ⟨arr, rfl, hF⟩ := h
    have hall : caps.all (fun p => (μ p.1).isSome) = true := by
      refine List.all_eq_true.2 fun p hp => ?_
      obtain ⟨i, hi, rfl⟩ := List.getElem_of_mem hp
      obtain ⟨b, _, hr⟩ := hF.get (List.getElem?_eq_getElem hi)
      obtain ⟨m, o', e1, _⟩ := hPR _ _ _ hr
      have e1 : μ caps[i].1 = some (m, o') := e1
      rw [e1]; rfl
    simp only [renC, hall, if_true, CR]
    refine ⟨arr, rfl, F2.map ?_ hF⟩
    rintro ⟨n, o⟩ v hp
    obtain ⟨m, o', e1, e2⟩ := hPR _ _ _ hp
    simp only [e1]; exact e2
  | int _ _ => exact h
  | bool _ => exact h
  | str _ => exact h
  | emp => exact h
  | any => exact h
  | agg _ => simp [CR] at h
  | tup _ => simp [CR] at h
theorem VA.leave {μ : Mu} {ν1 ν' : Nm} (h1 : ∀ n L, ν1 n = some L → ∃ m o L', μ n = some (m, o) ∧ ν' m = some L' ∧ L = shiftL L' o ∧ o ≤ L'.lim) {c : AV} {v : Value} (h : VA ν1 c v) : VA ν' (renA μ c) v := by
  cases c with
  | agg cs => obtain ⟨arr, rfl, hF⟩ := h; exact ⟨arr, rfl, F2.map (fun _ _ h => h.leave h1) hF⟩
  | ptr n o => have := CR.leave h1 (c := .ptr n o) h; simp only [renA]; simp only [renC] at this ⊢; split at this <;> first | exact this | (simp [CR] at this)
  | sl n o l =>
    have := CR.leave h1 (c := .sl n o l) h
    simp only [renA]; simp only [renC] at this ⊢
    split at this
    · exact this
    · split at this
      · rename_i hl; rw [if_pos hl]; exact this
      · simp [CR] at this
  | mapv n => have := CR.leave h1 (c := .mapv n) h; simp only [renA]; simp only [renC] at this ⊢; split at this <;> first | exact this | (simp [CR] at this)
  | fn f caps =>
    have := CR.leave h1 (c := .fn f caps) h
    simp only [renA]; simp only [renC] at this ⊢
    split at this
    · rename_i hl; rw [if_pos hl]; exact this
    · simp [CR] at this
  | int _ _ => exact h
  | bool _ => exact h
  | str _ => exact h
  | emp => exact h
  | any => exact h
  | tup _ => simp [VA, CR] at h
theorem VR.leave {μ : Mu} {ν1 ν' : Nm} (h1 : ∀ n L, ν1 n = some L → ∃ m o L', μ n = some (m, o) ∧ ν' m = some L' ∧ L = shiftL L' o ∧ o ≤ L'.lim) {c : AV} {v : Value} (h : VR ν1 c v) : VR ν' (renV μ c) v := by
  cases c with
  | tup vs => obtain ⟨arr, rfl, hF⟩ := h; exact ⟨arr, rfl, F2.map (fun _ _ h => h.leave h1) hF⟩
  | any => trivial
  | agg cs => exact VA.leave h1 (c := .agg cs) h
  | ptr n o => exact (VA.leave h1 (c := .ptr n o) h).vr
  | sl n o l => exact (VA.leave h1 (c := .sl n o l) h).vr
  | mapv n => exact (VA.leave h1 (c := .mapv n) h).vr
  | fn f caps => exact (VA.leave h1 (c := .fn f caps) h).vr
  | int _ _ => exact h
  | bool _ => exact h
  | str _ => exact h
  | emp => exact h

/-! Contracts -/
def ros (H : Heap) : Heap := H.filter fun p => !p.2.isOwn
def okNames (H0 H1 : Heap) : Prop := ∀ n e, aget H1 n = some e → (e.isOwn = true ∨ e = .dead) ∧ ((∃ e0, aget H0 n = some e0 ∧ e0.isOwn = true) ∨ (100 ≤ n ∧ n < 108))
def Gof (ν : Nm) (H0 : Heap) (w : World) (b : Nat) : Prop := b < w.heap.size ∧ ∀ n e L, aget H0 n = some e → e.isOwn = true → ν n = some L → L.blk ≠ b
/-- Called with these arguments in memory that holds H0, the function returns, with a result and memory as R says. Names up to 99 are the arguments', names from 100 on are new. -/
structure Fn (P : Program) (f : Nat) (H0 : Heap) (args : List AV) (R : AV → Heap → Prop) : Prop where
  enters : ∀ vs w, (callFunc f vs).run P w = .ok (.enter f vs) w
  calls : ∀ ν w (vs : Array Value), Inv (Gof ν H0 w) ⟨w, fun n => aget H0 n ≠ none, ν⟩ ν H0 w → F2 (VR ν) args vs.toList →
    Calls P f vs w fun e w' => ∃ c r H1 ν1, e = .returned c ∧ R r H1 ∧ okNames H0 H1 ∧ VR ν1 r c ∧ (∀ n, aget H0 n ≠ none → aget (H1 ++ ros H0) n ≠ none → ν1 n = ν n) ∧ Inv (Gof ν H0 w) ⟨w, fun _ => False, ν⟩ ν1 (H1 ++ ros H0) w'

theorem Fn.mono {P : Program} {f : Nat} {H0 : Heap} {args : List AV} {R R' : AV → Heap → Prop} (h : Fn P f H0 args R) (hr : ∀ r H, R r H → R' r H) : Fn P f H0 args R' :=
  ⟨h.enters, fun ν w vs hi hF => (h.calls ν w vs hi hF).mono fun _ _ ⟨c, r, H1, ν1, a1, a2, a3⟩ => ⟨c, r, H1, ν1, a1, hr _ _ a2, a3⟩⟩

theorem VA.enter {μ : Mu} {ν ν0 : Nm} (h1 : ∀ i j o L, μ i = some (j, o) → ν j = some L → ν0 i = some (shiftL L o)) {c : AV} {v : Value} (h : VA ν (renA μ c) v) : VA ν0 c v := by
  cases c with
  | agg cs =>
    obtain ⟨arr, rfl, hF⟩ := h
    refine ⟨arr, rfl, ?_⟩
    generalize arr.toList = vs at hF
    revert vs
    induction cs with
    | nil => intro vs hF; cases hF; exact .nil
    | cons c cs ih => intro vs hF; cases hF with | cons hp ht => exact .cons (hp.enter h1) (ih _ ht)
  | ptr n o => exact CR.enter h1 (c := .ptr n o) (by simp only [renA, renC] at h ⊢; split at h <;> first | exact h | (simp [VA, CR] at h))
  | sl n o l => exact CR.enter h1 (c := .sl n o l) (by
      simp only [renA, renC] at h ⊢
      split at h
      · exact h
      · split at h
        · rename_i hl; rw [if_pos hl]; exact h
        · simp [VA, CR] at h)
  | mapv n => exact CR.enter h1 (c := .mapv n) (by simp only [renA, renC] at h ⊢; split at h <;> first | exact h | (simp [VA, CR] at h))
  | fn f caps => exact CR.enter h1 (c := .fn f caps) (by
      simp only [renA, renC] at h ⊢
      split at h
      · rename_i hl; rw [if_pos hl]; exact h
      · simp [VA, CR] at h)
  | int _ _ => exact h
  | bool _ => exact h
  | str _ => exact h
  | emp => exact h
  | any => exact h
  | tup _ => simp [renA, renC, VA, CR] at h
theorem aget_append (l m : Heap) (n : Nat) : aget (l ++ m) n = match aget l n with | some e => some e | none => aget m n := by
  induction l with
  | nil => rfl
  | cons p l ih =>
    obtain ⟨k, e⟩ := p
    simp only [List.cons_append, aget]
    by_cases h : k = n
    · simp [h]
    · simp [h, ih]

end Go.Proofs.Ytbcnkfkmonpdeaa.S
