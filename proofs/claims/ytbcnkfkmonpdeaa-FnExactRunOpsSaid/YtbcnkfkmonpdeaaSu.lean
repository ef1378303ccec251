/- The symbolic heap: an entry cut short, an entry under another name. Own work of this claim. -/
import Derived.Test.YtbcnkfkmonpdeaaSs
namespace Go.Proofs.Ytbcnkfkmonpdeaa.S
set_option linter.all false
open Go

theorem Inv.cut {G : Nat → Prop} {hp : HP} {ν : Nm} {H : Heap} {w : World} (h : Inv G hp ν H w) {n : Nat} {own : Bool} {lv lv' : LV} (h0 : aget H n = some (.c own lv)) (hl : lv'.toL <+: lv.toL) (hz : lv'.z = lv.z) :
    Inv G hp ν (aset H n (.c own lv')) w := by
  have hne : aget H n ≠ none := by rw [h0]; simp
  refine ⟨?_, ?_, ?_, h.gfr, fun m hm => ⟨(h.nb m hm).1, aset_ne (h.nb m hm).2⟩, ?_, h.fx⟩
  · intro m e hm
    rw [aget_aset] at hm
    split at hm
    · rename_i q; subst q; cases hm
      have := h.er n _ h0
      simp only [ER] at this ⊢
      split
      · rename_i hn; rw [hn] at this; simp only at this; rw [this] at hl; exact List.prefix_nil.1 hl
      · rename_i L hn
        rw [hn] at this
        simp only at this
        obtain ⟨e0, arr, T, fr, h1, h2, h3, h4, h5⟩ := this
        obtain ⟨t, ht⟩ := hl
        have hlen : lv'.toL.length ≤ lv.toL.length := by rw [← ht]; simp
        refine ⟨by rw [hz]; exact e0, arr, T, fr, h1, h2, by omega, fun k hk => ?_, h5⟩
        obtain ⟨v, hv, c, hc, hr⟩ := h4 k (by omega)
        refine ⟨v, hv, c, ?_, hr⟩
        rw [← ht, List.getElem?_append_left hk] at hc
        exact hc
    · exact h.er m e hm
  · intro a b x y hx hxo hy hyl hab L L' hL hL'
    have g : ∀ m e, aget (aset H n (.c own lv')) m = some e → ∃ e0, aget H m = some e0 ∧ e0.isOwn = e.isOwn ∧ e0.live = e.live := by
      intro m e hm
      rw [aget_aset] at hm
      split at hm
      · rename_i q; subst q; cases hm; exact ⟨_, h0, rfl, rfl⟩
      · exact ⟨e, hm, rfl, rfl⟩
    obtain ⟨x0, hx1, hx2, _⟩ := g a x hx
    obtain ⟨y0, hy1, _, hy3⟩ := g b y hy
    exact h.inj a b x0 y0 hx1 (by rw [hx2]; exact hxo) hy1 (by rw [hy3]; exact hyl) hab L L' hL hL'
  · intro m hm
    rw [aget_aset] at hm
    split at hm
    · cases hm
    · exact h.dom m hm
  · intro m x L hx hxo hL
    rw [aget_aset] at hx
    split at hx
    · rename_i q; subst q; cases hx; exact h.own n _ L h0 hxo hL
    · exact h.own m x L hx hxo hL

theorem aget_mapE (μ : Mu) (H : Heap) (n : Nat) : aget (H.map fun p => (p.1, renE μ p.2)) n = (aget H n).map (renE μ) := by
  induction H with
  | nil => rfl
  | cons p r ih =>
    obtain ⟨k, e⟩ := p
    simp only [List.map_cons, aget]
    split
    · rfl
    · exact ih
theorem renE_own (μ : Mu) (e : Ent) : (renE μ e).isOwn = e.isOwn := by cases e <;> rfl
theorem renE_live (μ : Mu) (e : Ent) : (renE μ e).live = e.live := by cases e <;> rfl

theorem Inv.swap {G : Nat → Prop} {hp : HP} {ν : Nm} {H : Heap} {w : World} (h : Inv G hp ν H w) {μ : Mu} (hc : ∀ c v, CR ν c v → CR ν (renC μ c) v) : Inv G hp ν (H.map fun p => (p.1, renE μ p.2)) w := by
  refine ⟨?_, ?_, ?_, h.gfr, fun m hm => ⟨(h.nb m hm).1, by rw [aget_mapE]; intro q; exact (h.nb m hm).2 (Option.map_eq_none_iff.1 q)⟩, ?_, h.fx⟩
  · intro m e hm
    rw [aget_mapE] at hm
    obtain ⟨e0, h0, rfl⟩ := Option.map_eq_some_iff.1 hm
    have := h.er m e0 h0
    cases e0 with
    | c own lv =>
      simp only [renE, ER, renL_toL, renL_z, List.length_map] at this ⊢
      split at this
      · rename_i hn; rw [this]; rfl
      · obtain ⟨e0, arr, T, fr, h1, h2, h3, h4, h5⟩ := this
        refine ⟨e0, arr, T, fr, h1, h2, h3, fun k hk => ?_, h5⟩
        obtain ⟨v, hv, c, hcc, hr⟩ := h4 k hk
        exact ⟨v, hv, renC μ c, by simp [hcc], hc c v hr⟩
    | mp es => exact this
    | dead => trivial
  · intro a b x y hx hxo hy hyl hab L L' hL hL'
    rw [aget_mapE] at hx hy
    obtain ⟨x0, hx0, rfl⟩ := Option.map_eq_some_iff.1 hx
    obtain ⟨y0, hy0, rfl⟩ := Option.map_eq_some_iff.1 hy
    rw [renE_own] at hxo; rw [renE_live] at hyl
    exact h.inj a b x0 y0 hx0 hxo hy0 hyl hab L L' hL hL'
  · intro m hm
    rw [aget_mapE] at hm
    exact h.dom m (Option.map_eq_none_iff.1 hm)
  · intro m x L hx hxo hL
    rw [aget_mapE] at hx
    obtain ⟨x0, hx0, rfl⟩ := Option.map_eq_some_iff.1 hx
    rw [renE_own] at hxo
    exact h.own m x0 L hx0 hxo hL

section
variable {P : Program} {nt : Nat} {ks : List It} {env : Env} {H : Heap} {R : Env → Heap → Prop}
/-- An entry is cut short. -/
theorem W_cut0 {own : Bool} {lv : LV} (n : Nat) (lv' : LV) (h : W P nt ks env (aset H n (.c own lv')) R) (h0 : aget H n = some (.c own lv)) (hl : lv'.toL <+: lv.toL) (hz : lv'.z = lv.z) : W P nt ks env H R :=
  fun hk G hp hB ν a w st => h hk G hp hB ν a w ⟨st.defers, st.size, st.env, st.inv.cut h0 hl hz⟩
def swapMu (n m : Nat) : Mu := fun k => if k = n then some (m, 0) else some (k, 0)
/-- An entry under another name. -/
theorem W_mv0 {lv : LV} (n m : Nat) (h : W P nt ks (env.map fun p => (p.1, renV (swapMu n m) p.2)) ((aset (aset H n .dead) m (.c true lv)).map fun p => (p.1, renE (swapMu n m) p.2)) R)
    (h0 : aget H n = some (.c true lv)) (hm : aget H m = none) : W P nt ks env H R := by
  intro hk G hp hB ν a w st
  obtain ⟨ν', k1, k2, k3, k4, k5⟩ := st.inv.rebase h0 hm 0 lv rfl rfl (fun _ _ => Nat.zero_le _)
  have hnm : n ≠ m := fun e => by subst e; rw [h0] at hm; cases hm
  have hle : ∀ k L, ν' k = some L → ∃ j o L', swapMu n m k = some (j, o) ∧ ν' j = some L' ∧ L = shiftL L' o ∧ o ≤ L'.lim := by
    intro k L hL
    by_cases e : k = n
    · subst e
      rw [k3 k hnm] at hL
      refine ⟨m, 0, L, by simp [swapMu], ?_, by simp [shiftL], Nat.zero_le _⟩
      rw [k2 L hL]; simp
    · exact ⟨k, 0, L, by simp [swapMu, e], hL, by simp [shiftL], Nat.zero_le _⟩
  refine h hk G hp hB ν' a w ⟨st.defers, st.size, ?_, k5.swap fun c v hc => hc.leave hle⟩
  intro t
  have hv := (st.env t).keeps k1
  rw [Env.get_map env (renV (swapMu n m)) rfl t]
  exact hv.leave hle
end
end Go.Proofs.Ytbcnkfkmonpdeaa.S
