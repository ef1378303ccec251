/- The symbolic heap: how the relation to a world is kept by what operations do to memory. Own work of this claim. -/
import Derived.Test.YtbcnkfkmonpdeaaSc
namespace Go.Proofs.Ytbcnkfkmonpdeaa.S
set_option linter.all false
open Go

def upd (ν : Nm) (n : Nat) (L : Loc) : Nm := fun m => if m = n then some L else ν m
theorem upd_self (ν : Nm) (n : Nat) (L : Loc) : upd ν n L n = some L := by simp [upd]
theorem upd_other {ν : Nm} {n m : Nat} (L : Loc) (h : m ≠ n) : upd ν n L m = ν m := by simp [upd, h]
theorem Keeps.upd {ν : Nm} {n : Nat} (L : Loc) (h : ν n = none) : Keeps ν (S.upd ν n L) := by
  intro m M hm
  by_cases e : m = n
  · subst e; rw [h] at hm; cases hm
  · rw [upd_other L e]; exact hm

theorem ER.move {ν ν' : Nm} {w w' : World} {n : Nat} {e : Ent} (k : Keeps ν ν') (hn : ν' n = ν n) (hw : ∀ L, ν n = some L → w'.heap[L.blk]? = w.heap[L.blk]?) (h : ER ν w n e) : ER ν' w' n e := by
  cases e with
  | dead => trivial
  | mp es =>
    obtain ⟨L, hL, ents, clock, hh, rest⟩ := h
    exact ⟨L, hn ▸ hL, ents, clock, by rw [hw L hL]; exact hh, rest⟩
  | c own lv =>
    simp only [ER] at h ⊢
    rw [hn]
    cases hL : ν n with
    | none => rw [hL] at h; exact h
    | some L =>
      rw [hL] at h
      obtain ⟨hz, arr, T, fr, h1, h2, h3, h4, h5⟩ := h
      exact ⟨hz, arr, T, fr, by rw [hw L hL]; exact h1, h2, h3, fun i hi => by obtain ⟨v, a, c, b, d⟩ := h4 i hi; exact ⟨v, a, c, b, d.keeps k⟩, h5⟩
/-- A live entry's block is there. -/
theorem ER.lt {ν : Nm} {w : World} {n : Nat} {e : Ent} {L : Loc} (h : ER ν w n e) (hl : e.live = true) (hL : ν n = some L) : L.blk < w.heap.size := by
  cases e with
  | dead => cases hl
  | mp es =>
    obtain ⟨L', hL', ents, clock, hh, _⟩ := h
    rw [hL] at hL'; cases hL'
    exact (Array.getElem?_eq_some_iff.1 hh).1
  | c own lv =>
    simp only [ER, hL] at h
    obtain ⟨_, arr, T, fr, h1, _⟩ := h
    exact (Array.getElem?_eq_some_iff.1 h1).1
/-- The cells of an entry. -/
theorem ER.cell {ν : Nm} {w : World} {n : Nat} {own : Bool} {lv : LV} {L : Loc} (h : ER ν w n (.c own lv)) (hL : ν n = some L) {k : Nat} (hk : k < lv.len) :
    ∃ v, w.cell? ⟨L.blk, L.off + k, none⟩ = some v ∧ CR ν (lv.lk k) v := by
  simp only [ER, hL] at h
  obtain ⟨_, arr, T, fr, h1, h2, h3, h4, h5⟩ := h
  obtain ⟨v, hv, c, hc, hr⟩ := h4 k (by rw [LV.len_eq]; exact hk)
  rw [LV.lk_eq lv k hk] at hc
  cases hc
  exact ⟨v, by simp [World.cell?, h1, hv], hr⟩
theorem ER.cells {ν : Nm} {w : World} {n : Nat} {own : Bool} {lv : LV} {L : Loc} (h : ER ν w n (.c own lv)) (hL : ν n = some L) (o m : Nat) (hm : o + m ≤ lv.len) :
    ∃ vs : List Value, F2 (CR ν) ((lv.toL.drop o).take m) vs ∧ vs.length = m ∧ (∀ j v, vs[j]? = some v → w.cell? ((⟨L.blk, L.off + o, none⟩ : Addr).add j) = some v) := by
  induction m with
  | zero => exact ⟨[], by simp; exact .nil, rfl, by simp⟩
  | succ m ih =>
    obtain ⟨vs, h1, h2, h3⟩ := ih (by omega)
    obtain ⟨v, hv, hr⟩ := h.cell hL (k := o + m) (by omega)
    refine ⟨vs ++ [v], ?_, by simp [h2], ?_⟩
    · have : (lv.toL.drop o).take (m + 1) = (lv.toL.drop o).take m ++ [lv.lk (o + m)] := by
        rw [List.take_add_one]
        congr 1
        rw [List.getElem?_drop, LV.lk_eq lv (o + m) (by omega)]
        rfl
      rw [this]
      exact h1.append (.cons hr .nil)
    · intro j u hj
      by_cases hlt : j < vs.length
      · exact h3 j u (by rw [List.getElem?_append_left hlt] at hj; exact hj)
      · have : j = m := by
          have := (List.getElem?_eq_some_iff.1 hj).1
          simp at this; omega
        subst this
        rw [List.getElem?_append_right (by omega), h2] at hj
        simp at hj
        subst hj
        have e : ((⟨L.blk, L.off + o, none⟩ : Addr).add j) = ⟨L.blk, L.off + (o + j), none⟩ := by
          unfold Addr.add
          by_cases h0 : j = 0
          · rw [if_pos h0, h0]; rfl
          · rw [if_neg h0]; simp [Nat.add_assoc]
        rw [e]; exact hv

theorem Inv.heap {G : Nat → Prop} {hp : HP} {ν : Nm} {H : Heap} {w w' : World} (h : Inv G hp ν H w) (e : w'.heap = w.heap) (ex : SameOut w w') : Inv G hp ν H w' where
  fx := ⟨ex.1.trans h.fx.1, ex.2.1.trans h.fx.2.1, ex.2.2.trans h.fx.2.2⟩
  er n x hx := (h.er n x hx).move (.refl ν) rfl (fun _ _ => by rw [e])
  inj := h.inj
  dom := h.dom
  gfr b hb := by rw [e]; exact h.gfr b hb
  nb := h.nb
  own := h.own

theorem aset_ne {H : Heap} {n m : Nat} {e : Ent} (h : aget H m ≠ none) : aget (aset H n e) m ≠ none := by
  rw [aget_aset]; split <;> simp [h]
/-- An entry is given up. -/
theorem Inv.kill {G : Nat → Prop} {hp : HP} {ν : Nm} {H : Heap} {w : World} (h : Inv G hp ν H w) {n : Nat} {e0 : Ent} (_h0 : aget H n = some e0) : Inv G hp ν (aset H n .dead) w where
  fx := h.fx
  er m x hx := by
    rw [aget_aset] at hx
    split at hx
    · cases hx; trivial
    · exact h.er m x hx
  inj a b x y hx ho hy hl := by
    rw [aget_aset] at hx hy
    split at hx
    · cases hx; cases ho
    · split at hy
      · cases hy; cases hl
      · exact h.inj a b x y hx ho hy hl
  dom m hm := by
    rw [aget_aset] at hm
    split at hm
    · cases hm
    · exact h.dom m hm
  gfr := h.gfr
  nb m hm := ⟨(h.nb m hm).1, aset_ne (h.nb m hm).2⟩
  own m x L hx ho := by
    rw [aget_aset] at hx
    split at hx
    · cases hx; cases ho
    · exact h.own m x L hx ho

/-- A new block under a new name. -/
theorem Inv.alloc {G : Nat → Prop} {hp : HP} {ν : Nm} {H : Heap} {w : World} (h : Inv G hp ν H w) {nm : Nat} (hn : aget H nm = none)
    (arr : Array Value) (T : TypeId) (lv : LV) (hl : lv.toL.length ≤ arr.size) (hc : ∀ (k : Nat) (c : AV), lv.toL[k]? = some c → ∃ v, arr[k]? = some v ∧ CR ν c v) :
    Inv G hp (upd ν nm ⟨w.heap.size, 0, arr.size, lv.z⟩) (aset H nm (.c true lv)) (w.alloc (.cells arr T)) := by
  have hν : ν nm = none := h.dom nm hn
  have hk : Keeps ν (upd ν nm ⟨w.heap.size, 0, arr.size, lv.z⟩) := Keeps.upd _ hν
  refine ⟨?_, ?_, ?_, ?_, fun m hm => ⟨(upd_other _ (fun (e : m = nm) => (h.nb m hm).2 (by rw [e]; exact hn))).trans (h.nb m hm).1, aset_ne (h.nb m hm).2⟩, ?_, h.fx⟩
  · intro m x hx
    rw [aget_aset] at hx
    split at hx
    · rename_i e; cases hx; subst e
      simp only [ER, upd_self]
      refine ⟨trivial, arr, T, (0, 0), heap_alloc_new w _, by simp, hl, ?_, fun _ => rfl⟩
      intro k hk'
      obtain ⟨v, hv, hr⟩ := hc k _ (List.getElem?_eq_getElem hk')
      exact ⟨v, by simpa using hv, _, List.getElem?_eq_getElem hk', hr.keeps hk⟩
    · rename_i e
      have hm := h.er m x hx
      by_cases hd : x.live = true
      · exact hm.move hk (upd_other _ (Ne.symm e)) (fun L hL => heap_alloc_old w _ _ (hm.lt hd hL))
      · cases x <;> first | trivial | (simp [Ent.live] at hd)
  · intro a b x y hx ho hy hl' hab L L' hL hL'
    rw [aget_aset] at hx hy
    split at hx
    · rename_i e; subst e; cases hx
      rw [upd_self] at hL; cases hL
      rw [if_neg hab] at hy
      rw [upd_other _ (Ne.symm hab)] at hL'
      have := (h.er b y hy).lt hl' hL'
      simp; omega
    · rename_i e
      rw [upd_other _ (Ne.symm e)] at hL
      split at hy
      · rename_i e2; subst e2; cases hy
        rw [upd_self] at hL'; cases hL'
        have hxl : x.live = true := by cases x <;> first | rfl | (simp [Ent.isOwn] at ho)
        have := (h.er a x hx).lt hxl hL
        simp; omega
      · rename_i e2
        rw [upd_other _ (Ne.symm e2)] at hL'
        exact h.inj a b x y hx ho hy hl' hab L L' hL hL'
  · intro m hm
    rw [aget_aset] at hm
    split at hm
    · cases hm
    · rename_i e
      rw [upd_other _ (Ne.symm e)]; exact h.dom m hm
  · intro b hb
    obtain ⟨h1, h2⟩ := h.gfr b hb
    refine ⟨by rw [heap_alloc_old w _ _ h2]; exact h1, ?_⟩
    have : (w.alloc (.cells arr T)).heap.size = w.heap.size + 1 := by show (w.heap.push _).size = _; simp
    omega
  · intro m x L hx ho hL
    rw [aget_aset] at hx
    split at hx
    · rename_i e; subst e
      rw [upd_self] at hL; cases hL
      intro hg
      have := (h.gfr _ hg).2
      simp at this
    · rename_i e
      rw [upd_other _ (Ne.symm e)] at hL
      exact h.own m x L hx ho hL

/-- The cells of an own entry are written; under the same name, or under a new one that takes its place in the block. -/
theorem Inv.write {G : Nat → Prop} {hp : HP} {ν : Nm} {H : Heap} {w : World} (h : Inv G hp ν H w) {n : Nat} {lv0 : LV} (h0 : aget H n = some (.c true lv0)) {L : Loc} (hL : ν n = some L)
    (old arr : Array Value) (T : TypeId) (ho : w.heap[L.blk]? = some (.cells old T (0, 0))) (hs : L.off + L.lim ≤ arr.size)
    (lv : LV) (hz : L.esz = lv.z) (hl : lv.toL.length ≤ L.lim) (hc : ∀ (k : Nat) (c : AV), lv.toL[k]? = some c → ∃ v, arr[L.off + k]? = some v ∧ CR ν c v) :
    Inv G hp ν (aset H n (.c true lv)) (w.setRow L.blk arr) := by
  have far : ∀ m x, aget H m = some x → m ≠ n → x.live = true → ∀ M, ν m = some M → M.blk ≠ L.blk := fun m x hx hmn hl M hM => (h.inj n m _ x h0 rfl hx hl (Ne.symm hmn) L M hL hM).symm
  refine ⟨?_, ?_, ?_, ?_, fun m hm => ⟨(h.nb m hm).1, aset_ne (h.nb m hm).2⟩, ?_, h.fx⟩
  · intro m x hx
    rw [aget_aset] at hx
    split at hx
    · rename_i e; cases hx; subst e
      simp only [ER, hL]
      refine ⟨hz, arr, T, (0, 0), setRow_heap w _ old arr T _ ho, hs, hl, ?_, fun _ => rfl⟩
      intro k hk'
      obtain ⟨v, hv, hr⟩ := hc k _ (List.getElem?_eq_getElem hk')
      exact ⟨v, hv, _, List.getElem?_eq_getElem hk', hr⟩
    · rename_i e
      have hm := h.er m x hx
      by_cases hd : x.live = true
      · exact hm.move (.refl ν) rfl (fun M hM => setRow_other w _ _ _ (far m x hx (Ne.symm e) hd M hM))
      · cases x <;> first | trivial | (simp [Ent.live] at hd)
  · intro a b x y hx hxo hy hyl hab M M' hM hM'
    rw [aget_aset] at hx hy
    have hx' : ∃ x', aget H a = some x' ∧ x'.isOwn = true := by
      split at hx
      · rename_i e; subst e; exact ⟨_, h0, rfl⟩
      · exact ⟨x, hx, hxo⟩
    have hy' : ∃ y', aget H b = some y' ∧ y'.live = true := by
      split at hy
      · rename_i e; subst e; exact ⟨_, h0, rfl⟩
      · exact ⟨y, hy, hyl⟩
    obtain ⟨x', hx1, hx2⟩ := hx'
    obtain ⟨y', hy1, hy2⟩ := hy'
    exact h.inj a b x' y' hx1 hx2 hy1 hy2 hab M M' hM hM'
  · intro m hm
    rw [aget_aset] at hm
    split at hm
    · cases hm
    · exact h.dom m hm
  · intro b hb
    obtain ⟨h1, h2⟩ := h.gfr b hb
    have hne : b ≠ L.blk := fun e => h.own n _ L h0 rfl hL (e ▸ hb)
    refine ⟨by rw [setRow_other w _ _ _ hne]; exact h1, ?_⟩
    have : (w.setRow L.blk arr).heap.size = w.heap.size := by simp [World.setRow]
    omega
  · intro m x M hx hxo hM
    rw [aget_aset] at hx
    split at hx
    · rename_i e; subst e; exact h.own n _ M h0 rfl hM
    · exact h.own m x M hx hxo hM

/-- An own entry goes over to a new name, from some cell on. -/
theorem Inv.rebase {G : Nat → Prop} {hp : HP} {ν : Nm} {H : Heap} {w : World} (h : Inv G hp ν H w) {n nm : Nat} {lv : LV} (h0 : aget H n = some (.c true lv)) (hn : aget H nm = none) (o : Nat) (lv' : LV) (hl : lv'.toL = lv.toL.drop o) (hlz : lv'.z = lv.z)
    (hz : ∀ L, ν n = some L → o ≤ L.lim) :
    ∃ ν', Keeps ν ν' ∧ (∀ L, ν n = some L → ν' nm = some ⟨L.blk, L.off + o, L.lim - o, L.esz⟩) ∧ (∀ m, m ≠ nm → ν' m = ν m) ∧ (ν n = none → ν' nm = none) ∧ Inv G hp ν' (aset (aset H n .dead) nm (.c true lv')) w := by
  have hne : n ≠ nm := fun e => by subst e; rw [h0] at hn; cases hn
  have hν : ν nm = none := h.dom nm hn
  cases hL : ν n with
  | none =>
    refine ⟨ν, .refl ν, by simp, fun _ _ => rfl, fun _ => hν, ?_, ?_, ?_, h.gfr, fun m hm => ⟨(h.nb m hm).1, aset_ne (aset_ne (h.nb m hm).2)⟩, ?_, h.fx⟩
    · intro m x hx
      rw [aget_aset] at hx
      split at hx
      · rename_i e; subst e; cases hx
        have := h.er n _ h0
        simp only [ER, hL] at this
        simp [ER, hν, hl, this]
      · exact (h.kill h0).er m x hx
    · intro a b x y hx hxo hy hyl hab M M' hM hM'
      rw [aget_aset] at hx hy
      split at hx
      · rename_i e; subst e; rw [hν] at hM; cases hM
      · split at hy
        · rename_i e; subst e; rw [hν] at hM'; cases hM'
        · exact (h.kill h0).inj a b x y hx hxo hy hyl hab M M' hM hM'
    · intro m hm
      rw [aget_aset] at hm
      split at hm
      · cases hm
      · exact (h.kill h0).dom m hm
    · intro m x M hx hxo hM
      rw [aget_aset] at hx
      split at hx
      · rename_i e; subst e; rw [hν] at hM; cases hM
      · exact (h.kill h0).own m x M hx hxo hM
  | some L =>
    have hk : Keeps ν (upd ν nm ⟨L.blk, L.off + o, L.lim - o, L.esz⟩) := Keeps.upd _ hν
    have hlim := hz L hL
    refine ⟨upd ν nm ⟨L.blk, L.off + o, L.lim - o, L.esz⟩, hk, fun M hM => by cases hM; exact upd_self _ _ _, fun m hm => upd_other _ hm, by simp, ?_, ?_, ?_, h.gfr, fun m hm => ⟨(upd_other _ (fun (e : m = nm) => (h.nb m hm).2 (by rw [e]; exact hn))).trans (h.nb m hm).1, aset_ne (aset_ne (h.nb m hm).2)⟩, ?_, h.fx⟩
    · intro m x hx
      rw [aget_aset] at hx
      split at hx
      · rename_i e; subst e; cases hx
        have he := h.er n _ h0
        simp only [ER, hL] at he
        obtain ⟨he0, arr, T, fr, h1, h2, h3, h4, h5⟩ := he
        simp only [ER, upd_self]
        refine ⟨by rw [hlz]; exact he0, arr, T, fr, h1, by omega, by rw [hl, List.length_drop]; omega, ?_, h5⟩
        intro k hk'
        rw [hl, List.length_drop] at hk'
        obtain ⟨v, hv, c, hc, hr⟩ := h4 (o + k) (by omega)
        exact ⟨v, by simpa [Nat.add_assoc] using hv, c, by rw [hl, List.getElem?_drop]; exact hc, hr.keeps hk⟩
      · rename_i e
        exact ((h.kill h0).er m x hx).move hk (upd_other _ (Ne.symm e)) (fun _ _ => rfl)
    · intro a b x y hx hxo hy hyl hab M M' hM hM'
      rw [aget_aset] at hx hy
      split at hx
      · rename_i e; subst e
        rw [upd_self] at hM; cases hM
        rw [if_neg hab] at hy
        rw [upd_other _ (Ne.symm hab)] at hM'
        rw [aget_aset] at hy
        split at hy
        · cases hy; cases hyl
        · rename_i e2
          exact h.inj n b _ y h0 rfl hy hyl e2 L M' hL hM'
      · rename_i e
        rw [upd_other _ (Ne.symm e)] at hM
        rw [aget_aset] at hx
        split at hx
        · cases hx; cases hxo
        · rename_i e1
          split at hy
          · rename_i e2; subst e2
            rw [upd_self] at hM'; cases hM'
            exact h.inj a n x _ hx hxo h0 rfl (Ne.symm e1) M L hM hL
          · rename_i e2
            rw [upd_other _ (Ne.symm e2)] at hM'
            exact (h.kill h0).inj a b x y (by rw [aget_aset, if_neg e1]; exact hx) hxo hy hyl hab M M' hM hM'
    · intro m hm
      rw [aget_aset] at hm
      split at hm
      · cases hm
      · rename_i e
        rw [upd_other _ (Ne.symm e)]; exact (h.kill h0).dom m hm
    · intro m x M hx hxo hM
      rw [aget_aset] at hx
      split at hx
      · rename_i e; subst e
        rw [upd_self] at hM; cases hM
        exact h.own n _ L h0 rfl hL
      · rename_i e
        rw [upd_other _ (Ne.symm e)] at hM
        exact (h.kill h0).own m x M hx hxo hM

/-- An empty list under a new name. -/
theorem Inv.fresh {G : Nat → Prop} {hp : HP} {ν : Nm} {H : Heap} {w : World} (h : Inv G hp ν H w) {nm : Nat} (hn : aget H nm = none) (lv : LV) (hl : lv.toL = []) : Inv G hp ν (aset H nm (.c true lv)) w := by
  have hν : ν nm = none := h.dom nm hn
  refine ⟨?_, ?_, ?_, h.gfr, fun m hm => ⟨(h.nb m hm).1, aset_ne (h.nb m hm).2⟩, ?_, h.fx⟩
  · intro m x hx
    rw [aget_aset] at hx
    split at hx
    · rename_i e; subst e; cases hx; simp [ER, hν, hl]
    · exact h.er m x hx
  · intro a b x y hx hxo hy hyl hab M M' hM hM'
    rw [aget_aset] at hx hy
    split at hx
    · rename_i e; subst e; rw [hν] at hM; cases hM
    · split at hy
      · rename_i e; subst e; rw [hν] at hM'; cases hM'
      · exact h.inj a b x y hx hxo hy hyl hab M M' hM hM'
  · intro m hm
    rw [aget_aset] at hm
    split at hm
    · cases hm
    · exact h.dom m hm
  · intro m x M hx hxo hM
    rw [aget_aset] at hx
    split at hx
    · rename_i e; subst e; rw [hν] at hM; cases hM
    · exact h.own m x M hx hxo hM

end Go.Proofs.Ytbcnkfkmonpdeaa.S
