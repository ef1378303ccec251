/- Texts of this claim's own layer, laid as one: Ti Tj Mr Mi. Own work of this claim. -/
import Derived.Test.YtbobhbhgomkgpaaGreatDoorSp
import Derived.Test.YtbobhbhgomkgpaaGreatDoorA6
/- The symbolic heap: lists that stay are told by the very values that point at them; they get names when they are looked at. Own work of this claim. -/
namespace Go.Proofs.YtbobhbhgomkgpaaGreatDoor.S
set_option linter.all false
open Go Go.Proofs
variable {D : Cx}

/-- Cells without names. -/
def AV.plain : AV → Bool
  | .int _ _ | .bool _ | .str _ | .emp => true
  | _ => false
theorem CR.plain {ν ν' : Nm} {c : AV} {v : Value} (hc : c.plain = true) (h : CR ν c v) : CR ν' c v := by
  cases c <;> first | exact h | cases hc
/-- A slice value that points at a list that stays. -/
def Held (v : Value) (n : Nat) (lv : LV) : Cx := fun G hp => lv.len = n * lv.z ∧ 0 < lv.z ∧
  ((n = 0 ∧ ∃ a, v = .slice a 0 0) ∨
  ∃ blk off cap arr T fr, v = .slice (some ⟨blk, off, none⟩) n cap ∧ G blk ∧ hp.a[blk]? = some (.cells arr T fr) ∧ n ≤ cap ∧ off + cap * lv.z ≤ arr.size ∧
    ∀ k, k < lv.toL.length → ∃ u c, arr[off + k]? = some u ∧ lv.toL[k]? = some c ∧ c.plain = true ∧ CR (fun _ => none) c u)
theorem Held.tr (v : Value) (n : Nat) (lv : LV) : (Held v n lv).tr := by
  intro G hp G' hp' hx h
  refine ⟨h.1, h.2.1, ?_⟩
  rcases h.2.2 with h | ⟨blk, off, cap, arr, T, fr, h1, h2, h3, h4⟩
  · exact .inl h
  · exact .inr ⟨blk, off, cap, arr, T, fr, h1, (hx blk h2).1, by rw [(hx blk h2).2]; exact h3, h4⟩
theorem Ext.tr {G G' : Nat → Prop} {hp hp' : HP} (x : Ext G hp G' hp') : ∀ b, G b → G' b ∧ hp'.a[b]? = hp.a[b]? := fun b hb => ⟨x.sub b hb, x.keep b hb⟩

section
variable {P : Program} {nt : Nat} {ks : List It} {env : Env} {H : Heap} {R : Env → Heap → Prop}
/-- A list that stays gets a name. -/
theorem thaw_st {G : Nat → Prop} {hp : HP} {ν : Nm} {a : Act} {w : World} {v : Value} {k : Nat} {lv : LV} {n : Nat} (hv : Held v k lv G hp) (hn : aget H n = none) (st : St G hp nt ν env H a w) :
    ∃ ν', Keeps ν ν' ∧ St G hp nt ν' env (aset H n (.c false lv)) a w ∧ CR ν' (.sl n 0 k) v := by
  have hI := st.inv
  have hνn : ν n = none := hI.dom n hn
  have g : ∀ m e, aget (aset H n (.c false lv)) m = some e → m = n ∧ e = .c false lv ∨ m ≠ n ∧ aget H m = some e := by
    intro m e hm
    rw [aget_aset] at hm
    split at hm
    · rename_i x; cases hm; exact .inl ⟨x.symm, rfl⟩
    · rename_i x; exact .inr ⟨fun y => x y.symm, hm⟩
  rcases hv.2.2 with ⟨h0, a0, hva⟩ | ⟨blk, off, cap, arr, T, fr, rfl, hG, ha, hcap, hsz, hcells⟩
  · have hl : lv.toL = [] := List.eq_nil_of_length_eq_zero (by rw [LV.len_eq, hv.1, h0]; omega)
    refine ⟨ν, fun _ _ h => h, ⟨st.defers, st.size, st.env, ?_, ?_, ?_, hI.gfr, fun m hm => ⟨(hI.nb m hm).1, aset_ne (hI.nb m hm).2⟩, ?_, hI.fx⟩, .inr ⟨h0, a0, hva⟩⟩
    · intro m e hm
      rcases g m e hm with ⟨rfl, rfl⟩ | ⟨_, hm⟩
      · simp only [ER, hνn]; exact hl
      · exact hI.er m e hm
    · intro x y e e' hx hxo hy hyl hxy L L' hL hL'
      rcases g x e hx with ⟨q1, q2⟩ | ⟨_, hx2⟩
      · rw [q2] at hxo; cases hxo
      rcases g y e' hy with ⟨q1, q2⟩ | ⟨_, hy2⟩
      · rw [q1, hνn] at hL'; cases hL'
      exact hI.inj x y e e' hx2 hxo hy2 hyl hxy L L' hL hL'
    · intro m hm
      rw [aget_aset] at hm
      split at hm
      · cases hm
      · exact hI.dom m hm
    · intro m e L hm ho hL
      rcases g m e hm with ⟨rfl, rfl⟩ | ⟨_, hm⟩
      · cases ho
      · exact hI.own m e L hm ho hL
  · obtain ⟨ν', hν'⟩ : ∃ ν' : Nm, ν' = fun m => if m = n then some ⟨blk, off, cap * lv.z, lv.z⟩ else ν m := ⟨_, rfl⟩
    have e1 : ν' n = some ⟨blk, off, cap * lv.z, lv.z⟩ := by rw [hν']; simp
    have e2 : ∀ m, m ≠ n → ν' m = ν m := fun m h => by rw [hν']; simp only; rw [if_neg h]
    have hk : Keeps ν ν' := fun m L h => by
      rw [e2 m (fun q => by subst q; rw [hνn] at h; cases h)]; exact h
    have hw : w.heap[blk]? = some (.cells arr T fr) := by rw [(hI.gfr blk hG).1]; exact ha
    refine ⟨ν', hk, ⟨st.defers, st.size, st.env.keeps hk, ?_, ?_, ?_, hI.gfr, fun m hm => ⟨?_, aset_ne (hI.nb m hm).2⟩, ?_, hI.fx⟩, .inl ⟨_, cap, e1, hcap, by simp, rfl⟩⟩
    · intro m e hm
      rcases g m e hm with ⟨rfl, rfl⟩ | ⟨hne, hm⟩
      · simp only [ER, e1]
        refine ⟨trivial, arr, T, fr, hw, hsz, ?_, fun k hk => ?_, fun h => by cases h⟩
        · rw [LV.len_eq, hv.1]; exact Nat.mul_le_mul_right _ hcap
        · obtain ⟨u, c, h1, h2, h3, h4⟩ := hcells k hk
          exact ⟨u, h1, c, h2, h4.plain h3⟩
      · exact (hI.er m e hm).move hk (e2 m hne) (fun _ _ => rfl)
    · intro x y e e' hx hxo hy hyl hxy L L' hL hL'
      rcases g x e hx with ⟨q1, q2⟩ | ⟨hxn, hx2⟩
      · rw [q2] at hxo; cases hxo
      rw [e2 x hxn] at hL
      rcases g y e' hy with ⟨q1, q2⟩ | ⟨hyn, hy2⟩
      · rw [q1, e1] at hL'; cases hL'
        intro q
        exact hI.own x e L hx2 hxo hL (by rw [q]; exact hG)
      rw [e2 y hyn] at hL'
      exact hI.inj x y e e' hx2 hxo hy2 hyl hxy L L' hL hL'
    · intro m hm
      rw [aget_aset] at hm
      split at hm
      · cases hm
      · rename_i q; rw [e2 m (fun x => q x.symm)]; exact hI.dom m hm
    · have := hI.nb m hm
      rw [e2 m (fun q => by subst q; exact this.2 hn)]; exact this.1
    · intro m e L hm ho hL
      rcases g m e hm with ⟨rfl, rfl⟩ | ⟨hne, hm⟩
      · cases ho
      · rw [e2 m hne] at hL; exact hI.own m e L hm ho hL
/-- An entry's cells are told in other words. -/
theorem retell_st {G : Nat → Prop} {hp : HP} {ν : Nm} {a : Act} {w : World} {q : Nat} {own : Bool} {z : Nat} {l l' : List AV} (h0 : aget H q = some (.c own (.av z l))) (hl : l'.length = l.length)
    (hc : ∀ (k : Nat) (c : AV) (v : Value), l[k]? = some c → CR ν c v → ∃ c', l'[k]? = some c' ∧ CR ν c' v) (st : St G hp nt ν env H a w) : St G hp nt ν env (aset H q (.c own (.av z l'))) a w := by
  have hI := st.inv
  have g : ∀ m e, aget (aset H q (.c own (.av z l'))) m = some e → ∃ e0, aget H m = some e0 ∧ e0.isOwn = e.isOwn ∧ e0.live = e.live := by
    intro m e hm
    rw [aget_aset] at hm
    split at hm
    · rename_i y; subst y; cases hm; exact ⟨_, h0, rfl, rfl⟩
    · exact ⟨e, hm, rfl, rfl⟩
  refine ⟨st.defers, st.size, st.env, ?_, ?_, ?_, hI.gfr, fun m hm => ⟨(hI.nb m hm).1, aset_ne (hI.nb m hm).2⟩, ?_, hI.fx⟩
  · intro m e hm
    rw [aget_aset] at hm
    split at hm
    · rename_i x; subst x; cases hm
      have := hI.er q _ h0
      simp only [ER, LV.toL, LV.z] at this ⊢
      split at this
      · rename_i hν
        exact List.eq_nil_of_length_eq_zero (by rw [hl, this]; rfl)
      · rename_i L hν
        obtain ⟨e0, arr, T, fr, h1, h2, h3, h4, h5⟩ := this
        refine ⟨e0, arr, T, fr, h1, h2, by rw [hl]; exact h3, fun k hk => ?_, h5⟩
        rw [hl] at hk
        obtain ⟨v, hv, c, hcc, hr⟩ := h4 k hk
        obtain ⟨c', g1, g2⟩ := hc k c v hcc hr
        exact ⟨v, hv, c', g1, g2⟩
    · exact hI.er m e hm
  · intro x y e e' hx hxo hy hyl hxy L L' hL hL'
    obtain ⟨e0, a1, a2, a3⟩ := g x e hx
    obtain ⟨e1, b1, b2, b3⟩ := g y e' hy
    exact hI.inj x y e0 e1 a1 (a2.trans hxo) b1 (b3.trans hyl) hxy L L' hL hL'
  · intro m hm
    rw [aget_aset] at hm
    split at hm
    · cases hm
    · exact hI.dom m hm
  · intro m e L hm ho hL
    obtain ⟨e0, a1, a2, a3⟩ := g m e hm
    exact hI.own m e0 L a1 (a2.trans ho) hL
/-- A value in a cell gets a name, and the list that it points at. -/
theorem W_thaw0 {q n i k : Nat} {own : Bool} {z : Nat} {l : List AV} {v : Value} {lv : LV} (hv : ∀ G hp, D G hp → Held v k lv G hp)
    (h : W D P nt ks env (aset (aset H n (.c false lv)) q (.c own (.av z (l.set i (.sl n 0 k))))) R)
    (h0 : aget H q = some (.c own (.av z l))) (hi : l[i]? = some (.lit v)) (hn : aget H n = none) : W D P nt ks env H R := by
  intro hk G hp hB hD ν a w st
  obtain ⟨ν', hkp, st', hcr⟩ := thaw_st (hv G hp hD) hn st
  have hqn : n ≠ q := fun e => by subst e; rw [hn] at h0; cases h0
  refine h hk G hp hB hD ν' a w (retell_st (l := l) (by rw [aget_aset, if_neg hqn]; exact h0) (by simp) ?_ st')
  intro j c u hj hc
  by_cases e : i = j
  · subst e
    rw [hi] at hj; cases hj
    obtain ⟨rfl, _⟩ := hc
    exact ⟨_, by rw [List.getElem?_set_self (by exact (List.getElem?_eq_some_iff.1 hi).1)], hcr⟩
  · exact ⟨c, by rw [List.getElem?_set_ne e]; exact hj, hc⟩
/-- A list of this function's comes to stay: its cell is told by its value from here on. -/
theorem W_frz0 {q n i k : Nat} {own : Bool} {z : Nat} {l : List AV} {lv : LV} (hD : D.tr)
    (h : ∀ v, W (fun G hp => D G hp ∧ Held v k lv G hp) P nt ks env (aset (aset H n (.c false lv)) q (.c own (.av z (l.set i (.lit v))))) R)
    (h0 : aget H q = some (.c own (.av z l))) (hi : l[i]? = some (.sl n 0 k)) (hn : aget H n = some (.c true lv)) (hqn : n ≠ q) (hp : ∀ c ∈ lv.toL, c.plain = true) (hl : lv.len = k * lv.z) (hz : 0 < lv.z) : W D P nt ks env H R := by
  intro hk G hp0 hB hDG ν a w st
  have hI := st.inv
  -- the value that stands in the cell
  have hcell : ∃ v, (∃ c, l[i]? = some c) ∧ (∀ u, (∃ L, ν q = some L ∧ ∃ arr T fr, w.heap[L.blk]? = some (.cells arr T fr) ∧ arr[L.off + i]? = some u) → u = v) ∧ CR ν (.sl n 0 k) v := by
    have he := hI.er q _ h0
    simp only [ER, LV.toL, LV.z] at he
    split at he
    · rw [he] at hi; simp at hi
    · rename_i L hν
      obtain ⟨e0, arr, T, fr, h1, h2, h3, h4, h5⟩ := he
      have hlt : i < l.length := (List.getElem?_eq_some_iff.1 hi).1
      obtain ⟨v, hv, c, hc, hr⟩ := h4 i hlt
      rw [hi] at hc; cases hc
      refine ⟨v, ⟨_, hi⟩, ?_, hr⟩
      rintro u ⟨L', hL', arr', T', fr', g1, g2⟩
      rw [hν] at hL'; cases hL'
      rw [h1] at g1; cases g1
      rw [hv] at g2; cases g2; rfl
  obtain ⟨v, _, hu, hcr⟩ := hcell
  have hen := hI.er n _ hn
  -- what stays from here on
  obtain ⟨G', hp', x, hh, hG'⟩ : ∃ (G' : Nat → Prop) (hp' : HP), Ext G hp0 G' hp' ∧ Held v k lv G' hp' ∧ (∀ b, G' b → w.heap[b]? = hp'.a[b]? ∧ b < w.heap.size) ∧ SameOut hp'.wb w ∧ (∀ m e L, aget H m = some e → e.isOwn = true → m ≠ n → ν m = some L → ¬ G' L.blk) := by
    have xx : ∀ S : Nat → Prop, (∀ b, S b → b < w.heap.size) → Ext G hp0 (fun b => G b ∨ S b) ⟨w, hp0.B, hp0.νb⟩ := fun S _ => ⟨fun b hb => .inl hb, fun b hb => (hI.gfr b hb).1, rfl, rfl, hI.fx⟩
    rcases hcr with ⟨L, cap, hL, hcap, hlim, rfl⟩ | ⟨hk0, a0, rfl⟩
    · simp only [ER, hL] at hen
      obtain ⟨hes, arr, T, fr, g1, g2, g3, g4, g5⟩ := hen
      have hbs : L.blk < w.heap.size := (Array.getElem?_eq_some_iff.1 g1).1
      refine ⟨fun b => G b ∨ b = L.blk, ⟨w, hp0.B, hp0.νb⟩, xx (fun b => b = L.blk) (fun b hb => by rw [hb]; exact hbs), ⟨hl, hz, .inr ⟨L.blk, L.off + 0, cap, arr, T, fr, rfl, .inr rfl, g1, hcap, ?_, ?_⟩⟩, ?_, ⟨rfl, rfl, rfl⟩, ?_⟩
      · rw [hes] at hlim; omega
      · intro j hj
        obtain ⟨u, hu, c, hc, hr⟩ := g4 j hj
        have hpl := hp c (List.mem_of_getElem? hc)
        exact ⟨u, c, hu, hc, hpl, hr.plain hpl⟩
      · rintro b (hb | rfl)
        · exact ⟨rfl, (hI.gfr b hb).2⟩
        · exact ⟨rfl, hbs⟩
      · rintro m e L' hm ho hne hL' (hg | hg)
        · exact hI.own m e L' hm ho hL' hg
        · exact hI.inj m n e _ hm ho hn rfl hne L' L hL' hL hg
    · refine ⟨fun b => G b ∨ False, ⟨w, hp0.B, hp0.νb⟩, xx (fun _ => False) (fun _ h => h.elim), ⟨hl, hz, .inl ⟨hk0, a0, rfl⟩⟩, ?_, ⟨rfl, rfl, rfl⟩, ?_⟩
      · rintro b (hb | hb)
        · exact ⟨rfl, (hI.gfr b hb).2⟩
        · exact hb.elim
      · rintro m e L' hm ho hne hL' (hg | hg)
        · exact hI.own m e L' hm ho hL' hg
        · exact hg
  obtain ⟨gfr', out', own'⟩ := hG'
  have g : ∀ m e, aget (aset H n (.c false lv)) m = some e → m = n ∧ e = .c false lv ∨ m ≠ n ∧ aget H m = some e := by
    intro m e hm
    rw [aget_aset] at hm
    split at hm
    · rename_i x; cases hm; exact .inl ⟨x.symm, rfl⟩
    · rename_i x; exact .inr ⟨fun y => x y.symm, hm⟩
  have st1 : St G' hp' nt ν env (aset H n (.c false lv)) a w := by
    refine ⟨st.defers, st.size, st.env, ?_, ?_, ?_, gfr', ?_, ?_, out'⟩
    · intro m e hm
      rcases g m e hm with ⟨rfl, rfl⟩ | ⟨_, hm⟩
      · have := hI.er m _ hn
        simp only [ER] at this ⊢
        split
        · rename_i q; rw [q] at this; exact this
        · rename_i L q
          rw [q] at this
          obtain ⟨e0, arr, T, fr, g1, g2, g3, g4, g5⟩ := this
          exact ⟨e0, arr, T, fr, g1, g2, g3, g4, fun h => by cases h⟩
      · exact hI.er m e hm
    · intro x y e e' hx hxo hy hyl hxy L L' hL hL'
      rcases g x e hx with ⟨q1, q2⟩ | ⟨_, hx2⟩
      · rw [q2] at hxo; cases hxo
      rcases g y e' hy with ⟨q1, q2⟩ | ⟨_, hy2⟩
      · rw [q1] at hxy hL'
        exact hI.inj x n e _ hx2 hxo hn rfl hxy L L' hL hL'
      exact hI.inj x y e e' hx2 hxo hy2 hyl hxy L L' hL hL'
    · intro m hm
      rw [aget_aset] at hm
      split at hm
      · cases hm
      · exact hI.dom m hm
    · intro m hm
      have := hI.nb m (by rw [← x.B]; exact hm)
      exact ⟨by rw [x.νb]; exact this.1, aset_ne this.2⟩
    · intro m e L hm ho hL
      rcases g m e hm with ⟨rfl, rfl⟩ | ⟨hne, hm⟩
      · cases ho
      · exact own' m e L hm ho hne hL
  refine semS_mono x ks _ a w (h v hk G' hp' (fun m hm => hB m (by rw [← x.B]; exact hm)) ⟨hD G hp0 G' hp' x.tr hDG, hh⟩ ν a w ?_)
  -- the cell's value is v in the world as it is
  have hq1 : aget (aset H n (.c false lv)) q = some (.c own (.av z l)) := by rw [aget_aset, if_neg hqn]; exact h0
  have hI1 := st1.inv
  refine ⟨st.defers, st.size, st.env, ?_, ?_, ?_, hI1.gfr, fun m hm => ⟨(hI1.nb m hm).1, aset_ne (hI1.nb m hm).2⟩, ?_, hI1.fx⟩
  · intro m e hm
    rw [aget_aset] at hm
    split at hm
    · rename_i y; subst y; cases hm
      have := hI1.er q _ hq1
      simp only [ER, LV.toL, LV.z] at this ⊢
      split at this
      · rename_i hν
        rw [this] at hi; simp at hi
      · rename_i L hν
        obtain ⟨e0, arr, T, fr, h1, h2, h3, h4, h5⟩ := this
        refine ⟨e0, arr, T, fr, h1, h2, by simpa using h3, fun j hj => ?_, h5⟩
        rw [List.length_set] at hj
        obtain ⟨u, huj, c, hcc, hr⟩ := h4 j hj
        by_cases e : i = j
        · subst e
          have : u = v := hu u ⟨L, hν, arr, T, fr, h1, huj⟩
          subst this
          exact ⟨u, huj, .lit u, by rw [List.getElem?_set_self hj], rfl, hcr.one⟩
        · exact ⟨u, huj, c, by rw [List.getElem?_set_ne e]; exact hcc, hr⟩
    · exact hI1.er m e hm
  · have gg : ∀ m e, aget (aset (aset H n (.c false lv)) q (.c own (.av z (l.set i (.lit v))))) m = some e → ∃ e0, aget (aset H n (.c false lv)) m = some e0 ∧ e0.isOwn = e.isOwn ∧ e0.live = e.live := by
      intro m e hm
      rw [aget_aset] at hm
      split at hm
      · rename_i y; subst y; cases hm; exact ⟨_, hq1, rfl, rfl⟩
      · exact ⟨e, hm, rfl, rfl⟩
    intro x y e e' hx hxo hy hyl hxy L L' hL hL'
    obtain ⟨e0, a1, a2, a3⟩ := gg x e hx
    obtain ⟨e1, b1, b2, b3⟩ := gg y e' hy
    exact hI1.inj x y e0 e1 a1 (a2.trans hxo) b1 (b3.trans hyl) hxy L L' hL hL'
  · intro m hm
    rw [aget_aset] at hm
    split at hm
    · cases hm
    · exact hI1.dom m hm
  · intro m e L hm ho hL
    rw [aget_aset] at hm
    split at hm
    · rename_i y; subst y; cases hm
      exact hI1.own q _ L hq1 ho hL
    · exact hI1.own m e L hm ho hL
end
theorem ints_plain (l : List Int) : ∀ c ∈ (LV.ints l).toL, c.plain = true := by
  intro c hc
  obtain ⟨x, _, rfl⟩ := List.mem_map.1 hc
  rfl
theorem ops_plain (l : List (Int × Int × Int)) : ∀ c ∈ (LV.ops l).toL, c.plain = true := by
  intro c hc
  obtain ⟨x, _, h⟩ := List.mem_flatMap.1 hc
  simp only [opL, List.mem_cons, List.not_mem_nil, or_false] at h
  rcases h with rfl | rfl | rfl <;> rfl
section
variable {nt : Nat} {ks : List It} {env : Env} {H H' : Heap} {R : Env → Heap → Prop}
theorem W_thaw {own : Bool} {z k : Nat} {l : List AV} {v : Value} {lv : LV} (q n i : Nat) (hv : ∀ G hp, D G hp → Held v k lv G hp) (h : Wp D nt ks env H' R)
    (h0 : aget H q = some (.c own (.av z l)) := by
      simp only [aget, Nat.reduceEqDiff, ↓reduceIte]
      try rfl)
    (hi : l[i]? = some (.lit v) := by rfl)
    (hn : aget H n = none := by simp only [aget, Nat.reduceEqDiff, ↓reduceIte])
    (hH : aset (aset H n (.c false lv)) q (.c own (.av z (l.set i (.sl n 0 k)))) = H' := by
      simp only [aset, Nat.reduceEqDiff, ↓reduceIte, List.set_cons_zero, List.set_cons_succ]
      try rfl) : Wp D nt ks env H R := W_thaw0 hv (by rw [hH]; exact h) h0 hi hn
/-- A list in the last cells of an array comes to stay. -/
theorem W_frz {own : Bool} {z k : Nat} {A B : List AV} {lv : LV} {Hv : Value → Heap} (q n j : Nat) (hD : D.tr) (hp : ∀ c ∈ lv.toL, c.plain = true) (hl : lv.len = k * lv.z) (hz : 0 < lv.z)
    (h : ∀ v, Wp (fun G hp => D G hp ∧ Held v k lv G hp) nt ks env (Hv v) R)
    (h0 : aget H q = some (.c own (.av z (A ++ B))) := by
      simp only [aget, Nat.reduceEqDiff, ↓reduceIte]
      try rfl)
    (hj : B[j]? = some (.sl n 0 k) := by rfl)
    (hn : aget H n = some (.c true lv) := by
      simp only [aget, Nat.reduceEqDiff, ↓reduceIte]
      try rfl)
    (hqn : n ≠ q := by decide)
    (hH : ∀ v, aset (aset H n (.c false lv)) q (.c own (.av z (A ++ B.set j (.lit v)))) = Hv v := by
      intro v
      simp only [aset, Nat.reduceEqDiff, ↓reduceIte, List.set_cons_zero, List.set_cons_succ]
      try rfl) : Wp D nt ks env H R := by
  refine W_frz0 (i := A.length + j) hD (fun v => ?_) h0 ?_ hn hqn hp hl hz
  · have e : (A ++ B).set (A.length + j) (.lit v) = A ++ B.set j (.lit v) := by
      rw [List.set_append_right _ _ (by omega), Nat.add_sub_cancel_left]
    rw [e, hH v]
    exact h v
  · rw [List.getElem?_append_right (by omega), Nat.add_sub_cancel_left]; exact hj
end
/-- What is known holds of the lists at hand. -/
theorem W_pure {p : Prop} {P : Program} {nt : Nat} {ks : List It} {env : Env} {H : Heap} {R : Env → Heap → Prop} (hp : ∀ G hp, D G hp → p) (h : p → W D P nt ks env H R) : W D P nt ks env H R := fun hk G hp' hB hD => h (hp G hp' hD) hk G hp' hB hD
/-- The end of a round in which more memory came to stay. -/
def BackD {σ : Type} (inv : σ → Prop) (Dl : σ → Cx) (m : σ → Nat) (E : σ → Env) (Hs : σ → Heap) (s : σ) (G : Nat → Prop) (hp : HP) (env : Env) (H : Heap) : Prop := ∃ s', m s' < m s ∧ (inv s' ∧ Dl s' G hp) ∧ EnvLe (E s') env ∧ H = Hs s'
section
variable {nt : Nat} {ks : List It} {env : Env} {H : Heap} {R : Env → Heap → Prop}
theorem W_lpD {σ : Type} {E : σ → Env} {Hs : σ → Heap} {c : Code} (T : Nat) (me : σ → List (Nat × AV)) (mh : σ → List (Nat × Ent)) (inv : σ → Prop) (Dl : σ → Cx) (m : σ → Nat) (s0 : σ) (h0 : inv s0) (hd0 : ∀ G hp, D G hp → Dl s0 G hp)
    (h : ∀ s, inv s → Wp (Dl s) nt (.code c :: .bac (BackD inv Dl m E Hs s) :: ks) (E s) (Hs s) R)
    (hE : ∀ s, E s = setsE (ltE T env) (me s) := by
      intro s
      simp (maxSteps := 1000000) only [setsE, aset, ltE, cns_t, cns_f, Nat.reduceEqDiff, Nat.reduceLT, ↓reduceIte, decide_true, decide_false, Bool.false_eq_true]
      rfl)
    (hH : ∀ s, Hs s = setsH H (mh s) := by
      intro s
      simp only [setsH, aset, Nat.reduceEqDiff, ↓reduceIte]
      rfl)
    (hl : EnvLe (E s0) env := by
      simp (maxSteps := 1000000) (disch := omega) only [EnvLe, IntWalk.i64_in, nat0, natS, Int.add_zero, AV.int.injEq, AV.sl.injEq, Env.get, aget, Nat.reduceEqDiff, ↓reduceIte, Option.getD_some, Option.getD_none, true_and, and_true, and_self, List.length_nil, List.length_cons, List.length_append, List.length_set, List.length_take, List.length_drop]
      try first | done | rfl | omega)
    (hh : H = Hs s0 := by rfl) : Wp D nt (.code (.loop c) :: ks) env H R :=
  W_lpC (fun s G hp => inv s ∧ Dl s G hp) E Hs EnvLe (fun h k => EnvLe.rel h k) m s0 (fun G hp hd => ⟨h0, hd0 G hp hd⟩)
    (fun s => W_pure (p := inv s) (fun _ _ h => h.1) fun hi => W_cx (fun _ _ h => h.2) (h s hi)) hl hh
theorem W_bkD {σ : Type} {E : σ → Env} {Hs : σ → Heap} {inv : σ → Prop} {Dl : σ → Cx} {m : σ → Nat} {s : σ} (s' : σ) (h1 : inv s') (h2 : m s' < m s) (hd : ∀ G hp, D G hp → Dl s' G hp)
    (hl : EnvLe (E s') env := by
      simp (maxSteps := 1000000) (disch := omega) only [EnvLe, IntWalk.i64_in, nat0, natS, Int.add_zero, AV.int.injEq, AV.sl.injEq, Env.get, aget, Nat.reduceEqDiff, ↓reduceIte, Option.getD_some, Option.getD_none, true_and, and_true, and_self, List.length_nil, List.length_cons, List.length_append, List.length_set, List.length_take, List.length_drop]
      try first | done | rfl | omega)
    (hh : H = Hs s' := by rfl) : Wp D nt (.bac (BackD inv Dl m E Hs s) :: ks) env H R := W_bac fun G hp hD => ⟨s', h2, ⟨h1, hd G hp hD⟩, hl, hh⟩
end
/-- Where ways meet again that came to know different things. -/
def JoinD {σ : Type} (inv : σ → Prop) (Dl : σ → Cx) (E : σ → Env) (Hs : σ → Heap) (G : Nat → Prop) (hp : HP) (env : Env) (H : Heap) : Prop := ∃ s', (inv s' ∧ Dl s' G hp) ∧ EnvLe (E s') env ∧ H = Hs s'
theorem W_jnD0 {P : Program} {nt : Nat} {ks : List It} {env : Env} {H : Heap} {R : Env → Heap → Prop} {c : Code} {σ : Type} {E : σ → Env} {Hs : σ → Heap} {inv : σ → Prop} {Dl : σ → Cx}
    (h : W D P nt (.code c :: .bac (JoinD inv Dl E Hs) :: ks) env H R) (k : ∀ s, inv s → W (Dl s) P nt ks (E s) (Hs s) R) : W D P nt (.code c :: ks) env H R := by
  intro hk G hp hB hD ν a w st
  have hc : codeOk nt c = true := hk (.code c) (by simp)
  have hks : ∀ k ∈ ks, itOk nt k := fun k hk' => hk k (by simp [hk'])
  refine wp_mono (h ?_ G hp hB hD ν a w st) ?_
  · intro k hk'
    simp only [List.mem_cons] at hk'
    rcases hk' with rfl | rfl | hk'
    · exact hc
    · trivial
    · exact hks k hk'
  · intro e a w he
    cases e <;> first | exact he | skip
    obtain ⟨G2, hp2, ν', env', H', x2, ⟨s', ⟨h1, h2⟩, h3, rfl⟩, st'⟩ := he
    exact semS_mono x2 ks _ a w (k s' h1 hks G2 hp2 (fun n hn => hB n (by rw [← x2.B]; exact hn)) h2 ν' a w ⟨st'.defers, st'.size, EnvLe.rel st'.env h3, st'.inv⟩)
section
variable {nt : Nat} {ks : List It} {env : Env} {H : Heap} {R : Env → Heap → Prop}
theorem W_jnD {σ : Type} {E : σ → Env} {Hs : σ → Heap} {c : Code} (T : Nat) (me : σ → List (Nat × AV)) (H0 : Heap) (mh : σ → List (Nat × Ent)) (inv : σ → Prop) (Dl : σ → Cx)
    (h : Wp D nt (.code c :: .bac (JoinD inv Dl E Hs) :: ks) env H R)
    (k : ∀ s, inv s → Wp (Dl s) nt ks (E s) (Hs s) R)
    (hE : ∀ s, E s = setsE (ltE T env) (me s) := by
      intro s
      simp (maxSteps := 1000000) only [setsE, aset, ltE, cns_t, cns_f, Nat.reduceEqDiff, Nat.reduceLT, ↓reduceIte, decide_true, decide_false, Bool.false_eq_true]
      rfl)
    (hH : ∀ s, Hs s = setsH H0 (mh s) := by
      intro s
      simp only [setsH, aset, Nat.reduceEqDiff, ↓reduceIte]
      rfl) : Wp D nt (.code c :: ks) env H R := W_jnD0 h k
theorem W_bjD {σ : Type} {E : σ → Env} {Hs : σ → Heap} {inv : σ → Prop} {Dl : σ → Cx} (s' : σ) (h1 : inv s') (hd : ∀ G hp, D G hp → Dl s' G hp)
    (hl : EnvLe (E s') env := by
      simp (maxSteps := 1000000) (disch := omega) only [EnvLe, IntWalk.i64_in, nat0, natS, Int.add_zero, AV.int.injEq, AV.sl.injEq, Env.get, aget, Nat.reduceEqDiff, ↓reduceIte, Option.getD_some, Option.getD_none, true_and, and_true, and_self, List.length_nil, List.length_cons, List.length_append, List.length_set, List.length_take, List.length_drop]
      try first | done | rfl | omega)
    (hh : H = Hs s' := by rfl) : Wp D nt (.bac (JoinD inv Dl E Hs) :: ks) env H R := W_bac fun G hp hD => ⟨s', ⟨h1, hd G hp hD⟩, hl, hh⟩
end
theorem Cx0.tr : Cx.tr Cx0 := fun _ _ _ _ _ _ => trivial
theorem Cx.tr_and {C C' : Cx} (h : C.tr) (h' : C'.tr) : Cx.tr (fun G hp => C G hp ∧ C' G hp) := fun G hp G' hp' x k => ⟨h G hp G' hp' x k.1, h' G hp G' hp' x k.2⟩
end Go.Proofs.YtbobhbhgomkgpaaGreatDoor.S

/- The symbolic heap: an array of values of both, each with a schedule, its lists told by the values that point at them. Own work of this claim. -/
namespace Go.Proofs.YtbobhbhgomkgpaaGreatDoor.S
set_option linter.all false
open Go Go.Proofs
variable {D : Cx}

/-- The cells of a value of both. -/
def wlv (v : Nat → Value) (y : Bth) : List AV := [.lit (v 0), .lit (v 1), .lit (v 2), .lit (v 3), .int .i64 y.g.p, .lit (v 4), .int .i64 y.g.a, .lit (v 5), .int .i64 y.a, .bool y.l]
abbrev Row := Way × (Nat → Value)
def rowL (e : Row) : List AV := [.lit (e.2 0), .lit (e.2 1), .lit (e.2 2), .lit (e.2 3), .int .i64 e.1.1.g.p, .lit (e.2 4), .int .i64 e.1.1.g.a, .lit (e.2 5), .int .i64 e.1.1.a, .bool e.1.1.l, .str (sch e.1.2)]
def cellsE (E : List Row) : List AV := E.flatMap rowL
theorem rowL_len (e : Row) : (rowL e).length = 11 := rfl
theorem cellsE_len : ∀ (E : List Row), (cellsE E).length = E.length * 11
  | [] => rfl
  | e :: E => by
    have := cellsE_len E
    unfold cellsE at this ⊢
    rw [List.flatMap_cons, List.length_append, this, rowL_len, List.length_cons]; omega
theorem cellsE_app (E F : List Row) : cellsE (E ++ F) = cellsE E ++ cellsE F := by unfold cellsE; rw [List.flatMap_append]
theorem cellsE_one (e : Row) : cellsE [e] = rowL e := by unfold cellsE; rw [List.flatMap_cons, List.flatMap_nil, List.append_nil]
theorem cellsE_snoc (E : List Row) (e : Row) : cellsE (E ++ [e]) = cellsE E ++ rowL e := by rw [cellsE_app, cellsE_one]
theorem split_at {α : Type} {E : List α} {i : Nat} {e : α} (h : E[i]? = some e) : ∃ A B, E = A ++ e :: B ∧ A.length = i := by
  have hlt := (List.getElem?_eq_some_iff.1 h).1
  refine ⟨E.take i, E.drop (i + 1), ?_, by rw [List.length_take]; omega⟩
  have e1 : E[i] = e := (List.getElem?_eq_some_iff.1 h).2
  rw [← e1, ← List.drop_eq_getElem_cons hlt, List.take_append_drop]
theorem cellsE_at {E : List Row} {i : Nat} {e : Row} (h : E[i]? = some e) : ((cellsE E).drop (i * 11)).take 11 = rowL e := by
  obtain ⟨A, B, rfl, rfl⟩ := split_at h
  rw [cellsE_app, ← cellsE_len A, List.drop_left]
  show ((rowL e) ++ cellsE B).take 11 = _
  rw [← rowL_len e, List.take_left]
def cellsN (E : List Row) : List AV := noN (cellsE E)
theorem rowL_bare (e : Row) : noN (rowL e) = rowL e := rfl
theorem cellsN_at {E : List Row} {i : Nat} {e : Row} (h : E[i]? = some e) : ((cellsN E).drop (i * 11)).take 11 = rowL e := by
  unfold cellsN noN
  rw [← List.map_drop, ← List.map_take, cellsE_at h]
  exact rowL_bare e
theorem cellsN_at10 {E : List Row} {i : Nat} {e : Row} (h : E[i]? = some e) : ((cellsN E).drop (i * 11)).take 10 = wlv e.2 e.1.1 := by
  have := cellsN_at h
  have e2 : ((cellsN E).drop (i * 11)).take 10 = (((cellsN E).drop (i * 11)).take 11).take 10 := by rw [List.take_take]; rfl
  rw [e2, this]; rfl
/-- The lists of a value of both stay. -/
def HB (v : Nat → Value) (y : Bth) : Cx := fun G hp => Held (v 0) y.s.h.L.length (.ints y.s.h.L) G hp ∧ Held (v 1) y.s.h.R.length (.ints y.s.h.R) G hp ∧ Held (v 2) y.s.h.T.length (.ints y.s.h.T) G hp ∧
  Held (v 3) y.s.F.length (.ints y.s.F) G hp ∧ Held (v 4) y.g.C.length (.ints y.g.C) G hp ∧ Held (v 5) y.o.length (.ops y.o) G hp
theorem HB.tr (v : Nat → Value) (y : Bth) : (HB v y).tr := fun G hp G' hp' x h =>
  ⟨Held.tr _ _ _ G hp G' hp' x h.1, Held.tr _ _ _ G hp G' hp' x h.2.1, Held.tr _ _ _ G hp G' hp' x h.2.2.1, Held.tr _ _ _ G hp G' hp' x h.2.2.2.1, Held.tr _ _ _ G hp G' hp' x h.2.2.2.2.1, Held.tr _ _ _ G hp G' hp' x h.2.2.2.2.2⟩
def DE (E : List Row) : Cx := fun G hp => ∀ e ∈ E, HB e.2 e.1.1 G hp
theorem DE.tr (E : List Row) : (DE E).tr := fun G hp G' hp' x h e he => HB.tr _ _ G hp G' hp' x (h e he)
theorem DE.snoc {E : List Row} {e : Row} {G : Nat → Prop} {hp : HP} (h : DE E G hp) (k : HB e.2 e.1.1 G hp) : DE (E ++ [e]) G hp := by
  intro x hx
  rcases List.mem_append.1 hx with hx | hx
  · exact h x hx
  · simp only [List.mem_singleton] at hx
    subst hx; exact k
end Go.Proofs.YtbobhbhgomkgpaaGreatDoor.S

/- Where a round of all schedules stands. Own work of this claim; no program in sight. -/
namespace Go.Proofs.YtbobhbhgomkgpaaGreatDoor.S
set_option linter.all false
open Go Go.Proofs

/-- Where a round stands. -/
structure Rnd (bar : Bool) (b : Bth) (E : List Row) (i : Nat) : Prop where
  all : b.all bar = comesN bar (401 - i) (E.map Prod.fst) i
  ways : Ways bar b (E.map Prod.fst)
  road : ∀ (j : Nat) p, (E.map Prod.fst)[j]? = some p → p.2.length ≤ j
theorem Rnd.mem {bar : Bool} {b : Bth} {E : List Row} {i : Nat} (h : Rnd bar b E i) (hb : b.ok) : ∀ p ∈ E.map Prod.fst, p.1.ok ∧ p.1.o = b.o := fun p hp => ⟨(h.ways.rch p hp).ok hb, (h.ways.rch p hp).oa.1⟩
end Go.Proofs.YtbobhbhgomkgpaaGreatDoor.S

/- Counts and losses over the rows of values. Own work of this claim; no program in sight. -/
namespace Go.Proofs.YtbobhbhgomkgpaaGreatDoor.S
set_option linter.all false
open Go Go.Proofs

/-- The place of the first loss. -/
def fndL (E : List Row) : Int := match E.findIdx? (fun e => e.1.1.l) with
  | some i => i
  | none => -1
theorem fndL_at {E : List Row} {i : Nat} {e : Row} (h : E[i]? = some e) (hl : e.1.1.l = true) (hn : ∀ j, j < i → ∀ e, E[j]? = some e → e.1.1.l = false) : fndL E = i ∧ E.find? (fun e => e.1.1.l) = some e := by
  obtain ⟨hi, rfl⟩ := List.getElem?_eq_some_iff.1 h
  have q : ∀ j (hj : j < i), ¬ ((E[j]'(by omega)).1.1.l = true) := fun j hj => by rw [hn j hj _ (List.getElem?_eq_getElem (by omega))]; decide
  refine ⟨?_, ?_⟩
  · unfold fndL
    have : E.findIdx? (fun e => e.1.1.l) = some i := List.findIdx?_eq_some_iff_getElem.2 ⟨hi, hl, q⟩
    rw [this]
  · exact List.find?_eq_some_iff_getElem.2 ⟨hl, i, hi, rfl, fun j hj => by rw [hn j hj _ (List.getElem?_eq_getElem (by omega))]; rfl⟩
theorem fndL_none {E : List Row} (hn : ∀ j, j < E.length → ∀ e, E[j]? = some e → e.1.1.l = false) : fndL E = -1 ∧ E.find? (fun e => e.1.1.l) = none := by
  have q : ∀ e ∈ E, e.1.1.l = false := fun e he => by
    obtain ⟨j, hj, rfl⟩ := List.getElem_of_mem he
    exact hn j hj _ (List.getElem?_eq_getElem hj)
  refine ⟨?_, ?_⟩
  · unfold fndL
    have : E.findIdx? (fun e => e.1.1.l) = none := List.findIdx?_eq_none_iff.2 fun e he => q e he
    rw [this]
  · exact List.find?_eq_none.2 fun e he => by rw [q e he]; decide
theorem fndL_any (E : List Row) : decide (0 ≤ fndL E) = E.any (fun e => e.1.1.l) := by
  unfold fndL
  cases h : E.findIdx? (fun e => e.1.1.l) with
  | none =>
    have this := List.findIdx?_eq_none_iff.1 h
    have q : E.any (fun e => e.1.1.l) = false := by
      rw [List.any_eq_false]
      intro e he
      rw [this e he]; decide
    rw [q]
    rfl
  | some i =>
    obtain ⟨hi, hl, _⟩ := List.findIdx?_eq_some_iff_getElem.1 h
    rw [List.any_eq_true.2 ⟨E[i], List.getElem_mem hi, hl⟩]
    exact decide_eq_true (by show (0 : Int) ≤ (i : Int); omega)
/-- A list of rows is what one comes to. -/
def Come (bar : Bool) (b : Bth) (E : List Row) : Prop := match b.all bar with
  | some l => E.map Prod.fst = l
  | none => E = []
def sloS (o : Option (List Bool)) : ByteArray := match o with
  | some w => sch w
  | none => ⟨#[]⟩
theorem Come.len {bar : Bool} {b : Bth} {E : List Row} (h : Come bar b E) : E.length ≤ 400 := by
  unfold Come at h
  split at h
  · rename_i l e
    have := (all_some e).2.2.1
    rw [← h, List.length_map] at this; exact this
  · subst h; exact Nat.zero_le _
theorem Come.cnt {bar : Bool} {b : Bth} {E : List Row} (h : Come bar b E) : b.cnt bar = E.length := by
  unfold Come at h; unfold Bth.cnt
  split at h
  · rename_i l e
    rw [e]; simp only; rw [← h, List.length_map]
  · rename_i e
    subst h; rw [e]; rfl
theorem Come.can {bar : Bool} {b : Bth} {E : List Row} (h : Come bar b E) : b.can bar = decide (0 ≤ fndL E) := by
  rw [fndL_any]
  unfold Come at h; unfold Bth.can
  split at h
  · rename_i l e
    rw [e]; simp only; rw [← h, List.any_map]; rfl
  · rename_i e
    subst h; rw [e]; rfl
theorem Come.slo {bar : Bool} {b : Bth} {E : List Row} (h : Come bar b E) : b.slo bar = (E.find? (fun e => e.1.1.l)).map (fun e => e.1.2) := by
  unfold Come at h; unfold Bth.slo
  split at h
  · rename_i l e
    rw [e]; simp only; rw [← h, List.find?_map, Option.map_map]; rfl
  · rename_i e
    subst h; rw [e]; rfl

theorem can_some {bar : Bool} {b : Bth} (h : b.can bar = true) : (b.all bar).isSome = true := by
  unfold Bth.can at h
  split at h
  · rename_i r e; rw [e]; rfl
  · cases h
theorem cnt_none {bar : Bool} {b : Bth} (h : (b.all bar).isSome = false) : b.cnt bar = 0 := by
  unfold Bth.cnt
  split
  · rename_i r e; rw [e] at h; cases h
  · rfl
theorem cnt_le (bar : Bool) (b : Bth) : b.cnt bar ≤ 400 := by
  unfold Bth.cnt
  split
  · rename_i r e; exact (all_some e).2.2.1
  · exact Nat.zero_le _
theorem slo_some {bar : Bool} {b : Bth} (h : (b.slo bar).isSome = true) : b.ok := by
  unfold Bth.slo at h
  split at h
  · rename_i r e; exact (all_some e).1
  · cases h
theorem rnd_road {bar : Bool} {l : List Way} {i : Nat} (h : ∀ (j : Nat) p, l[j]? = some p → p.2.length ≤ j) : ∀ (j : Nat) p, (rnd bar l i)[j]? = some p → p.2.length ≤ j := by
  cases hx : l[i]? with
  | none => unfold rnd; rw [hx]; exact h
  | some x =>
    rw [rnd_some hx]
    exact road_gro (gro_get hx) (road_gro hx h)
theorem comesN_road {bar : Bool} : ∀ (k : Nat) (l : List Way) (i : Nat) (r : List Way), (∀ (j : Nat) p, l[j]? = some p → p.2.length ≤ j) → comesN bar k l i = some r → ∀ (j : Nat) p, r[j]? = some p → p.2.length ≤ j
  | 0, _, _, _, _, e => by cases e
  | k + 1, l, i, r, h, e => by
    rw [comesN] at e
    split at e
    · split at e
      · cases e
      · exact comesN_road k _ _ r (rnd_road h) e
    · cases e; exact h
theorem slo_len {bar : Bool} {b : Bth} {w : List Bool} (h : b.slo bar = some w) : w.length ≤ 400 := by
  unfold Bth.slo at h
  split at h
  · rename_i r e
    have hl := (all_some e).2.2.1
    have hr : ∀ (j : Nat) p, r[j]? = some p → p.2.length ≤ j := by
      unfold Bth.all at e
      split at e
      · refine comesN_road 401 _ 0 r ?_ e
        intro j p hp
        have := List.mem_of_getElem? hp
        simp only [List.mem_singleton] at this
        subst this; exact Nat.zero_le _
      · cases e
    obtain ⟨p, hp, rfl⟩ := Option.map_eq_some_iff.1 h
    obtain ⟨j, hj, ej⟩ := List.getElem_of_mem (List.mem_of_find?_eq_some hp)
    have := hr j p (by rw [List.getElem?_eq_getElem hj, ej])
    omega
  · cases h
theorem cellsN_g9 {E : List Row} {i : Nat} {e : Row} (h : E[i]? = some e) : List.getD (noN (cellsE E)) (i * 11 + 9) .any = .bool e.1.1.l := by
  have := congrArg (fun l => l[9]?) (cellsN_at h)
  simp only [List.getElem?_take, List.getElem?_drop] at this
  rw [List.getD_eq_getElem?_getD]
  unfold cellsN at this
  rw [if_pos (by omega)] at this
  rw [this]; rfl
theorem cellsN_g10 {E : List Row} {i : Nat} {e : Row} (h : E[i]? = some e) : List.getD (noN (cellsE E)) (i * 11 + 10) .any = .str (sch e.1.2) := by
  have := congrArg (fun l => l[10]?) (cellsN_at h)
  simp only [List.getElem?_take, List.getElem?_drop] at this
  rw [List.getD_eq_getElem?_getD]
  unfold cellsN at this
  rw [if_pos (by omega)] at this
  rw [this]; rfl
end Go.Proofs.YtbobhbhgomkgpaaGreatDoor.S
