/- The symbolic heap: each operation's symbolic step is sound. Own work of this claim. -/
import Derived.Test.YtbcnkfkmonpdeaaSd
namespace Go.Proofs.Ytbcnkfkmonpdeaa.S
set_option linter.all false
open Go

theorem ev_ok {ν : Nm} {env : Env} {a : Act} (h : EnvRel ν env a.tmps) (x : Operand) : VR ν (ev env x) (a.eval x) := by
  cases x with
  | tmp t => exact h t
  | const v => exact cv_ok ν v
  | global g => trivial
  | func f => exact ⟨#[], rfl, .nil⟩

/-! What the types' table tells -/
theorem tyI_pos {P : Program} {t : TypeId} (h : 0 < (tyI P t).sz) : ∃ i d, P.info? t = some i ∧ P.underlying t = some d ∧ tyI P t = mkTI P i d := by
  unfold tyI at h ⊢
  split
  · rename_i i d hi hd; exact ⟨i, d, hi, hd, rfl⟩
  · rename_i hn; split at h
    · rename_i i d hi hd; exact absurd hd (hn i d hi)
    · simp at h
theorem tyI_slice {P : Program} {t e : TypeId} (h : (tyI P t).tk = .slice e) : P.underlying t = some (.slice e) := by
  unfold tyI at h
  split at h
  · rename_i i d hi hd
    simp only [mkTI] at h
    cases d <;> simp only [] at h <;> first | (cases h; done) | (split at h <;> cases h; done) | skip
    cases h; exact hd
  · simp at h
theorem tyI_str {P : Program} {t : TypeId} (h : (tyI P t).tk = .str) : P.underlying t = some .string := by
  unfold tyI at h
  split at h
  · rename_i i d hi hd
    simp only [mkTI] at h
    cases d <;> simp only [] at h <;> first | (cases h; done) | (split at h <;> cases h; done) | skip
    exact hd
  · simp at h
theorem tyI_bool {P : Program} {t : TypeId} (h : (tyI P t).tk = .bool) : P.underlying t = some .bool := by
  unfold tyI at h
  split at h
  · rename_i i d hi hd
    simp only [mkTI] at h
    cases d <;> simp only [] at h <;> first | (cases h; done) | (split at h <;> cases h; done) | skip
    exact hd
  · simp at h
theorem tyI_int {P : Program} {t : TypeId} {k : IntKind} (h : (tyI P t).tk = .int k) : P.underlying t = some (.int k) := by
  unfold tyI at h
  split at h
  · rename_i i d hi hd
    simp only [mkTI] at h
    cases d <;> simp only [] at h <;> first | (cases h; done) | (split at h <;> cases h; done) | skip
    cases h; exact hd
  · simp at h
theorem tyI_struct {P : Program} {t : TypeId} {fs : List (Nat × Nat)} (h : (tyI P t).tk = .struct fs) :
    ∃ fields : Array Field, P.underlying t = some (.struct fields) ∧ fields.toList.mapM (fun f => (P.info? f.type).map fun i => (f.offset, i.size)) = some fs := by
  unfold tyI at h
  split at h
  · rename_i i d hi hd
    simp only [mkTI] at h
    cases d <;> simp only [] at h <;> first | (cases h; done) | skip
    rename_i fields
    split at h
    · rename_i l hl
      cases h
      exact ⟨fields, hd, hl⟩
    · cases h
  · simp at h
theorem zero_ok {P : Program} {t : TypeId} (h0 : 0 < (tyI P t).sz) (h : (tyI P t).zero.length = (tyI P t).sz) (ν : Nm) :
    ∃ i v, P.info? t = some i ∧ i.zero = some v ∧ i.size = (tyI P t).sz ∧ i.bytes = (tyI P t).bytes ∧ v.cells.size = (tyI P t).sz ∧ F2 (CR ν) (tyI P t).zero v.cells.toList := by
  obtain ⟨i, d, hi, hd, he⟩ := tyI_pos h0
  rw [he] at h0 h ⊢
  simp only [mkTI] at h h0 ⊢
  unfold zeroOf at h ⊢
  split at h
  · rename_i v hv
    split at h
    · rename_i hc
      have hcs' : ∀ x ∈ v.cells.toList, x.oneCell' = true := by
        rw [Bool.and_eq_true] at hc; exact List.all_eq_true.1 hc.1
      have hc2 : v.cells.size = i.size := by rw [Bool.and_eq_true] at hc; simpa using hc.2
      refine ⟨i, v, hi, hv, rfl, rfl, hc2, ?_⟩
      rw [if_pos hc]
      have : F2 (CR ν) (v.cells.toList.map cvc) (v.cells.toList.map id) := by
        have hh : ∀ (l : List Value), (∀ x ∈ l, x.oneCell' = true) → F2 (CR ν) (l.map cvc) (l.map id) := by
          intro l
          induction l with
          | nil => intro _; exact .nil
          | cons a l ih => intro h; exact .cons (cvc_ok ν a (h a (by simp))) (ih fun x hx => h x (by simp [hx]))
        exact hh _ hcs'
      simpa using this
    · simp at h; omega
  · simp at h; omega

section
variable {P : Program}
/-- What an operation comes to, told over the symbolic heap. -/
def Runs (P : Program) (G : Nat → Prop) (hp : HP) (ν : Nm) (s : Sem Value) (w : World) (K : Kt) : Prop :=
  ∃ c w' ν' v H', s.run P w = .ok c w' ∧ Keeps ν ν' ∧ VR ν' v c ∧ Inv G hp ν' H' w' ∧ K v H'
variable {G : Nat → Prop} {hp : HP} {ν : Nm} {H : Heap} {w : World}

theorem add_loc (b o k : Nat) : (⟨b, o, none⟩ : Addr).add k = ⟨b, o + k, none⟩ := by
  unfold Addr.add
  by_cases h : k = 0
  · subst h; rfl
  · rw [if_neg h]

theorem VA.of_CR {ν : Nm} {c : AV} {v : Value} (h : CR ν c v) : VA ν c v := by cases c <;> first | exact h | (simp [CR] at h)
theorem sLoad_ok {t : TypeId} {a : AV} {K : AV → Prop} {c : Value} (hi : Inv G hp ν H w) (ha : VR ν a c) (h : sLoad (tyI P t) H a K) : ∃ cv v, (Instr.loadAt t c).run P w = .ok cv w ∧ VA ν v cv ∧ K v := by
  unfold sLoad at h
  split at h
  · rename_i n off
    obtain ⟨L, hL, rfl⟩ : PR ν (n, off) c := ha
    split at h
    · rename_i own lv hH
      obtain ⟨hb, h⟩ := h
      have he := hi.er n _ hH
      by_cases hagg : (tyI P t).agg = true
      · rw [if_pos hagg] at h
        have hpos : ∃ i d, P.info? t = some i ∧ P.underlying t = some d ∧ tyI P t = mkTI P i d := by
          unfold tyI at hagg ⊢
          split
          · rename_i i d hi hd; exact ⟨i, d, hi, hd, rfl⟩
          · rename_i hn; split at hagg
            · rename_i i d hi hd; exact absurd hd (hn i d hi)
            · simp at hagg
        obtain ⟨i, d, h1, h2, h3⟩ := hpos
        have hsz : i.size = (tyI P t).sz := by rw [h3]; rfl
        obtain ⟨vs, q1, q2, q3⟩ := he.cells hL off (tyI P t).sz hb
        refine ⟨.agg vs.toArray, lv.ex off (tyI P t).sz, ?_, ?_, h⟩
        · have hl := run_loadCells_list (P := P) w ⟨L.blk, L.off + off, none⟩ vs q3
          rw [q2, ← hsz] at hl
          rw [h3] at hagg
          simp only [mkTI] at hagg
          simp [Instr.loadAt, Instr.sureAddr, loadVar, isAgg, sizeOf, typeInfo, run_underlying h2, h1]
          cases d <;> simp at hagg <;> simp [hl]
        · rw [LV.ex_eq lv off _ hb]
          exact ⟨vs.toArray, rfl, by simpa using q1⟩
      · rw [if_neg hagg] at h
        obtain ⟨hs, h⟩ := h
        obtain ⟨i, d, h1, h2, h3⟩ := tyI_pos (P := P) (t := t) (by omega)
        obtain ⟨v, hv, hr⟩ := he.cell hL (k := off) (by omega)
        refine ⟨v, lv.lk off, ?_, VA.of_CR hr, h⟩
        · rw [h3] at hagg
          simp only [mkTI] at hagg
          simp [Instr.loadAt, Instr.sureAddr, loadVar, isAgg, run_underlying h2]
          cases d <;> simp at hagg <;> simp [hv]
    · exact h.elim
  · exact h.elim

theorem setAll_get : ∀ (cs : List AV) (l : List AV) (k i : Nat), k + cs.length ≤ l.length →
    ((cs.zipIdx k).foldl (fun l p => l.set p.2 p.1) l)[i]? = if k ≤ i ∧ i < k + cs.length then cs[i - k]? else l[i]?
  | [], l, k, i, _ => by simp; intro h1 h2; omega
  | c :: cs, l, k, i, h => by
    simp only [List.zipIdx_cons, List.foldl_cons]
    rw [setAll_get cs (l.set k c) (k + 1) i (by simp at h ⊢; omega)]
    by_cases h1 : i = k
    · subst h1
      rw [if_neg (by omega), if_pos (by simp)]
      rw [List.getElem?_set_self (by simp at h; omega)]
      simp
    · by_cases h2 : k + 1 ≤ i ∧ i < k + 1 + cs.length
      · rw [if_pos h2, if_pos (by simp; omega)]
        have : i - k = (i - (k + 1)) + 1 := by omega
        rw [this, List.getElem?_cons_succ]
      · rw [if_neg h2, if_neg (by simp; omega), List.getElem?_set_ne (Ne.symm h1)]
theorem setAll_len (cs : List AV) : ∀ (l : List AV) (k : Nat), ((cs.zipIdx k).foldl (fun l p => l.set p.2 p.1) l).length = l.length := by
  induction cs with
  | nil => intro l k; rfl
  | cons c cs ih => intro l k; simp only [List.zipIdx_cons, List.foldl_cons]; rw [ih]; simp

theorem seg_get {α : Type} (l vs : List α) (a : Nat) (h : a + vs.length ≤ l.length) (j : Nat) :
    (l.take a ++ vs ++ l.drop (a + vs.length))[j]? = if a ≤ j ∧ j < a + vs.length then vs[j - a]? else l[j]? := by
  by_cases h1 : j < a
  · rw [if_neg (by omega), List.append_assoc, List.getElem?_append_left (by simp; omega), List.getElem?_take_of_lt h1]
  · by_cases h2 : j < a + vs.length
    · rw [if_pos (by omega), List.append_assoc, List.getElem?_append_right (by simp; omega), List.getElem?_append_left (by simp; omega)]
      congr 1; simp; omega
    · rw [if_neg (by omega), List.getElem?_append_right (by simp; omega), List.getElem?_drop]
      congr 1; simp; omega

theorem sStore_ok {t : TypeId} {a x : AV} {K : Kt} {ca cx : Value} (hi : Inv G hp ν H w) (ha : VR ν a ca) (hx : VR ν x cx) (h : sStore (tyI P t) H a x fun H' => K (.tup []) H') :
    ∃ w' H', (Instr.storeAt t ca cx).run P w = .ok () w' ∧ Inv G hp ν H' w' ∧ K (.tup []) H' := by
  unfold sStore at h
  split at h
  · rename_i n off
    obtain ⟨L, hL, rfl⟩ : PR ν (n, off) ca := ha
    split at h
    · rename_i lv hH
      obtain ⟨hf, hpos, hl, hb, h⟩ := h
      obtain ⟨i, d, h1, h2, h3⟩ := tyI_pos hpos
      have hsz : i.size = (tyI P t).sz := by rw [h3]; rfl
      have hcs := (hx.fits hf).cells
      have hlen : cx.cells.toList.length = (tyI P t).sz := by rw [← hcs.length, hl]
      have he := hi.er n _ hH
      simp only [ER, hL] at he
      obtain ⟨e0, arr, T, fr, e1, e2, e3, e4, e5⟩ := he
      have e5 := e5 rfl
      subst e5
      rw [LV.len_eq] at e3 e4
      have hone : ∀ v ∈ cx.cells.toList, v.oneCell' = true := by
        intro v hv
        obtain ⟨j, hj, rfl⟩ := List.getElem_of_mem hv
        have hj' : j < (cellsOf x).length := by rw [hcs.length]; exact hj
        obtain ⟨b, hb', hr⟩ := hcs.get (i := j) (List.getElem?_eq_getElem hj')
        rw [List.getElem?_eq_getElem hj] at hb'
        cases hb'
        exact hr.one
      have hst := run_storeCells_at P L.blk (L.off + off) T cx.cells.toList 0 arr w e1 (by rw [hlen]; omega) hone
      simp only [Nat.add_zero] at hst
      refine ⟨w.setRow L.blk (arr.toList.take (L.off + off) ++ cx.cells.toList ++ arr.toList.drop (L.off + off + cx.cells.toList.length)).toArray, _, ?_, ?_, h⟩
      · have hsz2 : cx.cells.size = i.size := by rw [hsz, ← hlen, Array.length_toList]
        simp [Instr.storeAt, Instr.sureAddr, storeVar, sizeOf, typeInfo, h1, hsz2]
        rw [hst]; simp [hsz2]
      · refine hi.write hH hL arr _ T e1 (by simp; simp at hlen; omega) _ (by rw [stAll_z]; exact e0) ?_ ?_
        · rw [stAll_eq, setAll_len, LV.len_eq]; exact e3
        · intro k c hk
          rw [List.getElem?_toArray, seg_get _ _ _ (by simp at hlen ⊢; omega)]
          rw [stAll_eq, setAll_get _ _ _ _ (by rw [LV.len_eq, hl]; exact hb)] at hk
          by_cases hr : off ≤ k ∧ k < off + (cellsOf x).length
          · rw [if_pos hr] at hk
            obtain ⟨v, hv, hcr⟩ := hcs.get hk
            refine ⟨v, ?_, hcr⟩
            rw [if_pos (by rw [hlen]; omega), ← hv]
            congr 1; omega
          · rw [if_neg hr] at hk
            have hklt : k < lv.len := by rw [← LV.len_eq]; exact (List.getElem?_eq_some_iff.1 hk).1
            obtain ⟨v, hv, c', hc', hcr⟩ := e4 k hklt
            rw [hk] at hc'; cases hc'
            refine ⟨v, ?_, hcr⟩
            rw [if_neg (by rw [hlen]; omega), ← hv]; simp
    · exact h.elim
  · exact h.elim

end
end Go.Proofs.Ytbcnkfkmonpdeaa.S
