/- The common model, sixth part: a collector's steps. Own work of this claim; no program in sight. -/
import Derived.Test.YtbcnkfkmonpdeaaPc
namespace Go.Proofs.Ytbcnkfkmonpdeaa.S
set_option linter.all false

def blk (h : Hp) (C : List Int) (i : Nat) : List Int := (shd (shd C (h.L.getD i 0)) (h.R.getD i 0)).set i 2
/-- The first root that points to a white cell. -/
def wrt (T C : List Int) : Int := match T.findIdx? (fun p => decide (p ≠ -1 ∧ C.getD p.toNat 0 = 0)) with | some i => i | none => -1
theorem wrt_at {T C : List Int} {i : Nat} (hi : i < T.length) (h : ∀ j, j < i → ¬ (T.getD j 0 ≠ -1 ∧ C.getD (T.getD j 0).toNat 0 = 0)) (he : T.getD i 0 ≠ -1 ∧ C.getD (T.getD i 0).toNat 0 = 0) : wrt T C = i := by
  have : T.findIdx? (fun p => decide (p ≠ -1 ∧ C.getD p.toNat 0 = 0)) = some i := by
    rw [List.findIdx?_eq_some_iff_getElem]
    refine ⟨hi, ?_, fun j hj => ?_⟩
    · rw [List.getD_eq_getElem?_getD (l := T), List.getElem?_eq_getElem hi] at he
      exact decide_eq_true he
    · have := h j hj
      rw [List.getD_eq_getElem?_getD (l := T), List.getElem?_eq_getElem (by omega)] at this
      rw [decide_eq_true_eq]
      exact this
  simp only [wrt, this]
theorem wrt_none {T C : List Int} (h : ∀ j, j < T.length → ¬ (T.getD j 0 ≠ -1 ∧ C.getD (T.getD j 0).toNat 0 = 0)) : wrt T C = -1 := by
  have : T.findIdx? (fun p => decide (p ≠ -1 ∧ C.getD p.toNat 0 = 0)) = none := by
    rw [List.findIdx?_eq_none_iff]
    intro x hx
    obtain ⟨j, hj, rfl⟩ := List.getElem_of_mem hx
    have := h j hj
    rw [List.getD_eq_getElem?_getD (l := T), List.getElem?_eq_getElem hj] at this
    rw [decide_eq_false_iff_not]
    exact this
  simp only [wrt, this]
theorem wrt_cases (T C : List Int) : (∃ i : Nat, i < T.length ∧ wrt T C = i ∧ T.getD i 0 ≠ -1 ∧ C.getD (T.getD i 0).toNat 0 = 0) ∨ wrt T C = -1 ∧ ∀ j, j < T.length → T.getD j 0 ≠ -1 → C.getD (T.getD j 0).toNat 0 ≠ 0 := by
  unfold wrt
  split
  · rename_i i h
    rw [List.findIdx?_eq_some_iff_getElem] at h
    obtain ⟨hi, h1, _⟩ := h
    left
    refine ⟨i, hi, rfl, ?_⟩
    rw [List.getD_eq_getElem?_getD (l := T), List.getElem?_eq_getElem hi]
    exact of_decide_eq_true h1
  · rename_i h
    rw [List.findIdx?_eq_none_iff] at h
    right
    refine ⟨rfl, fun j hj h1 h2 => ?_⟩
    have := h _ (getD_mem hj)
    rw [decide_eq_false_iff_not] at this
    exact this ⟨h1, h2⟩
theorem idx_cases (l : List Int) (n : Int) : (∃ i : Nat, i < l.length ∧ idx l n = i ∧ l.getD i 0 = n) ∨ idx l n = -1 ∧ n ∉ l := by
  unfold idx
  split
  · rename_i i h
    rw [List.findIdx?_eq_some_iff_getElem] at h
    obtain ⟨hi, h1, _⟩ := h
    left
    refine ⟨i, hi, rfl, ?_⟩
    rw [List.getD_eq_getElem?_getD, List.getElem?_eq_getElem hi]
    exact of_decide_eq_true h1
  · rename_i h
    rw [List.findIdx?_eq_none_iff] at h
    right
    refine ⟨rfl, fun hm => ?_⟩
    have := h n hm
    simp at this
def Gcc.sw (g : Gcc) (s : Sto) : Int := if g.p = 3 ∧ g.C.getD g.a.toNat 0 = 0 ∧ g.a ∉ s.F then g.a else -1
def Gcc.swept (g : Gcc) (s : Sto) : Int := if g.ok s then g.sw s else -1
def Gcc.stOk (g : Gcc) (s : Sto) : Prop := g.ok s ∧ ¬ (g.sw s ≠ -1 ∧ g.sw s ∈ s.h.T)
instance (g : Gcc) (s : Sto) : Decidable (g.stOk s) := by unfold Gcc.stOk; infer_instance
def Gcc.nx (g : Gcc) (n : Nat) (ph : Int) : Gcc := if g.a + 1 = n then ⟨ph, g.C, 0⟩ else ⟨g.p, g.C, g.a + 1⟩
def Gcc.mark (g : Gcc) (s : Sto) : Gcc :=
  if 0 ≤ idx g.C 1 then ⟨g.p, blk s.h g.C (idx g.C 1).toNat, g.a⟩
  else if 0 ≤ wrt s.h.T g.C then ⟨g.p, shd g.C (s.h.T.getD (wrt s.h.T g.C).toNat 0), g.a⟩
  else ⟨3, g.C, g.a⟩
/-- A step: the collector's, and the store's. -/
def Gcc.stG (g : Gcc) (s : Sto) : Gcc :=
  if g.p = 0 then ⟨1, List.replicate g.C.length 0, 0⟩
  else if g.p = 1 then Gcc.nx ⟨1, shd g.C (s.h.T.getD g.a.toNat 0), g.a⟩ s.h.T.length 2
  else if g.p = 2 then g.mark s
  else Gcc.nx ⟨3, g.C.set g.a.toNat 0, g.a⟩ g.C.length 0
def Gcc.stS (g : Gcc) (s : Sto) : Sto := if g.sw s ≠ -1 then s.clr [g.sw s] else s
def Gcc.stepG (g : Gcc) (s : Sto) : Gcc := if g.stOk s then g.stG s else .zero
def Gcc.stepS (g : Gcc) (s : Sto) : Sto := if g.stOk s then g.stS s else .zero
theorem blk_ok {h : Hp} {C : List Int} {n : Nat} {i : Nat} (q : colOk C n) : colOk (blk h C i) n := col_set (shd_ok (shd_ok q)) i (by omega)
theorem blk_len (h : Hp) (C : List Int) (i : Nat) : (blk h C i).length = C.length := by simp [blk, shd_len]
theorem colOk_rep (n : Nat) : colOk (List.replicate n 0) n := by
  refine ⟨by simp, fun j hj => ?_⟩
  rw [List.length_replicate] at hj
  have : (List.replicate n (0 : Int)).getD j 0 = 0 := by simp [List.getD_eq_getElem?_getD, List.getElem?_replicate]; split <;> rfl
  omega
/-- What a step needs of a store, if it is not valid. -/
structure Gcc.weak (g : Gcc) (s : Sto) : Prop where
  h : s.h.ok
  c : colOk g.C s.h.L.length
  a : g.atOk s
theorem Gcc.ok.weak {g : Gcc} {s : Sto} (h : g.ok s) : g.weak s := ⟨h.1.1, h.2.1, h.2.2⟩
theorem clr_hok {s : Sto} {cells : List Int} (h : s.h.ok) : (s.clr cells).h.ok := by
  obtain ⟨⟨l1, l2, l3, l4, l5⟩, o1, o2, o3⟩ := h
  refine ⟨⟨?_, ?_, ?_, l4, l5⟩, ?_, ?_, ?_⟩ <;> simp only [Sto.clr, clrL_len]
  · exact l1
  · exact l2
  · exact l3
  · exact clrL_okP o1
  · exact clrL_okP o2
  · exact o3
theorem stS_lens (g : Gcc) (s : Sto) : (g.stS s).h.L.length = s.h.L.length ∧ (g.stS s).h.R.length = s.h.R.length ∧ (g.stS s).h.T.length = s.h.T.length ∧ (g.stS s).F.length ≤ s.F.length + 1 := by
  unfold Gcc.stS
  split
  · simp [Sto.clr, clrL_len]
  · simp
theorem Gcc.weak.step {g : Gcc} {s : Sto} (w : g.weak s) : (g.stG s).weak (g.stS s) := by
  have hl := stS_lens g s
  have hh : (g.stS s).h.ok := by
    unfold Gcc.stS
    split
    · exact clr_hok w.h
    · exact w.h
  obtain ⟨⟨l1, l2, l3, l4, l5⟩, o1, o2, o3⟩ := w.h
  have hc := w.c
  have ha := w.a
  unfold Gcc.atOk at ha
  have hC := hc.1
  unfold Gcc.stG
  by_cases p0 : g.p = 0
  · rw [if_pos p0]
    refine ⟨hh, by rw [hl.1, ← hC]; exact colOk_rep _, ?_⟩
    unfold Gcc.atOk; rw [hl.2.2.1]; dsimp only; omega
  rw [if_neg p0]
  by_cases p1 : g.p = 1
  · rw [if_pos p1]
    unfold Gcc.nx
    dsimp only
    split
    · refine ⟨hh, by rw [hl.1]; exact shd_ok hc, ?_⟩
      unfold Gcc.atOk; dsimp only; omega
    · refine ⟨hh, by rw [hl.1]; exact shd_ok hc, ?_⟩
      unfold Gcc.atOk; rw [hl.2.2.1]; dsimp only; omega
  rw [if_neg p1]
  by_cases p2 : g.p = 2
  · rw [if_pos p2]
    unfold Gcc.mark
    split
    · refine ⟨hh, by rw [hl.1]; exact blk_ok hc, ?_⟩
      unfold Gcc.atOk; dsimp only; omega
    · split
      · refine ⟨hh, by rw [hl.1]; exact shd_ok hc, ?_⟩
        unfold Gcc.atOk; dsimp only; omega
      · refine ⟨hh, by rw [hl.1]; exact hc, ?_⟩
        unfold Gcc.atOk; rw [hl.1]; dsimp only; omega
  rw [if_neg p2]
  unfold Gcc.nx
  dsimp only
  split
  · refine ⟨hh, by rw [hl.1]; exact col_set hc _ (by omega), ?_⟩
    unfold Gcc.atOk; dsimp only; omega
  · refine ⟨hh, by rw [hl.1]; exact col_set hc _ (by omega), ?_⟩
    unfold Gcc.atOk; rw [hl.1]; dsimp only; omega
theorem sw_at {g : Gcc} {s : Sto} (h : g.sw s ≠ -1) : g.p = 3 ∧ g.sw s = g.a ∧ g.C.getD g.a.toNat 0 = 0 ∧ g.a ∉ s.F := by
  unfold Gcc.sw at h ⊢
  split at h
  · rename_i q; rw [if_pos q]; exact ⟨q.1, rfl, q.2.1, q.2.2⟩
  · exact absurd rfl h
end Go.Proofs.Ytbcnkfkmonpdeaa.S
