/- Texts of this claim's own layer, laid as one: Pj Pk Pl Pm Pn Po Pr. Own work of this claim. -/
import Derived.Test.YtnepiffboakehaaGreatDoorA5
import Derived.Lib.SlTrimSet
/- The common model: a program and a collector on one store. Own work of this claim; no program in sight. -/
namespace Go.Proofs.YtnepiffboakehaaGreatDoor.S
set_option linter.all false

structure Bth where
  s : Sto
  g : Gcc
  o : List (Int × Int × Int)
  a : Int
  l : Bool
def Bth.zero : Bth := ⟨.zero, .zero, [], 0, false⟩
def Bth.ok (b : Bth) : Prop := b.g.ok b.s ∧ opsV b.o b.s.h.T.length ∧ 0 ≤ b.a ∧ b.a ≤ b.o.length
instance decPj1 (b : Bth) : Decidable b.ok := by unfold Bth.ok; infer_instance
/-- A new collector of a valid store: idle, all white. -/
def Bth.new (s : Sto) (l : List (Int × Int × Int)) : Bth := if s.opsOk l then ⟨s, ⟨0, List.replicate s.h.L.length 0, 0⟩, l, 0, false⟩ else .zero
theorem Bth.new_ok {s : Sto} {l : List (Int × Int × Int)} (h : s.opsOk l) : (Bth.new s l).ok := by
  rw [Bth.new, if_pos h]
  refine ⟨⟨h.1, colOk_rep _, ?_⟩, h.2, Int.le_refl _, ?_⟩
  · unfold Gcc.atOk; dsimp only; omega
  · dsimp only; omega
theorem Bth.ok.small {b : Bth} (h : b.ok) : (((b.s.h.L.length ≤ 8 ∧ b.s.h.R.length ≤ 8 ∧ b.s.h.T.length ≤ 3) ∧ b.s.F.length ≤ 8) ∧ b.g.C.length ≤ 8) ∧ b.o.length ≤ 12 := by
  have l8 := h.1.1.1.1
  have bF := h.1.1.le
  have hlc := h.1.2.1.1
  have ho := h.2.1.1
  omega
end Go.Proofs.YtnepiffboakehaaGreatDoor.S

/- Plain laws of the common model: a program and a collector step by step. Own work of this claim; no program in sight. -/
namespace Go.Proofs.YtnepiffboakehaaGreatDoor.S
set_option linter.all false

def Sto.tgt (s : Sto) (k a b : Int) : Int := if s.runOk k a b ∧ (k = 5 ∨ k = 6) ∧ s.h.T.getD a.toNat 0 ≠ -1 then s.h.T.getD b.toNat 0 else -1
def Bth.cur (b : Bth) : Int × Int × Int := opAt b.o b.a.toNat
def Bth.opS (b : Bth) : Sto := b.s.runS b.cur.1 b.cur.2.1 b.cur.2.2
def Bth.opE (b : Bth) : Int := b.s.runE b.cur.1 b.cur.2.1 b.cur.2.2
def Bth.opT (b : Bth) : Int := b.s.tgt b.cur.1 b.cur.2.1 b.cur.2.2
/-- The collector behind an operation that ended well: a new cell is colored, the target is shaded. -/
def Bth.nw (b : Bth) : Gcc := if b.cur.1 = 1 then b.g.new b.opS (b.opS.h.T.getD b.cur.2.1.toNat 0) else b.g
def Bth.col (b : Bth) (bar : Bool) : Gcc := if bar = true ∧ b.opT ≠ -1 then b.nw.shade b.opS b.opT else b.nw
def Bth.opG (b : Bth) (bar : Bool) : Gcc := if b.opE = 0 then b.col bar else b.g
def Bth.op (b : Bth) (bar : Bool) : Bth := ⟨b.opS, b.opG bar, b.o, b.a + 1, b.l⟩
def Bth.opOk (b : Bth) : Prop := b.ok ∧ b.l = false ∧ b.a ≠ b.o.length
instance decPk1 (b : Bth) : Decidable b.opOk := by unfold Bth.opOk; infer_instance
def Bth.sop (b : Bth) (bar : Bool) : Bth := if b.opOk then b.op bar else .zero
theorem Bth.opOk.at {b : Bth} (h : b.opOk) : b.a.toNat < b.o.length := by have := h.1.2.2; have := h.2.2; omega
theorem Bth.opOk.run {b : Bth} (h : b.opOk) : b.s.runOk b.cur.1 b.cur.2.1 b.cur.2.2 := ⟨h.1.1.1, h.1.2.1.2 _ h.at⟩
theorem do_end {s : Sto} {k a b : Int} (h : s.doE k a b ≠ 0) : s.doS k a b = s := by
  unfold Sto.doE at h
  unfold Sto.doS
  split at h
  · rename_i c; rw [if_pos c]
    split at h
    · exact absurd rfl h
    · rename_i q; rw [if_neg q]
  rename_i c1; rw [if_neg c1]
  split at h
  · exact absurd rfl h
  rename_i c2; rw [if_neg c2]
  split at h
  · exact absurd rfl h
  rename_i c7; rw [if_neg c7]
  split at h
  · rename_i c; rw [if_pos c]
    split at h
    · rename_i q; rw [if_pos q]
    · exact absurd rfl h
  rename_i c3; rw [if_neg c3]
  split at h
  · rename_i q; rw [if_pos q]
  · exact absurd rfl h
theorem run_end {s : Sto} {k a b : Int} (h : s.runOk k a b) (q : s.runE k a b ≠ 0) : s.runS k a b = s := by
  rw [Sto.runE, if_pos h] at q
  rw [Sto.runS, if_pos h]
  exact do_end q
/-- An operation New that ended well takes a free cell. -/
theorem new_end {s : Sto} {a b : Int} (h : s.runOk 1 a b) (q : s.runE 1 a b = 0) : s.alcOk a ∧ s.runS 1 a b = s.alcS a ∧ (s.runS 1 a b).h.T.getD a.toNat 0 = s.F.getD 0 0 := by
  rw [Sto.runE, if_pos h, Sto.doE, if_pos rfl] at q
  split at q
  · rename_i g
    have e : s.runS 1 a b = s.alcS a := by rw [Sto.runS, if_pos h, Sto.doS, if_pos rfl, if_pos g]
    refine ⟨g, e, ?_⟩
    rw [e, Sto.alcS, if_pos g]
    show (s.h.T.set _ _).getD _ 0 = _
    rw [getD_set (by have := g.2; omega), if_pos rfl]
  · cases q
theorem gcc_move {g : Gcc} {s t : Sto} (h : g.ok s) (ht : t.ok) (hL : t.h.L.length = s.h.L.length) (hT : t.h.T.length = s.h.T.length) : g.ok t := by
  refine ⟨ht, by rw [hL]; exact h.2.1, ?_⟩
  have := h.2.2
  unfold Gcc.atOk at this ⊢
  rw [hL, hT]; exact this
theorem Bth.opOk.S {b : Bth} (h : b.opOk) : b.opS.ok ∧ b.opS.h.L.length = b.s.h.L.length ∧ b.opS.h.T.length = b.s.h.T.length := ⟨runS_ok h.run, (runS_L h.run).1, (runS_L h.run).2⟩
theorem Bth.opOk.gS {b : Bth} (h : b.opOk) : b.g.ok b.opS := gcc_move h.1.1 h.S.1 h.S.2.1 h.S.2.2
theorem Bth.opOk.newC {b : Bth} (h : b.opOk) (q : b.opE = 0) (k : b.cur.1 = 1) : b.s.alcOk b.cur.2.1 ∧ b.opS = b.s.alcS b.cur.2.1 ∧ b.opS.h.T.getD b.cur.2.1.toNat 0 = b.s.F.getD 0 0 ∧ (0 ≤ b.s.F.getD 0 0 ∧ b.s.F.getD 0 0 < b.s.h.L.length) ∧ b.s.F.getD 0 0 ∈ b.s.F := by
  have hr := h.run
  unfold Bth.opE at q
  unfold Bth.opS
  rw [k] at hr q
  have := new_end hr q
  have hm := (alc_cell this.1).1
  rw [← k] at this
  exact ⟨this.1, this.2.1, this.2.2, (h.1.1.1.mem hm).1, hm⟩
theorem Bth.opOk.nwOk {b : Bth} (h : b.opOk) (q : b.opE = 0) (k : b.cur.1 = 1) : b.g.newOk b.opS (b.opS.h.T.getD b.cur.2.1.toNat 0) := by
  obtain ⟨_, _, e, c, _⟩ := h.newC q k
  refine ⟨h.gS, ?_, ?_⟩
  · rw [e]; exact c.1
  · rw [e, h.S.2.1]; exact c.2
theorem Bth.opOk.nw {b : Bth} (h : b.opOk) (q : b.opE = 0) : b.nw.ok b.opS ∧ b.nw.p = b.g.p ∧ b.nw.a = b.g.a ∧ b.nw.C.length = b.g.C.length := by
  unfold Bth.nw
  split
  · rename_i k
    have hn := h.nwOk q k
    have := new_law hn
    refine ⟨this.2.1, this.2.2.2.2.1, this.2.2.2.2.2.1, ?_⟩
    rw [Gcc.new, if_pos hn]; simp
  · exact ⟨h.gS, rfl, rfl, rfl⟩
theorem Bth.opOk.tg {b : Bth} (h : b.opOk) (t : b.opT ≠ -1) : (b.cur.1 = 5 ∨ b.cur.1 = 6) ∧ b.s.h.T.getD b.cur.2.1.toNat 0 ≠ -1 ∧ b.opT = b.s.h.T.getD b.cur.2.2.toNat 0 ∧ (0 ≤ b.opT ∧ b.opT < b.s.h.L.length) := by
  unfold Bth.opT Sto.tgt at t ⊢
  split at t
  · rename_i q
    rw [if_pos q]
    obtain ⟨⟨ho, ⟨⟨k1, k2⟩, a1, a2, a3, b1, b2⟩, hb⟩, c, d⟩ := q
    rw [if_neg (by omega)] at hb
    have := ho.1.2.2.2 b.cur.2.2.toNat (by omega)
    exact ⟨c, d, rfl, by omega, by omega⟩
  · exact absurd rfl t
theorem Bth.opOk.shOk {b : Bth} (h : b.opOk) (q : b.opE = 0) (t : b.opT ≠ -1) : b.nw.newOk b.opS b.opT := by
  have := (h.tg t).2.2.2
  refine ⟨(h.nw q).1, this.1, ?_⟩
  rw [h.S.2.1]; exact this.2
theorem Bth.opOk.col {b : Bth} (h : b.opOk) (q : b.opE = 0) (bar : Bool) : (b.col bar).ok b.opS ∧ (b.col bar).p = b.g.p ∧ (b.col bar).a = b.g.a ∧ (b.col bar).C.length = b.g.C.length := by
  have hn := h.nw q
  unfold Bth.col
  split
  · rename_i t
    have hs := h.shOk q t.2
    have := shade_law hs
    refine ⟨this.1, by rw [this.2.2.1]; exact hn.2.1, ?_, ?_⟩
    · rw [Gcc.shade, if_pos hs]; exact hn.2.2.1
    · rw [Gcc.shade, if_pos hs]; dsimp only; split
      · rw [shd_len]; exact hn.2.2.2
      · exact hn.2.2.2
  · exact hn
theorem Bth.opOk.G {b : Bth} (h : b.opOk) (bar : Bool) : (b.opG bar).ok b.opS ∧ (b.opG bar).p = b.g.p ∧ (b.opG bar).a = b.g.a ∧ (b.opG bar).C.length = b.g.C.length := by
  unfold Bth.opG
  split
  · rename_i q; exact h.col q bar
  · exact ⟨h.gS, rfl, rfl, rfl⟩
theorem Bth.opOk.step {b : Bth} (h : b.opOk) (bar : Bool) : (b.op bar).ok := by
  have ha := h.at
  have hb := h.1.2.2
  refine ⟨(h.G bar).1, ?_, ?_, ?_⟩
  · show opsV b.o b.opS.h.T.length
    rw [h.S.2.2]; exact h.1.2.1
  · show 0 ≤ b.a + 1; omega
  · show b.a + 1 ≤ b.o.length; omega
/-- Barriers shade one cell at most. -/
theorem Bth.opOk.barrier {b : Bth} (h : b.opOk) : ∃ x : Nat, ∀ j, j < (b.opG true).C.length → (b.opG true).C.getD j 0 = (b.opG false).C.getD j 0 ∨ j = x ∧ (b.opG true).C.getD j 0 = 1 ∧ (b.opG false).C.getD j 0 = 0 := by
  unfold Bth.opG
  split
  · rename_i q
    unfold Bth.col
    rw [if_neg (show ¬ (false = true ∧ b.opT ≠ -1) by simp)]
    split
    · rename_i t
      have hs := h.shOk q t.2
      refine ⟨b.opT.toNat, fun j hj => ?_⟩
      rw [Gcc.shade, if_pos hs] at hj ⊢
      dsimp only at hj ⊢
      split
      · rename_i p
        rw [if_pos p, shd_len] at hj
        rw [shd_getD hj]
        split
        · rename_i z; exact .inr ⟨by omega, rfl, z.2.2⟩
        · exact .inl rfl
      · exact .inl rfl
    · exact ⟨0, fun j hj => .inl rfl⟩
  · exact ⟨0, fun j hj => .inl rfl⟩
/-- No cell becomes whiter by an operation, but a new one. -/
theorem Bth.opOk.grow {b : Bth} (h : b.opOk) (bar : Bool) : ∀ j : Nat, j < b.g.C.length → b.g.C.getD j 0 ≤ (b.opG bar).C.getD j 0 ∨ (j : Int) ∈ b.s.F := by
  intro j hj
  have sh : ∀ (g : Gcc) (c : Int), g.newOk b.opS c → j < g.C.length → g.C.getD j 0 ≤ (g.shade b.opS c).C.getD j 0 := by
    intro g c hg hj
    rw [Gcc.shade, if_pos hg]; dsimp only
    split
    · exact (shd_grow c hj).1
    · exact Int.le_refl _
  unfold Bth.opG
  split
  · rename_i q
    have hn := h.nw q
    have h1 : b.g.C.getD j 0 ≤ b.nw.C.getD j 0 ∨ (j : Int) ∈ b.s.F := by
      unfold Bth.nw
      split
      · rename_i k
        obtain ⟨_, _, e, c, m⟩ := h.newC q k
        have hw := h.nwOk q k
        by_cases ej : (j : Int) = b.s.F.getD 0 0
        · right; rw [ej]; exact m
        · left
          rw [(new_law hw).1 j hj (by rw [e]; exact ej)]
          exact Int.le_refl _
      · exact .inl (Int.le_refl _)
    rcases h1 with h1 | h1
    · left
      unfold Bth.col
      split
      · rename_i t
        exact Int.le_trans h1 (sh _ _ (h.shOk q t.2) (by rw [hn.2.2.2]; exact hj))
      · exact h1
    · exact .inr h1
  · exact .inl (Int.le_refl _)
/-! The collector's step -/
open Classical in
noncomputable def Bth.gcs (b : Bth) : Bth := if b.g.sw b.s ≠ -1 ∧ Reach b.s.h (b.g.sw b.s).toNat then ⟨b.s, b.g, b.o, b.a, true⟩ else ⟨b.g.stS b.s, b.g.stG b.s, b.o, b.a, b.l⟩
def Bth.gcOk (b : Bth) : Prop := b.ok ∧ b.l = false
instance decPk2 (b : Bth) : Decidable b.gcOk := by unfold Bth.gcOk; infer_instance
noncomputable def Bth.sgc (b : Bth) : Bth := if b.gcOk then b.gcs else .zero
theorem sw_root {s : Sto} {g : Gcc} (h : g.ok s) (q : ¬ (g.sw s ≠ -1 ∧ Reach s.h (g.sw s).toNat)) : g.stOk s := by
  refine ⟨h, fun ⟨h1, h2⟩ => q ⟨h1, ?_⟩⟩
  obtain ⟨j, hj, e⟩ := mem_getD h2
  obtain ⟨p3, ea, _, _⟩ := sw_at h1
  have ha := h.2.2
  unfold Gcc.atOk at ha
  exact .root hj (by omega)
theorem Bth.gcOk.step {b : Bth} (h : b.gcOk) : b.gcs.ok := by
  unfold Bth.gcs
  split
  · exact h.1
  · rename_i q
    have hs := sw_root h.1.1 q
    refine ⟨hs.step, ?_, h.1.2.2⟩
    show opsV b.o (b.g.stS b.s).h.T.length
    rw [stS_T]; exact h.1.2.1
/-! Schedules: true an operation, false a step of the collector -/
noncomputable def Bth.one (b : Bth) (bar c : Bool) : Bth := if c then (if b.opOk then b.op bar else b) else (if b.gcOk then b.gcs else b)
noncomputable def Bth.run (bar : Bool) : List Bool → Bth → Bth
  | [], b => b
  | c :: r, b => Bth.run bar r (b.one bar c)
theorem Bth.run_app (bar : Bool) : ∀ (x y : List Bool) (b : Bth), Bth.run bar (x ++ y) b = Bth.run bar y (Bth.run bar x b)
  | [], y, b => rfl
  | c :: x, y, b => Bth.run_app bar x y (b.one bar c)
theorem Bth.one_ok {b : Bth} (h : b.ok) (bar c : Bool) : (b.one bar c).ok := by
  unfold Bth.one
  split
  · split
    · rename_i q; exact q.step bar
    · exact h
  · split
    · rename_i q; exact q.step
    · exact h
theorem Bth.run_ok (bar : Bool) : ∀ (x : List Bool) {b : Bth}, b.ok → (Bth.run bar x b).ok
  | [], b, h => h
  | c :: x, b, h => Bth.run_ok bar x (Bth.one_ok h bar c)
/-! With a barrier no live cell is lost -/
/-- Black cells point to no white ones while a collector marks; what is white and is still to be swept is not reached. -/
structure Bar (s : Sto) (g : Gcc) : Prop where
  ok : g.ok s
  m : g.p = 1 ∨ g.p = 2 → colHolds s.h g.C
  w : g.p = 3 → ∀ c : Nat, c < s.h.L.length → g.a ≤ c → g.C.getD c 0 = 0 → ¬ Reach s.h c
theorem Bar.sw {s : Sto} {g : Gcc} (t : Bar s g) : ¬ (g.sw s ≠ -1 ∧ Reach s.h (g.sw s).toNat) := by
  rintro ⟨h, q⟩
  obtain ⟨p3, e, c0, nf⟩ := sw_at h
  have ha := t.ok.2.2
  unfold Gcc.atOk at ha
  rw [e] at q
  exact t.w p3 g.a.toNat (by omega) (by omega) c0 q
theorem Bar.gone {s : Sto} {g : Gcc} (t : Bar s g) (h : g.sw s ≠ -1) : Gone s [g.sw s] := by
  obtain ⟨p3, e, c0, nf⟩ := sw_at h
  have ha := t.ok.2.2
  unfold Gcc.atOk at ha
  refine ⟨t.ok.1, by simp, fun x hx => ?_⟩
  simp at hx; subst hx
  rw [e]
  exact ⟨nf, g.a.toNat, by omega, by omega, t.w p3 g.a.toNat (by omega) (by omega) c0⟩
theorem Bar.stS_ok {s : Sto} {g : Gcc} (t : Bar s g) : ∀ c, Reach (g.stS s).h c ↔ Reach s.h c := by
  unfold Gcc.stS
  split
  · rename_i h; exact (t.gone h).reach
  · exact fun _ => Iff.rfl
theorem blk_holds {h : Hp} {C : List Int} {i : Nat} (q : colHolds h C) (hi : i < C.length) : colHolds h (blk h C i) := by
  obtain ⟨c1, c2, c3⟩ := q
  have hLok := c1.2.1
  have hRok := c1.2.2.1
  have hRl : h.R.length = h.L.length := c1.1.2.2.1
  have hcl := c2.1
  have kL := hLok i (by omega)
  have kR := hRok i (by omega)
  have b1 := shd_holds (c := h.R.getD i 0) (shd_holds (c := h.L.getD i 0) ⟨c1, c2, c3⟩)
  have nz : ∀ x : Int, -1 ≤ x ∧ x < h.L.length → x ≠ -1 → (shd (shd C (h.L.getD i 0)) (h.R.getD i 0)).getD x.toNat 0 ≠ 0 → (blk h C i).getD x.toNat 0 ≠ 0 := by
    intro x hx _ q
    unfold blk
    rw [getD_set' (by rw [shd_len, shd_len]; omega)]
    split
    · omega
    · exact q
  refine ⟨c1, blk_ok c2, fun j hj q => ?_⟩
  rw [blk_len] at hj
  have oL := hLok j (by omega)
  have oR := hRok j (by omega)
  by_cases ej : i = j
  · subst ej
    constructor
    · intro z
      refine nz _ oL z ?_
      rw [shd_getD (by rw [shd_len]; omega)]
      split
      · omega
      · rw [shd_getD (by omega)]
        split
        · omega
        · rename_i y; intro w; exact y ⟨z, rfl, w⟩
    · intro z
      refine nz _ oR z ?_
      rw [shd_getD (by rw [shd_len]; omega)]
      split
      · omega
      · rename_i y; intro w; exact y ⟨z, rfl, w⟩
  · have q2 : (shd (shd C (h.L.getD i 0)) (h.R.getD i 0)).getD j 0 = 2 := by
      unfold blk at q
      rw [getD_set' (by rw [shd_len, shd_len]; omega), if_neg ej] at q
      exact q
    have := b1.2.2 j (by rw [shd_len, shd_len]; omega) q2
    exact ⟨fun z => nz _ oL z (this.1 z), fun z => nz _ oR z (this.2 z)⟩
/-- Nothing gray, no black cell with a white one behind it, no root to a white one: what is reached is not white. -/
theorem mark_all {s : Sto} {C : List Int} (q : colHolds s.h C) (hno : (1 : Int) ∉ C) (hroots : ∀ j, j < s.h.T.length → s.h.T.getD j 0 ≠ -1 → C.getD (s.h.T.getD j 0).toNat 0 ≠ 0) : ∀ c, Reach s.h c → c < C.length ∧ C.getD c 0 ≠ 0 := by
  obtain ⟨c1, c2, c3⟩ := q
  have hTok := c1.2.2.2
  have hLok := c1.2.1
  have hRok := c1.2.2.1
  have hRl : s.h.R.length = s.h.L.length := c1.1.2.2.1
  have hcl := c2.1
  have blackOf : ∀ c, c < C.length → C.getD c 0 ≠ 0 → C.getD c 0 = 2 := by
    intro c hc q
    have h1 := c2.2 c hc
    have h2 : C.getD c 0 ≠ 1 := fun z => hno (z ▸ getD_mem hc)
    omega
  intro c q
  refine Reach.sub (h := s.h) (fun c => c < C.length ∧ C.getD c 0 ≠ 0) (fun j c hj hc => ?_) (fun a c ha hc => ?_) (fun a c ha hc => ?_) q
  · have := hTok j hj
    have h1 := hroots j hj (by omega)
    rw [hc, Int.toNat_natCast] at h1
    exact ⟨by omega, h1⟩
  · have h1 := (c3 a ha.1 (blackOf a ha.1 ha.2)).1 (by omega)
    rw [hc, Int.toNat_natCast] at h1
    have := hLok a (by omega)
    exact ⟨by omega, h1⟩
  · have h1 := (c3 a ha.1 (blackOf a ha.1 ha.2)).2 (by omega)
    rw [hc, Int.toNat_natCast] at h1
    have := hRok a (by omega)
    exact ⟨by omega, h1⟩
theorem Bar.stepG {s : Sto} {g : Gcc} (t : Bar s g) : Bar (g.stS s) (g.stG s) := by
  have hs := sw_root t.ok t.sw
  have hok := hs.step
  have hR := t.stS_ok
  have hl := stS_lens g s
  have ha := t.ok.2.2
  have hc := t.ok.2.1
  have hlc := hc.1
  unfold Gcc.atOk at ha
  by_cases p0 : g.p = 0
  · have e : g.stG s = ⟨1, List.replicate g.C.length 0, 0⟩ := by rw [Gcc.stG, if_pos p0]
    refine ⟨hok, fun _ => ⟨hok.1.1, hok.2.1, fun i hi q => ?_⟩, ?_⟩
    · rw [e] at q
      dsimp only at q
      have : (List.replicate g.C.length (0 : Int)).getD i 0 = 0 := by simp [List.getD_eq_getElem?_getD, List.getElem?_replicate]; split <;> rfl
      omega
    · rw [e]; intro q; dsimp only at q; omega
  by_cases p1 : g.p = 1
  · have eS : g.stS s = s := stS_id (by omega)
    have e : g.stG s = Gcc.nx ⟨1, shd g.C (s.h.T.getD g.a.toNat 0), g.a⟩ s.h.T.length 2 := by rw [Gcc.stG, if_neg p0, if_pos p1]
    have eC : (g.stG s).C = shd g.C (s.h.T.getD g.a.toNat 0) := by rw [e]; unfold Gcc.nx; split <;> rfl
    rw [eS] at hok ⊢
    refine ⟨hok, fun _ => by rw [eC]; exact shd_holds (t.m (.inl p1)), ?_⟩
    rw [e]; unfold Gcc.nx; dsimp only; split
    · intro q; dsimp only at q; omega
    · intro q; dsimp only at q; omega
  by_cases p2 : g.p = 2
  · have eS : g.stS s = s := stS_id (by omega)
    have e : g.stG s = g.mark s := by rw [Gcc.stG, if_neg p0, if_neg p1, if_pos p2]
    have hm := t.m (.inr p2)
    rw [eS] at hok ⊢
    rw [e] at hok ⊢
    unfold Gcc.mark at hok ⊢
    split
    · rename_i hi
      obtain ⟨i, hil, ei, hg1⟩ : ∃ i : Nat, i < g.C.length ∧ idx g.C 1 = i ∧ g.C.getD i 0 = 1 := by
        rcases idx_cases g.C 1 with q | q
        · exact q
        · omega
      rw [if_pos hi] at hok
      refine ⟨hok, fun _ => ?_, fun q => ?_⟩
      · show colHolds s.h (blk s.h g.C (idx g.C 1).toNat)
        rw [ei, Int.toNat_natCast]
        exact blk_holds hm hil
      · dsimp only at q; omega
    · rename_i hi
      rw [if_neg hi] at hok
      have hno : (1 : Int) ∉ g.C := by
        rcases idx_cases g.C 1 with ⟨i, _, q, _⟩ | q
        · omega
        · exact q.2
      split
      · rename_i hw
        rw [if_pos hw] at hok
        refine ⟨hok, fun _ => shd_holds hm, fun q => ?_⟩
        dsimp only at q; omega
      · rename_i hw
        rw [if_neg hw] at hok
        have hroots : ∀ j, j < s.h.T.length → s.h.T.getD j 0 ≠ -1 → g.C.getD (s.h.T.getD j 0).toNat 0 ≠ 0 := by
          rcases wrt_cases s.h.T g.C with ⟨i, _, q, _⟩ | q
          · omega
          · exact q.2
        refine ⟨hok, fun q => ?_, fun _ c _ _ q r => ?_⟩
        · dsimp only at q; omega
        · exact (mark_all hm hno hroots c r).2 q
  have p3 : g.p = 3 := by omega
  have e : g.stG s = Gcc.nx ⟨3, g.C.set g.a.toNat 0, g.a⟩ g.C.length 0 := by rw [Gcc.stG, if_neg p0, if_neg p1, if_neg p2]
  refine ⟨hok, ?_, ?_⟩
  · rw [e]; unfold Gcc.nx; dsimp only; split
    · intro q; dsimp only at q; omega
    · intro q; dsimp only at q; omega
  · rw [e]; unfold Gcc.nx; dsimp only; split
    · intro q; dsimp only at q; omega
    · intro _ c hcl hac q r
      dsimp only at hac q
      rw [hl.1] at hcl
      rw [getD_set' (by omega), if_neg (by omega)] at q
      exact t.w p3 c hcl (by omega) q ((hR c).1 r)
/-! To the end -/
def Bth.ops (bar : Bool) : Nat → Bth → Bth
  | 0, b => b
  | k + 1, b => if b.opOk then Bth.ops bar k (b.op bar) else b
noncomputable def Bth.gcn : Nat → Nat → Bth → Bth
  | 0, _, b => b
  | k + 1, i, b => if i < 2 ∧ b.gcOk then Bth.gcn k (if b.gcs.l = false ∧ b.gcs.g.p = 0 then i + 1 else i) b.gcs else b
noncomputable def Bth.fin (b : Bth) (bar : Bool) : Bth := Bth.gcn 128 0 (Bth.ops bar 16 b)
noncomputable def Bth.sfin (b : Bth) (bar : Bool) : Bth := if b.ok then b.fin bar else .zero
/-! Operations alone -/
end Go.Proofs.YtnepiffboakehaaGreatDoor.S

/- Plain laws of the common model: the texts of heaps, stores and collectors. Own work of this claim; no program in sight. -/
namespace Go.Proofs.YtnepiffboakehaaGreatDoor.S
set_option linter.all false

/-- A text out of its bytes. -/
def bs (l : List UInt8) : ByteArray := ⟨l.toArray⟩
theorem bs_app (a b : List UInt8) : bs a ++ bs b = bs (a ++ b) := by
  apply ByteArray.ext
  simp [bs]
theorem bs_size (l : List UInt8) : (bs l).size = l.length := rfl
/-- Decimal digits of a number below 100. -/
def dg (n : Nat) : List UInt8 := if n < 10 then [UInt8.ofNat (48 + n)] else [UInt8.ofNat (48 + n / 10), UInt8.ofNat (48 + n % 10)]
def sgn (p : Int) : List UInt8 := if p = -1 then [45] else dg p.toNat
def txC (L R : List Int) : List UInt8 := (L.zip R).flatMap fun p => sgn p.1 ++ sgn p.2 ++ [32]
def txR (T : List Int) : List UInt8 := T.flatMap fun p => 32 :: sgn p
def txH (h : Hp) : List UInt8 := txC h.L h.R ++ [47] ++ txR h.T
def txF (F : List Int) : List UInt8 := F.flatMap fun p => 32 :: dg p.toNat
def txS (s : Sto) : List UInt8 := txH s.h ++ [32, 102, 114, 101, 101] ++ txF s.F
def word (p : Int) : List UInt8 := if p = 0 then [105, 100, 108, 101] else if p = 1 then [114, 111, 111, 116, 115] else if p = 2 then [109, 97, 114, 107] else [115, 119, 101, 101, 112]
def sign (k : Int) : UInt8 := if k = 0 then 119 else if k = 1 then 103 else 98
def txB (b : Bth) : List UInt8 := txS b.s ++ [32] ++ word b.g.p ++ [32] ++ dg b.g.a.toNat ++ [32] ++ b.g.C.map sign ++ [32, 97, 116, 32] ++ dg b.a.toNat ++ (if b.l then [32, 108, 111, 115, 116] else [])
def Sto.text (s : Sto) : List UInt8 := if s.ok then txS s else []
def Hp.text (h : Hp) : List UInt8 := if h.ok then txH h else []
def Bth.text (b : Bth) : List UInt8 := if b.ok then txB b else []
theorem dg_len (n : Nat) : 1 ≤ (dg n).length ∧ (dg n).length ≤ 2 := by unfold dg; split <;> simp
theorem dg_one {n : Nat} (h : n < 10) : dg n = [UInt8.ofNat (48 + n)] := by unfold dg; rw [if_pos h]
theorem txF_len : ∀ (F : List Int), (∀ p, p ∈ F → 0 ≤ p ∧ p < 8) → (txF F).length = 2 * F.length
  | [], _ => rfl
  | p :: F, h => by
    have := txF_len F fun z hz => h z (by simp [hz])
    have hb := h p (by simp)
    simp only [txF, List.flatMap_cons, List.length_append, List.length_cons, dg_one (show p.toNat < 10 by omega)] at this ⊢
    simp only [List.length_nil]; omega
end Go.Proofs.YtnepiffboakehaaGreatDoor.S

/- Plain laws of the common model: schedules as texts, drawn programs. Own work of this claim; no program in sight. -/
namespace Go.Proofs.YtnepiffboakehaaGreatDoor.S
set_option linter.all false

/-- A schedule's text: 'o' an operation, 'g' a step of the collector. -/
def sch (l : List Bool) : ByteArray := bs (l.map fun c => if c then 111 else 103)
theorem sch_size (l : List Bool) : (sch l).size = l.length := by rw [sch, bs_size, List.length_map]
theorem sch_at (l : List Bool) (i : Nat) (h : i < l.length) : (((sch l).data.getD i 0).toNat : Int) = if l.getD i false then 111 else 103 := by
  unfold sch bs
  rw [Array.getD_eq_getD_getElem?]
  simp only [List.getElem?_toArray, List.getElem?_map, List.getD_eq_getElem?_getD]
  rw [List.getElem?_eq_getElem h]
  cases l[i] <;> simp
theorem sch_snoc (l : List Bool) (c : Bool) : sch l ++ bs [if c then 111 else 103] = sch (l ++ [c]) := by
  rw [sch, bs_app, sch, List.map_append]; rfl
theorem opsV_mem {l : List (Int × Int × Int)} {n : Nat} (hl : l.length ≤ 12) (h : ∀ o ∈ l, opOk o.1 o.2.1 o.2.2 n) : opsV l n := by
  refine ⟨hl, fun j hj => ?_⟩
  have : opAt l j ∈ l := by
    unfold opAt
    rw [List.getD_eq_getElem?_getD, List.getElem?_eq_getElem hj]
    exact List.getElem_mem hj
  exact h _ this
theorem opsV_all {l : List (Int × Int × Int)} {n : Nat} (h : opsV l n) : ∀ o ∈ l, opOk o.1 o.2.1 o.2.2 n := by
  intro o ho
  obtain ⟨i, hi, e⟩ := List.getElem_of_mem ho
  have := h.2 i hi
  unfold opAt at this
  rw [List.getD_eq_getElem?_getD, List.getElem?_eq_getElem hi] at this
  rw [← e]
  exact this
theorem opsS_again {s : Sto} {l : List (Int × Int × Int)} (h : s.opsOk l) : (s.opsS l).opsOk l := by
  have e : s.opsS l = s.goS l := by rw [Sto.opsS, if_pos h]
  have g := goS_ok h.1 s.h.T.length rfl (opsV_all h.2)
  rw [e]
  exact ⟨g.1, by rw [g.2.2]; exact h.2⟩
theorem Bth.run_take {bar : Bool} {l : List Bool} {i : Nat} {b : Bth} (h : i < l.length) : Bth.run bar (l.take (i + 1)) b = (Bth.run bar (l.take i) b).one bar (l.getD i false) := by
  rw [List.take_add_one, Bth.run_app]
  rw [List.getElem?_eq_getElem h, List.getD_eq_getElem?_getD, List.getElem?_eq_getElem h]
  rfl
theorem Bth.ok.c1 {b : Bth} (h : b.ok) : 1 ≤ b.g.C.length := by
  have h1 := h.1.2.1.1
  have h2 := h.1.1.1.1
  omega
end Go.Proofs.YtnepiffboakehaaGreatDoor.S

/- Plain laws of the common model: what the texts of stores and of both begin and end with. Own work of this claim; no program in sight. -/
namespace Go.Proofs.YtnepiffboakehaaGreatDoor.S
set_option linter.all false

theorem bs_extract (l : List UInt8) (a b : Nat) : (bs l).extract a b = bs ((l.drop a).take (b - a)) := by
  apply ByteArray.ext
  rw [ByteArray.data_extract]
  unfold bs
  simp
theorem free_in {s : Sto} (h : s.ok) : ∀ p, p ∈ s.F → 0 ≤ p ∧ p < 8 := by
  intro p hp
  obtain ⟨j, hj, e⟩ := mem_getD hp
  have h1 := (h.2 j hj).1.1
  have h2 := h.1.1
  omega
theorem txS_size {s : Sto} (h : s.ok) : (txS s).length = (txH s.h).length + 5 + 2 * s.F.length := by
  unfold txS
  rw [List.length_append, List.length_append, txF_len s.F (free_in h)]
  rfl
theorem sgn_len (p : Int) : 1 ≤ (sgn p).length ∧ (sgn p).length ≤ 2 := by
  unfold sgn; split
  · exact ⟨Nat.le_refl _, by decide⟩
  · exact dg_len _
theorem getD_take_snoc {l : List Int} {i : Nat} (h : i < l.length) : l.take (i + 1) = l.take i ++ [l.getD i 0] := by
  rw [List.take_add_one, List.getElem?_eq_getElem h, List.getD_eq_getElem?_getD, List.getElem?_eq_getElem h]; rfl
theorem txC_step {L R : List Int} {i : Nat} (h : i < L.length) (h' : i < R.length) : txC (L.take (i + 1)) (R.take (i + 1)) = txC (L.take i) (R.take i) ++ (sgn (L.getD i 0) ++ sgn (R.getD i 0) ++ [32]) := by
  rw [getD_take_snoc h, getD_take_snoc h']
  unfold txC
  rw [List.zip_append (by rw [List.length_take, List.length_take]; omega), List.flatMap_append]
  simp
theorem txR_step {T : List Int} {i : Nat} (h : i < T.length) : txR (T.take (i + 1)) = txR (T.take i) ++ (32 :: sgn (T.getD i 0)) := by
  rw [getD_take_snoc h]
  simp [txR]
theorem txF_step {T : List Int} {i : Nat} (h : i < T.length) : txF (T.take (i + 1)) = txF (T.take i) ++ (32 :: dg (T.getD i 0).toNat) := by
  rw [getD_take_snoc h]
  simp [txF]
theorem txC_len : ∀ (L R : List Int), (txC L R).length ≤ 5 * L.length
  | [], R => by simp [txC]
  | p :: L, [] => by simp [txC]
  | p :: L, q :: R => by
    have ih := txC_len L R
    have h1 := sgn_len p
    have h2 := sgn_len q
    unfold txC at ih ⊢
    simp only [List.zip_cons_cons, List.flatMap_cons, List.length_append, List.length_cons, List.length_nil]
    omega
theorem txR_len : ∀ (T : List Int), (txR T).length ≤ 3 * T.length
  | [] => by simp [txR]
  | p :: T => by
    have ih := txR_len T
    have h1 := sgn_len p
    unfold txR at ih ⊢
    simp only [List.flatMap_cons, List.length_append, List.length_cons]
    omega
theorem txH_len (h : Hp) : (txH h).length ≤ 5 * h.L.length + 1 + 3 * h.T.length := by
  have h1 := txC_len h.L h.R
  have h2 := txR_len h.T
  unfold txH
  rw [List.length_append, List.length_append, List.length_singleton]
  omega
theorem cell_in {l : List Int} {n i : Nat} (h : okP l n) (hi : i < l.length) : -1 ≤ l.getD i 0 ∧ l.getD i 0 < n := by have := okP_get h hi; omega
end Go.Proofs.YtnepiffboakehaaGreatDoor.S

/- Plain laws of the common model: how a pair is finished. Own work of this claim; no program in sight. -/
namespace Go.Proofs.YtnepiffboakehaaGreatDoor.S
set_option linter.all false

def Bth.left (b : Bth) (i : Nat) : Nat := (2 - i) * 41 + b.g.mu b.s.h.T.length
end Go.Proofs.YtnepiffboakehaaGreatDoor.S

/- Plain laws: when a text cut on both sides is empty. Own work of this claim; no program in sight. -/
namespace Go.Proofs.YtnepiffboakehaaGreatDoor.S
set_option linter.all false

end Go.Proofs.YtnepiffboakehaaGreatDoor.S
