/- Texts of this claim's own layer, laid as one: Pj Pk Pl Pm Pn Po Pr Ps Pt Pu Pv Pw. Own work of this claim. -/
import Derived.Test.YtbobhbhgomkgpaaGreatDoorA5
import Derived.Lib.SlTrimSet
import Derived.Test.YtbobhbhgomkgpaaGreatDoorA1
/- The common model: a program and a collector on one store. Own work of this claim; no program in sight. -/
namespace Go.Proofs.YtbobhbhgomkgpaaGreatDoor.S
set_option linter.all false

structure Bth where
  s : Sto
  g : Gcc
  o : List (Int × Int × Int)
  a : Int
  l : Bool
def Bth.zero : Bth := ⟨.zero, .zero, [], 0, false⟩
def Bth.ok (b : Bth) : Prop := b.g.ok b.s ∧ opsV b.o b.s.h.T.length ∧ 0 ≤ b.a ∧ b.a ≤ b.o.length
instance decPj1 (b : Bth) : Decidable b.ok := by unfold Bth.ok; infer_instance
/-- A new collector of a valid store: idle, all white. -/
def Bth.new (s : Sto) (l : List (Int × Int × Int)) : Bth := if s.opsOk l then ⟨s, ⟨0, List.replicate s.h.L.length 0, 0⟩, l, 0, false⟩ else .zero
theorem Bth.new_ok {s : Sto} {l : List (Int × Int × Int)} (h : s.opsOk l) : (Bth.new s l).ok := by
  rw [Bth.new, if_pos h]
  refine ⟨⟨h.1, colOk_rep _, ?_⟩, h.2, Int.le_refl _, ?_⟩
  · unfold Gcc.atOk; dsimp only; omega
  · dsimp only; omega
theorem Bth.ok.small {b : Bth} (h : b.ok) : (((b.s.h.L.length ≤ 8 ∧ b.s.h.R.length ≤ 8 ∧ b.s.h.T.length ≤ 3) ∧ b.s.F.length ≤ 8) ∧ b.g.C.length ≤ 8) ∧ b.o.length ≤ 12 := by
  have l8 := h.1.1.1.1
  have bF := h.1.1.le
  have hlc := h.1.2.1.1
  have ho := h.2.1.1
  omega
end Go.Proofs.YtbobhbhgomkgpaaGreatDoor.S

/- Plain laws of the common model: a program and a collector step by step. Own work of this claim; no program in sight. -/
namespace Go.Proofs.YtbobhbhgomkgpaaGreatDoor.S
set_option linter.all false

def Sto.tgt (s : Sto) (k a b : Int) : Int := if s.runOk k a b ∧ (k = 5 ∨ k = 6) ∧ s.h.T.getD a.toNat 0 ≠ -1 then s.h.T.getD b.toNat 0 else -1
def Bth.cur (b : Bth) : Int × Int × Int := opAt b.o b.a.toNat
def Bth.opS (b : Bth) : Sto := b.s.runS b.cur.1 b.cur.2.1 b.cur.2.2
def Bth.opE (b : Bth) : Int := b.s.runE b.cur.1 b.cur.2.1 b.cur.2.2
def Bth.opT (b : Bth) : Int := b.s.tgt b.cur.1 b.cur.2.1 b.cur.2.2
/-- The collector behind an operation that ended well: a new cell is colored, the target is shaded. -/
def Bth.nw (b : Bth) : Gcc := if b.cur.1 = 1 then b.g.new b.opS (b.opS.h.T.getD b.cur.2.1.toNat 0) else b.g
def Bth.col (b : Bth) (bar : Bool) : Gcc := if bar = true ∧ b.opT ≠ -1 then b.nw.shade b.opS b.opT else b.nw
def Bth.opG (b : Bth) (bar : Bool) : Gcc := if b.opE = 0 then b.col bar else b.g
def Bth.op (b : Bth) (bar : Bool) : Bth := ⟨b.opS, b.opG bar, b.o, b.a + 1, b.l⟩
def Bth.opOk (b : Bth) : Prop := b.ok ∧ b.l = false ∧ b.a ≠ b.o.length
instance decPk1 (b : Bth) : Decidable b.opOk := by unfold Bth.opOk; infer_instance
def Bth.sop (b : Bth) (bar : Bool) : Bth := if b.opOk then b.op bar else .zero
theorem Bth.opOk.at {b : Bth} (h : b.opOk) : b.a.toNat < b.o.length := by have := h.1.2.2; have := h.2.2; omega
theorem Bth.opOk.run {b : Bth} (h : b.opOk) : b.s.runOk b.cur.1 b.cur.2.1 b.cur.2.2 := ⟨h.1.1.1, h.1.2.1.2 _ h.at⟩
theorem do_end {s : Sto} {k a b : Int} (h : s.doE k a b ≠ 0) : s.doS k a b = s := by
  unfold Sto.doE at h
  unfold Sto.doS
  split at h
  · rename_i c; rw [if_pos c]
    split at h
    · exact absurd rfl h
    · rename_i q; rw [if_neg q]
  rename_i c1; rw [if_neg c1]
  split at h
  · exact absurd rfl h
  rename_i c2; rw [if_neg c2]
  split at h
  · exact absurd rfl h
  rename_i c7; rw [if_neg c7]
  split at h
  · rename_i c; rw [if_pos c]
    split at h
    · rename_i q; rw [if_pos q]
    · exact absurd rfl h
  rename_i c3; rw [if_neg c3]
  split at h
  · rename_i q; rw [if_pos q]
  · exact absurd rfl h
theorem run_end {s : Sto} {k a b : Int} (h : s.runOk k a b) (q : s.runE k a b ≠ 0) : s.runS k a b = s := by
  rw [Sto.runE, if_pos h] at q
  rw [Sto.runS, if_pos h]
  exact do_end q
/-- An operation New that ended well takes a free cell. -/
theorem new_end {s : Sto} {a b : Int} (h : s.runOk 1 a b) (q : s.runE 1 a b = 0) : s.alcOk a ∧ s.runS 1 a b = s.alcS a ∧ (s.runS 1 a b).h.T.getD a.toNat 0 = s.F.getD 0 0 := by
  rw [Sto.runE, if_pos h, Sto.doE, if_pos rfl] at q
  split at q
  · rename_i g
    have e : s.runS 1 a b = s.alcS a := by rw [Sto.runS, if_pos h, Sto.doS, if_pos rfl, if_pos g]
    refine ⟨g, e, ?_⟩
    rw [e, Sto.alcS, if_pos g]
    show (s.h.T.set _ _).getD _ 0 = _
    rw [getD_set (by have := g.2; omega), if_pos rfl]
  · cases q
theorem gcc_move {g : Gcc} {s t : Sto} (h : g.ok s) (ht : t.ok) (hL : t.h.L.length = s.h.L.length) (hT : t.h.T.length = s.h.T.length) : g.ok t := by
  refine ⟨ht, by rw [hL]; exact h.2.1, ?_⟩
  have := h.2.2
  unfold Gcc.atOk at this ⊢
  rw [hL, hT]; exact this
theorem Bth.opOk.S {b : Bth} (h : b.opOk) : b.opS.ok ∧ b.opS.h.L.length = b.s.h.L.length ∧ b.opS.h.T.length = b.s.h.T.length := ⟨runS_ok h.run, (runS_L h.run).1, (runS_L h.run).2⟩
theorem Bth.opOk.gS {b : Bth} (h : b.opOk) : b.g.ok b.opS := gcc_move h.1.1 h.S.1 h.S.2.1 h.S.2.2
theorem Bth.opOk.newC {b : Bth} (h : b.opOk) (q : b.opE = 0) (k : b.cur.1 = 1) : b.s.alcOk b.cur.2.1 ∧ b.opS = b.s.alcS b.cur.2.1 ∧ b.opS.h.T.getD b.cur.2.1.toNat 0 = b.s.F.getD 0 0 ∧ (0 ≤ b.s.F.getD 0 0 ∧ b.s.F.getD 0 0 < b.s.h.L.length) ∧ b.s.F.getD 0 0 ∈ b.s.F := by
  have hr := h.run
  unfold Bth.opE at q
  unfold Bth.opS
  rw [k] at hr q
  have := new_end hr q
  have hm := (alc_cell this.1).1
  rw [← k] at this
  exact ⟨this.1, this.2.1, this.2.2, (h.1.1.1.mem hm).1, hm⟩
theorem Bth.opOk.nwOk {b : Bth} (h : b.opOk) (q : b.opE = 0) (k : b.cur.1 = 1) : b.g.newOk b.opS (b.opS.h.T.getD b.cur.2.1.toNat 0) := by
  obtain ⟨_, _, e, c, _⟩ := h.newC q k
  refine ⟨h.gS, ?_, ?_⟩
  · rw [e]; exact c.1
  · rw [e, h.S.2.1]; exact c.2
theorem Bth.opOk.nw {b : Bth} (h : b.opOk) (q : b.opE = 0) : b.nw.ok b.opS ∧ b.nw.p = b.g.p ∧ b.nw.a = b.g.a ∧ b.nw.C.length = b.g.C.length := by
  unfold Bth.nw
  split
  · rename_i k
    have hn := h.nwOk q k
    have := new_law hn
    refine ⟨this.2.1, this.2.2.2.2.1, this.2.2.2.2.2.1, ?_⟩
    rw [Gcc.new, if_pos hn]; simp
  · exact ⟨h.gS, rfl, rfl, rfl⟩
theorem Bth.opOk.tg {b : Bth} (h : b.opOk) (t : b.opT ≠ -1) : (b.cur.1 = 5 ∨ b.cur.1 = 6) ∧ b.s.h.T.getD b.cur.2.1.toNat 0 ≠ -1 ∧ b.opT = b.s.h.T.getD b.cur.2.2.toNat 0 ∧ (0 ≤ b.opT ∧ b.opT < b.s.h.L.length) := by
  unfold Bth.opT Sto.tgt at t ⊢
  split at t
  · rename_i q
    rw [if_pos q]
    obtain ⟨⟨ho, ⟨⟨k1, k2⟩, a1, a2, a3, b1, b2⟩, hb⟩, c, d⟩ := q
    rw [if_neg (by omega)] at hb
    have := ho.1.2.2.2 b.cur.2.2.toNat (by omega)
    exact ⟨c, d, rfl, by omega, by omega⟩
  · exact absurd rfl t
theorem Bth.opOk.shOk {b : Bth} (h : b.opOk) (q : b.opE = 0) (t : b.opT ≠ -1) : b.nw.newOk b.opS b.opT := by
  have := (h.tg t).2.2.2
  refine ⟨(h.nw q).1, this.1, ?_⟩
  rw [h.S.2.1]; exact this.2
theorem Bth.opOk.col {b : Bth} (h : b.opOk) (q : b.opE = 0) (bar : Bool) : (b.col bar).ok b.opS ∧ (b.col bar).p = b.g.p ∧ (b.col bar).a = b.g.a ∧ (b.col bar).C.length = b.g.C.length := by
  have hn := h.nw q
  unfold Bth.col
  split
  · rename_i t
    have hs := h.shOk q t.2
    have := shade_law hs
    refine ⟨this.1, by rw [this.2.2.1]; exact hn.2.1, ?_, ?_⟩
    · rw [Gcc.shade, if_pos hs]; exact hn.2.2.1
    · rw [Gcc.shade, if_pos hs]; dsimp only; split
      · rw [shd_len]; exact hn.2.2.2
      · exact hn.2.2.2
  · exact hn
theorem Bth.opOk.G {b : Bth} (h : b.opOk) (bar : Bool) : (b.opG bar).ok b.opS ∧ (b.opG bar).p = b.g.p ∧ (b.opG bar).a = b.g.a ∧ (b.opG bar).C.length = b.g.C.length := by
  unfold Bth.opG
  split
  · rename_i q; exact h.col q bar
  · exact ⟨h.gS, rfl, rfl, rfl⟩
theorem Bth.opOk.step {b : Bth} (h : b.opOk) (bar : Bool) : (b.op bar).ok := by
  have ha := h.at
  have hb := h.1.2.2
  refine ⟨(h.G bar).1, ?_, ?_, ?_⟩
  · show opsV b.o b.opS.h.T.length
    rw [h.S.2.2]; exact h.1.2.1
  · show 0 ≤ b.a + 1; omega
  · show b.a + 1 ≤ b.o.length; omega
theorem Bth.sop_small (b : Bth) (bar : Bool) : (((((b.sop bar).s.h.L.length ≤ 8 ∧ (b.sop bar).s.h.R.length ≤ 8 ∧ (b.sop bar).s.h.T.length ≤ 3) ∧ (b.sop bar).s.F.length ≤ 8) ∧ (b.sop bar).g.C.length ≤ 8) ∧ (b.sop bar).o.length ≤ 12) := by
  unfold Bth.sop
  split
  · rename_i h; exact (h.step bar).small
  · simp [Bth.zero, Sto.zero, Gcc.zero]
/-- Barriers shade one cell at most. -/
theorem Bth.opOk.barrier {b : Bth} (h : b.opOk) : ∃ x : Nat, ∀ j, j < (b.opG true).C.length → (b.opG true).C.getD j 0 = (b.opG false).C.getD j 0 ∨ j = x ∧ (b.opG true).C.getD j 0 = 1 ∧ (b.opG false).C.getD j 0 = 0 := by
  unfold Bth.opG
  split
  · rename_i q
    unfold Bth.col
    rw [if_neg (show ¬ (false = true ∧ b.opT ≠ -1) by simp)]
    split
    · rename_i t
      have hs := h.shOk q t.2
      refine ⟨b.opT.toNat, fun j hj => ?_⟩
      rw [Gcc.shade, if_pos hs] at hj ⊢
      dsimp only at hj ⊢
      split
      · rename_i p
        rw [if_pos p, shd_len] at hj
        rw [shd_getD hj]
        split
        · rename_i z; exact .inr ⟨by omega, rfl, z.2.2⟩
        · exact .inl rfl
      · exact .inl rfl
    · exact ⟨0, fun j hj => .inl rfl⟩
  · exact ⟨0, fun j hj => .inl rfl⟩
/-- No cell becomes whiter by an operation, but a new one. -/
theorem Bth.opOk.grow {b : Bth} (h : b.opOk) (bar : Bool) : ∀ j : Nat, j < b.g.C.length → b.g.C.getD j 0 ≤ (b.opG bar).C.getD j 0 ∨ (j : Int) ∈ b.s.F := by
  intro j hj
  have sh : ∀ (g : Gcc) (c : Int), g.newOk b.opS c → j < g.C.length → g.C.getD j 0 ≤ (g.shade b.opS c).C.getD j 0 := by
    intro g c hg hj
    rw [Gcc.shade, if_pos hg]; dsimp only
    split
    · exact (shd_grow c hj).1
    · exact Int.le_refl _
  unfold Bth.opG
  split
  · rename_i q
    have hn := h.nw q
    have h1 : b.g.C.getD j 0 ≤ b.nw.C.getD j 0 ∨ (j : Int) ∈ b.s.F := by
      unfold Bth.nw
      split
      · rename_i k
        obtain ⟨_, _, e, c, m⟩ := h.newC q k
        have hw := h.nwOk q k
        by_cases ej : (j : Int) = b.s.F.getD 0 0
        · right; rw [ej]; exact m
        · left
          rw [(new_law hw).1 j hj (by rw [e]; exact ej)]
          exact Int.le_refl _
      · exact .inl (Int.le_refl _)
    rcases h1 with h1 | h1
    · left
      unfold Bth.col
      split
      · rename_i t
        exact Int.le_trans h1 (sh _ _ (h.shOk q t.2) (by rw [hn.2.2.2]; exact hj))
      · exact h1
    · exact .inr h1
  · exact .inl (Int.le_refl _)
/-! The collector's step -/
open Classical in
noncomputable def Bth.gcs (b : Bth) : Bth := if b.g.sw b.s ≠ -1 ∧ Reach b.s.h (b.g.sw b.s).toNat then ⟨b.s, b.g, b.o, b.a, true⟩ else ⟨b.g.stS b.s, b.g.stG b.s, b.o, b.a, b.l⟩
def Bth.gcOk (b : Bth) : Prop := b.ok ∧ b.l = false
instance decPk2 (b : Bth) : Decidable b.gcOk := by unfold Bth.gcOk; infer_instance
noncomputable def Bth.sgc (b : Bth) : Bth := if b.gcOk then b.gcs else .zero
theorem sw_root {s : Sto} {g : Gcc} (h : g.ok s) (q : ¬ (g.sw s ≠ -1 ∧ Reach s.h (g.sw s).toNat)) : g.stOk s := by
  refine ⟨h, fun ⟨h1, h2⟩ => q ⟨h1, ?_⟩⟩
  obtain ⟨j, hj, e⟩ := mem_getD h2
  obtain ⟨p3, ea, _, _⟩ := sw_at h1
  have ha := h.2.2
  unfold Gcc.atOk at ha
  exact .root hj (by omega)
theorem Bth.gcOk.step {b : Bth} (h : b.gcOk) : b.gcs.ok := by
  unfold Bth.gcs
  split
  · exact h.1
  · rename_i q
    have hs := sw_root h.1.1 q
    refine ⟨hs.step, ?_, h.1.2.2⟩
    show opsV b.o (b.g.stS b.s).h.T.length
    rw [stS_T]; exact h.1.2.1
theorem Bth.sgc_small (b : Bth) : ((((b.sgc.s.h.L.length ≤ 8 ∧ b.sgc.s.h.R.length ≤ 8 ∧ b.sgc.s.h.T.length ≤ 3) ∧ b.sgc.s.F.length ≤ 8) ∧ b.sgc.g.C.length ≤ 8) ∧ b.sgc.o.length ≤ 12) := by
  unfold Bth.sgc
  split
  · rename_i h; exact h.step.small
  · simp [Bth.zero, Sto.zero, Gcc.zero]
/-! Schedules: true an operation, false a step of the collector -/
noncomputable def Bth.one (b : Bth) (bar c : Bool) : Bth := if c then (if b.opOk then b.op bar else b) else (if b.gcOk then b.gcs else b)
noncomputable def Bth.run (bar : Bool) : List Bool → Bth → Bth
  | [], b => b
  | c :: r, b => Bth.run bar r (b.one bar c)
theorem Bth.run_app (bar : Bool) : ∀ (x y : List Bool) (b : Bth), Bth.run bar (x ++ y) b = Bth.run bar y (Bth.run bar x b)
  | [], y, b => rfl
  | c :: x, y, b => Bth.run_app bar x y (b.one bar c)
theorem Bth.one_ok {b : Bth} (h : b.ok) (bar c : Bool) : (b.one bar c).ok := by
  unfold Bth.one
  split
  · split
    · rename_i q; exact q.step bar
    · exact h
  · split
    · rename_i q; exact q.step
    · exact h
/-! With a barrier no live cell is lost -/
/-- Black cells point to no white ones while a collector marks; what is white and is still to be swept is not reached. -/
structure Bar (s : Sto) (g : Gcc) : Prop where
  ok : g.ok s
  m : g.p = 1 ∨ g.p = 2 → colHolds s.h g.C
  w : g.p = 3 → ∀ c : Nat, c < s.h.L.length → g.a ≤ c → g.C.getD c 0 = 0 → ¬ Reach s.h c
theorem bar_idle {s : Sto} {g : Gcc} (h : g.ok s) (hp : g.p = 0) : Bar s g := ⟨h, by omega, by omega⟩
theorem Bar.sw {s : Sto} {g : Gcc} (t : Bar s g) : ¬ (g.sw s ≠ -1 ∧ Reach s.h (g.sw s).toNat) := by
  rintro ⟨h, q⟩
  obtain ⟨p3, e, c0, nf⟩ := sw_at h
  have ha := t.ok.2.2
  unfold Gcc.atOk at ha
  rw [e] at q
  exact t.w p3 g.a.toNat (by omega) (by omega) c0 q
theorem Bar.gone {s : Sto} {g : Gcc} (t : Bar s g) (h : g.sw s ≠ -1) : Gone s [g.sw s] := by
  obtain ⟨p3, e, c0, nf⟩ := sw_at h
  have ha := t.ok.2.2
  unfold Gcc.atOk at ha
  refine ⟨t.ok.1, by simp, fun x hx => ?_⟩
  simp at hx; subst hx
  rw [e]
  exact ⟨nf, g.a.toNat, by omega, by omega, t.w p3 g.a.toNat (by omega) (by omega) c0⟩
theorem Bar.stS_ok {s : Sto} {g : Gcc} (t : Bar s g) : ∀ c, Reach (g.stS s).h c ↔ Reach s.h c := by
  unfold Gcc.stS
  split
  · rename_i h; exact (t.gone h).reach
  · exact fun _ => Iff.rfl
theorem blk_holds {h : Hp} {C : List Int} {i : Nat} (q : colHolds h C) (hi : i < C.length) : colHolds h (blk h C i) := by
  obtain ⟨c1, c2, c3⟩ := q
  have hLok := c1.2.1
  have hRok := c1.2.2.1
  have hRl : h.R.length = h.L.length := c1.1.2.2.1
  have hcl := c2.1
  have kL := hLok i (by omega)
  have kR := hRok i (by omega)
  have b1 := shd_holds (c := h.R.getD i 0) (shd_holds (c := h.L.getD i 0) ⟨c1, c2, c3⟩)
  have nz : ∀ x : Int, -1 ≤ x ∧ x < h.L.length → x ≠ -1 → (shd (shd C (h.L.getD i 0)) (h.R.getD i 0)).getD x.toNat 0 ≠ 0 → (blk h C i).getD x.toNat 0 ≠ 0 := by
    intro x hx _ q
    unfold blk
    rw [getD_set' (by rw [shd_len, shd_len]; omega)]
    split
    · omega
    · exact q
  refine ⟨c1, blk_ok c2, fun j hj q => ?_⟩
  rw [blk_len] at hj
  have oL := hLok j (by omega)
  have oR := hRok j (by omega)
  by_cases ej : i = j
  · subst ej
    constructor
    · intro z
      refine nz _ oL z ?_
      rw [shd_getD (by rw [shd_len]; omega)]
      split
      · omega
      · rw [shd_getD (by omega)]
        split
        · omega
        · rename_i y; intro w; exact y ⟨z, rfl, w⟩
    · intro z
      refine nz _ oR z ?_
      rw [shd_getD (by rw [shd_len]; omega)]
      split
      · omega
      · rename_i y; intro w; exact y ⟨z, rfl, w⟩
  · have q2 : (shd (shd C (h.L.getD i 0)) (h.R.getD i 0)).getD j 0 = 2 := by
      unfold blk at q
      rw [getD_set' (by rw [shd_len, shd_len]; omega), if_neg ej] at q
      exact q
    have := b1.2.2 j (by rw [shd_len, shd_len]; omega) q2
    exact ⟨fun z => nz _ oL z (this.1 z), fun z => nz _ oR z (this.2 z)⟩
/-- Nothing gray, no black cell with a white one behind it, no root to a white one: what is reached is not white. -/
theorem mark_all {s : Sto} {C : List Int} (q : colHolds s.h C) (hno : (1 : Int) ∉ C) (hroots : ∀ j, j < s.h.T.length → s.h.T.getD j 0 ≠ -1 → C.getD (s.h.T.getD j 0).toNat 0 ≠ 0) : ∀ c, Reach s.h c → c < C.length ∧ C.getD c 0 ≠ 0 := by
  obtain ⟨c1, c2, c3⟩ := q
  have hTok := c1.2.2.2
  have hLok := c1.2.1
  have hRok := c1.2.2.1
  have hRl : s.h.R.length = s.h.L.length := c1.1.2.2.1
  have hcl := c2.1
  have blackOf : ∀ c, c < C.length → C.getD c 0 ≠ 0 → C.getD c 0 = 2 := by
    intro c hc q
    have h1 := c2.2 c hc
    have h2 : C.getD c 0 ≠ 1 := fun z => hno (z ▸ getD_mem hc)
    omega
  intro c q
  refine Reach.sub (h := s.h) (fun c => c < C.length ∧ C.getD c 0 ≠ 0) (fun j c hj hc => ?_) (fun a c ha hc => ?_) (fun a c ha hc => ?_) q
  · have := hTok j hj
    have h1 := hroots j hj (by omega)
    rw [hc, Int.toNat_natCast] at h1
    exact ⟨by omega, h1⟩
  · have h1 := (c3 a ha.1 (blackOf a ha.1 ha.2)).1 (by omega)
    rw [hc, Int.toNat_natCast] at h1
    have := hLok a (by omega)
    exact ⟨by omega, h1⟩
  · have h1 := (c3 a ha.1 (blackOf a ha.1 ha.2)).2 (by omega)
    rw [hc, Int.toNat_natCast] at h1
    have := hRok a (by omega)
    exact ⟨by omega, h1⟩
theorem Bar.stepG {s : Sto} {g : Gcc} (t : Bar s g) : Bar (g.stS s) (g.stG s) := by
  have hs := sw_root t.ok t.sw
  have hok := hs.step
  have hR := t.stS_ok
  have hl := stS_lens g s
  have ha := t.ok.2.2
  have hc := t.ok.2.1
  have hlc := hc.1
  unfold Gcc.atOk at ha
  by_cases p0 : g.p = 0
  · have e : g.stG s = ⟨1, List.replicate g.C.length 0, 0⟩ := by rw [Gcc.stG, if_pos p0]
    refine ⟨hok, fun _ => ⟨hok.1.1, hok.2.1, fun i hi q => ?_⟩, ?_⟩
    · rw [e] at q
      dsimp only at q
      have : (List.replicate g.C.length (0 : Int)).getD i 0 = 0 := by simp [List.getD_eq_getElem?_getD, List.getElem?_replicate]; split <;> rfl
      omega
    · rw [e]; intro q; dsimp only at q; omega
  by_cases p1 : g.p = 1
  · have eS : g.stS s = s := stS_id (by omega)
    have e : g.stG s = Gcc.nx ⟨1, shd g.C (s.h.T.getD g.a.toNat 0), g.a⟩ s.h.T.length 2 := by rw [Gcc.stG, if_neg p0, if_pos p1]
    have eC : (g.stG s).C = shd g.C (s.h.T.getD g.a.toNat 0) := by rw [e]; unfold Gcc.nx; split <;> rfl
    rw [eS] at hok ⊢
    refine ⟨hok, fun _ => by rw [eC]; exact shd_holds (t.m (.inl p1)), ?_⟩
    rw [e]; unfold Gcc.nx; dsimp only; split
    · intro q; dsimp only at q; omega
    · intro q; dsimp only at q; omega
  by_cases p2 : g.p = 2
  · have eS : g.stS s = s := stS_id (by omega)
    have e : g.stG s = g.mark s := by rw [Gcc.stG, if_neg p0, if_neg p1, if_pos p2]
    have hm := t.m (.inr p2)
    rw [eS] at hok ⊢
    rw [e] at hok ⊢
    unfold Gcc.mark at hok ⊢
    split
    · rename_i hi
      obtain ⟨i, hil, ei, hg1⟩ : ∃ i : Nat, i < g.C.length ∧ idx g.C 1 = i ∧ g.C.getD i 0 = 1 := by
        rcases idx_cases g.C 1 with q | q
        · exact q
        · omega
      rw [if_pos hi] at hok
      refine ⟨hok, fun _ => ?_, fun q => ?_⟩
      · show colHolds s.h (blk s.h g.C (idx g.C 1).toNat)
        rw [ei, Int.toNat_natCast]
        exact blk_holds hm hil
      · dsimp only at q; omega
    · rename_i hi
      rw [if_neg hi] at hok
      have hno : (1 : Int) ∉ g.C := by
        rcases idx_cases g.C 1 with ⟨i, _, q, _⟩ | q
        · omega
        · exact q.2
      split
      · rename_i hw
        rw [if_pos hw] at hok
        refine ⟨hok, fun _ => shd_holds hm, fun q => ?_⟩
        dsimp only at q; omega
      · rename_i hw
        rw [if_neg hw] at hok
        have hroots : ∀ j, j < s.h.T.length → s.h.T.getD j 0 ≠ -1 → g.C.getD (s.h.T.getD j 0).toNat 0 ≠ 0 := by
          rcases wrt_cases s.h.T g.C with ⟨i, _, q, _⟩ | q
          · omega
          · exact q.2
        refine ⟨hok, fun q => ?_, fun _ c _ _ q r => ?_⟩
        · dsimp only at q; omega
        · exact (mark_all hm hno hroots c r).2 q
  have p3 : g.p = 3 := by omega
  have e : g.stG s = Gcc.nx ⟨3, g.C.set g.a.toNat 0, g.a⟩ g.C.length 0 := by rw [Gcc.stG, if_neg p0, if_neg p1, if_neg p2]
  refine ⟨hok, ?_, ?_⟩
  · rw [e]; unfold Gcc.nx; dsimp only; split
    · intro q; dsimp only at q; omega
    · intro q; dsimp only at q; omega
  · rw [e]; unfold Gcc.nx; dsimp only; split
    · intro q; dsimp only at q; omega
    · intro _ c hcl hac q r
      dsimp only at hac q
      rw [hl.1] at hcl
      rw [getD_set' (by omega), if_neg (by omega)] at q
      exact t.w p3 c hcl (by omega) q ((hR c).1 r)
theorem colHolds_keep {h h' : Hp} {C : List Int} (q : colHolds h C) (ho : h'.ok) (eL : h'.L = h.L) (eR : h'.R = h.R) : colHolds h' C := by
  refine ⟨ho, ⟨by rw [eL]; exact q.2.1.1, q.2.1.2⟩, ?_⟩
  rw [eL, eR]; exact q.2.2
theorem Bth.opOk.barOp {b : Bth} (h : b.opOk) (t : Bar b.s b.g) : Bar (b.op true).s (b.op true).g := by
  have hok := (h.G true).1
  have hp := (h.G true).2.1
  have haa := (h.G true).2.2.1
  have hS := h.S
  have hr := h.run
  show Bar b.opS (b.opG true)
  by_cases q : b.opE = 0
  case neg =>
    have e : b.opG true = b.g := by rw [Bth.opG, if_neg q]
    have eS : b.opS = b.s := run_end hr q
    rw [e, eS]; exact t
  have eG : b.opG true = b.col true := by rw [Bth.opG, if_pos q]
  have eS : b.opS = b.s.doS b.cur.1 b.cur.2.1 b.cur.2.2 := by rw [Bth.opS, Sto.runS, if_pos hr]
  refine ⟨hok, fun z => ?_, fun z => ?_⟩
  · rw [hp] at z
    have hm := t.m z
    rw [eG]
    by_cases k1 : b.cur.1 = 1
    · -- a new cell is black, and points nowhere
      obtain ⟨g1, e1, e2, c, m⟩ := h.newC q k1
      have hw := h.nwOk q k1
      have nt : ¬ (true = true ∧ b.opT ≠ -1) := fun w => by
        have := (h.tg w.2).1
        omega
      have ec : b.col true = b.g.new b.opS (b.opS.h.T.getD b.cur.2.1.toNat 0) := by rw [Bth.col, if_neg nt, Bth.nw, if_pos k1]
      have eL : b.opS.h.L = b.s.h.L ∧ b.opS.h.R = b.s.h.R := by rw [e1, Sto.alcS, if_pos g1]; exact ⟨rfl, rfl⟩
      have hf := h.1.1.1.mem m
      have enc : b.g.newC (b.opS.h.T.getD b.cur.2.1.toNat 0) = 2 := by unfold Gcc.newC; rw [if_pos (by omega)]
      rw [ec, Gcc.new, if_pos hw, enc, e2]
      show colHolds b.opS.h (b.g.C.set (b.s.F.getD 0 0).toNat 2)
      have hcl := hm.2.1.1
      have hLo := hm.1.2.1
      have hRo := hm.1.2.2.1
      have hRl : b.s.h.R.length = b.s.h.L.length := hm.1.1.2.2.1
      refine ⟨hS.1.1, ?_, fun i hi w => ?_⟩
      · rw [eL.1]; exact col_set hm.2.1 _ (by omega)
      · rw [List.length_set] at hi
        rw [eL.1, eL.2]
        have key : ∀ x : Int, -1 ≤ x ∧ x < b.s.h.L.length → (x ≠ -1 → b.g.C.getD x.toNat 0 ≠ 0) → x ≠ -1 → (b.g.C.set (b.s.F.getD 0 0).toNat 2).getD x.toNat 0 ≠ 0 := by
          intro x hx hy hn
          rw [getD_set' (by omega)]
          split
          · omega
          · exact hy hn
        rw [getD_set' hi] at w
        split at w
        · rename_i ei
          have f1 := hf.2.1
          have f2 := hf.2.2.1
          rw [ei] at f1 f2
          exact ⟨fun n => absurd f1 n, fun n => absurd f2 n⟩
        · have := hm.2.2 i hi w
          exact ⟨key _ (hLo i (by omega)) this.1, key _ (hRo i (by omega)) this.2⟩
    have enw : b.nw = b.g := by rw [Bth.nw, if_neg k1]
    by_cases kp : (b.cur.1 = 5 ∨ b.cur.1 = 6) ∧ b.s.h.T.getD b.cur.2.1.toNat 0 ≠ -1
    · -- a pointer is put: its target is shaded
      obtain ⟨k5, kn⟩ := kp
      obtain ⟨ho, ⟨⟨r1, r2⟩, a1, a2, a3, b1, b2⟩, hb⟩ := hr
      have hb2 : b.cur.2.2 < b.s.h.T.length := by rw [if_neg (by omega)] at hb; exact hb
      have et : b.opT = b.s.h.T.getD b.cur.2.2.toNat 0 := by unfold Bth.opT Sto.tgt; rw [if_pos ⟨h.run, k5, kn⟩]
      have hcl := hm.2.1.1
      have hLo := hm.1.2.1
      have hRo := hm.1.2.2.1
      have hTo := hm.1.2.2.2
      have hRl : b.s.h.R.length = b.s.h.L.length := hm.1.1.2.2.1
      have kc := hTo b.cur.2.1.toNat (by omega)
      have kt := hTo b.cur.2.2.toNat (by omega)
      have eC : (b.col true).C = shd b.g.C b.opT := by
        unfold Bth.col
        split
        · rename_i w
          rw [enw, Gcc.shade, if_pos (by have := h.shOk q w.2; rw [enw] at this; exact this)]
          dsimp only
          rw [if_pos z]
        · rename_i w
          have : b.opT = -1 := Decidable.byContradiction fun y => w ⟨rfl, y⟩
          rw [enw, this, shd, if_neg (by simp)]
      have eS2 : b.opS.h = (if b.cur.1 = 5 then ⟨b.s.h.L.set (b.s.h.T.getD b.cur.2.1.toNat 0).toNat (b.s.h.T.getD b.cur.2.2.toNat 0), b.s.h.R, b.s.h.T⟩ else ⟨b.s.h.L, b.s.h.R.set (b.s.h.T.getD b.cur.2.1.toNat 0).toNat (b.s.h.T.getD b.cur.2.2.toNat 0), b.s.h.T⟩) := by
        rw [eS, Sto.doS, if_neg k1, if_neg (by omega), if_neg (by omega), if_neg (by omega), if_neg kn]
        split <;> rfl
      have hsh := shd_holds (c := b.opT) hm
      rw [eC]
      have tz : b.opT ≠ -1 → (shd b.g.C b.opT).getD b.opT.toNat 0 ≠ 0 := by
        intro y
        rw [shd_getD (by rw [et] at y ⊢; omega)]
        split
        · omega
        · rename_i w; intro v; exact w ⟨y, rfl, v⟩
      refine ⟨hS.1.1, ?_, fun i hi w => ?_⟩
      · rw [hS.2.1]; exact hsh.2.1
      · rw [shd_len] at hi
        have := hsh.2.2 i (by rw [shd_len]; exact hi) w
        rw [eS2]
        split
        · refine ⟨?_, this.2⟩
          dsimp only
          rw [getD_set' (by omega)]
          split
          · rw [← et]; exact tz
          · exact this.1
        · refine ⟨this.1, ?_⟩
          dsimp only
          rw [getD_set' (by omega)]
          split
          · rw [← et]; exact tz
          · exact this.2
    · -- pointers stay
      have nt : ¬ (true = true ∧ b.opT ≠ -1) := fun w => by
        have := h.tg w.2
        exact kp ⟨this.1, this.2.1⟩
      have ec : b.col true = b.g := by rw [Bth.col, if_neg nt, enw]
      have eL : b.opS.h.L = b.s.h.L ∧ b.opS.h.R = b.s.h.R := by
        rw [eS, Sto.doS, if_neg k1]
        split
        · exact ⟨rfl, rfl⟩
        split
        · exact ⟨rfl, rfl⟩
        split
        · split <;> exact ⟨rfl, rfl⟩
        rename_i c2 c7 c34
        have k56 : b.cur.1 = 5 ∨ b.cur.1 = 6 := by have := hr.2.1.1; omega
        rw [if_pos (Decidable.byContradiction fun y => kp ⟨k56, y⟩)]
        exact ⟨rfl, rfl⟩
      rw [ec]
      exact colHolds_keep hm hS.1.1 eL.1 eL.2
  · rw [hp] at z
    intro c hcl hac hc0 r
    rw [haa] at hac
    rw [hS.2.1] at hcl
    have hlc := h.1.1.2.1.1
    rw [eS] at r
    have c1 : b.nw.C.getD c 0 = 0 := by
      rw [eG] at hc0
      unfold Bth.col at hc0
      split at hc0
      · rename_i w
        rw [Gcc.shade, if_pos (h.shOk q w.2)] at hc0
        dsimp only at hc0
        rw [if_neg (by rw [(h.nw q).2.1]; omega)] at hc0
        exact hc0
      · exact hc0
    rcases do_reach hr r with y | ⟨k1, g1, ec⟩
    · have c2 : b.g.C.getD c 0 = 0 := by
        unfold Bth.nw at c1
        split at c1
        · rename_i k1
          obtain ⟨_, _, e2, _, m⟩ := h.newC q k1
          by_cases ej : (c : Int) = b.s.F.getD 0 0
          · exfalso
            have hf := h.1.1.1.mem m
            have := fr_noreach h.1.1.1.1 hf
            rw [← ej, Int.toNat_natCast] at this
            exact this y
          · rw [(new_law (h.nwOk q k1)).1 c (by omega) (by rw [e2]; exact ej)] at c1
            exact c1
        · exact c1
      exact t.w z c hcl hac c2 y
    · obtain ⟨_, _, e2, cb, m⟩ := h.newC q k1
      have hw := h.nwOk q k1
      unfold Bth.nw at c1
      rw [if_pos k1, Gcc.new, if_pos hw, e2] at c1
      dsimp only at c1
      rw [getD_set' (by omega), if_pos (by omega)] at c1
      unfold Gcc.newC at c1
      rw [if_pos (by omega)] at c1
      omega
theorem Bth.bar_gcs {b : Bth} (t : Bar b.s b.g) : b.gcs = ⟨b.g.stS b.s, b.g.stG b.s, b.o, b.a, b.l⟩ := by
  unfold Bth.gcs; rw [if_neg t.sw]
theorem Bth.bar_one {b : Bth} (t : Bar b.s b.g) (hl : b.l = false) (c : Bool) : Bar (b.one true c).s (b.one true c).g ∧ (b.one true c).l = false := by
  unfold Bth.one
  split
  · split
    · rename_i q; exact ⟨q.barOp t, hl⟩
    · exact ⟨t, hl⟩
  · split
    · rw [Bth.bar_gcs t]; exact ⟨t.stepG, hl⟩
    · exact ⟨t, hl⟩
theorem Bth.bar_run : ∀ (x : List Bool) {b : Bth}, Bar b.s b.g → b.l = false → Bar (Bth.run true x b).s (Bth.run true x b).g ∧ (Bth.run true x b).l = false
  | [], b, t, h => ⟨t, h⟩
  | c :: x, b, t, h => Bth.bar_run x (Bth.bar_one t h c).1 (Bth.bar_one t h c).2
/-! To the end -/
def Bth.ops (bar : Bool) : Nat → Bth → Bth
  | 0, b => b
  | k + 1, b => if b.opOk then Bth.ops bar k (b.op bar) else b
noncomputable def Bth.gcn : Nat → Nat → Bth → Bth
  | 0, _, b => b
  | k + 1, i, b => if i < 2 ∧ b.gcOk then Bth.gcn k (if b.gcs.l = false ∧ b.gcs.g.p = 0 then i + 1 else i) b.gcs else b
noncomputable def Bth.fin (b : Bth) (bar : Bool) : Bth := Bth.gcn 128 0 (Bth.ops bar 16 b)
noncomputable def Bth.sfin (b : Bth) (bar : Bool) : Bth := if b.ok then b.fin bar else .zero
theorem gcs_mu {b : Bth} (h : b.gcOk) (hl : b.gcs.l = false) (q : b.gcs.g.p ≠ 0) : b.gcs.g.mu b.gcs.s.h.T.length < b.g.mu b.s.h.T.length := by
  unfold Bth.gcs at hl q ⊢
  split at hl
  · cases hl
  · rename_i z
    rw [if_neg z] at q ⊢
    dsimp only
    rw [stS_T]
    exact mu_step h.1.1 q
/-! Operations alone -/
end Go.Proofs.YtbobhbhgomkgpaaGreatDoor.S

/- Plain laws of the common model: the texts of heaps, stores and collectors. Own work of this claim; no program in sight. -/
namespace Go.Proofs.YtbobhbhgomkgpaaGreatDoor.S
set_option linter.all false

/-- A text out of its bytes. -/
def bs (l : List UInt8) : ByteArray := ⟨l.toArray⟩
theorem bs_app (a b : List UInt8) : bs a ++ bs b = bs (a ++ b) := by
  apply ByteArray.ext
  simp [bs]
theorem bs_size (l : List UInt8) : (bs l).size = l.length := rfl
theorem bs_inj {a b : List UInt8} (h : bs a = bs b) : a = b := by
  have := congrArg (fun x => x.data.toList) h
  simpa [bs] using this
/-- Decimal digits of a number below 100. -/
def dg (n : Nat) : List UInt8 := if n < 10 then [UInt8.ofNat (48 + n)] else [UInt8.ofNat (48 + n / 10), UInt8.ofNat (48 + n % 10)]
def sgn (p : Int) : List UInt8 := if p = -1 then [45] else dg p.toNat
def txC (L R : List Int) : List UInt8 := (L.zip R).flatMap fun p => sgn p.1 ++ sgn p.2 ++ [32]
def txR (T : List Int) : List UInt8 := T.flatMap fun p => 32 :: sgn p
def txH (h : Hp) : List UInt8 := txC h.L h.R ++ [47] ++ txR h.T
def txF (F : List Int) : List UInt8 := F.flatMap fun p => 32 :: dg p.toNat
def txS (s : Sto) : List UInt8 := txH s.h ++ [32, 102, 114, 101, 101] ++ txF s.F
def word (p : Int) : List UInt8 := if p = 0 then [105, 100, 108, 101] else if p = 1 then [114, 111, 111, 116, 115] else if p = 2 then [109, 97, 114, 107] else [115, 119, 101, 101, 112]
def sign (k : Int) : UInt8 := if k = 0 then 119 else if k = 1 then 103 else 98
def txB (b : Bth) : List UInt8 := txS b.s ++ [32] ++ word b.g.p ++ [32] ++ dg b.g.a.toNat ++ [32] ++ b.g.C.map sign ++ [32, 97, 116, 32] ++ dg b.a.toNat ++ (if b.l then [32, 108, 111, 115, 116] else [])
def Sto.text (s : Sto) : List UInt8 := if s.ok then txS s else []
def Hp.text (h : Hp) : List UInt8 := if h.ok then txH h else []
def Bth.text (b : Bth) : List UInt8 := if b.ok then txB b else []
theorem dg_len (n : Nat) : 1 ≤ (dg n).length ∧ (dg n).length ≤ 2 := by unfold dg; split <;> simp
theorem dg_one {n : Nat} (h : n < 10) : dg n = [UInt8.ofNat (48 + n)] := by unfold dg; rw [if_pos h]
theorem u8_inj {a b : Nat} (ha : a < 200) (hb : b < 200) (h : UInt8.ofNat (48 + a) = UInt8.ofNat (48 + b)) : a = b := by
  have := congrArg UInt8.toNat h
  simp only [UInt8.toNat_ofNat'] at this
  omega
/-- Signs of pointers are told apart, and from a slash. -/
theorem sgn_c {p : Int} {n : Nat} (hn : n ≤ 8) (h : -1 ≤ p ∧ p < n) : ∃ c : UInt8, sgn p = [c] ∧ (c.toNat = 45 ∧ p = -1 ∨ c.toNat = 48 + p.toNat ∧ 0 ≤ p) := by
  unfold sgn
  split
  · rename_i e; exact ⟨45, rfl, .inl ⟨rfl, e⟩⟩
  · rw [dg_one (by omega)]
    refine ⟨_, rfl, .inr ⟨?_, by omega⟩⟩
    rw [UInt8.toNat_ofNat']; omega
theorem sgn_inj {p q : Int} {n m : Nat} (hn : n ≤ 8) (hm : m ≤ 8) (h : -1 ≤ p ∧ p < n) (h' : -1 ≤ q ∧ q < m) {a b : List UInt8} (e : sgn p ++ a = sgn q ++ b) : p = q ∧ a = b := by
  obtain ⟨c, e1, k1⟩ := sgn_c hn h
  obtain ⟨d, e2, k2⟩ := sgn_c hm h'
  rw [e1, e2] at e
  simp only [List.cons_append, List.nil_append, List.cons.injEq] at e
  obtain ⟨rfl, rfl⟩ := e
  exact ⟨by omega, rfl⟩
theorem txC_inj {n m : Nat} (hn : n ≤ 8) (hm : m ≤ 8) : ∀ (L R L' R' : List Int) (x y : List UInt8), L.length = R.length → L'.length = R'.length →
    (∀ p, p ∈ L → -1 ≤ p ∧ p < n) → (∀ p, p ∈ R → -1 ≤ p ∧ p < n) → (∀ p, p ∈ L' → -1 ≤ p ∧ p < m) → (∀ p, p ∈ R' → -1 ≤ p ∧ p < m) → txC L R ++ 47 :: x = txC L' R' ++ 47 :: y → L = L' ∧ R = R' ∧ x = y
  | [], [], [], [], x, y, _, _, _, _, _, _, e => by
    simp [txC] at e; exact ⟨rfl, rfl, e⟩
  | [], [], p :: L', q :: R', x, y, _, _, _, _, h3, _, e => by
    exfalso
    obtain ⟨c, e1, k1⟩ := sgn_c hm (h3 p (by simp))
    simp [txC, e1] at e
    have := e.1
    subst this
    rcases k1 with k | k
    · have := k.1; simp at this
    · have := k.1; simp at this; omega
  | p :: L, q :: R, [], [], x, y, _, _, h1, _, _, _, e => by
    exfalso
    obtain ⟨c, e1, k1⟩ := sgn_c hn (h1 p (by simp))
    simp [txC, e1] at e
    have := e.1
    subst this
    rcases k1 with k | k
    · have := k.1; simp at this
    · have := k.1; simp at this; omega
  | p :: L, q :: R, p' :: L', q' :: R', x, y, l1, l2, h1, h2, h3, h4, e => by
    simp only [txC, List.zip_cons_cons, List.flatMap_cons, List.append_assoc] at e
    obtain ⟨ep, e1⟩ := sgn_inj hn hm (h1 p (by simp)) (h3 p' (by simp)) e
    obtain ⟨eq, e2⟩ := sgn_inj hn hm (h2 q (by simp)) (h4 q' (by simp)) e1
    clear e e1
    have e := e2
    clear e2
    subst ep eq
    simp only [List.cons_append, List.nil_append, List.cons.injEq, true_and] at e
    have e : txC L R ++ 47 :: x = txC L' R' ++ 47 :: y := by unfold txC; simp only [List.append_assoc, List.cons_append, List.nil_append]; exact e
    have ih := txC_inj hn hm L R L' R' x y (by simpa using l1) (by simpa using l2) (fun z hz => h1 z (by simp [hz])) (fun z hz => h2 z (by simp [hz])) (fun z hz => h3 z (by simp [hz])) (fun z hz => h4 z (by simp [hz])) e
    exact ⟨by rw [ih.1], by rw [ih.2.1], ih.2.2⟩
theorem txR_inj {n m : Nat} (hn : n ≤ 8) (hm : m ≤ 8) : ∀ (T T' : List Int) (x y : List UInt8), (∀ p, p ∈ T → -1 ≤ p ∧ p < n) → (∀ p, p ∈ T' → -1 ≤ p ∧ p < m) → txR T ++ 32 :: 102 :: x = txR T' ++ 32 :: 102 :: y → T = T' ∧ x = y
  | [], [], x, y, _, _, e => by simp [txR] at e; exact ⟨rfl, e⟩
  | [], p :: T', x, y, _, h, e => by
    exfalso
    obtain ⟨c, e1, k1⟩ := sgn_c hm (h p (by simp))
    have hb := h p (by simp)
    simp [txR, e1] at e
    have := e.1
    subst this
    rcases k1 with k | k
    · have := k.1; simp at this
    · have := k.1; simp at this; omega
  | p :: T, [], x, y, h, _, e => by
    exfalso
    obtain ⟨c, e1, k1⟩ := sgn_c hn (h p (by simp))
    have hb := h p (by simp)
    simp [txR, e1] at e
    have := e.1
    subst this
    rcases k1 with k | k
    · have := k.1; simp at this
    · have := k.1; simp at this; omega
  | p :: T, q :: T', x, y, h, h', e => by
    simp only [txR, List.flatMap_cons, List.cons_append, List.append_assoc, List.cons.injEq, true_and] at e
    obtain ⟨ep, e1⟩ := sgn_inj hn hm (h p (by simp)) (h' q (by simp)) e
    have ih := txR_inj hn hm T T' x y (fun z hz => h z (by simp [hz])) (fun z hz => h' z (by simp [hz])) e1
    exact ⟨by rw [ih.1, ep], ih.2⟩
/-- A digit, and what is behind it. -/
theorem dg_inj {p q : Nat} (hp : p < 10) (hq : q < 10) {a b : List UInt8} (e : dg p ++ a = dg q ++ b) : p = q ∧ a = b := by
  rw [dg_one hp, dg_one hq] at e
  simp only [List.cons_append, List.nil_append, List.cons.injEq] at e
  exact ⟨u8_inj (by omega) (by omega) e.1, e.2⟩
/-- Free cells, ended by a space and a letter. -/
theorem txF_inj : ∀ (F F' : List Int) (c d : UInt8) (x y : List UInt8), (∀ p, p ∈ F → 0 ≤ p ∧ p < 8) → (∀ p, p ∈ F' → 0 ≤ p ∧ p < 8) → 97 ≤ c.toNat → 97 ≤ d.toNat → txF F ++ 32 :: c :: x = txF F' ++ 32 :: d :: y → F = F' ∧ c = d ∧ x = y
  | [], [], c, d, x, y, _, _, _, _, e => by simp [txF] at e; exact ⟨rfl, e⟩
  | [], p :: F', c, d, x, y, _, h, hc, _, e => by
    exfalso
    have hb := h p (by simp)
    simp only [txF, List.flatMap_cons, List.flatMap_nil, List.nil_append, List.cons_append, List.append_assoc, List.cons.injEq, true_and, dg_one (show p.toNat < 10 by omega)] at e
    rw [e.1, UInt8.toNat_ofNat'] at hc
    omega
  | p :: F, [], c, d, x, y, h, _, _, hd, e => by
    exfalso
    have hb := h p (by simp)
    simp only [txF, List.flatMap_cons, List.flatMap_nil, List.nil_append, List.cons_append, List.append_assoc, List.cons.injEq, true_and, dg_one (show p.toNat < 10 by omega)] at e
    rw [← e.1, UInt8.toNat_ofNat'] at hd
    omega
  | p :: F, q :: F', c, d, x, y, h, h', hc, hd, e => by
    have b1 := h p (by simp)
    have b2 := h' q (by simp)
    simp only [txF, List.flatMap_cons, List.cons_append, List.append_assoc, List.cons.injEq, true_and] at e
    obtain ⟨e1, e⟩ := dg_inj (by omega) (by omega) e
    have ih := txF_inj F F' c d x y (fun z hz => h z (by simp [hz])) (fun z hz => h' z (by simp [hz])) hc hd e
    exact ⟨by rw [ih.1, show p = q by omega], ih.2⟩
theorem col_inj : ∀ (C D : List Int) (x y : List UInt8), (∀ k, k ∈ C → 0 ≤ k ∧ k ≤ 2) → (∀ k, k ∈ D → 0 ≤ k ∧ k ≤ 2) → C.map sign ++ 32 :: x = D.map sign ++ 32 :: y → C = D ∧ x = y
  | [], [], x, y, _, _, e => by simp at e; exact ⟨rfl, e⟩
  | [], k :: D, x, y, _, _, e => by
    exfalso
    simp at e
    have := e.1
    unfold sign at this
    split at this
    · simp at this
    · split at this <;> simp at this
  | k :: C, [], x, y, _, _, e => by
    exfalso
    simp at e
    have := e.1
    unfold sign at this
    split at this
    · simp at this
    · split at this <;> simp at this
  | k :: C, j :: D, x, y, h, h', e => by
    have b1 := h k (by simp)
    have b2 := h' j (by simp)
    simp only [List.map_cons, List.cons_append, List.cons.injEq] at e
    have ih := col_inj C D x y (fun z hz => h z (by simp [hz])) (fun z hz => h' z (by simp [hz])) e.2
    have : k = j := by
      have := e.1
      unfold sign at this
      by_cases k0 : k = 0 <;> by_cases j0 : j = 0 <;> by_cases k1 : k = 1 <;> by_cases j1 : j = 1 <;> simp [k0, j0, k1, j1] at this <;> omega
    exact ⟨by rw [ih.1, this], ih.2⟩
/-- A number below 100, ended by nothing or by a space. -/
theorem dg_end {p q : Nat} (hp : p < 100) (hq : q < 100) {a b : Bool} (e : dg p ++ (if a then [32, 108, 111, 115, 116] else []) = dg q ++ (if b then [32, 108, 111, 115, 116] else [])) : p = q ∧ a = b := by
  unfold dg at e
  have nd : ∀ k : Nat, k < 100 → ¬ UInt8.ofNat (48 + k) = 32 := fun k hk z => by
    have := congrArg UInt8.toNat z
    rw [UInt8.toNat_ofNat'] at this
    have e32 : (32 : UInt8).toNat = 32 := rfl
    rw [e32] at this
    omega
  have nd2 : ∀ k : Nat, k < 100 → ¬ 32 = UInt8.ofNat (48 + k) := fun k hk z => nd k hk z.symm
  by_cases p1 : p < 10 <;> by_cases q1 : q < 10 <;> cases a <;> cases b <;>
    simp only [p1, q1, if_true, if_false, Bool.false_eq_true, List.append_nil, List.cons_append, List.nil_append, List.cons.injEq, and_true, true_and, and_false, reduceCtorEq] at e
  all_goals first
    | exact ⟨u8_inj (by omega) (by omega) e, rfl⟩
    | exact absurd e.2.1 (nd _ (by omega))
    | exact absurd e.2.1 (nd2 _ (by omega))
    | (have h1 := u8_inj (by omega) (by omega) e.1
       have h2 := u8_inj (by omega) (by omega) e.2
       exact ⟨by omega, rfl⟩)
    | exact absurd e.2 (by simp)
theorem mem_okP {l : List Int} {n : Nat} (h : okP l n) : ∀ p, p ∈ l → -1 ≤ p ∧ p < n := fun p hp => okP_mem h hp
theorem word_inj {p q : Int} (hp : p = 0 ∨ p = 1 ∨ p = 2 ∨ p = 3) (hq : q = 0 ∨ q = 1 ∨ q = 2 ∨ q = 3) {a b : List UInt8} (e : word p ++ 32 :: a = word q ++ 32 :: b) : p = q ∧ a = b := by
  rcases hp with rfl | rfl | rfl | rfl <;> rcases hq with rfl | rfl | rfl | rfl <;> simp [word] at e <;> exact ⟨rfl, e⟩
theorem word_inj' {p q : Int} (hp : p = 0 ∨ p = 1 ∨ p = 2 ∨ p = 3) (hq : q = 0 ∨ q = 1 ∨ q = 2 ∨ q = 3) {d : UInt8} {r r' a b : List UInt8} (ed : word p = d :: r) (ed' : word q = d :: r') (e : r ++ 32 :: a = r' ++ 32 :: b) : p = q ∧ a = b :=
  word_inj hp hq (by rw [ed, ed', List.cons_append, List.cons_append, e])
theorem gph {g : Gcc} {s : Sto} (h : g.atOk s) : g.p = 0 ∨ g.p = 1 ∨ g.p = 2 ∨ g.p = 3 := by unfold Gcc.atOk at h; omega
/-- A text tells all but the operations. -/
theorem txB_inj {b c : Bth} (h : b.ok) (h' : c.ok) (e : txB b = txB c) : b.s = c.s ∧ b.g = c.g ∧ b.a = c.a ∧ b.l = c.l := by
  obtain ⟨⟨⟨⟨⟨l1, l2, l3, l4, l5⟩, oL, oR, oT⟩, hF⟩, hC, hA⟩, hO, a1, a2⟩ := h
  obtain ⟨⟨⟨⟨⟨m1, m2, m3, m4, m5⟩, pL, pR, pT⟩, hF'⟩, hC', hA'⟩, hO', c1, c2⟩ := h'
  have sF : ∀ p, p ∈ b.s.F → 0 ≤ p ∧ p < 8 := fun p hp => by
    obtain ⟨i, hi, e⟩ := mem_getD hp
    have := (hF i hi).1.1
    omega
  have sF' : ∀ p, p ∈ c.s.F → 0 ≤ p ∧ p < 8 := fun p hp => by
    obtain ⟨i, hi, e⟩ := mem_getD hp
    have := (hF' i hi).1.1
    omega
  have w1 := gph hA
  have w2 := gph hA'
  have hw : ∀ (p : Int), (p = 0 ∨ p = 1 ∨ p = 2 ∨ p = 3) → ∃ (d : UInt8) (r : List UInt8), word p = d :: r ∧ 97 ≤ d.toNat := by
    intro p hp
    rcases hp with rfl | rfl | rfl | rfl
    · exact ⟨105, _, rfl, by decide⟩
    · exact ⟨114, _, rfl, by decide⟩
    · exact ⟨109, _, rfl, by decide⟩
    · exact ⟨115, _, rfl, by decide⟩
  unfold txB txS txH at e
  simp only [List.append_assoc, List.cons_append, List.nil_append] at e
  obtain ⟨eL, eR, e⟩ := txC_inj l2 m2 _ _ _ _ _ _ l3.symm m3.symm (mem_okP oL) (mem_okP oR) (mem_okP pL) (mem_okP pR) e
  obtain ⟨eT, e⟩ := txR_inj l2 m2 _ _ _ _ (mem_okP oT) (mem_okP pT) e
  simp only [List.cons.injEq, true_and] at e
  obtain ⟨d, r, ed, hd⟩ := hw _ w1
  obtain ⟨d', r', ed', hd'⟩ := hw _ w2
  rw [ed, ed'] at e
  simp only [List.cons_append] at e
  obtain ⟨eF, e1, e5⟩ := txF_inj _ _ d d' _ _ sF sF' hd hd' e
  subst e1
  clear e
  obtain ⟨ep, e⟩ := word_inj' w1 w2 ed ed' e5
  clear e5
  have ha : 0 ≤ b.g.a ∧ b.g.a < 10 := by unfold Gcc.atOk at hA; omega
  have ha' : 0 ≤ c.g.a ∧ c.g.a < 10 := by unfold Gcc.atOk at hA'; omega
  obtain ⟨ea, e⟩ := dg_inj (by omega) (by omega) e
  simp only [List.cons.injEq, true_and] at e
  have hcm : ∀ k, k ∈ b.g.C → 0 ≤ k ∧ k ≤ 2 := fun k hk => by
    obtain ⟨i, hi, e⟩ := mem_getD hk
    have := hC.2 i hi; omega
  have hcm' : ∀ k, k ∈ c.g.C → 0 ≤ k ∧ k ≤ 2 := fun k hk => by
    obtain ⟨i, hi, e⟩ := mem_getD hk
    have := hC'.2 i hi; omega
  obtain ⟨eC, e⟩ := col_inj _ _ _ _ hcm hcm' e
  simp only [List.cons.injEq, true_and] at e
  have o1 := hO.1
  have o2 := hO'.1
  obtain ⟨eA, el⟩ := dg_end (by omega) (by omega) e
  refine ⟨?_, ?_, by omega, el⟩
  · obtain ⟨⟨⟨L, R, T⟩, F⟩, g, o, a, l⟩ := b
    obtain ⟨⟨⟨L', R', T'⟩, F'⟩, g', o', a', l'⟩ := c
    dsimp only at *
    rw [eL, eR, eT, eF]
  · obtain ⟨s, ⟨p, C, a⟩, o, A, l⟩ := b
    obtain ⟨s', ⟨p', C', a'⟩, o', A', l'⟩ := c
    dsimp only at *
    rw [ep, eC, show a = a' by omega]
theorem txF_len : ∀ (F : List Int), (∀ p, p ∈ F → 0 ≤ p ∧ p < 8) → (txF F).length = 2 * F.length
  | [], _ => rfl
  | p :: F, h => by
    have := txF_len F fun z hz => h z (by simp [hz])
    have hb := h p (by simp)
    simp only [txF, List.flatMap_cons, List.length_append, List.length_cons, dg_one (show p.toNat < 10 by omega)] at this ⊢
    simp only [List.length_nil]; omega
end Go.Proofs.YtbobhbhgomkgpaaGreatDoor.S

/- Plain laws of the common model: schedules as texts, drawn programs. Own work of this claim; no program in sight. -/
namespace Go.Proofs.YtbobhbhgomkgpaaGreatDoor.S
set_option linter.all false

/-- A schedule's text: 'o' an operation, 'g' a step of the collector. -/
def sch (l : List Bool) : ByteArray := bs (l.map fun c => if c then 111 else 103)
theorem sch_size (l : List Bool) : (sch l).size = l.length := by rw [sch, bs_size, List.length_map]
theorem sch_at (l : List Bool) (i : Nat) (h : i < l.length) : (((sch l).data.getD i 0).toNat : Int) = if l.getD i false then 111 else 103 := by
  unfold sch bs
  rw [Array.getD_eq_getD_getElem?]
  simp only [List.getElem?_toArray, List.getElem?_map, List.getD_eq_getElem?_getD]
  rw [List.getElem?_eq_getElem h]
  cases l[i] <;> simp
theorem sch_snoc (l : List Bool) (c : Bool) : sch l ++ bs [if c then 111 else 103] = sch (l ++ [c]) := by
  rw [sch, bs_app, sch, List.map_append]; rfl
theorem opsV_mem {l : List (Int × Int × Int)} {n : Nat} (hl : l.length ≤ 12) (h : ∀ o ∈ l, opOk o.1 o.2.1 o.2.2 n) : opsV l n := by
  refine ⟨hl, fun j hj => ?_⟩
  have : opAt l j ∈ l := by
    unfold opAt
    rw [List.getD_eq_getElem?_getD, List.getElem?_eq_getElem hj]
    exact List.getElem_mem hj
  exact h _ this
theorem Bth.ok.c1 {b : Bth} (h : b.ok) : 1 ≤ b.g.C.length := by
  have h1 := h.1.2.1.1
  have h2 := h.1.1.1.1
  omega
end Go.Proofs.YtbobhbhgomkgpaaGreatDoor.S

/- Plain laws of the common model: what the texts of stores and of both begin and end with. Own work of this claim; no program in sight. -/
namespace Go.Proofs.YtbobhbhgomkgpaaGreatDoor.S
set_option linter.all false

theorem bs_extract (l : List UInt8) (a b : Nat) : (bs l).extract a b = bs ((l.drop a).take (b - a)) := by
  apply ByteArray.ext
  rw [ByteArray.data_extract]
  unfold bs
  simp
theorem free_in {s : Sto} (h : s.ok) : ∀ p, p ∈ s.F → 0 ≤ p ∧ p < 8 := by
  intro p hp
  obtain ⟨j, hj, e⟩ := mem_getD hp
  have h1 := (h.2 j hj).1.1
  have h2 := h.1.1
  omega
theorem txS_size {s : Sto} (h : s.ok) : (txS s).length = (txH s.h).length + 5 + 2 * s.F.length := by
  unfold txS
  rw [List.length_append, List.length_append, txF_len s.F (free_in h)]
  rfl
theorem sgn_len (p : Int) : 1 ≤ (sgn p).length ∧ (sgn p).length ≤ 2 := by
  unfold sgn; split
  · exact ⟨Nat.le_refl _, by decide⟩
  · exact dg_len _
theorem getD_take_snoc {l : List Int} {i : Nat} (h : i < l.length) : l.take (i + 1) = l.take i ++ [l.getD i 0] := by
  rw [List.take_add_one, List.getElem?_eq_getElem h, List.getD_eq_getElem?_getD, List.getElem?_eq_getElem h]; rfl
theorem txC_step {L R : List Int} {i : Nat} (h : i < L.length) (h' : i < R.length) : txC (L.take (i + 1)) (R.take (i + 1)) = txC (L.take i) (R.take i) ++ (sgn (L.getD i 0) ++ sgn (R.getD i 0) ++ [32]) := by
  rw [getD_take_snoc h, getD_take_snoc h']
  unfold txC
  rw [List.zip_append (by rw [List.length_take, List.length_take]; omega), List.flatMap_append]
  simp
theorem txR_step {T : List Int} {i : Nat} (h : i < T.length) : txR (T.take (i + 1)) = txR (T.take i) ++ (32 :: sgn (T.getD i 0)) := by
  rw [getD_take_snoc h]
  simp [txR]
theorem txF_step {T : List Int} {i : Nat} (h : i < T.length) : txF (T.take (i + 1)) = txF (T.take i) ++ (32 :: dg (T.getD i 0).toNat) := by
  rw [getD_take_snoc h]
  simp [txF]
theorem txC_len : ∀ (L R : List Int), (txC L R).length ≤ 5 * L.length
  | [], R => by simp [txC]
  | p :: L, [] => by simp [txC]
  | p :: L, q :: R => by
    have ih := txC_len L R
    have h1 := sgn_len p
    have h2 := sgn_len q
    unfold txC at ih ⊢
    simp only [List.zip_cons_cons, List.flatMap_cons, List.length_append, List.length_cons, List.length_nil]
    omega
theorem txR_len : ∀ (T : List Int), (txR T).length ≤ 3 * T.length
  | [] => by simp [txR]
  | p :: T => by
    have ih := txR_len T
    have h1 := sgn_len p
    unfold txR at ih ⊢
    simp only [List.flatMap_cons, List.length_append, List.length_cons]
    omega
theorem txH_len (h : Hp) : (txH h).length ≤ 5 * h.L.length + 1 + 3 * h.T.length := by
  have h1 := txC_len h.L h.R
  have h2 := txR_len h.T
  unfold txH
  rw [List.length_append, List.length_append, List.length_singleton]
  omega
theorem cell_in {l : List Int} {n i : Nat} (h : okP l n) (hi : i < l.length) : -1 ≤ l.getD i 0 ∧ l.getD i 0 < n := by have := okP_get h hi; omega
end Go.Proofs.YtbobhbhgomkgpaaGreatDoor.S

/- Plain laws of the common model: how a pair is finished. Own work of this claim; no program in sight. -/
namespace Go.Proofs.YtbobhbhgomkgpaaGreatDoor.S
set_option linter.all false

def Bth.left (b : Bth) (i : Nat) : Nat := (2 - i) * 41 + b.g.mu b.s.h.T.length
theorem mu_bd {b : Bth} (h : b.ok) : b.g.mu b.s.h.T.length ≤ 40 := by
  have h2 := mu_le h.1
  have h3 := h.1.1.1.1
  omega
end Go.Proofs.YtbobhbhgomkgpaaGreatDoor.S

/- Plain laws: when a text cut on both sides is empty. Own work of this claim; no program in sight. -/
namespace Go.Proofs.YtbobhbhgomkgpaaGreatDoor.S
set_option linter.all false

end Go.Proofs.YtbobhbhgomkgpaaGreatDoor.S

/- Plain laws of the common model: all values to which a program and a collector can come. Own work of this claim; no program in sight. -/
namespace Go.Proofs.YtbobhbhgomkgpaaGreatDoor.S
set_option linter.all false

abbrev Way := Bth × List Bool
/-- What a value leads to: by an operation (true), by a step of the collector (false). -/
noncomputable def Bth.nx (bar c : Bool) (b : Bth) : Option Bth := if c then (if b.opOk then some (b.op bar) else none) else (if b.gcOk then some b.gcs else none)
open Classical in
noncomputable def gro (bar : Bool) (x : Way) (c : Bool) (l : List Way) : List Way := match x.1.nx bar c with
  | none => l
  | some y => if y ∈ l.map Prod.fst then l else l ++ [(y, x.2 ++ [c])]
noncomputable def rnd (bar : Bool) (l : List Way) (i : Nat) : List Way := match l[i]? with
  | none => l
  | some x => gro bar x true (gro bar x false l)
noncomputable def comesN (bar : Bool) : Nat → List Way → Nat → Option (List Way)
  | 0, _, _ => none
  | k + 1, l, i => if i < l.length then (if 400 < (rnd bar l i).length then none else comesN bar k (rnd bar l i) (i + 1)) else some l
noncomputable def Bth.all (bar : Bool) (b : Bth) : Option (List Way) := if b.ok then comesN bar 401 [(b, [])] 0 else none
inductive Rch (bar : Bool) (b : Bth) : Bth → Prop
  | refl : Rch bar b b
  | step {x y : Bth} (h : Rch bar b x) (c : Bool) (e : x.nx bar c = some y) : Rch bar b y

theorem nx_one {bar c : Bool} {b y : Bth} (e : b.nx bar c = some y) : b.one bar c = y := by
  unfold Bth.nx at e
  unfold Bth.one
  cases c
  · rw [if_neg (by simp)] at e ⊢
    split at e
    · rename_i q; rw [if_pos q]; cases e; rfl
    · cases e
  · rw [if_pos rfl] at e ⊢
    split at e
    · rename_i q; rw [if_pos q]; cases e; rfl
    · cases e
theorem nx_from {bar c : Bool} {b y : Bth} (e : b.nx bar c = some y) : b.ok ∧ b.l = false := by
  unfold Bth.nx at e
  cases c
  · rw [if_neg (by simp)] at e
    split at e
    · rename_i q; exact q
    · cases e
  · rw [if_pos rfl] at e
    split at e
    · rename_i q; exact ⟨q.1, q.2.1⟩
    · cases e
theorem nx_ok {bar c : Bool} {b y : Bth} (e : b.nx bar c = some y) : y.ok := by
  rw [← nx_one e]; exact Bth.one_ok (nx_from e).1 bar c
theorem gcs_oa (b : Bth) : b.gcs.o = b.o ∧ b.gcs.a = b.a := by unfold Bth.gcs; split <;> exact ⟨rfl, rfl⟩
theorem nx_oa {bar c : Bool} {b y : Bth} (e : b.nx bar c = some y) : y.o = b.o ∧ y.a = b.a + (if c then 1 else 0) := by
  unfold Bth.nx at e
  cases c
  · rw [if_neg (by simp)] at e
    split at e
    · cases e; rw [if_neg (by simp)]; exact ⟨(gcs_oa b).1, by rw [(gcs_oa b).2]; omega⟩
    · cases e
  · rw [if_pos rfl] at e
    split at e
    · cases e; exact ⟨rfl, rfl⟩
    · cases e
theorem Rch.ok {bar : Bool} {b x : Bth} (hb : b.ok) (h : Rch bar b x) : x.ok := by
  cases h with
  | refl => exact hb
  | step h c e => exact nx_ok e
theorem Rch.trans {bar : Bool} {b x y : Bth} (h : Rch bar b x) (k : Rch bar x y) : Rch bar b y := by
  induction k with
  | refl => exact h
  | step _ c e ih => exact .step ih c e
theorem Rch.oa {bar : Bool} {b x : Bth} (h : Rch bar b x) : x.o = b.o ∧ b.a ≤ x.a := by
  induction h with
  | refl => exact ⟨rfl, Int.le_refl _⟩
  | step _ c e ih =>
    have := nx_oa e
    refine ⟨this.1.trans ih.1, ?_⟩
    rw [this.2]; split <;> omega

/-! The list -/
/-- How a list of ways stands towards its beginning. -/
structure Ways (bar : Bool) (b : Bth) (l : List Way) : Prop where
  nd : (l.map Prod.fst).Nodup
  rch : ∀ p ∈ l, Rch bar b p.1
  road : ∀ p ∈ l, p.1 = Bth.run bar p.2 b ∧ p.1.a = b.a + (p.2.count true : Nat)
  fst : b ∈ l.map Prod.fst
theorem Ways.start (bar : Bool) (b : Bth) : Ways bar b [(b, [])] := by
  refine ⟨by simp, ?_, ?_, by simp⟩
  · intro p hp
    simp only [List.mem_singleton] at hp
    subst hp; exact .refl
  · intro p hp
    simp only [List.mem_singleton] at hp
    subst hp
    exact ⟨rfl, by simp⟩
theorem gro_pre (bar : Bool) (x : Way) (c : Bool) (l : List Way) : gro bar x c l = l ∨ ∃ y, x.1.nx bar c = some y ∧ y ∉ l.map Prod.fst ∧ gro bar x c l = l ++ [(y, x.2 ++ [c])] := by
  unfold gro
  split
  · exact .inl rfl
  · rename_i y e
    split
    · exact .inl rfl
    · rename_i q; exact .inr ⟨y, e, q, rfl⟩
theorem gro_in {bar : Bool} {x : Way} {c : Bool} {l : List Way} {y : Bth} (e : x.1.nx bar c = some y) : y ∈ (gro bar x c l).map Prod.fst := by
  unfold gro
  rw [e]
  simp only
  split
  · rename_i q; exact q
  · simp
theorem gro_sub {bar : Bool} {x : Way} {c : Bool} {l : List Way} {p : Way} (h : p ∈ l) : p ∈ gro bar x c l := by
  rcases gro_pre bar x c l with e | ⟨y, _, _, e⟩ <;> rw [e]
  · exact h
  · exact List.mem_append_left _ h
theorem gro_get {bar : Bool} {x : Way} {c : Bool} {l : List Way} {i : Nat} {p : Way} (h : l[i]? = some p) : (gro bar x c l)[i]? = some p := by
  rcases gro_pre bar x c l with e | ⟨y, _, _, e⟩ <;> rw [e]
  · exact h
  · rw [List.getElem?_append_left (List.getElem?_eq_some_iff.1 h).1]; exact h
theorem gro_len (bar : Bool) (x : Way) (c : Bool) (l : List Way) : l.length ≤ (gro bar x c l).length ∧ (gro bar x c l).length ≤ l.length + 1 := by
  rcases gro_pre bar x c l with e | ⟨y, _, _, e⟩ <;> rw [e]
  · omega
  · rw [List.length_append, List.length_singleton]; omega
theorem Ways.gro {bar : Bool} {b : Bth} {l : List Way} {x : Way} {c : Bool} (h : Ways bar b l) (hx : x ∈ l) : Ways bar b (gro bar x c l) := by
  rcases gro_pre bar x c l with e | ⟨y, e1, e2, e⟩ <;> rw [e]
  · exact h
  · refine ⟨?_, ?_, ?_, ?_⟩
    · rw [List.map_append, List.nodup_append]
      refine ⟨h.nd, by simp, ?_⟩
      intro p hp q hq
      simp only [List.map_cons, List.map_nil, List.mem_singleton] at hq
      subst hq
      rintro rfl
      exact e2 hp
    · intro p hp
      rcases List.mem_append.1 hp with hp | hp
      · exact h.rch p hp
      · simp only [List.mem_singleton] at hp
        subst hp
        exact .step (h.rch x hx) c e1
    · intro p hp
      rcases List.mem_append.1 hp with hp | hp
      · exact h.road p hp
      · simp only [List.mem_singleton] at hp
        subst hp
        have hr := h.road x hx
        have ha := nx_oa e1
        refine ⟨?_, ?_⟩
        · rw [Bth.run_app, ← hr.1]
          exact (nx_one e1).symm
        · dsimp only
          rw [ha.2, hr.2, List.count_append]
          cases c
          · simp
          · simp; omega
    · rw [List.map_append]; exact List.mem_append_left _ h.fst
theorem rnd_some {bar : Bool} {l : List Way} {i : Nat} {x : Way} (h : l[i]? = some x) : rnd bar l i = Go.Proofs.YtbobhbhgomkgpaaGreatDoor.S.gro bar x true (Go.Proofs.YtbobhbhgomkgpaaGreatDoor.S.gro bar x false l) := by unfold rnd; rw [h]
theorem rnd_len (bar : Bool) (l : List Way) (i : Nat) : l.length ≤ (rnd bar l i).length := by
  unfold rnd
  split
  · exact Nat.le_refl _
  · exact Nat.le_trans (gro_len _ _ _ _).1 (gro_len _ _ _ _).1
theorem Ways.rnd {bar : Bool} {b : Bth} {l : List Way} {i : Nat} (h : Ways bar b l) : Ways bar b (rnd bar l i) := by
  unfold S.rnd
  split
  · exact h
  · rename_i x hx
    have hm := List.mem_of_getElem? hx
    exact (h.gro hm).gro (gro_sub hm)
/-- The values up to a place are done. -/
def Done (bar : Bool) (l : List Way) (i : Nat) : Prop := ∀ j p, j < i → l[j]? = some p → ∀ c y, p.1.nx bar c = some y → y ∈ l.map Prod.fst
theorem map_sub {l m : List Way} (h : ∀ p ∈ l, p ∈ m) {y : Bth} (k : y ∈ l.map Prod.fst) : y ∈ m.map Prod.fst := by
  obtain ⟨p, hp, rfl⟩ := List.mem_map.1 k
  exact List.mem_map.2 ⟨p, h p hp, rfl⟩
theorem Done.rnd {bar : Bool} {l : List Way} {i : Nat} (h : Done bar l i) (hi : i < l.length) : Done bar (rnd bar l i) (i + 1) := by
  obtain ⟨x, hx⟩ : ∃ x, l[i]? = some x := ⟨l[i], List.getElem?_eq_getElem hi⟩
  rw [rnd_some hx]
  have sub : ∀ p ∈ l, p ∈ S.gro bar x true (S.gro bar x false l) := fun p hp => gro_sub (gro_sub hp)
  intro j p hj hp c y e
  by_cases hji : j < i
  · have hpl : l[j]? = some p := by
      obtain ⟨q, hq⟩ : ∃ q, l[j]? = some q := ⟨l[j], List.getElem?_eq_getElem (by omega)⟩
      have := gro_get (bar := bar) (x := x) (c := true) (gro_get (bar := bar) (x := x) (c := false) hq)
      rw [hp] at this; cases this; exact hq
    exact map_sub sub (h j p hji hpl c y e)
  · have hij : j = i := by omega
    subst hij
    have := gro_get (bar := bar) (x := x) (c := true) (gro_get (bar := bar) (x := x) (c := false) hx)
    rw [hp] at this; cases this
    cases c
    · exact map_sub (fun p hp => gro_sub hp) (gro_in (l := l) e)
    · exact gro_in e
theorem comesN_some {bar : Bool} {b : Bth} : ∀ (k : Nat) (l : List Way) (i : Nat) (r : List Way), Ways bar b l → Done bar l i → l.length ≤ 400 → comesN bar k l i = some r → Ways bar b r ∧ r.length ≤ 400 ∧ Done bar r r.length
  | 0, _, _, _, _, _, _, e => by cases e
  | k + 1, l, i, r, h, hd, hl, e => by
    rw [comesN] at e
    split at e
    · rename_i hi
      split at e
      · cases e
      · exact comesN_some k _ _ r h.rnd (hd.rnd hi) (by omega) e
    · cases e
      exact ⟨h, hl, fun j p hj hp => hd j p (by omega) hp⟩
theorem comesN_none {bar : Bool} {b : Bth} : ∀ (k : Nat) (l : List Way) (i : Nat), Ways bar b l → l.length ≤ 400 → i ≤ l.length → 401 ≤ k + i → comesN bar k l i = none → ∃ r, Ways bar b r ∧ 400 < r.length
  | 0, l, i, h, hl, hil, hk, _ => by omega
  | k + 1, l, i, h, hl, hil, hk, e => by
    rw [comesN] at e
    split at e
    · rename_i hi
      split at e
      · rename_i q; exact ⟨_, h.rnd, q⟩
      · have := rnd_len bar l i
        exact comesN_none k _ _ h.rnd (by omega) (by omega) (by omega) e
    · cases e
theorem all_some {bar : Bool} {b : Bth} {r : List Way} (e : b.all bar = some r) : b.ok ∧ Ways bar b r ∧ r.length ≤ 400 ∧ Done bar r r.length := by
  unfold Bth.all at e
  split at e
  · rename_i h
    exact ⟨h, comesN_some 401 _ 0 r (.start bar b) (fun j p hj => by omega) (by simp) e⟩
  · cases e
theorem all_none {bar : Bool} {b : Bth} (h : b.ok) (e : b.all bar = none) : ∃ r, Ways bar b r ∧ 400 < r.length := by
  unfold Bth.all at e
  rw [if_pos h] at e
  exact comesN_none 401 _ 0 (.start bar b) (by simp) (by simp) (by omega) e
/-- A list that is done holds all to which one can come. -/
theorem all_mem {bar : Bool} {b : Bth} {r : List Way} (hw : Ways bar b r) (hd : Done bar r r.length) {x : Bth} (h : Rch bar b x) : x ∈ r.map Prod.fst := by
  induction h with
  | refl => exact hw.fst
  | step _ c e ih =>
    obtain ⟨p, hp, rfl⟩ := List.mem_map.1 ih
    obtain ⟨j, hj, ej⟩ := List.getElem_of_mem hp
    exact hd j p hj (by rw [List.getElem?_eq_getElem hj, ej]) c _ e
open Classical in
theorem sub_len {α : Type} : ∀ {l m : List α}, l.Nodup → (∀ x ∈ l, x ∈ m) → l.length ≤ m.length
  | [], m, _, _ => Nat.zero_le _
  | a :: l, m, hn, h => by
    obtain ⟨hna, hn'⟩ := List.nodup_cons.1 hn
    have ha := h a (by simp)
    have h1 := sub_len (l := l) (m := m.erase a) hn' (fun x hx => (List.mem_erase_of_ne (fun (e : x = a) => hna (by rw [← e]; exact hx))).2 (h x (by simp [hx])))
    rw [List.length_erase_of_mem ha] at h1
    have h2 : 0 < m.length := List.length_pos_of_mem ha
    simp only [List.length_cons]; omega
/-- What a value of the list comes to is not more. -/
theorem all_sub {bar : Bool} {b x : Bth} {r : List Way} (e : b.all bar = some r) (h : Rch bar b x) : ∃ q, x.all bar = some q ∧ q.length ≤ r.length ∧ (x ≠ b → ¬ Rch bar x b → q.length < r.length) := by
  obtain ⟨hb, hw, hl, hd⟩ := all_some e
  have key : ∀ q, Ways bar x q → q.length ≤ r.length ∧ (x ≠ b → ¬ Rch bar x b → q.length < r.length) := by
    intro q hq
    have hsub : ∀ y ∈ q.map Prod.fst, y ∈ r.map Prod.fst := by
      intro y hy
      obtain ⟨p, hp, rfl⟩ := List.mem_map.1 hy
      exact all_mem hw hd (h.trans (hq.rch p hp))
    have h1 := sub_len hq.nd hsub
    rw [List.length_map, List.length_map] at h1
    refine ⟨h1, fun _ hn => ?_⟩
    have hnb : b ∉ q.map Prod.fst := by
      intro hy
      obtain ⟨p, hp, e⟩ := List.mem_map.1 hy
      exact hn (e ▸ hq.rch p hp)
    have h2 := sub_len (l := b :: q.map Prod.fst) (List.nodup_cons.2 ⟨hnb, hq.nd⟩) (m := r.map Prod.fst) (by
      intro y hy
      rcases List.mem_cons.1 hy with rfl | hy
      · exact hw.fst
      · exact hsub y hy)
    simp only [List.length_cons, List.length_map] at h2
    omega
  cases hx : x.all bar with
  | none =>
    obtain ⟨q, hq, hql⟩ := all_none (h.ok hb) hx
    have := (key q hq).1
    omega
  | some q => exact ⟨q, rfl, key q (all_some hx).2.1⟩
end Go.Proofs.YtbobhbhgomkgpaaGreatDoor.S

/- Plain laws of the common model: how many values there are, and what a loss needs. Own work of this claim; no program in sight. -/
namespace Go.Proofs.YtbobhbhgomkgpaaGreatDoor.S
set_option linter.all false

theorem run_false (bar bar' : Bool) : ∀ (x : List Bool) (b : Bth), x.count true = 0 → Bth.run bar x b = Bth.run bar' x b
  | [], b, _ => rfl
  | c :: x, b, h => by
    cases c
    · rw [Bth.run, Bth.run]
      have e : b.one bar false = b.one bar' false := by unfold Bth.one; rw [if_neg Bool.false_ne_true, if_neg Bool.false_ne_true]
      rw [e]
      exact run_false bar bar' x _ (by simpa using h)
    · simp at h
/-- What a loss needs. -/
theorem way_loss {bar : Bool} {b : Bth} {l : List Way} (hw : Ways bar b l) (hb : b.ok) (t : Bar b.s b.g) (hl : b.l = false) {p : Way} (hp : p ∈ l) (h : p.1.l = true) : bar = false ∧ 1 ≤ p.2.count true ∧ b.a + (p.2.count true : Nat) ≤ b.o.length := by
  have hr := hw.road p hp
  have hok := (hw.rch p hp).ok hb
  have ho := (hw.rch p hp).oa
  refine ⟨?_, ?_, ?_⟩
  · cases bar
    · rfl
    · have := (Bth.bar_run p.2 t hl).2
      rw [← hr.1, h] at this; cases this
  · rcases Nat.eq_zero_or_pos (p.2.count true) with q | q
    · have := (Bth.bar_run p.2 t hl).2
      rw [run_false true bar p.2 b q, ← hr.1, h] at this; cases this
    · exact q
  · have := hok.2.2.2
    rw [ho.1] at this
    rw [← hr.2]; exact this
/-- By steps of the collector alone. -/
theorem nx_g {bar : Bool} {x : Bth} (hx : x.ok) (hl : x.l = false) : x.nx bar false = some x.gcs := by
  unfold Bth.nx; rw [if_neg (by simp), if_pos ⟨hx, hl⟩]
structure Gst (b x : Bth) : Prop where
  ok : x.ok
  bar : Bar x.s x.g
  l : x.l = false
  o : x.o = b.o
  a : x.a = b.a
theorem Gst.step {b x : Bth} (h : Gst b x) : Gst b x.gcs := by
  have e := Bth.bar_gcs h.bar
  have hg : x.gcOk := ⟨h.ok, h.l⟩
  refine ⟨hg.step, ?_, ?_, ?_, ?_⟩
  · rw [e]; exact h.bar.stepG
  · rw [e]; exact h.l
  · rw [e]; exact h.o
  · rw [e]; exact h.a
theorem Gst.rch {bar : Bool} {b x y : Bth} (h : Gst b x) (k : Rch bar y x) : Rch bar y x.gcs := .step k false (nx_g h.ok h.l)
theorem Gst.phase {bar : Bool} {b y : Bth} : ∀ (n : Nat) (x : Bth), x.g.mu x.s.h.T.length ≤ n → Gst b x → Rch bar y x → (x.g.p = 0 ∨ x.g.p = 1 ∨ x.g.p = 2) → ∃ z, Gst b z ∧ Rch bar y z ∧ z.g.p = x.g.p + 1
  | n, x, hn, h, hr, hp => by
    have e := Bth.bar_gcs h.bar
    have ph := stG_phase h.ok.1
    have hs := h.step
    by_cases q0 : x.g.p = 0
    · refine ⟨x.gcs, hs, h.rch hr, ?_⟩
      rw [e, q0]
      show (x.g.stG x.s).p = 0 + 1
      unfold Gcc.stG; rw [if_pos q0]; rfl
    · rcases ph with ph | ⟨_, ph⟩
      · have hm := gcs_mu (b := x) ⟨h.ok, h.l⟩ hs.l (by rw [e]; show (x.g.stG x.s).p ≠ 0; rw [ph]; exact q0)
        cases n with
        | zero => omega
        | succ n =>
          have hpp : x.gcs.g.p = x.g.p := by rw [e]; exact ph
          obtain ⟨z, h1, h2, h3⟩ := Gst.phase n x.gcs (by omega) hs (h.rch hr) (by rw [hpp]; exact hp)
          exact ⟨z, h1, h2, by rw [h3, hpp]⟩
      · refine ⟨x.gcs, hs, h.rch hr, ?_⟩
        rw [e]
        show (x.g.stG x.s).p = x.g.p + 1
        rcases ph with ⟨a, b⟩ | ⟨a, b⟩ | ⟨a, b⟩ | ⟨a, b⟩ <;> omega
theorem ops_rch {bar : Bool} {b : Bth} (hb : b.ok) (hl : b.l = false) : ∀ (k : Nat), b.a + (k : Nat) ≤ b.o.length → ∃ z, Rch bar b z ∧ z.ok ∧ z.l = false ∧ z.o = b.o ∧ z.a = b.a + (k : Nat)
  | 0, _ => ⟨b, .refl, hb, hl, rfl, by omega⟩
  | k + 1, hk => by
    obtain ⟨z, h1, h2, h3, h4, h5⟩ := ops_rch hb hl k (by omega)
    have ho : z.opOk := ⟨h2, h3, by rw [h4, h5]; omega⟩
    refine ⟨z.op bar, .step h1 true (by unfold Bth.nx; rw [if_pos rfl, if_pos ho]), ho.step bar, h3, h4, ?_⟩
    show z.a + 1 = _
    rw [h5]; omega
/-- There is a value for each phase, and one for each operation. -/
theorem all_count {bar : Bool} {b : Bth} {r : List Way} (e : b.all bar = some r) (hp : b.g.p = 0) (hl : b.l = false) : b.o.length - b.a + 4 ≤ r.length := by
  obtain ⟨hb, hw, _, hd⟩ := all_some e
  have h0 : Gst b b := ⟨hb, bar_idle hb.1 hp, hl, rfl, rfl⟩
  obtain ⟨z1, g1, r1, p1⟩ := Gst.phase (bar := bar) (y := b) _ b (Nat.le_refl _) h0 .refl (.inl hp)
  obtain ⟨z2, g2, r2, p2⟩ := Gst.phase (bar := bar) (y := b) _ z1 (Nat.le_refl _) g1 r1 (.inr (.inl (by omega)))
  obtain ⟨z3, g3, r3, p3⟩ := Gst.phase (bar := bar) (y := b) _ z2 (Nat.le_refl _) g2 r2 (.inr (.inr (by omega)))
  have hop := ops_rch (bar := bar) hb hl
  have h12 := hb.2.2
  obtain ⟨n, hn⟩ : ∃ n : Nat, b.o.length - b.a = (n : Nat) := ⟨(b.o.length - b.a).toNat, by omega⟩
  have hc : ∀ k : Nat, k < n → ∃ z, Rch bar b z ∧ z.a = b.a + ((k + 1 : Nat) : Int) := fun k hk => by
    obtain ⟨z, h1, _, _, _, h5⟩ := hop (k + 1) (by omega)
    exact ⟨z, h1, h5⟩
  obtain ⟨f, hf⟩ : ∃ f : Nat → Bth, ∀ k, k < n → Rch bar b (f k) ∧ (f k).a = b.a + ((k + 1 : Nat) : Int) :=
    ⟨fun k => if h : k < n then (hc k h).choose else b, fun k hk => by dsimp only; rw [dif_pos hk]; exact (hc k hk).choose_spec⟩
  have hS := sub_len (l := [b, z1, z2, z3] ++ (List.range n).map f) (m := r.map Prod.fst) (by
    have key : ((([b, z1, z2, z3] ++ (List.range n).map f)).map fun x => (x.a, if x.a = b.a then x.g.p else 0)).Nodup := by
      rw [List.map_append, List.nodup_append]
      refine ⟨?_, ?_, ?_⟩
      · simp only [List.map_cons, List.map_nil, g1.a, g2.a, g3.a, if_true]
        simp only [List.nodup_cons, List.mem_cons, Prod.mk.injEq, true_and, List.not_mem_nil, or_false, not_false_eq_true, List.nodup_nil, and_true]
        omega
      · rw [List.map_map]
        unfold List.Nodup
        rw [List.pairwise_map]
        refine List.Pairwise.imp_of_mem ?_ (List.nodup_range (n := n))
        intro i j hi hj hij h
        rw [List.mem_range] at hi hj
        simp only [Function.comp, Prod.mk.injEq, (hf i hi).2, (hf j hj).2] at h
        omega
      · intro x hx y hy
        simp only [List.map_cons, List.map_nil, List.mem_cons, List.not_mem_nil, or_false] at hx
        rw [List.map_map] at hy
        obtain ⟨k, hk, rfl⟩ := List.mem_map.1 hy
        rw [List.mem_range] at hk
        have := (hf k hk).2
        rintro rfl
        simp only [Function.comp, Prod.mk.injEq, g1.a, g2.a, g3.a] at hx
        omega
    exact (List.pairwise_map.1 key).imp fun h e => h (by rw [e])) (by
    intro x hx
    refine all_mem hw hd ?_
    rcases List.mem_append.1 hx with hx | hx
    · simp only [List.mem_cons, List.not_mem_nil, or_false] at hx
      rcases hx with rfl | rfl | rfl | rfl
      · exact .refl
      · exact r1
      · exact r2
      · exact r3
    · obtain ⟨k, hk, rfl⟩ := List.mem_map.1 hx
      exact (hf k (List.mem_range.1 hk)).1)
  simp only [List.length_append, List.length_cons, List.length_nil, List.length_map, List.length_range] at hS
  omega
end Go.Proofs.YtbobhbhgomkgpaaGreatDoor.S

/- Plain laws of the common model: without operations there are few values, and none is lost. Own work of this claim; no program in sight. -/
namespace Go.Proofs.YtbobhbhgomkgpaaGreatDoor.S
set_option linter.all false

/-- The collector's steps up to its next rest. -/
theorem rest_chain {b : Bth} : ∀ (n : Nat) (x0 : Sto) (y : Bth), y.g.mu y.s.h.T.length ≤ n → Gst b y → y.g.p ≠ 0 → TriC x0 y.s y.g →
    ∃ (L : List Bth) (z : Bth), y ∈ L ∧ L.length ≤ n + 1 ∧ (∀ u ∈ L, Gst b u ∧ (u.gcs ∈ L ∨ u.gcs = z)) ∧ Gst b z ∧ z.g.p = 0 ∧ z.s = x0.coll ∧ z.g.C.length = y.g.C.length
  | n, x0, y, hn, h, hp, t => by
    have e := Bth.bar_gcs h.bar
    have hs := h.step
    have hlen : y.gcs.g.C.length = y.g.C.length := by rw [e]; exact stG_len y.s y.g
    by_cases q : y.gcs.g.p = 0
    · have qs : (y.g.stG y.s).p = 0 := by rw [e] at q; exact q
      refine ⟨[y], y.gcs, by simp, by simp, ?_, hs, q, ?_, hlen⟩
      · intro u hu
        simp only [List.mem_singleton] at hu
        subst hu
        exact ⟨h, .inr rfl⟩
      · rw [e]; exact t.fin qs
    · have qs : (y.g.stG y.s).p ≠ 0 := by rw [e] at q; exact q
      have hm := gcs_mu (b := y) ⟨h.ok, h.l⟩ hs.l q
      cases n with
      | zero => omega
      | succ n =>
        obtain ⟨L, z, h1, h2, h3, h4, h5, h6, h7⟩ := rest_chain n x0 y.gcs (by omega) hs q (by rw [e]; exact t.step qs)
        refine ⟨y :: L, z, by simp, by simp only [List.length_cons]; omega, ?_, h4, h5, h6, h7.trans hlen⟩
        intro u hu
        rcases List.mem_cons.1 hu with rfl | hu
        · exact ⟨h, .inl (List.mem_cons_of_mem _ h1)⟩
        · obtain ⟨k1, k2⟩ := h3 u hu
          exact ⟨k1, k2.imp (List.mem_cons_of_mem _) id⟩
theorem idle_gcs {b z : Bth} (h : Gst b z) (hp : z.g.p = 0) : z.gcs = ⟨z.s, ⟨1, List.replicate z.g.C.length 0, 0⟩, b.o, b.a, false⟩ := by
  have e := Bth.bar_gcs h.bar
  have e2 : z.g.stG z.s = ⟨1, List.replicate z.g.C.length 0, 0⟩ := by unfold Gcc.stG; rw [if_pos hp]
  have t := (triC_idle h.ok.1 hp).step (by rw [e2]; show (1 : Int) ≠ 0; decide)
  have e3 : z.g.stS z.s = z.s := t.e (by rw [e2]; show (1 : Int) ≠ 3; decide)
  rw [e, e2, e3, h.o, h.a, h.l]
theorem idle_tri {b z : Bth} (h : Gst b z) (hp : z.g.p = 0) : TriC z.s z.gcs.s z.gcs.g := by
  have e2 : z.g.stG z.s = ⟨1, List.replicate z.g.C.length 0, 0⟩ := by unfold Gcc.stG; rw [if_pos hp]
  have t := (triC_idle h.ok.1 hp).step (by rw [e2]; show (1 : Int) ≠ 0; decide)
  have e := Bth.bar_gcs h.bar
  rw [e]; exact t
/-- Without operations there are few values. -/
theorem all_noops {bar : Bool} {b : Bth} (hb : b.ok) (hp : b.g.p = 0) (hl : b.l = false) (ha : b.a = b.o.length) : ∃ r, b.all bar = some r ∧ ∀ p ∈ r, p.1.l = false := by
  have h0 : Gst b b := ⟨hb, bar_idle hb.1 hp, hl, rfl, rfl⟩
  have y1 := h0.step
  have i1 := idle_gcs h0 hp
  have p1 : b.gcs.g.p ≠ 0 := by rw [i1]; show (1 : Int) ≠ 0; decide
  obtain ⟨L1, z1, a1, a2, a3, a4, a5, a6, a7⟩ := rest_chain _ b.s b.gcs (Nat.le_refl _) y1 p1 (idle_tri h0 hp)
  have y2 := a4.step
  have i2 := idle_gcs a4 a5
  have p2 : z1.gcs.g.p ≠ 0 := by rw [i2]; show (1 : Int) ≠ 0; decide
  obtain ⟨L2, z2, b1, b2, b3, b4, b5, b6, b7⟩ := rest_chain _ z1.s z1.gcs (Nat.le_refl _) y2 p2 (idle_tri a4 a5)
  have i3 := idle_gcs b4 b5
  have e3 : z2.gcs = z1.gcs := by
    rw [i3, i2, b6, a6, coll_twice hb.1.1, b7, i2]
    simp
  have m1 := mu_bd y1.ok
  have m2 := mu_bd y2.ok
  have key : ∀ x, Rch bar b x → Gst b x ∧ x ∈ b :: (L1 ++ z1 :: (L2 ++ [z2])) := by
    intro x hx
    induction hx with
    | refl => exact ⟨h0, by simp⟩
    | step _ c e ih =>
      obtain ⟨g, m⟩ := ih
      cases c
      · rw [nx_g g.ok g.l] at e
        cases e
        refine ⟨g.step, ?_⟩
        simp only [List.mem_cons, List.mem_append, List.not_mem_nil, or_false] at m ⊢
        rcases m with rfl | m | rfl | m | rfl
        · exact .inr (.inl a1)
        · rcases (a3 _ m).2 with k | k
          · exact .inr (.inl k)
          · exact .inr (.inr (.inl k))
        · exact .inr (.inr (.inr (.inl b1)))
        · rcases (b3 _ m).2 with k | k
          · exact .inr (.inr (.inr (.inl k)))
          · exact .inr (.inr (.inr (.inr k)))
        · rw [e3]; exact .inr (.inr (.inr (.inl b1)))
      · unfold Bth.nx at e
        rw [if_pos rfl] at e
        split at e
        · rename_i q
          exact absurd (by rw [g.a, g.o]; exact ha) q.2.2
        · cases e
  have bound : ∀ r, Ways bar b r → r.length ≤ 100 := by
    intro r hr
    have := sub_len hr.nd (m := b :: (L1 ++ z1 :: (L2 ++ [z2]))) (by
      intro x hx
      obtain ⟨p, hp, rfl⟩ := List.mem_map.1 hx
      exact (key _ (hr.rch p hp)).2)
    simp only [List.length_map, List.length_cons, List.length_append, List.length_nil] at this
    omega
  cases e : b.all bar with
  | none =>
    obtain ⟨r, hr, hlr⟩ := all_none hb e
    have := bound r hr
    omega
  | some r =>
    refine ⟨r, rfl, fun p hp => ?_⟩
    exact (key _ ((all_some e).2.1.rch p hp)).1.l
end Go.Proofs.YtbobhbhgomkgpaaGreatDoor.S

/- Plain laws of the common model: values known by their texts. Own work of this claim; no program in sight. -/
namespace Go.Proofs.YtbobhbhgomkgpaaGreatDoor.S
set_option linter.all false

/-- The map of the texts seen. -/
def seen (l : List Way) : List (ByteArray × Bool) := l.map fun p => (bs (txB p.1), true)
theorem bytes_eq (a b : ByteArray) : (a == b) = true ↔ a = b := by
  show ByteArray.beq a b = true ↔ a = b
  unfold ByteArray.beq
  constructor
  · intro h; exact ByteArray.ext (by simpa using h)
  · rintro rfl; simp
theorem seen_idx {s : ByteArray} (l : List Way) (h : ∀ p ∈ l, bs (txB p.1) ≠ s) : mpIdx (seen l) s = none := by
  unfold mpIdx
  rw [List.findIdx?_eq_none_iff]
  intro x hx
  obtain ⟨q, hq, rfl⟩ := List.mem_map.1 hx
  dsimp only
  cases e : (s == bs (txB q.1))
  · rfl
  · exact absurd ((bytes_eq _ _).1 e).symm (h q hq)
theorem mem_seen {l : List Way} {i : Nat} (h : i < (seen l).length) : ∃ p ∈ l, (seen l)[i] = (bs (txB p.1), true) := by
  have hlt : i < l.length := by simpa [seen] using h
  exact ⟨l[i], List.getElem_mem hlt, by simp [seen]⟩
theorem Bth.ext2 {b c : Bth} (h : b.s = c.s ∧ b.g = c.g ∧ b.a = c.a ∧ b.l = c.l) (o : b.o = c.o) : b = c := by
  obtain ⟨s, g, o1, a, x⟩ := b
  obtain ⟨s', g', o', a', x'⟩ := c
  obtain ⟨h1, h2, h3, h4⟩ := h
  dsimp only at h1 h2 h3 h4 o
  rw [h1, h2, h3, h4, o]
theorem seen_get {l : List Way} {y : Bth} (hl : ∀ p ∈ l, p.1.ok ∧ p.1.o = y.o) (hy : y.ok) : mpGet (seen l) (bs (txB y)) = true ↔ y ∈ l.map Prod.fst := by
  constructor
  · intro h
    unfold mpGet at h
    cases hi : mpIdx (seen l) (bs (txB y)) with
    | none => rw [hi] at h; cases h
    | some i =>
      unfold mpIdx at hi
      rw [List.findIdx?_eq_some_iff_getElem] at hi
      obtain ⟨h1, h2, _⟩ := hi
      obtain ⟨p, hp, e⟩ := mem_seen h1
      rw [e] at h2
      have e := bs_inj ((bytes_eq _ _).1 h2)
      have hm := hl p hp
      have := Bth.ext2 (txB_inj hy hm.1 e) hm.2.symm
      rw [this]
      exact List.mem_map.2 ⟨p, hp, rfl⟩
  · intro h
    obtain ⟨p, hp, rfl⟩ := List.mem_map.1 h
    unfold mpGet
    cases hi : mpIdx (seen l) (bs (txB p.1)) with
    | some i =>
      unfold mpIdx at hi
      rw [List.findIdx?_eq_some_iff_getElem] at hi
      obtain ⟨h1, _, _⟩ := hi
      obtain ⟨q, hq, e⟩ := mem_seen h1
      dsimp only
      rw [List.getD_eq_getElem?_getD, List.getElem?_eq_getElem h1, e]
      rfl
    | none =>
      unfold mpIdx at hi
      rw [List.findIdx?_eq_none_iff] at hi
      have := hi (bs (txB p.1), true) (List.mem_map.2 ⟨p, hp, rfl⟩)
      dsimp only at this
      rw [(bytes_eq _ _).2 rfl] at this; cases this
theorem seen_put {l : List Way} {y : Bth} {r : List Bool} (h : ∀ p ∈ l, bs (txB p.1) ≠ bs (txB y)) : mpPut (seen l) (bs (txB y)) true = seen (l ++ [(y, r)]) := by
  unfold mpPut
  rw [seen_idx l h]
  simp [seen]
theorem seen_new {l : List Way} {y : Bth} (hl : ∀ p ∈ l, p.1.ok ∧ p.1.o = y.o) (hy : y.ok) (hn : y ∉ l.map Prod.fst) (r : List Bool) : mpGet (seen l) (bs (txB y)) = false ∧ mpPut (seen l) (bs (txB y)) true = seen (l ++ [(y, r)]) := by
  constructor
  · cases h : mpGet (seen l) (bs (txB y))
    · rfl
    · exact absurd ((seen_get hl hy).1 h) hn
  · refine seen_put fun p hp e => hn ?_
    have := hl p hp
    have e2 := Bth.ext2 (txB_inj this.1 hy (bs_inj e)) this.2
    rw [← e2]
    exact List.mem_map.2 ⟨p, hp, rfl⟩
theorem gro_old {bar : Bool} {x : Way} {c : Bool} {l : List Way} (h : ∀ y, x.1.nx bar c = some y → y ∈ l.map Prod.fst) : gro bar x c l = l := by
  rcases gro_pre bar x c l with e | ⟨y, e1, e2, _⟩
  · exact e
  · exact absurd (h y e1) e2
theorem gro_new {bar : Bool} {x : Way} {c : Bool} {l : List Way} {y : Bth} (e : x.1.nx bar c = some y) (hn : y ∉ l.map Prod.fst) : gro bar x c l = l ++ [(y, x.2 ++ [c])] := by
  rcases gro_pre bar x c l with e1 | ⟨z, e1, _, e2⟩
  · have := gro_in (l := l) e
    rw [e1] at this
    exact absurd this hn
  · rw [e] at e1; cases e1; exact e2
end Go.Proofs.YtbobhbhgomkgpaaGreatDoor.S

/- Plain laws of the common model: what is told of all schedules. Own work of this claim; no program in sight. -/
namespace Go.Proofs.YtbobhbhgomkgpaaGreatDoor.S
set_option linter.all false

noncomputable def Bth.cnt (bar : Bool) (b : Bth) : Nat := match b.all bar with
  | some r => r.length
  | none => 0
noncomputable def Bth.can (bar : Bool) (b : Bth) : Bool := match b.all bar with
  | some r => r.any fun p => p.1.l
  | none => false
noncomputable def Bth.slo (bar : Bool) (b : Bth) : Option (List Bool) := match b.all bar with
  | some r => (r.find? fun p => p.1.l).map Prod.snd
  | none => none
theorem all_bad {bar : Bool} {b : Bth} (h : ¬ b.ok) : b.all bar = none := by unfold Bth.all; rw [if_neg h]
theorem cnt_law {bar : Bool} {b : Bth} (h : (b.all bar).isSome = true) (hp : b.g.p = 0) (hl : b.l = false) : (b.o.length : Int) - b.a + 4 ≤ b.cnt bar ∧ b.cnt bar ≤ 400 := by
  obtain ⟨r, e⟩ := Option.isSome_iff_exists.1 h
  have h1 := all_count e hp hl
  have h2 := (all_some e).2.2.1
  unfold Bth.cnt
  rw [e]
  exact ⟨by omega, h2⟩
theorem cnt_gc {bar : Bool} {b : Bth} (h : (b.all bar).isSome = true) (hl : b.l = false) : b.gcOk ∧ (b.gcs.all bar).isSome = true ∧ b.gcs.cnt bar ≤ b.cnt bar := by
  obtain ⟨r, e⟩ := Option.isSome_iff_exists.1 h
  have hb := (all_some e).1
  obtain ⟨q, e2, h2, _⟩ := all_sub e (.step .refl false (nx_g hb hl))
  refine ⟨⟨hb, hl⟩, by rw [e2]; rfl, ?_⟩
  unfold Bth.cnt
  rw [e, e2]; exact h2
theorem cnt_op {bar : Bool} {b : Bth} (h : (b.all bar).isSome = true) (ho : b.opOk) : ((b.op bar).all bar).isSome = true ∧ (b.op bar).cnt bar < b.cnt bar := by
  obtain ⟨r, e⟩ := Option.isSome_iff_exists.1 h
  have hx : b.nx bar true = some (b.op bar) := by unfold Bth.nx; rw [if_pos rfl, if_pos ho]
  obtain ⟨q, e2, _, h3⟩ := all_sub e (.step .refl true hx)
  have ha : (b.op bar).a = b.a + 1 := rfl
  refine ⟨by rw [e2]; rfl, ?_⟩
  have := h3 (fun k => by rw [k] at ha; omega) (fun k => by have := k.oa.2; omega)
  unfold Bth.cnt
  rw [e, e2]; exact this
theorem slo_law {bar : Bool} {b : Bth} {w : List Bool} (h : b.slo bar = some w) (hp : b.g.p = 0) (hl : b.l = false) : bar = false ∧ 1 ≤ w.count true ∧ b.a + (w.count true : Nat) ≤ b.o.length ∧ w.length ≤ w.length := by
  unfold Bth.slo at h
  split at h
  · rename_i r e
    obtain ⟨hb, hw, _, _⟩ := all_some e
    obtain ⟨p, hp2, rfl⟩ := Option.map_eq_some_iff.1 h
    have h1 := List.mem_of_find?_eq_some hp2
    have h2 := List.find?_some hp2
    have := way_loss hw hb (bar_idle hb.1 hp) hl h1 h2
    exact ⟨this.1, this.2.1, this.2.2, Nat.le_refl _⟩
  · cases h
theorem noops_law {bar : Bool} {s : Sto} (hs : s.opsOk []) : (((Bth.new s []).all bar).isSome = true) ∧ 4 ≤ (Bth.new s []).cnt bar ∧ (Bth.new s []).can bar = false := by
  have hb := Bth.new_ok hs
  have e0 : Bth.new s [] = ⟨s, ⟨0, List.replicate s.h.L.length 0, 0⟩, [], 0, false⟩ := by rw [Bth.new, if_pos hs]
  obtain ⟨r, e, hl⟩ := all_noops (bar := bar) hb (by rw [e0]) (by rw [e0]) (by rw [e0]; rfl)
  have h1 : ((Bth.new s []).all bar).isSome = true := by rw [e]; rfl
  have h2 := (cnt_law h1 (by rw [e0]) (by rw [e0])).1
  refine ⟨h1, ?_, ?_⟩
  · have e1 : ((Bth.new s []).o.length : Int) - (Bth.new s []).a = 0 := by rw [e0]; rfl
    rw [e1] at h2; omega
  · unfold Bth.can
    rw [e]
    simp only [List.any_eq_false]
    intro p hp
    rw [hl p hp]; simp
/-- The length of a road: no longer than its place. -/
theorem road_gro {bar : Bool} {x : Way} {c : Bool} {l : List Way} {i : Nat} (hx : l[i]? = some x) (h : ∀ (j : Nat) p, l[j]? = some p → p.2.length ≤ j) : ∀ (j : Nat) p, (gro bar x c l)[j]? = some p → p.2.length ≤ j := by
  rcases gro_pre bar x c l with e | ⟨y, _, _, e⟩ <;> rw [e]
  · exact h
  · intro j p hj
    by_cases hlt : j < l.length
    · rw [List.getElem?_append_left hlt] at hj; exact h j p hj
    · have hjl : j = l.length := by
        have := (List.getElem?_eq_some_iff.1 hj).1
        rw [List.length_append, List.length_singleton] at this; omega
      subst hjl
      rw [List.getElem?_append_right (Nat.le_refl _), Nat.sub_self] at hj
      simp only [List.getElem?_cons_zero, Option.some.injEq] at hj
      subst hj
      have h1 := h i x hx
      have h2 := (List.getElem?_eq_some_iff.1 hx).1
      simp only [List.length_append, List.length_singleton]; omega
end Go.Proofs.YtbobhbhgomkgpaaGreatDoor.S
