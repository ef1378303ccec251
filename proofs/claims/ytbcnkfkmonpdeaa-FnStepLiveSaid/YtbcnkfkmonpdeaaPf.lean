/- Plain laws of the common model: a collector that began idle keeps live cells and frees the others. Own work of this claim; no program in sight. -/
import Derived.Test.YtbcnkfkmonpdeaaPd
namespace Go.Proofs.Ytbcnkfkmonpdeaa.S
set_option linter.all false

/-- Where a collector that began idle is. -/
structure Tri (s : Sto) (g : Gcc) : Prop where
  ok : g.ok s
  r1 : g.p = 1 → (∀ j : Nat, (j : Int) < g.a → s.h.T.getD j 0 ≠ -1 → g.C.getD (s.h.T.getD j 0).toNat 0 ≠ 0) ∧ (∀ c, c < g.C.length → g.C.getD c 0 ≠ 2) ∧ (∀ c, c < g.C.length → g.C.getD c 0 ≠ 0 → Reach s.h c)
  r2 : g.p = 2 → colHolds s.h g.C ∧ (∀ c, c < g.C.length → g.C.getD c 0 ≠ 0 → Reach s.h c)
  r3 : g.p = 3 → ∀ c : Nat, c < s.h.L.length → g.a ≤ c → (g.C.getD c 0 ≠ 0 ↔ Reach s.h c)
theorem tri_idle {s : Sto} {g : Gcc} (h : g.ok s) (hp : g.p = 0) : Tri s g := ⟨h, by omega, by omega, by omega⟩
theorem Tri.sw {s : Sto} {g : Gcc} (t : Tri s g) (h : g.sw s ≠ -1) : ¬ Reach s.h (g.sw s).toNat ∧ 0 ≤ g.sw s ∧ g.sw s < s.h.L.length ∧ g.sw s ∉ s.F := by
  obtain ⟨p3, e, c0, nf⟩ := sw_at h
  have ha := t.ok.2.2
  unfold Gcc.atOk at ha
  rw [e]
  have hlt : g.a.toNat < s.h.L.length := by omega
  refine ⟨fun q => ?_, ha.1, by omega, nf⟩
  exact (t.r3 p3 g.a.toNat hlt (by omega)).2 q c0
theorem Tri.stOk {s : Sto} {g : Gcc} (t : Tri s g) : g.stOk s := by
  refine ⟨t.ok, fun ⟨h1, h2⟩ => ?_⟩
  obtain ⟨q, a, b, _⟩ := t.sw h1
  obtain ⟨j, hj, e⟩ := mem_getD h2
  exact q (.root hj (by omega))
theorem Tri.gone {s : Sto} {g : Gcc} (t : Tri s g) (h : g.sw s ≠ -1) : Gone s [g.sw s] := by
  obtain ⟨q, a, b, nf⟩ := t.sw h
  refine ⟨t.ok.1, by simp, fun x hx => ?_⟩
  simp at hx; subst hx
  exact ⟨nf, _, by omega, by omega, q⟩
theorem Tri.stS_ok {s : Sto} {g : Gcc} (t : Tri s g) : (g.stS s).ok ∧ ∀ c, Reach (g.stS s).h c ↔ Reach s.h c := by
  unfold Gcc.stS
  split
  · rename_i h; exact ⟨(t.gone h).clr_ok, (t.gone h).reach⟩
  · exact ⟨t.ok.1, fun _ => Iff.rfl⟩
theorem stS_id {s : Sto} {g : Gcc} (h : g.p ≠ 3) : g.stS s = s := by
  unfold Gcc.stS Gcc.sw
  rw [if_neg (by intro q; exact q (if_neg (by rintro ⟨a, _⟩; exact h a)))]
theorem shd_reach {h : Hp} {C : List Int} {x : Int} (hC : ∀ c, c < C.length → C.getD c 0 ≠ 0 → Reach h c) (hx : x ≠ -1 → Reach h x.toNat) : ∀ c, c < (shd C x).length → (shd C x).getD c 0 ≠ 0 → Reach h c := by
  intro c hc q
  rw [shd_len] at hc
  rw [shd_getD hc] at q
  split at q
  · rename_i z; rw [← z.2.1]; exact hx z.1
  · exact hC c hc q
theorem Tri.step {s : Sto} {g : Gcc} (t : Tri s g) : Tri (g.stS s) (g.stG s) := by
  have w := t.ok.weak.step
  have hS := t.stS_ok
  have hl := stS_lens g s
  have hok : (g.stG s).ok (g.stS s) := ⟨hS.1, w.c, w.a⟩
  have hcl := t.ok.2.1.1
  have hTok := t.ok.1.1.2.2.2
  have hLok := t.ok.1.1.2.1
  have hRok := t.ok.1.1.2.2.1
  have hRl : s.h.R.length = s.h.L.length := t.ok.1.1.1.2.2.1
  have hat := t.ok.2.2
  unfold Gcc.atOk at hat
  by_cases p0 : g.p = 0
  · have e : g.stG s = ⟨1, List.replicate g.C.length 0, 0⟩ := by rw [Gcc.stG, if_pos p0]
    have z : ∀ c, (List.replicate g.C.length (0 : Int)).getD c 0 = 0 := by
      intro c; simp [List.getD_eq_getElem?_getD, List.getElem?_replicate]; split <;> rfl
    refine ⟨hok, fun _ => ?_, ?_, ?_⟩ <;> rw [e] <;> dsimp only
    · exact ⟨by intro j hj; omega, fun c _ => by rw [z]; omega, fun c _ q => absurd (z c) q⟩
    · intro q; omega
    · intro q; omega
  by_cases p1 : g.p = 1
  · have eS : g.stS s = s := stS_id (by omega)
    rw [eS] at hok ⊢
    obtain ⟨i1, i2, i3⟩ := t.r1 p1
    have hTa : g.a.toNat < s.h.T.length := by omega
    have hTr : s.h.T.getD g.a.toNat 0 ≠ -1 → Reach s.h (s.h.T.getD g.a.toNat 0).toNat := fun q => .root hTa (by have := okP_get hTok hTa; omega)
    have e : g.stG s = Gcc.nx ⟨1, shd g.C (s.h.T.getD g.a.toNat 0), g.a⟩ s.h.T.length 2 := by rw [Gcc.stG, if_neg p0, if_pos p1]
    have j3 := shd_reach i3 hTr
    have j2 : ∀ c, c < (shd g.C (s.h.T.getD g.a.toNat 0)).length → (shd g.C (s.h.T.getD g.a.toNat 0)).getD c 0 ≠ 2 := by
      intro c hc
      rw [shd_len] at hc
      rw [shd_getD hc]
      have := i2 c hc
      split <;> omega
    have j1 : ∀ j : Nat, (j : Int) < g.a + 1 → s.h.T.getD j 0 ≠ -1 → (shd g.C (s.h.T.getD g.a.toNat 0)).getD (s.h.T.getD j 0).toNat 0 ≠ 0 := by
      intro j hj q
      have hjl : j < s.h.T.length := by omega
      have := okP_get hTok hjl
      rw [shd_getD (by omega)]
      split
      · omega
      · rename_i z
        by_cases ej : (j : Int) = g.a
        · have : g.a.toNat = j := by omega
          rw [this] at z
          intro y; exact z ⟨q, rfl, y⟩
        · exact i1 j (by omega) q
    unfold Gcc.nx at e
    dsimp only at e
    split at e
    · rename_i ea
      refine ⟨hok, ?_, fun _ => ?_, ?_⟩ <;> rw [e] <;> dsimp only
      · intro q; omega
      · refine ⟨⟨t.ok.1.1, shd_ok t.ok.2.1, fun i hi q => absurd q (j2 i hi)⟩, j3⟩
      · intro q; omega
    · refine ⟨hok, fun _ => ?_, ?_, ?_⟩ <;> rw [e] <;> dsimp only
      · exact ⟨j1, j2, j3⟩
      · intro q; omega
      · intro q; omega
  by_cases p2 : g.p = 2
  · have eS : g.stS s = s := stS_id (by omega)
    rw [eS] at hok ⊢
    obtain ⟨⟨c1, c2, c3⟩, c4⟩ := t.r2 p2
    have e : g.stG s = g.mark s := by rw [Gcc.stG, if_neg p0, if_neg p1, if_pos p2]
    unfold Gcc.mark at e
    split at e
    · rename_i hi
      obtain ⟨i, hil, ei, hg1⟩ : ∃ i : Nat, i < g.C.length ∧ idx g.C 1 = i ∧ g.C.getD i 0 = 1 := by
        rcases idx_cases g.C 1 with q | q
        · exact q
        · omega
      rw [ei, Int.toNat_natCast] at e
      have hri := c4 i hil (by omega)
      have kL := okP_get hLok (show i < s.h.L.length by omega)
      have kR := okP_get hRok (show i < s.h.R.length by omega)
      have a1 := shd_reach c4 (x := s.h.L.getD i 0) (fun q => .left hri (by omega))
      have a2 := shd_reach a1 (x := s.h.R.getD i 0) (fun q => .right hri (by omega))
      have b1 := shd_holds (c := s.h.R.getD i 0) (shd_holds (c := s.h.L.getD i 0) ⟨c1, c2, c3⟩)
      refine ⟨hok, ?_, fun _ => ?_, ?_⟩ <;> rw [e] <;> dsimp only
      · intro q; omega
      · have nz : ∀ x : Int, -1 ≤ x ∧ x < s.h.L.length → x ≠ -1 → (shd (shd g.C (s.h.L.getD i 0)) (s.h.R.getD i 0)).getD x.toNat 0 ≠ 0 → (blk s.h g.C i).getD x.toNat 0 ≠ 0 := by
          intro x hx _ q
          unfold blk
          rw [getD_set' (by rw [shd_len, shd_len]; omega)]
          split
          · omega
          · exact q
        refine ⟨⟨c1, blk_ok c2, fun j hj q => ?_⟩, fun c hc q => ?_⟩
        · rw [blk_len] at hj
          have oL := hLok j (by omega)
          have oR := hRok j (by omega)
          by_cases ej : i = j
          · subst ej
            constructor
            · intro z
              refine nz _ oL z ?_
              rw [shd_getD (by rw [shd_len]; omega)]
              split
              · omega
              · rw [shd_getD (by omega)]
                split
                · omega
                · rename_i y; intro w; exact y ⟨z, rfl, w⟩
            · intro z
              refine nz _ oR z ?_
              rw [shd_getD (by rw [shd_len]; omega)]
              split
              · omega
              · rename_i y; intro w; exact y ⟨z, rfl, w⟩
          · have q2 : (shd (shd g.C (s.h.L.getD i 0)) (s.h.R.getD i 0)).getD j 0 = 2 := by
              unfold blk at q
              rw [getD_set' (by rw [shd_len, shd_len]; omega), if_neg ej] at q
              exact q
            have := b1.2.2 j (by rw [shd_len, shd_len]; omega) q2
            exact ⟨fun z => nz _ oL z (this.1 z), fun z => nz _ oR z (this.2 z)⟩
        · rw [blk_len] at hc
          unfold blk at q
          rw [getD_set' (by rw [shd_len, shd_len]; omega)] at q
          split at q
          · rename_i z; subst z; exact hri
          · exact a2 c (by rw [shd_len, shd_len]; omega) q
      · intro q; omega
    · rename_i hi
      have hno : (1 : Int) ∉ g.C := by
        rcases idx_cases g.C 1 with ⟨i, _, q, _⟩ | q
        · omega
        · exact q.2
      split at e
      · rename_i hw
        obtain ⟨i, hil, ei, hT, hz⟩ : ∃ i : Nat, i < s.h.T.length ∧ wrt s.h.T g.C = i ∧ s.h.T.getD i 0 ≠ -1 ∧ g.C.getD (s.h.T.getD i 0).toNat 0 = 0 := by
          rcases wrt_cases s.h.T g.C with q | q
          · exact q
          · omega
        rw [ei, Int.toNat_natCast] at e
        have kT := okP_get hTok hil
        refine ⟨hok, ?_, fun _ => ?_, ?_⟩ <;> rw [e] <;> dsimp only
        · intro q; omega
        · exact ⟨shd_holds ⟨c1, c2, c3⟩, shd_reach c4 (fun q => .root hil (by omega))⟩
        · intro q; omega
      · rename_i hw
        have hroots : ∀ j, j < s.h.T.length → s.h.T.getD j 0 ≠ -1 → g.C.getD (s.h.T.getD j 0).toNat 0 ≠ 0 := by
          rcases wrt_cases s.h.T g.C with ⟨i, _, q, _⟩ | q
          · omega
          · exact q.2
        have blackOf : ∀ c, c < g.C.length → g.C.getD c 0 ≠ 0 → g.C.getD c 0 = 2 := by
          intro c hc q
          have h1 := c2.2 c hc
          have h2 : g.C.getD c 0 ≠ 1 := fun z => hno (z ▸ getD_mem hc)
          omega
        have all : ∀ c, Reach s.h c → c < g.C.length ∧ g.C.getD c 0 ≠ 0 := by
          intro c q
          refine Reach.sub (h := s.h) (fun c => c < g.C.length ∧ g.C.getD c 0 ≠ 0) (fun j c hj hc => ?_) (fun a c ha hc => ?_) (fun a c ha hc => ?_) q
          · have := hTok j hj
            have h1 := hroots j hj (by omega)
            rw [hc, Int.toNat_natCast] at h1
            exact ⟨by omega, h1⟩
          · have h1 := (c3 a ha.1 (blackOf a ha.1 ha.2)).1 (by omega)
            rw [hc, Int.toNat_natCast] at h1
            have := hLok a (by omega)
            exact ⟨by omega, h1⟩
          · have h1 := (c3 a ha.1 (blackOf a ha.1 ha.2)).2 (by omega)
            rw [hc, Int.toNat_natCast] at h1
            have := hRok a (by omega)
            exact ⟨by omega, h1⟩
        refine ⟨hok, ?_, ?_, fun _ => ?_⟩ <;> rw [e] <;> dsimp only
        · intro q; omega
        · intro q; omega
        · intro c hc _
          exact ⟨fun q => c4 c (by omega) q, fun q => (all c q).2⟩
  have p3 : g.p = 3 := by omega
  have e : g.stG s = Gcc.nx ⟨3, g.C.set g.a.toNat 0, g.a⟩ g.C.length 0 := by rw [Gcc.stG, if_neg p0, if_neg p1, if_neg p2]
  unfold Gcc.nx at e
  dsimp only at e
  split at e
  · exact tri_idle hok (by rw [e])
  · refine ⟨hok, ?_, ?_, fun _ => ?_⟩ <;> rw [e] <;> dsimp only
    · intro q; omega
    · intro q; omega
    · intro c hc hac
      rw [hl.1] at hc
      rw [getD_set' (by omega), if_neg (by omega), hS.2 c]
      exact t.r3 p3 c hc (by omega)
end Go.Proofs.Ytbcnkfkmonpdeaa.S
