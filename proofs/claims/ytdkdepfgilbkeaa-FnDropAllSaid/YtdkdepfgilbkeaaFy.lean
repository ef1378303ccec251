/- Contracts: pointers of counted stores are linked. Own work of this claim. -/
import Derived.Test.YtdkdepfgilbkeaaFu
namespace Go.Proofs.Ytdkdepfgilbkeaa.S
set_option linter.all false
open Go Go.Proofs
set_option maxHeartbeats 4000000
set_option maxRecDepth 100000

def incC (C : List Int) (to : Int) : List Int := if to = -1 then C else C.set to.toNat (C.getD to.toNat 0 + 1)
theorem incC_len (C : List Int) (to : Int) : (incC C to).length = C.length := by unfold incC; split <;> simp
theorem DInv.link {h : Hp} (ho : h.ok) {f to : Int} (hf : 0 ≤ f ∧ f < h.L.length) (ht : to = -1 ∨ 0 ≤ to ∧ to < h.L.length) :
    DInv h.L.length h.T 1 ⟨h.L.set f.toNat to, h.R, [], incC h.cnt to, [h.L.getD f.toNat 0], 0⟩ := by
  have hc : h.cnt = cntN h.L.length h.all h.all.length := by rw [Hp.cnt, if_pos (by simp [Hp.valid, ho])]
  have hlc : h.cnt.length = h.L.length := by rw [hc, cntN_len]
  have o1 := ho.2.1 f.toNat (by omega)
  refine ⟨by simp, ho.1.2.2.1, by rw [incC_len, hlc], okP_set ho.2.1 _ (by omega), ho.2.2.1, ?_, by simp, by simp, by simp, by simp, ?_⟩
  · intro j hj
    obtain rfl : j = 0 := by simpa using hj
    exact o1
  · intro x hx
    have e := count_set (l := h.L) (k := f.toNat) (by omega) (x : Int) to
    simp only [List.drop_zero, List.count_cons, List.count_nil, beq_iff_eq]
    have ec : h.cnt.getD x 0 = ((h.L.count (x : Int) + h.R.count (x : Int) + h.T.count (x : Int) : Nat) : Int) := by
      rw [hc, cntN_getD hx, List.take_length, Hp.all, List.count_append, List.count_append]
    unfold incC
    split
    · rename_i q
      subst q
      rw [if_neg (by omega : ¬ (-1 : Int) = (x : Int))] at e
      rw [ec]; omega
    · rename_i q
      have ht' : 0 ≤ to ∧ to < h.L.length := by omega
      rw [getD_set (by omega)]
      by_cases hxc : to.toNat = x
      · rw [if_pos hxc]
        have hcx : to = (x : Int) := by omega
        rw [if_pos hcx] at e
        rw [hxc, ec]; omega
      · rw [if_neg hxc]
        rw [if_neg (by omega : ¬ to = (x : Int))] at e
        rw [ec]; omega
def Cnt.lnkOk (c : Cnt) (a b : Int) : Prop := c.rooted a ∧ c.rooted b ∧ c.s.h.T.getD a.toNat 0 ≠ -1
instance decFy1 (c : Cnt) (a b : Int) : Decidable (c.lnkOk a b) := by unfold Cnt.lnkOk; infer_instance
noncomputable def Cnt.lnk (c : Cnt) (a b : Int) : Cnt := if c.lnkOk a b then
    Cnt.down ⟨⟨⟨c.s.h.L.set (c.s.h.T.getD a.toNat 0).toNat (c.s.h.T.getD b.toNat 0), c.s.h.R, c.s.h.T⟩, c.s.F⟩, c.C⟩ c.s.h.T c.s.F (incC c.C (c.s.h.T.getD b.toNat 0)) (c.s.h.L.getD (c.s.h.T.getD a.toNat 0).toNat 0) else .zero
theorem Cnt.rt {c : Cnt} {r : Int} (h : c.rooted r) : c.s.h.T.getD r.toNat 0 = -1 ∨ 0 ≤ c.s.h.T.getD r.toNat 0 ∧ c.s.h.T.getD r.toNat 0 < c.s.h.L.length := by
  have ho := (Cnt.ok_iff c).1 h.1
  exact okP_get ho.1.1.2.2.2 (by have := h.2; omega)
theorem Cnt.lnk_inv {c : Cnt} {a b : Int} (h : c.lnkOk a b) : DInv c.s.h.L.length c.s.h.T 1 ⟨c.s.h.L.set (c.s.h.T.getD a.toNat 0).toNat (c.s.h.T.getD b.toNat 0), c.s.h.R, [], incC c.C (c.s.h.T.getD b.toNat 0), [c.s.h.L.getD (c.s.h.T.getD a.toNat 0).toNat 0], 0⟩ := by
  have ho := (Cnt.ok_iff c).1 h.1.1
  rw [ho.2]
  have ha := Cnt.rt h.1
  have hb := Cnt.rt h.2.1
  have := h.2.2
  exact DInv.link ho.1.1 (by omega) hb
theorem Cnt.lnk_len (c : Cnt) (a b : Int) : (((c.lnk a b).s.h.L.length ≤ 8 ∧ (c.lnk a b).s.h.R.length ≤ 8 ∧ (c.lnk a b).s.h.T.length ≤ 8) ∧ (c.lnk a b).s.F.length ≤ c.s.F.length + 8) ∧ (c.lnk a b).C.length ≤ 8 := by
  rw [Cnt.lnk]
  split
  · rename_i g
    have h0 := Cnt.lnk_inv g
    have ho := (Cnt.ok_iff c).1 g.1.1
    have hT : c.s.h.T.length ≤ 8 := by have := ho.1.1.1; omega
    have hn : c.s.h.L.length ≤ 8 := by have := ho.1.1.1; omega
    obtain ⟨d1, d2, d3, d4⟩ := down_len h0
    simp only [Cnt.down, List.length_set, List.length_append]
    omega
  · simp [Cnt.zero, Sto.zero]
theorem sLinkCounted_c (c : Cnt) (a b : Int) (hl : ((c.s.h.L.length ≤ 4194304 ∧ c.s.h.R.length ≤ 4194304 ∧ c.s.h.T.length ≤ 4194304) ∧ c.s.F.length ≤ 4194304) ∧ c.C.length ≤ 4194304) (hF : c.s.F.length ≤ 1048576) : Fn Try.prog 140 [(0, .c false (.ints c.s.h.L)), (1, .c false (.ints c.s.h.R)), (2, .c false (.ints c.s.h.T)), (3, .c false (.ints c.s.F)), (4, .c false (.ints c.C))] [.agg [.sl 0 0 c.s.h.L.length, .sl 1 0 c.s.h.R.length, .sl 2 0 c.s.h.T.length, .sl 3 0 c.s.F.length, .sl 4 0 c.C.length], .int .i64 a, .int .i64 b] (fun x H => x = .tup [.agg [.sl 100 0 (c.lnk a b).s.h.L.length, .sl 101 0 (c.lnk a b).s.h.R.length, .sl 102 0 (c.lnk a b).s.h.T.length, .sl 103 0 (c.lnk a b).s.F.length, .sl 104 0 (c.lnk a b).C.length], .bool (decide (c.lnkOk a b))] ∧ H = [(100, .c true (.ints (c.lnk a b).s.h.L)), (101, .c true (.ints (c.lnk a b).s.h.R)), (102, .c true (.ints (c.lnk a b).s.h.T)), (103, .c true (.ints (c.lnk a b).s.F)), (104, .c true (.ints (c.lnk a b).C))]) := by
  have hva := sl9Root_c c a hl
  have hvb := sl9Root_c c b hl
  refine Fn_go Try.func140 ?_
  refine W_go ?_
  by_cases g1 : c.rooted a
  case neg =>
    rw [decide_eq_false g1] at hva
    refine W_c1 [(0, (0, 0)), (1, (1, 0)), (2, (2, 0)), (3, (3, 0)), (4, (4, 0))] hva ?_
    refine W_ift ?_
    refine W_go ?_
    refine W_rt [] [(100, .ints []), (101, .ints []), (102, .ints []), (103, .ints []), (104, .ints [])] ?_
    rw [Cnt.lnk, if_neg (fun q => g1 q.1), decide_eq_false (fun q => g1 q.1)]
    exact ⟨rfl, rfl⟩
  rw [decide_eq_true g1] at hva
  by_cases g2 : c.rooted b
  case neg =>
    rw [decide_eq_false g2] at hvb
    refine W_c2 [(0, (0, 0)), (1, (1, 0)), (2, (2, 0)), (3, (3, 0)), (4, (4, 0))] hva [(0, (0, 0)), (1, (1, 0)), (2, (2, 0)), (3, (3, 0)), (4, (4, 0))] hvb ?_
    refine W_ift ?_
    refine W_go ?_
    refine W_rt [] [(100, .ints []), (101, .ints []), (102, .ints []), (103, .ints []), (104, .ints [])] ?_
    rw [Cnt.lnk, if_neg (fun q => g2 q.2.1), decide_eq_false (fun q => g2 q.2.1)]
    exact ⟨rfl, rfl⟩
  rw [decide_eq_true g2] at hvb
  have ra := g1.2
  have rb := g2.2
  have g1 : Hold _ := ⟨g1⟩
  have g2 : Hold _ := ⟨g2⟩
  refine W_c2 [(0, (0, 0)), (1, (1, 0)), (2, (2, 0)), (3, (3, 0)), (4, (4, 0))] hva [(0, (0, 0)), (1, (1, 0)), (2, (2, 0)), (3, (3, 0)), (4, (4, 0))] hvb ?_
  refine W_if (fun g3 => ?_) (fun g3 => ?_)
  · have g4 : ¬ c.lnkOk a b := fun q => q.2.2 g3
    clear g3
    refine W_go ?_
    refine W_rt [] [(100, .ints []), (101, .ints []), (102, .ints []), (103, .ints []), (104, .ints [])] ?_
    rw [Cnt.lnk, if_neg g4, decide_eq_false g4]
    exact ⟨rfl, rfl⟩
  have g4 : c.lnkOk a b := ⟨g1.told, g2.told, g3⟩
  have hc := sl9Copy_c c hl
  have h0 := Cnt.lnk_inv g4
  have ho := (Cnt.ok_iff c).1 g4.1.1
  have hT : c.s.h.T.length ≤ 8 := by have := ho.1.1.1; omega
  have hn : c.s.h.L.length ≤ 8 := by have := ho.1.1.1; omega
  have hD := sl9Down_c c.s.h.L.length (c.s.h.L.set (c.s.h.T.getD a.toNat 0).toNat (c.s.h.T.getD b.toNat 0)) c.s.h.R c.s.h.T c.s.F (incC c.C (c.s.h.T.getD b.toNat 0)) (c.s.h.L.getD (c.s.h.T.getD a.toNat 0).toNat 0) hn hT hF h0
  rw [Cnt.lnk, if_pos g4, decide_eq_true g4, Cnt.down]
  obtain ⟨d1, d2, d3, d4⟩ := down_len h0
  have lR := h0.lR
  have lC := h0.lC
  dsimp only at lR lC
  rw [incC_len] at lC
  have xa := Cnt.rt g4.1
  have xb := Cnt.rt g4.2.1
  have bC : 0 ≤ c.C.getD (c.s.h.T.getD b.toNat 0).toNat 0 ∧ c.C.getD (c.s.h.T.getD b.toNat 0).toNat 0 ≤ 1000000 := by
    rw [ho.2, Hp.cnt]
    split
    · by_cases q : (c.s.h.T.getD b.toNat 0).toNat < c.s.h.L.length
      · have := cntN_bound c.s.h.L.length c.s.h.all c.s.h.all.length _ q
        have h2 : c.s.h.all.length ≤ 27 := by unfold Hp.all; simp only [List.length_append]; have := ho.1.1.1; omega
        omega
      · rw [List.getD_eq_getElem?_getD, List.getElem?_eq_none (by rw [cntN_len]; omega)]; simp
    · simp
  clear h0 ho g1 g2 g4
  have hLs : List.take c.s.h.L.length (c.s.h.L.set (c.s.h.T.getD a.toNat 0).toNat (c.s.h.T.getD b.toNat 0)) = c.s.h.L.set (c.s.h.T.getD a.toNat 0).toNat (c.s.h.T.getD b.toNat 0) := List.take_of_length_le (by simp)
  rw [← hLs] at hD
  by_cases hto : c.s.h.T.getD b.toNat 0 = -1
  · have eC : incC c.C (c.s.h.T.getD b.toNat 0) = c.C := by rw [incC, if_pos hto]
    rw [eC] at hD d1 d2 d3 d4 ⊢
    replace hLs : Hold _ := ⟨hLs⟩
    clear eC bC
    refine W_go ?_
    refine W_c1 [(0, (0, 0)), (1, (1, 0)), (2, (2, 0)), (3, (3, 0)), (4, (4, 0))] hc ?_
    refine W_go ?_
    refine W_if (fun h => ?_) (fun h => ?_)
    · exact absurd hto h
    clear h
    refine W_go ?_
    refine W_c1 [(0, (4104, 0)), (1, (4105, 0)), (2, (4106, 0)), (3, (4107, 0)), (4, (4108, 0)), (5, (11280, 0))] hD ?_
    refine W_rt [(4104, (100, 0)), (4105, (101, 0)), (4106, (102, 0)), (11288, (103, 0)), (4108, (104, 0))] [] ?_
    simp only [hLs.told]
    constructor <;> simp only [d1, d2, d3, lR, lC, List.length_set, List.length_append]
  have eC : incC c.C (c.s.h.T.getD b.toNat 0) = c.C.set (c.s.h.T.getD b.toNat 0).toNat (c.C.getD (c.s.h.T.getD b.toNat 0).toNat 0 + 1) := by rw [incC, if_neg hto]
  have hCs : List.take c.C.length (c.C.set (c.s.h.T.getD b.toNat 0).toNat (c.C.getD (c.s.h.T.getD b.toNat 0).toNat 0 + 1)) = c.C.set (c.s.h.T.getD b.toNat 0).toNat (c.C.getD (c.s.h.T.getD b.toNat 0).toNat 0 + 1) := List.take_of_length_le (by simp)
  rw [eC] at hD d1 d2 d3 d4 ⊢
  rw [← hCs] at hD
  replace hLs : Hold _ := ⟨hLs⟩
  replace hCs : Hold _ := ⟨hCs⟩
  clear eC
  refine W_go ?_
  refine W_c1 [(0, (0, 0)), (1, (1, 0)), (2, (2, 0)), (3, (3, 0)), (4, (4, 0))] hc ?_
  refine W_go ?_
  refine W_if (fun h => ?_) (fun h => ?_)
  case' refine_2 => exact absurd hto h
  clear h
  refine W_go ?_
  refine W_c1 [(0, (4104, 0)), (1, (4105, 0)), (2, (4106, 0)), (3, (4107, 0)), (4, (4108, 0)), (5, (11280, 0))] hD ?_
  refine W_rt [(4104, (100, 0)), (4105, (101, 0)), (4106, (102, 0)), (11288, (103, 0)), (4108, (104, 0))] [] ?_
  simp only [hLs.told, hCs.told]
  constructor <;> simp only [d1, d2, d3, lR, lC, List.length_set, List.length_append]
end Go.Proofs.Ytdkdepfgilbkeaa.S
