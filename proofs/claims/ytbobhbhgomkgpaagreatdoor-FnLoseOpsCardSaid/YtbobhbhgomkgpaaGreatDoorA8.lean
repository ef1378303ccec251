/- Texts of this claim's own layer, laid as one: Sv Sy. Own work of this claim. -/
import Derived.Test.YtbobhbhgomkgpaaGreatDoorA3
import Derived.Deep.Strs
import Derived.ChangeSlices
import Derived.Below
import Derived.Deep.Slices
/- The symbolic heap: what the row's reading of an argument says of memory; a law's contract as the row asks for it. Own work of this claim. -/
namespace Go.Proofs.YtbobhbhgomkgpaaGreatDoor.S
set_option linter.all false
open Go Go.ChangeShapes Go.ChangeShapes

/-- A value reads as a list of whole numbers. -/
def RdI (k : IntKind) (w : World) (v : Value) (l : List Int) : Prop :=
  (v = .slice none 0 0 ∧ l = []) ∨ ∃ (a : Addr) (len cap : Nat) (zs : List Int), v = .slice (some a) len cap ∧ len ≤ cap ∧ cap ≤ maxLen ∧ zs.length = cap ∧ (∀ i, i < zs.length → w.cell? (a.add i) = some (.int k (zs.getD i 0))) ∧ (∀ n ∈ zs, (Lit.int k n).wf = true) ∧ l = zs.take len
def locOf : Value → Option Loc
  | .slice (some a) _ cap => if cap = 0 then none else some ⟨a.block, a.off, cap, 1⟩
  | _ => none
theorem RdI.len {k : IntKind} {w : World} {v : Value} {l : List Int} (h : RdI k w v l) : l.length ≤ 9223372036854775807 := by
  rcases h with ⟨_, rfl⟩ | ⟨a, len, cap, zs, _, h1, h2, h3, _, _, rfl⟩
  · simp
  · unfold maxLen at h2; simp; omega
theorem cell_some {w : World} {a : Addr} {v : Value} (h : w.cell? a = some v) : ∃ arr T fr, w.heap[a.block]? = some (.cells arr T fr) ∧ a.spot = none ∧ arr[a.off]? = some v := by
  unfold World.cell? at h
  split at h
  · rename_i arr T fr he
    split at h
    · cases h
    · rename_i hs
      exact ⟨arr, T, fr, he, by simpa using hs, h⟩
  · cases h
theorem add_blk (a : Addr) (i : Nat) : (a.add i).block = a.block := by unfold Addr.add; split <;> rfl
theorem add_off (a : Addr) (i : Nat) : (a.add i).off = a.off + i := by
  unfold Addr.add; split
  · rename_i h; omega
  · rfl
theorem RdI.cr {k : IntKind} {w : World} {v : Value} {l : List Int} (h : RdI k w v l) {ν : Nm} {n : Nat} (hn : ν n = locOf v) : CR ν (.sl n 0 l.length) v := by
  rcases h with ⟨rfl, rfl⟩ | ⟨a, len, cap, zs, rfl, h1, h2, h3, h4, _, rfl⟩
  · exact .inr ⟨rfl, none, rfl⟩
  · by_cases hc : cap = 0
    · subst hc
      obtain rfl : len = 0 := by omega
      exact .inr ⟨by simp, some a, rfl⟩
    · simp only [locOf, if_neg hc] at hn
      obtain ⟨arr, T, fr, g1, g2, g3⟩ := cell_some (h4 0 (by omega))
      refine .inl ⟨_, cap, hn, by simp; omega, by simp, ?_⟩
      have : (zs.take len).length = len := by simp; omega
      rw [this]
      have e : a = ⟨a.block, a.off + 0, none⟩ := by
        obtain ⟨b, o, s⟩ := a
        simp [Addr.add] at g2
        simp [g2]
      rw [← e]
theorem RdI.cellsAt {k : IntKind} {w : World} {v : Value} {l : List Int} (h : RdI k w v l) {L : Loc} (hL : locOf v = some L) (P : Nat → Value → Prop) (hP : ∀ i, i < l.length → P i (.int k (l.getD i 0))) : L.esz = 1 ∧ cellsAt w L.blk L.off L.lim false P l.length := by
  rcases h with ⟨rfl, rfl⟩ | ⟨a, len, cap, zs, rfl, h1, h2, h3, h4, _, rfl⟩
  · cases hL
  · simp only [locOf] at hL
    split at hL
    · cases hL
    · rename_i hc
      cases hL
      obtain ⟨arr, T, fr, g1, g2, g3⟩ := cell_some (h4 (cap - 1) (by omega))
      rw [add_blk] at g1
      rw [add_off] at g3
      refine ⟨rfl, arr, T, fr, g1, ?_, by simp; omega, ?_, by simp⟩
      · have := (Array.getElem?_eq_some_iff.1 g3).1
        show a.off + cap ≤ arr.size
        omega
      · intro i hi
        simp at hi
        obtain ⟨arr', T', fr', k1, k2, k3⟩ := cell_some (h4 i (by omega))
        rw [add_blk] at k1
        rw [add_off] at k3
        rw [g1] at k1; cases k1
        refine ⟨_, k3, ?_⟩
        have := hP i (by simp; omega)
        have hlt : i < len := by omega
        rw [show (zs.take len).getD i 0 = zs.getD i 0 by simp [List.getD_eq_getElem?_getD, List.getElem?_take, hlt]] at this
        exact this
theorem RdI.er {w : World} {v : Value} {l : List Int} (h : RdI .i64 w v l) {ν : Nm} {n : Nat} (hn : ν n = locOf v) : ER ν w n (.c false (.ints l)) := by
  simp only [ER, hn]
  split
  · rename_i hL
    rcases h with ⟨rfl, rfl⟩ | ⟨a, len, cap, zs, rfl, h1, h2, h3, h4, _, rfl⟩
    · rfl
    · simp only [locOf] at hL
      split at hL
      · rename_i hc
        obtain rfl : len = 0 := by omega
        rfl
      · cases hL
  · rename_i L hL
    have := h.cellsAt hL (fun i v => ∃ c, (LV.ints l).toL[i]? = some c ∧ CR ν c v) (fun i hi => ⟨.int .i64 (l.getD i 0), by simp [LV.toL, List.getD_eq_getElem?_getD, hi], rfl⟩)
    refine ⟨this.1, ?_⟩
    have e : (LV.ints l).toL.length = l.length := by simp [LV.toL]
    rw [e]
    exact this.2

/-- Whole numbers as bytes. -/
def bysOf (l : List Int) : List UInt8 := l.map fun x => UInt8.ofNat x.toNat
theorem bysOf_len (l : List Int) : (bysOf l).length = l.length := by simp [bysOf]
theorem RdI.crB {w : World} {v : Value} {l : List Int} (h : RdI .u8 w v l) {ν : Nm} {n : Nat} (hn : ν n = locOf v) : CR ν (.sl n 0 (bysOf l).length) v := by
  rw [bysOf_len]; exact h.cr hn
theorem RdI.erB {w : World} {v : Value} {l : List Int} (h : RdI .u8 w v l) {ν : Nm} {n : Nat} (hn : ν n = locOf v) : ER ν w n (.c false (.bys (bysOf l))) := by
  have hb : ∀ i, i < l.length → 0 ≤ l.getD i 0 ∧ l.getD i 0 < 256 := by
    intro i hi
    rcases h with ⟨_, rfl⟩ | ⟨a, len, cap, zs, _, h1, h2, h3, _, hw, rfl⟩
    · simp at hi
    · simp at hi
      have hz : i < zs.length := by omega
      have hm : zs.getD i 0 ∈ zs := by
        have e : zs.getD i 0 = zs[i] := by simp [List.getD_eq_getElem?_getD, hz]
        rw [e]; exact List.getElem_mem hz
      have := hw _ hm
      have hlt : i < len := by omega
      rw [show (zs.take len).getD i 0 = zs.getD i 0 by simp only [List.getD_eq_getElem?_getD, List.getElem?_take, hlt, if_true]]
      simp only [Lit.wf, Bool.and_eq_true, decide_eq_true_eq] at this
      have e1 : IntKind.min .u8 = 0 := by decide
      have e2 : IntKind.max .u8 = 255 := by decide
      rw [e1, e2] at this
      omega
  simp only [ER, hn]
  split
  · rename_i hL
    rcases h with ⟨rfl, rfl⟩ | ⟨a, len, cap, zs, rfl, h1, h2, h3, h4, _, rfl⟩
    · rfl
    · simp only [locOf] at hL
      split at hL
      · rename_i hc
        obtain rfl : len = 0 := by omega
        rfl
      · cases hL
  · rename_i L hL
    have := h.cellsAt hL (fun i v => ∃ c, (LV.bys (bysOf l)).toL[i]? = some c ∧ CR ν c v) (fun i hi => ⟨.int .u8 (l.getD i 0), by
      have hi' : l[i]? = some (l.getD i 0) := by simp [List.getD_eq_getElem?_getD, hi]
      have := hb i hi
      simp only [LV.toL, bysOf, List.getElem?_map, hi', Option.map_some, Option.some.injEq, AV.int.injEq, true_and]
      rw [UInt8.toNat_ofNat']
      omega, rfl⟩)
    refine ⟨this.1, ?_⟩
    have e : (LV.bys (bysOf l)).toL.length = l.length := by simp [LV.toL, bysOf]
    rw [e]
    exact this.2

section
variable {H : Type} {enc : TypeId × Value → H} {P : Program} {w : World} {held : Bool}
theorem rd_ints {t e : TypeId} {k : IntKind} {fuel : Nat} {cs : List Value} {x : DataW H × List MemPlace} (ht : P.underlying t = some (.slice e)) (he : P.underlying e = some (.int k)) (hc : P.cellsOf e = 1)
    (h : DataW.trod enc P w 0 (fun _ => true) held fuel t cs = some x) : ∃ v l, cs = [v] ∧ RdI k w v l := by
  rcases open_ints ht he hc h with ⟨hcs, _⟩ | ⟨a, len, cap, zs, hcs, _, hl, hm, hz, _, hcell, hwf⟩
  · exact ⟨_, [], hcs, .inl ⟨rfl, rfl⟩⟩
  · exact ⟨_, _, hcs, .inr ⟨a, len, cap, zs, rfl, hl, hm, by simpa using hz, hcell, hwf, rfl⟩⟩
/-- Three slices in a struct. -/
theorem rd_heap {t e : TypeId} {g0 g1 g2 : Field} {fuel : Nat} {cs : List Value} {x : DataW H × List MemPlace} (ht : P.underlying t = some (.struct #[g0, g1, g2])) (ho : g0.offset = 0 ∧ g1.offset = 1 ∧ g2.offset = 2 ∧ P.cellsOf t = 3)
    (h1 : P.underlying g0.type = some (.slice e) ∧ P.underlying g1.type = some (.slice e) ∧ P.underlying g2.type = some (.slice e)) (hz : P.cellsOf g0.type = 1 ∧ P.cellsOf g1.type = 1 ∧ P.cellsOf g2.type = 1) (he : P.underlying e = some (.int .i64)) (hc : P.cellsOf e = 1)
    (h : DataW.trod enc P w 0 (fun _ => true) held fuel t cs = some x) : ∃ v0 v1 v2 l0 l1 l2, cs = [v0, v1, v2] ∧ RdI .i64 w v0 l0 ∧ RdI .i64 w v1 l1 ∧ RdI .i64 w v2 l2 := by
  obtain ⟨y0, y1, y2, n, _, hl, q0, q1, q2⟩ := Deep.trod_struct3 ht h
  rw [ho.2.2.2] at hl
  match cs, hl with
  | [v0, v1, v2], _ =>
    simp only [ho.1, ho.2.1, ho.2.2.1, hz.1, hz.2.1, hz.2.2] at q0 q1 q2
    obtain ⟨u0, l0, e0, r0⟩ := rd_ints h1.1 he hc q0
    obtain ⟨u1, l1, e1, r1⟩ := rd_ints h1.2.1 he hc q1
    obtain ⟨u2, l2, e2, r2⟩ := rd_ints h1.2.2 he hc q2
    simp at e0 e1 e2
    subst e0 e1 e2
    exact ⟨v0, v1, v2, l0, l1, l2, rfl, r0, r1, r2⟩
/-- A heap, and one slice behind it. -/
theorem rd_store {t e : TypeId} {f0 f1 g0 g1 g2 : Field} {fuel : Nat} {cs : List Value} {x : DataW H × List MemPlace} (ht : P.underlying t = some (.struct #[f0, f1])) (ho : f0.offset = 0 ∧ f1.offset = 3 ∧ P.cellsOf t = 4)
    (hh : P.underlying f0.type = some (.struct #[g0, g1, g2])) (go : g0.offset = 0 ∧ g1.offset = 1 ∧ g2.offset = 2 ∧ P.cellsOf f0.type = 3)
    (h1 : P.underlying g0.type = some (.slice e) ∧ P.underlying g1.type = some (.slice e) ∧ P.underlying g2.type = some (.slice e)) (hz : P.cellsOf g0.type = 1 ∧ P.cellsOf g1.type = 1 ∧ P.cellsOf g2.type = 1)
    (h2 : P.underlying f1.type = some (.slice e) ∧ P.cellsOf f1.type = 1) (he : P.underlying e = some (.int .i64)) (hc : P.cellsOf e = 1)
    (h : DataW.trod enc P w 0 (fun _ => true) held fuel t cs = some x) : ∃ v0 v1 v2 v3 l0 l1 l2 l3, cs = [v0, v1, v2, v3] ∧ RdI .i64 w v0 l0 ∧ RdI .i64 w v1 l1 ∧ RdI .i64 w v2 l2 ∧ RdI .i64 w v3 l3 := by
  obtain ⟨y0, y1, n, _, hl, q0, q1⟩ := trod_struct2 ht h
  rw [ho.2.2] at hl
  match cs, hl with
  | [v0, v1, v2, v3], _ =>
    simp only [ho.1, ho.2.1, go.2.2.2, h2.2] at q0 q1
    obtain ⟨u0, u1, u2, l0, l1, l2, e0, r0, r1, r2⟩ := rd_heap hh go h1 hz he hc q0
    obtain ⟨u3, l3, e3, r3⟩ := rd_ints h2.1 he hc q1
    simp at e0 e3
    obtain ⟨rfl, rfl, rfl⟩ := e0
    subst e3
    exact ⟨v0, v1, v2, v3, l0, l1, l2, l3, rfl, r0, r1, r2, r3⟩
end

/-- A law's contract over arguments that are read alone, as the row asks for it. -/
theorem Fn_law {P : Program} {f : Nat} {H0 : Heap} {args : List AV} (hf : Fn P f H0 args fun r H => r = .bool true ∧ H = []) (ro : ∀ n e, aget H0 n = some e → e.isOwn = false) {ν : Nm} {w : World} {vs : Array Value}
    (er : ∀ n e, aget H0 n = some e → ER ν w n e) (dom : ∀ n, aget H0 n = none → ν n = none) (hv : F2 (VR ν) args vs.toList) :
    Calls P f vs w fun e w' => e = .returned (.bool true) ∧ RowKit.Below w.heap.size w w' := by
  refine (hf.calls ν w vs ⟨er, ?_, dom, fun b hb => ⟨rfl, hb.1⟩, fun n hn => ⟨rfl, hn⟩, ?_, ⟨rfl, rfl, rfl⟩⟩ trivial hv).mono ?_
  · intro n m e e' h1 h2
    rw [ro n e h1] at h2; cases h2
  · intro n e L h1 h2
    rw [ro n e h1] at h2; cases h2
  · rintro e w' ⟨c, r, H1, ν1, rfl, ⟨rfl, rfl⟩, _, hc, _, hi⟩
    obtain rfl : c = .bool true := hc
    have hg : ∀ b, b < w.heap.size → Gof ν H0 w b := fun b hb => ⟨hb, fun n e L h1 h2 => by rw [ro n e h1] at h2; cases h2⟩
    refine ⟨rfl, hi.fx.1, hi.fx.2.1, hi.fx.2.2, ?_, fun b hb => (hi.gfr b (hg b hb)).1⟩
    by_cases h0 : w.heap.size = 0
    · omega
    · have := (hi.gfr (w.heap.size - 1) (hg _ (by omega))).2
      omega
end Go.Proofs.YtbobhbhgomkgpaaGreatDoor.S

/- The symbolic heap: the row's reading of a list of structs of three whole numbers. Own work of this claim. -/
namespace Go.Proofs.YtbobhbhgomkgpaaGreatDoor.S
set_option linter.all false
open Go Go.ChangeShapes Go.WideShapes Go.Deep

/-- A value reads as a list of structs of three whole numbers. -/
def RdO (w : World) (v : Value) (l : List (Int × Int × Int)) : Prop :=
  (v = .slice none 0 0 ∧ l = []) ∨ ∃ (a : Addr) (len cap : Nat) (Z : Nat → Int × Int × Int), v = .slice (some a) len cap ∧ len ≤ cap ∧ cap ≤ maxLen ∧
    (∀ i, i < cap → w.cell? (a.add (i * 3)) = some (.int .i64 (Z i).1) ∧ w.cell? (a.add (i * 3 + 1)) = some (.int .i64 (Z i).2.1) ∧ w.cell? (a.add (i * 3 + 2)) = some (.int .i64 (Z i).2.2)) ∧ l = (List.range len).map Z
def locO : Value → Option Loc
  | .slice (some a) _ cap => if cap = 0 then none else some ⟨a.block, a.off, 3 * cap, 3⟩
  | _ => none
theorem RdO.len {w : World} {v : Value} {l : List (Int × Int × Int)} (h : RdO w v l) : l.length ≤ 9223372036854775807 := by
  rcases h with ⟨_, rfl⟩ | ⟨a, len, cap, Z, _, h1, h2, _, rfl⟩
  · simp
  · unfold maxLen at h2; simp; omega
theorem RdO.cr {w : World} {v : Value} {l : List (Int × Int × Int)} (h : RdO w v l) {ν : Nm} {n : Nat} (hn : ν n = locO v) : CR ν (.sl n 0 l.length) v := by
  rcases h with ⟨rfl, rfl⟩ | ⟨a, len, cap, Z, rfl, h1, h2, h4, rfl⟩
  · exact .inr ⟨rfl, none, rfl⟩
  · by_cases hc : cap = 0
    · subst hc
      obtain rfl : len = 0 := by omega
      exact .inr ⟨by simp, some a, rfl⟩
    · simp only [locO, if_neg hc] at hn
      obtain ⟨arr, T, fr, g1, g2, g3⟩ := cell_some (h4 0 (by omega)).1
      refine .inl ⟨_, cap, hn, by simp; omega, by simp; omega, ?_⟩
      have : ((List.range len).map Z).length = len := by simp
      rw [this]
      have e : a = ⟨a.block, a.off + 0, none⟩ := by
        obtain ⟨b, o, s⟩ := a
        simp [Addr.add] at g2
        simp [g2]
      rw [← e]
theorem RdO.er {w : World} {v : Value} {l : List (Int × Int × Int)} (h : RdO w v l) {ν : Nm} {n : Nat} (hn : ν n = locO v) : ER ν w n (.c false (.ops l)) := by
  simp only [ER, hn]
  rcases h with ⟨rfl, rfl⟩ | ⟨a, len, cap, Z, rfl, h1, h2, h4, rfl⟩
  · simp [locO, LV.toL]
  · by_cases hc : cap = 0
    · subst hc
      obtain rfl : len = 0 := by omega
      simp [locO, LV.toL]
    · simp only [locO, if_neg hc]
      obtain ⟨arr, T, fr, g1, g2, g3⟩ := cell_some (h4 (cap - 1) (by omega)).2.2
      rw [add_blk] at g1
      rw [add_off] at g3
      have hlen : (LV.ops ((List.range len).map Z)).toL.length = 3 * len := by
        have := (LV.ops ((List.range len).map Z)).len_eq
        rw [this]; simp [LV.len]
      rw [hlen]
      refine ⟨rfl, arr, T, fr, g1, ?_, by omega, ?_, by simp⟩
      · have := (Array.getElem?_eq_some_iff.1 g3).1
        show a.off + 3 * cap ≤ arr.size
        omega
      · intro k hk
        have hx := (LV.ops ((List.range len).map Z)).lk_eq k (by simp [LV.len]; omega)
        have hi : k / 3 < len := by omega
        have hz : ((List.range len).map Z).getD (k / 3) (0, 0, 0) = Z (k / 3) := by simp [List.getD_eq_getElem?_getD, hi]
        simp only [LV.lk, hz] at hx
        have rd : ∀ q x, w.cell? (a.add q) = some x → arr[a.off + q]? = some x := by
          intro q x hq
          obtain ⟨arr', T', fr', k1, k2, k3⟩ := cell_some hq
          rw [add_blk] at k1
          rw [add_off] at k3
          rw [g1] at k1; cases k1
          exact k3
        obtain ⟨c0, c1, c2⟩ := h4 (k / 3) (by omega)
        have hm : k % 3 = 0 ∨ k % 3 = 1 ∨ k % 3 = 2 := by omega
        show ∃ v, arr[a.off + k]? = some v ∧ _
        rcases hm with q | q | q
        · refine ⟨_, (show k / 3 * 3 = k by omega) ▸ rd _ _ c0, _, hx, ?_⟩
          rw [q]; rfl
        · refine ⟨_, (show k / 3 * 3 + 1 = k by omega) ▸ rd _ _ c1, _, hx, ?_⟩
          rw [q]; rfl
        · refine ⟨_, (show k / 3 * 3 + 2 = k by omega) ▸ rd _ _ c2, _, hx, ?_⟩
          rw [q]; rfl
section
variable {H : Type} {enc : TypeId × Value → H} {P : Program} {w : World} {held : Bool}
theorem rd_ops {t e u : TypeId} {f0 f1 f2 : Field} {fuel : Nat} {cs : List Value} {x : DataW H × List MemPlace} (ht : P.underlying t = some (.slice e)) (he : P.underlying e = some (.struct #[f0, f1, f2]))
    (hf : f0.type = u ∧ f1.type = u ∧ f2.type = u ∧ f0.offset = 0 ∧ f1.offset = 1 ∧ f2.offset = 2) (hu : P.underlying u = some (.int .i64)) (ce : P.cellsOf e = 3) (cu : P.cellsOf u = 1)
    (h : DataW.trod enc P w 0 (fun _ => true) held fuel t cs = some x) : ∃ v l, cs = [v] ∧ RdO w v l := by
  obtain ⟨t0, t1, t2, o0, o1, o2⟩ := hf
  rcases open_slice ht h with ⟨hcs, _⟩ | ⟨a, len, cap, m, n, D, Pl, hcs, _, hl, hm, hmm, _, hx⟩
  · exact ⟨_, [], hcs, .inl ⟨rfl, rfl⟩⟩
  obtain rfl : m = cap := by simpa using hmm
  have each : ∀ i, i < m → ∃ q : Int × Int × Int, w.cell? (a.add (i * 3)) = some (.int .i64 q.1) ∧ w.cell? (a.add (i * 3 + 1)) = some (.int .i64 q.2.1) ∧ w.cell? (a.add (i * 3 + 2)) = some (.int .i64 q.2.2) := by
    intro i hi
    obtain ⟨cs', h1, h2⟩ := hx i hi
    rw [ce] at h1
    obtain ⟨_, hlen, hcell⟩ := World.cells?_some h1
    obtain ⟨xs, k, hk, hxy, _, hxl, hf⟩ := DataW.trod_struct he h2
    match xs, hxl, cs', hlen with
    | [y0, y1, y2], _, [v0, v1, v2], _ =>
      have g0 := hf 0 f0 rfl
      have g1 := hf 1 f1 rfl
      have g2 := hf 2 f2 rfl
      simp [o0, o1, o2, t0, t1, t2, cu] at g0 g1 g2
      have e0 := hcell 0 (by omega)
      have e1 := hcell 1 (by omega)
      have e2 := hcell 2 (by omega)
      rw [add_add] at e0 e1 e2
      obtain ⟨n0, z0, _⟩ := DataW.trod_int hu g0
      obtain ⟨n1, z1, _⟩ := DataW.trod_int hu g1
      obtain ⟨n2, z2, _⟩ := DataW.trod_int hu g2
      simp only [List.cons.injEq, and_true] at z0 z1 z2
      subst z0 z1 z2
      exact ⟨(n0, n1, n2), by simpa using e0, by simpa using e1, by simpa using e2⟩
  obtain ⟨Z, hZ⟩ := choose_lt each
  exact ⟨_, _, hcs, .inr ⟨a, len, m, Z, rfl, hl, hm, hZ, rfl⟩⟩
/-- A number, a slice, a number. -/
theorem rd_gc {t e : TypeId} {f0 f1 f2 : Field} {fuel : Nat} {cs : List Value} {x : DataW H × List MemPlace} (ht : P.underlying t = some (.struct #[f0, f1, f2])) (ho : f0.offset = 0 ∧ f1.offset = 1 ∧ f2.offset = 2 ∧ P.cellsOf t = 3)
    (h0 : P.underlying f0.type = some (.int .i64) ∧ P.cellsOf f0.type = 1) (h1 : P.underlying f1.type = some (.slice e) ∧ P.cellsOf f1.type = 1) (h2 : P.underlying f2.type = some (.int .i64) ∧ P.cellsOf f2.type = 1) (he : P.underlying e = some (.int .i64)) (hc : P.cellsOf e = 1)
    (h : DataW.trod enc P w 0 (fun _ => true) held fuel t cs = some x) : ∃ n v l m, cs = [.int .i64 n, v, .int .i64 m] ∧ RdI .i64 w v l := by
  obtain ⟨y0, y1, y2, n, _, hl, q0, q1, q2⟩ := Deep.trod_struct3 ht h
  rw [ho.2.2.2] at hl
  match cs, hl with
  | [v0, v1, v2], _ =>
    simp only [ho.1, ho.2.1, ho.2.2.1, h0.2, h1.2, h2.2] at q0 q1 q2
    obtain ⟨n0, z0, _⟩ := DataW.trod_int h0.1 q0
    obtain ⟨u1, l1, e1, r1⟩ := rd_ints h1.1 he hc q1
    obtain ⟨n2, z2, _⟩ := DataW.trod_int h2.1 q2
    simp at z0 e1 z2
    subst z0 e1 z2
    exact ⟨n0, v1, l1, n2, rfl, r1⟩
/-- A store, a collector, operations, a number, a truth value. -/
theorem rd_both {t e eo u : TypeId} {k0 k1 k2 k3 k4 f0 f1 g0 g1 g2 a0 a1 a2 b0 b1 b2 : Field} {fuel : Nat} {cs : List Value} {x : DataW H × List MemPlace} (hk : P.underlying t = some (.struct #[k0, k1, k2, k3, k4]))
    (hko : k0.offset = 0 ∧ k1.offset = 4 ∧ k2.offset = 7 ∧ k3.offset = 8 ∧ k4.offset = 9 ∧ P.cellsOf t = 10)
    (ht : P.underlying k0.type = some (.struct #[f0, f1])) (ho : f0.offset = 0 ∧ f1.offset = 3 ∧ P.cellsOf k0.type = 4)
    (hh : P.underlying f0.type = some (.struct #[g0, g1, g2])) (go : g0.offset = 0 ∧ g1.offset = 1 ∧ g2.offset = 2 ∧ P.cellsOf f0.type = 3)
    (h1 : P.underlying g0.type = some (.slice e) ∧ P.underlying g1.type = some (.slice e) ∧ P.underlying g2.type = some (.slice e)) (hz : P.cellsOf g0.type = 1 ∧ P.cellsOf g1.type = 1 ∧ P.cellsOf g2.type = 1)
    (h2 : P.underlying f1.type = some (.slice e) ∧ P.cellsOf f1.type = 1) (he : P.underlying e = some (.int .i64)) (hc : P.cellsOf e = 1)
    (hg : P.underlying k1.type = some (.struct #[a0, a1, a2])) (ga : a0.offset = 0 ∧ a1.offset = 1 ∧ a2.offset = 2 ∧ P.cellsOf k1.type = 3)
    (p0 : P.underlying a0.type = some (.int .i64) ∧ P.cellsOf a0.type = 1) (p1 : P.underlying a1.type = some (.slice e) ∧ P.cellsOf a1.type = 1) (p2 : P.underlying a2.type = some (.int .i64) ∧ P.cellsOf a2.type = 1)
    (hop : P.underlying k2.type = some (.slice eo) ∧ P.cellsOf k2.type = 1) (heo : P.underlying eo = some (.struct #[b0, b1, b2])) (hf : b0.type = u ∧ b1.type = u ∧ b2.type = u ∧ b0.offset = 0 ∧ b1.offset = 1 ∧ b2.offset = 2) (hu : P.underlying u = some (.int .i64)) (ce : P.cellsOf eo = 3) (cu : P.cellsOf u = 1)
    (h3 : P.underlying k3.type = some (.int .i64) ∧ P.cellsOf k3.type = 1) (h4 : P.underlying k4.type = some .bool ∧ P.cellsOf k4.type = 1)
    (h : DataW.trod enc P w 0 (fun _ => true) held fuel t cs = some x) : ∃ v0 v1 v2 v3 v4 v5 l0 l1 l2 l3 l4 l5 n m q b, cs = [v0, v1, v2, v3, .int .i64 n, v4, .int .i64 m, v5, .int .i64 q, .bool b] ∧ RdI .i64 w v0 l0 ∧ RdI .i64 w v1 l1 ∧ RdI .i64 w v2 l2 ∧ RdI .i64 w v3 l3 ∧ RdI .i64 w v4 l4 ∧ RdO w v5 l5 := by
  obtain ⟨xs, _, _, rfl, hl, hlen, hfi⟩ := DataW.trod_struct hk h
  rw [hko.2.2.2.2.2] at hl
  match xs, hlen, cs, hl with
  | [y0, y1, y2, y3, y4], _, [v0, v1, v2, v3, v4, v5, v6, v7, v8, v9], _ =>
    have q0 := hfi 0 k0 rfl
    have q1 := hfi 1 k1 rfl
    have q2 := hfi 2 k2 rfl
    have q3 := hfi 3 k3 rfl
    have q4 := hfi 4 k4 rfl
    simp only [hko.1, hko.2.1, hko.2.2.1, hko.2.2.2.1, hko.2.2.2.2.1, ho.2.2, ga.2.2.2, hop.2, h3.2, h4.2] at q0 q1 q2 q3 q4
    simp at q0 q1 q2 q3 q4
    obtain ⟨u0, u1, u2, u3, l0, l1, l2, l3, e0, r0, r1, r2, r3⟩ := rd_store ht ho hh go h1 hz h2 he hc q0
    obtain ⟨n, u4, l4, m, e4, r4⟩ := rd_gc hg ga p0 p1 p2 he hc q1
    obtain ⟨u5, l5, e5, r5⟩ := rd_ops hop.1 heo hf hu ce cu q2
    obtain ⟨n3, z3, _⟩ := DataW.trod_int h3.1 q3
    obtain ⟨b4, z4, _⟩ := DataW.trod_bool h4.1 q4
    simp at e0 e4 e5 z3 z4
    obtain ⟨rfl, rfl, rfl, rfl⟩ := e0
    obtain ⟨rfl, rfl, rfl⟩ := e4
    subst e5 z3 z4
    exact ⟨v0, v1, v2, v3, v5, v7, l0, l1, l2, l3, l4, l5, n, m, n3, b4, rfl, r0, r1, r2, r3, r4, r5⟩
end
end Go.Proofs.YtbobhbhgomkgpaaGreatDoor.S
