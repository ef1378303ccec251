/- The symbolic heap: what the row's reading of an argument says of memory; a law's contract as the row asks for it. Own work of this claim. -/
import Derived.Test.YtnepiffboakehaaGreatDoorA3
import Derived.Deep.Strs
import Derived.ChangeSlices
import Derived.Below
namespace Go.Proofs.YtnepiffboakehaaGreatDoor.S
set_option linter.all false
open Go Go.ChangeShapes Go.ChangeShapes

/-- A value reads as a list of whole numbers. -/
def RdI (k : IntKind) (w : World) (v : Value) (l : List Int) : Prop :=
  (v = .slice none 0 0 ∧ l = []) ∨ ∃ (a : Addr) (len cap : Nat) (zs : List Int), v = .slice (some a) len cap ∧ len ≤ cap ∧ cap ≤ maxLen ∧ zs.length = cap ∧ (∀ i, i < zs.length → w.cell? (a.add i) = some (.int k (zs.getD i 0))) ∧ (∀ n ∈ zs, (Lit.int k n).wf = true) ∧ l = zs.take len
def locOf : Value → Option Loc
  | .slice (some a) _ cap => if cap = 0 then none else some ⟨a.block, a.off, cap, 1⟩
  | _ => none
theorem RdI.len {k : IntKind} {w : World} {v : Value} {l : List Int} (h : RdI k w v l) : l.length ≤ 9223372036854775807 := by
  rcases h with ⟨_, rfl⟩ | ⟨a, len, cap, zs, _, h1, h2, h3, _, _, rfl⟩
  · simp
  · unfold maxLen at h2; simp; omega
theorem cell_some {w : World} {a : Addr} {v : Value} (h : w.cell? a = some v) : ∃ arr T fr, w.heap[a.block]? = some (.cells arr T fr) ∧ a.spot = none ∧ arr[a.off]? = some v := by
  unfold World.cell? at h
  split at h
  · rename_i arr T fr he
    split at h
    · cases h
    · rename_i hs
      exact ⟨arr, T, fr, he, by simpa using hs, h⟩
  · cases h
theorem add_blk (a : Addr) (i : Nat) : (a.add i).block = a.block := by unfold Addr.add; split <;> rfl
theorem add_off (a : Addr) (i : Nat) : (a.add i).off = a.off + i := by
  unfold Addr.add; split
  · rename_i h; omega
  · rfl
theorem RdI.cr {k : IntKind} {w : World} {v : Value} {l : List Int} (h : RdI k w v l) {ν : Nm} {n : Nat} (hn : ν n = locOf v) : CR ν (.sl n 0 l.length) v := by
  rcases h with ⟨rfl, rfl⟩ | ⟨a, len, cap, zs, rfl, h1, h2, h3, h4, _, rfl⟩
  · exact .inr ⟨rfl, none, rfl⟩
  · by_cases hc : cap = 0
    · subst hc
      obtain rfl : len = 0 := by omega
      exact .inr ⟨by simp, some a, rfl⟩
    · simp only [locOf, if_neg hc] at hn
      obtain ⟨arr, T, fr, g1, g2, g3⟩ := cell_some (h4 0 (by omega))
      refine .inl ⟨_, cap, hn, by simp; omega, by simp, ?_⟩
      have : (zs.take len).length = len := by simp; omega
      rw [this]
      have e : a = ⟨a.block, a.off + 0, none⟩ := by
        obtain ⟨b, o, s⟩ := a
        simp [Addr.add] at g2
        simp [g2]
      rw [← e]
theorem RdI.cellsAt {k : IntKind} {w : World} {v : Value} {l : List Int} (h : RdI k w v l) {L : Loc} (hL : locOf v = some L) (P : Nat → Value → Prop) (hP : ∀ i, i < l.length → P i (.int k (l.getD i 0))) : L.esz = 1 ∧ cellsAt w L.blk L.off L.lim false P l.length := by
  rcases h with ⟨rfl, rfl⟩ | ⟨a, len, cap, zs, rfl, h1, h2, h3, h4, _, rfl⟩
  · cases hL
  · simp only [locOf] at hL
    split at hL
    · cases hL
    · rename_i hc
      cases hL
      obtain ⟨arr, T, fr, g1, g2, g3⟩ := cell_some (h4 (cap - 1) (by omega))
      rw [add_blk] at g1
      rw [add_off] at g3
      refine ⟨rfl, arr, T, fr, g1, ?_, by simp; omega, ?_, by simp⟩
      · have := (Array.getElem?_eq_some_iff.1 g3).1
        show a.off + cap ≤ arr.size
        omega
      · intro i hi
        simp at hi
        obtain ⟨arr', T', fr', k1, k2, k3⟩ := cell_some (h4 i (by omega))
        rw [add_blk] at k1
        rw [add_off] at k3
        rw [g1] at k1; cases k1
        refine ⟨_, k3, ?_⟩
        have := hP i (by simp; omega)
        have hlt : i < len := by omega
        rw [show (zs.take len).getD i 0 = zs.getD i 0 by simp [List.getD_eq_getElem?_getD, List.getElem?_take, hlt]] at this
        exact this
theorem RdI.er {w : World} {v : Value} {l : List Int} (h : RdI .i64 w v l) {ν : Nm} {n : Nat} (hn : ν n = locOf v) : ER ν w n (.c false (.ints l)) := by
  simp only [ER, hn]
  split
  · rename_i hL
    rcases h with ⟨rfl, rfl⟩ | ⟨a, len, cap, zs, rfl, h1, h2, h3, h4, _, rfl⟩
    · rfl
    · simp only [locOf] at hL
      split at hL
      · rename_i hc
        obtain rfl : len = 0 := by omega
        rfl
      · cases hL
  · rename_i L hL
    have := h.cellsAt hL (fun i v => ∃ c, (LV.ints l).toL[i]? = some c ∧ CR ν c v) (fun i hi => ⟨.int .i64 (l.getD i 0), by simp [LV.toL, List.getD_eq_getElem?_getD, hi], rfl⟩)
    refine ⟨this.1, ?_⟩
    have e : (LV.ints l).toL.length = l.length := by simp [LV.toL]
    rw [e]
    exact this.2

/-- Whole numbers as bytes. -/
def bysOf (l : List Int) : List UInt8 := l.map fun x => UInt8.ofNat x.toNat
theorem bysOf_len (l : List Int) : (bysOf l).length = l.length := by simp [bysOf]
theorem RdI.crB {w : World} {v : Value} {l : List Int} (h : RdI .u8 w v l) {ν : Nm} {n : Nat} (hn : ν n = locOf v) : CR ν (.sl n 0 (bysOf l).length) v := by
  rw [bysOf_len]; exact h.cr hn
theorem RdI.erB {w : World} {v : Value} {l : List Int} (h : RdI .u8 w v l) {ν : Nm} {n : Nat} (hn : ν n = locOf v) : ER ν w n (.c false (.bys (bysOf l))) := by
  have hb : ∀ i, i < l.length → 0 ≤ l.getD i 0 ∧ l.getD i 0 < 256 := by
    intro i hi
    rcases h with ⟨_, rfl⟩ | ⟨a, len, cap, zs, _, h1, h2, h3, _, hw, rfl⟩
    · simp at hi
    · simp at hi
      have hz : i < zs.length := by omega
      have hm : zs.getD i 0 ∈ zs := by
        have e : zs.getD i 0 = zs[i] := by simp [List.getD_eq_getElem?_getD, hz]
        rw [e]; exact List.getElem_mem hz
      have := hw _ hm
      have hlt : i < len := by omega
      rw [show (zs.take len).getD i 0 = zs.getD i 0 by simp only [List.getD_eq_getElem?_getD, List.getElem?_take, hlt, if_true]]
      simp only [Lit.wf, Bool.and_eq_true, decide_eq_true_eq] at this
      have e1 : IntKind.min .u8 = 0 := by decide
      have e2 : IntKind.max .u8 = 255 := by decide
      rw [e1, e2] at this
      omega
  simp only [ER, hn]
  split
  · rename_i hL
    rcases h with ⟨rfl, rfl⟩ | ⟨a, len, cap, zs, rfl, h1, h2, h3, h4, _, rfl⟩
    · rfl
    · simp only [locOf] at hL
      split at hL
      · rename_i hc
        obtain rfl : len = 0 := by omega
        rfl
      · cases hL
  · rename_i L hL
    have := h.cellsAt hL (fun i v => ∃ c, (LV.bys (bysOf l)).toL[i]? = some c ∧ CR ν c v) (fun i hi => ⟨.int .u8 (l.getD i 0), by
      have hi' : l[i]? = some (l.getD i 0) := by simp [List.getD_eq_getElem?_getD, hi]
      have := hb i hi
      simp only [LV.toL, bysOf, List.getElem?_map, hi', Option.map_some, Option.some.injEq, AV.int.injEq, true_and]
      rw [UInt8.toNat_ofNat']
      omega, rfl⟩)
    refine ⟨this.1, ?_⟩
    have e : (LV.bys (bysOf l)).toL.length = l.length := by simp [LV.toL, bysOf]
    rw [e]
    exact this.2

section
variable {H : Type} {enc : TypeId × Value → H} {P : Program} {w : World} {held : Bool}
theorem rd_ints {t e : TypeId} {k : IntKind} {fuel : Nat} {cs : List Value} {x : DataW H × List MemPlace} (ht : P.underlying t = some (.slice e)) (he : P.underlying e = some (.int k)) (hc : P.cellsOf e = 1)
    (h : DataW.trod enc P w 0 (fun _ => true) held fuel t cs = some x) : ∃ v l, cs = [v] ∧ RdI k w v l := by
  rcases open_ints ht he hc h with ⟨hcs, _⟩ | ⟨a, len, cap, zs, hcs, _, hl, hm, hz, _, hcell, hwf⟩
  · exact ⟨_, [], hcs, .inl ⟨rfl, rfl⟩⟩
  · exact ⟨_, _, hcs, .inr ⟨a, len, cap, zs, rfl, hl, hm, by simpa using hz, hcell, hwf, rfl⟩⟩
end

/-- A law's contract over arguments that are read alone, as the row asks for it. -/
theorem Fn_law {P : Program} {f : Nat} {H0 : Heap} {args : List AV} (hf : Fn P f H0 args fun r H => r = .bool true ∧ H = []) (ro : ∀ n e, aget H0 n = some e → e.isOwn = false) {ν : Nm} {w : World} {vs : Array Value}
    (er : ∀ n e, aget H0 n = some e → ER ν w n e) (dom : ∀ n, aget H0 n = none → ν n = none) (hv : F2 (VR ν) args vs.toList) :
    Calls P f vs w fun e w' => e = .returned (.bool true) ∧ RowKit.Below w.heap.size w w' := by
  refine (hf.calls ν w vs ⟨er, ?_, dom, fun b hb => ⟨rfl, hb.1⟩, fun n hn => ⟨rfl, hn⟩, ?_, ⟨rfl, rfl, rfl⟩⟩ trivial hv).mono ?_
  · intro n m e e' h1 h2
    rw [ro n e h1] at h2; cases h2
  · intro n e L h1 h2
    rw [ro n e h1] at h2; cases h2
  · rintro e w' ⟨c, r, H1, ν1, rfl, ⟨rfl, rfl⟩, _, hc, _, hi⟩
    obtain rfl : c = .bool true := hc
    have hg : ∀ b, b < w.heap.size → Gof ν H0 w b := fun b hb => ⟨hb, fun n e L h1 h2 => by rw [ro n e h1] at h2; cases h2⟩
    refine ⟨rfl, hi.fx.1, hi.fx.2.1, hi.fx.2.2, ?_, fun b hb => (hi.gfr b (hg b hb)).1⟩
    by_cases h0 : w.heap.size = 0
    · omega
    · have := (hi.gfr (w.heap.size - 1) (hg _ (by omega))).2
      omega
end Go.Proofs.YtnepiffboakehaaGreatDoor.S
