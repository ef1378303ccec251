/- Contracts: stores drawn out of bytes. Own work of this claim. -/
import Derived.Test.YtnepiffboakehaaGreatDoorGa
import Derived.Test.YtnepiffboakehaaGreatDoorFb
import Derived.Test.YtnepiffboakehaaGreatDoorFw
import Derived.Test.YtnepiffboakehaaGreatDoorFe
import Derived.Test.YtnepiffboakehaaGreatDoorA5
namespace Go.Proofs.YtnepiffboakehaaGreatDoor.S
set_option linter.all false
open Go Go.Proofs
variable {D : Cx}
set_option maxHeartbeats 4000000
set_option maxRecDepth 100000

section
variable {nt : Nat} {ks : List It} {env env' : Env} {H H' : Heap} {R : Env → Heap → Prop}
/-- A nil slice in memory is told as the begin of an empty list under a new name. -/
theorem W_em0 {P : Program} {own : Bool} {z : Nat} {l : List AV} {lv : LV} (q i n : Nat) (h : W D P nt ks env (aset (aset H q (.c own (.av z (l.set i (.sl n 0 0))))) n (.c true lv)) R)
    (h0 : aget H q = some (.c own (.av z l))) (hi : l[i]? = some .emp) (hn : aget H n = none) (hlv : lv.toL = []) : W D P nt ks env H R := by
  intro hk G hp hB hD ν a w st
  have hI := st.inv
  have hqn : q ≠ n := fun e => by subst e; rw [h0] at hn; cases hn
  have hνn : ν n = none := hI.dom n hn
  have g : ∀ m e, aget (aset (aset H q (.c own (.av z (l.set i (.sl n 0 0))))) n (.c true lv)) m = some e → m = n ∧ e = .c true lv ∨ m ≠ n ∧ ∃ e0, aget H m = some e0 ∧ e0.isOwn = e.isOwn ∧ e0.live = e.live := by
    intro m e hm
    rw [aget_aset] at hm
    split at hm
    · rename_i x; left; cases hm; exact ⟨x.symm, rfl⟩
    · rename_i x
      right
      refine ⟨fun y => x y.symm, ?_⟩
      rw [aget_aset] at hm
      split at hm
      · rename_i y; subst y; cases hm; exact ⟨_, h0, rfl, rfl⟩
      · exact ⟨e, hm, rfl, rfl⟩
  refine h hk G hp hB hD ν a w ⟨st.defers, st.size, st.env, ?_, ?_, ?_, hI.gfr, fun m hm => ⟨(hI.nb m hm).1, aset_ne (aset_ne (hI.nb m hm).2)⟩, ?_, hI.fx⟩
  · intro m e hm
    rw [aget_aset] at hm
    split at hm
    · rename_i x; subst x; cases hm
      simp only [ER, hνn]; exact hlv
    · rw [aget_aset] at hm
      split at hm
      · rename_i x; subst x; cases hm
        have := hI.er q _ h0
        simp only [ER, LV.toL, LV.z, List.length_set] at this ⊢
        split at this
        · rw [this] at hi; simp at hi
        · obtain ⟨e0, arr, T, fr, h1, h2, h3, h4, h5⟩ := this
          refine ⟨e0, arr, T, fr, h1, h2, h3, fun k hk => ?_, h5⟩
          obtain ⟨v, hv, c, hc, hr⟩ := h4 k hk
          by_cases e : i = k
          · subst e
            rw [hi] at hc; cases hc
            exact ⟨v, hv, .sl n 0 0, by simp [hk], .inr ⟨rfl, hr⟩⟩
          · exact ⟨v, hv, c, by rw [List.getElem?_set_ne e]; exact hc, hr⟩
      · exact hI.er m e hm
  · intro x y e e' hx hxo hy hyl hxy L L' hL hL'
    rcases g x e hx with ⟨rfl, _⟩ | ⟨_, e0, a1, a2, _⟩
    · rw [hνn] at hL; cases hL
    rcases g y e' hy with ⟨rfl, _⟩ | ⟨_, e1, b1, _, b3⟩
    · rw [hνn] at hL'; cases hL'
    exact hI.inj x y e0 e1 a1 (by rw [a2]; exact hxo) b1 (by rw [b3]; exact hyl) hxy L L' hL hL'
  · intro m hm
    rw [aget_aset] at hm
    split at hm
    · cases hm
    · rw [aget_aset] at hm
      split at hm
      · cases hm
      · exact hI.dom m hm
  · intro m e L hm ho hL
    rcases g m e hm with ⟨rfl, _⟩ | ⟨_, e0, a1, a2, _⟩
    · rw [hνn] at hL; cases hL
    · exact hI.own m e0 L a1 (by rw [a2]; exact ho) hL
theorem W_em {own : Bool} {z : Nat} {l : List AV} (q i n : Nat) (h : Wp D nt ks env H' R)
    (h0 : aget H q = some (.c own (.av z l)) := by
      simp only [aget, Nat.reduceEqDiff, ↓reduceIte]
      try rfl)
    (hi : l[i]? = some .emp := by rfl)
    (hn : aget H n = none := by
      simp only [aget, Nat.reduceEqDiff, ↓reduceIte])
    (hH : aset (aset H q (.c own (.av z (l.set i (.sl n 0 0))))) n (.c true (.ints [])) = H' := by
      simp only [aset, Nat.reduceEqDiff, ↓reduceIte, List.set_cons_zero, List.set_cons_succ]
      try rfl) : Wp D nt ks env H R := W_em0 q i n (by rw [hH]; exact h) h0 hi hn rfl
end
theorem sNewHeap_c (a b : Nat) (ha : 1 ≤ a ∧ a ≤ 8) (hb : 1 ≤ b ∧ b ≤ 3) : Fn Tryz.prog 109 [] [.int .i64 a, .int .i64 b]
    (fun r H => r = .tup [.agg [.sl 100 0 a, .sl 101 0 a, .sl 102 0 b], .bool true] ∧ H = [(100, .c true (.ints (List.replicate a (-1)))), (101, .c true (.ints (List.replicate a (-1)))), (102, .c true (.ints (List.replicate b (-1))))]) := by
  have h1 := sl1Many_c a (by omega)
  have h2 := sl1Many_c b (by omega)
  have c1 : ¬ (a : Int) < 1 := by omega
  have c2 : ¬ 8 < (a : Int) := by omega
  have c3 : ¬ (b : Int) < 1 := by omega
  have c4 : ¬ 3 < (b : Int) := by omega
  refine Fn_go Tryz.func109 ?_
  refine W_go ?_
  refine W_gh ?_
  refine W_iff ?_
  refine W_go ?_
  refine W_c3 [] h1 [] h1 [] h2 ?_
  refine W_go ?_
  refine W_rt [(4104, (100, 0)), (4120, (101, 0)), (4136, (102, 0))] [] ?_
  exact ⟨rfl, rfl⟩
def rngI (n : Nat) : List Int := (List.range n).map fun (i : Nat) => (i : Int)
theorem rngI_len (n : Nat) : (rngI n).length = n := by simp [rngI]
theorem rngI_succ (n : Nat) : rngI (n + 1) = rngI n ++ [(n : Int)] := by simp [rngI, List.range_succ]
theorem sNewStore_c (a b : Nat) (ha : 1 ≤ a ∧ a ≤ 8) (hb : 1 ≤ b ∧ b ≤ 3) : Fn Tryz.prog 60 [] [.int .i64 a, .int .i64 b]
    (fun r H => r = .tup [.agg [.sl 100 0 a, .sl 101 0 a, .sl 102 0 b, .sl 103 0 a], .bool true] ∧ H = [(100, .c true (.ints (List.replicate a (-1)))), (101, .c true (.ints (List.replicate a (-1)))), (102, .c true (.ints (List.replicate b (-1)))), (103, .c true (.ints (rngI a)))]) := by
  have h1 := sNewHeap_c a b ha hb
  refine Fn_go Tryz.func60 ?_
  refine W_go ?_
  refine W_c1 [] h1 ?_
  refine W_go ?_
  refine W_iff ?_
  refine W_go ?_
  refine W_em 5136 3 60000 ?_
  refine W_lp (T := 10) (σ := Nat) (me := fun s => [(9, .int .i64 s)]) (mh := fun s => [(5136, .c true (.av 1 [.sl 2064 0 a, .sl 2065 0 a, .sl 2066 0 b, .sl 60000 0 s])), (60000, .c true (.ints (rngI s)))])
    (inv := fun s => s ≤ a) (m := fun s => a - s) (s0 := 0) (Nat.zero_le _) ?_ (hh := by rfl)
  intro s hs
  have hsl := rngI_len s
  refine W_go ?_
  refine W_if (fun h2 => ?_) (fun h2 => ?_)
  · refine W_go ?_
    refine W_rk 10 [(1024, (1024, 0)), (2064, (2064, 0)), (2065, (2065, 0)), (2066, (2066, 0)), (2096, (2096, 0)), (5136, (5136, 0)), (9248, (60000, 0))] ?_
    have hts : List.take s (rngI s) = rngI s := List.take_of_length_le (by omega)
    refine W_bh (s + 1) (by omega) (by omega) ?_
    rw [rngI_succ]
    simp [hts]
  · refine W_go ?_
    obtain rfl : s = a := by omega
    refine W_rt [(2064, (100, 0)), (2065, (101, 0)), (2066, (102, 0)), (60000, (103, 0))] [] ?_
    exact ⟨rfl, rfl⟩
end Go.Proofs.YtnepiffboakehaaGreatDoor.S
