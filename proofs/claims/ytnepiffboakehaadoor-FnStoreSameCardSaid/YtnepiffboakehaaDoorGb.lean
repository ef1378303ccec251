/- Contracts: stores drawn out of bytes. Own work of this claim. -/
import Derived.Test.YtnepiffboakehaaDoorGa
import Derived.Test.YtnepiffboakehaaDoorFb
import Derived.Test.YtnepiffboakehaaDoorFw
import Derived.Test.YtnepiffboakehaaDoorFe
import Derived.Test.YtnepiffboakehaaDoorA5
namespace Go.Proofs.YtnepiffboakehaaDoor.S
set_option linter.all false
open Go Go.Proofs
set_option maxHeartbeats 4000000
set_option maxRecDepth 100000

section
variable {nt : Nat} {ks : List It} {env env' : Env} {H H' : Heap} {R : Env → Heap → Prop}
/-- A nil slice in memory is told as the begin of an empty list under a new name. -/
theorem W_em0 {P : Program} {own : Bool} {z : Nat} {l : List AV} {lv : LV} (q i n : Nat) (h : W P nt ks env (aset (aset H q (.c own (.av z (l.set i (.sl n 0 0))))) n (.c true lv)) R)
    (h0 : aget H q = some (.c own (.av z l))) (hi : l[i]? = some .emp) (hn : aget H n = none) (hlv : lv.toL = []) : W P nt ks env H R := by
  intro hk G hp hB ν a w st
  have hI := st.inv
  have hqn : q ≠ n := fun e => by subst e; rw [h0] at hn; cases hn
  have hνn : ν n = none := hI.dom n hn
  have g : ∀ m e, aget (aset (aset H q (.c own (.av z (l.set i (.sl n 0 0))))) n (.c true lv)) m = some e → m = n ∧ e = .c true lv ∨ m ≠ n ∧ ∃ e0, aget H m = some e0 ∧ e0.isOwn = e.isOwn ∧ e0.live = e.live := by
    intro m e hm
    rw [aget_aset] at hm
    split at hm
    · rename_i x; left; cases hm; exact ⟨x.symm, rfl⟩
    · rename_i x
      right
      refine ⟨fun y => x y.symm, ?_⟩
      rw [aget_aset] at hm
      split at hm
      · rename_i y; subst y; cases hm; exact ⟨_, h0, rfl, rfl⟩
      · exact ⟨e, hm, rfl, rfl⟩
  refine h hk G hp hB ν a w ⟨st.defers, st.size, st.env, ?_, ?_, ?_, hI.gfr, fun m hm => ⟨(hI.nb m hm).1, aset_ne (aset_ne (hI.nb m hm).2)⟩, ?_, hI.fx⟩
  · intro m e hm
    rw [aget_aset] at hm
    split at hm
    · rename_i x; subst x; cases hm
      simp only [ER, hνn]; exact hlv
    · rw [aget_aset] at hm
      split at hm
      · rename_i x; subst x; cases hm
        have := hI.er q _ h0
        simp only [ER, LV.toL, LV.z, List.length_set] at this ⊢
        split at this
        · rw [this] at hi; simp at hi
        · obtain ⟨e0, arr, T, fr, h1, h2, h3, h4, h5⟩ := this
          refine ⟨e0, arr, T, fr, h1, h2, h3, fun k hk => ?_, h5⟩
          obtain ⟨v, hv, c, hc, hr⟩ := h4 k hk
          by_cases e : i = k
          · subst e
            rw [hi] at hc; cases hc
            exact ⟨v, hv, .sl n 0 0, by simp [hk], .inr ⟨rfl, hr⟩⟩
          · exact ⟨v, hv, c, by rw [List.getElem?_set_ne e]; exact hc, hr⟩
      · exact hI.er m e hm
  · intro x y e e' hx hxo hy hyl hxy L L' hL hL'
    rcases g x e hx with ⟨rfl, _⟩ | ⟨_, e0, a1, a2, _⟩
    · rw [hνn] at hL; cases hL
    rcases g y e' hy with ⟨rfl, _⟩ | ⟨_, e1, b1, _, b3⟩
    · rw [hνn] at hL'; cases hL'
    exact hI.inj x y e0 e1 a1 (by rw [a2]; exact hxo) b1 (by rw [b3]; exact hyl) hxy L L' hL hL'
  · intro m hm
    rw [aget_aset] at hm
    split at hm
    · cases hm
    · rw [aget_aset] at hm
      split at hm
      · cases hm
      · exact hI.dom m hm
  · intro m e L hm ho hL
    rcases g m e hm with ⟨rfl, _⟩ | ⟨_, e0, a1, a2, _⟩
    · rw [hνn] at hL; cases hL
    · exact hI.own m e0 L a1 (by rw [a2]; exact ho) hL
theorem W_em {own : Bool} {z : Nat} {l : List AV} (q i n : Nat) (h : Wp nt ks env H' R)
    (h0 : aget H q = some (.c own (.av z l)) := by
      simp only [aget, Nat.reduceEqDiff, ↓reduceIte]
      try rfl)
    (hi : l[i]? = some .emp := by rfl)
    (hn : aget H n = none := by
      simp only [aget, Nat.reduceEqDiff, ↓reduceIte])
    (hH : aset (aset H q (.c own (.av z (l.set i (.sl n 0 0))))) n (.c true (.ints [])) = H' := by
      simp only [aset, Nat.reduceEqDiff, ↓reduceIte, List.set_cons_zero, List.set_cons_succ]
      try rfl) : Wp nt ks env H R := W_em0 q i n (by rw [hH]; exact h) h0 hi hn rfl
end
theorem l1Wrong_c (B : List UInt8) (m : Nat) (p : Int) (h : Hp) (hp : 0 ≤ p ∧ p < 1099511620000) (hm : m ≤ B.length ∧ m < 1099511627776) (hl : 1 ≤ h.L.length ∧ h.L.length ≤ 4190000 ∧ h.R.length ≤ 4190000 ∧ h.T.length ≤ 4190000) :
    Fn Tryd.prog 23 [(0, .c true (.av 1 [.sl 1 0 m, .int .i64 p])), (1, .c false (.bys B)), (2, .c false (.ints h.L)), (3, .c false (.ints h.R)), (4, .c false (.ints h.T))] [.ptr 0 0, .agg [.sl 2 0 h.L.length, .sl 3 0 h.R.length, .sl 4 0 h.T.length]]
      (fun r H => ∃ x : Hp × Int, (x.1.L.length = h.L.length ∧ x.1.R.length ≤ h.R.length + 1 ∧ x.1.T.length ≤ h.T.length + 1 ∧ p ≤ x.2 ∧ x.2 ≤ p + 3) ∧ r = .agg [.sl 100 0 x.1.L.length, .sl 101 0 x.1.R.length, .sl 102 0 x.1.T.length] ∧ H = [(0, .c true (.av 1 [.sl 1 0 m, .int .i64 x.2])), (100, .c true (.ints x.1.L)), (101, .c true (.ints x.1.R)), (102, .c true (.ints x.1.T))]) := by
  have hC := sl1Copy_c h (by omega)
  have hP := pick_c B m p 20 (by omega) hm
  have hP2 := pick_c B m (p + 1) h.L.length (by omega) hm
  have hN := num_c B m (p + 1 + 1) [-2, 8, 0] (by omega) hm (by simp)
  have hN2 := num_c B m (p + 1) [0, -1, 9] (by omega) hm (by simp)
  have b1 := pkV_b (B := B) (m := m) (n := 20) (k := p) (by omega)
  have b2 := pkV_b (B := B) (m := m) (n := h.L.length) (k := p + 1) (by omega)
  have b3 := b2.2 (by omega)
  generalize pkV B m p 20 = v at *
  generalize pkV B m (p + 1) h.L.length = v2 at *
  generalize pkN B m (p + 1 + 1) [-2, 8, 0] = v3 at *
  generalize pkN B m (p + 1) [0, -1, 9] = v4 at *
  refine Fn_go Tryd.func23 ?_
  refine W_go ?_
  refine W_c1 [(0, (2, 0)), (1, (3, 0)), (2, (4, 0))] hC ?_
  refine W_go ?_
  refine W_c1 [(0, (0, 0)), (1, (1, 0))] hP ?_
  refine W_go ?_
  refine W_if (fun h1 => ?_) (fun h1 => ?_)
  · refine W_go ?_
    refine W_dc2 [(0, (0, 0)), (1, (1, 0))] hP2 [(0, (0, 0)), (1, (1, 0)), (2, (5184, 0))] hN [.c _ _ _, .c _ _ _] ?_
    refine W_go ?_
    refine W_rt [(0, (0, 0)), (2056, (100, 0)), (2057, (101, 0)), (2058, (102, 0))] [] ?_
    refine ⟨(⟨h.L.set v2.toNat v3, h.R, h.T⟩, p + 1 + 1 + 1), ?_, ?_, ?_⟩
    · dsimp only; rw [List.length_set]; omega
    · simp
    · simp
  refine W_go ?_
  refine W_if (fun h2 => ?_) (fun h2 => ?_)
  · refine W_go ?_
    refine W_rt [(0, (0, 0)), (2056, (100, 0)), (7192, (101, 0)), (2058, (102, 0))] [] ?_
    refine ⟨(⟨h.L, h.R ++ [-1], h.T⟩, p + 1), ?_, ?_, ?_⟩
    · dsimp only; simp only [List.length_append, List.length_cons, List.length_nil, true_and]; omega
    · simp
    · simp
  refine W_go ?_
  refine W_if (fun h3 => ?_) (fun h3 => ?_)
  · refine W_go ?_
    refine W_dc1 [(0, (0, 0)), (1, (1, 0)), (2, (9240, 0))] hN2 [.c _ _ _] ?_
    refine W_go ?_
    refine W_rt [(0, (0, 0)), (2056, (100, 0)), (2057, (101, 0)), (9264, (102, 0))] [] ?_
    refine ⟨(⟨h.L, h.R, h.T ++ [v4]⟩, p + 1 + 1), ?_, ?_, ?_⟩
    · dsimp only; simp only [List.length_append, List.length_cons, List.length_nil, true_and]; omega
    · simp
    · simp
  refine W_go ?_
  refine W_if (fun h4 => ?_) (fun h4 => ?_)
  · refine W_go ?_
    refine W_rt [(0, (0, 0)), (2056, (100, 0)), (2057, (101, 0)), (11264, (102, 0))] [] ?_
    refine ⟨(⟨h.L, h.R, []⟩, p + 1), ?_, ?_, ?_⟩
    · dsimp only; simp only [List.length_nil, true_and]; omega
    · simp
    · simp
  · refine W_go ?_
    refine W_rt [(0, (0, 0)), (2056, (100, 0)), (2057, (101, 0)), (2058, (102, 0))] [] ?_
    exact ⟨(h, p + 1), by dsimp only; omega, rfl, rfl⟩
theorem sNewHeap_c (a b : Nat) (ha : 1 ≤ a ∧ a ≤ 8) (hb : 1 ≤ b ∧ b ≤ 3) : Fn Tryd.prog 29 [] [.int .i64 a, .int .i64 b]
    (fun r H => r = .tup [.agg [.sl 100 0 a, .sl 101 0 a, .sl 102 0 b], .bool true] ∧ H = [(100, .c true (.ints (List.replicate a (-1)))), (101, .c true (.ints (List.replicate a (-1)))), (102, .c true (.ints (List.replicate b (-1))))]) := by
  have h1 := sl1Many_c a (by omega)
  have h2 := sl1Many_c b (by omega)
  have c1 : ¬ (a : Int) < 1 := by omega
  have c2 : ¬ 8 < (a : Int) := by omega
  have c3 : ¬ (b : Int) < 1 := by omega
  have c4 : ¬ 3 < (b : Int) := by omega
  refine Fn_go Tryd.func29 ?_
  refine W_go ?_
  refine W_gh ?_
  refine W_iff ?_
  refine W_go ?_
  refine W_c3 [] h1 [] h1 [] h2 ?_
  refine W_go ?_
  refine W_rt [(4104, (100, 0)), (4120, (101, 0)), (4136, (102, 0))] [] ?_
  exact ⟨rfl, rfl⟩
def rngI (n : Nat) : List Int := (List.range n).map fun (i : Nat) => (i : Int)
theorem rngI_len (n : Nat) : (rngI n).length = n := by simp [rngI]
theorem rngI_succ (n : Nat) : rngI (n + 1) = rngI n ++ [(n : Int)] := by simp [rngI, List.range_succ]
theorem sNewStore_c (a b : Nat) (ha : 1 ≤ a ∧ a ≤ 8) (hb : 1 ≤ b ∧ b ≤ 3) : Fn Tryd.prog 19 [] [.int .i64 a, .int .i64 b]
    (fun r H => r = .tup [.agg [.sl 100 0 a, .sl 101 0 a, .sl 102 0 b, .sl 103 0 a], .bool true] ∧ H = [(100, .c true (.ints (List.replicate a (-1)))), (101, .c true (.ints (List.replicate a (-1)))), (102, .c true (.ints (List.replicate b (-1)))), (103, .c true (.ints (rngI a)))]) := by
  have h1 := sNewHeap_c a b ha hb
  refine Fn_go Tryd.func19 ?_
  refine W_go ?_
  refine W_c1 [] h1 ?_
  refine W_go ?_
  refine W_iff ?_
  refine W_go ?_
  refine W_em 5136 3 60000 ?_
  refine W_lp (T := 10) (σ := Nat) (me := fun s => [(9, .int .i64 s)]) (mh := fun s => [(5136, .c true (.av 1 [.sl 2064 0 a, .sl 2065 0 a, .sl 2066 0 b, .sl 60000 0 s])), (60000, .c true (.ints (rngI s)))])
    (inv := fun s => s ≤ a) (m := fun s => a - s) (s0 := 0) (Nat.zero_le _) ?_ (hh := by rfl)
  intro s hs
  have hsl := rngI_len s
  refine W_go ?_
  refine W_if (fun h2 => ?_) (fun h2 => ?_)
  · refine W_go ?_
    refine W_rk 10 [(1024, (1024, 0)), (2064, (2064, 0)), (2065, (2065, 0)), (2066, (2066, 0)), (2096, (2096, 0)), (5136, (5136, 0)), (9248, (60000, 0))] ?_
    have hts : List.take s (rngI s) = rngI s := List.take_of_length_le (by omega)
    refine W_bh (s + 1) (by omega) (by omega) ?_
    rw [rngI_succ]
    simp [hts]
  · refine W_go ?_
    obtain rfl : s = a := by omega
    refine W_rt [(2064, (100, 0)), (2065, (101, 0)), (2066, (102, 0)), (60000, (103, 0))] [] ?_
    exact ⟨rfl, rfl⟩
theorem l4Wrong_c (B : List UInt8) (m : Nat) (p : Int) (s : Sto) (hp : 0 ≤ p ∧ p < 1099511610000) (hm : m ≤ B.length ∧ m < 1099511627776) (hl : 1 ≤ s.h.L.length ∧ s.h.L.length ≤ 4100000 ∧ s.h.R.length ≤ 4100000 ∧ s.h.T.length ≤ 4100000 ∧ s.F.length ≤ 4100000) :
    Fn Tryd.prog 11 [(0, .c true (.av 1 [.sl 1 0 m, .int .i64 p])), (1, .c false (.bys B)), (2, .c false (.ints s.h.L)), (3, .c false (.ints s.h.R)), (4, .c false (.ints s.h.T)), (5, .c false (.ints s.F))] [.ptr 0 0, .agg [.sl 2 0 s.h.L.length, .sl 3 0 s.h.R.length, .sl 4 0 s.h.T.length, .sl 5 0 s.F.length]]
      (fun r H => ∃ x : Sto × Int, (x.1.h.L.length = s.h.L.length ∧ x.1.h.R.length ≤ s.h.R.length + 2 ∧ x.1.h.T.length ≤ s.h.T.length + 2 ∧ x.1.F.length ≤ s.F.length + 1 ∧ p ≤ x.2 ∧ x.2 ≤ p + 7) ∧ r = .agg [.sl 100 0 x.1.h.L.length, .sl 101 0 x.1.h.R.length, .sl 102 0 x.1.h.T.length, .sl 103 0 x.1.F.length] ∧ H = [(0, .c true (.av 1 [.sl 1 0 m, .int .i64 x.2])), (100, .c true (.ints x.1.h.L)), (101, .c true (.ints x.1.h.R)), (102, .c true (.ints x.1.h.T)), (103, .c true (.ints x.1.F))]) := by
  have hC := sl4Copy_c s (by omega)
  have hP := pick_c B m p 20 (by omega) hm
  have hN := num_c B m (p + 1) [0, 1, 8, -1] (by omega) hm (by simp)
  generalize pkV B m p 20 = v at *
  generalize pkN B m (p + 1) [0, 1, 8, -1] = v2 at *
  have hW1 := l1Wrong_c B m (p + 1) s.h (by omega) hm (by omega)
  refine Fn_go Tryd.func11 ?_
  refine W_go ?_
  refine W_c1 [(0, (2, 0)), (1, (3, 0)), (2, (4, 0)), (3, (5, 0))] hC ?_
  refine W_go ?_
  refine W_c1 [(0, (0, 0)), (1, (1, 0))] hP ?_
  refine W_go ?_
  refine W_if (fun h1 => ?_) (fun h1 => ?_)
  · refine W_go ?_
    refine W_dc1 [(0, (0, 0)), (1, (1, 0)), (2, (5144, 0))] hN [.c _ _ _] ?_
    refine W_go ?_
    refine W_rt [(0, (0, 0)), (2056, (100, 0)), (2057, (101, 0)), (2058, (102, 0)), (5168, (103, 0))] [] ?_
    refine ⟨(⟨s.h, s.F ++ [v2]⟩, p + 1 + 1), ?_, ?_, ?_⟩
    · dsimp only; simp only [List.length_append, List.length_cons, List.length_nil, true_and]; omega
    · simp
    · simp
  refine W_go ?_
  refine W_if (fun h2 => ?_) (fun h2 => ?_)
  · refine W_go ?_
    refine W_rw fun K hK => ?_
    refine RW_x ?_
    repeat (refine And.intro (by omega) ?_)
    refine CKy (μ := [(0, (0, 0)), (1, (1, 0)), (2, (2056, 0)), (3, (2057, 0)), (4, (2058, 0))]) ⟨⟩ (hW1) (fun x hx => ?_)
    obtain ⟨h', p'⟩ := x
    try dsimp only at hx ⊢
    refine RW_x ?_
    repeat (refine And.intro (by omega) ?_)
    refine CKy (μ := [(0, (0, 0)), (1, (1, 0)), (2, (7200, 0)), (3, (7201, 0)), (4, (7202, 0))]) ⟨⟩ (l1Wrong_c B m p' h' (by omega) hm (by omega)) (fun y hy => ?_)
    obtain ⟨h3, p2⟩ := y
    try dsimp only at hy ⊢
    refine RW_x ?_
    repeat (refine And.intro (by omega) ?_)
    refine hK _ _ ?_
    refine W_go ?_
    refine W_rt [(0, (0, 0)), (7208, (100, 0)), (7209, (101, 0)), (7210, (102, 0)), (2059, (103, 0))] [] ?_
    refine ⟨(⟨h3, s.F⟩, p2), ?_, rfl, rfl⟩
    dsimp only; omega
  · refine W_go ?_
    refine W_rt [(0, (0, 0)), (2056, (100, 0)), (2057, (101, 0)), (2058, (102, 0)), (2059, (103, 0))] [] ?_
    refine ⟨(s, p + 1), ?_, rfl, rfl⟩
    dsimp only; omega
end Go.Proofs.YtnepiffboakehaaDoor.S
