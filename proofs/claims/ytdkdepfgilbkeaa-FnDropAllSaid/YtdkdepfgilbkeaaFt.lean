/- Contracts: pointers of counted stores given up. Own work of this claim. -/
import Derived.Test.YtdkdepfgilbkeaaFo
import Derived.Test.YtdkdepfgilbkeaaA4
namespace Go.Proofs.Ytdkdepfgilbkeaa.S
set_option linter.all false
open Go Go.Proofs
set_option maxHeartbeats 4000000
set_option maxRecDepth 100000

/-- The end of giving up. -/
def downE (L R C : List Int) (p : Int) : DS := dn 64 ⟨L, R, [], C, [p], 0⟩
theorem igiveUp_c (n : Nat) (L R T F C : List Int) (p : Int) (hn : n ≤ 8) (hT : T.length ≤ 8) (hF : F.length ≤ 1048576) (h0 : DInv n T 1 ⟨L, R, [], C, [p], 0⟩) :
    Fn Try.prog 69 [(0, .c true (.av 1 [.sl 1 0 L.length, .sl 2 0 R.length, .sl 3 0 T.length, .sl 4 0 F.length, .sl 5 0 C.length])), (1, .c true (.ints L)), (2, .c true (.ints R)), (3, .c true (.ints T)), (4, .c true (.ints F)), (5, .c true (.ints C))] [.ptr 0 0, .int .i64 p]
      (fun r H => r = .tup [] ∧ H = [(0, .c true (.av 1 [.sl 1 0 L.length, .sl 2 0 R.length, .sl 3 0 T.length, .sl 100 0 (F ++ (downE L R C p).G).length, .sl 5 0 C.length])), (1, .c true (.ints (downE L R C p).L)), (2, .c true (.ints (downE L R C p).R)), (3, .c true (.ints T)), (5, .c true (.ints (downE L R C p).C)), (100, .c true (.ints (F ++ (downE L R C p).G)))]) := by
  have hL : L.length = n := h0.lL
  have hR : R.length = n := h0.lR
  have hC : C.length = n := h0.lC
  refine Fn_go Try.func69 ?_
  refine W_mv 4 50000 ?_
  refine W_go ?_
  refine W_ft 8 ?_
  refine W_mv 2056 50008 ?_
  refine W_lp (T := 7) (σ := DS) (me := fun s => [(5, .sl 50008 0 s.W.length), (6, .int .i64 s.i)]) (mh := fun s => [(0, .c true (.av 1 [.sl 1 0 L.length, .sl 2 0 R.length, .sl 3 0 T.length, .sl 50000 0 (F ++ s.G).length, .sl 5 0 C.length])), (1, .c true (.ints s.L)), (2, .c true (.ints s.R)), (5, .c true (.ints s.C)), (50000, .c true (.ints (F ++ s.G))), (50008, .c true (.ints s.W))])
    (inv := fun s => Hold (DInv n T 1 s ∧ dn (64 - s.i) s = downE L R C p)) (m := fun s => 1 + 2 * n - s.i) (s0 := ⟨L, R, [], C, [p], 0⟩) ⟨h0, rfl⟩ ?_ (hh := by simp)
  have hLa : n ≤ L.length := by omega
  have hRa : n ≤ R.length := by omega
  have hCa : n ≤ C.length := by omega
  clear hL hR hC h0
  rintro s ⟨hI, hd⟩
  have hle := hI.le
  have hFG : (F ++ s.G).length = F.length + s.G.length := by simp
  have sL : n ≤ s.L.length := by rw [hI.lL]; exact Nat.le_refl _
  have sR : n ≤ s.R.length := by rw [hI.lR]; exact Nat.le_refl _
  have sC : n ≤ s.C.length := by rw [hI.lC]; exact Nat.le_refl _
  have hiW := hI.iW
  have hFGb : (F ++ s.G).length ≤ 1048600 := by omega
  clear hFG
  refine W_go ?_
  refine W_if (fun h1 => ?_) (fun h1 => ?_)
  · have hi : s.i < s.W.length := by omega
    have hc : s.W.getD s.i 0 = -1 ∨ 0 ≤ s.W.getD s.i 0 ∧ s.W.getD s.i 0 < n := hI.c_ok hi
    have hst := hI.step hi
    have hdn : dn (64 - (s.i + 1)) s.step = downE L R C p := by
      rw [← hd, show 64 - s.i = (64 - (s.i + 1)) + 1 by omega, dn, if_pos hi]
    have hcb : s.W.getD s.i 0 ≠ -1 → 0 ≤ s.C.getD (s.W.getD s.i 0).toNat 0 ∧ s.C.getD (s.W.getD s.i 0).toNat 0 ≤ 4 * n + T.length + 1 := fun q => hI.bound (by omega)
    replace hI : Hold _ := ⟨hI⟩
    replace hd : Hold _ := ⟨hd⟩
    replace hst : Hold _ := ⟨hst⟩
    replace hdn : Hold _ := ⟨hdn⟩
    replace hcb : Hold _ := ⟨hcb⟩
    refine W_go ?_
    refine W_if (fun h2 => ?_) (fun h2 => ?_)
    · have e : s.step = ⟨s.L, s.R, s.G, s.C, s.W, s.i + 1⟩ := by rw [DS.step, if_pos (show s.c = -1 from h2)]
      clear h2 hc
      refine W_go ?_
      have a1 := hst.told
      have a2 := hdn.told
      rw [e] at a1 a2
      exact W_bh ⟨s.L, s.R, s.G, s.C, s.W, s.i + 1⟩ ⟨a1, a2⟩ (by dsimp only; omega) (by simp)
    · have hcb' := hcb.told h2
      have hc' : 0 ≤ s.W.getD s.i 0 ∧ s.W.getD s.i 0 < n := by omega
      clear hc
      refine W_go ?_
      refine W_if (fun h3 => ?_) (fun h3 => ?_)
      · have e : s.step = ⟨s.L, s.R, s.G, s.C1, s.W, s.i + 1⟩ := by rw [DS.step, if_neg (show ¬ s.c = -1 from h2), if_pos (show 0 < s.C1.getD s.c.toNat 0 from h3)]
        replace e : Hold _ := ⟨e⟩
        clear h2 h3
        refine W_go ?_
        have a1 := hst.told
        have a2 := hdn.told
        rw [e.told] at a1 a2
        exact W_bh ⟨s.L, s.R, s.G, s.C1, s.W, s.i + 1⟩ ⟨a1, a2⟩ (by dsimp only; omega) (by simp [DS.C1, DS.c])
      · have e : s.step = ⟨s.L.set s.c.toNat (-1), s.R.set s.c.toNat (-1), s.G ++ [s.c], s.C1, s.W ++ [s.L.getD s.c.toNat 0, s.R.getD s.c.toNat 0], s.i + 1⟩ := by rw [DS.step, if_neg (show ¬ s.c = -1 from h2), if_neg (show ¬ 0 < s.C1.getD s.c.toNat 0 from h3)]
        replace e : Hold _ := ⟨e⟩
        clear h2 h3
        refine W_go ?_
        refine W_rk 7 [(12352, (50000, 0)), (1064, (1064, 0)), (2056, (2056, 0)), (10336, (50008, 0))] ?_
        have a1 := hst.told
        have a2 := hdn.told
        rw [e.told] at a1 a2
        refine W_bh ⟨s.L.set s.c.toNat (-1), s.R.set s.c.toNat (-1), s.G ++ [s.c], s.C1, s.W ++ [s.L.getD s.c.toNat 0, s.R.getD s.c.toNat 0], s.i + 1⟩ ⟨a1, a2⟩ (by dsimp only; omega) ?_
        simp [DS.c, DS.C1, List.take_of_length_le, Nat.add_assoc]
  · have e : downE L R C p = s := by rw [← hd, dn_end (by omega)]
    rw [e]
    refine W_go ?_
    refine W_re [(0, (0, 0)), (1, (1, 0)), (2, (2, 0)), (3, (3, 0)), (5, (5, 0)), (50000, (100, 0))] [] ?_
    exact ⟨rfl, by simp⟩
theorem sl9Down_c (n : Nat) (L R T F C : List Int) (p : Int) (hn : n ≤ 8) (hT : T.length ≤ 8) (hF : F.length ≤ 1048576) (h0 : DInv n T 1 ⟨L, R, [], C, [p], 0⟩) :
    Fn Try.prog 72 [(0, .c true (.ints L)), (1, .c true (.ints R)), (2, .c true (.ints T)), (3, .c true (.ints F)), (4, .c true (.ints C)), (5, .c true (.ints [p]))] [.agg [.sl 0 0 L.length, .sl 1 0 R.length, .sl 2 0 T.length, .sl 3 0 F.length, .sl 4 0 C.length], .sl 5 0 1]
      (fun r H => r = .agg [.sl 0 0 L.length, .sl 1 0 R.length, .sl 2 0 T.length, .sl 100 0 (F ++ (downE L R C p).G).length, .sl 4 0 C.length] ∧ H = [(0, .c true (.ints (downE L R C p).L)), (1, .c true (.ints (downE L R C p).R)), (2, .c true (.ints T)), (4, .c true (.ints (downE L R C p).C)), (100, .c true (.ints (F ++ (downE L R C p).G)))]) := by
  have hL : L.length = n := h0.lL
  have hR : R.length = n := h0.lR
  have hC : C.length = n := h0.lC
  refine Fn_go Try.func72 ?_
  refine W_mv 3 50000 ?_
  refine W_mv 5 50008 ?_
  refine W_go ?_
  refine W_fg [0] ?_
  refine W_lp (T := 6) (σ := DS) (me := fun s => [(1, .sl 50008 0 s.W.length), (5, .int .i64 s.i)]) (mh := fun s => [(0, .c true (.ints s.L)), (1, .c true (.ints s.R)), (4, .c true (.ints s.C)), (50000, .c true (.ints (F ++ s.G))), (50008, .c true (.ints s.W)), (1024, .c true (.av 1 [.sl 0 0 L.length, .sl 1 0 R.length, .sl 2 0 T.length, .sl 50000 0 (F ++ s.G).length, .sl 4 0 C.length]))])
    (inv := fun s => Hold (DInv n T 1 s ∧ dn (64 - s.i) s = downE L R C p)) (m := fun s => 1 + 2 * n - s.i) (s0 := ⟨L, R, [], C, [p], 0⟩) ⟨h0, rfl⟩ ?_ (hh := by simp)
  have hLa : n ≤ L.length := by omega
  have hRa : n ≤ R.length := by omega
  have hCa : n ≤ C.length := by omega
  clear hL hR hC h0
  rintro s ⟨hI, hd⟩
  have hle := hI.le
  have hFG : (F ++ s.G).length = F.length + s.G.length := by simp
  have sL : n ≤ s.L.length := by rw [hI.lL]; exact Nat.le_refl _
  have sR : n ≤ s.R.length := by rw [hI.lR]; exact Nat.le_refl _
  have sC : n ≤ s.C.length := by rw [hI.lC]; exact Nat.le_refl _
  have hiW := hI.iW
  have hFGb : (F ++ s.G).length ≤ 1048600 := by omega
  clear hFG
  refine W_go ?_
  refine W_if (fun h1 => ?_) (fun h1 => ?_)
  · have hi : s.i < s.W.length := by omega
    have hc : s.W.getD s.i 0 = -1 ∨ 0 ≤ s.W.getD s.i 0 ∧ s.W.getD s.i 0 < n := hI.c_ok hi
    have hst := hI.step hi
    have hdn : dn (64 - (s.i + 1)) s.step = downE L R C p := by
      rw [← hd, show 64 - s.i = (64 - (s.i + 1)) + 1 by omega, dn, if_pos hi]
    have hcb : s.W.getD s.i 0 ≠ -1 → 0 ≤ s.C.getD (s.W.getD s.i 0).toNat 0 ∧ s.C.getD (s.W.getD s.i 0).toNat 0 ≤ 4 * n + T.length + 1 := fun q => hI.bound (by omega)
    replace hI : Hold _ := ⟨hI⟩
    replace hd : Hold _ := ⟨hd⟩
    replace hst : Hold _ := ⟨hst⟩
    replace hdn : Hold _ := ⟨hdn⟩
    replace hcb : Hold _ := ⟨hcb⟩
    refine W_go ?_
    refine W_if (fun h2 => ?_) (fun h2 => ?_)
    · have e : s.step = ⟨s.L, s.R, s.G, s.C, s.W, s.i + 1⟩ := by rw [DS.step, if_pos (show s.c = -1 from h2)]
      clear h2 hc
      refine W_go ?_
      have a1 := hst.told
      have a2 := hdn.told
      rw [e] at a1 a2
      exact W_bh ⟨s.L, s.R, s.G, s.C, s.W, s.i + 1⟩ ⟨a1, a2⟩ (by dsimp only; omega) (by simp)
    · have hcb' := hcb.told h2
      have hc' : 0 ≤ s.W.getD s.i 0 ∧ s.W.getD s.i 0 < n := by omega
      clear hc
      refine W_go ?_
      refine W_if (fun h3 => ?_) (fun h3 => ?_)
      · have e : s.step = ⟨s.L, s.R, s.G, s.C1, s.W, s.i + 1⟩ := by rw [DS.step, if_neg (show ¬ s.c = -1 from h2), if_pos (show 0 < s.C1.getD s.c.toNat 0 from h3)]
        replace e : Hold _ := ⟨e⟩
        clear h2 h3
        refine W_go ?_
        have a1 := hst.told
        have a2 := hdn.told
        rw [e.told] at a1 a2
        exact W_bh ⟨s.L, s.R, s.G, s.C1, s.W, s.i + 1⟩ ⟨a1, a2⟩ (by dsimp only; omega) (by simp [DS.C1, DS.c])
      · have e : s.step = ⟨s.L.set s.c.toNat (-1), s.R.set s.c.toNat (-1), s.G ++ [s.c], s.C1, s.W ++ [s.L.getD s.c.toNat 0, s.R.getD s.c.toNat 0], s.i + 1⟩ := by rw [DS.step, if_neg (show ¬ s.c = -1 from h2), if_neg (show ¬ 0 < s.C1.getD s.c.toNat 0 from h3)]
        replace e : Hold _ := ⟨e⟩
        clear h2 h3
        refine W_go ?_
        refine W_rk 6 [(12328, (50000, 0)), (9344, (50008, 0)), (1024, (1024, 0)), (1032, (1032, 0))] ?_
        have a1 := hst.told
        have a2 := hdn.told
        rw [e.told] at a1 a2
        refine W_bh ⟨s.L.set s.c.toNat (-1), s.R.set s.c.toNat (-1), s.G ++ [s.c], s.C1, s.W ++ [s.L.getD s.c.toNat 0, s.R.getD s.c.toNat 0], s.i + 1⟩ ⟨a1, a2⟩ (by dsimp only; omega) ?_
        simp [DS.c, DS.C1, List.take_of_length_le, Nat.add_assoc]
  · have e : downE L R C p = s := by rw [← hd, dn_end (by omega)]
    rw [e]
    refine W_go ?_
    refine W_rt [(0, (0, 0)), (1, (1, 0)), (2, (2, 0)), (4, (4, 0)), (50000, (100, 0))] [] ?_
    exact ⟨by simp, by simp⟩
end Go.Proofs.Ytdkdepfgilbkeaa.S
