/- Contracts: the law FnDropAll. Own work of this claim. -/
import Derived.Test.YtdkdepfgilbkeaaHb
namespace Go.Proofs.Ytdkdepfgilbkeaa.S
set_option linter.all false
open Go Go.Proofs
set_option maxHeartbeats 4000000
set_option maxRecDepth 100000

theorem lDropAll_c (B : List UInt8) (hB : B.length ≤ 9223372036854775807) : Fn Try.prog 4 [(0, .c false (.bys B))] [.sl 0 0 B.length] (fun r H => r = .bool true ∧ H = []) := by
  refine Fn_go Try.func4 ?_
  refine W_go ?_
  refine W_if (fun h1 => ?_) (fun h1 => ?_)
  · refine W_go ?_
    refine W_rt [] [] ?_
    exact ⟨rfl, rfl⟩
  have hB : B.length ≤ 1048576 := by omega
  clear h1
  refine W_go ?_
  refine W_rw fun K hK => ?_
  refine RW_x ?_
  repeat (refine And.intro (by omega) ?_)
  refine CKy (μ := [(0, (0, 0))]) ⟨⟩ (drawDropRoot_c B hB) (fun x hx => ?_)
  obtain ⟨c, n⟩ := x
  try dsimp only at hx ⊢
  refine RW_x ?_
  repeat (refine And.intro (by omega) ?_)
  refine hK _ _ ?_
  unfold Cnt.dr at hx
  have hb : ((c.s.h.L.length ≤ 4194304 ∧ c.s.h.R.length ≤ 4194304 ∧ c.s.h.T.length ≤ 4194304) ∧ c.s.F.length ≤ 4194304) ∧ c.C.length ≤ 4194304 := by omega
  have hI := iDropRoot_c c n hb (by omega)
  have hS := sDropRoot_c c n hb (by omega)
  have hw := Cnt.drp_len c n
  have hE := iCountedSame_t (c.drp n) (by omega)
  by_cases g0 : c.rooted n
  case neg =>
    rw [decide_eq_false g0] at hI hS
    clear g0
    generalize c.drp n = w at *
    refine W_go ?_
    refine W_c1 [(0, (4104, 0)), (1, (4105, 0)), (2, (4106, 0)), (3, (4107, 0)), (4, (4108, 0))] hI ?_
    refine W_go ?_
    refine W_c1 [(0, (4104, 0)), (1, (4105, 0)), (2, (4106, 0)), (3, (4107, 0)), (4, (4108, 0))] hS ?_
    refine W_go ?_
    refine W_c1 [(0, (5136, 0)), (1, (5137, 0)), (2, (5138, 0)), (3, (5139, 0)), (4, (5140, 0)), (5, (6160, 0)), (6, (6161, 0)), (7, (6162, 0)), (8, (6163, 0)), (9, (6164, 0))] hE ?_
    refine W_ift ?_
    refine W_go ?_
    refine W_c1 [(0, (5136, 0)), (1, (5137, 0)), (2, (5138, 0)), (3, (5139, 0)), (4, (5140, 0)), (5, (6160, 0)), (6, (6161, 0)), (7, (6162, 0)), (8, (6163, 0)), (9, (6164, 0))] hE ?_
    refine W_go ?_
    refine W_rt [] [] ?_
    exact ⟨rfl, rfl⟩
  rw [decide_eq_true g0] at hI hS
  have hd : Hold ((c.drp n).ok) := ⟨(drp_ok g0).1⟩
  clear g0
  generalize c.drp n = w at *
  refine W_go ?_
  refine W_c1 [(0, (4104, 0)), (1, (4105, 0)), (2, (4106, 0)), (3, (4107, 0)), (4, (4108, 0))] hI ?_
  refine W_go ?_
  refine W_c1 [(0, (4104, 0)), (1, (4105, 0)), (2, (4106, 0)), (3, (4107, 0)), (4, (4108, 0))] hS ?_
  refine W_go ?_
  refine W_c1 [(0, (5136, 0)), (1, (5137, 0)), (2, (5138, 0)), (3, (5139, 0)), (4, (5140, 0)), (5, (6160, 0)), (6, (6161, 0)), (7, (6162, 0)), (8, (6163, 0)), (9, (6164, 0))] hE ?_
  refine W_iff ?_
  refine W_go ?_
  clear hI hS hE
  have hw : ((w.s.h.L.length ≤ 4194304 ∧ w.s.h.R.length ≤ 4194304 ∧ w.s.h.T.length ≤ 4194304) ∧ w.s.F.length ≤ 4194304) ∧ w.C.length ≤ 4194304 := by omega
  refine W_lp (T := 10) (σ := Cnt × Nat) (me := fun x => [(9, .int .i64 x.2)]) (mh := fun x => [(5136, .c true (.ints x.1.s.h.L)), (5137, .c true (.ints x.1.s.h.R)), (5138, .c true (.ints x.1.s.h.T)), (5139, .c true (.ints x.1.s.F)), (5140, .c true (.ints x.1.C)), (5168, .c true (.av 1 [.sl 5136 0 x.1.s.h.L.length, .sl 5137 0 x.1.s.h.R.length, .sl 5138 0 x.1.s.h.T.length, .sl 5139 0 x.1.s.F.length, .sl 5140 0 x.1.C.length]))])
    (inv := fun x => Hold (x.1.ok ∧ ∀ j, j < x.2 → x.1.s.h.T.getD j 0 = -1) ∧ x.2 ≤ x.1.s.h.T.length ∧ x.1.s.h.T.length ≤ 3) (m := fun x => 3 - x.2) (s0 := (w, 0)) ⟨⟨hd.told, fun j hj => by dsimp only at hj; omega⟩, Nat.zero_le _, hd.told.1.1.1.2.2.2.2⟩ ?_
  clear hd hw hx hb
  rintro ⟨x, i⟩ ⟨hI, hi⟩
  dsimp only at hI hi ⊢
  obtain ⟨ho, hz⟩ := hI.told
  have l8 := ho.1.1.1
  have bF := ho.1.le
  have bC : x.C.length ≤ 8 := by rw [ho.2]; exact cnt_le _
  have hb : (((x.s.h.L.length ≤ 8 ∧ x.s.h.R.length ≤ 8 ∧ x.s.h.T.length ≤ 3) ∧ x.s.F.length ≤ 8) ∧ x.C.length ≤ 8) := by omega
  have hbb : ((x.s.h.L.length ≤ 4194304 ∧ x.s.h.R.length ≤ 4194304 ∧ x.s.h.T.length ≤ 4194304) ∧ x.s.F.length ≤ 4194304) ∧ x.C.length ≤ 4194304 := by omega
  clear l8 bF bC
  have hV := iCountedValid_c x hbb
  rw [(Cnt.ok_iff x).2 ho] at hV
  have hL := iCountLive_c x.s.h hbb.1.1
  have hY := iCyclesOf_c x hbb
  have c8 := cyc_le x
  have hfin : Hold (x.s.h.T.length ≤ i → x.s.h.live = 0 ∧ x.cyc.length + x.s.F.length = x.C.length) := ⟨fun q => by
    have hT : ∀ j, j < x.s.h.T.length → x.s.h.T.getD j 0 = -1 := fun j hj => hz j (by omega)
    exact ⟨(dead_all ho.1 hT).1, cyc_all ho hT⟩⟩
  have hstep : Hold (i < x.s.h.T.length → x.rooted (i : Int) ∧ (x.drp i).ok ∧ (∀ j, j < i + 1 → (x.drp i).s.h.T.getD j 0 = -1) ∧ (x.drp i).s.h.T.length = x.s.h.T.length) := ⟨fun q => by
    have hr : x.rooted (i : Int) := ⟨(Cnt.ok_iff x).2 ho, by omega, by omega⟩
    obtain ⟨e1, e2, e3⟩ := drp_ok hr
    refine ⟨hr, e1, fun j hj => ?_, by rw [e2]; simp⟩
    rw [e2, Int.toNat_natCast, getD_set' (by omega)]
    split
    · rfl
    · exact hz j (by omega)⟩
  have hD := iDropRoot_c x i hbb (by omega)
  clear hz ho hI
  generalize x.cyc = l at *
  generalize x.s.h.live = nl at *
  refine W_go ?_
  refine W_if (fun h2 => ?_) (fun h2 => ?_)
  case' refine_2 =>
    obtain ⟨f1, f2⟩ := hfin.told (by omega)
    rw [f1] at hL
    have f3 : (l.length : Int) + x.s.F.length = x.C.length := by omega
    replace f3 : Hold _ := ⟨f3⟩
    clear f1 f2 hfin hstep hD
    refine W_go ?_
    refine W_dc3 [(0, (5136, 0)), (1, (5137, 0)), (2, (5138, 0)), (3, (5139, 0)), (4, (5140, 0))] hV [(0, (5136, 0)), (1, (5137, 0)), (2, (5138, 0))] hL [(0, (5136, 0)), (1, (5137, 0)), (2, (5138, 0)), (3, (5139, 0)), (4, (5140, 0))] hY [.c _ _ _, .g true, .g true, .g true, .g true, .c _ _ _, .g true, .g true, .g true, .c _ _ _, .g true, .g true, .g true, .g true, .g true, .g true, .g true, .g true, .g true, .g true] ?_
    refine W_rt [] [] ?_
    exact ⟨by rw [decide_eq_true f3.told], rfl⟩
  have hil : i < x.s.h.T.length := by omega
  obtain ⟨r1, r2, r3, r4⟩ := hstep.told hil
  rw [decide_eq_true r1] at hD
  replace r3 : Hold _ := ⟨r3⟩
  replace r2 : Hold _ := ⟨r2⟩
  have r4a : (x.drp i).s.h.T.length ≤ 3 ∧ i + 1 ≤ (x.drp i).s.h.T.length := by omega
  clear hV hL hY hfin hstep r1 r4
  generalize x.drp i = y at *
  refine W_go ?_
  refine W_c1 [(0, (5136, 0)), (1, (5137, 0)), (2, (5138, 0)), (3, (5139, 0)), (4, (5140, 0))] hD ?_
  refine W_go ?_
  refine W_iff ?_
  refine W_go ?_
  refine W_rk 10 [(4104, (4104, 0)), (4105, (4105, 0)), (4106, (4106, 0)), (4107, (4107, 0)), (4108, (4108, 0)), (4136, (4136, 0)), (12304, (5136, 0)), (12305, (5137, 0)), (12306, (5138, 0)), (12307, (5139, 0)), (12308, (5140, 0)), (5168, (5168, 0)), (6160, (6160, 0)), (6161, (6161, 0)), (6162, (6162, 0)), (6163, (6163, 0)), (6164, (6164, 0)), (6192, (6192, 0))] ?_
  refine W_bh (y, i + 1) ⟨⟨r2.told, r3.told⟩, ?_⟩ ?_ ?_
  · dsimp only; omega
  · dsimp only; omega
  · rfl
end Go.Proofs.Ytdkdepfgilbkeaa.S
