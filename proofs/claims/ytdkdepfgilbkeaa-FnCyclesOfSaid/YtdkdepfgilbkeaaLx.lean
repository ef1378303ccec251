/- Contracts: the law FnCyclesOf. Own work of this claim. -/
import Derived.Test.YtdkdepfgilbkeaaGr
import Derived.Test.YtdkdepfgilbkeaaGe
namespace Go.Proofs.Ytdkdepfgilbkeaa.S
set_option linter.all false
open Go Go.Proofs
set_option maxHeartbeats 4000000
set_option maxRecDepth 100000

theorem lCyclesOf_c (B : List UInt8) (hB : B.length ≤ 9223372036854775807) : Fn Try.prog 3 [(0, .c false (.bys B))] [.sl 0 0 B.length] (fun r H => r = .bool true ∧ H = []) := by
  refine Fn_go Try.func3 ?_
  refine W_go ?_
  refine W_if (fun h1 => ?_) (fun h1 => ?_)
  · refine W_go ?_
    refine W_rt [] [] ?_
    exact ⟨rfl, rfl⟩
  have hB : B.length ≤ 1048576 := by omega
  clear h1
  refine W_go ?_
  refine W_rw fun K hK => ?_
  refine RW_x ?_
  repeat (refine And.intro (by omega) ?_)
  refine CKy (μ := [(0, (0, 0))]) ⟨⟩ (drawCyclesOf_c B hB) (fun c hc => ?_)
  try dsimp only at hc ⊢
  refine RW_x ?_
  repeat (refine And.intro (by omega) ?_)
  refine hK _ _ ?_
  unfold Cnt.dr at hc
  have hb : ((c.s.h.L.length ≤ 4194304 ∧ c.s.h.R.length ≤ 4194304 ∧ c.s.h.T.length ≤ 4194304) ∧ c.s.F.length ≤ 4194304) ∧ c.C.length ≤ 4194304 := by omega
  have hI := iCyclesOf_c c hb
  have hS := sCyclesOf_c c hb
  have hc8 := cyc_le c
  have hE := ccInts_c c.cyc c.cyc (by omega) (by omega)
  rw [decide_eq_true rfl] at hE
  have hR := iReachable_c c.s.h hb.1.1
  have hF := fun n => iIsFree_c c.s n hb.1
  have hmem : Hold (∀ i, i < c.cyc.length → (0 ≤ c.cyc.getD i 0 ∧ c.cyc.getD i 0 < c.s.h.reach.length) ∧ c.s.h.reach.getD (c.cyc.getD i 0).toNat false = false ∧ decide (c.s.ok ∧ c.cyc.getD i 0 ∈ c.s.F) = false) := by
    refine ⟨fun i hi => ?_⟩
    have hm := getD_mem hi
    by_cases g : c.valid = true
    case neg => rw [Cnt.cyc, if_neg g] at hi; simp at hi
    have ho := (Cnt.ok_iff c).1 g
    have e : c.cyc = c.s.lost := by rw [Cnt.cyc, if_pos g]
    have hm2 : c.cyc.getD i 0 ∈ c.s.lost := e ▸ hm
    obtain ⟨nf, j, hj, ej, nr⟩ := (lost_mem ho.1 _).1 hm2
    have hv := (Hp.ok_iff _).2 ho.1.1
    have hrl : c.s.h.reach.length = c.s.h.L.length := by rw [reach_len, if_pos hv]
    rw [ej, Int.toNat_natCast]
    refine ⟨by omega, ?_, decide_eq_false fun q => nf (ej ▸ q.2)⟩
    cases hb : c.s.h.reach.getD j false
    · rfl
    · exact absurd ((reach_getD hv hj).1 hb) nr
  generalize c.s.h.reach = R at *
  generalize c.cyc = l at *
  refine W_go ?_
  refine W_c1 [(0, (4104, 0)), (1, (4105, 0)), (2, (4106, 0)), (3, (4107, 0)), (4, (4108, 0))] hI ?_
  refine W_go ?_
  refine W_c2 [(0, (4104, 0)), (1, (4105, 0)), (2, (4106, 0)), (3, (4107, 0)), (4, (4108, 0))] hS [(0, (5128, 0)), (1, (6160, 0))] hE ?_
  refine W_iff ?_
  refine W_go ?_
  refine W_c1 [(0, (4104, 0)), (1, (4105, 0)), (2, (4106, 0))] hR ?_
  refine W_go ?_
  refine W_lp (T := 7) (σ := Nat) (me := fun i => [(6, .int .i64 i)]) (mh := fun _ => []) (inv := fun i => i ≤ l.length) (m := fun i => l.length - i) (s0 := 0) (Nat.zero_le _) ?_
  rintro i hi
  refine W_go ?_
  refine W_if (fun h2 => ?_) (fun h2 => ?_)
  case' refine_2 =>
    refine W_go ?_
    refine W_rt [] [] ?_
    exact ⟨rfl, rfl⟩
  have hil : i < l.length := by omega
  obtain ⟨m1, m2, m3⟩ := hmem.told i hil
  have hF := hF (l.getD i 0)
  rw [m3] at hF
  clear hI hS hE hR
  refine W_go ?_
  refine W_dch1 [(0, (4104, 0)), (1, (4105, 0)), (2, (4106, 0)), (3, (4107, 0))] hF [.g true, .g true, .g true, .g true, .g true, .g true, .g true, .c _ _ _] ?_
  refine W_iff ?_
  refine W_go ?_
  exact W_bk (i + 1) (by omega) (by omega)
end Go.Proofs.Ytdkdepfgilbkeaa.S
