/- Contracts: the law FnCollectStore. Own work of this claim. -/
import Derived.Test.YtbcnkfkmonpdeaaLf
namespace Go.Proofs.Ytbcnkfkmonpdeaa.S
set_option linter.all false
open Go Go.Proofs
set_option maxHeartbeats 4000000
set_option maxRecDepth 100000

theorem lCollectStore_c (B : List UInt8) (hB : B.length ≤ 9223372036854775807) : Fn Try.prog 13 [(0, .c false (.bys B))] [.sl 0 0 B.length] (fun r H => r = .bool true ∧ H = []) := by
  refine Fn_go Try.func13 ?_
  refine W_go ?_
  refine W_if (fun h1 => ?_) (fun h1 => ?_)
  · refine W_go ?_
    refine W_rt [] [] ?_
    exact ⟨rfl, rfl⟩
  have hB : B.length ≤ 1048576 := by omega
  clear h1
  refine W_go ?_
  refine W_rw fun K hK => ?_
  refine RW_x ?_
  repeat (refine And.intro (by omega) ?_)
  refine CKy (μ := [(0, (0, 0))]) ⟨⟩ (drawCollectStore_c B hB) (fun s hs => ?_)
  try dsimp only at hs ⊢
  refine RW_x ?_
  repeat (refine And.intro (by omega) ?_)
  refine hK _ _ ?_
  unfold Sto.dr at hs
  have hb : (s.h.L.length ≤ 4194304 ∧ s.h.R.length ≤ 4194304 ∧ s.h.T.length ≤ 4194304) ∧ s.F.length ≤ 4194304 := by omega
  have hI := iCollectStore_c s hb (by omega)
  have hS := sCollectStore_c s hb (by omega)
  have hw := coll_len' s
  have hE := iSame_t s.coll (by omega)
  by_cases g : s.ok
  case neg =>
    rw [show s.valid = false by rw [Sto.valid, decide_eq_false g]] at hI hS
    generalize s.coll = w at *
    refine W_go ?_
    refine W_c1 [(0, (4104, 0)), (1, (4105, 0)), (2, (4106, 0)), (3, (4107, 0))] hI ?_
    refine W_go ?_
    refine W_c1 [(0, (4104, 0)), (1, (4105, 0)), (2, (4106, 0)), (3, (4107, 0))] hS ?_
    refine W_go ?_
    refine W_c1 [(0, (5128, 0)), (1, (5129, 0)), (2, (5130, 0)), (3, (5131, 0)), (4, (6152, 0)), (5, (6153, 0)), (6, (6154, 0)), (7, (6155, 0))] hE ?_
    refine W_ift ?_
    refine W_go ?_
    refine W_c1 [(0, (5128, 0)), (1, (5129, 0)), (2, (5130, 0)), (3, (5131, 0)), (4, (6152, 0)), (5, (6153, 0)), (6, (6154, 0)), (7, (6155, 0))] hE ?_
    refine W_go ?_
    refine W_rt [] [] ?_
    exact ⟨rfl, rfl⟩
  rw [(Sto.ok_iff _).2 g] at hI hS
  have hR := iReachable_c s.h (by omega)
  have hv := iStoreValid_c s.coll (by omega)
  rw [(Sto.ok_iff _).2 (coll_ok g)] at hv
  have hL := iLeakedOf_c s.coll (by omega)
  rw [coll_lost g] at hL
  have hT : s.coll.h.T = s.h.T := by rw [coll_eq g]; rfl
  have hcc := ccInts_c s.coll.h.T s.h.T (by omega) (by omega)
  rw [decide_eq_true hT] at hcc
  have hlR : s.h.reach.length = s.h.L.length := by rw [reach_len, if_pos ((Hp.ok_iff _).2 g.1)]
  have hll : s.coll.h.L.length = s.h.L.length ∧ s.coll.h.R.length = s.h.L.length ∧ s.h.R.length = s.h.L.length := by
    have := g.1.1.2.2.1
    rw [coll_eq g]; simp [Sto.clr, clrL_len, this]
  have hat := fun (i : Nat) (hi : i < s.h.L.length) => coll_at g hi
  have hre := fun (i : Nat) (hi : i < s.h.L.length) => reach_getD ((Hp.ok_iff _).2 g.1) (c := i) hi
  have hok := coll_ok g
  have hF := fun (i : Int) => iIsFree_c s.coll i (by omega)
  replace hok : Hold _ := ⟨hok⟩
  replace hat : Hold _ := ⟨hat⟩
  replace hre : Hold _ := ⟨hre⟩
  replace hT : Hold _ := ⟨hT⟩
  replace hF : Hold _ := ⟨hF⟩
  have k1 : s.h.reach.length ≤ s.coll.h.L.length ∧ s.h.reach.length ≤ s.coll.h.R.length ∧ s.h.reach.length ≤ s.h.L.length ∧ s.h.reach.length ≤ s.h.R.length := by omega
  clear hll
  replace hlR : Hold _ := ⟨hlR⟩
  replace g : Hold _ := ⟨g⟩
  generalize s.coll = w at *
  generalize s.h.reach = R at *
  refine W_go ?_
  refine W_c1 [(0, (4104, 0)), (1, (4105, 0)), (2, (4106, 0)), (3, (4107, 0))] hI ?_
  refine W_go ?_
  refine W_c1 [(0, (4104, 0)), (1, (4105, 0)), (2, (4106, 0)), (3, (4107, 0))] hS ?_
  refine W_go ?_
  refine W_c1 [(0, (5128, 0)), (1, (5129, 0)), (2, (5130, 0)), (3, (5131, 0)), (4, (6152, 0)), (5, (6153, 0)), (6, (6154, 0)), (7, (6155, 0))] hE ?_
  refine W_iff ?_
  refine W_go ?_
  refine W_c1 [(0, (4104, 0)), (1, (4105, 0)), (2, (4106, 0))] hR ?_
  refine W_go ?_
  refine W_lp (T := 10) (σ := Nat) (me := fun i => [(9, .int .i64 i)]) (mh := fun _ => []) (inv := fun i => i ≤ R.length) (m := fun i => R.length - i) (s0 := 0) (Nat.zero_le _) ?_
  intro i hi
  refine W_go ?_
  refine W_if (fun h2 => ?_) (fun h2 => ?_)
  case' refine_2 =>
    refine W_go ?_
    refine W_c3 [(0, (5128, 0)), (1, (5129, 0)), (2, (5130, 0)), (3, (5131, 0))] hv [(0, (5128, 0)), (1, (5129, 0)), (2, (5130, 0)), (3, (5131, 0))] hL [(0, (5130, 0)), (1, (4106, 0))] hcc ?_
    refine W_go ?_
    refine W_rt [] [] ?_
    exact ⟨rfl, rfl⟩
  have hil : i < s.h.L.length := by have := hlR.told; omega
  have ha := hat.told i hil
  have hr := hre.told i hil
  have hf := hF.told i
  by_cases q : Reach s.h i
  · have q1 : R.getD i false = true := hr.2 q
    obtain ⟨q2, q3, q4⟩ := ha.1 q
    rw [decide_eq_false (fun z => q4 z.2)] at hf
    clear ha hr hat hre hok hT hF
    refine W_go ?_
    refine W_dch1 [(0, (5128, 0)), (1, (5129, 0)), (2, (5130, 0)), (3, (5131, 0))] hf [.w 3 (.bool true), .g true, .g true, .g true, .g true, .g true, .g true, .g true, .g true, .g true, .g true, .g true, .g true, .g true, .w 17 (.bool false), .g true, .g true, .g true, .g true, .g true, .g true, .g true, .g true, .g true, .g true, .g true, .g true, .g true, .g true, .w 31 (.bool false), .g true, .g true, .g true, .g true, .g true, Scr.c _ _ _, .g true, .g true, .g true, .g true, .g true, .w 43 (.bool true), .g true, .g true, .g false, .g false, .g false, .g false, .g true] ?_
    refine W_iff ?_
    refine W_go ?_
    exact W_bk (i + 1) (by omega) (by omega)
  · have q1 : R.getD i false = false := by
      cases h : R.getD i false
      · rfl
      · exact absurd (hr.1 h) q
    have q4 := ha.2 q
    rw [decide_eq_true (show w.ok ∧ (i : Int) ∈ w.F from ⟨hok.told, q4⟩)] at hf
    clear ha hr hat hre hok hT hF q4
    refine W_go ?_
    refine W_dch1 [(0, (5128, 0)), (1, (5129, 0)), (2, (5130, 0)), (3, (5131, 0))] hf [.w 3 (.bool false), .g false, .g false, .g false, .g false, .g false, .g false, .g false, .g false, .g false, .g false, .g false, .g false, .g false, .g false, .g false, .g false, .g false, .g false, .g false, .g false, .g false, .g false, .g false, .g false, .g false, .g false, .g false, .g false, .g false, .g false, .g false, .g false, .g false, .g true, .g true, .g true, .g true, .w 43 (.bool false), .g true, .g true, .g true, .g true, .g true, Scr.c _ _ _, .g true, .g true] ?_
    refine W_iff ?_
    refine W_go ?_
    exact W_bk (i + 1) (by omega) (by omega)
end Go.Proofs.Ytbcnkfkmonpdeaa.S
