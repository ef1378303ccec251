/- Contracts: the law FnOpsParts. Own work of this claim. -/
import Derived.Test.YtbcnkfkmonpdeaaGo
import Derived.Test.YtbcnkfkmonpdeaaGe
namespace Go.Proofs.Ytbcnkfkmonpdeaa.S
set_option linter.all false
open Go Go.Proofs
set_option maxHeartbeats 4000000
set_option maxRecDepth 100000

theorem goN_take (l : List (Int × Int × Int)) : ∀ (s : Sto) (m : Nat), m ≤ s.goN l → s.goN (l.take m) = m := by
  induction l with
  | nil => intro s m h; simp [Sto.goN] at h; simp [h, Sto.goN]
  | cons o l ih =>
    intro s m h
    cases m with
    | zero => rfl
    | succ m =>
      unfold Sto.goN at h
      by_cases g : s.runE o.1 o.2.1 o.2.2 = 0
      · rw [if_pos g] at h
        rw [List.take_succ_cons]
        unfold Sto.goN
        rw [if_pos g, ih _ _ (by omega)]
      · rw [if_neg g] at h; omega
theorem opsV_sub {l k : List (Int × Int × Int)} {n : Nat} (h : opsV l n) (hk : k.length ≤ l.length) (hm : ∀ o ∈ k, o ∈ l) : opsV k n := by
  refine ⟨by have := h.1; omega, fun j hj => ?_⟩
  have e : opAt k j = k[j] := by rw [opAt, List.getD_eq_getElem?_getD, List.getElem?_eq_getElem hj]; rfl
  rw [e]
  exact opAt_mem h (hm _ (List.getElem_mem hj))
/-- A run in two parts. -/
theorem parts {s : Sto} {l : List (Int × Int × Int)} (h : s.opsOk l) {m : Nat} (hm : m ≤ s.goN l) :
    s.opsOk (l.take m) ∧ s.opsN (l.take m) = m ∧ (s.opsS (l.take m)).opsOk ((l.drop m).take (l.length - m)) ∧ (s.opsS (l.take m)).opsN ((l.drop m).take (l.length - m)) = s.goN l - m ∧ (s.opsS (l.take m)).opsS ((l.drop m).take (l.length - m)) = s.goS l := by
  have hn := goN_le s l
  have h1 : s.opsOk (l.take m) := ⟨h.1, opsV_sub h.2 (by rw [List.length_take]; omega) (fun o q => List.mem_of_mem_take q)⟩
  have e1 := goN_take l s m hm
  have eS : s.opsS (l.take m) = s.goS (l.take m) := by rw [Sto.opsS, if_pos h1]
  have eN : s.opsN (l.take m) = m := by rw [Sto.opsN, if_pos h1, e1]
  have ed : (l.drop m).take (l.length - m) = l.drop m := List.take_of_length_le (by simp)
  have hg := goS_ok (l := l.take m) h.1 _ rfl (fun o q => opAt_mem h1.2 q)
  have h2 : (s.opsS (l.take m)).opsOk (l.drop m) := by
    rw [eS]
    exact ⟨hg.1, hg.2.2 ▸ opsV_sub h.2 (by rw [List.length_drop]; omega) (fun o q => List.mem_of_mem_drop q)⟩
  have ha := goS_app s (l.take m) (l.drop m) (by rw [e1, List.length_take]; omega)
  rw [List.take_append_drop, List.length_take] at ha
  refine ⟨h1, eN, by rw [ed]; exact h2, ?_, ?_⟩
  · rw [ed, Sto.opsN, if_pos h2, eS]; omega
  · rw [ed, Sto.opsS, if_pos h2, eS]; exact ha.1.symm
theorem lOpsParts_c (B : List UInt8) (hB : B.length ≤ 9223372036854775807) : Fn Try.prog 15 [(0, .c false (.bys B))] [.sl 0 0 B.length] (fun r H => r = .bool true ∧ H = []) := by
  refine Fn_go Try.func15 ?_
  refine W_go ?_
  refine W_if (fun h1 => ?_) (fun h1 => ?_)
  · refine W_go ?_
    refine W_rt [] [] ?_
    exact ⟨rfl, rfl⟩
  have hB : B.length ≤ 1048576 := by omega
  clear h1
  refine W_go ?_
  refine W_rw fun K hK => ?_
  refine RW_x ?_
  repeat (refine And.intro (by omega) ?_)
  refine CKy (μ := [(0, (0, 0))]) ⟨⟩ (drawRunOps_c B hB) (fun x hx => ?_)
  obtain ⟨s, l⟩ := x
  try dsimp only at hx ⊢
  refine RW_x ?_
  repeat (refine And.intro (by omega) ?_)
  refine hK _ _ ?_
  obtain ⟨hx, hll⟩ := hx
  unfold Sto.dr at hx
  have hbb : ((s.h.L.length ≤ 4194304 ∧ s.h.R.length ≤ 4194304 ∧ s.h.T.length ≤ 4194304) ∧ s.F.length ≤ 4194304) ∧ l.length ≤ 4194304 := by omega
  have hI := iRunOps_c s l hbb
  have hS := sRunOps_c s l hbb
  have hw := opsS_len s l
  have hE := iSame_t (s.opsS l) (by omega)
  by_cases g : s.opsOk l
  case neg =>
    rw [decide_eq_false g] at hI hS
    generalize s.opsS l = w at *
    generalize s.opsN l = n at *
    refine W_go ?_
    refine W_c1 [(0, (4104, 0)), (1, (4105, 0)), (2, (4106, 0)), (3, (4107, 0)), (4, (4108, 0))] hI ?_
    refine W_go ?_
    refine W_c1 [(0, (4104, 0)), (1, (4105, 0)), (2, (4106, 0)), (3, (4107, 0)), (4, (4108, 0))] hS ?_
    refine W_go ?_
    refine W_c1 [(0, (5136, 0)), (1, (5137, 0)), (2, (5138, 0)), (3, (5139, 0)), (4, (6160, 0)), (5, (6161, 0)), (6, (6162, 0)), (7, (6163, 0))] hE ?_
    refine W_ift ?_
    refine W_go ?_
    refine W_c1 [(0, (5136, 0)), (1, (5137, 0)), (2, (5138, 0)), (3, (5139, 0)), (4, (6160, 0)), (5, (6161, 0)), (6, (6162, 0)), (7, (6163, 0))] hE ?_
    refine W_go ?_
    refine W_rt [] [] ?_
    exact ⟨rfl, rfl⟩
  rw [decide_eq_true g] at hI hS
  have eS : s.opsS l = s.goS l := by rw [Sto.opsS, if_pos g]
  have eN : s.opsN l = s.goN l := by rw [Sto.opsN, if_pos g]
  rw [eS] at hI hS hE hw
  rw [eN] at hI hS
  have hn := goN_le s l
  obtain ⟨p1, p2, p3, p4, p5⟩ := parts g (m := s.goN l / 2) (by omega)
  have hu := opsS_len s (l.take (s.goN l / 2))
  have h1 := iRunOps_c s (l.take (s.goN l / 2)) ⟨hbb.1, by rw [List.length_take]; omega⟩
  have h2 := iRunOps_c (s.opsS (l.take (s.goN l / 2))) ((l.drop (s.goN l / 2)).take (l.length - s.goN l / 2)) ⟨by omega, by rw [List.length_take]; omega⟩
  rw [decide_eq_true p1, p2] at h1
  rw [decide_eq_true p3, p4, p5] at h2
  clear p1 p2 p3 p4 p5 eS eN g
  have hm : s.goN l / 2 ≤ s.goN l := by omega
  have hq : Int.tdiv ((s.goN l : Nat) : Int) 2 = ((s.goN l / 2 : Nat) : Int) := rfl
  have hs : ((s.goN l - s.goN l / 2 : Nat) : Int) = (s.goN l : Int) - (s.goN l / 2 : Nat) := by omega
  rw [hs] at h2
  clear hs
  generalize s.goN l / 2 = m at *
  have hml : m ≤ l.length := by omega
  generalize s.goS l = w at *
  generalize s.opsS (l.take m) = u at *
  generalize s.goN l = n at *
  refine W_go ?_
  refine W_c1 [(0, (4104, 0)), (1, (4105, 0)), (2, (4106, 0)), (3, (4107, 0)), (4, (4108, 0))] hI ?_
  refine W_go ?_
  refine W_c1 [(0, (4104, 0)), (1, (4105, 0)), (2, (4106, 0)), (3, (4107, 0)), (4, (4108, 0))] hS ?_
  refine W_go ?_
  refine W_c1 [(0, (5136, 0)), (1, (5137, 0)), (2, (5138, 0)), (3, (5139, 0)), (4, (6160, 0)), (5, (6161, 0)), (6, (6162, 0)), (7, (6163, 0))] hE ?_
  refine W_iff ?_
  refine W_gh ?_
  refine W_dc1 [(0, (4104, 0)), (1, (4105, 0)), (2, (4106, 0)), (3, (4107, 0)), (4, (4108, 0))] h1 [.c _ _ _] ?_
  refine W_go ?_
  refine W_dc1 [(0, (10272, 0)), (1, (10273, 0)), (2, (10274, 0)), (3, (10275, 0)), (4, (4108, m * 3))] h2 [.c _ _ _] ?_
  refine W_go ?_
  refine W_ch1 [(0, (11296, 0)), (1, (11297, 0)), (2, (11298, 0)), (3, (11299, 0)), (4, (5136, 0)), (5, (5137, 0)), (6, (5138, 0)), (7, (5139, 0))] hE ?_
  refine W_go ?_
  refine W_rt [] [] ?_
  exact ⟨rfl, rfl⟩
end Go.Proofs.Ytbcnkfkmonpdeaa.S
