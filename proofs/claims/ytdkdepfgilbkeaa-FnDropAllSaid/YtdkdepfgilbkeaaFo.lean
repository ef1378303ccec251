/- Contracts: counted stores. Own work of this claim. -/
import Derived.Test.YtdkdepfgilbkeaaFe
import Derived.Test.YtdkdepfgilbkeaaFi
namespace Go.Proofs.Ytdkdepfgilbkeaa.S
set_option linter.all false
open Go Go.Proofs
set_option maxHeartbeats 4000000
set_option maxRecDepth 100000

structure Cnt where
  s : Sto
  C : List Int
def Cnt.ok (c : Cnt) : Prop := c.s.ok ∧ c.C = c.s.h.cnt
instance decFo1 (c : Cnt) : Decidable c.ok := by unfold Cnt.ok; infer_instance
def Cnt.valid (c : Cnt) : Bool := decide c.ok
theorem Cnt.ok_iff (c : Cnt) : c.valid = true ↔ c.ok := by simp [Cnt.valid]
noncomputable def Cnt.cyc (c : Cnt) : List Int := if c.valid then c.s.lost else []
def Cnt.same (a b : Cnt) : Bool := a.s.same b.s && decide (a.C = b.C)
theorem Cnt.same_self (a : Cnt) : a.same a = true := by simp [Cnt.same, Sto.same_self]
def szC (c : Cnt) (n : Int) : Int := if szS c.s n < 0 then -1 else if szI c.C (szS c.s n) < 0 then -1 else szI c.C (szS c.s n)
theorem szS_lt (s : Sto) (n : Int) : szS s n = -1 ∨ 0 ≤ szS s n ∧ szS s n ≤ n := by
  have s1 := @szH_lt s.h n
  have s2 := @szI_lt s.F (szH s.h n)
  unfold szS
  split
  · omega
  · split <;> omega
theorem szC_ok {c : Cnt} {n : Int} (h : ¬ szC c n < 0) : (c.s.h.L.length : Int) + c.s.h.R.length + c.s.h.T.length + c.s.F.length + c.C.length ≤ n := by
  have s0 : szS c.s n = -1 ∨ (szS c.s n : Int) = n - c.s.h.L.length - c.s.h.R.length - c.s.h.T.length - c.s.F.length := by
    have s1 := @szH_lt c.s.h n
    have s2 := @szI_lt c.s.F (szH c.s.h n)
    unfold szS
    split
    · omega
    · split <;> omega
  have s2 := @szI_lt c.C (szS c.s n)
  unfold szC at h
  split at h
  · omega
  · split at h <;> omega
def hdC (c : Cnt) (k : Int) : Int := if hdS c.s k < 0 then -1 else if hdI c.C (hdS c.s k) < 0 then -1 else hdI c.C (hdS c.s k)
theorem hdS_lt (s : Sto) (k : Int) (hk : 0 ≤ k) : hdS s k = -1 ∨ hdS s k = k + s.h.L.length + s.h.R.length + s.h.T.length + s.F.length ∧ 0 ≤ hdS s k := by
  have s1 := hdH_lt s.h k hk
  unfold hdS
  split
  · left; rfl
  · have s2 := hdI_lt s.F (hdH s.h k) (by omega)
    split <;> omega
def mkC (c : Cnt) (k : Int) : Cnt := ⟨mkS c.s k, mkI c.C.length (k + c.s.h.L.length + c.s.h.R.length + c.s.h.T.length + c.s.F.length)⟩
theorem hdC_mk (c : Cnt) (k : Int) (hk : 0 ≤ k) : hdC (mkC c k) k = k + c.s.h.L.length + c.s.h.R.length + c.s.h.T.length + c.s.F.length + c.C.length := by
  have h1 : hdS (mkC c k).s k = _ := hdS_mk c.s k hk
  have h2 : hdI (mkC c k).C (k + c.s.h.L.length + c.s.h.R.length + c.s.h.T.length + c.s.F.length) = _ := hdI_mk _ _
  unfold hdC
  rw [h1, h2, if_neg (by omega), if_neg (by omega)]

theorem eqIntS_t (a : List Int) (ha : a.length ≤ 4194304) : Fn Try.prog 88 [(0, .c false (.ints a)), (1, .c false (.ints a))] [.sl 0 0 a.length, .sl 1 0 a.length] (fun r H => r = .bool true ∧ H = []) := by
  have := eqIntS_c a a (by omega) (by omega)
  rw [decide_eq_true rfl] at this
  exact this
theorem markIntS_t (l : List Int) (hl : l.length ≤ 4194304) : ∃ k : Int, ¬ k < 0 ∧ Fn Try.prog 91 [(0, .c true (.ints l))] [.sl 0 0 l.length, .int .i64 1] (fun r H => r = .int .i64 k ∧ H = [(0, .c true (.ints (mkI l.length 1)))]) ∧
    Fn Try.prog 109 [(0, .c false (.ints (mkI l.length 1)))] [.sl 0 0 l.length, .int .i64 1] (fun r H => r = .int .i64 k ∧ H = []) := by
  refine ⟨_, ?_, markIntS_c l 1 (by omega) (by omega), ?_⟩
  · omega
  · have h := heldIntS_c (mkI l.length 1) 1 (by rw [mkI_len]; omega) (by omega)
    rw [hdI_mk, mkI_len] at h
    exact h
theorem zEqual_c (a b : List Int) (ha : a.length < 1099511627776) (hb : b.length < 1099511627776) : Fn Try.prog 73 [(0, .c false (.ints a)), (1, .c false (.ints b))] [.sl 0 0 a.length, .sl 1 0 b.length] (fun r H => r = .bool (decide (a = b)) ∧ H = []) := by
  refine Fn_go Try.func73 ?_
  refine W_go ?_
  refine W_if (fun h1 => ?_) (fun h1 => ?_)
  · refine W_go ?_
    refine W_rt [] [] ?_
    exact ⟨by rw [decide_eq_false]; rintro rfl; exact h1 rfl, rfl⟩
  · refine W_go ?_
    refine W_lp (T := 14) (σ := Nat) (me := fun i => [(13, .int .i64 i)]) (mh := fun _ => []) (inv := fun i => i ≤ a.length ∧ Hold (∀ j, j < i → a.getD j 0 = b.getD j 0)) (m := fun i => a.length - i) (s0 := 0) ⟨by omega, ⟨by intro j hj; omega⟩⟩ ?_
    rintro i ⟨hi, hne⟩
    refine W_go ?_
    refine W_if (fun h2 => ?_) (fun h2 => ?_)
    · refine W_go ?_
      refine W_if (fun h3 => ?_) (fun h3 => ?_)
      · refine W_go ?_
        refine W_rt [] [] ?_
        exact ⟨by rw [decide_eq_false]; rintro rfl; exact h3 rfl, rfl⟩
      · refine W_go ?_
        refine W_bk (i + 1) ⟨by omega, ⟨fun j hj => ?_⟩⟩ (by omega)
        by_cases e : j = i
        · subst e; exact Decidable.not_not.1 h3
        · exact hne.told j (by omega)
    · refine W_go ?_
      refine W_rt [] [] ?_
      exact ⟨by rw [decide_eq_true]; exact same_of (by omega) fun j hj => hne.told j (by omega), rfl⟩
theorem sl1Ints_c (a b : List Int) (ha : a.length < 1099511627776) (hb : b.length < 1099511627776) : Fn Try.prog 116 [(0, .c false (.ints a)), (1, .c false (.ints b))] [.sl 0 0 a.length, .sl 1 0 b.length] (fun r H => r = .bool (decide (a = b)) ∧ H = []) := by
  refine Fn_go Try.func116 ?_
  refine W_go ?_
  refine W_if (fun h1 => ?_) (fun h1 => ?_)
  · refine W_go ?_
    refine W_rt [] [] ?_
    exact ⟨by rw [decide_eq_false]; rintro rfl; exact h1 rfl, rfl⟩
  · refine W_go ?_
    refine W_lp (T := 6) (σ := Nat) (me := fun i => [(5, .int .i64 i)]) (mh := fun _ => []) (inv := fun i => i ≤ a.length ∧ Hold (∀ j, j < i → a.getD j 0 = b.getD j 0)) (m := fun i => a.length - i) (s0 := 0) ⟨by omega, ⟨by intro j hj; omega⟩⟩ ?_
    rintro i ⟨hi, hne⟩
    refine W_go ?_
    refine W_if (fun h2 => ?_) (fun h2 => ?_)
    · refine W_go ?_
      refine W_if (fun h3 => ?_) (fun h3 => ?_)
      · refine W_go ?_
        refine W_rt [] [] ?_
        exact ⟨by rw [decide_eq_false]; rintro rfl; exact h3 rfl, rfl⟩
      · refine W_go ?_
        refine W_bk (i + 1) ⟨by omega, ⟨fun j hj => ?_⟩⟩ (by omega)
        by_cases e : j = i
        · subst e; exact Decidable.not_not.1 h3
        · exact hne.told j (by omega)
    · refine W_go ?_
      refine W_rt [] [] ?_
      exact ⟨by rw [decide_eq_true]; exact same_of (by omega) fun j hj => hne.told j (by omega), rfl⟩
theorem sEq_c (a b : List Int) (ha : a.length < 1099511627776) (hb : b.length < 1099511627776) : Fn Try.prog 116 [(0, .c false (.ints a)), (1, .c false (.ints b))] [.sl 0 0 a.length, .sl 1 0 b.length] (fun r H => r = .bool (decide (a = b)) ∧ H = []) := sl1Ints_c a b ha hb
theorem iEq_c (a b : List Int) (ha : a.length < 1099511627776) (hb : b.length < 1099511627776) : Fn Try.prog 73 [(0, .c false (.ints a)), (1, .c false (.ints b))] [.sl 0 0 a.length, .sl 1 0 b.length] (fun r H => r = .bool (decide (a = b)) ∧ H = []) := zEqual_c a b ha hb
theorem sCountsOf_c (h : Hp) (hl : h.L.length ≤ 4194304 ∧ h.R.length ≤ 4194304 ∧ h.T.length ≤ 4194304) : Fn Try.prog 117 [(0, .c false (.ints h.L)), (1, .c false (.ints h.R)), (2, .c false (.ints h.T))] [.agg [.sl 0 0 h.L.length, .sl 1 0 h.R.length, .sl 2 0 h.T.length]] (fun r H => r = .sl 100 0 h.cnt.length ∧ H = [(100, .c true (.ints h.cnt))]) := by
  have hv := sHeapValid_c h hl
  refine Fn_go Try.func117 ?_
  refine W_go ?_
  by_cases g1 : h.valid = true
  case neg =>
    have g1 : h.valid = false := by simpa using g1
    rw [g1] at hv
    refine W_c1 [(0, (0, 0)), (1, (1, 0)), (2, (2, 0))] hv ?_
    refine W_ift ?_
    refine W_go ?_
    refine W_rt [(2048, (100, 0))] [] ?_
    have e : h.cnt = [] := by rw [Hp.cnt, if_neg (by rw [g1]; exact Bool.false_ne_true)]
    rw [e]
    exact ⟨rfl, rfl⟩
  rw [g1] at hv
  refine W_c1 [(0, (0, 0)), (1, (1, 0)), (2, (2, 0))] hv ?_
  refine W_iff ?_
  have hall := (Hp.ok_iff _).1 g1
  obtain ⟨⟨l1, l2, l3, l4, l5⟩, _⟩ := (Hp.ok_iff _).1 g1
  have l3a : h.R.length ≤ h.L.length := by omega
  have l3b : h.L.length ≤ h.R.length := by omega
  have hal : h.all.length = h.L.length + h.R.length + h.T.length := by unfold Hp.all; simp; omega
  clear l3
  replace hall : Hold _ := ⟨hall⟩
  refine W_go ?_
  rw [show List.take (h.L.length + h.R.length) (h.L ++ h.R) ++ h.T = h.all by rw [List.take_of_length_le (by simp)]; rfl, ← hal]
  have hal20 : h.all.length ≤ 20 := by omega
  clear hal
  refine W_dd ?_
  refine W_lp (T := 6) (σ := Nat) (me := fun i => [(5, .int .i64 i)]) (mh := fun i => [(5144, .c true (.ints (cntN h.L.length h.all i)))]) (inv := fun i => i ≤ h.all.length) (m := fun i => h.all.length - i) (s0 := 0) (by omega) ?_ (hh := by rw [cntN_zero])
  rintro i hi
  have hcl := cntN_len h.L.length h.all i
  refine W_go ?_
  refine W_if (fun h1 => ?_) (fun h1 => ?_)
  · refine W_go ?_
    have hil : i < h.all.length := by omega
    have hp := okP_get (all_ok hall.told) hil
    refine W_if (fun h2 => ?_) (fun h2 => ?_)
    · have hp1 : 0 ≤ h.all.getD i 0 ∧ h.all.getD i 0 < h.L.length := by omega
      have hb := cntN_bound h.L.length h.all i (h.all.getD i 0).toNat (by omega)
      have hs := cntN_step hil hp1
      replace hs : Hold _ := ⟨hs⟩
      refine W_go ?_
      exact W_bh (i + 1) (by omega) (by omega) (by rw [hs.told])
    · have hs := cntN_skip (n := h.L.length) hil (Decidable.not_not.1 h2)
      replace hs : Hold _ := ⟨hs⟩
      refine W_go ?_
      exact W_bh (i + 1) (by omega) (by omega) (by rw [hs.told])
  · refine W_go ?_
    refine W_rt [(5144, (100, 0))] [] ?_
    have e : i = h.all.length := by omega
    subst e
    have e : h.cnt = cntN h.L.length h.all h.all.length := by rw [Hp.cnt, if_pos g1]
    rw [e, hcl]
    exact ⟨rfl, rfl⟩
theorem cyc_le (c : Cnt) : c.cyc.length ≤ 8 := by
  unfold Cnt.cyc; split
  · exact lost_le c.s
  · simp
theorem cnt_le (h : Hp) : h.cnt.length ≤ 8 := by
  unfold Hp.cnt; split
  · rename_i g; rw [cntN_len]; exact ((Hp.ok_iff _).1 g).1.2.1
  · simp
theorem cnt_valid (c : Cnt) (g : c.s.valid = true) : c.valid = decide (c.C = c.s.h.cnt) := by
  rw [Cnt.valid, decide_eq_decide]
  exact ⟨fun q => q.2, fun q => ⟨(Sto.ok_iff _).1 g, q⟩⟩
theorem cnt_invalid (c : Cnt) (g : c.s.valid = false) : c.valid = false := by
  rw [Cnt.valid, decide_eq_false]
  intro q
  rw [(Sto.ok_iff _).2 q.1] at g; cases g
theorem sCountedValid_c (c : Cnt) (hl : ((c.s.h.L.length ≤ 4194304 ∧ c.s.h.R.length ≤ 4194304 ∧ c.s.h.T.length ≤ 4194304) ∧ c.s.F.length ≤ 4194304) ∧ c.C.length ≤ 4194304) : Fn Try.prog 61 [(0, .c false (.ints c.s.h.L)), (1, .c false (.ints c.s.h.R)), (2, .c false (.ints c.s.h.T)), (3, .c false (.ints c.s.F)), (4, .c false (.ints c.C))] [.agg [.sl 0 0 c.s.h.L.length, .sl 1 0 c.s.h.R.length, .sl 2 0 c.s.h.T.length, .sl 3 0 c.s.F.length, .sl 4 0 c.C.length]] (fun r H => r = .bool c.valid ∧ H = []) := by
  have hv := sStoreValid_c c.s hl.1
  have hc := sCountsOf_c c.s.h hl.1.1
  have hb := cnt_le c.s.h
  have hE := sEq_c c.C c.s.h.cnt (by omega) (by omega)
  refine Fn_go Try.func61 ?_
  refine W_go ?_
  by_cases g1 : c.s.valid = true
  case neg =>
    have g1 : c.s.valid = false := by simpa using g1
    rw [g1] at hv
    refine W_dch1 [(0, (0, 0)), (1, (1, 0)), (2, (2, 0)), (3, (3, 0))] hv [.c _ _ _, .g false, .g false, .g false, .g false, .g false, .g false, .g false] ?_
    refine W_rt [] [] ?_
    rw [cnt_invalid c g1]
    exact ⟨rfl, rfl⟩
  rw [cnt_valid c g1]
  rw [g1] at hv
  refine W_dch3 [(0, (0, 0)), (1, (1, 0)), (2, (2, 0)), (3, (3, 0))] hv [(0, (0, 0)), (1, (1, 0)), (2, (2, 0))] hc [(0, (4, 0)), (1, (2120, 0))] hE [.c _ _ _, .g true, .g true, .g true, .g true, .g true, .g true, .c _ _ _, .g true, .c _ _ _] ?_
  refine W_rt [] [] ?_
  exact ⟨rfl, rfl⟩
theorem sCyclesOf_c (c : Cnt) (hl : ((c.s.h.L.length ≤ 4194304 ∧ c.s.h.R.length ≤ 4194304 ∧ c.s.h.T.length ≤ 4194304) ∧ c.s.F.length ≤ 4194304) ∧ c.C.length ≤ 4194304) : Fn Try.prog 18 [(0, .c false (.ints c.s.h.L)), (1, .c false (.ints c.s.h.R)), (2, .c false (.ints c.s.h.T)), (3, .c false (.ints c.s.F)), (4, .c false (.ints c.C))] [.agg [.sl 0 0 c.s.h.L.length, .sl 1 0 c.s.h.R.length, .sl 2 0 c.s.h.T.length, .sl 3 0 c.s.F.length, .sl 4 0 c.C.length]] (fun r H => r = .sl 100 0 c.cyc.length ∧ H = [(100, .c true (.ints c.cyc))]) := by
  have hv := sCountedValid_c c hl
  have hk := sLeakedOf_c c.s hl.1
  refine Fn_go Try.func18 ?_
  refine W_go ?_
  by_cases g1 : c.valid = true
  case neg =>
    have g1 : c.valid = false := by simpa using g1
    rw [g1] at hv
    have e : c.cyc = [] := by rw [Cnt.cyc, if_neg (by rw [g1]; exact Bool.false_ne_true)]
    rw [e]
    refine W_c1 [(0, (0, 0)), (1, (1, 0)), (2, (2, 0)), (3, (3, 0)), (4, (4, 0))] hv ?_
    refine W_ift ?_
    refine W_go ?_
    refine W_rt [(3072, (100, 0))] [] ?_
    exact ⟨rfl, rfl⟩
  have e : c.cyc = c.s.lost := by rw [Cnt.cyc, if_pos g1]
  rw [e]
  rw [g1] at hv
  refine W_c1 [(0, (0, 0)), (1, (1, 0)), (2, (2, 0)), (3, (3, 0)), (4, (4, 0))] hv ?_
  refine W_iff ?_
  refine W_go ?_
  refine W_c1 [(0, (0, 0)), (1, (1, 0)), (2, (2, 0)), (3, (3, 0))] hk ?_
  refine W_rt [(4112, (100, 0))] [] ?_
  exact ⟨rfl, rfl⟩
theorem iCountedValid_c (c : Cnt) (hl : ((c.s.h.L.length ≤ 4194304 ∧ c.s.h.R.length ≤ 4194304 ∧ c.s.h.T.length ≤ 4194304) ∧ c.s.F.length ≤ 4194304) ∧ c.C.length ≤ 4194304) : Fn Try.prog 25 [(0, .c false (.ints c.s.h.L)), (1, .c false (.ints c.s.h.R)), (2, .c false (.ints c.s.h.T)), (3, .c false (.ints c.s.F)), (4, .c false (.ints c.C))] [.agg [.sl 0 0 c.s.h.L.length, .sl 1 0 c.s.h.R.length, .sl 2 0 c.s.h.T.length, .sl 3 0 c.s.F.length, .sl 4 0 c.C.length]] (fun r H => r = .bool c.valid ∧ H = []) := by
  have hv := iStoreValid_c c.s hl.1
  have hc := iCountsOf_c c.s.h hl.1.1
  have hb := cnt_le c.s.h
  have hE := iEq_c c.C c.s.h.cnt (by omega) (by omega)
  refine Fn_go Try.func25 ?_
  refine W_go ?_
  by_cases g1 : c.s.valid = true
  case neg =>
    have g1 : c.s.valid = false := by simpa using g1
    rw [g1] at hv
    refine W_dch1 [(0, (0, 0)), (1, (1, 0)), (2, (2, 0)), (3, (3, 0))] hv [.c _ _ _, .g false, .g false, .g false, .g false, .g false, .g false, .g false] ?_
    refine W_rt [] [] ?_
    rw [cnt_invalid c g1]
    exact ⟨rfl, rfl⟩
  rw [cnt_valid c g1]
  rw [g1] at hv
  refine W_dch3 [(0, (0, 0)), (1, (1, 0)), (2, (2, 0)), (3, (3, 0))] hv [(0, (0, 0)), (1, (1, 0)), (2, (2, 0))] hc [(0, (4, 0)), (1, (2120, 0))] hE [.c _ _ _, .g true, .g true, .g true, .g true, .g true, .g true, .c _ _ _, .g true, .c _ _ _] ?_
  refine W_rt [] [] ?_
  exact ⟨rfl, rfl⟩
theorem iCyclesOf_c (c : Cnt) (hl : ((c.s.h.L.length ≤ 4194304 ∧ c.s.h.R.length ≤ 4194304 ∧ c.s.h.T.length ≤ 4194304) ∧ c.s.F.length ≤ 4194304) ∧ c.C.length ≤ 4194304) : Fn Try.prog 16 [(0, .c false (.ints c.s.h.L)), (1, .c false (.ints c.s.h.R)), (2, .c false (.ints c.s.h.T)), (3, .c false (.ints c.s.F)), (4, .c false (.ints c.C))] [.agg [.sl 0 0 c.s.h.L.length, .sl 1 0 c.s.h.R.length, .sl 2 0 c.s.h.T.length, .sl 3 0 c.s.F.length, .sl 4 0 c.C.length]] (fun r H => r = .sl 100 0 c.cyc.length ∧ H = [(100, .c true (.ints c.cyc))]) := by
  have hv := iCountedValid_c c hl
  have hk := iLeakedOf_c c.s hl.1
  refine Fn_go Try.func16 ?_
  refine W_go ?_
  by_cases g1 : c.valid = true
  case neg =>
    have g1 : c.valid = false := by simpa using g1
    rw [g1] at hv
    have e : c.cyc = [] := by rw [Cnt.cyc, if_neg (by rw [g1]; exact Bool.false_ne_true)]
    rw [e]
    refine W_c1 [(0, (0, 0)), (1, (1, 0)), (2, (2, 0)), (3, (3, 0)), (4, (4, 0))] hv ?_
    refine W_ift ?_
    refine W_go ?_
    refine W_rt [] [(100, .ints [])] ?_
    exact ⟨rfl, rfl⟩
  have e : c.cyc = c.s.lost := by rw [Cnt.cyc, if_pos g1]
  rw [e]
  rw [g1] at hv
  refine W_c1 [(0, (0, 0)), (1, (1, 0)), (2, (2, 0)), (3, (3, 0)), (4, (4, 0))] hv ?_
  refine W_iff ?_
  refine W_go ?_
  refine W_c1 [(0, (0, 0)), (1, (1, 0)), (2, (2, 0)), (3, (3, 0))] hk ?_
  refine W_rt [(4112, (100, 0))] [] ?_
  exact ⟨rfl, rfl⟩
end Go.Proofs.Ytdkdepfgilbkeaa.S
