/- Contracts: roots put, pointers counted, sources. Own work of this claim. -/
import Derived.Test.YtbcnkfkmonpdeaaGe
namespace Go.Proofs.Ytbcnkfkmonpdeaa.S
set_option linter.all false
open Go Go.Proofs
set_option maxHeartbeats 4000000
set_option maxRecDepth 100000

theorem ipointer_c (h : Hp) (x : Int) (hl : h.L.length ≤ 4194304 ∧ h.R.length ≤ 4194304 ∧ h.T.length ≤ 4194304) : Fn Try.prog 112 [(0, .c false (.ints h.L)), (1, .c false (.ints h.R)), (2, .c false (.ints h.T))] [.agg [.sl 0 0 h.L.length, .sl 1 0 h.R.length, .sl 2 0 h.T.length], .int .i64 x] (fun r H => r = .bool (decide (-1 ≤ x ∧ x < h.L.length)) ∧ H = []) := by
  refine Fn_go Try.func112 ?_
  by_cases g1 : -1 ≤ x
  case neg =>
    refine W_go ?_
    refine W_gh ?_
    refine W_go ?_
    refine W_rt [] [] ?_
    exact ⟨by rw [decide_eq_false]; omega, rfl⟩
  have es : decide (-1 ≤ x ∧ x < h.L.length) = decide (x < h.L.length) := by rw [decide_eq_decide]; omega
  rw [es]
  clear es
  refine W_go ?_
  refine W_gh ?_
  refine W_go ?_
  refine W_rt [] [] ?_
  exact ⟨rfl, rfl⟩
theorem iPutRoot_c (h : Hp) (r x : Int) (hl : h.L.length ≤ 4194304 ∧ h.R.length ≤ 4194304 ∧ h.T.length ≤ 4194304) (hp : h.prOk r x) : Fn Try.prog 34 [(0, .c false (.ints h.L)), (1, .c false (.ints h.R)), (2, .c false (.ints h.T))] [.agg [.sl 0 0 h.L.length, .sl 1 0 h.R.length, .sl 2 0 h.T.length], .int .i64 r, .int .i64 x] (fun y H => y = .tup [.agg [.sl 100 0 (h.pr r x).L.length, .sl 101 0 (h.pr r x).R.length, .sl 102 0 (h.pr r x).T.length], .bool true] ∧ H = [(100, .c true (.ints (h.pr r x).L)), (101, .c true (.ints (h.pr r x).R)), (102, .c true (.ints (h.pr r x).T))]) := by
  have hv := iHeapValid_c h hl
  rw [(Hp.ok_iff h).2 hp.1] at hv
  have hq := ipointer_c h x hl
  rw [decide_eq_true hp.2.2.2] at hq
  have hc := icopied_c h hl
  rw [Hp.pr, if_pos hp]
  have hr := hp.2
  clear hp
  have n1 : ¬ r < 0 := by omega
  have n2 : ¬ (h.T.length : Int) ≤ r := by omega
  refine Fn_go Try.func34 ?_
  refine W_go ?_
  refine W_ch2 [(0, (0, 0)), (1, (1, 0)), (2, (2, 0))] hv [(0, (0, 0)), (1, (1, 0)), (2, (2, 0))] hq ?_
  refine W_iff ?_
  refine W_go ?_
  refine W_c1 [(0, (0, 0)), (1, (1, 0)), (2, (2, 0))] hc ?_
  refine W_go ?_
  refine W_go ?_
  refine W_go ?_
  refine W_rt [(4104, (100, 0)), (4105, (101, 0)), (4106, (102, 0))] [] ?_
  constructor <;> simp
theorem iCountPointers_c (h : Hp) (ho : h.ok) : Fn Try.prog 37 [(0, .c false (.ints h.L)), (1, .c false (.ints h.R)), (2, .c false (.ints h.T))] [.agg [.sl 0 0 h.L.length, .sl 1 0 h.R.length, .sl 2 0 h.T.length]] (fun r H => r = .int .i64 h.ptrs ∧ H = []) := by
  have hl := ho.1
  have hv := iHeapValid_c h (by omega)
  rw [(Hp.ok_iff h).2 ho] at hv
  have hC := zConcat_c h.L h.R h.T (by omega)
  have el : h.all.length = h.L.length + h.R.length + h.T.length := by unfold Hp.all; simp [List.length_append, Nat.add_assoc]
  rw [Hp.ptrs, if_pos ((Hp.ok_iff h).2 ho)]
  refine Fn_go Try.func37 ?_
  refine W_go ?_
  refine W_c1 [(0, (0, 0)), (1, (1, 0)), (2, (2, 0))] hv ?_
  refine W_iff ?_
  refine W_go ?_
  refine W_c1 [(0, (5168, 0)), (1, (0, 0)), (2, (1, 0)), (3, (2, 0))] hC ?_
  rw [← el, show h.L ++ h.R ++ h.T = h.all from rfl]
  have hal : h.all.length ≤ 30 := by omega
  clear el hC hv
  generalize h.all = l at *
  refine W_go ?_
  refine W_lp (T := 19) (σ := Nat × Nat) (me := fun s => [(3, .int .i64 s.2), (18, .int .i64 s.1)]) (mh := fun _ => []) (inv := fun s => s.1 ≤ l.length ∧ Hold (s.2 = ptN l s.1) ∧ s.2 ≤ s.1) (m := fun s => l.length - s.1) (s0 := (0, 0)) ⟨Nat.zero_le _, ⟨rfl⟩, Nat.le_refl _⟩ ?_
  rintro ⟨s, n⟩ ⟨hs, he, hn⟩
  dsimp only at hs he hn ⊢
  have e : ptN l (s + 1) = if l.getD s 0 = -1 then ptN l s else ptN l s + 1 := rfl
  replace e : Hold _ := ⟨e⟩
  refine W_go ?_
  refine W_if (fun h2 => ?_) (fun h2 => ?_)
  · refine W_go ?_
    refine W_if (fun h3 => ?_) (fun h3 => ?_)
    · refine W_go ?_
      have e2 : ptN l (s + 1) = ptN l s + 1 := by rw [e.told, if_neg h3]
      exact W_bk (s + 1, n + 1) ⟨by dsimp only; omega, ⟨by dsimp only; rw [e2, he.told]⟩, by dsimp only; omega⟩ (by dsimp only; omega)
    · refine W_go ?_
      have e2 : ptN l (s + 1) = ptN l s := by rw [e.told, if_pos (Decidable.of_not_not h3)]
      exact W_bk (s + 1, n) ⟨by dsimp only; omega, ⟨by dsimp only; rw [e2, he.told]⟩, by dsimp only; omega⟩ (by dsimp only; omega)
  · have hil : s = l.length := by omega
    refine W_go ?_
    refine W_rt [] [] ?_
    exact ⟨by rw [he.told, hil], rfl⟩
theorem ihas_c (h : Hp) (c : Int) (hl : h.L.length ≤ 4194304 ∧ h.R.length ≤ 4194304 ∧ h.T.length ≤ 4194304) : Fn Try.prog 117 [(0, .c false (.ints h.L)), (1, .c false (.ints h.R)), (2, .c false (.ints h.T))] [.agg [.sl 0 0 h.L.length, .sl 1 0 h.R.length, .sl 2 0 h.T.length], .int .i64 c] (fun r H => r = .bool (decide (h.ok ∧ 0 ≤ c ∧ c < h.L.length)) ∧ H = []) := by
  have hv := iHeapValid_c h hl
  refine Fn_go Try.func117 ?_
  by_cases g1 : h.ok
  case neg =>
    rw [show h.valid = false by rw [Hp.valid, decide_eq_false g1]] at hv
    refine W_go ?_
    refine W_c1 [(0, (0, 0)), (1, (1, 0)), (2, (2, 0))] hv ?_
    refine W_go ?_
    refine W_rt [] [] ?_
    exact ⟨by rw [decide_eq_false (fun q => g1 q.1)], rfl⟩
  rw [(Hp.ok_iff h).2 g1] at hv
  by_cases g2 : 0 ≤ c
  case neg =>
    refine W_go ?_
    refine W_ch1 [(0, (0, 0)), (1, (1, 0)), (2, (2, 0))] hv ?_
    refine W_go ?_
    refine W_rt [] [] ?_
    exact ⟨by rw [decide_eq_false (fun q => g2 q.2.1)], rfl⟩
  have es : decide (h.ok ∧ 0 ≤ c ∧ c < h.L.length) = decide (c < h.L.length) := by rw [decide_eq_decide]; exact ⟨fun q => q.2.2, fun q => ⟨g1, g2, q⟩⟩
  rw [es]
  clear es g1
  refine W_go ?_
  refine W_ch1 [(0, (0, 0)), (1, (1, 0)), (2, (2, 0))] hv ?_
  refine W_go ?_
  refine W_rt [] [] ?_
  exact ⟨rfl, rfl⟩
theorem iSourcesOf_c (h : Hp) (c : Int) (hl : h.L.length ≤ 4194304 ∧ h.R.length ≤ 4194304 ∧ h.T.length ≤ 4194304) (g : h.ok ∧ 0 ≤ c ∧ c < h.L.length) : Fn Try.prog 38 [(0, .c false (.ints h.L)), (1, .c false (.ints h.R)), (2, .c false (.ints h.T))] [.agg [.sl 0 0 h.L.length, .sl 1 0 h.R.length, .sl 2 0 h.T.length], .int .i64 c] (fun r H => r = .sl 100 0 (h.srcs c).length ∧ H = [(100, .c true (.ints (h.srcs c)))]) := by
  have hv := ihas_c h c hl
  rw [decide_eq_true g] at hv
  rw [Hp.srcs, if_pos g]
  have hR : h.L.length ≤ h.R.length := by have := g.1.1.2.2.1; omega
  have h8 := g.1.1.2.1
  clear g
  refine Fn_go Try.func38 ?_
  refine W_go ?_
  refine W_c1 [(0, (0, 0)), (1, (1, 0)), (2, (2, 0))] hv ?_
  refine W_iff ?_
  refine W_go ?_
  refine W_mv 4096 50000 ?_
  refine W_fg [11] ?_
  refine W_lp (T := 16) (σ := Nat) (me := fun s => [(5, .sl 50000 0 (srcN h c s).length), (15, .int .i64 s)]) (mh := fun s => [(50000, .c true (.ints (srcN h c s)))]) (inv := fun s => s ≤ h.L.length) (m := fun s => h.L.length - s) (s0 := 0) (Nat.zero_le _) ?_
  intro s hs
  have hn := srcN_len h c s
  have e : srcN h c (s + 1) = if h.L.getD s 0 = c ∨ h.R.getD s 0 = c then srcN h c s ++ [(s : Int)] else srcN h c s := rfl
  replace e : Hold _ := ⟨e⟩
  have htk : List.take (srcN h c s).length (srcN h c s) = srcN h c s := List.take_of_length_le (by omega)
  replace htk : Hold _ := ⟨htk⟩
  have add : h.L.getD s 0 = c ∨ h.R.getD s 0 = c → srcN h c (s + 1) = srcN h c s ++ [(s : Int)] := fun q => by rw [e.told, if_pos q]
  have non : ¬ (h.L.getD s 0 = c ∨ h.R.getD s 0 = c) → srcN h c (s + 1) = srcN h c s := fun q => by rw [e.told, if_neg q]
  replace add : Hold _ := ⟨add⟩
  replace non : Hold _ := ⟨non⟩
  refine W_go ?_
  refine W_if (fun h2 => ?_) (fun h2 => ?_)
  case' refine_2 =>
    have hil : s = h.L.length := by omega
    subst hil
    refine W_go ?_
    refine W_rt [(50000, (100, 0))] [] ?_
    exact ⟨rfl, rfl⟩
  by_cases g1 : h.L.getD s 0 = c
  · refine W_go ?_
    refine W_gh ?_
    refine W_ift ?_
    refine W_go ?_
    refine W_rk 16 [(1024, (1024, 0)), (4096, (4096, 0)), (9240, (50000, 0))] ?_
    refine W_bh (s + 1) (by omega) (by omega) ?_ ?_
    · rw [add.told (.inl g1)]
    · simp [EnvLe, Env.get, aget, add.told (.inl g1)]
  · refine W_go ?_
    refine W_gh ?_
    refine W_if (fun g2 => ?_) (fun g2 => ?_)
    · refine W_go ?_
      refine W_rk 16 [(1024, (1024, 0)), (4096, (4096, 0)), (9240, (50000, 0))] ?_
      refine W_bh (s + 1) (by omega) (by omega) ?_ ?_
      · rw [add.told (.inr g2)]
      · simp [EnvLe, Env.get, aget, add.told (.inr g2)]
    · refine W_go ?_
      have en := non.told (by rintro (q | q); exact g1 q; exact g2 q)
      refine W_bh (s + 1) (by omega) (by omega) ?_ ?_
      · rw [en]
      · simp [EnvLe, Env.get, aget, en]
end Go.Proofs.Ytbcnkfkmonpdeaa.S
