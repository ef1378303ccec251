/- Contracts: the law FnBothText. Own work of this claim. -/
import Derived.Test.YthldlaiplfennaaDoorHk
import Derived.Test.YthldlaiplfennaaDoorHh
import Derived.Test.YthldlaiplfennaaDoorPn
namespace Go.Proofs.YthldlaiplfennaaDoor.S
set_option linter.all false
open Go Go.Proofs
set_option maxHeartbeats 4000000
set_option maxRecDepth 100000

theorem dg_last {n : Nat} (h : n < 100) : ∃ (W : List UInt8) (c : UInt8), dg n = W ++ [c] ∧ c.toNat ≤ 57 := by
  unfold dg
  split
  · exact ⟨[], _, rfl, by rw [UInt8.toNat_ofNat']; omega⟩
  · exact ⟨[_], _, rfl, by rw [UInt8.toNat_ofNat']; omega⟩
theorem end_no {Z W : List UInt8} {c : UInt8} (h : c.toNat ≤ 57) : ((Z ++ (W ++ [c])).drop ((Z ++ (W ++ [c])).length - 4) == [108, 111, 115, 116]) = false := by
  rw [beq_eq_false_iff_ne]
  intro e
  have e2 : (Z ++ (W ++ [c])).reverse.take 4 = [116, 115, 111, 108] := by
    rw [List.take_reverse, e]; rfl
  rw [← List.append_assoc, List.reverse_append] at e2
  simp only [List.reverse_cons, List.reverse_nil, List.nil_append, List.cons_append, List.take_succ_cons, List.cons.injEq] at e2
  have := e2.1
  subst this
  simp at h
theorem txB_end {b : Bth} (h : b.ok) : ((txB b).drop ((txB b).length - 4) == [108, 111, 115, 116]) = b.l := by
  unfold txB
  cases hl : b.l
  · rw [if_neg (by simp), List.append_nil]
    have h1 := h.2.1.1
    have h2 := h.2.2
    obtain ⟨W, c, e, hc⟩ := dg_last (n := b.a.toNat) (by omega)
    rw [e]
    exact end_no hc
  · rw [if_pos rfl]
    generalize txS b.s ++ [32] ++ word b.g.p ++ [32] ++ dg b.g.a.toNat ++ [32] ++ b.g.C.map sign ++ [32, 97, 116, 32] ++ dg b.a.toNat = Z
    rw [List.drop_append, List.length_append]
    have e1 : Z.length + [(32 : UInt8), 108, 111, 115, 116].length - 4 = Z.length + 1 := by show Z.length + 5 - 4 = Z.length + 1; omega
    rw [e1, List.drop_eq_nil_of_le (by omega), List.nil_append, show Z.length + 1 - Z.length = 1 by omega]
    rfl
theorem word_len (p : Int) : (word p).length ≤ 5 := by
  unfold word; split
  · simp
  · split
    · simp
    · split <;> simp
theorem txB_size {b : Bth} (h : b.ok) : (txB b).length ≤ 300 ∧ (txS b.s).length + 4 ≤ (txB b).length := by
  have h1 := txS_size h.1.1
  have h2 := txH_len b.s.h
  have h3 := h.1.1.le
  have h4 := h.1.1.1.1
  have h5 := h.1.2.1.1
  have h6 := word_len b.g.p
  have h7 := dg_len b.g.a.toNat
  have h8 := dg_len b.a.toNat
  unfold txB
  simp only [List.length_append, List.length_map, List.length_cons, List.length_nil]
  split <;> simp only [List.length_cons, List.length_nil] <;> omega
theorem nil_tx2 : ((bs []).toList == (⟨#[]⟩ : ByteArray).toList) = true := by rw [show (⟨#[]⟩ : ByteArray) = bs [] from rfl, beq_self_eq_true]
theorem txB_nil (b : Bth) : ((bs (txB b)).toList == (⟨#[]⟩ : ByteArray).toList) = false := by
  rw [show (⟨#[]⟩ : ByteArray) = bs [] from rfl, bs_toList, bs_toList]
  exact beq_eq_false_iff_ne.2 (txB_ne b)
theorem lBothText_c (B : List UInt8) (hB : B.length ≤ 9223372036854775807) : Fn Tryd.prog 8 [(0, .c false (.bys B))] [.sl 0 0 B.length] (fun r H => r = .bool true ∧ H = []) := by
  refine Fn_go Tryd.func8 ?_
  refine W_go ?_
  refine W_if (fun h1 => ?_) (fun h1 => ?_)
  · refine W_go ?_
    refine W_rt [] [] ?_
    exact ⟨rfl, rfl⟩
  have hB : B.length ≤ 1048576 := by omega
  clear h1
  refine W_go ?_
  refine W_rw fun K hK => ?_
  refine RW_x ?_
  repeat (refine And.intro (by omega) ?_)
  refine CKy (μ := [(0, (0, 0))]) ⟨⟩ (lDrawFormatBoth_c B hB) (fun b hb => ?_)
  try dsimp only at hb ⊢
  refine RW_x ?_
  repeat (refine And.intro (by omega) ?_)
  refine hK _ _ ?_
  have hx : (((b.s.h.L.length ≤ 4194304 ∧ b.s.h.R.length ≤ 4194304 ∧ b.s.h.T.length ≤ 4194304) ∧ b.s.F.length ≤ 4194304) ∧ b.g.C.length ≤ 4194304) ∧ b.o.length ≤ 4194304 := hb.1
  clear hb
  have hI := iFormatBoth_c b hx
  have hS := sFormatBoth_c b hx
  have hv := iBothValid_c b hx
  by_cases g : b.ok
  case neg =>
    rw [show b.text = [] by rw [Bth.text, if_neg g]] at hI hS
    rw [decide_eq_false g] at hv
    have e := nil_tx2
    clear g
    generalize bs [] = y at *
    refine W_go ?_
    refine W_c1 [(0, (4104, 0)), (1, (4105, 0)), (2, (4106, 0)), (3, (4107, 0)), (4, (4108, 0)), (5, (4109, 0))] hI ?_
    clear hI
    refine W_go ?_
    refine W_ch2 [(0, (4104, 0)), (1, (4105, 0)), (2, (4106, 0)), (3, (4107, 0)), (4, (4108, 0)), (5, (4109, 0))] hS [(0, (4104, 0)), (1, (4105, 0)), (2, (4106, 0)), (3, (4107, 0)), (4, (4108, 0)), (5, (4109, 0))] hv ?_
    refine W_ift ?_
    refine W_go ?_
    refine W_ch2 [(0, (4104, 0)), (1, (4105, 0)), (2, (4106, 0)), (3, (4107, 0)), (4, (4108, 0)), (5, (4109, 0))] hS [(0, (4104, 0)), (1, (4105, 0)), (2, (4106, 0)), (3, (4107, 0)), (4, (4108, 0)), (5, (4109, 0))] hv ?_
    refine W_go ?_
    refine W_rt [] [] ?_
    exact ⟨rfl, rfl⟩
  rw [text_both g] at hI hS
  rw [decide_eq_true g] at hv
  have hw := sBothValid_c b hx
  rw [decide_eq_true g] at hw
  have hF := iFormatStore_c b.s hx.1.1
  rw [show b.s.text = txS b.s by rw [Sto.text, if_pos g.1.1]] at hF
  have e := txB_nil b
  have sz := txB_size g
  have ex : (bs (txB b)).extract 0 (bs (txS b.s)).size = bs (txS b.s) := by
    rw [bs_extract, bs_size, List.drop_zero, Nat.sub_zero, txB_take]
  have el : (((bs (txB b)).extract (((bs (txB b)).size : Int) - 4).toNat (bs (txB b)).size).toList == (⟨#[108, 111, 115, 116]⟩ : ByteArray).toList) = b.l := by
    rw [bs_extract, bs_size, show (((txB b).length : Int) - 4).toNat = (txB b).length - 4 by omega, show (⟨#[108, 111, 115, 116]⟩ : ByteArray) = bs [108, 111, 115, 116] from rfl, bs_toList, bs_toList]
    rw [List.take_of_length_le (by rw [List.length_drop]; omega)]
    exact txB_end g
  have hz : (bs (txS b.s)).size + 4 ≤ (bs (txB b)).size ∧ (bs (txB b)).size ≤ 300 := ⟨sz.2, sz.1⟩
  clear sz g
  generalize bs (txB b) = y at *
  generalize bs (txS b.s) = x at *
  have hz2 : x.size ≤ y.size ∧ 4 ≤ y.size := by omega
  refine W_go ?_
  refine W_c1 [(0, (4104, 0)), (1, (4105, 0)), (2, (4106, 0)), (3, (4107, 0)), (4, (4108, 0)), (5, (4109, 0))] hI ?_
  clear hI
  refine W_go ?_
  refine W_ch2 [(0, (4104, 0)), (1, (4105, 0)), (2, (4106, 0)), (3, (4107, 0)), (4, (4108, 0)), (5, (4109, 0))] hS [(0, (4104, 0)), (1, (4105, 0)), (2, (4106, 0)), (3, (4107, 0)), (4, (4108, 0)), (5, (4109, 0))] hv ?_
  clear hS
  refine W_iff ?_
  refine W_go ?_
  refine W_c1 [(0, (4104, 0)), (1, (4105, 0)), (2, (4106, 0)), (3, (4107, 0))] hF ?_
  clear hF
  repeat (first | refine W_seq ?_ | refine W_skip ?_ | refine W_block ?_ | refine W_pop ?_ | refine W_o ?_)
  refine W_dch2 [(0, (4104, 0)), (1, (4105, 0)), (2, (4106, 0)), (3, (4107, 0)), (4, (4108, 0)), (5, (4109, 0))] hv [(0, (4104, 0)), (1, (4105, 0)), (2, (4106, 0)), (3, (4107, 0)), (4, (4108, 0)), (5, (4109, 0))] hw [.c _ _ _, .c _ _ _, .g true, .g true, .g true, .g true, .g true, .g true, .w 12 (.bool true), .g true, .g true, .g true, .g true, .g true, .g true, .g true, .g true, .g true] ?_
  refine W_go ?_
  refine W_go ?_
  refine W_rt [] [] ?_
  exact ⟨rfl, rfl⟩
end Go.Proofs.YthldlaiplfennaaDoor.S
