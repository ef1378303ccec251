/- Contracts: the laws FnFormatStore and FnStoreText. Own work of this claim. -/
import Derived.Test.YthldlaiplfennaaDoorHi
import Derived.Test.YthldlaiplfennaaDoorGd
import Derived.Test.YthldlaiplfennaaDoorTe
namespace Go.Proofs.YthldlaiplfennaaDoor.S
set_option linter.all false
open Go Go.Proofs
set_option maxHeartbeats 4000000
set_option maxRecDepth 100000

theorem drawFormatStore_c (B : List UInt8) (hB : B.length ≤ 1048576) : Fn Tryd.prog 13 [(0, .c false (.bys B))] [.sl 0 0 B.length]
    (fun r H => ∃ x : Sto, x.dr ∧ r = .agg [.sl 100 0 x.h.L.length, .sl 101 0 x.h.R.length, .sl 102 0 x.h.T.length, .sl 103 0 x.F.length] ∧ H = [(100, .c true (.ints x.h.L)), (101, .c true (.ints x.h.R)), (102, .c true (.ints x.h.T)), (103, .c true (.ints x.F))]) := by
  have hD := l4Case_c B hB
  refine Fn_go Tryd.func13 ?_
  refine W_go ?_
  refine W_rw fun K hK => ?_
  refine RW_x ?_
  repeat (refine And.intro (by omega) ?_)
  refine CKy (μ := [(0, (0, 0))]) ⟨⟩ (hD) (fun x hx => ?_)
  obtain ⟨s, n⟩ := x
  try dsimp only at hx ⊢
  refine RW_x ?_
  repeat (refine And.intro (by omega) ?_)
  refine hK _ _ ?_
  refine W_go ?_
  refine W_rt [(2056, (100, 0)), (2057, (101, 0)), (2058, (102, 0)), (2059, (103, 0))] [] ?_
  exact ⟨s, hx, rfl, rfl⟩
/-- A store's text, told by whether it has one. -/
theorem text_y {s : Sto} (h : s.ok) : s.text = txS s := by rw [Sto.text, if_pos h]
theorem text_n {s : Sto} (h : ¬ s.ok) : s.text = [] := by rw [Sto.text, if_neg h]
theorem nil_txt : ((bs []).toList == (⟨#[]⟩ : ByteArray).toList) = true := by rw [show (⟨#[]⟩ : ByteArray) = bs [] from rfl, beq_self_eq_true]
theorem txt_nil (s : Sto) : ((bs (txS s)).toList == (⟨#[]⟩ : ByteArray).toList) = false := by
  rw [show (⟨#[]⟩ : ByteArray) = bs [] from rfl, bs_toList, bs_toList]
  exact beq_eq_false_iff_ne.2 (txS_ne s)
theorem lFormatStore_c (B : List UInt8) (hB : B.length ≤ 9223372036854775807) : Fn Tryd.prog 4 [(0, .c false (.bys B))] [.sl 0 0 B.length] (fun r H => r = .bool true ∧ H = []) := by
  refine Fn_go Tryd.func4 ?_
  refine W_go ?_
  refine W_if (fun h1 => ?_) (fun h1 => ?_)
  · refine W_go ?_
    refine W_rt [] [] ?_
    exact ⟨rfl, rfl⟩
  have hB : B.length ≤ 1048576 := by omega
  clear h1
  refine W_go ?_
  refine W_rw fun K hK => ?_
  refine RW_x ?_
  repeat (refine And.intro (by omega) ?_)
  refine CKy (μ := [(0, (0, 0))]) ⟨⟩ (drawFormatStore_c B hB) (fun s hs => ?_)
  try dsimp only at hs ⊢
  refine RW_x ?_
  repeat (refine And.intro (by omega) ?_)
  refine hK _ _ ?_
  have hb : (s.h.L.length ≤ 4194304 ∧ s.h.R.length ≤ 4194304 ∧ s.h.T.length ≤ 4194304) ∧ s.F.length ≤ 4194304 := by unfold Sto.dr at hs; omega
  have hI := iFormatStore_c s hb
  have hS := sFormatStore_c s hb
  have hv := iStoreValid_c s hb
  have hw := sStoreValid_c s hb
  clear hs
  by_cases g : s.ok
  case neg =>
    rw [text_n g] at hI hS
    rw [show s.valid = false by rw [Sto.valid, decide_eq_false g]] at hv hw
    have e := nil_txt
    clear g
    generalize bs [] = y at *
    refine W_go ?_
    refine W_c1 [(0, (4104, 0)), (1, (4105, 0)), (2, (4106, 0)), (3, (4107, 0))] hI ?_
    repeat (first | refine W_seq ?_ | refine W_skip ?_ | refine W_block ?_ | refine W_pop ?_ | refine W_o ?_)
    refine W_dch4 [(0, (4104, 0)), (1, (4105, 0)), (2, (4106, 0)), (3, (4107, 0))] hS [(0, (4104, 0)), (1, (4105, 0)), (2, (4106, 0)), (3, (4107, 0))] hv [(0, (4104, 0)), (1, (4105, 0)), (2, (4106, 0)), (3, (4107, 0))] hv [(0, (4104, 0)), (1, (4105, 0)), (2, (4106, 0)), (3, (4107, 0))] hw [.c _ _ _, .w 3 (.bool false), .g true, .g true, .g true, .g true, .c _ _ _, .g true, .w 10 (.bool false), .g true, .g true, .c _ _ _, .g true, .g true, .c _ _ _, .g true, .w 17 (.bool false), .g true, .g true] ?_
    refine W_ift ?_
    repeat (first | refine W_seq ?_ | refine W_skip ?_ | refine W_block ?_ | refine W_pop ?_ | refine W_o ?_)
    refine W_dch4 [(0, (4104, 0)), (1, (4105, 0)), (2, (4106, 0)), (3, (4107, 0))] hS [(0, (4104, 0)), (1, (4105, 0)), (2, (4106, 0)), (3, (4107, 0))] hv [(0, (4104, 0)), (1, (4105, 0)), (2, (4106, 0)), (3, (4107, 0))] hv [(0, (4104, 0)), (1, (4105, 0)), (2, (4106, 0)), (3, (4107, 0))] hw [.c _ _ _, .w 3 (.bool true), .g true, .g true, .g true, .g true, .c _ _ _, .g true, .w 10 (.bool true), .g true, .g true, .c _ _ _, .g true, .g true, .c _ _ _, .g true] ?_
    refine W_go ?_
    refine W_go ?_
    refine W_rt [] [] ?_
    exact ⟨rfl, rfl⟩
  rw [text_y g] at hI hS
  rw [show s.valid = true from (Sto.ok_iff s).2 g] at hv hw
  have hH := iFormatHeap_c s.h hb.1
  rw [show s.h.text = txH s.h by rw [Hp.text, if_pos g.1]] at hH
  have e := txt_nil s
  have sz := txS_size g
  have ex : (bs (txS s)).extract 0 (bs (txH s.h)).size = bs (txH s.h) := by
    rw [bs_extract, bs_size, List.drop_zero, Nat.sub_zero, txS_take]
  have hz : ((bs (txS s)).size : Int) = (bs (txH s.h)).size + 5 + 2 * s.F.length := by
    rw [bs_size, bs_size, sz]; omega
  have lh := bs_sz _ (txH_len s.h)
  have b8 := g.1.1
  have lh2 : (bs (txH s.h)).size ≤ 100 := by omega
  have lF := g.le
  have lF2 : s.F.length ≤ 8 := by omega
  clear sz g lh b8 lF
  generalize bs (txS s) = y at *
  generalize bs (txH s.h) = x at *
  replace hz : Hold _ := ⟨hz⟩
  refine W_go ?_
  refine W_c1 [(0, (4104, 0)), (1, (4105, 0)), (2, (4106, 0)), (3, (4107, 0))] hI ?_
  repeat (first | refine W_seq ?_ | refine W_skip ?_ | refine W_block ?_ | refine W_pop ?_ | refine W_o ?_)
  refine W_dch4 [(0, (4104, 0)), (1, (4105, 0)), (2, (4106, 0)), (3, (4107, 0))] hS [(0, (4104, 0)), (1, (4105, 0)), (2, (4106, 0)), (3, (4107, 0))] hv [(0, (4104, 0)), (1, (4105, 0)), (2, (4106, 0)), (3, (4107, 0))] hv [(0, (4104, 0)), (1, (4105, 0)), (2, (4106, 0)), (3, (4107, 0))] hw [.c _ _ _, .w 3 (.bool false), .g true, .g true, .g true, .g true, .c _ _ _, .g true, .w 10 (.bool false), .g true, .g true, .c _ _ _, .g true, .g true, .c _ _ _, .g true, .w 17 (.bool false), .g true, .g true] ?_
  refine W_iff ?_
  refine W_go ?_
  refine W_c1 [(0, (4104, 0)), (1, (4105, 0)), (2, (4106, 0))] hH ?_
  have hz := hz.told
  have hy : x.size ≤ y.size ∧ y.size ≤ 200 := by omega
  clear hH hS hv hw hI
  refine W_go ?_
  refine W_gh ?_
  refine W_go ?_
  refine W_rt [] [] ?_
  exact ⟨rfl, rfl⟩
theorem lStoreText_c (B : List UInt8) (hB : B.length ≤ 9223372036854775807) : Fn Tryd.prog 5 [(0, .c false (.bys B))] [.sl 0 0 B.length] (fun r H => r = .bool true ∧ H = []) := by
  refine Fn_go Tryd.func5 ?_
  refine W_go ?_
  refine W_if (fun h1 => ?_) (fun h1 => ?_)
  · refine W_go ?_
    refine W_rt [] [] ?_
    exact ⟨rfl, rfl⟩
  have hB : B.length ≤ 1048576 := by omega
  clear h1
  refine W_go ?_
  refine W_rw fun K hK => ?_
  refine RW_x ?_
  repeat (refine And.intro (by omega) ?_)
  refine CKy (μ := [(0, (0, 0))]) ⟨⟩ (drawFormatStore_c B hB) (fun s hs => ?_)
  try dsimp only at hs ⊢
  refine RW_x ?_
  repeat (refine And.intro (by omega) ?_)
  refine hK _ _ ?_
  have hb : (s.h.L.length ≤ 4194304 ∧ s.h.R.length ≤ 4194304 ∧ s.h.T.length ≤ 4194304) ∧ s.F.length ≤ 4194304 := by unfold Sto.dr at hs; omega
  have hI := iFormatStore_c s hb
  have hS := sFormatStore_c s hb
  clear hs
  by_cases g : s.ok
  case neg =>
    rw [text_n g] at hI hS
    have e := nil_txt
    clear g
    generalize bs [] = y at *
    refine W_go ?_
    refine W_c1 [(0, (4104, 0)), (1, (4105, 0)), (2, (4106, 0)), (3, (4107, 0))] hI ?_
    refine W_go ?_
    refine W_ch1 [(0, (4104, 0)), (1, (4105, 0)), (2, (4106, 0)), (3, (4107, 0))] hS ?_
    refine W_ift ?_
    refine W_go ?_
    refine W_c1 [(0, (4104, 0)), (1, (4105, 0)), (2, (4106, 0)), (3, (4107, 0))] hS ?_
    refine W_go ?_
    refine W_rt [] [] ?_
    exact ⟨rfl, rfl⟩
  rw [text_y g] at hI hS
  have e := txt_nil s
  have sz := txS_size g
  have l5 : 5 ≤ (bs (txS s)).size := by rw [bs_size]; omega
  have lh := txH_len s.h
  have b8 := g.1.1
  have lF := g.le
  have l6 : (bs (txS s)).size ≤ 200 ∧ s.F.length ≤ 8 := by rw [bs_size]; omega
  by_cases n : s.F = []
  · have ex : (((bs (txS s)).extract (((bs (txS s)).size : Int) - 4).toNat (bs (txS s)).size).toList == (⟨#[102, 114, 101, 101]⟩ : ByteArray).toList) = true := by
      rw [bs_extract, bs_size, show (((txS s).length : Int) - 4).toNat = (txS s).length - 4 by omega, txS_free n, show (⟨#[102, 114, 101, 101]⟩ : ByteArray) = bs [102, 114, 101, 101] from rfl, List.take_of_length_le (by simp; omega), beq_self_eq_true]
    have n1 : ((s.F.length : Int) = 0) = True := eq_true (by rw [n]; rfl)
    clear sz g lh b8 lF n
    generalize bs (txS s) = y at *
    refine W_go ?_
    refine W_c1 [(0, (4104, 0)), (1, (4105, 0)), (2, (4106, 0)), (3, (4107, 0))] hI ?_
    refine W_go ?_
    refine W_ch1 [(0, (4104, 0)), (1, (4105, 0)), (2, (4106, 0)), (3, (4107, 0))] hS ?_
    refine W_iff ?_
    clear hI hS
    refine W_gh ?_
    refine W_ift ?_
    refine W_gh ?_
    refine W_go ?_
    refine W_rt [] [] ?_
    exact ⟨rfl, rfl⟩
  · have n0 : 0 < s.F.length := List.length_pos_iff.2 n
    have n1 : ¬ (s.F.length : Int) = 0 := by omega
    have la := txS_last g n
    have fi := free_in g (s.F.getD (s.F.length - 1) 0) (by rw [List.getD_eq_getElem?_getD, List.getElem?_eq_getElem (by omega)]; exact List.getElem_mem _)
    have hc : (((bs (txS s)).data.getD (((bs (txS s)).size : Int) - 1).toNat 0).toNat : Int) = 48 + s.F.getD ((s.F.length : Int) - 1).toNat 0 := by
      rw [bs_at, bs_size, show (((txS s).length : Int) - 1).toNat = (txS s).length - 1 by omega, la, show ((s.F.length : Int) - 1).toNat = s.F.length - 1 by omega, UInt8.toNat_ofNat']
      omega
    have hv : 0 ≤ s.F.getD ((s.F.length : Int) - 1).toNat 0 ∧ s.F.getD ((s.F.length : Int) - 1).toNat 0 < 8 := by
      rw [show ((s.F.length : Int) - 1).toNat = s.F.length - 1 by omega]; exact fi
    have hu : IntKind.u8.wrap (48 + s.F.getD ((s.F.length : Int) - 1).toNat 0 - 48) = s.F.getD ((s.F.length : Int) - 1).toNat 0 := by
      rw [IntWalk.u8_in _ (by omega)]; omega
    clear sz g lh b8 lF n la fi
    generalize bs (txS s) = y at *
    refine W_go ?_
    refine W_c1 [(0, (4104, 0)), (1, (4105, 0)), (2, (4106, 0)), (3, (4107, 0))] hI ?_
    refine W_go ?_
    refine W_ch1 [(0, (4104, 0)), (1, (4105, 0)), (2, (4106, 0)), (3, (4107, 0))] hS ?_
    refine W_iff ?_
    clear hI hS
    refine W_gh ?_
    refine W_iff ?_
    refine W_gh ?_
    refine W_go ?_
    refine W_rt [] [] ?_
    exact ⟨rfl, rfl⟩
end Go.Proofs.YthldlaiplfennaaDoor.S
