/- Contracts: the texts of a program and a collector, on both sides. Own work of this claim. -/
import Derived.Test.YthldlaiplfennaaDoorHi
import Derived.Test.YthldlaiplfennaaDoorGv
namespace Go.Proofs.YthldlaiplfennaaDoor.S
set_option linter.all false
open Go Go.Proofs
set_option maxHeartbeats 4000000
set_option maxRecDepth 100000

theorem word_eq {p : Int} (h : p = 0 ∨ p = 1 ∨ p = 2 ∨ p = 3) : ([⟨#[105, 100, 108, 101]⟩, ⟨#[114, 111, 111, 116, 115]⟩, ⟨#[109, 97, 114, 107]⟩, ⟨#[115, 119, 101, 101, 112]⟩] : List ByteArray).getD p.toNat ⟨#[]⟩ = bs (word p) ∧ (word p).length ≤ 5 := by
  rcases h with rfl | rfl | rfl | rfl
  · exact ⟨rfl, by decide⟩
  · exact ⟨rfl, by decide⟩
  · exact ⟨rfl, by decide⟩
  · exact ⟨rfl, by decide⟩
theorem sign_eq {k : Int} (h : k = 0 ∨ k = 1 ∨ k = 2) : ([⟨#[119]⟩, ⟨#[103]⟩, ⟨#[98]⟩] : List ByteArray).getD k.toNat ⟨#[]⟩ = bs [sign k] ∧ (⟨#[119, 103, 98]⟩ : ByteArray).extract k.toNat (k + 1).toNat = bs [sign k] := by
  rcases h with rfl | rfl | rfl
  · exact ⟨rfl, by rw [show (⟨#[119, 103, 98]⟩ : ByteArray) = bs [119, 103, 98] from rfl, bs_extract]; rfl⟩
  · exact ⟨rfl, by rw [show (⟨#[119, 103, 98]⟩ : ByteArray) = bs [119, 103, 98] from rfl, bs_extract]; rfl⟩
  · exact ⟨rfl, by rw [show (⟨#[119, 103, 98]⟩ : ByteArray) = bs [119, 103, 98] from rfl, bs_extract]; rfl⟩
def txB0 (b : Bth) : List UInt8 := txS b.s ++ [32] ++ word b.g.p ++ [32] ++ dg b.g.a.toNat ++ [32]
theorem txB_cut (b : Bth) : txB b = txB0 b ++ b.g.C.map sign ++ [32, 97, 116, 32] ++ dg b.a.toNat ++ (if b.l then [32, 108, 111, 115, 116] else []) := rfl
theorem map_step {C : List Int} {i : Nat} (h : i < C.length) : (C.take (i + 1)).map sign = (C.take i).map sign ++ [sign (C.getD i 0)] := by
  rw [getD_take_snoc h, List.map_append]; rfl
theorem text_both {b : Bth} (g : b.ok) : b.text = txB b := by rw [Bth.text, if_pos g]
theorem iFormatBoth_c (b : Bth) (hl : (((b.s.h.L.length ≤ 4194304 ∧ b.s.h.R.length ≤ 4194304 ∧ b.s.h.T.length ≤ 4194304) ∧ b.s.F.length ≤ 4194304) ∧ b.g.C.length ≤ 4194304) ∧ b.o.length ≤ 4194304) : Fn Tryd.prog 24 [(0, .c false (.ints b.s.h.L)), (1, .c false (.ints b.s.h.R)), (2, .c false (.ints b.s.h.T)), (3, .c false (.ints b.s.F)), (4, .c false (.ints b.g.C)), (5, .c false (.ops b.o))] [.agg [.sl 0 0 b.s.h.L.length, .sl 1 0 b.s.h.R.length, .sl 2 0 b.s.h.T.length, .sl 3 0 b.s.F.length, .int .i64 b.g.p, .sl 4 0 b.g.C.length, .int .i64 b.g.a, .sl 5 0 b.o.length, .int .i64 b.a, .bool b.l]] (fun r H => r = .str (bs b.text) ∧ H = []) := by
  have hv := iBothValid_c b hl
  by_cases g : b.ok
  case neg =>
    rw [decide_eq_false g] at hv
    rw [show bs b.text = ⟨#[]⟩ by rw [Bth.text, if_neg g]; rfl]
    clear g
    refine Fn_go Tryd.func24 ?_
    refine W_go ?_
    refine W_c1 [(0, (0, 0)), (1, (1, 0)), (2, (2, 0)), (3, (3, 0)), (4, (4, 0)), (5, (5, 0))] hv ?_
    refine W_ift ?_
    refine W_go ?_
    refine W_rt [] [] ?_
    exact ⟨rfl, rfl⟩
  rw [decide_eq_true g] at hv
  rw [text_both g, txB_cut]
  have hS := iFormatStore_c b.s hl.1.1
  rw [show b.s.text = txS b.s by rw [Sto.text, if_pos g.1.1]] at hS
  have hat := g.1.2.2
  unfold Gcc.atOk at hat
  have b8 := g.1.1.1.1
  have hA := zItoa_c b.g.a (by omega)
  have ho := g.2.1.1
  have hB := zItoa_c b.a (by have := g.2.2; omega)
  have hp : b.g.p = 0 ∨ b.g.p = 1 ∨ b.g.p = 2 ∨ b.g.p = 3 := by omega
  have pb : 0 ≤ b.g.p ∧ b.g.p < 4 := by omega
  have hw := word_eq hp
  have hwz : (([⟨#[105, 100, 108, 101]⟩, ⟨#[114, 111, 111, 116, 115]⟩, ⟨#[109, 97, 114, 107]⟩, ⟨#[115, 119, 101, 101, 112]⟩] : List ByteArray).getD b.g.p.toNat ⟨#[]⟩).size ≤ 5 := by rw [hw.1]; exact bs_sz _ hw.2
  have lS := txS_size g.1.1
  have lH := txH_len b.s.h
  have lF := g.1.1.le
  have zS : (bs (txS b.s)).size ≤ 100 := by rw [bs_size]; omega
  have zA := bs_sz _ (dg_len b.g.a.toNat).2
  have zB := bs_sz _ (dg_len b.a.toNat).2
  have hC := g.1.2.1
  have lC : b.g.C.length ≤ 8 := by have := hC.1; omega
  have hk : Hold (∀ j, j < b.g.C.length → 0 ≤ b.g.C.getD j 0 ∧ b.g.C.getD j 0 ≤ 2) := ⟨hC.2⟩
  have st0 : Hold (bs (txS b.s) ++ (⟨#[32]⟩ : ByteArray) ++ ([⟨#[105, 100, 108, 101]⟩, ⟨#[114, 111, 111, 116, 115]⟩, ⟨#[109, 97, 114, 107]⟩, ⟨#[115, 119, 101, 101, 112]⟩] : List ByteArray).getD b.g.p.toNat ⟨#[]⟩ ++ (⟨#[32]⟩ : ByteArray) ++ bs (dg b.g.a.toNat) ++ (⟨#[32]⟩ : ByteArray) = bs (txB0 b ++ (b.g.C.take 0).map sign)) := ⟨by
    rw [hw.1, show (⟨#[32]⟩ : ByteArray) = bs [32] from rfl, bs_app, bs_app, bs_app, bs_app, bs_app, List.take_zero, List.map_nil, List.append_nil]; rfl⟩

  clear g hat b8 ho hp hw lS lH lF hC
  generalize bs (txS b.s) = xs at *
  generalize bs (dg b.g.a.toNat) = xa at *
  generalize hdb : bs (dg b.a.toNat) = xb at *
  replace hdb : Hold _ := ⟨hdb⟩
  generalize hww : ([⟨#[105, 100, 108, 101]⟩, ⟨#[114, 111, 111, 116, 115]⟩, ⟨#[109, 97, 114, 107]⟩, ⟨#[115, 119, 101, 101, 112]⟩] : List ByteArray).getD b.g.p.toNat ⟨#[]⟩ = xw at *
  have e1 : (⟨#[32]⟩ : ByteArray).size = 1 := rfl
  have e2 : (⟨#[32, 97, 116, 32]⟩ : ByteArray).size = 4 := rfl
  have e3 : (⟨#[32, 108, 111, 115, 116]⟩ : ByteArray).size = 5 := rfl
  have z1 : (xs ++ (⟨#[32]⟩ : ByteArray)).size = xs.size + (⟨#[32]⟩ : ByteArray).size := ByteArray.size_append
  have z2 : (xs ++ (⟨#[32]⟩ : ByteArray) ++ xw).size = (xs ++ (⟨#[32]⟩ : ByteArray)).size + xw.size := ByteArray.size_append
  have z3 : (xs ++ (⟨#[32]⟩ : ByteArray) ++ xw ++ (⟨#[32]⟩ : ByteArray)).size = (xs ++ (⟨#[32]⟩ : ByteArray) ++ xw).size + (⟨#[32]⟩ : ByteArray).size := ByteArray.size_append
  have z4 : (xs ++ (⟨#[32]⟩ : ByteArray) ++ xw ++ (⟨#[32]⟩ : ByteArray) ++ xa).size = (xs ++ (⟨#[32]⟩ : ByteArray) ++ xw ++ (⟨#[32]⟩ : ByteArray)).size + xa.size := ByteArray.size_append
  have z5 : (xs ++ (⟨#[32]⟩ : ByteArray) ++ xw ++ (⟨#[32]⟩ : ByteArray) ++ xa ++ (⟨#[32]⟩ : ByteArray)).size = (xs ++ (⟨#[32]⟩ : ByteArray) ++ xw ++ (⟨#[32]⟩ : ByteArray) ++ xa).size + (⟨#[32]⟩ : ByteArray).size := ByteArray.size_append
  have z6 : (xs ++ (⟨#[32]⟩ : ByteArray) ++ xw ++ (⟨#[32]⟩ : ByteArray) ++ xa ++ (⟨#[32]⟩ : ByteArray)).size ≤ 120 := by omega
  refine Fn_go Tryd.func24 ?_
  refine W_go ?_
  refine W_c1 [(0, (0, 0)), (1, (1, 0)), (2, (2, 0)), (3, (3, 0)), (4, (4, 0)), (5, (5, 0))] hv ?_
  clear hv
  refine W_iff ?_
  subst hww
  repeat (first | refine W_seq ?_ | refine W_skip ?_ | refine W_block ?_ | refine W_pop ?_ | refine W_o ?_)
  refine W_dc2 [(0, (0, 0)), (1, (1, 0)), (2, (2, 0)), (3, (3, 0))] hS [] hA [.c _ _ _, .c _ _ _] ?_
  generalize hww : ([⟨#[105, 100, 108, 101]⟩, ⟨#[114, 111, 111, 116, 115]⟩, ⟨#[109, 97, 114, 107]⟩, ⟨#[115, 119, 101, 101, 112]⟩] : List ByteArray).getD b.g.p.toNat ⟨#[]⟩ = xw at *
  clear hS hA
  refine W_go ?_
  refine W_dd ?_
  refine W_lp (T := 32) (σ := Nat × ByteArray) (me := fun s => [(31, .int .i64 s.1), (3, .str s.2)]) (mh := fun _ => [])
    (inv := fun z => z.1 ≤ b.g.C.length ∧ z.2.size ≤ 120 + z.1 ∧ Hold (z.2 = bs (txB0 b ++ (b.g.C.take z.1).map sign))) (m := fun z => b.g.C.length - z.1) (s0 := (0, xs ++ (⟨#[32]⟩ : ByteArray) ++ xw ++ (⟨#[32]⟩ : ByteArray) ++ xa ++ (⟨#[32]⟩ : ByteArray))) ⟨Nat.zero_le _, by dsimp only; omega, st0⟩ ?_ (hh := by rfl)
  clear st0 z1 z2 z3 z4 z5 z6
  rintro ⟨i, x⟩ ⟨hi, hx, hE⟩
  dsimp only at hi hx hE ⊢
  refine W_go ?_
  refine W_if (fun q => ?_) (fun q => ?_)
  · have il : i < b.g.C.length := by omega
    have kc := hk.told i il
    have sg := sign_eq (k := b.g.C.getD i 0) (by omega)
    have nx : bs (txB0 b ++ (b.g.C.take (i + 1)).map sign) = x ++ bs [sign (b.g.C.getD i 0)] := by
      rw [hE.told, map_step il, bs_app]; congr 1; simp
    have sgz : ((⟨#[119, 103, 98]⟩ : ByteArray).extract (b.g.C.getD i 0).toNat (b.g.C.getD i 0 + 1).toNat).size ≤ 1 := by rw [sg.2]; exact Nat.le_refl 1
    have z1 : (x ++ (⟨#[119, 103, 98]⟩ : ByteArray).extract (b.g.C.getD i 0).toNat (b.g.C.getD i 0 + 1).toNat).size = x.size + ((⟨#[119, 103, 98]⟩ : ByteArray).extract (b.g.C.getD i 0).toNat (b.g.C.getD i 0 + 1).toNat).size := ByteArray.size_append
    have e4 : (⟨#[119, 103, 98]⟩ : ByteArray).size = 3 := rfl
    have zz : Hold ((x ++ (⟨#[119, 103, 98]⟩ : ByteArray).extract (b.g.C.getD i 0).toNat (b.g.C.getD i 0 + 1).toNat).size ≤ 120 + (i + 1)) := ⟨by omega⟩
    have nx2 : Hold (x ++ (⟨#[119, 103, 98]⟩ : ByteArray).extract (b.g.C.getD i 0).toNat (b.g.C.getD i 0 + 1).toNat = bs (txB0 b ++ (b.g.C.take (i + 1)).map sign)) := ⟨by rw [nx, sg.2]⟩
    clear nx hE sg
    repeat (first | refine W_seq ?_ | refine W_skip ?_ | refine W_block ?_ | refine W_pop ?_ | refine W_o ?_)
    refine W_go ?_
    refine W_dd ?_
    refine W_bk (i + 1, x ++ (⟨#[119, 103, 98]⟩ : ByteArray).extract (b.g.C.getD i 0).toNat (b.g.C.getD i 0 + 1).toNat) ⟨by dsimp only; omega, zz.told, nx2⟩ (by dsimp only; omega)
  · have e : i = b.g.C.length := by omega
    rw [e, List.take_length] at hE
    have fin : Hold (x ++ ((⟨#[32, 97, 116, 32]⟩ : ByteArray) ++ xb) = bs (txB0 b ++ b.g.C.map sign ++ [32, 97, 116, 32] ++ dg b.a.toNat)) := ⟨by
      rw [hE.told, ← hdb.told, show (⟨#[32, 97, 116, 32]⟩ : ByteArray) = bs [32, 97, 116, 32] from rfl]; simp only [bs_app, List.append_assoc]⟩
    have z1 : ((⟨#[32, 97, 116, 32]⟩ : ByteArray) ++ xb).size = (⟨#[32, 97, 116, 32]⟩ : ByteArray).size + xb.size := ByteArray.size_append
    have z2 : (x ++ ((⟨#[32, 97, 116, 32]⟩ : ByteArray) ++ xb)).size = x.size + ((⟨#[32, 97, 116, 32]⟩ : ByteArray) ++ xb).size := ByteArray.size_append
    have z3 : (x ++ ((⟨#[32, 97, 116, 32]⟩ : ByteArray) ++ xb)).size ≤ 200 := by omega
    clear hE q
    refine W_go ?_
    refine W_c1 [] hB ?_
    refine W_go ?_
    generalize x ++ ((⟨#[32, 97, 116, 32]⟩ : ByteArray) ++ xb) = y at *
    cases gl : b.l
    case true =>
      refine W_ift ?_
      refine W_go ?_
      refine W_rt [] [] ?_
      exact ⟨by rw [fin.told, if_pos rfl, ← bs_app]; rfl, rfl⟩
    case false =>
      refine W_iff ?_
      refine W_go ?_
      refine W_rt [] [] ?_
      exact ⟨by rw [fin.told, if_neg (by simp), List.append_nil], rfl⟩
theorem sFormatBoth_c (b : Bth) (hl : (((b.s.h.L.length ≤ 4194304 ∧ b.s.h.R.length ≤ 4194304 ∧ b.s.h.T.length ≤ 4194304) ∧ b.s.F.length ≤ 4194304) ∧ b.g.C.length ≤ 4194304) ∧ b.o.length ≤ 4194304) : Fn Tryd.prog 22 [(0, .c false (.ints b.s.h.L)), (1, .c false (.ints b.s.h.R)), (2, .c false (.ints b.s.h.T)), (3, .c false (.ints b.s.F)), (4, .c false (.ints b.g.C)), (5, .c false (.ops b.o))] [.agg [.sl 0 0 b.s.h.L.length, .sl 1 0 b.s.h.R.length, .sl 2 0 b.s.h.T.length, .sl 3 0 b.s.F.length, .int .i64 b.g.p, .sl 4 0 b.g.C.length, .int .i64 b.g.a, .sl 5 0 b.o.length, .int .i64 b.a, .bool b.l]] (fun r H => r = .str (bs b.text) ∧ H = []) := by
  have hv := sBothValid_c b hl
  by_cases g : b.ok
  case neg =>
    rw [decide_eq_false g] at hv
    rw [show bs b.text = ⟨#[]⟩ by rw [Bth.text, if_neg g]; rfl]
    clear g
    refine Fn_go Tryd.func22 ?_
    refine W_go ?_
    refine W_c1 [(0, (0, 0)), (1, (1, 0)), (2, (2, 0)), (3, (3, 0)), (4, (4, 0)), (5, (5, 0))] hv ?_
    refine W_ift ?_
    refine W_go ?_
    refine W_rt [] [] ?_
    exact ⟨rfl, rfl⟩
  rw [decide_eq_true g] at hv
  rw [text_both g, txB_cut]
  have hS := sFormatStore_c b.s hl.1.1
  rw [show b.s.text = txS b.s by rw [Sto.text, if_pos g.1.1]] at hS
  have hat := g.1.2.2
  unfold Gcc.atOk at hat
  have b8 := g.1.1.1.1
  have hA := sl13Dec_c b.g.a (by omega)
  have ho := g.2.1.1
  have hB := sl13Dec_c b.a (by have := g.2.2; omega)
  have hp : b.g.p = 0 ∨ b.g.p = 1 ∨ b.g.p = 2 ∨ b.g.p = 3 := by omega
  have pb : 0 ≤ b.g.p ∧ b.g.p < 4 := by omega
  have hw := word_eq hp
  have hwz : (([⟨#[105, 100, 108, 101]⟩, ⟨#[114, 111, 111, 116, 115]⟩, ⟨#[109, 97, 114, 107]⟩, ⟨#[115, 119, 101, 101, 112]⟩] : List ByteArray).getD b.g.p.toNat ⟨#[]⟩).size ≤ 5 := by rw [hw.1]; exact bs_sz _ hw.2
  have lS := txS_size g.1.1
  have lH := txH_len b.s.h
  have lF := g.1.1.le
  have zS : (bs (txS b.s)).size ≤ 100 := by rw [bs_size]; omega
  have zA := bs_sz _ (dg_len b.g.a.toNat).2
  have zB := bs_sz _ (dg_len b.a.toNat).2
  have hC := g.1.2.1
  have lC : b.g.C.length ≤ 8 := by have := hC.1; omega
  have hk : Hold (∀ j, j < b.g.C.length → 0 ≤ b.g.C.getD j 0 ∧ b.g.C.getD j 0 ≤ 2) := ⟨hC.2⟩
  have st0 : Hold (bs (txS b.s) ++ (⟨#[32]⟩ : ByteArray) ++ ([⟨#[105, 100, 108, 101]⟩, ⟨#[114, 111, 111, 116, 115]⟩, ⟨#[109, 97, 114, 107]⟩, ⟨#[115, 119, 101, 101, 112]⟩] : List ByteArray).getD b.g.p.toNat ⟨#[]⟩ ++ (⟨#[32]⟩ : ByteArray) ++ bs (dg b.g.a.toNat) ++ (⟨#[32]⟩ : ByteArray) = bs (txB0 b ++ (b.g.C.take 0).map sign)) := ⟨by
    rw [hw.1, show (⟨#[32]⟩ : ByteArray) = bs [32] from rfl, bs_app, bs_app, bs_app, bs_app, bs_app, List.take_zero, List.map_nil, List.append_nil]; rfl⟩

  clear g hat b8 ho hp hw lS lH lF hC
  generalize bs (txS b.s) = xs at *
  generalize bs (dg b.g.a.toNat) = xa at *
  generalize hdb : bs (dg b.a.toNat) = xb at *
  replace hdb : Hold _ := ⟨hdb⟩
  generalize hww : ([⟨#[105, 100, 108, 101]⟩, ⟨#[114, 111, 111, 116, 115]⟩, ⟨#[109, 97, 114, 107]⟩, ⟨#[115, 119, 101, 101, 112]⟩] : List ByteArray).getD b.g.p.toNat ⟨#[]⟩ = xw at *
  have e1 : (⟨#[32]⟩ : ByteArray).size = 1 := rfl
  have e2 : (⟨#[32, 97, 116, 32]⟩ : ByteArray).size = 4 := rfl
  have e3 : (⟨#[32, 108, 111, 115, 116]⟩ : ByteArray).size = 5 := rfl
  have z1 : (xs ++ (⟨#[32]⟩ : ByteArray)).size = xs.size + (⟨#[32]⟩ : ByteArray).size := ByteArray.size_append
  have z2 : (xs ++ (⟨#[32]⟩ : ByteArray) ++ xw).size = (xs ++ (⟨#[32]⟩ : ByteArray)).size + xw.size := ByteArray.size_append
  have z3 : (xs ++ (⟨#[32]⟩ : ByteArray) ++ xw ++ (⟨#[32]⟩ : ByteArray)).size = (xs ++ (⟨#[32]⟩ : ByteArray) ++ xw).size + (⟨#[32]⟩ : ByteArray).size := ByteArray.size_append
  have z4 : (xs ++ (⟨#[32]⟩ : ByteArray) ++ xw ++ (⟨#[32]⟩ : ByteArray) ++ xa).size = (xs ++ (⟨#[32]⟩ : ByteArray) ++ xw ++ (⟨#[32]⟩ : ByteArray)).size + xa.size := ByteArray.size_append
  have z5 : (xs ++ (⟨#[32]⟩ : ByteArray) ++ xw ++ (⟨#[32]⟩ : ByteArray) ++ xa ++ (⟨#[32]⟩ : ByteArray)).size = (xs ++ (⟨#[32]⟩ : ByteArray) ++ xw ++ (⟨#[32]⟩ : ByteArray) ++ xa).size + (⟨#[32]⟩ : ByteArray).size := ByteArray.size_append
  have z6 : (xs ++ (⟨#[32]⟩ : ByteArray) ++ xw ++ (⟨#[32]⟩ : ByteArray) ++ xa ++ (⟨#[32]⟩ : ByteArray)).size ≤ 120 := by omega
  refine Fn_go Tryd.func22 ?_
  refine W_go ?_
  refine W_c1 [(0, (0, 0)), (1, (1, 0)), (2, (2, 0)), (3, (3, 0)), (4, (4, 0)), (5, (5, 0))] hv ?_
  clear hv
  refine W_iff ?_
  subst hww
  repeat (first | refine W_seq ?_ | refine W_skip ?_ | refine W_block ?_ | refine W_pop ?_ | refine W_o ?_)
  refine W_dc2 [(0, (0, 0)), (1, (1, 0)), (2, (2, 0)), (3, (3, 0))] hS [] hA [.c _ _ _, .c _ _ _] ?_
  generalize hww : ([⟨#[105, 100, 108, 101]⟩, ⟨#[114, 111, 111, 116, 115]⟩, ⟨#[109, 97, 114, 107]⟩, ⟨#[115, 119, 101, 101, 112]⟩] : List ByteArray).getD b.g.p.toNat ⟨#[]⟩ = xw at *
  clear hS hA
  refine W_go ?_
  refine W_dd ?_
  refine W_lp (T := 7) (σ := Nat × ByteArray) (me := fun s => [(6, .int .i64 s.1), (5, .str s.2)]) (mh := fun _ => [])
    (inv := fun z => z.1 ≤ b.g.C.length ∧ z.2.size ≤ 120 + z.1 ∧ Hold (z.2 = bs (txB0 b ++ (b.g.C.take z.1).map sign))) (m := fun z => b.g.C.length - z.1) (s0 := (0, xs ++ (⟨#[32]⟩ : ByteArray) ++ xw ++ (⟨#[32]⟩ : ByteArray) ++ xa ++ (⟨#[32]⟩ : ByteArray))) ⟨Nat.zero_le _, by dsimp only; omega, st0⟩ ?_ (hh := by rfl)
  clear st0 z1 z2 z3 z4 z5 z6
  rintro ⟨i, x⟩ ⟨hi, hx, hE⟩
  dsimp only at hi hx hE ⊢
  refine W_go ?_
  refine W_if (fun q => ?_) (fun q => ?_)
  · have il : i < b.g.C.length := by omega
    have kc := hk.told i il
    have sg := sign_eq (k := b.g.C.getD i 0) (by omega)
    have nx : bs (txB0 b ++ (b.g.C.take (i + 1)).map sign) = x ++ bs [sign (b.g.C.getD i 0)] := by
      rw [hE.told, map_step il, bs_app]; congr 1; simp
    have sgz : (([⟨#[119]⟩, ⟨#[103]⟩, ⟨#[98]⟩] : List ByteArray).getD (b.g.C.getD i 0).toNat ⟨#[]⟩).size ≤ 1 := by rw [sg.1]; exact Nat.le_refl 1
    have z1 : (x ++ ([⟨#[119]⟩, ⟨#[103]⟩, ⟨#[98]⟩] : List ByteArray).getD (b.g.C.getD i 0).toNat ⟨#[]⟩).size = x.size + (([⟨#[119]⟩, ⟨#[103]⟩, ⟨#[98]⟩] : List ByteArray).getD (b.g.C.getD i 0).toNat ⟨#[]⟩).size := ByteArray.size_append
    have e4 : (⟨#[119, 103, 98]⟩ : ByteArray).size = 3 := rfl
    have zz : Hold ((x ++ ([⟨#[119]⟩, ⟨#[103]⟩, ⟨#[98]⟩] : List ByteArray).getD (b.g.C.getD i 0).toNat ⟨#[]⟩).size ≤ 120 + (i + 1)) := ⟨by omega⟩
    have nx2 : Hold (x ++ ([⟨#[119]⟩, ⟨#[103]⟩, ⟨#[98]⟩] : List ByteArray).getD (b.g.C.getD i 0).toNat ⟨#[]⟩ = bs (txB0 b ++ (b.g.C.take (i + 1)).map sign)) := ⟨by rw [nx, sg.1]⟩
    clear nx hE sg
    repeat (first | refine W_seq ?_ | refine W_skip ?_ | refine W_block ?_ | refine W_pop ?_ | refine W_o ?_)
    refine W_go ?_
    refine W_dd ?_
    refine W_bk (i + 1, x ++ ([⟨#[119]⟩, ⟨#[103]⟩, ⟨#[98]⟩] : List ByteArray).getD (b.g.C.getD i 0).toNat ⟨#[]⟩) ⟨by dsimp only; omega, zz.told, nx2⟩ (by dsimp only; omega)
  · have e : i = b.g.C.length := by omega
    rw [e, List.take_length] at hE
    have fin : Hold (x ++ (⟨#[32, 97, 116, 32]⟩ : ByteArray) ++ xb = bs (txB0 b ++ b.g.C.map sign ++ [32, 97, 116, 32] ++ dg b.a.toNat)) := ⟨by
      rw [hE.told, ← hdb.told, show (⟨#[32, 97, 116, 32]⟩ : ByteArray) = bs [32, 97, 116, 32] from rfl]; simp only [bs_app, List.append_assoc]⟩
    have z1 : (x ++ (⟨#[32, 97, 116, 32]⟩ : ByteArray)).size = x.size + (⟨#[32, 97, 116, 32]⟩ : ByteArray).size := ByteArray.size_append
    have z2 : (x ++ (⟨#[32, 97, 116, 32]⟩ : ByteArray) ++ xb).size = (x ++ (⟨#[32, 97, 116, 32]⟩ : ByteArray)).size + xb.size := ByteArray.size_append
    have z3 : (x ++ (⟨#[32, 97, 116, 32]⟩ : ByteArray) ++ xb).size ≤ 200 := by omega
    clear hE q
    refine W_go ?_
    refine W_c1 [] hB ?_
    refine W_go ?_
    generalize x ++ (⟨#[32, 97, 116, 32]⟩ : ByteArray) ++ xb = y at *
    cases gl : b.l
    case true =>
      refine W_ift ?_
      refine W_go ?_
      refine W_rt [] [] ?_
      exact ⟨by rw [fin.told, if_pos rfl, ← bs_app]; rfl, rfl⟩
    case false =>
      refine W_iff ?_
      refine W_go ?_
      refine W_rt [] [] ?_
      exact ⟨by rw [fin.told, if_neg (by simp), List.append_nil], rfl⟩
end Go.Proofs.YthldlaiplfennaaDoor.S
