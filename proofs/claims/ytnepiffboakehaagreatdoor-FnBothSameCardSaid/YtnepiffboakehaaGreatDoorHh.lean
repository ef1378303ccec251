/- Contracts: schedules, the reference's RunBoth, what is drawn for both. Own work of this claim. -/
import Derived.Test.YtnepiffboakehaaGreatDoorGx
import Derived.Test.YtnepiffboakehaaGreatDoorGu
import Derived.Test.YtnepiffboakehaaGreatDoorHg
namespace Go.Proofs.YtnepiffboakehaaGreatDoor.S
set_option linter.all false
open Go Go.Proofs
set_option maxHeartbeats 4000000
set_option maxRecDepth 100000

theorem of_c (B : List UInt8) (m : Nat) (p : Int) (l : List ByteArray) (hp : 0 ≤ p ∧ p < 1099511627776) (hm : m ≤ B.length ∧ m < 1099511627776) (hl : 1 ≤ l.length ∧ l.length < 1099511627776) : Fn Tryz.prog 63 [(0, .c true (.av 1 [.sl 1 0 m, .int .i64 p])), (1, .c false (.bys B)), (2, .c false (.strs l))] [.ptr 0 0, .sl 2 0 l.length] (fun r H => r = .str (l.getD (pkV B m p l.length).toNat ⟨#[]⟩) ∧ H = [(0, .c true (.av 1 [.sl 1 0 m, .int .i64 (p + 1)]))]) := by
  have hP := pick_c B m p l.length hp hm
  have hb := pkV_b (B := B) (m := m) (n := (l.length : Int)) hp
  have hb2 := hb.2 (by omega)
  refine Fn_go Tryz.func63 ?_
  refine W_go ?_
  refine W_c1 [(0, (0, 0)), (1, (1, 0))] hP ?_
  refine W_go ?_
  refine W_rt [(0, (0, 0))] [] ?_
  exact ⟨rfl, rfl⟩
theorem l7Samples_c : Fn Tryz.prog 64 [] [] (fun r H => ∃ y : List ByteArray, (y.length = 5 ∧ Hold (∀ x ∈ y, x.size ≤ 4194304)) ∧ r = .sl 100 0 5 ∧ H = [(100, .c true (.strs y))]) := by
  refine Fn_go Tryz.func64 ?_
  refine W_go ?_
  refine W_rt [(2048, (100, 0))] [] ?_
  refine ⟨_, ?_, rfl, rfl⟩
  refine ⟨rfl, ⟨?_⟩⟩
  intro x hx
  simp only [List.mem_cons, List.not_mem_nil, or_false] at hx
  rcases hx with rfl | rfl | rfl | rfl | rfl <;> decide
theorem getD_in {l : List ByteArray} {i : Nat} (h : i < l.length) : l.getD i ⟨#[]⟩ ∈ l := by
  rw [List.getD_eq_getElem?_getD, List.getElem?_eq_getElem h]
  exact List.getElem_mem h
theorem l7Schedule_c (B : List UInt8) (m : Nat) (p0 : Int) (hp : 0 ≤ p0 ∧ p0 < 1099511600000) (hm : m ≤ B.length ∧ m < 1099511627776) : Fn Tryz.prog 29 [(0, .c true (.av 1 [.sl 1 0 m, .int .i64 p0])), (1, .c false (.bys B))] [.ptr 0 0]
    (fun r H => ∃ y : List Bool × Int, (y.1.length ≤ 24 ∧ p0 ≤ y.2 ∧ y.2 ≤ p0 + 25) ∧ r = .str (sch y.1) ∧ H = [(0, .c true (.av 1 [.sl 1 0 m, .int .i64 y.2]))]) := by
  have hN := num_c B m p0 [10, 6, 16, 24, 3, 0] (by omega) hm (by simp)
  have b1 := pkN_mem (B := B) (m := m) (k := p0) (l := [10, 6, 16, 24, 3, 0]) (by omega) (by simp)
  generalize pkN B m p0 [10, 6, 16, 24, 3, 0] = v at *
  simp only [List.mem_cons, List.not_mem_nil, or_false] at b1
  have hv : 0 ≤ v ∧ v ≤ 24 := by omega
  clear b1
  refine Fn_go Tryz.func29 ?_
  refine W_go ?_
  refine W_c1 [(0, (0, 0)), (1, (1, 0)), (2, (3080, 0))] hN ?_
  refine W_go ?_
  refine W_rk 5 [] ?_
  refine W_lp (T := 5) (σ := List Bool × Int × Int) (me := fun s => [(4, .int .i64 s.2.2), (3, .str (sch s.1))]) (mh := fun s => [(0, .c true (.av 1 [.sl 1 0 m, .int .i64 s.2.1]))])
    (inv := fun s => s.1.length + s.2.2.toNat ≤ 24 ∧ p0 ≤ s.2.1 ∧ s.2.1 ≤ p0 + 1 + (24 - s.2.2) ∧ 0 ≤ s.2.2 ∧ s.2.2 ≤ 24) (m := fun s => s.2.2.toNat) (s0 := ([], p0 + 1, v)) ⟨?_, ?_⟩ ?_ (hh := by rfl)
  · dsimp only [List.length_nil]; omega
  · dsimp only; omega
  clear hN
  rintro ⟨l, p, i⟩ ⟨hL, hi⟩
  dsimp only at hL hi ⊢
  have hO := of_c B m p [⟨#[111]⟩, ⟨#[103]⟩, ⟨#[103]⟩, ⟨#[103]⟩] (by omega) hm (by simp)
  have hb := pkV_b (B := B) (m := m) (k := p) (n := ((([⟨#[111]⟩, ⟨#[103]⟩, ⟨#[103]⟩, ⟨#[103]⟩] : List ByteArray).length : Nat) : Int)) (by omega)
  have hb2 := hb.2 (by simp)
  have hin := getD_in (l := [⟨#[111]⟩, ⟨#[103]⟩, ⟨#[103]⟩, ⟨#[103]⟩]) (i := (pkV B m p ((([⟨#[111]⟩, ⟨#[103]⟩, ⟨#[103]⟩, ⟨#[103]⟩] : List ByteArray).length : Nat) : Int)).toNat) (by omega)
  obtain ⟨c, hc⟩ : ∃ c : Bool, ([⟨#[111]⟩, ⟨#[103]⟩, ⟨#[103]⟩, ⟨#[103]⟩] : List ByteArray).getD (pkV B m p ((([⟨#[111]⟩, ⟨#[103]⟩, ⟨#[103]⟩, ⟨#[103]⟩] : List ByteArray).length : Nat) : Int)).toNat ⟨#[]⟩ = bs [if c then 111 else 103] := by
    simp only [List.mem_cons, List.not_mem_nil, or_false] at hin
    rcases hin with q | q | q | q <;> rw [q] <;> first | exact ⟨true, rfl⟩ | exact ⟨false, rfl⟩
  rw [hc] at hO
  have hz1 : (bs [if c then 111 else 103]).size ≤ 1 := Nat.le_of_eq (bs_size _)
  have hz2 := sch_size l
  have hsn := sch_snoc l c
  generalize bs [if c then 111 else 103] = y at *
  have hz3 : (sch l).size ≤ 24 := by omega
  clear hin hb2 hb hc hz2
  replace hsn : Hold _ := ⟨hsn⟩
  refine W_go ?_
  refine W_if (fun h2 => ?_) (fun h2 => ?_)
  · refine W_go ?_
    refine W_c1 [(0, (0, 0)), (1, (1, 0)), (2, (6160, 0))] hO ?_
    refine W_go ?_
    rw [hsn.told]
    refine W_rk 5 [] ?_
    refine W_bk (l ++ [c], p + 1, i - 1) ⟨?_, ?_⟩ ?_
    · dsimp only; rw [List.length_append, List.length_singleton]; omega
    · dsimp only; omega
    · dsimp only; omega
  · refine W_go ?_
    refine W_rt [(0, (0, 0))] [] ?_
    exact ⟨(l, p), by dsimp only; omega, rfl, rfl⟩
/-- The reference's run of a schedule that is well spelt. -/
theorem sRunBoth_c (b : Bth) (ok : b.ok) (l : List Bool) (hl : l.length ≤ 100) (bar : Bool) : Fn Tryz.prog 12 [(0, .c false (.ints b.s.h.L)), (1, .c false (.ints b.s.h.R)), (2, .c false (.ints b.s.h.T)), (3, .c false (.ints b.s.F)), (4, .c false (.ints b.g.C)), (5, .c false (.ops b.o))] [.agg [.sl 0 0 b.s.h.L.length, .sl 1 0 b.s.h.R.length, .sl 2 0 b.s.h.T.length, .sl 3 0 b.s.F.length, .int .i64 b.g.p, .sl 4 0 b.g.C.length, .int .i64 b.g.a, .sl 5 0 b.o.length, .int .i64 b.a, .bool b.l], .str (sch l), .bool bar]
    (fun r H => r = .tup [.agg [.sl 100 0 (Bth.run bar l b).s.h.L.length, .sl 101 0 (Bth.run bar l b).s.h.R.length, .sl 102 0 (Bth.run bar l b).s.h.T.length, .sl 103 0 (Bth.run bar l b).s.F.length, .int .i64 (Bth.run bar l b).g.p, .sl 104 0 (Bth.run bar l b).g.C.length, .int .i64 (Bth.run bar l b).g.a, .sl 105 0 (Bth.run bar l b).o.length, .int .i64 (Bth.run bar l b).a, .bool (Bth.run bar l b).l], .bool true] ∧ H = [(100, .c true (.ints (Bth.run bar l b).s.h.L)), (101, .c true (.ints (Bth.run bar l b).s.h.R)), (102, .c true (.ints (Bth.run bar l b).s.h.T)), (103, .c true (.ints (Bth.run bar l b).s.F)), (104, .c true (.ints (Bth.run bar l b).g.C)), (105, .c true (.ops (Bth.run bar l b).o))]) := by
  have hs := ok.small
  have hb : (((b.s.h.L.length ≤ 4194304 ∧ b.s.h.R.length ≤ 4194304 ∧ b.s.h.T.length ≤ 4194304) ∧ b.s.F.length ≤ 4194304) ∧ b.g.C.length ≤ 4194304) ∧ b.o.length ≤ 4194304 := by omega
  have hv := sBothValid_c b hb
  have hN := sl7Copy_c b hb
  rw [decide_eq_true ok] at hv
  have hz := sch_size l
  have hat := sch_at l
  generalize sch l = z at *
  have hz1 : z.size ≤ l.length ∧ l.length ≤ z.size := by omega
  clear hz hs
  replace ok : Hold _ := ⟨ok⟩
  replace hat : Hold _ := ⟨hat⟩
  refine Fn_go Tryz.func12 ?_
  refine W_go ?_
  refine W_ch1 [(0, (0, 0)), (1, (1, 0)), (2, (2, 0)), (3, (3, 0)), (4, (4, 0)), (5, (5, 0))] hv ?_
  refine W_if (fun q => ?_) (fun q => ?_)
  · exact absurd q (by omega)
  clear q hv
  refine W_go ?_
  refine W_c1 [(0, (0, 0)), (1, (1, 0)), (2, (2, 0)), (3, (3, 0)), (4, (4, 0)), (5, (5, 0))] hN ?_
  clear hN
  refine W_go ?_
  refine W_rk 10 [(1024, (1024, 0)), (1032, (1032, 0)), (4112, (4112, 0)), (4104, (300, 0)), (4105, (301, 0)), (4106, (302, 0)), (4107, (303, 0)), (4108, (304, 0)), (4109, (305, 0))] ?_
  refine W_lp (T := 10) (σ := Nat × Bth) (me := fun s => [(9, .int .i64 s.1)]) (mh := fun s => [(4112, .c true (.av 1 [.sl 300 0 s.2.s.h.L.length, .sl 301 0 s.2.s.h.R.length, .sl 302 0 s.2.s.h.T.length, .sl 303 0 s.2.s.F.length, .int .i64 s.2.g.p, .sl 304 0 s.2.g.C.length, .int .i64 s.2.g.a, .sl 305 0 s.2.o.length, .int .i64 s.2.a, .bool s.2.l])), (300, .c true (.ints s.2.s.h.L)), (301, .c true (.ints s.2.s.h.R)), (302, .c true (.ints s.2.s.h.T)), (303, .c true (.ints s.2.s.F)), (304, .c true (.ints s.2.g.C)), (305, .c true (.ops s.2.o))])
    (inv := fun s => s.1 ≤ l.length ∧ Hold (s.2.ok ∧ s.2 = Bth.run bar (l.take s.1) b)) (m := fun s => l.length - s.1) (s0 := (0, b)) ⟨by dsimp only; omega, ⟨ok.told, rfl⟩⟩ ?_ (hh := by rfl)
  rintro ⟨i, x⟩ ⟨hi, hI⟩
  dsimp only at hi hI ⊢
  have hxs := hI.told.1.small
  have hx : (((x.s.h.L.length ≤ 4194304 ∧ x.s.h.R.length ≤ 4194304 ∧ x.s.h.T.length ≤ 4194304) ∧ x.s.F.length ≤ 4194304) ∧ x.g.C.length ≤ 4194304) ∧ x.o.length ≤ 4194304 := by omega
  clear hxs
  refine W_go ?_
  refine W_if (fun g => ?_) (fun g => ?_)
  case' refine_2 =>
    have e : x = Bth.run bar l b := by rw [hI.told.2, List.take_of_length_le (by omega)]
    rw [← e]
    clear e
    refine W_go ?_
    refine W_rt [(300, (100, 0)), (301, (101, 0)), (302, (102, 0)), (303, (103, 0)), (304, (104, 0)), (305, (105, 0))] [] ?_
    exact ⟨rfl, rfl⟩
  have hil : i < l.length := by omega
  have hst : Bth.run bar (l.take (i + 1)) b = x.one bar (l.getD i false) := by rw [Bth.run_take hil, ← hI.told.2]
  have hok1 := Bth.one_ok hI.told.1 bar (l.getD i false)
  have hc := hat.told i hil
  have hm2 : l.length - (i + 1) < l.length - i := by omega
  generalize l.getD i false = c at *
  replace hst : Hold _ := ⟨hst⟩
  replace hok1 : Hold _ := ⟨hok1⟩
  cases c
  case true =>
    have hc : ((z.data.getD i 0).toNat : Int) = 111 := hc
    have z1 : ¬ (111 : Int) = 103 := by omega
    refine W_go ?_
    refine W_gh ?_
    refine W_iff ?_
    refine W_go ?_
    cases gl : x.l
    case true =>
      have e : x.one bar true = x := by rw [Bth.one, if_pos rfl, if_neg (fun q => by have := q.2.1; rw [gl] at this; cases this)]
      rw [e] at hst hok1
      clear e
      refine W_ift ?_
      refine W_go ?_
      refine W_bh (i + 1, x) ⟨by dsimp only; omega, ⟨hok1.told, hst.told.symm⟩⟩ hm2 ?_
      dsimp only; rw [gl]
    case false =>
      refine W_iff ?_
      refine W_go ?_
      rw [hc, decide_eq_false z1]
      refine W_iff ?_
      refine W_go ?_
      refine W_if (fun q => ?_) (fun q => ?_)
      · have gr : x.opOk := ⟨hI.told.1, gl, by omega⟩
        have hO := sl7Op_c x bar gr hx
        rw [gl] at hO
        have e : x.one bar true = x.op bar := by rw [Bth.one, if_pos rfl, if_pos gr]
        rw [e] at hst hok1
        clear e gr hI
        generalize x.op bar = y at *
        refine W_go ?_
        refine W_c1 [(0, (300, 0)), (1, (301, 0)), (2, (302, 0)), (3, (303, 0)), (4, (304, 0)), (5, (305, 0))] hO ?_
        refine W_go ?_
        refine W_rk 10 [(1024, (1024, 0)), (1032, (1032, 0)), (4112, (4112, 0)), (14352, (300, 0)), (14353, (301, 0)), (14354, (302, 0)), (14355, (303, 0)), (14356, (304, 0)), (14357, (305, 0))] ?_
        refine W_bk (i + 1, y) ⟨by dsimp only; omega, ⟨hok1.told, hst.told.symm⟩⟩ hm2
      · have e : x.one bar true = x := by rw [Bth.one, if_pos rfl, if_neg (fun z => by have := z.at; have := hI.told.1.2.2; omega)]
        rw [e] at hst hok1
        clear e
        refine W_go ?_
        refine W_bh (i + 1, x) ⟨by dsimp only; omega, ⟨hok1.told, hst.told.symm⟩⟩ hm2 ?_
        dsimp only; rw [gl]
  case false =>
    have hc : ((z.data.getD i 0).toNat : Int) = 103 := hc
    have z1 : ¬ (103 : Int) = 111 := by omega
    refine W_go ?_
    refine W_gh ?_
    refine W_iff ?_
    refine W_go ?_
    cases gl : x.l
    case true =>
      have e : x.one bar false = x := by rw [Bth.one, if_neg (by simp), if_neg (fun q => by have := q.2; rw [gl] at this; cases this)]
      rw [e] at hst hok1
      clear e
      refine W_ift ?_
      refine W_go ?_
      refine W_bh (i + 1, x) ⟨by dsimp only; omega, ⟨hok1.told, hst.told.symm⟩⟩ hm2 ?_
      dsimp only; rw [gl]
    case false =>
      refine W_iff ?_
      refine W_go ?_
      rw [hc, decide_eq_true (rfl : (103 : Int) = 103)]
      refine W_ift ?_
      have gr : x.gcOk := ⟨hI.told.1, gl⟩
      have hO := sl7Gc_c x gr hx
      rw [gl] at hO
      have e : x.one bar false = x.gcs := by rw [Bth.one, if_neg (by simp), if_pos gr]
      rw [e] at hst hok1
      clear e gr hI
      generalize x.gcs = y at *
      refine W_go ?_
      refine W_c1 [(0, (300, 0)), (1, (301, 0)), (2, (302, 0)), (3, (303, 0)), (4, (304, 0)), (5, (305, 0))] hO ?_
      refine W_go ?_
      refine W_rk 10 [(1024, (1024, 0)), (1032, (1032, 0)), (4112, (4112, 0)), (12296, (300, 0)), (12297, (301, 0)), (12298, (302, 0)), (12299, (303, 0)), (12300, (304, 0)), (12301, (305, 0))] ?_
      refine W_bk (i + 1, y) ⟨by dsimp only; omega, ⟨hok1.told, hst.told.symm⟩⟩ hm2
/-- A program and a collector at their beginning, as they are drawn. -/
theorem l7Draw_c (B : List UInt8) (m : Nat) (p0 : Int) (hp : 0 ≤ p0 ∧ p0 < 1099511600000) (hm : m ≤ B.length ∧ m < 1099511627776) : Fn Tryz.prog 28 [(0, .c true (.av 1 [.sl 1 0 m, .int .i64 p0])), (1, .c false (.bys B))] [.ptr 0 0]
    (fun r H => ∃ y : (Sto × List (Int × Int × Int)) × Int, (Hold (y.1.1.opsOk y.1.2) ∧ p0 ≤ y.2 ∧ y.2 ≤ p0 + 200) ∧ r = .agg [.sl 100 0 (Bth.new y.1.1 y.1.2).s.h.L.length, .sl 101 0 (Bth.new y.1.1 y.1.2).s.h.R.length, .sl 102 0 (Bth.new y.1.1 y.1.2).s.h.T.length, .sl 103 0 (Bth.new y.1.1 y.1.2).s.F.length, .int .i64 (Bth.new y.1.1 y.1.2).g.p, .sl 104 0 (Bth.new y.1.1 y.1.2).g.C.length, .int .i64 (Bth.new y.1.1 y.1.2).g.a, .sl 105 0 (Bth.new y.1.1 y.1.2).o.length, .int .i64 (Bth.new y.1.1 y.1.2).a, .bool (Bth.new y.1.1 y.1.2).l] ∧ H = [(0, .c true (.av 1 [.sl 1 0 m, .int .i64 y.2])), (100, .c true (.ints (Bth.new y.1.1 y.1.2).s.h.L)), (101, .c true (.ints (Bth.new y.1.1 y.1.2).s.h.R)), (102, .c true (.ints (Bth.new y.1.1 y.1.2).s.h.T)), (103, .c true (.ints (Bth.new y.1.1 y.1.2).s.F)), (104, .c true (.ints (Bth.new y.1.1 y.1.2).g.C)), (105, .c true (.ops (Bth.new y.1.1 y.1.2).o))]) := by
  have hN := num_c B m p0 [3, 4, 2, 5] (by omega) hm (by simp)
  have b1 := pkN_mem (B := B) (m := m) (k := p0) (l := [3, 4, 2, 5]) (by omega) (by simp)
  generalize pkN B m p0 [3, 4, 2, 5] = va at *
  simp only [List.mem_cons, List.not_mem_nil, or_false] at b1
  obtain ⟨a, rfl⟩ : ∃ a : Nat, va = a := ⟨va.toNat, by omega⟩
  have ha : 1 ≤ a ∧ a ≤ 8 := by omega
  clear b1
  have hS0 : Fn Tryz.prog 60 [] [.int .i64 a, .int .i64 3]
    (fun r H => r = .tup [.agg [.sl 100 0 a, .sl 101 0 a, .sl 102 0 3, .sl 103 0 a], .bool true] ∧ H = [(100, .c true (.ints (List.replicate a (-1)))), (101, .c true (.ints (List.replicate a (-1)))), (102, .c true (.ints (List.replicate 3 (-1)))), (103, .c true (.ints (rngI a)))]) := sNewStore_c a 3 ha (by omega)
  obtain ⟨s0, ho, hT, hb, hS⟩ : ∃ s : Sto, Hold s.ok ∧ s.h.T.length = 3 ∧ ((s.h.L.length ≤ 4194304 ∧ s.h.R.length ≤ 4194304 ∧ s.h.T.length ≤ 4194304) ∧ s.F.length ≤ 4194304) ∧ Fn Tryz.prog 60 [] [.int .i64 a, .int .i64 3] (fun r H => r = .tup [.agg [.sl 100 0 s.h.L.length, .sl 101 0 s.h.R.length, .sl 102 0 s.h.T.length, .sl 103 0 s.F.length], .bool true] ∧ H = [(100, .c true (.ints s.h.L)), (101, .c true (.ints s.h.R)), (102, .c true (.ints s.h.T)), (103, .c true (.ints s.F))]) := by
    refine ⟨⟨⟨List.replicate a (-1), List.replicate a (-1), List.replicate 3 (-1)⟩, rngI a⟩, ⟨sto_new (a := a) (b := 3) ha (by omega)⟩, rfl, ?_, ?_⟩
    · simp [rngI_len]; omega
    · simp only [List.length_replicate, rngI_len]; exact hS0
  clear hS0
  have hP1 := pick_c B m (p0 + 1) 2 (by omega) hm
  generalize pkV B m (p0 + 1) 2 = k1 at *
  refine Fn_go Tryz.func28 ?_
  refine W_go ?_
  refine W_c2 [(0, (0, 0)), (1, (1, 0)), (2, (2056, 0))] hN [] hS ?_
  clear hN hS
  refine W_go ?_
  refine W_c1 [(0, (0, 0)), (1, (1, 0))] hP1 ?_
  clear hP1
  refine W_fg [10] ?_
  refine W_rk 19 [(1024, (1024, 0)), (2072, (300, 0)), (2073, (301, 0)), (2074, (302, 0)), (2075, (303, 0)), (2104, (2104, 0)), (3072, (60000, 0))] ?_
  refine W_jn (σ := List (Int × Int × Int) × Int) 6 (fun s => [(5, .sl 60000 0 s.1.length)]) (fun s => [(0, .c true (.av 1 [.sl 1 0 m, .int .i64 s.2])), (60000, .c true (.ops s.1))]) (fun s => Hold (opsV s.1 3) ∧ s.1.length ≤ 12 ∧ p0 ≤ s.2 ∧ s.2 ≤ p0 + 110) ?_ ?_
  · refine W_if (fun q => ?_) (fun q => ?_)
    · refine W_go ?_
      refine W_rw fun K hK => ?_
      refine RW_x ?_
      repeat (refine And.intro (by omega) ?_)
      refine CKy (μ := []) ⟨⟩ (l7Samples_c) (fun ys hys => ?_)
      try dsimp only at hys ⊢
      refine RW_x ?_
      repeat (refine And.intro (by omega) ?_)
      have hO := of_c B m (p0 + 1 + 1) ys (by omega) hm (by omega)
      have kb := pkV_b (B := B) (m := m) (k := p0 + 1 + 1) (n := (ys.length : Int)) (by omega)
      have kb2 := kb.2 (by omega)
      have hin := hys.2.told _ (getD_in (l := ys) (i := (pkV B m (p0 + 1 + 1) (ys.length : Int)).toNat) (by omega))
      generalize ys.getD (pkV B m (p0 + 1 + 1) (ys.length : Int)).toNat ⟨#[]⟩ = x at *
      rw [hys.1] at hO
      clear kb kb2
      refine CKt (μ := [(0, (0, 0)), (1, (1, 0)), (2, (5128, 0))]) ⟨⟩ (hO) ?_
      refine RW_x ?_
      repeat (refine And.intro (by omega) ?_)
      refine CKy (μ := []) ⟨⟩ (sParseOps_c x hin) (fun z hz => ?_)
      obtain ⟨l, ok⟩ := z
      try dsimp only at hz ⊢
      refine RW_x ?_
      repeat (refine And.intro (by omega) ?_)
      refine hK _ _ ?_
      refine W_go ?_
      refine W_rk 6 [(1024, (1024, 0)), (300, (300, 0)), (301, (301, 0)), (302, (302, 0)), (303, (303, 0)), (2104, (2104, 0)), (5144, (60000, 0))] ?_
      refine W_bj (l, p0 + 1 + 1 + 1) ⟨hz.1, hz.2, ?_⟩
      dsimp only; omega
    · refine W_go ?_
      refine W_rw fun K hK => ?_
      refine RW_x ?_
      repeat (refine And.intro (by omega) ?_)
      refine CKy (μ := [(0, (0, 0)), (1, (1, 0))]) ⟨⟩ (l5OpsV_c B m (p0 + 1 + 1) (by omega) hm) (fun z hz => ?_)
      obtain ⟨l, p⟩ := z
      try dsimp only at hz ⊢
      refine RW_x ?_
      repeat (refine And.intro (by omega) ?_)
      refine hK _ _ ?_
      refine W_go ?_
      refine W_rk 6 [(1024, (1024, 0)), (300, (300, 0)), (301, (301, 0)), (302, (302, 0)), (303, (303, 0)), (2104, (2104, 0)), (6152, (60000, 0))] ?_
      refine W_bj (l, p) ⟨hz.1, hz.2.1, ?_⟩
      dsimp only; omega
  rintro ⟨l, p⟩ ⟨hV, hl, hp1⟩
  dsimp only at hV hl hp1 ⊢
  have ho1 : Hold (s0.opsOk l) := ⟨ho.told, by rw [hT]; exact hV.told⟩
  have hP2 := pick_c B m p 2 (by omega) hm
  generalize pkV B m p 2 = k2 at *
  refine W_go ?_
  refine W_c1 [(0, (0, 0)), (1, (1, 0))] hP2 ?_
  clear hP2
  refine W_if (fun q => ?_) (fun q => ?_)
  · have hR := sRunOps_c s0 l ⟨hb, by omega⟩
    have ho2 : Hold ((s0.opsS l).opsOk l) := ⟨opsS_again ho1.told⟩
    generalize s0.opsS l = s1 at *
    have hb2 : (s1.h.L.length ≤ 4194304 ∧ s1.h.R.length ≤ 4194304 ∧ s1.h.T.length ≤ 4194304) ∧ s1.F.length ≤ 4194304 := by
      have := ho2.told.1.1.1
      have := ho2.told.1.le
      omega
    have hB := sNewBoth_c s1 l ⟨hb2, by omega⟩
    generalize hbn : Bth.new s1 l = bn at *
    refine W_go ?_
    refine W_c1 [(0, (300, 0)), (1, (301, 0)), (2, (302, 0)), (3, (303, 0)), (4, (60000, 0))] hR ?_
    clear hR
    refine W_go ?_
    refine W_c1 [(0, (8208, 0)), (1, (8209, 0)), (2, (8210, 0)), (3, (8211, 0)), (4, (60000, 0))] hB ?_
    refine W_go ?_
    refine W_rt [(0, (0, 0)), (9232, (100, 0)), (9233, (101, 0)), (9234, (102, 0)), (9235, (103, 0)), (9236, (104, 0)), (9237, (105, 0))] [] ?_
    refine ⟨((s1, l), p + 1), ⟨ho2, ?_, ?_⟩, ?_, ?_⟩
    · dsimp only; omega
    · dsimp only; omega
    · dsimp only; rw [hbn]
    · dsimp only; rw [hbn]
  · have hB := sNewBoth_c s0 l ⟨hb, by omega⟩
    generalize hbn : Bth.new s0 l = bn at *
    refine W_go ?_
    refine W_c1 [(0, (300, 0)), (1, (301, 0)), (2, (302, 0)), (3, (303, 0)), (4, (60000, 0))] hB ?_
    refine W_go ?_
    refine W_rt [(0, (0, 0)), (9232, (100, 0)), (9233, (101, 0)), (9234, (102, 0)), (9235, (103, 0)), (9236, (104, 0)), (9237, (105, 0))] [] ?_
    refine ⟨((s0, l), p + 1), ⟨ho1, ?_, ?_⟩, ?_, ?_⟩
    · dsimp only; omega
    · dsimp only; omega
    · dsimp only; rw [hbn]
    · dsimp only; rw [hbn]
/-- What is drawn for a step is small. -/
def drB (b : Bth) : Prop := ((((b.s.h.L.length ≤ 4194304 ∧ b.s.h.R.length ≤ 4194304 ∧ b.s.h.T.length ≤ 4194304) ∧ b.s.F.length ≤ 4194304) ∧ b.g.C.length ≤ 4194304) ∧ b.o.length ≤ 4194304) ∧ b.s.h.L.length ≤ 8 ∧ b.s.h.T.length ≤ 3 ∧ b.g.C.length ≤ 8 ∧ b.o.length ≤ 13
theorem l7Case_c (B : List UInt8) (m : Nat) (p0 : Int) (hp : 0 ≤ p0 ∧ p0 < 1099511590000) (hm : m ≤ B.length ∧ m < 1099511627776) : Fn Tryz.prog 49 [(0, .c true (.av 1 [.sl 1 0 m, .int .i64 p0])), (1, .c false (.bys B))] [.ptr 0 0]
    (fun r H => ∃ y : Bth × Int, (drB y.1 ∧ p0 ≤ y.2 ∧ y.2 ≤ p0 + 300) ∧ r = .agg [.sl 100 0 y.1.s.h.L.length, .sl 101 0 y.1.s.h.R.length, .sl 102 0 y.1.s.h.T.length, .sl 103 0 y.1.s.F.length, .int .i64 y.1.g.p, .sl 104 0 y.1.g.C.length, .int .i64 y.1.g.a, .sl 105 0 y.1.o.length, .int .i64 y.1.a, .bool y.1.l] ∧ H = [(0, .c true (.av 1 [.sl 1 0 m, .int .i64 y.2])), (100, .c true (.ints y.1.s.h.L)), (101, .c true (.ints y.1.s.h.R)), (102, .c true (.ints y.1.s.h.T)), (103, .c true (.ints y.1.s.F)), (104, .c true (.ints y.1.g.C)), (105, .c true (.ops y.1.o))]) := by
  refine Fn_go Tryz.func49 ?_
  refine W_go ?_
  refine W_rw fun K hK => ?_
  refine RW_x ?_
  repeat (refine And.intro (by omega) ?_)
  refine CKy (μ := [(0, (0, 0)), (1, (1, 0))]) ⟨⟩ (l7Draw_c B m p0 (by omega) hm) (fun x hx => ?_)
  obtain ⟨sl, p1⟩ := x
  try dsimp only at hx ⊢
  refine RW_x ?_
  repeat (refine And.intro (by omega) ?_)
  have hok : Hold (Bth.new sl.1 sl.2).ok := ⟨Bth.new_ok hx.1.told⟩
  generalize Bth.new sl.1 sl.2 = b at *
  refine CKy (μ := [(0, (0, 0)), (1, (1, 0))]) ⟨⟩ (l7Schedule_c B m p1 (by omega) hm) (fun y hy => ?_)
  obtain ⟨l, p2⟩ := y
  try dsimp only at hy ⊢
  refine RW_x ?_
  repeat (refine And.intro (by omega) ?_)
  have hP := pick_c B m p2 3 (by omega) hm
  generalize pkV B m p2 3 = k at *
  refine CKt (μ := [(0, (0, 0)), (1, (1, 0))]) ⟨⟩ (hP) ?_
  refine RW_x ?_
  repeat (refine And.intro (by omega) ?_)
  have hR := sRunBoth_c b hok.told l (by omega) (decide (0 < k))
  have hrk : Hold (Bth.run (decide (0 < k)) l b).ok := ⟨Bth.run_ok _ _ hok.told⟩
  generalize Bth.run (decide (0 < k)) l b = c at *
  refine CKt (μ := [(0, (2056, 0)), (1, (2057, 0)), (2, (2058, 0)), (3, (2059, 0)), (4, (2060, 0)), (5, (2061, 0))]) ⟨⟩ (hR) ?_
  refine RW_x ?_
  repeat (refine And.intro (by omega) ?_)
  refine hK _ _ ?_
  have hc1 := hrk.told.c1
  have hcs := hrk.told.small
  have hcb : (((c.s.h.L.length ≤ 4194304 ∧ c.s.h.R.length ≤ 4194304 ∧ c.s.h.T.length ≤ 4194304) ∧ c.s.F.length ≤ 4194304) ∧ c.g.C.length ≤ 4194304) ∧ c.o.length ≤ 4194304 := by omega
  have hP2 := pick_c B m (p2 + 1) 24 (by omega) hm
  have hN := num_c B m (p2 + 1 + 1) [-1, 13, 0] (by omega) hm (by simp)
  have hG1 := l6Wrong_c B m (p2 + 1 + 1) c.g (by omega) hm (by omega)
  have pb1 := wrongP_b B m (p2 + 1 + 1)
  have gl1 := wrongG_len B m (p2 + 1 + 1) c.g
  generalize wrongG B m (p2 + 1 + 1) c.g = g1 at *
  generalize wrongP B m (p2 + 1 + 1) = q1 at *
  have hG2 := l6Wrong_c B m q1 g1 (by omega) hm (by omega)
  have pb2 := wrongP_b B m q1
  have gl2 := wrongG_len B m q1 g1
  generalize wrongG B m q1 g1 = g2 at *
  generalize wrongP B m q1 = q2 at *
  generalize pkV B m (p2 + 1) 24 = k2 at *
  generalize pkN B m (p2 + 1 + 1) [-1, 13, 0] = v at *
  have d0 : Hold (drB c) := ⟨by unfold drB; omega⟩
  have d1 : Hold (drB ⟨c.s, g2, c.o, c.a, c.l⟩) := ⟨by unfold drB; dsimp only; omega⟩
  have d2 : Hold (drB ⟨c.s, c.g, c.o ++ [(8, 0, 0)], c.a, c.l⟩) := ⟨by unfold drB; dsimp only; rw [List.length_append, List.length_singleton]; omega⟩
  have d3 : Hold (drB ⟨c.s, c.g, c.o, v, c.l⟩) := ⟨by unfold drB; dsimp only; omega⟩
  have eg1 : g1.C.length ≤ 8 ∧ c.g.C.length ≤ 8 := by omega
  clear hok hR hP hrk hc1 hcs gl1 gl2
  refine W_go ?_
  refine W_c1 [(0, (0, 0)), (1, (1, 0))] hP2 ?_
  refine W_go ?_
  refine W_if (fun z1 => ?_) (fun z1 => ?_)
  · refine W_go ?_
    refine W_c1 [(0, (0, 0)), (1, (1, 0)), (2, (5128, 0))] hN ?_
    refine W_go ?_
    refine W_rt [(0, (0, 0)), (2104, (100, 0)), (2105, (101, 0)), (2106, (102, 0)), (2107, (103, 0)), (2108, (104, 0)), (2109, (105, 0))] [] ?_
    exact ⟨(⟨c.s, c.g, c.o, v, c.l⟩, p2 + 1 + 1 + 1), ⟨d3.told, by dsimp only; omega, by dsimp only; omega⟩, rfl, rfl⟩
  refine W_go ?_
  refine W_if (fun z2 => ?_) (fun z2 => ?_)
  · refine W_go ?_
    refine W_c2 [(0, (0, 0)), (1, (1, 0)), (2, (2108, 0))] hG1 [(0, (0, 0)), (1, (1, 0)), (2, (7200, 0))] hG2 ?_
    refine W_go ?_
    refine W_rt [(0, (0, 0)), (2104, (100, 0)), (2105, (101, 0)), (2106, (102, 0)), (2107, (103, 0)), (7208, (104, 0)), (2109, (105, 0))] [] ?_
    exact ⟨(⟨c.s, g2, c.o, c.a, c.l⟩, q2), ⟨d1.told, by dsimp only; omega, by dsimp only; omega⟩, rfl, rfl⟩
  refine W_go ?_
  refine W_if (fun z3 => ?_) (fun z3 => ?_)
  · refine W_go ?_
    refine W_rt [(0, (0, 0)), (2104, (100, 0)), (2105, (101, 0)), (2106, (102, 0)), (2107, (103, 0)), (2108, (104, 0)), (9248, (105, 0))] [] ?_
    exact ⟨(⟨c.s, c.g, c.o ++ [(8, 0, 0)], c.a, c.l⟩, p2 + 1 + 1), ⟨d2.told, by dsimp only; omega, by dsimp only; omega⟩, by simp, by simp⟩
  · refine W_go ?_
    refine W_rt [(0, (0, 0)), (2104, (100, 0)), (2105, (101, 0)), (2106, (102, 0)), (2107, (103, 0)), (2108, (104, 0)), (2109, (105, 0))] [] ?_
    exact ⟨(c, p2 + 1 + 1), ⟨d0.told, by dsimp only; omega, by dsimp only; omega⟩, rfl, rfl⟩
end Go.Proofs.YtnepiffboakehaaGreatDoor.S
