/- Texts of this claim's own, laid as one: Md Me. Own work of this claim. -/
import Derived.Test.YtbobhbhgomkgpaaGreatDoorGx
import Derived.Test.YtbobhbhgomkgpaaGreatDoorGw
import Derived.Test.YtbobhbhgomkgpaaGreatDoorC1
import Derived.Test.YtbobhbhgomkgpaaGreatDoorA6
import Derived.Test.YtbobhbhgomkgpaaGreatDoorMl
/- Contracts: one step of all schedules, the specification's. Own work of this claim. -/
namespace Go.Proofs.YtbobhbhgomkgpaaGreatDoor.S
set_option linter.all false
open Go Go.Proofs
set_option maxHeartbeats 4000000
set_option maxRecDepth 100000

noncomputable def nz (o : Option Bth) : Bth := o.getD .zero
theorem nx_lost {y : Bth} {bar : Bool} (c : Bool) (hl : y.l = true) : y.nx bar c = none := by
  unfold Bth.nx
  cases c
  · rw [if_neg (by simp), if_neg (fun q => by rw [q.2] at hl; cases hl)]
  · rw [if_pos rfl, if_neg (fun q => by rw [q.2.1] at hl; cases hl)]
theorem nx_end {y : Bth} {bar : Bool} (ha : y.a = y.o.length) : y.nx bar true = none := by
  unfold Bth.nx
  rw [if_pos rfl, if_neg (fun q => q.2.2 ha)]
theorem nx_o {y : Bth} {bar : Bool} (h : y.opOk) : y.nx bar true = some (y.op bar) := by
  unfold Bth.nx
  rw [if_pos rfl, if_pos h]

theorem l8NextG_c (v : Nat → Value) (y : Bth) (bar : Bool) (hok : y.ok) (hy : (((y.s.h.L.length ≤ 4194304 ∧ y.s.h.R.length ≤ 4194304 ∧ y.s.h.T.length ≤ 4194304) ∧ y.s.F.length ≤ 4194304) ∧ y.g.C.length ≤ 4194304) ∧ y.o.length ≤ 4194304) : FnC (HB v y) Tryz.prog 56 [] [.agg [.lit (v 0), .lit (v 1), .lit (v 2), .lit (v 3), .int .i64 y.g.p, .lit (v 4), .int .i64 y.g.a, .lit (v 5), .int .i64 y.a, .bool y.l], .int .u8 103, .bool bar]
    (fun r H => r = .tup [.agg [.sl 100 0 (nz (y.nx bar false)).s.h.L.length, .sl 101 0 (nz (y.nx bar false)).s.h.R.length, .sl 102 0 (nz (y.nx bar false)).s.h.T.length, .sl 103 0 (nz (y.nx bar false)).s.F.length, .int .i64 (nz (y.nx bar false)).g.p, .sl 104 0 (nz (y.nx bar false)).g.C.length, .int .i64 (nz (y.nx bar false)).g.a, .sl 105 0 (nz (y.nx bar false)).o.length, .int .i64 (nz (y.nx bar false)).a, .bool (nz (y.nx bar false)).l], .bool (y.nx bar false).isSome] ∧ H = [(100, .c true (.ints (nz (y.nx bar false)).s.h.L)), (101, .c true (.ints (nz (y.nx bar false)).s.h.R)), (102, .c true (.ints (nz (y.nx bar false)).s.h.T)), (103, .c true (.ints (nz (y.nx bar false)).s.F)), (104, .c true (.ints (nz (y.nx bar false)).g.C)), (105, .c true (.ops (nz (y.nx bar false)).o))]) := by
  refine Fn_goC Tryz.func56 ?_
  cases hl : y.l
  case true =>
    rw [nx_lost false hl]
    refine W_go ?_
    refine W_thaw 1024 300 0 (fun G hp q => q.1) ?_
    refine W_thaw 1024 301 1 (fun G hp q => q.2.1) ?_
    refine W_thaw 1024 302 2 (fun G hp q => q.2.2.1) ?_
    refine W_thaw 1024 303 3 (fun G hp q => q.2.2.2.1) ?_
    refine W_thaw 1024 304 5 (fun G hp q => q.2.2.2.2.1) ?_
    refine W_thaw 1024 305 7 (fun G hp q => q.2.2.2.2.2) ?_
    refine W_go ?_
    refine W_ift ?_
    refine W_go ?_
    refine W_rt [] [(100, .ints []), (101, .ints []), (102, .ints []), (103, .ints []), (104, .ints []), (105, .ops [])] ?_
    exact ⟨rfl, rfl⟩
  have hG := sl7Gc_c y ⟨hok, hl⟩ hy
  rw [nx_g hok hl]
  rw [hl] at hG
  show Wp _ _ _ _ _ fun env H => ∃ r, _ ∧ RetP _ (fun r H => r = .tup [.agg [.sl 100 0 y.gcs.s.h.L.length, .sl 101 0 y.gcs.s.h.R.length, .sl 102 0 y.gcs.s.h.T.length, .sl 103 0 y.gcs.s.F.length, .int .i64 y.gcs.g.p, .sl 104 0 y.gcs.g.C.length, .int .i64 y.gcs.g.a, .sl 105 0 y.gcs.o.length, .int .i64 y.gcs.a, .bool y.gcs.l], .bool true] ∧ H = [(100, .c true (.ints y.gcs.s.h.L)), (101, .c true (.ints y.gcs.s.h.R)), (102, .c true (.ints y.gcs.s.h.T)), (103, .c true (.ints y.gcs.s.F)), (104, .c true (.ints y.gcs.g.C)), (105, .c true (.ops y.gcs.o))]) r H
  generalize y.gcs = w at *
  refine W_go ?_
  refine W_thaw 1024 300 0 (fun G hp q => q.1) ?_
  refine W_thaw 1024 301 1 (fun G hp q => q.2.1) ?_
  refine W_thaw 1024 302 2 (fun G hp q => q.2.2.1) ?_
  refine W_thaw 1024 303 3 (fun G hp q => q.2.2.2.1) ?_
  refine W_thaw 1024 304 5 (fun G hp q => q.2.2.2.2.1) ?_
  refine W_thaw 1024 305 7 (fun G hp q => q.2.2.2.2.2) ?_
  refine W_go ?_
  refine W_iff (hb := rfl) ?_
  refine W_go ?_
  refine W_iff (hb := rfl) ?_
  refine W_go ?_
  refine W_c1 [(0, (300, 0)), (1, (301, 0)), (2, (302, 0)), (3, (303, 0)), (4, (304, 0)), (5, (305, 0))] hG ?_
  refine W_rt [(6152, (100, 0)), (6153, (101, 0)), (6154, (102, 0)), (6155, (103, 0)), (6156, (104, 0)), (6157, (105, 0))] [] ?_
  exact ⟨rfl, rfl⟩
theorem l8NextO_c (v : Nat → Value) (y : Bth) (bar : Bool) (hok : y.ok) (hy : (((y.s.h.L.length ≤ 4194304 ∧ y.s.h.R.length ≤ 4194304 ∧ y.s.h.T.length ≤ 4194304) ∧ y.s.F.length ≤ 4194304) ∧ y.g.C.length ≤ 4194304) ∧ y.o.length ≤ 4194304) : FnC (HB v y) Tryz.prog 56 [] [.agg [.lit (v 0), .lit (v 1), .lit (v 2), .lit (v 3), .int .i64 y.g.p, .lit (v 4), .int .i64 y.g.a, .lit (v 5), .int .i64 y.a, .bool y.l], .int .u8 111, .bool bar]
    (fun r H => r = .tup [.agg [.sl 100 0 (nz (y.nx bar true)).s.h.L.length, .sl 101 0 (nz (y.nx bar true)).s.h.R.length, .sl 102 0 (nz (y.nx bar true)).s.h.T.length, .sl 103 0 (nz (y.nx bar true)).s.F.length, .int .i64 (nz (y.nx bar true)).g.p, .sl 104 0 (nz (y.nx bar true)).g.C.length, .int .i64 (nz (y.nx bar true)).g.a, .sl 105 0 (nz (y.nx bar true)).o.length, .int .i64 (nz (y.nx bar true)).a, .bool (nz (y.nx bar true)).l], .bool (y.nx bar true).isSome] ∧ H = [(100, .c true (.ints (nz (y.nx bar true)).s.h.L)), (101, .c true (.ints (nz (y.nx bar true)).s.h.R)), (102, .c true (.ints (nz (y.nx bar true)).s.h.T)), (103, .c true (.ints (nz (y.nx bar true)).s.F)), (104, .c true (.ints (nz (y.nx bar true)).g.C)), (105, .c true (.ops (nz (y.nx bar true)).o))]) := by
  refine Fn_goC Tryz.func56 ?_
  cases hl : y.l
  case true =>
    rw [nx_lost true hl]
    refine W_go ?_
    refine W_thaw 1024 300 0 (fun G hp q => q.1) ?_
    refine W_thaw 1024 301 1 (fun G hp q => q.2.1) ?_
    refine W_thaw 1024 302 2 (fun G hp q => q.2.2.1) ?_
    refine W_thaw 1024 303 3 (fun G hp q => q.2.2.2.1) ?_
    refine W_thaw 1024 304 5 (fun G hp q => q.2.2.2.2.1) ?_
    refine W_thaw 1024 305 7 (fun G hp q => q.2.2.2.2.2) ?_
    refine W_go ?_
    refine W_ift ?_
    refine W_go ?_
    refine W_rt [] [(100, .ints []), (101, .ints []), (102, .ints []), (103, .ints []), (104, .ints []), (105, .ops [])] ?_
    exact ⟨rfl, rfl⟩
  by_cases ha : y.a = y.o.length
  · rw [nx_end ha]
    refine W_go ?_
    refine W_thaw 1024 300 0 (fun G hp q => q.1) ?_
    refine W_thaw 1024 301 1 (fun G hp q => q.2.1) ?_
    refine W_thaw 1024 302 2 (fun G hp q => q.2.2.1) ?_
    refine W_thaw 1024 303 3 (fun G hp q => q.2.2.2.1) ?_
    refine W_thaw 1024 304 5 (fun G hp q => q.2.2.2.2.1) ?_
    refine W_thaw 1024 305 7 (fun G hp q => q.2.2.2.2.2) ?_
    refine W_gh ?_
    refine W_ift ?_
    refine W_go ?_
    refine W_rt [] [(100, .ints []), (101, .ints []), (102, .ints []), (103, .ints []), (104, .ints []), (105, .ops [])] ?_
    exact ⟨rfl, rfl⟩
  have hO := sl7Op_c y bar ⟨hok, hl, ha⟩ hy
  rw [nx_o ⟨hok, hl, ha⟩]
  rw [hl] at hO
  show Wp _ _ _ _ _ fun env H => ∃ r, _ ∧ RetP _ (fun r H => r = .tup [.agg [.sl 100 0 (y.op bar).s.h.L.length, .sl 101 0 (y.op bar).s.h.R.length, .sl 102 0 (y.op bar).s.h.T.length, .sl 103 0 (y.op bar).s.F.length, .int .i64 (y.op bar).g.p, .sl 104 0 (y.op bar).g.C.length, .int .i64 (y.op bar).g.a, .sl 105 0 (y.op bar).o.length, .int .i64 (y.op bar).a, .bool (y.op bar).l], .bool true] ∧ H = [(100, .c true (.ints (y.op bar).s.h.L)), (101, .c true (.ints (y.op bar).s.h.R)), (102, .c true (.ints (y.op bar).s.h.T)), (103, .c true (.ints (y.op bar).s.F)), (104, .c true (.ints (y.op bar).g.C)), (105, .c true (.ops (y.op bar).o))]) r H
  generalize y.op bar = w at *
  refine W_go ?_
  refine W_thaw 1024 300 0 (fun G hp q => q.1) ?_
  refine W_thaw 1024 301 1 (fun G hp q => q.2.1) ?_
  refine W_thaw 1024 302 2 (fun G hp q => q.2.2.1) ?_
  refine W_thaw 1024 303 3 (fun G hp q => q.2.2.2.1) ?_
  refine W_thaw 1024 304 5 (fun G hp q => q.2.2.2.2.1) ?_
  refine W_thaw 1024 305 7 (fun G hp q => q.2.2.2.2.2) ?_
  refine W_gh ?_
  refine W_iff ?_
  refine W_go ?_
  refine W_ift ?_
  refine W_go ?_
  refine W_c1 [(0, (300, 0)), (1, (301, 0)), (2, (302, 0)), (3, (303, 0)), (4, (304, 0)), (5, (305, 0))] hO ?_
  refine W_rt [(5136, (100, 0)), (5137, (101, 0)), (5138, (102, 0)), (5139, (103, 0)), (5140, (104, 0)), (5141, (105, 0))] [] ?_
  exact ⟨rfl, rfl⟩
end Go.Proofs.YtbobhbhgomkgpaaGreatDoor.S

/- Contracts: whether one has come to a value, the specification's. Own work of this claim. -/
namespace Go.Proofs.YtbobhbhgomkgpaaGreatDoor.S
set_option linter.all false
open Go Go.Proofs
set_option maxHeartbeats 4000000
set_option maxRecDepth 100000

/-- Alike, among values of one list of operations. -/
def Bth.alk (x y : Bth) : Bool := decide (x.a = y.a) && ((x.l == y.l) && (x.g.same y.g && x.s.same y.s))
theorem Bth.alk_iff {x y : Bth} (ho : x.o = y.o) : x.alk y = true ↔ x = y := by
  unfold Bth.alk
  constructor
  · intro h
    simp only [Bool.and_eq_true, decide_eq_true_eq, beq_iff_eq] at h
    obtain ⟨h1, h2, h3, h4⟩ := h
    exact (Bth.ext2 ⟨(Sto.same_eq h4).symm, (Gcc.same_eq h3).symm, h1, h2⟩ ho)
  · rintro rfl
    simp [S.same_self, Gcc.same_self]
def fndY (y : Bth) (E : List Row) : Int := match E.findIdx? (fun e => e.1.1.alk y) with
  | some i => i
  | none => -1
theorem fndY_at {y : Bth} {E : List Row} {i : Nat} {e : Row} (h : E[i]? = some e) (hl : e.1.1.alk y = true) (hn : ∀ j, j < i → ∀ e, E[j]? = some e → e.1.1.alk y = false) : fndY y E = i := by
  obtain ⟨hi, rfl⟩ := List.getElem?_eq_some_iff.1 h
  have q : ∀ j (hj : j < i), ¬ ((E[j]'(by omega)).1.1.alk y = true) := fun j hj => by rw [hn j hj _ (List.getElem?_eq_getElem (by omega))]; decide
  unfold fndY
  have : E.findIdx? (fun e => e.1.1.alk y) = some i := List.findIdx?_eq_some_iff_getElem.2 ⟨hi, hl, q⟩
  rw [this]
theorem fndY_none {y : Bth} {E : List Row} (hn : ∀ j, j < E.length → ∀ e, E[j]? = some e → e.1.1.alk y = false) : fndY y E = -1 := by
  unfold fndY
  have : E.findIdx? (fun e => e.1.1.alk y) = none := List.findIdx?_eq_none_iff.2 fun e he => by
    obtain ⟨j, hj, rfl⟩ := List.getElem_of_mem he
    exact hn j hj _ (List.getElem?_eq_getElem hj)
  rw [this]
/-- Found or not. -/
theorem fndY_mem {y : Bth} {E : List Row} (ho : ∀ e ∈ E, e.1.1.o = y.o) : (0 ≤ fndY y E ↔ y ∈ (E.map Prod.fst).map Prod.fst) := by
  have k : y ∈ (E.map Prod.fst).map Prod.fst ↔ ∃ e ∈ E, e.1.1 = y := by
    simp only [List.mem_map]
    constructor
    · rintro ⟨p, ⟨e, he, rfl⟩, rfl⟩; exact ⟨e, he, rfl⟩
    · rintro ⟨e, he, rfl⟩; exact ⟨_, ⟨e, he, rfl⟩, rfl⟩
  rw [k]
  unfold fndY
  cases h : E.findIdx? (fun e => e.1.1.alk y) with
  | none =>
    have := List.findIdx?_eq_none_iff.1 h
    constructor
    · intro q; simp only at q; omega
    · rintro ⟨e, he, rfl⟩
      have := this e he
      rw [(Bth.alk_iff rfl).2 rfl] at this; cases this
  | some i =>
    obtain ⟨hi, hl, _⟩ := List.findIdx?_eq_some_iff_getElem.1 h
    constructor
    · intro _
      exact ⟨E[i], List.getElem_mem hi, (Bth.alk_iff (ho _ (List.getElem_mem hi))).1 hl⟩
    · intro _; simp only; omega

theorem l8Find_c (E : List Row) (y : Bth) (hE : E.length ≤ 1000) (hs : ∀ x : Bth, x ∈ E.map (fun e => e.1.1) → (((x.s.h.L.length ≤ 4194304 ∧ x.s.h.R.length ≤ 4194304 ∧ x.s.h.T.length ≤ 4194304) ∧ x.s.F.length ≤ 4194304) ∧ x.g.C.length ≤ 4194304) ∧ x.o.length ≤ 4194304) (hy : (((y.s.h.L.length ≤ 4194304 ∧ y.s.h.R.length ≤ 4194304 ∧ y.s.h.T.length ≤ 4194304) ∧ y.s.F.length ≤ 4194304) ∧ y.g.C.length ≤ 4194304) ∧ y.o.length ≤ 4194304) : FnC (DE E) Tryz.prog 57 [(0, .c false (.av 11 (noN (cellsE E)))), (1, .c false (.ints y.s.h.L)), (2, .c false (.ints y.s.h.R)), (3, .c false (.ints y.s.h.T)), (4, .c false (.ints y.s.F)), (5, .c false (.ints y.g.C)), (6, .c false (.ops y.o))] [.sl 0 0 E.length, .agg [.sl 1 0 y.s.h.L.length, .sl 2 0 y.s.h.R.length, .sl 3 0 y.s.h.T.length, .sl 4 0 y.s.F.length, .int .i64 y.g.p, .sl 5 0 y.g.C.length, .int .i64 y.g.a, .sl 6 0 y.o.length, .int .i64 y.a, .bool y.l]] (fun r H => r = .int .i64 (fndY y E) ∧ H = []) := by
  have hcl0 := cellsE_len E
  have hcl : (cellsE E).length ≤ E.length * 11 ∧ E.length * 11 ≤ (cellsE E).length := by omega
  clear hcl0
  replace hs : Hold _ := ⟨hs⟩
  refine Fn_goC Tryz.func57 ?_
  refine W_go ?_
  refine W_lp (T := 6) (σ := Nat) (me := fun i => [(5, .int .i64 i)]) (mh := fun _ => []) (inv := fun i => i ≤ E.length ∧ Hold (∀ j, j < i → ∀ e, E[j]? = some e → e.1.1.alk y = false)) (m := fun i => E.length - i) (s0 := 0) ⟨by omega, ⟨by intro j hj; omega⟩⟩ ?_
  rintro i ⟨hi, hI⟩
  refine W_go ?_
  refine W_if (fun h2 => ?_) (fun h2 => ?_)
  case' refine_2 =>
    refine W_go ?_
    refine W_go ?_
    refine W_rt [] [] ?_
    exact ⟨by rw [fndY_none fun j hj => hI.told j (by omega)], rfl⟩
  obtain ⟨⟨⟨x, w⟩, v⟩, he⟩ : ∃ e, E[i]? = some e := ⟨E[i], List.getElem?_eq_getElem (by omega)⟩
  have hm : ((x, w), v) ∈ E := List.mem_of_getElem? he
  have hx := hs.told x (List.mem_map.2 ⟨_, hm, rfl⟩)
  have hEx : List.take 10 (List.drop (i * 11) (noN (cellsE E))) = [.lit (v 0), .lit (v 1), .lit (v 2), .lit (v 3), .int .i64 x.g.p, .lit (v 4), .int .i64 x.g.a, .lit (v 5), .int .i64 x.a, .bool x.l] := cellsN_at10 he
  have hb1 : i * 11 + 11 ≤ (cellsE E).length := by omega
  have h1 := sGcSame_c x.g y.g hx.1.2 hy.1.2
  have h2' := sStoreSame_c x.s y.s hx.1.1 hy.1.1
  have hit : x.alk y = true → fndY y E = i := fun q => fndY_at he q hI.told
  have next : x.alk y = false → ∀ j, j < i + 1 → ∀ e, E[j]? = some e → e.1.1.alk y = false := by
    intro q j hj e' he'
    by_cases k : j = i
    · subst k; rw [he] at he'; cases he'; exact q
    · exact hI.told j (by omega) e' he'
  replace hit : Hold _ := ⟨hit⟩
  replace next : Hold _ := ⟨next⟩
  replace hm : Hold _ := ⟨hm⟩
  clear hI he hs hx
  refine W_gh ?_
  refine W_thaw 5160 300 0 (fun G hp q => by have h := q _ hm.told; exact h.1) ?_
  refine W_thaw 5160 301 1 (fun G hp q => by have h := q _ hm.told; exact h.2.1) ?_
  refine W_thaw 5160 302 2 (fun G hp q => by have h := q _ hm.told; exact h.2.2.1) ?_
  refine W_thaw 5160 303 3 (fun G hp q => by have h := q _ hm.told; exact h.2.2.2.1) ?_
  refine W_thaw 5160 304 5 (fun G hp q => by have h := q _ hm.told; exact h.2.2.2.2.1) ?_
  refine W_thaw 5160 305 7 (fun G hp q => by have h := q _ hm.told; exact h.2.2.2.2.2) ?_
  by_cases e4 : x.a = y.a
  case neg =>
    have es : Hold (x.alk y = false) := ⟨by simp [Bth.alk, e4]⟩
    clear h1 h2' hit
    refine W_gh ?_
    refine W_iff ?_
    refine W_go ?_
    refine W_rk 6 [(1024, (1024, 0))] ?_
    refine W_bk (i + 1) ⟨by omega, ⟨fun j hj e' he' => ?_⟩⟩ (by omega)
    exact next.told es.told j hj e' he'
  cases e5 : (x.l == y.l)
  case false =>
    have es : Hold (x.alk y = false) := ⟨by simp [Bth.alk, e5]⟩
    replace e4 := eq_true e4
    clear h1 h2' hit
    refine W_gh ?_
    refine W_iff ?_
    refine W_go ?_
    refine W_rk 6 [(1024, (1024, 0))] ?_
    refine W_bk (i + 1) ⟨by omega, ⟨fun j hj e' he' => ?_⟩⟩ (by omega)
    exact next.told es.told j hj e' he'
  by_cases e1 : x.g.same y.g = true
  case neg =>
    have e1 : x.g.same y.g = false := by simpa using e1
    have es : Hold (x.alk y = false) := ⟨by simp [Bth.alk, e1]⟩
    rw [e1] at h1
    replace e4 := eq_true e4
    clear h2' hit e1
    refine W_ch1 [(0, (304, 0)), (1, (5, 0))] h1 ?_
    refine W_iff ?_
    refine W_go ?_
    refine W_rk 6 [(1024, (1024, 0))] ?_
    refine W_bk (i + 1) ⟨by omega, ⟨fun j hj e' he' => ?_⟩⟩ (by omega)
    exact next.told es.told j hj e' he'
  rw [e1] at h1
  by_cases e2 : x.s.same y.s = true
  case neg =>
    have e2 : x.s.same y.s = false := by simpa using e2
    have es : Hold (x.alk y = false) := ⟨by simp [Bth.alk, e2]⟩
    rw [e2] at h2'
    replace e4 := eq_true e4
    clear hit e1 e2
    refine W_ch2 [(0, (304, 0)), (1, (5, 0))] h1 [(0, (300, 0)), (1, (301, 0)), (2, (302, 0)), (3, (303, 0)), (4, (1, 0)), (5, (2, 0)), (6, (3, 0)), (7, (4, 0))] h2' ?_
    refine W_iff ?_
    refine W_go ?_
    refine W_rk 6 [(1024, (1024, 0))] ?_
    refine W_bk (i + 1) ⟨by omega, ⟨fun j hj e' he' => ?_⟩⟩ (by omega)
    exact next.told es.told j hj e' he'
  rw [e2] at h2'
  have es : Hold (fndY y E = i) := ⟨hit.told (by simp [Bth.alk, e1, e2, e4, e5])⟩
  replace e4 := eq_true e4
  clear hit e1 e2 next
  refine W_ch2 [(0, (304, 0)), (1, (5, 0))] h1 [(0, (300, 0)), (1, (301, 0)), (2, (302, 0)), (3, (303, 0)), (4, (1, 0)), (5, (2, 0)), (6, (3, 0)), (7, (4, 0))] h2' ?_
  refine W_ift ?_
  refine W_go ?_
  refine W_go ?_
  refine W_rt [] [] ?_
  exact ⟨by rw [es.told], rfl⟩
end Go.Proofs.YtbobhbhgomkgpaaGreatDoor.S
