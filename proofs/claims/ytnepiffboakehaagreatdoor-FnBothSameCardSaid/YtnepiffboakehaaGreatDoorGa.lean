/- Contracts: numbers drawn out of bytes. Own work of this claim. -/
import Derived.Test.YtnepiffboakehaaGreatDoorSw
import Derived.Test.YtnepiffboakehaaGreatDoorA4
namespace Go.Proofs.YtnepiffboakehaaGreatDoor.S
set_option linter.all false
open Go Go.Proofs
set_option maxHeartbeats 4000000
set_option maxRecDepth 100000

theorem tmod_b {a n : Int} (ha : 0 ≤ a) (hn : 1 ≤ n) : 0 ≤ Int.tmod a n ∧ Int.tmod a n < n :=
  ⟨Int.tmod_nonneg n ha, Int.tmod_lt_of_pos a (by omega)⟩
theorem tdiv_b {a n : Int} (ha : 0 ≤ a) (hn : 1 ≤ n) : 0 ≤ Int.tdiv a n ∧ Int.tdiv a n ≤ a := by
  have h1 := Int.tdiv_nonneg ha (show (0 : Int) ≤ n by omega)
  refine ⟨h1, ?_⟩
  rw [Int.tdiv_eq_ediv_of_nonneg ha]
  exact Int.ediv_le_self n ha
theorem xor_b {x y : Int} (hx : 0 ≤ x ∧ x < 4611686018427387904) (hy : 0 ≤ y ∧ y < 4611686018427387904) :
    0 ≤ (((BitVec.ofInt 64 x ^^^ BitVec.ofInt 64 y).toNat : Nat) : Int) ∧ (((BitVec.ofInt 64 x ^^^ BitVec.ofInt 64 y).toNat : Nat) : Int) < 4611686018427387904 := by
  refine ⟨by omega, ?_⟩
  have key : ∀ z : Int, 0 ≤ z ∧ z < 4611686018427387904 → (BitVec.ofInt 64 z).toNat < 2 ^ 62 := by
    intro z hz
    rw [BitVec.toNat_ofInt]
    omega
  have := Nat.xor_lt_two_pow (key x hx) (key y hy)
  rw [BitVec.toNat_xor]
  omega
def pkX (B : List UInt8) (m : Nat) (k : Int) : Int :=
  ((B.getD (Int.tmod k m).toNat 0).toNat : Int) * 131 + ((B.getD (Int.tmod (k * 7 + 3) m).toNat 0).toNat : Int) * 1117 + k * 29 + Int.tdiv k m * 53
/-- What the pick at a place comes to. -/
def pkV (B : List UInt8) (m : Nat) (k n : Int) : Int :=
  if n < 1 ∨ m = 0 then 0
  else if k < m then Int.tmod ((B.getD k.toNat 0).toNat : Int) n
  else Int.tmod (((BitVec.ofInt 64 (pkX B m k) ^^^ BitVec.ofInt 64 ((pkX B m k).tdiv 64)).toNat : Nat) : Int) n
theorem pkX_b {B : List UInt8} {m : Nat} {k : Int} (hk : 0 ≤ k ∧ k < 1099511627776) (hm : m ≠ 0) : 0 ≤ pkX B m k ∧ pkX B m k < 4611686018427387904 := by
  have h1 := UInt8.toNat_lt (B.getD (Int.tmod k m).toNat 0)
  have h2 := UInt8.toNat_lt (B.getD (Int.tmod (k * 7 + 3) m).toNat 0)
  have h3 := tdiv_b (a := k) (n := m) hk.1 (by omega)
  unfold pkX
  omega
theorem pkV_b {B : List UInt8} {m : Nat} {k n : Int} (hk : 0 ≤ k ∧ k < 1099511627776) : 0 ≤ pkV B m k n ∧ (1 ≤ n → pkV B m k n < n) := by
  unfold pkV
  by_cases h : n < 1 ∨ m = 0
  · rw [if_pos h]; omega
  rw [if_neg h]
  have hn : 1 ≤ n := by omega
  split
  · have := tmod_b (a := ((B.getD k.toNat 0).toNat : Int)) (n := n) (by omega) hn
    exact ⟨this.1, fun _ => this.2⟩
  · have hx := pkX_b (B := B) (m := m) hk (by omega)
    have hd := tdiv_b (a := pkX B m k) (n := 64) hx.1 (by omega)
    have hq := xor_b hx (y := (pkX B m k).tdiv 64) ⟨hd.1, by omega⟩
    have := tmod_b (a := (((BitVec.ofInt 64 (pkX B m k) ^^^ BitVec.ofInt 64 ((pkX B m k).tdiv 64)).toNat : Nat) : Int)) (n := n) hq.1 hn
    exact ⟨this.1, fun _ => this.2⟩
/-- An element of a list, drawn. -/
def pkN (B : List UInt8) (m : Nat) (k : Int) (l : List Int) : Int := l.getD (pkV B m k l.length).toNat 0
theorem pkN_mem {B : List UInt8} {m : Nat} {k : Int} {l : List Int} (hk : 0 ≤ k ∧ k < 1099511627776) (hl : 1 ≤ l.length) : pkN B m k l ∈ l := by
  have := pkV_b (B := B) (m := m) (n := l.length) hk
  have h2 : (pkV B m k l.length).toNat < l.length := by omega
  unfold pkN
  rw [List.getD_eq_getElem?_getD, List.getElem?_eq_getElem h2]
  exact List.getElem_mem h2
theorem pick_c (B : List UInt8) (m : Nat) (p n : Int) (hp : 0 ≤ p ∧ p < 1099511627776) (hm : m ≤ B.length ∧ m < 1099511627776) : Fn Tryz.prog 30 [(0, .c true (.av 1 [.sl 1 0 m, .int .i64 p])), (1, .c false (.bys B))] [.ptr 0 0, .int .i64 n] (fun r H => r = .int .i64 (pkV B m p n) ∧ H = [(0, .c true (.av 1 [.sl 1 0 m, .int .i64 (p + 1)]))]) := by
  refine Fn_go Tryz.func30 ?_
  by_cases d1 : n < 1
  · have e : pkV B m p n = 0 := by rw [pkV, if_pos (.inl d1)]
    rw [e]
    clear e
    replace d1 := eq_true d1
    refine W_go ?_
    refine W_gh ?_
    refine W_ift ?_
    refine W_go ?_
    refine W_rt [(0, (0, 0))] [] ?_
    exact ⟨rfl, rfl⟩
  by_cases d2 : m = 0
  · have e : pkV B m p n = 0 := by rw [pkV, if_pos (.inr d2)]
    rw [e]
    clear e
    subst d2
    refine W_go ?_
    refine W_gh ?_
    refine W_ift ?_
    refine W_go ?_
    refine W_rt [(0, (0, 0))] [] ?_
    exact ⟨rfl, rfl⟩
  by_cases d3 : p < m
  · have e : pkV B m p n = Int.tmod ((B.getD p.toNat 0).toNat : Int) n := by rw [pkV, if_neg (by omega), if_pos d3]
    have hb := UInt8.toNat_lt (B.getD p.toNat 0)
    rw [e]
    clear e
    refine W_go ?_
    refine W_gh ?_
    refine W_if (fun h => ?_) (fun h => ?_)
    · exact absurd h (by omega)
    clear h
    refine W_go ?_
    rw [show p + 1 - 1 = p by omega]
    refine W_if (fun h => ?_) (fun h => ?_)
    case' refine_2 => exact absurd d3 h
    clear h
    refine W_go ?_
    refine W_rt [(0, (0, 0))] [] ?_
    exact ⟨rfl, rfl⟩
  have e : pkV B m p n = Int.tmod (((BitVec.ofInt 64 (pkX B m p) ^^^ BitVec.ofInt 64 ((pkX B m p).tdiv 64)).toNat : Nat) : Int) n := by rw [pkV, if_neg (by omega), if_neg d3]
  rw [e]
  clear e
  have hb1 := UInt8.toNat_lt (B.getD (Int.tmod p m).toNat 0)
  have hb2 := UInt8.toNat_lt (B.getD (Int.tmod (p * 7 + 3) m).toNat 0)
  have hb3 := tdiv_b (a := p) (n := m) hp.1 (by omega)
  have hb4 := tmod_b (a := p) (n := m) hp.1 (by omega)
  have hb5 := tmod_b (a := p * 7 + 3) (n := m) (by omega) (by omega)
  have hx := pkX_b (B := B) (m := m) hp (by omega)
  have hd := tdiv_b (a := pkX B m p) (n := 64) hx.1 (by omega)
  have hq := xor_b hx (y := (pkX B m p).tdiv 64) ⟨hd.1, by omega⟩
  refine W_go ?_
  refine W_gh ?_
  refine W_if (fun h => ?_) (fun h => ?_)
  · exact absurd h (by omega)
  clear h
  refine W_go ?_
  rw [show p + 1 - 1 = p by omega]
  refine W_if (fun h => ?_) (fun h => ?_)
  · exact absurd h d3
  clear h
  refine W_ft 6 ?_
  have hq' : 0 ≤ (((BitVec.ofInt IntKind.i64.bits (pkX B m p) ^^^ BitVec.ofInt IntKind.i64.bits ((pkX B m p).tdiv 64)).toNat : Nat) : Int) ∧ (((BitVec.ofInt IntKind.i64.bits (pkX B m p) ^^^ BitVec.ofInt IntKind.i64.bits ((pkX B m p).tdiv 64)).toNat : Nat) : Int) < 4611686018427387904 := hq
  clear hq
  simp only [pkX] at hd hq'
  refine W_go ?_
  refine W_rt [(0, (0, 0))] [] ?_
  exact ⟨rfl, rfl⟩
theorem num_c (B : List UInt8) (m : Nat) (p : Int) (l : List Int) (hp : 0 ≤ p ∧ p < 1099511627776) (hm : m ≤ B.length ∧ m < 1099511627776) (hl : 1 ≤ l.length ∧ l.length < 1099511627776) : Fn Tryz.prog 61 [(0, .c true (.av 1 [.sl 1 0 m, .int .i64 p])), (1, .c false (.bys B)), (2, .c false (.ints l))] [.ptr 0 0, .sl 2 0 l.length] (fun r H => r = .int .i64 (pkN B m p l) ∧ H = [(0, .c true (.av 1 [.sl 1 0 m, .int .i64 (p + 1)]))]) := by
  have hP := pick_c B m p l.length hp hm
  have hb := pkV_b (B := B) (m := m) (n := (l.length : Int)) hp
  have hb2 := hb.2 (by omega)
  refine Fn_go Tryz.func61 ?_
  refine W_go ?_
  refine W_c1 [(0, (0, 0)), (1, (1, 0))] hP ?_
  refine W_go ?_
  refine W_rt [(0, (0, 0))] [] ?_
  exact ⟨rfl, rfl⟩
theorem open_c (B : List UInt8) (hB : B.length < 1099511627776) : Fn Tryz.prog 27 [(0, .c false (.bys B))] [.sl 0 0 B.length] (fun r H => r = .ptr 100 0 ∧ H = [(100, .c true (.av 1 [.sl 0 0 (min B.length 2000), .int .i64 0]))]) := by
  refine Fn_go Tryz.func27 ?_
  refine W_go ?_
  refine W_if (fun h => ?_) (fun h => ?_)
  · have e : min B.length 2000 = 2000 := by omega
    rw [e]
    refine W_go ?_
    refine W_rt [(4112, (100, 0))] [] ?_
    exact ⟨rfl, rfl⟩
  · have e : min B.length 2000 = B.length := by omega
    rw [e]
    refine W_go ?_
    refine W_rt [(4112, (100, 0))] [] ?_
    exact ⟨rfl, rfl⟩
end Go.Proofs.YtnepiffboakehaaGreatDoor.S
