/- Texts of this claim's own, laid as one: Fw Ga Gb Gc Gd. Own work of this claim. -/
import Derived.Test.YtbobhbhgomkgpaaGreatDoorB1
import Derived.Test.YtbobhbhgomkgpaaGreatDoorA4
import Derived.Test.YtbobhbhgomkgpaaGreatDoorSw
import Derived.Test.YtbobhbhgomkgpaaGreatDoorA5
/- Contracts: the reference, allocation and operations. Own work of this claim. -/
namespace Go.Proofs.YtbobhbhgomkgpaaGreatDoor.S
set_option linter.all false
open Go Go.Proofs
set_option maxHeartbeats 4000000
set_option maxRecDepth 100000

theorem sl5One_c (k : Int) : Fn Tryz.prog 129 [] [.int .i64 k] (fun r H => r = .bool (decide (k = 1 ∨ k = 7)) ∧ H = []) := by
  refine Fn_go Tryz.func129 ?_
  by_cases d1 : k = 1
  · replace d1 := eq_true d1
    refine W_gh ?_
    refine W_rt [] [] ?_
    exact ⟨by rw [decide_eq_true (.inl (of_eq_true d1))], rfl⟩
  refine W_gh ?_
  refine W_rt [] [] ?_
  exact ⟨by simp [d1], rfl⟩
theorem sAllocCell_c (s : Sto) (r : Int) (hl : (s.h.L.length ≤ 4194304 ∧ s.h.R.length ≤ 4194304 ∧ s.h.T.length ≤ 4194304) ∧ s.F.length ≤ 4194304) : Fn Tryz.prog 136 [(0, .c false (.ints s.h.L)), (1, .c false (.ints s.h.R)), (2, .c false (.ints s.h.T)), (3, .c false (.ints s.F))] [.agg [.sl 0 0 s.h.L.length, .sl 1 0 s.h.R.length, .sl 2 0 s.h.T.length, .sl 3 0 s.F.length], .int .i64 r] (fun x H => x = .tup [.agg [.sl 100 0 (s.alcS r).h.L.length, .sl 101 0 (s.alcS r).h.R.length, .sl 102 0 (s.alcS r).h.T.length, .sl 103 0 (s.alcS r).F.length], .int .i64 (s.alcC r), .bool (decide (s.alcOk r))] ∧ H = [(100, .c true (.ints (s.alcS r).h.L)), (101, .c true (.ints (s.alcS r).h.R)), (102, .c true (.ints (s.alcS r).h.T)), (103, .c true (.ints (s.alcS r).F))]) := by
  have hv := sStoreValid_c s hl
  refine Fn_go Tryz.func136 ?_
  by_cases g : s.alcOk r
  case neg =>
    have fin : Sto.zero = s.alcS r ∧ (0 : Int) = s.alcC r ∧ false = decide (s.alcOk r) := by
      rw [Sto.alcS, Sto.alcC, if_neg g, if_neg g, decide_eq_false g]; exact ⟨rfl, rfl, rfl⟩
    rw [← fin.1, ← fin.2.1, ← fin.2.2]
    clear fin
    replace g : Hold _ := ⟨g⟩
    by_cases g1 : s.valid = true
    case neg =>
      have g1 : s.valid = false := by simpa using g1
      rw [g1] at hv
      refine W_go ?_
      refine W_ch1 [(0, (0, 0)), (1, (1, 0)), (2, (2, 0)), (3, (3, 0))] hv ?_
      refine W_ift ?_
      refine W_go ?_
      refine W_rt [] [(100, .ints []), (101, .ints []), (102, .ints []), (103, .ints [])] ?_
      exact ⟨rfl, rfl⟩
    have gk : Hold (s.valid = true) := ⟨g1⟩
    rw [g1] at hv
    by_cases g2 : r < 0
    · refine W_go ?_
      refine W_ch1 [(0, (0, 0)), (1, (1, 0)), (2, (2, 0)), (3, (3, 0))] hv ?_
      refine W_ift ?_
      refine W_go ?_
      refine W_rt [] [(100, .ints []), (101, .ints []), (102, .ints []), (103, .ints [])] ?_
      exact ⟨rfl, rfl⟩
    by_cases g3 : (s.h.T.length : Int) ≤ r
    · refine W_go ?_
      refine W_ch1 [(0, (0, 0)), (1, (1, 0)), (2, (2, 0)), (3, (3, 0))] hv ?_
      refine W_ift ?_
      refine W_go ?_
      refine W_rt [] [(100, .ints []), (101, .ints []), (102, .ints []), (103, .ints [])] ?_
      exact ⟨rfl, rfl⟩
    have g4 : (s.F.length : Int) = 0 := by
      by_cases q : s.F.length = 0
      · omega
      · exact absurd ⟨by simpa [Sto.valid] using gk.told, by omega, by omega, q⟩ g.told
    refine W_go ?_
    refine W_ch1 [(0, (0, 0)), (1, (1, 0)), (2, (2, 0)), (3, (3, 0))] hv ?_
    refine W_ift ?_
    refine W_go ?_
    refine W_rt [] [(100, .ints []), (101, .ints []), (102, .ints []), (103, .ints [])] ?_
    exact ⟨rfl, rfl⟩
  have hok := g.1
  have hr := g.2.1
  have hr2 := g.2.2.1
  have hF := g.2.2.2
  have hv2 : s.valid = true := by simpa [Sto.valid] using hok
  rw [hv2] at hv
  have hc := sl4Copy_c s hl
  rw [Sto.alcS, Sto.alcC, if_pos g, if_pos g, decide_eq_true g]
  have hTs : List.take s.h.T.length (s.h.T.set r.toNat (s.F.getD 0 0)) = s.h.T.set r.toNat (s.F.getD 0 0) := List.take_of_length_le (by simp)
  have hFs : List.take (s.F.length - 1) (List.drop 1 s.F) = List.drop 1 s.F := List.take_of_length_le (by simp)
  have n1 : ¬ r < 0 := by omega
  have n2 : ¬ (s.h.T.length : Int) ≤ r := by omega
  have n3 : ¬ (s.F.length : Int) = 0 := by omega
  clear g hok hv2
  replace hTs : Hold _ := ⟨hTs⟩
  replace hFs : Hold _ := ⟨hFs⟩
  refine W_go ?_
  refine W_ch1 [(0, (0, 0)), (1, (1, 0)), (2, (2, 0)), (3, (3, 0))] hv ?_
  refine W_iff ?_
  refine W_go ?_
  refine W_c1 [(0, (0, 0)), (1, (1, 0)), (2, (2, 0)), (3, (3, 0))] hc ?_
  refine W_go ?_
  refine W_go ?_
  refine W_go ?_
  refine W_go ?_
  rw [show Int.toNat 1 = 1 from rfl, hFs.told]
  refine W_rt [(4104, (100, 0)), (4105, (101, 0)), (4106, (102, 0)), (6176, (103, 0))] [] ?_
  constructor <;> simp
end Go.Proofs.YtbobhbhgomkgpaaGreatDoor.S

/- Contracts: numbers drawn out of bytes. Own work of this claim. -/
namespace Go.Proofs.YtbobhbhgomkgpaaGreatDoor.S
set_option linter.all false
open Go Go.Proofs
set_option maxHeartbeats 4000000
set_option maxRecDepth 100000

theorem tmod_b {a n : Int} (ha : 0 ≤ a) (hn : 1 ≤ n) : 0 ≤ Int.tmod a n ∧ Int.tmod a n < n :=
  ⟨Int.tmod_nonneg n ha, Int.tmod_lt_of_pos a (by omega)⟩
theorem tdiv_b {a n : Int} (ha : 0 ≤ a) (hn : 1 ≤ n) : 0 ≤ Int.tdiv a n ∧ Int.tdiv a n ≤ a := by
  have h1 := Int.tdiv_nonneg ha (show (0 : Int) ≤ n by omega)
  refine ⟨h1, ?_⟩
  rw [Int.tdiv_eq_ediv_of_nonneg ha]
  exact Int.ediv_le_self n ha
theorem xor_b {x y : Int} (hx : 0 ≤ x ∧ x < 4611686018427387904) (hy : 0 ≤ y ∧ y < 4611686018427387904) :
    0 ≤ (((BitVec.ofInt 64 x ^^^ BitVec.ofInt 64 y).toNat : Nat) : Int) ∧ (((BitVec.ofInt 64 x ^^^ BitVec.ofInt 64 y).toNat : Nat) : Int) < 4611686018427387904 := by
  refine ⟨by omega, ?_⟩
  have key : ∀ z : Int, 0 ≤ z ∧ z < 4611686018427387904 → (BitVec.ofInt 64 z).toNat < 2 ^ 62 := by
    intro z hz
    rw [BitVec.toNat_ofInt]
    omega
  have := Nat.xor_lt_two_pow (key x hx) (key y hy)
  rw [BitVec.toNat_xor]
  omega
def pkX (B : List UInt8) (m : Nat) (k : Int) : Int :=
  ((B.getD (Int.tmod k m).toNat 0).toNat : Int) * 131 + ((B.getD (Int.tmod (k * 7 + 3) m).toNat 0).toNat : Int) * 1117 + k * 29 + Int.tdiv k m * 53
/-- What the pick at a place comes to. -/
def pkV (B : List UInt8) (m : Nat) (k n : Int) : Int :=
  if n < 1 ∨ m = 0 then 0
  else if k < m then Int.tmod ((B.getD k.toNat 0).toNat : Int) n
  else Int.tmod (((BitVec.ofInt 64 (pkX B m k) ^^^ BitVec.ofInt 64 ((pkX B m k).tdiv 64)).toNat : Nat) : Int) n
theorem pkX_b {B : List UInt8} {m : Nat} {k : Int} (hk : 0 ≤ k ∧ k < 1099511627776) (hm : m ≠ 0) : 0 ≤ pkX B m k ∧ pkX B m k < 4611686018427387904 := by
  have h1 := UInt8.toNat_lt (B.getD (Int.tmod k m).toNat 0)
  have h2 := UInt8.toNat_lt (B.getD (Int.tmod (k * 7 + 3) m).toNat 0)
  have h3 := tdiv_b (a := k) (n := m) hk.1 (by omega)
  unfold pkX
  omega
theorem pkV_b {B : List UInt8} {m : Nat} {k n : Int} (hk : 0 ≤ k ∧ k < 1099511627776) : 0 ≤ pkV B m k n ∧ (1 ≤ n → pkV B m k n < n) := by
  unfold pkV
  by_cases h : n < 1 ∨ m = 0
  · rw [if_pos h]; omega
  rw [if_neg h]
  have hn : 1 ≤ n := by omega
  split
  · have := tmod_b (a := ((B.getD k.toNat 0).toNat : Int)) (n := n) (by omega) hn
    exact ⟨this.1, fun _ => this.2⟩
  · have hx := pkX_b (B := B) (m := m) hk (by omega)
    have hd := tdiv_b (a := pkX B m k) (n := 64) hx.1 (by omega)
    have hq := xor_b hx (y := (pkX B m k).tdiv 64) ⟨hd.1, by omega⟩
    have := tmod_b (a := (((BitVec.ofInt 64 (pkX B m k) ^^^ BitVec.ofInt 64 ((pkX B m k).tdiv 64)).toNat : Nat) : Int)) (n := n) hq.1 hn
    exact ⟨this.1, fun _ => this.2⟩
/-- An element of a list, drawn. -/
def pkN (B : List UInt8) (m : Nat) (k : Int) (l : List Int) : Int := l.getD (pkV B m k l.length).toNat 0
theorem pkN_mem {B : List UInt8} {m : Nat} {k : Int} {l : List Int} (hk : 0 ≤ k ∧ k < 1099511627776) (hl : 1 ≤ l.length) : pkN B m k l ∈ l := by
  have := pkV_b (B := B) (m := m) (n := l.length) hk
  have h2 : (pkV B m k l.length).toNat < l.length := by omega
  unfold pkN
  rw [List.getD_eq_getElem?_getD, List.getElem?_eq_getElem h2]
  exact List.getElem_mem h2
theorem pick_c (B : List UInt8) (m : Nat) (p n : Int) (hp : 0 ≤ p ∧ p < 1099511627776) (hm : m ≤ B.length ∧ m < 1099511627776) : Fn Tryz.prog 51 [(0, .c true (.av 1 [.sl 1 0 m, .int .i64 p])), (1, .c false (.bys B))] [.ptr 0 0, .int .i64 n] (fun r H => r = .int .i64 (pkV B m p n) ∧ H = [(0, .c true (.av 1 [.sl 1 0 m, .int .i64 (p + 1)]))]) := by
  refine Fn_go Tryz.func51 ?_
  by_cases d1 : n < 1
  · have e : pkV B m p n = 0 := by rw [pkV, if_pos (.inl d1)]
    rw [e]
    clear e
    replace d1 := eq_true d1
    refine W_go ?_
    refine W_gh ?_
    refine W_ift ?_
    refine W_go ?_
    refine W_rt [(0, (0, 0))] [] ?_
    exact ⟨rfl, rfl⟩
  by_cases d2 : m = 0
  · have e : pkV B m p n = 0 := by rw [pkV, if_pos (.inr d2)]
    rw [e]
    clear e
    subst d2
    refine W_go ?_
    refine W_gh ?_
    refine W_ift ?_
    refine W_go ?_
    refine W_rt [(0, (0, 0))] [] ?_
    exact ⟨rfl, rfl⟩
  by_cases d3 : p < m
  · have e : pkV B m p n = Int.tmod ((B.getD p.toNat 0).toNat : Int) n := by rw [pkV, if_neg (by omega), if_pos d3]
    have hb := UInt8.toNat_lt (B.getD p.toNat 0)
    rw [e]
    clear e
    refine W_go ?_
    refine W_gh ?_
    refine W_if (fun h => ?_) (fun h => ?_)
    · exact absurd h (by omega)
    clear h
    refine W_go ?_
    rw [show p + 1 - 1 = p by omega]
    refine W_if (fun h => ?_) (fun h => ?_)
    case' refine_2 => exact absurd d3 h
    clear h
    refine W_go ?_
    refine W_rt [(0, (0, 0))] [] ?_
    exact ⟨rfl, rfl⟩
  have e : pkV B m p n = Int.tmod (((BitVec.ofInt 64 (pkX B m p) ^^^ BitVec.ofInt 64 ((pkX B m p).tdiv 64)).toNat : Nat) : Int) n := by rw [pkV, if_neg (by omega), if_neg d3]
  rw [e]
  clear e
  have hb1 := UInt8.toNat_lt (B.getD (Int.tmod p m).toNat 0)
  have hb2 := UInt8.toNat_lt (B.getD (Int.tmod (p * 7 + 3) m).toNat 0)
  have hb3 := tdiv_b (a := p) (n := m) hp.1 (by omega)
  have hb4 := tmod_b (a := p) (n := m) hp.1 (by omega)
  have hb5 := tmod_b (a := p * 7 + 3) (n := m) (by omega) (by omega)
  have hx := pkX_b (B := B) (m := m) hp (by omega)
  have hd := tdiv_b (a := pkX B m p) (n := 64) hx.1 (by omega)
  have hq := xor_b hx (y := (pkX B m p).tdiv 64) ⟨hd.1, by omega⟩
  refine W_go ?_
  refine W_gh ?_
  refine W_if (fun h => ?_) (fun h => ?_)
  · exact absurd h (by omega)
  clear h
  refine W_go ?_
  rw [show p + 1 - 1 = p by omega]
  refine W_if (fun h => ?_) (fun h => ?_)
  · exact absurd h d3
  clear h
  refine W_ft 6 ?_
  have hq' : 0 ≤ (((BitVec.ofInt IntKind.i64.bits (pkX B m p) ^^^ BitVec.ofInt IntKind.i64.bits ((pkX B m p).tdiv 64)).toNat : Nat) : Int) ∧ (((BitVec.ofInt IntKind.i64.bits (pkX B m p) ^^^ BitVec.ofInt IntKind.i64.bits ((pkX B m p).tdiv 64)).toNat : Nat) : Int) < 4611686018427387904 := hq
  clear hq
  simp only [pkX] at hd hq'
  refine W_go ?_
  refine W_rt [(0, (0, 0))] [] ?_
  exact ⟨rfl, rfl⟩
theorem num_c (B : List UInt8) (m : Nat) (p : Int) (l : List Int) (hp : 0 ≤ p ∧ p < 1099511627776) (hm : m ≤ B.length ∧ m < 1099511627776) (hl : 1 ≤ l.length ∧ l.length < 1099511627776) : Fn Tryz.prog 85 [(0, .c true (.av 1 [.sl 1 0 m, .int .i64 p])), (1, .c false (.bys B)), (2, .c false (.ints l))] [.ptr 0 0, .sl 2 0 l.length] (fun r H => r = .int .i64 (pkN B m p l) ∧ H = [(0, .c true (.av 1 [.sl 1 0 m, .int .i64 (p + 1)]))]) := by
  have hP := pick_c B m p l.length hp hm
  have hb := pkV_b (B := B) (m := m) (n := (l.length : Int)) hp
  have hb2 := hb.2 (by omega)
  refine Fn_go Tryz.func85 ?_
  refine W_go ?_
  refine W_c1 [(0, (0, 0)), (1, (1, 0))] hP ?_
  refine W_go ?_
  refine W_rt [(0, (0, 0))] [] ?_
  exact ⟨rfl, rfl⟩
theorem open_c (B : List UInt8) (hB : B.length < 1099511627776) : Fn Tryz.prog 49 [(0, .c false (.bys B))] [.sl 0 0 B.length] (fun r H => r = .ptr 100 0 ∧ H = [(100, .c true (.av 1 [.sl 0 0 (min B.length 2000), .int .i64 0]))]) := by
  refine Fn_go Tryz.func49 ?_
  refine W_go ?_
  refine W_if (fun h => ?_) (fun h => ?_)
  · have e : min B.length 2000 = 2000 := by omega
    rw [e]
    refine W_go ?_
    refine W_rt [(4112, (100, 0))] [] ?_
    exact ⟨rfl, rfl⟩
  · have e : min B.length 2000 = B.length := by omega
    rw [e]
    refine W_go ?_
    refine W_rt [(4112, (100, 0))] [] ?_
    exact ⟨rfl, rfl⟩
end Go.Proofs.YtbobhbhgomkgpaaGreatDoor.S

/- Contracts: stores drawn out of bytes. Own work of this claim. -/
namespace Go.Proofs.YtbobhbhgomkgpaaGreatDoor.S
set_option linter.all false
open Go Go.Proofs
variable {D : Cx}
set_option maxHeartbeats 4000000
set_option maxRecDepth 100000

section
variable {nt : Nat} {ks : List It} {env env' : Env} {H H' : Heap} {R : Env → Heap → Prop}
/-- A nil slice in memory is told as the begin of an empty list under a new name. -/
theorem W_em0 {P : Program} {own : Bool} {z : Nat} {l : List AV} {lv : LV} (q i n : Nat) (h : W D P nt ks env (aset (aset H q (.c own (.av z (l.set i (.sl n 0 0))))) n (.c true lv)) R)
    (h0 : aget H q = some (.c own (.av z l))) (hi : l[i]? = some .emp) (hn : aget H n = none) (hlv : lv.toL = []) : W D P nt ks env H R := by
  intro hk G hp hB hD ν a w st
  have hI := st.inv
  have hqn : q ≠ n := fun e => by subst e; rw [h0] at hn; cases hn
  have hνn : ν n = none := hI.dom n hn
  have g : ∀ m e, aget (aset (aset H q (.c own (.av z (l.set i (.sl n 0 0))))) n (.c true lv)) m = some e → m = n ∧ e = .c true lv ∨ m ≠ n ∧ ∃ e0, aget H m = some e0 ∧ e0.isOwn = e.isOwn ∧ e0.live = e.live := by
    intro m e hm
    rw [aget_aset] at hm
    split at hm
    · rename_i x; left; cases hm; exact ⟨x.symm, rfl⟩
    · rename_i x
      right
      refine ⟨fun y => x y.symm, ?_⟩
      rw [aget_aset] at hm
      split at hm
      · rename_i y; subst y; cases hm; exact ⟨_, h0, rfl, rfl⟩
      · exact ⟨e, hm, rfl, rfl⟩
  refine h hk G hp hB hD ν a w ⟨st.defers, st.size, st.env, ?_, ?_, ?_, hI.gfr, fun m hm => ⟨(hI.nb m hm).1, aset_ne (aset_ne (hI.nb m hm).2)⟩, ?_, hI.fx⟩
  · intro m e hm
    rw [aget_aset] at hm
    split at hm
    · rename_i x; subst x; cases hm
      simp only [ER, hνn]; exact hlv
    · rw [aget_aset] at hm
      split at hm
      · rename_i x; subst x; cases hm
        have := hI.er q _ h0
        simp only [ER, LV.toL, LV.z, List.length_set] at this ⊢
        split at this
        · rw [this] at hi; simp at hi
        · obtain ⟨e0, arr, T, fr, h1, h2, h3, h4, h5⟩ := this
          refine ⟨e0, arr, T, fr, h1, h2, h3, fun k hk => ?_, h5⟩
          obtain ⟨v, hv, c, hc, hr⟩ := h4 k hk
          by_cases e : i = k
          · subst e
            rw [hi] at hc; cases hc
            exact ⟨v, hv, .sl n 0 0, by simp [hk], .inr ⟨rfl, hr⟩⟩
          · exact ⟨v, hv, c, by rw [List.getElem?_set_ne e]; exact hc, hr⟩
      · exact hI.er m e hm
  · intro x y e e' hx hxo hy hyl hxy L L' hL hL'
    rcases g x e hx with ⟨rfl, _⟩ | ⟨_, e0, a1, a2, _⟩
    · rw [hνn] at hL; cases hL
    rcases g y e' hy with ⟨rfl, _⟩ | ⟨_, e1, b1, _, b3⟩
    · rw [hνn] at hL'; cases hL'
    exact hI.inj x y e0 e1 a1 (by rw [a2]; exact hxo) b1 (by rw [b3]; exact hyl) hxy L L' hL hL'
  · intro m hm
    rw [aget_aset] at hm
    split at hm
    · cases hm
    · rw [aget_aset] at hm
      split at hm
      · cases hm
      · exact hI.dom m hm
  · intro m e L hm ho hL
    rcases g m e hm with ⟨rfl, _⟩ | ⟨_, e0, a1, a2, _⟩
    · rw [hνn] at hL; cases hL
    · exact hI.own m e0 L a1 (by rw [a2]; exact ho) hL
theorem W_em {own : Bool} {z : Nat} {l : List AV} (q i n : Nat) (h : Wp D nt ks env H' R)
    (h0 : aget H q = some (.c own (.av z l)) := by
      simp only [aget, Nat.reduceEqDiff, ↓reduceIte]
      try rfl)
    (hi : l[i]? = some .emp := by rfl)
    (hn : aget H n = none := by
      simp only [aget, Nat.reduceEqDiff, ↓reduceIte])
    (hH : aset (aset H q (.c own (.av z (l.set i (.sl n 0 0))))) n (.c true (.ints [])) = H' := by
      simp only [aset, Nat.reduceEqDiff, ↓reduceIte, List.set_cons_zero, List.set_cons_succ]
      try rfl) : Wp D nt ks env H R := W_em0 q i n (by rw [hH]; exact h) h0 hi hn rfl
end
theorem sNewHeap_c (a b : Nat) (ha : 1 ≤ a ∧ a ≤ 8) (hb : 1 ≤ b ∧ b ≤ 3) : Fn Tryz.prog 106 [] [.int .i64 a, .int .i64 b]
    (fun r H => r = .tup [.agg [.sl 100 0 a, .sl 101 0 a, .sl 102 0 b], .bool true] ∧ H = [(100, .c true (.ints (List.replicate a (-1)))), (101, .c true (.ints (List.replicate a (-1)))), (102, .c true (.ints (List.replicate b (-1))))]) := by
  have h1 := sl1Many_c a (by omega)
  have h2 := sl1Many_c b (by omega)
  have c1 : ¬ (a : Int) < 1 := by omega
  have c2 : ¬ 8 < (a : Int) := by omega
  have c3 : ¬ (b : Int) < 1 := by omega
  have c4 : ¬ 3 < (b : Int) := by omega
  refine Fn_go Tryz.func106 ?_
  refine W_go ?_
  refine W_gh ?_
  refine W_iff ?_
  refine W_go ?_
  refine W_c3 [] h1 [] h1 [] h2 ?_
  refine W_go ?_
  refine W_rt [(4104, (100, 0)), (4120, (101, 0)), (4136, (102, 0))] [] ?_
  exact ⟨rfl, rfl⟩
def rngI (n : Nat) : List Int := (List.range n).map fun (i : Nat) => (i : Int)
theorem rngI_len (n : Nat) : (rngI n).length = n := by simp [rngI]
theorem rngI_succ (n : Nat) : rngI (n + 1) = rngI n ++ [(n : Int)] := by simp [rngI, List.range_succ]
theorem sNewStore_c (a b : Nat) (ha : 1 ≤ a ∧ a ≤ 8) (hb : 1 ≤ b ∧ b ≤ 3) : Fn Tryz.prog 84 [] [.int .i64 a, .int .i64 b]
    (fun r H => r = .tup [.agg [.sl 100 0 a, .sl 101 0 a, .sl 102 0 b, .sl 103 0 a], .bool true] ∧ H = [(100, .c true (.ints (List.replicate a (-1)))), (101, .c true (.ints (List.replicate a (-1)))), (102, .c true (.ints (List.replicate b (-1)))), (103, .c true (.ints (rngI a)))]) := by
  have h1 := sNewHeap_c a b ha hb
  refine Fn_go Tryz.func84 ?_
  refine W_go ?_
  refine W_c1 [] h1 ?_
  refine W_go ?_
  refine W_iff ?_
  refine W_go ?_
  refine W_em 5136 3 60000 ?_
  refine W_lp (T := 10) (σ := Nat) (me := fun s => [(9, .int .i64 s)]) (mh := fun s => [(5136, .c true (.av 1 [.sl 2064 0 a, .sl 2065 0 a, .sl 2066 0 b, .sl 60000 0 s])), (60000, .c true (.ints (rngI s)))])
    (inv := fun s => s ≤ a) (m := fun s => a - s) (s0 := 0) (Nat.zero_le _) ?_ (hh := by rfl)
  intro s hs
  have hsl := rngI_len s
  refine W_go ?_
  refine W_if (fun h2 => ?_) (fun h2 => ?_)
  · refine W_go ?_
    refine W_rk 10 [(1024, (1024, 0)), (2064, (2064, 0)), (2065, (2065, 0)), (2066, (2066, 0)), (2096, (2096, 0)), (5136, (5136, 0)), (9248, (60000, 0))] ?_
    have hts : List.take s (rngI s) = rngI s := List.take_of_length_le (by omega)
    refine W_bh (s + 1) (by omega) (by omega) ?_
    rw [rngI_succ]
    simp [hts]
  · refine W_go ?_
    obtain rfl : s = a := by omega
    refine W_rt [(2064, (100, 0)), (2065, (101, 0)), (2066, (102, 0)), (60000, (103, 0))] [] ?_
    exact ⟨rfl, rfl⟩
end Go.Proofs.YtbobhbhgomkgpaaGreatDoor.S

/- Contracts: stores drawn out of bytes, second part. Own work of this claim. -/
namespace Go.Proofs.YtbobhbhgomkgpaaGreatDoor.S
set_option linter.all false
open Go Go.Proofs
set_option maxHeartbeats 4000000
set_option maxRecDepth 100000

end Go.Proofs.YtbobhbhgomkgpaaGreatDoor.S

/- Contracts: stores, numbers and operations drawn out of bytes. Own work of this claim. -/
namespace Go.Proofs.YtbobhbhgomkgpaaGreatDoor.S
set_option linter.all false
open Go Go.Proofs
set_option maxHeartbeats 4000000
set_option maxRecDepth 100000

/-- What is drawn is small, and has cells. -/
def Sto.dr (s : Sto) : Prop := 1 ≤ s.h.L.length ∧ s.h.L.length ≤ 8 ∧ s.h.R.length ≤ 10 ∧ s.h.T.length ≤ 5 ∧ s.F.length ≤ 9
end Go.Proofs.YtbobhbhgomkgpaaGreatDoor.S
