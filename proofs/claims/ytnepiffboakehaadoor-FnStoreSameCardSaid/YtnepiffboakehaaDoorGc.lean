/- Contracts: stores drawn out of bytes, second part. Own work of this claim. -/
import Derived.Test.YtnepiffboakehaaDoorGb
namespace Go.Proofs.YtnepiffboakehaaDoor.S
set_option linter.all false
open Go Go.Proofs
set_option maxHeartbeats 4000000
set_option maxRecDepth 100000

theorem hok_L {h : Hp} (ho : h.ok) (k : Nat) {x : Int} (hx : -1 ≤ x ∧ x < h.L.length) : Hp.ok ⟨h.L.set k x, h.R, h.T⟩ := by
  obtain ⟨⟨l1, l2, l3, l4, l5⟩, o1, o2, o3⟩ := ho
  exact ⟨⟨by simpa using l1, by simpa using l2, by simpa using l3, l4, l5⟩, by simpa using okP_set' o1 k hx, by simpa using o2, by simpa using o3⟩
theorem hok_R {h : Hp} (ho : h.ok) (k : Nat) {x : Int} (hx : -1 ≤ x ∧ x < h.L.length) : Hp.ok ⟨h.L, h.R.set k x, h.T⟩ := by
  obtain ⟨⟨l1, l2, l3, l4, l5⟩, o1, o2, o3⟩ := ho
  exact ⟨⟨l1, l2, by simpa using l3, l4, l5⟩, o1, okP_set' o2 k hx, o3⟩
theorem hok_T {h : Hp} (ho : h.ok) (k : Nat) {x : Int} (hx : -1 ≤ x ∧ x < h.L.length) : Hp.ok ⟨h.L, h.R, h.T.set k x⟩ := by
  obtain ⟨⟨l1, l2, l3, l4, l5⟩, o1, o2, o3⟩ := ho
  exact ⟨⟨l1, l2, l3, by simpa using l4, by simpa using l5⟩, o1, o2, okP_set' o3 k hx⟩
theorem okP_rep (k n : Nat) : okP (List.replicate k (-1)) n := by
  intro j hj
  rw [List.length_replicate] at hj
  rw [List.getD_eq_getElem?_getD, List.getElem?_replicate, if_pos hj]
  simp only [Option.getD_some]; omega
theorem hok_new {a b : Nat} (ha : 1 ≤ a ∧ a ≤ 8) (hb : 1 ≤ b ∧ b ≤ 3) : Hp.ok ⟨List.replicate a (-1), List.replicate a (-1), List.replicate b (-1)⟩ := by
  refine ⟨by simpa using ⟨ha.1, ha.2, hb.1, hb.2⟩, okP_rep _ _, okP_rep _ _, okP_rep _ _⟩
theorem sto_new {a b : Nat} (ha : 1 ≤ a ∧ a ≤ 8) (hb : 1 ≤ b ∧ b ≤ 3) : Sto.ok ⟨⟨List.replicate a (-1), List.replicate a (-1), List.replicate b (-1)⟩, rngI a⟩ := by
  refine Sto.ok_of (hok_new ha hb) ?_ ?_
  · show (rngI a).Nodup
    unfold rngI List.Nodup
    rw [List.pairwise_map]
    exact List.Pairwise.imp (fun h e => h (by omega)) (List.nodup_range (n := a))
  · intro c hc
    have hc : c ∈ rngI a := hc
    unfold rngI at hc
    rw [List.mem_map] at hc
    obtain ⟨i, hi, rfl⟩ := hc
    rw [List.mem_range] at hi
    have nm : ∀ n, (i : Int) ∉ List.replicate n (-1 : Int) := fun n q => by
      have := List.eq_of_mem_replicate q
      omega
    have gd : (List.replicate a (-1 : Int)).getD (i : Int).toNat 0 = -1 := by
      rw [List.getD_eq_getElem?_getD, List.getElem?_replicate, if_pos (by omega)]; rfl
    exact ⟨⟨by omega, by show (i : Int) < (List.replicate a (-1 : Int)).length; rw [List.length_replicate]; omega⟩, gd, gd, nm _, nm _, nm _⟩
theorem l4Draw_c (B : List UInt8) (m : Nat) (p0 : Int) (hp : 0 ≤ p0 ∧ p0 < 1099511600000) (hm : m ≤ B.length ∧ m < 1099511627776) :
    Fn Tryd.prog 9 [(0, .c true (.av 1 [.sl 1 0 m, .int .i64 p0])), (1, .c false (.bys B))] [.ptr 0 0]
      (fun r H => ∃ x : Sto × Int, (Hold x.1.ok ∧ x.1.F.length ≤ 8 ∧ p0 ≤ x.2 ∧ x.2 ≤ p0 + 100) ∧ r = .agg [.sl 100 0 x.1.h.L.length, .sl 101 0 x.1.h.R.length, .sl 102 0 x.1.h.T.length, .sl 103 0 x.1.F.length] ∧ H = [(0, .c true (.av 1 [.sl 1 0 m, .int .i64 x.2])), (100, .c true (.ints x.1.h.L)), (101, .c true (.ints x.1.h.R)), (102, .c true (.ints x.1.h.T)), (103, .c true (.ints x.1.F))]) := by
  have hN1 := num_c B m p0 [4, 3, 5, 6, 2, 8] (by omega) hm (by simp)
  have hN2 := num_c B m (p0 + 1) [2, 1, 3] (by omega) hm (by simp)
  have hN3 := num_c B m (p0 + 1 + 1) [5, 3, 8, 2, 0, 12] (by omega) hm (by simp)
  have b1 := pkN_mem (B := B) (m := m) (k := p0) (l := [4, 3, 5, 6, 2, 8]) (by omega) (by simp)
  have b2 := pkN_mem (B := B) (m := m) (k := p0 + 1) (l := [2, 1, 3]) (by omega) (by simp)
  have b3 := pkN_mem (B := B) (m := m) (k := p0 + 1 + 1) (l := [5, 3, 8, 2, 0, 12]) (by omega) (by simp)
  generalize pkN B m p0 [4, 3, 5, 6, 2, 8] = va at *
  generalize pkN B m (p0 + 1) [2, 1, 3] = vb at *
  generalize pkN B m (p0 + 1 + 1) [5, 3, 8, 2, 0, 12] = vc at *
  simp only [List.mem_cons, List.not_mem_nil, or_false] at b1 b2 b3
  obtain ⟨a, rfl⟩ : ∃ a : Nat, va = a := ⟨va.toNat, by omega⟩
  obtain ⟨b, rfl⟩ : ∃ b : Nat, vb = b := ⟨vb.toNat, by omega⟩
  have ha : 1 ≤ a ∧ a ≤ 8 := by omega
  have hb : 1 ≤ b ∧ b ≤ 3 := by omega
  have hc : 0 ≤ vc ∧ vc ≤ 12 := by omega
  clear b1 b2 b3
  have hS := sNewStore_c a b ha hb
  have h0 := sto_new ha hb
  replace h0 : Hold _ := ⟨h0⟩
  have hr := rngI_len a
  refine Fn_go Tryd.func9 ?_
  refine W_go ?_
  refine W_c3 [(0, (0, 0)), (1, (1, 0)), (2, (2056, 0))] hN1 [(0, (0, 0)), (1, (1, 0)), (2, (2080, 0))] hN2 [] hS ?_
  refine W_go ?_
  refine W_c1 [(0, (0, 0)), (1, (1, 0)), (2, (3080, 0))] hN3 ?_
  refine W_go ?_
  refine W_rk 6 [(1024, (1024, 0)), (2096, (2096, 0)), (2097, (2097, 0)), (2098, (2098, 0)), (2099, (2099, 0)), (2128, (2128, 0))] ?_
  refine W_lp (T := 6) (σ := Sto × Int × Int) (me := fun s => [(5, .int .i64 s.2.2)]) (mh := fun s => [(0, .c true (.av 1 [.sl 1 0 m, .int .i64 s.2.1])), (2096, .c true (.ints s.1.h.L)), (2097, .c true (.ints s.1.h.R)), (2098, .c true (.ints s.1.h.T)), (2099, .c true (.ints s.1.F)), (2128, .c true (.av 1 [.sl 2096 0 s.1.h.L.length, .sl 2097 0 s.1.h.R.length, .sl 2098 0 s.1.h.T.length, .sl 2099 0 s.1.F.length]))])
    (inv := fun s => Hold s.1.ok ∧ s.1.F.length ≤ 8 ∧ p0 ≤ s.2.1 ∧ s.2.1 ≤ p0 + 3 + 3 * (12 - s.2.2) ∧ 0 ≤ s.2.2 ∧ s.2.2 ≤ 12) (m := fun s => s.2.2.toNat) (s0 := (⟨⟨List.replicate a (-1), List.replicate a (-1), List.replicate b (-1)⟩, rngI a⟩, p0 + 1 + 1 + 1, vc)) ⟨h0, ?_⟩ ?_ (hh := by simp [hr])
  · dsimp only; rw [hr]; omega
  clear hN1 hN2 hN3 hS h0 hr ha hb hc a b vc
  rintro ⟨s, p, i⟩ ⟨ho, hi⟩
  dsimp only at ho hi ⊢
  have o1 := ho.told.1.1
  have oL := ho.told.1.2.1
  have oR := ho.told.1.2.2.1
  have oT := ho.told.1.2.2.2
  have m1 : ∀ v : Int, 0 ≤ v → v < s.h.T.length → s.h.T.getD v.toNat 0 ∈ s.h.T := fun v x y => getD_mem (by omega)
  replace m1 : Hold _ := ⟨m1⟩
  have hP1 := pick_c B m p s.h.T.length (by omega) hm
  have hP2 := pick_c B m (p + 1) s.h.T.length (by omega) hm
  have hP3 := pick_c B m (p + 1 + 1) 5 (by omega) hm
  have e1 := pkV_b (B := B) (m := m) (n := s.h.T.length) (k := p) (by omega)
  have e2 := pkV_b (B := B) (m := m) (n := s.h.T.length) (k := p + 1) (by omega)
  have f1 := e1.2 (by omega)
  have f2 := e2.2 (by omega)
  have f3 := e1.1
  have f4 := e2.1
  clear e1 e2
  generalize pkV B m p s.h.T.length = v1 at *
  generalize pkV B m (p + 1) s.h.T.length = v2 at *
  generalize pkV B m (p + 1 + 1) 5 = v3 at *
  have q1 := oT v1.toNat (by omega)
  have q2 := oT v2.toNat (by omega)
  replace oL : Hold _ := ⟨oL⟩
  replace oR : Hold _ := ⟨oR⟩
  replace oT : Hold _ := ⟨oT⟩
  refine W_go ?_
  refine W_if (fun h1 => ?_) (fun h1 => ?_)
  case' refine_2 =>
    refine W_go ?_
    refine W_rt [(0, (0, 0)), (2096, (100, 0)), (2097, (101, 0)), (2098, (102, 0)), (2099, (103, 0))] [] ?_
    refine ⟨(s, p), ⟨ho, ?_⟩, rfl, rfl⟩
    dsimp only; omega
  refine W_go ?_
  refine W_c1 [(0, (0, 0)), (1, (1, 0))] hP1 ?_
  refine W_go ?_
  refine W_c1 [(0, (0, 0)), (1, (1, 0))] hP2 ?_
  refine W_go ?_
  refine W_c1 [(0, (0, 0)), (1, (1, 0))] hP3 ?_
  refine W_go ?_
  refine W_if (fun h2 => ?_) (fun h2 => ?_)
  · refine W_go ?_
    refine W_if (fun _ => ?_) (fun h => ?_)
    case' refine_2 => exact absurd h2 h
    have hA := sAllocCell_c s v1 (by omega)
    refine W_go ?_
    refine W_c1 [(0, (2096, 0)), (1, (2097, 0)), (2, (2098, 0)), (3, (2099, 0))] hA ?_
    refine W_go ?_
    by_cases g : s.alcOk v1
    · have hs' := alc_ok g
      have hl' := alcS_len s v1
      rw [decide_eq_true g]
      refine W_ift ?_
      refine W_go ?_
      refine W_rk 6 [(1024, (1024, 0)), (15376, (2096, 0)), (15377, (2097, 0)), (15378, (2098, 0)), (15379, (2099, 0)), (2128, (2128, 0))] ?_
      refine W_bh (s.alcS v1, p + 1 + 1 + 1, i - 1) ⟨⟨hs'⟩, ?_⟩ ?_ ?_
      · dsimp only; omega
      · dsimp only; omega
      · rfl
    · rw [decide_eq_false g]
      refine W_iff ?_
      refine W_go ?_
      refine W_rk 6 [(1024, (1024, 0)), (2096, (2096, 0)), (2097, (2097, 0)), (2098, (2098, 0)), (2099, (2099, 0)), (2128, (2128, 0))] ?_
      refine W_bh (s, p + 1 + 1 + 1, i - 1) ⟨ho, ?_⟩ ?_ ?_
      · dsimp only; omega
      · dsimp only; omega
      · rfl
  refine W_go ?_
  refine W_if (fun h3 => ?_) (fun h3 => ?_)
  · have hA := sAllocCell_c s v1 (by omega)
    refine W_go ?_
    refine W_c1 [(0, (2096, 0)), (1, (2097, 0)), (2, (2098, 0)), (3, (2099, 0))] hA ?_
    refine W_go ?_
    by_cases g : s.alcOk v1
    · have hs' := alc_ok g
      have hl' := alcS_len s v1
      rw [decide_eq_true g]
      refine W_ift ?_
      refine W_go ?_
      refine W_rk 6 [(1024, (1024, 0)), (15376, (2096, 0)), (15377, (2097, 0)), (15378, (2098, 0)), (15379, (2099, 0)), (2128, (2128, 0))] ?_
      refine W_bh (s.alcS v1, p + 1 + 1 + 1, i - 1) ⟨⟨hs'⟩, ?_⟩ ?_ ?_
      · dsimp only; omega
      · dsimp only; omega
      · rfl
    · rw [decide_eq_false g]
      refine W_iff ?_
      refine W_go ?_
      refine W_rk 6 [(1024, (1024, 0)), (2096, (2096, 0)), (2097, (2097, 0)), (2098, (2098, 0)), (2099, (2099, 0)), (2128, (2128, 0))] ?_
      refine W_bh (s, p + 1 + 1 + 1, i - 1) ⟨ho, ?_⟩ ?_ ?_
      · dsimp only; omega
      · dsimp only; omega
      · rfl
  refine W_go ?_
  refine W_if (fun h4 => ?_) (fun h4 => ?_)
  · refine W_go ?_
    refine W_if (fun h5 => ?_) (fun h5 => ?_)
    · have hs' := (put_ok ho.told (m1.told v1 f3 f1) h5 (m1.told v2 f4 f2)).1
      refine W_go ?_
      refine W_rk 6 [(1024, (1024, 0)), (2096, (2096, 0)), (2097, (2097, 0)), (2098, (2098, 0)), (2099, (2099, 0)), (2128, (2128, 0))] ?_
      refine W_bh (⟨⟨s.h.L.set (s.h.T.getD v1.toNat 0).toNat (s.h.T.getD v2.toNat 0), s.h.R, s.h.T⟩, s.F⟩, p + 1 + 1 + 1, i - 1) ⟨⟨hs'⟩, ?_⟩ ?_ ?_
      · dsimp only; try simp only [List.length_set]
        omega
      · dsimp only; omega
      · simp
    · skip
      refine W_go ?_
      refine W_rk 6 [(1024, (1024, 0)), (2096, (2096, 0)), (2097, (2097, 0)), (2098, (2098, 0)), (2099, (2099, 0)), (2128, (2128, 0))] ?_
      refine W_bh (s, p + 1 + 1 + 1, i - 1) ⟨ho, ?_⟩ ?_ ?_
      · dsimp only; omega
      · dsimp only; omega
      · rfl
  refine W_go ?_
  refine W_if (fun h5 => ?_) (fun h5 => ?_)
  · refine W_go ?_
    refine W_if (fun h6 => ?_) (fun h6 => ?_)
    · have hs' := (put_ok ho.told (m1.told v1 f3 f1) h6 (m1.told v2 f4 f2)).2
      refine W_go ?_
      refine W_rk 6 [(1024, (1024, 0)), (2096, (2096, 0)), (2097, (2097, 0)), (2098, (2098, 0)), (2099, (2099, 0)), (2128, (2128, 0))] ?_
      refine W_bh (⟨⟨s.h.L, s.h.R.set (s.h.T.getD v1.toNat 0).toNat (s.h.T.getD v2.toNat 0), s.h.T⟩, s.F⟩, p + 1 + 1 + 1, i - 1) ⟨⟨hs'⟩, ?_⟩ ?_ ?_
      · dsimp only; try simp only [List.length_set]
        omega
      · dsimp only; omega
      · simp
    · skip
      refine W_go ?_
      refine W_rk 6 [(1024, (1024, 0)), (2096, (2096, 0)), (2097, (2097, 0)), (2098, (2098, 0)), (2099, (2099, 0)), (2128, (2128, 0))] ?_
      refine W_bh (s, p + 1 + 1 + 1, i - 1) ⟨ho, ?_⟩ ?_ ?_
      · dsimp only; omega
      · dsimp only; omega
      · rfl
  refine W_go ?_
  refine W_if (fun h6 => ?_) (fun h6 => ?_)
  · have q3 := oL.told (s.h.T.getD v2.toNat 0).toNat (by omega)
    have hs' := root_ok ho.told v1.toNat (x := s.h.L.getD (s.h.T.getD v2.toNat 0).toNat 0) (.inr (.inl (getD_mem (by omega))))
    refine W_go ?_
    refine W_rk 6 [(1024, (1024, 0)), (2096, (2096, 0)), (2097, (2097, 0)), (2098, (2098, 0)), (2099, (2099, 0)), (2128, (2128, 0))] ?_
    refine W_bh (⟨⟨s.h.L, s.h.R, s.h.T.set v1.toNat (s.h.L.getD (s.h.T.getD v2.toNat 0).toNat 0)⟩, s.F⟩, p + 1 + 1 + 1, i - 1) ⟨⟨hs'⟩, ?_⟩ ?_ ?_
    · dsimp only; try simp only [List.length_set]
      omega
    · dsimp only; omega
    · simp
  · skip
    refine W_go ?_
    refine W_rk 6 [(1024, (1024, 0)), (2096, (2096, 0)), (2097, (2097, 0)), (2098, (2098, 0)), (2099, (2099, 0)), (2128, (2128, 0))] ?_
    refine W_bh (s, p + 1 + 1 + 1, i - 1) ⟨ho, ?_⟩ ?_ ?_
    · dsimp only; omega
    · dsimp only; omega
    · rfl
end Go.Proofs.YtnepiffboakehaaDoor.S
