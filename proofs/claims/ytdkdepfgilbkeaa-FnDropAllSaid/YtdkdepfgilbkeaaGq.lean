/- Contracts: counted stores drawn out of bytes. Own work of this claim. -/
import Derived.Test.YtdkdepfgilbkeaaGc
import Derived.Test.YtdkdepfgilbkeaaFv
import Derived.Test.YtdkdepfgilbkeaaFy
namespace Go.Proofs.Ytdkdepfgilbkeaa.S
set_option linter.all false
open Go Go.Proofs
set_option maxHeartbeats 4000000
set_option maxRecDepth 100000

noncomputable def Cnt.new (s : Sto) : Cnt := if s.valid then ⟨s, s.h.cnt⟩ else .zero
theorem sNewCounted_c (s : Sto) (hl : (s.h.L.length ≤ 4194304 ∧ s.h.R.length ≤ 4194304 ∧ s.h.T.length ≤ 4194304) ∧ s.F.length ≤ 4194304) : Fn Try.prog 138 [(0, .c false (.ints s.h.L)), (1, .c false (.ints s.h.R)), (2, .c false (.ints s.h.T)), (3, .c false (.ints s.F))] [.agg [.sl 0 0 s.h.L.length, .sl 1 0 s.h.R.length, .sl 2 0 s.h.T.length, .sl 3 0 s.F.length]] (fun r H => r = .tup [.agg [.sl 100 0 (Cnt.new s).s.h.L.length, .sl 101 0 (Cnt.new s).s.h.R.length, .sl 102 0 (Cnt.new s).s.h.T.length, .sl 103 0 (Cnt.new s).s.F.length, .sl 104 0 (Cnt.new s).C.length], .bool s.valid] ∧ H = [(100, .c true (.ints (Cnt.new s).s.h.L)), (101, .c true (.ints (Cnt.new s).s.h.R)), (102, .c true (.ints (Cnt.new s).s.h.T)), (103, .c true (.ints (Cnt.new s).s.F)), (104, .c true (.ints (Cnt.new s).C))]) := by
  have hv := sStoreValid_c s hl
  have hg := sl4Copy_c s hl
  have hc := sCountsOf_c s.h hl.1
  refine Fn_go Try.func138 ?_
  refine W_go ?_
  by_cases g1 : s.valid = true
  case neg =>
    have g1 : s.valid = false := by simpa using g1
    have e : Cnt.new s = .zero := by rw [Cnt.new, if_neg (by rw [g1]; exact Bool.false_ne_true)]
    rw [g1] at hv ⊢
    rw [e]
    refine W_c1 [(0, (0, 0)), (1, (1, 0)), (2, (2, 0)), (3, (3, 0))] hv ?_
    refine W_ift ?_
    refine W_go ?_
    refine W_rt [] [(100, .ints []), (101, .ints []), (102, .ints []), (103, .ints []), (104, .ints [])] ?_
    exact ⟨rfl, rfl⟩
  have e : Cnt.new s = ⟨s, s.h.cnt⟩ := by rw [Cnt.new, if_pos g1]
  rw [g1] at hv ⊢
  rw [e]
  refine W_c1 [(0, (0, 0)), (1, (1, 0)), (2, (2, 0)), (3, (3, 0))] hv ?_
  refine W_iff ?_
  refine W_go ?_
  refine W_dc2 [(0, (0, 0)), (1, (1, 0)), (2, (2, 0)), (3, (3, 0))] hg [(0, (0, 0)), (1, (1, 0)), (2, (2, 0))] hc [.c _ _ _, .c _ _ _] ?_
  refine W_go ?_
  refine W_rt [(4104, (100, 0)), (4105, (101, 0)), (4106, (102, 0)), (4107, (103, 0)), (4128, (104, 0))] [] ?_
  exact ⟨rfl, rfl⟩
/-- As wide as told: n cells, roots and free cells bounded. -/
def Cnt.dim (c : Cnt) (f : Nat) : Prop := (1 ≤ c.s.h.L.length ∧ c.s.h.L.length ≤ 8) ∧ c.s.h.R.length ≤ 8 ∧ c.s.h.T.length ≤ 8 ∧ c.s.F.length ≤ f ∧ (1 ≤ c.C.length ∧ c.C.length ≤ 8)
theorem Cnt.dim_tak {c : Cnt} {r : Int} {f : Nat} (h : c.dim f) (g : c.rooted r ∧ c.s.F.length ≠ 0) : (c.tak r).dim (f + 8) := by
  obtain ⟨d1, d2, d3, d4⟩ := down_len (Cnt.tak_inv g.1 g.2)
  unfold Cnt.dim at h ⊢
  rw [Cnt.tak, if_pos g]
  simp only [Cnt.down, List.length_set, List.length_append, List.length_drop]
  omega
theorem Cnt.dim_drp {c : Cnt} {r : Int} {f : Nat} (h : c.dim f) (g : c.rooted r) : (c.drp r).dim (f + 8) := by
  obtain ⟨d1, d2, d3, d4⟩ := down_len (Cnt.drp_inv g)
  unfold Cnt.dim at h ⊢
  rw [Cnt.drp, if_pos g]
  simp only [Cnt.down, List.length_set, List.length_append, List.length_drop]
  omega
theorem Cnt.dim_lnk {c : Cnt} {a b : Int} {f : Nat} (h : c.dim f) (g : c.lnkOk a b) : (c.lnk a b).dim (f + 8) := by
  obtain ⟨d1, d2, d3, d4⟩ := down_len (Cnt.lnk_inv g)
  unfold Cnt.dim at h ⊢
  rw [Cnt.lnk, if_pos g]
  simp only [Cnt.down, List.length_set, List.length_append, List.length_drop]
  omega
theorem Cnt.dim_le {c : Cnt} {f g : Nat} (h : c.dim f) (q : f ≤ g) : c.dim g := by unfold Cnt.dim at h ⊢; omega
theorem Cnt.dim_new {s : Sto} {f : Nat} (h : s.ok) (h1 : 1 ≤ s.h.L.length) (hf : s.F.length ≤ f) : (Cnt.new s).dim f := by
  have hv : s.valid = true := (Sto.ok_iff s).2 h
  have l := h.1.1
  rw [Cnt.new, if_pos hv]
  have hc : s.h.cnt = cntN s.h.L.length s.h.all s.h.all.length := by rw [Hp.cnt, if_pos (by simp [Hp.valid, h.1])]
  have hlc : s.h.cnt.length = s.h.L.length := by rw [hc, cntN_len]
  unfold Cnt.dim
  dsimp only
  omega
theorem l9Draw_c (B : List UInt8) (m : Nat) (p0 : Int) (hp : 0 ≤ p0 ∧ p0 < 1099511600000) (hm : m ≤ B.length ∧ m < 1099511627776) :
    Fn Try.prog 113 [(0, .c true (.av 1 [.sl 1 0 m, .int .i64 p0])), (1, .c false (.bys B))] [.ptr 0 0]
      (fun r H => ∃ x : Cnt × Int, (Hold (x.1.dim 200) ∧ p0 ≤ x.2 ∧ x.2 ≤ p0 + 100) ∧ r = .agg [.sl 100 0 x.1.s.h.L.length, .sl 101 0 x.1.s.h.R.length, .sl 102 0 x.1.s.h.T.length, .sl 103 0 x.1.s.F.length, .sl 104 0 x.1.C.length] ∧ H = [(0, .c true (.av 1 [.sl 1 0 m, .int .i64 x.2])), (100, .c true (.ints x.1.s.h.L)), (101, .c true (.ints x.1.s.h.R)), (102, .c true (.ints x.1.s.h.T)), (103, .c true (.ints x.1.s.F)), (104, .c true (.ints x.1.C))]) := by
  have hN1 := num_c B m p0 [4, 3, 5, 2, 6] (by omega) hm (by simp)
  have hN2 := num_c B m (p0 + 1) [2, 3, 1] (by omega) hm (by simp)
  have hN3 := num_c B m (p0 + 1 + 1) [5, 3, 8, 2, 0, 12] (by omega) hm (by simp)
  have b1 := pkN_mem (B := B) (m := m) (k := p0) (l := [4, 3, 5, 2, 6]) (by omega) (by simp)
  have b2 := pkN_mem (B := B) (m := m) (k := p0 + 1) (l := [2, 3, 1]) (by omega) (by simp)
  have b3 := pkN_mem (B := B) (m := m) (k := p0 + 1 + 1) (l := [5, 3, 8, 2, 0, 12]) (by omega) (by simp)
  generalize pkN B m p0 [4, 3, 5, 2, 6] = va at *
  generalize pkN B m (p0 + 1) [2, 3, 1] = vb at *
  generalize pkN B m (p0 + 1 + 1) [5, 3, 8, 2, 0, 12] = vc at *
  simp only [List.mem_cons, List.not_mem_nil, or_false] at b1 b2 b3
  obtain ⟨a, rfl⟩ : ∃ a : Nat, va = a := ⟨va.toNat, by omega⟩
  obtain ⟨b, rfl⟩ : ∃ b : Nat, vb = b := ⟨vb.toNat, by omega⟩
  have ha : 1 ≤ a ∧ a ≤ 8 := by omega
  have hb : 1 ≤ b ∧ b ≤ 3 := by omega
  have hc : 0 ≤ vc ∧ vc ≤ 12 := by omega
  clear b1 b2 b3
  have hS := sNewStore_c a b ha hb
  have h0 := sto_new ha hb
  have hr := rngI_len a
  have hC := sNewCounted_c ⟨⟨List.replicate a (-1), List.replicate a (-1), List.replicate b (-1)⟩, rngI a⟩ (by dsimp only; rw [List.length_replicate, List.length_replicate, hr]; omega)
  have hd0 : Cnt.dim (Cnt.new ⟨⟨List.replicate a (-1), List.replicate a (-1), List.replicate b (-1)⟩, rngI a⟩) 8 := Cnt.dim_new h0 (by dsimp only; rw [List.length_replicate]; omega) (by dsimp only; rw [hr]; omega)
  rw [(Sto.ok_iff _).2 h0] at hC
  dsimp only at hC
  rw [hr] at hC
  clear h0
  replace hd0 : Hold _ := ⟨hd0⟩
  generalize Cnt.new ⟨⟨List.replicate a (-1), List.replicate a (-1), List.replicate b (-1)⟩, rngI a⟩ = c0 at *
  refine Fn_go Try.func113 ?_
  refine W_go ?_
  refine W_c3 [(0, (0, 0)), (1, (1, 0)), (2, (2056, 0))] hN1 [(0, (0, 0)), (1, (1, 0)), (2, (2080, 0))] hN2 [] hS ?_
  refine W_go ?_
  refine W_c1 [(0, (2096, 0)), (1, (2097, 0)), (2, (2098, 0)), (3, (2099, 0))] hC ?_
  refine W_go ?_
  refine W_c1 [(0, (0, 0)), (1, (1, 0)), (2, (4104, 0))] hN3 ?_
  refine W_go ?_
  refine W_rk 8 [(1024, (1024, 0)), (2096, (2096, 0)), (2097, (2097, 0)), (2098, (2098, 0)), (2099, (2099, 0)), (2128, (2128, 0)), (3080, (3080, 0)), (3081, (3081, 0)), (3082, (3082, 0)), (3083, (3083, 0)), (3084, (3084, 0)), (3112, (3112, 0))] ?_
  refine W_lp (T := 8) (σ := Cnt × Int × Int) (me := fun s => [(7, .int .i64 s.2.2)]) (mh := fun s => [(0, .c true (.av 1 [.sl 1 0 m, .int .i64 s.2.1])), (3080, .c true (.ints s.1.s.h.L)), (3081, .c true (.ints s.1.s.h.R)), (3082, .c true (.ints s.1.s.h.T)), (3083, .c true (.ints s.1.s.F)), (3084, .c true (.ints s.1.C)), (3112, .c true (.av 1 [.sl 3080 0 s.1.s.h.L.length, .sl 3081 0 s.1.s.h.R.length, .sl 3082 0 s.1.s.h.T.length, .sl 3083 0 s.1.s.F.length, .sl 3084 0 s.1.C.length]))])
    (inv := fun s => Hold (s.1.dim (8 + 8 * (12 - s.2.2.toNat))) ∧ p0 ≤ s.2.1 ∧ s.2.1 ≤ p0 + 3 + 3 * (12 - s.2.2) ∧ 0 ≤ s.2.2 ∧ s.2.2 ≤ 12) (m := fun s => s.2.2.toNat) (s0 := (c0, p0 + 1 + 1 + 1, vc)) ⟨⟨Cnt.dim_le hd0.told (by omega)⟩, ?_⟩ ?_
  · dsimp only; omega
  clear hN1 hN2 hN3 hS hC hd0 ha
  rintro ⟨c, p, i⟩ ⟨hd, hi⟩
  dsimp only at hd hi ⊢
  have hbt : 1 ≤ (List.replicate b (-1 : Int)).length ∧ (List.replicate b (-1 : Int)).length ≤ 3 := by rw [List.length_replicate]; exact hb
  have hP1 := pick_c B m p b (by omega) hm
  have hP2 := pick_c B m (p + 1) b (by omega) hm
  have hP3 := pick_c B m (p + 1 + 1) 4 (by omega) hm
  generalize pkV B m p b = v1 at *
  generalize pkV B m (p + 1) b = v2 at *
  generalize pkV B m (p + 1 + 1) 4 = v3 at *
  have hdd := hd.told
  unfold Cnt.dim at hdd
  have hbb : ((c.s.h.L.length ≤ 4194304 ∧ c.s.h.R.length ≤ 4194304 ∧ c.s.h.T.length ≤ 4194304) ∧ c.s.F.length ≤ 4194304) ∧ c.C.length ≤ 4194304 := by omega
  have hT := sTakeCounted_c c v1 hbb (by omega)
  have hD := sDropRoot_c c v1 hbb (by omega)
  have hK := sLinkCounted_c c v1 v2 hbb (by omega)
  refine W_go ?_
  refine W_if (fun h1 => ?_) (fun h1 => ?_)
  case' refine_2 =>
    refine W_go ?_
    refine W_rt [(0, (0, 0)), (3080, (100, 0)), (3081, (101, 0)), (3082, (102, 0)), (3083, (103, 0)), (3084, (104, 0))] [] ?_
    refine ⟨(c, p), ⟨⟨Cnt.dim_le hd.told (by omega)⟩, ?_⟩, rfl, rfl⟩
    dsimp only; omega
  refine W_go ?_
  refine W_c1 [(0, (0, 0)), (1, (1, 0))] hP1 ?_
  refine W_go ?_
  refine W_c1 [(0, (0, 0)), (1, (1, 0))] hP2 ?_
  refine W_go ?_
  refine W_c1 [(0, (3080, 0)), (1, (3081, 0)), (2, (3082, 0)), (3, (3083, 0)), (4, (3084, 0))] hT ?_
  refine W_go ?_
  refine W_c1 [(0, (0, 0)), (1, (1, 0))] hP3 ?_
  refine W_go ?_
  refine W_if (fun h2 => ?_) (fun h2 => ?_)
  · refine W_go ?_
    refine W_c1 [(0, (3080, 0)), (1, (3081, 0)), (2, (3082, 0)), (3, (3083, 0)), (4, (3084, 0))] hD ?_
    refine W_go ?_
    by_cases g : c.rooted v1
    · have hd' := Cnt.dim_drp hd.told g
      rw [decide_eq_true g]
      replace g : Hold _ := ⟨g⟩
      generalize c.drp v1 = c' at *
      refine W_ift ?_
      refine W_go ?_
      refine W_rk 8 [(1024, (1024, 0)), (2096, (2096, 0)), (2097, (2097, 0)), (2098, (2098, 0)), (2099, (2099, 0)), (2128, (2128, 0)), (12304, (3080, 0)), (12305, (3081, 0)), (12306, (3082, 0)), (12307, (3083, 0)), (12308, (3084, 0)), (3112, (3112, 0))] ?_
      refine W_bh (c', p + 1 + 1 + 1, i - 1) ⟨⟨Cnt.dim_le hd' (by show _ ≤ 8 + 8 * (12 - (i - 1).toNat); omega)⟩, ?_⟩ ?_ ?_
      · dsimp only; omega
      · dsimp only; omega
      · rfl
    · rw [decide_eq_false g]
      replace g : Hold _ := ⟨g⟩
      generalize c.drp v1 = c' at *
      refine W_iff ?_
      refine W_go ?_
      refine W_rk 8 [(1024, (1024, 0)), (2096, (2096, 0)), (2097, (2097, 0)), (2098, (2098, 0)), (2099, (2099, 0)), (2128, (2128, 0)), (3080, (3080, 0)), (3081, (3081, 0)), (3082, (3082, 0)), (3083, (3083, 0)), (3084, (3084, 0)), (3112, (3112, 0))] ?_
      refine W_bh (c, p + 1 + 1 + 1, i - 1) ⟨⟨Cnt.dim_le hd.told (by show _ ≤ 8 + 8 * (12 - (i - 1).toNat); omega)⟩, ?_⟩ ?_ ?_
      · dsimp only; omega
      · dsimp only; omega
      · rfl
  refine W_go ?_
  refine W_if (fun h3 => ?_) (fun h3 => ?_)
  · refine W_go ?_
    refine W_c1 [(0, (3080, 0)), (1, (3081, 0)), (2, (3082, 0)), (3, (3083, 0)), (4, (3084, 0))] hK ?_
    refine W_go ?_
    by_cases g : c.lnkOk v1 v2
    · have hd' := Cnt.dim_lnk hd.told g
      rw [decide_eq_true g]
      replace g : Hold _ := ⟨g⟩
      generalize c.lnk v1 v2 = c' at *
      refine W_ift ?_
      refine W_go ?_
      refine W_rk 8 [(1024, (1024, 0)), (2096, (2096, 0)), (2097, (2097, 0)), (2098, (2098, 0)), (2099, (2099, 0)), (2128, (2128, 0)), (14360, (3080, 0)), (14361, (3081, 0)), (14362, (3082, 0)), (14363, (3083, 0)), (14364, (3084, 0)), (3112, (3112, 0))] ?_
      refine W_bh (c', p + 1 + 1 + 1, i - 1) ⟨⟨Cnt.dim_le hd' (by show _ ≤ 8 + 8 * (12 - (i - 1).toNat); omega)⟩, ?_⟩ ?_ ?_
      · dsimp only; omega
      · dsimp only; omega
      · rfl
    · rw [decide_eq_false g]
      replace g : Hold _ := ⟨g⟩
      generalize c.lnk v1 v2 = c' at *
      refine W_iff ?_
      refine W_go ?_
      refine W_rk 8 [(1024, (1024, 0)), (2096, (2096, 0)), (2097, (2097, 0)), (2098, (2098, 0)), (2099, (2099, 0)), (2128, (2128, 0)), (3080, (3080, 0)), (3081, (3081, 0)), (3082, (3082, 0)), (3083, (3083, 0)), (3084, (3084, 0)), (3112, (3112, 0))] ?_
      refine W_bh (c, p + 1 + 1 + 1, i - 1) ⟨⟨Cnt.dim_le hd.told (by show _ ≤ 8 + 8 * (12 - (i - 1).toNat); omega)⟩, ?_⟩ ?_ ?_
      · dsimp only; omega
      · dsimp only; omega
      · rfl
  · refine W_go ?_
    by_cases g : c.rooted v1 ∧ c.s.F.length ≠ 0
    · have hd' := Cnt.dim_tak hd.told g
      rw [decide_eq_true g]
      replace g : Hold _ := ⟨g⟩
      generalize c.tak v1 = c' at *
      refine W_ift ?_
      refine W_go ?_
      refine W_rk 8 [(1024, (1024, 0)), (2096, (2096, 0)), (2097, (2097, 0)), (2098, (2098, 0)), (2099, (2099, 0)), (2128, (2128, 0)), (9232, (3080, 0)), (9233, (3081, 0)), (9234, (3082, 0)), (9235, (3083, 0)), (9236, (3084, 0)), (3112, (3112, 0))] ?_
      refine W_bh (c', p + 1 + 1 + 1, i - 1) ⟨⟨Cnt.dim_le hd' (by show _ ≤ 8 + 8 * (12 - (i - 1).toNat); omega)⟩, ?_⟩ ?_ ?_
      · dsimp only; omega
      · dsimp only; omega
      · rfl
    · rw [decide_eq_false g]
      replace g : Hold _ := ⟨g⟩
      generalize c.tak v1 = c' at *
      refine W_iff ?_
      refine W_go ?_
      refine W_rk 8 [(1024, (1024, 0)), (2096, (2096, 0)), (2097, (2097, 0)), (2098, (2098, 0)), (2099, (2099, 0)), (2128, (2128, 0)), (3080, (3080, 0)), (3081, (3081, 0)), (3082, (3082, 0)), (3083, (3083, 0)), (3084, (3084, 0)), (3112, (3112, 0))] ?_
      refine W_bh (c, p + 1 + 1 + 1, i - 1) ⟨⟨Cnt.dim_le hd.told (by show _ ≤ 8 + 8 * (12 - (i - 1).toNat); omega)⟩, ?_⟩ ?_ ?_
      · dsimp only; omega
      · dsimp only; omega
      · rfl
end Go.Proofs.Ytdkdepfgilbkeaa.S
