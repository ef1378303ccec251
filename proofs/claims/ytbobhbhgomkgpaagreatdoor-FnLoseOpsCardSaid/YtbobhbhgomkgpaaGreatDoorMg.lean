/- Contracts: what is drawn for all schedules. Own work of this claim. -/
import Derived.Test.YtbobhbhgomkgpaaGreatDoorGx
import Derived.Test.YtbobhbhgomkgpaaGreatDoorB8
import Derived.Test.YtbobhbhgomkgpaaGreatDoorC2
import Derived.Test.YtbobhbhgomkgpaaGreatDoorA6
namespace Go.Proofs.YtbobhbhgomkgpaaGreatDoor.S
set_option linter.all false
open Go Go.Proofs
set_option maxHeartbeats 4000000
set_option maxRecDepth 100000

/-- What is drawn for all schedules: small, its collector idle, nothing lost. -/
def drC (b : Bth) : Prop := ((((b.s.h.L.length ≤ 4194304 ∧ b.s.h.R.length ≤ 4194304 ∧ b.s.h.T.length ≤ 4194304) ∧ b.s.F.length ≤ 4194304) ∧ b.g.C.length ≤ 4194304) ∧ b.o.length ≤ 4194304) ∧ b.g.p = 0 ∧ b.l = false
theorem Bth.new_drC (s : Sto) (l : List (Int × Int × Int)) (h : ((s.h.L.length ≤ 4194304 ∧ s.h.R.length ≤ 4194304 ∧ s.h.T.length ≤ 4194304) ∧ s.F.length ≤ 4194304) ∧ l.length ≤ 4194304) (a : Int) : drC ⟨(Bth.new s l).s, (Bth.new s l).g, (Bth.new s l).o, a, (Bth.new s l).l⟩ := by
  unfold drC Bth.new
  by_cases q : s.opsOk l
  · rw [if_pos q]
    refine ⟨?_, rfl, rfl⟩
    dsimp only
    rw [List.length_replicate]
    omega
  · rw [if_neg q]
    exact ⟨by simp [Bth.zero, Sto.zero, Gcc.zero], rfl, rfl⟩
theorem l8Draw_c (B : List UInt8) (m : Nat) (p0 : Int) (hp : 0 ≤ p0 ∧ p0 < 1099511600000) (hm : m ≤ B.length ∧ m < 1099511627776) : Fn Tryz.prog 50 [(0, .c true (.av 1 [.sl 1 0 m, .int .i64 p0])), (1, .c false (.bys B))] [.ptr 0 0]
    (fun r H => ∃ y : Bth × Int, (drC y.1 ∧ p0 ≤ y.2 ∧ y.2 ≤ p0 + 200) ∧ r = .agg [.sl 100 0 y.1.s.h.L.length, .sl 101 0 y.1.s.h.R.length, .sl 102 0 y.1.s.h.T.length, .sl 103 0 y.1.s.F.length, .int .i64 y.1.g.p, .sl 104 0 y.1.g.C.length, .int .i64 y.1.g.a, .sl 105 0 y.1.o.length, .int .i64 y.1.a, .bool y.1.l] ∧ H = [(0, .c true (.av 1 [.sl 1 0 m, .int .i64 y.2])), (100, .c true (.ints y.1.s.h.L)), (101, .c true (.ints y.1.s.h.R)), (102, .c true (.ints y.1.s.h.T)), (103, .c true (.ints y.1.s.F)), (104, .c true (.ints y.1.g.C)), (105, .c true (.ops y.1.o))]) := by
  have hN := num_c B m p0 [2, 1, 3] (by omega) hm (by simp)
  have b1 := pkN_mem (B := B) (m := m) (k := p0) (l := [2, 1, 3]) (by omega) (by simp)
  generalize pkN B m p0 [2, 1, 3] = va at *
  simp only [List.mem_cons, List.not_mem_nil, or_false] at b1
  obtain ⟨a, rfl⟩ : ∃ a : Nat, va = a := ⟨va.toNat, by omega⟩
  have ha : 1 ≤ a ∧ a ≤ 8 := by omega
  clear b1
  have hN2 := num_c B m (p0 + 1) [2, 1, 3] (by omega) hm (by simp)
  have b2 := pkN_mem (B := B) (m := m) (k := p0 + 1) (l := [2, 1, 3]) (by omega) (by simp)
  generalize pkN B m (p0 + 1) [2, 1, 3] = vb at *
  simp only [List.mem_cons, List.not_mem_nil, or_false] at b2
  obtain ⟨b, rfl⟩ : ∃ b : Nat, vb = b := ⟨vb.toNat, by omega⟩
  have hb : 1 ≤ b ∧ b ≤ 3 := by omega
  clear b2
  have hS0 := sNewStore_c a b ha hb
  obtain ⟨s0, hs0, hS⟩ : ∃ s : Sto, ((s.h.L.length ≤ 4194304 ∧ s.h.R.length ≤ 4194304 ∧ s.h.T.length ≤ 4194304) ∧ s.F.length ≤ 4194304) ∧ Fn Tryz.prog 84 [] [.int .i64 a, .int .i64 b] (fun r H => r = .tup [.agg [.sl 100 0 s.h.L.length, .sl 101 0 s.h.R.length, .sl 102 0 s.h.T.length, .sl 103 0 s.F.length], .bool true] ∧ H = [(100, .c true (.ints s.h.L)), (101, .c true (.ints s.h.R)), (102, .c true (.ints s.h.T)), (103, .c true (.ints s.F))]) := by
    refine ⟨⟨⟨List.replicate a (-1), List.replicate a (-1), List.replicate b (-1)⟩, rngI a⟩, ?_, ?_⟩
    · simp [rngI_len]; omega
    · simp only [List.length_replicate, rngI_len]; exact hS0
  clear hS0
  have hT0 := sNewStore_c 3 3 (by omega) (by omega)
  obtain ⟨s3, hs3, hT⟩ : ∃ s : Sto, ((s.h.L.length ≤ 4194304 ∧ s.h.R.length ≤ 4194304 ∧ s.h.T.length ≤ 4194304) ∧ s.F.length ≤ 4194304) ∧ Fn Tryz.prog 84 [] [.int .i64 3, .int .i64 3] (fun r H => r = .tup [.agg [.sl 100 0 s.h.L.length, .sl 101 0 s.h.R.length, .sl 102 0 s.h.T.length, .sl 103 0 s.F.length], .bool true] ∧ H = [(100, .c true (.ints s.h.L)), (101, .c true (.ints s.h.R)), (102, .c true (.ints s.h.T)), (103, .c true (.ints s.F))]) := by
    refine ⟨⟨⟨List.replicate 3 (-1), List.replicate 3 (-1), List.replicate 3 (-1)⟩, rngI 3⟩, ?_, ?_⟩
    · simp [rngI_len]
    · simp only [List.length_replicate, rngI_len]; exact hT0
  clear hT0
  replace hT : Hold _ := ⟨hT⟩
  refine Fn_go Tryz.func50 ?_
  refine W_go ?_
  refine W_c3 [(0, (0, 0)), (1, (1, 0)), (2, (2056, 0))] hN [(0, (0, 0)), (1, (1, 0)), (2, (2080, 0))] hN2 [] hS ?_
  clear hN hN2 hS
  refine W_go ?_
  refine W_rw fun K hK => ?_
  refine RW_x ?_
  repeat (refine And.intro (by omega) ?_)
  refine CKy (μ := [(0, (0, 0)), (1, (1, 0))]) ⟨⟩ (l5OpsV_c B m (p0 + 1 + 1) (by omega) hm) (fun z hz => ?_)
  obtain ⟨l, p⟩ := z
  try dsimp only at hz ⊢
  refine RW_x ?_
  repeat (refine And.intro (by omega) ?_)
  refine hK _ _ ?_
  have hl12 : l.length ≤ 12 := hz.2.1
  have hp1 : p0 + 1 + 1 ≤ p ∧ p ≤ p0 + 102 := by omega
  clear hz
  refine W_fg [10] ?_
  refine W_rk 19 [(1024, (1024, 0)), (2096, (300, 0)), (2097, (301, 0)), (2098, (302, 0)), (2099, (303, 0)), (2128, (2128, 0)), (3080, (60000, 0))] ?_
  refine W_go ?_
  refine W_jn (σ := Nat) 6 (fun k => [(5, .sl 60000 0 k)]) (fun _ => []) (fun k => k ≤ l.length) ?_ ?_
  · refine W_if (fun q => ?_) (fun q => ?_)
    · refine W_go ?_
      refine W_bj 3 (by omega)
    · refine W_go ?_
      refine W_bj l.length (Nat.le_refl _)
  intro k hk
  have hP1 := pick_c B m p 6 (by omega) hm
  generalize pkV B m p 6 = k1 at *
  refine W_go ?_
  refine W_c1 [(0, (0, 0)), (1, (1, 0))] hP1 ?_
  clear hP1
  refine W_jn (σ := Sto × List (Int × Int × Int) × Nat) 6 (fun s => [(5, .sl 60000 0 s.2.2)]) (fun s => [(300, .c true (.ints s.1.h.L)), (301, .c true (.ints s.1.h.R)), (302, .c true (.ints s.1.h.T)), (303, .c true (.ints s.1.F)), (2128, .c true (.av 1 [.sl 300 0 s.1.h.L.length, .sl 301 0 s.1.h.R.length, .sl 302 0 s.1.h.T.length, .sl 303 0 s.1.F.length])), (60000, .c true (.ops s.2.1))]) (fun s => ((s.1.h.L.length ≤ 4194304 ∧ s.1.h.R.length ≤ 4194304 ∧ s.1.h.T.length ≤ 4194304) ∧ s.1.F.length ≤ 4194304) ∧ s.2.1.length ≤ 12 ∧ s.2.2 ≤ s.2.1.length) ?_ ?_
  · refine W_if (fun q => ?_) (fun q => ?_)
    · replace hT := hT.told
      refine W_go ?_
      refine W_c1 [] hT ?_
      clear hT
      refine W_rk 6 [(1024, (1024, 0)), (7168, (300, 0)), (7169, (301, 0)), (7170, (302, 0)), (7171, (303, 0)), (2128, (2128, 0))] ?_
      refine W_go ?_
      refine W_rw fun K hK => ?_
      refine RW_x ?_
      repeat (refine And.intro (by omega) ?_)
      refine CKy (μ := []) ⟨⟩ (sParseOps_c ⟨#[110, 101, 119, 32, 48, 44, 32, 110, 101, 119, 32, 49, 44, 32, 110, 101, 119, 32, 50, 44, 32, 112, 117, 116, 108, 101, 102, 116, 32, 49, 32, 50, 44, 32, 99, 108, 101, 97, 114, 32, 50]⟩ (by decide)) (fun z0 hz0 => ?_)
      obtain ⟨l0, ok0⟩ := z0
      try dsimp only at hz0 ⊢
      refine RW_x ?_
      repeat (refine And.intro (by omega) ?_)
      refine hK _ _ ?_
      have hR := sRunOps_c s3 l0 ⟨hs3, by omega⟩
      have hol := opsS_len s3 l0
      have hr2 : ((s3.opsS l0).h.L.length ≤ 4194304 ∧ (s3.opsS l0).h.R.length ≤ 4194304 ∧ (s3.opsS l0).h.T.length ≤ 4194304) ∧ (s3.opsS l0).F.length ≤ 4194304 := by omega
      clear hol
      generalize s3.opsS l0 = s1 at *
      generalize s3.opsN l0 = n1 at *
      generalize decide (s3.opsOk l0) = d1 at *
      refine W_go ?_
      refine W_c1 [(0, (300, 0)), (1, (301, 0)), (2, (302, 0)), (3, (303, 0)), (4, (8192, 0))] hR ?_
      clear hR
      refine W_rk 6 [(1024, (1024, 0)), (9232, (300, 0)), (9233, (301, 0)), (9234, (302, 0)), (9235, (303, 0)), (2128, (2128, 0))] ?_
      refine W_go ?_
      refine W_rw fun K hK => ?_
      refine RW_x ?_
      repeat (refine And.intro (by omega) ?_)
      refine CKy (μ := []) ⟨⟩ (sParseOps_c ⟨#[108, 101, 102, 116, 32, 50, 32, 49, 44, 32, 112, 117, 116, 108, 101, 102, 116, 32, 48, 32, 50, 44, 32, 99, 108, 101, 97, 114, 32, 50, 44, 32, 112, 117, 116, 108, 101, 102, 116, 32, 49, 32, 50]⟩ (by decide)) (fun z1 hz1 => ?_)
      obtain ⟨l1, ok1⟩ := z1
      try dsimp only at hz1 ⊢
      refine RW_x ?_
      repeat (refine And.intro (by omega) ?_)
      refine hK _ _ ?_
      refine W_dd ?_
      refine W_rk 6 [(1024, (1024, 0)), (300, (300, 0)), (301, (301, 0)), (302, (302, 0)), (303, (303, 0)), (2128, (2128, 0)), (10240, (60000, 0))] ?_
      refine W_bj (s1, l1, l1.length) ⟨hr2, hz1.2, Nat.le_refl _⟩
    · refine W_go ?_
      refine W_bj (s0, l, k) ⟨hs0, hl12, hk⟩
  rintro ⟨s, L, n⟩ ⟨hs, hL, hn⟩
  dsimp only at hs hL hn ⊢
  clear hk hl12 hT hs0 hs3
  have hP2 := pick_c B m (p + 1) 20 (by omega) hm
  generalize pkV B m (p + 1) 20 = k2 at *
  have hB := sNewBoth_c s (L.take n) ⟨hs, by rw [List.length_take]; omega⟩
  rw [List.length_take, Nat.min_eq_left hn] at hB
  have dr := fun a => Bth.new_drC s (L.take n) ⟨hs, by rw [List.length_take]; omega⟩ a
  generalize Bth.new s (L.take n) = w at *
  replace dr : Hold _ := ⟨dr⟩
  refine W_go ?_
  refine W_c1 [(0, (300, 0)), (1, (301, 0)), (2, (302, 0)), (3, (303, 0)), (4, (60000, 0))] hB ?_
  clear hB
  refine W_go ?_
  refine W_c1 [(0, (0, 0)), (1, (1, 0))] hP2 ?_
  clear hP2
  refine W_if (fun q => ?_) (fun q => ?_)
  · refine W_go ?_
    refine W_rt [(0, (0, 0)), (11280, (100, 0)), (11281, (101, 0)), (11282, (102, 0)), (11283, (103, 0)), (11284, (104, 0)), (11285, (105, 0))] [] ?_
    exact ⟨(⟨w.s, w.g, w.o, 13, w.l⟩, p + 1 + 1), ⟨dr.told 13, by dsimp only; omega, by dsimp only; omega⟩, rfl, rfl⟩
  · refine W_go ?_
    refine W_rt [(0, (0, 0)), (11280, (100, 0)), (11281, (101, 0)), (11282, (102, 0)), (11283, (103, 0)), (11284, (104, 0)), (11285, (105, 0))] [] ?_
    exact ⟨(w, p + 1 + 1), ⟨dr.told w.a, by dsimp only; omega, by dsimp only; omega⟩, rfl, rfl⟩
theorem l8Case_c (B : List UInt8) (hB : B.length ≤ 1048576) : Fn Tryz.prog 25 [(0, .c false (.bys B))] [.sl 0 0 B.length]
    (fun r H => ∃ y : Bth × Bool, drC y.1 ∧ r = .tup [.agg [.sl 100 0 y.1.s.h.L.length, .sl 101 0 y.1.s.h.R.length, .sl 102 0 y.1.s.h.T.length, .sl 103 0 y.1.s.F.length, .int .i64 y.1.g.p, .sl 104 0 y.1.g.C.length, .int .i64 y.1.g.a, .sl 105 0 y.1.o.length, .int .i64 y.1.a, .bool y.1.l], .bool y.2] ∧ H = [(100, .c true (.ints y.1.s.h.L)), (101, .c true (.ints y.1.s.h.R)), (102, .c true (.ints y.1.s.h.T)), (103, .c true (.ints y.1.s.F)), (104, .c true (.ints y.1.g.C)), (105, .c true (.ops y.1.o))]) := by
  have hO := open_c B (by omega)
  refine Fn_go Tryz.func25 ?_
  refine W_go ?_
  refine W_c1 [(0, (0, 0))] hO ?_
  have hm : min B.length 2000 ≤ B.length ∧ min B.length 2000 < 1099511627776 := by omega
  generalize min B.length 2000 = m at *
  clear hO
  refine W_go ?_
  refine W_rw fun K hK => ?_
  refine RW_x ?_
  repeat (refine And.intro (by omega) ?_)
  refine CKy (μ := [(0, (2056, 0)), (1, (0, 0))]) ⟨⟩ (l8Draw_c B m 0 (by omega) hm) (fun y hy => ?_)
  obtain ⟨b, p⟩ := y
  try dsimp only at hy ⊢
  refine RW_x ?_
  repeat (refine And.intro (by omega) ?_)
  have hP := pick_c B m p 2 (by omega) hm
  generalize pkV B m p 2 = k at *
  refine CKt (μ := [(0, (2056, 0)), (1, (0, 0))]) ⟨⟩ (hP) ?_
  refine RW_x ?_
  repeat (refine And.intro (by omega) ?_)
  refine hK _ _ ?_
  refine W_go ?_
  refine W_rt [(3080, (100, 0)), (3081, (101, 0)), (3082, (102, 0)), (3083, (103, 0)), (3084, (104, 0)), (3085, (105, 0))] [] ?_
  exact ⟨(b, decide (k = 0)), hy.1, rfl, rfl⟩
theorem drawCountBoth_c (B : List UInt8) (hB : B.length ≤ 1048576) : Fn Tryz.prog 10 [(0, .c false (.bys B))] [.sl 0 0 B.length]
    (fun r H => ∃ y : Bth × Bool, drC y.1 ∧ r = .tup [.agg [.sl 100 0 y.1.s.h.L.length, .sl 101 0 y.1.s.h.R.length, .sl 102 0 y.1.s.h.T.length, .sl 103 0 y.1.s.F.length, .int .i64 y.1.g.p, .sl 104 0 y.1.g.C.length, .int .i64 y.1.g.a, .sl 105 0 y.1.o.length, .int .i64 y.1.a, .bool y.1.l], .bool y.2] ∧ H = [(100, .c true (.ints y.1.s.h.L)), (101, .c true (.ints y.1.s.h.R)), (102, .c true (.ints y.1.s.h.T)), (103, .c true (.ints y.1.s.F)), (104, .c true (.ints y.1.g.C)), (105, .c true (.ops y.1.o))]) := by
  refine Fn_go Tryz.func10 ?_
  refine W_go ?_
  refine W_rw fun K hK => ?_
  refine RW_x ?_
  repeat (refine And.intro (by omega) ?_)
  refine CKy (μ := [(0, (0, 0))]) ⟨⟩ (l8Case_c B hB) (fun y hy => ?_)
  obtain ⟨b, c⟩ := y
  try dsimp only at hy ⊢
  refine RW_x ?_
  repeat (refine And.intro (by omega) ?_)
  refine hK _ _ ?_
  refine W_go ?_
  refine W_rt [(2056, (100, 0)), (2057, (101, 0)), (2058, (102, 0)), (2059, (103, 0)), (2060, (104, 0)), (2061, (105, 0))] [] ?_
  exact ⟨(b, c), hy, rfl, rfl⟩
theorem drawCanLose_c (B : List UInt8) (hB : B.length ≤ 1048576) : Fn Tryz.prog 18 [(0, .c false (.bys B))] [.sl 0 0 B.length]
    (fun r H => ∃ y : Bth × Bool, drC y.1 ∧ r = .tup [.agg [.sl 100 0 y.1.s.h.L.length, .sl 101 0 y.1.s.h.R.length, .sl 102 0 y.1.s.h.T.length, .sl 103 0 y.1.s.F.length, .int .i64 y.1.g.p, .sl 104 0 y.1.g.C.length, .int .i64 y.1.g.a, .sl 105 0 y.1.o.length, .int .i64 y.1.a, .bool y.1.l], .bool y.2] ∧ H = [(100, .c true (.ints y.1.s.h.L)), (101, .c true (.ints y.1.s.h.R)), (102, .c true (.ints y.1.s.h.T)), (103, .c true (.ints y.1.s.F)), (104, .c true (.ints y.1.g.C)), (105, .c true (.ops y.1.o))]) := by
  refine Fn_go Tryz.func18 ?_
  refine W_go ?_
  refine W_rw fun K hK => ?_
  refine RW_x ?_
  repeat (refine And.intro (by omega) ?_)
  refine CKy (μ := [(0, (0, 0))]) ⟨⟩ (l8Case_c B hB) (fun y hy => ?_)
  obtain ⟨b, c⟩ := y
  try dsimp only at hy ⊢
  refine RW_x ?_
  repeat (refine And.intro (by omega) ?_)
  refine hK _ _ ?_
  refine W_go ?_
  refine W_rt [(2056, (100, 0)), (2057, (101, 0)), (2058, (102, 0)), (2059, (103, 0)), (2060, (104, 0)), (2061, (105, 0))] [] ?_
  exact ⟨(b, c), hy, rfl, rfl⟩
theorem drawShortLoss_c (B : List UInt8) (hB : B.length ≤ 1048576) : Fn Tryz.prog 15 [(0, .c false (.bys B))] [.sl 0 0 B.length]
    (fun r H => ∃ y : Bth × Bool, drC y.1 ∧ r = .tup [.agg [.sl 100 0 y.1.s.h.L.length, .sl 101 0 y.1.s.h.R.length, .sl 102 0 y.1.s.h.T.length, .sl 103 0 y.1.s.F.length, .int .i64 y.1.g.p, .sl 104 0 y.1.g.C.length, .int .i64 y.1.g.a, .sl 105 0 y.1.o.length, .int .i64 y.1.a, .bool y.1.l], .bool y.2] ∧ H = [(100, .c true (.ints y.1.s.h.L)), (101, .c true (.ints y.1.s.h.R)), (102, .c true (.ints y.1.s.h.T)), (103, .c true (.ints y.1.s.F)), (104, .c true (.ints y.1.g.C)), (105, .c true (.ops y.1.o))]) := by
  refine Fn_go Tryz.func15 ?_
  refine W_go ?_
  refine W_rw fun K hK => ?_
  refine RW_x ?_
  repeat (refine And.intro (by omega) ?_)
  refine CKy (μ := [(0, (0, 0))]) ⟨⟩ (l8Case_c B hB) (fun y hy => ?_)
  obtain ⟨b, c⟩ := y
  try dsimp only at hy ⊢
  refine RW_x ?_
  repeat (refine And.intro (by omega) ?_)
  refine hK _ _ ?_
  refine W_go ?_
  refine W_rt [(2056, (100, 0)), (2057, (101, 0)), (2058, (102, 0)), (2059, (103, 0)), (2060, (104, 0)), (2061, (105, 0))] [] ?_
  exact ⟨(b, c), hy, rfl, rfl⟩
end Go.Proofs.YtbobhbhgomkgpaaGreatDoor.S
