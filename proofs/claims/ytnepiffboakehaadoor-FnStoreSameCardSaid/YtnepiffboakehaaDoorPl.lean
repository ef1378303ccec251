/- Plain laws of the common model: the texts of heaps, stores and collectors. Own work of this claim; no program in sight. -/
import Derived.Test.YtnepiffboakehaaDoorPk
namespace Go.Proofs.YtnepiffboakehaaDoor.S
set_option linter.all false

/-- A text out of its bytes. -/
def bs (l : List UInt8) : ByteArray := ⟨l.toArray⟩
theorem bs_app (a b : List UInt8) : bs a ++ bs b = bs (a ++ b) := by
  apply ByteArray.ext
  simp [bs]
theorem bs_size (l : List UInt8) : (bs l).size = l.length := rfl
theorem bs_inj {a b : List UInt8} (h : bs a = bs b) : a = b := by
  have := congrArg (fun x => x.data.toList) h
  simpa [bs] using this
/-- Decimal digits of a number below 100. -/
def dg (n : Nat) : List UInt8 := if n < 10 then [UInt8.ofNat (48 + n)] else [UInt8.ofNat (48 + n / 10), UInt8.ofNat (48 + n % 10)]
def sgn (p : Int) : List UInt8 := if p = -1 then [45] else dg p.toNat
def txC (L R : List Int) : List UInt8 := (L.zip R).flatMap fun p => sgn p.1 ++ sgn p.2 ++ [32]
def txR (T : List Int) : List UInt8 := T.flatMap fun p => 32 :: sgn p
def txH (h : Hp) : List UInt8 := txC h.L h.R ++ [47] ++ txR h.T
def txF (F : List Int) : List UInt8 := F.flatMap fun p => 32 :: dg p.toNat
def txS (s : Sto) : List UInt8 := txH s.h ++ [32, 102, 114, 101, 101] ++ txF s.F
def word (p : Int) : List UInt8 := if p = 0 then [105, 100, 108, 101] else if p = 1 then [114, 111, 111, 116, 115] else if p = 2 then [109, 97, 114, 107] else [115, 119, 101, 101, 112]
def sign (k : Int) : UInt8 := if k = 0 then 119 else if k = 1 then 103 else 98
def txB (b : Bth) : List UInt8 := txS b.s ++ [32] ++ word b.g.p ++ [32] ++ dg b.g.a.toNat ++ [32] ++ b.g.C.map sign ++ [32, 97, 116, 32] ++ dg b.a.toNat ++ (if b.l then [32, 108, 111, 115, 116] else [])
def Sto.text (s : Sto) : List UInt8 := if s.ok then txS s else []
def Hp.text (h : Hp) : List UInt8 := if h.ok then txH h else []
def Bth.text (b : Bth) : List UInt8 := if b.ok then txB b else []
theorem dg_len (n : Nat) : 1 ≤ (dg n).length ∧ (dg n).length ≤ 2 := by unfold dg; split <;> simp
theorem dg_one {n : Nat} (h : n < 10) : dg n = [UInt8.ofNat (48 + n)] := by unfold dg; rw [if_pos h]
theorem sgn_one {p : Int} {n : Nat} (hn : n ≤ 8) (h : -1 ≤ p ∧ p < n) : (sgn p).length = 1 := by
  unfold sgn; split
  · rfl
  · rw [dg_one (by omega)]; rfl
theorem u8_inj {a b : Nat} (ha : a < 200) (hb : b < 200) (h : UInt8.ofNat (48 + a) = UInt8.ofNat (48 + b)) : a = b := by
  have := congrArg UInt8.toNat h
  simp only [UInt8.toNat_ofNat'] at this
  omega
/-- Signs of pointers are told apart, and from a slash. -/
theorem sgn_c {p : Int} {n : Nat} (hn : n ≤ 8) (h : -1 ≤ p ∧ p < n) : ∃ c : UInt8, sgn p = [c] ∧ (c.toNat = 45 ∧ p = -1 ∨ c.toNat = 48 + p.toNat ∧ 0 ≤ p) := by
  unfold sgn
  split
  · rename_i e; exact ⟨45, rfl, .inl ⟨rfl, e⟩⟩
  · rw [dg_one (by omega)]
    refine ⟨_, rfl, .inr ⟨?_, by omega⟩⟩
    rw [UInt8.toNat_ofNat']; omega
theorem sgn_inj {p q : Int} {n m : Nat} (hn : n ≤ 8) (hm : m ≤ 8) (h : -1 ≤ p ∧ p < n) (h' : -1 ≤ q ∧ q < m) {a b : List UInt8} (e : sgn p ++ a = sgn q ++ b) : p = q ∧ a = b := by
  obtain ⟨c, e1, k1⟩ := sgn_c hn h
  obtain ⟨d, e2, k2⟩ := sgn_c hm h'
  rw [e1, e2] at e
  simp only [List.cons_append, List.nil_append, List.cons.injEq] at e
  obtain ⟨rfl, rfl⟩ := e
  exact ⟨by omega, rfl⟩
theorem txC_inj {n m : Nat} (hn : n ≤ 8) (hm : m ≤ 8) : ∀ (L R L' R' : List Int) (x y : List UInt8), L.length = R.length → L'.length = R'.length →
    (∀ p, p ∈ L → -1 ≤ p ∧ p < n) → (∀ p, p ∈ R → -1 ≤ p ∧ p < n) → (∀ p, p ∈ L' → -1 ≤ p ∧ p < m) → (∀ p, p ∈ R' → -1 ≤ p ∧ p < m) → txC L R ++ 47 :: x = txC L' R' ++ 47 :: y → L = L' ∧ R = R' ∧ x = y
  | [], [], [], [], x, y, _, _, _, _, _, _, e => by
    simp [txC] at e; exact ⟨rfl, rfl, e⟩
  | [], [], p :: L', q :: R', x, y, _, _, _, _, h3, _, e => by
    exfalso
    obtain ⟨c, e1, k1⟩ := sgn_c hm (h3 p (by simp))
    simp [txC, e1] at e
    have := e.1
    subst this
    rcases k1 with k | k
    · have := k.1; simp at this
    · have := k.1; simp at this; omega
  | p :: L, q :: R, [], [], x, y, _, _, h1, _, _, _, e => by
    exfalso
    obtain ⟨c, e1, k1⟩ := sgn_c hn (h1 p (by simp))
    simp [txC, e1] at e
    have := e.1
    subst this
    rcases k1 with k | k
    · have := k.1; simp at this
    · have := k.1; simp at this; omega
  | p :: L, q :: R, p' :: L', q' :: R', x, y, l1, l2, h1, h2, h3, h4, e => by
    simp only [txC, List.zip_cons_cons, List.flatMap_cons, List.append_assoc] at e
    obtain ⟨ep, e1⟩ := sgn_inj hn hm (h1 p (by simp)) (h3 p' (by simp)) e
    obtain ⟨eq, e2⟩ := sgn_inj hn hm (h2 q (by simp)) (h4 q' (by simp)) e1
    clear e e1
    have e := e2
    clear e2
    subst ep eq
    simp only [List.cons_append, List.nil_append, List.cons.injEq, true_and] at e
    have e : txC L R ++ 47 :: x = txC L' R' ++ 47 :: y := by unfold txC; simp only [List.append_assoc, List.cons_append, List.nil_append]; exact e
    have ih := txC_inj hn hm L R L' R' x y (by simpa using l1) (by simpa using l2) (fun z hz => h1 z (by simp [hz])) (fun z hz => h2 z (by simp [hz])) (fun z hz => h3 z (by simp [hz])) (fun z hz => h4 z (by simp [hz])) e
    exact ⟨by rw [ih.1], by rw [ih.2.1], ih.2.2⟩
theorem txR_inj {n m : Nat} (hn : n ≤ 8) (hm : m ≤ 8) : ∀ (T T' : List Int) (x y : List UInt8), (∀ p, p ∈ T → -1 ≤ p ∧ p < n) → (∀ p, p ∈ T' → -1 ≤ p ∧ p < m) → txR T ++ 32 :: 102 :: x = txR T' ++ 32 :: 102 :: y → T = T' ∧ x = y
  | [], [], x, y, _, _, e => by simp [txR] at e; exact ⟨rfl, e⟩
  | [], p :: T', x, y, _, h, e => by
    exfalso
    obtain ⟨c, e1, k1⟩ := sgn_c hm (h p (by simp))
    have hb := h p (by simp)
    simp [txR, e1] at e
    have := e.1
    subst this
    rcases k1 with k | k
    · have := k.1; simp at this
    · have := k.1; simp at this; omega
  | p :: T, [], x, y, h, _, e => by
    exfalso
    obtain ⟨c, e1, k1⟩ := sgn_c hn (h p (by simp))
    have hb := h p (by simp)
    simp [txR, e1] at e
    have := e.1
    subst this
    rcases k1 with k | k
    · have := k.1; simp at this
    · have := k.1; simp at this; omega
  | p :: T, q :: T', x, y, h, h', e => by
    simp only [txR, List.flatMap_cons, List.cons_append, List.append_assoc, List.cons.injEq, true_and] at e
    obtain ⟨ep, e1⟩ := sgn_inj hn hm (h p (by simp)) (h' q (by simp)) e
    have ih := txR_inj hn hm T T' x y (fun z hz => h z (by simp [hz])) (fun z hz => h' z (by simp [hz])) e1
    exact ⟨by rw [ih.1, ep], ih.2⟩
/-- A digit, and what is behind it. -/
theorem dg_inj {p q : Nat} (hp : p < 10) (hq : q < 10) {a b : List UInt8} (e : dg p ++ a = dg q ++ b) : p = q ∧ a = b := by
  rw [dg_one hp, dg_one hq] at e
  simp only [List.cons_append, List.nil_append, List.cons.injEq] at e
  exact ⟨u8_inj (by omega) (by omega) e.1, e.2⟩
/-- Free cells, ended by a space and a letter. -/
theorem txF_inj : ∀ (F F' : List Int) (c d : UInt8) (x y : List UInt8), (∀ p, p ∈ F → 0 ≤ p ∧ p < 8) → (∀ p, p ∈ F' → 0 ≤ p ∧ p < 8) → 97 ≤ c.toNat → 97 ≤ d.toNat → txF F ++ 32 :: c :: x = txF F' ++ 32 :: d :: y → F = F' ∧ c = d ∧ x = y
  | [], [], c, d, x, y, _, _, _, _, e => by simp [txF] at e; exact ⟨rfl, e⟩
  | [], p :: F', c, d, x, y, _, h, hc, _, e => by
    exfalso
    have hb := h p (by simp)
    simp only [txF, List.flatMap_cons, List.flatMap_nil, List.nil_append, List.cons_append, List.append_assoc, List.cons.injEq, true_and, dg_one (show p.toNat < 10 by omega)] at e
    rw [e.1, UInt8.toNat_ofNat'] at hc
    omega
  | p :: F, [], c, d, x, y, h, _, _, hd, e => by
    exfalso
    have hb := h p (by simp)
    simp only [txF, List.flatMap_cons, List.flatMap_nil, List.nil_append, List.cons_append, List.append_assoc, List.cons.injEq, true_and, dg_one (show p.toNat < 10 by omega)] at e
    rw [← e.1, UInt8.toNat_ofNat'] at hd
    omega
  | p :: F, q :: F', c, d, x, y, h, h', hc, hd, e => by
    have b1 := h p (by simp)
    have b2 := h' q (by simp)
    simp only [txF, List.flatMap_cons, List.cons_append, List.append_assoc, List.cons.injEq, true_and] at e
    obtain ⟨e1, e⟩ := dg_inj (by omega) (by omega) e
    have ih := txF_inj F F' c d x y (fun z hz => h z (by simp [hz])) (fun z hz => h' z (by simp [hz])) hc hd e
    exact ⟨by rw [ih.1, show p = q by omega], ih.2⟩
theorem col_inj : ∀ (C D : List Int) (x y : List UInt8), (∀ k, k ∈ C → 0 ≤ k ∧ k ≤ 2) → (∀ k, k ∈ D → 0 ≤ k ∧ k ≤ 2) → C.map sign ++ 32 :: x = D.map sign ++ 32 :: y → C = D ∧ x = y
  | [], [], x, y, _, _, e => by simp at e; exact ⟨rfl, e⟩
  | [], k :: D, x, y, _, _, e => by
    exfalso
    simp at e
    have := e.1
    unfold sign at this
    split at this
    · simp at this
    · split at this <;> simp at this
  | k :: C, [], x, y, _, _, e => by
    exfalso
    simp at e
    have := e.1
    unfold sign at this
    split at this
    · simp at this
    · split at this <;> simp at this
  | k :: C, j :: D, x, y, h, h', e => by
    have b1 := h k (by simp)
    have b2 := h' j (by simp)
    simp only [List.map_cons, List.cons_append, List.cons.injEq] at e
    have ih := col_inj C D x y (fun z hz => h z (by simp [hz])) (fun z hz => h' z (by simp [hz])) e.2
    have : k = j := by
      have := e.1
      unfold sign at this
      by_cases k0 : k = 0 <;> by_cases j0 : j = 0 <;> by_cases k1 : k = 1 <;> by_cases j1 : j = 1 <;> simp [k0, j0, k1, j1] at this <;> omega
    exact ⟨by rw [ih.1, this], ih.2⟩
/-- A number below 100, ended by nothing or by a space. -/
theorem dg_end {p q : Nat} (hp : p < 100) (hq : q < 100) {a b : Bool} (e : dg p ++ (if a then [32, 108, 111, 115, 116] else []) = dg q ++ (if b then [32, 108, 111, 115, 116] else [])) : p = q ∧ a = b := by
  unfold dg at e
  have nd : ∀ k : Nat, k < 100 → ¬ UInt8.ofNat (48 + k) = 32 := fun k hk z => by
    have := congrArg UInt8.toNat z
    rw [UInt8.toNat_ofNat'] at this
    have e32 : (32 : UInt8).toNat = 32 := rfl
    rw [e32] at this
    omega
  have nd2 : ∀ k : Nat, k < 100 → ¬ 32 = UInt8.ofNat (48 + k) := fun k hk z => nd k hk z.symm
  by_cases p1 : p < 10 <;> by_cases q1 : q < 10 <;> cases a <;> cases b <;>
    simp only [p1, q1, if_true, if_false, Bool.false_eq_true, List.append_nil, List.cons_append, List.nil_append, List.cons.injEq, and_true, true_and, and_false, reduceCtorEq] at e
  all_goals first
    | exact ⟨u8_inj (by omega) (by omega) e, rfl⟩
    | exact absurd e.2.1 (nd _ (by omega))
    | exact absurd e.2.1 (nd2 _ (by omega))
    | (have h1 := u8_inj (by omega) (by omega) e.1
       have h2 := u8_inj (by omega) (by omega) e.2
       exact ⟨by omega, rfl⟩)
    | exact absurd e.2 (by simp)
theorem mem_okP {l : List Int} {n : Nat} (h : okP l n) : ∀ p, p ∈ l → -1 ≤ p ∧ p < n := fun p hp => okP_mem h hp
theorem word_inj {p q : Int} (hp : p = 0 ∨ p = 1 ∨ p = 2 ∨ p = 3) (hq : q = 0 ∨ q = 1 ∨ q = 2 ∨ q = 3) {a b : List UInt8} (e : word p ++ 32 :: a = word q ++ 32 :: b) : p = q ∧ a = b := by
  rcases hp with rfl | rfl | rfl | rfl <;> rcases hq with rfl | rfl | rfl | rfl <;> simp [word] at e <;> exact ⟨rfl, e⟩
theorem word_inj' {p q : Int} (hp : p = 0 ∨ p = 1 ∨ p = 2 ∨ p = 3) (hq : q = 0 ∨ q = 1 ∨ q = 2 ∨ q = 3) {d : UInt8} {r r' a b : List UInt8} (ed : word p = d :: r) (ed' : word q = d :: r') (e : r ++ 32 :: a = r' ++ 32 :: b) : p = q ∧ a = b :=
  word_inj hp hq (by rw [ed, ed', List.cons_append, List.cons_append, e])
theorem gph {g : Gcc} {s : Sto} (h : g.atOk s) : g.p = 0 ∨ g.p = 1 ∨ g.p = 2 ∨ g.p = 3 := by unfold Gcc.atOk at h; omega
/-- A text tells all but the operations. -/
theorem txB_inj {b c : Bth} (h : b.ok) (h' : c.ok) (e : txB b = txB c) : b.s = c.s ∧ b.g = c.g ∧ b.a = c.a ∧ b.l = c.l := by
  obtain ⟨⟨⟨⟨⟨l1, l2, l3, l4, l5⟩, oL, oR, oT⟩, hF⟩, hC, hA⟩, hO, a1, a2⟩ := h
  obtain ⟨⟨⟨⟨⟨m1, m2, m3, m4, m5⟩, pL, pR, pT⟩, hF'⟩, hC', hA'⟩, hO', c1, c2⟩ := h'
  have sF : ∀ p, p ∈ b.s.F → 0 ≤ p ∧ p < 8 := fun p hp => by
    obtain ⟨i, hi, e⟩ := mem_getD hp
    have := (hF i hi).1.1
    omega
  have sF' : ∀ p, p ∈ c.s.F → 0 ≤ p ∧ p < 8 := fun p hp => by
    obtain ⟨i, hi, e⟩ := mem_getD hp
    have := (hF' i hi).1.1
    omega
  have w1 := gph hA
  have w2 := gph hA'
  have hw : ∀ (p : Int), (p = 0 ∨ p = 1 ∨ p = 2 ∨ p = 3) → ∃ (d : UInt8) (r : List UInt8), word p = d :: r ∧ 97 ≤ d.toNat := by
    intro p hp
    rcases hp with rfl | rfl | rfl | rfl
    · exact ⟨105, _, rfl, by decide⟩
    · exact ⟨114, _, rfl, by decide⟩
    · exact ⟨109, _, rfl, by decide⟩
    · exact ⟨115, _, rfl, by decide⟩
  unfold txB txS txH at e
  simp only [List.append_assoc, List.cons_append, List.nil_append] at e
  obtain ⟨eL, eR, e⟩ := txC_inj l2 m2 _ _ _ _ _ _ l3.symm m3.symm (mem_okP oL) (mem_okP oR) (mem_okP pL) (mem_okP pR) e
  obtain ⟨eT, e⟩ := txR_inj l2 m2 _ _ _ _ (mem_okP oT) (mem_okP pT) e
  simp only [List.cons.injEq, true_and] at e
  obtain ⟨d, r, ed, hd⟩ := hw _ w1
  obtain ⟨d', r', ed', hd'⟩ := hw _ w2
  rw [ed, ed'] at e
  simp only [List.cons_append] at e
  obtain ⟨eF, e1, e5⟩ := txF_inj _ _ d d' _ _ sF sF' hd hd' e
  subst e1
  clear e
  obtain ⟨ep, e⟩ := word_inj' w1 w2 ed ed' e5
  clear e5
  have ha : 0 ≤ b.g.a ∧ b.g.a < 10 := by unfold Gcc.atOk at hA; omega
  have ha' : 0 ≤ c.g.a ∧ c.g.a < 10 := by unfold Gcc.atOk at hA'; omega
  obtain ⟨ea, e⟩ := dg_inj (by omega) (by omega) e
  simp only [List.cons.injEq, true_and] at e
  have hcm : ∀ k, k ∈ b.g.C → 0 ≤ k ∧ k ≤ 2 := fun k hk => by
    obtain ⟨i, hi, e⟩ := mem_getD hk
    have := hC.2 i hi; omega
  have hcm' : ∀ k, k ∈ c.g.C → 0 ≤ k ∧ k ≤ 2 := fun k hk => by
    obtain ⟨i, hi, e⟩ := mem_getD hk
    have := hC'.2 i hi; omega
  obtain ⟨eC, e⟩ := col_inj _ _ _ _ hcm hcm' e
  simp only [List.cons.injEq, true_and] at e
  have o1 := hO.1
  have o2 := hO'.1
  obtain ⟨eA, el⟩ := dg_end (by omega) (by omega) e
  refine ⟨?_, ?_, by omega, el⟩
  · obtain ⟨⟨⟨L, R, T⟩, F⟩, g, o, a, l⟩ := b
    obtain ⟨⟨⟨L', R', T'⟩, F'⟩, g', o', a', l'⟩ := c
    dsimp only at *
    rw [eL, eR, eT, eF]
  · obtain ⟨s, ⟨p, C, a⟩, o, A, l⟩ := b
    obtain ⟨s', ⟨p', C', a'⟩, o', A', l'⟩ := c
    dsimp only at *
    rw [ep, eC, show a = a' by omega]
theorem txB_ne (b : Bth) : txB b ≠ [] := by unfold txB txS txH; simp
theorem txS_ne (s : Sto) : txS s ≠ [] := by unfold txS txH; simp
theorem txF_len : ∀ (F : List Int), (∀ p, p ∈ F → 0 ≤ p ∧ p < 8) → (txF F).length = 2 * F.length
  | [], _ => rfl
  | p :: F, h => by
    have := txF_len F fun z hz => h z (by simp [hz])
    have hb := h p (by simp)
    simp only [txF, List.flatMap_cons, List.length_append, List.length_cons, dg_one (show p.toNat < 10 by omega)] at this ⊢
    simp only [List.length_nil]; omega
end Go.Proofs.YtnepiffboakehaaDoor.S
