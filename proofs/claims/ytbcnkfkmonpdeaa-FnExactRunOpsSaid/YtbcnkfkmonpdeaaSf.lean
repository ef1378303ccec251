/- The symbolic heap: soundness of the other operations. Own work of this claim. -/
import Derived.Test.YtbcnkfkmonpdeaaSe
namespace Go.Proofs.Ytbcnkfkmonpdeaa.S
set_option linter.all false
open Go

section
variable {P : Program} {G : Nat → Prop} {hp : HP} {ν : Nm} {H : Heap} {w : World}

/-- A step that leaves memory as it is. -/
def Pures (P : Program) (ν : Nm) (s : Sem Value) (w : World) (K : AV → Prop) : Prop := ∃ c v, s.run P w = .ok c w ∧ VR ν v c ∧ K v
theorem Pures.mk {s : Sem Value} {K : AV → Prop} {c : Value} (v : AV) (hr : s.run P w = .ok c w) (hv : VR ν v c) (h : K v) : Pures P ν s w K := ⟨c, v, hr, hv, h⟩

theorem Pures.int {s : Sem Value} {K : AV → Prop} {k : IntKind} {n : Int} (h : K (.int k n)) (hr : s.run P w = .ok (.int k n) w) : Pures P ν s w K := .mk (.int k n) hr rfl h
theorem Pures.bool {s : Sem Value} {K : AV → Prop} {b : Bool} (h : K (.bool b)) (hr : s.run P w = .ok (.bool b) w) : Pures P ν s w K := .mk (.bool b) hr rfl h
theorem Pures.str {s : Sem Value} {K : AV → Prop} {b : ByteArray} (h : K (.str b)) (hr : s.run P w = .ok (.string b) w) : Pures P ν s w K := .mk (.str b) hr rfl h

theorem sInt_ok {op : BinOp} {k : IntKind} {a b : Int} {K : AV → Prop} {t : TypeId} {x y : Operand} (h : sInt op k a b K) :
    Pures P ν (do eqGuard op t x y (.int k a) (.int k b); binOp op t (.int k a) (.int k b)) w K := by
  have hg : (eqGuard op t x y (.int k a) (.int k b)).run P w = .ok () w := by
    unfold eqGuard
    cases op <;> rfl
  unfold sInt at h
  split at h
  case h_1 => exact .int h (by simp [hg, binOp, Op.intArith])
  case h_2 => exact .int h (by simp [hg, binOp, Op.intArith])
  case h_3 => exact .int h (by simp [hg, binOp, Op.intArith])
  case h_4 => exact .int h.2 (by simp [hg, binOp, Op.intDiv, h.1])
  case h_5 => exact .int h.2 (by simp [hg, binOp, Op.intDiv, h.1])
  case h_6 => exact .int h (by simp [hg, binOp, Op.intBits])
  case h_7 => exact .int h (by simp [hg, binOp, Op.intBits])
  case h_8 => exact .int h (by simp [hg, binOp, Op.intBits])
  case h_9 => exact .bool h (by simp [hg, binOp, Op.intCmp]; rfl)
  case h_10 => exact .bool h (by simp [hg, binOp, Op.intCmp, bne]; rfl)
  case h_11 => exact .bool h (by simp [hg, binOp, Op.intCmp])
  case h_12 => exact .bool h (by simp [hg, binOp, Op.intCmp])
  case h_13 => exact .bool h (by simp [hg, binOp, Op.intCmp])
  case h_14 => exact .bool h (by simp [hg, binOp, Op.intCmp])
  all_goals exact h.elim

theorem sStr_ok {op : BinOp} {a b : ByteArray} {K : AV → Prop} {t : TypeId} {x y : Operand} (h : sStr op a b K) :
    Pures P ν (do eqGuard op t x y (.string a) (.string b); binOp op t (.string a) (.string b)) w K := by
  have hg : (eqGuard op t x y (.string a) (.string b)).run P w = .ok () w := by
    unfold eqGuard
    cases op <;> rfl
  unfold sStr at h
  split at h
  case h_1 =>
    refine .str h.2 ?_
    have hl : ¬ (((a.size + b.size : Nat) : Int) > IntKind.i64.max) := by
      have := h.1; unfold lim40 at this
      have e : IntKind.i64.max = 9223372036854775807 := by decide
      rw [e]; omega
    simp only [Sem.run_bind, hg, Result.andThen_ok, binOp, Op.stringOp]
    rw [if_neg hl]; rfl
  case h_2 => exact .bool h (by simp [hg, binOp, Op.stringOp])
  case h_3 => exact .bool h (by simp [hg, binOp, Op.stringOp])
  all_goals exact h.elim

theorem run_eq_bool {t : TypeId} (hu : P.underlying t = some .bool) (a b : Bool) : (Op.equal t (.bool a) (.bool b)).run P w = .ok (a == b) w := by
  have : ∀ d, (Op.equalIn (d + 1) t (.bool a) (.bool b)).run P w = .ok (a == b) w := by
    intro d
    simp only [Op.equalIn, Sem.run_bind, run_underlying hu, Result.andThen_ok]
    rfl
  exact this 9999
theorem run_eq_nil {t e : TypeId} (hu : P.underlying t = some (.slice e)) (p : Option Addr) (n c : Nat) : (Op.equal t (.slice p n c) (.slice none 0 0)).run P w = .ok p.isNone w := by
  have : ∀ d, (Op.equalIn (d + 1) t (.slice p n c) (.slice none 0 0)).run P w = .ok p.isNone w := by
    intro d
    simp only [Op.equalIn, Sem.run_bind, run_underlying hu, Result.andThen_ok]
    cases p <;> rfl
  exact this 9999
theorem run_guard_no {op : BinOp} {t : TypeId} {x y : Operand} {a b : Value} (h1 : ∀ c, a ≠ .agg c) (h2 : a ≠ .nilIface) : (eqGuard op t x y a b).run P w = .ok () w := by
  unfold eqGuard
  cases a <;> cases op <;> first | rfl | (exact absurd rfl h2) | (exact absurd rfl (h1 _))

theorem sBin_ok {op : BinOp} {t : TypeId} {x y : Operand} {a b : AV} {ca cb : Value} {K : AV → Prop} (ha : VR ν a ca) (hb : VR ν b cb) (h : sBin P op t a b K) :
    Pures P ν (do eqGuard op t x y ca cb; binOp op t ca cb) w K := by
  unfold sBin at h
  split at h
  · obtain rfl : ca = _ := ha
    obtain rfl : cb = _ := hb
    obtain ⟨rfl, h⟩ := h
    exact sInt_ok h
  · obtain rfl : ca = _ := ha
    obtain rfl : cb = _ := hb
    exact sStr_ok h
  · obtain rfl : ca = _ := ha
    obtain rfl : cb = _ := hb
    split at h
    · rename_i ht
      have hu := tyI_bool ht
      split at h
      · exact .bool h (by simp only [Sem.run_bind, run_guard_no (P := P) (a := .bool _) (by simp) (by simp), Result.andThen_ok, binOp, run_eq_bool hu, Sem.run_pure])
      · exact .bool h (by simp only [Sem.run_bind, run_guard_no (P := P) (a := .bool _) (by simp) (by simp), Result.andThen_ok, binOp, run_eq_bool hu, Sem.run_pure])
      · exact h.elim
    · exact h.elim
  · exact h.elim

theorem sNil_ok {op : BinOp} {t : TypeId} {x : Operand} {a : AV} {ca : Value} {K : AV → Prop} (ha : VR ν a ca) (h : sNil P op t a K) :
    Pures P ν (do eqGuard op t x (.const (.slice none 0 0)) ca (.slice none 0 0); binOp op t ca (.slice none 0 0)) w K := by
  have run_eq : ∀ (e : TypeId) (p : Option Addr) (n c : Nat), P.underlying t = some (.slice e) →
      (do eqGuard .eql t x (.const (.slice none 0 0)) (.slice p n c) (.slice none 0 0); binOp .eql t (.slice p n c) (.slice none 0 0) : Sem Value).run P w = .ok (.bool p.isNone) w := by
    intro e p n c hu
    simp only [Sem.run_bind, run_guard_no (P := P) (a := .slice _ _ _) (by simp) (by simp), Result.andThen_ok, binOp, run_eq_nil hu, Sem.run_pure]
  have run_ne : ∀ (e : TypeId) (p : Option Addr) (n c : Nat), P.underlying t = some (.slice e) →
      (do eqGuard .neq t x (.const (.slice none 0 0)) (.slice p n c) (.slice none 0 0); binOp .neq t (.slice p n c) (.slice none 0 0) : Sem Value).run P w = .ok (.bool (!p.isNone)) w := by
    intro e p n c hu
    simp only [Sem.run_bind, run_guard_no (P := P) (a := .slice _ _ _) (by simp) (by simp), Result.andThen_ok, binOp, run_eq_nil hu, Sem.run_pure]
  unfold sNil at h
  split at h
  · rename_i e n o len ht
    have hu := tyI_slice ht
    rcases ha with ⟨L, c, h1, h2, h3, rfl⟩ | ⟨h1, p, rfl⟩
    · exact .bool (h false (by simp)) (run_eq _ _ _ _ hu)
    · exact .bool (h _ (fun _ => h1)) (run_eq _ _ _ _ hu)
  · rename_i e n o len ht
    have hu := tyI_slice ht
    rcases ha with ⟨L, c, h1, h2, h3, rfl⟩ | ⟨h1, p, rfl⟩
    · exact .bool (h true (by simp)) (run_ne _ _ _ _ hu)
    · exact .bool (h _ (fun _ => h1)) (run_ne _ _ _ _ hu)
  · rename_i ht
    obtain ⟨p, rfl⟩ := ha
    exact .bool (h _) (run_eq _ _ _ _ (tyI_slice ht))
  · rename_i ht
    obtain ⟨p, rfl⟩ := ha
    exact .bool (h _) (run_ne _ _ _ _ (tyI_slice ht))
  · exact h.elim

theorem sUn_ok {op : UnOp} {x : AV} {c : Value} {K : AV → Prop} (hx : VR ν x c) (h : sUn op x K) : Pures P ν (Op.unary op c) w K := by
  unfold sUn at h
  split at h
  · obtain rfl : c = _ := hx
    exact .bool h (by simp [Op.unary])
  · obtain rfl : c = _ := hx
    exact .int h (by simp [Op.unary, Op.intArith])
  · exact h.elim

theorem optInt_ok {env : Env} {a : Act} (he : EnvRel ν env a.tmps) {o : Option Operand} {q : Option Int} (h : optInt env o = some q) :
    (q = none ∧ o.map a.eval = none) ∨ ∃ n k, q = some n ∧ o.map a.eval = some (.int k n) := by
  cases o with
  | none => simp [optInt] at h; exact .inl ⟨h.symm, rfl⟩
  | some x =>
    have hx := ev_ok he x
    simp only [optInt] at h
    split at h
    · rename_i k n hk
      rw [hk] at hx
      obtain hx : a.eval x = _ := hx
      cases h
      exact .inr ⟨n, k, rfl, by simp [hx]⟩
    · cases h

theorem run_bound (n : Int) (k : IntKind) (y : Nat) (code : BoundsCode) (h0 : 0 ≤ n) (h1 : n ≤ y) : (Instr.sliceBound (.int k n) y code).run P w = .ok n.toNat w := by
  simp [Instr.sliceBound, asIntOf, h0, h1]

theorem sSlice_ok {t : TypeId} {x : AV} {c : Value} {env : Env} {a : Act} {lo hi mx : Option Operand} {K : AV → Prop} (hi' : Inv G hp ν H w) (he : EnvRel ν env a.tmps) (hx : VR ν x c)
    (h : sSlice P H t x (optInt env lo) (optInt env hi) (optInt env mx) K) : Pures P ν (Instr.sliceAt t c (lo.map a.eval) (hi.map a.eval) (mx.map a.eval)) w K := by
  unfold sSlice at h
  generalize hql : optInt env lo = ql at h
  generalize hqh : optInt env hi = qh at h
  generalize hqm : optInt env mx = qm at h
  split at h
  · rename_i s l u ht
    have hu := tyI_str ht
    obtain ⟨⟨b1, b2, b3⟩, h⟩ := h
    obtain rfl : c = _ := hx
    rcases optInt_ok he hqm with ⟨_, em⟩ | ⟨n, k, e1, _⟩
    · rw [em]
      rcases optInt_ok he hql with ⟨rfl, el⟩ | ⟨n, k, rfl, el⟩ <;> rcases optInt_ok he hqh with ⟨rfl, eh⟩ | ⟨m, j, rfl, eh⟩ <;> rw [el, eh] <;> simp only [Option.getD_none, Option.getD_some] at h b1 b2 b3
      · exact .str h (by simp [Instr.sliceAt, Instr.slice, Instr.sliceBounds, run_underlying hu])
      · exact .str h (by simp [Instr.sliceAt, Instr.slice, Instr.sliceBounds, run_underlying hu, run_bound _ _ _ _ (show 0 ≤ m by omega) b3])
      · exact .str h (by simp [Instr.sliceAt, Instr.slice, Instr.sliceBounds, run_underlying hu, run_bound _ _ _ _ b1 b2])
      · exact .str h (by simp [Instr.sliceAt, Instr.slice, Instr.sliceBounds, run_underlying hu, run_bound _ _ _ _ (show 0 ≤ m by omega) b3, run_bound n k m.toNat .sliceB b1 (by omega)])
    · cases e1
  · rename_i e n o len l u ht
    have hu := tyI_slice ht
    obtain ⟨hz, ⟨b1, b2, b3⟩, h⟩ := h
    split at hz
    case h_2 => exact hz.elim
    case h_1 own lv hH =>
    obtain ⟨hz, h0⟩ := hz
    obtain ⟨i, d, hi1, _, hi3⟩ := tyI_pos h0
    have hi2 : i.size = (tyI P e).sz := by rw [hi3]; rfl
    have hmx : mx.map a.eval = none := by
      rcases optInt_ok he hqm with ⟨_, em⟩ | ⟨n, k, e1, _⟩
      · exact em
      · cases e1
    rw [hmx]
    have hb0 : ∀ (cap : Nat), len ≤ cap → (Instr.sliceBounds true len cap (lo.map a.eval) (hi.map a.eval) none).run P w = .ok ((l.getD 0).toNat, (u.getD len).toNat, cap) w := by
      intro cap hcap
      rcases optInt_ok he hql with ⟨rfl, el⟩ | ⟨n', k, rfl, el⟩ <;> rcases optInt_ok he hqh with ⟨rfl, eh⟩ | ⟨m, j, rfl, eh⟩ <;> rw [el, eh] <;> simp only [Option.getD_none, Option.getD_some] at b1 b2 b3
      · simp [Instr.sliceBounds]
      · simp [Instr.sliceBounds, run_bound m j cap .sliceAcap (by omega) (by omega)]
      · simp [Instr.sliceBounds, run_bound n' k len .sliceB b1 b2]
      · simp [Instr.sliceBounds, run_bound m j cap .sliceAcap (by omega) (by omega), run_bound n' k m.toNat .sliceB b1 (by omega)]
    generalize hl' : (l.getD 0).toNat = l' at *
    generalize hu' : (u.getD len).toNat = u' at *
    have hle : l' ≤ u' ∧ u' ≤ len := by omega
    have he' := hi'.er n _ hH
    rcases hx with ⟨L, cap, h1, h2, h3, rfl⟩ | ⟨h1, p, rfl⟩
    · simp only [ER, h1] at he'
      have hes : L.esz = i.size := by rw [he'.1, hz, hi2]
      refine .mk _ (c := .slice (if cap = l' then some ⟨L.blk, L.off + o, none⟩ else some (Addr.add ⟨L.blk, L.off + o, none⟩ (l' * i.size))) (u' - l') (cap - l')) ?_ ?_ h
      · simp [Instr.sliceAt, Instr.slice, run_underlying hu, hb0 cap h2, sizeOf, typeInfo, hi1]
      · by_cases hc : cap = l'
        · refine Or.inr ⟨by omega, ?_⟩
          rw [if_pos hc]
          exact ⟨_, by congr 1 <;> omega⟩
        · refine Or.inl ⟨L, cap - l', h1, by omega, ?_, ?_⟩
          · rw [hes] at h3 ⊢
            have : (cap - l') * i.size + l' * i.size = cap * i.size := by rw [← Nat.add_mul]; congr 1; omega
            rw [← hi2]; omega
          · rw [if_neg hc, add_loc, ← hi2, Nat.add_assoc]
    · subst h1
      have e1 : l' = 0 := by omega
      have e2 : u' = 0 := by omega
      refine .mk (.sl n (o + l' * (tyI P e).sz) (u' - l')) (c := .slice p 0 0) ?_ (Or.inr ⟨by omega, p, rfl⟩) h
      have := hb0 0 (Nat.le_refl _)
      rw [e1, e2] at this
      simp [Instr.sliceAt, Instr.slice, run_underlying hu, this, sizeOf, typeInfo, hi1]
  · rename_i e n o len ht
    obtain ⟨h0, h⟩ := h
    obtain ⟨i, d, hi1, _, hi3⟩ := tyI_pos h0
    have hu := tyI_slice ht
    have z : ∀ (op : Option Operand), optInt env op = some (some 0) → ∃ k, op.map a.eval = some (.int k 0) := by
      intro op hop
      rcases optInt_ok he hop with ⟨e1, _⟩ | ⟨n, k, e1, e2⟩
      · cases e1
      · cases e1; exact ⟨k, e2⟩
    obtain ⟨k1, e1⟩ := z _ hql
    obtain ⟨k2, e2⟩ := z _ hqh
    obtain ⟨k3, e3⟩ := z _ hqm
    rw [e1, e2, e3]
    obtain ⟨p, c0, n0, rfl⟩ : ∃ p c0 n0, c = .slice p n0 c0 := by
      rcases hx with ⟨L, cap, h1, h2, h3, rfl⟩ | ⟨h1, p, rfl⟩
      · exact ⟨_, _, _, rfl⟩
      · exact ⟨_, _, _, rfl⟩
    refine .mk .emp (c := .slice p 0 0) ?_ ⟨_, rfl⟩ h
    simp [Instr.sliceAt, Instr.slice, Instr.sliceBounds, run_underlying hu, sizeOf, typeInfo, hi1, run_bound 0 k3 c0 .slice3Acap (by omega) (by omega), run_bound 0 k2 0 .slice3B (by omega) (by omega), run_bound 0 k1 0 .slice3C (by omega) (by omega)]
  · rename_i e l u ht
    obtain ⟨⟨h0, b1, b2⟩, h⟩ := h
    obtain ⟨i, d, hi1, _, hi3⟩ := tyI_pos h0
    have hu := tyI_slice ht
    obtain ⟨p, rfl⟩ := hx
    have hmx : mx.map a.eval = none := by
      rcases optInt_ok he hqm with ⟨_, em⟩ | ⟨n, k, e1, _⟩
      · exact em
      · cases e1
    rw [hmx]
    refine .mk .emp (c := .slice p 0 0) ?_ ⟨_, rfl⟩ h
    rcases optInt_ok he hql with ⟨rfl, el⟩ | ⟨n', k, rfl, el⟩ <;> rcases optInt_ok he hqh with ⟨rfl, eh⟩ | ⟨m, j, rfl, eh⟩ <;> rw [el, eh] <;> simp only [Option.getD_none, Option.getD_some] at b1 b2 <;> subst_vars
    · simp [Instr.sliceAt, Instr.slice, Instr.sliceBounds, run_underlying hu, sizeOf, typeInfo, hi1]
    · simp [Instr.sliceAt, Instr.slice, Instr.sliceBounds, run_underlying hu, sizeOf, typeInfo, hi1, run_bound 0 j 0 .sliceAcap (by omega) (by omega)]
    · simp [Instr.sliceAt, Instr.slice, Instr.sliceBounds, run_underlying hu, sizeOf, typeInfo, hi1, run_bound 0 k 0 .sliceB (by omega) (by omega)]
    · simp [Instr.sliceAt, Instr.slice, Instr.sliceBounds, run_underlying hu, sizeOf, typeInfo, hi1, run_bound 0 j 0 .sliceAcap (by omega) (by omega), run_bound 0 k 0 .sliceB (by omega) (by omega)]
  · rename_i e ht
    obtain ⟨h0, h⟩ := h
    obtain ⟨i, d, hi1, _, hi3⟩ := tyI_pos h0
    have hu := tyI_slice ht
    have z : ∀ (op : Option Operand), optInt env op = some (some 0) → ∃ k, op.map a.eval = some (.int k 0) := by
      intro op hop
      rcases optInt_ok he hop with ⟨e1, _⟩ | ⟨n, k, e1, e2⟩
      · cases e1
      · cases e1; exact ⟨k, e2⟩
    obtain ⟨k1, e1⟩ := z _ hql
    obtain ⟨k2, e2⟩ := z _ hqh
    obtain ⟨k3, e3⟩ := z _ hqm
    rw [e1, e2, e3]
    obtain ⟨p, rfl⟩ := hx
    refine .mk .emp (c := .slice p 0 0) ?_ ⟨_, rfl⟩ h
    simp [Instr.sliceAt, Instr.slice, Instr.sliceBounds, run_underlying hu, sizeOf, typeInfo, hi1, run_bound 0 k3 0 .slice3Acap (by omega) (by omega), run_bound 0 k2 0 .slice3B (by omega) (by omega), run_bound 0 k1 0 .slice3C (by omega) (by omega)]
  · exact h.elim

end
end Go.Proofs.Ytbcnkfkmonpdeaa.S
