/- Plain laws of the common model: what the texts of stores and of both begin and end with. Own work of this claim; no program in sight. -/
import Derived.Test.YtnepiffboakehaaDoorPl
namespace Go.Proofs.YtnepiffboakehaaDoor.S
set_option linter.all false

theorem bs_loop (l : List UInt8) : ∀ (k i : Nat) (r : List UInt8), l.length - i = k → ByteArray.toList.loop (bs l) i r = r.reverse ++ l.drop i
  | 0, i, r, h => by
    unfold ByteArray.toList.loop
    rw [bs_size, if_neg (by omega), List.drop_eq_nil_of_le (by omega), List.append_nil]
  | k + 1, i, r, h => by
    unfold ByteArray.toList.loop
    rw [bs_size, if_pos (by omega), bs_loop l k (i + 1) _ (by omega)]
    have hi : i < l.length := by omega
    rw [List.drop_eq_getElem_cons hi]
    have e : (bs l).get! i = l[i] := by
      simp [ByteArray.get!, bs, hi]
    rw [e]
    simp
theorem bs_toList (l : List UInt8) : (bs l).toList = l := by
  unfold ByteArray.toList
  rw [bs_loop l _ 0 [] rfl]; rfl
theorem bs_extract (l : List UInt8) (a b : Nat) : (bs l).extract a b = bs ((l.drop a).take (b - a)) := by
  apply ByteArray.ext
  rw [ByteArray.data_extract]
  unfold bs
  simp
theorem bs_at (l : List UInt8) (i : Nat) : (bs l).data.getD i 0 = l.getD i 0 := by
  unfold bs
  rw [Array.getD_eq_getD_getElem?, List.getElem?_toArray, List.getD_eq_getElem?_getD]
theorem free_in {s : Sto} (h : s.ok) : ∀ p, p ∈ s.F → 0 ≤ p ∧ p < 8 := by
  intro p hp
  obtain ⟨j, hj, e⟩ := mem_getD hp
  have h1 := (h.2 j hj).1.1
  have h2 := h.1.1
  omega
theorem txS_size {s : Sto} (h : s.ok) : (txS s).length = (txH s.h).length + 5 + 2 * s.F.length := by
  unfold txS
  rw [List.length_append, List.length_append, txF_len s.F (free_in h)]
  rfl
/-- The text of a heap begins that of a store. -/
theorem txS_take (s : Sto) : (txS s).take (txH s.h).length = txH s.h := by
  unfold txS
  rw [List.append_assoc, List.take_left']
  rfl
theorem txF_snoc (F : List Int) (p : Int) : txF (F ++ [p]) = txF F ++ 32 :: dg p.toNat := by
  simp [txF]
/-- The last letter of a store's text is its last free cell's digit. -/
theorem txS_last {s : Sto} (h : s.ok) (hn : s.F ≠ []) : (txS s).getD ((txS s).length - 1) 0 = UInt8.ofNat (48 + (s.F.getD (s.F.length - 1) 0).toNat) := by
  have hl := txS_size h
  obtain ⟨F, p, e⟩ : ∃ F p, s.F = F ++ [p] := ⟨s.F.dropLast, s.F.getLast hn, (List.dropLast_concat_getLast hn).symm⟩
  have hp := free_in h p (by rw [e]; simp)
  have eg : s.F.getD (s.F.length - 1) 0 = p := by rw [e]; simp [List.getD_eq_getElem?_getD]
  rw [eg]
  unfold txS
  rw [e, txF_snoc, dg_one (by omega)]
  simp [List.getD_eq_getElem?_getD]
theorem txS_free {s : Sto} (hn : s.F = []) : (txS s).drop ((txS s).length - 4) = [102, 114, 101, 101] := by
  unfold txS
  rw [hn]
  rw [show txF [] = [] from rfl, List.append_nil, List.drop_append, List.length_append]
  rw [List.drop_eq_nil_of_le (by simp), List.nil_append]
  show List.drop ((txH s.h).length + 5 - 4 - (txH s.h).length) _ = _
  rw [show (txH s.h).length + 5 - 4 - (txH s.h).length = 1 by omega]
  rfl
theorem txB_take (b : Bth) : (txB b).take (txS b.s).length = txS b.s := by
  unfold txB
  simp only [List.append_assoc]
  rw [List.take_left']
  rfl
theorem sgn_len (p : Int) : 1 ≤ (sgn p).length ∧ (sgn p).length ≤ 2 := by
  unfold sgn; split
  · exact ⟨Nat.le_refl _, by decide⟩
  · exact dg_len _
theorem getD_take_snoc {l : List Int} {i : Nat} (h : i < l.length) : l.take (i + 1) = l.take i ++ [l.getD i 0] := by
  rw [List.take_add_one, List.getElem?_eq_getElem h, List.getD_eq_getElem?_getD, List.getElem?_eq_getElem h]; rfl
theorem txC_step {L R : List Int} {i : Nat} (h : i < L.length) (h' : i < R.length) : txC (L.take (i + 1)) (R.take (i + 1)) = txC (L.take i) (R.take i) ++ (sgn (L.getD i 0) ++ sgn (R.getD i 0) ++ [32]) := by
  rw [getD_take_snoc h, getD_take_snoc h']
  unfold txC
  rw [List.zip_append (by rw [List.length_take, List.length_take]; omega), List.flatMap_append]
  simp
theorem txR_step {T : List Int} {i : Nat} (h : i < T.length) : txR (T.take (i + 1)) = txR (T.take i) ++ (32 :: sgn (T.getD i 0)) := by
  rw [getD_take_snoc h]
  simp [txR]
theorem txF_step {T : List Int} {i : Nat} (h : i < T.length) : txF (T.take (i + 1)) = txF (T.take i) ++ (32 :: dg (T.getD i 0).toNat) := by
  rw [getD_take_snoc h]
  simp [txF]
theorem txC_len : ∀ (L R : List Int), (txC L R).length ≤ 5 * L.length
  | [], R => by simp [txC]
  | p :: L, [] => by simp [txC]
  | p :: L, q :: R => by
    have ih := txC_len L R
    have h1 := sgn_len p
    have h2 := sgn_len q
    unfold txC at ih ⊢
    simp only [List.zip_cons_cons, List.flatMap_cons, List.length_append, List.length_cons, List.length_nil]
    omega
theorem txR_len : ∀ (T : List Int), (txR T).length ≤ 3 * T.length
  | [] => by simp [txR]
  | p :: T => by
    have ih := txR_len T
    have h1 := sgn_len p
    unfold txR at ih ⊢
    simp only [List.flatMap_cons, List.length_append, List.length_cons]
    omega
theorem txH_len (h : Hp) : (txH h).length ≤ 5 * h.L.length + 1 + 3 * h.T.length := by
  have h1 := txC_len h.L h.R
  have h2 := txR_len h.T
  unfold txH
  rw [List.length_append, List.length_append, List.length_singleton]
  omega
theorem cell_in {l : List Int} {n i : Nat} (h : okP l n) (hi : i < l.length) : -1 ≤ l.getD i 0 ∧ l.getD i 0 < n := by have := okP_get h hi; omega
end Go.Proofs.YtnepiffboakehaaDoor.S
