/- The symbolic heap: names given anew (at a loop's end, at a return); a function's contract out of its code. Own work of this claim. -/
import Derived.Test.YtbcnkfkmonpdeaaSm
namespace Go.Proofs.Ytbcnkfkmonpdeaa.S
set_option linter.all false
open Go

abbrev Rho := List (Nat × (Nat × Nat))
/-- A cell under new names: entry n from cell o0 on is now m. -/
def renD (ρ : Rho) : AV → AV
  | .ptr n o => match aget ρ n with | some (m, o0) => if o0 ≤ o then .ptr m (o - o0) else .any | none => .any
  | .sl n o l => match aget ρ n with | some (m, o0) => if o0 ≤ o then .sl m (o - o0) l else .any | none => .any
  | .mapv n => match aget ρ n with | some (m, o0) => if o0 = 0 then .mapv m else .any | none => .any
  | .fn f caps => if caps.all fun p => match aget ρ p.1 with | some (_, o0) => decide (o0 ≤ p.2) | none => false then
      .fn f (caps.map fun p => match aget ρ p.1 with | some (m, o0) => (m, p.2 - o0) | none => p) else .any
  | c => c
def renDA (ρ : Rho) : AV → AV
  | .agg cs => .agg (cs.map (renD ρ))
  | c => renD ρ c
def renDV (ρ : Rho) : AV → AV
  | .tup vs => .tup (vs.map (renDA ρ))
  | c => renDA ρ c
def renDL (ρ : Rho) : LV → LV
  | .av z l => .av z (l.map (renD ρ))
  | l => l
def renDE (ρ : Rho) (o0 : Nat) : Ent → Ent
  | .c b lv => if o0 = 0 then .c b (renDL ρ lv) else .c b (renDL ρ (lv.view o0 (lv.len - o0)))
  | e => e
def selH (ρf : Rho) (H : Heap) : Rho → Heap
  | [] => []
  | (n, (m, o0)) :: r => match aget H n with
    | some e => (m, renDE ρf o0 e) :: selH ρf H r
    | none => selH ρf H r
/-- The names are distinct on either side, and no entry is cut behind its end. -/
def okRen (H : Heap) : Rho → Bool
  | [] => true
  | (n, (m, o0)) :: r => (r.all fun p => p.1 != n && p.2.1 != m) && (match aget H n with
      | some (.c _ lv) => decide (o0 ≤ lv.len)
      | _ => o0 == 0) && okRen H r

theorem okRen_get {H : Heap} : ∀ {ρ : Rho}, okRen H ρ = true → ∀ {n m o0}, (n, (m, o0)) ∈ ρ → aget ρ n = some (m, o0) ∧ (match aget H n with | some (.c _ lv) => o0 ≤ lv.len | _ => o0 = 0)
  | [], _, n, m, o0, hm => by simp at hm
  | (k, (j, p0)) :: r, h, n, m, o0, hm => by
    simp only [okRen, Bool.and_eq_true] at h
    obtain ⟨⟨h1, h2⟩, h3⟩ := h
    simp only [List.mem_cons, Prod.mk.injEq] at hm
    simp only [aget]
    rcases hm with ⟨rfl, rfl, rfl⟩ | hm
    · rw [if_pos rfl]
      refine ⟨rfl, ?_⟩
      split at h2 <;> simp_all
    · have := List.all_eq_true.1 h1 _ hm
      simp at this
      rw [if_neg (Ne.symm this.1)]
      exact okRen_get h3 hm
theorem okRen_inj {H : Heap} : ∀ {ρ : Rho}, okRen H ρ = true → ∀ {n n' m o0 o0'}, (n, (m, o0)) ∈ ρ → (n', (m, o0')) ∈ ρ → n = n' ∧ o0 = o0'
  | [], _, n, n', m, o0, o0', hm, _ => by simp at hm
  | (k, (j, p0)) :: r, h, n, n', m, o0, o0', hm, hm' => by
    simp only [okRen, Bool.and_eq_true] at h
    obtain ⟨⟨h1, h2⟩, h3⟩ := h
    simp only [List.mem_cons, Prod.mk.injEq] at hm hm'
    rcases hm with ⟨rfl, rfl, rfl⟩ | hm <;> rcases hm' with ⟨rfl, h4, h5⟩ | hm'
    · exact ⟨rfl, h5.symm⟩
    · have := List.all_eq_true.1 h1 _ hm'
      simp at this
    · have := List.all_eq_true.1 h1 _ hm
      simp [h4] at this
    · exact okRen_inj h3 hm hm'
def invR (ρ : Rho) (m : Nat) : Option (Nat × Nat) := match ρ.find? fun p => p.2.1 == m with
  | some (n, (_, o0)) => some (n, o0)
  | none => none
def nuR (ρ : Rho) (ν : Nm) : Nm := fun m => match invR ρ m with
  | some (n, o0) => (ν n).map (shiftL · o0)
  | none => none
theorem invR_some {ρ : Rho} {m n o0 : Nat} (h : invR ρ m = some (n, o0)) : (n, (m, o0)) ∈ ρ := by
  unfold invR at h
  split at h
  · rename_i n' m' o' hf
    cases h
    have h1 := List.mem_of_find?_eq_some hf
    have h2 := List.find?_some hf
    simp at h2
    subst h2; exact h1
  · cases h
theorem invR_of {H : Heap} {ρ : Rho} (hok : okRen H ρ = true) {m n o0 : Nat} (h : (n, (m, o0)) ∈ ρ) : invR ρ m = some (n, o0) := by
  cases hi : invR ρ m with
  | some p =>
    obtain ⟨n', o'⟩ := p
    obtain ⟨rfl, rfl⟩ := okRen_inj hok h (invR_some hi)
    rfl
  | none =>
    unfold invR at hi
    split at hi
    · cases hi
    · rename_i hf
      have := List.find?_eq_none.1 hf _ h
      simp at this

section
variable {H : Heap} {ρ : Rho} {ν : Nm}
theorem nuR_of (hok : okRen H ρ = true) {n m o0 : Nat} {L : Loc} (h : aget ρ n = some (m, o0)) (hL : ν n = some L) : nuR ρ ν m = some (shiftL L o0) := by
  unfold nuR
  rw [invR_of hok (mem_of_aget h)]
  simp [hL]
theorem PR.ren (hok : okRen H ρ = true) {n o m o0 : Nat} {v : Value} (hm : aget ρ n = some (m, o0)) (ho : o0 ≤ o) (h : PR ν (n, o) v) : PR (nuR ρ ν) (m, o - o0) v := by
  obtain ⟨L, hL, rfl⟩ := h
  refine ⟨_, nuR_of hok hm hL, ?_⟩
  simp only [shiftL]
  congr 3; omega
theorem CR.ren (hok : okRen H ρ = true) {c : AV} {v : Value} (h : CR ν c v) : CR (nuR ρ ν) (renD ρ c) v := by
  have hone := h.one
  cases c with
  | ptr n o =>
    simp only [renD]
    split
    · rename_i m o0 hm
      split
      · rename_i ho; exact PR.ren hok hm ho h
      · exact hone
    · exact hone
  | sl n o l =>
    simp only [renD]
    split
    · rename_i m o0 hm
      split
      · rename_i ho
        rcases h with ⟨L, cp, q1, q2, q3, rfl⟩ | ⟨rfl, p, rfl⟩
        · refine Or.inl ⟨_, cp, nuR_of hok hm q1, q2, by simp only [shiftL]; omega, ?_⟩
          simp only [shiftL]
          congr 3; omega
        · exact Or.inr ⟨rfl, p, rfl⟩
      · exact hone
    · exact hone
  | mapv n =>
    simp only [renD]
    split
    · rename_i m o0 hm
      split
      · rename_i ho
        obtain ⟨L, hL, rfl⟩ := h
        exact ⟨_, nuR_of hok hm hL, rfl⟩
      · exact hone
    · exact hone
  | fn f caps =>
    simp only [renD]
    split
    · rename_i hall
      obtain ⟨arr, rfl, hF⟩ := h
      refine ⟨arr, rfl, ?_⟩
      generalize arr.toList = vs at hF
      clear hone
      revert vs
      induction caps with
      | nil => intro vs hF; cases hF; exact .nil
      | cons p caps ih =>
        intro vs hF
        simp only [List.all_cons, Bool.and_eq_true] at hall
        cases hF with
        | cons hp ht =>
          refine .cons ?_ (ih hall.2 _ ht)
          have h1 := hall.1
          split at h1
          · rename_i m o0 hm
            simp only [hm]
            exact PR.ren hok hm (by simpa using h1) hp
          · cases h1
    · exact hone
  | int _ _ => exact h
  | bool _ => exact h
  | str _ => exact h
  | emp => exact h
  | any => exact h
  | agg _ => simp [CR] at h
  | tup _ => simp [CR] at h
theorem VA.ren (hok : okRen H ρ = true) {c : AV} {v : Value} (h : VA ν c v) : VA (nuR ρ ν) (renDA ρ c) v := by
  cases c with
  | agg cs => obtain ⟨arr, rfl, hF⟩ := h; exact ⟨arr, rfl, F2.map (fun _ _ h => h.ren hok) hF⟩
  | tup _ => simp [VA, CR] at h
  | ptr n o => exact VA.of_CR (CR.ren hok (c := .ptr n o) h)
  | sl n o l => exact VA.of_CR (CR.ren hok (c := .sl n o l) h)
  | mapv n => exact VA.of_CR (CR.ren hok (c := .mapv n) h)
  | fn f caps => exact VA.of_CR (CR.ren hok (c := .fn f caps) h)
  | int _ _ => exact h
  | bool _ => exact h
  | str _ => exact h
  | emp => exact h
  | any => exact h
theorem VR.ren (hok : okRen H ρ = true) {c : AV} {v : Value} (h : VR ν c v) : VR (nuR ρ ν) (renDV ρ c) v := by
  cases c with
  | tup vs => obtain ⟨arr, rfl, hF⟩ := h; exact ⟨arr, rfl, F2.map (fun _ _ h => h.ren hok) hF⟩
  | any => trivial
  | agg cs => exact VA.ren hok (c := .agg cs) h
  | ptr n o => exact (VA.ren hok (c := .ptr n o) h).vr
  | sl n o l => exact (VA.ren hok (c := .sl n o l) h).vr
  | mapv n => exact (VA.ren hok (c := .mapv n) h).vr
  | fn f caps => exact (VA.ren hok (c := .fn f caps) h).vr
  | int _ _ => exact h
  | bool _ => exact h
  | str _ => exact h
  | emp => exact h
theorem renDL_toL (ρ : Rho) (lv : LV) : (renDL ρ lv).toL = lv.toL.map (renD ρ) := by
  cases lv <;> simp [renDL, LV.toL, renD, Function.comp_def]
  rename_i l
  induction l with
  | nil => rfl
  | cons a l ih => simp [opL, renD] at ih ⊢; rw [← ih]
theorem renDL_z (ρ : Rho) (lv : LV) : (renDL ρ lv).z = lv.z := by cases lv <;> rfl

theorem selH_get (hok : okRen H ρ = true) : ∀ (r : Rho), (∀ p ∈ r, p ∈ ρ) → ∀ m e', aget (selH ρ H r) m = some e' → ∃ n o0 e, (n, (m, o0)) ∈ r ∧ aget H n = some e ∧ e' = renDE ρ o0 e
  | [], _, m, e', h => by simp [selH, aget] at h
  | (n, (j, o0)) :: r, hr, m, e', h => by
    simp only [selH] at h
    split at h
    · rename_i e he
      simp only [aget] at h
      split at h
      · rename_i hj; subst hj; cases h
        exact ⟨n, o0, e, by simp, he, rfl⟩
      · obtain ⟨n', o', e, h1, h2, h3⟩ := selH_get hok r (fun p hp => hr p (by simp [hp])) m e' h
        exact ⟨n', o', e, by simp [h1], h2, h3⟩
    · obtain ⟨n', o', e, h1, h2, h3⟩ := selH_get hok r (fun p hp => hr p (by simp [hp])) m e' h
      exact ⟨n', o', e, by simp [h1], h2, h3⟩
theorem selH_none : ∀ (r : Rho) (n m o0 : Nat), (n, (m, o0)) ∈ r → aget (selH ρ H r) m = none → aget H n = none
  | (k, (j, p0)) :: r, n, m, o0, hm, h => by
    simp only [List.mem_cons, Prod.mk.injEq] at hm
    simp only [selH] at h
    split at h
    · rename_i e he
      simp only [aget] at h
      split at h
      · cases h
      · rename_i hj
        rcases hm with ⟨rfl, rfl, rfl⟩ | hm
        · exact absurd rfl hj
        · exact selH_none r n m o0 hm h
    · rename_i he
      rcases hm with ⟨rfl, rfl, rfl⟩ | hm
      · exact he
      · exact selH_none r n m o0 hm h

theorem Inv.ren {G : Nat → Prop} {hp hp' : HP} {w : World} (hi : Inv G hp ν H w) (hok : okRen H ρ = true) (ha : hp'.wb = hp.wb) (hnb : ∀ n, hp'.B n → nuR ρ ν n = hp'.νb n ∧ aget (selH ρ H ρ) n ≠ none) :
    Inv G hp' (nuR ρ ν) (selH ρ H ρ) w := by
  have hcls := fun m e' h => selH_get hok ρ (fun _ h => h) m e' h
  have hnu : ∀ n m o0, (n, (m, o0)) ∈ ρ → nuR ρ ν m = (ν n).map (shiftL · o0) := by
    intro n m o0 h
    unfold nuR
    rw [invR_of hok h]
  refine ⟨?_, ?_, ?_, ?_, hnb, ?_, by rw [ha]; exact hi.fx⟩
  · intro m e' h
    obtain ⟨n, o0, e, h1, h2, rfl⟩ := hcls m e' h
    have he := hi.er n e h2
    have hle := (okRen_get hok h1).2
    rw [h2] at hle
    cases e with
    | dead => trivial
    | mp es =>
      simp only at hle
      subst hle
      obtain ⟨L, hL, rest⟩ := he
      exact ⟨L, by rw [hnu _ _ _ h1, hL]; simp [shift0], rest⟩
    | c own lv =>
      simp only at hle
      have key : ∀ lv', lv'.toL = (lv.toL.drop o0).map (renD ρ) → lv'.z = lv.z → ER (nuR ρ ν) w m (.c own lv') := by
        intro lv' hL' hz'
        simp only [ER] at he ⊢
        rw [hnu _ _ _ h1]
        cases hL : ν n with
        | none => rw [hL] at he; simp only [Option.map_none] at he ⊢; rw [hL', he]; simp
        | some L =>
          rw [hL] at he
          simp only [Option.map_some] at he ⊢
          obtain ⟨g0, arr, T, fr, g1, g2, g3, g4, g5⟩ := he
          rw [LV.len_eq] at g3
          refine ⟨by simp only [shiftL]; rw [g0, hz'], arr, T, fr, g1, by simp only [shiftL]; omega, by rw [hL', List.length_map, List.length_drop, LV.len_eq]; simp only [shiftL]; omega, ?_, g5⟩
          intro k hk
          rw [hL', List.length_map, List.length_drop] at hk
          obtain ⟨v, hv, c, hc, hr⟩ := g4 (o0 + k) (by omega)
          refine ⟨v, by simp only [shiftL]; rw [← hv, Nat.add_assoc], _, ?_, hr.ren hok⟩
          rw [hL', List.getElem?_map, List.getElem?_drop, hc]; rfl
      simp only [renDE]
      split
      · rename_i h0
        subst h0
        exact key _ (by rw [renDL_toL]; simp) (renDL_z _ _)
      · refine key _ ?_ (by rw [renDL_z, LV.view_z])
        rw [renDL_toL, LV.view_eq, List.take_of_length_le (by rw [List.length_drop, LV.len_eq]; exact Nat.le_refl _)]
  · intro a b x y hx hxo hy hyl hne L L' hL hL'
    obtain ⟨n, o0, e, h1, h2, rfl⟩ := hcls a x hx
    obtain ⟨n', o0', e', h1', h2', rfl⟩ := hcls b y hy
    rw [hnu _ _ _ h1] at hL
    rw [hnu _ _ _ h1'] at hL'
    have hnn : n ≠ n' := by
      rintro rfl
      have := (okRen_get hok h1).1
      rw [(okRen_get hok h1').1] at this
      cases this
      exact hne rfl
    cases hn : ν n with
    | none => rw [hn] at hL; cases hL
    | some M =>
      cases hn' : ν n' with
      | none => rw [hn'] at hL'; cases hL'
      | some M' =>
        rw [hn] at hL; rw [hn'] at hL'
        cases hL; cases hL'
        have ho : e.isOwn = true := by
          cases e <;> simp only [renDE] at hxo <;> first | exact hxo | (split at hxo <;> exact hxo)
        have hl : e'.live = true := by
          cases e' <;> first | rfl | exact hyl
        exact hi.inj n n' e e' h2 ho h2' hl hnn M M' hn hn'
  · intro m h
    unfold nuR
    split
    · rename_i n o0 hinv
      have := selH_none ρ n m o0 (invR_some hinv) h
      rw [hi.dom n this]; rfl
    · rfl
  · intro b hb; unfold HP.a; rw [ha]; exact hi.gfr b hb
  · intro m x L hx hxo hL hg
    obtain ⟨n, o0, e, h1, h2, rfl⟩ := hcls m x hx
    rw [hnu _ _ _ h1] at hL
    cases hn : ν n with
    | none => rw [hn] at hL; cases hL
    | some M =>
      rw [hn] at hL; cases hL
      have ho : e.isOwn = true := by
        cases e <;> simp only [renDE] at hxo <;> first | exact hxo | (split at hxo <;> exact hxo)
      exact hi.own n e M h2 ho hn hg
end

/-! Names given anew on the way -/
theorem Env.get_map (env : Env) (f : AV → AV) (hf : f .any = .any) (t : Nat) : Env.get (env.map fun p => (p.1, f p.2)) t = f (Env.get env t) := by
  unfold Env.get
  induction env with
  | nil => exact hf.symm
  | cons p r ih =>
    obtain ⟨k, x⟩ := p
    simp only [List.map_cons, aget]
    by_cases hk : k = t
    · simp [hk]
    · simp only [if_neg hk]; exact ih
def idOld (H : Heap) : Rho := (H.filter fun p => p.1 < 100).map fun p => (p.1, (p.1, 0))
theorem W_ren {P : Program} {nt : Nat} {ks : List It} {env : Env} {H : Heap} {R : Env → Heap → Prop} (ρ : Rho) (hok : okRen H (idOld H ++ ρ) = true)
    (h : W P nt ks (env.map fun p => (p.1, renDV (idOld H ++ ρ) p.2)) (selH (idOld H ++ ρ) H (idOld H ++ ρ)) R) : W P nt ks env H R := by
  intro hk G hp hB ν a w st
  refine h hk G hp hB (nuR (idOld H ++ ρ) ν) a w ⟨st.defers, st.size, ?_, st.inv.ren hok rfl ?_⟩
  · intro t
    have hv := st.env t
    have : Env.get (env.map fun p => (p.1, renDV (idOld H ++ ρ) p.2)) t = renDV (idOld H ++ ρ) (env.get t) := Env.get_map env (renDV _) rfl t
    rw [this]
    exact hv.ren hok
  · intro n hn
    obtain ⟨h1, h2⟩ := st.inv.nb n hn
    have hlt := hB n hn
    obtain ⟨e, he⟩ := Option.ne_none_iff_exists'.1 h2
    have hmem : (n, (n, 0)) ∈ idOld H ++ ρ := by
      refine List.mem_append_left _ (List.mem_map.2 ⟨(n, e), List.mem_filter.2 ⟨mem_of_aget he, by simpa using hlt⟩, rfl⟩)
    refine ⟨?_, fun hnone => h2 (selH_none _ _ _ _ hmem hnone)⟩
    unfold nuR
    rw [invR_of hok hmem]
    rw [← h1]
    simp only
    cases ν n with
    | none => rfl
    | some L => simp [shift0]


/-! A function's contract out of its code -/
def resOne (P : Program) (env : Env) (H : Heap) : ResultVar → Option AV
  | .tmp t => if (env.get t).fits then some (env.get t) else none
  | .cell a t => match env.get a with
    | .ptr n off => match aget H n with
      | some (.c _ lv) => if off + (tyI P t).sz ≤ lv.len then (if (tyI P t).agg then some (lv.ex off (tyI P t).sz) else if (tyI P t).sz = 1 then some (lv.lk off) else none) else none
      | _ => none
    | _ => none
def resA (P : Program) (rs : List ResultVar) (env : Env) (H : Heap) : Option AV :=
  match rs.mapM (resOne P env H) with
  | some [v] => some v
  | some vs => some (.tup vs)
  | none => none

def fillC : List Nat → List AV → List AV × List Nat
  | ns, [] => ([], ns)
  | n :: ns, .emp :: r => let q := fillC ns r; (.sl n 0 0 :: q.1, q.2)
  | ns, c :: r => let q := fillC ns r; (c :: q.1, q.2)
def fillA : List Nat → AV → AV × List Nat
  | ns, .agg cs => let q := fillC ns cs; (.agg q.1, q.2)
  | n :: ns, .emp => (.sl n 0 0, ns)
  | ns, c => (c, ns)
def fillT : List Nat → List AV → List AV
  | _, [] => []
  | ns, a :: r => let q := fillA ns a; q.1 :: fillT q.2 r
def fillV (ns : List Nat) : AV → AV
  | .tup vs => .tup (fillT ns vs)
  | c => (fillA ns c).1
theorem fillC_ok {ν : Nm} : ∀ (cs : List AV) (ns : List Nat) (vs : List Value), F2 (CR ν) cs vs → F2 (CR ν) (fillC ns cs).1 vs
  | [], ns, _, .nil => by cases ns <;> exact .nil
  | c :: cs, [], _, .cons h t => by simp only [fillC]; exact .cons h (fillC_ok cs [] _ t)
  | c :: cs, n :: ns, _, .cons h t => by
    cases c <;> simp only [fillC] <;> first | exact .cons h (fillC_ok cs _ _ t) | skip
    exact .cons (.inr ⟨rfl, h⟩) (fillC_ok cs ns _ t)
theorem fillA_ok {ν : Nm} {a : AV} {v : Value} (ns : List Nat) (h : VA ν a v) : VA ν (fillA ns a).1 v := by
  cases a with
  | agg cs =>
    obtain ⟨arr, rfl, hF⟩ := h
    have : fillA ns (.agg cs) = (.agg (fillC ns cs).1, (fillC ns cs).2) := by cases ns <;> rfl
    rw [this]
    exact ⟨arr, rfl, fillC_ok cs ns _ hF⟩
  | emp => cases ns with
    | nil => exact h
    | cons n ns => exact Or.inr ⟨rfl, h⟩
  | _ => all_goals (cases ns <;> exact h)
theorem fillT_ok {ν : Nm} : ∀ (as : List AV) (ns : List Nat) (vs : List Value), F2 (VA ν) as vs → F2 (VA ν) (fillT ns as) vs
  | [], _, _, .nil => .nil
  | a :: as, ns, _, .cons h t => by simp only [fillT]; exact .cons (fillA_ok ns h) (fillT_ok as _ _ t)
theorem fillV_ok {ν : Nm} {a : AV} {v : Value} (ns : List Nat) (h : VR ν a v) : VR ν (fillV ns a) v := by
  cases a with
  | tup vs => obtain ⟨arr, rfl, hF⟩ := h; exact ⟨arr, rfl, fillT_ok vs ns _ hF⟩
  | any => cases ns <;> trivial
  | agg cs => exact (fillA_ok ns (a := .agg cs) h).vr
  | emp => exact (fillA_ok ns (a := .emp) h).vr
  | ptr n o => exact (fillA_ok ns (a := .ptr n o) h).vr
  | sl n o l => exact (fillA_ok ns (a := .sl n o l) h).vr
  | mapv n => exact (fillA_ok ns (a := .mapv n) h).vr
  | fn f caps => exact (fillA_ok ns (a := .fn f caps) h).vr
  | int _ _ => exact (fillA_ok ns (a := .int _ _) h).vr
  | bool _ => exact (fillA_ok ns (a := .bool _) h).vr
  | str _ => exact (fillA_ok ns (a := .str _) h).vr

/-- What a return must show: the result and memory, under the contract's names. -/
def idRO (H0 : Heap) : Rho := (ros H0).map fun p => (p.1, (p.1, 0))
def rosOk (H : Heap) (ρ : Rho) : Heap → Prop
  | [] => True
  | (n, e) :: r => (e.isOwn = false → aget H n = some e ∧ renDE ρ 0 e = e) ∧ rosOk H ρ r
def tgtOk (H0 : Heap) : Rho → Bool
  | [] => true
  | (n, (m, o0)) :: r => ((100 ≤ m && m < 108) || (n == m && o0 == 0 && match aget H0 m with | some e => e.isOwn | none => false)) && tgtOk H0 r
def ownAll (H : Heap) : Rho → Bool
  | [] => true
  | (n, _) :: r => (match aget H n with | some e => e.isOwn | none => false) && ownAll H r
def empOk (ρ : Rho) : List (Nat × LV) → Bool
  | [] => true
  | (m, lv) :: r => decide (100 ≤ m) && decide (m < 108) && (lv.len == 0) && (ρ.all fun p => p.2.1 != m) && (r.all fun p => p.1 != m) && empOk ρ r
def RetP (H0 : Heap) (R : AV → Heap → Prop) (r : AV) (H : Heap) : Prop :=
  ∃ (ρ : Rho) (emps : List (Nat × LV)), okRen H (idRO H0 ++ ρ) = true ∧ rosOk H (idRO H0 ++ ρ) H0 ∧ tgtOk H0 ρ = true ∧ ownAll H ρ = true ∧ empOk ρ emps = true ∧
    R (fillV (emps.map (·.1)) (renDV (idRO H0 ++ ρ) r)) (selH (idRO H0 ++ ρ) H ρ ++ emps.map fun p => (p.1, .c true p.2))

end Go.Proofs.Ytbcnkfkmonpdeaa.S
