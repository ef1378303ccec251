/- The symbolic heap: lemmas on values, contents and the relation to a world. Own work of this claim. -/
import Derived.Test.YtbcnkfkmonpdeaaSb
namespace Go.Proofs.Ytbcnkfkmonpdeaa.S
set_option linter.all false
open Go

theorem F2.imp {α β : Type} {R S : α → β → Prop} (h : ∀ a b, R a b → S a b) : ∀ {l : List α} {m : List β}, F2 R l m → F2 S l m
  | _, _, .nil => .nil
  | _, _, .cons a t => .cons (h _ _ a) (t.imp h)
theorem F2.length {α β : Type} {R : α → β → Prop} : ∀ {l : List α} {m : List β}, F2 R l m → l.length = m.length
  | _, _, .nil => rfl
  | _, _, .cons _ t => congrArg (· + 1) t.length
theorem F2.get {α β : Type} {R : α → β → Prop} : ∀ {l : List α} {m : List β}, F2 R l m → ∀ {i : Nat} {a : α}, l[i]? = some a → ∃ b, m[i]? = some b ∧ R a b
  | _, _, .nil, _, _, h => by simp at h
  | _, _, .cons r t, 0, _, h => by simp at h; subst h; exact ⟨_, rfl, r⟩
  | _, _, .cons r t, i + 1, _, h => by simp at h; simpa using t.get h
theorem F2.append {α β : Type} {R : α → β → Prop} {l' : List α} {m' : List β} : ∀ {l : List α} {m : List β}, F2 R l m → F2 R l' m' → F2 R (l ++ l') (m ++ m')
  | _, _, .nil, h' => h'
  | _, _, .cons r t, h' => .cons r (t.append h')
theorem F2.map {α β α' : Type} {R : α → β → Prop} {S : α' → β → Prop} {f : α → α'} (h : ∀ a b, R a b → S (f a) b) : ∀ {l : List α} {m : List β}, F2 R l m → F2 S (l.map f) m
  | _, _, .nil => .nil
  | _, _, .cons r t => .cons (h _ _ r) (t.map h)
theorem F2.mapr {α β γ : Type} {R : α → β → Prop} {f : γ → α} {g : γ → β} (h : ∀ c, R (f c) (g c)) : ∀ (l : List γ), F2 R (l.map f) (l.map g)
  | [] => .nil
  | c :: l => .cons (h c) (mapr h l)
theorem F2.of_get {α β : Type} {R : α → β → Prop} : ∀ {l : List α} {m : List β}, l.length = m.length → (∀ (i : Nat) a b, l[i]? = some a → m[i]? = some b → R a b) → F2 R l m
  | [], [], _, _ => .nil
  | [], _ :: _, h, _ => by simp at h
  | _ :: _, [], h, _ => by simp at h
  | a :: l, b :: m, h, hr => .cons (hr 0 a b rfl rfl) (F2.of_get (by simpa using h) fun i x y hx hy => hr (i + 1) x y (by simpa using hx) (by simpa using hy))
theorem F2.take {α β : Type} {R : α → β → Prop} : ∀ {l : List α} {m : List β} (n : Nat), F2 R l m → F2 R (l.take n) (m.take n)
  | _, _, 0, _ => by simp; exact .nil
  | _, _, _ + 1, .nil => by simp; exact .nil
  | _, _, n + 1, .cons r t => by simp; exact .cons r (t.take n)
theorem F2.drop {α β : Type} {R : α → β → Prop} : ∀ {l : List α} {m : List β} (n : Nat), F2 R l m → F2 R (l.drop n) (m.drop n)
  | _, _, 0, h => by simpa using h
  | _, _, _ + 1, .nil => by simp; exact .nil
  | _, _, n + 1, .cons r t => by simpa using t.drop n

/-! More names -/
def Keeps (ν ν' : Nm) : Prop := ∀ n L, ν n = some L → ν' n = some L
theorem Keeps.refl (ν : Nm) : Keeps ν ν := fun _ _ h => h
theorem Keeps.trans {a b c : Nm} (h : Keeps a b) (h' : Keeps b c) : Keeps a c := fun n L x => h' n L (h n L x)
theorem PR.keeps {ν ν' : Nm} (k : Keeps ν ν') {p : Nat × Nat} {v : Value} (h : PR ν p v) : PR ν' p v := let ⟨L, a, b⟩ := h; ⟨L, k _ _ a, b⟩
theorem CR.keeps {ν ν' : Nm} (k : Keeps ν ν') {c : AV} {v : Value} (h : CR ν c v) : CR ν' c v := by
  cases c <;> simp only [CR] at h ⊢ <;> first | exact h | skip
  case ptr => exact h.keeps k
  case sl =>
    rcases h with ⟨L, c, a, b⟩ | h
    · exact .inl ⟨L, c, k _ _ a, b⟩
    · exact .inr h
  case mapv => obtain ⟨L, a, b⟩ := h; exact ⟨L, k _ _ a, b⟩
  case fn => obtain ⟨arr, a, b⟩ := h; exact ⟨arr, a, b.imp fun _ _ => PR.keeps k⟩
theorem VA.keeps {ν ν' : Nm} (k : Keeps ν ν') {c : AV} {v : Value} (h : VA ν c v) : VA ν' c v := by
  cases c <;> simp only [VA] at h ⊢ <;> first | exact h.keeps k | skip
  obtain ⟨arr, a, b⟩ := h; exact ⟨arr, a, b.imp fun _ _ => CR.keeps k⟩
theorem VR.keeps {ν ν' : Nm} (k : Keeps ν ν') {c : AV} {v : Value} (h : VR ν c v) : VR ν' c v := by
  cases c <;> simp only [VR] at h ⊢ <;> first | exact VA.keeps k h | skip
  obtain ⟨arr, a, b⟩ := h; exact ⟨arr, a, b.imp fun _ _ => VA.keeps k⟩
theorem EnvRel.keeps {ν ν' : Nm} (k : Keeps ν ν') {e : Env} {t : Array Value} (h : EnvRel ν e t) : EnvRel ν' e t := fun i => (h i).keeps k

/-! Cells of values -/
theorem CR.one {ν : Nm} {c : AV} {v : Value} (h : CR ν c v) : v.oneCell' = true := by
  cases c <;> simp only [CR, PR] at h
  case int => subst h; rfl
  case bool => subst h; rfl
  case str => subst h; rfl
  case ptr => obtain ⟨_, _, rfl⟩ := h; rfl
  case sl => rcases h with ⟨_, _, _, _, _, rfl⟩ | ⟨_, _, rfl⟩ <;> rfl
  case emp => obtain ⟨_, rfl⟩ := h; rfl
  case mapv => obtain ⟨_, _, rfl⟩ := h; rfl
  case fn => obtain ⟨_, rfl, _⟩ := h; rfl
  case any => exact h
theorem cells_one {v : Value} (h : v.oneCell' = true) : v.cells = #[v] := by cases v <;> first | rfl | simp [Value.oneCell'] at h
theorem VA.cells {ν : Nm} {a : AV} {v : Value} (h : VA ν a v) : F2 (CR ν) (cellsOf a) v.cells.toList := by
  cases a with
  | agg cs => obtain ⟨arr, rfl, b⟩ := h; exact b
  | tup cs => simp [VA, CR] at h
  | _ => simp only [VA] at h; rw [cells_one (CR.one h)]; exact .cons h .nil
theorem VR.fits {ν : Nm} {a : AV} {v : Value} (h : VR ν a v) (hf : a.fits = true) : VA ν a v := by
  cases a <;> first | exact h | simp [AV.fits] at hf
theorem VA.vr {ν : Nm} {a : AV} {v : Value} (h : VA ν a v) : VR ν a v := by
  cases a <;> first | exact h | trivial | (simp [VA, CR] at h)

/-! Constants -/
theorem cvc_ok (ν : Nm) (v : Value) (h : v.oneCell' = true) : CR ν (cvc v) v := by
  unfold cvc
  split <;> simp [CR, Value.oneCell'] at h ⊢ <;> first | exact h | trivial
theorem cv_ok (ν : Nm) (v : Value) : VR ν (cv v) v := by
  unfold cv
  split
  · rename_i cs
    split
    · rename_i h
      refine ⟨cs, rfl, ?_⟩
      have : F2 (CR ν) (cs.toList.map cvc) (cs.toList.map id) := by
        have hh : ∀ (l : List Value), l.all Value.oneCell' = true → F2 (CR ν) (l.map cvc) (l.map id) := by
          intro l
          induction l with
          | nil => intro _; exact .nil
          | cons a l ih => intro h; simp at h; exact .cons (cvc_ok ν a h.1) (ih (by simpa using h.2))
        exact hh _ h
      simpa using this
    · trivial
  · rename_i hv
    by_cases ho : v.oneCell' = true
    · have := cvc_ok ν v ho
      revert this
      cases cvc v <;> intro this <;> first | exact this | trivial | (simp [CR] at this)
    · cases v <;> simp [Value.oneCell'] at ho <;> first | (simp at hv; done) | (simp [cvc, VR])

/-! Contents -/
theorem LV.toL_av (z : Nat) (l : List AV) : (LV.av z l).toL = l := rfl
theorem LV.len_eq (lv : LV) : lv.toL.length = lv.len := by
  cases lv <;> simp [LV.toL, LV.len]
  rename_i l
  induction l with
  | nil => rfl
  | cons a l ih => simp [opL] at ih ⊢; omega
theorem opL_get (l : List (Int × Int × Int)) (k : Nat) (h : k < 3 * l.length) : (l.flatMap opL)[k]? = some ((opL (l.getD (k / 3) (0, 0, 0))).getD (k % 3) .any) := by
  induction l generalizing k with
  | nil => simp at h
  | cons a l ih =>
    by_cases hk : k < 3
    · have h1 : k / 3 = 0 := by omega
      have h2 : k % 3 = k := by omega
      rw [h1, h2]
      have : (List.flatMap opL (a :: l))[k]? = (opL a)[k]? := by
        rw [List.flatMap_cons, List.getElem?_append_left]; simpa [opL] using hk
      rw [this]
      have : k = 0 ∨ k = 1 ∨ k = 2 := by omega
      rcases this with rfl | rfl | rfl <;> simp [opL]
    · have h1 : k / 3 = (k - 3) / 3 + 1 := by omega
      have h2 : k % 3 = (k - 3) % 3 := by omega
      rw [h1, h2]
      have : (List.flatMap opL (a :: l))[k]? = (List.flatMap opL l)[k - 3]? := by
        rw [List.flatMap_cons, List.getElem?_append_right]
        · simp [opL]
        · simp [opL]; omega
      rw [this, ih (k - 3) (by simp at h; omega)]
      simp
theorem LV.lk_eq (lv : LV) (k : Nat) (h : k < lv.len) : lv.toL[k]? = some (lv.lk k) := by
  cases lv <;> simp [LV.toL, LV.len, LV.lk] at h ⊢
  case av z l => rw [List.getElem?_eq_getElem h]; simp
  case ints l => rw [List.getElem?_eq_getElem h]; simp
  case bools l => rw [List.getElem?_eq_getElem h]; simp
  case bys l => rw [List.getElem?_eq_getElem h]; simp
  case strs l => rw [List.getElem?_eq_getElem h]; simp
  case ops l => simpa using opL_get l k h
theorem opL_drop (l : List (Int × Int × Int)) (k : Nat) : (l.flatMap opL).drop (3 * k) = (l.drop k).flatMap opL := by
  induction k generalizing l with
  | zero => simp
  | succ k ih =>
    cases l with
    | nil => simp
    | cons a l =>
      have : 3 * (k + 1) = 3 * k + 3 := by omega
      rw [this, List.flatMap_cons, List.drop_succ_cons, ← ih l]
      show List.drop (3 * k + 3) ([_, _, _] ++ _) = _
      simp
theorem opL_take (l : List (Int × Int × Int)) (k : Nat) : (l.flatMap opL).take (3 * k) = (l.take k).flatMap opL := by
  induction k generalizing l with
  | zero => simp
  | succ k ih =>
    cases l with
    | nil => simp
    | cons a l =>
      have : 3 * (k + 1) = 3 * k + 3 := by omega
      rw [this, List.flatMap_cons, List.take_succ_cons, List.flatMap_cons, ← ih l]
      show List.take (3 * k + 3) ([_, _, _] ++ _) = _
      simp [opL]
theorem LV.ex_eq (lv : LV) (k n : Nat) (h : k + n ≤ lv.len) : lv.ex k n = .agg ((lv.toL.drop k).take n) := by
  cases lv <;> simp only [LV.ex]
  rename_i l
  split
  · rename_i hk
    obtain ⟨h1, rfl⟩ := hk
    simp only [LV.toL, LV.len] at h ⊢
    congr 1
    have e : k = 3 * (k / 3) := by omega
    conv => rhs; rw [e]
    rw [opL_drop]
    have : (3 : Nat) = 3 * 1 := rfl
    conv => rhs; rw [this]
    rw [opL_take]
    have hlt : k / 3 < l.length := by omega
    rw [List.drop_eq_getElem_cons (h := hlt), List.take_succ_cons, List.take_zero]
    simp [List.getD_eq_getElem?_getD, List.getElem?_eq_getElem hlt]
  · rfl
theorem LV.st_eq (lv : LV) (k : Nat) (c : AV) : (lv.st k c).toL = lv.toL.set k c := by
  unfold LV.st
  split <;> simp [LV.toL, List.map_set]
theorem LV.view_eq (lv : LV) (o n : Nat) : (lv.view o n).toL = (lv.toL.drop o).take n := by
  cases lv
  case ops l =>
   simp only [LV.view]
   by_cases h : o % 3 = 0 ∧ n % 3 = 0
   · rw [if_pos h]
     simp only [LV.toL]
     obtain ⟨h1, h2⟩ := h
     have e1 : o = 3 * (o / 3) := by omega
     have e2 : n = 3 * (n / 3) := by omega
     conv => rhs; rw [e1, e2]
     rw [opL_drop, opL_take]
   · rw [if_neg h]
     simp only [LV.toL]
  all_goals simp [LV.view, LV.toL, List.map_drop, List.map_take]
theorem LV.app_eq (a b : LV) : (a.app b).toL = a.toL ++ b.toL := by
  unfold LV.app
  split <;> simp [LV.toL]
theorem LV.app2_eq (a b : LV) : (a.app2 b).toL = a.toL ++ b.toL := by
  unfold LV.app2
  split
  · simp [LV.toL]
  · simp [LV.toL]
  · exact LV.app_eq a b
theorem LV.st_z (lv : LV) (k : Nat) (c : AV) : (lv.st k c).z = lv.z := by
  unfold LV.st
  split <;> rfl
theorem LV.view_z (lv : LV) (o n : Nat) : (lv.view o n).z = lv.z := by
  cases lv
  case ops l =>
    simp only [LV.view]
    by_cases h : o % 3 = 0 ∧ n % 3 = 0
    · rw [if_pos h]; rfl
    · rw [if_neg h]; rfl
  all_goals rfl
theorem LV.app_z (a b : LV) : (a.app b).z = a.z := by
  unfold LV.app
  split <;> rfl
theorem LV.app2_z (a b : LV) (h : a.z = b.z) : (a.app2 b).z = a.z := by
  unfold LV.app2
  split
  · exact h.symm
  · rfl
  · exact LV.app_z a b
theorem stAll_z : ∀ (cs : List AV) (lv : LV) (k : Nat), (stAll lv k cs).z = lv.z
  | [], _, _ => rfl
  | c :: r, lv, k => by rw [stAll, stAll_z r, LV.st_z]
theorem stAll_eq : ∀ (cs : List AV) (lv : LV) (k : Nat), (stAll lv k cs).toL = (cs.zipIdx k).foldl (fun l p => l.set p.2 p.1) lv.toL
  | [], _, _ => rfl
  | c :: r, lv, k => by
    simp only [stAll, List.zipIdx_cons, List.foldl_cons]
    rw [stAll_eq r, LV.st_eq]
theorem allInts_eq : ∀ (l : List AV) (z : List Int), allInts l = some z → z.map (AV.int .i64) = l := by
  intro l
  induction l with
  | nil => intro z h; simp [allInts] at h; subst h; rfl
  | cons a l ih =>
    intro z h
    unfold allInts at h
    split at h
    · simp at *
    · rename_i n r he
      simp at he
      obtain ⟨rfl, rfl⟩ := he
      simp at h
      obtain ⟨z', h1, rfl⟩ := h
      simp [ih z' h1]
    · simp at h
theorem allBools_eq : ∀ (l : List AV) (z : List Bool), allBools l = some z → z.map AV.bool = l := by
  intro l
  induction l with
  | nil => intro z h; simp [allBools] at h; subst h; rfl
  | cons a l ih =>
    intro z h
    unfold allBools at h
    split at h
    · simp at *
    · rename_i n r he
      simp at he
      obtain ⟨rfl, rfl⟩ := he
      simp at h
      obtain ⟨z', h1, rfl⟩ := h
      simp [ih z' h1]
    · simp at h
theorem allStrs_eq : ∀ (l : List AV) (z : List ByteArray), allStrs l = some z → z.map AV.str = l := by
  intro l
  induction l with
  | nil => intro z h; simp [allStrs] at h; subst h; rfl
  | cons a l ih =>
    intro z h
    unfold allStrs at h
    split at h
    · simp at *
    · rename_i n r he
      simp at he
      obtain ⟨rfl, rfl⟩ := he
      simp at h
      obtain ⟨z', h1, rfl⟩ := h
      simp [ih z' h1]
    · simp at h
theorem allBytes_eq : ∀ (l : List AV) (z : List UInt8), allBytes l = some z → (z.map fun b => AV.int .u8 b.toNat) = l := by
  intro l
  induction l with
  | nil => intro z h; simp [allBytes] at h; subst h; rfl
  | cons a l ih =>
    intro z h
    unfold allBytes at h
    split at h
    · simp at *
    · rename_i n r he
      simp at he
      obtain ⟨rfl, rfl⟩ := he
      split at h
      · rename_i hn
        simp at h
        obtain ⟨z', h1, rfl⟩ := h
        simp [ih z' h1]
        have : n.toNat % 256 = n.toNat := by omega
        omega
      · simp at h
    · simp at h
theorem allOps_eq : ∀ (n : Nat) (l : List AV), l.length ≤ n → ∀ (z : List (Int × Int × Int)), allOps l = some z → z.flatMap opL = l := by
  intro n
  induction n with
  | zero => intro l hl z h; cases l with
    | nil => simp [allOps] at h; subst h; rfl
    | cons a l => simp at hl
  | succ n ih =>
    intro l hl z h
    unfold allOps at h
    split at h
    · simp at h; subst h; rfl
    · simp at h
      obtain ⟨z', h1, rfl⟩ := h
      simp at hl
      simp [ih _ (by omega) z' h1, opL]
    · simp at h
theorem LV.mk_eq (ek z : Nat) (l : List AV) : (LV.mk ek z l).toL = l := by
  unfold LV.mk
  split
  · split
    · rename_i h; exact allInts_eq l _ h
    · rfl
  · split
    · rename_i h; exact allBools_eq l _ h
    · rfl
  · split
    · rename_i h; exact allBytes_eq l _ h
    · rfl
  · split
    · rename_i h; exact allStrs_eq l _ h
    · rfl
  · split
    · rename_i h; exact allOps_eq _ l (Nat.le_refl _) _ h
    · rfl
  · rfl

end Go.Proofs.Ytbcnkfkmonpdeaa.S
