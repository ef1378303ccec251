/- The symbolic heap: a region's steps, reckoned value by value. Own work of this claim. -/
import Derived.Test.YtbcnkfkmonpdeaaSo
namespace Go.Proofs.Ytbcnkfkmonpdeaa.S
set_option linter.all false
open Go

/-- Memory as a look-up, operands as their values. -/
def srcG (g : Nat → Option Ent) (sz : Nat) : AV → Option (Prop × LV)
  | .emp => some (True, .av sz [])
  | .sl n o len => match g n with
    | some (.c _ lv) => some (o + len * sz ≤ lv.len ∧ lv.z = sz, lv.view o (len * sz))
    | _ => none
  | _ => none
def baseG (g : Nat → Option Ent) (sz : Nat) : AV → Option (Prop × LV × Option Nat)
  | .emp => some (True, .av sz [], none)
  | .sl n o len => match g n with
    | some (.c true lv) => some (o + len * sz = lv.len ∧ lv.z = sz, lv.view o (len * sz), some n)
    | _ => none
  | _ => none
theorem srcG_eq {H : Heap} {sz : Nat} {a : AV} {c : Prop} {lv : LV} (h : srcG (aget H) sz a = some (c, lv)) (hc : c) : srcOf H sz a = some lv := by
  cases a <;> simp only [srcG, srcOf, Option.some.injEq, Prod.mk.injEq, reduceCtorEq] at h ⊢
  case sl n o len =>
    split at h
    · rename_i hh
      cases h
      simp only [hh]
      rw [if_pos hc]
    · cases h
  case emp => exact h.2
theorem baseG_eq {H : Heap} {sz : Nat} {a : AV} {c : Prop} {q : LV × Option Nat} (h : baseG (aget H) sz a = some (c, q)) (hc : c) : baseOf H sz a = some q := by
  cases a <;> simp only [baseG, baseOf, Option.some.injEq, Prod.mk.injEq, reduceCtorEq] at h ⊢
  case sl n o len =>
    split at h
    · rename_i hh
      cases h
      simp only [hh]
      rw [if_pos hc]
    · cases h
  case emp => exact h.2
def killD : Option Nat → List (Nat × Ent)
  | some n => [(n, .dead)]
  | none => []
def setsH {β : Type} (H : List (Nat × β)) : List (Nat × β) → List (Nat × β)
  | [] => H
  | (t, v) :: r => setsH (aset H t v) r
/-- What an operation comes to. -/
inductive Res where
  | ok (ob : Prop) (v : AV) (d : List (Nat × Ent))
  | pick (b : Bool) (x y : AV)
  | call (g : Nat) (args : List AV)
  | nilc (n : Nat) (neg : Bool)
  | bad
def rInt (op : BinOp) (k : IntKind) (x y : Int) : Res :=
  match op with
  | .add => .ok True (.int k (k.wrap (x + y))) []
  | .sub => .ok True (.int k (k.wrap (x - y))) []
  | .mul => .ok True (.int k (k.wrap (x * y))) []
  | .quo => .ok (y ≠ 0) (.int k (k.wrap (x.tdiv y))) []
  | .rem => .ok (y ≠ 0) (.int k (x.tmod y)) []
  | .and => .ok True (.int k (k.wrap (BitVec.ofInt k.bits x &&& BitVec.ofInt k.bits y).toNat)) []
  | .or => .ok True (.int k (k.wrap (BitVec.ofInt k.bits x ||| BitVec.ofInt k.bits y).toNat)) []
  | .xor => .ok True (.int k (k.wrap (BitVec.ofInt k.bits x ^^^ BitVec.ofInt k.bits y).toNat)) []
  | .eql => .ok True (.bool (decide (x = y))) []
  | .neq => .ok True (.bool (!decide (x = y))) []
  | .lss => .ok True (.bool (decide (x < y))) []
  | .leq => .ok True (.bool (decide (x ≤ y))) []
  | .gtr => .ok True (.bool (decide (y < x))) []
  | .geq => .ok True (.bool (decide (y ≤ x))) []
  | _ => .bad
def rStr (op : BinOp) (x y : ByteArray) : Res :=
  match op with
  | .add => .ok (x.size + y.size < lim40) (.str (x ++ y)) []
  | .eql => .ok True (.bool (x.toList == y.toList)) []
  | .neq => .ok True (.bool (!(x.toList == y.toList))) []
  | _ => .bad
def rBin (P : Program) (op : BinOp) (t : TypeId) (x y : AV) : Res :=
  match x, y with
  | .int k a, .int k' b => if k = k' then rInt op k a b else .bad
  | .str a, .str b => rStr op a b
  | .bool a, .bool b => match (tyI P t).tk, op with
    | .bool, .eql => .ok True (.bool (a == b)) []
    | .bool, .neq => .ok True (.bool (!(a == b))) []
    | _, _ => .bad
  | _, _ => .bad
def rNil (P : Program) (op : BinOp) (t : TypeId) (x : AV) : Res :=
  match (tyI P t).tk, x, op with
  | .slice _, .sl _ _ n, .eql => .nilc n false
  | .slice _, .sl _ _ n, .neq => .nilc n true
  | .slice _, .emp, .eql => .nilc 0 false
  | .slice _, .emp, .neq => .nilc 0 true
  | _, _, _ => .bad
def rLoad (ti : TI) (g : Nat → Option Ent) (a : AV) : Res :=
  match a with
  | .ptr n off => match g n with
    | some (.c _ lv) => if ti.agg then .ok (off + ti.sz ≤ lv.len) (lv.ex off ti.sz) [] else .ok (off + ti.sz ≤ lv.len ∧ ti.sz = 1) (lv.lk off) []
    | _ => .bad
  | _ => .bad
def rStore (ti : TI) (g : Nat → Option Ent) (a x : AV) : Res :=
  match a with
  | .ptr n off => match g n with
    | some (.c true lv) => .ok (x.fits = true ∧ 0 < ti.sz ∧ (cellsOf x).length = ti.sz ∧ off + ti.sz ≤ lv.len) (.tup []) [(n, .c true (stAll lv off (cellsOf x)))]
    | _ => .bad
  | _ => .bad
def rSlice (P : Program) (g : Nat → Option Ent) (t : TypeId) (x : AV) (lo hi mx : Option (Option Int)) : Res :=
  match (tyI P t).tk, x, lo, hi, mx with
  | .str, .str s, some lo, some hi, some none =>
    .ok (0 ≤ lo.getD 0 ∧ lo.getD 0 ≤ hi.getD s.size ∧ hi.getD s.size ≤ s.size) (.str (s.extract (lo.getD 0).toNat (hi.getD s.size).toNat)) []
  | .slice e, .sl n o len, some lo, some hi, some none => match g n with
    | some (.c _ lv) => .ok ((lv.z = (tyI P e).sz ∧ 0 < (tyI P e).sz) ∧ 0 ≤ lo.getD 0 ∧ lo.getD 0 ≤ hi.getD len ∧ hi.getD len ≤ len) (.sl n (o + (lo.getD 0).toNat * (tyI P e).sz) ((hi.getD len).toNat - (lo.getD 0).toNat)) []
    | _ => .bad
  | .slice e, .sl _ _ _, some (some 0), some (some 0), some (some 0) => .ok (0 < (tyI P e).sz) .emp []
  | .slice e, .emp, some lo, some hi, some none => .ok (0 < (tyI P e).sz ∧ lo.getD 0 = 0 ∧ hi.getD 0 = 0) .emp []
  | .slice e, .emp, some (some 0), some (some 0), some (some 0) => .ok (0 < (tyI P e).sz) .emp []
  | _, _, _, _, _ => .bad
def rAppend (P : Program) (nm : Nat) (g : Nat → Option Ent) (t : TypeId) (s x : AV) : Res :=
  match (tyI P t).tk with
  | .slice e => match baseG g (tyI P e).sz s, srcG g (tyI P e).sz x, lenOf? s, lenOf? x with
    | some (c1, lb, n), some (c2, lx), some a, some b =>
      .ok (c1 ∧ c2 ∧ g nm = none ∧ a + b < lim40 ∧ 0 < (tyI P e).sz ∧ (tyI P e).zero.length = (tyI P e).sz ∧ (tyI P e).bytes ≤ 120 ∧ apartO n x = true)
        (.sl nm 0 (a + b)) (killD n ++ [(nm, .c true (lb.app2 lx))])
    | _, _, _, _ => .bad
  | _ => .bad
def rMake (P : Program) (nm : Nat) (g : Nat → Option Ent) (t : TypeId) (s x : AV) : Res :=
  match (tyI P t).tk, s, x with
  | .slice e, .emp, .int .i64 n => .ok (g nm = none ∧ 0 ≤ n ∧ n < lim40 ∧ 0 < (tyI P e).sz ∧ (tyI P e).zero.length = (tyI P e).sz ∧ (tyI P e).bytes ≤ 120 ∧ (LV.rep (tyI P e).ek (tyI P e).sz n.toNat (tyI P e).zero).z = (tyI P e).sz)
        (.sl nm 0 n.toNat) [(nm, .c true (LV.rep (tyI P e).ek (tyI P e).sz n.toNat (tyI P e).zero))]
  | _, _, _ => .bad
def isInt : TK → Bool
  | .int _ => true
  | _ => false
def optG (ρ : Operand → AV) : Option Operand → Option (Option Int)
  | none => some none
  | some x => match ρ x with
    | .int _ n => some (some n)
    | _ => none
theorem optG_eq (env : Env) (x : Option Operand) : optG (ev env) x = optInt env x := by cases x <;> rfl
def isSlice : TK → Bool
  | .slice _ => true
  | _ => false
def rLen (tk : Option TK) (x : Option AV) : Res :=
  match tk, x with
  | some (.slice _), some (.sl _ _ n) => .ok True (.int .i64 n) []
  | some (.slice _), some .emp => .ok True (.int .i64 0) []
  | some .str, some (.str s) => .ok True (.int .i64 s.size) []
  | _, _ => .bad
def rCall (P : Program) (nm : Nat) (g : Nat → Option Ent) (c : Call) (ρ : Operand → AV) : Res :=
  match c.callee with
  | .builtin .len => rLen ((c.argTypes[0]?).map fun t => (tyI P t).tk) ((c.args[0]?).map (ρ))
  | .builtin .cap => match (c.argTypes[0]?).map fun t => (tyI P t).tk, (c.args[0]?).map (ρ) with
    | some (.slice _), some .emp => .ok True (.int .i64 0) []
    | _, _ => .bad
  | .builtin .append => match c.argTypes[0]?, c.argTypes[1]?, (c.args[0]?).map (ρ), (c.args[1]?).map (ρ) with
    | some t, some t2, some s, some x => if isSlice (tyI P t2).tk then rAppend P nm g t s x else if isInt (tyI P t2).tk then rMake P nm g t s x else .bad
    | _, _, _, _ => .bad
  | .value f => match ρ f with
    | .fn g caps => .call g ((c.args.toList.map (ρ)) ++ caps.map fun p => AV.ptr p.1 p.2)
    | _ => .bad
  | _ => .bad
def res (P : Program) (nm : Nat) (o : Oper) (ρ : Operand → AV) (g : Nat → Option Ent) : Res :=
  match o.op with
  | .move x => .ok True (ρ x) []
  | .assign x => .ok True (ρ x) []
  | .pick c a b => match ρ c with
    | .bool t => .pick t (ρ a) (ρ b)
    | _ => .bad
  | .alloc t => .ok (g nm = none ∧ 0 < (tyI P t).sz ∧ (tyI P t).zero.length = (tyI P t).sz) (.ptr nm 0) [(nm, (.c true (.av 1 (tyI P t).zero)))]
  | .box _ x => .ok (g nm = none ∧ (ρ x).fits = true) (.ptr nm 0) [(nm, (.c true (.av 1 (cellsOf (ρ x)))))]
  | .build t parts => match sBuild (tyI P t) (parts.toList.map fun p => (p.1, ρ p.2)) with
    | some cs => .ok (0 < (tyI P t).sz ∧ (tyI P t).zero.length = (tyI P t).sz) (.agg cs) []
    | none => .bad
  | .buildSlice t len parts => match (tyI P t).tk with
    | .slice e => .ok (g nm = none ∧ parts.size = len ∧ len * (tyI P e).sz ≤ 16777216 ∧ 0 < (tyI P e).sz ∧ (tyI P e).zero.length = (tyI P e).sz ∧ partsIn 0 (parts.toList.map fun p => (p.1, ρ p.2)) = true ∧
        (parts.toList.all fun p => (cellsOf (ρ p.2)).length == (tyI P e).sz) = true ∧
        (LV.mk (tyI P e).ek (tyI P e).sz (parts.toList.flatMap fun p => cellsOf (ρ p.2))).z = (tyI P e).sz)
        (.sl nm 0 len) [(nm, (.c true (LV.mk (tyI P e).ek (tyI P e).sz (parts.toList.flatMap fun p => cellsOf (ρ p.2)))))]
    | _ => .bad
  | .load t a => rLoad (tyI P t) g (ρ a)
  | .store t a x => rStore (tyI P t) g (ρ a) (ρ x)
  | .nilCheck x => match ρ x with
    | .ptr n o => .ok True (.ptr n o) []
    | .fn f caps => .ok True (.fn f caps) []
    | _ => .bad
  | .binOp op t x y _ => if isNil y then rNil P op t (ρ x) else rBin P op t (ρ x) (ρ y)
  | .unOp op _ x => match op, ρ x with
    | .not, .bool b => .ok True (.bool !b) []
    | .neg, .int k n => .ok True (.int k (k.wrap (0 - n))) []
    | _, _ => .bad
  | .convert src dst x => match (tyI P src).tk, (tyI P dst).tk, ρ x with
    | .int _, .int k, .int _ n => .ok True (.int k (k.wrap n)) []
    | .slice e, .str, x => match srcG g 1 x with
      | some (c, .bys l) => .ok (c ∧ (tyI P e).tk = .int .u8) (.str ⟨l.toArray⟩) []
      | _ => .bad
    | _, _, _ => .bad
  | .makeFunc (.func f) first caps => match caps.toList.mapM (fun x => match ρ x with | .ptr n o => some (n, o) | _ => none) with
    | some ps => .ok (first.size = 0) (.fn f ps) []
    | none => .bad
  | .makeSlice t l c => match (tyI P t).tk, ρ l, ρ c with
    | .slice e, .int .i64 n, .int .i64 m => .ok (g nm = none ∧ 0 ≤ n ∧ n < lim40 ∧ m = n ∧ 0 < (tyI P e).sz ∧ (tyI P e).zero.length = (tyI P e).sz ∧ (tyI P e).bytes ≤ 120 ∧ (LV.rep (tyI P e).ek (tyI P e).sz n.toNat (tyI P e).zero).z = (tyI P e).sz)
        (.sl nm 0 n.toNat) [(nm, (.c true (LV.rep (tyI P e).ek (tyI P e).sz n.toNat (tyI P e).zero)))]
    | _, _, _ => .bad
  | .slice t x lo hi mx => rSlice P g t (ρ x) (optG ρ lo) (optG ρ hi) (optG ρ mx)
  | .fieldAddr s x f => match (tyI P s).tk, ρ x with
    | .struct fs, .ptr n off => match fs[f]? with
      | some (o, sz) => .ok (sz ≠ 0) (.ptr n (off + o)) []
      | none => .bad
    | _, _ => .bad
  | .indexAddr t x i => match (tyI P t).tk, ρ x, ρ i with
    | .slice e, .sl n o len, .int _ j => .ok (0 < (tyI P e).sz ∧ 0 ≤ j ∧ j < len) (.ptr n (o + j.toNat * (tyI P e).sz)) []
    | _, _, _ => .bad
  | .index t x i => match (tyI P t).tk, ρ x, ρ i with
    | .str, .str s, .int _ j => .ok (0 ≤ j ∧ j < s.size) (.int .u8 (s.data.getD j.toNat 0).toNat) []
    | _, _, _ => .bad
  | .extract t i => match ρ t with
    | .tup vs => match vs[i]? with
      | some v => .ok (v.fits = true) v []
      | none => .bad
    | _ => .bad
  | .call c => rCall P nm g c ρ
  | .field t x f => match fldI P t f, ρ x with
    | some o, .agg cs => match cs[o]? with
      | some v => .ok (v.fits = true) v []
      | none => .bad
    | _, _ => .bad
  | _ => .bad

/-- What a step's outcome asks of what follows. -/
def Res.to (call : CallT) (nm : Nat) (H : Heap) (K : Kt) : Res → Prop
  | .ok ob v d => ob ∧ K v (setsH H d)
  | .pick b x y => (b = true → K x H) ∧ (b = false → K y H)
  | .call g args => call g args H nm K
  | .nilc n neg => ∀ r : Bool, (r = !neg → n = 0) → K (.bool r) H
  | .bad => False

theorem rInt_ok {call : CallT} {nm : Nat} {op : BinOp} {k : IntKind} {x y : Int} {H : Heap} {K : Kt} (h : (rInt op k x y).to call nm H K) : sInt op k x y fun v => K v H := by
  cases op <;> simp only [rInt, Res.to, setsH, true_and] at h <;> exact h
theorem rStr_ok {call : CallT} {nm : Nat} {op : BinOp} {x y : ByteArray} {H : Heap} {K : Kt} (h : (rStr op x y).to call nm H K) : sStr op x y fun v => K v H := by
  cases op <;> simp only [rStr, Res.to, setsH, true_and] at h <;> exact h
theorem rLoad_ok {call : CallT} {nm : Nat} {ti : TI} {H : Heap} {a : AV} {K : Kt} (h : (rLoad ti (aget H) a).to call nm H K) : sLoad ti H a fun v => K v H := by
  unfold rLoad at h; unfold sLoad
  cases a
  case ptr n off =>
    simp only at h ⊢
    generalize hx : aget H n = x at h ⊢
    rcases x with _ | e
    · exact h.elim
    · cases e
      case c own lv =>
        simp only at h ⊢
        cases hb : ti.agg
        · rw [hb] at h; simp only [Bool.false_eq_true, if_false] at h ⊢; exact ⟨h.1.1, h.1.2, h.2⟩
        · rw [hb] at h; simp only [if_true] at h ⊢; exact h
      all_goals exact h.elim
  all_goals exact h.elim
theorem rStore_ok {call : CallT} {nm : Nat} {ti : TI} {H : Heap} {a x : AV} {K : Kt} (h : (rStore ti (aget H) a x).to call nm H K) : sStore ti H a x fun H' => K (.tup []) H' := by
  unfold rStore at h; unfold sStore
  cases a
  case ptr n off =>
    simp only at h ⊢
    generalize hx : aget H n = y at h ⊢
    rcases y with _ | e
    · exact h.elim
    · cases e
      case c own lv =>
        cases own
        · exact h.elim
        · obtain ⟨⟨a1, a2, a3, a4⟩, a5⟩ := h
          exact ⟨a1, a2, a3, a4, a5⟩
      all_goals exact h.elim
  all_goals exact h.elim
theorem rBin_ok {P : Program} {call : CallT} {nm : Nat} {op : BinOp} {t : TypeId} {x y : AV} {H : Heap} {K : Kt} (h : (rBin P op t x y).to call nm H K) : sBin P op t x y fun v => K v H := by
  unfold rBin at h; unfold sBin
  cases x <;> cases y <;> first | exact h.elim | skip
  case int.int k a k' b =>
    simp only at h ⊢
    split at h
    · rename_i hk; exact ⟨hk, rInt_ok h⟩
    · exact h.elim
  case bool.bool a b =>
    simp only at h ⊢
    generalize (tyI P t).tk = z at h ⊢
    cases z <;> first | exact h.elim | skip
    cases op <;> first | exact h.elim | exact h.2
  case str.str a b => exact rStr_ok h
theorem res_stp {P : Program} {call : CallT} {nm : Nat} {o : Oper} {env : Env} {H : Heap} {K : Kt} (h : (res P nm o (ev env) (aget H)).to call nm H K) : stp P call nm o env H K := by
  unfold res at h
  unfold stp
  split at h
  case h_23 => exact h.elim
  all_goals (rename_i ho; rw [ho]; simp only)
  case h_1 => simpa [Res.to, setsH] using h
  case h_2 => simpa [Res.to, setsH] using h
  case h_3 => split at h <;> simp_all [Res.to, setsH]
  case h_4 => exact h
  case h_5 => exact h
  case h_6 => split at h <;> simp_all [Res.to, setsH]
  case h_7 => split at h <;> first | (rename_i hh; simp only [hh]; exact h) | exact h.elim
  case h_8 => exact rLoad_ok h
  case h_9 => exact rStore_ok h
  case h_10 => split at h <;> simp_all [Res.to, setsH]
  case h_11 =>
    split at h
    · rename_i hn
      rw [if_pos hn]
      unfold rNil at h; unfold sNil
      split at h <;> simp_all [Res.to, setsH]
    · rename_i hn
      rw [if_neg hn]
      exact rBin_ok h
  case h_12 => unfold sUn; split at h <;> simp_all [Res.to, setsH]
  case h_13 =>
    split at h
    · rename_i h1 h2 h3; simp only [h1, h2, h3]; simpa [Res.to, setsH] using h
    · rename_i h1 h2
      simp only [h1, h2]
      split at h
      · rename_i h3; simp only [srcG_eq h3 h.1.1]; exact ⟨h.1.2, h.2⟩
      · exact h.elim
    · exact h.elim
  case h_14 =>
    split at h
    · rename_i hh; refine ⟨h.1, ?_⟩
      split
      · rename_i h'; have e := hh.symm.trans h'; cases e; exact h.2
      · rename_i h'; have e := hh.symm.trans h'; cases e
    · exact h.elim
  case h_15 => split at h <;> first | (rename_i h1 h2 h3; simp only [h1, h2, h3]; exact h) | exact h.elim
  case h_16 =>
    unfold rSlice at h; unfold sSlice
    simp only [optG_eq] at h
    split at h
    · rename_i h1 h2 h3 h4 h5; simp only [h1, h2, h3, h4, h5]; exact h
    · rename_i h1 h2 h3 h4 h5
      split at h
      · rename_i hh; simp only [h1, h2, h3, h4, h5, hh]; exact ⟨h.1.1, h.1.2, h.2⟩
      · exact h.elim
    · rename_i h1 h2 h3 h4 h5; simp only [h1, h2, h3, h4, h5]; exact h
    · rename_i h1 h2 h3 h4 h5; simp only [h1, h2, h3, h4, h5]; exact h
    · rename_i h1 h2 h3 h4 h5; simp only [h1, h2, h3, h4, h5]; exact h
    · exact h.elim
  case h_17 =>
    split at h
    · rename_i h1 h2
      simp only [h1, h2]
      split at h
      · rename_i h3; simp only [h3]; exact h
      · exact h.elim
    · exact h.elim
  case h_18 => split at h <;> first | (rename_i h1 h2 h3; simp only [h1, h2, h3]; exact h) | exact h.elim
  case h_19 => split at h <;> first | (rename_i h1 h2 h3; simp only [h1, h2, h3]; exact h) | exact h.elim
  case h_20 =>
    split at h
    · rename_i h1
      simp only [h1]
      split at h
      · rename_i h3; simp only [h3]; exact h
      · exact h.elim
    · exact h.elim
  case h_21 =>
    unfold rCall at h; unfold sCall
    split at h
    · rename_i hc; simp only [hc]
      unfold rLen at h
      split at h <;> first | (rename_i h1 h2; simp only [h1, h2]; simpa [Res.to, setsH] using h) | exact h.elim
    · rename_i hc; simp only [hc]
      split at h <;> first | (rename_i h1 h2; simp only [h1, h2]; exact h.2) | exact h.elim
    · rename_i hc; simp only [hc]
      split at h
      · rename_i h1 h2 h3 h4
        simp only [h1, h2, h3, h4]
        split at h
        · rename_i hs
          unfold isSlice at hs
          split at hs
          · rename_i hs2; rw [hs2]; simp only
            unfold rAppend at h; unfold sAppend
            split at h
            · rename_i h5
              simp only [h5]
              split at h
              · rename_i h6 h7 h8 h9
                obtain ⟨⟨b1, b2, b3⟩, b4⟩ := h
                simp only [baseG_eq h6 b1, srcG_eq h7 b2, h8, h9]
                refine ⟨b3, ?_⟩
                rename_i n _ _ _ _
                cases n <;> exact b4
              · exact h.elim
            · exact h.elim
          · cases hs
        · split at h
          · rename_i hs
            unfold isInt at hs
            split at hs
            · rename_i hs2; rw [hs2]; simp only
              unfold rMake at h; unfold sMake
              split at h
              · rename_i h5; simp only [h5]; exact h
              · exact h.elim
            · cases hs
          · exact h.elim
      · exact h.elim
    · rename_i hc; simp only [hc]
      split at h <;> simp_all [Res.to, setsH]
    · exact h.elim


  case h_22 =>
    split at h
    · rename_i h1 h2
      simp only [h1, h2]
      split at h
      · rename_i h3; simp only [h3]; simpa [Res.to, setsH] using h
      · exact h.elim
    · exact h.elim
/-- A region, walked. -/
def rwalk (P : Program) (all : List Oper) (id : Nat) : Nat → List Oper → Env → Heap → (Env → Heap → Prop) → Prop
  | _, [], env, H, K => K env H
  | i, o :: os, env, H, K => match gA all env o with
      | some true => (match res P (nmOf id i) o (ev env) (aget H) with
          | .ok ob v d => ob ∧ rwalk P all id (i + 1) os (putc env o.dst v) (setsH H d) K
          | .pick b x y => rwalk P all id (i + 1) os (putc env o.dst (bif b then x else y)) H K
          | .call g args => callA P g args H (nmOf id i) fun v H' => rwalk P all id (i + 1) os (putc env o.dst v) H' K
          | .nilc n neg => ∀ r : Bool, (r = !neg → n = 0) → rwalk P all id (i + 1) os (putc env o.dst (.bool r)) H K
          | .bad => False)
      | some false => rwalk P all id (i + 1) os (putc env o.dst (.tup [])) H K
      | none => False
theorem callA_mono {P : Program} {g : Nat} {args : List AV} {H : Heap} {nm : Nat} {K K' : Kt} (hK : ∀ v H, K v H → K' v H) : callA P g args H nm K → callA P g args H nm K' := by
  rintro ⟨H0, args0, R, μ, h1, h2, h3, h4, h5, h6, h7, h8, h9, h⟩
  exact ⟨H0, args0, R, μ, h1, h2, h3, h4, h5, h6, h7, h8, h9, fun r H1 hr => ⟨(h r H1 hr).1, hK _ _ (h r H1 hr).2⟩⟩
theorem rwalk_reg {P : Program} {all : List Oper} {id : Nat} {K : Env → Heap → Prop} : ∀ (os : List Oper) (i : Nat) (env : Env) (H : Heap), rwalk P all id i os env H K → reg P (callA P) all id i os env H K
  | [], _, _, _, h => h
  | o :: os, i, env, H, h => by
    have one : (match res P (nmOf id i) o (ev env) (aget H) with
          | .ok ob v d => ob ∧ rwalk P all id (i + 1) os (putc env o.dst v) (setsH H d) K
          | .pick b x y => rwalk P all id (i + 1) os (putc env o.dst (bif b then x else y)) H K
          | .call g args => callA P g args H (nmOf id i) fun v H' => rwalk P all id (i + 1) os (putc env o.dst v) H' K
          | .nilc n neg => ∀ r : Bool, (r = !neg → n = 0) → rwalk P all id (i + 1) os (putc env o.dst (.bool r)) H K
          | .bad => False) → stp P (callA P) (nmOf id i) o env H fun v H' => reg P (callA P) all id (i + 1) os (putc env o.dst v) H' K := by
      intro h
      refine res_stp ?_
      unfold Res.to
      split at h
      · exact ⟨h.1, rwalk_reg os _ _ _ h.2⟩
      · rename_i b x y _
        cases b
        · exact ⟨by simp, fun _ => rwalk_reg os _ _ _ h⟩
        · exact ⟨fun _ => rwalk_reg os _ _ _ h, by simp⟩
      · exact callA_mono (fun v H h => rwalk_reg os _ _ _ h) h
      · exact fun r hr => rwalk_reg os _ _ _ (h r hr)
      · exact h.elim
    simp only [rwalk] at h
    simp only [reg]
    split at h
    · rename_i hg
      split
      · exact one h
      · rw [hg]; exact ⟨fun _ => one h, by simp⟩
    · rename_i hg
      split
      · rename_i hn; simp [gA, hn] at hg
      · rw [hg]; exact ⟨by simp, fun _ => rwalk_reg os _ _ _ h⟩
    · exact h.elim
def CallK (P : Program) (all : List Oper) (id : Nat) (i : Nat) (os : List Oper) (d : Option Tmp) (env : Env) (K : Env → Heap → Prop) (g : Nat) (args : List AV) (H : Heap) : Prop :=
  callA P g args H (nmOf id i) fun v H' => rwalk P all id (i + 1) os (putc env d v) H' K
def NilK (P : Program) (all : List Oper) (id : Nat) (i : Nat) (os : List Oper) (d : Option Tmp) (env : Env) (K : Env → Heap → Prop) (n : Nat) (neg : Bool) (H : Heap) : Prop :=
  ∀ r : Bool, (r = !neg → n = 0) → rwalk P all id (i + 1) os (putc env d (.bool r)) H K
/-- An equation that is not to be used by reckoning alone. -/
theorem hardEq {p q : Prop} (h : p = q) : p = q := propext ⟨fun x => h ▸ x, fun x => h ▸ x⟩
theorem rwalk_nil {P : Program} {all : List Oper} {id i : Nat} {env : Env} {H : Heap} {K : Env → Heap → Prop} : rwalk P all id i [] env H K = K env H := rfl
/-- An operation's outcome, kept shut till it is known. -/
def Rs (P : Program) (all : List Oper) (id : Nat) (i : Nat) (os : List Oper) (d : Option Tmp) (env : Env) (H : Heap) (K : Env → Heap → Prop) : Res → Prop
  | .ok ob v d' => ob ∧ rwalk P all id (i + 1) os (putc env d v) (setsH H d') K
  | .pick b x y => rwalk P all id (i + 1) os (putc env d (bif b then x else y)) H K
  | .call g args => CallK P all id i os d env K g args H
  | .nilc n neg => NilK P all id i os d env K n neg H
  | .bad => False
/-- A guarded operation, kept shut till its guard is known. -/
def Gd (P : Program) (all : List Oper) (id : Nat) (i : Nat) (o : Oper) (os : List Oper) (env : Env) (H : Heap) (K : Env → Heap → Prop) : Option Bool → Prop
  | some true => Rs P all id i os o.dst env H K (res P (nmOf id i) o (ev env) (aget H))
  | some false => rwalk P all id (i + 1) os (putc env o.dst (.tup [])) H K
  | none => False
section
variable {P : Program} {all : List Oper} {id i : Nat} {o : Oper} {os : List Oper} {env : Env} {H : Heap} {K : Env → Heap → Prop} {d : Option Tmp}
theorem Rs_ok {ob : Prop} {v : AV} {d' : List (Nat × Ent)} : Rs P all id i os d env H K (.ok ob v d') = (ob ∧ rwalk P all id (i + 1) os (putc env d v) (setsH H d') K) := hardEq rfl
theorem Rs_pick {b : Bool} {x y : AV} : Rs P all id i os d env H K (.pick b x y) = rwalk P all id (i + 1) os (putc env d (bif b then x else y)) H K := hardEq rfl
theorem Rs_call {g : Nat} {args : List AV} : Rs P all id i os d env H K (.call g args) = CallK P all id i os d env K g args H := hardEq rfl
theorem Rs_nilc {n : Nat} {neg : Bool} : Rs P all id i os d env H K (.nilc n neg) = NilK P all id i os d env K n neg H := hardEq rfl
theorem Gd_t : Gd P all id i o os env H K (some true) = Rs P all id i os o.dst env H K (res P (nmOf id i) o (ev env) (aget H)) := hardEq rfl
theorem Gd_f : Gd P all id i o os env H K (some false) = rwalk P all id (i + 1) os (putc env o.dst (.tup [])) H K := hardEq rfl
theorem rwalk_cons : rwalk P all id i (o :: os) env H K = (match o.guard with
    | none => Rs P all id i os o.dst env H K (res P (nmOf id i) o (ev env) (aget H))
    | some _ => Gd P all id i o os env H K (gA all env o)) := by
  apply hardEq
  cases hg : o.guard with
  | none =>
    have : gA all env o = some true := by simp [gA, hg]
    simp only [rwalk, this]
    cases res P (nmOf id i) o (ev env) (aget H) <;> rfl
  | some p =>
    simp only [rwalk]
    cases hb : gA all env o with
    | none => rfl
    | some b => cases b with
      | false => rfl
      | true =>
        simp only [Gd]
        cases res P (nmOf id i) o (ev env) (aget H) <;> rfl
end
theorem W_rw {P : Program} {nt : Nat} {ks : List It} {env : Env} {H : Heap} {R : Env → Heap → Prop} {id : Nat} {ops : Array Oper} (h : ∀ K : Env → Heap → Prop, (∀ env H, W P nt ks env H R → K env H) → rwalk P ops.toList id 0 ops.toList env H K) :
    W P nt (.code (.region id ops false) :: ks) env H R :=
  W_reg (callA_ok P) fun K hK => rwalk_reg _ _ _ _ (h K hK)

end Go.Proofs.Ytbcnkfkmonpdeaa.S
