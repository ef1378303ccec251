/- Texts of this claim's own layer, laid as one: Sq Sr Ss Su. Own work of this claim. -/
import Derived.Test.YtbobhbhgomkgpaaGreatDoorA2
import Derived.Orders
/- The symbolic heap: a region's steps, reckoned value by value. Own work of this claim. -/
namespace Go.Proofs.YtbobhbhgomkgpaaGreatDoor.S
set_option linter.all false
open Go
variable {D : Cx}

/-- Memory as a look-up, operands as their values. -/
def srcG (g : Nat → Option Ent) (sz : Nat) : AV → Option (Prop × LV)
  | .emp => some (True, .av sz [])
  | .sl n o len => match g n with
    | some (.c _ lv) => some (o + len * sz ≤ lv.len ∧ lv.z = sz, lv.view o (len * sz))
    | _ => none
  | _ => none
def baseG (g : Nat → Option Ent) (sz : Nat) : AV → Option (Prop × LV × Option Nat)
  | .emp => some (True, .av sz [], none)
  | .sl n o len => match g n with
    | some (.c true lv) => some (o + len * sz = lv.len ∧ lv.z = sz, lv.view o (len * sz), some n)
    | _ => none
  | _ => none
theorem srcG_eq {H : Heap} {sz : Nat} {a : AV} {c : Prop} {lv : LV} (h : srcG (aget H) sz a = some (c, lv)) (hc : c) : srcOf H sz a = some lv := by
  cases a <;> simp only [srcG, srcOf, Option.some.injEq, Prod.mk.injEq, reduceCtorEq] at h ⊢
  case sl n o len =>
    split at h
    · rename_i hh
      cases h
      simp only [hh]
      rw [if_pos hc]
    · cases h
  case emp => exact h.2
theorem baseG_eq {H : Heap} {sz : Nat} {a : AV} {c : Prop} {q : LV × Option Nat} (h : baseG (aget H) sz a = some (c, q)) (hc : c) : baseOf H sz a = some q := by
  cases a <;> simp only [baseG, baseOf, Option.some.injEq, Prod.mk.injEq, reduceCtorEq] at h ⊢
  case sl n o len =>
    split at h
    · rename_i hh
      cases h
      simp only [hh]
      rw [if_pos hc]
    · cases h
  case emp => exact h.2
def killD : Option Nat → List (Nat × Ent)
  | some n => [(n, .dead)]
  | none => []
def setsH {β : Type} (H : List (Nat × β)) : List (Nat × β) → List (Nat × β)
  | [] => H
  | (t, v) :: r => setsH (aset H t v) r
/-- What an operation comes to. -/
inductive Res where
  | ok (ob : Prop) (v : AV) (d : List (Nat × Ent))
  | pick (b : Bool) (x y : AV)
  | call (g : Nat) (args : List AV)
  | nilc (n : Nat) (neg : Bool)
  | bad
def rInt (op : BinOp) (k : IntKind) (x y : Int) : Res :=
  match op with
  | .add => .ok True (.int k (k.wrap (x + y))) []
  | .sub => .ok True (.int k (k.wrap (x - y))) []
  | .mul => .ok True (.int k (k.wrap (x * y))) []
  | .quo => .ok (y ≠ 0) (.int k (k.wrap (x.tdiv y))) []
  | .rem => .ok (y ≠ 0) (.int k (x.tmod y)) []
  | .and => .ok True (.int k (k.wrap (BitVec.ofInt k.bits x &&& BitVec.ofInt k.bits y).toNat)) []
  | .or => .ok True (.int k (k.wrap (BitVec.ofInt k.bits x ||| BitVec.ofInt k.bits y).toNat)) []
  | .xor => .ok True (.int k (k.wrap (BitVec.ofInt k.bits x ^^^ BitVec.ofInt k.bits y).toNat)) []
  | .eql => .ok True (.bool (decide (x = y))) []
  | .neq => .ok True (.bool (!decide (x = y))) []
  | .lss => .ok True (.bool (decide (x < y))) []
  | .leq => .ok True (.bool (decide (x ≤ y))) []
  | .gtr => .ok True (.bool (decide (y < x))) []
  | .geq => .ok True (.bool (decide (y ≤ x))) []
  | _ => .bad
def rStr (op : BinOp) (x y : ByteArray) : Res :=
  match op with
  | .add => .ok (x.size + y.size < lim40) (.str (x ++ y)) []
  | .eql => .ok True (.bool (x.toList == y.toList)) []
  | .neq => .ok True (.bool (!(x.toList == y.toList))) []
  | _ => .bad
def rBin (P : Program) (op : BinOp) (t : TypeId) (x y : AV) : Res :=
  match x, y with
  | .int k a, .int k' b => if k = k' then rInt op k a b else .bad
  | .str a, .str b => rStr op a b
  | .bool a, .bool b => match (tyI P t).tk, op with
    | .bool, .eql => .ok True (.bool (a == b)) []
    | .bool, .neq => .ok True (.bool (!(a == b))) []
    | _, _ => .bad
  | .agg cs, .agg ds => match three cs, three ds, op with
    | some a, some b, .eql => .ok (eq3Ty P t = true) (.bool (decide (a = b))) []
    | some a, some b, .neq => .ok (eq3Ty P t = true) (.bool (!decide (a = b))) []
    | _, _, _ => .bad
  | _, _ => .bad
def rNil (P : Program) (op : BinOp) (t : TypeId) (x : AV) : Res :=
  match (tyI P t).tk, x, op with
  | .slice _, .sl _ _ n, .eql => .nilc n false
  | .slice _, .sl _ _ n, .neq => .nilc n true
  | .slice _, .emp, .eql => .nilc 0 false
  | .slice _, .emp, .neq => .nilc 0 true
  | _, _, _ => .bad
def rLoad (ti : TI) (g : Nat → Option Ent) (a : AV) : Res :=
  match a with
  | .ptr n off => match g n with
    | some (.c _ lv) => if ti.agg then .ok (off + ti.sz ≤ lv.len) (lv.ex off ti.sz) [] else .ok (off + ti.sz ≤ lv.len ∧ ti.sz = 1) (lv.lk off) []
    | _ => .bad
  | _ => .bad
def rStore (ti : TI) (g : Nat → Option Ent) (a x : AV) : Res :=
  match a with
  | .ptr n off => match g n with
    | some (.c true lv) => .ok (x.fits = true ∧ 0 < ti.sz ∧ (cellsOf x).length = ti.sz ∧ off + ti.sz ≤ lv.len) (.tup []) [(n, .c true (stAll lv off (cellsOf x)))]
    | _ => .bad
  | _ => .bad
def rSlice (P : Program) (g : Nat → Option Ent) (t : TypeId) (x : AV) (lo hi mx : Option (Option Int)) : Res :=
  match (tyI P t).tk, x, lo, hi, mx with
  | .str, .str s, some lo, some hi, some none =>
    .ok (0 ≤ lo.getD 0 ∧ lo.getD 0 ≤ hi.getD s.size ∧ hi.getD s.size ≤ s.size) (.str (s.extract (lo.getD 0).toNat (hi.getD s.size).toNat)) []
  | .slice e, .sl n o len, some lo, some hi, some none => match g n with
    | some (.c _ lv) => .ok ((lv.z = (tyI P e).sz ∧ 0 < (tyI P e).sz) ∧ 0 ≤ lo.getD 0 ∧ lo.getD 0 ≤ hi.getD len ∧ hi.getD len ≤ len) (.sl n (o + (lo.getD 0).toNat * (tyI P e).sz) ((hi.getD len).toNat - (lo.getD 0).toNat)) []
    | _ => .bad
  | .slice e, .sl _ _ _, some (some 0), some (some 0), some (some 0) => .ok (0 < (tyI P e).sz) .emp []
  | .slice e, .emp, some lo, some hi, some none => .ok (0 < (tyI P e).sz ∧ lo.getD 0 = 0 ∧ hi.getD 0 = 0) .emp []
  | .slice e, .emp, some (some 0), some (some 0), some (some 0) => .ok (0 < (tyI P e).sz) .emp []
  | _, _, _, _, _ => .bad
def rAppend (P : Program) (nm : Nat) (g : Nat → Option Ent) (t : TypeId) (s x : AV) : Res :=
  match (tyI P t).tk with
  | .slice e => match baseG g (tyI P e).sz s, srcG g (tyI P e).sz x, lenOf? s, lenOf? x with
    | some (c1, lb, n), some (c2, lx), some a, some b =>
      .ok (c1 ∧ c2 ∧ g nm = none ∧ a + b < limB (tyI P e).bytes ∧ 0 < (tyI P e).sz ∧ (tyI P e).zero.length = (tyI P e).sz ∧ (tyI P e).bytes ≤ 1000 ∧ apartO n x = true)
        (.sl nm 0 (a + b)) (killD n ++ [(nm, .c true (lb.app2 lx))])
    | _, _, _, _ => .bad
  | _ => .bad
def rMake (P : Program) (nm : Nat) (g : Nat → Option Ent) (t : TypeId) (s x : AV) : Res :=
  match (tyI P t).tk, s, x with
  | .slice e, .emp, .int .i64 n => .ok (g nm = none ∧ 0 ≤ n ∧ n < lim40 ∧ 0 < (tyI P e).sz ∧ (tyI P e).zero.length = (tyI P e).sz ∧ (tyI P e).bytes ≤ 120 ∧ (LV.rep (tyI P e).ek (tyI P e).sz n.toNat (tyI P e).zero).z = (tyI P e).sz)
        (.sl nm 0 n.toNat) [(nm, .c true (LV.rep (tyI P e).ek (tyI P e).sz n.toNat (tyI P e).zero))]
  | _, _, _ => .bad
def isInt : TK → Bool
  | .int _ => true
  | _ => false
def optG (ρ : Operand → AV) : Option Operand → Option (Option Int)
  | none => some none
  | some x => match ρ x with
    | .int _ n => some (some n)
    | _ => none
theorem optG_eq (env : Env) (x : Option Operand) : optG (ev env) x = optInt env x := by cases x <;> rfl
def isSlice : TK → Bool
  | .slice _ => true
  | _ => false
def rLen (tk : Option TK) (x : Option AV) : Res :=
  match tk, x with
  | some (.slice _), some (.sl _ _ n) => .ok True (.int .i64 n) []
  | some (.slice _), some .emp => .ok True (.int .i64 0) []
  | some .str, some (.str s) => .ok True (.int .i64 s.size) []
  | _, _ => .bad
def rCall (P : Program) (nm : Nat) (g : Nat → Option Ent) (c : Call) (ρ : Operand → AV) : Res :=
  match c.callee with
  | .builtin .len => rLen ((c.argTypes[0]?).map fun t => (tyI P t).tk) ((c.args[0]?).map (ρ))
  | .builtin .cap => match (c.argTypes[0]?).map fun t => (tyI P t).tk, (c.args[0]?).map (ρ) with
    | some (.slice _), some .emp => .ok True (.int .i64 0) []
    | _, _ => .bad
  | .builtin .append => match c.argTypes[0]?, c.argTypes[1]?, (c.args[0]?).map (ρ), (c.args[1]?).map (ρ) with
    | some t, some t2, some s, some x => if isSlice (tyI P t2).tk then rAppend P nm g t s x else if isInt (tyI P t2).tk then rMake P nm g t s x else .bad
    | _, _, _, _ => .bad
  | .value f => match ρ f with
    | .fn g caps => .call g ((c.args.toList.map (ρ)) ++ caps.map fun p => AV.ptr p.1 p.2)
    | _ => .bad
  | _ => .bad
def res (P : Program) (nm : Nat) (o : Oper) (ρ : Operand → AV) (g : Nat → Option Ent) : Res :=
  match o.op with
  | .move x => .ok True (ρ x) []
  | .assign x => .ok True (ρ x) []
  | .pick c a b => match ρ c with
    | .bool t => .pick t (ρ a) (ρ b)
    | _ => .bad
  | .alloc t => .ok (g nm = none ∧ 0 < (tyI P t).sz ∧ (tyI P t).zero.length = (tyI P t).sz) (.ptr nm 0) [(nm, (.c true (.av 1 (tyI P t).zero)))]
  | .box _ x => .ok (g nm = none ∧ (ρ x).fits = true) (.ptr nm 0) [(nm, (.c true (.av 1 (cellsOf (ρ x)))))]
  | .build t parts => match sBuild (tyI P t) (parts.toList.map fun p => (p.1, ρ p.2)) with
    | some cs => .ok (0 < (tyI P t).sz ∧ (tyI P t).zero.length = (tyI P t).sz) (.agg cs) []
    | none => .bad
  | .buildSlice t len parts => match (tyI P t).tk with
    | .slice e => .ok (g nm = none ∧ parts.size = len ∧ len * (tyI P e).sz ≤ 16777216 ∧ 0 < (tyI P e).sz ∧ (tyI P e).zero.length = (tyI P e).sz ∧ partsIn 0 (parts.toList.map fun p => (p.1, ρ p.2)) = true ∧
        (parts.toList.all fun p => (cellsOf (ρ p.2)).length == (tyI P e).sz) = true ∧
        (LV.mk (tyI P e).ek (tyI P e).sz (parts.toList.flatMap fun p => cellsOf (ρ p.2))).z = (tyI P e).sz)
        (.sl nm 0 len) [(nm, (.c true (LV.mk (tyI P e).ek (tyI P e).sz (parts.toList.flatMap fun p => cellsOf (ρ p.2)))))]
    | _ => .bad
  | .load t a => rLoad (tyI P t) g (ρ a)
  | .store t a x => rStore (tyI P t) g (ρ a) (ρ x)
  | .nilCheck x => match ρ x with
    | .ptr n o => .ok True (.ptr n o) []
    | .fn f caps => .ok True (.fn f caps) []
    | _ => .bad
  | .binOp op t x y _ => if isNil y then rNil P op t (ρ x) else rBin P op t (ρ x) (ρ y)
  | .unOp op _ x => match op, ρ x with
    | .not, .bool b => .ok True (.bool !b) []
    | .neg, .int k n => .ok True (.int k (k.wrap (0 - n))) []
    | _, _ => .bad
  | .convert src dst x => match (tyI P src).tk, (tyI P dst).tk, ρ x with
    | .int _, .int k, .int _ n => .ok True (.int k (k.wrap n)) []
    | .slice e, .str, x => match srcG g 1 x with
      | some (c, .bys l) => .ok (c ∧ (tyI P e).tk = .int .u8) (.str ⟨l.toArray⟩) []
      | _ => .bad
    | _, _, _ => .bad
  | .makeFunc (.func f) first caps => match caps.toList.mapM (fun x => match ρ x with | .ptr n o => some (n, o) | _ => none) with
    | some ps => .ok (first.size = 0) (.fn f ps) []
    | none => .bad
  | .makeSlice t l c => match (tyI P t).tk, ρ l, ρ c with
    | .slice e, .int .i64 n, .int .i64 m => .ok (g nm = none ∧ 0 ≤ n ∧ n < lim40 ∧ m = n ∧ 0 < (tyI P e).sz ∧ (tyI P e).zero.length = (tyI P e).sz ∧ (tyI P e).bytes ≤ 120 ∧ (LV.rep (tyI P e).ek (tyI P e).sz n.toNat (tyI P e).zero).z = (tyI P e).sz)
        (.sl nm 0 n.toNat) [(nm, (.c true (LV.rep (tyI P e).ek (tyI P e).sz n.toNat (tyI P e).zero)))]
    | _, _, _ => .bad
  | .slice t x lo hi mx => rSlice P g t (ρ x) (optG ρ lo) (optG ρ hi) (optG ρ mx)
  | .fieldAddr s x f => match (tyI P s).tk, ρ x with
    | .struct fs, .ptr n off => match fs[f]? with
      | some (o, sz) => .ok (sz ≠ 0) (.ptr n (off + o)) []
      | none => .bad
    | _, _ => .bad
  | .indexAddr t x i => match (tyI P t).tk, ρ x, ρ i with
    | .slice e, .sl n o len, .int _ j => .ok (0 < (tyI P e).sz ∧ 0 ≤ j ∧ j < len) (.ptr n (o + j.toNat * (tyI P e).sz)) []
    | _, _, _ => .bad
  | .index t x i => match (tyI P t).tk, ρ x, ρ i with
    | .str, .str s, .int _ j => .ok (0 ≤ j ∧ j < s.size) (.int .u8 (s.data.getD j.toNat 0).toNat) []
    | _, _, _ => .bad
  | .extract t i => match ρ t with
    | .tup vs => match vs[i]? with
      | some v => .ok (v.fits = true) v []
      | none => .bad
    | _ => .bad
  | .call c => rCall P nm g c ρ
  | .field t x f => match fldI P t f, ρ x with
    | some o, .agg cs => match cs[o]? with
      | some v => .ok (v.fits = true) v []
      | none => .bad
    | _, _ => .bad
  | .makeMap t none => .ok (smapTy P t = true ∧ g nm = none) (.mapv nm) [(nm, .mp [])]
  | .lookup t x i false => match ρ x, ρ i with
    | .mapv n, .str s => match g n with
      | some (.mp es) => .ok (smapTy P t = true) (.bool (mpGet es s)) []
      | _ => .bad
    | _, _ => .bad
  | .mapUpdate t m k x => match ρ m, ρ k, ρ x with
    | .mapv n, .str s, .bool b => match g n with
      | some (.mp es) => .ok (smapTy P t = true) (.tup []) [(n, .mp (mpPut es s b))]
      | _ => .bad
    | _, _, _ => .bad
  | .insert t m k x => match ρ m, ρ k, ρ x with
    | .mapv n, .str s, .bool b => match g n with
      | some (.mp es) => .ok (smapTy P t = true) (.tup []) [(n, .mp (mpPut es s b))]
      | _ => .bad
    | _, _, _ => .bad
  | _ => .bad

/-- What a step's outcome asks of what follows. -/
def Res.to (call : CallT) (nm : Nat) (H : Heap) (K : Kt) : Res → Prop
  | .ok ob v d => ob ∧ K v (setsH H d)
  | .pick b x y => (b = true → K x H) ∧ (b = false → K y H)
  | .call g args => call g args H nm K
  | .nilc n neg => ∀ r : Bool, (r = !neg → n = 0) → K (.bool r) H
  | .bad => False

theorem rInt_ok {call : CallT} {nm : Nat} {op : BinOp} {k : IntKind} {x y : Int} {H : Heap} {K : Kt} (h : (rInt op k x y).to call nm H K) : sInt op k x y fun v => K v H := by
  cases op <;> simp only [rInt, Res.to, setsH, true_and] at h <;> exact h
theorem rStr_ok {call : CallT} {nm : Nat} {op : BinOp} {x y : ByteArray} {H : Heap} {K : Kt} (h : (rStr op x y).to call nm H K) : sStr op x y fun v => K v H := by
  cases op <;> simp only [rStr, Res.to, setsH, true_and] at h <;> exact h
theorem rLoad_ok {call : CallT} {nm : Nat} {ti : TI} {H : Heap} {a : AV} {K : Kt} (h : (rLoad ti (aget H) a).to call nm H K) : sLoad ti H a fun v => K v H := by
  unfold rLoad at h; unfold sLoad
  cases a
  case ptr n off =>
    simp only at h ⊢
    generalize hx : aget H n = x at h ⊢
    rcases x with _ | e
    · exact h.elim
    · cases e
      case c own lv =>
        simp only at h ⊢
        cases hb : ti.agg
        · rw [hb] at h; simp only [Bool.false_eq_true, if_false] at h ⊢; exact ⟨h.1.1, h.1.2, h.2⟩
        · rw [hb] at h; simp only [if_true] at h ⊢; exact h
      all_goals exact h.elim
  all_goals exact h.elim
theorem rStore_ok {call : CallT} {nm : Nat} {ti : TI} {H : Heap} {a x : AV} {K : Kt} (h : (rStore ti (aget H) a x).to call nm H K) : sStore ti H a x fun H' => K (.tup []) H' := by
  unfold rStore at h; unfold sStore
  cases a
  case ptr n off =>
    simp only at h ⊢
    generalize hx : aget H n = y at h ⊢
    rcases y with _ | e
    · exact h.elim
    · cases e
      case c own lv =>
        cases own
        · exact h.elim
        · obtain ⟨⟨a1, a2, a3, a4⟩, a5⟩ := h
          exact ⟨a1, a2, a3, a4, a5⟩
      all_goals exact h.elim
  all_goals exact h.elim
theorem rBin_ok {P : Program} {call : CallT} {nm : Nat} {op : BinOp} {t : TypeId} {x y : AV} {H : Heap} {K : Kt} (h : (rBin P op t x y).to call nm H K) : sBin P op t x y fun v => K v H := by
  unfold rBin at h; unfold sBin
  cases x <;> cases y <;> first | exact h.elim | skip
  case int.int k a k' b =>
    simp only at h ⊢
    split at h
    · rename_i hk; exact ⟨hk, rInt_ok h⟩
    · exact h.elim
  case bool.bool a b =>
    simp only at h ⊢
    generalize (tyI P t).tk = z at h ⊢
    cases z <;> first | exact h.elim | skip
    cases op <;> first | exact h.elim | exact h.2
  case str.str a b => exact rStr_ok h
  case agg.agg cs ds =>
    simp only at h ⊢
    generalize three cs = x at h ⊢
    generalize three ds = y at h ⊢
    cases x <;> cases y <;> first | exact h.elim | skip
    cases op <;> first | exact h.elim | exact h
theorem res_stp {P : Program} {call : CallT} {nm : Nat} {o : Oper} {env : Env} {H : Heap} {K : Kt} (h : (res P nm o (ev env) (aget H)).to call nm H K) : stp P call nm o env H K := by
  unfold res at h
  unfold stp
  split at h
  case h_27 => exact h.elim
  all_goals (rename_i ho; rw [ho]; simp only)
  case h_1 => simpa [Res.to, setsH] using h
  case h_2 => simpa [Res.to, setsH] using h
  case h_3 => split at h <;> simp_all [Res.to, setsH]
  case h_4 => exact h
  case h_5 => exact h
  case h_6 => split at h <;> simp_all [Res.to, setsH]
  case h_7 => split at h <;> first | (rename_i hh; simp only [hh]; exact h) | exact h.elim
  case h_8 => exact rLoad_ok h
  case h_9 => exact rStore_ok h
  case h_10 => split at h <;> simp_all [Res.to, setsH]
  case h_11 =>
    split at h
    · rename_i hn
      rw [if_pos hn]
      unfold rNil at h; unfold sNil
      split at h <;> simp_all [Res.to, setsH]
    · rename_i hn
      rw [if_neg hn]
      exact rBin_ok h
  case h_12 => unfold sUn; split at h <;> simp_all [Res.to, setsH]
  case h_13 =>
    split at h
    · rename_i h1 h2 h3; simp only [h1, h2, h3]; simpa [Res.to, setsH] using h
    · rename_i h1 h2
      simp only [h1, h2]
      split at h
      · rename_i h3; simp only [srcG_eq h3 h.1.1]; exact ⟨h.1.2, h.2⟩
      · exact h.elim
    · exact h.elim
  case h_14 =>
    split at h
    · rename_i hh; refine ⟨h.1, ?_⟩
      split
      · rename_i h'; have e := hh.symm.trans h'; cases e; exact h.2
      · rename_i h'; have e := hh.symm.trans h'; cases e
    · exact h.elim
  case h_15 => split at h <;> first | (rename_i h1 h2 h3; simp only [h1, h2, h3]; exact h) | exact h.elim
  case h_16 =>
    unfold rSlice at h; unfold sSlice
    simp only [optG_eq] at h
    split at h
    · rename_i h1 h2 h3 h4 h5; simp only [h1, h2, h3, h4, h5]; exact h
    · rename_i h1 h2 h3 h4 h5
      split at h
      · rename_i hh; simp only [h1, h2, h3, h4, h5, hh]; exact ⟨h.1.1, h.1.2, h.2⟩
      · exact h.elim
    · rename_i h1 h2 h3 h4 h5; simp only [h1, h2, h3, h4, h5]; exact h
    · rename_i h1 h2 h3 h4 h5; simp only [h1, h2, h3, h4, h5]; exact h
    · rename_i h1 h2 h3 h4 h5; simp only [h1, h2, h3, h4, h5]; exact h
    · exact h.elim
  case h_17 =>
    split at h
    · rename_i h1 h2
      simp only [h1, h2]
      split at h
      · rename_i h3; simp only [h3]; exact h
      · exact h.elim
    · exact h.elim
  case h_18 => split at h <;> first | (rename_i h1 h2 h3; simp only [h1, h2, h3]; exact h) | exact h.elim
  case h_19 => split at h <;> first | (rename_i h1 h2 h3; simp only [h1, h2, h3]; exact h) | exact h.elim
  case h_20 =>
    split at h
    · rename_i h1
      simp only [h1]
      split at h
      · rename_i h3; simp only [h3]; exact h
      · exact h.elim
    · exact h.elim
  case h_21 =>
    unfold rCall at h; unfold sCall
    split at h
    · rename_i hc; simp only [hc]
      unfold rLen at h
      split at h <;> first | (rename_i h1 h2; simp only [h1, h2]; simpa [Res.to, setsH] using h) | exact h.elim
    · rename_i hc; simp only [hc]
      split at h <;> first | (rename_i h1 h2; simp only [h1, h2]; exact h.2) | exact h.elim
    · rename_i hc; simp only [hc]
      split at h
      · rename_i h1 h2 h3 h4
        simp only [h1, h2, h3, h4]
        split at h
        · rename_i hs
          unfold isSlice at hs
          split at hs
          · rename_i hs2; rw [hs2]; simp only
            unfold rAppend at h; unfold sAppend
            split at h
            · rename_i h5
              simp only [h5]
              split at h
              · rename_i h6 h7 h8 h9
                obtain ⟨⟨b1, b2, b3⟩, b4⟩ := h
                simp only [baseG_eq h6 b1, srcG_eq h7 b2, h8, h9]
                refine ⟨b3, ?_⟩
                rename_i n _ _ _ _
                cases n <;> exact b4
              · exact h.elim
            · exact h.elim
          · cases hs
        · split at h
          · rename_i hs
            unfold isInt at hs
            split at hs
            · rename_i hs2; rw [hs2]; simp only
              unfold rMake at h; unfold sMake
              split at h
              · rename_i h5; simp only [h5]; exact h
              · exact h.elim
            · cases hs
          · exact h.elim
      · exact h.elim
    · rename_i hc; simp only [hc]
      split at h <;> simp_all [Res.to, setsH]
    · exact h.elim


  case h_22 =>
    split at h
    · rename_i h1 h2
      simp only [h1, h2]
      split at h
      · rename_i h3; simp only [h3]; simpa [Res.to, setsH] using h
      · exact h.elim
    · exact h.elim
  case h_23 => simpa [Res.to, setsH] using h
  case h_24 =>
    split at h
    · rename_i h1 h2
      simp only [h1, h2]
      split at h
      · rename_i h3; simp only [h3]; simpa [Res.to, setsH] using h
      · exact h.elim
    · exact h.elim
  case h_25 =>
    split at h
    · rename_i h1 h2 h3
      simp only [h1, h2, h3]
      split at h
      · rename_i h4; simp only [h4]; simpa [Res.to, setsH] using h
      · exact h.elim
    · exact h.elim
  case h_26 =>
    split at h
    · rename_i h1 h2 h3
      simp only [h1, h2, h3]
      split at h
      · rename_i h4; simp only [h4]; simpa [Res.to, setsH] using h
      · exact h.elim
    · exact h.elim
/-- A region, walked. -/
def rwalk (P : Program) (call : CallT) (all : List Oper) (id : Nat) : Nat → List Oper → Env → Heap → (Env → Heap → Prop) → Prop
  | _, [], env, H, K => K env H
  | i, o :: os, env, H, K => match gA all env o with
      | some true => (match res P (nmOf id i) o (ev env) (aget H) with
          | .ok ob v d => ob ∧ rwalk P call all id (i + 1) os (putc env o.dst v) (setsH H d) K
          | .pick b x y => rwalk P call all id (i + 1) os (putc env o.dst (bif b then x else y)) H K
          | .call g args => call g args H (nmOf id i) fun v H' => rwalk P call all id (i + 1) os (putc env o.dst v) H' K
          | .nilc n neg => ∀ r : Bool, (r = !neg → n = 0) → rwalk P call all id (i + 1) os (putc env o.dst (.bool r)) H K
          | .bad => False)
      | some false => rwalk P call all id (i + 1) os (putc env o.dst (.tup [])) H K
      | none => False
def CallMono (call : CallT) : Prop := ∀ (g : Nat) (args : List AV) (H : Heap) (nm : Nat) (K K' : Kt), (∀ v H, K v H → K' v H) → call g args H nm K → call g args H nm K'
theorem callA_mono {P : Program} : CallMono (callA P) := by
  intro g args H nm K K' hK
  rintro ⟨H0, args0, R, μ, h1, h2, h3, h4, h5, h6, h7, h8, h9, h⟩
  exact ⟨H0, args0, R, μ, h1, h2, h3, h4, h5, h6, h7, h8, h9, fun r H1 hr => ⟨(h r H1 hr).1, hK _ _ (h r H1 hr).2⟩⟩
theorem callC_mono {P : Program} : CallMono (callC D P) := by
  intro g args H nm K K' hK
  rintro ⟨C, H0, args0, R, μ, h1, t1, t2, h2, h3, h4, h5, h6, h7, h8, h9, h⟩
  exact ⟨C, H0, args0, R, μ, h1, t1, t2, h2, h3, h4, h5, h6, h7, h8, h9, fun r H1 hr => ⟨(h r H1 hr).1, hK _ _ (h r H1 hr).2⟩⟩
theorem rwalk_reg {P : Program} {call : CallT} (hm : CallMono call) {all : List Oper} {id : Nat} {K : Env → Heap → Prop} : ∀ (os : List Oper) (i : Nat) (env : Env) (H : Heap), rwalk P call all id i os env H K → reg P call all id i os env H K
  | [], _, _, _, h => h
  | o :: os, i, env, H, h => by
    have one : (match res P (nmOf id i) o (ev env) (aget H) with
          | .ok ob v d => ob ∧ rwalk P call all id (i + 1) os (putc env o.dst v) (setsH H d) K
          | .pick b x y => rwalk P call all id (i + 1) os (putc env o.dst (bif b then x else y)) H K
          | .call g args => call g args H (nmOf id i) fun v H' => rwalk P call all id (i + 1) os (putc env o.dst v) H' K
          | .nilc n neg => ∀ r : Bool, (r = !neg → n = 0) → rwalk P call all id (i + 1) os (putc env o.dst (.bool r)) H K
          | .bad => False) → stp P call (nmOf id i) o env H fun v H' => reg P call all id (i + 1) os (putc env o.dst v) H' K := by
      intro h
      refine res_stp ?_
      unfold Res.to
      split at h
      · exact ⟨h.1, rwalk_reg hm os _ _ _ h.2⟩
      · rename_i b x y _
        cases b
        · exact ⟨by simp, fun _ => rwalk_reg hm os _ _ _ h⟩
        · exact ⟨fun _ => rwalk_reg hm os _ _ _ h, by simp⟩
      · exact hm _ _ _ _ _ _ (fun v H h => rwalk_reg hm os _ _ _ h) h
      · exact fun r hr => rwalk_reg hm os _ _ _ (h r hr)
      · exact h.elim
    simp only [rwalk] at h
    simp only [reg]
    split at h
    · rename_i hg
      split
      · exact one h
      · rw [hg]; exact ⟨fun _ => one h, by simp⟩
    · rename_i hg
      split
      · rename_i hn; simp [gA, hn] at hg
      · rw [hg]; exact ⟨by simp, fun _ => rwalk_reg hm os _ _ _ h⟩
    · exact h.elim
def CallK (P : Program) (call : CallT) (all : List Oper) (id : Nat) (i : Nat) (os : List Oper) (d : Option Tmp) (env : Env) (K : Env → Heap → Prop) (g : Nat) (args : List AV) (H : Heap) : Prop :=
  call g args H (nmOf id i) fun v H' => rwalk P call all id (i + 1) os (putc env d v) H' K
def NilK (P : Program) (call : CallT) (all : List Oper) (id : Nat) (i : Nat) (os : List Oper) (d : Option Tmp) (env : Env) (K : Env → Heap → Prop) (n : Nat) (neg : Bool) (H : Heap) : Prop :=
  ∀ r : Bool, (r = !neg → n = 0) → rwalk P call all id (i + 1) os (putc env d (.bool r)) H K
/-- An equation that is not to be used by reckoning alone. -/
theorem hardEq {p q : Prop} (h : p = q) : p = q := propext ⟨fun x => h ▸ x, fun x => h ▸ x⟩
theorem rwalk_nil {P : Program} {call : CallT} {all : List Oper} {id i : Nat} {env : Env} {H : Heap} {K : Env → Heap → Prop} : rwalk P call all id i [] env H K = K env H := rfl
/-- An operation's outcome, kept shut till it is known. -/
def Rs (P : Program) (call : CallT) (all : List Oper) (id : Nat) (i : Nat) (os : List Oper) (d : Option Tmp) (env : Env) (H : Heap) (K : Env → Heap → Prop) : Res → Prop
  | .ok ob v d' => ob ∧ rwalk P call all id (i + 1) os (putc env d v) (setsH H d') K
  | .pick b x y => rwalk P call all id (i + 1) os (putc env d (bif b then x else y)) H K
  | .call g args => CallK P call all id i os d env K g args H
  | .nilc n neg => NilK P call all id i os d env K n neg H
  | .bad => False
/-- A guarded operation, kept shut till its guard is known. -/
def Gd (P : Program) (call : CallT) (all : List Oper) (id : Nat) (i : Nat) (o : Oper) (os : List Oper) (env : Env) (H : Heap) (K : Env → Heap → Prop) : Option Bool → Prop
  | some true => Rs P call all id i os o.dst env H K (res P (nmOf id i) o (ev env) (aget H))
  | some false => rwalk P call all id (i + 1) os (putc env o.dst (.tup [])) H K
  | none => False
section
variable {P : Program} {call : CallT} {all : List Oper} {id i : Nat} {o : Oper} {os : List Oper} {env : Env} {H : Heap} {K : Env → Heap → Prop} {d : Option Tmp}
theorem Rs_ok {ob : Prop} {v : AV} {d' : List (Nat × Ent)} : Rs P call all id i os d env H K (.ok ob v d') = (ob ∧ rwalk P call all id (i + 1) os (putc env d v) (setsH H d') K) := hardEq rfl
theorem Rs_pick {b : Bool} {x y : AV} : Rs P call all id i os d env H K (.pick b x y) = rwalk P call all id (i + 1) os (putc env d (bif b then x else y)) H K := hardEq rfl
theorem Rs_call {g : Nat} {args : List AV} : Rs P call all id i os d env H K (.call g args) = CallK P call all id i os d env K g args H := hardEq rfl
theorem Rs_nilc {n : Nat} {neg : Bool} : Rs P call all id i os d env H K (.nilc n neg) = NilK P call all id i os d env K n neg H := hardEq rfl
theorem Gd_t : Gd P call all id i o os env H K (some true) = Rs P call all id i os o.dst env H K (res P (nmOf id i) o (ev env) (aget H)) := hardEq rfl
theorem Gd_f : Gd P call all id i o os env H K (some false) = rwalk P call all id (i + 1) os (putc env o.dst (.tup [])) H K := hardEq rfl
theorem rwalk_cons : rwalk P call all id i (o :: os) env H K = (match o.guard with
    | none => Rs P call all id i os o.dst env H K (res P (nmOf id i) o (ev env) (aget H))
    | some _ => Gd P call all id i o os env H K (gA all env o)) := by
  apply hardEq
  cases hg : o.guard with
  | none =>
    have : gA all env o = some true := by simp [gA, hg]
    simp only [rwalk, this]
    cases res P (nmOf id i) o (ev env) (aget H) <;> rfl
  | some p =>
    simp only [rwalk]
    cases hb : gA all env o with
    | none => rfl
    | some b => cases b with
      | false => rfl
      | true =>
        simp only [Gd]
        cases res P (nmOf id i) o (ev env) (aget H) <;> rfl
end
theorem W_rw {P : Program} {nt : Nat} {ks : List It} {env : Env} {H : Heap} {R : Env → Heap → Prop} {id : Nat} {ops : Array Oper} (h : ∀ K : Env → Heap → Prop, (∀ env H, W D P nt ks env H R → K env H) → rwalk P (callA P) ops.toList id 0 ops.toList env H K) :
    W D P nt (.code (.region id ops false) :: ks) env H R :=
  W_reg (fun G hp _ => callA_ok P G hp) fun K hK => rwalk_reg callA_mono _ _ _ _ (h K hK)

/-- A region whose calls may rest on what is known. -/
theorem W_rwC {P : Program} {nt : Nat} {ks : List It} {env : Env} {H : Heap} {R : Env → Heap → Prop} {id : Nat} {ops : Array Oper} (h : ∀ K : Env → Heap → Prop, (∀ env H, W D P nt ks env H R → K env H) → rwalk P (callC D P) ops.toList id 0 ops.toList env H K) :
    W D P nt (.code (.region id ops false) :: ks) env H R :=
  W_reg (fun G hp hD => callC_ok P hD) fun K hK => rwalk_reg callC_mono _ _ _ _ (h K hK)
end Go.Proofs.YtbobhbhgomkgpaaGreatDoor.S

/- The symbolic heap: regions that may run in any order that their edges leave open. Own work of this claim. -/
namespace Go.Proofs.YtbobhbhgomkgpaaGreatDoor.S
set_option linter.all false
open Go

section
variable {β : Type}
def keyed (k : Nat) (w : List (Nat × β)) : Bool := w.any fun p => p.1 == k
theorem aget_setsH_no {k : Nat} : ∀ {w s : List (Nat × β)}, keyed k w = false → aget (setsH s w) k = aget s k
  | [], _, _ => rfl
  | (t, v) :: r, s, h => by
    simp only [keyed, List.any_cons, Bool.or_eq_false_iff, beq_eq_false_iff_ne] at h
    rw [setsH, aget_setsH_no (w := r) h.2, aget_aset, if_neg h.1]
theorem aget_setsH_congr {k : Nat} : ∀ {w s s' : List (Nat × β)}, aget s k = aget s' k → aget (setsH s w) k = aget (setsH s' w) k
  | [], _, _, h => h
  | (t, v) :: r, s, s', h => by
    refine aget_setsH_congr (w := r) ?_
    rw [aget_aset, aget_aset]; split
    · rfl
    · exact h
theorem setsH_append (s : List (Nat × β)) : ∀ w w', setsH s (w ++ w') = setsH (setsH s w) w'
  | [], _ => rfl
  | (t, v) :: r, w' => setsH_append (aset s t v) r w'
/-- The writings of the events in a set, in the text's order. -/
def appS (S : Nat → Bool) : Nat → List (List (Nat × β)) → List (Nat × β) → List (Nat × β)
  | _, [], s => s
  | i, w :: ws, s => appS S (i + 1) ws (bif S i then setsH s w else s)
theorem appS_agree {S S' : Nat → Bool} {k : Nat} : ∀ (ws : List (List (Nat × β))) (i : Nat) (s s' : List (Nat × β)), aget s k = aget s' k →
    (∀ j w, ws[j]? = some w → keyed k w = true → S (i + j) = S' (i + j)) → aget (appS S i ws s) k = aget (appS S' i ws s') k
  | [], _, _, _, h, _ => h
  | w :: ws, i, s, s', h, ha => by
    refine appS_agree ws (i + 1) _ _ ?_ fun j w' hj hk => ?_
    · cases hk : keyed k w
      · have e1 : aget (bif S i then setsH s w else s) k = aget s k := by cases S i <;> simp [aget_setsH_no hk]
        have e2 : aget (bif S' i then setsH s' w else s') k = aget s' k := by cases S' i <;> simp [aget_setsH_no hk]
        rw [e1, e2, h]
      · have := ha 0 w (by simp) hk
        rw [Nat.add_zero] at this
        rw [this]
        cases S' i
        · exact h
        · exact aget_setsH_congr h
    · have := ha (j + 1) w' (by simpa using hj) hk
      rwa [Nat.add_assoc, Nat.add_comm 1 j]
/-- The writings of the first events. -/
def runs : List (List (Nat × β)) → List (Nat × β) → List (Nat × β)
  | [], s => s
  | w :: ws, s => runs ws (setsH s w)
theorem appS_lt (m : Nat) : ∀ (ws : List (List (Nat × β))) (i : Nat) (s : List (Nat × β)), appS (fun j => decide (j < m)) i ws s = runs (ws.take (m - i)) s
  | [], i, s => by simp [appS, runs]
  | w :: ws, i, s => by
    simp only [appS]
    by_cases h : i < m
    · obtain ⟨d, hd⟩ : ∃ d, m - i = d + 1 := ⟨m - i - 1, by omega⟩
      rw [appS_lt m ws (i + 1)]
      simp only [h, decide_true, cond_true, hd, List.take_succ_cons, runs]
      have : m - (i + 1) = d := by omega
      rw [this]
    · rw [appS_lt m ws (i + 1)]
      have h1 : m - i = 0 := by omega
      have h2 : m - (i + 1) = 0 := by omega
      simp [h, h1, h2, runs]
theorem runs_append : ∀ (ws ws' : List (List (Nat × β))) (s : List (Nat × β)), runs (ws ++ ws') s = runs ws' (runs ws s)
  | [], _, _ => rfl
  | w :: ws, ws', s => runs_append ws ws' (setsH s w)
theorem keyed_setsH {k : Nat} : ∀ {w s s' : List (Nat × β)}, keyed k w = true → aget (setsH s w) k = aget (setsH s' w) k
  | [], _, _, h => by simp [keyed] at h
  | (t, v) :: r, s, s', h => by
    by_cases ht : t = k
    · refine aget_setsH_congr (w := r) ?_
      rw [aget_aset, aget_aset, if_pos ht, if_pos ht]
    · refine keyed_setsH (w := r) ?_
      simpa [keyed, ht] using h
/-- One more event, when the set holds all earlier writers of what it touches and no later one. -/
theorem appS_step {S : Nat → Bool} {ws : List (List (Nat × β))} {i : Nat} {w : List (Nat × β)} (hi : ws[i]? = some w) (hS : S i = false) {s : List (Nat × β)}
    (hw : ∀ k, keyed k w = true → ∀ j w', ws[j]? = some w' → keyed k w' = true → j ≠ i → S j = decide (j < i)) (k : Nat) :
    aget (appS (fun j => S j || j == i) 0 ws s) k = aget (setsH (appS S 0 ws s) w) k := by
  cases hk : keyed k w
  · rw [aget_setsH_no hk]
    refine appS_agree ws 0 s s rfl fun j w' hj hk' => ?_
    have : j ≠ i := by rintro rfl; rw [hi] at hj; cases hj; rw [hk] at hk'; cases hk'
    simp [this]
  · have e1 : aget (appS (fun j => S j || j == i) 0 ws s) k = aget (appS (fun j => decide (j < i + 1)) 0 ws s) k := by
      refine appS_agree ws 0 s s rfl fun j w' hj hk' => ?_
      simp only [Nat.zero_add]
      by_cases e : j = i
      · subst e; simp
      · rw [hw k hk j w' hj hk' e]
        simp only [beq_eq_false_iff_ne.2 e, Bool.or_false]
        by_cases h : j < i
        · simp [h, Nat.lt_succ_of_lt h]
        · have : ¬ j < i + 1 := by omega
          simp [h, this]
    rw [e1, appS_lt]
    have hlt : i < ws.length := (List.getElem?_eq_some_iff.1 hi).1
    have hw' : ws[i] = w := (List.getElem?_eq_some_iff.1 hi).2
    rw [Nat.sub_zero, List.take_succ_eq_append_getElem hlt, runs_append, hw']
    simp only [runs]
    exact keyed_setsH hk
end

/-! Events -/
structure EvD where
  sl : List Nat
  nr : List Nat
  dst : Option Nat
  v : AV
  d : List (Nat × Ent)
def EvD.wE (e : EvD) : List (Nat × AV) := match e.dst with
  | some t => [(t, e.v)]
  | none => []
def clash (a b : EvD) : Bool :=
  (match a.dst with | some t => b.sl.contains t || b.dst == some t | none => false) || (match b.dst with | some t => a.sl.contains t | none => false) ||
  a.d.any (fun p => b.nr.contains p.1 || keyed p.1 b.d) || b.d.any fun p => a.nr.contains p.1
def direct (o : Oper) : List Nat := (o.after.toList.filter fun e => Region.binds .any e).map (·.on)
/-- Sets of predecessors, as numbers. -/
def orAll (acc : List Nat) : List Nat → Nat
  | [] => 0
  | j :: r => (2 ^ j ||| acc.getD j 0) ||| orAll acc r
def ancT : List Oper → List Nat → List Nat
  | [], acc => acc
  | o :: os, acc => ancT os (acc ++ [orAll acc (direct o)])
def indep1 (an : List Nat) (b : EvD) (bi : Nat) : Nat → List EvD → Bool
  | _, [] => true
  | ai, a :: r => (!clash a b || (an.getD bi 0).testBit ai) && indep1 an b bi (ai + 1) r
def indep2 (an : List Nat) : Nat → List EvD → List EvD → Bool
  | _, _, [] => true
  | bi, pre, b :: r => indep1 an b bi 0 pre && indep2 an (bi + 1) (pre ++ [b]) r
def indep (ops : List Oper) (evs : List EvD) : Bool := indep2 (ancT ops []) 0 [] evs

theorem orAll_bit {acc : List Nat} {S : Nat → Bool} : ∀ {ds : List Nat}, (∀ j ∈ ds, S j = true) → (∀ j m, S j = true → (acc.getD j 0).testBit m = true → S m = true) → ∀ m, (orAll acc ds).testBit m = true → S m = true
  | [], _, _, m, h => by simp [orAll] at h
  | j :: r, hd, ha, m, h => by
    simp only [orAll, Nat.testBit_or, Bool.or_eq_true] at h
    rcases h with (h | h) | h
    · rw [Nat.testBit_two_pow] at h
      have := of_decide_eq_true h
      subst this; exact hd j (by simp)
    · exact ha j m (hd j (by simp)) h
    · exact orAll_bit (fun x hx => hd x (by simp [hx])) ha m h
/-- What must come ahead lies in every set that is closed under the edges. -/
theorem ancT_closed {S : Nat → Bool} : ∀ (os : List Oper) (acc : List Nat), (∀ j o, os[j]? = some o → S (acc.length + j) = true → ∀ d ∈ direct o, S d = true) →
    (∀ j m, S j = true → (acc.getD j 0).testBit m = true → S m = true) → ∀ j m, S j = true → ((ancT os acc).getD j 0).testBit m = true → S m = true
  | [], _, _, ha => ha
  | o :: os, acc, hc, ha => by
    refine ancT_closed os (acc ++ [orAll acc (direct o)]) (fun j o' ho hj => ?_) ?_
    · refine hc (j + 1) o' (by simpa using ho) ?_
      rw [← hj]; congr 1; simp; omega
    · intro j m hj hm
      rcases Nat.lt_trichotomy j acc.length with h | h | h
      · have : (acc ++ [orAll acc (direct o)]).getD j 0 = acc.getD j 0 := by simp [List.getD_eq_getElem?_getD, List.getElem?_append_left h]
        rw [this] at hm
        exact ha j m hj hm
      · subst h
        have : (acc ++ [orAll acc (direct o)]).getD acc.length 0 = orAll acc (direct o) := by simp [List.getD_eq_getElem?_getD]
        rw [this] at hm
        exact orAll_bit (hc 0 o (by simp) (by simpa using hj)) ha m hm
      · have : (acc ++ [orAll acc (direct o)]).getD j 0 = 0 := by
          have : (acc ++ [orAll acc (direct o)])[j]? = none := by rw [List.getElem?_eq_none_iff]; simp; omega
          simp [List.getD_eq_getElem?_getD, this]
        rw [this] at hm
        simp at hm
theorem indep1_get {an : List Nat} {b : EvD} {bi : Nat} : ∀ {l : List EvD} {o : Nat}, indep1 an b bi o l = true → ∀ {j a}, l[j]? = some a → clash a b = true → (an.getD bi 0).testBit (o + j) = true
  | [], _, _, j, a, h, _ => by simp at h
  | x :: r, o, h, j, a, hj, hc => by
    simp only [indep1, Bool.and_eq_true] at h
    cases j with
    | zero =>
      simp at hj; subst hj
      have := h.1
      rw [hc] at this
      simpa using this
    | succ j =>
      have := indep1_get (l := r) (o := o + 1) h.2 (j := j) (by simpa using hj) hc
      rw [← this]; congr 1; omega
theorem indep2_get {an : List Nat} : ∀ {l pre : List EvD}, indep2 an pre.length pre l = true → ∀ {i j a b}, (pre ++ l)[i]? = some b → pre.length ≤ i → j < i → (pre ++ l)[j]? = some a → clash a b = true → (an.getD i 0).testBit j = true
  | [], pre, _, i, j, a, b, hi, hle, _, _, _ => by
    rw [List.append_nil, List.getElem?_eq_none_iff.2 hle] at hi; cases hi
  | x :: r, pre, h, i, j, a, b, hi, hle, hlt, hj, hc => by
    simp only [indep2, Bool.and_eq_true] at h
    rcases Nat.lt_or_ge pre.length i with h' | h'
    · refine indep2_get (l := r) (pre := pre ++ [x]) (by simpa using h.2) (i := i) (j := j) (a := a) (b := b) (by simpa using hi) (by simp; omega) hlt (by simpa using hj) hc
    · have e : i = pre.length := by omega
      subst e
      have hb : b = x := by simpa using hi.symm
      subst hb
      have hja : pre[j]? = some a := by rwa [List.getElem?_append_left hlt] at hj
      have := indep1_get h.1 hja hc
      simpa using this
theorem indep_get {ops : List Oper} {evs : List EvD} (h : indep ops evs = true) {i j : Nat} {a b : EvD} (hi : evs[i]? = some b) (hlt : j < i) (hj : evs[j]? = some a) (hc : clash a b = true) : ((ancT ops []).getD i 0).testBit j = true :=
  indep2_get (pre := []) h (by simpa using hi) (by simp) hlt (by simpa using hj) hc

/-! Where an event may stand -/
def gslots (all : List Oper) (o : Oper) : List Nat := match o.guard with
  | none => []
  | some (j, _) => match (all[j]?).bind (·.dst) with
    | some d => [d]
    | none => []
def tmpOf : Operand → Option Nat
  | .tmp t => some t
  | _ => none
def slots (all : List Oper) (o : Oper) : List Nat := o.op.operands.toList.filterMap tmpOf ++ gslots all o
theorem gA_congr {all : List Oper} {o : Oper} {env env' : Env} (h : ∀ t ∈ gslots all o, env.get t = env'.get t) : gA all env o = gA all env' o := by
  unfold gslots at h
  unfold gA
  split
  · rfl
  · rename_i j want hg
    rw [hg] at h
    simp only at h
    split
    · rename_i d hd
      rw [hd] at h
      simp only [List.mem_singleton, forall_eq] at h
      rw [h]
    · rfl
/-- An event of an operation, valid wherever what it reads is as it was. -/
def EvOk (P : Program) (call : CallT) (all : List Oper) (nm : Nat) (o : Oper) (e : EvD) (env0 : Env) (H0 : Heap) : Prop :=
  o.dst = e.dst ∧ ∀ env H, (∀ t ∈ e.sl, env.get t = env0.get t) → (∀ n ∈ e.nr, aget H n = aget H0 n) →
    ∃ g, gA all env o = some g ∧ (g = true → ∀ K : Kt, (∀ H', (∀ n, aget H' n = aget (setsH H e.d) n) → K e.v H') → stp P call nm o env H K) ∧ (g = false → e.v = .tup [] ∧ e.d = [])
def EvAll (P : Program) (call : CallT) (all : List Oper) (id : Nat) : Nat → List Oper → List EvD → Env → Heap → Prop
  | _, [], [], _, _ => True
  | i, o :: os, e :: es, env, H => EvOk P call all (nmOf id i) o e env H ∧ EvAll P call all id (i + 1) os es (setsH env e.wE) (setsH H e.d)
  | _, _, _, _, _ => False
theorem EvAll.len {P : Program} {call : CallT} {all : List Oper} {id : Nat} : ∀ {os : List Oper} {es : List EvD} {i : Nat} {env : Env} {H : Heap}, EvAll P call all id i os es env H → os.length = es.length
  | [], [], _, _, _, _ => rfl
  | _ :: os, _ :: es, _, _, _, h => by simp [EvAll.len h.2]
  | [], _ :: _, _, _, _, h => h.elim
  | _ :: _, [], _, _, _, h => h.elim
theorem EvAll.get {P : Program} {call : CallT} {all : List Oper} {id : Nat} : ∀ {os : List Oper} {es : List EvD} {i : Nat} {env : Env} {H : Heap}, EvAll P call all id i os es env H →
    ∀ {j o e}, os[j]? = some o → es[j]? = some e → EvOk P call all (nmOf id (i + j)) o e (runs ((es.map EvD.wE).take j) env) (runs ((es.map EvD.d).take j) H)
  | [], [], _, _, _, _, j, o, e, ho, _ => by simp at ho
  | o' :: os, e' :: es, i, env, H, h, j, o, e, ho, he => by
    cases j with
    | zero => simp at ho he; subst ho; subst he; exact h.1
    | succ j =>
      have := EvAll.get h.2 (j := j) (by simpa using ho) (by simpa using he)
      rw [Nat.add_assoc, Nat.add_comm 1 j] at this
      exact this
  | [], _ :: _, _, _, _, h, _, _, _, _, _ => h.elim
  | _ :: _, [], _, _, _, h, _, _, _, _, _ => h.elim
theorem keyed_wE {k : Nat} {e : EvD} (h : keyed k e.wE = true) : e.dst = some k := by
  unfold EvD.wE at h
  split at h
  · rename_i t ht
    simp [keyed] at h
    rw [ht, h]
  · simp [keyed] at h
def backB : Nat → List Oper → Bool
  | _, [] => true
  | i, o :: os => (direct o).all (fun d => decide (d < i)) && backB (i + 1) os
theorem backB_get : ∀ {os : List Oper} {i : Nat}, backB i os = true → ∀ {j o}, os[j]? = some o → ∀ d ∈ direct o, d < i + j
  | [], _, _, j, o, h => by simp at h
  | x :: os, i, h, j, o, ho => by
    simp only [backB, Bool.and_eq_true] at h
    cases j with
    | zero =>
      simp at ho; subst ho
      intro d hd
      have := List.all_eq_true.1 h.1 d hd
      simpa using this
    | succ j =>
      intro d hd
      have := backB_get h.2 (j := j) (by simpa using ho) d hd
      omega

theorem Inv.congr {G : Nat → Prop} {hp : HP} {ν : Nm} {H H' : Heap} {w : World} (h : Inv G hp ν H w) (e : ∀ n, aget H' n = aget H n) : Inv G hp ν H' w :=
  ⟨fun n x hx => h.er n x (by rwa [e] at hx), fun n m x y hx ho hy hl hne => h.inj n m x y (by rwa [e] at hx) ho (by rwa [e] at hy) hl hne,
   fun n hn => h.dom n (by rwa [e] at hn), h.gfr, fun n hn => ⟨(h.nb n hn).1, by rw [e]; exact (h.nb n hn).2⟩, fun n x L hx => h.own n x L (by rwa [e] at hx), h.fx⟩
theorem St.congr {G : Nat → Prop} {hp : HP} {nt : Nat} {ν : Nm} {env env' : Env} {H H' : Heap} {a : Act} {w : World} (h : St G hp nt ν env H a w) (he : ∀ t, aget env' t = aget env t) (hh : ∀ n, aget H' n = aget H n) : St G hp nt ν env' H' a w :=
  ⟨h.defers, h.size, fun t => by have := h.env t; simpa [Env.get, he] using this, h.inv.congr hh⟩

section
variable {P : Program} {G : Nat → Prop} {hp : HP} {nt : Nat}
theorem draw_sound {call : CallT} (hc : CallOkH P call G hp) {ops : Array Oper} (hd : dstOk nt ops = true) {id : Nat} {evs : List EvD} {env0 : Env} {H0 : Heap} {Q : Exit → Act → World → Prop}
    (hev : EvAll P call ops.toList id 0 ops.toList evs env0 H0) (hind : indep ops.toList evs = true) (hback : backB 0 ops.toList = true)
    (hQ : ∀ ν a w, St G hp nt ν (runs (evs.map EvD.wE) env0) (runs (evs.map EvD.d) H0) a w → Q .normal a w) :
    ∀ (fuel : Nat) (listed : Array Bool) (ν : Nm) (env : Env) (H : Heap) (a : Act) (w : World), listed.size = ops.size → listed.toList.count false = fuel →
      (∀ j o, ops.toList[j]? = some o → listed.getD j false = true → ∀ d ∈ direct o, listed.getD d false = true) →
      (∀ t, aget env t = aget (appS (fun j => listed.getD j false) 0 (evs.map EvD.wE) env0) t) → (∀ n, aget H n = aget (appS (fun j => listed.getD j false) 0 (evs.map EvD.d) H0) n) →
      St G hp nt ν env H a w → wpAny P .any ops Q fuel listed a w := by
  have hlen : ops.toList.length = evs.length := hev.len
  have fin : ∀ (listed : Array Bool) (ν : Nm) (env : Env) (H : Heap) (a : Act) (w : World), listed.size = ops.size → (∀ j, j < ops.size → listed.getD j false = true) →
      (∀ t, aget env t = aget (appS (fun j => listed.getD j false) 0 (evs.map EvD.wE) env0) t) → (∀ n, aget H n = aget (appS (fun j => listed.getD j false) 0 (evs.map EvD.d) H0) n) →
      St G hp nt ν env H a w → Q .normal a w := by
    intro listed ν env H a w hsz hl he hh st
    have all : ∀ {β : Type} (f : EvD → List (Nat × β)) (s : List (Nat × β)) (k : Nat), aget (appS (fun j => listed.getD j false) 0 (evs.map f) s) k = aget (runs (evs.map f) s) k := by
      intro β f s k
      have e : runs (evs.map f) s = appS (fun j => decide (j < evs.length)) 0 (evs.map f) s := by rw [appS_lt, Nat.sub_zero, List.take_of_length_le (by simp)]
      rw [e]
      refine appS_agree _ 0 s s rfl fun j w' hj _ => ?_
      have hlt : j < evs.length := by
        have := (List.getElem?_eq_some_iff.1 hj).1
        simpa using this
      simp only [Nat.zero_add, hlt, decide_true]
      exact hl j (by simpa [← hlen] using hlt)
    exact hQ ν a w (st.congr (fun t => by rw [he, all]) (fun n => by rw [hh, all]))
  intro fuel
  induction fuel with
  | zero =>
    intro listed ν env H a w hsz hcount hcl he hh st
    have hl : ∀ j, j < ops.size → listed.getD j false = true := by
      intro j hj
      have hj' : j < listed.toList.length := by simpa [hsz] using hj
      have hne : false ∉ listed.toList := List.count_eq_zero.1 hcount
      have : listed.toList[j] ≠ false := fun e => hne (e ▸ List.getElem_mem hj')
      have hj2 : j < listed.size := by omega
      simpa [Array.getD, hj2] using this
    refine ⟨?_, fin listed ν env H a w hsz hl he hh st⟩
    cases hr : Region.ready .any ops listed with
    | nil => rfl
    | cons x xs =>
      have hx : x ∈ Region.ready .any ops listed := by rw [hr]; simp
      obtain ⟨h1, o, ho, _⟩ := mem_ready.1 hx
      have hlt : x < ops.size := (Array.getElem?_eq_some_iff.1 ho).1
      have := hl x hlt
      have hx2 : x < listed.size := by omega
      simp [Array.getD, hx2] at h1 this
      rw [this] at h1; cases h1
  | succ fuel ih =>
    intro listed ν env H a w hsz hcount hcl he hh st
    refine ⟨fun hr => fin listed ν env H a w hsz ?_ he hh st, fun i hi => ?_⟩
    · intro j
      induction j using Nat.strongRecOn with
      | _ j ihj =>
        intro hj
        cases hlj : listed.getD j false with
        | true => rfl
        | false =>
          have hj2 : j < listed.size := by omega
          obtain ⟨o, ho⟩ : ∃ o, ops[j]? = some o := ⟨ops[j], Array.getElem?_eq_some_iff.2 ⟨hj, rfl⟩⟩
          have : j ∈ Region.ready .any ops listed := by
            refine mem_ready.2 ⟨by simpa [Array.getD, hj2] using hlj, o, ho, fun e hem hb => ?_⟩
            have hmem : e.on ∈ direct o := List.mem_map.2 ⟨e, List.mem_filter.2 ⟨by simpa using hem, hb⟩, rfl⟩
            have hlt := backB_get hback (j := j) (o := o) (by simpa using ho) _ hmem
            exact ihj e.on (by omega) (by omega)
          rw [hr] at this; simp at this
    · obtain ⟨h1, o, ho, hpre⟩ := mem_ready.1 hi
      have hlt : i < ops.size := (Array.getElem?_eq_some_iff.1 ho).1
      have hi2 : i < listed.size := by omega
      have hLi : listed.getD i false = false := by simpa [Array.getD, hi2] using h1
      have ho' : ops.toList[i]? = some o := by simpa using ho
      have hie : i < evs.length := by rw [← hlen]; simpa using hlt
      obtain ⟨e, hei⟩ : ∃ e, evs[i]? = some e := ⟨evs[i], by simp [hie]⟩
      have hpre' : ∀ d ∈ direct o, listed.getD d false = true := by
        intro d hdm
        obtain ⟨ed, hed, rfl⟩ := List.mem_map.1 hdm
        obtain ⟨hem, hb⟩ := List.mem_filter.1 hed
        exact hpre ed (by simpa using hem) hb
      have hset : ∀ j, (listed.setIfInBounds i true).getD j false = (listed.getD j false || j == i) := by
        intro j
        by_cases hj : i = j
        · subst hj; simp [hi2]
        · rw [getD_set_ne false hj]
          have : (j == i) = false := by simpa using fun h => hj h.symm
          rw [this, Bool.or_false]
      have hcl' : ∀ j o', ops.toList[j]? = some o' → (listed.setIfInBounds i true).getD j false = true → ∀ d ∈ direct o', (listed.setIfInBounds i true).getD d false = true := by
        intro j o' ho2 hj d hdm
        rw [hset] at hj ⊢
        by_cases hji : j = i
        · subst hji
          rw [ho'] at ho2; cases ho2
          simp [hpre' d hdm]
        · have : listed.getD j false = true := by simpa [hji] using hj
          simp [hcl j o' ho2 this d hdm]
      have hL : ∀ j b, evs[j]? = some b → j ≠ i → (j < i → clash b e = true) → (i < j → clash e b = true) → listed.getD j false = decide (j < i) := by
        intro j b hb hne c1 c2
        rcases Nat.lt_or_gt_of_ne hne with h | h
        · have hbit := indep_get hind hei h hb (c1 h)
          have := ancT_closed (S := fun j => (listed.setIfInBounds i true).getD j false) ops.toList [] (fun j o' h1 h2 => hcl' j o' h1 (by simpa using h2)) (by simp) i j (by simp only [hset]; simp) hbit
          simp only [hset] at this
          simp only [h, decide_true]
          simpa [hne] using this
        · have hbit := indep_get hind hb h hei (c2 h)
          have hn : ¬ j < i := by omega
          simp only [hn, decide_false]
          cases hlj : listed.getD j false with
          | false => rfl
          | true =>
            have := ancT_closed (S := fun j => listed.getD j false) ops.toList [] (fun j o' h1 h2 => hcl j o' h1 (by simpa using h2)) (by simp) j i hlj hbit
            rw [hLi] at this; cases this
      have hok := hev.get ho' hei
      rw [Nat.zero_add] at hok
      obtain ⟨hdst, hok⟩ := hok
      have rdE : ∀ t ∈ e.sl, env.get t = Env.get (runs ((evs.map EvD.wE).take i) env0) t := by
        intro t ht
        simp only [Env.get]
        rw [he, ← Nat.sub_zero i, ← appS_lt]
        congr 1
        refine appS_agree _ 0 _ _ rfl fun j w' hj hk => ?_
        simp only [Nat.zero_add]
        rw [List.getElem?_map] at hj
        obtain ⟨b, hb, rfl⟩ := Option.map_eq_some_iff.1 hj
        have hbd := keyed_wE hk
        by_cases hji : j = i
        · subst hji; simp only [hLi]; simp
        · refine hL j b hb hji (fun _ => ?_) (fun _ => ?_)
          · simp [clash, hbd, ht]
          · simp [clash, hbd, ht]
      have rdH : ∀ n ∈ e.nr, aget H n = aget (runs ((evs.map EvD.d).take i) H0) n := by
        intro n hn
        rw [hh, ← Nat.sub_zero i, ← appS_lt]
        refine appS_agree _ 0 _ _ rfl fun j w' hj hk => ?_
        simp only [Nat.zero_add]
        rw [List.getElem?_map] at hj
        obtain ⟨b, hb, rfl⟩ := Option.map_eq_some_iff.1 hj
        obtain ⟨p, hp1, hp2⟩ := List.any_eq_true.1 hk
        have hp2 : p.1 = n := by simpa using hp2
        by_cases hji : j = i
        · subst hji; simp only [hLi]; simp
        · refine hL j b hb hji (fun _ => ?_) (fun _ => ?_)
          · have : b.d.any (fun p => e.nr.contains p.1 || keyed p.1 e.d) = true := List.any_eq_true.2 ⟨p, hp1, by simp [hp2, hn]⟩
            unfold clash; rw [this]; simp
          · have : b.d.any (fun p => e.nr.contains p.1) = true := List.any_eq_true.2 ⟨p, hp1, by simp [hp2, hn]⟩
            unfold clash; rw [this]; simp
      have stE : ∀ (env' : Env), (∀ t, aget env' t = aget (setsH env e.wE) t) → ∀ t, aget env' t = aget (appS (fun j => (listed.setIfInBounds i true).getD j false) 0 (evs.map EvD.wE) env0) t := by
        intro env' h t
        have : (fun j => (listed.setIfInBounds i true).getD j false) = fun j => (listed.getD j false || j == i) := funext hset
        rw [this, appS_step (i := i) (w := e.wE) (by simp [hei]) hLi ?_ t, h]
        · exact aget_setsH_congr (he t)
        · intro k hk j w' hj hk' hji
          rw [List.getElem?_map] at hj
          obtain ⟨b, hb, rfl⟩ := Option.map_eq_some_iff.1 hj
          have hbd := keyed_wE hk'
          have hed := keyed_wE hk
          refine hL j b hb hji (fun _ => ?_) (fun _ => ?_)
          · simp [clash, hbd, hed]
          · simp [clash, hbd, hed]
      have stH : ∀ (H' : Heap), (∀ n, aget H' n = aget (setsH H e.d) n) → ∀ n, aget H' n = aget (appS (fun j => (listed.setIfInBounds i true).getD j false) 0 (evs.map EvD.d) H0) n := by
        intro H' h t
        have : (fun j => (listed.setIfInBounds i true).getD j false) = fun j => (listed.getD j false || j == i) := funext hset
        rw [this, appS_step (i := i) (w := e.d) (by simp [hei]) hLi ?_ t, h]
        · exact aget_setsH_congr (hh t)
        · intro k hk j w' hj hk' hji
          rw [List.getElem?_map] at hj
          obtain ⟨b, hb, rfl⟩ := Option.map_eq_some_iff.1 hj
          obtain ⟨p, hp1, hp2⟩ := List.any_eq_true.1 hk
          obtain ⟨q, hq1, hq2⟩ := List.any_eq_true.1 hk'
          have hp2 : p.1 = k := by simpa using hp2
          have hq2 : q.1 = k := by simpa using hq2
          refine hL j b hb hji (fun _ => ?_) (fun _ => ?_)
          · have : b.d.any (fun p => e.nr.contains p.1 || keyed p.1 e.d) = true := List.any_eq_true.2 ⟨q, hq1, by rw [hq2, hk]; simp⟩
            unfold clash; rw [this]; simp
          · have : e.d.any (fun p => b.nr.contains p.1 || keyed p.1 b.d) = true := List.any_eq_true.2 ⟨p, hp1, by rw [hp2, hk']; simp⟩
            unfold clash; rw [this]; simp
      have hsz' : (listed.setIfInBounds i true).size = ops.size := by simpa using hsz
      have hcount' : (listed.setIfInBounds i true).toList.count false = fuel := by
        have hi3 : i < listed.toList.length := by simpa using hi2
        have hg : listed.toList[i] = false := by
          have := hLi
          simp [Array.getD, hi2] at this
          simpa using this
        rw [Array.toList_setIfInBounds, List.count_set hi3, hg, hcount]
        simp
      have hmem : o ∈ ops.toList := List.mem_of_getElem? ho'
      have hszt : ∀ t, o.dst = some t → t < a.tmps.size := by rw [st.size]; exact dstOk_mem hd o hmem
      have putE : ∀ (v : AV), v = e.v → ∀ t, aget (S.put env o.dst v) t = aget (setsH env e.wE) t := by
        rintro v rfl t
        rw [hdst]
        unfold EvD.wE S.put
        cases e.dst <;> rfl
      unfold wpOp
      rw [ho]
      simp only
      obtain ⟨g, hg, hgt, hgf⟩ := hok env H rdE rdH
      have hw := gA_ok st.env (fun o ho => by rw [st.size]; exact dstOk_mem hd o ho) hg
      rw [hw]
      cases g with
      | true =>
        refine Or.inl ?_
        have hstp := hgt rfl (fun v H' => v = e.v ∧ ∀ n, aget H' n = aget (setsH H e.d) n) (fun H' h => ⟨rfl, h⟩)
        refine stp_sound hc st.env st.inv hstp ?_
        rintro ν' v c H' w' k1 k2 k3 ⟨k4, k5⟩
        refine ih _ ν' (S.put env o.dst v) H' _ w' hsz' hcount' hcl' (stE _ (putE v k4)) (stH _ k5) ⟨?_, ?_, (st.env.keeps k1).put hszt k2, k3⟩
        · cases ho : o.dst <;> exact st.defers
        · cases ho : o.dst <;> simp [Act.put, st.size]
      | false =>
        obtain ⟨e1, e2⟩ := hgf rfl
        refine ih _ ν (S.put env o.dst (.tup [])) H _ w hsz' hcount' hcl' (stE _ (putE _ e1.symm)) (stH _ (by rw [e2]; exact fun _ => rfl)) ⟨?_, ?_, st.env.put hszt (v := .tup []) (c := undef) ⟨#[], rfl, .nil⟩, st.inv⟩
        · cases ho : o.dst <;> exact st.defers
        · cases ho : o.dst <;> simp [Act.put, st.size]
end
end Go.Proofs.YtbobhbhgomkgpaaGreatDoor.S

/- The symbolic heap: walking a region whose order is drawn. Own work of this claim. -/
namespace Go.Proofs.YtbobhbhgomkgpaaGreatDoor.S
set_option linter.all false
open Go
variable {D : Cx}

theorem W_drawn {P : Program} {call : CallT} (hc : ∀ G hp, D G hp → CallOkH P call G hp) (hm : P.follows .mixedOrders = true) {nt : Nat} {ks : List It} {env : Env} {H : Heap} {R : Env → Heap → Prop} {id : Nat} {ops : Array Oper} {evs : List EvD}
    (hind : indep ops.toList evs = true) (hback : backB 0 ops.toList = true) (hev : EvAll P call ops.toList id 0 ops.toList evs env H)
    (h : W D P nt ks (runs (evs.map EvD.wE) env) (runs (evs.map EvD.d) H) R) : W D P nt (.code (.region id ops true) :: ks) env H R := by
  intro hk G hp hB hD ν a w st
  have hd : dstOk nt ops = true := hk (.code (.region id ops true)) (by simp)
  have hks : ∀ k ∈ ks, itOk nt k := fun k hk' => hk k (by simp [hk'])
  refine wp_region_any hm ?_
  have noS : ∀ {β : Type} (ws : List (List (Nat × β))) (s : List (Nat × β)) (k : Nat), aget (appS (fun j => (Array.replicate ops.size false).getD j false) 0 ws s) k = aget s k := by
    intro β ws s k
    have e : aget s k = aget (appS (fun j => decide (j < 0)) 0 ws s) k := by rw [appS_lt]; simp [runs]
    rw [e]
    refine appS_agree ws 0 s s rfl fun j w' _ _ => ?_
    have : (Array.replicate ops.size false).getD (0 + j) false = false := by
      simp only [Array.getD]; split
      · simp
      · rfl
    rw [this]; simp
  refine draw_sound (hc G hp hD) hd hev hind hback (fun ν a w st => h hks G hp hB hD ν a w st) ops.size _ ν env H a _ (by simp) (by simp) ?_ (fun t => (noS _ _ t).symm) (fun n => (noS _ _ n).symm) ?_
  · intro j o _ hj
    have : (Array.replicate ops.size false).getD j false = false := by
      simp only [Array.getD]; split
      · simp
      · rfl
    rw [this] at hj; cases hj
  · exact ⟨st.defers, st.size, st.env, ⟨st.inv.er, st.inv.inj, st.inv.dom, st.inv.gfr, st.inv.nb, st.inv.own, st.inv.fx⟩⟩

/-! What an outcome depends on -/
def namesA : AV → List Nat
  | .ptr n _ => [n]
  | .sl n _ _ => [n]
  | .mapv n => [n]
  | _ => []
/-- Does it look at memory? -/
def rdM : Op → Bool
  | .load _ _ | .store _ _ _ | .slice _ _ _ _ _ | .convert _ _ _ | .lookup _ _ _ _ | .mapUpdate _ _ _ _ | .insert _ _ _ _ => true
  | .call c => match c.callee with
    | .builtin .len | .builtin .cap => false
    | _ => true
  | _ => false
def fp (nm : Nat) (o : Oper) (ρ : Operand → AV) : List Nat := nm :: (if rdM o.op then o.op.operands.toList.flatMap fun x => namesA (ρ x) else [])
theorem rSlice_congr {P : Program} {g g' : Nat → Option Ent} {t : TypeId} {x : AV} {lo hi mx : Option (Option Int)} (h : ∀ n ∈ namesA x, g n = g' n) : rSlice P g t x lo hi mx = rSlice P g' t x lo hi mx := by
  unfold rSlice
  generalize (tyI P t).tk = z
  split
  · rfl
  · rename_i n o l lo hi
    rw [show g n = g' n from h n (by simp [namesA])]
  · rfl
  · rfl
  · rfl
  · rfl
theorem rLoad_congr {g g' : Nat → Option Ent} {ti : TI} {x : AV} (h : ∀ n ∈ namesA x, g n = g' n) : rLoad ti g x = rLoad ti g' x := by
  cases x
  case ptr n o =>
    have := h n (by simp [namesA])
    simp only [rLoad, this]
  all_goals rfl
theorem rStore_congr {g g' : Nat → Option Ent} {ti : TI} {x y : AV} (h : ∀ n ∈ namesA x, g n = g' n) : rStore ti g x y = rStore ti g' x y := by
  cases x
  case ptr n o =>
    have := h n (by simp [namesA])
    simp only [rStore, this]
  all_goals rfl
theorem srcG_congr {g g' : Nat → Option Ent} {sz : Nat} {x : AV} (h : ∀ n ∈ namesA x, g n = g' n) : srcG g sz x = srcG g' sz x := by
  cases x
  case sl n o l =>
    have := h n (by simp [namesA])
    simp only [srcG, this]
  all_goals rfl
theorem baseG_congr {g g' : Nat → Option Ent} {sz : Nat} {x : AV} (h : ∀ n ∈ namesA x, g n = g' n) : baseG g sz x = baseG g' sz x := by
  cases x
  case sl n o l =>
    have := h n (by simp [namesA])
    simp only [baseG, this]
  all_goals rfl
theorem rAppend_congr {P : Program} {g g' : Nat → Option Ent} {nm : Nat} {t : TypeId} {x y : AV} (h0 : g nm = g' nm) (h : ∀ n ∈ namesA x, g n = g' n) (h' : ∀ n ∈ namesA y, g n = g' n) : rAppend P nm g t x y = rAppend P nm g' t x y := by
  simp only [rAppend, baseG_congr h, srcG_congr h', h0]
theorem all_congr' {α : Type} {f f' : α → Bool} : ∀ {l : List α}, (∀ x ∈ l, f x = f' x) → l.all f = l.all f'
  | [], _ => rfl
  | a :: l, h => by simp only [List.all_cons]; rw [h a (by simp), all_congr' fun x hx => h x (by simp [hx])]
theorem flatMap_congr' {α γ : Type} {f f' : α → List γ} : ∀ {l : List α}, (∀ x ∈ l, f x = f' x) → l.flatMap f = l.flatMap f'
  | [], _ => rfl
  | a :: l, h => by simp only [List.flatMap_cons]; rw [h a (by simp), flatMap_congr' fun x hx => h x (by simp [hx])]
theorem mapM_congr' {α γ : Type} {f f' : α → Option γ} : ∀ {l : List α}, (∀ x ∈ l, f x = f' x) → l.mapM f = l.mapM f'
  | [], _ => rfl
  | a :: l, h => by simp only [List.mapM_cons]; rw [h a (by simp), mapM_congr' fun x hx => h x (by simp [hx])]
theorem optG_congr {ρ ρ' : Operand → AV} {x : Option Operand} (h : ∀ y, x = some y → ρ y = ρ' y) : optG ρ x = optG ρ' x := by
  cases x with
  | none => rfl
  | some y => simp only [optG, h y rfl]
theorem rCall_congr {P : Program} {nm : Nat} {c : Call} {ρ ρ' : Operand → AV} {g g' : Nat → Option Ent} (h : ∀ x ∈ c.operands, ρ x = ρ' x) (h0 : g nm = g' nm) (hg : rdM (.call c) = true → ∀ x ∈ c.operands, ∀ n ∈ namesA (ρ' x), g n = g' n) : rCall P nm g c ρ = rCall P nm g' c ρ' := by
  have hargs : ∀ x ∈ c.args, x ∈ c.operands := fun x hx => by simp [Call.operands, hx]
  have ha : ∀ i : Nat, (c.args[i]?).map ρ = (c.args[i]?).map ρ' := fun i => by
    cases hi : c.args[i]? with
    | none => rfl
    | some x => simp only [Option.map_some]; rw [h x (hargs x (Array.mem_of_getElem? hi))]
  have hga : rdM (.call c) = true → ∀ (i : Nat) v, (c.args[i]?).map ρ' = some v → ∀ n ∈ namesA v, g n = g' n := fun hm i v hv => by
    obtain ⟨x, hx, rfl⟩ := Option.map_eq_some_iff.1 hv
    exact hg hm x (hargs x (Array.mem_of_getElem? hx))
  have hl : c.args.toList.map ρ = c.args.toList.map ρ' := List.map_congr_left fun x hx => h x (hargs x (by simpa using hx))
  unfold rCall
  split
  · simp only [ha]
  · simp only [ha]
  · rename_i hcal
    simp only [ha]
    have hm : rdM (.call c) = true := by simp only [rdM, hcal]
    have h1 := hga hm 0
    have h2 := hga hm 1
    generalize (c.args[0]?).map ρ' = y at h1 ⊢
    generalize (c.args[1]?).map ρ' = z at h2 ⊢
    cases c.argTypes[0]? <;> cases c.argTypes[1]? <;> cases y <;> cases z <;> first | rfl | skip
    rename_i a b c d
    simp only [rAppend_congr h0 (h1 c rfl) (h2 d rfl), rMake, h0]
  · rename_i f hf
    have : ρ f = ρ' f := h f (by simp [Call.operands, hf])
    simp only [this, hl]
  · rfl
theorem res_congr {P : Program} {nm : Nat} {o : Oper} {ρ ρ' : Operand → AV} {g g' : Nat → Option Ent} (h : ∀ x ∈ o.op.operands, ρ x = ρ' x) (hg : ∀ n ∈ fp nm o ρ', g n = g' n) : res P nm o ρ g = res P nm o ρ' g' := by
  obtain ⟨dst, op, type, pos, after, guard⟩ := o
  have h0 : g nm = g' nm := hg nm (by simp [fp])
  have hx : rdM op = true → ∀ x ∈ op.operands, ∀ n ∈ namesA (ρ' x), g n = g' n := fun hm x hx n hn => hg n (by
    simp only [fp, hm, if_true, List.mem_cons, List.mem_flatMap]
    exact .inr ⟨x, by simpa using hx, hn⟩)
  have pairs : ∀ ps : Array (Nat × Operand), (∀ x ∈ ps.toList.map (·.2), ρ x = ρ' x) → (ps.toList.map fun p => (p.1, ρ p.2)) = (ps.toList.map fun p => (p.1, ρ' p.2)) := fun ps hp =>
    List.map_congr_left fun p hm => by
      have := hp p.2 (List.mem_map.2 ⟨p, hm, rfl⟩)
      rw [this]
  cases op <;> simp only [Op.operands] at h hx <;> simp only [res]
  case build t ps => rw [pairs ps fun x hx => h x (by simpa using hx)]
  case buildSlice t n ps =>
    have hp := pairs ps fun x hx => h x (by simpa using hx)
    have hq : ∀ p ∈ ps.toList, ρ p.2 = ρ' p.2 := fun p hm => h p.2 (by simp only [List.mem_toArray]; exact List.mem_map.2 ⟨p, hm, rfl⟩)
    have e1 : ∀ z, (ps.toList.all fun p => (cellsOf (ρ p.2)).length == z) = (ps.toList.all fun p => (cellsOf (ρ' p.2)).length == z) := fun z => all_congr' fun p hm => by rw [hq p hm]
    have e2 : (ps.toList.flatMap fun p => cellsOf (ρ p.2)) = (ps.toList.flatMap fun p => cellsOf (ρ' p.2)) := flatMap_congr' fun p hm => by rw [hq p hm]
    simp only [hp, e1, e2, h0]
  case makeFunc fn first caps =>
    cases fn <;> first | rfl | skip
    rename_i f
    have e : ∀ x ∈ caps.toList, (match ρ x with | .ptr n o => some (n, o) | _ => none) = (match ρ' x with | .ptr n o => some (n, o) | _ => none) := fun x hx => by rw [h x (by simp at hx; simp [hx])]
    have := mapM_congr' e
    dsimp only
    split
    · rename_i h1; have h2 := this.symm.trans h1; split
      · rename_i h3; have h4 := h3.symm.trans h2; cases h4; rfl
      · rename_i h3; have h4 := h3.symm.trans h2; cases h4
    · rename_i h1; have h2 := this.symm.trans h1; split
      · rename_i h3; have h4 := h3.symm.trans h2; cases h4
      · rfl
  case call c => exact rCall_congr h h0 hx
  case slice t x lo hi mx =>
    have e1 : ρ x = ρ' x := h x (by simp)
    have e2 : optG ρ lo = optG ρ' lo := optG_congr fun y hy => h y (by simp [hy])
    have e3 : optG ρ hi = optG ρ' hi := optG_congr fun y hy => h y (by simp [hy])
    have e4 : optG ρ mx = optG ρ' mx := optG_congr fun y hy => h y (by simp [hy])
    rw [e1, e2, e3, e4]
    exact rSlice_congr (hx rfl x (by simp))
  case load t x =>
    have e1 : ρ x = ρ' x := h x (by simp)
    rw [e1]; exact rLoad_congr (hx rfl x (by simp))
  case store t x y =>
    have e1 : ρ x = ρ' x := h x (by simp)
    have e2 : ρ y = ρ' y := h y (by simp)
    rw [e1, e2]; exact rStore_congr (hx rfl x (by simp))
  case convert a b x =>
    have e1 : ρ x = ρ' x := h x (by simp)
    have := hx rfl x (by simp)
    rw [e1]
    generalize ρ' x = y at this ⊢
    have e2 : srcG g 1 y = srcG g' 1 y := srcG_congr this
    generalize (tyI P a).tk = za
    generalize (tyI P b).tk = zb
    cases za <;> cases zb <;> first | rfl | (simp only [e2]; done) | (cases y <;> rfl)
  case makeMap t r =>
    cases r <;> dsimp only
    rw [h0]
  case lookup t x i c =>
    cases c <;> dsimp only
    have e1 : ρ x = ρ' x := h x (by simp)
    have e2 : ρ i = ρ' i := h i (by simp)
    have := hx rfl x (by simp)
    rw [e1, e2]
    generalize ρ' x = y at this ⊢
    generalize ρ' i = z
    cases y <;> cases z <;> first | rfl | skip
    rename_i n s
    simp only [show g n = g' n from this n (by simp [namesA])]
  case mapUpdate t m k x =>
    have e1 : ρ m = ρ' m := h m (by simp)
    have e2 : ρ k = ρ' k := h k (by simp)
    have e3 : ρ x = ρ' x := h x (by simp)
    have := hx rfl m (by simp)
    rw [e1, e2, e3]
    generalize ρ' m = y at this ⊢
    generalize ρ' k = z
    generalize ρ' x = u
    cases y <;> cases z <;> cases u <;> first | rfl | skip
    rename_i n s b
    simp only [show g n = g' n from this n (by simp [namesA])]
  case insert t m k x =>
    have e1 : ρ m = ρ' m := h m (by simp)
    have e2 : ρ k = ρ' k := h k (by simp)
    have e3 : ρ x = ρ' x := h x (by simp)
    have := hx rfl m (by simp)
    rw [e1, e2, e3]
    generalize ρ' m = y at this ⊢
    generalize ρ' k = z
    generalize ρ' x = u
    cases y <;> cases z <;> cases u <;> first | rfl | skip
    rename_i n s b
    simp only [show g n = g' n from this n (by simp [namesA])]
  all_goals first | rfl | (simp_all; done)

/-- A call as an event. -/
def CallEv (call : CallT) (g : Nat) (args : List AV) (nm : Nat) (H : Heap) (rd : List Nat) (v : AV) (d : List (Nat × Ent)) : Prop :=
  ∀ H2, (∀ n ∈ rd, aget H2 n = aget H n) → ∀ K : Kt, (∀ H', (∀ n, aget H' n = aget (setsH H2 d) n) → K v H') → call g args H2 nm K
/-- A region of drawn order, walked in the text's order. -/
def rdraw (P : Program) (call : CallT) (all : List Oper) (id : Nat) : Nat → List Oper → Env → Heap → List EvD → (Env → Heap → Prop) → Prop
  | _, [], env, H, acc, K => indep all acc = true ∧ K env H
  | i, o :: os, env, H, acc, K => match gA all env o with
    | some true => (match res P (nmOf id i) o (ev env) (aget H) with
      | .ok ob v d => ob ∧ rdraw P call all id (i + 1) os (put env o.dst v) (setsH H d) (acc ++ [⟨slots all o, fp (nmOf id i) o (ev env), o.dst, v, d⟩]) K
      | .pick b x y => rdraw P call all id (i + 1) os (put env o.dst (bif b then x else y)) H (acc ++ [⟨slots all o, fp (nmOf id i) o (ev env), o.dst, bif b then x else y, []⟩]) K
      | .call g args => ∃ rd v d, CallEv call g args (nmOf id i) H rd v d ∧ rdraw P call all id (i + 1) os (put env o.dst v) (setsH H d) (acc ++ [⟨slots all o, fp (nmOf id i) o (ev env) ++ rd, o.dst, v, d⟩]) K
      | _ => False)
    | some false => rdraw P call all id (i + 1) os (put env o.dst (.tup [])) H (acc ++ [⟨slots all o, [], o.dst, .tup [], []⟩]) K
    | none => False
theorem ev_slots {all : List Oper} {o : Oper} {env env' : Env} (h : ∀ t ∈ slots all o, env'.get t = env.get t) : ∀ x ∈ o.op.operands, ev env' x = ev env x := by
  intro x hx
  cases x with
  | tmp t => exact h t (List.mem_append_left _ (List.mem_filterMap.2 ⟨.tmp t, by simpa using hx, rfl⟩))
  | _ => rfl
theorem gA_slots {all : List Oper} {o : Oper} {env env' : Env} (h : ∀ t ∈ slots all o, env'.get t = env.get t) : gA all env' o = gA all env o :=
  gA_congr fun t ht => h t (List.mem_append_right _ ht)
theorem put_wE (env : Env) (d : Option Nat) (v : AV) (s n : List Nat) (x : List (Nat × Ent)) : S.put env d v = setsH env (EvD.wE ⟨s, n, d, v, x⟩) := by cases d <;> rfl
theorem rdraw_evs {P : Program} {call : CallT} {all : List Oper} {id : Nat} {K : Env → Heap → Prop} : ∀ (os : List Oper) (i : Nat) (env : Env) (H : Heap) (acc : List EvD), rdraw P call all id i os env H acc K →
    ∃ evs, EvAll P call all id i os evs env H ∧ indep all (acc ++ evs) = true ∧ K (runs (evs.map EvD.wE) env) (runs (evs.map EvD.d) H)
  | [], i, env, H, acc, h => ⟨[], trivial, by simpa using h.1, h.2⟩
  | o :: os, i, env, H, acc, h => by
    have go : ∀ (e : EvD), EvOk P call all (nmOf id i) o e env H → rdraw P call all id (i + 1) os (setsH env e.wE) (setsH H e.d) (acc ++ [e]) K →
        ∃ evs, EvAll P call all id i (o :: os) evs env H ∧ indep all (acc ++ evs) = true ∧ K (runs (evs.map EvD.wE) env) (runs (evs.map EvD.d) H) := by
      intro e he hr
      obtain ⟨evs, h1, h2, h3⟩ := rdraw_evs os _ _ _ _ hr
      exact ⟨e :: evs, ⟨he, h1⟩, by simpa using h2, h3⟩
    simp only [rdraw] at h
    split at h
    · rename_i hg
      split at h
      · rename_i ob v d hres
        refine go ⟨slots all o, fp (nmOf id i) o (ev env), o.dst, v, d⟩ ⟨rfl, fun env' H' h1 h2 => ⟨true, by rw [gA_slots h1, hg], fun _ K hK => ?_, by simp⟩⟩ (by rw [← put_wE]; exact h.2)
        refine res_stp ?_
        rw [res_congr (ev_slots h1) h2, hres]
        exact ⟨h.1, hK _ fun _ => rfl⟩
      · rename_i b x y hres
        refine go ⟨slots all o, fp (nmOf id i) o (ev env), o.dst, bif b then x else y, []⟩ ⟨rfl, fun env' H' h1 h2 => ⟨true, by rw [gA_slots h1, hg], fun _ K hK => ?_, by simp⟩⟩ (by rw [← put_wE]; exact h)
        refine res_stp ?_
        rw [res_congr (ev_slots h1) h2, hres]
        have := hK H' fun _ => rfl
        cases b
        · exact ⟨by simp, fun _ => this⟩
        · exact ⟨fun _ => this, by simp⟩
      · rename_i g args hres
        obtain ⟨rd, v, d, hc, hr⟩ := h
        refine go ⟨slots all o, fp (nmOf id i) o (ev env) ++ rd, o.dst, v, d⟩ ⟨rfl, fun env' H' h1 h2 => ⟨true, by rw [gA_slots h1, hg], fun _ K hK => ?_, by simp⟩⟩ ?_
        · refine res_stp ?_
          rw [res_congr (ev_slots h1) fun n hn => h2 n (List.mem_append_left _ hn), hres]
          exact hc H' (fun n hn => h2 n (List.mem_append_right _ hn)) K hK
        · rw [← put_wE]; exact hr
      · exact h.elim
    · rename_i hg
      exact go ⟨slots all o, [], o.dst, .tup [], []⟩ ⟨rfl, fun env' H' h1 h2 => ⟨false, by rw [gA_slots h1, hg], by simp, fun _ => ⟨rfl, rfl⟩⟩⟩ (by rw [← put_wE]; exact h)
    · exact h.elim
theorem W_dw {P : Program} {call : CallT} (hc : ∀ G hp, D G hp → CallOkH P call G hp) (hm : P.follows .mixedOrders = true) {nt : Nat} {ks : List It} {env : Env} {H : Heap} {R : Env → Heap → Prop} {id : Nat} {ops : Array Oper} (hback : backB 0 ops.toList = true)
    (h : ∀ K : Env → Heap → Prop, (∀ env H, W D P nt ks env H R → K env H) → rdraw P call ops.toList id 0 ops.toList env H [] K) : W D P nt (.code (.region id ops true) :: ks) env H R := by
  obtain ⟨evs, h1, h2, h3⟩ := rdraw_evs _ _ _ _ _ (h (fun env H => W D P nt ks env H R) fun _ _ h => h)
  exact W_drawn hc hm h2 hback h1 h3

/-! The same by a script: what guards and calls come to is told ahead, and the check of the order is apart -/
inductive Scr where
  | g (b : Bool)
  | c (rd : List Nat) (v : AV) (d : List (Nat × Ent))
  | w (i : Nat) (v : AV)
/-- A value that the script tells, and the script behind it. -/
def sv (i : Nat) (v : AV) : List Scr → AV
  | .w j u :: _ => if j = i then u else v
  | _ => v
def sr (i : Nat) : List Scr → List Scr
  | .w j u :: r => if j = i then r else .w j u :: r
  | s => s
def rdr (P : Program) (call : CallT) (all : List Oper) (id : Nat) : Nat → List Oper → Env → Heap → List Scr → (Env → Heap → Prop) → Prop
  | _, [], env, H, _, K => K env H
  | i, o :: os, env, H, scr, K => match o.guard with
    | none => (match res P (nmOf id i) o (ev env) (aget H) with
      | .ok ob v d => ob ∧ v = sv i v scr ∧ rdr P call all id (i + 1) os (put env o.dst (sv i v scr)) (setsH H d) (sr i scr) K
      | .pick b x y => (bif b then x else y) = sv i (bif b then x else y) scr ∧ rdr P call all id (i + 1) os (put env o.dst (sv i (bif b then x else y) scr)) H (sr i scr) K
      | .call g args => match scr with
        | .c rd v d :: scr' => CallEv call g args (nmOf id i) H rd v d ∧ rdr P call all id (i + 1) os (put env o.dst v) (setsH H d) scr' K
        | _ => False
      | _ => False)
    | some _ => match scr with
      | .g true :: scr => gA all env o = some true ∧ (match res P (nmOf id i) o (ev env) (aget H) with
        | .ok ob v d => ob ∧ v = sv i v scr ∧ rdr P call all id (i + 1) os (put env o.dst (sv i v scr)) (setsH H d) (sr i scr) K
        | .pick b x y => (bif b then x else y) = sv i (bif b then x else y) scr ∧ rdr P call all id (i + 1) os (put env o.dst (sv i (bif b then x else y) scr)) H (sr i scr) K
        | .call g args => match scr with
          | .c rd v d :: scr' => CallEv call g args (nmOf id i) H rd v d ∧ rdr P call all id (i + 1) os (put env o.dst v) (setsH H d) scr' K
          | _ => False
        | _ => False)
      | .g false :: scr => gA all env o = some false ∧ rdr P call all id (i + 1) os (put env o.dst (.tup [])) H scr K
      | _ => False
def drawOk (P : Program) (all : List Oper) (id : Nat) : Nat → List Oper → Env → Heap → List Scr → List EvD → Bool
  | _, [], _, _, _, acc => indep all acc
  | i, o :: os, env, H, scr, acc => match o.guard with
    | none => (match res P (nmOf id i) o (ev env) (aget H) with
      | .ok _ v d => drawOk P all id (i + 1) os (put env o.dst (sv i v scr)) (setsH H d) (sr i scr) (acc ++ [⟨slots all o, fp (nmOf id i) o (ev env), o.dst, sv i v scr, d⟩])
      | .pick b x y => drawOk P all id (i + 1) os (put env o.dst (sv i (bif b then x else y) scr)) H (sr i scr) (acc ++ [⟨slots all o, fp (nmOf id i) o (ev env), o.dst, sv i (bif b then x else y) scr, []⟩])
      | .call _ _ => match scr with
        | .c rd v d :: scr' => drawOk P all id (i + 1) os (put env o.dst v) (setsH H d) scr' (acc ++ [⟨slots all o, fp (nmOf id i) o (ev env) ++ rd, o.dst, v, d⟩])
        | _ => false
      | _ => false)
    | some _ => match scr with
      | .g true :: scr => (match res P (nmOf id i) o (ev env) (aget H) with
        | .ok _ v d => drawOk P all id (i + 1) os (put env o.dst (sv i v scr)) (setsH H d) (sr i scr) (acc ++ [⟨slots all o, fp (nmOf id i) o (ev env), o.dst, sv i v scr, d⟩])
        | .pick b x y => drawOk P all id (i + 1) os (put env o.dst (sv i (bif b then x else y) scr)) H (sr i scr) (acc ++ [⟨slots all o, fp (nmOf id i) o (ev env), o.dst, sv i (bif b then x else y) scr, []⟩])
        | .call _ _ => match scr with
          | .c rd v d :: scr' => drawOk P all id (i + 1) os (put env o.dst v) (setsH H d) scr' (acc ++ [⟨slots all o, fp (nmOf id i) o (ev env) ++ rd, o.dst, v, d⟩])
          | _ => false
        | _ => false)
      | .g false :: scr => drawOk P all id (i + 1) os (put env o.dst (.tup [])) H scr (acc ++ [⟨slots all o, [], o.dst, .tup [], []⟩])
      | _ => false
theorem rdr_draw {P : Program} {call : CallT} {all : List Oper} {id : Nat} {K : Env → Heap → Prop} : ∀ (os : List Oper) (i : Nat) (env : Env) (H : Heap) (scr : List Scr) (acc : List EvD),
    drawOk P all id i os env H scr acc = true → rdr P call all id i os env H scr K → rdraw P call all id i os env H acc K
  | [], _, _, _, _, _, h1, h2 => ⟨h1, h2⟩
  | o :: os, i, env, H, scr, acc, h1, h2 => by
    simp only [drawOk] at h1
    simp only [rdr] at h2
    simp only [rdraw]
    cases hg : o.guard with
    | none =>
      rw [hg] at h1 h2
      have : gA all env o = some true := by simp [gA, hg]
      rw [this]
      simp only at h1 h2 ⊢
      generalize res P (nmOf id i) o (ev env) (aget H) = r at h1 h2
      cases r <;> simp only at h1 h2 ⊢
      case ok =>
        have q := rdr_draw _ _ _ _ _ _ h1 h2.2.2
        rw [← h2.2.1] at q
        exact ⟨h2.1, q⟩
      case pick =>
        have q := rdr_draw _ _ _ _ _ _ h1 h2.2
        rw [← h2.1] at q
        exact q
      case call =>
        split at h2
        · simp only at h1
          exact ⟨_, _, _, h2.1, rdr_draw _ _ _ _ _ _ h1 h2.2⟩
        · exact h2.elim
    | some q =>
      rw [hg] at h1 h2
      simp only at h1 h2
      split at h2
      · rw [h2.1]
        have h2 := h2.2
        simp only at h1 h2 ⊢
        generalize res P (nmOf id i) o (ev env) (aget H) = r at h1 h2
        cases r <;> simp only at h1 h2 ⊢
        case ok =>
          have q := rdr_draw _ _ _ _ _ _ h1 h2.2.2
          rw [← h2.2.1] at q
          exact ⟨h2.1, q⟩
        case pick =>
          have q := rdr_draw _ _ _ _ _ _ h1 h2.2
          rw [← h2.1] at q
          exact q
        case call =>
          split at h2
          · simp only at h1
            exact ⟨_, _, _, h2.1, rdr_draw _ _ _ _ _ _ h1 h2.2⟩
          · exact h2.elim
      · rw [h2.1]
        exact rdr_draw _ _ _ _ _ _ h1 h2.2
      · exact h2.elim
theorem W_ds {P : Program} (hm : P.follows .mixedOrders = true) {nt : Nat} {ks : List It} {env : Env} {H : Heap} {R : Env → Heap → Prop} {id : Nat} {ops : Array Oper} (scr : List Scr) (hback : backB 0 ops.toList = true)
    (hok : drawOk P ops.toList id 0 ops.toList env H scr [] = true)
    (h : ∀ K : Env → Heap → Prop, (∀ env H, W D P nt ks env H R → K env H) → rdr P (callA P) ops.toList id 0 ops.toList env H scr K) : W D P nt (.code (.region id ops true) :: ks) env H R :=
  W_dw (fun G hp _ => callA_ok P G hp) hm hback fun K hK => rdr_draw _ _ _ _ _ _ hok (h K hK)
/-- The same, where calls may rest on what is known. -/
theorem W_dsC {P : Program} (hm : P.follows .mixedOrders = true) {nt : Nat} {ks : List It} {env : Env} {H : Heap} {R : Env → Heap → Prop} {id : Nat} {ops : Array Oper} (scr : List Scr) (hback : backB 0 ops.toList = true)
    (hok : drawOk P ops.toList id 0 ops.toList env H scr [] = true)
    (h : ∀ K : Env → Heap → Prop, (∀ env H, W D P nt ks env H R → K env H) → rdr P (callC D P) ops.toList id 0 ops.toList env H scr K) : W D P nt (.code (.region id ops true) :: ks) env H R :=
  W_dw (fun G hp hD => callC_ok P hD) hm hback fun K hK => rdr_draw _ _ _ _ _ _ hok (h K hK)
/-- The same, with calls kept shut. -/
def CallKd (P : Program) (call : CallT) (all : List Oper) (id i : Nat) (os : List Oper) (dst : Option Tmp) (env : Env) (scr : List Scr) (K : Env → Heap → Prop) (g : Nat) (args : List AV) (H : Heap) (rd : List Nat) (v : AV) (d : List (Nat × Ent)) : Prop :=
  CallEv call g args (nmOf id i) H rd v d ∧ rdr P call all id (i + 1) os (put env dst v) (setsH H d) scr K
theorem rdr_nil {P : Program} {call : CallT} {all : List Oper} {id i : Nat} {env : Env} {H : Heap} {scr : List Scr} {K : Env → Heap → Prop} : rdr P call all id i [] env H scr K = K env H := rfl
/-- An operation's outcome, kept shut till it is known. -/
def Rd (P : Program) (call : CallT) (all : List Oper) (id i : Nat) (os : List Oper) (d : Option Tmp) (env : Env) (H : Heap) (scr : List Scr) (K : Env → Heap → Prop) : Res → Prop
  | .ok ob v d' => ob ∧ v = sv i v scr ∧ rdr P call all id (i + 1) os (put env d (sv i v scr)) (setsH H d') (sr i scr) K
  | .pick b x y => (bif b then x else y) = sv i (bif b then x else y) scr ∧ rdr P call all id (i + 1) os (put env d (sv i (bif b then x else y) scr)) H (sr i scr) K
  | .call g args => match scr with
    | .c rd v d' :: scr' => CallKd P call all id i os d env scr' K g args H rd v d'
    | _ => False
  | _ => False
section
variable {P : Program} {call : CallT} {all : List Oper} {id i : Nat} {o : Oper} {os : List Oper} {env : Env} {H : Heap} {scr : List Scr} {K : Env → Heap → Prop} {d : Option Tmp}
theorem Rd_ok {ob : Prop} {v : AV} {d' : List (Nat × Ent)} : Rd P call all id i os d env H scr K (.ok ob v d') = (ob ∧ v = sv i v scr ∧ rdr P call all id (i + 1) os (put env d (sv i v scr)) (setsH H d') (sr i scr) K) := hardEq rfl
theorem Rd_pick {b : Bool} {x y : AV} : Rd P call all id i os d env H scr K (.pick b x y) = ((bif b then x else y) = sv i (bif b then x else y) scr ∧ rdr P call all id (i + 1) os (put env d (sv i (bif b then x else y) scr)) H (sr i scr) K) := hardEq rfl
theorem sv_n {v : AV} : sv i v [] = v := by unfold sv; rfl
theorem sv_g {v : AV} {b : Bool} {r : List Scr} : sv i v (.g b :: r) = v := by unfold sv; rfl
theorem sv_c {v x : AV} {rd : List Nat} {dl : List (Nat × Ent)} {r : List Scr} : sv i v (.c rd x dl :: r) = v := by unfold sv; rfl
theorem sv_w {v u : AV} {j : Nat} {r : List Scr} : sv i v (.w j u :: r) = if j = i then u else v := by unfold sv; rfl
theorem sr_n : sr i [] = [] := by unfold sr; rfl
theorem sr_g {b : Bool} {r : List Scr} : sr i (.g b :: r) = .g b :: r := by unfold sr; rfl
theorem sr_c {x : AV} {rd : List Nat} {dl : List (Nat × Ent)} {r : List Scr} : sr i (.c rd x dl :: r) = .c rd x dl :: r := by unfold sr; rfl
theorem sr_w {u : AV} {j : Nat} {r : List Scr} : sr i (.w j u :: r) = if j = i then r else .w j u :: r := by unfold sr; rfl
theorem Rd_call {g : Nat} {args : List AV} {rd : List Nat} {v : AV} {d' : List (Nat × Ent)} : Rd P call all id i os d env H (.c rd v d' :: scr) K (.call g args) = CallKd P call all id i os d env scr K g args H rd v d' := hardEq rfl
theorem rdr_cons : rdr P call all id i (o :: os) env H scr K = (match o.guard with
    | none => Rd P call all id i os o.dst env H scr K (res P (nmOf id i) o (ev env) (aget H))
    | some _ => match scr with
      | .g true :: scr => gA all env o = some true ∧ Rd P call all id i os o.dst env H scr K (res P (nmOf id i) o (ev env) (aget H))
      | .g false :: scr => gA all env o = some false ∧ rdr P call all id (i + 1) os (put env o.dst (.tup [])) H scr K
      | _ => False) := by
  apply hardEq
  simp only [rdr]
  cases hg : o.guard with
  | none =>
    simp only
    cases res P (nmOf id i) o (ev env) (aget H) with
    | call g args =>
      simp only [Rd]
      cases scr with
      | nil => rfl
      | cons x r => cases x <;> rfl
    | _ => rfl
  | some p =>
    simp only
    cases scr with
    | nil => rfl
    | cons x r => cases x with
      | c _ _ _ => rfl
      | w _ _ => rfl
      | g b => cases b with
        | false => rfl
        | true =>
          simp only
          cases res P (nmOf id i) o (ev env) (aget H) with
          | call g args =>
            simp only [Rd]
            cases r with
            | nil => rfl
            | cons x r => cases x <;> rfl
          | _ => rfl
end

/-! A call's changes, told without the memory that they change -/
def backOwnD (μ : List (Nat × (Nat × Nat))) (ρ : Mu) (H1 : Heap) : Heap → List (Nat × Ent)
  | [] => []
  | (i, e) :: r => (if e.isOwn then match aget μ i with
      | some (j, _) => [(j, match aget H1 i with | some e => renE ρ e | none => .dead)]
      | none => []
    else []) ++ backOwnD μ ρ H1 r
def backNewD (ρ : Mu) (nm : Nat) : Heap → List (Nat × Ent)
  | [] => []
  | (i, e) :: r => (if 100 ≤ i ∧ i < 116 then [(nwK nm (i - 100), renE ρ e)] else []) ++ backNewD ρ nm r
def afterD (μ : List (Nat × (Nat × Nat))) (nm : Nat) (H0 H1 : Heap) : List (Nat × Ent) := backOwnD μ (mu1 μ nm) H1 H0 ++ backNewD (mu1 μ nm) nm H1
theorem backOwnD_eq (μ : List (Nat × (Nat × Nat))) (ρ : Mu) (H1 : Heap) : ∀ (H0 H : Heap), backOwn μ ρ H1 H0 H = setsH H (backOwnD μ ρ H1 H0)
  | [], _ => rfl
  | (i, e) :: r, H => by
    simp only [backOwn, backOwnD]
    rw [backOwnD_eq μ ρ H1 r]
    cases e.isOwn
    · rfl
    · cases aget μ i <;> rfl
theorem backNewD_eq (ρ : Mu) (nm : Nat) : ∀ (H1 H : Heap), backNew ρ nm H1 H = setsH H (backNewD ρ nm H1)
  | [], _ => rfl
  | (i, e) :: r, H => by
    simp only [backNew, backNewD]
    rw [backNewD_eq ρ nm r]
    split <;> rfl
theorem afterD_eq (μ : List (Nat × (Nat × Nat))) (nm : Nat) (H H0 H1 : Heap) : afterH μ nm H H0 H1 = setsH H (afterD μ nm H0 H1) := by
  unfold afterH afterD
  rw [backNewD_eq, backOwnD_eq, setsH_append]
def rdOf (nm : Nat) (μ : List (Nat × (Nat × Nat))) : List Nat := [nm, nm + 1, nm + 2, nm + 3, nm + 4, nm + 5, nm + 6, nm + 7, nm + 4000000, nm + 4000001, nm + 4000002, nm + 4000003, nm + 4000004, nm + 4000005, nm + 4000006, nm + 4000007] ++ μ.map fun p => p.2.1
theorem mem_of_aget' {β : Type} {l : List (Nat × β)} {n : Nat} {e : β} (h : aget l n = some e) : (n, e) ∈ l := mem_of_aget h
theorem aget_ne_none {β : Type} : ∀ {l : List (Nat × β)} {n : Nat} {e : β}, (n, e) ∈ l → aget l n ≠ none
  | (k, x) :: r, n, e, h => by
    simp only [aget]
    split
    · simp
    · rename_i hk
      simp only [List.mem_cons, Prod.mk.injEq] at h
      rcases h with ⟨rfl, _⟩ | h
      · exact absurd rfl hk
      · exact aget_ne_none h
theorem freeB_congr {H H2 : Heap} {nm : Nat} {μ : List (Nat × (Nat × Nat))} (h : freeB H nm = true) (e : ∀ n ∈ rdOf nm μ, aget H2 n = aget H n) : freeB H2 nm = true := by
  refine List.all_eq_true.2 fun p hp => ?_
  have hne := aget_ne_none (n := p.1) (e := p.2) hp
  by_cases hn : ∃ k, k < 16 ∧ p.1 = nwK nm k
  · obtain ⟨k, hk, e1⟩ := hn
    exfalso
    have hmem : p.1 ∈ rdOf nm μ := by
      refine List.mem_append_left _ ?_
      rw [e1]
      simp only [List.mem_cons, List.not_mem_nil, or_false]
      unfold nwK
      split <;> omega
    refine hne ?_
    rw [e _ hmem, e1]
    exact free_get h hk
  · have h1 : ¬ (nm ≤ p.1 ∧ p.1 < nm + 8) := fun q => hn ⟨p.1 - nm, by omega, by unfold nwK; rw [if_pos (by omega)]; omega⟩
    have h2 : ¬ (nm + 4000000 ≤ p.1 ∧ p.1 < nm + 4000008) := fun q => hn ⟨p.1 - (nm + 4000000) + 8, by omega, by unfold nwK; rw [if_neg (by omega)]; omega⟩
    simp only [Bool.or_eq_true, Bool.and_eq_true, decide_eq_true_eq]
    omega
theorem matchH_congr {μ : List (Nat × (Nat × Nat))} {H H2 : Heap} (e : ∀ p ∈ μ, aget H2 p.2.1 = aget H p.2.1) : ∀ {H0 : Heap}, matchH μ H H0 → matchH μ H2 H0
  | [], _ => trivial
  | (i, x) :: r, h => by
    refine ⟨⟨h.1.1, ?_⟩, matchH_congr e h.2⟩
    have := h.1.2
    cases hm : aget μ i with
    | none => rw [hm] at this; exact this
    | some q =>
      obtain ⟨j, o⟩ := q
      rw [hm] at this
      simp only at this ⊢
      rw [e _ (mem_of_aget' hm)]
      exact this
theorem callEv_of {P : Program} {g : Nat} {args args0 : List AV} {nm : Nat} {H H0 H1 : Heap} {r : AV} {μ : List (Nat × (Nat × Nat))} (hfn : Fn P g H0 args0 fun r' H' => r' = r ∧ H' = H1)
    (hs : args.all AV.fits = true ∧ args = args0.map (renA (aget μ)) ∧ matchH μ H H0 ∧ apartB μ H0 = true ∧ freeB H nm = true ∧ domB μ H0 = true ∧ nodupB H0 = true ∧ 100 ≤ nm ∧ nodupB H1 = true) :
    CallEv (callA P) g args nm H (rdOf nm μ) (renV (mu1 μ nm) r) (afterD μ nm H0 H1) := by
  obtain ⟨a1, a2, a3, a4, a5, a6, a7, a8, a9⟩ := hs
  intro H2 he K hK
  refine ⟨H0, args0, _, μ, hfn, a1, a2, matchH_congr (fun p hp => he _ ?_) a3, a4, freeB_congr a5 he, a6, a7, a8, ?_⟩
  · exact List.mem_append_right _ (List.mem_map.2 ⟨p, hp, rfl⟩)
  · rintro _ _ ⟨rfl, rfl⟩
    exact ⟨a9, by rw [afterD_eq]; exact hK _ fun _ => rfl⟩
theorem callKd_of {P : Program} {all os : List Oper} {id i g : Nat} {d : Option Tmp} {env : Env} {scr : List Scr} {K : Env → Heap → Prop} {args args0 : List AV} {H H0 H1 : Heap} {r : AV} {μ : List (Nat × (Nat × Nat))}
    (hfn : Fn P g H0 args0 fun r' H' => r' = r ∧ H' = H1)
    (hs : args.all AV.fits = true ∧ args = args0.map (renA (aget μ)) ∧ matchH μ H H0 ∧ apartB μ H0 = true ∧ freeB H (nmOf id i) = true ∧ domB μ H0 = true ∧ nodupB H0 = true ∧ 100 ≤ nmOf id i ∧ nodupB H1 = true)
    (h : rdr P (callA P) all id (i + 1) os (S.put env d (renV (mu1 μ (nmOf id i)) r)) (setsH H (afterD μ (nmOf id i) H0 H1)) scr K) :
    CallKd P (callA P) all id i os d env scr K g args H (rdOf (nmOf id i) μ) (renV (mu1 μ (nmOf id i)) r) (afterD μ (nmOf id i) H0 H1) := ⟨callEv_of hfn hs, h⟩

theorem callEvC_of {P : Program} {C : Cx} {g : Nat} {args args0 : List AV} {nm : Nat} {H H0 H1 : Heap} {r : AV} {μ : List (Nat × (Nat × Nat))} (hfn : FnC C P g H0 args0 fun r' H' => r' = r ∧ H' = H1) (htr : C.tr) (hDC : ∀ G hp, D G hp → C G hp)
    (hs : args.all AV.fits = true ∧ args = args0.map (renA (aget μ)) ∧ matchH μ H H0 ∧ apartB μ H0 = true ∧ freeB H nm = true ∧ domB μ H0 = true ∧ nodupB H0 = true ∧ 100 ≤ nm ∧ nodupB H1 = true) :
    CallEv (callC D P) g args nm H (rdOf nm μ) (renV (mu1 μ nm) r) (afterD μ nm H0 H1) := by
  obtain ⟨a1, a2, a3, a4, a5, a6, a7, a8, a9⟩ := hs
  intro H2 he K hK
  refine ⟨C, H0, args0, _, μ, hfn, htr, hDC, a1, a2, matchH_congr (fun p hp => he _ ?_) a3, a4, freeB_congr a5 he, a6, a7, a8, ?_⟩
  · exact List.mem_append_right _ (List.mem_map.2 ⟨p, hp, rfl⟩)
  · rintro _ _ ⟨rfl, rfl⟩
    exact ⟨a9, by rw [afterD_eq]; exact hK _ fun _ => rfl⟩

end Go.Proofs.YtbobhbhgomkgpaaGreatDoor.S

/- The symbolic heap: an entry cut short, an entry under another name. Own work of this claim. -/
namespace Go.Proofs.YtbobhbhgomkgpaaGreatDoor.S
set_option linter.all false
open Go
variable {D : Cx}

theorem Inv.cut {G : Nat → Prop} {hp : HP} {ν : Nm} {H : Heap} {w : World} (h : Inv G hp ν H w) {n : Nat} {own : Bool} {lv lv' : LV} (h0 : aget H n = some (.c own lv)) (hl : lv'.toL <+: lv.toL) (hz : lv'.z = lv.z) :
    Inv G hp ν (aset H n (.c own lv')) w := by
  have hne : aget H n ≠ none := by rw [h0]; simp
  refine ⟨?_, ?_, ?_, h.gfr, fun m hm => ⟨(h.nb m hm).1, aset_ne (h.nb m hm).2⟩, ?_, h.fx⟩
  · intro m e hm
    rw [aget_aset] at hm
    split at hm
    · rename_i q; subst q; cases hm
      have := h.er n _ h0
      simp only [ER] at this ⊢
      split
      · rename_i hn; rw [hn] at this; simp only at this; rw [this] at hl; exact List.prefix_nil.1 hl
      · rename_i L hn
        rw [hn] at this
        simp only at this
        obtain ⟨e0, arr, T, fr, h1, h2, h3, h4, h5⟩ := this
        obtain ⟨t, ht⟩ := hl
        have hlen : lv'.toL.length ≤ lv.toL.length := by rw [← ht]; simp
        refine ⟨by rw [hz]; exact e0, arr, T, fr, h1, h2, by omega, fun k hk => ?_, h5⟩
        obtain ⟨v, hv, c, hc, hr⟩ := h4 k (by omega)
        refine ⟨v, hv, c, ?_, hr⟩
        rw [← ht, List.getElem?_append_left hk] at hc
        exact hc
    · exact h.er m e hm
  · intro a b x y hx hxo hy hyl hab L L' hL hL'
    have g : ∀ m e, aget (aset H n (.c own lv')) m = some e → ∃ e0, aget H m = some e0 ∧ e0.isOwn = e.isOwn ∧ e0.live = e.live := by
      intro m e hm
      rw [aget_aset] at hm
      split at hm
      · rename_i q; subst q; cases hm; exact ⟨_, h0, rfl, rfl⟩
      · exact ⟨e, hm, rfl, rfl⟩
    obtain ⟨x0, hx1, hx2, _⟩ := g a x hx
    obtain ⟨y0, hy1, _, hy3⟩ := g b y hy
    exact h.inj a b x0 y0 hx1 (by rw [hx2]; exact hxo) hy1 (by rw [hy3]; exact hyl) hab L L' hL hL'
  · intro m hm
    rw [aget_aset] at hm
    split at hm
    · cases hm
    · exact h.dom m hm
  · intro m x L hx hxo hL
    rw [aget_aset] at hx
    split at hx
    · rename_i q; subst q; cases hx; exact h.own n _ L h0 hxo hL
    · exact h.own m x L hx hxo hL

theorem aget_mapE (μ : Mu) (H : Heap) (n : Nat) : aget (H.map fun p => (p.1, renE μ p.2)) n = (aget H n).map (renE μ) := by
  induction H with
  | nil => rfl
  | cons p r ih =>
    obtain ⟨k, e⟩ := p
    simp only [List.map_cons, aget]
    split
    · rfl
    · exact ih
theorem renE_own (μ : Mu) (e : Ent) : (renE μ e).isOwn = e.isOwn := by cases e <;> rfl
theorem renE_live (μ : Mu) (e : Ent) : (renE μ e).live = e.live := by cases e <;> rfl

theorem Inv.swap {G : Nat → Prop} {hp : HP} {ν : Nm} {H : Heap} {w : World} (h : Inv G hp ν H w) {μ : Mu} (hc : ∀ c v, CR ν c v → CR ν (renC μ c) v) : Inv G hp ν (H.map fun p => (p.1, renE μ p.2)) w := by
  refine ⟨?_, ?_, ?_, h.gfr, fun m hm => ⟨(h.nb m hm).1, by rw [aget_mapE]; intro q; exact (h.nb m hm).2 (Option.map_eq_none_iff.1 q)⟩, ?_, h.fx⟩
  · intro m e hm
    rw [aget_mapE] at hm
    obtain ⟨e0, h0, rfl⟩ := Option.map_eq_some_iff.1 hm
    have := h.er m e0 h0
    cases e0 with
    | c own lv =>
      simp only [renE, ER, renL_toL, renL_z, List.length_map] at this ⊢
      split at this
      · rename_i hn; rw [this]; rfl
      · obtain ⟨e0, arr, T, fr, h1, h2, h3, h4, h5⟩ := this
        refine ⟨e0, arr, T, fr, h1, h2, h3, fun k hk => ?_, h5⟩
        obtain ⟨v, hv, c, hcc, hr⟩ := h4 k hk
        exact ⟨v, hv, renC μ c, by simp [hcc], hc c v hr⟩
    | mp es => exact this
    | dead => trivial
  · intro a b x y hx hxo hy hyl hab L L' hL hL'
    rw [aget_mapE] at hx hy
    obtain ⟨x0, hx0, rfl⟩ := Option.map_eq_some_iff.1 hx
    obtain ⟨y0, hy0, rfl⟩ := Option.map_eq_some_iff.1 hy
    rw [renE_own] at hxo; rw [renE_live] at hyl
    exact h.inj a b x0 y0 hx0 hxo hy0 hyl hab L L' hL hL'
  · intro m hm
    rw [aget_mapE] at hm
    exact h.dom m (Option.map_eq_none_iff.1 hm)
  · intro m x L hx hxo hL
    rw [aget_mapE] at hx
    obtain ⟨x0, hx0, rfl⟩ := Option.map_eq_some_iff.1 hx
    rw [renE_own] at hxo
    exact h.own m x0 L hx0 hxo hL

section
variable {P : Program} {nt : Nat} {ks : List It} {env : Env} {H : Heap} {R : Env → Heap → Prop}
/-- An entry is cut short. -/
theorem W_cut0 {own : Bool} {lv : LV} (n : Nat) (lv' : LV) (h : W D P nt ks env (aset H n (.c own lv')) R) (h0 : aget H n = some (.c own lv)) (hl : lv'.toL <+: lv.toL) (hz : lv'.z = lv.z) : W D P nt ks env H R :=
  fun hk G hp hB hD ν a w st => h hk G hp hB hD ν a w ⟨st.defers, st.size, st.env, st.inv.cut h0 hl hz⟩
def swapMu (n m : Nat) : Mu := fun k => if k = n then some (m, 0) else some (k, 0)
/-- An entry under another name. -/
theorem W_mv0 {lv : LV} (n m : Nat) (h : W D P nt ks (env.map fun p => (p.1, renV (swapMu n m) p.2)) ((aset (aset H n .dead) m (.c true lv)).map fun p => (p.1, renE (swapMu n m) p.2)) R)
    (h0 : aget H n = some (.c true lv)) (hm : aget H m = none) : W D P nt ks env H R := by
  intro hk G hp hB hD ν a w st
  obtain ⟨ν', k1, k2, k3, k4, k5⟩ := st.inv.rebase h0 hm 0 lv rfl rfl (fun _ _ => Nat.zero_le _)
  have hnm : n ≠ m := fun e => by subst e; rw [h0] at hm; cases hm
  have hle : ∀ k L, ν' k = some L → ∃ j o L', swapMu n m k = some (j, o) ∧ ν' j = some L' ∧ L = shiftL L' o ∧ o ≤ L'.lim := by
    intro k L hL
    by_cases e : k = n
    · subst e
      rw [k3 k hnm] at hL
      refine ⟨m, 0, L, by simp [swapMu], ?_, by simp [shiftL], Nat.zero_le _⟩
      rw [k2 L hL]; simp
    · exact ⟨k, 0, L, by simp [swapMu, e], hL, by simp [shiftL], Nat.zero_le _⟩
  refine h hk G hp hB hD ν' a w ⟨st.defers, st.size, ?_, k5.swap fun c v hc => hc.leave hle⟩
  intro t
  have hv := (st.env t).keeps k1
  rw [Env.get_map env (renV (swapMu n m)) rfl t]
  exact hv.leave hle
end
end Go.Proofs.YtbobhbhgomkgpaaGreatDoor.S
