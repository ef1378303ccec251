/- The symbolic step of one operation, of a region, and of code, over the symbolic heap. Own work of this claim; definitions alone. -/
import Derived.Test.YtbcnkfkmonpdeaaSa
namespace Go.Proofs.Ytbcnkfkmonpdeaa.S
set_option linter.all false
open Go

/-! Types, as far as the steps need them -/
inductive TK where
  | bool | int (k : IntKind) | str | slice (e : TypeId) | struct (fs : List (Nat × Nat)) | other
  deriving Inhabited
structure TI where
  tk : TK
  agg : Bool
  sz : Nat
  bytes : Nat
  zero : List AV
  ek : Nat
  deriving Inhabited
/-- A constant cell, a constant. -/
def cvc : Value → AV
  | .int k n => .int k n
  | .bool b => .bool b
  | .string s => .str s
  | .slice none 0 0 => .emp
  | _ => .any
def cv : Value → AV
  | .agg cs => if cs.toList.all Value.oneCell' then .agg (cs.toList.map cvc) else .any
  | v => cvc v
def ekOf (d : TypeDesc) (zero : List AV) : Nat :=
  match d, zero with
  | .int .i64, [.int .i64 0] => 1
  | .bool, [.bool false] => 2
  | .int .u8, [.int .u8 0] => 3
  | .string, [.str _] => 4
  | .struct _, [.int .i64 0, .int .i64 0, .int .i64 0] => 5
  | _, _ => 0
def zeroOf (i : TypeInfo) : List AV := match i.zero with
  | some v => if v.cells.toList.all Value.oneCell' && v.cells.size == i.size then v.cells.toList.map cvc else []
  | none => []
def mkTI (P : Program) (i : TypeInfo) (d : TypeDesc) : TI :=
  { tk := match d with
      | .bool => .bool | .int k => .int k | .string => .str | .slice e => .slice e
      | .struct fs => match fs.toList.mapM (fun f => (P.info? f.type).map fun i => (f.offset, i.size)) with | some l => .struct l | none => .other
      | _ => .other
    agg := match d with | .struct _ | .array _ _ => true | _ => false
    sz := i.size, bytes := i.bytes, zero := zeroOf i
    ek := ekOf d (zeroOf i) }
def tyI (P : Program) (t : TypeId) : TI :=
  match P.info? t, P.underlying t with
  | some i, some d => mkTI P i d
  | _, _ => { tk := .other, agg := false, sz := 0, bytes := 0, zero := [], ek := 0 }

/-! Lists out of cells -/
def allInts : List AV → Option (List Int)
  | [] => some []
  | .int .i64 n :: r => (allInts r).map (n :: ·)
  | _ => none
def allBools : List AV → Option (List Bool)
  | [] => some []
  | .bool b :: r => (allBools r).map (b :: ·)
  | _ => none
def allBytes : List AV → Option (List UInt8)
  | [] => some []
  | .int .u8 n :: r => if 0 ≤ n ∧ n < 256 then (allBytes r).map (UInt8.ofNat n.toNat :: ·) else none
  | _ => none
def allStrs : List AV → Option (List ByteArray)
  | [] => some []
  | .str b :: r => (allStrs r).map (b :: ·)
  | _ => none
def allOps : List AV → Option (List (Int × Int × Int))
  | [] => some []
  | .int .i64 a :: .int .i64 b :: .int .i64 c :: r => (allOps r).map ((a, b, c) :: ·)
  | _ => none
def LV.mk (ek z : Nat) (l : List AV) : LV :=
  match ek with
  | 1 => match allInts l with | some z => .ints z | none => .av z l
  | 2 => match allBools l with | some z => .bools z | none => .av z l
  | 3 => match allBytes l with | some z => .bys z | none => .av z l
  | 4 => match allStrs l with | some z => .strs z | none => .av z l
  | 5 => match allOps l with | some z => .ops z | none => .av z l
  | _ => .av z l
def LV.rep (ek z : Nat) (n : Nat) (zero : List AV) : LV :=
  match ek, zero with
  | 1, [.int .i64 0] => .ints (List.replicate n 0)
  | 2, [.bool false] => .bools (List.replicate n false)
  | _, zero => .av z (List.replicate n zero).flatten

/-! Operands -/
def ev (env : Env) : Operand → AV
  | .tmp t => env.get t
  | .const v => cv v
  | .global _ => .any
  | .func f => .fn f []
def cellsOf : AV → List AV
  | .agg cs => cs
  | a => [a]
/-- May it lie in cells? -/
def AV.fits : AV → Bool
  | .any | .tup _ => false
  | _ => true

/-! The steps -/
abbrev Kt := AV → Heap → Prop
def lim40 : Nat := 1099511627776

def sLoad (ti : TI) (H : Heap) (a : AV) (K : AV → Prop) : Prop :=
  match a with
  | .ptr n off => match aget H n with
    | some (.c _ lv) => off + ti.sz ≤ lv.len ∧ (if ti.agg then K (lv.ex off ti.sz) else ti.sz = 1 ∧ K (lv.lk off))
    | _ => False
  | _ => False
def stAll : LV → Nat → List AV → LV
  | lv, _, [] => lv
  | lv, k, c :: r => stAll (lv.st k c) (k + 1) r
def sStore (ti : TI) (H : Heap) (a x : AV) (K : Heap → Prop) : Prop :=
  match a with
  | .ptr n off => match aget H n with
    | some (.c true lv) => x.fits = true ∧ 0 < ti.sz ∧ (cellsOf x).length = ti.sz ∧ off + ti.sz ≤ lv.len ∧ K (aset H n (.c true (stAll lv off (cellsOf x))))
    | _ => False
  | _ => False
def sInt (op : BinOp) (k : IntKind) (x y : Int) (K : AV → Prop) : Prop :=
  match op with
  | .add => K (.int k (k.wrap (x + y)))
  | .sub => K (.int k (k.wrap (x - y)))
  | .mul => K (.int k (k.wrap (x * y)))
  | .quo => y ≠ 0 ∧ K (.int k (k.wrap (x.tdiv y)))
  | .rem => y ≠ 0 ∧ K (.int k (x.tmod y))
  | .and => K (.int k (k.wrap (BitVec.ofInt k.bits x &&& BitVec.ofInt k.bits y).toNat))
  | .or => K (.int k (k.wrap (BitVec.ofInt k.bits x ||| BitVec.ofInt k.bits y).toNat))
  | .xor => K (.int k (k.wrap (BitVec.ofInt k.bits x ^^^ BitVec.ofInt k.bits y).toNat))
  | .eql => K (.bool (decide (x = y)))
  | .neq => K (.bool (!decide (x = y)))
  | .lss => K (.bool (decide (x < y)))
  | .leq => K (.bool (decide (x ≤ y)))
  | .gtr => K (.bool (decide (y < x)))
  | .geq => K (.bool (decide (y ≤ x)))
  | _ => False
def sStr (op : BinOp) (x y : ByteArray) (K : AV → Prop) : Prop :=
  match op with
  | .add => x.size + y.size < lim40 ∧ K (.str (x ++ y))
  | .eql => K (.bool (x.toList == y.toList))
  | .neq => K (.bool (!(x.toList == y.toList)))
  | _ => False
def three : List AV → Option (Int × Int × Int)
  | [.int .i64 a, .int .i64 b, .int .i64 c] => some (a, b, c)
  | _ => none
def sBin (P : Program) (op : BinOp) (t : TypeId) (x y : AV) (K : AV → Prop) : Prop :=
  match x, y with
  | .int k a, .int k' b => k = k' ∧ sInt op k a b K
  | .str a, .str b => sStr op a b K
  | .bool a, .bool b => match (tyI P t).tk with
    | .bool => match op with
      | .eql => K (.bool (a == b))
      | .neq => K (.bool (!(a == b)))
      | _ => False
    | _ => False
  | _, _ => False
/-- A slice held against nil. -/
def sNil (P : Program) (op : BinOp) (t : TypeId) (x : AV) (K : AV → Prop) : Prop :=
  match (tyI P t).tk, x, op with
  | .slice _, .sl _ _ n, .eql => ∀ r : Bool, (r = true → n = 0) → K (.bool r)
  | .slice _, .sl _ _ n, .neq => ∀ r : Bool, (r = false → n = 0) → K (.bool r)
  | .slice _, .emp, .eql => ∀ r : Bool, K (.bool r)
  | .slice _, .emp, .neq => ∀ r : Bool, K (.bool r)
  | _, _, _ => False
def isNil : Operand → Bool
  | .const (.slice none 0 0) => true
  | _ => false
def sUn (op : UnOp) (x : AV) (K : AV → Prop) : Prop :=
  match op, x with
  | .not, .bool b => K (.bool !b)
  | .neg, .int k n => K (.int k (k.wrap (0 - n)))
  | _, _ => False
def optInt (env : Env) : Option Operand → Option (Option Int)
  | none => some none
  | some x => match ev env x with
    | .int _ n => some (some n)
    | _ => none
def sSlice (P : Program) (H : Heap) (t : TypeId) (x : AV) (lo hi mx : Option (Option Int)) (K : AV → Prop) : Prop :=
  match (tyI P t).tk, x, lo, hi, mx with
  | .str, .str s, some lo, some hi, some none =>
    (0 ≤ lo.getD 0 ∧ lo.getD 0 ≤ hi.getD s.size ∧ hi.getD s.size ≤ s.size) ∧ K (.str (s.extract (lo.getD 0).toNat (hi.getD s.size).toNat))
  | .slice e, .sl n o len, some lo, some hi, some none =>
    (match aget H n with | some (.c _ lv) => lv.z = (tyI P e).sz ∧ 0 < (tyI P e).sz | _ => False) ∧ (0 ≤ lo.getD 0 ∧ lo.getD 0 ≤ hi.getD len ∧ hi.getD len ≤ len) ∧ K (.sl n (o + (lo.getD 0).toNat * (tyI P e).sz) ((hi.getD len).toNat - (lo.getD 0).toNat))
  | .slice e, .sl _ _ _, some (some 0), some (some 0), some (some 0) => 0 < (tyI P e).sz ∧ K .emp
  | .slice e, .emp, some lo, some hi, some none => (0 < (tyI P e).sz ∧ lo.getD 0 = 0 ∧ hi.getD 0 = 0) ∧ K .emp
  | .slice e, .emp, some (some 0), some (some 0), some (some 0) => 0 < (tyI P e).sz ∧ K .emp
  | _, _, _, _, _ => False
/-- What a slice value reads as, from its entry: n elements of sz cells. -/
def srcOf (H : Heap) (sz : Nat) : AV → Option LV
  | .emp => some (.av sz [])
  | .sl n o len => match aget H n with
    | some (.c _ lv) => if o + len * sz ≤ lv.len ∧ lv.z = sz then some (lv.view o (len * sz)) else none
    | _ => none
  | _ => none
def lenOf? : AV → Option Nat
  | .emp => some 0
  | .sl _ _ n => some n
  | .str s => some s.size
  | _ => none
def baseOf (H : Heap) (sz : Nat) : AV → Option (LV × Option Nat)
  | .emp => some (.av sz [], none)
  | .sl n o len => match aget H n with
    | some (.c true lv) => if o + len * sz = lv.len ∧ lv.z = sz then some (lv.view o (len * sz), some n) else none
    | _ => none
  | _ => none
def LV.app2 (a b : LV) : LV := match a, b with
  | .av _ [], b => b
  | a, .av _ [] => a
  | a, b => a.app b
def killO (H : Heap) : Option Nat → Heap
  | some n => aset H n .dead
  | none => H
def apartO : Option Nat → AV → Bool
  | some n, .sl m _ _ => n != m
  | _, _ => true
def sAppend (P : Program) (nm : Nat) (H : Heap) (t : TypeId) (s x : AV) (K : Kt) : Prop :=
  match (tyI P t).tk with
  | .slice e => match baseOf H (tyI P e).sz s, srcOf H (tyI P e).sz x, lenOf? s, lenOf? x with
    | some (lb, n), some lx, some a, some b =>
      (aget H nm = none ∧ a + b < lim40 ∧ 0 < (tyI P e).sz ∧ (tyI P e).zero.length = (tyI P e).sz ∧ (tyI P e).bytes ≤ 120 ∧ apartO n x = true) ∧
      K (.sl nm 0 (a + b)) (aset (killO H n) nm (.c true (lb.app2 lx)))
    | _, _, _, _ => False
  | _ => False
/-- 'append(nil, make(..)...)'. -/
def sMake (P : Program) (nm : Nat) (H : Heap) (t : TypeId) (s x : AV) (K : Kt) : Prop :=
  match (tyI P t).tk, s, x with
  | .slice e, .emp, .int .i64 n => (aget H nm = none ∧ 0 ≤ n ∧ n < lim40 ∧ 0 < (tyI P e).sz ∧ (tyI P e).zero.length = (tyI P e).sz ∧ (tyI P e).bytes ≤ 120 ∧ (LV.rep (tyI P e).ek (tyI P e).sz n.toNat (tyI P e).zero).z = (tyI P e).sz) ∧
        K (.sl nm 0 n.toNat) (aset H nm (.c true (LV.rep (tyI P e).ek (tyI P e).sz n.toNat (tyI P e).zero)))
  | _, _, _ => False
/-- A call: by a contract (told below). -/
def CallT := Nat → List AV → Heap → Nat → Kt → Prop
def sCall (P : Program) (call : CallT) (nm : Nat) (H : Heap) (c : Call) (env : Env) (K : Kt) : Prop :=
  match c.callee with
  | .builtin .len => match (c.argTypes[0]?).map fun t => (tyI P t).tk, (c.args[0]?).map (ev env) with
    | some (.slice _), some (.sl _ _ n) => K (.int .i64 n) H
    | some (.slice _), some .emp => K (.int .i64 0) H
    | some .str, some (.str s) => K (.int .i64 s.size) H
    | _, _ => False
  | .builtin .cap => match (c.argTypes[0]?).map fun t => (tyI P t).tk, (c.args[0]?).map (ev env) with
    | some (.slice _), some .emp => K (.int .i64 0) H
    | some (.slice _), some (.sl _ _ n) => ∀ m : Nat, n ≤ m → K (.int .i64 m) H
    | _, _ => False
  | .builtin .append => match c.argTypes[0]?, c.argTypes[1]?, (c.args[0]?).map (ev env), (c.args[1]?).map (ev env) with
    | some t, some t2, some s, some x => match (tyI P t2).tk with | .slice _ => sAppend P nm H t s x K | .int _ => sMake P nm H t s x K | _ => False
    | _, _, _, _ => False
  | .value f => match ev env f with
    | .fn g caps => call g ((c.args.toList.map (ev env)) ++ caps.map fun p => AV.ptr p.1 p.2) H nm K
    | _ => False
  | _ => False
/-- Parts fill cells, told of lists. -/
def fillL (place : Nat → Option (Nat × Nat)) : List AV → List (Nat × AV) → Option (List AV)
  | cs, [] => some cs
  | cs, (i, x) :: r => match place i with
    | some (off, sz) => if (cellsOf x).length = sz ∧ off + sz ≤ cs.length ∧ x.fits = true then fillL place (cs.take off ++ cellsOf x ++ cs.drop (off + sz)) r else none
    | none => none
def sBuild (ti : TI) (parts : List (Nat × AV)) : Option (List AV) :=
  match ti.tk with
  | .struct fs => fillL (fs[·]?) ti.zero parts
  | _ => none
def partsIn : Nat → List (Nat × AV) → Bool
  | _, [] => true
  | k, p :: r => p.1 == k && p.2.fits && partsIn (k + 1) r
/-- A field that is one cell: its place. -/
def fldI (P : Program) (t : TypeId) (f : Nat) : Option Nat := match P.underlying t with
  | some (.struct fields) => match fields[f]? with
    | some fl => if (tyI P fl.type).agg = false ∧ 0 < (tyI P fl.type).sz then some fl.offset else none
    | none => none
  | _ => none
/-- One operation: what it comes to, handed on to K. nm: the name of what it makes. -/
def stp (P : Program) (call : CallT) (nm : Nat) (o : Oper) (env : Env) (H : Heap) (K : Kt) : Prop :=
  match o.op with
  | .move x => K (ev env x) H
  | .assign x => K (ev env x) H
  | .pick c a b => match ev env c with
    | .bool t => (t = true → K (ev env a) H) ∧ (t = false → K (ev env b) H)
    | _ => False
  | .alloc t => (aget H nm = none ∧ 0 < (tyI P t).sz ∧ (tyI P t).zero.length = (tyI P t).sz) ∧ K (.ptr nm 0) (aset H nm (.c true (.av 1 (tyI P t).zero)))
  | .box _ x => (aget H nm = none ∧ (ev env x).fits = true) ∧ K (.ptr nm 0) (aset H nm (.c true (.av 1 (cellsOf (ev env x)))))
  | .build t parts => match sBuild (tyI P t) (parts.toList.map fun p => (p.1, ev env p.2)) with
    | some cs => (0 < (tyI P t).sz ∧ (tyI P t).zero.length = (tyI P t).sz) ∧ K (.agg cs) H
    | none => False
  | .buildSlice t len parts => match (tyI P t).tk with
    | .slice e => (aget H nm = none ∧ parts.size = len ∧ len * (tyI P e).sz ≤ 16777216 ∧ 0 < (tyI P e).sz ∧ (tyI P e).zero.length = (tyI P e).sz ∧ partsIn 0 (parts.toList.map fun p => (p.1, ev env p.2)) = true ∧
        (parts.toList.all fun p => (cellsOf (ev env p.2)).length == (tyI P e).sz) = true ∧
        (LV.mk (tyI P e).ek (tyI P e).sz (parts.toList.flatMap fun p => cellsOf (ev env p.2))).z = (tyI P e).sz) ∧
        K (.sl nm 0 len) (aset H nm (.c true (LV.mk (tyI P e).ek (tyI P e).sz (parts.toList.flatMap fun p => cellsOf (ev env p.2)))))
    | _ => False
  | .load t a => sLoad (tyI P t) H (ev env a) fun v => K v H
  | .store t a x => sStore (tyI P t) H (ev env a) (ev env x) fun H' => K (.tup []) H'
  | .nilCheck x => match ev env x with
    | .ptr n o => K (.ptr n o) H
    | .fn f caps => K (.fn f caps) H
    | _ => False
  | .binOp op t x y _ => if isNil y then sNil P op t (ev env x) (fun v => K v H) else sBin P op t (ev env x) (ev env y) fun v => K v H
  | .unOp op _ x => sUn op (ev env x) fun v => K v H
  | .convert src dst x => match (tyI P src).tk, (tyI P dst).tk, ev env x with
    | .int _, .int k, .int _ n => K (.int k (k.wrap n)) H
    | .slice e, .str, x => (tyI P e).tk = .int .u8 ∧ match srcOf H 1 x with
      | some (.bys l) => K (.str ⟨l.toArray⟩) H
      | _ => False
    | _, _, _ => False
  | .makeFunc (.func f) first caps => (first.size = 0) ∧ (match caps.toList.mapM (fun x => match ev env x with | .ptr n o => some (n, o) | _ => none) with
    | some ps => K (.fn f ps) H
    | none => False)
  | .makeSlice t l c => match (tyI P t).tk, ev env l, ev env c with
    | .slice e, .int .i64 n, .int .i64 m => (aget H nm = none ∧ 0 ≤ n ∧ n < lim40 ∧ m = n ∧ 0 < (tyI P e).sz ∧ (tyI P e).zero.length = (tyI P e).sz ∧ (tyI P e).bytes ≤ 120 ∧ (LV.rep (tyI P e).ek (tyI P e).sz n.toNat (tyI P e).zero).z = (tyI P e).sz) ∧
        K (.sl nm 0 n.toNat) (aset H nm (.c true (LV.rep (tyI P e).ek (tyI P e).sz n.toNat (tyI P e).zero)))
    | _, _, _ => False
  | .slice t x lo hi mx => sSlice P H t (ev env x) (optInt env lo) (optInt env hi) (optInt env mx) fun v => K v H
  | .fieldAddr s x f => match (tyI P s).tk, ev env x with
    | .struct fs, .ptr n off => match fs[f]? with
      | some (o, sz) => sz ≠ 0 ∧ K (.ptr n (off + o)) H
      | none => False
    | _, _ => False
  | .indexAddr t x i => match (tyI P t).tk, ev env x, ev env i with
    | .slice e, .sl n o len, .int _ j => (0 < (tyI P e).sz ∧ 0 ≤ j ∧ j < len) ∧ K (.ptr n (o + j.toNat * (tyI P e).sz)) H
    | _, _, _ => False
  | .index t x i => match (tyI P t).tk, ev env x, ev env i with
    | .str, .str s, .int _ j => (0 ≤ j ∧ j < s.size) ∧ K (.int .u8 (s.data.getD j.toNat 0).toNat) H
    | _, _, _ => False
  | .extract t i => match ev env t with
    | .tup vs => match vs[i]? with
      | some v => v.fits = true ∧ K v H
      | none => False
    | _ => False
  | .call c => sCall P call nm H c env K
  | .field t x f => match fldI P t f, ev env x with
    | some o, .agg cs => match cs[o]? with
      | some v => v.fits = true ∧ K v H
      | none => False
    | _, _ => False
  | _ => False

/-! Regions -/
def nmOf (id i : Nat) : Nat := ((id + 1) * 128 + i) * 8
def put (env : Env) (d : Option Tmp) (v : AV) : Env := match d with
  | some d => aset env d v
  | none => env
def putc (env : Env) (d : Option Tmp) (v : AV) : Env := match d with
  | some d => (d, v) :: env
  | none => env
def gA (all : List Oper) (env : Env) (o : Oper) : Option Bool :=
  match o.guard with
  | none => some true
  | some (j, want) => match (all[j]?).bind (·.dst) with
    | some d => match env.get d with
      | .bool b => some (b == want)
      | .tup [] => some false
      | _ => none
    | none => none
def reg (P : Program) (call : CallT) (all : List Oper) (id : Nat) : Nat → List Oper → Env → Heap → (Env → Heap → Prop) → Prop
  | _, [], env, H, K => K env H
  | i, o :: os, env, H, K => match o.guard with
    | none => stp P call (nmOf id i) o env H fun v H' => reg P call all id (i + 1) os (putc env o.dst v) H' K
    | some _ => match gA all env o with
      | some g => (g = true → stp P call (nmOf id i) o env H fun v H' => reg P call all id (i + 1) os (putc env o.dst v) H' K) ∧
          (g = false → reg P call all id (i + 1) os (putc env o.dst (.tup [])) H K)
      | none => False

end Go.Proofs.Ytbcnkfkmonpdeaa.S
