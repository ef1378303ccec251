/- Texts of this claim's own layer, laid as one: Sa Sb Sc Sd Se Sf Sg Sh. Own work of this claim. -/
import Derived.Calls
import Derived.Laws.AppendOwn
import Derived.KernelRfl
import Derived.IntWalk
import Derived.MapKept
/- A symbolic heap over the model: abstract values, named memory with contents told as lists, and the relation to a world. Own work of this claim; holds over any program. -/
namespace Go.Proofs.YtbobhbhgomkgpaaGreatDoor.S
set_option linter.all false
open Go

/-! Association lists -/
def aget {β : Type} : List (Nat × β) → Nat → Option β
  | [], _ => none
  | (k, e) :: r, n => if k = n then some e else aget r n
def aset {β : Type} : List (Nat × β) → Nat → β → List (Nat × β)
  | [], n, e => [(n, e)]
  | (k, x) :: r, n, e => if k = n then (k, e) :: r else (k, x) :: aset r n e
theorem aget_aset {β : Type} (l : List (Nat × β)) (n m : Nat) (e : β) : aget (aset l n e) m = if n = m then some e else aget l m := by
  induction l with
  | nil => simp [aset, aget]
  | cons p r ih =>
    obtain ⟨k, x⟩ := p
    unfold aset
    by_cases h : k = n
    · subst h; by_cases h2 : k = m
      · subst h2; simp [aget]
      · simp [aget, h2]
    · by_cases h2 : n = m
      · subst h2; simp [aget, h, ih]
      · simp [aget, h, ih, h2]

/-! Two lists in step -/
inductive F2 {α β : Type} (R : α → β → Prop) : List α → List β → Prop
  | nil : F2 R [] []
  | cons {a : α} {b : β} {l : List α} {m : List β} (h : R a b) (t : F2 R l m) : F2 R (a :: l) (b :: m)

/-! Abstract values -/
inductive AV where
  | int (k : IntKind) (n : Int)
  | bool (b : Bool)
  | str (s : ByteArray)
  | ptr (n off : Nat)
  | sl (n off len : Nat)
  | emp
  | mapv (n : Nat)
  | fn (f : Nat) (caps : List (Nat × Nat))
  | any
  | lit (v : Value)
  | agg (cs : List AV)
  | tup (vs : List AV)
  deriving Inhabited

/-- Cells without names, the others are not told. -/
def AV.bare : AV → Bool
  | .int _ _ | .bool _ | .str _ | .emp | .any | .lit _ => true
  | _ => false
def noN1 (c : AV) : AV := if c.bare then c else .any
def noN (l : List AV) : List AV := l.map noN1
theorem noN_len (l : List AV) : (noN l).length = l.length := by unfold noN; rw [List.length_map]
theorem noN_app (l m : List AV) : noN (l ++ m) = noN l ++ noN m := by unfold noN; rw [List.map_append]
theorem noN_fix {f : AV → AV} (hf : ∀ c : AV, c.bare = true → f c = c) (l : List AV) : (noN l).map f = noN l := by
  unfold noN
  rw [List.map_map]
  refine List.map_congr_left fun c _ => ?_
  show f (noN1 c) = noN1 c
  unfold noN1
  split
  · rename_i h; exact hf c h
  · exact hf .any rfl

structure Loc where
  blk : Nat
  off : Nat
  lim : Nat
  esz : Nat

abbrev Nm := Nat → Option Loc

def PR (ν : Nm) (p : Nat × Nat) (v : Value) : Prop := ∃ L, ν p.1 = some L ∧ v = .pointer (some ⟨L.blk, L.off + p.2, none⟩)

/-- A cell's value. -/
def CR (ν : Nm) : AV → Value → Prop
  | .int k n, v => v = .int k n
  | .bool b, v => v = .bool b
  | .str s, v => v = .string s
  | .ptr n o, v => PR ν (n, o) v
  | .sl n o len, v => (∃ L c, ν n = some L ∧ len ≤ c ∧ o + c * L.esz ≤ L.lim ∧ v = .slice (some ⟨L.blk, L.off + o, none⟩) len c) ∨ (len = 0 ∧ ∃ a, v = .slice a 0 0)
  | .emp, v => ∃ a, v = .slice a 0 0
  | .mapv n, v => ∃ L, ν n = some L ∧ v = .map (some L.blk)
  | .fn f caps, v => ∃ arr : Array Value, v = .func (.func f) #[] arr ∧ F2 (PR ν) caps arr.toList
  | .any, v => v.oneCell' = true
  | .lit u, v => v = u ∧ u.oneCell' = true
  | .agg _, _ => False
  | .tup _, _ => False
/-- A value, or an aggregate of cells. -/
def VA (ν : Nm) : AV → Value → Prop
  | .agg cs, v => ∃ arr : Array Value, v = .agg arr ∧ F2 (CR ν) cs arr.toList
  | a, v => CR ν a v
/-- A slot's value. -/
def VR (ν : Nm) : AV → Value → Prop
  | .tup vs, v => ∃ arr : Array Value, v = .tuple arr ∧ F2 (VA ν) vs arr.toList
  | .any, _ => True
  | a, v => VA ν a v

/-! Contents of memory -/
inductive LV where
  | av (z : Nat) (l : List AV)
  | ints (l : List Int)
  | bools (l : List Bool)
  | bys (l : List UInt8)
  | strs (l : List ByteArray)
  | ops (l : List (Int × Int × Int))

def i64 (n : Int) : AV := .int .i64 n
def opL (o : Int × Int × Int) : List AV := [.int .i64 o.1, .int .i64 o.2.1, .int .i64 o.2.2]
def LV.toL : LV → List AV
  | .av _ l => l
  | .ints l => l.map (AV.int .i64)
  | .bools l => l.map AV.bool
  | .bys l => l.map fun b => AV.int .u8 b.toNat
  | .strs l => l.map AV.str
  | .ops l => l.flatMap opL
/-- The cells of one element. -/
def LV.z : LV → Nat
  | .av z _ => z
  | .ops _ => 3
  | _ => 1
def LV.len : LV → Nat
  | .av _ l => l.length
  | .ints l => l.length
  | .bools l => l.length
  | .bys l => l.length
  | .strs l => l.length
  | .ops l => 3 * l.length
/-- One cell. -/
def LV.lk : LV → Nat → AV
  | .av _ l, k => l.getD k .any
  | .ints l, k => .int .i64 (l.getD k 0)
  | .bools l, k => .bool (l.getD k false)
  | .bys l, k => .int .u8 (l.getD k 0).toNat
  | .strs l, k => .str (l.getD k ⟨#[]⟩)
  | .ops l, k => (opL (l.getD (k / 3) (0, 0, 0))).getD (k % 3) .any
/-- An aggregate of n cells. -/
def LV.ex : LV → Nat → Nat → AV
  | .ops l, k, n => if k % 3 = 0 ∧ n = 3 then .agg (opL (l.getD (k / 3) (0, 0, 0))) else .agg (((LV.ops l).toL.drop k).take n)
  | lv, k, n => .agg ((lv.toL.drop k).take n)
/-- A cell is written. -/
def LV.st : LV → Nat → AV → LV
  | .av z l, k, c => .av z (l.set k c)
  | .ints l, k, .int .i64 n => .ints (l.set k n)
  | .bools l, k, .bool b => .bools (l.set k b)
  | .strs l, k, .str s => .strs (l.set k s)
  | lv, k, c => .av lv.z (lv.toL.set k c)
def LV.view : LV → Nat → Nat → LV
  | .av z l, o, n => .av z ((l.drop o).take n)
  | .ints l, o, n => .ints ((l.drop o).take n)
  | .bools l, o, n => .bools ((l.drop o).take n)
  | .bys l, o, n => .bys ((l.drop o).take n)
  | .strs l, o, n => .strs ((l.drop o).take n)
  | .ops l, o, n => if o % 3 = 0 ∧ n % 3 = 0 then .ops ((l.drop (o / 3)).take (n / 3)) else .av 3 ((((LV.ops l).toL).drop o).take n)
def LV.app : LV → LV → LV
  | .ints l, .ints m => .ints (l ++ m)
  | .bools l, .bools m => .bools (l ++ m)
  | .bys l, .bys m => .bys (l ++ m)
  | .strs l, .strs m => .strs (l ++ m)
  | .ops l, .ops m => .ops (l ++ m)
  | a, b => .av a.z (a.toL ++ b.toL)
def asInt? : AV → Option Int
  | .int .i64 n => some n
  | _ => none
def asBool? : AV → Option Bool
  | .bool b => some b
  | _ => none
def asStr? : AV → Option ByteArray
  | .str b => some b
  | _ => none
def opsOf : List AV → List (Int × Int × Int)
  | .int .i64 a :: .int .i64 b :: .int .i64 c :: r => (a, b, c) :: opsOf r
  | _ => []

inductive Ent where
  | c (own : Bool) (lv : LV)
  | mp (es : List (ByteArray × Bool))
  | dead
abbrev Heap := List (Nat × Ent)
abbrev Env := List (Nat × AV)
def Env.get (e : Env) (t : Nat) : AV := (aget e t).getD .any

def Ent.isOwn : Ent → Bool
  | .c b _ => b
  | .mp _ => true
  | .dead => false
def Ent.live : Ent → Bool
  | .dead => false
  | _ => true

def cellsAt (w : World) (b off lim : Nat) (own : Bool) (P : Nat → Value → Prop) (n : Nat) : Prop :=
  ∃ arr T fr, w.heap[b]? = some (.cells arr T fr) ∧ off + lim ≤ arr.size ∧ n ≤ lim ∧ (∀ k, k < n → ∃ v, arr[off + k]? = some v ∧ P k v) ∧ (own = true → fr = (0, 0))

def ER (ν : Nm) (w : World) (n : Nat) : Ent → Prop
  | .c own lv => match ν n with
    | none => lv.toL = []
    | some L => L.esz = lv.z ∧ cellsAt w L.blk L.off L.lim own (fun k v => ∃ c, lv.toL[k]? = some c ∧ CR ν c v) lv.toL.length
  | .mp es => ∃ L, ν n = some L ∧ ∃ (ents : Array MapEntry) (clock : Nat), w.heap[L.blk]? = some (.map ents clock) ∧ ents.toList.map (fun e => (e.key, e.val)) = es.map (fun p => (Value.string p.1, Value.bool p.2)) ∧ ents.size ≤ clock ∧ (∀ e ∈ ents.toList, e.born < clock)
  | .dead => True

/-- Memory as it was at a call's begin, and the names of its arguments. -/
structure HP where
  wb : World
  B : Nat → Prop
  νb : Nm
def HP.a (hp : HP) : Array Obj := hp.wb.heap
/-- What is no memory is as it was. -/
def SameOut (w w' : World) : Prop := w'.os = w.os ∧ w'.tape = w.tape ∧ w'.output = w.output
structure Inv (G : Nat → Prop) (hp : HP) (ν : Nm) (H : Heap) (w : World) : Prop where
  er : ∀ n e, aget H n = some e → ER ν w n e
  inj : ∀ n m e e', aget H n = some e → e.isOwn = true → aget H m = some e' → e'.live = true → n ≠ m → ∀ L L', ν n = some L → ν m = some L' → L.blk ≠ L'.blk
  dom : ∀ n, aget H n = none → ν n = none
  gfr : ∀ b, G b → w.heap[b]? = hp.a[b]? ∧ b < w.heap.size
  nb : ∀ n, hp.B n → ν n = hp.νb n ∧ aget H n ≠ none
  own : ∀ n e L, aget H n = some e → e.isOwn = true → ν n = some L → ¬ G L.blk
  fx : SameOut hp.wb w

def EnvRel (ν : Nm) (env : Env) (tmps : Array Value) : Prop := ∀ t, VR ν (env.get t) (tmps.getD t undef)

structure St (G : Nat → Prop) (hp : HP) (nt : Nat) (ν : Nm) (env : Env) (H : Heap) (a : Act) (w : World) : Prop where
  defers : a.defers = []
  size : a.tmps.size = nt
  env : EnvRel ν env a.tmps
  inv : Inv G hp ν H w

end Go.Proofs.YtbobhbhgomkgpaaGreatDoor.S

/- The symbolic step of one operation, of a region, and of code, over the symbolic heap. Own work of this claim; definitions alone. -/
namespace Go.Proofs.YtbobhbhgomkgpaaGreatDoor.S
set_option linter.all false
open Go

/-! Types, as far as the steps need them -/
inductive TK where
  | bool | int (k : IntKind) | str | slice (e : TypeId) | struct (fs : List (Nat × Nat)) | other
  deriving Inhabited
structure TI where
  tk : TK
  agg : Bool
  sz : Nat
  bytes : Nat
  zero : List AV
  ek : Nat
  deriving Inhabited
/-- A constant cell, a constant. -/
def cvc : Value → AV
  | .int k n => .int k n
  | .bool b => .bool b
  | .string s => .str s
  | .slice none 0 0 => .emp
  | _ => .any
def cv : Value → AV
  | .agg cs => if cs.toList.all Value.oneCell' then .agg (cs.toList.map cvc) else .any
  | v => cvc v
def ekOf (d : TypeDesc) (zero : List AV) : Nat :=
  match d, zero with
  | .int .i64, [.int .i64 0] => 1
  | .bool, [.bool false] => 2
  | .int .u8, [.int .u8 0] => 3
  | .string, [.str _] => 4
  | .struct _, [.int .i64 0, .int .i64 0, .int .i64 0] => 5
  | _, _ => 0
def zeroOf (i : TypeInfo) : List AV := match i.zero with
  | some v => if v.cells.toList.all Value.oneCell' && v.cells.size == i.size then v.cells.toList.map cvc else []
  | none => []
def mkTI (P : Program) (i : TypeInfo) (d : TypeDesc) : TI :=
  { tk := match d with
      | .bool => .bool | .int k => .int k | .string => .str | .slice e => .slice e
      | .struct fs => match fs.toList.mapM (fun f => (P.info? f.type).map fun i => (f.offset, i.size)) with | some l => .struct l | none => .other
      | _ => .other
    agg := match d with | .struct _ | .array _ _ => true | _ => false
    sz := i.size, bytes := i.bytes, zero := zeroOf i
    ek := ekOf d (zeroOf i) }
def tyI (P : Program) (t : TypeId) : TI :=
  match P.info? t, P.underlying t with
  | some i, some d => mkTI P i d
  | _, _ => { tk := .other, agg := false, sz := 0, bytes := 0, zero := [], ek := 0 }

/-! Lists out of cells -/
def allInts : List AV → Option (List Int)
  | [] => some []
  | .int .i64 n :: r => (allInts r).map (n :: ·)
  | _ => none
def allBools : List AV → Option (List Bool)
  | [] => some []
  | .bool b :: r => (allBools r).map (b :: ·)
  | _ => none
def allBytes : List AV → Option (List UInt8)
  | [] => some []
  | .int .u8 n :: r => if 0 ≤ n ∧ n < 256 then (allBytes r).map (UInt8.ofNat n.toNat :: ·) else none
  | _ => none
def allStrs : List AV → Option (List ByteArray)
  | [] => some []
  | .str b :: r => (allStrs r).map (b :: ·)
  | _ => none
def allOps : List AV → Option (List (Int × Int × Int))
  | [] => some []
  | .int .i64 a :: .int .i64 b :: .int .i64 c :: r => (allOps r).map ((a, b, c) :: ·)
  | _ => none
def LV.mk (ek z : Nat) (l : List AV) : LV :=
  match ek with
  | 1 => match allInts l with | some z => .ints z | none => .av z l
  | 2 => match allBools l with | some z => .bools z | none => .av z l
  | 3 => match allBytes l with | some z => .bys z | none => .av z l
  | 4 => match allStrs l with | some z => .strs z | none => .av z l
  | 5 => match allOps l with | some z => .ops z | none => .av z l
  | _ => .av z l
def LV.rep (ek z : Nat) (n : Nat) (zero : List AV) : LV :=
  match ek, zero with
  | 1, [.int .i64 0] => .ints (List.replicate n 0)
  | 2, [.bool false] => .bools (List.replicate n false)
  | _, zero => .av z (List.replicate n zero).flatten

/-! Operands -/
def ev (env : Env) : Operand → AV
  | .tmp t => env.get t
  | .const v => cv v
  | .global _ => .any
  | .func f => .fn f []
def cellsOf : AV → List AV
  | .agg cs => cs
  | a => [a]
/-- May it lie in cells? -/
def AV.fits : AV → Bool
  | .any | .tup _ => false
  | _ => true

/-! The steps -/
abbrev Kt := AV → Heap → Prop
def lim40 : Nat := 1099511627776
def limB (b : Nat) : Nat := if b ≤ 120 then 1099511627776 else 100000000000

def sLoad (ti : TI) (H : Heap) (a : AV) (K : AV → Prop) : Prop :=
  match a with
  | .ptr n off => match aget H n with
    | some (.c _ lv) => off + ti.sz ≤ lv.len ∧ (if ti.agg then K (lv.ex off ti.sz) else ti.sz = 1 ∧ K (lv.lk off))
    | _ => False
  | _ => False
def stAll : LV → Nat → List AV → LV
  | lv, _, [] => lv
  | lv, k, c :: r => stAll (lv.st k c) (k + 1) r
def sStore (ti : TI) (H : Heap) (a x : AV) (K : Heap → Prop) : Prop :=
  match a with
  | .ptr n off => match aget H n with
    | some (.c true lv) => x.fits = true ∧ 0 < ti.sz ∧ (cellsOf x).length = ti.sz ∧ off + ti.sz ≤ lv.len ∧ K (aset H n (.c true (stAll lv off (cellsOf x))))
    | _ => False
  | _ => False
def sInt (op : BinOp) (k : IntKind) (x y : Int) (K : AV → Prop) : Prop :=
  match op with
  | .add => K (.int k (k.wrap (x + y)))
  | .sub => K (.int k (k.wrap (x - y)))
  | .mul => K (.int k (k.wrap (x * y)))
  | .quo => y ≠ 0 ∧ K (.int k (k.wrap (x.tdiv y)))
  | .rem => y ≠ 0 ∧ K (.int k (x.tmod y))
  | .and => K (.int k (k.wrap (BitVec.ofInt k.bits x &&& BitVec.ofInt k.bits y).toNat))
  | .or => K (.int k (k.wrap (BitVec.ofInt k.bits x ||| BitVec.ofInt k.bits y).toNat))
  | .xor => K (.int k (k.wrap (BitVec.ofInt k.bits x ^^^ BitVec.ofInt k.bits y).toNat))
  | .eql => K (.bool (decide (x = y)))
  | .neq => K (.bool (!decide (x = y)))
  | .lss => K (.bool (decide (x < y)))
  | .leq => K (.bool (decide (x ≤ y)))
  | .gtr => K (.bool (decide (y < x)))
  | .geq => K (.bool (decide (y ≤ x)))
  | _ => False
def sStr (op : BinOp) (x y : ByteArray) (K : AV → Prop) : Prop :=
  match op with
  | .add => x.size + y.size < lim40 ∧ K (.str (x ++ y))
  | .eql => K (.bool (x.toList == y.toList))
  | .neq => K (.bool (!(x.toList == y.toList)))
  | _ => False
def three : List AV → Option (Int × Int × Int)
  | [.int .i64 a, .int .i64 b, .int .i64 c] => some (a, b, c)
  | _ => none
/-- Has this type whole numbers of 64 bits in one cell? -/
def isI64 (P : Program) (t : TypeId) : Bool := match P.underlying t with
  | some (.int .i64) => true
  | _ => false
/-- A struct of three whole numbers, held for equality. -/
def eq3Ty (P : Program) (t : TypeId) : Bool := match P.underlying t with
  | some (.struct fs) => match fs.toList with
    | [f0, f1, f2] => isI64 P f0.type && isI64 P f1.type && isI64 P f2.type && f0.name != "_" && f1.name != "_" && f2.name != "_" && f0.offset == 0 && f1.offset == 1 && f2.offset == 2 && !P.stoodInHeld t && !P.eqGuardType P.depth t
    | _ => false
  | _ => false
/-- A map of strings to truth values. -/
def smapTy (P : Program) (t : TypeId) : Bool := match P.underlying t with
  | some (.map k e) => (match P.underlying k with | some .string => true | _ => false) && (match P.info? e with | some i => (match i.zero with | some (.bool false) => true | _ => false) | none => false)
  | _ => false
def mpIdx (es : List (ByteArray × Bool)) (s : ByteArray) : Option Nat := es.findIdx? fun p => s == p.1
def mpGet (es : List (ByteArray × Bool)) (s : ByteArray) : Bool := match mpIdx es s with
  | some i => (es.getD i (s, false)).2
  | none => false
def mpPut (es : List (ByteArray × Bool)) (s : ByteArray) (b : Bool) : List (ByteArray × Bool) := match mpIdx es s with
  | some i => es.set i (s, b)
  | none => es ++ [(s, b)]
def sBin (P : Program) (op : BinOp) (t : TypeId) (x y : AV) (K : AV → Prop) : Prop :=
  match x, y with
  | .int k a, .int k' b => k = k' ∧ sInt op k a b K
  | .str a, .str b => sStr op a b K
  | .bool a, .bool b => match (tyI P t).tk with
    | .bool => match op with
      | .eql => K (.bool (a == b))
      | .neq => K (.bool (!(a == b)))
      | _ => False
    | _ => False
  | .agg cs, .agg ds => match three cs, three ds, op with
    | some a, some b, .eql => eq3Ty P t = true ∧ K (.bool (decide (a = b)))
    | some a, some b, .neq => eq3Ty P t = true ∧ K (.bool (!decide (a = b)))
    | _, _, _ => False
  | _, _ => False
/-- A slice held against nil. -/
def sNil (P : Program) (op : BinOp) (t : TypeId) (x : AV) (K : AV → Prop) : Prop :=
  match (tyI P t).tk, x, op with
  | .slice _, .sl _ _ n, .eql => ∀ r : Bool, (r = true → n = 0) → K (.bool r)
  | .slice _, .sl _ _ n, .neq => ∀ r : Bool, (r = false → n = 0) → K (.bool r)
  | .slice _, .emp, .eql => ∀ r : Bool, K (.bool r)
  | .slice _, .emp, .neq => ∀ r : Bool, K (.bool r)
  | _, _, _ => False
def isNil : Operand → Bool
  | .const (.slice none 0 0) => true
  | _ => false
def sUn (op : UnOp) (x : AV) (K : AV → Prop) : Prop :=
  match op, x with
  | .not, .bool b => K (.bool !b)
  | .neg, .int k n => K (.int k (k.wrap (0 - n)))
  | _, _ => False
def optInt (env : Env) : Option Operand → Option (Option Int)
  | none => some none
  | some x => match ev env x with
    | .int _ n => some (some n)
    | _ => none
def sSlice (P : Program) (H : Heap) (t : TypeId) (x : AV) (lo hi mx : Option (Option Int)) (K : AV → Prop) : Prop :=
  match (tyI P t).tk, x, lo, hi, mx with
  | .str, .str s, some lo, some hi, some none =>
    (0 ≤ lo.getD 0 ∧ lo.getD 0 ≤ hi.getD s.size ∧ hi.getD s.size ≤ s.size) ∧ K (.str (s.extract (lo.getD 0).toNat (hi.getD s.size).toNat))
  | .slice e, .sl n o len, some lo, some hi, some none =>
    (match aget H n with | some (.c _ lv) => lv.z = (tyI P e).sz ∧ 0 < (tyI P e).sz | _ => False) ∧ (0 ≤ lo.getD 0 ∧ lo.getD 0 ≤ hi.getD len ∧ hi.getD len ≤ len) ∧ K (.sl n (o + (lo.getD 0).toNat * (tyI P e).sz) ((hi.getD len).toNat - (lo.getD 0).toNat))
  | .slice e, .sl _ _ _, some (some 0), some (some 0), some (some 0) => 0 < (tyI P e).sz ∧ K .emp
  | .slice e, .emp, some lo, some hi, some none => (0 < (tyI P e).sz ∧ lo.getD 0 = 0 ∧ hi.getD 0 = 0) ∧ K .emp
  | .slice e, .emp, some (some 0), some (some 0), some (some 0) => 0 < (tyI P e).sz ∧ K .emp
  | _, _, _, _, _ => False
/-- What a slice value reads as, from its entry: n elements of sz cells. -/
def srcOf (H : Heap) (sz : Nat) : AV → Option LV
  | .emp => some (.av sz [])
  | .sl n o len => match aget H n with
    | some (.c _ lv) => if o + len * sz ≤ lv.len ∧ lv.z = sz then some (lv.view o (len * sz)) else none
    | _ => none
  | _ => none
def lenOf? : AV → Option Nat
  | .emp => some 0
  | .sl _ _ n => some n
  | .str s => some s.size
  | _ => none
def baseOf (H : Heap) (sz : Nat) : AV → Option (LV × Option Nat)
  | .emp => some (.av sz [], none)
  | .sl n o len => match aget H n with
    | some (.c true lv) => if o + len * sz = lv.len ∧ lv.z = sz then some (lv.view o (len * sz), some n) else none
    | _ => none
  | _ => none
def LV.app2 (a b : LV) : LV := match a, b with
  | .av _ [], b => b
  | a, .av _ [] => a
  | a, b => a.app b
def killO (H : Heap) : Option Nat → Heap
  | some n => aset H n .dead
  | none => H
def apartO : Option Nat → AV → Bool
  | some n, .sl m _ _ => n != m
  | _, _ => true
def sAppend (P : Program) (nm : Nat) (H : Heap) (t : TypeId) (s x : AV) (K : Kt) : Prop :=
  match (tyI P t).tk with
  | .slice e => match baseOf H (tyI P e).sz s, srcOf H (tyI P e).sz x, lenOf? s, lenOf? x with
    | some (lb, n), some lx, some a, some b =>
      (aget H nm = none ∧ a + b < limB (tyI P e).bytes ∧ 0 < (tyI P e).sz ∧ (tyI P e).zero.length = (tyI P e).sz ∧ (tyI P e).bytes ≤ 1000 ∧ apartO n x = true) ∧
      K (.sl nm 0 (a + b)) (aset (killO H n) nm (.c true (lb.app2 lx)))
    | _, _, _, _ => False
  | _ => False
/-- 'append(nil, make(..)...)'. -/
def sMake (P : Program) (nm : Nat) (H : Heap) (t : TypeId) (s x : AV) (K : Kt) : Prop :=
  match (tyI P t).tk, s, x with
  | .slice e, .emp, .int .i64 n => (aget H nm = none ∧ 0 ≤ n ∧ n < lim40 ∧ 0 < (tyI P e).sz ∧ (tyI P e).zero.length = (tyI P e).sz ∧ (tyI P e).bytes ≤ 120 ∧ (LV.rep (tyI P e).ek (tyI P e).sz n.toNat (tyI P e).zero).z = (tyI P e).sz) ∧
        K (.sl nm 0 n.toNat) (aset H nm (.c true (LV.rep (tyI P e).ek (tyI P e).sz n.toNat (tyI P e).zero)))
  | _, _, _ => False
/-- A call: by a contract (told below). -/
def CallT := Nat → List AV → Heap → Nat → Kt → Prop
def sCall (P : Program) (call : CallT) (nm : Nat) (H : Heap) (c : Call) (env : Env) (K : Kt) : Prop :=
  match c.callee with
  | .builtin .len => match (c.argTypes[0]?).map fun t => (tyI P t).tk, (c.args[0]?).map (ev env) with
    | some (.slice _), some (.sl _ _ n) => K (.int .i64 n) H
    | some (.slice _), some .emp => K (.int .i64 0) H
    | some .str, some (.str s) => K (.int .i64 s.size) H
    | _, _ => False
  | .builtin .cap => match (c.argTypes[0]?).map fun t => (tyI P t).tk, (c.args[0]?).map (ev env) with
    | some (.slice _), some .emp => K (.int .i64 0) H
    | some (.slice _), some (.sl _ _ n) => ∀ m : Nat, n ≤ m → K (.int .i64 m) H
    | _, _ => False
  | .builtin .append => match c.argTypes[0]?, c.argTypes[1]?, (c.args[0]?).map (ev env), (c.args[1]?).map (ev env) with
    | some t, some t2, some s, some x => match (tyI P t2).tk with | .slice _ => sAppend P nm H t s x K | .int _ => sMake P nm H t s x K | _ => False
    | _, _, _, _ => False
  | .value f => match ev env f with
    | .fn g caps => call g ((c.args.toList.map (ev env)) ++ caps.map fun p => AV.ptr p.1 p.2) H nm K
    | _ => False
  | _ => False
/-- Parts fill cells, told of lists. -/
def fillL (place : Nat → Option (Nat × Nat)) : List AV → List (Nat × AV) → Option (List AV)
  | cs, [] => some cs
  | cs, (i, x) :: r => match place i with
    | some (off, sz) => if (cellsOf x).length = sz ∧ off + sz ≤ cs.length ∧ x.fits = true then fillL place (cs.take off ++ cellsOf x ++ cs.drop (off + sz)) r else none
    | none => none
def sBuild (ti : TI) (parts : List (Nat × AV)) : Option (List AV) :=
  match ti.tk with
  | .struct fs => fillL (fs[·]?) ti.zero parts
  | _ => none
def partsIn : Nat → List (Nat × AV) → Bool
  | _, [] => true
  | k, p :: r => p.1 == k && p.2.fits && partsIn (k + 1) r
/-- A field that is one cell: its place. -/
def fldI (P : Program) (t : TypeId) (f : Nat) : Option Nat := match P.underlying t with
  | some (.struct fields) => match fields[f]? with
    | some fl => if (tyI P fl.type).agg = false ∧ 0 < (tyI P fl.type).sz then some fl.offset else none
    | none => none
  | _ => none
/-- One operation: what it comes to, handed on to K. nm: the name of what it makes. -/
def stp (P : Program) (call : CallT) (nm : Nat) (o : Oper) (env : Env) (H : Heap) (K : Kt) : Prop :=
  match o.op with
  | .move x => K (ev env x) H
  | .assign x => K (ev env x) H
  | .pick c a b => match ev env c with
    | .bool t => (t = true → K (ev env a) H) ∧ (t = false → K (ev env b) H)
    | _ => False
  | .alloc t => (aget H nm = none ∧ 0 < (tyI P t).sz ∧ (tyI P t).zero.length = (tyI P t).sz) ∧ K (.ptr nm 0) (aset H nm (.c true (.av 1 (tyI P t).zero)))
  | .box _ x => (aget H nm = none ∧ (ev env x).fits = true) ∧ K (.ptr nm 0) (aset H nm (.c true (.av 1 (cellsOf (ev env x)))))
  | .build t parts => match sBuild (tyI P t) (parts.toList.map fun p => (p.1, ev env p.2)) with
    | some cs => (0 < (tyI P t).sz ∧ (tyI P t).zero.length = (tyI P t).sz) ∧ K (.agg cs) H
    | none => False
  | .buildSlice t len parts => match (tyI P t).tk with
    | .slice e => (aget H nm = none ∧ parts.size = len ∧ len * (tyI P e).sz ≤ 16777216 ∧ 0 < (tyI P e).sz ∧ (tyI P e).zero.length = (tyI P e).sz ∧ partsIn 0 (parts.toList.map fun p => (p.1, ev env p.2)) = true ∧
        (parts.toList.all fun p => (cellsOf (ev env p.2)).length == (tyI P e).sz) = true ∧
        (LV.mk (tyI P e).ek (tyI P e).sz (parts.toList.flatMap fun p => cellsOf (ev env p.2))).z = (tyI P e).sz) ∧
        K (.sl nm 0 len) (aset H nm (.c true (LV.mk (tyI P e).ek (tyI P e).sz (parts.toList.flatMap fun p => cellsOf (ev env p.2)))))
    | _ => False
  | .load t a => sLoad (tyI P t) H (ev env a) fun v => K v H
  | .store t a x => sStore (tyI P t) H (ev env a) (ev env x) fun H' => K (.tup []) H'
  | .nilCheck x => match ev env x with
    | .ptr n o => K (.ptr n o) H
    | .fn f caps => K (.fn f caps) H
    | _ => False
  | .binOp op t x y _ => if isNil y then sNil P op t (ev env x) (fun v => K v H) else sBin P op t (ev env x) (ev env y) fun v => K v H
  | .unOp op _ x => sUn op (ev env x) fun v => K v H
  | .convert src dst x => match (tyI P src).tk, (tyI P dst).tk, ev env x with
    | .int _, .int k, .int _ n => K (.int k (k.wrap n)) H
    | .slice e, .str, x => (tyI P e).tk = .int .u8 ∧ match srcOf H 1 x with
      | some (.bys l) => K (.str ⟨l.toArray⟩) H
      | _ => False
    | _, _, _ => False
  | .makeFunc (.func f) first caps => (first.size = 0) ∧ (match caps.toList.mapM (fun x => match ev env x with | .ptr n o => some (n, o) | _ => none) with
    | some ps => K (.fn f ps) H
    | none => False)
  | .makeSlice t l c => match (tyI P t).tk, ev env l, ev env c with
    | .slice e, .int .i64 n, .int .i64 m => (aget H nm = none ∧ 0 ≤ n ∧ n < lim40 ∧ m = n ∧ 0 < (tyI P e).sz ∧ (tyI P e).zero.length = (tyI P e).sz ∧ (tyI P e).bytes ≤ 120 ∧ (LV.rep (tyI P e).ek (tyI P e).sz n.toNat (tyI P e).zero).z = (tyI P e).sz) ∧
        K (.sl nm 0 n.toNat) (aset H nm (.c true (LV.rep (tyI P e).ek (tyI P e).sz n.toNat (tyI P e).zero)))
    | _, _, _ => False
  | .slice t x lo hi mx => sSlice P H t (ev env x) (optInt env lo) (optInt env hi) (optInt env mx) fun v => K v H
  | .fieldAddr s x f => match (tyI P s).tk, ev env x with
    | .struct fs, .ptr n off => match fs[f]? with
      | some (o, sz) => sz ≠ 0 ∧ K (.ptr n (off + o)) H
      | none => False
    | _, _ => False
  | .indexAddr t x i => match (tyI P t).tk, ev env x, ev env i with
    | .slice e, .sl n o len, .int _ j => (0 < (tyI P e).sz ∧ 0 ≤ j ∧ j < len) ∧ K (.ptr n (o + j.toNat * (tyI P e).sz)) H
    | _, _, _ => False
  | .index t x i => match (tyI P t).tk, ev env x, ev env i with
    | .str, .str s, .int _ j => (0 ≤ j ∧ j < s.size) ∧ K (.int .u8 (s.data.getD j.toNat 0).toNat) H
    | _, _, _ => False
  | .extract t i => match ev env t with
    | .tup vs => match vs[i]? with
      | some v => v.fits = true ∧ K v H
      | none => False
    | _ => False
  | .call c => sCall P call nm H c env K
  | .field t x f => match fldI P t f, ev env x with
    | some o, .agg cs => match cs[o]? with
      | some v => v.fits = true ∧ K v H
      | none => False
    | _, _ => False
  | .makeMap t none => (smapTy P t = true ∧ aget H nm = none) ∧ K (.mapv nm) (aset H nm (.mp []))
  | .lookup t x i false => match ev env x, ev env i with
    | .mapv n, .str s => match aget H n with
      | some (.mp es) => smapTy P t = true ∧ K (.bool (mpGet es s)) H
      | _ => False
    | _, _ => False
  | .mapUpdate t m k x => match ev env m, ev env k, ev env x with
    | .mapv n, .str s, .bool b => match aget H n with
      | some (.mp es) => smapTy P t = true ∧ K (.tup []) (aset H n (.mp (mpPut es s b)))
      | _ => False
    | _, _, _ => False
  | .insert t m k x => match ev env m, ev env k, ev env x with
    | .mapv n, .str s, .bool b => match aget H n with
      | some (.mp es) => smapTy P t = true ∧ K (.tup []) (aset H n (.mp (mpPut es s b)))
      | _ => False
    | _, _, _ => False
  | _ => False

/-! Regions -/
def nmOf (id i : Nat) : Nat := ((id + 1) * 128 + i) * 8
def put (env : Env) (d : Option Tmp) (v : AV) : Env := match d with
  | some d => aset env d v
  | none => env
def putc (env : Env) (d : Option Tmp) (v : AV) : Env := match d with
  | some d => (d, v) :: env
  | none => env
def gA (all : List Oper) (env : Env) (o : Oper) : Option Bool :=
  match o.guard with
  | none => some true
  | some (j, want) => match (all[j]?).bind (·.dst) with
    | some d => match env.get d with
      | .bool b => some (b == want)
      | .tup [] => some false
      | _ => none
    | none => none
def reg (P : Program) (call : CallT) (all : List Oper) (id : Nat) : Nat → List Oper → Env → Heap → (Env → Heap → Prop) → Prop
  | _, [], env, H, K => K env H
  | i, o :: os, env, H, K => match o.guard with
    | none => stp P call (nmOf id i) o env H fun v H' => reg P call all id (i + 1) os (putc env o.dst v) H' K
    | some _ => match gA all env o with
      | some g => (g = true → stp P call (nmOf id i) o env H fun v H' => reg P call all id (i + 1) os (putc env o.dst v) H' K) ∧
          (g = false → reg P call all id (i + 1) os (putc env o.dst (.tup [])) H K)
      | none => False

end Go.Proofs.YtbobhbhgomkgpaaGreatDoor.S

/- The symbolic heap: lemmas on values, contents and the relation to a world. Own work of this claim. -/
namespace Go.Proofs.YtbobhbhgomkgpaaGreatDoor.S
set_option linter.all false
open Go

theorem F2.imp {α β : Type} {R S : α → β → Prop} (h : ∀ a b, R a b → S a b) : ∀ {l : List α} {m : List β}, F2 R l m → F2 S l m
  | _, _, .nil => .nil
  | _, _, .cons a t => .cons (h _ _ a) (t.imp h)
theorem F2.length {α β : Type} {R : α → β → Prop} : ∀ {l : List α} {m : List β}, F2 R l m → l.length = m.length
  | _, _, .nil => rfl
  | _, _, .cons _ t => congrArg (· + 1) t.length
theorem F2.get {α β : Type} {R : α → β → Prop} : ∀ {l : List α} {m : List β}, F2 R l m → ∀ {i : Nat} {a : α}, l[i]? = some a → ∃ b, m[i]? = some b ∧ R a b
  | _, _, .nil, _, _, h => by simp at h
  | _, _, .cons r t, 0, _, h => by simp at h; subst h; exact ⟨_, rfl, r⟩
  | _, _, .cons r t, i + 1, _, h => by simp at h; simpa using t.get h
theorem F2.append {α β : Type} {R : α → β → Prop} {l' : List α} {m' : List β} : ∀ {l : List α} {m : List β}, F2 R l m → F2 R l' m' → F2 R (l ++ l') (m ++ m')
  | _, _, .nil, h' => h'
  | _, _, .cons r t, h' => .cons r (t.append h')
theorem F2.map {α β α' : Type} {R : α → β → Prop} {S : α' → β → Prop} {f : α → α'} (h : ∀ a b, R a b → S (f a) b) : ∀ {l : List α} {m : List β}, F2 R l m → F2 S (l.map f) m
  | _, _, .nil => .nil
  | _, _, .cons r t => .cons (h _ _ r) (t.map h)
theorem F2.mapr {α β γ : Type} {R : α → β → Prop} {f : γ → α} {g : γ → β} (h : ∀ c, R (f c) (g c)) : ∀ (l : List γ), F2 R (l.map f) (l.map g)
  | [] => .nil
  | c :: l => .cons (h c) (mapr h l)
theorem F2.take {α β : Type} {R : α → β → Prop} : ∀ {l : List α} {m : List β} (n : Nat), F2 R l m → F2 R (l.take n) (m.take n)
  | _, _, 0, _ => by simp; exact .nil
  | _, _, _ + 1, .nil => by simp; exact .nil
  | _, _, n + 1, .cons r t => by simp; exact .cons r (t.take n)
theorem F2.drop {α β : Type} {R : α → β → Prop} : ∀ {l : List α} {m : List β} (n : Nat), F2 R l m → F2 R (l.drop n) (m.drop n)
  | _, _, 0, h => by simpa using h
  | _, _, _ + 1, .nil => by simp; exact .nil
  | _, _, n + 1, .cons r t => by simpa using t.drop n

/-! More names -/
def Keeps (ν ν' : Nm) : Prop := ∀ n L, ν n = some L → ν' n = some L
theorem Keeps.refl (ν : Nm) : Keeps ν ν := fun _ _ h => h
theorem Keeps.trans {a b c : Nm} (h : Keeps a b) (h' : Keeps b c) : Keeps a c := fun n L x => h' n L (h n L x)
theorem PR.keeps {ν ν' : Nm} (k : Keeps ν ν') {p : Nat × Nat} {v : Value} (h : PR ν p v) : PR ν' p v := let ⟨L, a, b⟩ := h; ⟨L, k _ _ a, b⟩
theorem CR.keeps {ν ν' : Nm} (k : Keeps ν ν') {c : AV} {v : Value} (h : CR ν c v) : CR ν' c v := by
  cases c <;> simp only [CR] at h ⊢ <;> first | exact h | skip
  case ptr => exact h.keeps k
  case sl =>
    rcases h with ⟨L, c, a, b⟩ | h
    · exact .inl ⟨L, c, k _ _ a, b⟩
    · exact .inr h
  case mapv => obtain ⟨L, a, b⟩ := h; exact ⟨L, k _ _ a, b⟩
  case fn => obtain ⟨arr, a, b⟩ := h; exact ⟨arr, a, b.imp fun _ _ => PR.keeps k⟩
theorem VA.keeps {ν ν' : Nm} (k : Keeps ν ν') {c : AV} {v : Value} (h : VA ν c v) : VA ν' c v := by
  cases c <;> simp only [VA] at h ⊢ <;> first | exact h.keeps k | skip
  obtain ⟨arr, a, b⟩ := h; exact ⟨arr, a, b.imp fun _ _ => CR.keeps k⟩
theorem VR.keeps {ν ν' : Nm} (k : Keeps ν ν') {c : AV} {v : Value} (h : VR ν c v) : VR ν' c v := by
  cases c <;> simp only [VR] at h ⊢ <;> first | exact VA.keeps k h | skip
  obtain ⟨arr, a, b⟩ := h; exact ⟨arr, a, b.imp fun _ _ => VA.keeps k⟩
theorem EnvRel.keeps {ν ν' : Nm} (k : Keeps ν ν') {e : Env} {t : Array Value} (h : EnvRel ν e t) : EnvRel ν' e t := fun i => (h i).keeps k

/-! Cells of values -/
theorem CR.one {ν : Nm} {c : AV} {v : Value} (h : CR ν c v) : v.oneCell' = true := by
  cases c <;> simp only [CR, PR] at h
  case int => subst h; rfl
  case bool => subst h; rfl
  case str => subst h; rfl
  case ptr => obtain ⟨_, _, rfl⟩ := h; rfl
  case sl => rcases h with ⟨_, _, _, _, _, rfl⟩ | ⟨_, _, rfl⟩ <;> rfl
  case emp => obtain ⟨_, rfl⟩ := h; rfl
  case mapv => obtain ⟨_, _, rfl⟩ := h; rfl
  case fn => obtain ⟨_, rfl, _⟩ := h; rfl
  case any => exact h
  case lit => rw [h.1]; exact h.2
theorem cells_one {v : Value} (h : v.oneCell' = true) : v.cells = #[v] := by cases v <;> first | rfl | simp [Value.oneCell'] at h
theorem VA.cells {ν : Nm} {a : AV} {v : Value} (h : VA ν a v) : F2 (CR ν) (cellsOf a) v.cells.toList := by
  cases a with
  | agg cs => obtain ⟨arr, rfl, b⟩ := h; exact b
  | tup cs => simp [VA, CR] at h
  | _ => simp only [VA] at h; rw [cells_one (CR.one h)]; exact .cons h .nil
theorem VR.fits {ν : Nm} {a : AV} {v : Value} (h : VR ν a v) (hf : a.fits = true) : VA ν a v := by
  cases a <;> first | exact h | simp [AV.fits] at hf
theorem VA.vr {ν : Nm} {a : AV} {v : Value} (h : VA ν a v) : VR ν a v := by
  cases a <;> first | exact h | trivial | (simp [VA, CR] at h)

/-! Constants -/
theorem cvc_ok (ν : Nm) (v : Value) (h : v.oneCell' = true) : CR ν (cvc v) v := by
  unfold cvc
  split <;> simp [CR, Value.oneCell'] at h ⊢ <;> first | exact h | trivial
theorem cv_ok (ν : Nm) (v : Value) : VR ν (cv v) v := by
  unfold cv
  split
  · rename_i cs
    split
    · rename_i h
      refine ⟨cs, rfl, ?_⟩
      have : F2 (CR ν) (cs.toList.map cvc) (cs.toList.map id) := by
        have hh : ∀ (l : List Value), l.all Value.oneCell' = true → F2 (CR ν) (l.map cvc) (l.map id) := by
          intro l
          induction l with
          | nil => intro _; exact .nil
          | cons a l ih => intro h; simp at h; exact .cons (cvc_ok ν a h.1) (ih (by simpa using h.2))
        exact hh _ h
      simpa using this
    · trivial
  · rename_i hv
    by_cases ho : v.oneCell' = true
    · have := cvc_ok ν v ho
      revert this
      cases cvc v <;> intro this <;> first | exact this | trivial | (simp [CR] at this)
    · cases v <;> simp [Value.oneCell'] at ho <;> first | (simp at hv; done) | (simp [cvc, VR])

/-! Contents -/
theorem LV.toL_av (z : Nat) (l : List AV) : (LV.av z l).toL = l := rfl
theorem LV.len_eq (lv : LV) : lv.toL.length = lv.len := by
  cases lv <;> simp [LV.toL, LV.len]
  rename_i l
  induction l with
  | nil => rfl
  | cons a l ih => simp [opL] at ih ⊢; omega
theorem opL_get (l : List (Int × Int × Int)) (k : Nat) (h : k < 3 * l.length) : (l.flatMap opL)[k]? = some ((opL (l.getD (k / 3) (0, 0, 0))).getD (k % 3) .any) := by
  induction l generalizing k with
  | nil => simp at h
  | cons a l ih =>
    by_cases hk : k < 3
    · have h1 : k / 3 = 0 := by omega
      have h2 : k % 3 = k := by omega
      rw [h1, h2]
      have : (List.flatMap opL (a :: l))[k]? = (opL a)[k]? := by
        rw [List.flatMap_cons, List.getElem?_append_left]; simpa [opL] using hk
      rw [this]
      have : k = 0 ∨ k = 1 ∨ k = 2 := by omega
      rcases this with rfl | rfl | rfl <;> simp [opL]
    · have h1 : k / 3 = (k - 3) / 3 + 1 := by omega
      have h2 : k % 3 = (k - 3) % 3 := by omega
      rw [h1, h2]
      have : (List.flatMap opL (a :: l))[k]? = (List.flatMap opL l)[k - 3]? := by
        rw [List.flatMap_cons, List.getElem?_append_right]
        · simp [opL]
        · simp [opL]; omega
      rw [this, ih (k - 3) (by simp at h; omega)]
      simp
theorem LV.lk_eq (lv : LV) (k : Nat) (h : k < lv.len) : lv.toL[k]? = some (lv.lk k) := by
  cases lv <;> simp [LV.toL, LV.len, LV.lk] at h ⊢
  case av z l => rw [List.getElem?_eq_getElem h]; simp
  case ints l => rw [List.getElem?_eq_getElem h]; simp
  case bools l => rw [List.getElem?_eq_getElem h]; simp
  case bys l => rw [List.getElem?_eq_getElem h]; simp
  case strs l => rw [List.getElem?_eq_getElem h]; simp
  case ops l => simpa using opL_get l k h
theorem opL_drop (l : List (Int × Int × Int)) (k : Nat) : (l.flatMap opL).drop (3 * k) = (l.drop k).flatMap opL := by
  induction k generalizing l with
  | zero => simp
  | succ k ih =>
    cases l with
    | nil => simp
    | cons a l =>
      have : 3 * (k + 1) = 3 * k + 3 := by omega
      rw [this, List.flatMap_cons, List.drop_succ_cons, ← ih l]
      show List.drop (3 * k + 3) ([_, _, _] ++ _) = _
      simp
theorem opL_take (l : List (Int × Int × Int)) (k : Nat) : (l.flatMap opL).take (3 * k) = (l.take k).flatMap opL := by
  induction k generalizing l with
  | zero => simp
  | succ k ih =>
    cases l with
    | nil => simp
    | cons a l =>
      have : 3 * (k + 1) = 3 * k + 3 := by omega
      rw [this, List.flatMap_cons, List.take_succ_cons, List.flatMap_cons, ← ih l]
      show List.take (3 * k + 3) ([_, _, _] ++ _) = _
      simp [opL]
theorem LV.ex_eq (lv : LV) (k n : Nat) (h : k + n ≤ lv.len) : lv.ex k n = .agg ((lv.toL.drop k).take n) := by
  cases lv <;> simp only [LV.ex]
  rename_i l
  split
  · rename_i hk
    obtain ⟨h1, rfl⟩ := hk
    simp only [LV.toL, LV.len] at h ⊢
    congr 1
    have e : k = 3 * (k / 3) := by omega
    conv => rhs; rw [e]
    rw [opL_drop]
    have : (3 : Nat) = 3 * 1 := rfl
    conv => rhs; rw [this]
    rw [opL_take]
    have hlt : k / 3 < l.length := by omega
    rw [List.drop_eq_getElem_cons (h := hlt), List.take_succ_cons, List.take_zero]
    simp [List.getD_eq_getElem?_getD, List.getElem?_eq_getElem hlt]
  · rfl
theorem LV.st_eq (lv : LV) (k : Nat) (c : AV) : (lv.st k c).toL = lv.toL.set k c := by
  unfold LV.st
  split <;> simp [LV.toL, List.map_set]
theorem LV.view_eq (lv : LV) (o n : Nat) : (lv.view o n).toL = (lv.toL.drop o).take n := by
  cases lv
  case ops l =>
   simp only [LV.view]
   by_cases h : o % 3 = 0 ∧ n % 3 = 0
   · rw [if_pos h]
     simp only [LV.toL]
     obtain ⟨h1, h2⟩ := h
     have e1 : o = 3 * (o / 3) := by omega
     have e2 : n = 3 * (n / 3) := by omega
     conv => rhs; rw [e1, e2]
     rw [opL_drop, opL_take]
   · rw [if_neg h]
     simp only [LV.toL]
  all_goals simp [LV.view, LV.toL, List.map_drop, List.map_take]
theorem LV.app_eq (a b : LV) : (a.app b).toL = a.toL ++ b.toL := by
  unfold LV.app
  split <;> simp [LV.toL]
theorem LV.app2_eq (a b : LV) : (a.app2 b).toL = a.toL ++ b.toL := by
  unfold LV.app2
  split
  · simp [LV.toL]
  · simp [LV.toL]
  · exact LV.app_eq a b
theorem LV.st_z (lv : LV) (k : Nat) (c : AV) : (lv.st k c).z = lv.z := by
  unfold LV.st
  split <;> rfl
theorem LV.view_z (lv : LV) (o n : Nat) : (lv.view o n).z = lv.z := by
  cases lv
  case ops l =>
    simp only [LV.view]
    by_cases h : o % 3 = 0 ∧ n % 3 = 0
    · rw [if_pos h]; rfl
    · rw [if_neg h]; rfl
  all_goals rfl
theorem LV.app_z (a b : LV) : (a.app b).z = a.z := by
  unfold LV.app
  split <;> rfl
theorem LV.app2_z (a b : LV) (h : a.z = b.z) : (a.app2 b).z = a.z := by
  unfold LV.app2
  split
  · exact h.symm
  · rfl
  · exact LV.app_z a b
theorem stAll_z : ∀ (cs : List AV) (lv : LV) (k : Nat), (stAll lv k cs).z = lv.z
  | [], _, _ => rfl
  | c :: r, lv, k => by rw [stAll, stAll_z r, LV.st_z]
theorem stAll_eq : ∀ (cs : List AV) (lv : LV) (k : Nat), (stAll lv k cs).toL = (cs.zipIdx k).foldl (fun l p => l.set p.2 p.1) lv.toL
  | [], _, _ => rfl
  | c :: r, lv, k => by
    simp only [stAll, List.zipIdx_cons, List.foldl_cons]
    rw [stAll_eq r, LV.st_eq]
theorem allInts_eq : ∀ (l : List AV) (z : List Int), allInts l = some z → z.map (AV.int .i64) = l := by
  intro l
  induction l with
  | nil => intro z h; simp [allInts] at h; subst h; rfl
  | cons a l ih =>
    intro z h
    unfold allInts at h
    split at h
    · simp at *
    · rename_i n r he
      simp at he
      obtain ⟨rfl, rfl⟩ := he
      simp at h
      obtain ⟨z', h1, rfl⟩ := h
      simp [ih z' h1]
    · simp at h
theorem allBools_eq : ∀ (l : List AV) (z : List Bool), allBools l = some z → z.map AV.bool = l := by
  intro l
  induction l with
  | nil => intro z h; simp [allBools] at h; subst h; rfl
  | cons a l ih =>
    intro z h
    unfold allBools at h
    split at h
    · simp at *
    · rename_i n r he
      simp at he
      obtain ⟨rfl, rfl⟩ := he
      simp at h
      obtain ⟨z', h1, rfl⟩ := h
      simp [ih z' h1]
    · simp at h
theorem allStrs_eq : ∀ (l : List AV) (z : List ByteArray), allStrs l = some z → z.map AV.str = l := by
  intro l
  induction l with
  | nil => intro z h; simp [allStrs] at h; subst h; rfl
  | cons a l ih =>
    intro z h
    unfold allStrs at h
    split at h
    · simp at *
    · rename_i n r he
      simp at he
      obtain ⟨rfl, rfl⟩ := he
      simp at h
      obtain ⟨z', h1, rfl⟩ := h
      simp [ih z' h1]
    · simp at h
theorem allBytes_eq : ∀ (l : List AV) (z : List UInt8), allBytes l = some z → (z.map fun b => AV.int .u8 b.toNat) = l := by
  intro l
  induction l with
  | nil => intro z h; simp [allBytes] at h; subst h; rfl
  | cons a l ih =>
    intro z h
    unfold allBytes at h
    split at h
    · simp at *
    · rename_i n r he
      simp at he
      obtain ⟨rfl, rfl⟩ := he
      split at h
      · rename_i hn
        simp at h
        obtain ⟨z', h1, rfl⟩ := h
        simp [ih z' h1]
        have : n.toNat % 256 = n.toNat := by omega
        omega
      · simp at h
    · simp at h
theorem allOps_eq : ∀ (n : Nat) (l : List AV), l.length ≤ n → ∀ (z : List (Int × Int × Int)), allOps l = some z → z.flatMap opL = l := by
  intro n
  induction n with
  | zero => intro l hl z h; cases l with
    | nil => simp [allOps] at h; subst h; rfl
    | cons a l => simp at hl
  | succ n ih =>
    intro l hl z h
    unfold allOps at h
    split at h
    · simp at h; subst h; rfl
    · simp at h
      obtain ⟨z', h1, rfl⟩ := h
      simp at hl
      simp [ih _ (by omega) z' h1, opL]
    · simp at h
theorem LV.mk_eq (ek z : Nat) (l : List AV) : (LV.mk ek z l).toL = l := by
  unfold LV.mk
  split
  · split
    · rename_i h; exact allInts_eq l _ h
    · rfl
  · split
    · rename_i h; exact allBools_eq l _ h
    · rfl
  · split
    · rename_i h; exact allBytes_eq l _ h
    · rfl
  · split
    · rename_i h; exact allStrs_eq l _ h
    · rfl
  · split
    · rename_i h; exact allOps_eq _ l (Nat.le_refl _) _ h
    · rfl
  · rfl

end Go.Proofs.YtbobhbhgomkgpaaGreatDoor.S

/- The symbolic heap: how the relation to a world is kept by what operations do to memory. Own work of this claim. -/
namespace Go.Proofs.YtbobhbhgomkgpaaGreatDoor.S
set_option linter.all false
open Go

def upd (ν : Nm) (n : Nat) (L : Loc) : Nm := fun m => if m = n then some L else ν m
theorem upd_self (ν : Nm) (n : Nat) (L : Loc) : upd ν n L n = some L := by simp [upd]
theorem upd_other {ν : Nm} {n m : Nat} (L : Loc) (h : m ≠ n) : upd ν n L m = ν m := by simp [upd, h]
theorem Keeps.upd {ν : Nm} {n : Nat} (L : Loc) (h : ν n = none) : Keeps ν (S.upd ν n L) := by
  intro m M hm
  by_cases e : m = n
  · subst e; rw [h] at hm; cases hm
  · rw [upd_other L e]; exact hm

theorem ER.move {ν ν' : Nm} {w w' : World} {n : Nat} {e : Ent} (k : Keeps ν ν') (hn : ν' n = ν n) (hw : ∀ L, ν n = some L → w'.heap[L.blk]? = w.heap[L.blk]?) (h : ER ν w n e) : ER ν' w' n e := by
  cases e with
  | dead => trivial
  | mp es =>
    obtain ⟨L, hL, ents, clock, hh, rest⟩ := h
    exact ⟨L, hn ▸ hL, ents, clock, by rw [hw L hL]; exact hh, rest⟩
  | c own lv =>
    simp only [ER] at h ⊢
    rw [hn]
    cases hL : ν n with
    | none => rw [hL] at h; exact h
    | some L =>
      rw [hL] at h
      obtain ⟨hz, arr, T, fr, h1, h2, h3, h4, h5⟩ := h
      exact ⟨hz, arr, T, fr, by rw [hw L hL]; exact h1, h2, h3, fun i hi => by obtain ⟨v, a, c, b, d⟩ := h4 i hi; exact ⟨v, a, c, b, d.keeps k⟩, h5⟩
/-- A live entry's block is there. -/
theorem ER.lt {ν : Nm} {w : World} {n : Nat} {e : Ent} {L : Loc} (h : ER ν w n e) (hl : e.live = true) (hL : ν n = some L) : L.blk < w.heap.size := by
  cases e with
  | dead => cases hl
  | mp es =>
    obtain ⟨L', hL', ents, clock, hh, _⟩ := h
    rw [hL] at hL'; cases hL'
    exact (Array.getElem?_eq_some_iff.1 hh).1
  | c own lv =>
    simp only [ER, hL] at h
    obtain ⟨_, arr, T, fr, h1, _⟩ := h
    exact (Array.getElem?_eq_some_iff.1 h1).1
/-- The cells of an entry. -/
theorem ER.cell {ν : Nm} {w : World} {n : Nat} {own : Bool} {lv : LV} {L : Loc} (h : ER ν w n (.c own lv)) (hL : ν n = some L) {k : Nat} (hk : k < lv.len) :
    ∃ v, w.cell? ⟨L.blk, L.off + k, none⟩ = some v ∧ CR ν (lv.lk k) v := by
  simp only [ER, hL] at h
  obtain ⟨_, arr, T, fr, h1, h2, h3, h4, h5⟩ := h
  obtain ⟨v, hv, c, hc, hr⟩ := h4 k (by rw [LV.len_eq]; exact hk)
  rw [LV.lk_eq lv k hk] at hc
  cases hc
  exact ⟨v, by simp [World.cell?, h1, hv], hr⟩
theorem ER.cells {ν : Nm} {w : World} {n : Nat} {own : Bool} {lv : LV} {L : Loc} (h : ER ν w n (.c own lv)) (hL : ν n = some L) (o m : Nat) (hm : o + m ≤ lv.len) :
    ∃ vs : List Value, F2 (CR ν) ((lv.toL.drop o).take m) vs ∧ vs.length = m ∧ (∀ j v, vs[j]? = some v → w.cell? ((⟨L.blk, L.off + o, none⟩ : Addr).add j) = some v) := by
  induction m with
  | zero => exact ⟨[], by simp; exact .nil, rfl, by simp⟩
  | succ m ih =>
    obtain ⟨vs, h1, h2, h3⟩ := ih (by omega)
    obtain ⟨v, hv, hr⟩ := h.cell hL (k := o + m) (by omega)
    refine ⟨vs ++ [v], ?_, by simp [h2], ?_⟩
    · have : (lv.toL.drop o).take (m + 1) = (lv.toL.drop o).take m ++ [lv.lk (o + m)] := by
        rw [List.take_add_one]
        congr 1
        rw [List.getElem?_drop, LV.lk_eq lv (o + m) (by omega)]
        rfl
      rw [this]
      exact h1.append (.cons hr .nil)
    · intro j u hj
      by_cases hlt : j < vs.length
      · exact h3 j u (by rw [List.getElem?_append_left hlt] at hj; exact hj)
      · have : j = m := by
          have := (List.getElem?_eq_some_iff.1 hj).1
          simp at this; omega
        subst this
        rw [List.getElem?_append_right (by omega), h2] at hj
        simp at hj
        subst hj
        have e : ((⟨L.blk, L.off + o, none⟩ : Addr).add j) = ⟨L.blk, L.off + (o + j), none⟩ := by
          unfold Addr.add
          by_cases h0 : j = 0
          · rw [if_pos h0, h0]; rfl
          · rw [if_neg h0]; simp [Nat.add_assoc]
        rw [e]; exact hv

theorem Inv.heap {G : Nat → Prop} {hp : HP} {ν : Nm} {H : Heap} {w w' : World} (h : Inv G hp ν H w) (e : w'.heap = w.heap) (ex : SameOut w w') : Inv G hp ν H w' where
  fx := ⟨ex.1.trans h.fx.1, ex.2.1.trans h.fx.2.1, ex.2.2.trans h.fx.2.2⟩
  er n x hx := (h.er n x hx).move (.refl ν) rfl (fun _ _ => by rw [e])
  inj := h.inj
  dom := h.dom
  gfr b hb := by rw [e]; exact h.gfr b hb
  nb := h.nb
  own := h.own

theorem aset_ne {H : Heap} {n m : Nat} {e : Ent} (h : aget H m ≠ none) : aget (aset H n e) m ≠ none := by
  rw [aget_aset]; split <;> simp [h]
/-- An entry is given up. -/
theorem Inv.kill {G : Nat → Prop} {hp : HP} {ν : Nm} {H : Heap} {w : World} (h : Inv G hp ν H w) {n : Nat} {e0 : Ent} (_h0 : aget H n = some e0) : Inv G hp ν (aset H n .dead) w where
  fx := h.fx
  er m x hx := by
    rw [aget_aset] at hx
    split at hx
    · cases hx; trivial
    · exact h.er m x hx
  inj a b x y hx ho hy hl := by
    rw [aget_aset] at hx hy
    split at hx
    · cases hx; cases ho
    · split at hy
      · cases hy; cases hl
      · exact h.inj a b x y hx ho hy hl
  dom m hm := by
    rw [aget_aset] at hm
    split at hm
    · cases hm
    · exact h.dom m hm
  gfr := h.gfr
  nb m hm := ⟨(h.nb m hm).1, aset_ne (h.nb m hm).2⟩
  own m x L hx ho := by
    rw [aget_aset] at hx
    split at hx
    · cases hx; cases ho
    · exact h.own m x L hx ho

/-- A new block under a new name. -/
theorem Inv.alloc {G : Nat → Prop} {hp : HP} {ν : Nm} {H : Heap} {w : World} (h : Inv G hp ν H w) {nm : Nat} (hn : aget H nm = none)
    (arr : Array Value) (T : TypeId) (lv : LV) (hl : lv.toL.length ≤ arr.size) (hc : ∀ (k : Nat) (c : AV), lv.toL[k]? = some c → ∃ v, arr[k]? = some v ∧ CR ν c v) :
    Inv G hp (upd ν nm ⟨w.heap.size, 0, arr.size, lv.z⟩) (aset H nm (.c true lv)) (w.alloc (.cells arr T)) := by
  have hν : ν nm = none := h.dom nm hn
  have hk : Keeps ν (upd ν nm ⟨w.heap.size, 0, arr.size, lv.z⟩) := Keeps.upd _ hν
  refine ⟨?_, ?_, ?_, ?_, fun m hm => ⟨(upd_other _ (fun (e : m = nm) => (h.nb m hm).2 (by rw [e]; exact hn))).trans (h.nb m hm).1, aset_ne (h.nb m hm).2⟩, ?_, h.fx⟩
  · intro m x hx
    rw [aget_aset] at hx
    split at hx
    · rename_i e; cases hx; subst e
      simp only [ER, upd_self]
      refine ⟨trivial, arr, T, (0, 0), heap_alloc_new w _, by simp, hl, ?_, fun _ => rfl⟩
      intro k hk'
      obtain ⟨v, hv, hr⟩ := hc k _ (List.getElem?_eq_getElem hk')
      exact ⟨v, by simpa using hv, _, List.getElem?_eq_getElem hk', hr.keeps hk⟩
    · rename_i e
      have hm := h.er m x hx
      by_cases hd : x.live = true
      · exact hm.move hk (upd_other _ (Ne.symm e)) (fun L hL => heap_alloc_old w _ _ (hm.lt hd hL))
      · cases x <;> first | trivial | (simp [Ent.live] at hd)
  · intro a b x y hx ho hy hl' hab L L' hL hL'
    rw [aget_aset] at hx hy
    split at hx
    · rename_i e; subst e; cases hx
      rw [upd_self] at hL; cases hL
      rw [if_neg hab] at hy
      rw [upd_other _ (Ne.symm hab)] at hL'
      have := (h.er b y hy).lt hl' hL'
      simp; omega
    · rename_i e
      rw [upd_other _ (Ne.symm e)] at hL
      split at hy
      · rename_i e2; subst e2; cases hy
        rw [upd_self] at hL'; cases hL'
        have hxl : x.live = true := by cases x <;> first | rfl | (simp [Ent.isOwn] at ho)
        have := (h.er a x hx).lt hxl hL
        simp; omega
      · rename_i e2
        rw [upd_other _ (Ne.symm e2)] at hL'
        exact h.inj a b x y hx ho hy hl' hab L L' hL hL'
  · intro m hm
    rw [aget_aset] at hm
    split at hm
    · cases hm
    · rename_i e
      rw [upd_other _ (Ne.symm e)]; exact h.dom m hm
  · intro b hb
    obtain ⟨h1, h2⟩ := h.gfr b hb
    refine ⟨by rw [heap_alloc_old w _ _ h2]; exact h1, ?_⟩
    have : (w.alloc (.cells arr T)).heap.size = w.heap.size + 1 := by show (w.heap.push _).size = _; simp
    omega
  · intro m x L hx ho hL
    rw [aget_aset] at hx
    split at hx
    · rename_i e; subst e
      rw [upd_self] at hL; cases hL
      intro hg
      have := (h.gfr _ hg).2
      simp at this
    · rename_i e
      rw [upd_other _ (Ne.symm e)] at hL
      exact h.own m x L hx ho hL

/-- The cells of an own entry are written; under the same name, or under a new one that takes its place in the block. -/
theorem Inv.write {G : Nat → Prop} {hp : HP} {ν : Nm} {H : Heap} {w : World} (h : Inv G hp ν H w) {n : Nat} {lv0 : LV} (h0 : aget H n = some (.c true lv0)) {L : Loc} (hL : ν n = some L)
    (old arr : Array Value) (T : TypeId) (ho : w.heap[L.blk]? = some (.cells old T (0, 0))) (hs : L.off + L.lim ≤ arr.size)
    (lv : LV) (hz : L.esz = lv.z) (hl : lv.toL.length ≤ L.lim) (hc : ∀ (k : Nat) (c : AV), lv.toL[k]? = some c → ∃ v, arr[L.off + k]? = some v ∧ CR ν c v) :
    Inv G hp ν (aset H n (.c true lv)) (w.setRow L.blk arr) := by
  have far : ∀ m x, aget H m = some x → m ≠ n → x.live = true → ∀ M, ν m = some M → M.blk ≠ L.blk := fun m x hx hmn hl M hM => (h.inj n m _ x h0 rfl hx hl (Ne.symm hmn) L M hL hM).symm
  refine ⟨?_, ?_, ?_, ?_, fun m hm => ⟨(h.nb m hm).1, aset_ne (h.nb m hm).2⟩, ?_, h.fx⟩
  · intro m x hx
    rw [aget_aset] at hx
    split at hx
    · rename_i e; cases hx; subst e
      simp only [ER, hL]
      refine ⟨hz, arr, T, (0, 0), setRow_heap w _ old arr T _ ho, hs, hl, ?_, fun _ => rfl⟩
      intro k hk'
      obtain ⟨v, hv, hr⟩ := hc k _ (List.getElem?_eq_getElem hk')
      exact ⟨v, hv, _, List.getElem?_eq_getElem hk', hr⟩
    · rename_i e
      have hm := h.er m x hx
      by_cases hd : x.live = true
      · exact hm.move (.refl ν) rfl (fun M hM => setRow_other w _ _ _ (far m x hx (Ne.symm e) hd M hM))
      · cases x <;> first | trivial | (simp [Ent.live] at hd)
  · intro a b x y hx hxo hy hyl hab M M' hM hM'
    rw [aget_aset] at hx hy
    have hx' : ∃ x', aget H a = some x' ∧ x'.isOwn = true := by
      split at hx
      · rename_i e; subst e; exact ⟨_, h0, rfl⟩
      · exact ⟨x, hx, hxo⟩
    have hy' : ∃ y', aget H b = some y' ∧ y'.live = true := by
      split at hy
      · rename_i e; subst e; exact ⟨_, h0, rfl⟩
      · exact ⟨y, hy, hyl⟩
    obtain ⟨x', hx1, hx2⟩ := hx'
    obtain ⟨y', hy1, hy2⟩ := hy'
    exact h.inj a b x' y' hx1 hx2 hy1 hy2 hab M M' hM hM'
  · intro m hm
    rw [aget_aset] at hm
    split at hm
    · cases hm
    · exact h.dom m hm
  · intro b hb
    obtain ⟨h1, h2⟩ := h.gfr b hb
    have hne : b ≠ L.blk := fun e => h.own n _ L h0 rfl hL (e ▸ hb)
    refine ⟨by rw [setRow_other w _ _ _ hne]; exact h1, ?_⟩
    have : (w.setRow L.blk arr).heap.size = w.heap.size := by simp [World.setRow]
    omega
  · intro m x M hx hxo hM
    rw [aget_aset] at hx
    split at hx
    · rename_i e; subst e; exact h.own n _ M h0 rfl hM
    · exact h.own m x M hx hxo hM

/-- An own entry goes over to a new name, from some cell on. -/
theorem Inv.rebase {G : Nat → Prop} {hp : HP} {ν : Nm} {H : Heap} {w : World} (h : Inv G hp ν H w) {n nm : Nat} {lv : LV} (h0 : aget H n = some (.c true lv)) (hn : aget H nm = none) (o : Nat) (lv' : LV) (hl : lv'.toL = lv.toL.drop o) (hlz : lv'.z = lv.z)
    (hz : ∀ L, ν n = some L → o ≤ L.lim) :
    ∃ ν', Keeps ν ν' ∧ (∀ L, ν n = some L → ν' nm = some ⟨L.blk, L.off + o, L.lim - o, L.esz⟩) ∧ (∀ m, m ≠ nm → ν' m = ν m) ∧ (ν n = none → ν' nm = none) ∧ Inv G hp ν' (aset (aset H n .dead) nm (.c true lv')) w := by
  have hne : n ≠ nm := fun e => by subst e; rw [h0] at hn; cases hn
  have hν : ν nm = none := h.dom nm hn
  cases hL : ν n with
  | none =>
    refine ⟨ν, .refl ν, by simp, fun _ _ => rfl, fun _ => hν, ?_, ?_, ?_, h.gfr, fun m hm => ⟨(h.nb m hm).1, aset_ne (aset_ne (h.nb m hm).2)⟩, ?_, h.fx⟩
    · intro m x hx
      rw [aget_aset] at hx
      split at hx
      · rename_i e; subst e; cases hx
        have := h.er n _ h0
        simp only [ER, hL] at this
        simp [ER, hν, hl, this]
      · exact (h.kill h0).er m x hx
    · intro a b x y hx hxo hy hyl hab M M' hM hM'
      rw [aget_aset] at hx hy
      split at hx
      · rename_i e; subst e; rw [hν] at hM; cases hM
      · split at hy
        · rename_i e; subst e; rw [hν] at hM'; cases hM'
        · exact (h.kill h0).inj a b x y hx hxo hy hyl hab M M' hM hM'
    · intro m hm
      rw [aget_aset] at hm
      split at hm
      · cases hm
      · exact (h.kill h0).dom m hm
    · intro m x M hx hxo hM
      rw [aget_aset] at hx
      split at hx
      · rename_i e; subst e; rw [hν] at hM; cases hM
      · exact (h.kill h0).own m x M hx hxo hM
  | some L =>
    have hk : Keeps ν (upd ν nm ⟨L.blk, L.off + o, L.lim - o, L.esz⟩) := Keeps.upd _ hν
    have hlim := hz L hL
    refine ⟨upd ν nm ⟨L.blk, L.off + o, L.lim - o, L.esz⟩, hk, fun M hM => by cases hM; exact upd_self _ _ _, fun m hm => upd_other _ hm, by simp, ?_, ?_, ?_, h.gfr, fun m hm => ⟨(upd_other _ (fun (e : m = nm) => (h.nb m hm).2 (by rw [e]; exact hn))).trans (h.nb m hm).1, aset_ne (aset_ne (h.nb m hm).2)⟩, ?_, h.fx⟩
    · intro m x hx
      rw [aget_aset] at hx
      split at hx
      · rename_i e; subst e; cases hx
        have he := h.er n _ h0
        simp only [ER, hL] at he
        obtain ⟨he0, arr, T, fr, h1, h2, h3, h4, h5⟩ := he
        simp only [ER, upd_self]
        refine ⟨by rw [hlz]; exact he0, arr, T, fr, h1, by omega, by rw [hl, List.length_drop]; omega, ?_, h5⟩
        intro k hk'
        rw [hl, List.length_drop] at hk'
        obtain ⟨v, hv, c, hc, hr⟩ := h4 (o + k) (by omega)
        exact ⟨v, by simpa [Nat.add_assoc] using hv, c, by rw [hl, List.getElem?_drop]; exact hc, hr.keeps hk⟩
      · rename_i e
        exact ((h.kill h0).er m x hx).move hk (upd_other _ (Ne.symm e)) (fun _ _ => rfl)
    · intro a b x y hx hxo hy hyl hab M M' hM hM'
      rw [aget_aset] at hx hy
      split at hx
      · rename_i e; subst e
        rw [upd_self] at hM; cases hM
        rw [if_neg hab] at hy
        rw [upd_other _ (Ne.symm hab)] at hM'
        rw [aget_aset] at hy
        split at hy
        · cases hy; cases hyl
        · rename_i e2
          exact h.inj n b _ y h0 rfl hy hyl e2 L M' hL hM'
      · rename_i e
        rw [upd_other _ (Ne.symm e)] at hM
        rw [aget_aset] at hx
        split at hx
        · cases hx; cases hxo
        · rename_i e1
          split at hy
          · rename_i e2; subst e2
            rw [upd_self] at hM'; cases hM'
            exact h.inj a n x _ hx hxo h0 rfl (Ne.symm e1) M L hM hL
          · rename_i e2
            rw [upd_other _ (Ne.symm e2)] at hM'
            exact (h.kill h0).inj a b x y (by rw [aget_aset, if_neg e1]; exact hx) hxo hy hyl hab M M' hM hM'
    · intro m hm
      rw [aget_aset] at hm
      split at hm
      · cases hm
      · rename_i e
        rw [upd_other _ (Ne.symm e)]; exact (h.kill h0).dom m hm
    · intro m x M hx hxo hM
      rw [aget_aset] at hx
      split at hx
      · rename_i e; subst e
        rw [upd_self] at hM; cases hM
        exact h.own n _ L h0 rfl hL
      · rename_i e
        rw [upd_other _ (Ne.symm e)] at hM
        exact (h.kill h0).own m x M hx hxo hM

/-- An empty list under a new name. -/
theorem Inv.fresh {G : Nat → Prop} {hp : HP} {ν : Nm} {H : Heap} {w : World} (h : Inv G hp ν H w) {nm : Nat} (hn : aget H nm = none) (lv : LV) (hl : lv.toL = []) : Inv G hp ν (aset H nm (.c true lv)) w := by
  have hν : ν nm = none := h.dom nm hn
  refine ⟨?_, ?_, ?_, h.gfr, fun m hm => ⟨(h.nb m hm).1, aset_ne (h.nb m hm).2⟩, ?_, h.fx⟩
  · intro m x hx
    rw [aget_aset] at hx
    split at hx
    · rename_i e; subst e; cases hx; simp [ER, hν, hl]
    · exact h.er m x hx
  · intro a b x y hx hxo hy hyl hab M M' hM hM'
    rw [aget_aset] at hx hy
    split at hx
    · rename_i e; subst e; rw [hν] at hM; cases hM
    · split at hy
      · rename_i e; subst e; rw [hν] at hM'; cases hM'
      · exact h.inj a b x y hx hxo hy hyl hab M M' hM hM'
  · intro m hm
    rw [aget_aset] at hm
    split at hm
    · cases hm
    · exact h.dom m hm
  · intro m x M hx hxo hM
    rw [aget_aset] at hx
    split at hx
    · rename_i e; subst e; rw [hν] at hM; cases hM
    · exact h.own m x M hx hxo hM

end Go.Proofs.YtbobhbhgomkgpaaGreatDoor.S

/- The symbolic heap: each operation's symbolic step is sound. Own work of this claim. -/
namespace Go.Proofs.YtbobhbhgomkgpaaGreatDoor.S
set_option linter.all false
open Go

theorem ev_ok {ν : Nm} {env : Env} {a : Act} (h : EnvRel ν env a.tmps) (x : Operand) : VR ν (ev env x) (a.eval x) := by
  cases x with
  | tmp t => exact h t
  | const v => exact cv_ok ν v
  | global g => trivial
  | func f => exact ⟨#[], rfl, .nil⟩

/-! What the types' table tells -/
theorem tyI_pos {P : Program} {t : TypeId} (h : 0 < (tyI P t).sz) : ∃ i d, P.info? t = some i ∧ P.underlying t = some d ∧ tyI P t = mkTI P i d := by
  unfold tyI at h ⊢
  split
  · rename_i i d hi hd; exact ⟨i, d, hi, hd, rfl⟩
  · rename_i hn; split at h
    · rename_i i d hi hd; exact absurd hd (hn i d hi)
    · simp at h
theorem tyI_slice {P : Program} {t e : TypeId} (h : (tyI P t).tk = .slice e) : P.underlying t = some (.slice e) := by
  unfold tyI at h
  split at h
  · rename_i i d hi hd
    simp only [mkTI] at h
    cases d <;> simp only [] at h <;> first | (cases h; done) | (split at h <;> cases h; done) | skip
    cases h; exact hd
  · simp at h
theorem tyI_str {P : Program} {t : TypeId} (h : (tyI P t).tk = .str) : P.underlying t = some .string := by
  unfold tyI at h
  split at h
  · rename_i i d hi hd
    simp only [mkTI] at h
    cases d <;> simp only [] at h <;> first | (cases h; done) | (split at h <;> cases h; done) | skip
    exact hd
  · simp at h
theorem tyI_bool {P : Program} {t : TypeId} (h : (tyI P t).tk = .bool) : P.underlying t = some .bool := by
  unfold tyI at h
  split at h
  · rename_i i d hi hd
    simp only [mkTI] at h
    cases d <;> simp only [] at h <;> first | (cases h; done) | (split at h <;> cases h; done) | skip
    exact hd
  · simp at h
theorem tyI_int {P : Program} {t : TypeId} {k : IntKind} (h : (tyI P t).tk = .int k) : P.underlying t = some (.int k) := by
  unfold tyI at h
  split at h
  · rename_i i d hi hd
    simp only [mkTI] at h
    cases d <;> simp only [] at h <;> first | (cases h; done) | (split at h <;> cases h; done) | skip
    cases h; exact hd
  · simp at h
theorem tyI_struct {P : Program} {t : TypeId} {fs : List (Nat × Nat)} (h : (tyI P t).tk = .struct fs) :
    ∃ fields : Array Field, P.underlying t = some (.struct fields) ∧ fields.toList.mapM (fun f => (P.info? f.type).map fun i => (f.offset, i.size)) = some fs := by
  unfold tyI at h
  split at h
  · rename_i i d hi hd
    simp only [mkTI] at h
    cases d <;> simp only [] at h <;> first | (cases h; done) | skip
    rename_i fields
    split at h
    · rename_i l hl
      cases h
      exact ⟨fields, hd, hl⟩
    · cases h
  · simp at h
theorem zero_ok {P : Program} {t : TypeId} (h0 : 0 < (tyI P t).sz) (h : (tyI P t).zero.length = (tyI P t).sz) (ν : Nm) :
    ∃ i v, P.info? t = some i ∧ i.zero = some v ∧ i.size = (tyI P t).sz ∧ i.bytes = (tyI P t).bytes ∧ v.cells.size = (tyI P t).sz ∧ F2 (CR ν) (tyI P t).zero v.cells.toList := by
  obtain ⟨i, d, hi, hd, he⟩ := tyI_pos h0
  rw [he] at h0 h ⊢
  simp only [mkTI] at h h0 ⊢
  unfold zeroOf at h ⊢
  split at h
  · rename_i v hv
    split at h
    · rename_i hc
      have hcs' : ∀ x ∈ v.cells.toList, x.oneCell' = true := by
        rw [Bool.and_eq_true] at hc; exact List.all_eq_true.1 hc.1
      have hc2 : v.cells.size = i.size := by rw [Bool.and_eq_true] at hc; simpa using hc.2
      refine ⟨i, v, hi, hv, rfl, rfl, hc2, ?_⟩
      rw [if_pos hc]
      have : F2 (CR ν) (v.cells.toList.map cvc) (v.cells.toList.map id) := by
        have hh : ∀ (l : List Value), (∀ x ∈ l, x.oneCell' = true) → F2 (CR ν) (l.map cvc) (l.map id) := by
          intro l
          induction l with
          | nil => intro _; exact .nil
          | cons a l ih => intro h; exact .cons (cvc_ok ν a (h a (by simp))) (ih fun x hx => h x (by simp [hx]))
        exact hh _ hcs'
      simpa using this
    · simp at h; omega
  · simp at h; omega

section
variable {P : Program}
/-- What an operation comes to, told over the symbolic heap. -/
def Runs (P : Program) (G : Nat → Prop) (hp : HP) (ν : Nm) (s : Sem Value) (w : World) (K : Kt) : Prop :=
  ∃ c w' ν' v H', s.run P w = .ok c w' ∧ Keeps ν ν' ∧ VR ν' v c ∧ Inv G hp ν' H' w' ∧ K v H'
variable {G : Nat → Prop} {hp : HP} {ν : Nm} {H : Heap} {w : World}

theorem add_loc (b o k : Nat) : (⟨b, o, none⟩ : Addr).add k = ⟨b, o + k, none⟩ := by
  unfold Addr.add
  by_cases h : k = 0
  · subst h; rfl
  · rw [if_neg h]

theorem VA.of_CR {ν : Nm} {c : AV} {v : Value} (h : CR ν c v) : VA ν c v := by cases c <;> first | exact h | (simp [CR] at h)
theorem sLoad_ok {t : TypeId} {a : AV} {K : AV → Prop} {c : Value} (hi : Inv G hp ν H w) (ha : VR ν a c) (h : sLoad (tyI P t) H a K) : ∃ cv v, (Instr.loadAt t c).run P w = .ok cv w ∧ VA ν v cv ∧ K v := by
  unfold sLoad at h
  split at h
  · rename_i n off
    obtain ⟨L, hL, rfl⟩ : PR ν (n, off) c := ha
    split at h
    · rename_i own lv hH
      obtain ⟨hb, h⟩ := h
      have he := hi.er n _ hH
      by_cases hagg : (tyI P t).agg = true
      · rw [if_pos hagg] at h
        have hpos : ∃ i d, P.info? t = some i ∧ P.underlying t = some d ∧ tyI P t = mkTI P i d := by
          unfold tyI at hagg ⊢
          split
          · rename_i i d hi hd; exact ⟨i, d, hi, hd, rfl⟩
          · rename_i hn; split at hagg
            · rename_i i d hi hd; exact absurd hd (hn i d hi)
            · simp at hagg
        obtain ⟨i, d, h1, h2, h3⟩ := hpos
        have hsz : i.size = (tyI P t).sz := by rw [h3]; rfl
        obtain ⟨vs, q1, q2, q3⟩ := he.cells hL off (tyI P t).sz hb
        refine ⟨.agg vs.toArray, lv.ex off (tyI P t).sz, ?_, ?_, h⟩
        · have hl := run_loadCells_list (P := P) w ⟨L.blk, L.off + off, none⟩ vs q3
          rw [q2, ← hsz] at hl
          rw [h3] at hagg
          simp only [mkTI] at hagg
          simp [Instr.loadAt, Instr.sureAddr, loadVar, isAgg, sizeOf, typeInfo, run_underlying h2, h1]
          cases d <;> simp at hagg <;> simp [hl]
        · rw [LV.ex_eq lv off _ hb]
          exact ⟨vs.toArray, rfl, by simpa using q1⟩
      · rw [if_neg hagg] at h
        obtain ⟨hs, h⟩ := h
        obtain ⟨i, d, h1, h2, h3⟩ := tyI_pos (P := P) (t := t) (by omega)
        obtain ⟨v, hv, hr⟩ := he.cell hL (k := off) (by omega)
        refine ⟨v, lv.lk off, ?_, VA.of_CR hr, h⟩
        · rw [h3] at hagg
          simp only [mkTI] at hagg
          simp [Instr.loadAt, Instr.sureAddr, loadVar, isAgg, run_underlying h2]
          cases d <;> simp at hagg <;> simp [hv]
    · exact h.elim
  · exact h.elim

theorem setAll_get : ∀ (cs : List AV) (l : List AV) (k i : Nat), k + cs.length ≤ l.length →
    ((cs.zipIdx k).foldl (fun l p => l.set p.2 p.1) l)[i]? = if k ≤ i ∧ i < k + cs.length then cs[i - k]? else l[i]?
  | [], l, k, i, _ => by simp; intro h1 h2; omega
  | c :: cs, l, k, i, h => by
    simp only [List.zipIdx_cons, List.foldl_cons]
    rw [setAll_get cs (l.set k c) (k + 1) i (by simp at h ⊢; omega)]
    by_cases h1 : i = k
    · subst h1
      rw [if_neg (by omega), if_pos (by simp)]
      rw [List.getElem?_set_self (by simp at h; omega)]
      simp
    · by_cases h2 : k + 1 ≤ i ∧ i < k + 1 + cs.length
      · rw [if_pos h2, if_pos (by simp; omega)]
        have : i - k = (i - (k + 1)) + 1 := by omega
        rw [this, List.getElem?_cons_succ]
      · rw [if_neg h2, if_neg (by simp; omega), List.getElem?_set_ne (Ne.symm h1)]
theorem setAll_len (cs : List AV) : ∀ (l : List AV) (k : Nat), ((cs.zipIdx k).foldl (fun l p => l.set p.2 p.1) l).length = l.length := by
  induction cs with
  | nil => intro l k; rfl
  | cons c cs ih => intro l k; simp only [List.zipIdx_cons, List.foldl_cons]; rw [ih]; simp

theorem seg_get {α : Type} (l vs : List α) (a : Nat) (h : a + vs.length ≤ l.length) (j : Nat) :
    (l.take a ++ vs ++ l.drop (a + vs.length))[j]? = if a ≤ j ∧ j < a + vs.length then vs[j - a]? else l[j]? := by
  by_cases h1 : j < a
  · rw [if_neg (by omega), List.append_assoc, List.getElem?_append_left (by simp; omega), List.getElem?_take_of_lt h1]
  · by_cases h2 : j < a + vs.length
    · rw [if_pos (by omega), List.append_assoc, List.getElem?_append_right (by simp; omega), List.getElem?_append_left (by simp; omega)]
      congr 1; simp; omega
    · rw [if_neg (by omega), List.getElem?_append_right (by simp; omega), List.getElem?_drop]
      congr 1; simp; omega

theorem sStore_ok {t : TypeId} {a x : AV} {K : Kt} {ca cx : Value} (hi : Inv G hp ν H w) (ha : VR ν a ca) (hx : VR ν x cx) (h : sStore (tyI P t) H a x fun H' => K (.tup []) H') :
    ∃ w' H', (Instr.storeAt t ca cx).run P w = .ok () w' ∧ Inv G hp ν H' w' ∧ K (.tup []) H' := by
  unfold sStore at h
  split at h
  · rename_i n off
    obtain ⟨L, hL, rfl⟩ : PR ν (n, off) ca := ha
    split at h
    · rename_i lv hH
      obtain ⟨hf, hpos, hl, hb, h⟩ := h
      obtain ⟨i, d, h1, h2, h3⟩ := tyI_pos hpos
      have hsz : i.size = (tyI P t).sz := by rw [h3]; rfl
      have hcs := (hx.fits hf).cells
      have hlen : cx.cells.toList.length = (tyI P t).sz := by rw [← hcs.length, hl]
      have he := hi.er n _ hH
      simp only [ER, hL] at he
      obtain ⟨e0, arr, T, fr, e1, e2, e3, e4, e5⟩ := he
      have e5 := e5 rfl
      subst e5
      rw [LV.len_eq] at e3 e4
      have hone : ∀ v ∈ cx.cells.toList, v.oneCell' = true := by
        intro v hv
        obtain ⟨j, hj, rfl⟩ := List.getElem_of_mem hv
        have hj' : j < (cellsOf x).length := by rw [hcs.length]; exact hj
        obtain ⟨b, hb', hr⟩ := hcs.get (i := j) (List.getElem?_eq_getElem hj')
        rw [List.getElem?_eq_getElem hj] at hb'
        cases hb'
        exact hr.one
      have hst := run_storeCells_at P L.blk (L.off + off) T cx.cells.toList 0 arr w e1 (by rw [hlen]; omega) hone
      simp only [Nat.add_zero] at hst
      refine ⟨w.setRow L.blk (arr.toList.take (L.off + off) ++ cx.cells.toList ++ arr.toList.drop (L.off + off + cx.cells.toList.length)).toArray, _, ?_, ?_, h⟩
      · have hsz2 : cx.cells.size = i.size := by rw [hsz, ← hlen, Array.length_toList]
        simp [Instr.storeAt, Instr.sureAddr, storeVar, sizeOf, typeInfo, h1, hsz2]
        rw [hst]; simp [hsz2]
      · refine hi.write hH hL arr _ T e1 (by simp; simp at hlen; omega) _ (by rw [stAll_z]; exact e0) ?_ ?_
        · rw [stAll_eq, setAll_len, LV.len_eq]; exact e3
        · intro k c hk
          rw [List.getElem?_toArray, seg_get _ _ _ (by simp at hlen ⊢; omega)]
          rw [stAll_eq, setAll_get _ _ _ _ (by rw [LV.len_eq, hl]; exact hb)] at hk
          by_cases hr : off ≤ k ∧ k < off + (cellsOf x).length
          · rw [if_pos hr] at hk
            obtain ⟨v, hv, hcr⟩ := hcs.get hk
            refine ⟨v, ?_, hcr⟩
            rw [if_pos (by rw [hlen]; omega), ← hv]
            congr 1; omega
          · rw [if_neg hr] at hk
            have hklt : k < lv.len := by rw [← LV.len_eq]; exact (List.getElem?_eq_some_iff.1 hk).1
            obtain ⟨v, hv, c', hc', hcr⟩ := e4 k hklt
            rw [hk] at hc'; cases hc'
            refine ⟨v, ?_, hcr⟩
            rw [if_neg (by rw [hlen]; omega), ← hv]; simp
    · exact h.elim
  · exact h.elim

end
end Go.Proofs.YtbobhbhgomkgpaaGreatDoor.S

/- The symbolic heap: soundness of the other operations. Own work of this claim. -/
namespace Go.Proofs.YtbobhbhgomkgpaaGreatDoor.S
set_option linter.all false
open Go

section
variable {P : Program} {G : Nat → Prop} {hp : HP} {ν : Nm} {H : Heap} {w : World}

/-- A step that leaves memory as it is. -/
def Pures (P : Program) (ν : Nm) (s : Sem Value) (w : World) (K : AV → Prop) : Prop := ∃ c v, s.run P w = .ok c w ∧ VR ν v c ∧ K v
theorem Pures.mk {s : Sem Value} {K : AV → Prop} {c : Value} (v : AV) (hr : s.run P w = .ok c w) (hv : VR ν v c) (h : K v) : Pures P ν s w K := ⟨c, v, hr, hv, h⟩

theorem Pures.int {s : Sem Value} {K : AV → Prop} {k : IntKind} {n : Int} (h : K (.int k n)) (hr : s.run P w = .ok (.int k n) w) : Pures P ν s w K := .mk (.int k n) hr rfl h
theorem Pures.bool {s : Sem Value} {K : AV → Prop} {b : Bool} (h : K (.bool b)) (hr : s.run P w = .ok (.bool b) w) : Pures P ν s w K := .mk (.bool b) hr rfl h
theorem Pures.str {s : Sem Value} {K : AV → Prop} {b : ByteArray} (h : K (.str b)) (hr : s.run P w = .ok (.string b) w) : Pures P ν s w K := .mk (.str b) hr rfl h

theorem sInt_ok {op : BinOp} {k : IntKind} {a b : Int} {K : AV → Prop} {t : TypeId} {x y : Operand} (h : sInt op k a b K) :
    Pures P ν (do eqGuard op t x y (.int k a) (.int k b); binOp op t (.int k a) (.int k b)) w K := by
  have hg : (eqGuard op t x y (.int k a) (.int k b)).run P w = .ok () w := by
    unfold eqGuard
    cases op <;> rfl
  unfold sInt at h
  split at h
  case h_1 => exact .int h (by simp [hg, binOp, Op.intArith])
  case h_2 => exact .int h (by simp [hg, binOp, Op.intArith])
  case h_3 => exact .int h (by simp [hg, binOp, Op.intArith])
  case h_4 => exact .int h.2 (by simp [hg, binOp, Op.intDiv, h.1])
  case h_5 => exact .int h.2 (by simp [hg, binOp, Op.intDiv, h.1])
  case h_6 => exact .int h (by simp [hg, binOp, Op.intBits])
  case h_7 => exact .int h (by simp [hg, binOp, Op.intBits])
  case h_8 => exact .int h (by simp [hg, binOp, Op.intBits])
  case h_9 => exact .bool h (by simp [hg, binOp, Op.intCmp]; rfl)
  case h_10 => exact .bool h (by simp [hg, binOp, Op.intCmp, bne]; rfl)
  case h_11 => exact .bool h (by simp [hg, binOp, Op.intCmp])
  case h_12 => exact .bool h (by simp [hg, binOp, Op.intCmp])
  case h_13 => exact .bool h (by simp [hg, binOp, Op.intCmp])
  case h_14 => exact .bool h (by simp [hg, binOp, Op.intCmp])
  all_goals exact h.elim

theorem sStr_ok {op : BinOp} {a b : ByteArray} {K : AV → Prop} {t : TypeId} {x y : Operand} (h : sStr op a b K) :
    Pures P ν (do eqGuard op t x y (.string a) (.string b); binOp op t (.string a) (.string b)) w K := by
  have hg : (eqGuard op t x y (.string a) (.string b)).run P w = .ok () w := by
    unfold eqGuard
    cases op <;> rfl
  unfold sStr at h
  split at h
  case h_1 =>
    refine .str h.2 ?_
    have hl : ¬ (((a.size + b.size : Nat) : Int) > IntKind.i64.max) := by
      have := h.1; unfold lim40 at this
      have e : IntKind.i64.max = 9223372036854775807 := by decide
      rw [e]; omega
    simp only [Sem.run_bind, hg, Result.andThen_ok, binOp, Op.stringOp]
    rw [if_neg hl]; rfl
  case h_2 => exact .bool h (by simp [hg, binOp, Op.stringOp])
  case h_3 => exact .bool h (by simp [hg, binOp, Op.stringOp])
  all_goals exact h.elim

theorem run_eq_bool {t : TypeId} (hu : P.underlying t = some .bool) (a b : Bool) : (Op.equal t (.bool a) (.bool b)).run P w = .ok (a == b) w := by
  have : ∀ d, (Op.equalIn (d + 1) t (.bool a) (.bool b)).run P w = .ok (a == b) w := by
    intro d
    simp only [Op.equalIn, Sem.run_bind, run_underlying hu, Result.andThen_ok]
    rfl
  exact this 9999
theorem run_eq_nil {t e : TypeId} (hu : P.underlying t = some (.slice e)) (p : Option Addr) (n c : Nat) : (Op.equal t (.slice p n c) (.slice none 0 0)).run P w = .ok p.isNone w := by
  have : ∀ d, (Op.equalIn (d + 1) t (.slice p n c) (.slice none 0 0)).run P w = .ok p.isNone w := by
    intro d
    simp only [Op.equalIn, Sem.run_bind, run_underlying hu, Result.andThen_ok]
    cases p <;> rfl
  exact this 9999
theorem three_some {cs : List AV} {a : Int × Int × Int} (h : three cs = some a) : cs = [.int .i64 a.1, .int .i64 a.2.1, .int .i64 a.2.2] := by
  unfold three at h
  split at h
  · cases h; rfl
  · cases h
theorem isI64_eq {t : TypeId} (h : isI64 P t = true) : P.underlying t = some (.int .i64) := by
  unfold isI64 at h
  split at h
  · assumption
  · cases h
theorem run_eqIn_int {t : TypeId} (hu : P.underlying t = some (.int .i64)) (d : Nat) (a b : Int) : (Op.equalIn (d + 1) t (.int .i64 a) (.int .i64 b)).run P w = .ok (a == b) w := by
  simp only [Op.equalIn, Sem.run_bind, run_underlying hu, Result.andThen_ok]
  rfl
theorem run_part_int {t : TypeId} (hu : P.underlying t = some (.int .i64)) {cs : Array Value} {o : Nat} {v : Value} (hv : cs[o]? = some v) : (part t cs o).run P w = .ok v w := by
  simp [part, isAgg, run_underlying hu, hv]
theorem eq3_facts {t : TypeId} (h : eq3Ty P t = true) : ∃ (fs : Array Field) (f0 f1 f2 : Field), P.underlying t = some (.struct fs) ∧ fs.toList = [f0, f1, f2] ∧ (P.underlying f0.type = some (.int .i64) ∧ P.underlying f1.type = some (.int .i64) ∧ P.underlying f2.type = some (.int .i64)) ∧
    (f0.name ≠ "_" ∧ f1.name ≠ "_" ∧ f2.name ≠ "_") ∧ (f0.offset = 0 ∧ f1.offset = 1 ∧ f2.offset = 2) ∧ P.stoodInHeld t = false ∧ P.eqGuardType P.depth t = false := by
  unfold eq3Ty at h
  split at h
  · rename_i fs hu
    split at h
    · rename_i f0 f1 f2 hf
      simp only [Bool.and_eq_true, Bool.not_eq_true', bne_iff_ne, ne_eq, beq_iff_eq] at h
      obtain ⟨⟨⟨⟨⟨⟨⟨⟨⟨⟨a1, a2⟩, a3⟩, b1⟩, b2⟩, b3⟩, c1⟩, c2⟩, c3⟩, d1⟩, d2⟩ := h
      exact ⟨fs, f0, f1, f2, hu, hf, ⟨isI64_eq a1, isI64_eq a2, isI64_eq a3⟩, ⟨b1, b2, b3⟩, ⟨c1, c2, c3⟩, d1, d2⟩
    · cases h
  · cases h
theorem run_eq3 {t : TypeId} (h : eq3Ty P t = true) (a b : Int × Int × Int) : (Op.equal t (.agg #[.int .i64 a.1, .int .i64 a.2.1, .int .i64 a.2.2]) (.agg #[.int .i64 b.1, .int .i64 b.2.1, .int .i64 b.2.2])).run P w = .ok (decide (a = b)) w := by
  obtain ⟨fs, f0, f1, f2, hu, hf, ⟨a1, a2, a3⟩, ⟨b1, b2, b3⟩, ⟨c1, c2, c3⟩, d1, _⟩ := eq3_facts h
  obtain rfl : fs = #[f0, f1, f2] := Array.ext' hf
  obtain ⟨x0, x1, x2⟩ := a
  obtain ⟨y0, y1, y2⟩ := b
  have key : ∀ d, (Op.equalIn (d + 1 + 1) t (.agg #[.int .i64 x0, .int .i64 x1, .int .i64 x2]) (.agg #[.int .i64 y0, .int .i64 y1, .int .i64 y2])).run P w = .ok (decide ((x0, x1, x2) = (y0, y1, y2))) w := by
    intro d
    rw [Op.equalIn]
    simp only [Sem.run_bind, run_underlying hu, Result.andThen_ok, run_program, d1, Bool.false_eq_true, if_false, Sem.run_pure, ← Array.forIn_toList, List.forIn_cons, List.forIn_nil, b1, b2, b3, ne_eq, not_false_eq_true, if_true,
      run_part_int a1, run_part_int a2, run_part_int a3, run_eqIn_int a1, run_eqIn_int a2, run_eqIn_int a3, c1, c2, c3]
    by_cases e0 : x0 = y0
    · by_cases e1 : x1 = y1
      · by_cases e2 : x2 = y2
        · simp [e0, e1, e2, run_part_int a1, run_part_int a2, run_part_int a3, run_eqIn_int a1, run_eqIn_int a2, run_eqIn_int a3]
        · simp [e0, e1, e2, run_part_int a1, run_part_int a2, run_part_int a3, run_eqIn_int a1, run_eqIn_int a2, run_eqIn_int a3]
      · simp [e0, e1, run_part_int a1, run_part_int a2, run_part_int a3, run_eqIn_int a1, run_eqIn_int a2, run_eqIn_int a3]
    · simp [e0, run_part_int a1, run_part_int a2, run_part_int a3, run_eqIn_int a1, run_eqIn_int a2, run_eqIn_int a3]
  exact key 9998
theorem run_guard3 {op : BinOp} {t : TypeId} {x y : Operand} {a b : Array Value} (h : eq3Ty P t = true) : (eqGuard op t x y (.agg a) (.agg b)).run P w = .ok () w := by
  obtain ⟨_, _, _, _, _, _, _, _, _, _, d2⟩ := eq3_facts h
  unfold eqGuard
  cases op <;> simp [d2]
theorem run_guard_no {op : BinOp} {t : TypeId} {x y : Operand} {a b : Value} (h1 : ∀ c, a ≠ .agg c) (h2 : a ≠ .nilIface) : (eqGuard op t x y a b).run P w = .ok () w := by
  unfold eqGuard
  cases a <;> cases op <;> first | rfl | (exact absurd rfl h2) | (exact absurd rfl (h1 _))

theorem sBin_ok {op : BinOp} {t : TypeId} {x y : Operand} {a b : AV} {ca cb : Value} {K : AV → Prop} (ha : VR ν a ca) (hb : VR ν b cb) (h : sBin P op t a b K) :
    Pures P ν (do eqGuard op t x y ca cb; binOp op t ca cb) w K := by
  unfold sBin at h
  split at h
  · obtain rfl : ca = _ := ha
    obtain rfl : cb = _ := hb
    obtain ⟨rfl, h⟩ := h
    exact sInt_ok h
  · obtain rfl : ca = _ := ha
    obtain rfl : cb = _ := hb
    exact sStr_ok h
  · obtain rfl : ca = _ := ha
    obtain rfl : cb = _ := hb
    split at h
    · rename_i ht
      have hu := tyI_bool ht
      split at h
      · exact .bool h (by simp only [Sem.run_bind, run_guard_no (P := P) (a := .bool _) (by simp) (by simp), Result.andThen_ok, binOp, run_eq_bool hu, Sem.run_pure])
      · exact .bool h (by simp only [Sem.run_bind, run_guard_no (P := P) (a := .bool _) (by simp) (by simp), Result.andThen_ok, binOp, run_eq_bool hu, Sem.run_pure])
      · exact h.elim
    · exact h.elim
  · obtain ⟨arr, rfl, hF⟩ : ∃ arr : Array Value, ca = .agg arr ∧ F2 (CR ν) _ arr.toList := ha
    obtain ⟨brr, rfl, hG⟩ : ∃ arr : Array Value, cb = .agg arr ∧ F2 (CR ν) _ arr.toList := hb
    have lit : ∀ {cs : List AV} {a : Int × Int × Int} {arr : Array Value}, three cs = some a → F2 (CR ν) cs arr.toList → arr = #[.int .i64 a.1, .int .i64 a.2.1, .int .i64 a.2.2] := by
      intro cs a arr h3 hF
      rw [three_some h3] at hF
      apply Array.ext'
      generalize arr.toList = zs at hF ⊢
      cases hF with
      | cons h0 hF =>
        cases hF with
        | cons h1 hF =>
          cases hF with
          | cons h2 hF =>
            cases hF with
            | nil =>
              obtain rfl : _ = _ := h0
              obtain rfl : _ = _ := h1
              obtain rfl : _ = _ := h2
              rfl
    split at h
    · rename_i h1 h2
      obtain ⟨hq, h⟩ := h
      rw [lit h1 hF, lit h2 hG]
      exact .bool h (by simp only [Sem.run_bind, run_guard3 hq, Result.andThen_ok, binOp, run_eq3 hq, Sem.run_pure])
    · rename_i h1 h2
      obtain ⟨hq, h⟩ := h
      rw [lit h1 hF, lit h2 hG]
      exact .bool h (by simp only [Sem.run_bind, run_guard3 hq, Result.andThen_ok, binOp, run_eq3 hq, Sem.run_pure])
    · exact h.elim
  · exact h.elim

theorem sNil_ok {op : BinOp} {t : TypeId} {x : Operand} {a : AV} {ca : Value} {K : AV → Prop} (ha : VR ν a ca) (h : sNil P op t a K) :
    Pures P ν (do eqGuard op t x (.const (.slice none 0 0)) ca (.slice none 0 0); binOp op t ca (.slice none 0 0)) w K := by
  have run_eq : ∀ (e : TypeId) (p : Option Addr) (n c : Nat), P.underlying t = some (.slice e) →
      (do eqGuard .eql t x (.const (.slice none 0 0)) (.slice p n c) (.slice none 0 0); binOp .eql t (.slice p n c) (.slice none 0 0) : Sem Value).run P w = .ok (.bool p.isNone) w := by
    intro e p n c hu
    simp only [Sem.run_bind, run_guard_no (P := P) (a := .slice _ _ _) (by simp) (by simp), Result.andThen_ok, binOp, run_eq_nil hu, Sem.run_pure]
  have run_ne : ∀ (e : TypeId) (p : Option Addr) (n c : Nat), P.underlying t = some (.slice e) →
      (do eqGuard .neq t x (.const (.slice none 0 0)) (.slice p n c) (.slice none 0 0); binOp .neq t (.slice p n c) (.slice none 0 0) : Sem Value).run P w = .ok (.bool (!p.isNone)) w := by
    intro e p n c hu
    simp only [Sem.run_bind, run_guard_no (P := P) (a := .slice _ _ _) (by simp) (by simp), Result.andThen_ok, binOp, run_eq_nil hu, Sem.run_pure]
  unfold sNil at h
  split at h
  · rename_i e n o len ht
    have hu := tyI_slice ht
    rcases ha with ⟨L, c, h1, h2, h3, rfl⟩ | ⟨h1, p, rfl⟩
    · exact .bool (h false (by simp)) (run_eq _ _ _ _ hu)
    · exact .bool (h _ (fun _ => h1)) (run_eq _ _ _ _ hu)
  · rename_i e n o len ht
    have hu := tyI_slice ht
    rcases ha with ⟨L, c, h1, h2, h3, rfl⟩ | ⟨h1, p, rfl⟩
    · exact .bool (h true (by simp)) (run_ne _ _ _ _ hu)
    · exact .bool (h _ (fun _ => h1)) (run_ne _ _ _ _ hu)
  · rename_i ht
    obtain ⟨p, rfl⟩ := ha
    exact .bool (h _) (run_eq _ _ _ _ (tyI_slice ht))
  · rename_i ht
    obtain ⟨p, rfl⟩ := ha
    exact .bool (h _) (run_ne _ _ _ _ (tyI_slice ht))
  · exact h.elim

theorem sUn_ok {op : UnOp} {x : AV} {c : Value} {K : AV → Prop} (hx : VR ν x c) (h : sUn op x K) : Pures P ν (Op.unary op c) w K := by
  unfold sUn at h
  split at h
  · obtain rfl : c = _ := hx
    exact .bool h (by simp [Op.unary])
  · obtain rfl : c = _ := hx
    exact .int h (by simp [Op.unary, Op.intArith])
  · exact h.elim

theorem optInt_ok {env : Env} {a : Act} (he : EnvRel ν env a.tmps) {o : Option Operand} {q : Option Int} (h : optInt env o = some q) :
    (q = none ∧ o.map a.eval = none) ∨ ∃ n k, q = some n ∧ o.map a.eval = some (.int k n) := by
  cases o with
  | none => simp [optInt] at h; exact .inl ⟨h.symm, rfl⟩
  | some x =>
    have hx := ev_ok he x
    simp only [optInt] at h
    split at h
    · rename_i k n hk
      rw [hk] at hx
      obtain hx : a.eval x = _ := hx
      cases h
      exact .inr ⟨n, k, rfl, by simp [hx]⟩
    · cases h

theorem run_bound (n : Int) (k : IntKind) (y : Nat) (code : BoundsCode) (h0 : 0 ≤ n) (h1 : n ≤ y) : (Instr.sliceBound (.int k n) y code).run P w = .ok n.toNat w := by
  simp [Instr.sliceBound, asIntOf, h0, h1]

theorem sSlice_ok {t : TypeId} {x : AV} {c : Value} {env : Env} {a : Act} {lo hi mx : Option Operand} {K : AV → Prop} (hi' : Inv G hp ν H w) (he : EnvRel ν env a.tmps) (hx : VR ν x c)
    (h : sSlice P H t x (optInt env lo) (optInt env hi) (optInt env mx) K) : Pures P ν (Instr.sliceAt t c (lo.map a.eval) (hi.map a.eval) (mx.map a.eval)) w K := by
  unfold sSlice at h
  generalize hql : optInt env lo = ql at h
  generalize hqh : optInt env hi = qh at h
  generalize hqm : optInt env mx = qm at h
  split at h
  · rename_i s l u ht
    have hu := tyI_str ht
    obtain ⟨⟨b1, b2, b3⟩, h⟩ := h
    obtain rfl : c = _ := hx
    rcases optInt_ok he hqm with ⟨_, em⟩ | ⟨n, k, e1, _⟩
    · rw [em]
      rcases optInt_ok he hql with ⟨rfl, el⟩ | ⟨n, k, rfl, el⟩ <;> rcases optInt_ok he hqh with ⟨rfl, eh⟩ | ⟨m, j, rfl, eh⟩ <;> rw [el, eh] <;> simp only [Option.getD_none, Option.getD_some] at h b1 b2 b3
      · exact .str h (by simp [Instr.sliceAt, Instr.slice, Instr.sliceBounds, run_underlying hu])
      · exact .str h (by simp [Instr.sliceAt, Instr.slice, Instr.sliceBounds, run_underlying hu, run_bound _ _ _ _ (show 0 ≤ m by omega) b3])
      · exact .str h (by simp [Instr.sliceAt, Instr.slice, Instr.sliceBounds, run_underlying hu, run_bound _ _ _ _ b1 b2])
      · exact .str h (by simp [Instr.sliceAt, Instr.slice, Instr.sliceBounds, run_underlying hu, run_bound _ _ _ _ (show 0 ≤ m by omega) b3, run_bound n k m.toNat .sliceB b1 (by omega)])
    · cases e1
  · rename_i e n o len l u ht
    have hu := tyI_slice ht
    obtain ⟨hz, ⟨b1, b2, b3⟩, h⟩ := h
    split at hz
    case h_2 => exact hz.elim
    case h_1 own lv hH =>
    obtain ⟨hz, h0⟩ := hz
    obtain ⟨i, d, hi1, _, hi3⟩ := tyI_pos h0
    have hi2 : i.size = (tyI P e).sz := by rw [hi3]; rfl
    have hmx : mx.map a.eval = none := by
      rcases optInt_ok he hqm with ⟨_, em⟩ | ⟨n, k, e1, _⟩
      · exact em
      · cases e1
    rw [hmx]
    have hb0 : ∀ (cap : Nat), len ≤ cap → (Instr.sliceBounds true len cap (lo.map a.eval) (hi.map a.eval) none).run P w = .ok ((l.getD 0).toNat, (u.getD len).toNat, cap) w := by
      intro cap hcap
      rcases optInt_ok he hql with ⟨rfl, el⟩ | ⟨n', k, rfl, el⟩ <;> rcases optInt_ok he hqh with ⟨rfl, eh⟩ | ⟨m, j, rfl, eh⟩ <;> rw [el, eh] <;> simp only [Option.getD_none, Option.getD_some] at b1 b2 b3
      · simp [Instr.sliceBounds]
      · simp [Instr.sliceBounds, run_bound m j cap .sliceAcap (by omega) (by omega)]
      · simp [Instr.sliceBounds, run_bound n' k len .sliceB b1 b2]
      · simp [Instr.sliceBounds, run_bound m j cap .sliceAcap (by omega) (by omega), run_bound n' k m.toNat .sliceB b1 (by omega)]
    generalize hl' : (l.getD 0).toNat = l' at *
    generalize hu' : (u.getD len).toNat = u' at *
    have hle : l' ≤ u' ∧ u' ≤ len := by omega
    have he' := hi'.er n _ hH
    rcases hx with ⟨L, cap, h1, h2, h3, rfl⟩ | ⟨h1, p, rfl⟩
    · simp only [ER, h1] at he'
      have hes : L.esz = i.size := by rw [he'.1, hz, hi2]
      refine .mk _ (c := .slice (if cap = l' then some ⟨L.blk, L.off + o, none⟩ else some (Addr.add ⟨L.blk, L.off + o, none⟩ (l' * i.size))) (u' - l') (cap - l')) ?_ ?_ h
      · simp [Instr.sliceAt, Instr.slice, run_underlying hu, hb0 cap h2, sizeOf, typeInfo, hi1]
      · by_cases hc : cap = l'
        · refine Or.inr ⟨by omega, ?_⟩
          rw [if_pos hc]
          exact ⟨_, by congr 1 <;> omega⟩
        · refine Or.inl ⟨L, cap - l', h1, by omega, ?_, ?_⟩
          · rw [hes] at h3 ⊢
            have : (cap - l') * i.size + l' * i.size = cap * i.size := by rw [← Nat.add_mul]; congr 1; omega
            rw [← hi2]; omega
          · rw [if_neg hc, add_loc, ← hi2, Nat.add_assoc]
    · subst h1
      have e1 : l' = 0 := by omega
      have e2 : u' = 0 := by omega
      refine .mk (.sl n (o + l' * (tyI P e).sz) (u' - l')) (c := .slice p 0 0) ?_ (Or.inr ⟨by omega, p, rfl⟩) h
      have := hb0 0 (Nat.le_refl _)
      rw [e1, e2] at this
      simp [Instr.sliceAt, Instr.slice, run_underlying hu, this, sizeOf, typeInfo, hi1]
  · rename_i e n o len ht
    obtain ⟨h0, h⟩ := h
    obtain ⟨i, d, hi1, _, hi3⟩ := tyI_pos h0
    have hu := tyI_slice ht
    have z : ∀ (op : Option Operand), optInt env op = some (some 0) → ∃ k, op.map a.eval = some (.int k 0) := by
      intro op hop
      rcases optInt_ok he hop with ⟨e1, _⟩ | ⟨n, k, e1, e2⟩
      · cases e1
      · cases e1; exact ⟨k, e2⟩
    obtain ⟨k1, e1⟩ := z _ hql
    obtain ⟨k2, e2⟩ := z _ hqh
    obtain ⟨k3, e3⟩ := z _ hqm
    rw [e1, e2, e3]
    obtain ⟨p, c0, n0, rfl⟩ : ∃ p c0 n0, c = .slice p n0 c0 := by
      rcases hx with ⟨L, cap, h1, h2, h3, rfl⟩ | ⟨h1, p, rfl⟩
      · exact ⟨_, _, _, rfl⟩
      · exact ⟨_, _, _, rfl⟩
    refine .mk .emp (c := .slice p 0 0) ?_ ⟨_, rfl⟩ h
    simp [Instr.sliceAt, Instr.slice, Instr.sliceBounds, run_underlying hu, sizeOf, typeInfo, hi1, run_bound 0 k3 c0 .slice3Acap (by omega) (by omega), run_bound 0 k2 0 .slice3B (by omega) (by omega), run_bound 0 k1 0 .slice3C (by omega) (by omega)]
  · rename_i e l u ht
    obtain ⟨⟨h0, b1, b2⟩, h⟩ := h
    obtain ⟨i, d, hi1, _, hi3⟩ := tyI_pos h0
    have hu := tyI_slice ht
    obtain ⟨p, rfl⟩ := hx
    have hmx : mx.map a.eval = none := by
      rcases optInt_ok he hqm with ⟨_, em⟩ | ⟨n, k, e1, _⟩
      · exact em
      · cases e1
    rw [hmx]
    refine .mk .emp (c := .slice p 0 0) ?_ ⟨_, rfl⟩ h
    rcases optInt_ok he hql with ⟨rfl, el⟩ | ⟨n', k, rfl, el⟩ <;> rcases optInt_ok he hqh with ⟨rfl, eh⟩ | ⟨m, j, rfl, eh⟩ <;> rw [el, eh] <;> simp only [Option.getD_none, Option.getD_some] at b1 b2 <;> subst_vars
    · simp [Instr.sliceAt, Instr.slice, Instr.sliceBounds, run_underlying hu, sizeOf, typeInfo, hi1]
    · simp [Instr.sliceAt, Instr.slice, Instr.sliceBounds, run_underlying hu, sizeOf, typeInfo, hi1, run_bound 0 j 0 .sliceAcap (by omega) (by omega)]
    · simp [Instr.sliceAt, Instr.slice, Instr.sliceBounds, run_underlying hu, sizeOf, typeInfo, hi1, run_bound 0 k 0 .sliceB (by omega) (by omega)]
    · simp [Instr.sliceAt, Instr.slice, Instr.sliceBounds, run_underlying hu, sizeOf, typeInfo, hi1, run_bound 0 j 0 .sliceAcap (by omega) (by omega), run_bound 0 k 0 .sliceB (by omega) (by omega)]
  · rename_i e ht
    obtain ⟨h0, h⟩ := h
    obtain ⟨i, d, hi1, _, hi3⟩ := tyI_pos h0
    have hu := tyI_slice ht
    have z : ∀ (op : Option Operand), optInt env op = some (some 0) → ∃ k, op.map a.eval = some (.int k 0) := by
      intro op hop
      rcases optInt_ok he hop with ⟨e1, _⟩ | ⟨n, k, e1, e2⟩
      · cases e1
      · cases e1; exact ⟨k, e2⟩
    obtain ⟨k1, e1⟩ := z _ hql
    obtain ⟨k2, e2⟩ := z _ hqh
    obtain ⟨k3, e3⟩ := z _ hqm
    rw [e1, e2, e3]
    obtain ⟨p, rfl⟩ := hx
    refine .mk .emp (c := .slice p 0 0) ?_ ⟨_, rfl⟩ h
    simp [Instr.sliceAt, Instr.slice, Instr.sliceBounds, run_underlying hu, sizeOf, typeInfo, hi1, run_bound 0 k3 0 .slice3Acap (by omega) (by omega), run_bound 0 k2 0 .slice3B (by omega) (by omega), run_bound 0 k1 0 .slice3C (by omega) (by omega)]
  · exact h.elim

end
end Go.Proofs.YtbobhbhgomkgpaaGreatDoor.S

/- The symbolic heap: soundness of append and of what makes memory. Own work of this claim. -/
namespace Go.Proofs.YtbobhbhgomkgpaaGreatDoor.S
set_option linter.all false
open Go

section
variable {P : Program} {G : Nat → Prop} {hp : HP} {ν : Nm} {H : Heap} {w : World}

theorem src_ok {sz : Nat} {x : AV} {cx : Value} {lx : LV} {b : Nat} (hi : Inv G hp ν H w) (hx : VR ν x cx) (h : srcOf H sz x = some lx) (hb : lenOf? x = some b) :
    lx.z = sz ∧ ∃ px cX, ∃ news : List Value, cx = .slice px b cX ∧ news.length = b * sz ∧ F2 (CR ν) lx.toL news ∧ ∀ w' : World, w'.heap = w.heap → (Builtin.firstCells sz b cx).run P w' = .ok news.toArray w' := by
  unfold srcOf at h
  split at h
  · cases h; cases hb
    obtain ⟨p, rfl⟩ := hx
    refine ⟨rfl, p, 0, [], rfl, by simp, .nil, fun w' _ => ?_⟩
    cases p <;> simp [Builtin.firstCells, loadCells, loadCellsFrom]
  · rename_i n o len
    obtain rfl : len = b := by simpa [lenOf?] using hb
    split at h
    · rename_i own lv hH
      split at h
      · rename_i hc
        cases h
        refine ⟨by rw [LV.view_z]; exact hc.2, ?_⟩
        rcases hx with ⟨L, c, h1, h2, h3, rfl⟩ | ⟨rfl, p, rfl⟩
        · obtain ⟨vs, q1, q2, q3⟩ := (hi.er n _ hH).cells h1 o (len * sz) hc.1
          refine ⟨_, _, vs, rfl, q2, by rw [LV.view_eq]; exact q1, fun w' hw' => ?_⟩
          refine run_firstCells_some (P := P) w' sz len _ _ _ vs q2 ?_
          intro j v hj
          have := q3 j v hj
          simpa [World.cell?, hw'] using this
        · refine ⟨p, 0, [], rfl, by simp, by rw [LV.view_eq]; simp; exact .nil, fun w' _ => ?_⟩
          cases p <;> simp [Builtin.firstCells, loadCells, loadCellsFrom]
      · cases h
    · cases h
  · cases h

theorem run_append_room' {t t2 ty e e2 : TypeId} {i : TypeInfo} (ht : P.underlying t = some (.slice e)) (ht2 : P.underlying t2 = some (.slice e2)) (hi : P.info? e = some i)
    {base : Option Addr} {sLen sCap : Nat} {px : Option Addr} {m cX : Nat} {news : List Value}
    (hf : (Builtin.firstCells i.size m (.slice px m cX)).run P w = .ok news.toArray w) (hroom : sLen + m ≤ sCap) {w' : World}
    (hst : (match base with | some a => storeCells (a.add (sLen * i.size)) news | none => pure ()).run P w = .ok () w') :
    (Builtin.append_ #[t, t2] ty #[.slice base sLen sCap, .slice px m cX]).run P w = .ok (.slice base (sLen + m) sCap) w' := by
  cases base with
  | none =>
    simp at hst
    subst hst
    simp [Builtin.append_, run_underlying ht, run_underlying ht2, sizeOf, typeInfo, hi, Builtin.lenOf, hroom, hf]
  | some a =>
    simp only at hst
    simp [Builtin.append_, run_underlying ht, run_underlying ht2, sizeOf, typeInfo, hi, Builtin.lenOf, hroom, hf, hst]

theorem run_append_grow' {t t2 ty e e2 : TypeId} {i : TypeInfo} {z : Value} (ht : P.underlying t = some (.slice e)) (ht2 : P.underlying t2 = some (.slice e2)) (hi : P.info? e = some i) (hz : i.zero = some z)
    {base : Option Addr} {sLen sCap : Nat} {px : Option Addr} {m cX : Nat} {olds news : List Value}
    (hfo : (Builtin.firstCells i.size sLen (.slice base sLen sCap)).run P w.drew = .ok olds.toArray w.drew)
    (hf : (Builtin.firstCells i.size m (.slice px m cX)).run P w.drew = .ok news.toArray w.drew) (hg : sCap < sLen + m) (hlim : sLen + m < limB i.bytes) (hby : i.bytes ≤ 1000) :
    (Builtin.append_ #[t, t2] ty #[.slice base sLen sCap, .slice px m cX]).run P w =
      .ok (.slice (some ⟨w.heap.size, 0, none⟩) (sLen + m) (grownCap w (sLen + m) sCap e))
        (w.drew.alloc (.cells (olds.toArray ++ news.toArray ++ Builtin.zeroCells z.cells (grownCap w (sLen + m) sCap e - (sLen + m))) e)) := by
  have hn : ¬ (sLen + m ≤ sCap) := by omega
  unfold limB at hlim
  have h63' : ¬ (9223372036854775807 < ((sLen : Int) + (m : Int))) := by split at hlim <;> omega
  have h48' : ¬ (281474976710656 < Builtin.nextslicecap (sLen + m) sCap * i.bytes) := by
    have h1 := nextslicecap_le (need := sLen + m) (old := sCap) hg
    split at hlim
    · rename_i hb
      have h2 : Builtin.nextslicecap (sLen + m) sCap * i.bytes ≤ (2 * (sLen + m)) * 120 := Nat.mul_le_mul h1 hb
      omega
    · have h2 : Builtin.nextslicecap (sLen + m) sCap * i.bytes ≤ (2 * (sLen + m)) * 1000 := Nat.mul_le_mul h1 hby
      omega
  simp [Builtin.append_, run_underlying ht, run_underlying ht2, sizeOf, typeInfo, zeroValue, hi, hz, Builtin.lenOf, hn, h63', h48', Question.forced, newRow, grownCap]
  have e1 : ({ heap := w.heap, tape := w.tape, drawn := w.drawn + 1, os := w.os, output := w.output } : World) = w.drew := rfl
  first
    | (rw [hfo]; simp [hf])
    | (simp [World.drew] at hfo hf; simp [hfo, hf])
  congr 2
  apply Array.ext'
  simp [List.append_assoc]

theorem aset_aset {β : Type} (l : List (Nat × β)) (n : Nat) (x y : β) : aset (aset l n x) n y = aset l n y := by
  induction l with
  | nil => simp [aset]
  | cons p r ih =>
    obtain ⟨k, e⟩ := p
    by_cases h : k = n
    · simp [aset, h]
    · simp [aset, h, ih]

/-- A new block that holds what was there and what is new. -/
theorem grown_ok {nm : Nat} {H' : Heap} (hi : Inv G hp ν H' w) (hn : aget H' nm = none) {lb lx : LV} {sz a b cap : Nat} {olds news : List Value} {zc : Array Value} {e : TypeId}
    (hlb : F2 (CR ν) lb.toL olds) (hlx : F2 (CR ν) lx.toL news) (hza : lb.z = sz) (hzx : lx.z = sz) (h1 : olds.length = a * sz) (h2 : news.length = b * sz) (hzc : zc.size = sz) (hcap : a + b ≤ cap) :
    ∃ ν', Keeps ν ν' ∧ VR ν' (.sl nm 0 (a + b)) (.slice (some ⟨w.heap.size, 0, none⟩) (a + b) cap) ∧
      Inv G hp ν' (aset H' nm (.c true (lb.app2 lx))) (w.drew.alloc (.cells (olds.toArray ++ news.toArray ++ Builtin.zeroCells zc (cap - (a + b))) e)) := by
  have hz : (lb.app2 lx).z = sz := by rw [LV.app2_z _ _ (by rw [hza, hzx]), hza]
  have hsize : (olds.toArray ++ news.toArray ++ Builtin.zeroCells zc (cap - (a + b))).size = cap * sz := by
    simp only [Array.size_append, List.size_toArray, size_zeroCells, hzc, h1, h2, ← Nat.add_mul]
    congr 1; omega
  have hF : F2 (CR ν) (lb.app2 lx).toL (olds ++ news) := by rw [LV.app2_eq]; exact hlb.append hlx
  have hI := (hi.heap (w' := w.drew) rfl ⟨rfl, rfl, rfl⟩).alloc hn (olds.toArray ++ news.toArray ++ Builtin.zeroCells zc (cap - (a + b))) e (lb.app2 lx)
    (by rw [hF.length, hsize, List.length_append, h1, h2, ← Nat.add_mul]; exact Nat.mul_le_mul_right _ hcap)
    (by
      intro k c hk
      obtain ⟨v, hv, hr⟩ := hF.get hk
      refine ⟨v, ?_, hr⟩
      have hlt : k < (olds ++ news).length := (List.getElem?_eq_some_iff.1 hv).1
      rw [Array.getElem?_append_left (by simpa using hlt)]
      simpa using hv)
  refine ⟨_, Keeps.upd _ (hi.dom nm hn), ?_, hI⟩
  refine Or.inl ⟨_, cap, upd_self _ _ _, hcap, ?_, ?_⟩
  · simp only [hsize, hz]; omega
  · rfl

theorem sAppend_ok {nm : Nat} {t t2 e2 ty : TypeId} {s x : AV} {cs cx : Value} {K : Kt} (hi : Inv G hp ν H w) (hs : VR ν s cs) (hx : VR ν x cx) (ht2 : (tyI P t2).tk = .slice e2) (h : sAppend P nm H t s x K) :
    Runs P G hp ν (Builtin.append_ #[t, t2] ty #[cs, cx]) w K := by
  unfold sAppend at h
  split at h
  case h_2 => exact h.elim
  case h_1 e ht =>
  split at h
  case h_2 => exact h.elim
  case h_1 lb n0 lx a b hbase hsrc hla hlb' =>
  obtain ⟨⟨hnm, hlim, hpos, hzl, hby, hne⟩, h⟩ := h
  obtain ⟨i, z, q1, q2, q3, q4, q5, _⟩ := zero_ok hpos hzl ν
  obtain ⟨hzx, px, cX, news, rfl, hnl, hnF, hnR⟩ := src_ok (P := P) hi hx hsrc hlb'
  have hu := tyI_slice ht
  have hu2 := tyI_slice ht2
  generalize hszd : (tyI P e).sz = sz at *
  -- the base
  have hB : ∃ H', killO H n0 = H' ∧ Inv G hp ν H' w ∧ aget H' nm = none ∧ lb.z = sz := by
    cases s <;> simp only [baseOf] at hbase <;> try cases hbase
    case emp => exact ⟨H, rfl, hi, hnm, rfl⟩
    case sl n o len =>
      split at hbase
      · rename_i lv hH
        split at hbase
        · rename_i hc
          cases hbase
          refine ⟨_, rfl, hi.kill hH, ?_, by rw [LV.view_z]; exact hc.2⟩
          simp only [killO]
          rw [aget_aset]
          split
          · rename_i e'; subst e'; rw [hH] at hnm; cases hnm
          · exact hnm
        · cases hbase
      · cases hbase
  obtain ⟨H', hH', hI', hnm', hzb⟩ := hB
  rw [hH'] at h
  -- what happens when there is no room
  have grow : ∀ (p : Option Addr) (cS : Nat) (olds : List Value), cs = .slice p a cS → F2 (CR ν) lb.toL olds → olds.length = a * sz →
      (Builtin.firstCells sz a (.slice p a cS)).run P w.drew = .ok olds.toArray w.drew → cS < a + b → Runs P G hp ν (Builtin.append_ #[t, t2] ty #[cs, .slice px b cX]) w K := by
    intro p cS olds hcs hF hol hfo hg
    subst hcs
    have hr := run_append_grow' (P := P) (w := w) (ty := ty) hu hu2 q1 q2 (base := p) (sLen := a) (sCap := cS) (px := px) (m := b) (cX := cX) (olds := olds) (news := news) (by rw [q3]; exact hfo) (by rw [q3]; exact hnR _ rfl) hg (by rw [q4]; exact hlim) (by rw [q4]; exact hby)
    obtain ⟨ν', hk, hv, hI⟩ := grown_ok (e := e) hI' hnm' hF hnF hzb hzx hol hnl (zc := z.cells) (by rw [q5]) (grownCap_ge w (a + b) cS e)
    exact ⟨_, _, ν', _, _, hr, hk, hv, hI, h⟩
  -- no room is asked of what has none
  have none_ : ∀ (p : Option Addr), a = 0 → cs = .slice p 0 0 → lb.toL = [] → Runs P G hp ν (Builtin.append_ #[t, t2] ty #[cs, .slice px b cX]) w K := by
    intro p ha hcs hl
    subst ha
    by_cases hb0 : b = 0
    · subst hb0
      have hn0 : news = [] := List.eq_nil_of_length_eq_zero (by simpa using hnl)
      subst hn0
      subst hcs
      have hr := run_append_room' (P := P) (w := w) (ty := ty) hu hu2 q1 (base := p) (sLen := 0) (sCap := 0) (px := px) (m := 0) (cX := cX) (news := []) (by rw [q3]; exact hnR _ rfl) (by omega) (w' := w) (by cases p <;> rfl)
      refine ⟨_, _, ν, .sl nm 0 (0 + 0), _, hr, .refl ν, Or.inr ⟨rfl, p, rfl⟩, hI'.fresh hnm' _ ?_, h⟩
      rw [LV.app2_eq, hl]
      exact List.eq_nil_of_length_eq_zero (by rw [List.nil_append, hnF.length]; rfl)
    · exact grow p 0 [] hcs (by rw [hl]; exact .nil) (by simp) (by cases p <;> simp [Builtin.firstCells, loadCells, loadCellsFrom]) (by omega)
  cases s <;> simp only [baseOf] at hbase <;> try cases hbase
  case emp =>
    have ha : a = 0 := by simpa [lenOf?] using hla.symm
    obtain ⟨p, rfl⟩ := hs
    exact none_ p ha rfl rfl
  case sl n o len =>
    obtain rfl : len = a := by simpa [lenOf?] using hla
    split at hbase
    case h_2 => cases hbase
    case h_1 lv hH =>
    split at hbase
    case isFalse => cases hbase
    case isTrue hc =>
    cases hbase
    rcases hs with ⟨L, cS, h1, h2, h3, rfl⟩ | ⟨rfl, p, rfl⟩
    case inr => exact none_ p rfl rfl (by rw [LV.view_eq]; simp)
    have he := hi.er n _ hH
    obtain ⟨olds, o1, o2, o3⟩ := he.cells h1 o (len * sz) (by omega)
    by_cases hroom : len + b ≤ cS
    case neg =>
      refine grow _ cS olds rfl (by rw [LV.view_eq]; exact o1) o2 ?_ (by omega)
      refine run_firstCells_some (P := P) _ sz len _ _ _ olds o2 ?_
      intro j v hj
      exact o3 j v hj
    simp only [ER, h1] at he
    obtain ⟨e0, arr, T, fr, e1, e2, e3, e4, e5⟩ := he
    have e5 := e5 rfl
    subst e5
    have hez : L.esz = sz := by rw [e0]; exact hc.2
    rw [hez] at h3
    have hcap : len * sz + b * sz ≤ cS * sz := by rw [← Nat.add_mul]; exact Nat.mul_le_mul_right _ hroom
    have hone : ∀ v ∈ news, v.oneCell' = true := by
      intro v hv
      obtain ⟨j, hj, rfl⟩ := List.getElem_of_mem hv
      have hj' : j < lx.toL.length := by rw [hnF.length]; exact hj
      obtain ⟨b', hb', hr⟩ := hnF.get (i := j) (List.getElem?_eq_getElem hj')
      rw [List.getElem?_eq_getElem hj] at hb'
      cases hb'
      exact hr.one
    have hst := run_storeCells_at P L.blk (L.off + o + len * sz) T news 0 arr w e1 (by rw [hnl]; omega) hone
    have hr := run_append_room' (P := P) (w := w) (ty := ty) hu hu2 q1 (base := some ⟨L.blk, L.off + o, none⟩) (sLen := len) (sCap := cS) (px := px) (m := b) (cX := cX) (news := news) (by rw [q3]; exact hnR _ rfl) hroom (w' := w.setRow L.blk (arr.toList.take (L.off + o + len * sz) ++ news ++ arr.toList.drop (L.off + o + len * sz + news.length)).toArray) (by simp only [q3, add_loc]; exact hst)
    have hlvl : lv.toL.length = o + len * sz := by rw [LV.len_eq, hc.1]
    have hW := hi.write hH h1 arr (arr.toList.take (L.off + o + len * sz) ++ news ++ arr.toList.drop (L.off + o + len * sz + news.length)).toArray T e1
      (by simp; rw [hnl]; omega) (.av sz (lv.toL ++ lx.toL)) (by rw [hez]; rfl) (by simp only [LV.toL_av, List.length_append, hlvl, hnF.length, hnl]; omega)
      (by
        intro k c hk
        simp only [LV.toL_av] at hk
        rw [List.getElem?_toArray, seg_get _ _ _ (by rw [hnl]; simp; omega)]
        by_cases hk1 : k < lv.toL.length
        · rw [List.getElem?_append_left hk1] at hk
          obtain ⟨v, hv, c', hc', hcr⟩ := e4 k hk1
          rw [hk] at hc'; cases hc'
          refine ⟨v, ?_, hcr⟩
          rw [if_neg (by rw [hlvl] at hk1; omega), ← hv]; simp
        · rw [List.getElem?_append_right (by omega)] at hk
          obtain ⟨v, hv, hcr⟩ := hnF.get hk
          refine ⟨v, ?_, hcr⟩
          have := (List.getElem?_eq_some_iff.1 hv).1
          rw [if_pos (by rw [hlvl] at *; omega), ← hv]
          congr 1; rw [hlvl] at *; omega)
    have hnn : n ≠ nm := fun q => by subst q; rw [hH] at hnm; cases hnm
    obtain ⟨ν', k1, k2, _, _, k5⟩ := hW.rebase (n := n) (nm := nm) (lv := .av sz (lv.toL ++ lx.toL)) (by rw [aget_aset, if_pos rfl]) (by rw [aget_aset, if_neg hnn]; exact hnm) o ((lv.view o (len * sz)).app2 lx)
      (by rw [LV.app2_eq, LV.view_eq, LV.toL_av]; rw [List.drop_append_of_le_length (by omega), List.take_of_length_le (by rw [List.length_drop]; omega)])
      (by rw [LV.app2_z _ _ (by rw [hzb, hzx]), hzb]; rfl) (fun M hM => by rw [h1] at hM; cases hM; omega)
    rw [aset_aset, show aset H n Ent.dead = H' from hH'] at k5
    refine ⟨_, _, ν', _, _, hr, k1, ?_, k5, h⟩
    refine Or.inl ⟨_, cS, k2 L h1, hroom, ?_, rfl⟩
    simp only [hez]; omega

end
end Go.Proofs.YtbobhbhgomkgpaaGreatDoor.S

/- The symbolic heap: one operation's step is sound, whatever the operation. Own work of this claim. -/
namespace Go.Proofs.YtbobhbhgomkgpaaGreatDoor.S
set_option linter.all false
open Go

/-- A call that a symbolic step may make is sound. -/
def CallOkH (P : Program) (call : CallT) (G : Nat → Prop) (hp : HP) : Prop := ∀ g args H nm K, call g args H nm K → ∀ ν w (vs : Array Value), Inv G hp ν H w → F2 (VR ν) args vs.toList →
  (callFunc g vs).run P w = .ok (.enter g vs) w ∧ Calls P g vs w fun e w' => ∃ c r H' ν', e = .returned c ∧ Keeps ν ν' ∧ VR ν' r c ∧ Inv G hp ν' H' w' ∧ K r H'

def CallOk (P : Program) (call : CallT) : Prop := ∀ G hp, CallOkH P call G hp

section
variable {P : Program} {G : Nat → Prop} {hp : HP} {ν : Nm} {H : Heap} {w : World}

theorem fresh_ok {nm : Nat} (hi : Inv G hp ν H w) (hn : aget H nm = none) (arr : Array Value) (T : TypeId) (lv : LV) (hF : F2 (CR ν) lv.toL arr.toList) :
    Keeps ν (upd ν nm ⟨w.heap.size, 0, arr.size, lv.z⟩) ∧ Inv G hp (upd ν nm ⟨w.heap.size, 0, arr.size, lv.z⟩) (aset H nm (.c true lv)) (w.alloc (.cells arr T)) :=
  ⟨Keeps.upd _ (hi.dom nm hn), hi.alloc hn arr T lv (by rw [hF.length]; simp) (fun k c hk => by
    obtain ⟨v, hv, hr⟩ := hF.get hk
    exact ⟨v, by simpa using hv, hr⟩)⟩

theorem F2.rep {R : AV → Value → Prop} {l : List AV} {m : List Value} (h : F2 R l m) : ∀ n, F2 R (List.replicate n l).flatten (List.replicate n m).flatten
  | 0 => by simp; exact .nil
  | n + 1 => by rw [List.replicate_succ, List.replicate_succ, List.flatten_cons, List.flatten_cons]; exact h.append (h.rep n)
theorem rep_get {α : Type} (l : List α) (hl : 0 < l.length) : ∀ (n k : Nat), k < n * l.length → (List.replicate n l).flatten[k]? = l[k % l.length]?
  | 0, k, h => by omega
  | n + 1, k, h => by
    rw [List.replicate_succ, List.flatten_cons]
    by_cases hk : k < l.length
    · rw [List.getElem?_append_left hk, Nat.mod_eq_of_lt hk]
    · rw [List.getElem?_append_right (by omega), rep_get l hl n (k - l.length) (by rw [Nat.add_mul] at h; omega)]
      congr 1
      conv => rhs; rw [show k = (k - l.length) + l.length by omega, Nat.add_mod_right]
theorem rep_cells (z : Array Value) (hz : 0 < z.size) (n : Nat) : ((Array.range (n * z.size)).map (z[· % z.size]!)).toList = (List.replicate n z.toList).flatten := by
  apply List.ext_getElem?
  intro k
  by_cases hk : k < n * z.size
  · rw [rep_get z.toList (by simpa using hz) n k (by simpa using hk)]
    simp only [Array.toList_map, Array.length_toList]
    have hm : k % z.size < z.size := Nat.mod_lt _ hz
    simp [hk, hm]
  · have h1 : ((Array.range (n * z.size)).map (z[· % z.size]!)).toList[k]? = none := by
      rw [List.getElem?_eq_none]; simp; omega
    have h2 : (List.replicate n z.toList).flatten[k]? = none := by
      rw [List.getElem?_eq_none]; simp; omega
    rw [h1, h2]
theorem LV.rep_eq (ek z n : Nat) (zero : List AV) : (LV.rep ek z n zero).toL = (List.replicate n zero).flatten := by
  unfold LV.rep
  split
  · simp [LV.toL]
  · simp [LV.toL]
  · rfl

/-- 'append(nil, make(..)...)' is sound. -/
theorem run_append_make {t t2 ty e : TypeId} {k : IntKind} {i : TypeInfo} {z : Value} (ht : P.underlying t = some (.slice e)) (ht2 : P.underlying t2 = some (.int k)) (hi : P.info? e = some i) (hz : i.zero = some z)
    {base : Option Addr} {n : Nat} (hn : 0 < n) (hlim : n < lim40) (hby : i.bytes ≤ 120) (hsz : 0 < i.size) :
    (Builtin.append_ #[t, t2] ty #[.slice base 0 0, .int .i64 n]).run P w =
      .ok (.slice (some ⟨w.heap.size, 0, none⟩) (0 + n) (grownCap w (0 + n) 0 e))
        (w.drew.alloc (.cells (([] : List Value).toArray ++ (Builtin.zeroCells z.cells n).toList.toArray ++ Builtin.zeroCells z.cells (grownCap w (0 + n) 0 e - (0 + n))) e)) := by
  unfold lim40 at hlim
  have hwrap : IntKind.i64.wrap (n : Int) = n := IntWalk.i64_in _ (by omega)
  have h0 : ¬ ((n : Int) < 0) := by omega
  have h63' : ¬ (9223372036854775807 < (n : Int)) := by omega
  have h48' : ¬ (281474976710656 < Builtin.nextslicecap n 0 * i.bytes) := by
    have h1 := nextslicecap_le (need := n) (old := 0) hn
    have h2 : Builtin.nextslicecap n 0 * i.bytes ≤ (2 * n) * 120 := Nat.mul_le_mul h1 hby
    omega
  have h48 : ¬ ((281474976710656 : Int) < (n : Int) * (i.bytes : Int)) := by
    have h1 : (n : Int) * (i.bytes : Int) ≤ (n : Int) * 120 := Int.mul_le_mul_of_nonneg_left (by omega) (by omega)
    omega
  have hns : ¬ (n = 0 ∨ i.size = 0) := by omega
  have hf : (Builtin.firstCells i.size 0 (.slice base 0 0)).run P w.drew = .ok #[] w.drew := by cases base <;> simp [Builtin.firstCells, loadCells, loadCellsFrom]
  have hn0 : ¬ n = 0 := by omega
  have hs0 : ¬ i.size = 0 := by omega
  simp [Builtin.append_, run_underlying ht, run_underlying ht2, sizeOf, typeInfo, zeroValue, hi, hz, asInt, asIntOf, hwrap, h0, h48, hn0, hs0, h63', h48', Question.forced, newRow, grownCap]
  have e1 : ({ heap := w.heap, tape := w.tape, drawn := w.drawn + 1, os := w.os, output := w.output } : World) = w.drew := rfl
  first
    | (rw [hf]; simp)
    | (simp [World.drew] at hf; simp [hf])
  intro hc
  rcases Nat.mul_eq_zero.1 hc with hc | hc <;> omega
theorem sMake_ok {nm : Nat} {t t2 ty : TypeId} {k : IntKind} {s x : AV} {cs cx : Value} {K : Kt} (hi : Inv G hp ν H w) (hs : VR ν s cs) (hx : VR ν x cx) (ht2 : P.underlying t2 = some (.int k)) (h : sMake P nm H t s x K) :
    Runs P G hp ν (Builtin.append_ #[t, t2] ty #[cs, cx]) w K := by
  unfold sMake at h
  split at h
  case h_2 => exact h.elim
  case h_1 e n ht =>
  obtain ⟨⟨hnm, h0, hlim, hpos, hzl, hby, hz⟩, h⟩ := h
  obtain ⟨i, z, q1, q2, q3, q4, q5, q6⟩ := zero_ok hpos hzl ν
  have hu := tyI_slice ht
  obtain ⟨p, rfl⟩ := hs
  obtain rfl : cx = .int .i64 n := hx
  obtain ⟨m, rfl⟩ : ∃ m : Nat, n = m := ⟨n.toNat, by omega⟩
  rw [Int.toNat_natCast] at h hz
  have hzp : 0 < z.cells.size := by rw [q5]; exact hpos
  by_cases hm : m = 0
  · subst hm
    have hr : (Builtin.append_ #[t, t2] ty #[.slice p 0 0, .int .i64 (0 : Nat)]).run P w = .ok (.slice p 0 0) w := by
      have hwrap : IntKind.i64.wrap 0 = 0 := IntWalk.i64_in _ (by omega)
      cases p <;> simp [Builtin.append_, run_underlying hu, run_underlying ht2, sizeOf, typeInfo, q1, asInt, asIntOf, hwrap, storeCells]
    refine ⟨_, _, ν, .sl nm 0 0, _, hr, .refl ν, Or.inr ⟨rfl, p, rfl⟩, hi.fresh hnm _ ?_, h⟩
    rw [LV.rep_eq]; rfl
  · have hr := run_append_make (P := P) (w := w) (ty := ty) hu ht2 q1 q2 (base := p) (n := m) (by omega) (by unfold lim40 at hlim ⊢; omega) (by rw [q4]; exact hby) (by rw [q3]; exact hpos)
    have hF : F2 (CR ν) (LV.rep (tyI P e).ek (tyI P e).sz m (tyI P e).zero).toL (Builtin.zeroCells z.cells m).toList := by
      rw [LV.rep_eq, Builtin.zeroCells, rep_cells z.cells hzp]
      exact F2.rep q6 _
    obtain ⟨ν', hk, hv, hI⟩ := grown_ok (w := w) (e := e) hi hnm (lb := .av (tyI P e).sz []) (olds := []) .nil hF rfl hz (a := 0) (b := m) (by simp) (by rw [Array.length_toList, size_zeroCells, q5]; rfl) (zc := z.cells) (by rw [q5]; rfl) (grownCap_ge w (0 + m) 0 e)
    refine ⟨_, _, ν', _, _, hr, hk, hv, hI, ?_⟩
    simpa [LV.app2] using h

theorem fold_set (o : Nat) : ∀ (cs : List Value) (j : Nat) (arr : Array Value), o + j + cs.length ≤ arr.size →
    ((cs.zipIdx j).foldl (fun (a : Array Value) p => a.setIfInBounds (o + p.2) p.1) arr) = (arr.toList.take (o + j) ++ cs ++ arr.toList.drop (o + j + cs.length)).toArray
  | [], j, arr, _ => by simp
  | c :: cs, j, arr, h => by
    rw [List.zipIdx_cons, List.foldl_cons, fold_set o cs (j + 1) _ (by simp at h ⊢; omega)]
    congr 1
    have := list_seg_step arr.toList (o + j) c cs (by simp at h ⊢; omega)
    simpa [Array.toList_setIfInBounds, Nat.add_assoc] using this
theorem fill_step (place : Nat → Option (Nat × Nat)) (cells : Array Value) (i : Nat) (v : Value) (rest : List (Nat × Value)) (off sz : Nat) (hp : place i = some (off, sz)) (h1 : v.cells.size = sz) (h2 : off + sz ≤ cells.size) :
    Instr.fill place cells ((i, v) :: rest) = Instr.fill place (cells.toList.take off ++ v.cells.toList ++ cells.toList.drop (off + sz)).toArray rest := by
  simp only [Instr.fill, hp]
  rw [if_neg (by simp; omega)]
  congr 1
  have := fold_set off v.cells.toList 0 cells (by simp; omega)
  simp only [Nat.add_zero, Array.length_toList, h1] at this
  rw [← this, ← Array.foldl_toList, Array.toList_zipIdx]
theorem fill_ok (place : Nat → Option (Nat × Nat)) : ∀ (parts : List (Nat × AV)) (vparts : List (Nat × Value)) (cs : List AV) (cells : Array Value) (res : List AV),
    F2 (fun p q => p.1 = q.1 ∧ VR ν p.2 q.2) parts vparts → F2 (CR ν) cs cells.toList → fillL place cs parts = some res → ∃ arr, Instr.fill place cells vparts = some arr ∧ F2 (CR ν) res arr.toList
  | [], _, cs, cells, res, .nil, hF, h => by simp [fillL] at h; subst h; exact ⟨cells, rfl, hF⟩
  | (i, x) :: r, (j, v) :: vr, cs, cells, res, .cons hp hr, hF, h => by
    obtain ⟨rfl, hv⟩ := hp
    simp only [fillL] at h
    split at h
    · rename_i off sz hpl
      split at h
      · rename_i hc
        obtain ⟨c1, c2, c3⟩ := hc
        have hcs := (hv.fits c3).cells
        have hvs : v.cells.size = sz := by rw [← c1, hcs.length]; simp
        have hlen : cs.length = cells.size := by rw [hF.length]; simp
        rw [fill_step place cells i v vr off sz hpl hvs (by omega)]
        exact fill_ok place r vr _ _ res hr (((hF.take off).append hcs).append (hF.drop _)) h
      · cases h
    · cases h
theorem fillL_row (sz : Nat) : ∀ (parts : List (Nat × AV)) (k : Nat) (cs : List AV), partsIn k parts = true → (parts.all fun p => (cellsOf p.2).length == sz) = true → (k + parts.length) * sz ≤ cs.length →
    fillL (fun i => some (i * sz, sz)) cs parts = some (cs.take (k * sz) ++ parts.flatMap (fun p => cellsOf p.2) ++ cs.drop ((k + parts.length) * sz))
  | [], k, cs, _, _, _ => by simp [fillL]
  | (i, x) :: r, k, cs, h1, h2, h3 => by
    simp only [partsIn, Bool.and_eq_true, beq_iff_eq] at h1
    obtain ⟨⟨rfl, hf⟩, h1⟩ := h1
    simp only [List.all_cons, Bool.and_eq_true, beq_iff_eq] at h2
    simp only [List.length_cons] at h3
    have e : (i + 1) * sz = i * sz + sz := by rw [Nat.add_mul, Nat.one_mul]
    have e2 : (i + 1 + r.length) * sz = (i + (r.length + 1)) * sz := by congr 1; omega
    have hle : (i + 1) * sz ≤ (i + (r.length + 1)) * sz := Nat.mul_le_mul_right _ (by omega)
    simp only [fillL]
    have hl : (cs.take (i * sz)).length = i * sz := by rw [List.length_take]; omega
    rw [if_pos ⟨h2.1, by omega, hf⟩, fillL_row sz r (i + 1) _ h1 h2.2 (by simp [h2.1]; omega)]
    congr 1
    rw [e, e2]
    have t1 : (List.take (i * sz) cs ++ cellsOf x ++ List.drop (i * sz + sz) cs).take (i * sz + sz) = List.take (i * sz) cs ++ cellsOf x := by
      rw [List.take_append_of_le_length (by simp [h2.1]; omega), List.take_of_length_le (by simp [h2.1]; omega)]
    have t2 : (List.take (i * sz) cs ++ cellsOf x ++ List.drop (i * sz + sz) cs).drop ((i + (r.length + 1)) * sz) = cs.drop ((i + (r.length + 1)) * sz) := by
      rw [List.drop_append, List.drop_of_length_le (by simp [h2.1]; omega), List.nil_append, List.drop_drop]
      congr 1
      simp [h2.1]; omega
    rw [t1, t2]
    simp [List.append_assoc]

/-- What is asked behind an operation. -/
def Nexts (G : Nat → Prop) (hp : HP) (ν : Nm) (o : Oper) (a : Act) (K : Kt) (next : Act → World → Prop) : Prop :=
  ∀ ν' v c H' w', Keeps ν ν' → VR ν' v c → Inv G hp ν' H' w' → K v H' → next (a.put o.dst c) w'
theorem wp_runs {o : Oper} {a : Act} {K : Kt} {next : Act → World → Prop} {Q : Exit → Act → World → Prop} {s : Sem Value}
    (hn : Nexts G hp ν o a K next) (hs : execOp a.eval o = (do pure (.value (← s)))) (h : Runs P G hp ν s w K) : o.wp P a w next Q := by
  obtain ⟨c, w', ν', v, H', h1, h2, h3, h4, h5⟩ := h
  unfold Oper.wp
  rw [hs]
  simp only [Sem.run_bind, h1, Result.andThen_ok, Sem.run_pure, Oper.upon]
  exact hn _ _ _ _ _ h2 h3 h4 h5
theorem wp_pures {o : Oper} {a : Act} {K : Kt} {next : Act → World → Prop} {Q : Exit → Act → World → Prop} {s : Sem Value}
    (hn : Nexts G hp ν o a K next) (hi : Inv G hp ν H w) (hs : execOp a.eval o = (do pure (.value (← s)))) (h : Pures P ν s w fun v => K v H) : o.wp P a w next Q := by
  obtain ⟨c, v, h1, h2, h3⟩ := h
  exact wp_runs hn hs ⟨c, w, ν, v, H, h1, .refl ν, h2, hi, h3⟩
theorem wp_value {o : Oper} {a : Act} {K : Kt} {next : Act → World → Prop} {Q : Exit → Act → World → Prop} {c : Value} {v : AV}
    (hn : Nexts G hp ν o a K next) (hi : Inv G hp ν H w) (hs : execOp a.eval o = pure (.value c)) (hv : VR ν v c) (h : K v H) : o.wp P a w next Q := by
  unfold Oper.wp
  rw [hs]
  simp only [Sem.run_pure, Oper.upon]
  exact hn _ _ _ _ _ (.refl ν) hv hi h

theorem buildSlice_ok {nm : Nat} {t e : TypeId} {len : Nat} {parts : List (Nat × AV)} {vparts : Array (Nat × Value)} {K : Kt} (hi : Inv G hp ν H w) (ht : (tyI P t).tk = .slice e)
    (hF : F2 (fun p q => p.1 = q.1 ∧ VR ν p.2 q.2) parts vparts.toList)
    (hn : aget H nm = none) (hl : parts.length = len) (hs : len * (tyI P e).sz ≤ 16777216) (hpos : 0 < (tyI P e).sz) (hz : (tyI P e).zero.length = (tyI P e).sz)
    (h1 : partsIn 0 parts = true) (h2 : (parts.all fun p => (cellsOf p.2).length == (tyI P e).sz) = true) (lv : LV) (hlv : lv.toL = parts.flatMap fun p => cellsOf p.2) (hlz : lv.z = (tyI P e).sz)
    (hK : K (.sl nm 0 len) (aset H nm (.c true lv))) : Runs P G hp ν (Instr.buildSlice t len vparts) w K := by
  obtain ⟨i, z, q1, q2, q3, q4, q5, q6⟩ := zero_ok hpos hz ν
  have hu := tyI_slice ht
  generalize hszd : (tyI P e).sz = sz at *
  have hzp : 0 < z.cells.size := by rw [q5]; exact hpos
  have hbase : F2 (CR ν) (List.replicate len (tyI P e).zero).flatten (((Array.range (len * sz)).map (z.cells[· % z.cells.size]!))).toList := by
    have := rep_cells z.cells hzp len
    rw [q5] at this ⊢
    rw [this]
    exact F2.rep q6 len
  have hblen : (List.replicate len (tyI P e).zero).flatten.length = len * sz := by simp [hz]
  have hfill := fillL_row sz parts 0 (List.replicate len (tyI P e).zero).flatten h1 h2 (by rw [hblen, hl]; simp)
  have hres : (List.replicate len (tyI P e).zero).flatten.take (0 * sz) ++ parts.flatMap (fun p => cellsOf p.2) ++ (List.replicate len (tyI P e).zero).flatten.drop ((0 + parts.length) * sz) = lv.toL := by
    rw [hlv, List.drop_of_length_le (by rw [hblen, hl]; simp)]
    simp
  rw [hres] at hfill
  obtain ⟨arr, f1, f2⟩ := fill_ok (ν := ν) _ parts vparts.toList _ ((Array.range (len * sz)).map (z.cells[· % z.cells.size]!)) _ hF hbase hfill
  have hrun : (Instr.buildSlice t len vparts).run P w = .ok (.slice (some ⟨w.heap.size, 0, none⟩) len len) (w.alloc (.cells arr e)) := by
    by_cases h0 : len * sz = 0
    · have hl0 : len = 0 := by rcases Nat.mul_eq_zero.1 h0 with h | h <;> omega
      subst hl0
      have hr0 : Array.range 0 = #[] := rfl
      have hp0 : parts = [] := List.eq_nil_of_length_eq_zero hl
      have hv0 : vparts = #[] := by
        have := hF.length
        rw [hp0] at this
        exact Array.eq_empty_of_size_eq_zero (by simpa using this.symm)
      have ha0 : arr = #[] := by
        have := f2.length
        rw [hlv, hp0] at this
        exact Array.eq_empty_of_size_eq_zero (by simpa using this.symm)
      subst hv0 ha0
      simp [Instr.buildSlice, run_underlying hu, sizeOf, typeInfo, q1, newRow, Instr.fill, hr0]
    · simp [Instr.buildSlice, run_underlying hu, sizeOf, typeInfo, zeroValue, q1, q2, q3, newRow, f1, h0, Nat.not_lt.2 hs]
  obtain ⟨hk, hI⟩ := fresh_ok hi hn arr e lv f2
  refine ⟨_, _, _, .sl nm 0 len, _, hrun, hk, Or.inl ⟨_, len, upd_self _ _ _, Nat.le_refl _, ?_, rfl⟩, hI, hK⟩
  have : arr.size = len * sz := by
    have := f2.length
    simp only [Array.length_toList] at this
    rw [← this, ← hblen]
    have hh := congrArg List.length hres
    simp only [List.length_append, List.length_take, List.length_drop] at hh
    have hb := hblen
    have : (parts.flatMap fun p => cellsOf p.2).length = len * sz := by
      have hall : ∀ (l : List (Nat × AV)), (l.all fun p => (cellsOf p.2).length == sz) = true → (l.flatMap fun p => cellsOf p.2).length = l.length * sz := by
        intro l
        induction l with
        | nil => simp
        | cons p l ih =>
          intro h
          simp only [List.all_cons, Bool.and_eq_true, beq_iff_eq] at h
          rw [List.flatMap_cons, List.length_append, h.1, ih h.2, List.length_cons, Nat.add_mul]; omega
      rw [hall parts h2, hl]
    rw [hlv, this, hb]
  simp only [this, hlz]; omega

theorem parts_ok {env : Env} {a : Act} (he : EnvRel ν env a.tmps) (parts : Array (Nat × Operand)) :
    F2 (fun p q => p.1 = q.1 ∧ VR ν p.2 q.2) (parts.toList.map fun p => (p.1, ev env p.2)) (parts.map fun (i, x) => (i, a.eval x)).toList := by
  rw [Array.toList_map]
  exact F2.mapr (fun p => ⟨rfl, ev_ok he p.2⟩) _

/-! Maps of strings to truth values -/
theorem Inv.mapNew {nm : Nat} (h : Inv G hp ν H w) (hn : aget H nm = none) : Inv G hp (upd ν nm ⟨w.heap.size, 0, 0, 1⟩) (aset H nm (.mp [])) (w.alloc (.map #[] 0)) := by
  have hν : ν nm = none := h.dom nm hn
  have hk : Keeps ν (upd ν nm ⟨w.heap.size, 0, 0, 1⟩) := Keeps.upd _ hν
  refine ⟨?_, ?_, ?_, ?_, fun m hm => ⟨(upd_other _ (fun (e : m = nm) => (h.nb m hm).2 (by rw [e]; exact hn))).trans (h.nb m hm).1, aset_ne (h.nb m hm).2⟩, ?_, h.fx⟩
  · intro m x hx
    rw [aget_aset] at hx
    split at hx
    · rename_i e; cases hx; subst e
      exact ⟨_, upd_self _ _ _, #[], 0, heap_alloc_new w _, by simp, by simp, by simp⟩
    · rename_i e
      have hm := h.er m x hx
      by_cases hd : x.live = true
      · exact hm.move hk (upd_other _ (Ne.symm e)) (fun L hL => heap_alloc_old w _ _ (hm.lt hd hL))
      · cases x <;> first | trivial | (simp [Ent.live] at hd)
  · intro a b x y hx ho hy hl' hab L L' hL hL'
    rw [aget_aset] at hx hy
    split at hx
    · rename_i e; subst e; cases hx
      rw [upd_self] at hL; cases hL
      rw [if_neg hab] at hy
      rw [upd_other _ (Ne.symm hab)] at hL'
      have := (h.er b y hy).lt hl' hL'
      simp; omega
    · rename_i e
      rw [upd_other _ (Ne.symm e)] at hL
      split at hy
      · rename_i e2; subst e2; cases hy
        rw [upd_self] at hL'; cases hL'
        have hxl : x.live = true := by cases x <;> first | rfl | (simp [Ent.isOwn] at ho)
        have := (h.er a x hx).lt hxl hL
        simp; omega
      · rename_i e2
        rw [upd_other _ (Ne.symm e2)] at hL'
        exact h.inj a b x y hx ho hy hl' hab L L' hL hL'
  · intro m hm
    rw [aget_aset] at hm
    split at hm
    · cases hm
    · rename_i e
      rw [upd_other _ (Ne.symm e)]; exact h.dom m hm
  · intro b hb
    obtain ⟨h1, h2⟩ := h.gfr b hb
    refine ⟨by rw [heap_alloc_old w _ _ h2]; exact h1, ?_⟩
    show b < (w.heap.push _).size
    rw [Array.size_push]; omega
  · intro m x L hx hxo hL
    rw [aget_aset] at hx
    split at hx
    · rename_i e; subst e
      rw [upd_self] at hL; cases hL
      intro hg
      have := (h.gfr _ hg).2
      dsimp only at this; omega
    · rename_i e
      rw [upd_other _ (Ne.symm e)] at hL
      exact h.own m x L hx hxo hL
theorem Inv.mapPut (h : Inv G hp ν H w) {n : Nat} {es es' : List (ByteArray × Bool)} (h0 : aget H n = some (.mp es)) {L : Loc} (hL : ν n = some L) {ents0 ents : Array MapEntry} {c0 clock : Nat} (hb : w.heap[L.blk]? = some (.map ents0 c0))
    (h1 : ents.toList.map (fun e => (e.key, e.val)) = es'.map (fun p => (Value.string p.1, Value.bool p.2))) (h2 : ents.size ≤ clock) (h3 : ∀ e ∈ ents.toList, e.born < clock) :
    Inv G hp ν (aset H n (.mp es')) { w with heap := w.heap.setIfInBounds L.blk (.map ents clock) } := by
  have hlt : L.blk < w.heap.size := (Array.getElem?_eq_some_iff.1 hb).1
  have oth : ∀ b, b ≠ L.blk → (w.heap.setIfInBounds L.blk (.map ents clock))[b]? = w.heap[b]? := fun b hne => Array.getElem?_setIfInBounds_ne (Ne.symm hne)
  have far : ∀ m x, aget H m = some x → m ≠ n → x.live = true → ∀ M, ν m = some M → M.blk ≠ L.blk := fun m x hx hmn hl M hM => (h.inj n m _ x h0 rfl hx hl (Ne.symm hmn) L M hL hM).symm
  refine ⟨?_, ?_, ?_, ?_, fun m hm => ⟨(h.nb m hm).1, aset_ne (h.nb m hm).2⟩, ?_, h.fx⟩
  · intro m x hx
    rw [aget_aset] at hx
    split at hx
    · rename_i e; cases hx; subst e
      exact ⟨L, hL, ents, clock, by simp [hlt], h1, h2, h3⟩
    · rename_i e
      have hm := h.er m x hx
      by_cases hd : x.live = true
      · exact hm.move (.refl ν) rfl (fun M hM => oth _ (far m x hx (Ne.symm e) hd M hM))
      · cases x <;> first | trivial | (simp [Ent.live] at hd)
  · intro a b x y hx hxo hy hyl hab M M' hM hM'
    rw [aget_aset] at hx hy
    have hx' : ∃ x', aget H a = some x' ∧ x'.isOwn = true := by
      split at hx
      · rename_i e; subst e; exact ⟨_, h0, rfl⟩
      · exact ⟨x, hx, hxo⟩
    have hy' : ∃ y', aget H b = some y' ∧ y'.live = true := by
      split at hy
      · rename_i e; subst e; exact ⟨_, h0, rfl⟩
      · exact ⟨y, hy, hyl⟩
    obtain ⟨x', hx1, hx2⟩ := hx'
    obtain ⟨y', hy1, hy2⟩ := hy'
    exact h.inj a b x' y' hx1 hx2 hy1 hy2 hab M M' hM hM'
  · intro m hm
    rw [aget_aset] at hm
    split at hm
    · cases hm
    · exact h.dom m hm
  · intro b hb
    obtain ⟨h1, h2⟩ := h.gfr b hb
    have hne : b ≠ L.blk := fun e => h.own n _ L h0 rfl hL (e ▸ hb)
    refine ⟨by rw [oth _ hne]; exact h1, ?_⟩
    simpa using h2
  · intro m x M hx hxo hM
    rw [aget_aset] at hx
    split at hx
    · rename_i e; subst e; exact h.own n _ M h0 rfl hM
    · exact h.own m x M hx hxo hM
theorem findNow_mp (s : ByteArray) : ∀ (l : List MapEntry) (es : List (ByteArray × Bool)) (i : Nat), l.map (fun e => (e.key, e.val)) = es.map (fun p => (Value.string p.1, Value.bool p.2)) →
    Instr.findNow .string (.string s) l i = some ((es.findIdx? fun p => s == p.1).map fun j => (i + j, Value.bool (es.getD j (s, false)).2))
  | [], es, i, h => by
    cases es with
    | nil => rfl
    | cons p es => simp at h
  | e :: l, es, i, h => by
    cases es with
    | nil => simp at h
    | cons p es =>
      simp only [List.map_cons, List.cons.injEq, Prod.mk.injEq] at h
      obtain ⟨⟨h1, h2⟩, h3⟩ := h
      have ih := findNow_mp s l es (i + 1) h3
      rw [Instr.findNow, h1, List.findIdx?_cons]
      simp only [Instr.sameNow]
      cases hq : (s == p.1)
      · simp only [ih, Bool.false_eq_true, if_false]
        cases es.findIdx? fun p => s == p.1 with
        | none => rfl
        | some j => simp only [Option.map_some, List.getD_cons_succ]; congr 3; omega
      · simp [h2]
theorem smapTy_facts {t : TypeId} (h : smapTy P t = true) : ∃ k e i, P.underlying t = some (.map k e) ∧ P.underlying k = some .string ∧ P.info? e = some i ∧ i.zero = some (.bool false) := by
  unfold smapTy at h
  split at h
  · rename_i k e hu
    rw [Bool.and_eq_true] at h
    obtain ⟨h1, h2⟩ := h
    split at h1
    · rename_i hk
      split at h2
      · rename_i i hi
        split at h2
        · rename_i hz; exact ⟨k, e, i, hu, hk, hi, hz⟩
        · cases h2
      · cases h2
    · cases h1
  · cases h
theorem run_lookup_mp {t : TypeId} (ht : smapTy P t = true) {n : Nat} {es : List (ByteArray × Bool)} (hi : Inv G hp ν H w) (h0 : aget H n = some (.mp es)) {c : Value} (hc : VR ν (.mapv n) c) (s : ByteArray) :
    (Instr.lookup t c (.string s) false).run P w = .ok (.bool (mpGet es s)) w := by
  obtain ⟨k, e, i, hu, hk, hie, hz⟩ := smapTy_facts ht
  obtain ⟨L, hL, rfl⟩ : ∃ L, ν n = some L ∧ c = .map (some L.blk) := hc
  obtain ⟨L', hL', ents, clock, hb, hm, _⟩ := hi.er n _ h0
  rw [hL] at hL'; cases hL'
  have hf := MapKept.run_findKey (P := P) (w := w) hk (findNow_mp s ents.toList es 0 hm)
  have hck := MapKept.run_checkKey (P := P) (w := w) (k := .string s) hk trivial ents.isEmpty 9999
  unfold mpGet mpIdx
  simp only [Instr.lookup, Sem.run_bind, run_underlying hu, Result.andThen_ok, MapKept.run_getObj_map hb, hck, hf, Sem.run_pure]
  cases es.findIdx? fun p => s == p.1 with
  | none => simp [zeroValue, typeInfo, hie, hz]
  | some j => simp
theorem run_update_mp {t : TypeId} (ht : smapTy P t = true) {n : Nat} {es : List (ByteArray × Bool)} (hi : Inv G hp ν H w) (h0 : aget H n = some (.mp es)) {c : Value} (hc : VR ν (.mapv n) c) (s : ByteArray) (b : Bool) :
    ∃ w', (Instr.mapUpdate t c (.string s) (.bool b)).run P w = .ok () w' ∧ Inv G hp ν (aset H n (.mp (mpPut es s b))) w' := by
  obtain ⟨k, e, i, hu, hk, hie, hz⟩ := smapTy_facts ht
  obtain ⟨L, hL, rfl⟩ : ∃ L, ν n = some L ∧ c = .map (some L.blk) := hc
  obtain ⟨L', hL', ents, clock, hb, hm, hsz, hbn⟩ := hi.er n _ h0
  rw [hL] at hL'; cases hL'
  have hf := MapKept.run_findKey (P := P) (w := w) hk (findNow_mp s ents.toList es 0 hm)
  have hck := MapKept.run_checkKey (P := P) (w := w) (k := .string s) hk trivial false 9999
  have hlen : ents.size = es.length := by have := congrArg List.length hm; simpa using this
  unfold mpPut mpIdx
  cases hj : es.findIdx? fun p => s == p.1 with
  | none =>
    rw [hj] at hf
    refine ⟨_, ?_, hi.mapPut h0 hL hb (ents := ents.push ⟨.string s, .bool b, clock⟩) (clock := clock + 1) ?_ ?_ ?_⟩
    · simp [Instr.mapUpdate, run_underlying hu, MapKept.run_getObj_map hb, hck, hf, MapKept.run_setObj_map _ hb, Result.andThen]
    · simp [hm]
    · simp; omega
    · intro x hx
      simp at hx
      rcases hx with hx | rfl
      · have := hbn x (by simpa using hx); omega
      · show clock < clock + 1; omega
  | some j =>
    rw [hj] at hf
    have hjl : j < es.length ∧ (s == (es.getD j (s, false)).1) = true := by
      rw [List.findIdx?_eq_some_iff_getElem] at hj
      obtain ⟨q, hq, _⟩ := hj
      exact ⟨q, by simpa [List.getD_eq_getElem?_getD, q] using hq⟩
    have hkey : (ents[j]?).map (·.key) = some (.string (es.getD j (s, false)).1) := by
      have := congrArg (fun l => l[j]?) hm
      have hje : j < ents.size := by omega
      simp [hjl.1, hje] at this
      simp [hje, List.getD_eq_getElem?_getD, hjl.1, this.1]
    have hstay : (Instr.keyThatStays (.string (es.getD j (s, false)).1) (.string s)).run P w = .ok (.string s) w := by
      have : ((es.getD j (s, false)).1 == s) = true := by
        have h2 := hjl.2
        rw [MapKept.bytes_beq] at h2 ⊢
        exact h2.symm
      simp only [Instr.keyThatStays, Instr.sameBits, this, if_true, Sem.run_pure]
    refine ⟨_, ?_, hi.mapPut h0 hL hb (ents := ents.modify j fun e => { e with key := .string s, val := .bool b }) (clock := clock) ?_ ?_ ?_⟩
    · simp only [Instr.mapUpdate, Sem.run_bind, run_underlying hu, Result.andThen_ok, MapKept.run_getObj_map hb, hck, hf, Option.map_some, Nat.zero_add, hkey, Option.getD_some, hstay, MapKept.run_setObj_map _ hb]
    · have hje : j < ents.size := by omega
      apply List.ext_getElem?
      intro q
      have := congrArg (fun l => l[q]?) hm
      by_cases hq : q = j
      · subst hq
        simp [Array.getElem?_modify, hje, hjl.1]
      · simp only [List.getElem?_map, Array.getElem?_toList, Array.getElem?_modify, if_neg (Ne.symm hq), List.getElem?_set_ne (Ne.symm hq)] at this ⊢
        exact this
    · simpa using hsz
    · intro x hx
      obtain ⟨q, hq, rfl⟩ := List.getElem_of_mem hx
      simp only [Array.length_toList, Array.size_modify] at hq
      have := hbn (ents[q]) (by simp)
      simp only [Array.getElem_toList, Array.getElem_modify]
      split <;> exact this

end
end Go.Proofs.YtbobhbhgomkgpaaGreatDoor.S
