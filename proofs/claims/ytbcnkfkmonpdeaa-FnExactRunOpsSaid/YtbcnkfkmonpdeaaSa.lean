/- A symbolic heap over the model: abstract values, named memory with contents told as lists, and the relation to a world. Own work of this claim; holds over any program. -/
import Derived.Calls
import Derived.Laws.AppendOwn
import Derived.KernelRfl
namespace Go.Proofs.Ytbcnkfkmonpdeaa.S
set_option linter.all false
open Go

/-! Association lists -/
def aget {β : Type} : List (Nat × β) → Nat → Option β
  | [], _ => none
  | (k, e) :: r, n => if k = n then some e else aget r n
def aset {β : Type} : List (Nat × β) → Nat → β → List (Nat × β)
  | [], n, e => [(n, e)]
  | (k, x) :: r, n, e => if k = n then (k, e) :: r else (k, x) :: aset r n e
theorem aget_aset {β : Type} (l : List (Nat × β)) (n m : Nat) (e : β) : aget (aset l n e) m = if n = m then some e else aget l m := by
  induction l with
  | nil => simp [aset, aget]
  | cons p r ih =>
    obtain ⟨k, x⟩ := p
    unfold aset
    by_cases h : k = n
    · subst h; by_cases h2 : k = m
      · subst h2; simp [aget]
      · simp [aget, h2]
    · by_cases h2 : n = m
      · subst h2; simp [aget, h, ih]
      · simp [aget, h, ih, h2]

/-! Two lists in step -/
inductive F2 {α β : Type} (R : α → β → Prop) : List α → List β → Prop
  | nil : F2 R [] []
  | cons {a : α} {b : β} {l : List α} {m : List β} (h : R a b) (t : F2 R l m) : F2 R (a :: l) (b :: m)

/-! Abstract values -/
inductive AV where
  | int (k : IntKind) (n : Int)
  | bool (b : Bool)
  | str (s : ByteArray)
  | ptr (n off : Nat)
  | sl (n off len : Nat)
  | emp
  | mapv (n : Nat)
  | fn (f : Nat) (caps : List (Nat × Nat))
  | any
  | agg (cs : List AV)
  | tup (vs : List AV)
  deriving Inhabited

structure Loc where
  blk : Nat
  off : Nat
  lim : Nat
  esz : Nat

abbrev Nm := Nat → Option Loc

def PR (ν : Nm) (p : Nat × Nat) (v : Value) : Prop := ∃ L, ν p.1 = some L ∧ v = .pointer (some ⟨L.blk, L.off + p.2, none⟩)

/-- A cell's value. -/
def CR (ν : Nm) : AV → Value → Prop
  | .int k n, v => v = .int k n
  | .bool b, v => v = .bool b
  | .str s, v => v = .string s
  | .ptr n o, v => PR ν (n, o) v
  | .sl n o len, v => (∃ L c, ν n = some L ∧ len ≤ c ∧ o + c * L.esz ≤ L.lim ∧ v = .slice (some ⟨L.blk, L.off + o, none⟩) len c) ∨ (len = 0 ∧ ∃ a, v = .slice a 0 0)
  | .emp, v => ∃ a, v = .slice a 0 0
  | .mapv n, v => ∃ L, ν n = some L ∧ v = .map (some L.blk)
  | .fn f caps, v => ∃ arr : Array Value, v = .func (.func f) #[] arr ∧ F2 (PR ν) caps arr.toList
  | .any, v => v.oneCell' = true
  | .agg _, _ => False
  | .tup _, _ => False
/-- A value, or an aggregate of cells. -/
def VA (ν : Nm) : AV → Value → Prop
  | .agg cs, v => ∃ arr : Array Value, v = .agg arr ∧ F2 (CR ν) cs arr.toList
  | a, v => CR ν a v
/-- A slot's value. -/
def VR (ν : Nm) : AV → Value → Prop
  | .tup vs, v => ∃ arr : Array Value, v = .tuple arr ∧ F2 (VA ν) vs arr.toList
  | .any, _ => True
  | a, v => VA ν a v

/-! Contents of memory -/
inductive LV where
  | av (z : Nat) (l : List AV)
  | ints (l : List Int)
  | bools (l : List Bool)
  | bys (l : List UInt8)
  | strs (l : List ByteArray)
  | ops (l : List (Int × Int × Int))

def i64 (n : Int) : AV := .int .i64 n
def opL (o : Int × Int × Int) : List AV := [.int .i64 o.1, .int .i64 o.2.1, .int .i64 o.2.2]
def LV.toL : LV → List AV
  | .av _ l => l
  | .ints l => l.map (AV.int .i64)
  | .bools l => l.map AV.bool
  | .bys l => l.map fun b => AV.int .u8 b.toNat
  | .strs l => l.map AV.str
  | .ops l => l.flatMap opL
/-- The cells of one element. -/
def LV.z : LV → Nat
  | .av z _ => z
  | .ops _ => 3
  | _ => 1
def LV.len : LV → Nat
  | .av _ l => l.length
  | .ints l => l.length
  | .bools l => l.length
  | .bys l => l.length
  | .strs l => l.length
  | .ops l => 3 * l.length
/-- One cell. -/
def LV.lk : LV → Nat → AV
  | .av _ l, k => l.getD k .any
  | .ints l, k => .int .i64 (l.getD k 0)
  | .bools l, k => .bool (l.getD k false)
  | .bys l, k => .int .u8 (l.getD k 0).toNat
  | .strs l, k => .str (l.getD k ⟨#[]⟩)
  | .ops l, k => (opL (l.getD (k / 3) (0, 0, 0))).getD (k % 3) .any
/-- An aggregate of n cells. -/
def LV.ex : LV → Nat → Nat → AV
  | .ops l, k, n => if k % 3 = 0 ∧ n = 3 then .agg (opL (l.getD (k / 3) (0, 0, 0))) else .agg (((LV.ops l).toL.drop k).take n)
  | lv, k, n => .agg ((lv.toL.drop k).take n)
/-- A cell is written. -/
def LV.st : LV → Nat → AV → LV
  | .av z l, k, c => .av z (l.set k c)
  | .ints l, k, .int .i64 n => .ints (l.set k n)
  | .bools l, k, .bool b => .bools (l.set k b)
  | .strs l, k, .str s => .strs (l.set k s)
  | lv, k, c => .av lv.z (lv.toL.set k c)
def LV.view : LV → Nat → Nat → LV
  | .av z l, o, n => .av z ((l.drop o).take n)
  | .ints l, o, n => .ints ((l.drop o).take n)
  | .bools l, o, n => .bools ((l.drop o).take n)
  | .bys l, o, n => .bys ((l.drop o).take n)
  | .strs l, o, n => .strs ((l.drop o).take n)
  | .ops l, o, n => if o % 3 = 0 ∧ n % 3 = 0 then .ops ((l.drop (o / 3)).take (n / 3)) else .av 3 ((((LV.ops l).toL).drop o).take n)
def LV.app : LV → LV → LV
  | .ints l, .ints m => .ints (l ++ m)
  | .bools l, .bools m => .bools (l ++ m)
  | .bys l, .bys m => .bys (l ++ m)
  | .strs l, .strs m => .strs (l ++ m)
  | .ops l, .ops m => .ops (l ++ m)
  | a, b => .av a.z (a.toL ++ b.toL)
def asInt? : AV → Option Int
  | .int .i64 n => some n
  | _ => none
def asBool? : AV → Option Bool
  | .bool b => some b
  | _ => none
def asStr? : AV → Option ByteArray
  | .str b => some b
  | _ => none
def opsOf : List AV → List (Int × Int × Int)
  | .int .i64 a :: .int .i64 b :: .int .i64 c :: r => (a, b, c) :: opsOf r
  | _ => []

inductive Ent where
  | c (own : Bool) (lv : LV)
  | mp (es : List (ByteArray × Bool))
  | dead
abbrev Heap := List (Nat × Ent)
abbrev Env := List (Nat × AV)
def Env.get (e : Env) (t : Nat) : AV := (aget e t).getD .any

def Ent.isOwn : Ent → Bool
  | .c b _ => b
  | .mp _ => true
  | .dead => false
def Ent.live : Ent → Bool
  | .dead => false
  | _ => true

def cellsAt (w : World) (b off lim : Nat) (own : Bool) (P : Nat → Value → Prop) (n : Nat) : Prop :=
  ∃ arr T fr, w.heap[b]? = some (.cells arr T fr) ∧ off + lim ≤ arr.size ∧ n ≤ lim ∧ (∀ k, k < n → ∃ v, arr[off + k]? = some v ∧ P k v) ∧ (own = true → fr = (0, 0))

def ER (ν : Nm) (w : World) (n : Nat) : Ent → Prop
  | .c own lv => match ν n with
    | none => lv.toL = []
    | some L => L.esz = lv.z ∧ cellsAt w L.blk L.off L.lim own (fun k v => ∃ c, lv.toL[k]? = some c ∧ CR ν c v) lv.toL.length
  | .mp es => ∃ L, ν n = some L ∧ ∃ (ents : Array MapEntry) (clock : Nat), w.heap[L.blk]? = some (.map ents clock) ∧ ents.toList.map (fun e => (e.key, e.val)) = es.map (fun p => (Value.string p.1, Value.bool p.2)) ∧ ents.size ≤ clock ∧ (∀ e ∈ ents.toList, e.born < clock)
  | .dead => True

/-- Memory as it was at a call's begin, and the names of its arguments. -/
structure HP where
  wb : World
  B : Nat → Prop
  νb : Nm
def HP.a (hp : HP) : Array Obj := hp.wb.heap
/-- What is no memory is as it was. -/
def SameOut (w w' : World) : Prop := w'.os = w.os ∧ w'.tape = w.tape ∧ w'.output = w.output
structure Inv (G : Nat → Prop) (hp : HP) (ν : Nm) (H : Heap) (w : World) : Prop where
  er : ∀ n e, aget H n = some e → ER ν w n e
  inj : ∀ n m e e', aget H n = some e → e.isOwn = true → aget H m = some e' → e'.live = true → n ≠ m → ∀ L L', ν n = some L → ν m = some L' → L.blk ≠ L'.blk
  dom : ∀ n, aget H n = none → ν n = none
  gfr : ∀ b, G b → w.heap[b]? = hp.a[b]? ∧ b < w.heap.size
  nb : ∀ n, hp.B n → ν n = hp.νb n ∧ aget H n ≠ none
  own : ∀ n e L, aget H n = some e → e.isOwn = true → ν n = some L → ¬ G L.blk
  fx : SameOut hp.wb w

def EnvRel (ν : Nm) (env : Env) (tmps : Array Value) : Prop := ∀ t, VR ν (env.get t) (tmps.getD t undef)

structure St (G : Nat → Prop) (hp : HP) (nt : Nat) (ν : Nm) (env : Env) (H : Heap) (a : Act) (w : World) : Prop where
  defers : a.defers = []
  size : a.tmps.size = nt
  env : EnvRel ν env a.tmps
  inv : Inv G hp ν H w

end Go.Proofs.Ytbcnkfkmonpdeaa.S
