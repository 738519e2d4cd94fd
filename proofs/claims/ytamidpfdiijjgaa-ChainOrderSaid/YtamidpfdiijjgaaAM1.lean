/-
  The abstract machine: a deterministic evaluator of the model's code over values without addresses of the model's own.
  An abstract address names a block of an abstract heap, a place in it, and how many cells the block had when the address was made
  ('gen'): an address is good as long as the block has as many. 'append' behind a block's end lets the block grow where it lies.
-/
import Derived.Orders
import Derived.KernelRfl
namespace Go.AM
open Go

structure AA where
  b : Nat
  off : Nat
  gen : Nat

inductive AV where
  | bool (b : Bool)
  | int (k : IntKind) (n : Int)
  | str (s : List UInt8)
  | ptr (a : Option AA)
  | sl (a : Option AA) (len cap : Nat)
  | map (r : Option Nat)
  | fn (f : Fn) (caps : List AV)
  | nilf
  | ifc (t : TypeId) (v : AV)
  | nili
  | agg (cs : List AV)
  | tup (vs : List AV)

inductive AObj where
  | cells (cs : List AV) (e : TypeId) (grow : Bool)
  | ro (cs : List AV)
  | map (t : TypeId) (es : List (AV × AV × Nat)) (clock : Nat)
  | iter (s : List UInt8) (pos : Nat)

abbrev Heap := List AObj
abbrev Env := List (Nat × AV)

def Env.get : Env → Nat → Option AV
  | [], _ => none
  | (k, v) :: r, t => if k = t then some v else Env.get r t

def Env.put (ρ : Env) (d : Option Nat) (v : AV) : Env :=
  match d with
  | some d => (d, v) :: ρ
  | none => ρ

/-! ### types, as the program's own table has them -/

def tsz (P : Program) (t : TypeId) : Nat := P.cellsOf t

inductive TK where
  | bool
  | int (k : IntKind)
  | str
  | slice (e : TypeId)
  | arr (n : Nat) (e : TypeId)
  | map (k e : TypeId)
  | ptr (e : TypeId)
  | struct
  | iface
  | func
  | other
  deriving DecidableEq

def tk (P : Program) (t : TypeId) : TK :=
  match P.underlying t with
  | some .bool => .bool
  | some (.int k) => .int k
  | some .string => .str
  | some (.slice e) => .slice e
  | some (.array n e) => .arr n e
  | some (.map k e) => .map k e
  | some (.pointer e) => .ptr e
  | some (.struct _) => .struct
  | some (.interface _) => .iface
  | some (.func _ _ _) => .func
  | _ => .other

/-- Does a variable of this type take many cells (struct, array)? -/
def agk : TK → Option Bool
  | .struct => some true
  | .arr _ _ => some true
  | .other => none
  | _ => some false

/-- A struct's fields: their offsets and sizes. -/
def tplaces (P : Program) (t : TypeId) : Option (List (Nat × Nat)) :=
  match P.underlying t with
  | some (.struct fs) => fs.toList.mapM fun f => (P.info? f.type).map fun i => (f.offset, i.size)
  | _ => none

/-- A struct's field: its offset and its type. -/
def tfield (P : Program) (t : TypeId) (f : Nat) : Option (Nat × TypeId) :=
  match P.underlying t with
  | some (.struct fs) => (fs[f]?).map fun x => (x.offset, x.type)
  | _ => none

/-- A constant's cell. -/
def absC : Value → Option AV
  | .bool b => some (.bool b)
  | .int k n => some (.int k n)
  | .string s => some (.str s.data.toList)
  | .pointer none => some (.ptr none)
  | .slice none 0 0 => some (.sl none 0 0)
  | .map none => some (.map none)
  | .nilFunc => some .nilf
  | .nilIface => some .nili
  | .func f first caps => if first.size = 0 ∧ caps.size = 0 then some (.fn f []) else none
  | _ => none

def absL : List Value → Option (List AV)
  | [] => some []
  | v :: vs => match absC v, absL vs with
    | some x, some xs => some (x :: xs)
    | _, _ => none

def absV : Value → Option AV
  | .agg cs => (absL cs.toList).map .agg
  | v => absC v

def tzero (P : Program) (t : TypeId) : Option AV := ((P.info? t).bind (·.zero)).bind absV

def AV.cells : AV → List AV
  | .agg cs => cs
  | v => [v]

/-- Is it the value of one cell? -/
def AV.one : AV → Bool
  | .agg _ | .tup _ => false
  | _ => true

/-- Is it no list of results? -/
def AV.notTup : AV → Bool
  | .tup _ => false
  | _ => true

/-- A cell's value with no other one inside it. -/
def AV.plain : AV → Bool
  | .fn _ _ | .ifc _ _ | .agg _ | .tup _ => false
  | _ => true

/-! ### equality -/

def ikey : AV → AV → Option Bool
  | .int k a, .int k' b => if k = k' then some (decide (a = b)) else none
  | .str a, .str b => some (decide (a = b))
  | .bool a, .bool b => some (decide (a = b))
  | _, _ => none

def ikeys : List AV → List AV → Option Bool
  | [], [] => some true
  | x :: xs, y :: ys => match ikey x y, ikeys xs ys with
    | some a, some b => some (a && b)
    | _, _ => none
  | _, _ => none

/-- 'a == b' of two keys (or structs) of whole numbers, strings, bools. -/
def keq : AV → AV → Option Bool
  | .agg xs, .agg ys => ikeys xs ys
  | x, y => ikey x y

def AA.beq (x y : AA) : Bool := x.b == y.b && x.off == y.off && x.gen == y.gen
def oAA : Option AA → Option AA → Bool
  | some x, some y => x.beq y
  | none, none => true
  | _, _ => false

/-- The same cell, to the sign (for what is not laid open: no). -/
def AV.beqP : AV → AV → Bool
  | .bool a, .bool b => a == b
  | .int k a, .int k' b => decide (k = k') && a == b
  | .str a, .str b => decide (a = b)
  | .ptr a, .ptr b => oAA a b
  | .sl a n c, .sl b m d => oAA a b && n == m && c == d
  | .map a, .map b => decide (a = b)
  | .nilf, .nilf => true
  | .nili, .nili => true
  | _, _ => false

def beqL (f : AV → AV → Bool) : List AV → List AV → Bool
  | [], [] => true
  | x :: xs, y :: ys => f x y && beqL f xs ys
  | _, _ => false

def AV.beq : AV → AV → Bool
  | .agg a, .agg b => beqL AV.beqP a b
  | .ifc t a, .ifc u b => t == u && a.beqP b
  | .fn f a, .fn g b => decide (f = g) && beqL AV.beqP a b
  | a, b => a.beqP b

def beqE : List (AV × AV × Nat) → List (AV × AV × Nat) → Bool
  | [], [] => true
  | (a, b, n) :: xs, (c, d, m) :: ys => a.beq c && b.beq d && n == m && beqE xs ys
  | _, _ => false

def AObj.beq : AObj → AObj → Bool
  | .cells a e g, .cells b e' g' => beqL AV.beq a b && e == e' && g == g'
  | .ro a, .ro b => beqL AV.beq a b
  | .map t es c, .map t' es' c' => t == t' && beqE es es' && c == c'
  | .iter s p, .iter s' p' => decide (s = s') && p == p'
  | _, _ => false

/-- Does a block hold in one heap what it holds in another? -/
def sameAt (h h' : Heap) (b : Nat) : Bool :=
  match h[b]?, h'[b]? with
  | some x, some y => x.beq y
  | _, _ => false

/-! ### the operations -/

inductive Delta where
  | no
  | new (o : AObj)
  | set (b : Nat) (o : AObj)

def Heap.apply (h : Heap) : Delta → Heap
  | .no => h
  | .new o => h ++ [o]
  | .set b o => h.set b o

abbrev Look := Nat → Option AObj

/-- The cells behind a good address. -/
def row (L : Look) (a : AA) : Option (List AV) :=
  match L a.b with
  | some (.cells cs _ _) => if cs.length = a.gen then some cs else none
  | some (.ro cs) => if cs.length = a.gen then some cs else none
  | _ => none

def aload (P : Program) (L : Look) (t : TypeId) : AV → Option AV
  | .ptr (some a) =>
    match row L a with
    | some cs =>
      match agk (tk P t) with
      | some true => if a.off + tsz P t ≤ cs.length then some (.agg ((cs.drop a.off).take (tsz P t))) else none
      | some false => cs[a.off]?
      | none => none
    | none => none
  | _ => none

/-- 'vs' in the place of as many cells from 'o' on. -/
def splice (cs : List AV) (o : Nat) (vs : List AV) : List AV := cs.take o ++ vs ++ cs.drop (o + vs.length)

def astore (P : Program) (L : Look) (t : TypeId) (p v : AV) : Option Delta :=
  match p with
  | .ptr (some a) =>
    match L a.b with
    | some (.cells cs e g) =>
      if cs.length = a.gen ∧ 0 < tsz P t ∧ v.cells.length = tsz P t ∧ v.cells.all AV.one = true ∧ a.off + v.cells.length ≤ cs.length then
        some (.set a.b (.cells (if v.one then cs.set a.off v else splice cs a.off v.cells) e g))
      else none
    | _ => none
  | _ => none

/-- '==' of what is no number, no string. -/
def aeq (k : TK) (x y : AV) : Option Bool :=
  match k, x, y with
  | .bool, .bool a, .bool b => some (decide (a = b))
  | .ptr _, .ptr none, .ptr b => some b.isNone
  | .ptr _, .ptr (some _), .ptr none => some false
  | .slice _, .sl none _ _, .sl b _ _ => some b.isNone
  | .slice _, .sl (some _) _ _, .sl none _ _ => some false
  | .map _ _, .map none, .map b => some b.isNone
  | .map _ _, .map (some _), .map none => some false
  | .func, .nilf, .nilf => some true
  | .func, .nilf, .fn _ _ => some false
  | .func, .fn _ _, .nilf => some false
  | _, _, _ => none

def abin (t : TK) (op : BinOp) (x y : AV) : Option AV :=
  match op, x, y with
  | .shl, .int k a, .int _ n => if 0 ≤ n then some (.int k (k.wrap (a * 2 ^ (min n.toNat k.bits)))) else none
  | .shr, .int k a, .int _ n => if 0 ≤ n then some (.int k (a.fdiv (2 ^ (min n.toNat k.bits)))) else none
  | .add, .int k a, .int k' b => if k = k' then some (.int k (k.wrap (a + b))) else none
  | .sub, .int k a, .int k' b => if k = k' then some (.int k (k.wrap (a - b))) else none
  | .mul, .int k a, .int k' b => if k = k' then some (.int k (k.wrap (a * b))) else none
  | .quo, .int k a, .int k' b => if k = k' ∧ b ≠ 0 then some (.int k (k.wrap (a.tdiv b))) else none
  | .rem, .int k a, .int k' b => if k = k' ∧ b ≠ 0 then some (.int k (a.tmod b)) else none
  | .and, .int k a, .int k' b => if k = k' then some (.int k (k.wrap (BitVec.ofInt k.bits a &&& BitVec.ofInt k.bits b).toNat)) else none
  | .or, .int k a, .int k' b => if k = k' then some (.int k (k.wrap (BitVec.ofInt k.bits a ||| BitVec.ofInt k.bits b).toNat)) else none
  | .xor, .int k a, .int k' b => if k = k' then some (.int k (k.wrap (BitVec.ofInt k.bits a ^^^ BitVec.ofInt k.bits b).toNat)) else none
  | .andNot, .int k a, .int k' b => if k = k' then some (.int k (k.wrap (BitVec.ofInt k.bits a &&& ~~~ BitVec.ofInt k.bits b).toNat)) else none
  | .eql, .int k a, .int k' b => if k = k' then some (.bool (decide (a = b))) else none
  | .neq, .int k a, .int k' b => if k = k' then some (.bool (!decide (a = b))) else none
  | .lss, .int k a, .int k' b => if k = k' then some (.bool (decide (a < b))) else none
  | .leq, .int k a, .int k' b => if k = k' then some (.bool (decide (a ≤ b))) else none
  | .gtr, .int k a, .int k' b => if k = k' then some (.bool (decide (b < a))) else none
  | .geq, .int k a, .int k' b => if k = k' then some (.bool (decide (b ≤ a))) else none
  | .add, .str a, .str b => if a.length + b.length ≤ 9223372036854775807 then some (.str (a ++ b)) else none
  | .eql, .str a, .str b => some (.bool (decide (a = b)))
  | .neq, .str a, .str b => some (.bool (!decide (a = b)))
  | .eql, x, y => (aeq t x y).map .bool
  | .neq, x, y => (aeq t x y).map fun b => .bool (!b)
  | _, _, _ => none

def aun (op : UnOp) (x : AV) : Option AV :=
  match op, x with
  | .neg, .int k n => some (.int k (k.wrap (0 - n)))
  | .xor, .int k n => some (.int k (k.wrap (BitVec.ofInt k.bits (if k.signed then -1 else k.max) ^^^ BitVec.ofInt k.bits n).toNat))
  | .not, .bool b => some (.bool (!b))
  | _, _ => none

/-- The cells of a []byte. -/
def byteCells (s : List UInt8) : List AV := s.map fun c => .int .u8 (c.toNat : Int)

def cellBytes : List AV → Option (List UInt8)
  | [] => some []
  | .int .u8 n :: r => (cellBytes r).map fun s => UInt8.ofNat n.toNat :: s
  | _ :: _ => none

/-- The cells of a slice's elements. -/
def slCells (P : Program) (L : Look) (e : TypeId) : AV → Option (List AV)
  | .sl none _ _ => some []
  | .sl (some a) n _ =>
    match row L a with
    | some cs => if a.off + n * tsz P e ≤ cs.length then some ((cs.drop a.off).take (n * tsz P e)) else none
    | none => none
  | _ => none

def aconv (P : Program) (L : Look) (next : Nat) (src dst : TypeId) (x : AV) : Option (AV × Delta) :=
  match tk P src, tk P dst, x with
  | .int _, .int k, .int _ n => some (.int k (k.wrap n), .no)
  | .int _, .str, .int _ n => some (.str (Utf8.encode n).data.toList, .no)
  | .str, .str, .str s => some (.str s, .no)
  | .str, .slice e, .str s =>
    if tk P e = .int .u8 ∧ tsz P e = 1 then some (.sl (some ⟨next, 0, s.length⟩) s.length s.length, .new (.cells (byteCells s) e true)) else none
  | .slice e, .slice _, .sl (some a) n c =>
    match L a.b with
    | some (.cells cs e' g) => if src = dst ∧ tk P e = .int .u8 ∧ 0 < n ∧ cs.length = a.gen then some (.sl (some a) n c, .set a.b (.cells cs e' g)) else none
    | _ => none
  | .slice e, .str, .sl none _ _ => if tk P e = .int .u8 then some (.str [], .no) else none
  | .slice e, .str, .sl (some a) n c =>
    if tk P e = .int .u8 ∧ tsz P e = 1 then
      match slCells P L e (.sl (some a) n c) with
      | some cs => (cellBytes cs).map fun s => (.str s, .no)
      | none => none
    else none
  | _, _, _ => none

/-- The bounds of 'x[lo:hi]': none: out of range. -/
def bound (x : Option AV) (d : Nat) (lim : Nat) : Option Nat :=
  match x with
  | none => some d
  | some (.int _ i) => if 0 ≤ i ∧ i ≤ lim then some i.toNat else none
  | some _ => none

def aslice (P : Program) (t : TypeId) (x : AV) (lo hi mx : Option AV) : Option AV :=
  match mx with
  | some _ => none
  | none =>
    match tk P t, x with
    | .str, .str s =>
      match bound hi s.length s.length with
      | some h => match bound lo 0 h with
        | some l => some (.str ((s.drop l).take (h - l)))
        | none => none
      | none => none
    | .slice e, .sl a n c =>
      match bound hi n c with
      | some h => match bound lo 0 h with
        | some l => if 0 < tsz P e then some (.sl (a.map fun a => { a with off := a.off + l * tsz P e }) (h - l) (c - l)) else none
        | none => none
      | none => none
    | _, _ => none

def aindexAddr (P : Program) (t : TypeId) (x i : AV) : Option AV :=
  match tk P t, x, i with
  | .slice e, .sl (some a) n _, .int _ i =>
    if 0 ≤ i ∧ i < n ∧ 0 < tsz P e then some (.ptr (some { a with off := a.off + i.toNat * tsz P e })) else none
  | .arr n e, .ptr (some a), .int _ i =>
    if 0 ≤ i ∧ i < n ∧ 0 < tsz P e then some (.ptr (some { a with off := a.off + i.toNat * tsz P e })) else none
  | _, _, _ => none

def apart (P : Program) (t : TypeId) (cs : List AV) (off : Nat) : Option AV :=
  match agk (tk P t) with
  | some true => if off + tsz P t ≤ cs.length then some (.agg ((cs.drop off).take (tsz P t))) else none
  | some false => cs[off]?
  | none => none

def aindex (P : Program) (t : TypeId) (x i : AV) : Option AV :=
  match tk P t, x, i with
  | .str, .str s, .int _ i => if 0 ≤ i then (s[i.toNat]?).map fun c => .int .u8 (c.toNat : Int) else none
  | .arr n e, .agg cs, .int _ i => if 0 ≤ i ∧ i < n ∧ 0 < tsz P e then apart P e cs (i.toNat * tsz P e) else none
  | _, _, _ => none

/-- The parts of a literal laid over its zero. -/
def afill (place : Nat → Option (Nat × Nat)) (cells : List AV) : List (Nat × AV) → Option (List AV)
  | [] => some cells
  | (i, v) :: rest =>
    match place i with
    | none => none
    | some (off, size) =>
      if v.cells.length ≠ size ∨ cells.length < off + v.cells.length ∨ v.cells.all AV.one = false then none
      else afill place (if v.one then cells.set off v else splice cells off v.cells) rest

def abuild (P : Program) (t : TypeId) (parts : List (Nat × AV)) : Option AV :=
  match tzero P t, tk P t with
  | some z, .struct => match tplaces P t with
    | some pl => (afill (fun i => pl[i]?) z.cells parts).map .agg
    | none => none
  | some z, .arr _ e => if 0 < tsz P e then (afill (fun i => some (i * tsz P e, tsz P e)) z.cells parts).map .agg else none
  | _, _ => none

def zeros (z : List AV) : Nat → List AV
  | 0 => []
  | n + 1 => z ++ zeros z n

def abuildSlice (P : Program) (next : Nat) (t : TypeId) (n : Nat) (parts : List (Nat × AV)) : Option (AV × Delta) :=
  match tk P t with
  | .slice e =>
    match tzero P e with
    | some z =>
      if z.cells.length = tsz P e ∧ 0 < tsz P e ∧ n * tsz P e ≤ 16777216 then
        match afill (fun i => some (i * tsz P e, tsz P e)) (zeros z.cells n) parts with
        | some cs => some (.sl (some ⟨next, 0, cs.length⟩) n n, .new (.cells cs e true))
        | none => none
      else none
    | none => none
  | _ => none

def amakeSlice (P : Program) (next : Nat) (t : TypeId) (len cap : AV) : Option (AV × Delta) :=
  match tk P t, len, cap with
  | .slice e, .int .i64 l, .int .i64 c =>
    match tzero P e with
    | some z =>
      if z.cells.length = tsz P e ∧ 0 < tsz P e ∧ 0 ≤ l ∧ l ≤ c ∧ (P.bytesOf e : Int) * c ≤ 281474976710656 ∧ c ≤ 9223372036854775807 then
        some (.sl (some ⟨next, 0, c.toNat * tsz P e⟩) l.toNat c.toNat, .new (.cells (zeros z.cells c.toNat) e true))
      else none
    | none => none
  | _, _, _ => none

/-- Of which kinds are a key's cells? -/
inductive KK where
  | int (k : IntKind)
  | str
  | bool
  deriving DecidableEq

def kkOf : TK → Option KK
  | .int k => some (.int k)
  | .str => some .str
  | .bool => some .bool
  | _ => none

def kkOfV : AV → Option KK
  | .int k _ => some (.int k)
  | .str _ => some .str
  | .bool _ => some .bool
  | _ => none

def kks : List AV → Option (List KK)
  | [] => some []
  | v :: vs => match kkOfV v, kks vs with
    | some k, some ks => some (k :: ks)
    | _, _ => none

def fieldKinds (P : Program) : List Field → Nat → Option (List KK)
  | [], _ => some []
  | f :: fs, i => match kkOf (tk P f.type), fieldKinds P fs (i + 1) with
    | some k, some ks => if f.offset = i ∧ f.name ≠ "_" then some (k :: ks) else none
    | _, _ => none

inductive Shape where
  | one (k : KK)
  | many (ks : List KK)
  deriving DecidableEq

/-- The shape of a key's type, where it is one that is taken. -/
def kshape (P : Program) (t : TypeId) : Option Shape :=
  match P.underlying t with
  | some (.struct fs) => if P.stoodInHeld t then none else (fieldKinds P fs.toList 0).map .many
  | _ => (kkOf (tk P t)).map .one

def shapeOf : AV → Option Shape
  | .agg cs => (kks cs).map .many
  | v => (kkOfV v).map .one

def mfind (k : AV) : List (AV × AV × Nat) → Option AV
  | [] => none
  | (k', v, _) :: r => if keq k k' = some true then some v else mfind k r

def mput (k v : AV) (c : Nat) : List (AV × AV × Nat) → List (AV × AV × Nat)
  | [] => [(k, v, c)]
  | (k', v', c') :: r => if keq k k' = some true then (k, v, c') :: r else (k', v', c') :: mput k v c r

def alookup (P : Program) (L : Look) (t : TypeId) (m k : AV) (ok : Bool) : Option AV :=
  match tk P t, m with
  | .map kt et, .map none =>
    if kshape P kt = shapeOf k ∧ (shapeOf k).isSome then
      (tzero P et).map fun z => if ok then .tup [z, .bool false] else z
    else none
  | .map kt et, .map (some r) =>
    match L r with
    | some (.map t' es _) =>
      if t' = t ∧ kshape P kt = shapeOf k ∧ (shapeOf k).isSome then
        match mfind k es with
        | some v => some (if ok then .tup [v, .bool true] else v)
        | none => (tzero P et).map fun z => if ok then .tup [z, .bool false] else z
      else none
    | _ => none
  | _, _ => none

def amapUpdate (P : Program) (L : Look) (t : TypeId) (m k v : AV) : Option Delta :=
  match tk P t, m with
  | .map kt _, .map (some r) =>
    match L r with
    | some (.map t' es c) =>
      if t' = t ∧ kshape P kt = shapeOf k ∧ (shapeOf k).isSome then
        some (.set r (.map t' (mput k v c es) (if (mfind k es).isSome then c else c + 1)))
      else none
    | _ => none
  | _, _ => none

def amin1 : Option AV → AV → Option AV
  | some (.int k x), .int k' y => if k = k' then some (.int k (if y < x then y else x)) else none
  | _, _ => none

def amin : List AV → Option AV
  | [] => none
  | x :: r => r.foldl amin1 (some x)

def amax1 : Option AV → AV → Option AV
  | some (.int k x), .int k' y => if k = k' then some (.int k (if x < y then y else x)) else none
  | _, _ => none

def amax : List AV → Option AV
  | [] => none
  | x :: r => r.foldl amax1 (some x)

def alen (P : Program) (L : Look) (t : TypeId) (x : AV) : Option AV :=
  match tk P t, x with
  | .str, .str s => some (.int .i64 s.length)
  | .arr n _, _ => some (.int .i64 n)
  | .slice _, .sl _ n _ => some (.int .i64 n)
  | .map _ _, .map none => some (.int .i64 0)
  | .map _ _, .map (some r) => match L r with
    | some (.map _ es _) => some (.int .i64 es.length)
    | _ => none
  | _, _ => none

/-- Is the zero of a type known, and of its size? -/
def zeroOK (P : Program) (e : TypeId) : Bool :=
  match tzero P e with
  | some z => z.cells.length == tsz P e
  | none => false

/-- What is appended. -/
def srcCells (P : Program) (L : Look) (e : TypeId) (x : AV) : Option (Nat × List AV) :=
  match x with
  | .sl none _ _ => some (0, [])
  | .sl (some a) n c => if n = 0 then some (0, []) else (slCells P L e (.sl (some a) n c)).map fun cs => (n, cs)
  | .str s => if tsz P e = 1 then some (s.length, byteCells s) else none
  | _ => none

/-- The greatest number of bytes that an append may come to: 2^47. -/
def roomMax : Nat := 140737488355328

/-- 'n' elements, whose cells are 'src', behind a slice. -/
def aappendE (P : Program) (L : Look) (next : Nat) (e : TypeId) (n : Nat) (src : List AV) (s : AV) : Option (AV × Delta) :=
  match s with
  | .sl none _ _ =>
    if n = 0 then some (.sl none 0 0, .no)
    else if n * P.bytesOf e ≤ roomMax ∧ n ≤ 9223372036854775807 ∧ zeroOK P e then
      some (.sl (some ⟨next, 0, src.length⟩) n n, .new (.cells src e true))
    else none
  | .sl (some a) len cap =>
    if n = 0 then some (.sl (some a) len cap, .no) else
    match L a.b with
    | some (.cells cs e' g) =>
      if cs.length = a.gen ∧ a.off + len * tsz P e ≤ cs.length then
        if len + n ≤ cap then
          if a.off + (len + n) * tsz P e ≤ cs.length then
            some (.sl (some a) (len + n) cap, .set a.b (.cells (splice cs (a.off + len * tsz P e) src) e' g))
          else none
        else if g ∧ e' = e ∧ a.off + cap * tsz P e = cs.length ∧ (len + n) * P.bytesOf e ≤ roomMax ∧ len + n ≤ 9223372036854775807 ∧ zeroOK P e then
          some (.sl (some ⟨a.b, a.off, (cs.take (a.off + len * tsz P e) ++ src).length⟩) (len + n) (len + n), .set a.b (.cells (cs.take (a.off + len * tsz P e) ++ src) e g))
        else none
      else none
    | _ => none
  | _ => none

def aappend (P : Program) (L : Look) (next : Nat) (t u : TypeId) (s x : AV) : Option (AV × Delta) :=
  match tk P t, tk P u with
  | .slice e, .slice _ | .slice e, .str =>
    if 0 < tsz P e then
      match srcCells P L e x with
      | some (n, src) => aappendE P L next e n src s
      | none => none
    else none
  | _, _ => none

def aiter (L : Look) (it : AV) : Option (AV × Delta) :=
  match it with
  | .ptr (some a) =>
    match L a.b with
    | some (.iter s pos) =>
      if a.gen = 0 ∧ a.off = 0 then
        if pos < s.length then
          some (.tup [.bool true, .int .i64 pos, .int .i32 (Utf8.decode ⟨s.toArray⟩ pos).1], .set a.b (.iter s (pos + (Utf8.decode ⟨s.toArray⟩ pos).2)))
        else some (.tup [.bool false], .no)
      else none
    | _ => none
  | _ => none

def nilck : AV → Option AV
  | .ptr (some a) => some (.ptr (some a))
  | .fn (.func f) c => some (.fn (.func f) c)
  | .ifc t v => some (.ifc t v)
  | .map r => some (.map r)
  | _ => none

abbrev Ev := Operand → Option AV

def evL (ev : Ev) : List Operand → Option (List AV)
  | [] => some []
  | x :: xs => match ev x, evL ev xs with
    | some v, some vs => some (v :: vs)
    | _, _ => none

def evP (ev : Ev) : List (Nat × Operand) → Option (List (Nat × AV))
  | [] => some []
  | (i, x) :: xs => match ev x, evP ev xs with
    | some v, some vs => some ((i, v) :: vs)
    | _, _ => none

def evO (ev : Ev) : Option Operand → Option (Option AV)
  | none => some none
  | some x => (ev x).map some

/-- An operation that calls no Go function. -/
def aop (P : Program) (ev : Ev) (L : Look) (next : Nat) : Op → Option (AV × Delta)
  | .move x | .assign x => (ev x).map fun v => (v, .no)
  | .pick c a b => match ev c, ev a, ev b with
    | some (.bool c), some a, some b => some (if c then a else b, .no)
    | _, _, _ => none
  | .alloc t => match tzero P t with
    | some z => if z.cells.length = tsz P t then some (.ptr (some ⟨next, 0, z.cells.length⟩), .new (.cells z.cells t false)) else none
    | none => none
  | .box t x => match ev x with
    | some v => if v.cells.all AV.one then some (.ptr (some ⟨next, 0, v.cells.length⟩), .new (.cells v.cells t false)) else none
    | none => none
  | .build t parts => match evP ev parts.toList with
    | some ps => (abuild P t ps).map fun v => (v, .no)
    | none => none
  | .buildSlice t n parts => match evP ev parts.toList with
    | some ps => abuildSlice P next t n ps
    | none => none
  | .load t a => match ev a with
    | some p => (aload P L t p).map fun v => (v, .no)
    | none => none
  | .store t a x => match ev a, ev x with
    | some p, some v => (astore P L t p v).map fun d => (.tup [], d)
    | _, _ => none
  | .nilCheck x => match ev x with
    | some v => (nilck v).map fun v => (v, .no)
    | none => none
  | .binOp op t x y _ => match ev x, ev y with
    | some (.agg a), some (.agg b) =>
      if op = .eql ∧ (kshape P t).isSome ∧ kshape P t = shapeOf (.agg a) ∧ kshape P t = shapeOf (.agg b) then (keq (.agg a) (.agg b)).map fun r => (.bool r, .no)
      else if op = .neq ∧ (kshape P t).isSome ∧ kshape P t = shapeOf (.agg a) ∧ kshape P t = shapeOf (.agg b) then (keq (.agg a) (.agg b)).map fun r => (.bool (!r), .no)
      else none
    | some a, some b => (abin (tk P t) op a b).map fun v => (v, .no)
    | _, _ => none
  | .unOp op _ x => match ev x with
    | some a => (aun op a).map fun v => (v, .no)
    | none => none
  | .convert s d x => match ev x with
    | some a => aconv P L next s d a
    | none => none
  | .makeInterface t x => match tk P t, ev x with
    | .iface, _ => none
    | .other, _ => none
    | _, some a => if a.plain then some (.ifc t a, .no) else none
    | _, none => none
  | .makeFunc f first caps => match evL ev caps.toList with
    | some vs => if first.size = 0 ∧ vs.all AV.plain then some (.fn f vs, .no) else none
    | none => none
  | .makeMap t r => match tk P t, r with
    | .map kt _, none => if (kshape P kt).isSome then some (.map (some next), .new (.map t [] 0)) else none
    | _, _ => none
  | .makeSlice t l c => match ev l, ev c with
    | some l, some c => amakeSlice P next t l c
    | _, _ => none
  | .slice t x lo hi mx => match ev x, evO ev lo, evO ev hi, evO ev mx with
    | some x, some lo, some hi, some mx => (aslice P t x lo hi mx).map fun v => (v, .no)
    | _, _, _, _ => none
  | .fieldAddr t x f => match ev x, tfield P t f with
    | some (.ptr (some a)), some (o, u) => if 0 < tsz P u then some (.ptr (some { a with off := a.off + o }), .no) else none
    | _, _ => none
  | .field t x f => match ev x, tfield P t f with
    | some (.agg cs), some (o, u) => (apart P u cs o).map fun v => (v, .no)
    | _, _ => none
  | .indexAddr t x i => match ev x, ev i with
    | some x, some i => (aindexAddr P t x i).map fun v => (v, .no)
    | _, _ => none
  | .index t x i => match ev x, ev i with
    | some x, some i => (aindex P t x i).map fun v => (v, .no)
    | _, _ => none
  | .lookup t m k ok => match ev m, ev k with
    | some m, some k => (alookup P L t m k ok).map fun v => (v, .no)
    | _, _ => none
  | .mapUpdate t m k x | .insert t m k x => match ev m, ev k, ev x with
    | some m, some k, some v => if v.notTup then (amapUpdate P L t m k v).map fun d => (.tup [], d) else none
    | _, _, _ => none
  | .range t x => match tk P t, ev x with
    | .str, some (.str s) => some (.ptr (some ⟨next, 0, 0⟩), .new (.iter s 0))
    | _, _ => none
  | .next it true => match ev it with
    | some it => aiter L it
    | none => none
  | .extract t i => match ev t with
    | some (.tup vs) => (vs[i]?).map fun v => (v, .no)
    | _ => none
  | .call c => match c.callee with
    | .builtin .len => match c.argTypes.toList, evL ev c.args.toList with
      | [t], some [x] => (alen P L t x).map fun v => (v, .no)
      | _, _ => none
    | .builtin .append => match c.argTypes.toList, evL ev c.args.toList with
      | [t, u], some [s, x] => aappend P L next t u s x
      | _, _ => none
    | .builtin .min => match evL ev c.args.toList with
      | some vs => (amin vs).map fun v => (v, .no)
      | none => none
    | .builtin .max => match evL ev c.args.toList with
      | some vs => (amax vs).map fun v => (v, .no)
      | none => none
    | _ => none
  | _ => none

def blkOf : Option AV → List Nat
  | some (.ptr (some a)) => [a.b]
  | some (.sl (some a) _ _) => [a.b]
  | some (.map (some r)) => [r]
  | _ => []

/-- The blocks that an operation looks into. -/
def areads (ev : Ev) : Op → List Nat
  | .load _ a => blkOf (ev a)
  | .store _ a _ => blkOf (ev a)
  | .convert _ _ x => blkOf (ev x)
  | .lookup _ m _ _ => blkOf (ev m)
  | .mapUpdate _ m _ _ => blkOf (ev m)
  | .insert _ m _ _ => blkOf (ev m)
  | .next it _ => blkOf (ev it)
  | .call c => match c.callee, evL ev c.args.toList with
    | .builtin .len, some [x] => blkOf (some x)
    | .builtin .append, some [s, x] => blkOf (some s) ++ blkOf (some x)
    | _, _ => []
  | _ => []

/-- A call of a Go function: the function's number, the arguments. -/
def callOf (ev : Ev) : Op → Option (Option (FuncId × List AV))
  | .call c => match c.callee with
    | .value f => match ev f, evL ev c.args.toList with
      | some (.fn (.func g) caps), some args => some (some (g, args ++ caps))
      | _, _ => some none
    | _ => none
  | _ => none

/-! ### code -/

def evalA (ρ : Env) : Operand → Option AV
  | .tmp t => ρ.get t
  | .const v => absV v
  | .func f => some (.fn (.func f) [])
  | .global _ => none

structure St where
  ρ : Env
  h : Heap

inductive AExit where
  | normal
  | exit (id : Nat)
  | ret
  deriving DecidableEq

abbrev CallF := FuncId → List AV → Heap → Option (AV × Heap)

/-- One operation, on the whole heap. -/
def astep (P : Program) (F : CallF) (op : Op) (s : St) : Option (AV × Heap) :=
  match callOf (evalA s.ρ) op with
  | some (some (g, args)) => F g args s.h
  | some none => none
  | none => match aop P (evalA s.ρ) (fun b => s.h[b]?) s.h.length op with
    | some (v, d) => some (v, Heap.apply s.h d)
    | none => none

/-- An operation as far as it matters here: where its result goes, what it is, the slot that guards it. -/
structure SOp where
  dst : Option Tmp
  op : Op
  guard : Option (Option Tmp × Bool)

def slim (ops : Array Oper) (o : Oper) : SOp :=
  ⟨o.dst, o.op, o.guard.map fun (j, w) => ((ops[j]?).bind (·.dst), w)⟩

def slimL (ops : Array Oper) : List Oper → List SOp
  | [] => []
  | o :: os => slim ops o :: slimL ops os

/-- Is the operation wanted? none: it can't be told. -/
def awanted (ρ : Env) (o : SOp) : Option Bool :=
  match o.guard with
  | none => some true
  | some (some t, w) => match ρ.get t with
    | some (.bool b) => some (b == w)
    | some (.tup []) => some false
    | _ => none
  | some (none, _) => none

def aops (P : Program) (F : CallF) : List SOp → St → Option St
  | [], s => some s
  | o :: os, s =>
    match awanted s.ρ o with
    | some true => match astep P F o.op s with
      | some (v, h) => aops P F os ⟨s.ρ.put o.dst v, h⟩
      | none => none
    | some false => aops P F os ⟨s.ρ.put o.dst (.tup []), s.h⟩
    | none => none

/-- What an operation turned: nothing; one block; what a call turned: the heaps ahead of and behind it. -/
inductive Touch where
  | no
  | blk (c : Nat)
  | heaps (hb ha : Heap)

def Touch.same (t : Touch) (b : Nat) : Bool :=
  match t with
  | .no => true
  | .blk c => b != c
  | .heaps hb ha => sameAt hb ha b

def touchD (next : Nat) : Delta → Touch
  | .no => .no
  | .new _ => .blk next
  | .set c _ => .blk c

/-- One operation; what it turned. -/
def astepT (P : Program) (F : CallF) (op : Op) (s : St) : Option (AV × Heap × Touch) :=
  match callOf (evalA s.ρ) op with
  | some (some (g, args)) => match F g args s.h with
    | some (v, h) => some (v, h, .heaps s.h h)
    | none => none
  | some none => none
  | none => match aop P (evalA s.ρ) (fun b => s.h[b]?) s.h.length op with
    | some (v, d) => some (v, Heap.apply s.h d, touchD s.h.length d)
    | none => none

/-- What a region whose order is drawn has done so far: what its operations read; what each of them turned. -/
structure Log where
  reads : List (Nat × List Nat)
  turns : List (Nat × Touch)

def alook {α : Type} (k : Nat) : List (Nat × α) → Option α
  | [] => none
  | (k', v) :: r => if k' = k then some v else alook k r

/-- No operation that may come on either side of another one turns what that one reads. -/
def okPairs (j : Nat) (R : List Nat) (t : Touch) (g : Log) : List (Nat × Nat) → Bool
  | [] => true
  | (r, i) :: ps =>
    (if r = j then
      match alook i g.turns with
      | some t' => R.all t'.same
      | none => true
    else if i = j then
      match alook r g.reads with
      | some R' => R'.all t.same
      | none => true
    else true) && okPairs j R t g ps

def aopsT (P : Program) (F : CallF) (pairs : List (Nat × Nat)) : Nat → List SOp → St → Log → Option St
  | _, [], s, _ => some s
  | j, o :: os, s, g =>
    match awanted s.ρ o with
    | some true => match astepT P F o.op s with
      | some (v, h, t) =>
        if okPairs j (areads (evalA s.ρ) o.op) t g pairs then
          aopsT P F pairs (j + 1) os ⟨s.ρ.put o.dst v, h⟩ ⟨(j, areads (evalA s.ρ) o.op) :: g.reads, (j, t) :: g.turns⟩
        else none
      | none => none
    | some false => aopsT P F pairs (j + 1) os ⟨s.ρ.put o.dst (.tup []), s.h⟩ g
    | none => none

/-- What the evaluator is told of a function: which slots to keep (behind a region: its number; ahead of a loop's round: 1000000 and its first region's; behind a test: 2000000 and the slot tested); of a region whose order is drawn, which pairs (who reads, who turns) the edges leave open. -/
structure Hint where
  keep : List (Nat × List Nat)
  pairs : List (Nat × List (Nat × Nat))

def pick (ρ : Env) : List Nat → Env
  | [] => []
  | k :: ks => match ρ.get k with
    | some v => (k, v) :: pick ρ ks
    | none => pick ρ ks

def prune (H : Hint) (k : Nat) (ρ : Env) : Env :=
  match alook k H.keep with
  | some ks => pick ρ ks
  | none => ρ

def firstReg : Code → Nat
  | .region id _ _ => id
  | .seq a _ => firstReg a
  | .block _ c => firstReg c
  | .loop c => firstReg c
  | .scope c => firstReg c
  | _ => 0

def condKey : Operand → Nat
  | .tmp t => 2000000 + t
  | _ => 2000000

abbrev Out := Option (AExit × St)

def aiterate (keep : Env → Env) (body : St → Out) : Nat → St → Out
  | 0, _ => none
  | n + 1, s => match body ⟨keep s.ρ, s.h⟩ with
    | some (.normal, s') => aiterate keep body n s'
    | r => r

def aregion (P : Program) (F : CallF) (H : Hint) (id : Nat) (ops : Array Oper) (draw : Bool) (s : St) : Option St :=
  match draw, alook id H.pairs with
  | true, some pairs => aopsT P F pairs 0 (slimL ops ops.toList) s ⟨[], []⟩
  | _, _ => aops P F (slimL ops ops.toList) s

def acode (P : Program) (F : CallF) (H : Hint) (N : Nat) : Code → St → Out
  | .skip, s => some (.normal, s)
  | .region id ops draw, s => match aregion P F H id ops draw s with
    | some s' => some (.normal, ⟨prune H id s'.ρ, s'.h⟩)
    | none => none
  | .seq a b, s => match acode P F H N a s with
    | some (.normal, s') => acode P F H N b s'
    | r => r
  | .cond c a b, s =>
    let r := match evalA s.ρ c with
      | some (.bool true) => acode P F H N a s
      | some (.bool false) => acode P F H N b s
      | _ => none
    match r with
    | some (.normal, s') => some (.normal, ⟨prune H (condKey c) s'.ρ, s'.h⟩)
    | r => r
  | .block id c, s => match acode P F H N c s with
    | some (.exit id', s') => if id' = id then some (.normal, s') else some (.exit id', s')
    | r => r
  | .loop c, s => aiterate (prune H (1000000 + firstReg c)) (acode P F H N c) N s
  | .exit id, s => some (.exit id, s)
  | .ret, s => some (.ret, s)
  | .scope c, s => acode P F H N c s
  | .label _, s => some (.normal, s)
  | _, _ => none

def aresult (P : Program) (s : St) : ResultVar → Option AV
  | .tmp t => s.ρ.get t
  | .cell a t => match s.ρ.get a with
    | some p => aload P (fun b => s.h[b]?) t p
    | none => none

def aresultL (P : Program) (s : St) : List ResultVar → Option (List AV)
  | [] => some []
  | r :: rs => match aresult P s r, aresultL P s rs with
    | some v, some vs => some (v :: vs)
    | _, _ => none

def pack : List AV → AV
  | [v] => v
  | vs => .tup vs

def argsEnv : Nat → List AV → Env
  | _, [] => []
  | i, v :: vs => (i, v) :: argsEnv (i + 1) vs

structure Cfg where
  P : Program
  hint : FuncId → Hint
  ext : FuncId → Option (List AV → Heap → Option (AV × Heap))

def afinish (P : Program) (fn : Func) : Out → Option (AV × Heap)
  | some (.normal, s) | some (.ret, s) => match aresultL P s fn.results.toList with
    | some vs => if vs.all AV.notTup then some (pack vs, s.h) else none
    | none => none
  | _ => none

def acall (c : Cfg) : Nat → CallF
  | 0, _, _, _ => none
  | n + 1, f, args, h =>
    match c.ext f with
    | some g => g args h
    | none =>
      match c.P.funcs[f]? with
      | some fn => match fn.body with
        | some code => if args.length ≤ fn.ntmps then afinish c.P fn (acode c.P (acall c n) (c.hint f) n code ⟨argsEnv 0 args, h⟩) else none
        | none => none
      | none => none

end Go.AM
