/-
  The abstract machine: a deterministic evaluator of the model's code over values without addresses of the model's own.
  An abstract address names a block of an abstract heap, a place in it, and how many cells the block had when the address was made
  ('gen'): an address is good as long as the block has as many. 'append' behind a block's end lets the block grow where it lies.
-/
import Derived.Orders
import Derived.KernelRfl
import Derived.Laws.Cells
import Derived.Laws.World
import Derived.Laws.Tables
import Derived.Laws.Append
import Derived.Laws.Rows
import Derived.Laws.StructEq
import Derived.Laws.Slices
import Derived.Laws.Build
import Derived.Lib.ConvBytes
import Derived.Laws.MakeOwn
import Derived.Laws.BytesString
import Derived.Laws.RangeString
namespace Go.AM
open Go
structure AA where
 b : Nat
 off : Nat
 gen : Nat
inductive AV where
 | bool (b : Bool)
 | int (k : IntKind) (n : Int)
 | str (s : List UInt8)
 | ptr (a : Option AA)
 | sl (a : Option AA) (len cap : Nat)
 | map (r : Option Nat)
 | fn (f : Fn) (caps : List AV)
 | bm (f : FuncId) (a : AV)
 | nilf
 | ifc (t : TypeId) (v : AV)
 | nili
 | agg (cs : List AV)
 | tup (vs : List AV)
inductive AObj where
 | cells (cs : List AV) (e : TypeId) (grow : Bool)
 | ro (cs : List AV)
 | map (t : TypeId) (es : List (AV × AV × Nat)) (clock : Nat)
 | iter (s : List UInt8) (pos : Nat)
abbrev Heap := List AObj
abbrev Env := List (Nat × AV)
def Env.get : Env → Nat → Option AV
 | [], _ => none
 | (k, v) :: r, t => if k = t then some v else Env.get r t
def Env.put (ρ : Env) (d : Option Nat) (v : AV) : Env :=
 match d with
 | some d => (d, v) :: ρ
 | none => ρ
def tsz (P : Program) (t : TypeId) : Nat := P.cellsOf t
inductive TK where
 | bool
 | int (k : IntKind)
 | str
 | slice (e : TypeId)
 | arr (n : Nat) (e : TypeId)
 | map (k e : TypeId)
 | ptr (e : TypeId)
 | struct
 | iface
 | func
 | other
 deriving DecidableEq
def tk (P : Program) (t : TypeId) : TK :=
 match P.underlying t with
 | some .bool => .bool
 | some (.int k) => .int k
 | some .string => .str
 | some (.slice e) => .slice e
 | some (.array n e) => .arr n e
 | some (.map k e) => .map k e
 | some (.pointer e) => .ptr e
 | some (.struct _) => .struct
 | some (.interface _) => .iface
 | some (.func _ _ _) => .func
 | _ => .other
def agk : TK → Option Bool
 | .struct => some true
 | .arr _ _ => some true
 | .other => none
 | _ => some false
def tplaces (P : Program) (t : TypeId) : Option (List (Nat × Nat)) :=
 match P.underlying t with
 | some (.struct fs) => fs.toList.mapM fun f => (P.info? f.type).map fun i => (f.offset, i.size)
 | _ => none
def tfield (P : Program) (t : TypeId) (f : Nat) : Option (Nat × TypeId) :=
 match P.underlying t with
 | some (.struct fs) => (fs[f]?).map fun x => (x.offset, x.type)
 | _ => none
def absC : Value → Option AV
 | .bool b => some (.bool b)
 | .int k n => some (.int k n)
 | .string s => some (.str s.data.toList)
 | .pointer none => some (.ptr none)
 | .slice none 0 0 => some (.sl none 0 0)
 | .map none => some (.map none)
 | .nilFunc => some .nilf
 | .nilIface => some .nili
 | .func f first caps => if first.size = 0 ∧ caps.size = 0 then some (.fn f []) else none
 | _ => none
def absL : List Value → Option (List AV)
 | [] => some []
 | v :: vs => match absC v, absL vs with
  | some x, some xs => some (x :: xs)
  | _, _ => none
def absV : Value → Option AV
 | .agg cs => (absL cs.toList).map .agg
 | v => absC v
def tzero (P : Program) (t : TypeId) : Option AV := ((P.info? t).bind (·.zero)).bind absV
def AV.cells : AV → List AV
 | .agg cs => cs
 | v => [v]
def AV.one : AV → Bool
 | .agg _ | .tup _ => false
 | _ => true
def AV.notTup : AV → Bool
 | .tup _ => false
 | _ => true
def AV.plain : AV → Bool
 | .fn _ _ | .bm _ _ | .ifc _ _ | .agg _ | .tup _ => false
 | _ => true
def ikey : AV → AV → Option Bool
 | .int k a, .int k' b => if k = k' then some (decide (a = b)) else none
 | .str a, .str b => some (decide (a = b))
 | .bool a, .bool b => some (decide (a = b))
 | _, _ => none
def ikeys : List AV → List AV → Option Bool
 | [], [] => some true
 | x :: xs, y :: ys => match ikey x y, ikeys xs ys with
  | some a, some b => some (a && b)
  | _, _ => none
 | _, _ => none
def keq : AV → AV → Option Bool
 | .agg xs, .agg ys => ikeys xs ys
 | x, y => ikey x y
def AA.beq (x y : AA) : Bool := x.b == y.b && x.off == y.off && x.gen == y.gen
def oAA : Option AA → Option AA → Bool
 | some x, some y => x.beq y
 | none, none => true
 | _, _ => false
mutual
def AV.beq : AV → AV → Bool
 | .bool a, .bool b => a == b
 | .int k a, .int k' b => decide (k = k') && a == b
 | .str a, .str b => decide (a = b)
 | .ptr a, .ptr b => oAA a b
 | .sl a n c, .sl b m d => oAA a b && n == m && c == d
 | .map a, .map b => decide (a = b)
 | .fn f a, .fn g b => decide (f = g) && AV.beqL a b
 | .bm f a, .bm g b => decide (f = g) && a.beq b
 | .nilf, .nilf => true
 | .ifc t a, .ifc u b => t == u && a.beq b
 | .nili, .nili => true
 | .agg a, .agg b => AV.beqL a b
 | .tup a, .tup b => AV.beqL a b
 | _, _ => false
def AV.beqL : List AV → List AV → Bool
 | [], [] => true
 | x :: xs, y :: ys => x.beq y && AV.beqL xs ys
 | _, _ => false
end
def beqE : List (AV × AV × Nat) → List (AV × AV × Nat) → Bool
 | [], [] => true
 | (a, b, n) :: xs, (c, d, m) :: ys => a.beq c && b.beq d && n == m && beqE xs ys
 | _, _ => false
def AObj.beq : AObj → AObj → Bool
 | .cells a e g, .cells b e' g' => AV.beqL a b && e == e' && g == g'
 | .ro a, .ro b => AV.beqL a b
 | .map t es c, .map t' es' c' => t == t' && beqE es es' && c == c'
 | .iter s p, .iter s' p' => decide (s = s') && p == p'
 | _, _ => false
def sameAt (h h' : Heap) (b : Nat) : Bool :=
 match h[b]?, h'[b]? with
 | some x, some y => x.beq y
 | _, _ => false
inductive Delta where
 | no
 | new (o : AObj)
 | set (b : Nat) (o : AObj)
def Heap.apply (h : Heap) : Delta → Heap
 | .no => h
 | .new o => h ++ [o]
 | .set b o => h.set b o
abbrev Look := Nat → Option AObj
def row (L : Look) (a : AA) : Option (List AV) :=
 match L a.b with
 | some (.cells cs _ _) => if cs.length = a.gen then some cs else none
 | some (.ro cs) => if cs.length = a.gen then some cs else none
 | _ => none
def aload (P : Program) (L : Look) (t : TypeId) : AV → Option AV
 | .ptr (some a) =>
  match row L a with
  | some cs =>
   match agk (tk P t) with
   | some true => if a.off + tsz P t ≤ cs.length then some (.agg ((cs.drop a.off).take (tsz P t))) else none
   | some false => cs[a.off]?
   | none => none
  | none => none
 | _ => none
def splice (cs : List AV) (o : Nat) (vs : List AV) : List AV := cs.take o ++ vs ++ cs.drop (o + vs.length)
def astore (P : Program) (L : Look) (t : TypeId) (p v : AV) : Option Delta :=
 match p with
 | .ptr (some a) =>
  match L a.b with
  | some (.cells cs e g) =>
   if cs.length = a.gen ∧ 0 < tsz P t ∧ v.cells.length = tsz P t ∧ v.cells.all AV.one = true ∧ a.off + v.cells.length ≤ cs.length then
    some (.set a.b (.cells (if v.one then cs.set a.off v else splice cs a.off v.cells) e g))
   else none
  | _ => none
 | _ => none
def aeq (k : TK) (x y : AV) : Option Bool :=
 match k, x, y with
 | .bool, .bool a, .bool b => some (decide (a = b))
 | .ptr _, .ptr none, .ptr b => some b.isNone
 | .ptr _, .ptr (some _), .ptr none => some false
 | .slice _, .sl none _ _, .sl b _ _ => some b.isNone
 | .slice _, .sl (some _) _ _, .sl none _ _ => some false
 | .map _ _, .map none, .map b => some b.isNone
 | .map _ _, .map (some _), .map none => some false
 | .func, .nilf, .nilf => some true
 | .func, .nilf, .fn _ _ => some false
 | .func, .fn _ _, .nilf => some false
 | _, _, _ => none
def abin (t : TK) (op : BinOp) (x y : AV) : Option AV :=
 match op, x, y with
 | .shl, .int k a, .int _ n => if 0 ≤ n then some (.int k (k.wrap (a * 2 ^ (min n.toNat k.bits)))) else none
 | .shr, .int k a, .int _ n => if 0 ≤ n then some (.int k (a.fdiv (2 ^ (min n.toNat k.bits)))) else none
 | .add, .int k a, .int k' b => if k = k' then some (.int k (k.wrap (a + b))) else none
 | .sub, .int k a, .int k' b => if k = k' then some (.int k (k.wrap (a - b))) else none
 | .mul, .int k a, .int k' b => if k = k' then some (.int k (k.wrap (a * b))) else none
 | .quo, .int k a, .int k' b => if k = k' ∧ b ≠ 0 then some (.int k (k.wrap (a.tdiv b))) else none
 | .rem, .int k a, .int k' b => if k = k' ∧ b ≠ 0 then some (.int k (a.tmod b)) else none
 | .and, .int k a, .int k' b => if k = k' then some (.int k (k.wrap (BitVec.ofInt k.bits a &&& BitVec.ofInt k.bits b).toNat)) else none
 | .or, .int k a, .int k' b => if k = k' then some (.int k (k.wrap (BitVec.ofInt k.bits a ||| BitVec.ofInt k.bits b).toNat)) else none
 | .xor, .int k a, .int k' b => if k = k' then some (.int k (k.wrap (BitVec.ofInt k.bits a ^^^ BitVec.ofInt k.bits b).toNat)) else none
 | .andNot, .int k a, .int k' b => if k = k' then some (.int k (k.wrap (BitVec.ofInt k.bits a &&& ~~~ BitVec.ofInt k.bits b).toNat)) else none
 | .eql, .int k a, .int k' b => if k = k' then some (.bool (decide (a = b))) else none
 | .neq, .int k a, .int k' b => if k = k' then some (.bool (!decide (a = b))) else none
 | .lss, .int k a, .int k' b => if k = k' then some (.bool (decide (a < b))) else none
 | .leq, .int k a, .int k' b => if k = k' then some (.bool (decide (a ≤ b))) else none
 | .gtr, .int k a, .int k' b => if k = k' then some (.bool (decide (b < a))) else none
 | .geq, .int k a, .int k' b => if k = k' then some (.bool (decide (b ≤ a))) else none
 | .add, .str a, .str b => if a.length + b.length ≤ 9223372036854775807 then some (.str (a ++ b)) else none
 | .eql, .str a, .str b => some (.bool (decide (a = b)))
 | .neq, .str a, .str b => some (.bool (!decide (a = b)))
 | .eql, x, y => (aeq t x y).map .bool
 | .neq, x, y => (aeq t x y).map fun b => .bool (!b)
 | _, _, _ => none
def aun (op : UnOp) (x : AV) : Option AV :=
 match op, x with
 | .neg, .int k n => some (.int k (k.wrap (0 - n)))
 | .xor, .int k n => some (.int k (k.wrap (BitVec.ofInt k.bits (if k.signed then -1 else k.max) ^^^ BitVec.ofInt k.bits n).toNat))
 | .not, .bool b => some (.bool (!b))
 | _, _ => none
def byteCells (s : List UInt8) : List AV := s.map fun c => .int .u8 (c.toNat : Int)
def cellBytes : List AV → Option (List UInt8)
 | [] => some []
 | .int .u8 n :: r => (cellBytes r).map fun s => UInt8.ofNat n.toNat :: s
 | _ :: _ => none
def slCells (P : Program) (L : Look) (e : TypeId) : AV → Option (List AV)
 | .sl none _ _ => some []
 | .sl (some a) n _ =>
  match row L a with
  | some cs => if a.off + n * tsz P e ≤ cs.length then some ((cs.drop a.off).take (n * tsz P e)) else none
  | none => none
 | _ => none
def aconv (P : Program) (L : Look) (next : Nat) (src dst : TypeId) (x : AV) : Option (AV × Delta) :=
 match tk P src, tk P dst, x with
 | .int _, .int k, .int _ n => some (.int k (k.wrap n), .no)
 | .int _, .str, .int _ n => some (.str (Utf8.encode n).data.toList, .no)
 | .str, .str, .str s => some (.str s, .no)
 | .str, .slice e, .str s =>
  if tk P e = .int .u8 ∧ tsz P e = 1 then some (.sl (some ⟨next, 0, s.length⟩) s.length s.length, .new (.cells (byteCells s) e true)) else none
 | .slice e, .slice _, .sl (some a) n c =>
  match L a.b with
  | some (.cells cs e' g) => if src = dst ∧ tk P e = .int .u8 ∧ 0 < n ∧ cs.length = a.gen then some (.sl (some a) n c, .set a.b (.cells cs e' g)) else none
  | _ => none
 | .slice e, .str, .sl none _ _ => if tk P e = .int .u8 then some (.str [], .no) else none
 | .slice e, .str, .sl (some a) n c =>
  if tk P e = .int .u8 ∧ tsz P e = 1 then
   match slCells P L e (.sl (some a) n c) with
   | some cs => (cellBytes cs).map fun s => (.str s, .no)
   | none => none
  else none
 | _, _, _ => none
def bound (x : Option AV) (d : Nat) (lim : Nat) : Option Nat :=
 match x with
 | none => some d
 | some (.int _ i) => if 0 ≤ i ∧ i ≤ lim then some i.toNat else none
 | some _ => none
def asliceA (P : Program) (L : Look) (n : Nat) (e : TypeId) (a : AA) : Option AV :=
 match L a.b with
 | some (.cells cs _ false) => if cs.length = a.gen ∧ 0 < tsz P e then some (.sl (some a) n n) else none
 | _ => none
def aslice (P : Program) (L : Look) (t : TypeId) (x : AV) (lo hi mx : Option AV) : Option AV :=
 match mx with
 | some _ => none
 | none =>
  match tk P t, x with
  | .arr n e, .ptr (some a) => match lo, hi with
   | none, none => asliceA P L n e a
   | _, _ => none
  | .str, .str s =>
   match bound hi s.length s.length with
   | some h => match bound lo 0 h with
    | some l => some (.str ((s.drop l).take (h - l)))
    | none => none
   | none => none
  | .slice e, .sl a n c =>
   match bound hi n c with
   | some h => match bound lo 0 h with
    | some l => if 0 < tsz P e then some (.sl (a.map fun a => { a with off := a.off + l * tsz P e }) (h - l) (c - l)) else none
    | none => none
   | none => none
  | _, _ => none
def aindexAddr (P : Program) (t : TypeId) (x i : AV) : Option AV :=
 match tk P t, x, i with
 | .slice e, .sl (some a) n _, .int _ i =>
  if 0 ≤ i ∧ i < n ∧ 0 < tsz P e then some (.ptr (some { a with off := a.off + i.toNat * tsz P e })) else none
 | .arr n e, .ptr (some a), .int _ i =>
  if 0 ≤ i ∧ i < n ∧ 0 < tsz P e then some (.ptr (some { a with off := a.off + i.toNat * tsz P e })) else none
 | _, _, _ => none
def apart (P : Program) (t : TypeId) (cs : List AV) (off : Nat) : Option AV :=
 match agk (tk P t) with
 | some true => if off + tsz P t ≤ cs.length then some (.agg ((cs.drop off).take (tsz P t))) else none
 | some false => cs[off]?
 | none => none
def aindex (P : Program) (t : TypeId) (x i : AV) : Option AV :=
 match tk P t, x, i with
 | .str, .str s, .int _ i => if 0 ≤ i then (s[i.toNat]?).map fun c => .int .u8 (c.toNat : Int) else none
 | .arr n e, .agg cs, .int _ i => if 0 ≤ i ∧ i < n ∧ 0 < tsz P e then apart P e cs (i.toNat * tsz P e) else none
 | _, _, _ => none
def afill (place : Nat → Option (Nat × Nat)) (cells : List AV) : List (Nat × AV) → Option (List AV)
 | [] => some cells
 | (i, v) :: rest =>
  match place i with
  | none => none
  | some (off, size) =>
   if v.cells.length ≠ size ∨ cells.length < off + v.cells.length ∨ v.cells.all AV.one = false then none
   else afill place (if v.one then cells.set off v else splice cells off v.cells) rest
def abuild (P : Program) (t : TypeId) (parts : List (Nat × AV)) : Option AV :=
 match tzero P t, tk P t with
 | some z, .struct => match tplaces P t with
  | some pl => (afill (fun i => pl[i]?) z.cells parts).map .agg
  | none => none
 | some z, .arr _ e => if 0 < tsz P e then (afill (fun i => some (i * tsz P e, tsz P e)) z.cells parts).map .agg else none
 | _, _ => none
def zeros (z : List AV) : Nat → List AV
 | 0 => []
 | n + 1 => z ++ zeros z n
def abuildSlice (P : Program) (next : Nat) (t : TypeId) (n : Nat) (parts : List (Nat × AV)) : Option (AV × Delta) :=
 match tk P t with
 | .slice e =>
  match tzero P e with
  | some z =>
   if z.cells.length = tsz P e ∧ 0 < tsz P e ∧ n * tsz P e ≤ 16777216 then
    match afill (fun i => some (i * tsz P e, tsz P e)) (zeros z.cells n) parts with
    | some cs => some (.sl (some ⟨next, 0, cs.length⟩) n n, .new (.cells cs e true))
    | none => none
   else none
  | none => none
 | _ => none
def amakeSlice (P : Program) (next : Nat) (t : TypeId) (len cap : AV) : Option (AV × Delta) :=
 match tk P t, len, cap with
 | .slice e, .int .i64 l, .int .i64 c =>
  match tzero P e with
  | some z =>
   if z.cells.length = tsz P e ∧ 0 < tsz P e ∧ 0 ≤ l ∧ l ≤ c ∧ (P.bytesOf e : Int) * c ≤ 281474976710656 ∧ c ≤ 9223372036854775807 then
    some (.sl (some ⟨next, 0, c.toNat * tsz P e⟩) l.toNat c.toNat, .new (.cells (zeros z.cells c.toNat) e true))
   else none
  | none => none
 | _, _, _ => none
inductive KK where
 | int (k : IntKind)
 | str
 | bool
 deriving DecidableEq
def kkOf : TK → Option KK
 | .int k => some (.int k)
 | .str => some .str
 | .bool => some .bool
 | _ => none
def kkOfV : AV → Option KK
 | .int k _ => some (.int k)
 | .str _ => some .str
 | .bool _ => some .bool
 | _ => none
def kks : List AV → Option (List KK)
 | [] => some []
 | v :: vs => match kkOfV v, kks vs with
  | some k, some ks => some (k :: ks)
  | _, _ => none
def fieldKinds (P : Program) : List Field → Nat → Option (List KK)
 | [], _ => some []
 | f :: fs, i => match kkOf (tk P f.type), fieldKinds P fs (i + 1) with
  | some k, some ks => if f.offset = i ∧ f.name ≠ "_" then some (k :: ks) else none
  | _, _ => none
inductive Shape where
 | one (k : KK)
 | many (ks : List KK)
 deriving DecidableEq
def kshape (P : Program) (t : TypeId) : Option Shape :=
 match P.underlying t with
 | some (.struct fs) => if P.stoodInHeld t then none else (fieldKinds P fs.toList 0).map .many
 | _ => (kkOf (tk P t)).map .one
def shapeOf : AV → Option Shape
 | .agg cs => (kks cs).map .many
 | v => (kkOfV v).map .one
def mfind (k : AV) : List (AV × AV × Nat) → Option AV
 | [] => none
 | (k', v, _) :: r => if keq k k' = some true then some v else mfind k r
def mput (k v : AV) (c : Nat) : List (AV × AV × Nat) → List (AV × AV × Nat)
 | [] => [(k, v, c)]
 | (k', v', c') :: r => if keq k k' = some true then (k, v, c') :: r else (k', v', c') :: mput k v c r
def alookup (P : Program) (L : Look) (t : TypeId) (m k : AV) (ok : Bool) : Option AV :=
 match tk P t, m with
 | .map kt et, .map none =>
  if kshape P kt = shapeOf k ∧ (shapeOf k).isSome then
   (tzero P et).map fun z => if ok then .tup [z, .bool false] else z
  else none
 | .map kt et, .map (some r) =>
  match L r with
  | some (.map t' es _) =>
   if t' = t ∧ kshape P kt = shapeOf k ∧ (shapeOf k).isSome then
    match mfind k es with
    | some v => some (if ok then .tup [v, .bool true] else v)
    | none => (tzero P et).map fun z => if ok then .tup [z, .bool false] else z
   else none
  | _ => none
 | _, _ => none
def amapUpdate (P : Program) (L : Look) (t : TypeId) (m k v : AV) : Option Delta :=
 match tk P t, m with
 | .map kt _, .map (some r) =>
  match L r with
  | some (.map t' es c) =>
   if t' = t ∧ kshape P kt = shapeOf k ∧ (shapeOf k).isSome then
    some (.set r (.map t' (mput k v c es) (if (mfind k es).isSome then c else c + 1)))
   else none
  | _ => none
 | _, _ => none
def merase (k : AV) : List (AV × AV × Nat) → List (AV × AV × Nat)
 | [] => []
 | (k', v', c') :: r => if keq k k' = some true then r else (k', v', c') :: merase k r
def adelete (P : Program) (L : Look) (t : TypeId) (m k : AV) : Option Delta :=
 match tk P t, m with
 | .map kt _, .map (some r) =>
  match L r with
  | some (.map t' es c) => if t' = t ∧ kshape P kt = shapeOf k ∧ (shapeOf k).isSome then some (.set r (.map t' (merase k es) c)) else none
  | _ => none
 | _, _ => none
def acopy (P : Program) (L : Look) (t : TypeId) : AV → AV → Option (AV × Delta)
 | .sl (some a) n _, .str s =>
  match tk P t, L a.b with
  | .slice e, some (.cells cs e' g) =>
   if tsz P e = 1 ∧ cs.length = a.gen ∧ 0 < min s.length n ∧ a.off + min s.length n ≤ cs.length then
    some (.int .i64 (min s.length n : Nat), .set a.b (.cells (splice cs a.off (byteCells (s.take (min s.length n)))) e' g))
   else none
  | _, _ => none
 | _, _ => none
def amin1 : Option AV → AV → Option AV
 | some (.int k x), .int k' y => if k = k' then some (.int k (if y < x then y else x)) else none
 | _, _ => none
def amin : List AV → Option AV
 | [] => none
 | x :: r => r.foldl amin1 (some x)
def amax1 : Option AV → AV → Option AV
 | some (.int k x), .int k' y => if k = k' then some (.int k (if x < y then y else x)) else none
 | _, _ => none
def amax : List AV → Option AV
 | [] => none
 | x :: r => r.foldl amax1 (some x)
def alen (P : Program) (L : Look) (t : TypeId) (x : AV) : Option AV :=
 match tk P t, x with
 | .str, .str s => some (.int .i64 s.length)
 | .arr n _, _ => some (.int .i64 n)
 | .slice _, .sl _ n _ => some (.int .i64 n)
 | .map _ _, .map none => some (.int .i64 0)
 | .map _ _, .map (some r) => match L r with
  | some (.map _ es _) => some (.int .i64 es.length)
  | _ => none
 | _, _ => none
def zeroOK (P : Program) (e : TypeId) : Bool :=
 match tzero P e with
 | some z => z.cells.length == tsz P e
 | none => false
def srcCells (P : Program) (L : Look) (e : TypeId) (x : AV) : Option (Nat × List AV) :=
 match x with
 | .sl none _ _ => some (0, [])
 | .sl (some a) n c => if n = 0 then some (0, []) else (slCells P L e (.sl (some a) n c)).map fun cs => (n, cs)
 | .str s => if tsz P e = 1 then some (s.length, byteCells s) else none
 | _ => none
def roomMax : Nat := 140737488355328
def aappendE (P : Program) (L : Look) (next : Nat) (e : TypeId) (n : Nat) (src : List AV) (s : AV) : Option (AV × Delta) :=
 match s with
 | .sl none _ _ =>
  if n = 0 then some (.sl none 0 0, .no)
  else if n * P.bytesOf e ≤ roomMax ∧ n ≤ 9223372036854775807 ∧ zeroOK P e then
   some (.sl (some ⟨next, 0, src.length⟩) n n, .new (.cells src e true))
  else none
 | .sl (some a) len cap =>
  if n = 0 then some (.sl (some a) len cap, .no) else
  match L a.b with
  | some (.cells cs e' g) =>
   if cs.length = a.gen ∧ a.off + len * tsz P e ≤ cs.length then
    if len + n ≤ cap then
     if a.off + (len + n) * tsz P e ≤ cs.length then
      some (.sl (some a) (len + n) cap, .set a.b (.cells (splice cs (a.off + len * tsz P e) src) e' g))
     else none
    else if g ∧ e' = e ∧ a.off + cap * tsz P e = cs.length ∧ (len + n) * P.bytesOf e ≤ roomMax ∧ len + n ≤ 9223372036854775807 ∧ zeroOK P e then
     some (.sl (some ⟨a.b, a.off, (cs.take (a.off + len * tsz P e) ++ src).length⟩) (len + n) (len + n), .set a.b (.cells (cs.take (a.off + len * tsz P e) ++ src) e g))
    else none
   else none
  | _ => none
 | _ => none
def aappend (P : Program) (L : Look) (next : Nat) (t u : TypeId) (s x : AV) : Option (AV × Delta) :=
 match tk P t, tk P u with
 | .slice e, .slice _ | .slice e, .str =>
  if 0 < tsz P e then
   match srcCells P L e x with
   | some (n, src) => aappendE P L next e n src s
   | none => none
  else none
 | _, _ => none
def aiter (L : Look) (it : AV) : Option (AV × Delta) :=
 match it with
 | .ptr (some a) =>
  match L a.b with
  | some (.iter s pos) =>
   if a.gen = 0 ∧ a.off = 0 then
    if pos < s.length then
     some (.tup [.bool true, .int .i64 pos, .int .i32 (Utf8.decode ⟨s.toArray⟩ pos).1], .set a.b (.iter s (pos + (Utf8.decode ⟨s.toArray⟩ pos).2)))
    else some (.tup [.bool false], .no)
   else none
  | _ => none
 | _ => none
def nilck : AV → Option AV
 | .ptr (some a) => some (.ptr (some a))
 | .fn (.func f) c => some (.fn (.func f) c)
 | .ifc t v => some (.ifc t v)
 | .map r => some (.map r)
 | _ => none
abbrev Ev := Operand → Option AV
def aboundF (ev : Ev) : Fn → List Operand → List AV → Option (AV × Delta)
 | .func g, [x], [] => match ev x with
  | some a => if a.plain then some (.bm g a, .no) else none
  | none => none
 | _, _, _ => none
def evL (ev : Ev) : List Operand → Option (List AV)
 | [] => some []
 | x :: xs => match ev x, evL ev xs with
  | some v, some vs => some (v :: vs)
  | _, _ => none
def evP (ev : Ev) : List (Nat × Operand) → Option (List (Nat × AV))
 | [] => some []
 | (i, x) :: xs => match ev x, evP ev xs with
  | some v, some vs => some ((i, v) :: vs)
  | _, _ => none
def evO (ev : Ev) : Option Operand → Option (Option AV)
 | none => some none
 | some x => (ev x).map some
def aop (P : Program) (ev : Ev) (L : Look) (next : Nat) : Op → Option (AV × Delta)
 | .move x | .assign x => (ev x).map fun v => (v, .no)
 | .pick c a b => match ev c, ev a, ev b with
  | some (.bool c), some a, some b => some (if c then a else b, .no)
  | _, _, _ => none
 | .alloc t => match tzero P t with
  | some z => if z.cells.length = tsz P t then some (.ptr (some ⟨next, 0, z.cells.length⟩), .new (.cells z.cells t false)) else none
  | none => none
 | .box t x => match ev x with
  | some v => if v.cells.all AV.one then some (.ptr (some ⟨next, 0, v.cells.length⟩), .new (.cells v.cells t false)) else none
  | none => none
 | .build t parts => match evP ev parts.toList with
  | some ps => (abuild P t ps).map fun v => (v, .no)
  | none => none
 | .buildSlice t n parts => match evP ev parts.toList with
  | some ps => abuildSlice P next t n ps
  | none => none
 | .load t a => match ev a with
  | some p => (aload P L t p).map fun v => (v, .no)
  | none => none
 | .store t a x => match ev a, ev x with
  | some p, some v => (astore P L t p v).map fun d => (.tup [], d)
  | _, _ => none
 | .nilCheck x => match ev x with
  | some v => (nilck v).map fun v => (v, .no)
  | none => none
 | .binOp op t x y _ => match ev x, ev y with
  | some (.agg a), some (.agg b) =>
   if op = .eql ∧ (kshape P t).isSome ∧ kshape P t = shapeOf (.agg a) ∧ kshape P t = shapeOf (.agg b) then (keq (.agg a) (.agg b)).map fun r => (.bool r, .no)
   else if op = .neq ∧ (kshape P t).isSome ∧ kshape P t = shapeOf (.agg a) ∧ kshape P t = shapeOf (.agg b) then (keq (.agg a) (.agg b)).map fun r => (.bool (!r), .no)
   else none
  | some a, some b => (abin (tk P t) op a b).map fun v => (v, .no)
  | _, _ => none
 | .unOp op _ x => match ev x with
  | some a => (aun op a).map fun v => (v, .no)
  | none => none
 | .convert s d x => match ev x with
  | some a => aconv P L next s d a
  | none => none
 | .makeInterface t x => match tk P t, ev x with
  | .iface, _ => none
  | .other, _ => none
  | _, some a => if a.plain then some (.ifc t a, .no) else none
  | _, none => none
 | .makeFunc f first caps => match evL ev caps.toList with
  | some vs => if first.size = 0 ∧ vs.all AV.plain then some (.fn f vs, .no) else aboundF ev f first.toList vs
  | none => none
 | .makeMap t r => match tk P t, r with
  | .map kt _, none => if (kshape P kt).isSome then some (.map (some next), .new (.map t [] 0)) else none
  | _, _ => none
 | .makeSlice t l c => match ev l, ev c with
  | some l, some c => amakeSlice P next t l c
  | _, _ => none
 | .slice t x lo hi mx => match ev x, evO ev lo, evO ev hi, evO ev mx with
  | some x, some lo, some hi, some mx => (aslice P L t x lo hi mx).map fun v => (v, .no)
  | _, _, _, _ => none
 | .fieldAddr t x f => match ev x, tfield P t f with
  | some (.ptr (some a)), some (o, u) => if 0 < tsz P u then some (.ptr (some { a with off := a.off + o }), .no) else none
  | _, _ => none
 | .field t x f => match ev x, tfield P t f with
  | some (.agg cs), some (o, u) => (apart P u cs o).map fun v => (v, .no)
  | _, _ => none
 | .indexAddr t x i => match ev x, ev i with
  | some x, some i => (aindexAddr P t x i).map fun v => (v, .no)
  | _, _ => none
 | .index t x i => match ev x, ev i with
  | some x, some i => (aindex P t x i).map fun v => (v, .no)
  | _, _ => none
 | .lookup t m k ok => match ev m, ev k with
  | some m, some k => (alookup P L t m k ok).map fun v => (v, .no)
  | _, _ => none
 | .mapUpdate t m k x | .insert t m k x => match ev m, ev k, ev x with
  | some m, some k, some v => if v.notTup then (amapUpdate P L t m k v).map fun d => (.tup [], d) else none
  | _, _, _ => none
 | .range t x => match tk P t, ev x with
  | .str, some (.str s) => some (.ptr (some ⟨next, 0, 0⟩), .new (.iter s 0))
  | _, _ => none
 | .next it true => match ev it with
  | some it => aiter L it
  | none => none
 | .extract t i => match ev t with
  | some (.tup vs) => (vs[i]?).map fun v => (v, .no)
  | _ => none
 | .call c => match c.callee with
  | .builtin .len => match c.argTypes.toList, evL ev c.args.toList with
   | [t], some [x] => (alen P L t x).map fun v => (v, .no)
   | _, _ => none
  | .builtin .append => match c.argTypes.toList, evL ev c.args.toList with
   | [t, u], some [s, x] => aappend P L next t u s x
   | _, _ => none
  | .builtin .copy => match c.argTypes.toList, evL ev c.args.toList with
   | [t, _], some [d, s] => acopy P L t d s
   | _, _ => none
  | .builtin .delete => match c.argTypes.toList, evL ev c.args.toList with
   | [t, _], some [m, k] => (adelete P L t m k).map fun d => (.tup [], d)
   | _, _ => none
  | .builtin .min => match evL ev c.args.toList with
   | some vs => (amin vs).map fun v => (v, .no)
   | none => none
  | .builtin .max => match evL ev c.args.toList with
   | some vs => (amax vs).map fun v => (v, .no)
   | none => none
  | _ => none
 | _ => none
def blkOf : Option AV → List Nat
 | some (.ptr (some a)) => [a.b]
 | some (.sl (some a) _ _) => [a.b]
 | some (.map (some r)) => [r]
 | _ => []
def areads (ev : Ev) : Op → List Nat
 | .load _ a => blkOf (ev a)
 | .store _ a _ => blkOf (ev a)
 | .convert _ _ x => blkOf (ev x)
 | .lookup _ m _ _ => blkOf (ev m)
 | .mapUpdate _ m _ _ => blkOf (ev m)
 | .insert _ m _ _ => blkOf (ev m)
 | .next it _ => blkOf (ev it)
 | .slice _ x _ _ _ => match ev x with
  | some (.ptr (some a)) => [a.b]
  | _ => []
 | .call c => match c.callee, evL ev c.args.toList with
  | .builtin .len, some [x] => blkOf (some x)
  | .builtin .append, some [s, x] => blkOf (some s) ++ blkOf (some x)
  | .builtin .copy, some [d, _] => blkOf (some d)
  | .builtin .delete, some [m, _] => blkOf (some m)
  | _, _ => []
 | _ => []
def callOf (ev : Ev) : Op → Option (Option (FuncId × List AV))
 | .call c => match c.callee with
  | .value f => match ev f, evL ev c.args.toList with
   | some (.fn (.func g) caps), some args => if g < 1000000000 then some (some (g, args ++ caps)) else some none
   | some (.bm g a), some args => if g < 1000000000 then some (some (g, a :: args)) else some none
   | some (.fn (.yield l) []), some args => some (some (1000000000 + l, args))
   | _, _ => some none
  | _ => none
 | _ => none
def evalA (ρ : Env) : Operand → Option AV
 | .tmp t => ρ.get t
 | .const v => absV v
 | .func f => some (.fn (.func f) [])
 | .global _ => none
structure St where
 ρ : Env
 h : Heap
inductive AExit where
 | normal
 | exit (id : Nat)
 | ret
 deriving DecidableEq
abbrev CallF := FuncId → List AV → Heap → Option (AV × Heap)
def astep (P : Program) (F : CallF) (op : Op) (s : St) : Option (AV × Heap) :=
 match callOf (evalA s.ρ) op with
 | some (some (g, args)) => F g args s.h
 | some none => none
 | none => match aop P (evalA s.ρ) (fun b => s.h[b]?) s.h.length op with
  | some (v, d) => some (v, Heap.apply s.h d)
  | none => none
structure SOp where
 dst : Option Tmp
 op : Op
 guard : Option (Option Tmp × Bool)
def slim (ops : Array Oper) (o : Oper) : SOp :=
 ⟨o.dst, o.op, o.guard.map fun (j, w) => ((ops[j]?).bind (·.dst), w)⟩
def slimL (ops : Array Oper) : List Oper → List SOp
 | [] => []
 | o :: os => slim ops o :: slimL ops os
def awanted (ρ : Env) (o : SOp) : Option Bool :=
 match o.guard with
 | none => some true
 | some (some t, w) => match ρ.get t with
  | some (.bool b) => some (b == w)
  | some (.tup []) => some false
  | _ => none
 | some (none, _) => none
def aops (P : Program) (F : CallF) : List SOp → St → Option St
 | [], s => some s
 | o :: os, s =>
  match awanted s.ρ o with
  | some true => match astep P F o.op s with
   | some (v, h) => aops P F os ⟨s.ρ.put o.dst v, h⟩
   | none => none
  | some false => aops P F os ⟨s.ρ.put o.dst (.tup []), s.h⟩
  | none => none
inductive Touch where
 | no
 | blk (c : Nat)
 | heaps (hb ha : Heap)
def Touch.same (t : Touch) (b : Nat) : Bool :=
 match t with
 | .no => true
 | .blk c => b != c
 | .heaps hb ha => sameAt hb ha b
def touchD (next : Nat) : Delta → Touch
 | .no => .no
 | .new _ => .blk next
 | .set c _ => .blk c
def astepT (P : Program) (F : CallF) (op : Op) (s : St) : Option (AV × Heap × Touch) :=
 match callOf (evalA s.ρ) op with
 | some (some (g, args)) => if g < 1000000000 then match F g args s.h with
  | some (v, h) => some (v, h, .heaps s.h h)
  | none => none
  else none
 | some none => none
 | none => match aop P (evalA s.ρ) (fun b => s.h[b]?) s.h.length op with
  | some (v, d) => some (v, Heap.apply s.h d, touchD s.h.length d)
  | none => none
structure Log where
 reads : List (Nat × List Nat)
 turns : List (Nat × Touch)
def alook {α : Type} (k : Nat) : List (Nat × α) → Option α
 | [] => none
 | (k', v) :: r => if k' = k then some v else alook k r
def okPairs (j : Nat) (R : List Nat) (t : Touch) (g : Log) : List (Nat × Nat) → Bool
 | [] => true
 | (r, i) :: ps =>
  (if r = j then
   match alook i g.turns with
   | some t' => R.all t'.same
   | none => true
  else if i = j then
   match alook r g.reads with
   | some R' => R'.all t.same
   | none => true
  else true) && okPairs j R t g ps
def aopsT (P : Program) (F : CallF) (pairs : List (Nat × Nat)) : Nat → List SOp → St → Log → Option St
 | _, [], s, _ => some s
 | j, o :: os, s, g =>
  match awanted s.ρ o with
  | some true => match astepT P F o.op s with
   | some (v, h, t) =>
    if okPairs j (areads (evalA s.ρ) o.op) t g pairs then
     aopsT P F pairs (j + 1) os ⟨s.ρ.put o.dst v, h⟩ ⟨(j, areads (evalA s.ρ) o.op) :: g.reads, (j, t) :: g.turns⟩
    else none
   | none => none
  | some false => aopsT P F pairs (j + 1) os ⟨s.ρ.put o.dst (.tup []), s.h⟩ g
  | none => none
structure Hint where
 keep : List (Nat × List Nat)
 pairs : List (Nat × List (Nat × Nat))
def pick (ρ : Env) : List Nat → Env
 | [] => []
 | k :: ks => match ρ.get k with
  | some v => (k, v) :: pick ρ ks
  | none => pick ρ ks
def prune (H : Hint) (k : Nat) (ρ : Env) : Env :=
 match alook k H.keep with
 | some ks => pick ρ ks
 | none => ρ
def firstReg : Code → Nat
 | .region id _ _ => id
 | .seq a _ => firstReg a
 | .block _ c => firstReg c
 | .loop c => firstReg c
 | .scope c => firstReg c
 | _ => 0
def condKey : Operand → Nat
 | .tmp t => 2000000 + t
 | _ => 2000000
abbrev Out := Option (AExit × St)
def aiterate (keep : Env → Env) (body : St → Out) : Nat → St → Out
 | 0, _ => none
 | n + 1, s => match body ⟨keep s.ρ, s.h⟩ with
  | some (.normal, s') => aiterate keep body n s'
  | r => r
def aregion (P : Program) (F : CallF) (H : Hint) (id : Nat) (ops : Array Oper) (draw : Bool) (s : St) : Option St :=
 match draw, alook id H.pairs with
 | true, some pairs => aopsT P F pairs 0 (slimL ops ops.toList) s ⟨[], []⟩
 | _, _ => aops P F (slimL ops ops.toList) s
def acode (P : Program) (F : CallF) (H : Hint) (N : Nat) : Code → St → Out
 | .skip, s => some (.normal, s)
 | .region id ops draw, s => match aregion P F H id ops draw s with
  | some s' => some (.normal, ⟨prune H id s'.ρ, s'.h⟩)
  | none => none
 | .seq a b, s => match acode P F H N a s with
  | some (.normal, s') => acode P F H N b s'
  | r => r
 | .cond c a b, s =>
  let r := match evalA s.ρ c with
   | some (.bool true) => acode P F H N a s
   | some (.bool false) => acode P F H N b s
   | _ => none
  match r with
  | some (.normal, s') => some (.normal, ⟨prune H (condKey c) s'.ρ, s'.h⟩)
  | r => r
 | .block id c, s => match acode P F H N c s with
  | some (.exit id', s') => if id' = id then some (.normal, s') else some (.exit id', s')
  | r => r
 | .loop c, s => aiterate (prune H (1000000 + firstReg c)) (acode P F H N c) N s
 | .exit id, s => some (.exit id, s)
 | .ret, s => some (.ret, s)
 | .scope c, s => acode P F H N c s
 | .label _, s => some (.normal, s)
 | _, _ => none
def aresult (P : Program) (s : St) : ResultVar → Option AV
 | .tmp t => s.ρ.get t
 | .cell a t => match s.ρ.get a with
  | some p => aload P (fun b => s.h[b]?) t p
  | none => none
def aresultL (P : Program) (s : St) : List ResultVar → Option (List AV)
 | [] => some []
 | r :: rs => match aresult P s r, aresultL P s rs with
  | some v, some vs => some (v :: vs)
  | _, _ => none
def pack : List AV → AV
 | [v] => v
 | vs => .tup vs
def argsEnv : Nat → List AV → Env
 | _, [] => []
 | i, v :: vs => (i, v) :: argsEnv (i + 1) vs
structure Cfg where
 P : Program
 hint : FuncId → Hint
 ext : FuncId → Option (List AV → Heap → Option (AV × Heap))
def afinish (P : Program) (fn : Func) : Out → Option (AV × Heap)
 | some (.normal, s) | some (.ret, s) => match aresultL P s fn.results.toList with
  | some vs => if vs.all AV.notTup then some (pack vs, s.h) else none
  | none => none
 | _ => none
def acall (c : Cfg) : Nat → CallF
 | 0, _, _, _ => none
 | n + 1, f, args, h =>
  match c.ext f with
  | some g => g args h
  | none =>
   match c.P.funcs[f]? with
   | some fn => match fn.body with
    | some code => if args.length ≤ fn.ntmps then afinish c.P fn (acode c.P (acall c n) (c.hint f) n code ⟨argsEnv 0 args, h⟩) else none
    | none => none
   | none => none
end Go.AM
namespace Go.AM
open Go
set_option linter.unusedVariables false
set_option linter.unusedSimpArgs false
def L2 {α β : Type} (R : α → β → Prop) : List α → List β → Prop
 | [], [] => True
 | a :: as, b :: bs => R a b ∧ L2 R as bs
 | _, _ => False
theorem L2.length {α β : Type} {R : α → β → Prop} : ∀ {as : List α} {bs : List β}, L2 R as bs → as.length = bs.length
 | [], [], _ => rfl
 | _ :: as, _ :: bs, h => by simp [L2.length h.2]
 | [], _ :: _, h => h.elim
 | _ :: _, [], h => h.elim
theorem L2.get {α β : Type} {R : α → β → Prop} : ∀ {as : List α} {bs : List β}, L2 R as bs → ∀ (i : Nat) a, as[i]? = some a → ∃ b, bs[i]? = some b ∧ R a b
 | [], [], _, i, a, h => by simp at h
 | x :: as, y :: bs, h, 0, a, ha => by simp at ha; subst ha; exact ⟨y, rfl, h.1⟩
 | x :: as, y :: bs, h, i + 1, a, ha => by simpa using L2.get h.2 i a (by simpa using ha)
 | [], _ :: _, h, _, _, _ => h.elim
 | _ :: _, [], h, _, _, _ => h.elim
theorem L2.of_get {α β : Type} {R : α → β → Prop} : ∀ {as : List α} {bs : List β}, as.length = bs.length → (∀ (i : Nat) a, as[i]? = some a → ∃ b, bs[i]? = some b ∧ R a b) → L2 R as bs
 | [], [], _, _ => trivial
 | x :: as, y :: bs, hl, h => by
  obtain ⟨b, hb, hr⟩ := h 0 x rfl
  simp at hb; subst hb
  exact ⟨hr, L2.of_get (by simpa using hl) fun i a ha => by simpa using h (i + 1) a (by simpa using ha)⟩
 | [], _ :: _, hl, _ => by simp at hl
 | _ :: _, [], hl, _ => by simp at hl
theorem L2.mono {α β : Type} {R S : α → β → Prop} (hm : ∀ a b, R a b → S a b) : ∀ {as : List α} {bs : List β}, L2 R as bs → L2 S as bs
 | [], [], _ => trivial
 | _ :: _, _ :: _, h => ⟨hm _ _ h.1, L2.mono hm h.2⟩
 | [], _ :: _, h => h.elim
 | _ :: _, [], h => h.elim
theorem L2.append {α β : Type} {R : α → β → Prop} : ∀ {as : List α} {bs : List β} {cs : List α} {ds : List β}, L2 R as bs → L2 R cs ds → L2 R (as ++ cs) (bs ++ ds)
 | [], [], _, _, _, h => h
 | _ :: _, _ :: _, _, _, h, h' => ⟨h.1, L2.append h.2 h'⟩
 | [], _ :: _, _, _, h, _ => h.elim
 | _ :: _, [], _, _, h, _ => h.elim
structure Loc where
 blk : Nat
 sub : Nat
 add : Nat
 extra : Nat
abbrev Inj := Nat → Nat → Option Loc
def Loc.at (l : Loc) (off : Nat) : Addr := ⟨l.blk, off - l.sub + l.add, none⟩
def Vp (ι : Inj) : AV → Value → Prop
 | .bool a, .bool b => a = b
 | .int k a, .int k' b => k = k' ∧ a = b
 | .str l, .string s => s.data.toList = l
 | .ptr none, .pointer none => True
 | .ptr (some a), .pointer (some p) => ∃ l, ι a.b a.gen = some l ∧ l.sub ≤ a.off ∧ p = l.at a.off
 | .sl none n c, .slice none n' c' => n = 0 ∧ c = 0 ∧ n' = 0 ∧ c' = 0
 | .sl (some a) n c, .slice (some p) n' c' => n = n' ∧ n ≤ c ∧ ∃ l, ι a.b a.gen = some l ∧ l.sub ≤ a.off ∧ c' = c + l.extra ∧ (0 < c' → p = l.at a.off)
 | .map none, .map none => True
 | .map (some b), .map (some r) => ∃ l, ι b 0 = some l ∧ l.blk = r
 | .nilf, .nilFunc => True
 | .nili, .nilIface => True
 | _, _ => False
def Vc (ι : Inj) : AV → Value → Prop
 | .fn f caps, .func f' first caps' => f = f' ∧ first = #[] ∧ L2 (Vp ι) caps caps'.toList
 | .bm g a, .func f' first caps' => f' = .func g ∧ caps' = #[] ∧ ∃ u, first = #[u] ∧ Vp ι a u
 | .ifc t v, .iface t' v' => t = t' ∧ Vp ι v v'
 | a, v => Vp ι a v
def Va (ι : Inj) : AV → Value → Prop
 | .agg cs, .agg vs => L2 (Vc ι) cs vs.toList
 | a, v => Vc ι a v
def V (ι : Inj) : AV → Value → Prop
 | .tup cs, .tuple vs => L2 (Va ι) cs vs.toList
 | a, v => Va ι a v
def Ext (ι ι' : Inj) : Prop := ∀ b g l, ι b g = some l → ι' b g = some l
theorem Ext.refl (ι : Inj) : Ext ι ι := fun _ _ _ h => h
theorem Ext.trans {ι ι' ι'' : Inj} (h : Ext ι ι') (h' : Ext ι' ι'') : Ext ι ι'' := fun b g l e => h' b g l (h b g l e)
theorem Vp.mono {ι ι' : Inj} (h : Ext ι ι') {a : AV} {v : Value} (hv : Vp ι a v) : Vp ι' a v := by
 cases a <;> cases v <;> simp only [Vp] at hv ⊢ <;> try exact hv
 case ptr.pointer a p =>
  cases a <;> cases p <;> simp only [Vp] at hv ⊢ <;> try exact hv
  obtain ⟨l, h1, h2⟩ := hv
  exact ⟨l, h _ _ _ h1, h2⟩
 case sl.slice a n c p n' c' =>
  cases a <;> cases p <;> simp only [Vp] at hv ⊢ <;> try exact hv
  obtain ⟨h0, h1, l, h2, h3⟩ := hv
  exact ⟨h0, h1, l, h _ _ _ h2, h3⟩
 case map.map a p =>
  cases a <;> cases p <;> simp only [Vp] at hv ⊢ <;> try exact hv
  obtain ⟨l, h1, h2⟩ := hv
  exact ⟨l, h _ _ _ h1, h2⟩
theorem Vc.mono {ι ι' : Inj} (h : Ext ι ι') {a : AV} {v : Value} (hv : Vc ι a v) : Vc ι' a v := by
 cases a <;> cases v <;> simp only [Vc] at hv ⊢ <;> try exact Vp.mono h hv
 case fn.func => exact ⟨hv.1, hv.2.1, hv.2.2.mono fun _ _ => Vp.mono h⟩
 case bm.func => obtain ⟨h1, h2, u, h3, h4⟩ := hv; exact ⟨h1, h2, u, h3, Vp.mono h h4⟩
 case ifc.iface => exact ⟨hv.1, Vp.mono h hv.2⟩
theorem Va.mono {ι ι' : Inj} (h : Ext ι ι') {a : AV} {v : Value} (hv : Va ι a v) : Va ι' a v := by
 cases a <;> cases v <;> simp only [Va] at hv ⊢ <;> try exact Vc.mono h hv
 case agg.agg => exact hv.mono fun _ _ => Vc.mono h
theorem V.mono {ι ι' : Inj} (h : Ext ι ι') {a : AV} {v : Value} (hv : V ι a v) : V ι' a v := by
 cases a <;> cases v <;> simp only [V] at hv ⊢ <;> try exact Va.mono h hv
 case tup.tuple => exact hv.mono fun _ _ => Va.mono h
theorem V.of_Va {ι : Inj} {a : AV} {v : Value} (h : Va ι a v) : V ι a v := by
 cases a <;> cases v <;> simp only [V] <;> first | exact h | (simp [Va, Vc, Vp] at h; done)
theorem Va.of_Vc {ι : Inj} {a : AV} {v : Value} (h : Vc ι a v) : Va ι a v := by
 cases a <;> cases v <;> simp only [Va] <;> first | exact h | (simp [Vc, Vp] at h; done)
theorem Vc.of_Vp {ι : Inj} {a : AV} {v : Value} (h : Vp ι a v) : Vc ι a v := by
 cases a <;> cases v <;> simp only [Vc] <;> first | exact h | (simp [Vp] at h; done)
theorem V.of_Vc {ι : Inj} {a : AV} {v : Value} (h : Vc ι a v) : V ι a v := .of_Va (.of_Vc h)
theorem V.of_Vp {ι : Inj} {a : AV} {v : Value} (h : Vp ι a v) : V ι a v := .of_Vc (.of_Vp h)
theorem Vc.one {ι : Inj} {a : AV} {v : Value} (h : Vc ι a v) : v.oneCell' = true ∧ a.one = true := by
 cases a <;> cases v <;> simp_all [Vc, Vp, Value.oneCell', AV.one]
theorem V.cells {ι : Inj} {a : AV} {v : Value} (h : V ι a v) (ht : a.cells.all AV.one = true) : L2 (Vc ι) a.cells v.cells.toList := by
 cases a <;> cases v <;> simp [V, Va, AV.cells, Value.cells, L2, AV.one] at h ht ⊢ <;> first | exact h | (simp [Vc, Vp] at h; done)
theorem V.to_Vc {ι : Inj} {a : AV} {v : Value} (h : V ι a v) (ho : a.one = true) : Vc ι a v := by
 cases a <;> cases v <;> simp [V, Va, AV.one] at h ho ⊢ <;> first | exact h | (simp [Vc, Vp] at h; done)
theorem V.to_Va {ι : Inj} {a : AV} {v : Value} (h : V ι a v) (ho : ∀ vs, a ≠ .tup vs) : Va ι a v := by
 cases a <;> cases v <;> simp [V] at h ho ⊢ <;> first | exact h | (simp [Va, Vc, Vp] at h; done)
theorem V.bool_inv {ι : Inj} {b : Bool} {v : Value} (h : V ι (.bool b) v) : v = .bool b := by
 cases v <;> simp [V, Va, Vc, Vp] at h; simp [h]
theorem V.int_inv {ι : Inj} {k : IntKind} {n : Int} {v : Value} (h : V ι (.int k n) v) : v = .int k n := by
 cases v <;> simp [V, Va, Vc, Vp] at h; simp [h]
theorem V.str_inv {ι : Inj} {s : List UInt8} {v : Value} (h : V ι (.str s) v) : v = .string ⟨s.toArray⟩ := by
 cases v <;> simp [V, Va, Vc, Vp] at h
 subst h
 rfl
theorem V.ptr_inv {ι : Inj} {a : AA} {v : Value} (h : V ι (.ptr (some a)) v) : ∃ l, ι a.b a.gen = some l ∧ l.sub ≤ a.off ∧ v = .pointer (some (l.at a.off)) := by
 cases v <;> simp [V, Va, Vc, Vp] at h
 case pointer p =>
  cases p <;> simp [Vp] at h
  obtain ⟨l, h1, h2, h3⟩ := h
  exact ⟨l, h1, h2, by rw [h3]⟩
theorem V.ptr_none {ι : Inj} {v : Value} (h : V ι (.ptr none) v) : v = .pointer none := by
 cases v <;> simp [V, Va, Vc, Vp] at h
 case pointer p => cases p <;> simp [Vp] at h; rfl
theorem V.sl_none {ι : Inj} {n c : Nat} {v : Value} (h : V ι (.sl none n c) v) : v = .slice none 0 0 ∧ n = 0 ∧ c = 0 := by
 cases v <;> simp [V, Va, Vc, Vp] at h
 case slice p n' c' => cases p <;> simp [Vp] at h; simp [h]
theorem V.sl_inv {ι : Inj} {a : AA} {n c : Nat} {v : Value} (h : V ι (.sl (some a) n c) v) :
  ∃ p l, v = .slice (some p) n (c + l.extra) ∧ n ≤ c ∧ ι a.b a.gen = some l ∧ l.sub ≤ a.off ∧ (0 < c + l.extra → p = l.at a.off) := by
 cases v <;> simp [V, Va, Vc, Vp] at h
 case slice p n' c' =>
  cases p <;> simp [Vp] at h
  obtain ⟨rfl, h0, l, h1, h2, rfl, h4⟩ := h
  exact ⟨_, l, rfl, h0, h1, h2, h4⟩
theorem V.map_none {ι : Inj} {v : Value} (h : V ι (.map none) v) : v = .map none := by
 cases v <;> simp [V, Va, Vc, Vp] at h
 case map p => cases p <;> simp [Vp] at h; rfl
theorem V.map_inv {ι : Inj} {b : Nat} {v : Value} (h : V ι (.map (some b)) v) : ∃ l, ι b 0 = some l ∧ v = .map (some l.blk) := by
 cases v <;> simp [V, Va, Vc, Vp] at h
 case map p =>
  cases p <;> simp [Vp] at h
  obtain ⟨l, h1, h2⟩ := h
  exact ⟨l, h1, by rw [h2]⟩
theorem V.nilf_inv {ι : Inj} {v : Value} (h : V ι .nilf v) : v = .nilFunc := by
 cases v <;> simp [V, Va, Vc, Vp] at h; rfl
theorem V.nili_inv {ι : Inj} {v : Value} (h : V ι .nili v) : v = .nilIface := by
 cases v <;> simp [V, Va, Vc, Vp] at h; rfl
theorem V.fn_inv {ι : Inj} {f : Fn} {caps : List AV} {v : Value} (h : V ι (.fn f caps) v) : ∃ cs, v = .func f #[] cs ∧ L2 (Vp ι) caps cs.toList := by
 cases v <;> simp [V, Va, Vc, Vp] at h
 case func f' first cs => obtain ⟨rfl, rfl, h⟩ := h; exact ⟨cs, rfl, h⟩
theorem V.bm_inv {ι : Inj} {g : FuncId} {a : AV} {v : Value} (h : V ι (.bm g a) v) : ∃ u, v = .func (.func g) #[u] #[] ∧ Vp ι a u := by
 cases v <;> simp [V, Va, Vc, Vp] at h
 case func f' first cs => obtain ⟨rfl, rfl, u, rfl, h⟩ := h; exact ⟨u, rfl, h⟩
theorem V.ifc_inv {ι : Inj} {t : TypeId} {a : AV} {v : Value} (h : V ι (.ifc t a) v) : ∃ x, v = .iface t x ∧ Vp ι a x := by
 cases v <;> simp [V, Va, Vc, Vp] at h
 case iface t' x => obtain ⟨rfl, h⟩ := h; exact ⟨x, rfl, h⟩
theorem V.agg_inv {ι : Inj} {cs : List AV} {v : Value} (h : V ι (.agg cs) v) : ∃ vs, v = .agg vs ∧ L2 (Vc ι) cs vs.toList := by
 cases v <;> simp [V, Va, Vc, Vp] at h
 case agg vs => exact ⟨vs, rfl, h⟩
theorem V.tup_inv {ι : Inj} {cs : List AV} {v : Value} (h : V ι (.tup cs) v) : ∃ vs, v = .tuple vs ∧ L2 (Va ι) cs vs.toList := by
 cases v <;> simp [V, Va, Vc, Vp] at h
 case tuple vs => exact ⟨vs, rfl, h⟩
theorem V.undef (ι : Inj) : V ι (.tup []) Go.undef := trivial
def AObj.gen : AObj → Nat
 | .cells cs _ _ => cs.length
 | .ro cs => cs.length
 | .map _ _ _ => 0
 | .iter _ _ => 0
def AObj.own : AObj → Bool
 | .ro _ => false
 | _ => true
def entryR (ι : Inj) (x : AV × AV × Nat) (e : MapEntry) : Prop := Va ι x.1 e.key ∧ Va ι x.2.1 e.val ∧ e.born = x.2.2
def free (n : Nat) (fz : Nat × Nat) : Prop := fz.1 = fz.2 ∨ n ≤ fz.1
def keyKind (P : Program) (t : TypeId) : Option Shape :=
 match tk P t with
 | .map kt _ => kshape P kt
 | _ => none
def Robj (P : Program) (ι : Inj) (w : World) (l : Loc) : AObj → Prop
 | .cells cs e g => ∃ cur fz, w.heap[l.blk]? = some (.cells cur e fz) ∧ free cur.size fz ∧ l.sub ≤ cs.length ∧
   cs.length - l.sub + l.add + l.extra * tsz P e ≤ cur.size ∧ (g = false → l.extra = 0) ∧
   ∀ o x, l.sub ≤ o → cs[o]? = some x → ∃ v, cur[o - l.sub + l.add]? = some v ∧ Vc ι x v
 | .ro cs => l.sub = 0 ∧ l.extra = 0 ∧ ∀ o x, cs[o]? = some x → ∃ v, w.cell? (l.at o) = some v ∧ Vc ι x v
 | .map t es clock => ∃ es', w.heap[l.blk]? = some (.map es' clock) ∧ L2 (entryR ι) es es'.toList ∧ (keyKind P t).isSome ∧ ∀ x ∈ es, shapeOf x.1 = keyKind P t
 | .iter s pos => l.add = 0 ∧ ∃ s', w.heap[l.blk]? = some (.stringIter s' pos) ∧ s'.data.toList = s
structure Base where
 n : Nat
 rest : List (Nat × Obj)
 inj : Inj
def Held (ι : Inj) (L : Look) (c : Nat) : Prop := ∃ b o l, L b = some o ∧ o.own = true ∧ ι b o.gen = some l ∧ l.blk = c
structure HR (P : Program) (ι : Inj) (w : World) (B : Base) (L : Look) : Prop where
 obj : ∀ b o, L b = some o → ∃ l, ι b o.gen = some l ∧ Robj P ι w l o ∧ (o.own = true → B.n ≤ l.blk ∧ l.blk < w.heap.size)
 inj : ∀ b b' o o' l l', L b = some o → L b' = some o' → ι b o.gen = some l → ι b' o'.gen = some l' → o.own = true → o'.own = true → l.blk = l'.blk → b = b'
 past : ∀ b o, L b = some o → ∀ g l, ι b g = some l → g ≤ o.gen
 base : B.n ≤ w.heap.size
 roB : ∀ b cs l, L b = some (.ro cs) → ι b cs.length = some l → cs ≠ [] → l.blk < B.n
 rest : ∀ r ∈ B.rest, w.heap[r.1]? = some r.2 ∧ ¬ Held ι L r.1
 since : Ext B.inj ι
structure Step (P : Program) (ι : Inj) (w : World) (B : Base) (L : Look) (ι' : Inj) (w' : World) (L' : Look) : Prop where
 ext : Ext ι ι'
 hr : HR P ι' w' B L'
 size : w.heap.size ≤ w'.heap.size
 keep : ∀ c, c < w.heap.size → ¬ Held ι L c → w'.heap[c]? = w.heap[c]?
 held : ∀ c, Held ι' L' c → Held ι L c ∨ w.heap.size ≤ c
 os : w'.os = w.os
 tape : w'.tape = w.tape
 output : w'.output = w.output
theorem Step.refl {P : Program} {ι : Inj} {w : World} {B : Base} {L : Look} (h : HR P ι w B L) : Step P ι w B L ι w L :=
 ⟨.refl ι, h, Nat.le_refl _, fun _ _ _ => rfl, fun _ h => .inl h, rfl, rfl, rfl⟩
theorem Step.trans {P : Program} {ι ι' ι'' : Inj} {w w' w'' : World} {B : Base} {L L' L'' : Look}
  (h : Step P ι w B L ι' w' L') (h' : Step P ι' w' B L' ι'' w'' L'') : Step P ι w B L ι'' w'' L'' := by
 refine ⟨h.ext.trans h'.ext, h'.hr, Nat.le_trans h.size h'.size, fun c hc hn => ?_, fun c hc => ?_, h'.os.trans h.os, h'.tape.trans h.tape, h'.output.trans h.output⟩
 · rw [h'.keep c (Nat.lt_of_lt_of_le hc h.size) (fun hh => ?_), h.keep c hc hn]
   rcases h.held c hh with hh | hh
   · exact hn hh
   · omega
 · rcases h'.held c hc with hh | hh
   · exact h.held c hh
   · exact .inr (Nat.le_trans h.size hh)
theorem Step.below {P : Program} {ι ι' : Inj} {w w' : World} {B : Base} {L L' : Look} (h : Step P ι w B L ι' w' L') (hr : HR P ι w B L) :
  ∀ c, c < B.n → w'.heap[c]? = w.heap[c]? := by
 intro c hc
 refine h.keep c (Nat.lt_of_lt_of_le hc hr.base) ?_
 rintro ⟨b, o, l, hL, ho, hl, rfl⟩
 obtain ⟨l', hl', _, hb⟩ := hr.obj b o hL
 rw [hl] at hl'
 cases hl'
 have := (hb ho).1
 omega
def upd (L : Look) (next : Nat) : Delta → Look
 | .no => L
 | .new o => fun b => if b = next then some o else L b
 | .set c o => fun b => if b = c then (L c).map (fun _ => o) else L b
end Go.AM
namespace Go.AM
open Go
set_option linter.unusedVariables false
set_option linter.unusedSimpArgs false
theorem tk_slice {P : Program} {t e : TypeId} (h : tk P t = .slice e) : P.underlying t = some (.slice e) := by
 unfold tk at h; split at h <;> simp_all
theorem tk_arr {P : Program} {t e : TypeId} {n : Nat} (h : tk P t = .arr n e) : P.underlying t = some (.array n e) := by
 unfold tk at h; split at h <;> simp_all
theorem tk_int {P : Program} {t : TypeId} {k : IntKind} (h : tk P t = .int k) : P.underlying t = some (.int k) := by
 unfold tk at h; split at h <;> simp_all
theorem tk_str {P : Program} {t : TypeId} (h : tk P t = .str) : P.underlying t = some .string := by
 unfold tk at h; split at h <;> simp_all
theorem tk_bool {P : Program} {t : TypeId} (h : tk P t = .bool) : P.underlying t = some .bool := by
 unfold tk at h; split at h <;> simp_all
theorem tk_map {P : Program} {t k e : TypeId} (h : tk P t = .map k e) : P.underlying t = some (.map k e) := by
 unfold tk at h; split at h <;> simp_all
theorem tk_ptr {P : Program} {t e : TypeId} (h : tk P t = .ptr e) : P.underlying t = some (.pointer e) := by
 unfold tk at h; split at h <;> simp_all
theorem tk_struct {P : Program} {t : TypeId} (h : tk P t = .struct) : ∃ fs, P.underlying t = some (.struct fs) := by
 unfold tk at h; split at h <;> simp_all
theorem info_of_tsz {P : Program} {e : TypeId} (h : 0 < tsz P e) : ∃ i, P.info? e = some i ∧ i.size = tsz P e ∧ i.bytes = P.bytesOf e := by
 unfold tsz Program.cellsOf at *
 unfold Program.bytesOf
 cases hi : P.info? e with
 | none => simp [hi] at h
 | some i => exact ⟨i, rfl, by simp, by simp⟩
theorem run_sizeOf {P : Program} {e : TypeId} (h : 0 < tsz P e) (w : World) : (sizeOf e).run P w = .ok (tsz P e) w := by
 obtain ⟨i, hi, hs, _⟩ := info_of_tsz h
 simp [sizeOf, typeInfo, hi, hs]
theorem info_of_underlying {P : Program} {t : TypeId} {d : TypeDesc} (h : P.underlying t = some d) : ∃ i, P.info? t = some i ∧ i.size = tsz P t := by
 unfold Program.underlying at h
 unfold tsz Program.cellsOf
 cases hi : P.info? t with
 | none => simp [hi] at h
 | some i => exact ⟨i, rfl, by simp⟩
theorem run_isAgg {P : Program} {t : TypeId} {b : Bool} (h : agk (tk P t) = some b) (w : World) :
  (isAgg t).run P w = .ok b w ∧ ∃ i, P.info? t = some i ∧ i.size = tsz P t := by
 unfold tk at h
 cases hu : P.underlying t with
 | none => simp [hu, agk] at h
 | some d =>
  refine ⟨?_, info_of_underlying hu⟩
  cases d <;> simp [hu, agk] at h <;> subst h <;> simp [isAgg, run_underlying hu]
theorem run_sizeOf' {P : Program} {t : TypeId} (h : ∃ i, P.info? t = some i ∧ i.size = tsz P t) (w : World) : (sizeOf t).run P w = .ok (tsz P t) w := by
 obtain ⟨i, hi, hs⟩ := h
 simp [sizeOf, typeInfo, hi, hs]
theorem absC_Vp {v : Value} {a : AV} (h : absC v = some a) (ι : Inj) : Vc ι a v := by
 unfold absC at h
 split at h
 case h_9 f first caps =>
  split at h
  · rename_i hc
    obtain ⟨h1, h2⟩ := hc
    have h1 := Array.eq_empty_of_size_eq_zero h1
    have h2 := Array.eq_empty_of_size_eq_zero h2
    simp at h; subst h
    simp [Vc, L2, h1, h2]
  · simp at h
 all_goals (simp at h; try subst h; try (simp [Vc, Vp]; done))
theorem absL_Vc : ∀ {vs : List Value} {as : List AV}, absL vs = some as → ∀ ι : Inj, L2 (Vc ι) as vs
 | [], as, h, ι => by simp [absL] at h; subst h; trivial
 | v :: vs, as, h, ι => by
  unfold absL at h
  split at h
  · rename_i x xs hx hxs
    simp at h; subst h
    exact ⟨absC_Vp hx ι, absL_Vc hxs ι⟩
  · simp at h
theorem absV_cells {v : Value} {a : AV} (h : absV v = some a) (ι : Inj) : L2 (Vc ι) a.cells v.cells.toList ∧ V ι a v := by
 unfold absV at h
 split at h
 · rename_i cs
   cases hl : absL cs.toList with
   | none => simp [hl] at h
   | some as =>
    simp [hl] at h; subst h
    have := absL_Vc hl ι
    exact ⟨this, this⟩
 · rename_i hne
   have hc := absC_Vp h ι
   refine ⟨?_, .of_Vc hc⟩
   have ho := hc.one
   cases a <;> cases v <;> first | (simp [AV.cells, Value.cells, L2]; exact hc) | (simp_all [AV.one, Value.oneCell']; done)
theorem zero_of {P : Program} {t : TypeId} {a : AV} (h : tzero P t = some a) :
  ∃ i z, P.info? t = some i ∧ i.zero = some z ∧ (zeroValue t : Sem Value) = zeroValue t ∧ absV z = some a := by
 unfold tzero at h
 cases hi : P.info? t with
 | none => simp [hi] at h
 | some i =>
  cases hz : i.zero with
  | none => simp [hi, hz] at h
  | some z => exact ⟨i, z, rfl, hz, rfl, by simpa [hi, hz] using h⟩
theorem run_zeroValue {P : Program} {t : TypeId} {i : TypeInfo} {z : Value} (hi : P.info? t = some i) (hz : i.zero = some z) (w : World) :
  (zeroValue t).run P w = .ok z w := by simp [zeroValue, typeInfo, hi, hz]
structure Same (w w' : World) : Prop where
 os : w'.os = w.os
 tape : w'.tape = w.tape
 output : w'.output = w.output
theorem Same.refl (w : World) : Same w w := ⟨rfl, rfl, rfl⟩
theorem Same.trans {a b c : World} (h : Same a b) (h' : Same b c) : Same a c := ⟨h'.os.trans h.os, h'.tape.trans h.tape, h'.output.trans h.output⟩
variable {P : Program} {ι : Inj} {w : World} {B : Base} {L : Look} {next : Nat}
theorem Robj.keep {ι' : Inj} {w' : World} {l : Loc} {o : AObj} (h : Robj P ι w l o) (he : Ext ι ι')
  (hb : o ≠ .ro [] → w'.heap[l.blk]? = w.heap[l.blk]?) : Robj P ι' w' l o := by
 cases o with
 | cells cs e g =>
  obtain ⟨cur, fz, h1, h2, h3, h4, h5, h6⟩ := h
  refine ⟨cur, fz, by rw [hb (by simp)]; exact h1, h2, h3, h4, h5, fun o x ho hx => ?_⟩
  obtain ⟨v, hv, hc⟩ := h6 o x ho hx
  exact ⟨v, hv, hc.mono he⟩
 | ro cs =>
  refine ⟨h.1, h.2.1, fun o x hx => ?_⟩
  obtain ⟨v, hv, hc⟩ := h.2.2 o x hx
  refine ⟨v, ?_, hc.mono he⟩
  have hne : AObj.ro cs ≠ .ro [] := by
   rintro he; cases he; simp at hx
  have hh := hb hne
  unfold World.cell? at hv ⊢
  simp only [Loc.at] at hv ⊢
  rw [hh]; exact hv
 | map t es c =>
  obtain ⟨es', h1, h2, h3, h4⟩ := h
  exact ⟨es', by rw [hb (by simp)]; exact h1, h2.mono fun _ _ hh => ⟨hh.1.mono he, hh.2.1.mono he, hh.2.2⟩, h3, h4⟩
 | iter s p =>
  obtain ⟨h0, s', h1, h2⟩ := h
  exact ⟨h0, s', by rw [hb (by simp)]; exact h1, h2⟩
def Inj.set (ι : Inj) (b g : Nat) (l : Loc) : Inj := fun b0 g0 => if b0 = b ∧ g0 = g then some l else ι b0 g0
theorem Inj.set_same (ι : Inj) (b g : Nat) (l : Loc) : ι.set b g l b g = some l := by simp [Inj.set]
theorem Inj.set_other (ι : Inj) (b g : Nat) (l : Loc) {b0 : Nat} (h : b0 ≠ b) (g0 : Nat) : ι.set b g l b0 g0 = ι b0 g0 := by simp [Inj.set, h]
theorem HR.ro_lt (hr : HR P ι w B L) {b : Nat} {o : AObj} {l : Loc} (hL : L b = some o) (hl : ι b o.gen = some l) (hne : o ≠ .ro []) : l.blk < w.heap.size := by
 cases ho : o.own with
 | true =>
  obtain ⟨l', h1, _, h3⟩ := hr.obj b o hL
  rw [hl] at h1; cases h1
  exact (h3 ho).2
 | false =>
  cases o <;> simp [AObj.own] at ho
  case ro cs =>
   have := hr.roB b cs l hL hl (by rintro rfl; exact hne rfl)
   have := hr.base
   omega
theorem HR.rest_keep (hr : HR P ι w B L) {ι' : Inj} {L' : Look} {w' : World} (hk : ∀ c, c < w.heap.size → ¬ Held ι L c → w'.heap[c]? = w.heap[c]?) (hh : ∀ c, Held ι' L' c → Held ι L c ∨ w.heap.size ≤ c) :
  ∀ r ∈ B.rest, w'.heap[r.1]? = some r.2 ∧ ¬ Held ι' L' r.1 := by
 intro r hm
 obtain ⟨h1, h2⟩ := hr.rest r hm
 have hlt := (Array.getElem?_eq_some_iff.1 h1).1
 exact ⟨by rw [hk _ hlt h2]; exact h1, fun h => (hh _ h).elim h2 fun h3 => by omega⟩
theorem hr_new (hr : HR P ι w B L) (hn : L next = none) (hf : ∀ g, ι next g = none) {o : AObj} {l : Loc} {w' : World} (ho : o.own = true)
  (hoth : ∀ c, c < w.heap.size → w'.heap[c]? = w.heap[c]?) (hsz : w.heap.size ≤ w'.heap.size) (hl : w.heap.size ≤ l.blk ∧ l.blk < w'.heap.size)
  (hs : Same w w') (hobj : ∀ ι', Ext ι ι' → Robj P ι' w' l o) :
  Step P ι w B L (ι.set next o.gen l) w' (upd L next (.new o)) ∧ (∀ b g l', ι.set next o.gen l b g = some l' → ι b g = some l' ∨ b = next) := by
 have he : Ext ι (ι.set next o.gen l) := by
  intro b g l' h
  unfold Inj.set
  split
  · rename_i hb; rw [hb.1, hf] at h; cases h
  · exact h
 have hheld : ∀ c, Held (ι.set next o.gen l) (upd L next (.new o)) c → Held ι L c ∨ w.heap.size ≤ c := by
  rintro c ⟨b, o1, l1, h1, h2, h3, rfl⟩
  simp only [upd] at h1
  split at h1
  · rename_i hb; subst hb; simp at h1; subst h1
    rw [Inj.set_same] at h3; cases h3
    exact .inr hl.1
  · rename_i hb
    rw [Inj.set_other _ _ _ _ hb] at h3
    exact .inl ⟨b, o1, l1, h1, h2, h3, rfl⟩
 refine ⟨⟨he, ⟨?_, ?_, ?_, Nat.le_trans hr.base hsz, ?_, hr.rest_keep (fun c hc _ => hoth c hc) hheld, hr.since.trans he⟩, hsz, fun c hc _ => hoth c hc, hheld, hs.os, hs.tape, hs.output⟩, ?_⟩
 · intro b o1 hL
   simp only [upd] at hL
   split at hL
   · rename_i hb; subst hb; simp at hL; subst hL
     exact ⟨l, Inj.set_same .., hobj _ he, fun _ => ⟨Nat.le_trans hr.base hl.1, hl.2⟩⟩
   · rename_i hb
     obtain ⟨l1, h1, h2, h3⟩ := hr.obj b o1 hL
     refine ⟨l1, by rw [Inj.set_other _ _ _ _ hb]; exact h1, h2.keep he fun hne => hoth _ (hr.ro_lt hL h1 hne), fun ho1 => ⟨(h3 ho1).1, Nat.lt_of_lt_of_le (h3 ho1).2 hsz⟩⟩
 · intro b b' o1 o2 l1 l2 h1 h2 h3 h4 ho1 ho2 hbl
   simp only [upd] at h1 h2
   split at h1 <;> split at h2
   · omega
   · rename_i hb hb'
     subst hb; simp at h1; subst h1
     rw [Inj.set_same] at h3; cases h3
     rw [Inj.set_other _ _ _ _ hb'] at h4
     obtain ⟨l3, h5, _, h6⟩ := hr.obj b' o2 h2
     rw [h4] at h5; cases h5
     have := (h6 ho2).2
     omega
   · rename_i hb hb'
     subst hb'; simp at h2; subst h2
     rw [Inj.set_same] at h4; cases h4
     rw [Inj.set_other _ _ _ _ hb] at h3
     obtain ⟨l3, h5, _, h6⟩ := hr.obj b o1 h1
     rw [h3] at h5; cases h5
     have := (h6 ho1).2
     omega
   · rename_i hb hb'
     rw [Inj.set_other _ _ _ _ hb] at h3
     rw [Inj.set_other _ _ _ _ hb'] at h4
     exact hr.inj b b' o1 o2 l1 l2 h1 h2 h3 h4 ho1 ho2 hbl
 · intro b o1 h1 g l1 h2
   simp only [upd] at h1
   split at h1
   · rename_i hb; subst hb; simp at h1; subst h1
     unfold Inj.set at h2
     split at h2
     · rename_i hb; omega
     · rw [hf] at h2; cases h2
   · rename_i hb
     rw [Inj.set_other _ _ _ _ hb] at h2
     exact hr.past b o1 h1 g l1 h2
 · intro b cs l1 h1 h2 h3
   simp only [upd] at h1
   split at h1
   · simp at h1; subst h1; simp [AObj.own] at ho
   · rename_i hb
     rw [Inj.set_other _ _ _ _ hb] at h2
     exact hr.roB b cs l1 h1 h2 h3
 · intro b g l' h
   unfold Inj.set at h
   split at h
   · rename_i hb; exact .inr hb.1
   · exact .inl h
theorem hr_turn (hr : HR P ι w B L) {b : Nat} {o o' : AObj} {l l' : Loc} {w' : World} (hL : L b = some o) (ho : o.own = true) (hl : ι b o.gen = some l) (ho' : o'.own = true)
  (hge : o.gen ≤ o'.gen) (hsame : o'.gen = o.gen → l' = l)
  (hoth : ∀ c, c < w.heap.size → c ≠ l.blk → w'.heap[c]? = w.heap[c]?) (hsz : w.heap.size ≤ w'.heap.size)
  (hl' : l'.blk = l.blk ∨ (w.heap.size ≤ l'.blk ∧ l'.blk < w'.heap.size)) (hs : Same w w') (hobj : ∀ ι', Ext ι ι' → Robj P ι' w' l' o') :
  Step P ι w B L (ι.set b o'.gen l') w' (upd L next (.set b o')) ∧ (∀ b0 g l1, ι.set b o'.gen l' b0 g = some l1 → ι b0 g = some l1 ∨ b0 = b) := by
 have he : Ext ι (ι.set b o'.gen l') := by
  intro b0 g l1 h
  unfold Inj.set
  split
  · rename_i hb
    obtain ⟨rfl, rfl⟩ := hb
    have h1 := hr.past _ o hL _ l1 h
    have h2 : o'.gen = o.gen := by omega
    rw [h2, hl] at h
    rw [hsame h2]; exact h
  · exact h
 obtain ⟨l0, hl0, hR, hB⟩ := hr.obj b o hL
 rw [hl] at hl0; cases hl0
 obtain ⟨hB1, hB2⟩ := hB ho
 have hblk : B.n ≤ l'.blk ∧ l'.blk < w'.heap.size := by
  rcases hl' with h | h
  · omega
  · exact ⟨Nat.le_trans hr.base h.1, h.2⟩
 have hheld : ∀ c, Held (ι.set b o'.gen l') (upd L next (.set b o')) c → Held ι L c ∨ w.heap.size ≤ c := by
  rintro c ⟨b1, o1, l1, h1, h2, h3, rfl⟩
  simp only [upd] at h1
  split at h1
  · rename_i hb; subst hb; simp [hL] at h1; subst h1
    rw [Inj.set_same] at h3; cases h3
    rcases hl' with h | h
    · exact .inl ⟨_, o, l, hL, ho, hl, h.symm⟩
    · exact .inr h.1
  · rename_i hb
    rw [Inj.set_other _ _ _ _ hb] at h3
    exact .inl ⟨b1, o1, l1, h1, h2, h3, rfl⟩
 have hkeep : ∀ c, c < w.heap.size → ¬ Held ι L c → w'.heap[c]? = w.heap[c]? := fun c hc hn => hoth c hc (fun e => hn ⟨b, o, l, hL, ho, hl, e.symm⟩)
 refine ⟨⟨he, ⟨?_, ?_, ?_, Nat.le_trans hr.base hsz, ?_, hr.rest_keep hkeep hheld, hr.since.trans he⟩, hsz, hkeep, hheld, hs.os, hs.tape, hs.output⟩, ?_⟩
 · intro b1 o1 hL1
   simp only [upd] at hL1
   split at hL1
   · rename_i hb; subst hb; simp [hL] at hL1; subst hL1
     exact ⟨l', Inj.set_same .., hobj _ he, fun _ => hblk⟩
   · rename_i hb
     obtain ⟨l1, h1, h2, h3⟩ := hr.obj b1 o1 hL1
     refine ⟨l1, by rw [Inj.set_other _ _ _ _ hb]; exact h1, h2.keep he fun hne => ?_, fun ho1 => ⟨(h3 ho1).1, Nat.lt_of_lt_of_le (h3 ho1).2 hsz⟩⟩
     refine hoth _ (hr.ro_lt hL1 h1 hne) fun e => ?_
     cases ho1 : o1.own with
     | true => exact hb (hr.inj b1 b o1 o l1 l hL1 hL h1 hl ho1 ho e)
     | false =>
      cases o1 <;> simp [AObj.own] at ho1
      case ro cs =>
       have := hr.roB b1 cs l1 hL1 h1 (by rintro rfl; exact hne rfl)
       omega
 · intro b1 b2 o1 o2 l1 l2 h1 h2 h3 h4 ho1 ho2 hbl
   simp only [upd] at h1 h2
   split at h1 <;> split at h2
   · omega
   · rename_i hb hb'
     subst hb; simp [hL] at h1; subst h1
     rw [Inj.set_same] at h3; cases h3
     rw [Inj.set_other _ _ _ _ hb'] at h4
     obtain ⟨l3, h5, _, h6⟩ := hr.obj b2 o2 h2
     rw [h4] at h5; cases h5
     rcases hl' with h | h
     · exact hr.inj _ b2 o o2 l l2 hL h2 hl h4 ho ho2 (by omega)
     · have := (h6 ho2).2; omega
   · rename_i hb hb'
     subst hb'; simp [hL] at h2; subst h2
     rw [Inj.set_same] at h4; cases h4
     rw [Inj.set_other _ _ _ _ hb] at h3
     obtain ⟨l3, h5, _, h6⟩ := hr.obj b1 o1 h1
     rw [h3] at h5; cases h5
     rcases hl' with h | h
     · exact hr.inj b1 _ o1 o l1 l h1 hL h3 hl ho1 ho (by omega)
     · have := (h6 ho1).2; omega
   · rename_i hb hb'
     rw [Inj.set_other _ _ _ _ hb] at h3
     rw [Inj.set_other _ _ _ _ hb'] at h4
     exact hr.inj b1 b2 o1 o2 l1 l2 h1 h2 h3 h4 ho1 ho2 hbl
 · intro b1 o1 h1 g l1 h2
   simp only [upd] at h1
   split at h1
   · rename_i hb; subst hb; simp [hL] at h1; subst h1
     unfold Inj.set at h2
     split at h2
     · rename_i hb; omega
     · have := hr.past _ o hL g l1 h2; omega
   · rename_i hb
     rw [Inj.set_other _ _ _ _ hb] at h2
     exact hr.past b1 o1 h1 g l1 h2
 · intro b1 cs l1 h1 h2 h3
   simp only [upd] at h1
   split at h1
   · simp [hL] at h1; subst h1; simp [AObj.own] at ho'
   · rename_i hb
     rw [Inj.set_other _ _ _ _ hb] at h2
     exact hr.roB b1 cs l1 h1 h2 h3
 · intro b0 g l1 h
   unfold Inj.set at h
   split at h
   · rename_i hb; exact .inr hb.1
   · exact .inl h
def Delta.touches (next : Nat) : Delta → Nat → Prop
 | .no, _ => False
 | .new _, b => b = next
 | .set c _, b => b = c
def OpOk (P : Program) (ι : Inj) (w : World) (B : Base) (L : Look) (next : Nat) (r : Result Next) (v : AV) (δ : Delta) : Prop :=
 ∃ ι' w' u, (r = .ok (.value u) w' ∨ r = .ok .skip w' ∧ u = undef) ∧ V ι' v u ∧ Step P ι w B L ι' w' (upd L next δ) ∧
  ∀ b g l, ι' b g = some l → ι b g = some l ∨ δ.touches next b
theorem OpOk.pure (hr : HR P ι w B L) {r : Result Next} {v : AV} {u : Value} (h : r = .ok (.value u) w) (hv : V ι v u) : OpOk P ι w B L next r v .no :=
 ⟨ι, w, u, .inl h, hv, .refl hr, fun _ _ _ h => .inl h⟩
theorem row_inv {a : AA} {cs : List AV} (h : row L a = some cs) : ∃ o, L a.b = some o ∧ o.gen = a.gen ∧ cs.length = a.gen ∧ ((∃ e g, o = .cells cs e g) ∨ o = .ro cs) := by
 unfold row at h
 split at h
 · rename_i cs' e g hL
   split at h
   · rename_i hl; simp at h; subst h
     exact ⟨_, hL, hl, hl, .inl ⟨_, _, rfl⟩⟩
   · simp at h
 · rename_i cs' hL
   split at h
   · rename_i hl; simp at h; subst h
     exact ⟨_, hL, hl, hl, .inr rfl⟩
   · simp at h
 · simp at h
theorem cell_cells {w : World} {b o : Nat} {cur : Array Value} {e : TypeId} {fz : Nat × Nat} (h : w.heap[b]? = some (.cells cur e fz)) : w.cell? ⟨b, o, none⟩ = cur[o]? := by
 simp [World.cell?, h]
theorem cell_at (hr : HR P ι w B L) {a : AA} {cs : List AV} (h : row L a = some cs) {l : Loc} (hl : ι a.b a.gen = some l) {o : Nat} {x : AV}
  (ho : l.sub ≤ o) (hx : cs[o]? = some x) : ∃ v, w.cell? (l.at o) = some v ∧ Vc ι x v := by
 obtain ⟨ob, hL, hg, hc, hk⟩ := row_inv h
 obtain ⟨l', hl', hR, _⟩ := hr.obj a.b ob hL
 rw [hg, hl] at hl'; cases hl'
 rcases hk with ⟨e, g, rfl⟩ | rfl
 · obtain ⟨cur, fz, h1, _, _, _, _, h6⟩ := hR
   obtain ⟨v, hv, hc⟩ := h6 o x ho hx
   exact ⟨v, by rw [Loc.at, cell_cells h1]; exact hv, hc⟩
 · exact hR.2.2 o x hx
theorem list_of {α β : Type} {R : α → β → Prop} : ∀ (cs : List α) (c : Nat → Option β), (∀ (j : Nat) x, cs[j]? = some x → ∃ v, c j = some v ∧ R x v) →
  ∃ vs : List β, L2 R cs vs ∧ ∀ (j : Nat) v, vs[j]? = some v → c j = some v
 | [], c, _ => ⟨[], trivial, by simp⟩
 | x :: cs, c, h => by
  obtain ⟨v, hv, hr⟩ := h 0 x rfl
  obtain ⟨vs, h1, h2⟩ := list_of cs (fun j => c (j + 1)) fun j y hy => h (j + 1) y (by simpa using hy)
  refine ⟨v :: vs, ⟨hr, h1⟩, fun j u hu => ?_⟩
  cases j with
  | zero => simp at hu; subst hu; exact hv
  | succ j => exact h2 j u (by simpa using hu)
theorem Loc.at_add (l : Loc) (o j : Nat) (h : l.sub ≤ o) : (l.at o).add j = l.at (o + j) := by
 unfold Loc.at Addr.add
 split
 · subst_vars; rfl
 · simp only [Addr.mk.injEq, true_and, and_true]; omega
theorem getElem?_dropTake {α : Type} (cs : List α) (o n j : Nat) : ((cs.drop o).take n)[j]? = if j < n then cs[o + j]? else none := by
 rw [List.getElem?_take]; split <;> simp [List.getElem?_drop]
theorem cells_run (hr : HR P ι w B L) {a : AA} {cs : List AV} (h : row L a = some cs) {l : Loc} (hl : ι a.b a.gen = some l) {o n : Nat} (ho : l.sub ≤ o) (hn : o + n ≤ cs.length) :
  ∃ vs : List Value, L2 (Vc ι) ((cs.drop o).take n) vs ∧ vs.length = n ∧ (∀ (j : Nat) v, vs[j]? = some v → w.cell? ((l.at o).add j) = some v) ∧
   (loadCells (l.at o) n).run P w = .ok vs.toArray w := by
 obtain ⟨vs, h1, h2⟩ := list_of (R := Vc ι) ((cs.drop o).take n) (fun j => w.cell? ((l.at o).add j)) fun j x hx => by
  rw [getElem?_dropTake] at hx
  split at hx
  · rw [Loc.at_add _ _ _ ho]
    exact cell_at hr h hl (by omega) hx
  · simp at hx
 have hlen : vs.length = n := by rw [← h1.length]; simp; omega
 refine ⟨vs, h1, hlen, h2, ?_⟩
 have := run_loadCells_list (P := P) w (l.at o) vs h2
 rw [hlen] at this
 exact this
theorem ok_load (hr : HR P ι w B L) {t : TypeId} {p v : AV} {u : Value} (hp : V ι p u) (h : aload P L t p = some v) :
  ∃ x, (Instr.loadAt t u).run P w = .ok x w ∧ V ι v x := by
 unfold aload at h
 split at h
 · rename_i a
   obtain ⟨l, hl, hsub, rfl⟩ := hp.ptr_inv
   split at h
   · rename_i cs hrow
     split at h
     · rename_i hk
       split at h
       · rename_i hle
         simp at h; subst h
         obtain ⟨hagg, hinfo⟩ := run_isAgg hk w
         obtain ⟨vs, h1, _, _, h4⟩ := cells_run hr hrow hl hsub hle
         exact ⟨.agg vs.toArray, by simp [Instr.loadAt, Instr.sureAddr, loadVar, hagg, run_sizeOf' hinfo, h4], by simpa [V, Va] using h1⟩
       · simp at h
     · rename_i hk
       obtain ⟨hagg, _⟩ := run_isAgg hk w
       obtain ⟨x, hx, hc⟩ := cell_at hr hrow hl hsub h
       exact ⟨x, by simp [Instr.loadAt, Instr.sureAddr, loadVar, hagg, hx], .of_Vc hc⟩
     · simp at h
   · simp at h
 · simp at h
theorem not_frozen {w : World} {b o : Nat} {cur : Array Value} {e : TypeId} {fz : Nat × Nat} (h : w.heap[b]? = some (.cells cur e fz)) (hf : free cur.size fz) (ho : o < cur.size) :
  w.frozen? ⟨b, o, none⟩ = false := by
 simp only [World.frozen?, h]
 simp only [Bool.and_eq_false_iff, decide_eq_false_iff_not]
 unfold free at hf
 omega
theorem run_storeCells : ∀ (vs : List Value) (i : Nat) (cur : Array Value) (w : World) (b o : Nat) (e : TypeId) (fz : Nat × Nat), w.heap[b]? = some (.cells cur e fz) → free cur.size fz →
  o + i + vs.length ≤ cur.size → (∀ v ∈ vs, v.oneCell' = true) →
  ∃ cur' : Array Value, (storeCells ⟨b, o, none⟩ vs i).run P w = .ok () (w.setRow b cur') ∧ cur'.size = cur.size ∧
   (∀ k, k < o + i ∨ o + i + vs.length ≤ k → cur'[k]? = cur[k]?) ∧ ∀ (j : Nat) v, vs[j]? = some v → cur'[o + i + j]? = some v
 | [], i, cur, w, b, o, e, fz, hb, hf, hl, h1 => by
  refine ⟨cur, ?_, rfl, fun _ _ => rfl, by simp⟩
  simp only [storeCells, Sem.run_pure]
  congr 1
  have hlt : b < w.heap.size := (Array.getElem?_eq_some_iff.1 hb).1
  have hv : w.heap[b] = .cells cur e fz := (Array.getElem?_eq_some_iff.1 hb).2
  unfold World.setRow
  cases w with
  | mk heap tape drawn os output =>
   congr 1
   apply Array.ext
   · simp
   · intro k h1 h2
     simp only [Array.getElem_modify]
     split
     · rename_i hk; subst hk; simp at hv; simp [hv]
     · rfl
 | v :: rest, i, cur, w, b, o, e, fz, hb, hf, hl, h1 => by
  simp only [List.length_cons] at hl
  have hi : o + i < cur.size := by omega
  have hadd : (⟨b, o, none⟩ : Addr).add i = ⟨b, o + i, none⟩ := Addr.add_lit b o i
  have hcell : w.cell? ⟨b, o + i, none⟩ = some cur[o + i] := by rw [cell_cells hb]; simp [hi]
  have hset := setCell_eq_setRow w b (o + i) cur e fz v hb
  have hrow := setRow_heap w b cur (cur.setIfInBounds (o + i) v) e fz hb
  obtain ⟨cur', h2, h3, h4, h5⟩ := run_storeCells rest (i + 1) (cur.setIfInBounds (o + i) v) (w.setRow b (cur.setIfInBounds (o + i) v)) b o e fz hrow
   (by simpa using hf) (by simp; omega) (fun u hu => h1 u (List.mem_cons_of_mem _ hu))
  refine ⟨cur', ?_, by simpa using h3, fun k hk => ?_, fun j u hu => ?_⟩
  · simp only [storeCells, Sem.run_bind, run_store P w _ v _ (h1 v (List.mem_cons_self ..)), hadd, hcell, not_frozen hb hf hi, Bool.false_eq_true, if_false, Result.andThen_ok, hset, h2, setRow_setRow]
  · rw [h4 k (by simp only [List.length_cons] at hk; omega)]
    rw [Array.getElem?_setIfInBounds_ne (by simp only [List.length_cons] at hk; omega)]
  · cases j with
    | zero =>
     simp at hu; subst hu
     rw [Nat.add_zero, h4 (o + i) (by omega)]
     simp [hi]
    | succ j =>
     have := h5 j u (by simpa using hu)
     rw [show o + i + (j + 1) = o + (i + 1) + j by omega]
     exact this
def Put (cs cs' : List AV) (o : Nat) (vs : List AV) : Prop :=
 cs'.length = cs.length ∧ ∀ (k : Nat) x, cs'[k]? = some x → (o ≤ k ∧ vs[k - o]? = some x) ∨ ((k < o ∨ o + vs.length ≤ k) ∧ cs[k]? = some x)
theorem put_splice {cs vs : List AV} {o : Nat} (h : o + vs.length ≤ cs.length) : Put cs (splice cs o vs) o vs := by
 unfold splice
 refine ⟨by simp; omega, fun k x hx => ?_⟩
 rw [List.append_assoc, List.getElem?_append] at hx
 simp only [List.length_take] at hx
 have hmin : min o cs.length = o := by omega
 rw [hmin] at hx
 split at hx
 · rename_i hk
   rw [List.getElem?_take, if_pos hk] at hx
   exact .inr ⟨.inl hk, hx⟩
 · rename_i hk
   rw [List.getElem?_append] at hx
   split at hx
   · exact .inl ⟨by omega, hx⟩
   · rename_i hk2
     rw [List.getElem?_drop] at hx
     refine .inr ⟨.inr (by omega), ?_⟩
     rw [← hx]; congr 1; omega
theorem put_set {cs : List AV} {o : Nat} {v : AV} (h : o < cs.length) : Put cs (cs.set o v) o [v] := by
 refine ⟨by simp, fun k x hx => ?_⟩
 rw [List.getElem?_set] at hx
 split at hx
 · rename_i hk
   subst hk
   simp [h] at hx
   exact .inl ⟨Nat.le_refl _, by simp [hx]⟩
 · rename_i hk
   refine .inr ⟨?_, hx⟩
   simp; omega
theorem put_one {cs : List AV} {o : Nat} {v : AV} (h : o + v.cells.length ≤ cs.length) : Put cs (if v.one then cs.set o v else splice cs o v.cells) o v.cells := by
 split
 · rename_i h1
   have : v.cells = [v] := by cases v <;> simp_all [AV.one, AV.cells]
   rw [this] at h ⊢
   exact put_set (by simp at h; omega)
 · exact put_splice h
theorem hr_write (hr : HR P ι w B L) {b : Nat} {cs cs' vs : List AV} {e : TypeId} {g : Bool} {l : Loc} {o : Nat} {us : List Value}
  (hL : L b = some (.cells cs e g)) (hl : ι b cs.length = some l) (ho : l.sub ≤ o) (hput : Put cs cs' o vs) (hle : o + vs.length ≤ cs.length) (hv : L2 (Vc ι) vs us) :
  ∃ w', (storeCells (l.at o) us 0).run P w = .ok () w' ∧ Same w w' ∧ Step P ι w B L (ι.set b cs'.length l) w' (upd L next (.set b (.cells cs' e g))) ∧
   (∀ b0 g0 l1, ι.set b cs'.length l b0 g0 = some l1 → ι b0 g0 = some l1 ∨ b0 = b) := by
 obtain ⟨l', hl', hR, hB⟩ := hr.obj b _ hL
 simp only [AObj.gen] at hl'
 rw [hl] at hl'; cases hl'
 obtain ⟨cur, fz, h1, h2, h3, h4, h5, h6⟩ := hR
 have hus := hv.length
 obtain ⟨cur', r1, r2, r3, r4⟩ := run_storeCells (P := P) us 0 cur w l.blk (o - l.sub + l.add) e fz h1 h2 (by omega) (fun u hu => by
  obtain ⟨j, hj⟩ := List.getElem?_of_mem hu
  have hjl : j < vs.length := by rw [hus]; exact (List.getElem?_eq_some_iff.1 hj).1
  obtain ⟨u', hu', hc⟩ := hv.get j vs[j] (by simp [hjl])
  rw [hj] at hu'; cases hu'
  exact hc.one.1)
 have hturn := hr_turn (next := next) hr (b := b) (o := .cells cs e g) (o' := .cells cs' e g) (l := l) (l' := l) (w' := w.setRow l.blk cur') hL rfl hl rfl
  (by simp [AObj.gen, hput.1]) (fun _ => rfl) (fun c _ hc => setRow_other w l.blk c cur' hc) (by simp) (.inl rfl) ⟨rfl, rfl, rfl⟩ (fun ι' he => by
   refine ⟨cur', fz, setRow_heap w l.blk cur cur' e fz h1, by rw [r2]; exact h2, by rw [hput.1]; exact h3, by rw [hput.1, r2]; exact h4, h5, fun k x hk hx => ?_⟩
   rcases hput.2 k x hx with ⟨hk1, hk2⟩ | ⟨hk1, hk2⟩
   · obtain ⟨u, hu, hc⟩ := hv.get _ x hk2
     refine ⟨u, ?_, hc.mono he⟩
     have := r4 _ u hu
     rw [← this]; congr 1; omega
   · obtain ⟨u, hu, hc⟩ := h6 k x hk hk2
     exact ⟨u, by rw [r3 _ (by omega)]; exact hu, hc.mono he⟩)
 exact ⟨_, r1, ⟨rfl, rfl, rfl⟩, hturn⟩
theorem ok_store (hr : HR P ι w B L) {t : TypeId} {p x : AV} {u y : Value} {δ : Delta} (hp : V ι p u) (hx : V ι x y) (h : astore P L t p x = some δ) :
  ∃ ι' w', (Instr.storeAt t u y).run P w = .ok () w' ∧ Step P ι w B L ι' w' (upd L next δ) ∧ ∀ b g l, ι' b g = some l → ι b g = some l ∨ δ.touches next b := by
 unfold astore at h
 split at h
 · rename_i a
   obtain ⟨l, hl, hsub, rfl⟩ := hp.ptr_inv
   split at h
   · rename_i cs e g hL
     split at h
     · rename_i hc
       obtain ⟨hg, hpos, hsz, hone, hle⟩ := hc
       simp at h; subst h
       rw [← hg] at hl
       have hcells := hx.cells hone
       obtain ⟨w', r1, _, r2, r3⟩ := hr_write (next := next) hr hL hl hsub (put_one (v := x) hle) hle hcells
       have hlen := hcells.length
       refine ⟨_, w', ?_, r2, fun b0 g0 l1 h => by rcases r3 b0 g0 l1 h with h | h; exact .inl h; exact .inr h⟩
       simp [Instr.storeAt, Instr.sureAddr, storeVar, run_sizeOf hpos, ← hsz, hlen, r1]
     · simp at h
   · simp at h
 · simp at h
end Go.AM
namespace Go.AM
open Go
set_option linter.unusedVariables false
set_option linter.unusedSimpArgs false
variable {P : Program} {ι : Inj} {w : World} {B : Base} {L : Look} {next : Nat}
theorem V.bool (ι : Inj) (b : Bool) : V ι (.bool b) (.bool b) := rfl
theorem V.int (ι : Inj) (k : IntKind) (n : Int) : V ι (.int k n) (.int k n) := ⟨rfl, rfl⟩
theorem V.str (ι : Inj) (s : List UInt8) : V ι (.str s) (.string ⟨s.toArray⟩) := by simp [V, Va, Vc, Vp]
theorem Vc.to_Vp {ι : Inj} {a : AV} {v : Value} (h : Vc ι a v) (hp : a.plain = true) : Vp ι a v := by
 cases a <;> cases v <;> simp [Vc, AV.plain] at h hp ⊢ <;> first | exact h | (simp [Vp] at h; done)
theorem V.to_Vp {ι : Inj} {a : AV} {v : Value} (h : V ι a v) (hp : a.plain = true) : Vp ι a v :=
 (h.to_Vc (by cases a <;> simp_all [AV.plain, AV.one])).to_Vp hp
theorem run_equal_bool {t : TypeId} (h : tk P t = .bool) (a b : Bool) : (Op.equal t (.bool a) (.bool b)).run P w = .ok (a == b) w :=
 run_equalIn_bool' (P := P) w 9999 t a b (tk_bool h)
theorem run_equal_of {t : TypeId} {u v : Value} {r : Bool} (h : ∀ d, (Op.equalIn (d + 1) t u v).run P w = .ok r w) : (Op.equal t u v).run P w = .ok r w := h 9999
theorem eq_cases {t : TypeId} {a b : AV} {r : Bool} {u v : Value} (ha : V ι a u) (hb : V ι b v) (h : aeq (tk P t) a b = some r) :
  (Op.equal t u v).run P w = .ok r w ∧ (∀ op x y, eqGuard op t x y u v = pure ()) ∧ (∀ k n, u ≠ .int k n) ∧ (∀ s, u ≠ .string s) ∧ (∀ op, binOp op t u v = match op with | .eql => (do pure (.bool (← Op.equal t u v)) : Sem Value) | .neq => (do pure (.bool (!(← Op.equal t u v)))) | _ => binOp op t u v) := by
 unfold aeq at h
 split at h
 · rename_i hk
   obtain rfl := ha.bool_inv
   obtain rfl := hb.bool_inv
   simp at h; subst h
   refine ⟨by rw [run_equal_bool hk]; congr 1, fun _ _ _ => by simp only [eqGuard_at_bool], by simp, by simp, fun op => by cases op <;> rfl⟩
 · rename_i hk
   obtain rfl := ha.ptr_none
   have hu := tk_ptr hk
   rename_i q
   cases q with
   | none =>
    obtain rfl := hb.ptr_none
    simp at h; subst h
    exact ⟨run_equal_of fun d => by simp [Op.equalIn, run_underlying hu], fun _ _ _ => by simp only [eqGuard_at_pointer], by simp, by simp, fun op => by cases op <;> rfl⟩
   | some q =>
    obtain ⟨l, _, _, rfl⟩ := hb.ptr_inv
    simp at h; subst h
    exact ⟨run_equal_of fun d => by simp [Op.equalIn, run_underlying hu], fun _ _ _ => by simp only [eqGuard_at_pointer], by simp, by simp, fun op => by cases op <;> rfl⟩
 · rename_i hk
   obtain ⟨l, _, _, rfl⟩ := ha.ptr_inv
   obtain rfl := hb.ptr_none
   have hu := tk_ptr hk
   simp at h; subst h
   exact ⟨run_equal_of fun d => by simp [Op.equalIn, run_underlying hu], fun _ _ _ => by simp only [eqGuard_at_pointer], by simp, by simp, fun op => by cases op <;> rfl⟩
 · rename_i e n c q n' c' hk
   obtain ⟨rfl, _, _⟩ := ha.sl_none
   have hu := tk_slice hk
   cases q with
   | none =>
    obtain ⟨rfl, _, _⟩ := hb.sl_none
    simp at h; subst h
    exact ⟨run_equal_of fun d => by simp [Op.equalIn, run_underlying hu], fun _ _ _ => by simp only [eqGuard_at_slice], by simp, by simp, fun op => by cases op <;> rfl⟩
   | some q =>
    obtain ⟨p, l, rfl, _⟩ := hb.sl_inv
    simp at h; subst h
    exact ⟨run_equal_of fun d => by simp [Op.equalIn, run_underlying hu], fun _ _ _ => by simp only [eqGuard_at_slice], by simp, by simp, fun op => by cases op <;> rfl⟩
 · rename_i hk
   obtain ⟨p, l, rfl, _⟩ := ha.sl_inv
   obtain ⟨rfl, _, _⟩ := hb.sl_none
   have hu := tk_slice hk
   simp at h; subst h
   exact ⟨run_equal_of fun d => by simp [Op.equalIn, run_underlying hu], fun _ _ _ => by simp only [eqGuard_at_slice], by simp, by simp, fun op => by cases op <;> rfl⟩
 · rename_i hk
   obtain rfl := ha.map_none
   have hu := tk_map hk
   rename_i q
   cases q with
   | none =>
    obtain rfl := hb.map_none
    simp at h; subst h
    exact ⟨run_equal_of fun d => by simp [Op.equalIn, run_underlying hu], fun _ _ _ => by simp only [eqGuard_at_map], by simp, by simp, fun op => by cases op <;> rfl⟩
   | some q =>
    obtain ⟨l, _, rfl⟩ := hb.map_inv
    simp at h; subst h
    exact ⟨run_equal_of fun d => by simp [Op.equalIn, run_underlying hu], fun _ _ _ => by simp only [eqGuard_at_map], by simp, by simp, fun op => by cases op <;> rfl⟩
 · rename_i hk
   obtain ⟨l, _, rfl⟩ := ha.map_inv
   obtain rfl := hb.map_none
   have hu := tk_map hk
   simp at h; subst h
   exact ⟨run_equal_of fun d => by simp [Op.equalIn, run_underlying hu], fun _ _ _ => by simp only [eqGuard_at_map], by simp, by simp, fun op => by cases op <;> rfl⟩
 · rename_i hk
   obtain rfl := ha.nilf_inv
   obtain rfl := hb.nilf_inv
   obtain ⟨ps, rs, vr, hu⟩ : ∃ ps rs vr, P.underlying t = some (.func ps rs vr) := by unfold tk at hk; split at hk <;> simp_all
   simp at h; subst h
   exact ⟨run_equal_of fun d => by simp [Op.equalIn, run_underlying hu], fun _ _ _ => by simp only [eqGuard_at_nilFunc], by simp, by simp, fun op => by cases op <;> rfl⟩
 · rename_i hk
   obtain rfl := ha.nilf_inv
   obtain ⟨cs, rfl, _⟩ := hb.fn_inv
   obtain ⟨ps, rs, vr, hu⟩ : ∃ ps rs vr, P.underlying t = some (.func ps rs vr) := by unfold tk at hk; split at hk <;> simp_all
   simp at h; subst h
   exact ⟨run_equal_of fun d => by simp [Op.equalIn, run_underlying hu], fun _ _ _ => by simp only [eqGuard_at_nilFunc], by simp, by simp, fun op => by cases op <;> rfl⟩
 · rename_i hk
   obtain ⟨cs, rfl, _⟩ := ha.fn_inv
   obtain rfl := hb.nilf_inv
   obtain ⟨ps, rs, vr, hu⟩ : ∃ ps rs vr, P.underlying t = some (.func ps rs vr) := by unfold tk at hk; split at hk <;> simp_all
   simp at h; subst h
   exact ⟨run_equal_of fun d => by simp [Op.equalIn, run_underlying hu], fun _ _ _ => by simp only [eqGuard_at_func], by simp, by simp, fun op => by cases op <;> rfl⟩
 · simp at h
theorem toList_of (s : List UInt8) : (ByteArray.mk s.toArray).toList = s := by
 rw [ByteArray.toList_eq]
theorem size_of (s : List UInt8) : (ByteArray.mk s.toArray).size = s.length := rfl
theorem ok_bin {t : TypeId} {op : BinOp} {a b r : AV} {u v : Value} (ha : V ι a u) (hb : V ι b v) (h : abin (tk P t) op a b = some r) (x y : Operand) :
  ∃ z, (do eqGuard op t x y u v; binOp op t u v : Sem Value).run P w = .ok z w ∧ V ι r z := by
 have fromEq : ∀ c, aeq (tk P t) a b = some c → (op = .eql → ∃ z, (do eqGuard op t x y u v; binOp op t u v : Sem Value).run P w = .ok z w ∧ V ι (.bool c) z) ∧
   (op = .neq → ∃ z, (do eqGuard op t x y u v; binOp op t u v : Sem Value).run P w = .ok z w ∧ V ι (.bool (!c)) z) := by
  intro c he
  obtain ⟨h1, h2, _, _, h5⟩ := eq_cases (w := w) ha hb he
  refine ⟨fun ho => ⟨.bool c, ?_, .bool _ _⟩, fun ho => ⟨.bool (!c), ?_, .bool _ _⟩⟩
  · subst ho; rw [h2, h5]; simp [h1]
  · subst ho; rw [h2, h5]; simp [h1]
 unfold abin at h
 split at h
 case h_1 k a k' n =>
  obtain rfl := ha.int_inv
  obtain rfl := hb.int_inv
  split at h
  · rename_i hk
    simp at h; subst h
    have : ¬ n < 0 := by omega
    exact ⟨_, by simp [go_sem, Op.shift, this], .int _ _ _⟩
  · simp at h
 case h_2 k a k' n =>
  obtain rfl := ha.int_inv
  obtain rfl := hb.int_inv
  split at h
  · rename_i hk
    simp at h; subst h
    have : ¬ n < 0 := by omega
    exact ⟨_, by simp [go_sem, Op.shift, this], .int _ _ _⟩
  · simp at h
 case h_3 k a k' n =>
  obtain rfl := ha.int_inv
  obtain rfl := hb.int_inv
  split at h
  · rename_i hk
    subst hk
    simp at h; subst h
    exact ⟨_, by simp [go_sem], .int _ _ _⟩
  · simp at h
 case h_4 k a k' n =>
  obtain rfl := ha.int_inv
  obtain rfl := hb.int_inv
  split at h
  · rename_i hk
    subst hk
    simp at h; subst h
    exact ⟨_, by simp [go_sem], .int _ _ _⟩
  · simp at h
 case h_5 k a k' n =>
  obtain rfl := ha.int_inv
  obtain rfl := hb.int_inv
  split at h
  · rename_i hk
    subst hk
    simp at h; subst h
    exact ⟨_, by simp [go_sem], .int _ _ _⟩
  · simp at h
 case h_6 k a k' n =>
  obtain rfl := ha.int_inv
  obtain rfl := hb.int_inv
  split at h
  · rename_i hk
    obtain ⟨hk, h0⟩ := hk
    subst hk
    simp at h; subst h
    exact ⟨_, by simp [go_sem, h0], .int _ _ _⟩
  · simp at h
 case h_7 k a k' n =>
  obtain rfl := ha.int_inv
  obtain rfl := hb.int_inv
  split at h
  · rename_i hk
    obtain ⟨hk, h0⟩ := hk
    subst hk
    simp at h; subst h
    exact ⟨_, by simp [go_sem, h0], .int _ _ _⟩
  · simp at h
 case h_8 k a k' n =>
  obtain rfl := ha.int_inv
  obtain rfl := hb.int_inv
  split at h
  · rename_i hk
    subst hk
    simp only [Option.some.injEq] at h; subst h
    exact ⟨_, by simp only [eqGuard_and, eqGuard_or, eqGuard_xor, eqGuard_andNot, binOp_and, binOp_or, binOp_xor, binOp_andNot, Op.intBits, Sem.run_bind, Sem.run_pure, Result.andThen_ok], .int _ _ _⟩
  · simp at h
 case h_9 k a k' n =>
  obtain rfl := ha.int_inv
  obtain rfl := hb.int_inv
  split at h
  · rename_i hk
    subst hk
    simp only [Option.some.injEq] at h; subst h
    exact ⟨_, by simp only [eqGuard_and, eqGuard_or, eqGuard_xor, eqGuard_andNot, binOp_and, binOp_or, binOp_xor, binOp_andNot, Op.intBits, Sem.run_bind, Sem.run_pure, Result.andThen_ok], .int _ _ _⟩
  · simp at h
 case h_10 k a k' n =>
  obtain rfl := ha.int_inv
  obtain rfl := hb.int_inv
  split at h
  · rename_i hk
    subst hk
    simp only [Option.some.injEq] at h; subst h
    exact ⟨_, by simp only [eqGuard_and, eqGuard_or, eqGuard_xor, eqGuard_andNot, binOp_and, binOp_or, binOp_xor, binOp_andNot, Op.intBits, Sem.run_bind, Sem.run_pure, Result.andThen_ok], .int _ _ _⟩
  · simp at h
 case h_11 k a k' n =>
  obtain rfl := ha.int_inv
  obtain rfl := hb.int_inv
  split at h
  · rename_i hk
    subst hk
    simp only [Option.some.injEq] at h; subst h
    exact ⟨_, by simp only [eqGuard_and, eqGuard_or, eqGuard_xor, eqGuard_andNot, binOp_and, binOp_or, binOp_xor, binOp_andNot, Op.intBits, Sem.run_bind, Sem.run_pure, Result.andThen_ok], .int _ _ _⟩
  · simp at h
 case h_12 k a k' n =>
  obtain rfl := ha.int_inv
  obtain rfl := hb.int_inv
  split at h
  · rename_i hk
    subst hk
    simp at h; subst h
    exact ⟨_, by simp [go_sem]; try rfl, .bool _ _⟩
  · simp at h
 case h_13 k a k' n =>
  obtain rfl := ha.int_inv
  obtain rfl := hb.int_inv
  split at h
  · rename_i hk
    subst hk
    simp at h; subst h
    exact ⟨_, by simp [go_sem]; try rfl, .bool _ _⟩
  · simp at h
 case h_14 k a k' n =>
  obtain rfl := ha.int_inv
  obtain rfl := hb.int_inv
  split at h
  · rename_i hk
    subst hk
    simp at h; subst h
    exact ⟨_, by simp [go_sem]; try rfl, .bool _ _⟩
  · simp at h
 case h_15 k a k' n =>
  obtain rfl := ha.int_inv
  obtain rfl := hb.int_inv
  split at h
  · rename_i hk
    subst hk
    simp at h; subst h
    exact ⟨_, by simp [go_sem]; try rfl, .bool _ _⟩
  · simp at h
 case h_16 k a k' n =>
  obtain rfl := ha.int_inv
  obtain rfl := hb.int_inv
  split at h
  · rename_i hk
    subst hk
    simp at h; subst h
    exact ⟨_, by simp [go_sem]; try rfl, .bool _ _⟩
  · simp at h
 case h_17 k a k' n =>
  obtain rfl := ha.int_inv
  obtain rfl := hb.int_inv
  split at h
  · rename_i hk
    subst hk
    simp at h; subst h
    exact ⟨_, by simp [go_sem]; try rfl, .bool _ _⟩
  · simp at h
 case h_18 a b =>
  obtain rfl := ha.str_inv
  obtain rfl := hb.str_inv
  split at h
  · rename_i hk
    simp at h; subst h
    have : ¬ (9223372036854775807 < ((a.length : Nat) : Int) + ((b.length : Nat) : Int)) := by omega
    refine ⟨.string (⟨a.toArray⟩ ++ ⟨b.toArray⟩), by simp [eqGuard_add, binOp, Op.stringOp, size_of, this], ?_⟩
    simp [V, Va, Vc, Vp, ByteArray.data_append]
  · simp at h
 case h_19 a b =>
  obtain rfl := ha.str_inv
  obtain rfl := hb.str_inv
  simp at h; subst h
  refine ⟨.bool (a == b), by simp [eqGuard_at_string, binOp, Op.stringOp, toList_of], ?_⟩
  simp only [V, Va, Vc, Vp]
  rw [Bool.eq_iff_iff]; simp
 case h_20 a b =>
  obtain rfl := ha.str_inv
  obtain rfl := hb.str_inv
  simp at h; subst h
  refine ⟨.bool (!(a == b)), by simp [eqGuard_at_string, binOp, Op.stringOp, toList_of], ?_⟩
  simp only [V, Va, Vc, Vp]
  congr 1
  rw [Bool.eq_iff_iff]; simp
 case h_21 =>
  cases he : aeq (tk P t) a b with
  | none => simp [he] at h
  | some c =>
   simp [he] at h; subst h
   exact (fromEq c he).1 rfl
 case h_22 =>
  cases he : aeq (tk P t) a b with
  | none => simp [he] at h
  | some c =>
   simp [he] at h; subst h
   exact (fromEq c he).2 rfl
 case h_23 => simp at h
theorem ok_un {op : UnOp} {a r : AV} {u : Value} (ha : V ι a u) (h : aun op a = some r) : ∃ z, (Op.unary op u).run P w = .ok z w ∧ V ι r z := by
 unfold aun at h
 split at h
 · obtain rfl := ha.int_inv
   simp at h; subst h
   exact ⟨_, by simp [Op.unary, Op.intArith], .int _ _ _⟩
 · obtain rfl := ha.int_inv
   simp at h; subst h
   exact ⟨_, by simp [Op.unary, Op.intBits], .int _ _ _⟩
 · obtain rfl := ha.bool_inv
   simp at h; subst h
   exact ⟨_, by simp [Op.unary], .bool _ _⟩
 · simp at h
theorem L2.dropTake {α β : Type} {R : α → β → Prop} {as : List α} {bs : List β} (h : L2 R as bs) (o n : Nat) : L2 R ((as.drop o).take n) ((bs.drop o).take n) := by
 have hl := h.length
 refine L2.of_get (by simp [hl]) fun i a ha => ?_
 rw [getElem?_dropTake] at ha ⊢
 split at ha
 · rename_i hi
   simp only [hi, if_true]
   exact h.get _ a ha
 · simp at ha
theorem ok_part {t : TypeId} {cs : List AV} {vs : Array Value} {o : Nat} {r : AV} (hc : L2 (Vc ι) cs vs.toList) (h : Go.AM.apart P t cs o = some r) :
  ∃ z, (part t vs o).run P w = .ok z w ∧ V ι r z := by
 unfold Go.AM.apart at h
 split at h
 · rename_i hk
   split at h
   · rename_i hle
     simp at h; subst h
     obtain ⟨hagg, hinfo⟩ := run_isAgg hk w
     refine ⟨.agg (vs.extract o (o + tsz P t)), by simp [part, hagg, run_sizeOf' hinfo], ?_⟩
     have := hc.dropTake o (tsz P t)
     simp only [V, Va]
     rw [Array.toList_extract, List.extract_eq_take_drop]
     simpa using this
   · simp at h
 · rename_i hk
   obtain ⟨hagg, _⟩ := run_isAgg hk w
   obtain ⟨z, hz, hr⟩ := hc.get _ r h
   have hz' : vs[o]? = some z := by simpa using hz
   exact ⟨z, by simp [part, hagg, hz'], .of_Vc hr⟩
 · simp at h
theorem field_of {t : TypeId} {f o : Nat} {u : TypeId} (h : tfield P t f = some (o, u)) :
  ∃ fs fd, P.underlying t = some (.struct fs) ∧ fs[f]? = some fd ∧ fd.offset = o ∧ fd.type = u := by
 unfold tfield at h
 split at h
 · rename_i fs hu
   cases hf : fs[f]? with
   | none => simp [hf] at h
   | some fd =>
    simp [hf] at h
    exact ⟨fs, fd, hu, hf, h.1, h.2⟩
 · simp at h
theorem ok_field {t : TypeId} {f o : Nat} {u : TypeId} {cs : List AV} {v : Value} {r : AV} (hv : V ι (.agg cs) v) (hf : tfield P t f = some (o, u)) (h : Go.AM.apart P u cs o = some r) :
  ∃ z, (Instr.field t v f).run P w = .ok z w ∧ V ι r z := by
 obtain ⟨vs, rfl, hc⟩ := hv.agg_inv
 obtain ⟨fs, fd, hu, hfd, rfl, rfl⟩ := field_of hf
 obtain ⟨z, h1, h2⟩ := ok_part (w := w) hc h
 exact ⟨z, by simp [Instr.field, run_underlying hu, hfd, asAgg, h1], h2⟩
theorem ok_fieldAddr {t : TypeId} {f o : Nat} {u : TypeId} {a : AA} {v : Value} (hv : V ι (.ptr (some a)) v) (hf : tfield P t f = some (o, u)) (hpos : 0 < tsz P u) :
  ∃ z, (Instr.fieldAt t v f).run P w = .ok z w ∧ V ι (.ptr (some { a with off := a.off + o })) z := by
 obtain ⟨l, hl, hsub, rfl⟩ := hv.ptr_inv
 obtain ⟨fs, fd, hu, hfd, rfl, rfl⟩ := field_of hf
 have hne : tsz P fd.type ≠ 0 := by omega
 refine ⟨.pointer (some (l.at (a.off + fd.offset))), by simp [Instr.fieldAt, run_underlying hu, hfd, Instr.sureAddr, fieldPlace, run_sizeOf hpos, hne, Loc.at_add _ _ _ hsub], ?_⟩
 simp only [V, Va, Vc, Vp]
 exact ⟨l, hl, Nat.le_trans hsub (Nat.le_add_right _ _), rfl⟩
theorem ok_indexAddr {t : TypeId} {x i r : AV} {u v : Value} (hx : V ι x u) (hi : V ι i v) (h : aindexAddr P t x i = some r) :
  ∃ z, (Instr.indexAt t u v).run P w = .ok z w ∧ V ι r z := by
 unfold aindexAddr at h
 split at h
 · rename_i e a n c k j hk
   obtain ⟨p, l, rfl, hnc, hl, hsub, hp⟩ := hx.sl_inv
   obtain rfl := hi.int_inv
   split at h
   · rename_i hc
     obtain ⟨h0, h1, hpos⟩ := hc
     simp at h; subst h
     obtain rfl := hp (by omega)
     refine ⟨.pointer (some (l.at (a.off + j.toNat * tsz P e))), by simp [Instr.indexAt, asIntOf, run_underlying (tk_slice hk), h0, h1, run_sizeOf hpos, Loc.at_add _ _ _ hsub], ?_⟩
     simp only [V, Va, Vc, Vp]
     exact ⟨l, hl, Nat.le_trans hsub (Nat.le_add_right _ _), rfl⟩
   · simp at h
 · rename_i n e a k j hk
   obtain ⟨l, hl, hsub, rfl⟩ := hx.ptr_inv
   obtain rfl := hi.int_inv
   split at h
   · rename_i hc
     obtain ⟨h0, h1, hpos⟩ := hc
     simp at h; subst h
     refine ⟨.pointer (some (l.at (a.off + j.toNat * tsz P e))), by simp [Instr.indexAt, asIntOf, run_underlying (tk_arr hk), Instr.sureAddr, h0, h1, run_sizeOf hpos, Loc.at_add _ _ _ hsub], ?_⟩
     simp only [V, Va, Vc, Vp]
     exact ⟨l, hl, Nat.le_trans hsub (Nat.le_add_right _ _), rfl⟩
   · simp at h
 · simp at h
theorem ok_index {t : TypeId} {x i r : AV} {u v : Value} (hx : V ι x u) (hi : V ι i v) (h : aindex P t x i = some r) :
  ∃ z, (Instr.index t u v).run P w = .ok z w ∧ V ι r z := by
 unfold aindex at h
 split at h
 · rename_i s k j hk
   obtain rfl := hx.str_inv
   obtain rfl := hi.int_inv
   split at h
   · rename_i h0
     cases hs : s[j.toNat]? with
     | none => simp [hs] at h
     | some c =>
      simp [hs] at h; subst h
      have hlt : j.toNat < s.length := (List.getElem?_eq_some_iff.1 hs).1
      have hs' : (ByteArray.mk s.toArray)[j.toNat]? = some c := by
       have : (ByteArray.mk s.toArray)[j.toNat]? = s.toArray[j.toNat]? := rfl
       rw [this]; simpa using hs
      exact ⟨.int .u8 c.toNat, by simp [Instr.index, asIntOf, run_underlying (tk_str hk), h0, hs'], .int _ _ _⟩
   · simp at h
 · rename_i n e cs k j hk
   obtain ⟨vs, rfl, hc⟩ := hx.agg_inv
   obtain rfl := hi.int_inv
   split at h
   · rename_i hb
     obtain ⟨h0, h1, hpos⟩ := hb
     obtain ⟨z, hz1, hz2⟩ := ok_part (w := w) hc h
     exact ⟨z, by simp [Instr.index, asIntOf, run_underlying (tk_arr hk), h0, h1, run_sizeOf hpos, hz1], hz2⟩
   · simp at h
 · simp at h
theorem run_bound {kc : BoundsCode} {x : Option AV} {u : Option Value} {d lim lim' n : Nat} (hx : ∀ a, x = some a → ∃ v, u = some v ∧ V ι a v) (hn : x = none → u = none) (hlim : lim ≤ lim')
  (h : bound x d lim = some n) :
  (match u with | some v => Instr.sliceBound v lim' kc | none => (pure d : Sem Nat)).run P w = .ok n w := by
 unfold bound at h
 split at h
 · rw [hn rfl]; simp at h; subst h; rfl
 · rename_i k i
   obtain ⟨v, rfl, hv⟩ := hx _ rfl
   obtain rfl := hv.int_inv
   split at h
   · rename_i hc
     simp at h; subst h
     have : i ≤ (lim' : Int) := by omega
     simp [Instr.sliceBound, asIntOf, hc.1, this]
   · simp at h
 · simp at h
end Go.AM
namespace Go.AM
open Go
set_option linter.unusedVariables false
set_option linter.unusedSimpArgs false
variable {P : Program} {ι : Inj} {w : World} {B : Base} {L : Look} {next : Nat}
def VO (ι : Inj) : Option AV → Option Value → Prop
 | none, none => True
 | some a, some v => V ι a v
 | _, _ => False
theorem run_bounds {isS : Bool} {n c c' h l : Nat} {lo hi : Option AV} {u v : Option Value} (hlo : VO ι lo u) (hhi : VO ι hi v) (hc : c ≤ c')
  (h1 : bound hi n c = some h) (h2 : bound lo 0 h = some l) : (Instr.sliceBounds isS n c' u v none).run P w = .ok (l, h, c') w ∧ l ≤ h ∧ (hi.isSome → h ≤ c) := by
 have hl : l ≤ h := by
  unfold bound at h2
  split at h2
  · simp at h2; omega
  · split at h2
    · simp at h2; omega
    · simp at h2
  · simp at h2
 have hh : hi.isSome → h ≤ c := by
  intro hs
  unfold bound at h1
  split at h1
  · simp at hs
  · split at h1
    · simp at h1; omega
    · simp at h1
  · simp at h1
 refine ⟨?_, hl, hh⟩
 cases hi with
 | none =>
  cases v with
  | some v => exact hhi.elim
  | none =>
   simp [bound] at h1; subst h1
   cases lo with
   | none =>
    cases u with
    | some u => exact hlo.elim
    | none => simp [bound] at h2; subst h2; simp [Instr.sliceBounds]
   | some x =>
    cases u with
    | none => exact hlo.elim
    | some u =>
     have := run_bound (P := P) (w := w) (kc := if false then BoundsCode.slice3C else BoundsCode.sliceB) (u := some u) (d := 0) (lim' := n) (fun a ha => ⟨u, rfl, by cases ha; exact hlo⟩) (fun h => by cases h) (Nat.le_refl _) h2
     simp at this
     simp [Instr.sliceBounds, this]
 | some y =>
  cases v with
  | none => exact hhi.elim
  | some v =>
   have hb := run_bound (P := P) (w := w) (kc := if isS then BoundsCode.sliceAcap else BoundsCode.sliceAlen) (x := some y) (u := some v) (d := 0) (lim' := c') (fun a ha => ⟨v, rfl, by cases ha; exact hhi⟩) (fun h => by cases h) hc (n := h) (by
    unfold bound at h1 ⊢; split at h1 <;> simp_all)
   simp at hb
   cases lo with
   | none =>
    cases u with
    | some u => exact hlo.elim
    | none => simp [bound] at h2; subst h2; simp [Instr.sliceBounds, hb]
   | some x =>
    cases u with
    | none => exact hlo.elim
    | some u =>
     have := run_bound (P := P) (w := w) (kc := if false then BoundsCode.slice3C else BoundsCode.sliceB) (u := some u) (d := 0) (lim' := h) (fun a ha => ⟨u, rfl, by cases ha; exact hlo⟩) (fun h => by cases h) (Nat.le_refl _) h2
     simp at this
     simp [Instr.sliceBounds, hb, this]
theorem ok_slice (hr : HR P ι w B L) {t : TypeId} {x r : AV} {lo hi mx : Option AV} {u : Value} {ulo uhi umx : Option Value} (hx : V ι x u) (hlo : VO ι lo ulo) (hhi : VO ι hi uhi) (hmx : VO ι mx umx)
  (h : aslice P L t x lo hi mx = some r) : ∃ z, (Instr.sliceAt t u ulo uhi umx).run P w = .ok z w ∧ V ι r z := by
 unfold aslice at h
 split at h
 · simp at h
 cases umx with
 | some _ => exact hmx.elim
 | none =>
 split at h
 · rename_i n e a hk
   split at h
   · cases ulo with
     | some _ => exact hlo.elim
     | none =>
     cases uhi with
     | some _ => exact hhi.elim
     | none =>
     obtain ⟨l, hl, hsub, rfl⟩ := hx.ptr_inv
     unfold asliceA at h
     split at h
     · rename_i cs e' hL
       split at h
       · rename_i hc
         obtain ⟨hg, hpos⟩ := hc
         simp at h; subst h
         obtain ⟨l', hl', hR, _⟩ := hr.obj a.b _ hL
         simp only [AObj.gen] at hl'
         rw [hg, hl] at hl'; cases hl'
         obtain ⟨cur, fz, _, _, _, _, h5, _⟩ := hR
         have hx0 := h5 rfl
         refine ⟨.slice (some (if n = 0 then l.at a.off else (l.at a.off).add (0 * tsz P e))) n n, ?_, ?_⟩
         · simp [Instr.sliceAt, Instr.sliceBounds, run_underlying (tk_arr hk), Instr.sureAddr, run_sizeOf hpos]
         · simp only [V, Va, Vc, Vp]
           refine ⟨trivial, Nat.le_refl _, l, hl, hsub, by omega, fun _ => ?_⟩
           split
           · rfl
           · rw [Loc.at_add _ _ _ hsub]; simp
       · simp at h
     · simp at h
   · simp at h
 · rename_i s hk
   obtain rfl := hx.str_inv
   have hu := tk_str hk
   split at h
   · rename_i hh hhb
     split at h
     · rename_i ll hlb
       simp at h; subst h
       obtain ⟨h1, h2, h3⟩ := run_bounds (P := P) (w := w) (isS := false) hlo hhi (Nat.le_refl _) hhb hlb
       refine ⟨.string ((ByteArray.mk s.toArray).extract ll hh), by simp [Instr.sliceAt, Instr.slice, run_underlying hu, size_of, h1], ?_⟩
       simp only [V, Va, Vc, Vp]
       rw [ByteArray.data_extract, Array.toList_extract, List.extract_eq_take_drop]
     · simp at h
   · simp at h
 · rename_i e a n c hk
   have hu := tk_slice hk
   split at h
   · rename_i hh hhb
     split at h
     · rename_i ll hlb
       split at h
       · rename_i hpos
         simp at h; subst h
         cases a with
         | none =>
          obtain ⟨rfl, rfl, rfl⟩ := hx.sl_none
          obtain ⟨h1, h2, h3⟩ := run_bounds (P := P) (w := w) (isS := true) hlo hhi (Nat.le_refl _) hhb hlb
          have hh0 : hh = 0 := by
           cases hi with
           | none => simp [bound] at hhb; omega
           | some y => have := h3 rfl; omega
          have hl0 : ll = 0 := by omega
          subst hh0; subst hl0
          exact ⟨.slice none 0 0, by simp [Instr.sliceAt, Instr.slice, run_underlying hu, h1, run_sizeOf hpos], by simp [V, Va, Vc, Vp]⟩
         | some a =>
          obtain ⟨p, l, rfl, hnc, hl, hsub, hp⟩ := hx.sl_inv
          obtain ⟨h1, h2, h3⟩ := run_bounds (P := P) (w := w) (isS := true) (c' := c + l.extra) hlo hhi (by omega) hhb hlb
          have hhc : hh ≤ c := by
           cases hi with
           | none => simp [bound] at hhb; omega
           | some y => exact h3 rfl
          refine ⟨.slice (if c + l.extra = ll then some p else some (p.add (ll * tsz P e))) (hh - ll) (c + l.extra - ll), ?_, ?_⟩
          · simp [Instr.sliceAt, Instr.slice, run_underlying hu, h1, run_sizeOf hpos]
          · split
            · rename_i he
              simp only [V, Va, Vc, Vp, Option.map]
              refine ⟨trivial, by omega, l, hl, Nat.le_trans hsub (Nat.le_add_right _ _), by omega, fun h0 => by omega⟩
            · rename_i he
              simp only [V, Va, Vc, Vp, Option.map]
              refine ⟨trivial, by omega, l, hl, Nat.le_trans hsub (Nat.le_add_right _ _), by omega, fun h0 => ?_⟩
              rw [hp (by omega), Loc.at_add _ _ _ hsub]
       · simp at h
     · simp at h
   · simp at h
 · simp at h
theorem foldl_set : ∀ (us : List Value) (k : Nat) (arr : Array Value) (off : Nat),
  ((us.zipIdx k).foldl (fun (a : Array Value) (x : Value × Nat) => a.setIfInBounds (off + x.2) x.1) arr).size = arr.size ∧
  ∀ j, ((us.zipIdx k).foldl (fun (a : Array Value) (x : Value × Nat) => a.setIfInBounds (off + x.2) x.1) arr)[j]? =
   if off + k ≤ j ∧ j < off + k + us.length ∧ j < arr.size then us[j - (off + k)]? else arr[j]?
 | [], k, arr, off => by
  refine ⟨rfl, fun j => ?_⟩
  rw [if_neg (by simp; omega)]
  rfl
 | u :: us, k, arr, off => by
  obtain ⟨h1, h2⟩ := foldl_set us (k + 1) (arr.setIfInBounds (off + k) u) off
  simp only [List.zipIdx_cons, List.foldl_cons]
  refine ⟨by simpa using h1, fun j => ?_⟩
  rw [h2 j]
  simp only [Array.size_setIfInBounds, List.length_cons]
  by_cases hj : j = off + k
  · subst hj
    rw [if_neg (by omega)]
    by_cases hlt : off + k < arr.size
    · rw [if_pos (by omega)]
      simp [hlt]
    · rw [if_neg (by omega)]
      simp [hlt]
  · by_cases hr : off + (k + 1) ≤ j ∧ j < off + (k + 1) + us.length ∧ j < arr.size
    · rw [if_pos hr, if_pos (by omega)]
      rw [show j - (off + k) = (j - (off + (k + 1))) + 1 by omega]
      simp
    · rw [if_neg hr, if_neg (by omega)]
      rw [Array.getElem?_setIfInBounds_ne (by omega)]
theorem place_fold {R : AV → Value → Prop} {vs cs cs' : List AV} {us : List Value} {arr : Array Value} {off : Nat} (hv : L2 R vs us) (hc : L2 R cs arr.toList) (hle : off + vs.length ≤ cs.length)
  (hp : Put cs cs' off vs) : L2 R cs' ((us.zipIdx.foldl (fun (a : Array Value) (x : Value × Nat) => a.setIfInBounds (off + x.2) x.1) arr).toList) := by
 obtain ⟨h1, h2⟩ := foldl_set us 0 arr off
 have hlv := hv.length
 have hlc := hc.length
 simp only [Array.length_toList] at hlc
 refine L2.of_get (by rw [hp.1, hlc, Array.length_toList, h1]) fun i a ha => ?_
 have hi : i < cs'.length := (List.getElem?_eq_some_iff.1 ha).1
 rw [hp.1, hlc] at hi
 rcases hp.2 i a ha with ⟨k1, k2⟩ | ⟨k1, k2⟩
 · have hk : i - off < vs.length := (List.getElem?_eq_some_iff.1 k2).1
   obtain ⟨u, hu, hr⟩ := hv.get _ a k2
   refine ⟨u, ?_, hr⟩
   rw [Array.getElem?_toList, h2 i, if_pos (by omega)]
   simpa using hu
 · obtain ⟨u, hu, hr⟩ := hc.get _ a k2
   refine ⟨u, ?_, hr⟩
   rw [Array.getElem?_toList, h2 i, if_neg (by omega)]
   simpa using hu
def PartsR (ι : Inj) (x : Nat × AV) (y : Nat × Value) : Prop := x.1 = y.1 ∧ V ι x.2 y.2
theorem fill_ok : ∀ {parts : List (Nat × AV)} {qs : List (Nat × Value)} {place : Nat → Option (Nat × Nat)} {cs out : List AV} {arr : Array Value}, L2 (PartsR ι) parts qs → L2 (Vc ι) cs arr.toList →
  afill place cs parts = some out → ∃ arr', Instr.fill place arr qs = some arr' ∧ L2 (Vc ι) out arr'.toList
 | [], [], place, cs, out, arr, _, hc, h => by
  simp [afill] at h; subst h
  exact ⟨arr, rfl, hc⟩
 | (i, v) :: parts, (i', u) :: qs, place, cs, out, arr, hp, hc, h => by
  obtain ⟨⟨rfl, hv⟩, hps⟩ := hp
  simp only at hv
  unfold afill at h
  unfold Instr.fill
  split at h
  · simp at h
  · rename_i off size hpl
    split at h
    · simp at h
    · rename_i hn
      simp only [not_or, Nat.not_lt, Bool.not_eq_false] at hn
      obtain ⟨hsz, hle, hone⟩ := hn
      have hsz : v.cells.length = size := Decidable.not_not.1 hsz
      have hcells := hv.cells hone
      have hl := hcells.length
      have hlc := hc.length
      simp only [Array.length_toList] at hl hlc
      have hcond : ¬ (u.cells.size ≠ size ∨ off + u.cells.size > arr.size) := by omega
      have hcond' : (decide (u.cells.size ≠ size) || decide (off + u.cells.size > arr.size)) = false := by
       simp; omega
      rw [hpl]
      simp only [hcond', Bool.false_eq_true, if_false]
      have hpf := place_fold hcells hc hle (put_one (v := v) hle)
      obtain ⟨arr', h1, h2⟩ := fill_ok (place := place) hps hpf h
      refine ⟨arr', ?_, h2⟩
      rw [← h1]
      congr 1
      rw [← Array.foldl_toList]
      simp
 | [], _ :: _, _, _, _, _, hp, _, _ => hp.elim
 | _ :: _, [], _, _, _, _, hp, _, _ => hp.elim
theorem ok_build {t : TypeId} {parts : List (Nat × AV)} {qs : Array (Nat × Value)} {r : AV} (hp : L2 (PartsR ι) parts qs.toList) (h : abuild P t parts = some r) :
  ∃ z, (Instr.build t qs).run P w = .ok z w ∧ V ι r z := by
 unfold abuild at h
 split at h
 · rename_i z hz hk
   obtain ⟨fs, hu⟩ := tk_struct hk
   split at h
   · rename_i pl hpl
     cases hf : afill (fun i => pl[i]?) z.cells parts with
     | none => simp [hf] at h
     | some out =>
      simp [hf] at h; subst h
      obtain ⟨i, zv, hi, hiz, _, habs⟩ := zero_of hz
      obtain ⟨arr', h1, h2⟩ := fill_ok hp (absV_cells habs ι).1 hf
      refine ⟨.agg arr', run_build w t qs arr' ?_, h2⟩
      unfold tplaces at hpl
      rw [hu] at hpl
      simp only at hpl
      unfold Program.built
      simp only [hi, hu, hiz, hpl]
      simpa using h1
   · simp at h
 · rename_i z n e hz hk
   have hu := tk_arr hk
   split at h
   · rename_i hpos
     obtain ⟨ie, hie, hs, _⟩ := info_of_tsz hpos
     cases hf : afill (fun i => some (i * tsz P e, tsz P e)) z.cells parts with
     | none => simp [hf] at h
     | some out =>
      simp [hf] at h; subst h
      obtain ⟨i, zv, hi, hiz, _, habs⟩ := zero_of hz
      obtain ⟨arr', h1, h2⟩ := fill_ok hp (absV_cells habs ι).1 hf
      refine ⟨.agg arr', run_build w t qs arr' ?_, h2⟩
      unfold Program.built
      simp only [hi, hu, hiz, hie, hs]
      exact h1
   · simp at h
 · simp at h
theorem new_cells (hr : HR P ι w B L) (hn : L next = none) (hf : ∀ g, ι next g = none) {cs : List AV} {e : TypeId} {g : Bool} {cur : Array Value} {fz : Nat × Nat} {extra : Nat} {w' : World}
  (hc : ∀ (i : Nat) x, cs[i]? = some x → ∃ v, cur[i]? = some v ∧ Vc ι x v) (hlen : cs.length + extra * tsz P e ≤ cur.size) (hg : g = false → extra = 0) (hfz : free cur.size fz)
  (hnew : w'.heap[w.heap.size]? = some (.cells cur e fz)) (hoth : ∀ c, c < w.heap.size → w'.heap[c]? = w.heap[c]?) (hs : Same w w') :
  Step P ι w B L (ι.set next cs.length ⟨w.heap.size, 0, 0, extra⟩) w' (upd L next (.new (.cells cs e g))) ∧
  (∀ b g' l', ι.set next cs.length ⟨w.heap.size, 0, 0, extra⟩ b g' = some l' → ι b g' = some l' ∨ b = next) := by
 have hlt : w.heap.size < w'.heap.size := (Array.getElem?_eq_some_iff.1 hnew).1
 exact hr_new hr hn hf (o := .cells cs e g) rfl hoth (Nat.le_of_lt hlt) ⟨Nat.le_refl _, hlt⟩ hs fun ι' he =>
  ⟨cur, fz, hnew, hfz, Nat.zero_le _, by simpa using hlen, hg, fun o x _ hx => by
   obtain ⟨v, hv, hr⟩ := hc o x hx
   exact ⟨v, by simpa using hv, hr.mono he⟩⟩
theorem alloc_new (w : World) (o : Obj) : (w.alloc o).heap[w.heap.size]? = some o := heap_alloc_new w o
theorem alloc_old (w : World) (o : Obj) (c : Nat) (h : c < w.heap.size) : (w.alloc o).heap[c]? = w.heap[c]? := heap_alloc_old w o c h
theorem free_zero (n : Nat) : free n (0, 0) := .inl rfl
theorem new_alloc (hr : HR P ι w B L) (hn : L next = none) (hf : ∀ g, ι next g = none) {cs : List AV} {e : TypeId} {g : Bool} {vs : Array Value} (hc : L2 (Vc ι) cs vs.toList) :
  Step P ι w B L (ι.set next cs.length ⟨w.heap.size, 0, 0, 0⟩) (w.alloc (.cells vs e)) (upd L next (.new (.cells cs e g))) ∧
  (∀ b g' l', ι.set next cs.length ⟨w.heap.size, 0, 0, 0⟩ b g' = some l' → ι b g' = some l' ∨ b = next) := by
 have hl := hc.length
 simp only [Array.length_toList] at hl
 refine new_cells hr hn hf (fz := (0, 0)) (extra := 0) (fun i x hx => ?_) (by omega) (fun _ => rfl) (free_zero _) (alloc_new _ _) (fun c h => alloc_old _ _ c h) ⟨rfl, rfl, rfl⟩
 obtain ⟨v, hv, h⟩ := hc.get i x hx
 exact ⟨v, by simpa using hv, h⟩
theorem V_new (ι : Inj) (b n : Nat) (l : Loc) (hl : l.sub = 0) (ha : l.add = 0) : V (ι.set b n l) (.ptr (some ⟨b, 0, n⟩)) (.pointer (some ⟨l.blk, 0, none⟩)) := by
 simp only [V, Va, Vc, Vp]
 exact ⟨l, Inj.set_same .., by omega, by simp [Loc.at, ha]⟩
theorem ok_alloc (hr : HR P ι w B L) (hn : L next = none) (hf : ∀ g, ι next g = none) {t : TypeId} {z : AV} (hz : tzero P t = some z) :
  ∃ w' u, (Instr.alloc t true (.tuple #[])).run P w = .ok u w' ∧ V (ι.set next z.cells.length ⟨w.heap.size, 0, 0, 0⟩) (.ptr (some ⟨next, 0, z.cells.length⟩)) u ∧
   Step P ι w B L (ι.set next z.cells.length ⟨w.heap.size, 0, 0, 0⟩) w' (upd L next (.new (.cells z.cells t false))) ∧
   (∀ b g' l', ι.set next z.cells.length ⟨w.heap.size, 0, 0, 0⟩ b g' = some l' → ι b g' = some l' ∨ b = next) := by
 obtain ⟨i, zv, hi, hiz, _, habs⟩ := zero_of hz
 have hc := (absV_cells habs ι).1
 refine ⟨w.alloc (.cells zv.cells t), .pointer (some ⟨w.heap.size, 0, none⟩), ?_, V_new _ _ _ _ rfl rfl, new_alloc hr hn hf hc⟩
 simp [Instr.alloc, run_zeroValue hi hiz, newVar, newRow]
theorem ok_box (hr : HR P ι w B L) (hn : L next = none) (hf : ∀ g, ι next g = none) {t : TypeId} {x : AV} {v : Value} (hx : V ι x v) (hone : x.cells.all AV.one = true) :
  ∃ w' u, (Instr.box t v).run P w = .ok u w' ∧ V (ι.set next x.cells.length ⟨w.heap.size, 0, 0, 0⟩) (.ptr (some ⟨next, 0, x.cells.length⟩)) u ∧
   Step P ι w B L (ι.set next x.cells.length ⟨w.heap.size, 0, 0, 0⟩) w' (upd L next (.new (.cells x.cells t false))) ∧
   (∀ b g' l', ι.set next x.cells.length ⟨w.heap.size, 0, 0, 0⟩ b g' = some l' → ι b g' = some l' ∨ b = next) := by
 have hc := hx.cells hone
 refine ⟨w.alloc (.cells v.cells t), .pointer (some ⟨w.heap.size, 0, none⟩), ?_, V_new _ _ _ _ rfl rfl, new_alloc hr hn hf hc⟩
 simp [Instr.box, newVar, newRow]
theorem zeros_length (z : List AV) : ∀ n, (zeros z n).length = n * z.length
 | 0 => by simp [zeros]
 | n + 1 => by simp [zeros, zeros_length z n, Nat.add_mul]; omega
theorem zeros_get (z : List AV) (hz : 0 < z.length) : ∀ (n i : Nat), i < n * z.length → (zeros z n)[i]? = z[i % z.length]?
 | 0, i, h => by simp at h
 | n + 1, i, h => by
  simp only [zeros, List.getElem?_append]
  split
  · rename_i hi
    rw [Nat.mod_eq_of_lt hi]
  · rename_i hi
    rw [zeros_get z hz n (i - z.length) (by rw [Nat.succ_mul] at h; omega)]
    rw [Nat.mod_eq_sub_mod (a := i) (by omega)]
theorem zeros_L2 {z : List AV} {zv : Array Value} (h : L2 (Vc ι) z zv.toList) (hz : 0 < z.length) (n : Nat) :
  L2 (Vc ι) (zeros z n) ((Array.range (n * z.length)).map (zv[· % zv.size]!)).toList := by
 have hl := h.length
 simp only [Array.length_toList] at hl
 refine L2.of_get (by simp [zeros_length]) fun i a ha => ?_
 have hi : i < n * z.length := by
  have := (List.getElem?_eq_some_iff.1 ha).1
  rwa [zeros_length] at this
 rw [zeros_get z hz n i hi] at ha
 obtain ⟨v, hv, hr⟩ := h.get _ a ha
 refine ⟨v, ?_, hr⟩
 have hm : i % zv.size < zv.size := Nat.mod_lt _ (by omega)
 rw [hl] at hv
 simp only [Array.getElem?_toList] at hv ⊢
 rw [Array.getElem?_map, Array.getElem?_range, if_pos hi, Option.map_some, getElem!_pos zv (i % zv.size) hm]
 rw [Array.getElem?_eq_getElem hm] at hv
 exact hv
theorem ok_buildSlice (hr : HR P ι w B L) {t : TypeId} {n : Nat} {parts : List (Nat × AV)} {qs : Array (Nat × Value)} {r : AV} {δ : Delta}
  (hp : L2 (PartsR ι) parts qs.toList) (h : abuildSlice P next t n parts = some (r, δ)) (hnf : (∃ o, δ = .new o) → L next = none ∧ ∀ g, ι next g = none) :
  ∃ ι' w' u, (Instr.buildSlice t n qs).run P w = .ok u w' ∧ V ι' r u ∧ Step P ι w B L ι' w' (upd L next δ) ∧ (∀ b g' l', ι' b g' = some l' → ι b g' = some l' ∨ δ.touches next b) := by
 unfold abuildSlice at h
 split at h
 · rename_i e hk
   have hu := tk_slice hk
   split at h
   · rename_i z hz
     split at h
     · rename_i hc
       obtain ⟨hzl, hpos, hle⟩ := hc
       split at h
       · rename_i cs hfill
         simp at h
         obtain ⟨rfl, rfl⟩ := h
         obtain ⟨i, zv, hi, hiz, _, habs⟩ := zero_of hz
         have hz2 := zeros_L2 (absV_cells habs ι).1 (by omega) n
         obtain ⟨arr', h1, h2⟩ := fill_ok hp hz2 hfill
         have hst := new_alloc hr (hnf ⟨_, rfl⟩).1 (hnf ⟨_, rfl⟩).2 (e := e) (g := true) h2
         refine ⟨_, _, .slice (some ⟨w.heap.size, 0, none⟩) n n, ?_, ?_, hst.1, hst.2⟩
         · rw [hzl] at h1
           have hne : ¬ (2 ^ 24 < n * tsz P e) := by omega
           by_cases h0 : n * tsz P e = 0
           · simp only [h0, Array.range_zero', Array.map_empty] at h1
             simp [Instr.buildSlice, run_underlying hu, run_sizeOf hpos, h0, h1, newRow, Array.range_zero']
           · simp [Instr.buildSlice, run_underlying hu, run_sizeOf hpos, hne, h0, run_zeroValue hi hiz, h1, newRow]
         · simp only [V, Va, Vc, Vp]
           exact ⟨trivial, Nat.le_refl _, _, Inj.set_same .., Nat.le_refl _, by simp, fun _ => by simp [Loc.at]⟩
       · simp at h
     · simp at h
   · simp at h
 · simp at h
theorem ok_makeSlice (hr : HR P ι w B L) {t : TypeId} {a c r : AV} {u v : Value} {δ : Delta}
  (ha : V ι a u) (hc : V ι c v) (h : amakeSlice P next t a c = some (r, δ)) (hnf : (∃ o, δ = .new o) → L next = none ∧ ∀ g, ι next g = none) :
  ∃ ι' w' z, (Instr.makeSlice t u v).run P w = .ok z w' ∧ V ι' r z ∧ Step P ι w B L ι' w' (upd L next δ) ∧ (∀ b g' l', ι' b g' = some l' → ι b g' = some l' ∨ δ.touches next b) := by
 unfold amakeSlice at h
 split at h
 · rename_i e l n hk
   have hu := tk_slice hk
   obtain rfl := ha.int_inv
   obtain rfl := hc.int_inv
   split at h
   · rename_i z hz
     split at h
     · rename_i hcond
       obtain ⟨hzl, hpos, h0, hln, hb, h63⟩ := hcond
       simp at h
       obtain ⟨rfl, rfl⟩ := h
       obtain ⟨i, zv, hi, hiz, _, habs⟩ := zero_of hz
       obtain ⟨ie, hie, hs, hby⟩ := info_of_tsz hpos
       rw [hi] at hie; cases hie
       have hz2 := zeros_L2 (absV_cells habs ι).1 (by omega) n.toNat
       have hst := new_alloc hr (hnf ⟨_, rfl⟩).1 (hnf ⟨_, rfl⟩).2 (e := e) (g := true) hz2
       rw [zeros_length, hzl] at hst
       refine ⟨_, _, .slice (some ⟨w.heap.size, 0, none⟩) l.toNat n.toNat, ?_, ?_, hst.1, hst.2⟩
       · have := run_make (P := P) w t e i zv hu hi hiz .i64 .i64 l n h0 hln (by rw [hby]; exact hb) h63
         rw [this, hs]
         rfl
       · simp only [V, Va, Vc, Vp]
         exact ⟨trivial, by omega, _, Inj.set_same .., Nat.le_refl _, by simp, fun _ => by simp [Loc.at]⟩
     · simp at h
   · simp at h
 · simp at h
end Go.AM
namespace Go.AM
open Go
set_option linter.unusedVariables false
set_option linter.unusedSimpArgs false
variable {P : Program} {ι : Inj} {w : World} {B : Base} {L : Look} {next : Nat}
theorem byteCells_L2 (ι : Inj) (s : List UInt8) : L2 (Vc ι) (byteCells s) ((s.toArray.map fun b => Value.int .u8 (b.toNat : Int)).toList) := by
 unfold byteCells
 simp only [Array.toList_map]
 induction s with
 | nil => trivial
 | cons c s ih => exact ⟨⟨rfl, rfl⟩, ih⟩
theorem cellBytes_spec : ∀ {cs : List AV} {s : List UInt8} {vs : List Value}, cellBytes cs = some s → L2 (Vc ι) cs vs →
  ∃ ns : List Int, vs = ns.map (Value.int .u8) ∧ s = ns.map fun n => UInt8.ofNat n.toNat
 | [], s, [], h, _ => by simp [cellBytes] at h; subst h; exact ⟨[], rfl, rfl⟩
 | c :: cs, s, v :: vs, h, hv => by
  unfold cellBytes at h
  split at h
  · simp_all
  · rename_i n r heq
    simp at heq
    obtain ⟨rfl, rfl⟩ := heq
    cases hr : cellBytes cs with
    | none => simp [hr] at h
    | some s' =>
     simp [hr] at h; subst h
     obtain ⟨ns, h1, h2⟩ := cellBytes_spec hr hv.2
     have := (V.of_Vc hv.1).int_inv
     exact ⟨n :: ns, by simp [this, h1], by simp [h2]⟩
  · simp at h
 | [], _, _ :: _, _, hv => hv.elim
 | _ :: _, _, [], _, hv => hv.elim
theorem foldl_push : ∀ (ns : List Int) (s : ByteArray), (ns.foldl (fun r n => r.push (UInt8.ofNat n.toNat)) s).data.toList = s.data.toList ++ ns.map fun n => UInt8.ofNat n.toNat
 | [], s => by simp
 | n :: ns, s => by
  simp only [List.foldl_cons, List.map_cons]
  rw [foldl_push ns]
  simp [ByteArray.push]
theorem slCells_run (hr : HR P ι w B L) {e : TypeId} {a : AA} {n c : Nat} {cs : List AV} {p : Addr} {l : Loc} (hl : ι a.b a.gen = some l) (hsub : l.sub ≤ a.off)
  (h : slCells P L e (.sl (some a) n c) = some cs) :
  ∃ vs : List Value, L2 (Vc ι) cs vs ∧ vs.length = n * tsz P e ∧ (∀ (j : Nat) v, vs[j]? = some v → w.cell? ((l.at a.off).add j) = some v) := by
 unfold slCells at h
 split at h
 · rename_i heq; simp at heq
 · rename_i a' n' c' heq
   simp only [AV.sl.injEq, Option.some.injEq] at heq
   obtain ⟨rfl, rfl, rfl⟩ := heq
   split at h
   · rename_i cs' hrow
     split at h
     · rename_i hle
       simp at h; subst h
       obtain ⟨vs, h1, h2, h3, _⟩ := cells_run hr hrow hl hsub hle
       exact ⟨vs, h1, h2, h3⟩
     · simp at h
   · simp at h
 · rename_i hne; simp at hne
theorem ok_conv (hr : HR P ι w B L) {s d : TypeId} {x r : AV} {u : Value} {δ : Delta} (hx : V ι x u) (h : aconv P L next s d x = some (r, δ)) (hnf : (∃ o, δ = .new o) → L next = none ∧ ∀ g, ι next g = none) :
  ∃ ι' w' z, (convert s d u).run P w = .ok z w' ∧ V ι' r z ∧ Step P ι w B L ι' w' (upd L next δ) ∧ (∀ b g' l', ι' b g' = some l' → ι b g' = some l' ∨ δ.touches next b) := by
 unfold aconv at h
 split at h
 · rename_i k1 k2 k n hs hd
   obtain rfl := hx.int_inv
   simp at h
   obtain ⟨rfl, rfl⟩ := h
   exact ⟨ι, w, _, by simp [convert, run_underlying (tk_int hs), run_underlying (tk_int hd), Conv.intToInt], .int _ _ _, .refl hr, fun _ _ _ h => .inl h⟩
 · rename_i k1 k n hs hd
   obtain rfl := hx.int_inv
   simp at h
   obtain ⟨rfl, rfl⟩ := h
   exact ⟨ι, w, .string (Utf8.encode n), by simp [convert, run_underlying (tk_int hs), run_underlying (tk_str hd), Conv.intToString], rfl, .refl hr, fun _ _ _ h => .inl h⟩
 · rename_i s hs hd
   obtain rfl := hx.str_inv
   simp at h
   obtain ⟨rfl, rfl⟩ := h
   exact ⟨ι, w, _, by simp [convert, run_underlying (tk_str hs), run_underlying (tk_str hd)], .str _ _, .refl hr, fun _ _ _ h => .inl h⟩
 · rename_i e s hs hd
   obtain rfl := hx.str_inv
   split at h
   · rename_i hc
     obtain ⟨he, hsz⟩ := hc
     simp at h
     obtain ⟨rfl, rfl⟩ := h
     have hge : s.length ≤ grownCap w s.length 0 e := grownCap_ge w s.length 0 e
     have hst := new_cells hr (hnf ⟨_, rfl⟩).1 (hnf ⟨_, rfl⟩).2 (cs := byteCells s) (e := e) (g := true) (cur := Lib.bytesCells w e ⟨s.toArray⟩) (fz := ((Lib.bytesCells w e ⟨s.toArray⟩).size, (Lib.bytesCells w e ⟨s.toArray⟩).size + 1))
      (extra := grownCap w s.length 0 e - s.length) (w' := Lib.bytesWorld w e ⟨s.toArray⟩) (fun i x hx => by
       obtain ⟨v, hv, hc⟩ := (byteCells_L2 ι s).get i x hx
       refine ⟨v, ?_, hc⟩
       have hi : i < s.length := by have := (List.getElem?_eq_some_iff.1 hx).1; simpa [byteCells] using this
       unfold Lib.bytesCells
       rw [Array.getElem?_append_left (by simpa using hi)]
       simpa using hv) (by simp [byteCells, Lib.bytesCells, size_of, hsz]) (by simp) (.inr (Nat.le_refl _)) (Lib.bytesWorld_at_new w e _)
      (fun c hc => Lib.bytesWorld_at_old w e _ c hc) ⟨by first | rfl | (simp [Lib.bytesWorld, World.freeze]; done) | (simp [Lib.bytesWorld, World.freeze]; rfl), by first | rfl | (simp [Lib.bytesWorld, World.freeze]; done) | (simp [Lib.bytesWorld, World.freeze]; rfl), by first | rfl | (simp [Lib.bytesWorld, World.freeze]; done) | (simp [Lib.bytesWorld, World.freeze]; rfl)⟩
     have hlen : (byteCells s).length = s.length := by simp [byteCells]
     rw [hlen] at hst
     refine ⟨_, _, _, Lib.run_convert_string_bytes w _ _ e ⟨s.toArray⟩ (tk_str hs) (tk_slice hd) (tk_int he), ?_, hst.1, hst.2⟩
     simp only [V, Va, Vc, Vp]
     exact ⟨rfl, Nat.le_refl _, _, Inj.set_same .., Nat.le_refl _, by simp only [size_of]; omega, fun _ => by simp [Loc.at]⟩
   · simp at h
 · rename_i e e2 a n c hs hd
   obtain ⟨p, l, rfl, hnc, hl, hsub, hp⟩ := hx.sl_inv
   split at h
   · rename_i cs e' g hL
     split at h
     · rename_i hc
       obtain ⟨rfl, he, hpos, hg⟩ := hc
       simp at h
       obtain ⟨rfl, rfl⟩ := h
       obtain rfl := hp (by omega)
       rw [← hg] at hl
       obtain ⟨l', hl', hR, hB⟩ := hr.obj a.b _ hL
       simp only [AObj.gen] at hl'
       rw [hl] at hl'; cases hl'
       obtain ⟨cur, fz, h1, h2, h3, h4, h5, h6⟩ := hR
       have hlt : l.blk < w.heap.size := (Array.getElem?_eq_some_iff.1 h1).1
       have hget : w.heap[l.blk] = .cells cur e' fz := (Array.getElem?_eq_some_iff.1 h1).2
       have hfr : (w.freeze ⟨l.blk, cur.size, none⟩ 1).heap[l.blk]? = some (.cells cur e' (if fz.1 == fz.2 then (cur.size, cur.size + 1) else (min fz.1 cur.size, max fz.2 (cur.size + 1)))) := by
        simp only [World.freeze, Nat.one_ne_zero, if_false]
        rw [Array.getElem?_eq_getElem (by simpa using hlt), Array.getElem_modify_self]
        simp only [hget]
       have hoth : ∀ c, c < w.heap.size → c ≠ l.blk → (w.freeze ⟨l.blk, cur.size, none⟩ 1).heap[c]? = w.heap[c]? := by
        intro c _ hc
        simp only [World.freeze, Nat.one_ne_zero, if_false]
        rw [Array.getElem?_modify]
        simp [Ne.symm hc]
       have hsz : w.heap.size ≤ (w.freeze ⟨l.blk, cur.size, none⟩ 1).heap.size := by simp [World.freeze]
       have hturn := hr_turn (next := next) hr (b := a.b) (o := .cells cs e' g) (o' := .cells cs e' g) (l := l) (l' := l) (w' := w.freeze ⟨l.blk, cur.size, none⟩ 1) hL rfl hl rfl
        (Nat.le_refl _) (fun _ => rfl) hoth hsz (.inl rfl) ⟨by simp [World.freeze], by simp [World.freeze], by simp [World.freeze]⟩ (fun ι' hee => by
         refine ⟨cur, _, hfr, ?_, h3, h4, h5, fun o x ho hx => ?_⟩
         · split
           · exact .inr (Nat.le_refl _)
           · rename_i hne
             have hne : fz.1 ≠ fz.2 := by simpa using hne
             rcases h2 with h2 | h2
             · exact absurd h2 hne
             · exact .inr (by simp only; omega)
         · obtain ⟨v, hv, hc⟩ := h6 o x ho hx
           exact ⟨v, hv, hc.mono hee⟩)
       refine ⟨_, _, .slice (some (l.at a.off)) n (c + l.extra), ?_, hx.mono hturn.1.ext, hturn.1, fun b0 g0 l1 h => hturn.2 b0 g0 l1 h⟩
       have hshape : w.shape? l.blk = some (e', cur.size) := by simp [World.shape?, h1]
       simp [convert, run_underlying (tk_slice hs), run_underlying (tk_int he), markStringish, hshape, Loc.at]
     · simp at h
   · simp at h
 · rename_i e n c hs hd
   obtain ⟨rfl, _, _⟩ := hx.sl_none
   split at h
   · rename_i he
     simp at h
     obtain ⟨rfl, rfl⟩ := h
     exact ⟨ι, w, .string .empty, by simp [convert, run_underlying (tk_slice hs), run_underlying (tk_str hd), run_underlying (tk_int he), Conv.bytesToString], rfl, .refl hr, fun _ _ _ h => .inl h⟩
   · simp at h
 · rename_i e a n c hs hd
   obtain ⟨p, l, rfl, hnc, hl, hsub, hp⟩ := hx.sl_inv
   split at h
   · rename_i hc
     obtain ⟨he, hsz⟩ := hc
     split at h
     · rename_i cs hcs
       cases hb : cellBytes cs with
       | none => simp [hb] at h
       | some s =>
        simp [hb] at h
        obtain ⟨rfl, rfl⟩ := h
        obtain ⟨vs, h1, h2, h3⟩ := slCells_run (p := p) hr hl hsub hcs
        obtain ⟨ns, rfl, rfl⟩ := cellBytes_spec hb h1
        rw [hsz, Nat.mul_one] at h2
        have hload : (loadCells p n).run P w = .ok (ns.map (Value.int .u8)).toArray w := by
         by_cases h0 : n = 0
         · subst h0
           have : ns = [] := by simpa using h2
           subst this
           simp [loadCells, loadCellsFrom]
         · have := run_loadCells_list (P := P) w p (ns.map (Value.int .u8)) (by rw [hp (by omega)]; exact h3)
           rw [h2] at this
           exact this
        refine ⟨ι, w, _, by rw [run_convert_bytes_string w _ _ e _ _ _ (tk_slice hs) (tk_int he) (tk_str hd)]; exact run_bytesToString w p n _ ns hload, ?_, .refl hr, fun _ _ _ h => .inl h⟩
        simp only [V, Va, Vc, Vp]
        rw [foldl_push]
        rfl
     · simp at h
   · simp at h
 · simp at h
theorem src_run (hr : HR P ι w B L) {e : TypeId} {x : AV} {u : Value} {n : Nat} {src : List AV} (hx : V ι x u) (hpos : 0 < tsz P e) (h : srcCells P L e x = some (n, src)) :
  ∃ news : List Value, L2 (Vc ι) src news ∧ news.length = n * tsz P e ∧ (∀ w' : World, (Builtin.lenOf u).run P w' = .ok n w') ∧
   (∀ w' : World, w'.heap = w.heap → (Builtin.firstCells (tsz P e) n u).run P w' = .ok news.toArray w') := by
 unfold srcCells at h
 split at h
 · obtain ⟨rfl, _, _⟩ := hx.sl_none
   simp at h
   obtain ⟨rfl, rfl⟩ := h
   exact ⟨[], trivial, by simp, fun w' => by simp [Builtin.lenOf], fun w' _ => by simp [Builtin.firstCells]⟩
 · rename_i a m c
   obtain ⟨p, l, rfl, hnc, hl, hsub, hp⟩ := hx.sl_inv
   split at h
   · rename_i h0
     subst h0
     simp at h
     obtain ⟨rfl, rfl⟩ := h
     exact ⟨[], trivial, by simp, fun w' => by simp [Builtin.lenOf], fun w' _ => by simp [Builtin.firstCells, loadCells, loadCellsFrom]⟩
   · rename_i h0
     cases hc : slCells P L e (.sl (some a) m c) with
     | none => simp [hc] at h
     | some cs =>
      simp [hc] at h
      obtain ⟨rfl, rfl⟩ := h
      obtain ⟨vs, h1, h2, h3⟩ := slCells_run (p := p) hr hl hsub hc
      obtain rfl := hp (by omega)
      refine ⟨vs, h1, h2, fun w' => by simp [Builtin.lenOf], fun w' hw => ?_⟩
      refine run_firstCells_some w' (tsz P e) m _ m _ vs h2 fun j v hv => ?_
      have := h3 j v hv
      unfold World.cell? at this ⊢
      rw [hw]; exact this
 · rename_i s
   obtain rfl := hx.str_inv
   split at h
   · rename_i hsz
     simp at h
     obtain ⟨rfl, rfl⟩ := h
     refine ⟨(s.toArray.map fun b => Value.int .u8 (b.toNat : Int)).toList, byteCells_L2 ι s, by simp [hsz], fun w' => by simp [Builtin.lenOf, size_of], fun w' _ => ?_⟩
     simp only [Builtin.firstCells, Sem.run_pure]
     congr 1
     have : (ByteArray.mk s.toArray).extract 0 s.length = ByteArray.mk s.toArray := by
      rw [← size_of s]
      ext1
      rw [ByteArray.data_extract]
      exact Array.extract_size
     rw [this]
   · simp at h
 · simp at h
theorem notInt_of {u : TypeId} {d : TypeDesc} (h : (∃ e, d = .slice e) ∨ d = .string) : (d matches .int _) = false := by
 rcases h with ⟨e, rfl⟩ | rfl <;> rfl
theorem run_append_fits' {t u ty e : TypeId} {d : TypeDesc} (ht : P.underlying t = some (.slice e)) (hu : P.underlying u = some d) (hd : (∃ e, d = .slice e) ∨ d = .string) (hpos : 0 < tsz P e)
  {base : Option Addr} {sLen sCap n : Nat} {x : Value} {news : List Value} (hlen : ∀ w' : World, (Builtin.lenOf x).run P w' = .ok n w')
  (hnew : ∀ w' : World, w'.heap = w.heap → (Builtin.firstCells (tsz P e) n x).run P w' = .ok news.toArray w') (hfit : sLen + n ≤ sCap) :
  (Builtin.append_ #[t, u] ty #[.slice base sLen sCap, x]).run P w =
   match base with
   | none => .ok (.slice none (sLen + n) sCap) w
   | some p => ((storeCells (p.add (sLen * tsz P e)) news 0).run P w).andThen fun _ w' => .ok (.slice (some p) (sLen + n) sCap) w' := by
 have hw := hnew w rfl
 rcases hd with ⟨e', rfl⟩ | rfl
 · cases base <;> simp [Builtin.append_, run_underlying ht, run_underlying hu, run_sizeOf hpos, hlen, hfit, hw]
 · cases base <;> simp [Builtin.append_, run_underlying ht, run_underlying hu, run_sizeOf hpos, hlen, hfit, hw]
theorem run_append_moves {t u ty e : TypeId} {d : TypeDesc} (ht : P.underlying t = some (.slice e)) (hu : P.underlying u = some d) (hd : (∃ e, d = .slice e) ∨ d = .string) (hpos : 0 < tsz P e)
  {base : Option Addr} {sLen sCap n : Nat} {x z : Value} {i : TypeInfo} {olds news : List Value} (hi : P.info? e = some i) (hz : i.zero = some z) (hlen : ∀ w' : World, (Builtin.lenOf x).run P w' = .ok n w')
  (hnew : ∀ w' : World, w'.heap = w.heap → (Builtin.firstCells (tsz P e) n x).run P w' = .ok news.toArray w')
  (hold : ∀ w' : World, w'.heap = w.heap → (Builtin.firstCells (tsz P e) sLen (.slice base sLen sCap)).run P w' = .ok olds.toArray w')
  (hfit : sCap < sLen + n) (hby : i.bytes = P.bytesOf e) (hroom : (sLen + n) * P.bytesOf e ≤ roomMax) (h63 : sLen + n ≤ 9223372036854775807) :
  (Builtin.append_ #[t, u] ty #[.slice base sLen sCap, x]).run P w =
   .ok (.slice (some ⟨w.heap.size, 0, none⟩) (sLen + n) (grownCap w (sLen + n) sCap e))
    (w.drew.alloc (.cells ((olds ++ news).toArray ++ Builtin.zeroCells z.cells (grownCap w (sLen + n) sCap e - (sLen + n))) e)) := by
 have hw := hnew w.drew rfl
 have ho := hold w.drew rfl
 have hn : ¬ (sLen + n ≤ sCap) := by omega
 have h63' : ¬ (9223372036854775807 < ((sLen : Int) + (n : Int))) := by omega
 have h48 := growslice_fits hfit hroom
 have h48' : ¬ (281474976710656 < Builtin.nextslicecap (sLen + n) sCap * i.bytes) := by rw [hby]; omega
 have hti : ∀ w' : World, (typeInfo e).run P w' = .ok i w' := fun w' => by simp [typeInfo, hi]
 rcases hd with ⟨e', rfl⟩ | rfl
 · simp [Builtin.append_, run_underlying ht, run_underlying hu, run_sizeOf hpos, hti, run_zeroValue hi hz, hlen, hn, h63', h48', Question.forced, hw, ho, newRow, grownCap]
   congr 2
   apply Array.ext'
   simp
 · simp [Builtin.append_, run_underlying ht, run_underlying hu, run_sizeOf hpos, hti, run_zeroValue hi hz, hlen, hn, h63', h48', Question.forced, hw, ho, newRow, grownCap]
   congr 2
   apply Array.ext'
   simp
theorem grownCap_of (w : World) (need old : Nat) (e : TypeId) : need ≤ grownCap w need old e := grownCap_ge w need old e
theorem zeroOK_spec {e : TypeId} (h : zeroOK P e = true) : ∃ i z, P.info? e = some i ∧ i.zero = some z ∧ z.cells.size = tsz P e := by
 unfold zeroOK at h
 split at h
 · rename_i z hz
   obtain ⟨i, zv, hi, hiz, _, habs⟩ := zero_of hz
   have := (absV_cells habs (fun _ _ => none)).1.length
   simp only [beq_iff_eq, Array.length_toList] at h this
   exact ⟨i, zv, hi, hiz, by omega⟩
 · simp at h
theorem size_zeroCells' (z : Array Value) (n : Nat) : (Builtin.zeroCells z n).size = n * z.size := by simp [Builtin.zeroCells]
theorem tk_src {u : TypeId} (h : (∃ e, tk P u = .slice e) ∨ tk P u = .str) : ∃ d, P.underlying u = some d ∧ ((∃ e, d = .slice e) ∨ d = .string) := by
 rcases h with ⟨e, h⟩ | h
 · exact ⟨_, tk_slice h, .inl ⟨e, rfl⟩⟩
 · exact ⟨_, tk_str h, .inr rfl⟩
def Cut (cs cs' : List AV) (o : Nat) (vs : List AV) : Prop :=
 cs'.length = o + vs.length ∧ ∀ (k : Nat) x, cs'[k]? = some x → (o ≤ k ∧ vs[k - o]? = some x) ∨ (k < o ∧ cs[k]? = some x)
theorem cut_of {cs vs : List AV} {o : Nat} (h : o ≤ cs.length) : Cut cs (cs.take o ++ vs) o vs := by
 refine ⟨by simp; omega, fun k x hx => ?_⟩
 rw [List.getElem?_append] at hx
 simp only [List.length_take] at hx
 have hm : min o cs.length = o := by omega
 rw [hm] at hx
 split at hx
 · rename_i hk
   rw [List.getElem?_take, if_pos hk] at hx
   exact .inr ⟨hk, hx⟩
 · exact .inl ⟨by omega, hx⟩
theorem ok_appendE (hr : HR P ι w B L) {t u ty e : TypeId} {d : TypeDesc} {s r : AV} {us ux : Value} {δ : Delta} {n : Nat} {src : List AV} {news : List Value}
  (ht : P.underlying t = some (.slice e)) (hu : P.underlying u = some d) (hd : (∃ e, d = .slice e) ∨ d = .string) (hpos : 0 < tsz P e)
  (hs : V ι s us) (hsrc : L2 (Vc ι) src news) (hnl : news.length = n * tsz P e) (hlen : ∀ w' : World, (Builtin.lenOf ux).run P w' = .ok n w')
  (hnew : ∀ w' : World, w'.heap = w.heap → (Builtin.firstCells (tsz P e) n ux).run P w' = .ok news.toArray w') (h : aappendE P L next e n src s = some (r, δ)) (hnf : (∃ o, δ = .new o) → L next = none ∧ ∀ g, ι next g = none) :
  ∃ ι' w' z, (Builtin.append_ #[t, u] ty #[us, ux]).run P w = .ok z w' ∧ V ι' r z ∧ Step P ι w B L ι' w' (upd L next δ) ∧ (∀ b g' l', ι' b g' = some l' → ι b g' = some l' ∨ δ.touches next b) := by
 have hsl := hsrc.length
 unfold aappendE at h
 split at h
 · obtain ⟨rfl, _, _⟩ := hs.sl_none
   split at h
   · rename_i h0
     subst h0
     simp at h
     obtain ⟨rfl, rfl⟩ := h
     refine ⟨ι, w, .slice none 0 0, ?_, by simp [V, Va, Vc, Vp], .refl hr, fun _ _ _ h => .inl h⟩
     rw [run_append_fits' ht hu hd hpos hlen hnew (by omega)]
   · rename_i h0
     split at h
     · rename_i hc
       obtain ⟨hroom, h63, hz⟩ := hc
       simp at h
       obtain ⟨rfl, rfl⟩ := h
       obtain ⟨i, z, hi, hiz, hzs⟩ := zeroOK_spec hz
       obtain ⟨i', hi', hisz, hby⟩ := info_of_tsz hpos
       rw [hi] at hi'; cases hi'
       have hrun := run_append_moves (w := w) (ty := ty) ht hu hd hpos (base := none) (sLen := 0) (sCap := 0) (olds := []) hi hiz hlen hnew (fun w' _ => by simp [Builtin.firstCells]) (by omega) hby (by simpa using hroom) (by omega)
       have hge := grownCap_ge w (0 + n) 0 e
       have hst := new_cells hr (hnf ⟨_, rfl⟩).1 (hnf ⟨_, rfl⟩).2 (cs := src) (e := e) (g := true) (fz := (0, 0)) (extra := grownCap w (0 + n) 0 e - (0 + n))
        (w' := w.drew.alloc (.cells (([] ++ news).toArray ++ Builtin.zeroCells z.cells (grownCap w (0 + n) 0 e - (0 + n))) e)) (fun i x hx => by
         obtain ⟨v, hv, hc⟩ := hsrc.get i x hx
         refine ⟨v, ?_, hc⟩
         have hi := (List.getElem?_eq_some_iff.1 hv).1
         rw [Array.getElem?_append_left (by simpa using hi)]
         simpa using hv) (by simp [size_zeroCells', hzs]; omega) (by simp) (.inl rfl) (alloc_new w.drew _) (fun c hc => alloc_old w.drew _ c hc) ⟨rfl, rfl, rfl⟩
       refine ⟨_, _, _, hrun, ?_, hst.1, hst.2⟩
       simp only [V, Va, Vc, Vp]
       exact ⟨by omega, Nat.le_refl _, _, Inj.set_same .., Nat.le_refl _, by simp only; omega, fun _ => by simp [Loc.at]⟩
     · simp at h
 · rename_i a len cap
   obtain ⟨p, l, rfl, hnc, hl, hsub, hp⟩ := hs.sl_inv
   split at h
   · rename_i h0
     subst h0
     simp at h
     obtain ⟨rfl, rfl⟩ := h
     have hnil : news = [] := by simpa using hnl
     subst hnil
     refine ⟨ι, w, _, ?_, hs, .refl hr, fun _ _ _ h => .inl h⟩
     rw [run_append_fits' ht hu hd hpos hlen hnew (by omega)]
     simp [storeCells]
   · rename_i h0
     split at h
     · rename_i cs e' g hL
       split at h
       · rename_i hc
         obtain ⟨hg, hle⟩ := hc
         have hl0 := hl
         rw [← hg] at hl
         have hrow : row L a = some cs := by simp [row, hL, hg]
         have hmul : (len + n) * tsz P e = len * tsz P e + n * tsz P e := Nat.add_mul _ _ _
         split at h
         · rename_i hfit
           split at h
           · rename_i hle2
             simp at h
             obtain ⟨rfl, rfl⟩ := h
             obtain rfl := hp (by omega)
             have hle3 : a.off + len * tsz P e + src.length ≤ cs.length := by omega
             obtain ⟨w', r1, _, r2, r3⟩ := hr_write (next := next) hr hL hl (o := a.off + len * tsz P e) (by omega) (put_splice hle3) hle3 hsrc
             refine ⟨_, w', .slice (some (l.at a.off)) (len + n) (cap + l.extra), ?_, ?_, r2, fun b0 g0 l1 h => r3 b0 g0 l1 h⟩
             · rw [run_append_fits' ht hu hd hpos hlen hnew (by omega)]
               simp only [Loc.at_add _ _ _ hsub, r1, Result.andThen_ok]
             · refine V.mono r2.ext ?_
               simp only [V, Va, Vc, Vp]
               exact ⟨trivial, hfit, l, hl0, hsub, rfl, fun _ => rfl⟩
           · simp at h
         · rename_i hfit
           split at h
           · rename_i hc2
             obtain ⟨hgr, rfl, hend, hroom, h63, hz⟩ := hc2
             simp only [Option.some.injEq, Prod.mk.injEq] at h
             obtain ⟨rfl, rfl⟩ := h
             obtain ⟨l', hl', hR, hB⟩ := hr.obj a.b _ hL
             simp only [AObj.gen] at hl'
             rw [hl] at hl'; cases hl'
             obtain ⟨cur, fz, h1, h2, h3, h4, h5, h6⟩ := hR
             have hcut := cut_of (vs := src) hle
             have hlen' : cs.length < (cs.take (a.off + len * tsz P e') ++ src).length := by
              rw [hcut.1]
              have : cap * tsz P e' < (len + n) * tsz P e' := Nat.mul_lt_mul_of_pos_right (by omega) hpos
              omega
             by_cases hroom2 : len + n ≤ cap + l.extra
             ·
              obtain rfl := hp (by omega)
              have hm2 : (len + n) * tsz P e' ≤ (cap + l.extra) * tsz P e' := Nat.mul_le_mul_right _ hroom2
              have hm3 : (cap + l.extra) * tsz P e' = cap * tsz P e' + l.extra * tsz P e' := Nat.add_mul _ _ _
              obtain ⟨cur', q1, q2, q3, q4⟩ := run_storeCells (P := P) news 0 cur w l.blk (a.off + len * tsz P e' - l.sub + l.add) e' fz h1 h2 (by omega) (fun v hv => by
               obtain ⟨j, hj⟩ := List.getElem?_of_mem hv
               have hjl : j < src.length := by rw [hsl]; exact (List.getElem?_eq_some_iff.1 hj).1
               obtain ⟨v', hv', hc⟩ := hsrc.get j src[j] (by simp [hjl])
               rw [hj] at hv'; cases hv'
               exact hc.one.1)
              have hm4 : (cap + l.extra - (len + n)) * tsz P e' = (cap + l.extra) * tsz P e' - (len + n) * tsz P e' := Nat.sub_mul _ _ _
              have hturn := hr_turn (next := next) hr (b := a.b) (o := .cells cs e' g) (o' := .cells (cs.take (a.off + len * tsz P e') ++ src) e' g) (l := l) (l' := { l with extra := cap + l.extra - (len + n) }) (w' := w.setRow l.blk cur') hL rfl hl rfl
               (by simp only [AObj.gen]; omega) (fun he => by simp only [AObj.gen] at he; omega) (fun c _ hc => setRow_other w l.blk c cur' hc) (by simp) (.inl rfl) ⟨rfl, rfl, rfl⟩ (fun ι' hee => by
                refine ⟨cur', fz, setRow_heap w l.blk cur cur' e' fz h1, by rw [q2]; exact h2, ?_, ?_, fun hgf => (by rw [hgr] at hgf; cases hgf), fun k x hk hx => ?_⟩
                · rw [hcut.1]; simp only; omega
                · rw [hcut.1, q2]; simp only; omega
                · simp only at hk ⊢
                  rcases hcut.2 k x hx with ⟨k1, k2⟩ | ⟨k1, k2⟩
                  · obtain ⟨v, hv, hc⟩ := hsrc.get _ x k2
                    refine ⟨v, ?_, hc.mono hee⟩
                    have := q4 _ v hv
                    rw [← this]; congr 1; omega
                  · obtain ⟨v, hv, hc⟩ := h6 k x hk k2
                    exact ⟨v, by rw [q3 _ (by omega)]; exact hv, hc.mono hee⟩)
              refine ⟨_, _, .slice (some (l.at a.off)) (len + n) (cap + l.extra), ?_, ?_, hturn.1, fun b0 g0 l1 h => hturn.2 b0 g0 l1 h⟩
              · rw [run_append_fits' ht hu hd hpos hlen hnew (by omega)]
                simp only [Loc.at_add _ _ _ hsub]
                show ((storeCells ⟨l.blk, a.off + len * tsz P e' - l.sub + l.add, none⟩ news 0).run P w).andThen _ = _
                rw [q1]; rfl
              · simp only [V, Va, Vc, Vp]
                exact ⟨trivial, Nat.le_refl _, _, Inj.set_same .., hsub, by simp only; omega, fun _ => rfl⟩
             ·
              obtain ⟨i, z, hi, hiz, hzs⟩ := zeroOK_spec hz
              obtain ⟨i', hi', hisz, hby⟩ := info_of_tsz hpos
              rw [hi] at hi'; cases hi'
              obtain ⟨olds, o1, o2, o3, _⟩ := cells_run hr hrow hl0 hsub hle
              have hold : ∀ w' : World, w'.heap = w.heap → (Builtin.firstCells (tsz P e') len (.slice (some p) len (cap + l.extra))).run P w' = .ok olds.toArray w' := by
               intro w' hw
               refine run_firstCells_some w' (tsz P e') len p _ _ olds o2 fun j v hv => ?_
               have hj : j < olds.length := (List.getElem?_eq_some_iff.1 hv).1
               have hlen0 : len ≠ 0 := by rintro rfl; simp at o2; subst o2; simp at hj
               have := o3 j v hv
               rw [hp (by omega)]
               unfold World.cell? at this ⊢
               rw [hw]; exact this
              have hrun := run_append_moves (w := w) (ty := ty) ht hu hd hpos (base := some p) (sLen := len) (sCap := cap + l.extra) (olds := olds) hi hiz hlen hnew hold (by omega) hby hroom h63
              have hge := grownCap_ge w (len + n) (cap + l.extra) e'
              have hnewh := alloc_new w.drew (.cells ((olds ++ news).toArray ++ Builtin.zeroCells z.cells (grownCap w (len + n) (cap + l.extra) e' - (len + n))) e')
              have hsize : (w.drew.alloc (.cells ((olds ++ news).toArray ++ Builtin.zeroCells z.cells (grownCap w (len + n) (cap + l.extra) e' - (len + n))) e')).heap.size = w.heap.size + 1 := by simp
              have hturn := hr_turn (next := next) hr (b := a.b) (o := .cells cs e' g) (o' := .cells (cs.take (a.off + len * tsz P e') ++ src) e' g) (l := l) (l' := ⟨w.heap.size, a.off, 0, grownCap w (len + n) (cap + l.extra) e' - (len + n)⟩)
               (w' := w.drew.alloc (.cells ((olds ++ news).toArray ++ Builtin.zeroCells z.cells (grownCap w (len + n) (cap + l.extra) e' - (len + n))) e')) hL rfl hl rfl
               (by simp only [AObj.gen]; omega) (fun he => by simp only [AObj.gen] at he; omega) (fun c hc _ => alloc_old w.drew _ c hc) (by rw [hsize]; omega) (.inr ⟨Nat.le_refl _, by rw [hsize]; exact Nat.lt_succ_self _⟩) ⟨rfl, rfl, rfl⟩ (fun ι' hee => by
                refine ⟨_, (0, 0), hnewh, .inl rfl, ?_, ?_, fun hgf => (by rw [hgr] at hgf; cases hgf), fun k x hk hx => ?_⟩
                · rw [hcut.1]; simp only; omega
                · rw [hcut.1]
                  simp only [Array.size_append, List.size_toArray, List.length_append, size_zeroCells', hzs]
                  omega
                · simp only at hk ⊢
                  rw [Nat.add_zero]
                  rcases hcut.2 k x hx with ⟨k1, k2⟩ | ⟨k1, k2⟩
                  · obtain ⟨v, hv, hc⟩ := hsrc.get _ x k2
                    refine ⟨v, ?_, hc.mono hee⟩
                    have hkl := (List.getElem?_eq_some_iff.1 hv).1
                    rw [Array.getElem?_append_left (by simp; omega)]
                    rw [List.getElem?_toArray, List.getElem?_append_right (by omega)]
                    rw [← hv]; congr 1; omega
                  · have hd1 : ((cs.drop a.off).take (len * tsz P e'))[k - a.off]? = some x := by
                     rw [getElem?_dropTake, if_pos (by omega)]
                     rw [← k2]; congr 1; omega
                    obtain ⟨v, hv, hc⟩ := o1.get _ x hd1
                    refine ⟨v, ?_, hc.mono hee⟩
                    have hkl := (List.getElem?_eq_some_iff.1 hv).1
                    rw [Array.getElem?_append_left (by simp; omega)]
                    rw [List.getElem?_toArray, List.getElem?_append_left hkl]
                    exact hv)
              refine ⟨_, _, _, hrun, ?_, hturn.1, fun b0 g0 l1 h => hturn.2 b0 g0 l1 h⟩
              simp only [V, Va, Vc, Vp]
              exact ⟨trivial, Nat.le_refl _, _, Inj.set_same .., Nat.le_refl _, by simp only; omega, fun _ => by simp [Loc.at]⟩
           · simp at h
       · simp at h
     · simp at h
 · simp at h
theorem ok_append (hr : HR P ι w B L) {t u ty : TypeId} {s x r : AV} {us ux : Value} {δ : Delta}
  (hs : V ι s us) (hx : V ι x ux) (h : aappend P L next t u s x = some (r, δ)) (hnf : (∃ o, δ = .new o) → L next = none ∧ ∀ g, ι next g = none) :
  ∃ ι' w' z, (Builtin.append_ #[t, u] ty #[us, ux]).run P w = .ok z w' ∧ V ι' r z ∧ Step P ι w B L ι' w' (upd L next δ) ∧ (∀ b g' l', ι' b g' = some l' → ι b g' = some l' ∨ δ.touches next b) := by
 have main : ∀ e, tk P t = .slice e → ((∃ e, tk P u = .slice e) ∨ tk P u = .str) → (if 0 < tsz P e then
   match srcCells P L e x with
   | some (n, src) => aappendE P L next e n src s
   | none => none
  else none) = some (r, δ) →
   ∃ ι' w' z, (Builtin.append_ #[t, u] ty #[us, ux]).run P w = .ok z w' ∧ V ι' r z ∧ Step P ι w B L ι' w' (upd L next δ) ∧ (∀ b g' l', ι' b g' = some l' → ι b g' = some l' ∨ δ.touches next b) := by
  intro e hk hku h
  obtain ⟨d, hu, hd⟩ := tk_src hku
  split at h
  · rename_i hpos
    split at h
    · rename_i n src hsrc
      obtain ⟨news, h1, h2, h3, h4⟩ := src_run hr hx hpos hsrc
      exact ok_appendE hr (tk_slice hk) hu hd hpos hs h1 h2 h3 h4 h hnf
    · simp at h
  · simp at h
 unfold aappend at h
 split at h
 · rename_i e e' hk hku
   exact main e hk (.inl ⟨e', hku⟩) h
 · rename_i e hk hku
   exact main e hk (.inr hku) h
 · simp at h
end Go.AM
namespace Go.AM
open Go
set_option linter.unusedVariables false
set_option linter.unusedSimpArgs false
variable {P : Program} {ι : Inj} {w : World} {B : Base} {L : Look} {next : Nat}
theorem ikey_spec {a b : AV} {u v : Value} {k : KK} (ha : V ι a u) (hb : V ι b v) (hka : kkOfV a = some k) (hkb : kkOfV b = some k) :
  ∃ r, ikey a b = some r ∧ (r = true → u = v) ∧ (∀ t d, kkOf (tk P t) = some k → (Op.equalIn (d + 1) t u v).run P w = .ok r w) ∧
   (∀ td, (∃ t, P.underlying t = some td ∧ kkOf (tk P t) = some k) → Instr.sameNow td u v = some r) := by
 cases a <;> simp [kkOfV] at hka <;> cases b <;> simp [kkOfV] at hkb <;> subst hka <;> simp at hkb
 case bool.bool a b =>
  obtain rfl := ha.bool_inv
  obtain rfl := hb.bool_inv
  refine ⟨decide (a = b), rfl, by simp, fun t d ht => ?_, fun td ⟨t, h1, h2⟩ => ?_⟩
  · have hk : tk P t = .bool := by cases h : tk P t <;> simp [kkOf, h] at ht ⊢
    rw [run_equalIn_bool' w d t a b (tk_bool hk)]
    cases a <;> cases b <;> rfl
  · have hk : tk P t = .bool := by cases h : tk P t <;> simp [kkOf, h] at h2 ⊢
    rw [tk_bool hk] at h1; cases h1
    simp only [Instr.sameNow]
    cases a <;> cases b <;> rfl
 case int.int k1 a k2 b =>
  obtain rfl := ha.int_inv
  obtain rfl := hb.int_inv
  subst hkb
  refine ⟨decide (a = b), by simp [ikey], by simp, fun t d ht => ?_, fun td ⟨t, h1, h2⟩ => ?_⟩
  · have hk : ∃ k, tk P t = .int k := by cases h : tk P t <;> simp [kkOf, h] at ht ⊢
    obtain ⟨k, hk⟩ := hk
    rw [run_equalIn_int w d t _ k a b (tk_int hk)]
    rfl
  · have hk : ∃ k, tk P t = .int k := by cases h : tk P t <;> simp [kkOf, h] at h2 ⊢
    obtain ⟨k, hk⟩ := hk
    rw [tk_int hk] at h1; cases h1
    simp only [Instr.sameNow, if_true]
    rfl
 case str.str a b =>
  obtain rfl := ha.str_inv
  obtain rfl := hb.str_inv
  have hbeq : ((ByteArray.mk a.toArray == ByteArray.mk b.toArray) : Bool) = decide (a = b) := by
   rw [beq_toListBytes, toList_of, toList_of, Bool.eq_iff_iff]; simp
  refine ⟨decide (a = b), rfl, by simp, fun t d ht => ?_, fun td ⟨t, h1, h2⟩ => ?_⟩
  · have hk : tk P t = .str := by cases h : tk P t <;> simp [kkOf, h] at ht ⊢
    rw [run_equalIn_string w d t _ _ (tk_str hk), toList_of, toList_of]
    congr 1
    rw [Bool.eq_iff_iff]; simp
  · have hk : tk P t = .str := by cases h : tk P t <;> simp [kkOf, h] at h2 ⊢
    rw [tk_str hk] at h1; cases h1
    simp only [Instr.sameNow]
    rw [hbeq]
theorem kshape_one {t : TypeId} {k : KK} (h : kshape P t = some (.one k)) : kkOf (tk P t) = some k := by
 unfold kshape at h
 split at h
 · split at h
   · simp at h
   · simp at h
 · cases hk : kkOf (tk P t) <;> simp [hk] at h
   simp [h]
theorem kshape_many {t : TypeId} {ks : List KK} (h : kshape P t = some (.many ks)) :
  ∃ fs, P.underlying t = some (.struct fs) ∧ P.stoodInHeld t = false ∧ fieldKinds P fs.toList 0 = some ks := by
 unfold kshape at h
 split at h
 · rename_i fs hu
   split at h
   · simp at h
   · rename_i hs
     cases hf : fieldKinds P fs.toList 0 with
     | none => simp [hf] at h
     | some x => simp [hf] at h; subst h; exact ⟨fs, hu, by simpa using hs, hf⟩
 · cases hk : kkOf (tk P t) <;> simp [hk] at h
theorem agk_of_kk {t : TypeId} {k : KK} (h : kkOf (tk P t) = some k) : agk (tk P t) = some false := by
 cases ht : tk P t <;> simp [kkOf, ht] at h <;> rfl
theorem kks_get : ∀ {cs : List AV} {ks : List KK}, kks cs = some ks → cs.length = ks.length ∧ ∀ (i : Nat) c, cs[i]? = some c → ∃ k, ks[i]? = some k ∧ kkOfV c = some k
 | [], ks, h => by simp [kks] at h; subst h; exact ⟨rfl, by simp⟩
 | c :: cs, ks, h => by
  unfold kks at h
  split at h
  · rename_i k ks' hk hks
    simp at h; subst h
    obtain ⟨h1, h2⟩ := kks_get hks
    refine ⟨by simp [h1], fun i c' hc => ?_⟩
    cases i with
    | zero => simp at hc; subst hc; exact ⟨k, rfl, hk⟩
    | succ i => simpa using h2 i c' (by simpa using hc)
  · simp at h
theorem ikeys_drop {xs ys : List AV} {i : Nat} (hx : i < xs.length) (hy : i < ys.length) :
  ikeys (xs.drop i) (ys.drop i) = match ikey xs[i] ys[i], ikeys (xs.drop (i + 1)) (ys.drop (i + 1)) with
   | some a, some b => some (a && b)
   | _, _ => none := by
 rw [List.drop_eq_getElem_cons hx, List.drop_eq_getElem_cons hy]
 rfl
theorem run_part {t : TypeId} {k : KK} (h : kkOf (tk P t) = some k) {vs : Array Value} {i : Nat} {v : Value} (hv : vs[i]? = some v) : (part t vs i).run P w = .ok v w := by
 obtain ⟨hagg, _⟩ := run_isAgg (agk_of_kk h) w
 simp [part, hagg, hv]
theorem eqFields_spec {xs ys : List AV} {us vs : Array Value} {ks0 : List KK} (hx : L2 (Vc ι) xs us.toList) (hy : L2 (Vc ι) ys vs.toList) (hkx : kks xs = some ks0) (hky : kks ys = some ks0) (d : Nat) :
  ∀ (fs : List Field) (i : Nat) (ks : List KK), fieldKinds P fs i = some ks → ks = ks0.drop i →
   ∃ r, ikeys (xs.drop i) (ys.drop i) = some r ∧ (Op.eqFields (d + 1) us vs fs).run P w = .ok r w
 | [], i, ks, h, hk => by
  simp [fieldKinds] at h; subst h
  have h1 := (kks_get hkx).1
  have h2 := (kks_get hky).1
  have hlen : ks0.length ≤ i := by
   have := congrArg List.length hk; simp at this; omega
  rw [List.drop_eq_nil_of_le (by omega), List.drop_eq_nil_of_le (by omega)]
  exact ⟨true, rfl, by simp [Op.eqFields]⟩
 | f :: fs, i, ks, h, hk => by
  unfold fieldKinds at h
  split at h
  · rename_i k ks' hkf hrest
    split at h
    · rename_i hc
      obtain ⟨hoff, hname⟩ := hc
      simp at h; subst h
      have hi : i < ks0.length := by
       have := congrArg List.length hk; simp at this; omega
      rw [List.drop_eq_getElem_cons hi] at hk
      simp only [List.cons.injEq] at hk
      obtain ⟨hk1, hk2⟩ := hk
      have hxl := (kks_get hkx).1
      have hyl := (kks_get hky).1
      have hxi : i < xs.length := by omega
      have hyi : i < ys.length := by omega
      obtain ⟨u, hu, hcu⟩ := hx.get i xs[i] (by simp [hxi])
      obtain ⟨v, hv, hcv⟩ := hy.get i ys[i] (by simp [hyi])
      obtain ⟨kx, hkx1, hkx2⟩ := (kks_get hkx).2 i xs[i] (by simp [hxi])
      obtain ⟨ky, hky1, hky2⟩ := (kks_get hky).2 i ys[i] (by simp [hyi])
      rw [List.getElem?_eq_getElem hi] at hkx1 hky1
      simp only [Option.some.injEq] at hkx1 hky1
      rw [← hkx1, ← hk1] at hkx2
      rw [← hky1, ← hk1] at hky2
      obtain ⟨r, e1, _, e2, _⟩ := ikey_spec (P := P) (w := w) (.of_Vc hcu) (.of_Vc hcv) hkx2 hky2
      obtain ⟨r', f1, f2⟩ := eqFields_spec hx hy hkx hky d fs (i + 1) ks' hrest hk2
      rw [ikeys_drop hxi hyi, e1, f1]
      refine ⟨r && r', rfl, ?_⟩
      have p1 := run_part (P := P) (w := w) hkf (vs := us) (i := f.offset) (v := u) (by rw [hoff]; simpa using hu)
      have p2 := run_part (P := P) (w := w) hkf (vs := vs) (i := f.offset) (v := v) (by rw [hoff]; simpa using hv)
      have p3 := e2 f.type d hkf
      cases r
      · simp [Op.eqFields, hname, p1, p2, p3]
      · simp [Op.eqFields, hname, p1, p2, p3, f2]
    · simp at h
  · simp at h
theorem ikeys_eq : ∀ {xs ys : List AV} {us vs : List Value} {ks : List KK}, L2 (Vc ι) xs us → L2 (Vc ι) ys vs → kks xs = some ks → kks ys = some ks → ikeys xs ys = some true → us = vs
 | [], [], [], [], _, _, _, _, _, _ => rfl
 | x :: xs, y :: ys, u :: us, v :: vs, ks, hx, hy, hkx, hky, h => by
  unfold kks at hkx hky
  split at hkx
  · rename_i k1 ks1 h1 h2
    split at hky
    · rename_i k2 ks2 h3 h4
      simp at hkx hky
      subst hkx
      simp at hky
      obtain ⟨rfl, rfl⟩ := hky
      obtain ⟨r, e1, e2, _⟩ := ikey_spec (P := default) (w := default) (.of_Vc hx.1) (.of_Vc hy.1) h1 h3
      unfold ikeys at h
      rw [e1] at h
      cases hr : ikeys xs ys with
      | none => simp [hr] at h
      | some b =>
       simp [hr] at h
       rw [e2 h.1, ikeys_eq hx.2 hy.2 h2 h4 (by rw [hr, h.2])]
    · simp at hky
  · simp at hkx
 | [], _ :: _, _, _, _, _, _, _, _, h => by simp [ikeys] at h
 | _ :: _, [], _, _, _, _, _, _, _, h => by simp [ikeys] at h
 | [], [], _ :: _, _, _, hx, _, _, _, _ => hx.elim
 | [], [], [], _ :: _, _, _, hy, _, _, _ => hy.elim
 | _ :: _, _ :: _, [], _, _, hx, _, _, _, _ => hx.elim
 | _ :: _, _ :: _, _ :: _, [], _, _, hy, _, _, _ => hy.elim
theorem keq_spec {kt : TypeId} {a b : AV} {u v : Value} {sh : Shape} (ha : Va ι a u) (hb : Va ι b v) (hs : kshape P kt = some sh) (hsa : shapeOf a = some sh) (hsb : shapeOf b = some sh) :
  ∃ r, keq a b = some r ∧ (r = true → u = v) ∧ (Op.equal kt u v).run P w = .ok r w ∧
   ∃ td, P.underlying kt = some td ∧ ((∃ k, sh = .one k) → Instr.sameNow td u v = some r) ∧ ((∃ ks, sh = .many ks) → Instr.sameNow td u v = none) := by
 cases sh with
 | one k =>
  have hk := kshape_one hs
  have h1 : kkOfV a = some k := by cases a <;> simp [shapeOf] at hsa <;> exact hsa
  have h2 : kkOfV b = some k := by cases b <;> simp [shapeOf] at hsb <;> exact hsb
  obtain ⟨r, e1, e2, e3, e4⟩ := ikey_spec (P := P) (w := w) (.of_Va ha) (.of_Va hb) h1 h2
  have hq : keq a b = ikey a b := by cases a <;> cases b <;> first | rfl | (simp [kkOfV] at h1 h2; done)
  obtain ⟨td, htd⟩ : ∃ td, P.underlying kt = some td := by
   cases hu : P.underlying kt with
   | none => simp [tk, hu, kkOf] at hk
   | some td => exact ⟨td, rfl⟩
  exact ⟨r, by rw [hq]; exact e1, e2, e3 kt 9999 hk, td, htd, fun _ => e4 td ⟨kt, htd, hk⟩, fun ⟨ks, h⟩ => by cases h⟩
 | many ks =>
  obtain ⟨fs, hu, hst, hf⟩ := kshape_many hs
  have ha' : ∃ xs, a = .agg xs ∧ kks xs = some ks := by
   cases a <;> simp [shapeOf] at hsa
   case agg xs => cases hx : kks xs <;> simp [hx] at hsa; subst hsa; exact ⟨xs, rfl, hx⟩
  have hb' : ∃ ys, b = .agg ys ∧ kks ys = some ks := by
   cases b <;> simp [shapeOf] at hsb
   case agg ys => cases hy : kks ys <;> simp [hy] at hsb; subst hsb; exact ⟨ys, rfl, hy⟩
  obtain ⟨xs, rfl, hx⟩ := ha'
  obtain ⟨ys, rfl, hy⟩ := hb'
  obtain ⟨us, rfl, hus⟩ := (V.of_Va ha).agg_inv
  obtain ⟨vs, rfl, hvs⟩ := (V.of_Va hb).agg_inv
  obtain ⟨r, e1, e2⟩ := eqFields_spec (P := P) (w := w) hus hvs hx hy 9998 fs.toList 0 ks hf rfl
  simp only [List.drop_zero] at e1
  have hfo : P.fieldsOf kt = fs := by simp [Program.fieldsOf, hu]
  refine ⟨r, e1, fun hr => ?_, ?_, .struct fs, hu, (fun ⟨k, h⟩ => (by cases h)), (fun _ => rfl)⟩
  · subst hr
    have := ikeys_eq hus hvs hx hy e1
    congr 1
    exact Array.ext' this
  · have := run_equalIn_struct (P := P) w 9999 kt us vs (by rw [hfo]; exact hu) hst
    rw [hfo] at this
    show (Op.equalIn (9999 + 1) kt (.agg us) (.agg vs)).run P w = _
    rw [this, e2]
def mfindI (k : AV) : List (AV × AV × Nat) → Nat → Option (Nat × AV)
 | [], _ => none
 | (k', v, _) :: r, i => if keq k k' = some true then some (i, v) else mfindI k r (i + 1)
theorem mfind_eq (k : AV) : ∀ (es : List (AV × AV × Nat)) (i : Nat), mfind k es = (mfindI k es i).map (·.2)
 | [], i => rfl
 | (k', v, c) :: r, i => by
  unfold mfind mfindI
  split
  · rfl
  · exact mfind_eq k r (i + 1)
def Shaped (sh : Shape) (es : List (AV × AV × Nat)) : Prop := ∀ x ∈ es, shapeOf x.1 = some sh
theorem findKey_ok {kt : TypeId} {k : AV} {kv : Value} {sh : Shape} (hk : Va ι k kv) (hs : kshape P kt = some sh) (hsk : shapeOf k = some sh) {es : List (AV × AV × Nat)} {es' : List MapEntry}
  (he : L2 (entryR ι) es es') (hse : Shaped sh es) :
  ∃ r, (Instr.findKey kt kv es').run P w = .ok r w ∧
   match mfindI k es 0, r with
   | none, none => True
   | some (i, v), some (i', v') => i = i' ∧ Va ι v v'
   | _, _ => False := by
 have now : ∀ (es : List (AV × AV × Nat)) (es' : List MapEntry) (i : Nat) (td : TypeDesc) (k0 : KK), P.underlying kt = some td → sh = .one k0 → L2 (entryR ι) es es' → Shaped sh es →
   ∃ r, Instr.findNow td kv es' i = some r ∧ match mfindI k es i, r with
    | none, none => True
    | some (i, v), some (i', v') => i = i' ∧ Va ι v v'
    | _, _ => False := by
  intro es
  induction es with
  | nil => intro es' i td k0 htd hsh h1 h2; cases es' with
   | nil => exact ⟨none, rfl, trivial⟩
   | cons _ _ => exact h1.elim
  | cons x es ih => intro es' i td k0 htd hsh h1 h2; cases es' with
   | nil => exact h1.elim
   | cons e es' =>
    obtain ⟨hx, hr⟩ := h1
    obtain ⟨r, e1, e2, e3, td', e4, e5, _⟩ := keq_spec (w := w) hk hx.1 hs hsk (h2 x (List.mem_cons_self ..))
    rw [htd] at e4; cases e4
    have e5 := e5 ⟨k0, hsh⟩
    obtain ⟨xk, xv, xc⟩ := x
    simp only [mfindI, Instr.findNow, e1, e5]
    cases r with
    | true => exact ⟨some (i, e.val), rfl, by simp only [if_true]; exact ⟨trivial, hx.2.1⟩⟩
    | false =>
     simp only [Option.some.injEq, Bool.false_eq_true, if_false]
     exact ih es' (i + 1) td k0 htd hsh hr fun y hy => h2 y (List.mem_cons_of_mem _ hy)
 have asking : ∀ (es : List (AV × AV × Nat)) (es' : List MapEntry) (i : Nat), L2 (entryR ι) es es' → Shaped sh es →
   ∃ r, (Instr.findAsking kt kv es' i).run P w = .ok r w ∧ match mfindI k es i, r with
    | none, none => True
    | some (i, v), some (i', v') => i = i' ∧ Va ι v v'
    | _, _ => False := by
  intro es
  induction es with
  | nil => intro es' i h1 h2; cases es' with
   | nil => exact ⟨none, rfl, trivial⟩
   | cons _ _ => exact h1.elim
  | cons x es ih => intro es' i h1 h2; cases es' with
   | nil => exact h1.elim
   | cons e es' =>
    obtain ⟨hx, hr⟩ := h1
    obtain ⟨r, e1, e2, e3, _⟩ := keq_spec (w := w) hk hx.1 hs hsk (h2 x (List.mem_cons_self ..))
    obtain ⟨xk, xv, xc⟩ := x
    simp only [mfindI, Instr.findAsking, e1, Sem.run_bind, e3, Result.andThen_ok]
    cases r with
    | true => exact ⟨some (i, e.val), by simp, by simp only [if_true]; exact ⟨trivial, hx.2.1⟩⟩
    | false =>
     simp only [Option.some.injEq, Bool.false_eq_true, if_false]
     exact ih es' (i + 1) hr fun y hy => h2 y (List.mem_cons_of_mem _ hy)
 obtain ⟨td, htd⟩ : ∃ td, P.underlying kt = some td := by
  cases hu : P.underlying kt with
  | none => simp [kshape, tk, hu, kkOf] at hs
  | some td => exact ⟨td, rfl⟩
 unfold Instr.findKey
 simp only [Sem.run_bind, run_underlying htd, Result.andThen_ok]
 cases sh with
 | one k0 =>
  obtain ⟨r, h1, h2⟩ := now es es' 0 td k0 htd rfl he hse
  exact ⟨r, by rw [h1]; rfl, h2⟩
 | many ks =>
  cases es' with
  | nil => cases es with
   | nil => exact ⟨none, rfl, trivial⟩
   | cons _ _ => exact he.elim
  | cons e es' => cases es with
   | nil => exact he.elim
   | cons x es =>
    obtain ⟨r, e1, e2, e3, td', e4, _, e6⟩ := keq_spec (w := w) hk he.1.1 hs hsk (hse x (List.mem_cons_self ..))
    rw [htd] at e4; cases e4
    have e6 := e6 ⟨ks, rfl⟩
    have hnow : Instr.findNow td kv (e :: es') 0 = none := by simp [Instr.findNow, e6]
    obtain ⟨r, h1, h2⟩ := asking (x :: es) (e :: es') 0 he hse
    exact ⟨r, by rw [hnow]; exact h1, h2⟩
theorem checkKey_ok {kt : TypeId} {k : AV} {kv : Value} {sh : Shape} (hk : Va ι k kv) (hs : kshape P kt = some sh) (hsk : shapeOf k = some sh) (em : Bool) :
  (Instr.checkKey em 10000 kt kv).run P w = .ok () w := by
 have scalar : ∀ (t : TypeId) (k0 : KK) (c : AV) (v : Value) (n : Nat), kkOf (tk P t) = some k0 → kkOfV c = some k0 → Vc ι c v → (Instr.checkKey em (n + 1) t v).run P w = .ok () w := by
  intro t k0 c v n h1 h2 h3
  cases c <;> simp [kkOfV] at h2 <;> subst h2
  · obtain rfl := (V.of_Vc h3).bool_inv
    have hk : tk P t = .bool := by cases h : tk P t <;> simp [kkOf, h] at h1 ⊢
    simp [Instr.checkKey, run_underlying (tk_bool hk)]
  · obtain rfl := (V.of_Vc h3).int_inv
    have hk : ∃ k, tk P t = .int k := by cases h : tk P t <;> simp [kkOf, h] at h1 ⊢
    obtain ⟨k, hk⟩ := hk
    simp [Instr.checkKey, run_underlying (tk_int hk)]
  · obtain rfl := (V.of_Vc h3).str_inv
    have hk : tk P t = .str := by cases h : tk P t <;> simp [kkOf, h] at h1 ⊢
    simp [Instr.checkKey, run_underlying (tk_str hk)]
 cases sh with
 | one k0 =>
  have h1 : kkOfV k = some k0 := by cases k <;> simp [shapeOf] at hsk <;> exact hsk
  have hc : Vc ι k kv := V.to_Vc (.of_Va hk) (by cases k <;> simp [kkOfV, AV.one] at h1 ⊢)
  exact scalar kt k0 k kv 9999 (kshape_one hs) h1 hc
 | many ks =>
  obtain ⟨fs, hu, _, hf⟩ := kshape_many hs
  have hk' : ∃ xs, k = .agg xs ∧ kks xs = some ks := by
   cases k <;> simp [shapeOf] at hsk
   case agg xs => cases hx : kks xs <;> simp [hx] at hsk; subst hsk; exact ⟨xs, rfl, hx⟩
  obtain ⟨xs, rfl, hx⟩ := hk'
  obtain ⟨us, rfl, hus⟩ := (V.of_Va hk).agg_inv
  have go : ∀ (n : Nat) (fs : List Field) (i : Nat) (ks' : List KK), fieldKinds P fs i = some ks' → ks' = ks.drop i →
    (forIn fs PUnit.unit (fun f (_ : PUnit) => if f.name ≠ "_" then do
     let a ← part f.type us f.offset
     Instr.checkKey em (n + 1) f.type a
     pure (ForInStep.yield PUnit.unit)
    else pure (ForInStep.yield PUnit.unit)) : Sem PUnit).run P w = .ok PUnit.unit w := by
   intro n fs
   induction fs with
   | nil => intro i ks' _ _; rfl
   | cons f fs ih =>
    intro i ks' h hd
    unfold fieldKinds at h
    split at h
    · rename_i k0 ks1 hkf hrest
      split at h
      · rename_i hc
        obtain ⟨hoff, hname⟩ := hc
        simp at h; subst h
        have hi : i < ks.length := by
         have := congrArg List.length hd; simp at this; omega
        rw [List.drop_eq_getElem_cons hi] at hd
        simp only [List.cons.injEq] at hd
        obtain ⟨hd1, hd2⟩ := hd
        have hxl := (kks_get hx).1
        have hxi : i < xs.length := by omega
        obtain ⟨u, hu', hcu⟩ := hus.get i xs[i] (by simp [hxi])
        obtain ⟨kx, hkx1, hkx2⟩ := (kks_get hx).2 i xs[i] (by simp [hxi])
        rw [List.getElem?_eq_getElem hi] at hkx1
        simp only [Option.some.injEq] at hkx1
        rw [← hkx1, ← hd1] at hkx2
        have p1 := run_part (P := P) (w := w) hkf (vs := us) (i := f.offset) (v := u) (by rw [hoff]; simpa using hu')
        have p2 := scalar f.type k0 xs[i] u n hkf hkx2 hcu
        simp only [List.forIn_cons, Sem.run_bind, hname, ne_eq, not_false_eq_true, if_true, p1, Result.andThen_ok]
        simp only [p2, Result.andThen_ok, Sem.run_pure]
        exact ih (i + 1) ks1 hrest hd2
      · simp at h
    · simp at h
  have fin : ∀ n m, n + 1 = m → (Instr.checkKey em (m + 1) kt (.agg us)).run P w = .ok () w := by
   intro n m hm
   have := go n fs.toList 0 ks hf rfl
   simp only [hm] at this
   simp only [Instr.checkKey, Sem.run_bind, run_underlying hu, Result.andThen_ok]
   rw [← Array.forIn_toList]
   simp only [ne_eq, ite_not, bind_pure_comp] at this ⊢
   rw [this]
   rfl
  exact fin 9998 9999 rfl
theorem L2.mem {α β : Type} {R : α → β → Prop} {as : List α} {bs : List β} (h : L2 R as bs) : as.isEmpty = bs.isEmpty := by
 cases as <;> cases bs <;> first | rfl | exact h.elim
theorem ok_lookup (hr : HR P ι w B L) {t : TypeId} {m k r : AV} {um uk : Value} {ok : Bool} (hm : V ι m um) (hk : V ι k uk) (h : alookup P L t m k ok = some r) :
  ∃ z, (Instr.lookup t um uk ok).run P w = .ok z w ∧ V ι r z := by
 have zero : ∀ (et : TypeId) (z : AV), tzero P et = some z → ∃ zv, (zeroValue et).run P w = .ok zv w ∧ V ι z zv ∧ Va ι z zv := by
  intro et z hz
  obtain ⟨i, zv, hi, hiz, _, habs⟩ := zero_of hz
  have hv := (absV_cells habs ι).2
  refine ⟨zv, run_zeroValue hi hiz w, hv, hv.to_Va ?_⟩
  intro vs he; subst he
  unfold absV at habs
  split at habs
  · simp at habs
  · unfold absC at habs
    split at habs <;> first | (simp at habs; done) | (split at habs <;> simp at habs)
 have shp : ∀ kt, kshape P kt = shapeOf k → (shapeOf k).isSome → ∃ sh, kshape P kt = some sh ∧ shapeOf k = some sh ∧ Va ι k uk := by
  intro kt h1 h2
  obtain ⟨sh, hsh⟩ := Option.isSome_iff_exists.1 h2
  refine ⟨sh, by rw [h1, hsh], hsh, hk.to_Va ?_⟩
  rintro vs rfl; simp [shapeOf, kkOfV] at hsh
 unfold alookup at h
 split at h
 · rename_i kt et hkm
   obtain rfl := hm.map_none
   split at h
   · rename_i hc
     obtain ⟨sh, h1, h2, h3⟩ := shp kt hc.1 hc.2
     cases hz : tzero P et with
     | none => simp [hz] at h
     | some z =>
      simp [hz] at h
      obtain ⟨zv, z1, z2, z3⟩ := zero et z hz
      obtain ⟨r', f1, f2⟩ := findKey_ok (w := w) (ι := ι) h3 h1 h2 (es := []) (es' := []) trivial (fun _ h => by simp at h)
      simp only [mfindI] at f2
      cases r' with
      | some _ => exact f2.elim
      | none =>
       have hck := checkKey_ok (w := w) h3 h1 h2 true
       subst h
       cases ok
       · exact ⟨zv, by simp [Instr.lookup, run_underlying (tk_map hkm), hck, f1, z1], z2⟩
       · exact ⟨.tuple #[zv, .bool false], by simp [Instr.lookup, run_underlying (tk_map hkm), hck, f1, z1], ⟨z3, rfl, trivial⟩⟩
   · simp at h
 · rename_i kt et b hkm
   obtain ⟨l, hl, rfl⟩ := hm.map_inv
   split at h
   · rename_i t' es c hL
     split at h
     · rename_i hc
       obtain ⟨rfl, hc1, hc2⟩ := hc
       obtain ⟨sh, h1, h2, h3⟩ := shp kt hc1 hc2
       obtain ⟨l', hl', hR, _⟩ := hr.obj b _ hL
       simp only [AObj.gen] at hl'
       rw [hl] at hl'; cases hl'
       obtain ⟨es', e1, e2, e3, e4⟩ := hR
       have hsh : Shaped sh es := by
        intro x hx
        rw [e4 x hx]
        simp [keyKind, hkm, h1]
       obtain ⟨r', f1, f2⟩ := findKey_ok (w := w) h3 h1 h2 e2 hsh
       have hck := checkKey_ok (w := w) h3 h1 h2 es'.isEmpty
       have hget : (getObj l.blk).run P w = .ok (.map es' c) w := by simp [getObj, Sem.run, e1]
       rw [mfind_eq k es 0] at h
       cases hf : mfindI k es 0 with
       | some iv =>
        obtain ⟨i, v⟩ := iv
        rw [hf] at f2 h
        cases r' with
        | none => exact f2.elim
        | some iv' =>
         obtain ⟨i', v'⟩ := iv'
         simp only at f2
         simp at h; subst h
         have hva : Va ι v v' := f2.2
         cases ok
         · exact ⟨v', by simp [Instr.lookup, run_underlying (tk_map hkm), hget, hck, f1], .of_Va f2.2⟩
         · exact ⟨.tuple #[v', .bool true], by simp [Instr.lookup, run_underlying (tk_map hkm), hget, hck, f1], ⟨hva, rfl, trivial⟩⟩
       | none =>
        rw [hf] at f2 h
        cases r' with
        | some _ => exact f2.elim
        | none =>
         simp only [Option.map_none] at h
         cases hz : tzero P et with
         | none => simp [hz] at h
         | some z =>
          simp [hz] at h
          obtain ⟨zv, z1, z2, z3⟩ := zero et z hz
          subst h
          cases ok
          · exact ⟨zv, by simp [Instr.lookup, run_underlying (tk_map hkm), hget, hck, f1, z1], z2⟩
          · exact ⟨.tuple #[zv, .bool false], by simp [Instr.lookup, run_underlying (tk_map hkm), hget, hck, f1, z1], ⟨z3, rfl, trivial⟩⟩
     · simp at h
   · simp at h
 · simp at h
theorem mput_spec (k v : AV) (c : Nat) : ∀ (es : List (AV × AV × Nat)) (i : Nat),
  match mfindI k es i with
  | some (j, _) => ∃ n x, j = i + n ∧ es[n]? = some x ∧ keq k x.1 = some true ∧ mput k v c es = es.set n (k, v, x.2.2)
  | none => mput k v c es = es ++ [(k, v, c)]
 | [], i => rfl
 | (k', v', c') :: r, i => by
  unfold mfindI mput
  by_cases h : keq k k' = some true
  · simp only [h, if_true]
    exact ⟨0, (k', v', c'), by omega, rfl, h, rfl⟩
  · simp only [h, if_false]
    have ih := mput_spec k v c r (i + 1)
    cases hf : mfindI k r (i + 1) with
    | none => simp only [hf] at ih ⊢; rw [ih]; rfl
    | some jv =>
     obtain ⟨j, u⟩ := jv
     simp only [hf] at ih ⊢
     obtain ⟨n, x, h1, h2, h3, h4⟩ := ih
     exact ⟨n + 1, x, by omega, by simpa using h2, h3, by rw [h4]; rfl⟩
theorem sameBits_self {k : AV} {u : Value} {sh : Shape} (hk : Va ι k u) (hsk : shapeOf k = some sh) : Instr.sameBits 10000 u u = true := by
 have scalar : ∀ (c : AV) (v : Value) (k0 : KK) (n : Nat), Vc ι c v → kkOfV c = some k0 → Instr.sameBits n v v = true := by
  intro c v k0 n h1 h2
  cases c <;> simp [kkOfV] at h2
  · obtain rfl := (V.of_Vc h1).bool_inv
    cases n <;> simp [Instr.sameBits]
  · obtain rfl := (V.of_Vc h1).int_inv
    cases n <;> simp [Instr.sameBits]
  · obtain rfl := (V.of_Vc h1).str_inv
    cases n <;> simp [Instr.sameBits, beq_toListBytes]
 cases sh with
 | one k0 =>
  have h1 : kkOfV k = some k0 := by cases k <;> simp [shapeOf] at hsk <;> exact hsk
  have hc : Vc ι k u := V.to_Vc (.of_Va hk) (by cases k <;> simp [kkOfV, AV.one] at h1 ⊢)
  exact scalar k u k0 10000 hc h1
 | many ks =>
  have hk' : ∃ xs, k = .agg xs ∧ kks xs = some ks := by
   cases k <;> simp [shapeOf] at hsk
   case agg xs => cases hx : kks xs <;> simp [hx] at hsk; subst hsk; exact ⟨xs, rfl, hx⟩
  obtain ⟨xs, rfl, hx⟩ := hk'
  obtain ⟨us, rfl, hus⟩ := (V.of_Va hk).agg_inv
  have fin : ∀ n, Instr.sameBits (n + 1) (.agg us) (.agg us) = true := by
   intro n
   simp only [Instr.sameBits, beq_self_eq_true, Bool.true_and, List.all_eq_true]
   rintro ⟨a, b⟩ hab
   obtain ⟨i, hi⟩ := List.getElem?_of_mem hab
   rw [List.getElem?_zip_eq_some] at hi
   have hab' : a = b := by
    have h1 := hi.1; have h2 := hi.2
    simp only at h1 h2
    rw [h1] at h2; simpa using h2
   subst hab'
   have hil : i < xs.length := by
    rw [hus.length]; exact (List.getElem?_eq_some_iff.1 hi.1).1
   obtain ⟨u, hu, hc⟩ := hus.get i xs[i] (by simp [hil])
   have h1 := hi.1
   simp only at h1
   rw [hu] at h1
   obtain rfl := Option.some.inj h1
   obtain ⟨k0, _, hk0⟩ := (kks_get hx).2 i xs[i] (by simp [hil])
   exact scalar xs[i] _ k0 n hc hk0
  exact fin 9999
theorem L2.set {α β : Type} {R : α → β → Prop} : ∀ {as : List α} {bs : List β} {n : Nat} {a : α} {b : β}, L2 R as bs → R a b → L2 R (as.set n a) (bs.set n b)
 | [], [], n, a, b, _, _ => by simp [L2]
 | x :: as, y :: bs, 0, a, b, h, hr => ⟨hr, h.2⟩
 | x :: as, y :: bs, n + 1, a, b, h, hr => ⟨h.1, L2.set h.2 hr⟩
 | [], _ :: _, _, _, _, h, _ => h.elim
 | _ :: _, [], _, _, _, h, _ => h.elim
theorem ok_mapUpdate (hr : HR P ι w B L) {t : TypeId} {m k x : AV} {um uk ux : Value} {δ : Delta} (hm : V ι m um) (hk : V ι k uk) (hx : V ι x ux) (hxt : ∀ vs, x ≠ .tup vs)
  (h : amapUpdate P L t m k x = some δ) :
  ∃ ι' w', (Instr.mapUpdate t um uk ux).run P w = .ok () w' ∧ Step P ι w B L ι' w' (upd L next δ) ∧ (∀ b g' l', ι' b g' = some l' → ι b g' = some l' ∨ δ.touches next b) := by
 unfold amapUpdate at h
 split at h
 · rename_i kt et b hkm
   obtain ⟨l, hl, rfl⟩ := hm.map_inv
   split at h
   · rename_i t' es c hL
     split at h
     · rename_i hc
       obtain ⟨rfl, hc1, hc2⟩ := hc
       simp at h; subst h
       obtain ⟨sh, hsk⟩ := Option.isSome_iff_exists.1 hc2
       have hs : kshape P kt = some sh := by rw [hc1, hsk]
       have hka : Va ι k uk := hk.to_Va (by rintro vs rfl; simp [shapeOf, kkOfV] at hsk)
       have hxa : Va ι x ux := hx.to_Va hxt
       obtain ⟨l', hl', hR, hB⟩ := hr.obj b _ hL
       simp only [AObj.gen] at hl'
       rw [hl] at hl'; cases hl'
       obtain ⟨es', e1, e2, e3, e4⟩ := hR
       have hkk : keyKind P t' = some sh := by simp [keyKind, hkm, hs]
       have hsh : Shaped sh es := fun y hy => by rw [e4 y hy, hkk]
       obtain ⟨r', f1, f2⟩ := findKey_ok (w := w) hka hs hsk e2 hsh
       have hck := checkKey_ok (w := w) hka hs hsk false
       have hget : (getObj l.blk).run P w = .ok (.map es' c) w := by simp [getObj, Sem.run, e1]
       have hlt : l.blk < w.heap.size := (Array.getElem?_eq_some_iff.1 e1).1
       have hset : ∀ o : Obj, (setObj l.blk o).run P w = .ok () { w with heap := w.heap.setIfInBounds l.blk o } := fun o => by simp [setObj, Sem.run, e1]
       have spec := mput_spec k x c es 0
       have turn : ∀ (es1 : List (AV × AV × Nat)) (es1' : Array MapEntry) (c1 : Nat), L2 (entryR ι) es1 es1'.toList → (∀ y ∈ es1, shapeOf y.1 = keyKind P t') →
         Step P ι w B L (ι.set b 0 l) { w with heap := w.heap.setIfInBounds l.blk (.map es1' c1) } (upd L next (.set b (.map t' es1 c1))) ∧
         (∀ b0 g l1, ι.set b 0 l b0 g = some l1 → ι b0 g = some l1 ∨ b0 = b) := by
        intro es1 es1' c1 h1 h2
        refine hr_turn (next := next) hr (b := b) (o := .map t' es c) (o' := .map t' es1 c1) (l := l) (l' := l) hL rfl hl rfl (Nat.le_refl _) (fun _ => rfl) (fun c0 _ hc0 => ?_) (by simp) (.inl rfl) ⟨rfl, rfl, rfl⟩ (fun ι' he => ?_)
        · simp [Array.getElem?_setIfInBounds, Ne.symm hc0]
        · exact ⟨es1', by simp [hlt], h1.mono fun _ _ hh => ⟨hh.1.mono he, hh.2.1.mono he, hh.2.2⟩, e3, h2⟩
       cases hf : mfindI k es 0 with
       | some jv =>
        obtain ⟨j, v⟩ := jv
        rw [hf] at f2 spec
        simp only at spec
        obtain ⟨n, y, hj, hy, hkey, hput⟩ := spec
        cases r' with
        | none => exact f2.elim
        | some iv' =>
         obtain ⟨i', v'⟩ := iv'
         obtain ⟨hi, _⟩ := f2
         have hi' : i' = n := by omega
         subst hi'
         obtain ⟨e, he, hre⟩ := e2.get _ y hy
         have he' : es'[i']? = some e := by simpa using he
         obtain ⟨_, q1, q2, _⟩ := keq_spec (P := P) (w := w) hka hre.1 hs hsk (hsh y (List.mem_of_getElem? hy))
         rw [hkey] at q1; cases q1
         have hkeq := q2 rfl
         have hsb := sameBits_self hka hsk
         have hmf : (mfind k es).isSome = true := by rw [mfind_eq k es 0, hf]; rfl
         have hnew : L2 (entryR ι) (es.set i' (k, x, y.2.2)) (es'.modify i' fun e => { e with key := uk, val := ux }).toList := by
          have hl : (es'.modify i' fun e => { e with key := uk, val := ux }).toList = es'.toList.set i' { key := uk, val := ux, born := e.born } := by
           apply List.ext_getElem?
           intro q
           simp only [Array.getElem?_toList, Array.getElem?_modify, List.getElem?_set, Array.length_toList]
           by_cases hq : i' = q
           · subst hq
             have : i' < es'.size := (Array.getElem?_eq_some_iff.1 he').1
             have hb : es'[i'].born = e.born := by rw [(Array.getElem?_eq_some_iff.1 he').2]
             simp [he', this, hb]
           · simp [hq]
          rw [hl]
          exact e2.set ⟨hka, hxa, hre.2.2⟩
         obtain ⟨s1, s2⟩ := turn _ _ c hnew (by
          intro z hz
          rcases List.mem_or_eq_of_mem_set hz with hz | hz
          · exact e4 z hz
          · subst hz; rw [hkk]; exact hsk)
         refine ⟨_, _, ?_, by rw [hput, if_pos hmf]; exact s1, fun b0 g l1 h => s2 b0 g l1 h⟩
         simp only [Instr.mapUpdate, Sem.run_bind, run_underlying (tk_map hkm), Result.andThen_ok, hget, hck, f1, he', Option.map_some, Option.getD_some]
         rw [← hkeq]
         simp only [Instr.keyThatStays, hsb, if_true, Sem.run_pure, Result.andThen_ok, hset]
       | none =>
        rw [hf] at f2 spec
        simp only at spec
        cases r' with
        | some _ => exact f2.elim
        | none =>
         have hmf : (mfind k es).isSome = false := by rw [mfind_eq k es 0, hf]; rfl
         obtain ⟨s1, s2⟩ := turn (es ++ [(k, x, c)]) (es'.push { key := uk, val := ux, born := c }) (c + 1) (by
          rw [Array.toList_push]
          exact e2.append ⟨⟨hka, hxa, rfl⟩, trivial⟩) (by
          intro z hz
          rcases List.mem_append.1 hz with hz | hz
          · exact e4 z hz
          · simp at hz; subst hz; rw [hkk]; exact hsk)
         refine ⟨_, _, ?_, by rw [spec, hmf]; exact s1, fun b0 g l1 h => s2 b0 g l1 h⟩
         simp only [Instr.mapUpdate, Sem.run_bind, run_underlying (tk_map hkm), Result.andThen_ok, hget, hck, f1, hset]
     · simp at h
   · simp at h
 · simp at h
end Go.AM
namespace Go.AM
open Go
set_option linter.unusedVariables false
set_option linter.unusedSimpArgs false
variable {P : Program} {ι : Inj} {w : World} {B : Base} {L : Look} {next : Nat}
theorem ok_range (hr : HR P ι w B L) (hn : L next = none) (hf : ∀ g, ι next g = none) {t : TypeId} {s : List UInt8} {u : Value} (hk : tk P t = .str) (hu : V ι (.str s) u) :
  ∃ ι' w' z, (Instr.range t u).run P w = .ok z w' ∧ V ι' (.ptr (some ⟨next, 0, 0⟩)) z ∧ Step P ι w B L ι' w' (upd L next (.new (.iter s 0))) ∧ (∀ b g' l', ι' b g' = some l' → ι b g' = some l' ∨ b = next) := by
 obtain rfl := hu.str_inv
 have h := hr_new hr hn hf (o := .iter s 0) (l := ⟨w.heap.size, 0, 0, 0⟩) (w' := w.alloc (.stringIter ⟨s.toArray⟩ 0)) rfl (fun c hc => alloc_old w _ c hc) (by simp) ⟨Nat.le_refl _, by simp⟩ ⟨rfl, rfl, rfl⟩
  (fun ι' he => ⟨rfl, ⟨s.toArray⟩, alloc_new w _, rfl⟩)
 refine ⟨_, _, .pointer (some ⟨w.heap.size, 0, none⟩), ?_, V_new _ _ _ _ rfl rfl, h.1, h.2⟩
 simp [Instr.range, run_underlying (tk_str hk)]
theorem ok_next (hr : HR P ι w B L) {it r : AV} {u : Value} {δ : Delta} {ty : TypeId} (hu : V ι it u) (h : aiter L it = some (r, δ)) :
  ∃ ι' w' z, (Instr.next u true ty).run P w = .ok z w' ∧ V ι' r z ∧ Step P ι w B L ι' w' (upd L next δ) ∧ (∀ b g' l', ι' b g' = some l' → ι b g' = some l' ∨ δ.touches next b) := by
 unfold aiter at h
 split at h
 · rename_i a
   obtain ⟨l, hl, hsub, rfl⟩ := hu.ptr_inv
   split at h
   · rename_i s pos hL
     split at h
     · rename_i hoff
       obtain ⟨hg, ho⟩ := hoff
       have hl0 := hl
       rw [hg] at hl0
       obtain ⟨l', hl', hR, hB⟩ := hr.obj a.b _ hL
       simp only [AObj.gen] at hl'
       rw [hl0] at hl'; cases hl'
       obtain ⟨hadd, s', e1, e2⟩ := hR
       have hs' : s' = ⟨s.toArray⟩ := by subst e2; rfl
       subst hs'
       have hat : l.at a.off = ⟨l.blk, 0, none⟩ := by simp [Loc.at, ho, hadd]
       have hget : (getObj l.blk).run P w = .ok (.stringIter ⟨s.toArray⟩ pos) w := by simp [getObj, Sem.run, e1]
       have hlt : l.blk < w.heap.size := (Array.getElem?_eq_some_iff.1 e1).1
       rw [hat]
       split at h
       · rename_i hpos
         simp at h
         obtain ⟨rfl, rfl⟩ := h
         have hset : ∀ o : Obj, (setObj l.blk o).run P w = .ok () { w with heap := w.heap.setIfInBounds l.blk o } := fun o => by simp [setObj, Sem.run, e1]
         have turn := hr_turn (next := next) hr (b := a.b) (o := .iter s pos) (o' := .iter s (pos + (Utf8.decode ⟨s.toArray⟩ pos).2)) (l := l) (l' := l)
          (w' := { w with heap := w.heap.setIfInBounds l.blk (.stringIter ⟨s.toArray⟩ (pos + (Utf8.decode ⟨s.toArray⟩ pos).2)) }) hL rfl hl0 rfl (Nat.le_refl _) (fun _ => rfl)
          (fun c0 _ hc0 => by simp [Array.getElem?_setIfInBounds, Ne.symm hc0]) (by simp) (.inl rfl) ⟨rfl, rfl, rfl⟩ (fun ι' he => ⟨hadd, ⟨s.toArray⟩, by simp [hlt], rfl⟩)
         refine ⟨_, _, .tuple #[.bool true, goInt pos, .int .i32 (Utf8.decode ⟨s.toArray⟩ pos).1], ?_, ⟨rfl, ⟨rfl, rfl⟩, ⟨rfl, rfl⟩, trivial⟩, turn.1, fun b0 g l1 h => turn.2 b0 g l1 h⟩
         simp [Instr.next, hget, size_of, hpos, hset]
       · rename_i hpos
         simp at h
         obtain ⟨rfl, rfl⟩ := h
         exact ⟨ι, w, .tuple #[.bool false], by simp [Instr.next, hget, size_of, hpos], ⟨rfl, trivial⟩, .refl hr, fun _ _ _ h => .inl h⟩
     · simp at h
   · simp at h
 · simp at h
theorem ok_nilck {ρx : Value} {a r : AV} (hx : V ι a ρx) (h : nilck a = some r) :
  ∀ {β : Type} (f : Value → β), (match ρx with
   | .pointer none | .nilIface | .nilFunc => none
   | .func (.method name) first captured => none
   | x => some (f x)) = some (f ρx) ∧ V ι r ρx := by
 intro β f
 unfold nilck at h
 split at h
 · obtain ⟨l, hl, hsub, rfl⟩ := hx.ptr_inv
   simp at h; subst h
   exact ⟨rfl, hx⟩
 · obtain ⟨cs, rfl, _⟩ := hx.fn_inv
   simp at h; subst h
   exact ⟨rfl, hx⟩
 · obtain ⟨y, rfl, _⟩ := hx.ifc_inv
   simp at h; subst h
   exact ⟨rfl, hx⟩
 · rename_i q
   cases q with
   | none =>
    obtain rfl := hx.map_none
    simp at h; subst h
    exact ⟨rfl, hx⟩
   | some q =>
    obtain ⟨l, _, rfl⟩ := hx.map_inv
    simp at h; subst h
    exact ⟨rfl, hx⟩
 · simp at h
theorem evL_L2 {ev : Ev} {ρ : Operand → Value} (he : ∀ x v, ev x = some v → V ι v (ρ x)) : ∀ {xs : List Operand} {vs : List AV}, evL ev xs = some vs → L2 (V ι) vs (xs.map ρ)
 | [], vs, h => by simp [evL] at h; subst h; trivial
 | x :: xs, vs, h => by
  unfold evL at h
  split at h
  · rename_i v vs' hv hvs
    simp at h; subst h
    exact ⟨he x v hv, evL_L2 he hvs⟩
  · simp at h
theorem evP_L2 {ev : Ev} {ρ : Operand → Value} (he : ∀ x v, ev x = some v → V ι v (ρ x)) : ∀ {xs : List (Nat × Operand)} {vs : List (Nat × AV)}, evP ev xs = some vs → L2 (PartsR ι) vs (xs.map fun (i, x) => (i, ρ x))
 | [], vs, h => by simp [evP] at h; subst h; trivial
 | (i, x) :: xs, vs, h => by
  unfold evP at h
  split at h
  · rename_i v vs' hv hvs
    simp at h; subst h
    exact ⟨⟨rfl, he x v hv⟩, evP_L2 he hvs⟩
  · simp at h
theorem evO_VO {ev : Ev} {ρ : Operand → Value} (he : ∀ x v, ev x = some v → V ι v (ρ x)) {x : Option Operand} {v : Option AV} (h : evO ev x = some v) : VO ι v (x.map ρ) := by
 cases x with
 | none => simp [evO] at h; subst h; trivial
 | some x =>
  unfold evO at h
  cases hx : ev x with
  | none => simp [hx] at h
  | some y => simp [hx] at h; subst h; exact he x y hx
theorem min_ok : ∀ {vs : List AV} {us : List Value} {x r : AV} {u : Value}, L2 (V ι) vs us → V ι x u → vs.foldl amin1 (some x) = some r → ∃ z, (us.foldlM Builtin.min2 u).run P w = .ok z w ∧ V ι r z
 | [], [], x, r, u, _, hx, h => by
  simp at h; subst h
  exact ⟨u, by simp, hx⟩
 | v :: vs, y :: us, x, r, u, hv, hx, h => by
  simp only [List.foldl_cons] at h
  cases h1 : amin1 (some x) v with
  | none =>
   rw [h1] at h
   have : ∀ l : List AV, l.foldl amin1 none = none := fun l => by induction l with
    | nil => rfl
    | cons a l ih => simp only [List.foldl_cons]; exact ih
   rw [this] at h; cases h
  | some x' =>
   rw [h1] at h
   unfold amin1 at h1
   split at h1
   · rename_i k a k' b heq
     simp only [Option.some.injEq] at heq; subst heq
     split at h1
     · rename_i hk
       subst hk
       simp at h1; subst h1
       obtain rfl := hx.int_inv
       obtain rfl := hv.1.int_inv
       obtain ⟨z, hz, hr⟩ := min_ok hv.2 (.int ι k (if b < a then b else a)) h
       exact ⟨z, by simp only [List.foldlM_cons, Sem.run_bind, Builtin.min2, Sem.run_pure, Result.andThen_ok]; exact hz, hr⟩
     · simp at h1
   · simp at h1
 | [], _ :: _, _, _, _, hv, _, _ => hv.elim
 | _ :: _, [], _, _, _, hv, _, _ => hv.elim
theorem max_ok : ∀ {vs : List AV} {us : List Value} {x r : AV} {u : Value}, L2 (V ι) vs us → V ι x u → vs.foldl amax1 (some x) = some r → ∃ z, (us.foldlM Builtin.max2 u).run P w = .ok z w ∧ V ι r z
 | [], [], x, r, u, _, hx, h => by
  simp at h; subst h
  exact ⟨u, by simp, hx⟩
 | v :: vs, y :: us, x, r, u, hv, hx, h => by
  simp only [List.foldl_cons] at h
  cases h1 : amax1 (some x) v with
  | none =>
   rw [h1] at h
   have : ∀ l : List AV, l.foldl amax1 none = none := fun l => by induction l with
    | nil => rfl
    | cons a l ih => simp only [List.foldl_cons]; exact ih
   rw [this] at h; cases h
  | some x' =>
   rw [h1] at h
   unfold amax1 at h1
   split at h1
   · rename_i k a k' b heq
     simp only [Option.some.injEq] at heq; subst heq
     split at h1
     · rename_i hk
       subst hk
       simp at h1; subst h1
       obtain rfl := hx.int_inv
       obtain rfl := hv.1.int_inv
       obtain ⟨z, hz, hr⟩ := max_ok hv.2 (.int ι k (if a < b then b else a)) h
       exact ⟨z, by simp only [List.foldlM_cons, Sem.run_bind, Builtin.max2, Sem.run_pure, Result.andThen_ok]; exact hz, hr⟩
     · simp at h1
   · simp at h1
 | [], _ :: _, _, _, _, hv, _, _ => hv.elim
 | _ :: _, [], _, _, _, hv, _, _ => hv.elim
theorem ok_len (hr : HR P ι w B L) {t ty : TypeId} {x r : AV} {u : Value} (hx : V ι x u) (h : alen P L t x = some r) : ∃ z, (Builtin.len_ #[t] ty #[u]).run P w = .ok z w ∧ V ι r z := by
 unfold alen at h
 split at h
 · rename_i s hk
   obtain rfl := hx.str_inv
   simp at h; subst h
   exact ⟨_, by simp [Builtin.len_, run_underlying (tk_str hk), goInt, size_of], .int _ _ _⟩
 · rename_i n e hk
   simp at h; subst h
   exact ⟨.int .i64 n, by cases u <;> simp [Builtin.len_, run_underlying (tk_arr hk), goInt], .int _ _ _⟩
 · rename_i e a n c hk
   simp at h; subst h
   cases a with
   | none =>
    obtain ⟨rfl, rfl, rfl⟩ := hx.sl_none
    exact ⟨_, by simp [Builtin.len_, run_underlying (tk_slice hk), goInt], .int _ _ _⟩
   | some a =>
    obtain ⟨p, l, rfl, _⟩ := hx.sl_inv
    exact ⟨_, by simp [Builtin.len_, run_underlying (tk_slice hk), goInt], .int _ _ _⟩
 · rename_i k e hk
   obtain rfl := hx.map_none
   simp at h; subst h
   exact ⟨_, by simp [Builtin.len_, run_underlying (tk_map hk), goInt], .int _ _ _⟩
 · rename_i k e b hk
   obtain ⟨l, hl, rfl⟩ := hx.map_inv
   split at h
   · rename_i t' es c hL
     simp at h; subst h
     obtain ⟨l', hl', hR, _⟩ := hr.obj b _ hL
     simp only [AObj.gen] at hl'
     rw [hl] at hl'; cases hl'
     obtain ⟨es', e1, e2, _⟩ := hR
     have hget : (getObj l.blk).run P w = .ok (.map es' c) w := by simp [getObj, Sem.run, e1]
     have := e2.length
     simp only [Array.length_toList] at this
     exact ⟨_, by simp [Builtin.len_, run_underlying (tk_map hk), goInt, hget, this], .int _ _ _⟩
   · simp at h
 · simp at h
theorem ok_copy (hr : HR P ι w B L) {t u ty : TypeId} {d s r : AV} {ud us : Value} {δ : Delta} (hd : V ι d ud) (hs : V ι s us) (h : acopy P L t d s = some (r, δ)) :
  ∃ ι' w' z, (Builtin.copy_ #[t, u] ty #[ud, us]).run P w = .ok z w' ∧ V ι' r z ∧ Step P ι w B L ι' w' (upd L next δ) ∧ (∀ b g' l', ι' b g' = some l' → ι b g' = some l' ∨ δ.touches next b) := by
 unfold acopy at h
 split at h
 · rename_i a n c s
   split at h
   · rename_i e cs e' g hk hL
     split at h
     · rename_i hc
       obtain ⟨h1, hg, hpos, hle⟩ := hc
       simp only [Option.some.injEq, Prod.mk.injEq] at h
       obtain ⟨rfl, rfl⟩ := h
       obtain ⟨p, l, rfl, hnc, hl, hsub, hp⟩ := hd.sl_inv
       obtain rfl := hs.str_inv
       obtain rfl := hp (by omega)
       rw [← hg] at hl
       have hsrc := byteCells_L2 ι (s.take (min s.length n))
       have hlen : (byteCells (s.take (min s.length n))).length = min s.length n := by simp [byteCells]
       obtain ⟨w', r1, _, r2, r3⟩ := hr_write (next := next) hr hL hl (o := a.off) hsub (put_splice (by omega)) (by omega) hsrc
       refine ⟨_, w', .int .i64 (min s.length n : Nat), ?_, .int _ _ _, r2, fun b0 g0 l1 h => r3 b0 g0 l1 h⟩
       have hcells : (((ByteArray.mk s.toArray).extract 0 (min s.length n)).data.map fun b => Value.int .u8 (b.toNat : Int)) = ((s.take (min s.length n)).toArray.map fun b => Value.int .u8 (b.toNat : Int)) := by
        congr 1
        apply Array.ext'
        rw [ByteArray.data_extract, Array.toList_extract, List.extract_eq_take_drop]
        simp
       simp [Builtin.copy_, run_underlying (tk_slice hk), Builtin.lenOf, Builtin.firstCells, size_of, run_sizeOf (show 0 < tsz P e by omega), hcells, goInt]
       simp at r1
       simp [r1]
     · simp at h
   · simp at h
 · simp at h
theorem mfindI_ge (k : AV) : ∀ (es : List (AV × AV × Nat)) (i j : Nat) (v : AV), mfindI k es i = some (j, v) → i ≤ j
 | [], i, j, v, h => by simp [mfindI] at h
 | (k', v', c') :: r, i, j, v, h => by
  unfold mfindI at h
  split at h
  · simp at h; omega
  · have := mfindI_ge k r (i + 1) j v h; omega
theorem merase_spec (k : AV) : ∀ (es : List (AV × AV × Nat)) (i : Nat),
  match mfindI k es i with
  | some (j, _) => merase k es = es.eraseIdx (j - i)
  | none => merase k es = es
 | [], i => rfl
 | (k', v', c') :: r, i => by
  unfold mfindI merase
  by_cases h : keq k k' = some true
  · simp [h]
  · simp only [h, if_false]
    have ih := merase_spec k r (i + 1)
    cases hf : mfindI k r (i + 1) with
    | none => simp only [hf] at ih ⊢; rw [ih]
    | some jv =>
     obtain ⟨j, u⟩ := jv
     have hge := mfindI_ge k r (i + 1) j u hf
     simp only [hf] at ih ⊢
     rw [ih]
     obtain ⟨q, hq⟩ : ∃ q, j - i = q + 1 := ⟨j - i - 1, by omega⟩
     rw [hq, List.eraseIdx_cons_succ]
     congr 2
     omega
theorem L2.eraseIdx {α β : Type} {R : α → β → Prop} : ∀ {as : List α} {bs : List β} {n : Nat}, L2 R as bs → L2 R (as.eraseIdx n) (bs.eraseIdx n)
 | [], [], n, _ => by simp [L2]
 | x :: as, y :: bs, 0, h => h.2
 | x :: as, y :: bs, n + 1, h => ⟨h.1, L2.eraseIdx h.2⟩
 | [], _ :: _, _, h => h.elim
 | _ :: _, [], _, h => h.elim
theorem ok_delete (hr : HR P ι w B L) {t u ty : TypeId} {m k : AV} {um uk : Value} {δ : Delta} (hm : V ι m um) (hk : V ι k uk) (h : adelete P L t m k = some δ) :
  ∃ ι' w', (Builtin.delete_ #[t, u] ty #[um, uk]).run P w = .ok (.tuple #[]) w' ∧ Step P ι w B L ι' w' (upd L next δ) ∧ (∀ b g' l', ι' b g' = some l' → ι b g' = some l' ∨ δ.touches next b) := by
 unfold adelete at h
 split at h
 · rename_i kt et b hkm
   obtain ⟨l, hl, rfl⟩ := hm.map_inv
   split at h
   · rename_i t' es c hL
     split at h
     · rename_i hc
       obtain ⟨rfl, hc1, hc2⟩ := hc
       simp at h; subst h
       obtain ⟨sh, hsk⟩ := Option.isSome_iff_exists.1 hc2
       have hs : kshape P kt = some sh := by rw [hc1, hsk]
       have hka : Va ι k uk := hk.to_Va (by rintro vs rfl; simp [shapeOf, kkOfV] at hsk)
       obtain ⟨l', hl', hR, hB⟩ := hr.obj b _ hL
       simp only [AObj.gen] at hl'
       rw [hl] at hl'; cases hl'
       obtain ⟨es', e1, e2, e3, e4⟩ := hR
       have hkk : keyKind P t' = some sh := by simp [keyKind, hkm, hs]
       have hsh : Shaped sh es := fun y hy => by rw [e4 y hy, hkk]
       obtain ⟨r', f1, f2⟩ := findKey_ok (w := w) hka hs hsk e2 hsh
       have hck := checkKey_ok (w := w) hka hs hsk es'.isEmpty
       have hget : (getObj l.blk).run P w = .ok (.map es' c) w := by simp [getObj, Sem.run, e1]
       have hlt : l.blk < w.heap.size := (Array.getElem?_eq_some_iff.1 e1).1
       have hset : ∀ o : Obj, (setObj l.blk o).run P w = .ok () { w with heap := w.heap.setIfInBounds l.blk o } := fun o => by simp [setObj, Sem.run, e1]
       have spec := merase_spec k es 0
       have turn : ∀ (es1 : List (AV × AV × Nat)) (es1' : Array MapEntry), L2 (entryR ι) es1 es1'.toList → (∀ y ∈ es1, y ∈ es) →
         Step P ι w B L (ι.set b 0 l) { w with heap := w.heap.setIfInBounds l.blk (.map es1' c) } (upd L next (.set b (.map t' es1 c))) ∧
         (∀ b0 g l1, ι.set b 0 l b0 g = some l1 → ι b0 g = some l1 ∨ b0 = b) := by
        intro es1 es1' h1 h2
        refine hr_turn (next := next) hr (b := b) (o := .map t' es c) (o' := .map t' es1 c) (l := l) (l' := l) hL rfl hl rfl (Nat.le_refl _) (fun _ => rfl) (fun c0 _ hc0 => ?_) (by simp) (.inl rfl) ⟨rfl, rfl, rfl⟩ (fun ι' he => ?_)
        · simp [Array.getElem?_setIfInBounds, Ne.symm hc0]
        · exact ⟨es1', by simp [hlt], h1.mono fun _ _ hh => ⟨hh.1.mono he, hh.2.1.mono he, hh.2.2⟩, e3, fun y hy => e4 y (h2 y hy)⟩
       cases hf : mfindI k es 0 with
       | some jv =>
        obtain ⟨j, v⟩ := jv
        rw [hf] at f2 spec
        simp only [Nat.sub_zero] at spec
        cases r' with
        | none => exact f2.elim
        | some iv' =>
         obtain ⟨i', v'⟩ := iv'
         obtain ⟨rfl, _⟩ := f2
         obtain ⟨s1, s2⟩ := turn (es.eraseIdx j) (es'.eraseIdxIfInBounds j) (by
          have : (es'.eraseIdxIfInBounds j).toList = es'.toList.eraseIdx j := by simp
          rw [this]
          exact e2.eraseIdx) (fun y hy => List.mem_of_mem_eraseIdx hy)
         refine ⟨_, _, ?_, by rw [spec]; exact s1, fun b0 g l1 h => s2 b0 g l1 h⟩
         simp [Builtin.delete_, run_underlying (tk_map hkm), hget, hck, f1, hset]
       | none =>
        rw [hf] at f2 spec
        simp only at spec
        cases r' with
        | some _ => exact f2.elim
        | none =>
         obtain ⟨s1, s2⟩ := turn es es' e2 (fun y hy => hy)
         refine ⟨_, _, ?_, by rw [spec]; exact s1, fun b0 g l1 h => s2 b0 g l1 h⟩
         simp [Builtin.delete_, run_underlying (tk_map hkm), hget, hck, f1, hset]
     · simp at h
   · simp at h
 · simp at h
theorem kk_notTup {k : AV} (h : (shapeOf k).isSome) : ∀ vs, k ≠ .tup vs := by
 rintro vs rfl; simp [shapeOf, kkOfV] at h
theorem plain_L2 : ∀ {vs : List AV} {us : List Value}, L2 (V ι) vs us → vs.all AV.plain = true → L2 (Vp ι) vs us
 | [], [], _, _ => trivial
 | v :: vs, u :: us, h, hp => by
  simp only [List.all_cons, Bool.and_eq_true] at hp
  exact ⟨h.1.to_Vp hp.1, plain_L2 h.2 hp.2⟩
 | [], _ :: _, h, _ => h.elim
 | _ :: _, [], h, _ => h.elim
theorem OpOk.val {r : Result Next} {v : AV} {δ : Delta} (h : ∃ ι' w' z, r = .ok (.value z) w' ∧ V ι' v z ∧ Step P ι w B L ι' w' (upd L next δ) ∧ (∀ b g' l', ι' b g' = some l' → ι b g' = some l' ∨ δ.touches next b)) :
  OpOk P ι w B L next r v δ := by
 obtain ⟨ι', w', z, h1, h2, h3, h4⟩ := h
 exact ⟨ι', w', z, .inl h1, h2, h3, h4⟩
theorem OpOk.unit {r : Result Next} {δ : Delta} (h : ∃ ι' w', r = .ok .skip w' ∧ Step P ι w B L ι' w' (upd L next δ) ∧ (∀ b g' l', ι' b g' = some l' → ι b g' = some l' ∨ δ.touches next b)) :
  OpOk P ι w B L next r (.tup []) δ := by
 obtain ⟨ι', w', h1, h3, h4⟩ := h
 exact ⟨ι', w', undef, .inr ⟨h1, rfl⟩, .undef _, h3, h4⟩
theorem fieldKinds_mem : ∀ {fs : List Field} {i : Nat} {ks : List KK}, fieldKinds P fs i = some ks → ∀ f ∈ fs, ∃ k, kkOf (tk P f.type) = some k
 | [], i, ks, h, f, hf => by simp at hf
 | f0 :: fs, i, ks, h, f, hf => by
  unfold fieldKinds at h
  split at h
  · rename_i k ks' hk hrest
    rcases List.mem_cons.1 hf with rfl | hf
    · exact ⟨k, hk⟩
    · exact fieldKinds_mem hrest f hf
  · simp at h
theorem eqGuard_false {t : TypeId} {ks : List KK} (h : kshape P t = some (.many ks)) : P.eqGuardType P.depth t = false := by
 obtain ⟨fs, hu, _, hf⟩ := kshape_many h
 have : ∀ n, P.eqGuardType (n + 2) t = false := by
  intro n
  simp only [Program.eqGuardType, hu]
  rw [Array.any_eq_false]
  intro i hi
  have hm : fs[i] ∈ fs.toList := by simp
  obtain ⟨k, hk⟩ := fieldKinds_mem hf _ hm
  have : P.underlying fs[i].type ≠ none := by intro hn; simp [tk, hn, kkOf] at hk
  cases hfu : P.underlying fs[i].type with
  | none => exact absurd hfu this
  | some d => cases d <;> simp [tk, hfu, kkOf] at hk ⊢
 exact this (2 * (P.types.size + Made.depth))
theorem ok_eqAgg {t : TypeId} {a b : List AV} {r : Bool} {u v : Value} (ha : V ι (.agg a) u) (hb : V ι (.agg b) v) (h0 : (kshape P t).isSome) (h1 : kshape P t = shapeOf (.agg a)) (h2 : kshape P t = shapeOf (.agg b))
  (h : keq (.agg a) (.agg b) = some r) (x y : Operand) :
  (do eqGuard .eql t x y u v; binOp .eql t u v : Sem Value).run P w = .ok (.bool r) w ∧ (do eqGuard .neq t x y u v; binOp .neq t u v : Sem Value).run P w = .ok (.bool (!r)) w := by
 obtain ⟨sh, hsh⟩ := Option.isSome_iff_exists.1 h0
 have hsa : shapeOf (.agg a) = some sh := by rw [← h1, hsh]
 have hsb : shapeOf (.agg b) = some sh := by rw [← h2, hsh]
 obtain ⟨r', e1, _, e2, _⟩ := keq_spec (P := P) (w := w) (ha.to_Va (by simp)) (hb.to_Va (by simp)) hsh hsa hsb
 rw [h] at e1; cases e1
 obtain ⟨ks, rfl⟩ : ∃ ks, sh = .many ks := by
  simp only [shapeOf] at hsa
  cases hx : kks a <;> simp [hx] at hsa
  exact ⟨_, hsa.symm⟩
 have hg := eqGuard_false hsh
 obtain ⟨us, rfl, _⟩ := ha.agg_inv
 obtain ⟨vs, rfl, _⟩ := hb.agg_inv
 have e3 : (Op.equalIn 10000 t (.agg us) (.agg vs)).run P w = .ok r w := e2
 constructor
 · simp only [Sem.run_bind, run_eqGuard_agg w _ t x y us vs hg, Result.andThen_ok, run_eql_struct, e3]
 · simp only [Sem.run_bind, run_eqGuard_agg w _ t x y us vs hg, Result.andThen_ok, run_neq_struct, e3]
theorem one_of {x : AV} : ∀ {l : List Value}, L2 (V ι) [x] l → ∃ u, l = [u] ∧ V ι x u
 | [u], h => ⟨u, rfl, h.1⟩
 | [], h => h.elim
 | _ :: _ :: _, h => h.2.elim
theorem two_of {x y : AV} : ∀ {l : List Value}, L2 (V ι) [x, y] l → ∃ u v, l = [u, v] ∧ V ι x u ∧ V ι y v
 | [u, v], h => ⟨u, v, rfl, h.1, h.2.1⟩
 | [], h => h.elim
 | [_], h => h.2.elim
 | _ :: _ :: _ :: _, h => h.2.2.elim
set_option maxHeartbeats 1000000 in
theorem ok_aop (hr : HR P ι w B L) {ev : Ev} {ρ : Operand → Value} (he : ∀ x v, ev x = some v → V ι v (ρ x))
  {o : Oper} {v : AV} {δ : Delta} (h : aop P ev L next o.op = some (v, δ)) (hnf : (∃ ob, δ = .new ob) → L next = none ∧ ∀ g, ι next g = none) : OpOk P ι w B L next ((execOp ρ o).run P w) v δ := by
 obtain ⟨dst, op, type, pos, after, guard⟩ := o
 simp only at h
 cases op <;> simp only [aop] at h <;> simp only [execOp]
 case move x =>
  cases hx : ev x <;> simp [hx] at h
  obtain ⟨rfl, rfl⟩ := h
  exact .pure hr (by simp) (he x _ hx)
 case assign x =>
  cases hx : ev x <;> simp [hx] at h
  obtain ⟨rfl, rfl⟩ := h
  exact .pure hr (by simp) (he x _ hx)
 case pick c a b =>
  split at h
  · rename_i c' a' b' h1 h2 h3
    simp at h
    obtain ⟨rfl, rfl⟩ := h
    have hc := (he _ _ h1).bool_inv
    refine .pure hr (u := if c' then ρ a else ρ b) (by simp [hc, asBool]) ?_
    cases c'
    · exact he _ _ h3
    · exact he _ _ h2
  · simp at h
 case alloc t =>
  split at h
  · rename_i z hz
    split at h
    · simp at h
      obtain ⟨rfl, rfl⟩ := h
      obtain ⟨w', u, h1, h2, h3, h4⟩ := ok_alloc (next := next) hr (hnf ⟨_, rfl⟩).1 (hnf ⟨_, rfl⟩).2 hz
      exact .val ⟨_, w', u, by simp [h1], h2, h3, h4⟩
    · simp at h
  · simp at h
 case box t x =>
  split at h
  · rename_i a ha
    split at h
    · rename_i hone
      simp at h
      obtain ⟨rfl, rfl⟩ := h
      obtain ⟨w', u, h1, h2, h3, h4⟩ := ok_box (next := next) hr (hnf ⟨_, rfl⟩).1 (hnf ⟨_, rfl⟩).2 (t := t) (he _ _ ha) hone
      exact .val ⟨_, w', u, by simp [h1], h2, h3, h4⟩
    · simp at h
  · simp at h
 case build t parts =>
  split at h
  · rename_i ps hps
    cases hb : abuild P t ps <;> simp [hb] at h
    obtain ⟨rfl, rfl⟩ := h
    have hp := evP_L2 he hps
    obtain ⟨z, h1, h2⟩ := ok_build (w := w) (qs := parts.map fun (i, x) => (i, ρ x)) (by simpa using hp) hb
    exact .pure hr (by simp [h1]) h2
  · simp at h
 case buildSlice t n parts =>
  split at h
  · rename_i ps hps
    have hp := evP_L2 he hps
    obtain ⟨ι', w', u, h1, h2, h3, h4⟩ := ok_buildSlice (next := next) hr (qs := parts.map fun (i, x) => (i, ρ x)) (by simpa using hp) h hnf
    exact .val ⟨ι', w', u, by simp [h1], h2, h3, h4⟩
  · simp at h
 case insert t m k x =>
  split at h
  · rename_i m' k' x' h1 h2 h3
    split at h
    · rename_i hnt
      cases hu : amapUpdate P L t m' k' x' <;> simp [hu] at h
      obtain ⟨rfl, rfl⟩ := h
      obtain ⟨ι', w', q1, q2, q3⟩ := ok_mapUpdate (next := next) hr (he _ _ h1) (he _ _ h2) (he _ _ h3) (by rintro vs rfl; simp [AV.notTup] at hnt) hu
      exact .unit ⟨ι', w', by simp [q1], q2, q3⟩
    · simp at h
  · simp at h
 case load t a =>
  split at h
  · rename_i p hp
    cases hl : aload P L t p <;> simp [hl] at h
    obtain ⟨rfl, rfl⟩ := h
    obtain ⟨x, h1, h2⟩ := ok_load hr (he _ _ hp) hl
    exact .pure hr (by simp [h1]) h2
  · simp at h
 case store t a x =>
  split at h
  · rename_i p x' hp hx
    cases hs : astore P L t p x' <;> simp [hs] at h
    obtain ⟨rfl, rfl⟩ := h
    obtain ⟨ι', w', h1, h2, h3⟩ := ok_store (next := next) hr (he _ _ hp) (he _ _ hx) hs
    exact .unit ⟨ι', w', by simp [h1], h2, h3⟩
  · simp at h
 case nilCheck x =>
  split at h
  · rename_i a ha
    have hx := he _ _ ha
    cases hk : nilck a <;> simp [hk] at h
    obtain ⟨rfl, rfl⟩ := h
    unfold nilck at hk
    split at hk
    · obtain ⟨l, hl, hsub, hv⟩ := hx.ptr_inv
      simp at hk; subst hk
      exact .pure hr (u := ρ x) (by simp only [hv]; rfl) hx
    · obtain ⟨cs, hv, _⟩ := hx.fn_inv
      simp at hk; subst hk
      exact .pure hr (u := ρ x) (by simp only [hv]; rfl) hx
    · obtain ⟨y, hv, _⟩ := hx.ifc_inv
      simp at hk; subst hk
      exact .pure hr (u := ρ x) (by simp only [hv]; rfl) hx
    · rename_i q
      simp at hk; subst hk
      cases q with
      | none =>
       have hv := hx.map_none
       exact .pure hr (u := ρ x) (by simp only [hv]; rfl) hx
      | some q =>
       obtain ⟨l, _, hv⟩ := hx.map_inv
       exact .pure hr (u := ρ x) (by simp only [hv]; rfl) hx
    · simp at hk
  · simp at h
 case binOp op t x y ty =>
  split at h
  · rename_i a b ha hb
    split at h
    · rename_i hc
      obtain ⟨rfl, h0, h1, h2⟩ := hc
      cases hk : keq (.agg a) (.agg b) <;> simp [hk] at h
      obtain ⟨rfl, rfl⟩ := h
      have := (ok_eqAgg (w := w) (he _ _ ha) (he _ _ hb) h0 h1 h2 hk x y).1
      exact .pure hr (by simp only [Sem.run_bind] at this ⊢; rw [this]; rfl) (.bool _ _)
    · split at h
      · rename_i hc
        obtain ⟨rfl, h0, h1, h2⟩ := hc
        cases hk : keq (.agg a) (.agg b) <;> simp [hk] at h
        obtain ⟨rfl, rfl⟩ := h
        have := (ok_eqAgg (w := w) (he _ _ ha) (he _ _ hb) h0 h1 h2 hk x y).2
        exact .pure hr (by simp only [Sem.run_bind] at this ⊢; rw [this]; rfl) (.bool _ _)
      · simp at h
  · rename_i a b _ ha hb
    cases hk : abin (tk P t) op a b <;> simp [hk] at h
    obtain ⟨rfl, rfl⟩ := h
    obtain ⟨z, h1, h2⟩ := ok_bin (w := w) (he _ _ ha) (he _ _ hb) hk x y
    exact .pure hr (by simp only [Sem.run_bind] at h1 ⊢; rw [h1]; rfl) h2
  · simp at h
 case unOp op t x =>
  split at h
  · rename_i a ha
    cases hk : aun op a <;> simp [hk] at h
    obtain ⟨rfl, rfl⟩ := h
    obtain ⟨z, h1, h2⟩ := ok_un (P := P) (w := w) (he _ _ ha) hk
    exact .pure hr (by simp [h1]) h2
  · simp at h
 case convert s d x =>
  split at h
  · rename_i a ha
    obtain ⟨ι', w', u, h1, h2, h3, h4⟩ := ok_conv (next := next) hr (he _ _ ha) h hnf
    exact .val ⟨ι', w', u, by simp [h1], h2, h3, h4⟩
  · simp at h
 case makeInterface t x =>
  have hk1 : tk P t ≠ .iface := by intro hh; simp [hh] at h
  have hk2 : tk P t ≠ .other := by intro hh; simp [hh] at h
  cases ha : ev x with
  | none => cases hk : tk P t <;> simp [hk, ha] at h
  | some a =>
   have h' : (if a.plain = true then some (AV.ifc t a, Delta.no) else none) = some (v, δ) := by
    cases hk : tk P t <;> simp only [hk, ha] at h <;> first | exact h | exact absurd hk hk1 | exact absurd hk hk2
   clear h
   split at h'
   · rename_i hp
     simp at h'
     obtain ⟨rfl, rfl⟩ := h'
     have hcon : P.concrete t = true := by
      unfold Program.concrete
      unfold tk at hk1 hk2
      cases hu : P.underlying t with
      | none => simp [hu] at hk2
      | some d => cases d <;> first | rfl | (simp [hu] at hk1)
     have hv : V ι (.ifc t a) (.iface t (ρ x)) := by
      simp only [V, Va, Vc]
      exact ⟨trivial, (he _ _ ha).to_Vp hp⟩
     exact .pure hr (by simp [run_makeInterface w t _ hcon]) hv
   · simp at h'
 case makeFunc f first caps =>
  split at h
  · rename_i vs hvs
    split at h
    · rename_i hc
      obtain ⟨hc1, hc2⟩ := hc
      simp at h
      obtain ⟨rfl, rfl⟩ := h
      have hf0 := Array.eq_empty_of_size_eq_zero hc1
      subst hf0
      have hp := plain_L2 (evL_L2 he hvs) hc2
      have hv : V ι (.fn f vs) (.func f #[] (caps.map ρ)) := by
       simp only [V, Va, Vc]
       exact ⟨trivial, trivial, by simpa using hp⟩
      exact .pure hr (by simp [Instr.makeFunc]) hv
    · unfold aboundF at h
      split at h
      · rename_i g x hfx hcn
        split at h
        · rename_i a ha
          split at h
          · rename_i hp
            simp at h
            obtain ⟨rfl, rfl⟩ := h
            have hf1 : first = #[x] := Array.ext' hfx
            have hc0 : caps = #[] := by
             have := (evL_L2 he hvs).length
             exact Array.eq_empty_of_size_eq_zero (by simpa using this.symm)
            subst hf1 hc0
            have hv : V ι (.bm g a) (.func (.func g) #[ρ x] #[]) := by
             simp only [V, Va, Vc]
             exact ⟨trivial, trivial, _, rfl, (he _ _ ha).to_Vp hp⟩
            exact .pure hr (by simp [Instr.makeFunc]) hv
          · simp at h
        · simp at h
      · simp at h
  · simp at h
 case makeMap t r =>
  split at h
  · rename_i kt et hk
    split at h
    · rename_i hks
      simp at h
      obtain ⟨rfl, rfl⟩ := h
      have hst := hr_new hr (hnf ⟨_, rfl⟩).1 (hnf ⟨_, rfl⟩).2 (o := .map t [] 0) (l := ⟨w.heap.size, 0, 0, 0⟩) (w' := w.alloc (.map #[] 0)) rfl (fun c hc => alloc_old w _ c hc) (by simp) ⟨Nat.le_refl _, by simp⟩ ⟨rfl, rfl, rfl⟩
       (fun ι' he => ⟨#[], alloc_new w _, trivial, by simp [keyKind, hk, hks], fun x hx => by simp at hx⟩)
      refine .val ⟨_, _, .map (some w.heap.size), by simp [Instr.makeMap], ?_, hst.1, hst.2⟩
      exact ⟨_, Inj.set_same .., rfl⟩
    · simp at h
  · simp at h
 case makeSlice t l c =>
  split at h
  · rename_i l' c' hl hc
    obtain ⟨ι', w', u, h1, h2, h3, h4⟩ := ok_makeSlice (next := next) hr (he _ _ hl) (he _ _ hc) h hnf
    exact .val ⟨ι', w', u, by simp [h1], h2, h3, h4⟩
  · simp at h
 case slice t x lo hi mx =>
  split at h
  · rename_i x' lo' hi' mx' hx hlo hhi hmx
    cases hk : aslice P L t x' lo' hi' mx' <;> simp [hk] at h
    obtain ⟨rfl, rfl⟩ := h
    obtain ⟨z, h1, h2⟩ := ok_slice hr (he _ _ hx) (evO_VO he hlo) (evO_VO he hhi) (evO_VO he hmx) hk
    exact .pure hr (by simp [h1]) h2
  · simp at h
 case fieldAddr t x f =>
  split at h
  · rename_i a o u hx hfd
    split at h
    · rename_i hpos
      simp at h
      obtain ⟨rfl, rfl⟩ := h
      obtain ⟨z, h1, h2⟩ := ok_fieldAddr (w := w) (he _ _ hx) hfd hpos
      exact .pure hr (by simp [h1]) h2
    · simp at h
  · simp at h
 case field t x f =>
  split at h
  · rename_i cs o u hx hfd
    cases hk : Go.AM.apart P u cs o <;> simp [hk] at h
    obtain ⟨rfl, rfl⟩ := h
    obtain ⟨z, h1, h2⟩ := ok_field (w := w) (he _ _ hx) hfd hk
    exact .pure hr (by simp [h1]) h2
  · simp at h
 case indexAddr t x i =>
  split at h
  · rename_i x' i' hx hi
    cases hk : aindexAddr P t x' i' <;> simp [hk] at h
    obtain ⟨rfl, rfl⟩ := h
    obtain ⟨z, h1, h2⟩ := ok_indexAddr (w := w) (he _ _ hx) (he _ _ hi) hk
    exact .pure hr (by simp [h1]) h2
  · simp at h
 case index t x i =>
  split at h
  · rename_i x' i' hx hi
    cases hk : aindex P t x' i' <;> simp [hk] at h
    obtain ⟨rfl, rfl⟩ := h
    obtain ⟨z, h1, h2⟩ := ok_index (w := w) (he _ _ hx) (he _ _ hi) hk
    exact .pure hr (by simp [h1]) h2
  · simp at h
 case lookup t m k ok =>
  split at h
  · rename_i m' k' hm hk
    cases hl : alookup P L t m' k' ok <;> simp [hl] at h
    obtain ⟨rfl, rfl⟩ := h
    obtain ⟨z, h1, h2⟩ := ok_lookup hr (he _ _ hm) (he _ _ hk) hl
    exact .pure hr (by simp [h1]) h2
  · simp at h
 case mapUpdate t m k x =>
  split at h
  · rename_i m' k' x' h1 h2 h3
    split at h
    · rename_i hnt
      cases hu : amapUpdate P L t m' k' x' <;> simp [hu] at h
      obtain ⟨rfl, rfl⟩ := h
      obtain ⟨ι', w', q1, q2, q3⟩ := ok_mapUpdate (next := next) hr (he _ _ h1) (he _ _ h2) (he _ _ h3) (by rintro vs rfl; simp [AV.notTup] at hnt) hu
      exact .unit ⟨ι', w', by simp [q1], q2, q3⟩
    · simp at h
  · simp at h
 case range t x =>
  split at h
  · rename_i s hk hx
    simp at h
    obtain ⟨rfl, rfl⟩ := h
    obtain ⟨ι', w', u, h1, h2, h3, h4⟩ := ok_range (next := next) hr (hnf ⟨_, rfl⟩).1 (hnf ⟨_, rfl⟩).2 hk (he _ _ hx)
    exact .val ⟨ι', w', u, by simp [h1], h2, h3, h4⟩
  · simp at h
 case next it isS =>
  cases isS
  · simp [aop] at h
  · simp only [aop] at h
    split at h
    · rename_i x hx
      obtain ⟨ι', w', u, h1, h2, h3, h4⟩ := ok_next (next := next) (ty := type) hr (he _ _ hx) h
      exact .val ⟨ι', w', u, by simp [h1], h2, h3, h4⟩
    · simp at h
 case extract t i =>
  split at h
  · rename_i vs hx
    cases hk : vs[i]? <;> simp [hk] at h
    obtain ⟨rfl, rfl⟩ := h
    obtain ⟨us, hu, hl⟩ := (he _ _ hx).tup_inv
    obtain ⟨z, hz, hv⟩ := hl.get i _ hk
    have hz' : us[i]? = some z := by simpa using hz
    exact .pure hr (by simp [hu, Instr.extract, hz']) (.of_Va hv)
  · simp at h
 case call c =>
  obtain ⟨callee, args, argTypes⟩ := c
  simp only at h
  split at h
  · split at h
    · rename_i t x ht hx
      cases hk : alen P L t x <;> simp [hk] at h
      obtain ⟨rfl, rfl⟩ := h
      have hl := evL_L2 he hx
      obtain ⟨u, hu, hv⟩ := one_of hl
      have hargs : args.map ρ = #[u] := Array.ext' (by simpa using hu)
      have hat : argTypes = #[t] := Array.ext' (by simpa using ht)
      obtain ⟨z, h1, h2⟩ := ok_len (ty := type) hr hv hk
      exact .pure hr (by simp [resolve, invoke, builtin, hargs, hat, h1]) h2
    · simp at h
  · split at h
    · rename_i t u s x ht hx
      have hl := evL_L2 he hx
      obtain ⟨us, ux, hu, hv1, hv2⟩ := two_of hl
      have hargs : args.map ρ = #[us, ux] := Array.ext' (by simpa using hu)
      have hat : argTypes = #[t, u] := Array.ext' (by simpa using ht)
      obtain ⟨ι', w', z, h1, h2, h3, h4⟩ := ok_append (next := next) (ty := type) hr hv1 hv2 h hnf
      exact .val ⟨ι', w', z, by simp [resolve, invoke, builtin, hargs, hat, h1], h2, h3, h4⟩
    · simp at h
  · split at h
    · rename_i t u s x ht hx
      have hl := evL_L2 he hx
      obtain ⟨us, ux, hu, hv1, hv2⟩ := two_of hl
      have hargs : args.map ρ = #[us, ux] := Array.ext' (by simpa using hu)
      have hat : argTypes = #[t, u] := Array.ext' (by simpa using ht)
      obtain ⟨ι', w', z, h1, h2, h3, h4⟩ := ok_copy (next := next) (u := u) (ty := type) hr hv1 hv2 h
      exact .val ⟨ι', w', z, by simp [resolve, invoke, builtin, hargs, hat, h1], h2, h3, h4⟩
    · simp at h
  · split at h
    · rename_i t u s x ht hx
      have hl := evL_L2 he hx
      obtain ⟨us, ux, hu, hv1, hv2⟩ := two_of hl
      have hargs : args.map ρ = #[us, ux] := Array.ext' (by simpa using hu)
      have hat : argTypes = #[t, u] := Array.ext' (by simpa using ht)
      cases hd : adelete P L t s x <;> simp [hd] at h
      obtain ⟨rfl, rfl⟩ := h
      obtain ⟨ι', w', h1, h3, h4⟩ := ok_delete (next := next) (u := u) (ty := type) hr hv1 hv2 hd
      exact .val ⟨ι', w', .tuple #[], by simp [resolve, invoke, builtin, hargs, hat, h1], .undef _, h3, h4⟩
    · simp at h
  · split at h
    · rename_i vs hx
      cases hk : amin vs <;> simp [hk] at h
      obtain ⟨rfl, rfl⟩ := h
      have hl := evL_L2 he hx
      cases vs with
      | nil => simp [amin] at hk
      | cons x r =>
       have hargs := hl
       cases hm : args.toList.map ρ with
       | nil => rw [hm] at hl; exact hl.elim
       | cons u us =>
        rw [hm] at hl
        obtain ⟨z, h1, h2⟩ := min_ok (P := P) (w := w) hl.2 hl.1 hk
        have : (args.map ρ).toList = u :: us := by simpa using hm
        exact .pure hr (by simp [resolve, invoke, builtin, Builtin.min_, hm, h1]) h2
    · simp at h
  · split at h
    · rename_i vs hx
      cases hk : amax vs <;> simp [hk] at h
      obtain ⟨rfl, rfl⟩ := h
      have hl := evL_L2 he hx
      cases vs with
      | nil => simp [amax] at hk
      | cons x r =>
       cases hm : args.toList.map ρ with
       | nil => rw [hm] at hl; exact hl.elim
       | cons u us =>
        rw [hm] at hl
        obtain ⟨z, h1, h2⟩ := max_ok (P := P) (w := w) hl.2 hl.1 hk
        exact .pure hr (by simp [resolve, invoke, builtin, Builtin.max_, hm, h1]) h2
    · simp at h
  · simp at h
 all_goals (simp at h)
end Go.AM
namespace Go.AM
open Go
set_option linter.unusedVariables false
set_option linter.unusedSimpArgs false
variable {P : Program} {L L' : Look} {next : Nat}
def Sub (L L' : Look) (bs : List Nat) : Prop := ∀ b ∈ bs, ∀ o, L b = some o → L' b = some o
theorem row_mono {a : AA} (h : ∀ o, L a.b = some o → L' a.b = some o) {cs : List AV} (hr : row L a = some cs) : row L' a = some cs := by
 unfold row at hr
 cases hL : L a.b with
 | none => simp [hL] at hr
 | some o =>
  rw [hL] at hr
  unfold row
  rw [h o hL]
  exact hr
theorem slCells_mono {e : TypeId} {x : AV} (h : Sub L L' (blkOf (some x))) {cs : List AV} (hr : slCells P L e x = some cs) : slCells P L' e x = some cs := by
 cases x <;> simp [slCells] at hr ⊢
 case sl a n c =>
  cases a with
  | none => exact hr
  | some a =>
   simp only [slCells] at hr ⊢
   cases hrow : row L a with
   | none => simp [hrow] at hr
   | some cs' =>
    rw [hrow] at hr
    rw [row_mono (h a.b (by simp [blkOf])) hrow]
    exact hr
theorem srcCells_mono {e : TypeId} {x : AV} (h : Sub L L' (blkOf (some x))) {r : Nat × List AV} (hr : srcCells P L e x = some r) : srcCells P L' e x = some r := by
 cases x <;> simp only [srcCells] at hr ⊢ <;> try exact hr
 case sl a n c =>
  cases a with
  | none => exact hr
  | some a =>
   simp only [srcCells] at hr ⊢
   split at hr
   · rename_i h0; rw [if_pos h0]; exact hr
   · rename_i h0
     rw [if_neg h0]
     cases hs : slCells P L e (.sl (some a) n c) with
     | none => simp [hs] at hr
     | some cs => rw [hs] at hr; rw [slCells_mono h hs]; exact hr
theorem aload_mono {t : TypeId} {p : AV} (h : Sub L L' (blkOf (some p))) {r : AV} (hr : aload P L t p = some r) : aload P L' t p = some r := by
 cases p <;> simp only [aload] at hr ⊢ <;> try exact hr
 case ptr a =>
  cases a with
  | none => exact hr
  | some a =>
   simp only [aload] at hr ⊢
   cases hrow : row L a with
   | none => simp [hrow] at hr
   | some cs' =>
    rw [hrow] at hr
    rw [row_mono (h a.b (by simp [blkOf])) hrow]
    exact hr
theorem astore_mono {t : TypeId} {p x : AV} (h : Sub L L' (blkOf (some p))) {d : Delta} (hr : astore P L t p x = some d) : astore P L' t p x = some d := by
 cases p <;> simp only [astore] at hr ⊢ <;> try exact hr
 case ptr a =>
  cases a with
  | none => exact hr
  | some a =>
   simp only [astore] at hr ⊢
   cases hL : L a.b with
   | none => simp [hL] at hr
   | some o => rw [hL] at hr; rw [h a.b (by simp [blkOf]) o hL]; exact hr
theorem aconv_mono {s d : TypeId} {x : AV} (h : Sub L L' (blkOf (some x))) {r : AV × Delta} (hr : aconv P L next s d x = some r) : aconv P L' next s d x = some r := by
 unfold aconv at hr ⊢
 split at hr <;> (try simp only [*]) <;> try exact hr
 · rename_i a n c _ _
   cases hL : L a.b with
   | none => simp [hL] at hr
   | some o => rw [hL] at hr; rw [h a.b (by simp [blkOf]) o hL]; exact hr
 · rename_i e a n c _ _
   split at hr
   · rename_i hc
     rw [if_pos hc]
     cases hs : slCells P L e (.sl (some a) n c) with
     | none => simp [hs] at hr
     | some cs => rw [hs] at hr; rw [slCells_mono h hs]; exact hr
   · simp at hr
theorem alookup_mono {t : TypeId} {m k : AV} {ok : Bool} (h : Sub L L' (blkOf (some m))) {r : AV} (hr : alookup P L t m k ok = some r) : alookup P L' t m k ok = some r := by
 unfold alookup at hr ⊢
 split at hr <;> (try simp only [*])
 · rename_i b _
   cases hL : L b with
   | none => simp [hL] at hr
   | some o => rw [hL] at hr; rw [h b (by simp [blkOf]) o hL]; exact hr
theorem amapUpdate_mono {t : TypeId} {m k x : AV} (h : Sub L L' (blkOf (some m))) {d : Delta} (hr : amapUpdate P L t m k x = some d) : amapUpdate P L' t m k x = some d := by
 unfold amapUpdate at hr ⊢
 split at hr <;> (try simp only [*])
 · rename_i b _
   cases hL : L b with
   | none => simp [hL] at hr
   | some o => rw [hL] at hr; rw [h b (by simp [blkOf]) o hL]; exact hr
theorem alen_mono {t : TypeId} {x : AV} (h : Sub L L' (blkOf (some x))) {r : AV} (hr : alen P L t x = some r) : alen P L' t x = some r := by
 unfold alen at hr ⊢
 split at hr <;> (try simp only [*]) <;> try exact hr
 · rename_i b _
   cases hL : L b with
   | none => simp [hL] at hr
   | some o => rw [hL] at hr; rw [h b (by simp [blkOf]) o hL]; exact hr
theorem aappendE_mono {e : TypeId} {n : Nat} {src : List AV} {s : AV} (h : Sub L L' (blkOf (some s))) {r : AV × Delta} (hr : aappendE P L next e n src s = some r) : aappendE P L' next e n src s = some r := by
 cases s <;> simp only [aappendE] at hr ⊢ <;> try exact hr
 case sl a len cap =>
  cases a with
  | none => exact hr
  | some a =>
   simp only [aappendE] at hr ⊢
   split at hr
   · rename_i h0; rw [if_pos h0]; exact hr
   · rename_i h0
     rw [if_neg h0]
     cases hL : L a.b with
     | none => simp [hL] at hr
     | some o => rw [hL] at hr; rw [h a.b (by simp [blkOf]) o hL]; exact hr
theorem aappend_mono {t u : TypeId} {s x : AV} (h : Sub L L' (blkOf (some s) ++ blkOf (some x))) {r : AV × Delta} (hr : aappend P L next t u s x = some r) : aappend P L' next t u s x = some r := by
 have h1 : Sub L L' (blkOf (some s)) := fun b hb => h b (List.mem_append_left _ hb)
 have h2 : Sub L L' (blkOf (some x)) := fun b hb => h b (List.mem_append_right _ hb)
 have main : ∀ e, (if 0 < tsz P e then match srcCells P L e x with
   | some (n, src) => aappendE P L next e n src s
   | none => none else none) = some r → (if 0 < tsz P e then match srcCells P L' e x with
   | some (n, src) => aappendE P L' next e n src s
   | none => none else none) = some r := by
  intro e hr
  split at hr
  · rename_i hp
    rw [if_pos hp]
    cases hs : srcCells P L e x with
    | none => simp [hs] at hr
    | some ns =>
     obtain ⟨n, src⟩ := ns
     rw [hs] at hr
     rw [srcCells_mono h2 hs]
     exact aappendE_mono h1 hr
  · simp at hr
 unfold aappend at hr ⊢
 split at hr <;> (try simp only [*])
 all_goals exact main _ hr
theorem aiter_mono {it : AV} (h : Sub L L' (blkOf (some it))) {r : AV × Delta} (hr : aiter L it = some r) : aiter L' it = some r := by
 cases it <;> simp only [aiter] at hr ⊢ <;> try exact hr
 case ptr a =>
  cases a with
  | none => exact hr
  | some a =>
   simp only [aiter] at hr ⊢
   cases hL : L a.b with
   | none => simp [hL] at hr
   | some o => rw [hL] at hr; rw [h a.b (by simp [blkOf]) o hL]; exact hr
theorem aslice_mono {t : TypeId} {x : AV} {lo hi mx : Option AV} (h : ∀ a, x = .ptr (some a) → Sub L L' [a.b]) {r : AV} (hr : aslice P L t x lo hi mx = some r) : aslice P L' t x lo hi mx = some r := by
 unfold aslice at hr ⊢
 split at hr <;> (try simp only [*]) <;> try exact hr
 split at hr <;> (try simp only [*]) <;> try exact hr
 rename_i n e a _
 split at hr <;> (try simp only [*]) <;> try exact hr
 unfold asliceA at hr ⊢
 cases hL : L a.b with
 | none => simp [hL] at hr
 | some o => rw [hL] at hr; rw [h a rfl a.b (by simp) o hL]; exact hr
theorem acopy_mono {t : TypeId} {d s : AV} (h : Sub L L' (blkOf (some d))) {r : AV × Delta} (hr : acopy P L t d s = some r) : acopy P L' t d s = some r := by
 unfold acopy at hr ⊢
 split at hr <;> (try simp only [*])
 · rename_i a n c s
   cases hL : L a.b with
   | none => simp [hL] at hr
   | some o => rw [hL] at hr; rw [h a.b (by simp [blkOf]) o hL]; exact hr
theorem adelete_mono {t : TypeId} {m k : AV} (h : Sub L L' (blkOf (some m))) {d : Delta} (hr : adelete P L t m k = some d) : adelete P L' t m k = some d := by
 unfold adelete at hr ⊢
 split at hr <;> (try simp only [*])
 · rename_i b _
   cases hL : L b with
   | none => simp [hL] at hr
   | some o => rw [hL] at hr; rw [h b (by simp [blkOf]) o hL]; exact hr
theorem aop_mono {ev : Ev} {op : Op} (h : Sub L L' (areads ev op)) {r : AV × Delta} (hr : aop P ev L next op = some r) : aop P ev L' next op = some r := by
 cases op <;> simp only [aop] at hr ⊢ <;> try exact hr
 case load t a =>
  split at hr <;> (try simp only [*])
  · rename_i p hp
    simp only [areads, hp] at h
    cases hl : aload P L t p with
    | none => simp [hl] at hr
    | some v => rw [hl] at hr; rw [aload_mono h hl]; exact hr
 case store t a x =>
  split at hr <;> (try simp only [*])
  · rename_i p v hp hv
    simp only [areads, hp] at h
    cases hl : astore P L t p v with
    | none => simp [hl] at hr
    | some d => rw [hl] at hr; rw [astore_mono h hl]; exact hr
 case convert s d x =>
  split at hr <;> (try simp only [*])
  · rename_i a ha
    simp only [areads, ha] at h
    exact aconv_mono h hr
 case lookup t m k ok =>
  split at hr <;> (try simp only [*])
  · rename_i m' k' hm hk
    simp only [areads, hm] at h
    cases hl : alookup P L t m' k' ok with
    | none => simp [hl] at hr
    | some v => rw [hl] at hr; rw [alookup_mono h hl]; exact hr
 case mapUpdate t m k x =>
  split at hr <;> (try simp only [*])
  · rename_i m' k' x' hm hk hx
    simp only [areads, hm] at h
    split at hr
    · rename_i hn
      rw [if_pos hn]
      cases hl : amapUpdate P L t m' k' x' with
      | none => simp [hl] at hr
      | some v => rw [hl] at hr; rw [amapUpdate_mono h hl]; exact hr
    · simp at hr
 case insert t m k x =>
  split at hr <;> (try simp only [*])
  · rename_i m' k' x' hm hk hx
    simp only [areads, hm] at h
    split at hr
    · rename_i hn
      rw [if_pos hn]
      cases hl : amapUpdate P L t m' k' x' with
      | none => simp [hl] at hr
      | some v => rw [hl] at hr; rw [amapUpdate_mono h hl]; exact hr
    · simp at hr
 case slice t x lo hi mx =>
  split at hr <;> (try simp only [*])
  · rename_i x' lo' hi' mx' hx _ _ _
    cases hl : aslice P L t x' lo' hi' mx' with
    | none => simp [hl] at hr
    | some v => rw [hl] at hr; rw [aslice_mono (fun a ha => by subst ha; simpa only [areads, hx] using h) hl]; exact hr
 case next it isS =>
  cases isS <;> simp only [aop] at hr ⊢ <;> try exact hr
  split at hr <;> (try simp only [*])
  · rename_i a ha
    simp only [areads, ha] at h
    exact aiter_mono h hr
 case call c =>
  obtain ⟨callee, args, argTypes⟩ := c
  simp only at hr ⊢
  split at hr
  · split at hr <;> (try simp only [*])
    · rename_i t x ht hx
      simp only [areads, hx] at h
      cases hl : alen P L t x with
      | none => simp [hl] at hr
      | some v => rw [hl] at hr; rw [alen_mono h hl]; exact hr
  · split at hr <;> (try simp only [*])
    · rename_i t u s x ht hx
      simp only [areads, hx] at h
      exact aappend_mono h hr
  · split at hr <;> (try simp only [*])
    · rename_i t u s x ht hx
      simp only [areads, hx] at h
      exact acopy_mono h hr
  · split at hr <;> (try simp only [*])
    · rename_i t u s x ht hx
      simp only [areads, hx] at h
      cases hl : adelete P L t s x with
      | none => simp [hl] at hr
      | some d => rw [hl] at hr; rw [adelete_mono h hl]; exact hr
  · exact hr
  · exact hr
  · exact hr
end Go.AM
