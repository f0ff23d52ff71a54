/- Operations on abstract values that leave memory alone: definitions. -/
import Derived.Test.YtnjaebjhfilljaaLomA
namespace Go.Lom
open Go.RowKit

def szOf (P : Program) (t : TypeId) : Option Nat := (P.info? t).map (·.size)
def isAggD : TypeDesc → Bool
  | .struct _ | .array _ _ => true
  | _ => false

/-- The cells of a value that may be stored. -/
def cellsOf : AV → Option (List AV)
  | .agg cs => if cs.all oneC then some cs else none
  | v => if oneC v then some [v] else none

/-- A variable of a type, read out of an element's cells. -/
def rd (P : Program) (t : TypeId) (e : List AV) (o : Nat) : Option AV := do
  let d ← P.underlying t
  if isAggD d then do
    let n ← szOf P t
    if o + n ≤ e.length then some (.agg ((e.drop o).take n)) else none
  else e[o]?

def asI : AV → Option Int
  | .int _ n => some n
  | _ => none
def asB : AV → Option Bool
  | .bool b => some b
  | _ => none
def asRow : Blk → Option (Nat × List (List AV))
  | .row s es => some (s, es)
  | .lst t xs => some (t.sz, xs.map t.enc)
  | _ => none
def asMp : Blk → Option (List (AV × AV))
  | .mp es => some es
  | _ => none

def ald (P : Program) (t : TypeId) (x : AV) (H : Heap) : Option AV :=
  match x with
  | .ptr b i o => do
    let blk ← H.get b
    let (_, es) ← asRow blk
    let e ← es[i]?
    rd P t e o
  | .rp e o => rd P t e o
  | _ => none

def fieldsOf (P : Program) (t : TypeId) : Option (Array Field) :=
  match P.underlying t with
  | some (.struct fs) => some fs
  | _ => none

def afieldAddr (P : Program) (s : TypeId) (x : AV) (f : Nat) : Option AV := do
  let fs ← fieldsOf P s
  let fl ← fs[f]?
  let n ← szOf P fl.type
  if n = 0 then none else
  match x with
  | .ptr b i o => some (.ptr b i (o + fl.offset))
  | .rp e o => some (.rp e (o + fl.offset))
  | _ => none

def afield (P : Program) (s : TypeId) (x : AV) (f : Nat) : Option AV := do
  let fs ← fieldsOf P s
  let fl ← fs[f]?
  match x with
  | .agg cs => rd P fl.type cs fl.offset
  | _ => none

def aindexAddr (P : Program) (t : TypeId) (x : AV) (i : AV) : Option AV := do
  let n ← asI i
  if n < 0 then none else
  match P.underlying t, x with
  | some (.slice e), .sl b s off len _ => if n < len ∧ szOf P e = some s then some (.ptr b (off + n.toNat) 0) else none
  | some (.slice e), .rs xs => do
    let s ← szOf P e
    let c ← xs[n.toNat]?
    if c.length = s then some (.rp c 0) else none
  | some (.slice e), .rl t xs => do
    let s ← szOf P e
    let c ← (xs.map t.enc)[n.toNat]?
    if c.length = s then some (.rp c 0) else none
  | some (.array len e), .ptr b j o => if n < len then (szOf P e).map fun s => .ptr b j (o + n.toNat * s) else none
  | some (.array len e), .rp c o => if n < len then (szOf P e).map fun s => .rp c (o + n.toNat * s) else none
  | _, _ => none

def aindex (P : Program) (t : TypeId) (x : AV) (i : AV) : Option AV := do
  let n ← asI i
  if n < 0 then none else
  match P.underlying t, x with
  | some (.array len e), .agg cs => if n < len then (szOf P e).bind fun s => rd P e cs (n.toNat * s) else none
  | some .string, .str s => do
    let b ← s[n.toNat]?
    some (.int .u8 b.toNat)
  | _, _ => none

def cmpI (op : BinOp) (x y : Int) : Option Bool :=
  match op with
  | .eql => some (x == y)
  | .neq => some (x != y)
  | .lss => some (decide (x < y))
  | .leq => some (decide (x ≤ y))
  | .gtr => some (decide (x > y))
  | .geq => some (decide (x ≥ y))
  | _ => none
def bitI (op : BinOp) (k : IntKind) (x y : Int) : Option Int :=
  let a := BitVec.ofInt k.bits x
  let b := BitVec.ofInt k.bits y
  match op with
  | .and => some (k.wrap (a &&& b).toNat)
  | .or => some (k.wrap (a ||| b).toNat)
  | .xor => some (k.wrap (a ^^^ b).toNat)
  | .andNot => some (k.wrap (a &&& ~~~b).toNat)
  | _ => none
def binI (op : BinOp) (k : IntKind) (x y : Int) : Option AV :=
  match op with
  | .add => some (.int k (k.wrap (x + y)))
  | .sub => some (.int k (k.wrap (x - y)))
  | .mul => some (.int k (k.wrap (x * y)))
  | .quo => if y = 0 then none else some (.int k (k.wrap (x.tdiv y)))
  | .rem => if y = 0 then none else some (.int k (x.tmod y))
  | .and | .or | .xor | .andNot => (bitI op k x y).map (.int k)
  | _ => (cmpI op x y).map .bool
def binS (op : BinOp) (x y : List UInt8) : Option AV :=
  let eq := x == y
  let lt := Op.bytesLess x y
  match op with
  | .add => if ((x.length + y.length : Nat) : Int) > IntKind.i64.max then none else some (.str (x ++ y))
  | .eql => some (.bool eq)
  | .neq => some (.bool (!eq))
  | .lss => some (.bool lt)
  | .leq => some (.bool (lt || eq))
  | .gtr => some (.bool (!(lt || eq)))
  | .geq => some (.bool (!lt))
  | _ => none

def eqFs (P : Program) (r : TypeId → AV → AV → Option Bool) (xs ys : List AV) : List Field → Option Bool
  | [] => some true
  | f :: fs => if f.name = "_" then eqFs P r xs ys fs else do
    let a ← rd P f.type xs f.offset
    let b ← rd P f.type ys f.offset
    let c ← r f.type a b
    if c then eqFs P r xs ys fs else some false
def eqIs (P : Program) (r : TypeId → AV → AV → Option Bool) (e : TypeId) (n : Nat) (xs ys : List AV) : List Nat → Option Bool
  | [] => some true
  | i :: is => do
    let a ← rd P e xs (i * n)
    let b ← rd P e ys (i * n)
    let c ← r e a b
    if c then eqIs P r e n xs ys is else some false

/-- Equality of two values of one type. -/
def aeqIn (P : Program) : Nat → TypeId → AV → AV → Option Bool
  | 0, _, _, _ => none
  | d + 1, t, x, y =>
    match P.underlying t, x, y with
    | some .bool, .bool a, .bool b => some (a == b)
    | some (.int _), .int k a, .int k' b => if k = k' then some (a == b) else none
    | some .string, .str a, .str b => some (a == b)
    | some (.pointer _), .nilp, .nilp => some true
    | some (.pointer _), .nilp, .ptr _ _ _ | some (.pointer _), .nilp, .rp _ _ | some (.pointer _), .ptr _ _ _, .nilp | some (.pointer _), .rp _ _, .nilp => some false
    | some (.interface _), .nili, .nili => some true
    | some (.interface _), .nili, .iface _ _ | some (.interface _), .iface _ _, .nili => some false
    | some (.slice _), .nils, .nils => some true
    | some (.slice _), .nils, .emp | some (.slice _), .nils, .rs (_ :: _) => some false
    | some (.slice _), .emp, .nils | some (.slice _), .rs (_ :: _), .nils => some false
    | some (.map _ _), .nilm, .nilm => some true
    | some (.map _ _), .nilm, .mp _ | some (.map _ _), .mp _, .nilm => some false
    | some (.func _ _ _), .nilf, .nilf => some true
    | some (.func _ _ _), .nilf, .fn _ _ _ | some (.func _ _ _), .fn _ _ _, .nilf => some false
    | some (.struct fs), .agg xs, .agg ys => if P.stoodInHeld t then none else eqFs P (aeqIn P d) xs ys fs.toList
    | some (.array len e), .agg xs, .agg ys => (szOf P e).bind fun n => eqIs P (aeqIn P d) e n xs ys (List.range len)
    | _, _, _ => none

def isNilConst : Operand → Bool
  | .const .nilIface => true
  | _ => false

def abin (P : Program) (op : BinOp) (t : TypeId) (ox oy : Operand) (x y : AV) : Option AV :=
  match op, x, y with
  | .shl, .int k a, .int _ b => if b < 0 then none else some (.int k (k.wrap (a * 2 ^ (min b.toNat k.bits))))
  | .shr, .int k a, .int _ b => if b < 0 then none else some (.int k (a.fdiv (2 ^ (min b.toNat k.bits))))
  | op, .int k a, .int k' b => if k = k' then binI op k a b else none
  | op, .str a, .str b => binS op a b
  | .eql, x, y => if guardOk x y then (aeqIn P 10000 t x y).map .bool else none
  | .neq, x, y => if guardOk x y then (aeqIn P 10000 t x y).map fun b => .bool (!b) else none
  | _, _, _ => none
where
  guardOk (x y : AV) : Bool :=
    match x, y with
    | .nili, .nili => isNilConst ox || isNilConst oy
    | .agg _, .agg _ => !P.eqGuardType P.depth t
    | .undef, _ | _, .undef => false
    | _, _ => true

def aun (op : UnOp) (x : AV) : Option AV :=
  match op, x with
  | .neg, .int k n => some (.int k (k.wrap (0 - n)))
  | .xor, .int k n => (bitI .xor k (if k.signed then -1 else k.max) n).map (.int k)
  | .not, .bool b => some (.bool (!b))
  | _, _ => none

def byteOf : List AV → Option UInt8
  | [.int .u8 n] => some (UInt8.ofNat n.toNat)
  | _ => none

/-- The elements of a slice. -/
def elems (H : Heap) : AV → Option (List (List AV))
  | .nils => some []
  | .emp => some []
  | .rs xs => some xs
  | .rl t xs => some (xs.map t.enc)
  | .sl b _ off len _ => do
    let blk ← H.get b
    let (_, es) ← asRow blk
    if off + len ≤ es.length then some ((es.drop off).take len) else none
  | _ => none

def aconv (P : Program) (src dst : TypeId) (x : AV) (H : Heap) : Option AV :=
  match P.underlying src, P.underlying dst, x with
  | some _, some (.int k), .int _ n => some (.int k (k.wrap n))
  | some _, some .string, .str s => some (.str s)
  | some (.slice e), some .string, x =>
    match P.underlying e with
    | some (.int .u8) => do
      let es ← elems H x
      let bs ← es.mapM byteOf
      some (.str bs)
    | _ => none
  | _, _, _ => none

def amkIface (P : Program) (t : TypeId) (x : AV) : Option AV :=
  match P.underlying t with
  | none | some (.interface _) => none
  | some _ => some (.iface t x)

def zeroOf (P : Program) (t : TypeId) : Option AV := ((P.info? t).bind (·.zero)).map lift

def atypeAssert (P : Program) (x : AV) (asserted : TypeId) (commaOk : Bool) : Option AV :=
  match P.underlying asserted, x with
  | none, _ => none
  | some (.interface _), _ => none
  | some _, .nili => if commaOk then (zeroOf P asserted).map fun z => .tup [z, .bool false] else none
  | some _, .iface t v => if t = asserted then some (if commaOk then .tup [v, .bool true] else v) else if commaOk then (zeroOf P asserted).map fun z => .tup [z, .bool false] else none
  | _, _ => none

/-- A bound of a slice expression. -/
def bnd (x : Option AV) (dflt most : Nat) : Option Nat :=
  match x with
  | none => some dflt
  | some v => do
    let n ← asI v
    if 0 ≤ n ∧ n ≤ most then some n.toNat else none

/-- The third bound, if there is one. -/
def mxB (mx : Option AV) (most : Nat) : Option (Option Nat) :=
  match mx with
  | some v => (bnd (some v) 0 most).map some
  | none => some none
def newCap (m : Option Nat) (l : Nat) (cap : Option Nat) : Option Nat :=
  match m with
  | some m => some (m - l)
  | none => cap.map (· - l)
def fitsS (xs : List (List AV)) (s : Nat) : Bool :=
  match xs with
  | [] => true
  | e :: _ => e.length == s
def aslice (P : Program) (t : TypeId) (x : AV) (lo hi mx : Option AV) : Option AV :=
  match P.underlying t, x with
  | some .string, .str s => if mx.isSome then none else do
    let h ← bnd hi s.length s.length
    let l ← bnd lo 0 h
    some (.str ((s.take h).drop l))
  | some (.slice e), .sl b s off len cap => if szOf P e ≠ some s ∨ (mx.isSome && hi.isNone) = true then none else do
    let m ← mxB mx (cap.getD len)
    let h ← bnd hi len (m.getD (cap.getD len))
    let l ← bnd lo 0 h
    some (.sl b s (off + l) (h - l) (newCap m l cap))
  | some (.slice e), .rs xs => if (mx.isSome && hi.isNone) = true then none else do
    let s ← szOf P e
    let m ← mxB mx xs.length
    let h ← bnd hi xs.length (m.getD xs.length)
    let l ← bnd lo 0 h
    if fitsS xs s = false then none else some (.rs ((xs.take h).drop l))
  | some (.slice e), .rl t xs => if (mx.isSome && hi.isNone) = true then none else do
    let s ← szOf P e
    let m ← mxB mx xs.length
    let h ← bnd hi xs.length (m.getD xs.length)
    let l ← bnd lo 0 h
    if t.sz = s then some (.rl t ((xs.take h).drop l)) else none
  | some (.slice e), .nils => if (mx.isSome && hi.isNone) = true then none else do
    let _ ← szOf P e
    let m ← mxB mx 0
    let h ← bnd hi 0 (m.getD 0)
    let _ ← bnd lo 0 h
    some .nils
  | some (.slice e), .emp => if (mx.isSome && hi.isNone) = true then none else do
    let _ ← szOf P e
    let m ← mxB mx 0
    let h ← bnd hi 0 (m.getD 0)
    let _ ← bnd lo 0 h
    some .emp
  | _, _ => none

def aextract (x : AV) (i : Nat) : Option AV :=
  match x with
  | .tup vs => vs[i]?
  | _ => none

/-- The cells of a composite, filled. -/
def splice (e : List AV) (o : Nat) : List AV → List AV
  | [] => e
  | v :: cs => splice (e.set o v) (o + 1) cs
def afill (place : Nat → Option (Nat × Nat)) (cells : List AV) : List (Nat × AV) → Option (List AV)
  | [] => some cells
  | (i, v) :: rest => do
    let (off, size) ← place i
    let cs ← cellsOf v
    if cs.length = size ∧ off + cs.length ≤ cells.length then afill place (splice cells off cs) rest else none
def placesOf (P : Program) (fs : Array Field) : Option (List (Nat × Nat)) := fs.toList.mapM fun f => (szOf P f.type).map fun n => (f.offset, n)
def zeroCellsOf (P : Program) (t : TypeId) : Option (List AV) := (zeroOf P t).bind cellsOf
def abuild (P : Program) (t : TypeId) (parts : List (Nat × AV)) : Option AV := do
  let z ← zeroCellsOf P t
  match P.underlying t with
  | some (.struct fs) => do
    let pl ← placesOf P fs
    (afill (fun i => pl[i]?) z parts).map .agg
  | some (.array _ e) => do
    let n ← szOf P e
    (afill (fun i => some (i * n, n)) z parts).map .agg
  | _ => none

def alen (P : Program) (t : TypeId) (x : AV) (H : Heap) : Option AV :=
  match P.underlying t, x with
  | some .string, .str s => some (.int .i64 s.length)
  | some (.array n _), _ => some (.int .i64 n)
  | some (.pointer a), _ => match P.underlying a with
    | some (.array n _) => some (.int .i64 n)
    | _ => none
  | some (.slice _), .nils => some (.int .i64 0)
  | some (.slice _), .emp => some (.int .i64 0)
  | some (.slice _), .rs xs => some (.int .i64 xs.length)
  | some (.slice _), .rl _ xs => some (.int .i64 xs.length)
  | some (.slice _), .sl _ _ _ len _ => some (.int .i64 len)
  | some (.map _ _), .nilm => some (.int .i64 0)
  | some (.map _ _), .mp b => do
    let blk ← H.get b
    let es ← asMp blk
    some (.int .i64 es.length)
  | _, _ => none

def minI (x y : AV) : Option AV :=
  match x, y with
  | .int k a, .int _ b => some (.int k (if b < a then b else a))
  | _, _ => none
def maxI (x y : AV) : Option AV :=
  match x, y with
  | .int k a, .int _ b => some (.int k (if b > a then b else a))
  | _, _ => none
def foldO (f : AV → AV → Option AV) : AV → List AV → Option AV
  | x, [] => some x
  | x, y :: l => (f x y).bind fun z => foldO f z l

/-- Keys. -/
def keyEq (P : Program) (kt : TypeId) (x y : AV) : Option Bool := aeqIn P 10000 kt x y
def findK (P : Program) (kt : TypeId) (k : AV) : List (AV × AV) → Nat → Option (Option (Nat × AV))
  | [], _ => some none
  | (x, v) :: es, i => do
    let r ← keyEq P kt k x
    if r then some (some (i, v)) else findK P kt k es (i + 1)
/-- A key that can't panic. -/
def keyOk (P : Program) : Nat → TypeId → AV → Bool
  | 0, _, _ => false
  | d + 1, t, x =>
    match P.underlying t, x with
    | some .bool, _ | some (.int _), _ | some .string, _ => true
    | some (.array len e), .agg cs => match szOf P e with
      | some n => (List.range len).all fun i => match rd P e cs (i * n) with | some y => keyOk P d e y | none => false
      | none => false
    | some (.struct fs), .agg cs => fs.toList.all fun f => f.name == "_" || match rd P f.type cs f.offset with | some y => keyOk P d f.type y | none => false
    | _, _ => false
def mapT (P : Program) (t : TypeId) : Option (TypeId × TypeId) :=
  match P.underlying t with
  | some (.map k e) => some (k, e)
  | _ => none
def entriesOf (H : Heap) : AV → Option (List (AV × AV))
  | .nilm => some []
  | .mp b => (H.get b).bind asMp
  | _ => none
def alookup (P : Program) (t : TypeId) (x k : AV) (ok : Bool) (H : Heap) : Option AV := do
  let (kt, et) ← mapT P t
  let es ← entriesOf H x
  if keyOk P 10000 kt k = false then none else
  let r ← findK P kt k es 0
  match r with
  | some (_, v) => some (if ok then .tup [v, .bool true] else v)
  | none => do
    let z ← zeroOf P et
    some (if ok then .tup [z, .bool false] else z)

def anilCheck (x : AV) : Option AV :=
  match x with
  | .ptr _ _ _ | .rp _ _ | .iface _ _ | .fn (.func _) _ _ => some x
  | _ => none

/-- The builtins that leave memory alone. -/
def aqCall (P : Program) (c : Call) (F : Fr) (H : Heap) : Option AV :=
  match c.callee with
  | .builtin .len => match c.args.toList, c.argTypes.toList with
    | [x], [t] => alen P t (ev F x) H
    | _, _ => none
  | .builtin .min => match c.args.toList with
    | x :: l => foldO minI (ev F x) (l.map (ev F))
    | [] => none
  | .builtin .max => match c.args.toList with
    | x :: l => foldO maxI (ev F x) (l.map (ev F))
    | [] => none
  | _ => none

/-- What an operation that leaves memory alone yields. -/
def aq (P : Program) (op : Op) (F : Fr) (H : Heap) : Option AV :=
  match op with
  | .move x | .assign x => some (ev F x)
  | .pick c a b => (asB (ev F c)).map fun t => if t then ev F a else ev F b
  | .load t a => ald P t (ev F a) H
  | .nilCheck x => anilCheck (ev F x)
  | .binOp op t x y _ => abin P op t x y (ev F x) (ev F y)
  | .unOp op _ x => aun op (ev F x)
  | .convert s d x => aconv P s d (ev F x) H
  | .makeInterface t x => amkIface P t (ev F x)
  | .typeAssert x _ t ok => atypeAssert P (ev F x) t ok
  | .makeFunc fn first cap => some (.fn fn (first.toList.map (ev F)) (cap.toList.map (ev F)))
  | .slice t x lo hi mx => aslice P t (ev F x) (lo.map (ev F)) (hi.map (ev F)) (mx.map (ev F))
  | .fieldAddr t x f => afieldAddr P t (ev F x) f
  | .field t x f => afield P t (ev F x) f
  | .indexAddr t x i => aindexAddr P t (ev F x) (ev F i)
  | .index t x i => aindex P t (ev F x) (ev F i)
  | .lookup t x k ok => alookup P t (ev F x) (ev F k) ok H
  | .extract x i => aextract (ev F x) i
  | .build t ps => abuild P t (ps.toList.map fun p => (p.1, ev F p.2))
  | .call c => aqCall P c F H
  | _ => none

end Go.Lom
