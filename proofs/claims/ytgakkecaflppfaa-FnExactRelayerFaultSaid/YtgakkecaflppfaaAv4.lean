/- The values of operations that only compute or read, as a function on pictures. -/
import Derived.Test.YtgakkecaflppfaaAv3
namespace Go.Av

/-- A value that is no aggregate has one cell: itself. -/
def AV.flat : AV → Bool
  | .agg _ => false
  | _ => true

def splice {α : Type} (cs : List α) (off : Nat) (xs : List α) : List α := cs.take off ++ xs ++ cs.drop (off + xs.length)

def fillS (ty : TypeId → Option TI) (fs : List (Nat × TypeId)) : List (Nat × AV) → List AV → Option (Prop × List AV)
  | [], cs => some (True, cs)
  | (i, x) :: r, cs => match fs[i]? with
    | some (off, ft) => match ty ft with
      | some fi => match fillS ty fs r (splice cs off x.cells) with
        | some (p, cs') => some ((x.cells.length = fi.size ∧ off + fi.size ≤ cs.length ∧ x ≠ .undef) ∧ p, cs')
        | none => none
      | none => none
    | none => none

def fillL (size : Nat) : List (Nat × AV) → List AV → Prop × List AV
  | [], cs => (True, cs)
  | (i, x) :: r, cs =>
    ((x.cells.length = size ∧ i * size + size ≤ cs.length ∧ x ≠ .undef) ∧ (fillL size r (splice cs (i * size) x.cells)).1, (fillL size r (splice cs (i * size) x.cells)).2)

def chunk (agg : Bool) (s : Nat) : Nat → List AV → List AV
  | 0, _ => []
  | n + 1, l => (if agg then .agg (l.take s) else l.getD 0 .undef) :: chunk agg s n (l.drop s)

def zeros (s : Nat) (z : List AV) : Nat → List AV
  | 0 => []
  | n + 1 => z.take s ++ zeros s z n

def intBin (op : BinOp) (k : IntKind) (a b : Int) : Option (Prop × AV) :=
  match op with
  | .add => some (True, .int k (k.wrap (a + b)))
  | .sub => some (True, .int k (k.wrap (a - b)))
  | .mul => some (True, .int k (k.wrap (a * b)))
  | .quo => some (b ≠ 0, .int k (k.wrap (a.tdiv b)))
  | .rem => some (b ≠ 0, .int k (a.tmod b))
  | .and | .or | .xor | .andNot => some (True, .int k (bits op k a b))
  | .eql => some (True, .bool (a == b))
  | .neq => some (True, .bool (a != b))
  | .lss => some (True, .bool (decide (a < b)))
  | .leq => some (True, .bool (decide (a ≤ b)))
  | .gtr => some (True, .bool (decide (a > b)))
  | .geq => some (True, .bool (decide (a ≥ b)))
  | _ => none

def strBin (op : BinOp) (a b : ByteArray) : Option (Prop × AV) :=
  match op with
  | .add => some (((a.size + b.size : Nat) : Int) ≤ 9223372036854775807, .str (a ++ b))
  | .eql => some (True, .bool (a.toList == b.toList))
  | .neq => some (True, .bool (!(a.toList == b.toList)))
  | _ => none

def binVal (ty : TypeId → Option TI) (op : BinOp) (t : TypeId) (x y : AV) : Option (Prop × AV) :=
  match x, y with
  | .int k a, .int k' b =>
    match op with
    | .shl => some (0 ≤ b, .int k (k.wrap (a * 2 ^ min b.toNat k.bits)))
    | .shr => some (0 ≤ b, .int k (a.fdiv (2 ^ min b.toNat k.bits)))
    | _ => if k = k' then intBin op k a b else none
  | .str a, .str b => strBin op a b
  | .bool a, .bool b => match (ty t).map TI.k, op with
    | some .bool, .eql => some (True, .bool (a == b))
    | some .bool, .neq => some (True, .bool (!(a == b)))
    | _, _ => none
  | .ls _ n e _, .ls _ true true [] => match (ty t).map TI.k, op with
    | some (.slice _), .eql => some (n = true → e = true, .bool n)
    | some (.slice _), .neq => some (n = true → e = true, .bool (!n))
    | _, _ => none
  | _, _ => none

def unVal (op : UnOp) (x : AV) : Option (Prop × AV) :=
  match op, x with
  | .neg, .int k n => some (True, .int k (k.wrap (0 - n)))
  | .xor, .int k n => some (True, .int k (bits .xor k (if k.signed then -1 else k.max) n))
  | .not, .bool b => some (True, .bool !b)
  | _, _ => none

def IsByte (x : AV) : Prop := x = .int .u8 x.toI
def bytesOf (xs : List AV) : ByteArray := ⟨(xs.map fun x => UInt8.ofNat x.toI.toNat).toArray⟩
def listOf (s : ByteArray) : List AV := s.data.toList.map fun b => .int .u8 b.toNat

def convVal (ty : TypeId → Option TI) (src dst : TypeId) (x : AV) : Option (Prop × AV) :=
  match (ty src).map TI.k, (ty dst).map TI.k, x with
  | some _, some (.int k), .int _ n => some (True, .int k (k.wrap n))
  | some .str, some .str, .str s => some (True, .str s)
  | some (.slice e), some .str, .ls st _ _ xs => match (ty e).map TI.k with
    | some (.int .u8) => some ((st = 1 ∨ xs = []) ∧ ∀ x ∈ xs, IsByte x, .str (bytesOf xs))
    | _ => none
  | some .str, some (.slice e), .str s => match (ty e).map TI.k with
    | some (.int .u8) => some (True, .ls 1 false false (listOf s))
    | _ => none
  | _, _, _ => none

/-- The bounds of a slice expression over a list (of a length, and of a capacity that is told to be at least so much). -/
def bound (get : Operand → AV) (dflt : Nat) : Option Operand → Option (Prop × Nat)
  | none => some (True, dflt)
  | some x => match get x with
    | .int _ n => some (0 ≤ n, n.toNat)
    | _ => none

def sliceVal (ty : TypeId → Option TI) (bx : List (Nat × Option Box)) (get : Operand → AV) (t : TypeId) (x : AV) (lo hi mx : Option Operand) : Option (Prop × AV) :=
  match (ty t).map TI.k, x with
  | some .str, .str s => match bound get 0 lo, bound get s.size hi, mx with
    | some (p, l), some (q, h), none => some (p ∧ q ∧ l ≤ h ∧ h ≤ s.size, .str (s.extract l h))
    | _, _, _ => none
  | some (.slice e), .ls st n ex xs => match ty e, bound get 0 lo, bound get xs.length hi, mx with
    | some ei, some (p, l), some (q, h), none =>
      some (p ∧ q ∧ l ≤ h ∧ h ≤ xs.length ∧ (st = ei.size ∨ xs = []), .ls ei.size n (ex && (hi.isNone || decide (h = xs.length))) ((xs.drop l).take (h - l)))
    | some ei, some (p, l), some (q, h), some m => match get m with
      | .int _ m => some (p ∧ q ∧ hi.isSome = true ∧ l ≤ h ∧ (h : Int) ≤ m ∧ m ≤ (xs.length : Int) ∧ (st = ei.size ∨ xs = []), .ls ei.size n ((!n || ex) && decide (m = (h : Int))) ((xs.drop l).take (h - l)))
      | _ => none
    | _, _, _, _ => none
  | some (.slice e), .sl id off len cap => match ty e, box? bx id, bound get 0 lo, bound get len hi, mx with
    | some ei, some b, some (p, l), some (q, h), none => some (p ∧ q ∧ l ≤ h ∧ h ≤ cap ∧ b.st = ei.size, .sl id (off + l) (h - l) (cap - l))
    | _, _, _, _, _ => none
  | _, _ => none

def idx (x : AV) : Option Int := match x with
  | .int _ i => some i
  | _ => none

def opVal (ty : TypeId → Option TI) (bx : List (Nat × Option Box)) (get : Operand → AV) : Op → Option (Prop × AV)
  | .move x => some (True, get x)
  | .assign x => some (True, get x)
  | .pick c a b => match get c with
    | .bool t => some (True, if t then get a else get b)
    | _ => none
  | .build t parts => match ty t with
    | some ti => match ti.k with
      | .struct fs => if fs.all fun f => (ty f.2).isSome then (fillS ty fs (parts.toList.map fun p => (p.1, get p.2)) ti.zero).map fun r => (r.1, .agg r.2) else none
      | _ => none
    | none => none
  | .buildSlice t len parts => match (ty t).map TI.k with
    | some (.slice e) => match ty e with
      | some ei =>
        let r := fillL ei.size (parts.toList.map fun p => (p.1, get p.2)) (zeros ei.size ei.zero len)
        some (r.1 ∧ len * ei.size ≤ 16777216 ∧ 0 < ei.size ∧ (∀ x ∈ chunk (isAggK ei.k) ei.size len r.2, okCells ei.size x ∧ (isAggK ei.k || x.flat) = true), .ls ei.size false true (chunk (isAggK ei.k) ei.size len r.2))
      | none => none
    | _ => none
  | .load t a => match ty t, get a with
    | some ti, .ptr id e k => match box? bx id with
      | some b => some (e < b.elems.length ∧ (cut false ti (b.elems.getD e .undef).cells k).1, (cut false ti (b.elems.getD e .undef).cells k).2)
      | none => none
    | some ti, .vp cs => some (cut true ti cs 0)
    | _, _ => none
  | .nilCheck x => match get x with
    | .ptr id e k => some (True, .ptr id e k)
    | .vp cs => some (True, .vp cs)
    | .fn f c => some (True, .fn f c)
    | _ => none
  | .binOp op t x y _ => binVal ty op t (get x) (get y)
  | .unOp op _ x => unVal op (get x)
  | .convert src dst x => convVal ty src dst (get x)
  | .makeFunc (.func f) first caps => if first.size = 0 then some (True, .fn f (caps.toList.map get)) else none
  | .slice t x lo hi mx => sliceVal ty bx get t (get x) lo hi mx
  | .fieldAddr s x i => match (ty s).map TI.k with
    | some (.struct fs) => match fs[i]? with
      | some (off, ft) => match ty ft with
        | some fi => if fi.size = 0 then none else match get x with
          | .ptr id e k => some (True, .ptr id e (k + off))
          | .vp cs => some (True, .vp (cs.drop off))
          | _ => none
        | none => none
      | none => none
    | _ => none
  | .field s x i => match (ty s).map TI.k, get x with
    | some (.struct fs), .agg cs => match fs[i]? with
      | some (off, ft) => (ty ft).map fun fi => cut false fi cs off
      | none => none
    | _, _ => none
  | .indexAddr t x i => match (ty t).map TI.k, idx (get i) with
    | some (.slice e), some i => match ty e, get x with
      | some ei, .ls st _ _ xs => some (0 ≤ i ∧ i < (xs.length : Int) ∧ st = ei.size, .vp (xs.getD i.toNat .undef).cells)
      | some ei, .sl id off len _ => match box? bx id with
        | some b => some (0 ≤ i ∧ i < (len : Int) ∧ b.st = ei.size, .ptr id (off + i.toNat) 0)
        | none => none
      | _, _ => none
    | some (.arr n e), some i => match ty e, get x with
      | some ei, .ptr id e' k => some (0 ≤ i ∧ i < (n : Int), .ptr id e' (k + i.toNat * ei.size))
      | some ei, .vp cs => some (0 ≤ i ∧ i < (n : Int), .vp (cs.drop (i.toNat * ei.size)))
      | _, _ => none
    | _, _ => none
  | .index t x i => match (ty t).map TI.k, get x, idx (get i) with
    | some (.arr n e), .agg cs, some i => (ty e).map fun ei => (0 ≤ i ∧ i < (n : Int) ∧ (cut false ei cs (i.toNat * ei.size)).1, (cut false ei cs (i.toNat * ei.size)).2)
    | some .str, .str s, some i => some (0 ≤ i ∧ i < (s.size : Int), .int .u8 ((s.data.toList.getD i.toNat 0).toNat : Int))
    | _, _, _ => none
  | .extract x i => match get x with
    | .tup vs => some (i < vs.length, vs.getD i .undef)
    | _ => none
  | .call { callee := .builtin b, args, argTypes } => match b, args.toList, argTypes.toList with
    | .len, [x], [t] => match (ty t).map TI.k, get x with
      | some .str, .str s => some (True, .int .i64 s.size)
      | some (.slice _), .ls _ _ _ xs => some (True, .int .i64 xs.length)
      | some (.slice _), .sl _ _ len _ => some (True, .int .i64 len)
      | some (.arr n _), _ => some (True, .int .i64 n)
      | _, _ => none
    | .cap, [x], [t] => match (ty t).map TI.k, get x with
      | some (.slice _), .ls _ _ true xs => some (True, .int .i64 xs.length)
      | _, _ => none
    | .min, [x, y], _ => match get x, get y with
      | .int k a, .int _ b => some (True, .int k (if b < a then b else a))
      | _, _ => none
    | .max, [x, y], _ => match get x, get y with
      | .int k a, .int _ b => some (True, .int k (if a < b then b else a))
      | _, _ => none
    | _, _, _ => none
  | _ => none

end Go.Av
