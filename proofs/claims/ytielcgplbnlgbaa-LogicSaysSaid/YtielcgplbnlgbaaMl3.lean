/- Operations that neither read nor write memory: what they give, and under which condition. -/
import Derived.Test.YtielcgplbnlgbaaMl2
set_option linter.unusedVariables false
set_option linter.unusedSimpArgs false
namespace Go.Proofs.Ytielcgplbnlgbaa

abbrev PV := Option (Prop × MV)

/-- Bits of two numbers. -/
def andK (k : IntKind) (a b : Int) : Int := k.wrap (BitVec.ofInt k.bits a &&& BitVec.ofInt k.bits b).toNat
def orK (k : IntKind) (a b : Int) : Int := k.wrap (BitVec.ofInt k.bits a ||| BitVec.ofInt k.bits b).toNat
def xorK (k : IntKind) (a b : Int) : Int := k.wrap (BitVec.ofInt k.bits a ^^^ BitVec.ofInt k.bits b).toNat
def andNotK (k : IntKind) (a b : Int) : Int := k.wrap (BitVec.ofInt k.bits a &&& ~~~BitVec.ofInt k.bits b).toNat
def notK (k : IntKind) (n : Int) : Int := k.wrap (BitVec.ofInt k.bits (if k.signed then -1 else k.max) ^^^ BitVec.ofInt k.bits n).toNat

def intBin (op : BinOp) (k : IntKind) (a b : Int) : PV :=
  match op with
  | .add => some (True, .int k (k.wrap (a + b)))
  | .sub => some (True, .int k (k.wrap (a - b)))
  | .mul => some (True, .int k (k.wrap (a * b)))
  | .quo => some (b ≠ 0, .int k (k.wrap (a.tdiv b)))
  | .rem => some (b ≠ 0, .int k (a.tmod b))
  | .and => some (True, .int k (andK k a b))
  | .or => some (True, .int k (orK k a b))
  | .xor => some (True, .int k (xorK k a b))
  | .andNot => some (True, .int k (andNotK k a b))
  | .eql => some (True, .bool (a == b))
  | .neq => some (True, .bool (a != b))
  | .lss => some (True, .bool (decide (a < b)))
  | .leq => some (True, .bool (decide (a ≤ b)))
  | .gtr => some (True, .bool (decide (a > b)))
  | .geq => some (True, .bool (decide (a ≥ b)))
  | _ => none

def intShift (op : BinOp) (k : IntKind) (a b : Int) : PV :=
  match op with
  | .shl => some (0 ≤ b, .int k (k.wrap (a * 2 ^ (min b.toNat k.bits))))
  | .shr => some (0 ≤ b, .int k (a.fdiv (2 ^ (min b.toNat k.bits))))
  | _ => none

def strBin (op : BinOp) (x y : ByteArray) : PV :=
  match op with
  | .add => some (((x.size + y.size : Nat) : Int) ≤ 9223372036854775807, .str (x ++ y))
  | .eql => some (True, .bool (x.toList == y.toList))
  | .neq => some (True, .bool (!(x.toList == y.toList)))
  | .lss => some (True, .bool (Op.bytesLess x.toList y.toList))
  | .leq => some (True, .bool (Op.bytesLess x.toList y.toList || x.toList == y.toList))
  | .gtr => some (True, .bool (!(Op.bytesLess x.toList y.toList || x.toList == y.toList)))
  | .geq => some (True, .bool (!(Op.bytesLess x.toList y.toList)))
  | _ => none

def eqV (op : BinOp) (c : Prop) (b : Bool) : PV :=
  match op with
  | .eql => some (c, .bool b)
  | .neq => some (c, .bool (!b))
  | _ => none

def TK.isPtr : TK → Bool
  | .ptr _ => true
  | _ => false
def TK.isBool : TK → Bool
  | .bool => true
  | _ => false

/-- A part of a value: some of its cells. -/
def mpart (d : TD) (cs : List MV) (off : Nat) : MV := if d.k.isAgg = true then .agg ((cs.drop off).take d.size) else cs.getD off .junk

/-- A struct that '==' looks at field by field, with no guard. -/
def eqPlain (P : Program) (t : TypeId) : Bool := !P.stoodInHeld t && (P.fieldsOf t).toList.all (fun f => f.name != "_") && !P.eqGuardType P.depth t

def meqFields (P : Program) (g : TypeId → MV → MV → Option Bool) (xs ys : List MV) : List (Nat × TypeId) → Option Bool
  | [] => some true
  | (off, ft) :: r => if (td P ft).ok = true ∧ off + (td P ft).size ≤ xs.length ∧ off + (td P ft).size ≤ ys.length ∧ 0 < (td P ft).size then
      (match g ft (mpart (td P ft) xs off) (mpart (td P ft) ys off) with
      | none => none
      | some b => (meqFields P g xs ys r).map fun c => b && c)
    else none

def meqs (P : Program) : Nat → TypeId → MV → MV → Option Bool
  | 0, _, _, _ => none
  | d + 1, t, x, y => match (td P t).k, x, y with
    | .int _, .int k a, .int k' b => if k = k' then some (decide (a = b)) else none
    | .bool, .bool a, .bool b => some (a == b)
    | .str, .str a, .str b => some (decide (a = b))
    | .struct fs, .agg xs, .agg ys => if eqPlain P t = true then meqFields P (meqs P d) xs ys fs else none
    | .array n e, .agg xs, .agg ys => if (td P e).ok = true then meqFields P (meqs P d) xs ys ((List.range n).map fun i => (i * (td P e).size, e)) else none
    | _, _, _ => none

def mbin (P : Program) (t : TypeId) (op : BinOp) (x y : MV) : PV :=
  match x, y with
  | .int k a, .int k' b => match op with
    | .shl | .shr => intShift op k a b
    | _ => if k = k' then intBin op k a b else none
  | .str a, .str b => strBin op a b
  | .bool a, .bool b => eqV op ((td P t).k.isBool = true) (a == b)
  | .nilp, .nilp => eqV op ((td P t).k.isPtr = true) true
  | .ptr _ _ _, .nilp | .nilp, .ptr _ _ _ | .cptr _, .nilp | .nilp, .cptr _ => eqV op ((td P t).k.isPtr = true) false
  | .agg xs, .agg ys => match meqs P 6 t (.agg xs) (.agg ys) with
    | some b => eqV op (eqPlain P t = true) b
    | none => none
  | _, _ => none

def mun (op : UnOp) (x : MV) : PV :=
  match op, x with
  | .neg, .int k n => some (True, .int k (k.wrap (0 - n)))
  | .xor, .int k n => some (True, .int k (notK k n))
  | .not, .bool b => some (True, .bool (!b))
  | _, _ => none

def mconv (P : Program) (s d : TypeId) (x : MV) : PV :=
  match x, (td P d).k, (td P s).ok with
  | .int _ n, .int k, true => some (True, .int k (k.wrap n))
  | .str s, .str, true => some (True, .str s)
  | _, _, _ => none

/-- Elements of a row as chunks. -/
def chunks (e : Nat) : Nat → List MV → List (List MV)
  | 0, _ => []
  | n + 1, cs => cs.take e :: chunks e n (cs.drop e)

def mslice (P : Program) (t : TypeId) (x : MV) (lo hi mx : Option MV) : PV :=
  match x, lo, hi, mx with
  | .str s, some (.int _ l), some (.int _ h), none => some ((td P t).k = .str ∧ 0 ≤ l ∧ l ≤ h ∧ h ≤ s.size, .str (s.extract l.toNat h.toNat))
  | .str s, none, some (.int _ h), none => some ((td P t).k = .str ∧ 0 ≤ h ∧ h ≤ s.size, .str (s.extract 0 h.toNat))
  | .str s, some (.int _ l), none, none => some ((td P t).k = .str ∧ 0 ≤ l ∧ l ≤ s.size, .str (s.extract l.toNat s.size))
  | .lst e xs tt, lo, hi, mx => match (td P t).k with
    | .slice el => match lo, hi, mx with
      | some (.int _ l), some (.int _ h), none => some ((td P el).ok = true ∧ (td P el).size = e ∧ 0 ≤ l ∧ l ≤ h ∧ h ≤ xs.length, .lst e ((xs.take h.toNat).drop l.toNat) (tt && decide (h.toNat = xs.length)))
      | none, some (.int _ h), none => some ((td P el).ok = true ∧ (td P el).size = e ∧ 0 ≤ h ∧ h ≤ xs.length, .lst e (xs.take h.toNat) (tt && decide (h.toNat = xs.length)))
      | some (.int _ l), none, none => some ((td P el).ok = true ∧ (td P el).size = e ∧ 0 ≤ l ∧ l ≤ xs.length, .lst e (xs.drop l.toNat) tt)
      | none, some (.int _ h), some (.int _ m) => some ((td P el).ok = true ∧ (td P el).size = e ∧ 0 ≤ h ∧ h ≤ m ∧ m ≤ xs.length, .lst e (xs.take h.toNat) (decide (h = m)))
      | some (.int _ l), some (.int _ h), some (.int _ m) => some ((td P el).ok = true ∧ (td P el).size = e ∧ 0 ≤ l ∧ l ≤ h ∧ h ≤ m ∧ m ≤ xs.length, .lst e ((xs.take h.toNat).drop l.toNat) (decide (h = m)))
      | _, _, _ => none
    | _ => none
  | .vec e l lo0 n, lo, hi, mx => match (td P t).k with
    | .slice el => match lo, hi, mx with
      | some (.int _ l'), some (.int _ h), none => some ((td P el).ok = true ∧ (td P el).size = e ∧ 0 ≤ l' ∧ l' ≤ h ∧ h ≤ n, .vec e l (lo0 + l'.toNat) (h.toNat - l'.toNat))
      | none, some (.int _ h), none => some ((td P el).ok = true ∧ (td P el).size = e ∧ 0 ≤ h ∧ h ≤ n, .vec e l lo0 h.toNat)
      | some (.int _ l'), none, none => some ((td P el).ok = true ∧ (td P el).size = e ∧ 0 ≤ l' ∧ l' ≤ n, .vec e l (lo0 + l'.toNat) (n - l'.toNat))
      | some (.int _ l'), some (.int _ h), some (.int _ m) => some ((td P el).ok = true ∧ (td P el).size = e ∧ 0 ≤ l' ∧ l' ≤ h ∧ h ≤ m ∧ m ≤ n, .junk)
      | _, _, _ => none
    | _ => none
  | .cptr cs, none, none, none => match (td P t).k with
    | .array n el => some ((td P el).ok = true ∧ 0 < n ∧ (td P el).size * n ≤ cs.length ∧ n ≤ 9223372036854775807, .lst (td P el).size (chunks (td P el).size n cs) true)
    | _ => none
  | .nils, none, some (.int _ h), none => match (td P t).k with
    | .slice el => some ((td P el).ok = true ∧ h = 0, .nils)
    | _ => none
  | _, _, _, _ => none

def mfieldAddr (P : Program) (t : TypeId) (x : MV) (i : Nat) : PV :=
  match (td P t).k with
  | .struct fs => match fs[i]?, x with
    | some (off, ft), .ptr l j o => some ((td P ft).ok = true ∧ (td P ft).size ≠ 0, .ptr l j (o + off))
    | some (off, ft), .cptr cs => some ((td P ft).ok = true ∧ (td P ft).size ≠ 0, .cptr (cs.drop off))
    | _, _ => none
  | _ => none

def mindexAddr (P : Program) (t : TypeId) (x i : MV) : PV :=
  match (td P t).k, x, i with
  | .slice el, .lst e xs _, .int _ n => some ((td P el).ok = true ∧ (td P el).size = e ∧ 0 ≤ n ∧ n < xs.length, .cptr (xs.getD n.toNat []))
  | .slice el, .vec e l lo k, .int _ n => some ((td P el).ok = true ∧ (td P el).size = e ∧ 0 ≤ n ∧ n < k, .ptr l (lo + n.toNat) 0)
  | .array len el, .ptr l j o, .int _ n => some ((td P el).ok = true ∧ 0 ≤ n ∧ n < len, .ptr l j (o + n.toNat * (td P el).size))
  | .array len el, .cptr cs, .int _ n => some ((td P el).ok = true ∧ 0 ≤ n ∧ n < len, .cptr (cs.drop (n.toNat * (td P el).size)))
  | _, _, _ => none

def mindex (P : Program) (t : TypeId) (x i : MV) : PV :=
  match (td P t).k, x, i with
  | .str, .str s, .int _ n => some (0 ≤ n ∧ n < s.size, .int .u8 ((s.toList.getD n.toNat 0).toNat : Int))
  | .array len el, .agg cs, .int _ n => some ((td P el).ok = true ∧ 0 ≤ n ∧ n < len ∧ (td P el).size * len ≤ cs.length ∧ 0 < (td P el).size, mpart (td P el) cs (n.toNat * (td P el).size))
  | _, _, _ => none

def mfield (P : Program) (t : TypeId) (x : MV) (i : Nat) : PV :=
  match (td P t).k with
  | .struct fs => match fs[i]?, x with
    | some (off, ft), .agg cs => some ((td P ft).ok = true ∧ off + (td P ft).size ≤ cs.length ∧ 0 < (td P ft).size, mpart (td P ft) cs off)
    | _, _ => none
  | _ => none

/-- Cells laid over others. -/
def laid (cs : List MV) (off : Nat) (new : List MV) : List MV := cs.take off ++ new ++ cs.drop (off + new.length)

def buildFrom (P : Program) (f : FR) (place : Nat → Option (Nat × TypeId)) : List (Nat × Operand) → List MV → Option (Prop × List MV)
  | [], cs => some (True, cs)
  | (i, x) :: rest, cs => match place i with
    | none => none
    | some (off, ft) => match buildFrom P f place rest (laid cs off (mval f x).cells) with
      | none => none
      | some (C, r) => some (((td P ft).ok = true ∧ (mval f x).cells.length = (td P ft).size ∧ (∀ c, c ∈ (mval f x).cells → c.isCell = true) ∧ off + (mval f x).cells.length ≤ cs.length) ∧ C, r)

def mbuild (P : Program) (f : FR) (t : TypeId) (parts : Array (Nat × Operand)) : PV :=
  match (td P t).k with
  | .struct fs => match buildFrom P f (fun i => fs[i]?) parts.toList (td P t).zero with
    | some (C, cs) => some ((td P t).zok = true ∧ (fs.all fun x => (td P x.2).ok) = true ∧ C, .agg cs)
    | none => none
  | .array n el => match buildFrom P f (fun i => some (i * (td P el).size, el)) parts.toList (td P t).zero with
    | some (C, cs) => some ((td P t).zok = true ∧ (td P el).ok = true ∧ C, .agg cs)
    | none => none
  | _ => none

def mlen (P : Program) (t : TypeId) (x : MV) : PV :=
  match x with
  | .str s => some ((td P t).k = .str, .int .i64 s.size)
  | .lst _ xs _ => match (td P t).k with | .slice _ => some (True, .int .i64 xs.length) | _ => none
  | .vec _ _ _ n => match (td P t).k with | .slice _ => some (True, .int .i64 n) | _ => none
  | .nils => match (td P t).k with | .slice _ => some (True, .int .i64 0) | _ => none
  | .nilm => match (td P t).k with | .map _ _ => some (True, .int .i64 0) | _ => none
  | _ => none

def mcap (P : Program) (t : TypeId) (x : MV) : PV :=
  match x with
  | .nils => match (td P t).k with | .slice _ => some (True, .int .i64 0) | _ => none
  | _ => none

def mmin2 (x y : MV) : PV :=
  match x, y with
  | .int k a, .int _ b => some (True, .int k (if b < a then b else a))
  | _, _ => none
def mmax2 (x y : MV) : PV :=
  match x, y with
  | .int k a, .int _ b => some (True, .int k (if b > a then b else a))
  | _, _ => none

def mbuiltin (P : Program) (b : Builtin) (ts : Array TypeId) (xs : List MV) : PV :=
  match b, xs with
  | .len, [x] => mlen P (ts.getD 0 0) x
  | .min, [x, y] => mmin2 x y
  | .max, [x, y] => mmax2 x y
  | .cap, [x] => mcap P (ts.getD 0 0) x
  | _, _ => none

def qop (P : Program) (f : FR) : Op → PV
  | .move x | .assign x => some (True, mval f x)
  | .pick c a b => match mval f c with
    | .bool t => some (True, if t = true then mval f a else mval f b)
    | _ => none
  | .nilCheck x => match mval f x with
    | .ptr l i o => some (True, .ptr l i o)
    | .cptr cs => some (True, .cptr cs)
    | _ => none
  | .binOp op t x y _ => mbin P t op (mval f x) (mval f y)
  | .unOp op _ x => mun op (mval f x)
  | .convert s d x => mconv P s d (mval f x)
  | .makeInterface t x => match (td P t).k, (td P t).ok with
    | .iface, _ => none
    | _, true => some (True, .iface t (mval f x))
    | _, _ => none
  | .makeFunc fn first cap => some (True, .fn fn (first.toList.map (mval f)) (cap.toList.map (mval f)))
  | .slice t x lo hi mx => mslice P t (mval f x) (lo.map (mval f)) (hi.map (mval f)) (mx.map (mval f))
  | .fieldAddr t x i => mfieldAddr P t (mval f x) i
  | .field t x i => mfield P t (mval f x) i
  | .indexAddr t x i => mindexAddr P t (mval f x) (mval f i)
  | .index t x i => mindex P t (mval f x) (mval f i)
  | .extract x i => match mval f x with
    | .tup vs => match vs[i]? with | some v => some (True, v) | none => none
    | _ => none
  | .build t parts => mbuild P f t parts
  | .call { callee := .builtin b, args, argTypes } => mbuiltin P b argTypes (args.toList.map (mval f))
  | _ => none

end Go.Proofs.Ytielcgplbnlgbaa
