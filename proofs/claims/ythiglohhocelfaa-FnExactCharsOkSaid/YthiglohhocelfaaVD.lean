/- The other operations that only make a value: indexing, slicing, fields, loads, lengths, conversions. No condition. -/
import Derived.Test.YthiglohhocelfaaVC
import Derived.Laws.BytesArg
set_option linter.unusedVariables false
set_option linter.unusedSimpArgs false
namespace Go.V
open Go

/-- The cells of a type; a struct or an array is many. -/
def szOf (P : Program) (t : TypeId) : Option Nat := (tyOf P t).map (·.size)
def isAggT : TD → Bool
  | .st _ | .arr _ _ => true
  | _ => false

/-- The bytes that data are. -/
def byteD : List D → Option UInt8
  | [.i .u8 n] => some (UInt8.ofNat n.toNat)
  | _ => none
def bytesD : List (List D) → Option (List UInt8)
  | [] => some []
  | x :: xs => match byteD x, bytesD xs with | some b, some l => some (b :: l) | _, _ => none

/-- A bound of a slice. -/
def bnd (dflt : Nat) : Option SV → Option Nat
  | none => some dflt
  | some (.d (.i _ n)) => if 0 ≤ n then some n.toNat else none
  | _ => none

def sliceS (P : Program) (hp : Nat → Option Blk) (t : TypeId) (x : SV) (lo hi mx : Option SV) : Option SV :=
  match tdAt P t, x, mx with
  | some .str, .d (.str l), none =>
    match bnd 0 lo, bnd l.length hi with
    | some a, some b => if a ≤ b ∧ b ≤ l.length then some (.d (.str ((l.drop a).take (b - a)))) else none
    | _, _ => none
  | some (.sl e), .d (.rov s els), none =>
    match bnd 0 lo, bnd els.length hi with
    | some a, some b => if a ≤ b ∧ b ≤ els.length ∧ szOf P e = some s then some (.d (.rov s ((els.drop a).take (b - a)))) else none
    | _, _ => none
  | some (.sl e), .sl b off len, none =>
    match bnd 0 lo, bnd len hi, hp b with
    | some a, some c, some k => if a ≤ c ∧ c ≤ len ∧ szOf P e = some k.s then some (.sl b (off + a) (c - a)) else none
    | _, _, _ => none
  | some (.sl e), .d .emp, none =>
    match bnd 0 lo, bnd 0 hi, szOf P e with
    | some 0, some 0, some _ => some (.d .emp)
    | _, _, _ => none
  | some (.sl e), .d (.rov _ _), some m =>
    match bnd 0 lo, bnd 1 hi, bnd 0 (some m), szOf P e with
    | some 0, some 0, some 0, some _ => some (.d .emp)
    | _, _, _, _ => none
  | some (.sl e), .d .emp, some m =>
    match bnd 0 lo, bnd 1 hi, bnd 0 (some m), szOf P e with
    | some 0, some 0, some 0, some _ => some (.d .emp)
    | _, _, _, _ => none
  | some (.sl e), .sl _ _ _, some m =>
    match bnd 0 lo, bnd 1 hi, bnd 0 (some m), szOf P e with
    | some 0, some 0, some 0, some _ => some (.d .emp)
    | _, _, _, _ => none
  | _, _, _ => none

/-- The address of an element. -/
def indexAddrS (P : Program) (hp : Nat → Option Blk) (t : TypeId) (x ix : SV) : Option SV :=
  match tdAt P t, x, ix with
  | some (.sl e), .d (.rov s els), .d (.i _ n) => if 0 ≤ n ∧ szOf P e = some s then (els[n.toNat]?).map SV.rptr else none
  | some (.sl e), .sl b off len, .d (.i _ n) =>
    match hp b with
    | some k => if 0 ≤ n ∧ n.toNat < len ∧ szOf P e = some k.s then some (.ptr b (off + n.toNat) 0) else none
    | none => none
  | some (.arr m e), .ptr b el c, .d (.i _ n) =>
    match szOf P e with
    | some s => if 0 ≤ n ∧ n.toNat < m then some (.ptr b el (c + n.toNat * s)) else none
    | none => none
  | some (.arr m e), .rptr cs, .d (.i _ n) =>
    match szOf P e with
    | some s => if 0 ≤ n ∧ n.toNat < m then some (.rptr (cs.drop (n.toNat * s))) else none
    | none => none
  | _, _, _ => none

def indexS (P : Program) (t : TypeId) (x ix : SV) : Option SV :=
  match tdAt P t, x, ix with
  | some .str, .d (.str l), .d (.i _ n) => if 0 ≤ n then (l[n.toNat]?).map fun b => .d (.i .u8 b.toNat) else none
  | _, _, _ => none

def fieldAddrS (P : Program) (t : TypeId) (x : SV) (f : Nat) : Option SV :=
  match tdAt P t with
  | some (.st fs) =>
    match fs[f]? with
    | some (off, _, sz) =>
      if sz = 0 then none else match x with
      | .ptr b e c => some (.ptr b e (c + off))
      | .rptr cs => some (.rptr (cs.drop off))
      | _ => none
    | none => none
  | _ => none

/-- What stands in cells from one on. -/
def partS (td : TD) (sz : Nat) (cs : List SV) : Option SV :=
  if isAggT td then (if sz ≤ cs.length then some (.agg (cs.take sz)) else none) else cs.head?

def loadS (P : Program) (hp : Nat → Option Blk) (t : TypeId) (x : SV) : Option SV :=
  match tyOf P t with
  | some i =>
    match x with
    | .ptr b e c =>
      match hp b with
      | some k => match k.c.el? e with
        | some cs => partS i.td i.size (cs.drop c)
        | none => none
      | none => none
    | .rptr cs => partS i.td i.size (cs.map SV.d)
    | _ => none
  | none => none

def fieldS (P : Program) (t : TypeId) (x : SV) (f : Nat) : Option SV :=
  match tdAt P t, x with
  | some (.st fs), .agg cs =>
    match fs[f]? with
    | some (off, ty, _) => match tyOf P ty with
      | some i => partS i.td i.size (cs.drop off)
      | none => none
    | none => none
  | _, _ => none

def lenS : Option TD → SV → Option Nat
  | some .str, .d (.str l) => some l.length
  | some (.sl _), .d (.rov _ els) => some els.length
  | some (.sl _), .d .emp => some 0
  | some (.sl _), .sl _ _ len => some len
  | _, _ => none

def minMaxS (isMax : Bool) : List SV → Option SV
  | [.d (.i k x), .d (.i k' y)] => if k = k' then some (.d (.i k (if isMax then (if y > x then y else x) else (if y < x then y else x)))) else none
  | _ => none

def convS (P : Program) (hp : Nat → Option Blk) (src dst : TypeId) (x : SV) : Option SV :=
  match tdAt P src, tdAt P dst, x with
  | some _, some (.int k), .d (.i _ n) => some (.d (.i k (k.wrap n)))
  | some _, some .str, .d (.str l) => some (.d (.str l))
  | some (.sl e), some .str, .d (.rov 1 els) => match tdAt P e with
    | some (.int .u8) => (bytesD els).map fun l => .d (.str l)
    | _ => none
  | some (.sl e), some .str, .d .emp => match tdAt P e with
    | some (.int .u8) => some (.d (.str []))
    | _ => none
  | some (.sl e), some .str, .sl b off len => match tdAt P e, hp b with
    | some (.int .u8), some ⟨1, _, .row els⟩ => if off + len ≤ els.length then (bytesD ((els.drop off).take len)).map fun l => .d (.str l) else none
    | _, _ => none
  | _, _, _ => none

def unS : UnOp → SV → Option SV
  | .not, .d (.b x) => some (.d (.b (!x)))
  | .neg, .d (.i k n) => some (.d (.i k (k.wrap (0 - n))))
  | .xor, .d (.i k n) => some (.d (.i k (bits .xor k (if k.signed then -1 else k.max) n)))
  | _, _ => none

def isConstB : Operand → Bool
  | .const _ => true
  | _ => false

def isBoolS : SV → Bool
  | .d (.b _) => true
  | _ => false

def eqPart (P : Program) (op : BinOp) (t : TypeId) (y : Operand) (p q : SV) : Option SV :=
  if isConstB y || isBoolS p then
    match op with
    | .eql => (eqS (tdAt P t) p q).map fun r => .d (.b r)
    | .neq => (eqS (tdAt P t) p q).map fun r => .d (.b (!r))
    | _ => none
  else none

def binS (P : Program) (op : BinOp) (t : TypeId) (y : Operand) : SV → SV → Option SV
  | .d a, .d b => match binD op a b with
    | some r => some (.d r)
    | none => eqPart P op t y (.d a) (.d b)
  | p, q => eqPart P op t y p q

/-- What an operation that only makes a value makes. -/
def opVal (P : Program) (st : St) : Op → Option SV
  | .move x | .assign x => some (ev st x)
  | .pick c a b => match ev st c with | .d (.b x) => some (if x then ev st a else ev st b) | _ => none
  | .binOp op t x y _ => binS P op t y (ev st x) (ev st y)
  | .unOp op _ x => unS op (ev st x)
  | .nilCheck x => match ev st x with | .ptr b e c => some (.ptr b e c) | .rptr cs => some (.rptr cs) | _ => none
  | .convert src dst x => convS P st.hp src dst (ev st x)
  | .slice t x lo hi mx => sliceS P st.hp t (ev st x) (lo.map (ev st)) (hi.map (ev st)) (mx.map (ev st))
  | .indexAddr t x i => indexAddrS P st.hp t (ev st x) (ev st i)
  | .index t x i => indexS P t (ev st x) (ev st i)
  | .fieldAddr t x f => fieldAddrS P t (ev st x) f
  | .field t x f => fieldS P t (ev st x) f
  | .load t x => loadS P st.hp t (ev st x)
  | .extract x i => match ev st x with | .tup cs => cs[i]? | _ => none
  | .makeFunc (.func f) first captured => if first.size = 0 then some (.clo f (captured.toList.map (ev st))) else none
  | .call { callee := .builtin .len, args, argTypes } =>
    match args.toList, argTypes.toList with
    | [x], [t] => (lenS (tdAt P t) (ev st x)).map fun n => .d (.i .i64 n)
    | _, _ => none
  | .call { callee := .builtin .min, args, .. } => minMaxS false (args.toList.map (ev st))
  | .call { callee := .builtin .max, args, .. } => minMaxS true (args.toList.map (ev st))
  | _ => none

end Go.V
