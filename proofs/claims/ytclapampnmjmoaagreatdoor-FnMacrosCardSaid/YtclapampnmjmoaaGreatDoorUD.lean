/- A part of the proof. No condition. -/
import Derived.Test.YtclapampnmjmoaaGreatDoorUC
import Derived.Laws.BytesArg
set_option linter.unusedVariables false
set_option linter.unusedSimpArgs false
set_option linter.unusedSectionVars false
namespace Go.U
open Go
def szOf {P : Program} (Y : TT P) (t : TypeId) : Option Nat := (Y.f t).map (·.size)
def isAggT : TD → Bool
  | .st _ | .arr _ _ => true
  | _ => false
def ofB (l : List UInt8) : List Int := l.map fun b => (b.toNat : Int)
def toB (xs : List Int) : List UInt8 := xs.map fun n => UInt8.ofNat n.toNat
def bnd (dflt : Nat) : Option SV → Option Nat
  | none => some dflt
  | some (.d (.i _ n)) => if 0 ≤ n then some n.toNat else none
  | _ => none
def sliceS {P : Program} (Y : TT P) (hp : Nat → Option Blk) (t : TypeId) (x : SV) (lo hi mx : Option SV) : Option SV :=
  match tdAt Y t, x, mx with
  | some .str, .d (.str l), none =>
    match bnd 0 lo, bnd l.length hi with
    | some a, some b => if a ≤ b ∧ b ≤ l.length then some (.d (.str ((l.drop a).take (b - a)))) else none
    | _, _ => none
  | some (.sl e), .d (.rov t xs), none =>
    match bnd 0 lo, bnd xs.length hi with
    | some a, some b => if a ≤ b ∧ b ≤ xs.length ∧ szOf Y e = some t.size then some (.d (.rov t ((xs.drop a).take (b - a)))) else none
    | _, _ => none
  | some (.sl e), .all b, none =>
    match hp b with
    | some k => match bnd 0 lo, bnd k.c.len hi with
      | some a, some c => if a ≤ c ∧ c ≤ k.c.len ∧ szOf Y e = some k.s then some (.sl b a (c - a)) else none
      | _, _ => none
    | none => none
  | some (.sl e), .sl b off len, none =>
    match bnd 0 lo, bnd len hi, hp b with
    | some a, some c, some k => if a ≤ c ∧ c ≤ len ∧ szOf Y e = some k.s then some (.sl b (off + a) (c - a)) else none
    | _, _, _ => none
  | some (.arr m e), .ptr b el c, none =>
    match hp b, bnd 0 lo, bnd m hi with
    | some k, some a, some h => if a ≤ h ∧ h ≤ m ∧ szOf Y e = some k.s ∧ el = 0 ∧ c = 0 ∧ m = k.c.len then some (.sl b a (h - a)) else none
    | _, _, _ => none
  | some (.sl e), .d .emp, none =>
    match bnd 0 lo, bnd 0 hi, szOf Y e with
    | some 0, some 0, some _ => some (.d .emp)
    | _, _, _ => none
  | some (.sl e), .d (.rov _ _), some m =>
    match bnd 0 lo, bnd 1 hi, bnd 0 (some m), szOf Y e with
    | some 0, some 0, some 0, some _ => some (.d .emq)
    | _, _, _, _ => none
  | some (.sl e), .d .emp, some m =>
    match bnd 0 lo, bnd 1 hi, bnd 0 (some m), szOf Y e with
    | some 0, some 0, some 0, some _ => some (.d .emq)
    | _, _, _, _ => none
  | some (.sl e), .sl _ _ _, some m =>
    match bnd 0 lo, bnd 1 hi, bnd 0 (some m), szOf Y e with
    | some 0, some 0, some 0, some _ => some (.d .emq)
    | _, _, _, _ => none
  | some (.sl e), .all _, some m =>
    match bnd 0 lo, bnd 1 hi, bnd 0 (some m), szOf Y e with
    | some 0, some 0, some 0, some _ => some (.d .emq)
    | _, _, _, _ => none
  | _, _, _ => none
def arrPtr (hp : Nat → Option Blk) (b el c s n : Nat) : SV := match hp b with
  | some ⟨s', _, .row _ _⟩ => if s' = s ∧ c = 0 then .ptr b (el + n) 0 else .ptr b el (c + n * s)
  | _ => .ptr b el (c + n * s)
def indexAddrS {P : Program} (Y : TT P) (hp : Nat → Option Blk) (t : TypeId) (x ix : SV) : Option SV :=
  match tdAt Y t, x, ix with
  | some (.sl e), .d (.rov t xs), .d (.i _ n) => if 0 ≤ n ∧ szOf Y e = some t.size then (xs[n.toNat]?).map fun x => .rptr (t.enc x) else none
  | some (.sl e), .all b, .d (.i _ n) =>
    match hp b with
    | some k => if 0 ≤ n ∧ n.toNat < k.c.len ∧ szOf Y e = some k.s then some (.ptr b n.toNat 0) else none
    | none => none
  | some (.sl e), .sl b off len, .d (.i _ n) =>
    match hp b with
    | some k => if 0 ≤ n ∧ n.toNat < len ∧ szOf Y e = some k.s then some (.ptr b (off + n.toNat) 0) else none
    | none => none
  | some (.arr m e), .ptr b el c, .d (.i _ n) =>
    match szOf Y e with
    | some s => if 0 ≤ n ∧ n.toNat < m then some (arrPtr hp b el c s n.toNat) else none
    | none => none
  | some (.arr m e), .rptr cs, .d (.i _ n) =>
    match szOf Y e with
    | some s => if 0 ≤ n ∧ n.toNat < m then some (.rptr (cs.drop (n.toNat * s))) else none
    | none => none
  | some (.sl e), .clo g cs, .d (.i _ n) => if g = 1000000007 ∧ 0 ≤ n ∧ szOf Y e = some 1 then (cs[n.toNat]?).map fun x => .clo 1000000008 [x] else none
  | _, _, _ => none
def indexS {P : Program} (Y : TT P) (t : TypeId) (x ix : SV) : Option SV :=
  match tdAt Y t, x, ix with
  | some .str, .d (.str l), .d (.i _ n) => if 0 ≤ n then (l[n.toNat]?).map fun b => .d (.i .u8 b.toNat) else none
  | _, _, _ => none
def fieldAddrS {P : Program} (Y : TT P) (t : TypeId) (x : SV) (f : Nat) : Option SV :=
  match tdAt Y t with
  | some (.st fs) =>
    match fs[f]? with
    | some (off, _, sz) =>
      if sz = 0 then none else match x with
      | .ptr b e c => some (.ptr b e (c + off))
      | .rptr cs => some (.rptr (cs.drop off))
      | _ => none
    | none => none
  | _ => none
def partS (td : TD) (sz : Nat) (cs : List SV) : Option SV :=
  if isAggT td then (if sz ≤ cs.length then some (.agg (cs.take sz)) else none) else cs.head?
def loadS {P : Program} (Y : TT P) (hp : Nat → Option Blk) (t : TypeId) (x : SV) : Option SV :=
  match Y.f t with
  | some i =>
    match x with
    | .ptr b e c =>
      match hp b with
      | some k => match k.c.el? e with
        | some cs => partS i.td i.size (cs.drop c)
        | none => none
      | none => none
    | .rptr cs => partS i.td i.size (cs.map SV.d)
    | .clo g cs => if g = 1000000008 then partS i.td i.size cs else none
    | _ => none
  | none => none
def fieldS {P : Program} (Y : TT P) (t : TypeId) (x : SV) (f : Nat) : Option SV :=
  match tdAt Y t, x with
  | some (.st fs), .agg cs =>
    match fs[f]? with
    | some (off, ty, _) => match Y.f ty with
      | some i => partS i.td i.size (cs.drop off)
      | none => none
    | none => none
  | _, _ => none
def lenS (hp : Nat → Option Blk) : Option TD → SV → Option Nat
  | some .str, .d (.str l) => some l.length
  | some (.sl _), .d (.rov _ els) => some els.length
  | some (.sl _), .d .emp => some 0
  | some (.sl _), .bb b => (hp b).map fun k => k.c.len
  | some (.sl _), .sl _ _ len => some len
  | some (.sl _), .all b => (hp b).map fun k => k.c.len
  | _, _ => none
def minMaxS (isMax : Bool) : List SV → Option SV
  | [.d (.i k x), .d (.i k' y)] => if k = k' then some (.d (.i k (if isMax then (if y > x then y else x) else (if y < x then y else x)))) else none
  | _ => none
def convS {P : Program} (Y : TT P) (hp : Nat → Option Blk) (src dst : TypeId) (x : SV) : Option SV :=
  match tdAt Y src, tdAt Y dst, x with
  | some _, some (.int k), .d (.i _ n) => some (.d (.i k (k.wrap n)))
  | some _, some .str, .d (.str l) => some (.d (.str l))
  | some (.sl e), some .str, .d (.rov (.i .u8) xs) => match tdAt Y e with
    | some (.int .u8) => some (.d (.str (toB xs)))
    | _ => none
  | some (.sl e), some .str, .d .emp => match tdAt Y e with
    | some (.int .u8) => some (.d (.str []))
    | _ => none
  | some (.sl e), some .str, .sl b off len => match tdAt Y e, hp b with
    | some (.int .u8), some ⟨1, _, .row (.i .u8) xs⟩ => if off + len ≤ List.length xs then some (.d (.str (toB ((List.drop off xs).take len)))) else none
    | _, _ => none
  | some (.sl e), some .str, .all b => match tdAt Y e, hp b with
    | some (.int .u8), some ⟨1, _, .row (.i .u8) xs⟩ => some (.d (.str (toB xs)))
    | _, _ => none
  | some (.ptr t), some .up, .ptr b 0 0 => match hp b, szOf Y t with
    | some ⟨s, _, .mix (some _) _⟩, some z => if z = s then some (.ptr b 0 0) else none
    | _, _ => none
  | some .up, some (.ptr u), .ptr b 0 0 => match hp b, szOf Y u with
    | some ⟨s, _, .mix (some T) _⟩, some _ => if liesAt P P.depth T (s / P.cellsOf T) 0 u 1 = true then some (.ptr b 0 0) else none
    | _, _ => none
  | _, _, _ => none
def unS : UnOp → SV → Option SV
  | .not, .d (.b x) => some (.d (.b (!x)))
  | .neg, .d (.i k n) => some (.d (.i k (k.wrap (0 - n))))
  | .xor, .d (.i k n) => some (.d (.i k (bits .xor k (if k.signed then -1 else k.max) n)))
  | _, _ => none
def isConstB : Operand → Bool
  | .const _ => true
  | _ => false
def isBoolS : SV → Bool
  | .d (.b _) => true
  | _ => false
def isPtrS : SV → Bool
  | .ptr _ _ _ => true
  | _ => false
def eqPart {P : Program} (Y : TT P) (op : BinOp) (t : TypeId) (y : Operand) (p q : SV) : Option SV :=
  if isConstB y || isBoolS p || isPtrS p then
    match op with
    | .eql => (eqS (tdAt Y t) (fun t => (Y.f t).isSome) p q).map fun r => .d (.b r)
    | .neq => (eqS (tdAt Y t) (fun t => (Y.f t).isSome) p q).map fun r => .d (.b (!r))
    | _ => none
  else none
def eqT : Option TD → Option SV → Option SV → Option Bool
  | some (.int _), some (.d (.i k x)), some (.d (.i k' y)) => if k = k' then some (decide (x = y)) else none
  | some .bool, some (.d (.b x)), some (.d (.b y)) => some (decide (x = y))
  | some .str, some (.d (.str x)), some (.d (.str y)) => some (decide (x = y))
  | _, _, _ => none
def eqFs {P : Program} (Y : TT P) (xs ys : List SV) : List (Nat × TypeId × Nat) → Option Bool
  | [] => none
  | [(o, t, _)] => eqT (tdAt Y t) xs[o]? ys[o]?
  | (o, t, _) :: fs => match eqT (tdAt Y t) xs[o]? ys[o]?, eqFs Y xs ys fs with
    | some r, some s => some (Bool.and r s)
    | _, _ => none
def eqAgg {P : Program} (Y : TT P) (t : TypeId) (xs ys : List SV) : Option Bool :=
  if Y.eq t = true then (match tdAt Y t with
    | some (.st fs) => eqFs Y xs ys fs
    | _ => none)
  else none
def binS {P : Program} (Y : TT P) (op : BinOp) (t : TypeId) (y : Operand) : SV → SV → Option SV
  | .agg xs, .agg ys => match op with
    | .eql => (eqAgg Y t xs ys).map fun r => .d (.b r)
    | .neq => (eqAgg Y t xs ys).map fun r => .d (.b (Bool.not r))
    | _ => none
  | .d a, .d b => match binD op a b with
    | some r => some (.d r)
    | none => eqPart Y op t y (.d a) (.d b)
  | p, q => eqPart Y op t y p q
def leafD : (t : Ty) → t.den → D
  | .i k, n => .i k n
  | .b, x => .b x
  | .s, x => .str x
  | .e, x => .er x
  | .l t, xs => .rov t xs
  | .c _ _, _ => .emp
  | .y _, n => .i .u8 n
theorem leafD_enc : ∀ (t : Ty) (x : t.den), t.size = 1 → t.enc x = [leafD t x]
  | .i _, _, _ => rfl
  | .b, _, _ => rfl
  | .s, _, _ => rfl
  | .e, _, _ => rfl
  | .l _, _, _ => rfl
  | .y _, _, _ => rfl
  | .c a t, _, h => by have := Ty.size_pos a; have := Ty.size_pos t; simp only [Ty.size] at h; omega
def lkB {α : Type} (es : List (List UInt8 × α)) (s : List UInt8) : Bool := (lkO es s).isSome
def lkV {α : Type} (es : List (List UInt8 × α)) (s : List UInt8) (z : α) : α := (lkO es s).getD z
def upL {α : Type} : List (List UInt8 × α) → List UInt8 → α → List (List UInt8 × α)
  | [], s, x => [(s, x)]
  | p :: es, s, x => if s = p.1 then (s, x) :: es else p :: upL es s x
def keyN : List UInt8 → Nat
  | [] => 0
  | c :: t => c.toNat + 1 + 257 * keyN t
theorem keyN_inj : ∀ (a b : List UInt8), keyN a = keyN b → a = b
  | [], [], _ => rfl
  | [], c :: t, h => by simp only [keyN] at h; omega
  | c :: t, [], h => by simp only [keyN] at h; omega
  | c :: t, d :: u, h => by
    simp only [keyN] at h
    have h1 := c.toNat_lt
    have h2 := d.toNat_lt
    have h3 : c.toNat = d.toNat := by omega
    have h4 : keyN t = keyN u := by omega
    rw [keyN_inj t u h4, UInt8.toNat_inj.1 h3]
def upM {α : Type} : List (List UInt8 × α) → List UInt8 → α → List (List UInt8 × α)
  | [], s, x => [(s, x)]
  | p :: es, s, x => if s = p.1 then (s, x) :: es else if keyN s < keyN p.1 then (s, x) :: p :: es else p :: upM es s x
theorem lkO_upL {α : Type} : ∀ (es : List (List UInt8 × α)) (s : List UInt8) (x : α) (q : List UInt8), lkO (upL es s x) q = if q = s then some x else lkO es q
  | [], s, x, q => rfl
  | p :: es, s, x, q => by
    simp only [upL]
    split
    · rename_i h; subst h
      simp only [lkO]
      split <;> rfl
    · rename_i h
      simp only [lkO, lkO_upL es s x q]
      split
      · rename_i h2; subst h2; rw [if_neg fun e => h e.symm]
      · rfl
theorem lkO_upM {α : Type} : ∀ (es : List (List UInt8 × α)) (s : List UInt8) (x : α) (q : List UInt8), lkO (upM es s x) q = if q = s then some x else lkO es q
  | [], s, x, q => rfl
  | p :: es, s, x, q => by
    simp only [upM]
    split
    · rename_i h; subst h
      simp only [lkO]
      split <;> rfl
    · rename_i h
      split
      · simp only [lkO]
      · simp only [lkO, lkO_upM es s x q]
        split
        · rename_i h2; subst h2; rw [if_neg fun e => h e.symm]
        · rfl
theorem upM_comm {α : Type} : ∀ (es : List (List UInt8 × α)) (a b : List UInt8) (x y : α), a ≠ b → upM (upM es a x) b y = upM (upM es b y) a x
  | [], a, b, x, y, hab => by
    have hk : keyN a ≠ keyN b := fun e => hab (keyN_inj _ _ e)
    have hba : b ≠ a := fun e => hab e.symm
    simp only [upM, if_neg hab, if_neg hba]
    by_cases h : keyN a < keyN b
    · rw [if_pos h, if_neg (by omega)]
    · rw [if_neg h, if_pos (by omega)]
  | p :: es, a, b, x, y, hab => by
    have hk : keyN a ≠ keyN b := fun e => hab (keyN_inj _ _ e)
    have hba : b ≠ a := fun e => hab e.symm
    have ih := upM_comm es a b x y hab
    by_cases ha : a = p.1
    · subst ha
      by_cases h : keyN b < keyN p.1
      · simp only [upM, if_true, if_neg hba, if_neg hab, if_pos h]; rw [if_neg (by omega)]
      · simp only [upM, if_true, if_neg hba, if_neg h]
    · by_cases hb : b = p.1
      · subst hb
        by_cases h : keyN a < keyN p.1
        · simp only [upM, if_true, if_neg hba, if_neg hab, if_pos h]; rw [if_neg (by omega)]
        · simp only [upM, if_true, if_neg hab, if_neg h]
      · have h1 : keyN a ≠ keyN p.1 := fun e => ha (keyN_inj _ _ e)
        have h2 : keyN b ≠ keyN p.1 := fun e => hb (keyN_inj _ _ e)
        simp only [upM, if_neg ha, if_neg hb]
        by_cases q1 : keyN a < keyN p.1
        · rw [if_pos q1]
          by_cases q2 : keyN b < keyN p.1
          · rw [if_pos q2]
            simp only [upM, if_neg hab, if_neg hba, if_neg ha, if_neg hb, if_pos q1, if_pos q2]
            by_cases q3 : keyN a < keyN b
            · rw [if_pos q3, if_neg (by omega)]
            · rw [if_neg q3, if_pos (by omega)]
          · rw [if_neg q2]
            simp only [upM, if_neg hba, if_neg ha, if_neg hb, if_pos q1, if_neg q2]
            rw [if_neg (by omega)]
        · rw [if_neg q1]
          by_cases q2 : keyN b < keyN p.1
          · rw [if_pos q2]
            simp only [upM, if_neg hab, if_neg ha, if_neg hb, if_neg q1, if_pos q2]
            rw [if_neg (by omega)]
          · rw [if_neg q2]
            simp only [upM, if_neg ha, if_neg hb, if_neg q1, if_neg q2, ih]
def zeroT : (t : Ty) → List D → Option t.den
  | .i k, [.i k' n] => if k' = k then some n else none
  | .b, [.b x] => some x
  | .s, [.str x] => some x
  | .l _, [.emp] => some []
  | _, _ => none
def zOneB (P : Program) (e : TypeId) : Bool := match P.info? e with
  | some j => match j.zero with | some z => z.oneCell' | none => false
  | none => false
def lookupS {P : Program} (Y : TT P) (hp : Nat → Option Blk) (t : TypeId) (x key : SV) (ok : Bool) : Option SV :=
  match tdAt Y t, x, key with
  | some (.map kt e), .clo g [.ptr b 0 0], .d (.str s) =>
    if g = 1000000009 then match tdAt Y kt, hp b, Y.f e with
      | some .str, some ⟨_, _, .map T es⟩, some i => if T.size = 1 then match zeroT T i.zero with
          | some z => if zOneB P e = false then none else some (if ok then .tup [.d (leafD T (lkV es s z)), .d (.b (lkB es s))] else .d (leafD T (lkV es s z)))
          | none => none
        else none
      | _, _, _ => none
    else none
  | _, _, _ => none
def opVal {P : Program} (Y : TT P) (st : St) : Op → Option SV
  | .move x | .assign x => some (ev st x)
  | .pick c a b => match ev st c with | .d (.b x) => some (if x then ev st a else ev st b) | _ => none
  | .binOp op t x y _ => binS Y op t y (ev st x) (ev st y)
  | .unOp op _ x => unS op (ev st x)
  | .nilCheck x => match ev st x with | .ptr b e c => some (.ptr b e c) | .rptr cs => some (.rptr cs) | _ => none
  | .convert src dst x => convS Y st.hp src dst (ev st x)
  | .slice t x lo hi mx => sliceS Y st.hp t (ev st x) (lo.map (ev st)) (hi.map (ev st)) (mx.map (ev st))
  | .indexAddr t x i => indexAddrS Y st.hp t (ev st x) (ev st i)
  | .index t x i => indexS Y t (ev st x) (ev st i)
  | .fieldAddr t x f => fieldAddrS Y t (ev st x) f
  | .field t x f => fieldS Y t (ev st x) f
  | .load t x => loadS Y st.hp t (ev st x)
  | .lookup t x k ok => lookupS Y st.hp t (ev st x) (ev st k) ok
  | .extract x i => match ev st x with | .tup cs => cs[i]? | _ => none
  | .makeFunc (.func f) first captured => if first.size = 0 ∧ f < 1000000 then some (.clo f (captured.toList.map (ev st))) else none
  | .call { callee := .builtin .len, args, argTypes } =>
    match args.toList, argTypes.toList with
    | [x], [t] => (lenS st.hp (tdAt Y t) (ev st x)).map fun n => .d (.i .i64 n)
    | _, _ => none
  | .call { callee := .builtin .min, args, .. } => minMaxS false (args.toList.map (ev st))
  | .call { callee := .builtin .max, args, .. } => minMaxS true (args.toList.map (ev st))
  | _ => none
end Go.U
