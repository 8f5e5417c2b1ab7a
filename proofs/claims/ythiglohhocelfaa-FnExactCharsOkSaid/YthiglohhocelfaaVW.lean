/- The rules by which a walk is done: one operation. No condition. -/
import Derived.Test.YthiglohhocelfaaVU
set_option linter.unusedVariables false
set_option linter.unusedSimpArgs false
namespace Go.V
open Go

def pickS (x y : SV) : SV → Option SV
  | .d (.b true) => some x
  | .d (.b false) => some y
  | _ => none
def nilS : SV → Option SV
  | .ptr b e c => some (.ptr b e c)
  | .rptr cs => some (.rptr cs)
  | _ => none
def extS (i : Nat) : SV → Option SV
  | .tup cs => cs[i]?
  | _ => none
def lenO : Option Nat → Option SV
  | some n => some (.d (.i .i64 n))
  | none => none
def boxS (st : St) (d : Nat) : Option (List SV) → Option St
  | some cs => if cs.length = 0 then none else some ((st.newB (newId d) ⟨cs.length, false, .mix [cs]⟩).put (some d) (.ptr (newId d) 0 0))
  | none => none
def allocS (st : St) (d : Nat) : Option TI → Option St
  | some i => if i.size = 0 then none else some ((st.newB (newId d) ⟨i.size, false, .mix [i.zero.map SV.d]⟩).put (some d) (.ptr (newId d) 0 0))
  | none => none
def putU (dst : Option Nat) : Option St → Option St
  | some st => some (st.put dst .undef)
  | none => none
def isStr : Option TD → Bool
  | some .str => true
  | _ => false
def isSl : Option TD → Bool
  | some (.sl _) => true
  | _ => false

section
variable {P : Program} {T : Tab} (fr : List SV) (hp : Nat → Option Blk) (k : St → Prop) (d : Option Nat) (dd : Nat) (t : Nat) (pos : String) (af : Array Edge) (g : Option (Nat × Bool))

theorem nd_move (x : Operand) : need (opStep P T ⟨fr, hp⟩ ⟨d, .move x, t, pos, af, g⟩) k = k (St.put ⟨fr, hp⟩ d (ev ⟨fr, hp⟩ x)) := rfl
theorem nd_assign (x : Operand) : need (opStep P T ⟨fr, hp⟩ ⟨d, .assign x, t, pos, af, g⟩) k = k (St.put ⟨fr, hp⟩ d (ev ⟨fr, hp⟩ x)) := rfl
theorem nd_pick (c x y : Operand) : need (opStep P T ⟨fr, hp⟩ ⟨d, .pick c x y, t, pos, af, g⟩) k = need (putO ⟨fr, hp⟩ d (pickS (ev ⟨fr, hp⟩ x) (ev ⟨fr, hp⟩ y) (ev ⟨fr, hp⟩ c))) k := by
  show need (putO _ _ (opVal P _ (.pick c x y))) k = _
  unfold opVal
  simp only
  cases ev ⟨fr, hp⟩ c with
  | d x => cases x with
    | b x => cases x <;> rfl
    | _ => rfl
  | _ => rfl
theorem nd_bin (op : BinOp) (ty ty' : Nat) (x y : Operand) : need (opStep P T ⟨fr, hp⟩ ⟨d, .binOp op ty x y ty', t, pos, af, g⟩) k = need (putO ⟨fr, hp⟩ d (binS P op ty y (ev ⟨fr, hp⟩ x) (ev ⟨fr, hp⟩ y))) k := rfl
theorem nd_un (op : UnOp) (ty : Nat) (x : Operand) : need (opStep P T ⟨fr, hp⟩ ⟨d, .unOp op ty x, t, pos, af, g⟩) k = need (putO ⟨fr, hp⟩ d (unS op (ev ⟨fr, hp⟩ x))) k := rfl
theorem nd_nil (x : Operand) : need (opStep P T ⟨fr, hp⟩ ⟨d, .nilCheck x, t, pos, af, g⟩) k = need (putO ⟨fr, hp⟩ d (nilS (ev ⟨fr, hp⟩ x))) k := by
  show need (putO _ _ (opVal P _ (.nilCheck x))) k = _
  unfold opVal
  simp only
  cases ev ⟨fr, hp⟩ x <;> rfl
theorem nd_slice (ty : Nat) (x : Operand) (lo hi mx : Option Operand) : need (opStep P T ⟨fr, hp⟩ ⟨d, .slice ty x lo hi mx, t, pos, af, g⟩) k = need (putO ⟨fr, hp⟩ d (sliceS P hp ty (ev ⟨fr, hp⟩ x) (lo.map (ev ⟨fr, hp⟩)) (hi.map (ev ⟨fr, hp⟩)) (mx.map (ev ⟨fr, hp⟩)))) k := rfl
theorem nd_indexAddr (ty : Nat) (x i : Operand) : need (opStep P T ⟨fr, hp⟩ ⟨d, .indexAddr ty x i, t, pos, af, g⟩) k = need (putO ⟨fr, hp⟩ d (indexAddrS P hp ty (ev ⟨fr, hp⟩ x) (ev ⟨fr, hp⟩ i))) k := rfl
theorem nd_index (ty : Nat) (x i : Operand) : need (opStep P T ⟨fr, hp⟩ ⟨d, .index ty x i, t, pos, af, g⟩) k = need (putO ⟨fr, hp⟩ d (indexS P ty (ev ⟨fr, hp⟩ x) (ev ⟨fr, hp⟩ i))) k := rfl
theorem nd_fieldAddr (ty : Nat) (x : Operand) (f : Nat) : need (opStep P T ⟨fr, hp⟩ ⟨d, .fieldAddr ty x f, t, pos, af, g⟩) k = need (putO ⟨fr, hp⟩ d (fieldAddrS P ty (ev ⟨fr, hp⟩ x) f)) k := rfl
theorem nd_field (ty : Nat) (x : Operand) (f : Nat) : need (opStep P T ⟨fr, hp⟩ ⟨d, .field ty x f, t, pos, af, g⟩) k = need (putO ⟨fr, hp⟩ d (fieldS P ty (ev ⟨fr, hp⟩ x) f)) k := rfl
theorem nd_load (ty : Nat) (x : Operand) : need (opStep P T ⟨fr, hp⟩ ⟨d, .load ty x, t, pos, af, g⟩) k = need (putO ⟨fr, hp⟩ d (loadS P hp ty (ev ⟨fr, hp⟩ x))) k := rfl
theorem nd_extract (x : Operand) (i : Nat) : need (opStep P T ⟨fr, hp⟩ ⟨d, .extract x i, t, pos, af, g⟩) k = need (putO ⟨fr, hp⟩ d (extS i (ev ⟨fr, hp⟩ x))) k := by
  show need (putO _ _ (opVal P _ (.extract x i))) k = _
  unfold opVal
  simp only
  cases ev ⟨fr, hp⟩ x <;> rfl
theorem nd_makeFunc (f : Nat) (c : List Operand) : need (opStep P T ⟨fr, hp⟩ ⟨d, .makeFunc (.func f) #[] ⟨c⟩, t, pos, af, g⟩) k = k (St.put ⟨fr, hp⟩ d (.clo f (c.map (ev ⟨fr, hp⟩)))) := rfl
theorem nd_len (x : Operand) (ty : Nat) : need (opStep P T ⟨fr, hp⟩ ⟨d, .call ⟨.builtin .len, #[x], #[ty]⟩, t, pos, af, g⟩) k = need (putO ⟨fr, hp⟩ d (lenO (lenS (tdAt P ty) (ev ⟨fr, hp⟩ x)))) k := by
  show need (putO _ _ ((lenS (tdAt P ty) (ev ⟨fr, hp⟩ x)).map fun n => SV.d (.i .i64 n))) k = _
  cases lenS (tdAt P ty) (ev ⟨fr, hp⟩ x) <;> rfl
theorem nd_min (l : List Operand) (tys : Array Nat) : need (opStep P T ⟨fr, hp⟩ ⟨d, .call ⟨.builtin .min, ⟨l⟩, tys⟩, t, pos, af, g⟩) k = need (putO ⟨fr, hp⟩ d (minMaxS false (l.map (ev ⟨fr, hp⟩)))) k := rfl
theorem nd_max (l : List Operand) (tys : Array Nat) : need (opStep P T ⟨fr, hp⟩ ⟨d, .call ⟨.builtin .max, ⟨l⟩, tys⟩, t, pos, af, g⟩) k = need (putO ⟨fr, hp⟩ d (minMaxS true (l.map (ev ⟨fr, hp⟩)))) k := rfl
theorem nd_alloc (ty : Nat) : need (opStep P T ⟨fr, hp⟩ ⟨some dd, .alloc ty, t, pos, af, g⟩) k = need (allocS ⟨fr, hp⟩ dd (tyOf P ty)) k := by
  show need (opNew P _ dd (.alloc ty)) k = _
  unfold opNew
  simp only
  cases tyOf P ty <;> rfl
theorem nd_box (ty : Nat) (x : Operand) : need (opStep P T ⟨fr, hp⟩ ⟨some dd, .box ty x, t, pos, af, g⟩) k = need (boxS ⟨fr, hp⟩ dd (ev ⟨fr, hp⟩ x).cells) k := by
  show need (opNew P _ dd (.box ty x)) k = _
  unfold opNew
  simp only
  cases (ev ⟨fr, hp⟩ x).cells <;> rfl
theorem nd_build (ty : Nat) (l : List (Nat × Operand)) : need (opStep P T ⟨fr, hp⟩ ⟨some dd, .build ty ⟨l⟩, t, pos, af, g⟩) k = need (putO ⟨fr, hp⟩ (some dd) (buildS P ⟨fr, hp⟩ ty l)) k := by
  show need ((buildS P ⟨fr, hp⟩ ty l).map fun sv => St.put ⟨fr, hp⟩ (some dd) sv) k = _
  cases buildS P ⟨fr, hp⟩ ty l <;> rfl
theorem nd_store (ty : Nat) (p v : Operand) : need (opStep P T ⟨fr, hp⟩ ⟨d, .store ty p v, t, pos, af, g⟩) k = need (putU d (storeSt P ⟨fr, hp⟩ ty (ev ⟨fr, hp⟩ p) (ev ⟨fr, hp⟩ v))) k := by
  show need ((storeSt P ⟨fr, hp⟩ ty (ev ⟨fr, hp⟩ p) (ev ⟨fr, hp⟩ v)).map fun st' => st'.put d .undef) k = _
  cases storeSt P ⟨fr, hp⟩ ty (ev ⟨fr, hp⟩ p) (ev ⟨fr, hp⟩ v) <;> rfl
theorem nd_append (x y : Operand) (ty ty' : Nat) : need (opStep P T ⟨fr, hp⟩ ⟨some dd, .call ⟨.builtin .append, #[x, y], #[ty, ty']⟩, t, pos, af, g⟩) k = need (appendSt P ⟨fr, hp⟩ dd ty ty' (ev ⟨fr, hp⟩ x) (ev ⟨fr, hp⟩ y)) k := rfl
theorem nd_call (f : Operand) (l : List Operand) (tys : Array Nat) : need (opStep P T ⟨fr, hp⟩ ⟨d, .call ⟨.value f, ⟨l⟩, tys⟩, t, pos, af, g⟩) k = need (callS T ⟨fr, hp⟩ d f l) k := rfl
theorem nd_conv (s u : Nat) (x : Operand) : need (opStep P T ⟨fr, hp⟩ ⟨some dd, .convert s u x, t, pos, af, g⟩) k =
    if isStr (tdAt P s) && isSl (tdAt P u) then need (opNew P ⟨fr, hp⟩ dd (.convert s u x)) k else need (putO ⟨fr, hp⟩ (some dd) (convS P hp s u (ev ⟨fr, hp⟩ x))) k := by
  unfold opStep kindOf
  simp only
  generalize hs : tdAt P s = a
  generalize hu : tdAt P u = b
  cases a with
  | none => rfl
  | some a => cases a with
    | str => cases b with
      | none => rfl
      | some b => cases b <;> rfl
    | _ => rfl

theorem pick_t (x y : SV) : pickS x y (.d (.b true)) = some x := rfl
theorem pick_f (x y : SV) : pickS x y (.d (.b false)) = some y := rfl
theorem nilS_ptr (b e c : Nat) : nilS (.ptr b e c) = some (.ptr b e c) := rfl
theorem nilS_rptr (cs : List D) : nilS (.rptr cs) = some (.rptr cs) := rfl
theorem extS_tup (i : Nat) (cs : List SV) : extS i (.tup cs) = cs[i]? := rfl
theorem lenO_some (n : Nat) : lenO (some n) = some (.d (.i .i64 n)) := rfl
theorem boxS_some (dd' : Nat) (c : SV) (cs : List SV) : boxS ⟨fr, hp⟩ dd' (some (c :: cs)) = some (St.put (St.newB ⟨fr, hp⟩ (newId dd') ⟨(c :: cs).length, false, .mix [c :: cs]⟩) (some dd') (.ptr (newId dd') 0 0)) := rfl
theorem allocS_some (td : TD) (n b : Nat) (z : List D) : allocS ⟨fr, hp⟩ dd (some ⟨td, n + 1, b, z⟩) = some (St.put (St.newB ⟨fr, hp⟩ (newId dd) ⟨n + 1, false, .mix [z.map SV.d]⟩) (some dd) (.ptr (newId dd) 0 0)) := rfl
theorem putU_some : putU d (some ⟨fr, hp⟩) = some (St.put ⟨fr, hp⟩ d .undef) := rfl

theorem un_not (b : Bool) : unS .not (.d (.b b)) = some (.d (.b (!b))) := rfl
variable (ty : Nat) (y : Operand) (i j : Int) (q : IntKind) (l m : List UInt8)
theorem bi_add : binS P .add ty y (.d (.i q i)) (.d (.i q j)) = some (.d (.i q (q.wrap (i + j)))) := by simp [binS, binD]
theorem bi_sub : binS P .sub ty y (.d (.i q i)) (.d (.i q j)) = some (.d (.i q (q.wrap (i - j)))) := by simp [binS, binD]
theorem bi_mul : binS P .mul ty y (.d (.i q i)) (.d (.i q j)) = some (.d (.i q (q.wrap (i * j)))) := by simp [binS, binD]
theorem bi_eql : binS P .eql ty y (.d (.i q i)) (.d (.i q j)) = some (.d (.b (decide (i = j)))) := by simp [binS, binD]
theorem bi_neq : binS P .neq ty y (.d (.i q i)) (.d (.i q j)) = some (.d (.b (!decide (i = j)))) := by simp [binS, binD]
theorem bi_lss : binS P .lss ty y (.d (.i q i)) (.d (.i q j)) = some (.d (.b (decide (i < j)))) := by simp [binS, binD]
theorem bi_leq : binS P .leq ty y (.d (.i q i)) (.d (.i q j)) = some (.d (.b (decide (i ≤ j)))) := by simp [binS, binD]
theorem bi_gtr : binS P .gtr ty y (.d (.i q i)) (.d (.i q j)) = some (.d (.b (decide (j < i)))) := by simp [binS, binD]
theorem bi_geq : binS P .geq ty y (.d (.i q i)) (.d (.i q j)) = some (.d (.b (decide (j ≤ i)))) := by simp [binS, binD]
theorem bs_eql : binS P .eql ty y (.d (.str l)) (.d (.str m)) = some (.d (.b (decide (l = m)))) := by simp [binS, binD]
theorem bs_neq : binS P .neq ty y (.d (.str l)) (.d (.str m)) = some (.d (.b (!decide (l = m)))) := by simp [binS, binD]
theorem bs_lss : binS P .lss ty y (.d (.str l)) (.d (.str m)) = some (.d (.b (Op.bytesLess l m))) := by simp [binS, binD]
theorem bs_leq : binS P .leq ty y (.d (.str l)) (.d (.str m)) = some (.d (.b (Op.bytesLess l m || decide (l = m)))) := by simp [binS, binD]
theorem bs_gtr : binS P .gtr ty y (.d (.str l)) (.d (.str m)) = some (.d (.b (!(Op.bytesLess l m || decide (l = m))))) := by simp [binS, binD]
theorem bs_geq : binS P .geq ty y (.d (.str l)) (.d (.str m)) = some (.d (.b (!Op.bytesLess l m))) := by simp [binS, binD]

end

theorem vz : (type_of% @nd_move) ∧ (type_of% @nd_assign) ∧ (type_of% @nd_pick) ∧ (type_of% @nd_bin) ∧ (type_of% @nd_un) ∧ (type_of% @nd_nil) ∧ (type_of% @nd_slice) ∧ (type_of% @nd_indexAddr) ∧ (type_of% @nd_index) ∧ (type_of% @nd_fieldAddr) ∧ (type_of% @nd_field) ∧ (type_of% @nd_load) ∧ (type_of% @nd_extract) ∧ (type_of% @nd_makeFunc) ∧ (type_of% @nd_len) ∧ (type_of% @nd_min) ∧ (type_of% @nd_max) ∧ (type_of% @nd_alloc) ∧ (type_of% @nd_box) ∧ (type_of% @nd_build) ∧ (type_of% @nd_store) ∧ (type_of% @nd_append) ∧ (type_of% @nd_call) ∧ (type_of% @nd_conv) ∧ (type_of% @pick_t) ∧ (type_of% @pick_f) ∧ (type_of% @nilS_ptr) ∧ (type_of% @nilS_rptr) ∧ (type_of% @extS_tup) ∧ (type_of% @lenO_some) ∧ (type_of% @boxS_some) ∧ (type_of% @allocS_some) ∧ (type_of% @putU_some) ∧ (type_of% @un_not) ∧ (type_of% @bi_add) ∧ (type_of% @bi_sub) ∧ (type_of% @bi_mul) ∧ (type_of% @bi_eql) ∧ (type_of% @bi_neq) ∧ (type_of% @bi_lss) ∧ (type_of% @bi_leq) ∧ (type_of% @bi_gtr) ∧ (type_of% @bi_geq) ∧ (type_of% @bs_eql) ∧ (type_of% @bs_neq) ∧ (type_of% @bs_lss) ∧ (type_of% @bs_leq) ∧ (type_of% @bs_gtr) ∧ (type_of% @bs_geq) := ⟨@nd_move, @nd_assign, @nd_pick, @nd_bin, @nd_un, @nd_nil, @nd_slice, @nd_indexAddr, @nd_index, @nd_fieldAddr, @nd_field, @nd_load, @nd_extract, @nd_makeFunc, @nd_len, @nd_min, @nd_max, @nd_alloc, @nd_box, @nd_build, @nd_store, @nd_append, @nd_call, @nd_conv, @pick_t, @pick_f, @nilS_ptr, @nilS_rptr, @extS_tup, @lenO_some, @boxS_some, @allocS_some, @putU_some, @un_not, @bi_add, @bi_sub, @bi_mul, @bi_eql, @bi_neq, @bi_lss, @bi_leq, @bi_gtr, @bi_geq, @bs_eql, @bs_neq, @bs_lss, @bs_leq, @bs_gtr, @bs_geq⟩

end Go.V
