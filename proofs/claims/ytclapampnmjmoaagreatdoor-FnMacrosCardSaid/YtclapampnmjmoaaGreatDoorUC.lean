/- A part of the proof. No condition. -/
import Derived.Test.YtclapampnmjmoaaGreatDoorUB
import Derived.Lib.Builder
import Derived.Laws.Unary
import Derived.Laws.Pointers
import Derived.Laws.Cells
import Derived.Laws.Strings
import Derived.Laws.Slices
import Derived.Laws.BytesString
import Derived.Laws.StructEq
set_option linter.unusedVariables false
set_option linter.unusedSimpArgs false
set_option linter.unusedSectionVars false
namespace Go.U
open Go
def ofVal : Value → D
  | .int k n => .i k n
  | .bool b => .b b
  | .string s => .str s.data.toList
  | .pointer none => .nilp
  | .nilIface => .er false
  | .slice none 0 0 => .emp
  | v => .val v
theorem RD.ofVal (w : World) (S : Nat → Prop) (v : Value) (h1 : v.oneCell' = true) : RD w S v (ofVal v) := by
  unfold Go.U.ofVal
  split
  · exact .i _ _
  · exact .b _
  · rename_i s; exact (show (Value.string s) = .string ⟨s.data.toList.toArray⟩ by simp) ▸ RD.str s.data.toList
  · exact .nilp
  · exact .nili
  · exact .emp
  · exact .val _ h1
inductive TD where
  | sl (e : Nat)
  | str
  | int (k : IntKind)
  | bool
  | st (fs : List (Nat × Nat × Nat))
  | arr (n e : Nat)
  | ptr (e : Nat)
  | up
  | iface
  | map (k e : Nat)
  | other
structure TI where
  td : TD
  size : Nat
  bytes : Nat
  zero : List D
  ty : Option Ty
def chainO : List (Option Ty) → Option Ty
  | [] => none
  | [a] => a
  | a :: l => match a, chainO l with | some a, some t => some (.c a t) | _, _ => none
def tyF (P : Program) : Nat → TypeId → Option Ty
  | 0, _ => none
  | n + 1, t => match P.underlying t with
    | some (.int k) => some (.i k)
    | some .bool => some .b
    | some .string => some .s
    | some (.interface _) => some .e
    | some (.slice e) => (tyF P n e).map Ty.l
    | some (.struct fs) => chainO (fs.toList.map fun f => tyF P n f.type)
    | some (.array m e) => if m ≤ 8 then chainO (List.replicate m (tyF P n e)) else none
    | _ => none
def tdOf (P : Program) : TypeDesc → TD
  | .slice e => .sl e
  | .string => .str
  | .int k => .int k
  | .bool => .bool
  | .struct fs => .st (fs.toList.map fun f => (f.offset, f.type, P.cellsOf f.type))
  | .array n e => .arr n e
  | .pointer e => .ptr e
  | .unsafePointer => .up
  | .interface _ => .iface
  | .map k e => .map k e
  | _ => .other
def tyOf (P : Program) (t : TypeId) : Option TI :=
  match P.info? t, P.underlying t with
  | some i, some d => match i.zero with
    | some z => if z.cells.toList.all Value.oneCell' && z.cells.size == i.size then some ⟨tdOf P d, i.size, i.bytes, z.cells.toList.map ofVal, tyF P 8 t⟩ else none
    | none => none
  | _, _ => none
theorem tyOf_some {P : Program} {t : TypeId} {i : TI} (h : tyOf P t = some i) :
    ∃ j d z, P.info? t = some j ∧ P.underlying t = some d ∧ (j.zero = some z ∧ (∀ u ∈ z.cells.toList, u.oneCell' = true) ∧ z.cells.size = j.size) ∧ i = ⟨tdOf P d, j.size, j.bytes, z.cells.toList.map ofVal, tyF P 8 t⟩ := by
  unfold tyOf at h
  split at h
  · rename_i j d h1 h2
    split at h
    · rename_i z hz
      split at h
      · rename_i ha
        rw [Bool.and_eq_true] at ha
        exact ⟨j, d, z, h1, h2, ⟨hz, List.all_eq_true.1 ha.1, by simpa using ha.2⟩, (Option.some.inj h).symm⟩
      · cases h
    · cases h
  · cases h
def eqOkB (P : Program) (t : TypeId) : Bool :=
  (match P.underlying t with | some (.struct gs) => gs.toList.all fun g => g.name != "_" | _ => false) && !P.stoodInHeld t && !P.eqGuardType P.depth t
structure TT (P : Program) where
  f : TypeId → Option TI
  ok : ∀ t i, f t = some i → tyOf P t = some i
  eq : TypeId → Bool
  eqOk : ∀ t, eq t = true → eqOkB P t = true
theorem TT.info {P : Program} (Y : TT P) {t : TypeId} {i : TI} (h : Y.f t = some i) :
    ∃ j d z, P.info? t = some j ∧ P.underlying t = some d ∧ (j.zero = some z ∧ (∀ u ∈ z.cells.toList, u.oneCell' = true) ∧ z.cells.size = j.size) ∧ i = ⟨tdOf P d, j.size, j.bytes, z.cells.toList.map ofVal, tyF P 8 t⟩ := tyOf_some (Y.ok t i h)
def ev (st : St) : Operand → SV
  | .tmp t => st.fr.getD t .undef
  | .const v => if v.oneCell' then .d (ofVal v) else .undef
  | .func f => if f < 1000000 then .clo f [] else .undef
  | .global _ => .undef
section
variable {P : Program} [Gl P] {X : Ctx P} {st : St} {a : Act} {w : World} {β : Nat → Option BA} {S : Nat → Prop}
theorem ev_sound (h : Rel X st a.tmps w β S) (x : Operand) : RS w β S (a.eval x) (ev st x) := by
  cases x with
  | tmp t =>
    simp only [Act.eval, ev]
    rcases Nat.lt_or_ge t a.tmps.size with hlt | hge
    · have h1 : a.tmps[t]? = some a.tmps[t] := Array.getElem?_eq_getElem hlt
      have hlt2 : t < st.fr.length := h.size ▸ hlt
      have h2 : st.fr[t]? = some st.fr[t] := List.getElem?_eq_getElem hlt2
      have := h.fr t _ _ h1 h2
      rw [Array.getD_eq_getD_getElem?, h1, List.getD_eq_getElem?_getD, h2]
      exact this
    · have hge2 : st.fr.length ≤ t := h.size ▸ hge
      rw [List.getD_eq_getElem?_getD, List.getElem?_eq_none hge2]
      exact .undef _
  | const v =>
    simp only [Act.eval, ev]
    split
    · rename_i h1; exact .d (RD.ofVal _ _ _ h1)
    · exact .undef _
  | func f =>
    simp only [Act.eval, ev]
    split
    · rename_i hf; exact .clo f #[] [] hf rfl (fun i v c h1 _ => by simp at h1)
    · exact .undef _
  | global g => exact .undef _
theorem RD.inv_i {v : Value} {k n} (h : RD w S v (.i k n)) : v = .int k n := by cases h; rfl
theorem RD.inv_b {v : Value} {x} (h : RD w S v (.b x)) : v = .bool x := by cases h; rfl
theorem RD.inv_str {v : Value} {l} (h : RD w S v (.str l)) : v = .string ⟨l.toArray⟩ := by cases h; rfl
theorem RS.inv_d {v : Value} {x} (h : RS w β S v (.d x)) : RD w S v x := by cases h; assumption
theorem RS.inv_i {v : Value} {k n} (h : RS w β S v (.d (.i k n))) : v = .int k n := h.inv_d.inv_i
theorem RS.inv_b {v : Value} {x} (h : RS w β S v (.d (.b x))) : v = .bool x := h.inv_d.inv_b
theorem RS.inv_str {v : Value} {l} (h : RS w β S v (.d (.str l))) : v = .string ⟨l.toArray⟩ := h.inv_d.inv_str
theorem RS.inv_nilp {v : Value} (h : RS w β S v (.d .nilp)) : v = .pointer none := by cases h.inv_d; rfl
theorem RS.inv_nili {v : Value} (h : RS w β S v (.d (.er false))) : v = .nilIface := by cases h.inv_d; rfl
theorem RS.inv_ife {v : Value} (h : RS w β S v (.d (.er true))) : ∃ t u, v = .iface t u := by cases h.inv_d; exact ⟨_, _, rfl⟩
def maxSum : Nat := 9223372036854775807
def binD (op : BinOp) : D → D → Option D
  | .i k x, .i k' y =>
    match op with
    | .shl => if 0 ≤ y then some (.i k (k.wrap (x * 2 ^ (min y.toNat k.bits)))) else none
    | .shr => if 0 ≤ y then some (.i k (x.fdiv (2 ^ (min y.toNat k.bits)))) else none
    | op => if k ≠ k' then none else match op with
      | .add => some (.i k (k.wrap (x + y)))
      | .sub => some (.i k (k.wrap (x - y)))
      | .mul => some (.i k (k.wrap (x * y)))
      | .quo => if y = 0 then none else some (.i k (k.wrap (x.tdiv y)))
      | .rem => if y = 0 then none else some (.i k (x.tmod y))
      | .and => some (.i k (bits .and k x y))
      | .or => some (.i k (bits .or k x y))
      | .xor => some (.i k (bits .xor k x y))
      | .andNot => some (.i k (bits .andNot k x y))
      | .eql => some (.b (decide (x = y)))
      | .neq => some (.b (!decide (x = y)))
      | .lss => some (.b (decide (x < y)))
      | .leq => some (.b (decide (x ≤ y)))
      | .gtr => some (.b (decide (y < x)))
      | .geq => some (.b (decide (y ≤ x)))
      | _ => none
  | .str x, .str y =>
    match op with
    | .add => if x.length + y.length ≤ maxSum then some (.str (x ++ y)) else none
    | .eql => some (.b (decide (x = y)))
    | .neq => some (.b (!decide (x = y)))
    | .lss => some (.b (Op.bytesLess x y))
    | .leq => some (.b (Op.bytesLess x y || decide (x = y)))
    | .gtr => some (.b (!(Op.bytesLess x y || decide (x = y))))
    | .geq => some (.b (!Op.bytesLess x y))
    | _ => none
  | _, _ => none
theorem beq_dec {α : Type} [BEq α] [LawfulBEq α] [DecidableEq α] (a b : α) : (a == b) = decide (a = b) := by rw [Bool.eq_iff_iff]; simp
theorem binD_sound {op : BinOp} {t : TypeId} {x y : Operand} {u v : Value} {p q r : D} (hu : RD w S u p) (hv : RD w S v q) (h : binD op p q = some r) :
    ∃ z, (∀ w, (do eqGuard op t x y u v; binOp op t u v : Sem Value).run P w = .ok z w) ∧ RD w S z r := by
  unfold binD at h
  split at h
  · rename_i k a k' b
    obtain rfl := hu.inv_i
    obtain rfl := hv.inv_i
    split at h
    · split at h
      · rename_i hy
        cases h
        refine ⟨_, fun w => ?_, .i _ _⟩
        have : ¬ b < 0 := by omega
        simp [eqGuard_at_int, binOp, Op.shift, this]
      · cases h
    · split at h
      · rename_i hy
        cases h
        refine ⟨_, fun w => ?_, .i _ _⟩
        have : ¬ b < 0 := by omega
        simp [eqGuard_at_int, binOp, Op.shift, this]
      · cases h
    · rename_i op n1 n2
      split at h
      · cases h
      · rename_i hk
        have hk : k = k' := by simpa using hk
        subst hk
        split at h <;> (try (split at h)) <;> first
          | (cases h; done)
          | (cases h; first
              | (refine ⟨_, fun w => ?_, .i _ _⟩; simp [eqGuard_at_int, binOp, Op.intArith, Op.intDiv, Op.intBits, bits, *]; done)
              | (refine ⟨_, fun w => ?_, .b _⟩; simp [eqGuard_at_int, binOp, Op.intCmp]; done)
              | (refine ⟨_, fun w => ?_, .b _⟩; simp [eqGuard_at_int, binOp, Op.intCmp, BEq.beq, bne]; done))
  · rename_i a b
    obtain rfl := hu.inv_str
    obtain rfl := hv.inv_str
    split at h
    · split at h
      · rename_i hs
        cases h
        refine ⟨_, fun w => ?_, .str _⟩
        have := run_string_add_sum (P := P) w ⟨a.toArray⟩ ⟨b.toArray⟩ (by simpa [ByteArray.size, maxSum] using hs)
        simp [eqGuard_at_string, binOp, this, ByteArray.mk_append_mk]
      · cases h
    all_goals first
      | (cases h; done)
      | (cases h; refine ⟨_, fun w => ?_, .b _⟩; simp only [eqGuard_at_string, binOp, Op.stringOp, ByteArray.toList_mk, beq_dec]; simp; done)
  · cases h
def eqS (ty : Option TD) (known : Nat → Bool) : SV → SV → Option Bool
  | .d (.b x), .d (.b y) => match ty with | some .bool => some (decide (x = y)) | _ => none
  | .d .nilp, .d .nilp => match ty with | some (.ptr _) => some true | _ => none
  | .ptr _ _ _, .d .nilp => match ty with | some (.ptr _) => some false | _ => none
  | .ptr b e c, .ptr b' e' c' => match ty with | some (.ptr t) => if b = b' ∧ e = e' ∧ c = c' ∧ known t = true then some true else none | _ => none
  | .rptr _, .d .nilp => match ty with | some (.ptr _) => some false | _ => none
  | .d (.er x), .d (.er false) => match ty with | some .iface => some (!x) | _ => none
  | _, _ => none
theorem td_bool {d : TypeDesc} (h : tdOf P d = .bool) : d = .bool := by cases d <;> simp [tdOf] at h; rfl
theorem td_ptr {d : TypeDesc} {e} (h : tdOf P d = .ptr e) : d = .pointer e := by cases d <;> simp [tdOf] at h; subst h; rfl
theorem td_up {d : TypeDesc} (h : tdOf P d = .up) : d = .unsafePointer := by cases d <;> simp [tdOf] at h; rfl
theorem td_iface {d : TypeDesc} (h : tdOf P d = .iface) : ∃ ms, d = .interface ms := by cases d <;> simp [tdOf] at h; exact ⟨_, rfl⟩
theorem td_sl {d : TypeDesc} {e} (h : tdOf P d = .sl e) : d = .slice e := by cases d <;> simp [tdOf] at h; subst h; rfl
theorem td_map {d : TypeDesc} {k e} (h : tdOf P d = .map k e) : d = .map k e := by cases d <;> simp [tdOf] at h; obtain ⟨rfl, rfl⟩ := h; rfl
theorem td_str {d : TypeDesc} (h : tdOf P d = .str) : d = .string := by cases d <;> simp [tdOf] at h; rfl
theorem td_int {d : TypeDesc} {k} (h : tdOf P d = .int k) : d = .int k := by cases d <;> simp [tdOf] at h; subst h; rfl
theorem td_arr {d : TypeDesc} {n e} (h : tdOf P d = .arr n e) : d = .array n e := by cases d <;> simp [tdOf] at h; obtain ⟨rfl, rfl⟩ := h; rfl
theorem td_st {d : TypeDesc} {fs} (h : tdOf P d = .st fs) : ∃ gs, d = .struct gs ∧ fs = gs.toList.map fun f => (f.offset, f.type, P.cellsOf f.type) := by
  cases d <;> simp [tdOf] at h; exact ⟨_, rfl, h.symm⟩
def tdAt {P : Program} (Y : TT P) (t : TypeId) : Option TD := (Y.f t).map (·.td)
theorem tdAt_some {Y : TT P} {t : TypeId} {d : TD} (h : tdAt Y t = some d) : ∃ d', P.underlying t = some d' ∧ tdOf P d' = d := by
  unfold tdAt at h
  cases h1 : Y.f t with
  | none => rw [h1] at h; cases h
  | some i =>
    rw [h1] at h; cases h
    obtain ⟨j, d', z, _, h2, _, rfl⟩ := Y.info h1
    exact ⟨d', h2, rfl⟩
theorem equal_of {t : TypeId} {u v : Value} {r : Bool} (h : ∀ d, (Op.equalIn (d + 1) t u v).run P w = .ok r w) : (Op.equal t u v).run P w = .ok r w := h 9999
theorem eq_both {t : TypeId} {x y : Operand} {u v : Value} {r : Bool} (hg : ∀ op, eqGuard op t x y u v = pure ()) (h1 : binOp .eql t u v = (do pure (.bool (← Op.equal t u v)))) (h2 : binOp .neq t u v = (do pure (.bool (!(← Op.equal t u v)))))
    (h : ∀ d, (Op.equalIn (d + 1) t u v).run P w = .ok r w) :
    (do eqGuard .eql t x y u v; binOp .eql t u v : Sem Value).run P w = .ok (.bool r) w ∧ (do eqGuard .neq t x y u v; binOp .neq t u v : Sem Value).run P w = .ok (.bool (!r)) w := by
  have he := equal_of h
  rw [hg, hg, h1, h2]
  constructor
  · simp only [pure_bind, Sem.run_bind, he, Result.andThen_ok, Sem.run_pure]
  · simp only [pure_bind, Sem.run_bind, he, Result.andThen_ok, Sem.run_pure]
theorem eqS_sound {Y : TT P} {t : TypeId} {x y : Operand} {u v : Value} {p q : SV} {r : Bool} (hu : RS w β S u p) (hv : RS w β S v q) (h : eqS (tdAt Y t) (fun t => (Y.f t).isSome) p q = some r)
    (hy : p = .d (.er false) → q = .d (.er false) → ∃ c, y = .const c) :
    ∀ w, (do eqGuard .eql t x y u v; binOp .eql t u v : Sem Value).run P w = .ok (.bool r) w ∧ (do eqGuard .neq t x y u v; binOp .neq t u v : Sem Value).run P w = .ok (.bool (!r)) w := by
  intro w'
  unfold eqS at h
  split at h
  · split at h
    · rename_i a b _ ht
      cases h
      obtain ⟨d', h1, h2⟩ := tdAt_some ht
      have := td_bool h2; subst this
      obtain rfl := hu.inv_b
      obtain rfl := hv.inv_b
      exact eq_both (fun op => eqGuard_at_bool op t x y _ _) rfl rfl fun d => by simp only [Op.equalIn, Sem.run_bind, run_underlying h1, Result.andThen_ok, Sem.run_pure, beq_dec]
    · cases h
  · split at h
    · rename_i e ht
      cases h
      obtain ⟨d', h1, h2⟩ := tdAt_some ht
      have := td_ptr h2; subst this
      obtain rfl := hu.inv_nilp
      obtain rfl := hv.inv_nilp
      exact eq_both (fun op => eqGuard_at_pointer op t x y _ _) rfl rfl fun d => by simp only [Op.equalIn, Sem.run_bind, run_underlying h1, Result.andThen_ok, Sem.run_pure]; rfl
    · cases h
  · split at h
    · rename_i e ht
      cases h
      obtain ⟨d', h1, h2⟩ := tdAt_some ht
      have := td_ptr h2; subst this
      cases hu
      obtain rfl := hv.inv_nilp
      exact eq_both (fun op => eqGuard_at_pointer op t x y _ _) rfl rfl fun d => by simp only [Op.equalIn, Sem.run_bind, run_underlying h1, Result.andThen_ok, Sem.run_pure]
    · cases h
  · split at h
    · rename_i t' ht
      split at h
      · rename_i hc
        cases h
        obtain ⟨rfl, rfl, rfl, hkn⟩ := hc
        obtain ⟨d', h1, h2⟩ := tdAt_some ht
        have := td_ptr h2; subst this
        obtain ⟨i, hi⟩ := Option.isSome_iff_exists.1 hkn
        obtain ⟨j, d', z, hj, _⟩ := Y.info hi
        cases hu with
        | ptr b e c ba hb =>
          cases hv with
          | ptr b e c ba' hb' =>
            rw [hb] at hb'; cases hb'
            exact eq_both (fun op => eqGuard_at_pointer op t x y _ _) rfl rfl fun d => by
              simp [Op.equalIn, run_underlying h1, sizeOf, typeInfo, hj, Go.run_sameAddr_same]
      · cases h
    · cases h
  · split at h
    · rename_i e ht
      cases h
      obtain ⟨d', h1, h2⟩ := tdAt_some ht
      have := td_ptr h2; subst this
      cases hu
      obtain rfl := hv.inv_nilp
      exact eq_both (fun op => eqGuard_at_pointer op t x y _ _) rfl rfl fun d => by simp only [Op.equalIn, Sem.run_bind, run_underlying h1, Result.andThen_ok, Sem.run_pure]
    · cases h
  · rename_i x
    split at h
    · rename_i ht
      cases h
      obtain ⟨d', h1, h2⟩ := tdAt_some ht
      obtain ⟨ms, rfl⟩ := td_iface h2
      obtain rfl := hv.inv_nili
      cases x with
      | false =>
        obtain rfl := hu.inv_nili
        obtain ⟨c, rfl⟩ := hy rfl rfl
        exact eq_both (fun op => eqGuard_nil_constR op t x c) rfl rfl fun d => by simp only [Op.equalIn, Sem.run_bind, run_underlying h1, Result.andThen_ok, Sem.run_pure, Bool.not_false]
      | true =>
        obtain ⟨t', u', rfl⟩ := hu.inv_ife
        exact eq_both (fun op => eqGuard_at_iface op t x y _ _ _) rfl rfl fun d => by simp only [Op.equalIn, Sem.run_bind, run_underlying h1, Result.andThen_ok, Sem.run_pure, Bool.not_true]
    · cases h
  · cases h
end
end Go.U
