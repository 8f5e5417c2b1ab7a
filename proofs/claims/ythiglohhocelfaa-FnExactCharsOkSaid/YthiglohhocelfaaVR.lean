/- The rules by which a walk is done. No condition. -/
import Derived.Test.YthiglohhocelfaaVQ
set_option linter.unusedVariables false
set_option linter.unusedSimpArgs false
namespace Go.V
open Go

section
variable {P : Program} {T : Tab} {n0 : Nat} (fr : List SV) (hp : Nat → Option Blk) (Q : Qs) (k : St → Prop)

theorem w_skip : W P T n0 .skip Q ⟨fr, hp⟩ = Q.n ⟨fr, hp⟩ := rfl
theorem w_label (l : Nat) : W P T n0 (.label l) Q ⟨fr, hp⟩ = Q.n ⟨fr, hp⟩ := rfl
theorem w_seq (a b : Code) : W P T n0 (.seq a b) Q ⟨fr, hp⟩ = W P T n0 a (Q.seq (W P T n0 b Q)) ⟨fr, hp⟩ := rfl
theorem w_cond (c : Operand) (a b : Code) : W P T n0 (.cond c a b) Q ⟨fr, hp⟩ = condW (ev ⟨fr, hp⟩ c) (W P T n0 a Q) (W P T n0 b Q) ⟨fr, hp⟩ := rfl
theorem w_block (id : Nat) (b : Code) : W P T n0 (.block id b) Q ⟨fr, hp⟩ = W P T n0 b (Q.blk id) ⟨fr, hp⟩ := rfl
theorem w_exit (id : Nat) : W P T n0 (.exit id) Q ⟨fr, hp⟩ = Q.x id ⟨fr, hp⟩ := rfl
theorem w_ret : W P T n0 .ret Q ⟨fr, hp⟩ = Q.r ⟨fr, hp⟩ := rfl
theorem w_region (id : Nat) (l : List Oper) : W P T n0 (.region id ⟨l⟩ false) Q ⟨fr, hp⟩ = walkW P T ⟨l⟩ l Q.n ⟨fr, hp⟩ := rfl
theorem walk_nil (ops : Array Oper) : walkW P T ops [] k ⟨fr, hp⟩ = k ⟨fr, hp⟩ := rfl
theorem walk_cons (ops : Array Oper) (o : Oper) (l : List Oper) : walkW P T ops (o :: l) k ⟨fr, hp⟩ = stepG P T o (walkW P T ops l k) ⟨fr, hp⟩ (wantS ⟨fr, hp⟩ ops o) := rfl

theorem q_seq_n (f : St → Prop) : (Q.seq f).n = f := rfl
theorem q_seq_x (f : St → Prop) : (Q.seq f).x = Q.x := rfl
theorem q_seq_r (f : St → Prop) : (Q.seq f).r = Q.r := rfl
theorem q_blk_n (id : Nat) : (Q.blk id).n = Q.n := rfl
theorem q_blk_r (id : Nat) : (Q.blk id).r = Q.r := rfl
theorem q_blk_x (id i : Nat) : (Q.blk id).x i ⟨fr, hp⟩ = if i = id then Q.n ⟨fr, hp⟩ else Q.x i ⟨fr, hp⟩ := rfl

theorem cond_true (f g : St → Prop) : condW (.d (.b true)) f g ⟨fr, hp⟩ = f ⟨fr, hp⟩ := by simp [condW]
theorem cond_false (f g : St → Prop) : condW (.d (.b false)) f g ⟨fr, hp⟩ = g ⟨fr, hp⟩ := by simp [condW]
theorem cond_split {f g : St → Prop} {st : St} (b : Bool) (h1 : b = true → f st) (h2 : b = false → g st) : condW (.d (.b b)) f g st := ⟨h1, h2⟩

theorem step_true (o : Oper) : stepG P T o k ⟨fr, hp⟩ (some true) = need (opStep P T ⟨fr, hp⟩ o) k := rfl
theorem step_false (o : Oper) : stepG P T o k ⟨fr, hp⟩ (some false) = k (St.put ⟨fr, hp⟩ o.dst (.tup [])) := rfl

theorem want_none (ops : Array Oper) (d : Option Nat) (op : Op) (t : Nat) (pos : String) (af : Array Edge) : wantS ⟨fr, hp⟩ ops ⟨d, op, t, pos, af, none⟩ = some true := rfl

/-- Is it wanted, given what the guard's slot holds? -/
def wantV (want : Bool) : SV → Option Bool
  | .d (.b x) => some (x == want)
  | .tup [] => some false
  | _ => none

theorem want_some (l : List Oper) (d : Option Nat) (op : Op) (t : Nat) (pos : String) (af : Array Edge) (j : Nat) (want : Bool) :
    wantS ⟨fr, hp⟩ ⟨l⟩ ⟨d, op, t, pos, af, some (j, want)⟩ = match (l[j]?).bind (·.dst) with | some s => wantV want (fr.getD s .undef) | none => some false := by
  simp only [wantS, List.getElem?_toArray]
  cases (l[j]?).bind (·.dst) <;> rfl

theorem wantV_true (want : Bool) : wantV want (.d (.b true)) = some want := by cases want <;> rfl
theorem wantV_false (want : Bool) : wantV want (.d (.b false)) = some (!want) := by cases want <;> rfl
theorem wantV_t (b : Bool) : wantV true (.d (.b b)) = some b := by cases b <;> rfl
theorem wantV_f (b : Bool) : wantV false (.d (.b b)) = some (!b) := by cases b <;> rfl
theorem wantV_tup (want : Bool) : wantV want (.tup []) = some false := rfl

theorem put_some (d : Nat) (v : SV) : St.put ⟨fr, hp⟩ (some d) v = ⟨fr.set d v, hp⟩ := rfl
theorem put_none (v : SV) : St.put ⟨fr, hp⟩ none v = ⟨fr, hp⟩ := rfl

theorem ev_tmp (t : Nat) : ev ⟨fr, hp⟩ (.tmp t) = fr.getD t .undef := rfl
theorem ev_func (f : Nat) : ev ⟨fr, hp⟩ (.func f) = .clo f [] := rfl
theorem ev_int (k : IntKind) (n : Int) : ev ⟨fr, hp⟩ (.const (.int k n)) = .d (.i k n) := rfl
theorem ev_bool (b : Bool) : ev ⟨fr, hp⟩ (.const (.bool b)) = .d (.b b) := rfl

end

/-- All of them. -/
theorem vx : (type_of% @w_skip) ∧ (type_of% @w_label) ∧ (type_of% @w_seq) ∧ (type_of% @w_cond) ∧ (type_of% @w_block) ∧ (type_of% @w_exit) ∧ (type_of% @w_ret) ∧ (type_of% @w_region) ∧ (type_of% @walk_nil) ∧ (type_of% @walk_cons) ∧ (type_of% @q_seq_n) ∧ (type_of% @q_seq_x) ∧ (type_of% @q_seq_r) ∧ (type_of% @q_blk_n) ∧ (type_of% @q_blk_r) ∧ (type_of% @q_blk_x) ∧ (type_of% @cond_true) ∧ (type_of% @cond_false) ∧ (type_of% @step_true) ∧ (type_of% @step_false) ∧ (type_of% @want_none) ∧ (type_of% @want_some) ∧ (type_of% @wantV_true) ∧ (type_of% @wantV_false) ∧ (type_of% @wantV_t) ∧ (type_of% @wantV_f) ∧ (type_of% @wantV_tup) ∧ (type_of% @put_some) ∧ (type_of% @put_none) ∧ (type_of% @ev_tmp) ∧ (type_of% @ev_func) ∧ (type_of% @ev_int) ∧ (type_of% @ev_bool) := ⟨@w_skip, @w_label, @w_seq, @w_cond, @w_block, @w_exit, @w_ret, @w_region, @walk_nil, @walk_cons, @q_seq_n, @q_seq_x, @q_seq_r, @q_blk_n, @q_blk_r, @q_blk_x, @cond_true, @cond_false, @step_true, @step_false, @want_none, @want_some, @wantV_true, @wantV_false, @wantV_t, @wantV_f, @wantV_tup, @put_some, @put_none, @ev_tmp, @ev_func, @ev_int, @ev_bool⟩

end Go.V
