/- The rules by which a walk is done: memory. No condition. -/
import Derived.Test.YthiglohhocelfaaVS
set_option linter.unusedVariables false
set_option linter.unusedSimpArgs false
namespace Go.V
open Go

/-- A store of few blocks. -/
def hpL : List (Nat × Blk) → Nat → Option Blk
  | [], _ => none
  | (b, k) :: l, x => if x = b then some k else hpL l x

def killF (b : Nat) : List SV → List SV
  | [] => []
  | c :: cs => c.kill b :: killF b cs
def killH (b : Nat) : List (Nat × Blk) → List (Nat × Blk)
  | [] => []
  | (x, k) :: l => if x = b then killH b l else (x, k.kill b) :: killH b l
def setH (b : Nat) (k : Blk) : List (Nat × Blk) → List (Nat × Blk)
  | [] => [(b, k)]
  | (x, k') :: l => if x = b then (b, k) :: l else (x, k') :: setH b k l

theorem killF_eq (b : Nat) (fr : List SV) : fr.map (SV.kill b) = killF b fr := by
  induction fr with
  | nil => rfl
  | cons c cs ih => simp [killF, ih]
theorem killH_get (b : Nat) : ∀ (l : List (Nat × Blk)) (x : Nat), x ≠ b → hpL (killH b l) x = (hpL l x).map (Blk.kill b)
  | [], _, _ => rfl
  | (y, k) :: l, x, h => by
    simp only [killH]
    split
    · rename_i e; subst e; rw [killH_get y l x h]; simp [hpL, h]
    · simp only [hpL]; split <;> simp [killH_get b l x h]
theorem setH_get (b : Nat) (k : Blk) : ∀ (l : List (Nat × Blk)) (x : Nat), hpL (setH b k l) x = if x = b then some k else hpL l x
  | [], _ => rfl
  | (y, k') :: l, x => by
    simp only [setH]
    split
    · rename_i e; subst e; simp only [hpL]; split <;> rfl
    · rename_i e
      simp only [hpL, setH_get b k l x]
      split
      · rename_i e2; subst e2; rw [if_neg e]
      · rfl

theorem hset_L (l : List (Nat × Blk)) (b : Nat) (k : Blk) : hset (hpL l) b k = hpL (setH b k l) := by
  funext x; rw [setH_get]; rfl
theorem newB_L (fr : List SV) (l : List (Nat × Blk)) (b : Nat) (k : Blk) : St.newB ⟨fr, hpL l⟩ b k = ⟨killF b fr, hpL ((b, k.kill b) :: killH b l)⟩ := by
  unfold St.newB St.kill
  simp only [killF_eq, St.mk.injEq, true_and]
  funext x
  simp only [hset, hpL]
  split
  · rfl
  · rename_i h; rw [killH_get b l x h]
theorem st0_nil (args : List SV) (nt : Nat) : st0 args [] nt = ⟨args ++ List.replicate (nt - args.length) .undef, hpL []⟩ := by
  unfold st0; congr
theorem st0_one (args : List SV) (k : Blk) (nt : Nat) : st0 args [k] nt = ⟨args ++ List.replicate (nt - args.length) .undef, hpL [(0, k)]⟩ := by
  unfold st0; congr; funext x
  cases x with
  | zero => rfl
  | succ x => simp [hpL]

theorem hpL_nil (x : Nat) : hpL [] x = none := rfl
theorem hpL_cons (b : Nat) (k : Blk) (l : List (Nat × Blk)) (x : Nat) : hpL ((b, k) :: l) x = if x = b then some k else hpL l x := rfl
theorem killF_nil (b : Nat) : killF b [] = [] := rfl
theorem killF_cons (b : Nat) (c : SV) (cs : List SV) : killF b (c :: cs) = c.kill b :: killF b cs := rfl
theorem killH_nil (b : Nat) : killH b [] = [] := rfl
theorem killH_cons (b x : Nat) (k : Blk) (l : List (Nat × Blk)) : killH b ((x, k) :: l) = if x = b then killH b l else (x, k.kill b) :: killH b l := rfl
theorem setH_nil (b : Nat) (k : Blk) : setH b k [] = [(b, k)] := rfl
theorem setH_cons (b x : Nat) (k k' : Blk) (l : List (Nat × Blk)) : setH b k ((x, k') :: l) = if x = b then (b, k) :: l else (x, k') :: setH b k l := rfl
theorem kill_undef (b : Nat) : SV.kill b .undef = .undef := rfl
theorem kill_d (b : Nat) (x : D) : SV.kill b (.d x) = .d x := rfl
theorem kill_agg (b : Nat) (cs : List SV) : SV.kill b (.agg cs) = .agg (SV.killL b cs) := rfl
theorem kill_tup (b : Nat) (cs : List SV) : SV.kill b (.tup cs) = .tup (SV.killL b cs) := rfl
theorem kill_sl (b x off len : Nat) : SV.kill b (.sl x off len) = if x = b then .undef else .sl x off len := rfl
theorem kill_ptr (b x e c : Nat) : SV.kill b (.ptr x e c) = if x = b then .undef else .ptr x e c := rfl
theorem kill_rptr (b : Nat) (cs : List D) : SV.kill b (.rptr cs) = .rptr cs := rfl
theorem kill_clo (b f : Nat) (cs : List SV) : SV.kill b (.clo f cs) = .clo f (SV.killL b cs) := rfl
theorem killL_nil (b : Nat) : SV.killL b [] = [] := rfl
theorem killL_cons (b : Nat) (c : SV) (cs : List SV) : SV.killL b (c :: cs) = c.kill b :: SV.killL b cs := rfl
theorem kill_row (b s : Nat) (mv : Bool) (els : List (List D)) : Blk.kill b ⟨s, mv, .row els⟩ = ⟨s, mv, .row els⟩ := rfl
theorem kill_mix (b s : Nat) (mv : Bool) (els : List (List SV)) : Blk.kill b ⟨s, mv, .mix els⟩ = ⟨s, mv, .mix (els.map (SV.killL b))⟩ := rfl
theorem newId_eq (d : Nat) : newId d = 1000 * (d + 1) := rfl
theorem el_mix (els : List (List SV)) (e : Nat) : (BC.mix els).el? e = els[e]? := rfl
theorem el_row (els : List (List D)) (e : Nat) : (BC.row els).el? e = (els[e]?).map (·.map SV.d) := rfl
theorem setEl_mix (els : List (List SV)) (e : Nat) (cs : List SV) : (BC.mix els).setEl e cs = some (.mix (els.set e cs)) := rfl
theorem setEl_row (els : List (List D)) (e : Nat) (cs : List SV) : (BC.row els).setEl e cs = (allD cs).map fun l => .row (els.set e l) := rfl
theorem cells_agg (cs : List SV) (h : cs.all SV.one = true) : SV.cells (.agg cs) = some cs := by simp [SV.cells, h]
theorem cells_d (x : D) : SV.cells (.d x) = some [.d x] := rfl
theorem cells_ptr (b e c : Nat) : SV.cells (.ptr b e c) = some [.ptr b e c] := rfl
theorem cells_sl (b off len : Nat) : SV.cells (.sl b off len) = some [.sl b off len] := rfl
theorem cells_clo (f : Nat) (cs : List SV) : SV.cells (.clo f cs) = some [.clo f cs] := rfl
theorem cells_rptr (cs : List D) : SV.cells (.rptr cs) = some [.rptr cs] := rfl

theorem vy : (type_of% @hset_L) ∧ (type_of% @newB_L) ∧ (type_of% @st0_nil) ∧ (type_of% @st0_one) ∧ (type_of% @hpL_nil) ∧ (type_of% @hpL_cons) ∧ (type_of% @killF_nil) ∧ (type_of% @killF_cons) ∧ (type_of% @killH_nil) ∧ (type_of% @killH_cons) ∧ (type_of% @setH_nil) ∧ (type_of% @setH_cons) ∧ (type_of% @kill_undef) ∧ (type_of% @kill_d) ∧ (type_of% @kill_agg) ∧ (type_of% @kill_tup) ∧ (type_of% @kill_sl) ∧ (type_of% @kill_ptr) ∧ (type_of% @kill_rptr) ∧ (type_of% @kill_clo) ∧ (type_of% @killL_nil) ∧ (type_of% @killL_cons) ∧ (type_of% @kill_row) ∧ (type_of% @kill_mix) ∧ (type_of% @newId_eq) ∧ (type_of% @el_mix) ∧ (type_of% @el_row) ∧ (type_of% @setEl_mix) ∧ (type_of% @cells_d) ∧ (type_of% @cells_ptr) ∧ (type_of% @cells_sl) ∧ (type_of% @cells_clo) ∧ (type_of% @cells_rptr) := ⟨@hset_L, @newB_L, @st0_nil, @st0_one, @hpL_nil, @hpL_cons, @killF_nil, @killF_cons, @killH_nil, @killH_cons, @setH_nil, @setH_cons, @kill_undef, @kill_d, @kill_agg, @kill_tup, @kill_sl, @kill_ptr, @kill_rptr, @kill_clo, @killL_nil, @killL_cons, @kill_row, @kill_mix, @newId_eq, @el_mix, @el_row, @setEl_mix, @cells_d, @cells_ptr, @cells_sl, @cells_clo, @cells_rptr⟩

end Go.V
