/- The rules by which a walk is done: memory. No condition. -/
import Derived.Test.YthiglohhocelfaaVS
namespace Go.V
open Go

/-- A store of few blocks. -/
def hpL : List (Nat × Blk) → Nat → Option Blk
  | [], _ => none
  | (b, k) :: l, x => if x = b then some k else hpL l x

def killF (b : Nat) : List SV → List SV
  | [] => []
  | c :: cs => c.kill b :: killF b cs
def killH (b : Nat) : List (Nat × Blk) → List (Nat × Blk)
  | [] => []
  | (x, k) :: l => if x = b then killH b l else (x, k.kill b) :: killH b l
def setH (b : Nat) (k : Blk) : List (Nat × Blk) → List (Nat × Blk)
  | [] => [(b, k)]
  | (x, k') :: l => if x = b then (b, k) :: l else (x, k') :: setH b k l

theorem killF_eq (b : Nat) (fr : List SV) : fr.map (SV.kill b) = killF b fr := by
  induction fr with
  | nil => rfl
  | cons c cs ih => simp [killF, ih]
theorem killH_get (b : Nat) : ∀ (l : List (Nat × Blk)) (x : Nat), x ≠ b → hpL (killH b l) x = (hpL l x).map (Blk.kill b)
  | [], _, _ => rfl
  | (y, k) :: l, x, h => by
    simp only [killH]
    split
    · rename_i e; subst e; rw [killH_get y l x h]; simp [hpL, h]
    · simp only [hpL]; split <;> simp [killH_get b l x h]
theorem setH_get (b : Nat) (k : Blk) : ∀ (l : List (Nat × Blk)) (x : Nat), hpL (setH b k l) x = if x = b then some k else hpL l x
  | [], _ => rfl
  | (y, k') :: l, x => by
    simp only [setH]
    split
    · rename_i e; subst e; simp only [hpL]; split <;> rfl
    · rename_i e
      simp only [hpL, setH_get b k l x]
      split
      · rename_i e2; subst e2; rw [if_neg e]
      · rfl

theorem hset_L (l : List (Nat × Blk)) (b : Nat) (k : Blk) : hset (hpL l) b k = hpL (setH b k l) := by
  funext x; rw [setH_get]; rfl
theorem newB_L (fr : List SV) (l : List (Nat × Blk)) (b : Nat) (k : Blk) : St.newB ⟨fr, hpL l⟩ b k = ⟨killF b fr, hpL ((b, k.kill b) :: killH b l)⟩ := by
  unfold St.newB St.kill
  simp only [killF_eq, St.mk.injEq, true_and]
  funext x
  simp only [hset, hpL]
  split
  · rfl
  · rename_i h; rw [killH_get b l x h]
theorem st0_nil (args : List SV) (nt : Nat) : st0 args [] nt = ⟨args ++ List.replicate (nt - args.length) .undef, hpL []⟩ := by
  unfold st0; congr
theorem st0_one (args : List SV) (k : Blk) (nt : Nat) : st0 args [k] nt = ⟨args ++ List.replicate (nt - args.length) .undef, hpL [(0, k)]⟩ := by
  unfold st0; congr; funext x
  cases x with
  | zero => rfl
  | succ x => simp [hpL]

theorem hpL_nil (x : Nat) : hpL [] x = none := rfl
theorem hpL_cons (b : Nat) (k : Blk) (l : List (Nat × Blk)) (x : Nat) : hpL ((b, k) :: l) x = if x = b then some k else hpL l x := rfl
theorem killF_nil (b : Nat) : killF b [] = [] := rfl
theorem killF_cons (b : Nat) (c : SV) (cs : List SV) : killF b (c :: cs) = c.kill b :: killF b cs := rfl
theorem killH_nil (b : Nat) : killH b [] = [] := rfl
theorem killH_cons (b x : Nat) (k : Blk) (l : List (Nat × Blk)) : killH b ((x, k) :: l) = if x = b then killH b l else (x, k.kill b) :: killH b l := rfl
theorem setH_nil (b : Nat) (k : Blk) : setH b k [] = [(b, k)] := rfl
theorem setH_cons (b x : Nat) (k k' : Blk) (l : List (Nat × Blk)) : setH b k ((x, k') :: l) = if x = b then (b, k) :: l else (x, k') :: setH b k l := rfl
theorem kill_undef (b : Nat) : SV.kill b .undef = .undef := rfl
theorem kill_d (b : Nat) (x : D) : SV.kill b (.d x) = .d x := rfl
theorem kill_agg (b : Nat) (cs : List SV) : SV.kill b (.agg cs) = .agg (SV.killL b cs) := rfl
theorem kill_tup (b : Nat) (cs : List SV) : SV.kill b (.tup cs) = .tup (SV.killL b cs) := rfl
theorem kill_sl (b x off len : Nat) : SV.kill b (.sl x off len) = if x = b then .undef else .sl x off len := rfl
theorem kill_ptr (b x e c : Nat) : SV.kill b (.ptr x e c) = if x = b then .undef else .ptr x e c := rfl
theorem kill_rptr (b : Nat) (cs : List D) : SV.kill b (.rptr cs) = .rptr cs := rfl
theorem kill_clo (b f : Nat) (cs : List SV) : SV.kill b (.clo f cs) = .clo f (SV.killL b cs) := rfl
theorem killL_nil (b : Nat) : SV.killL b [] = [] := rfl
theorem killL_cons (b : Nat) (c : SV) (cs : List SV) : SV.killL b (c :: cs) = c.kill b :: SV.killL b cs := rfl
theorem kill_row (b s : Nat) (mv : Bool) (els : List (List D)) : Blk.kill b ⟨s, mv, .row els⟩ = ⟨s, mv, .row els⟩ := rfl
theorem kill_mix (b s : Nat) (mv : Bool) (els : List (List SV)) : Blk.kill b ⟨s, mv, .mix els⟩ = ⟨s, mv, .mix (els.map (SV.killL b))⟩ := rfl
theorem newId_eq (d : Nat) : newId d = 1000 * (d + 1) := rfl
theorem el_mix (els : List (List SV)) (e : Nat) : (BC.mix els).el? e = els[e]? := rfl
theorem el_row (els : List (List D)) (e : Nat) : (BC.row els).el? e = (els[e]?).map (·.map SV.d) := rfl
theorem setEl_mix (els : List (List SV)) (e : Nat) (cs : List SV) : (BC.mix els).setEl e cs = some (.mix (els.set e cs)) := rfl
theorem setEl_row (els : List (List D)) (e : Nat) (cs : List SV) : (BC.row els).setEl e cs = (allD cs).map fun l => .row (els.set e l) := rfl
theorem cells_agg (cs : List SV) (h : cs.all SV.one = true) : SV.cells (.agg cs) = some cs := by simp [SV.cells, h]
theorem cells_d (x : D) : SV.cells (.d x) = some [.d x] := rfl
theorem cells_ptr (b e c : Nat) : SV.cells (.ptr b e c) = some [.ptr b e c] := rfl
theorem cells_sl (b off len : Nat) : SV.cells (.sl b off len) = some [.sl b off len] := rfl
theorem cells_clo (f : Nat) (cs : List SV) : SV.cells (.clo f cs) = some [.clo f cs] := rfl
theorem cells_rptr (cs : List D) : SV.cells (.rptr cs) = some [.rptr cs] := rfl

def vy := And.intro @hset_L (And.intro @newB_L (And.intro @st0_nil (And.intro @st0_one (And.intro @hpL_nil (And.intro @hpL_cons (And.intro @killF_nil (And.intro @killF_cons (And.intro @killH_nil (And.intro @killH_cons (And.intro @setH_nil (And.intro @setH_cons
  (And.intro @kill_undef (And.intro @kill_d (And.intro @kill_agg (And.intro @kill_tup (And.intro @kill_sl (And.intro @kill_ptr (And.intro @kill_rptr (And.intro @kill_clo (And.intro @killL_nil (And.intro @killL_cons (And.intro @kill_row (And.intro @kill_mix (And.intro @newId_eq
  (And.intro @el_mix (And.intro @el_row (And.intro @setEl_mix ((And.intro @cells_d (And.intro @cells_ptr (And.intro @cells_sl (And.intro @cells_clo @cells_rptr))))))))))))))))))))))))))))))))

end Go.V
