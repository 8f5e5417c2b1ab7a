/- A part of the proof. No condition. -/
import Derived.Test.YtncclmpabjglmaaGreatDoorP2
set_option linter.unusedVariables false
set_option linter.unusedSimpArgs false
set_option linter.unusedSectionVars false
namespace Go.U.Tryz
open Go Go.U
set_option maxRecDepth 20000
def setA (w : WT) (v : Int) : WT := (v, w.2)
def setF (w : WT) (v : Int) : WT := (w.1, v, w.2.2)
def setAF (w : WT) (u v : Int) : WT := (u, v, w.2.2)
def setBC (w : WT) (u v : Int) : WT := (w.1, w.2.1, u, v, w.2.2.2.2)
def setDE (w : WT) (u v : Int) : WT := (w.1, w.2.1, w.2.2.1, w.2.2.2.1, u, v, w.2.2.2.2.2.2)
def setHL (w : WT) (u v : Int) : WT := (w.1, w.2.1, w.2.2.1, w.2.2.2.1, w.2.2.2.2.1, w.2.2.2.2.2.1, u, v, w.2.2.2.2.2.2.2.2)
def setSp (w : WT) (v : Int) : WT := (w.1, w.2.1, w.2.2.1, w.2.2.2.1, w.2.2.2.2.1, w.2.2.2.2.2.1, w.2.2.2.2.2.2.1, w.2.2.2.2.2.2.2.1, v, w.2.2.2.2.2.2.2.2.2)
def setCyc (w : WT) (v : Int) : WT := (w.1, w.2.1, w.2.2.1, w.2.2.2.1, w.2.2.2.2.1, w.2.2.2.2.2.1, w.2.2.2.2.2.2.1, w.2.2.2.2.2.2.2.1, w.2.2.2.2.2.2.2.2.1, w.2.2.2.2.2.2.2.2.2.1, w.2.2.2.2.2.2.2.2.2.2.1, w.2.2.2.2.2.2.2.2.2.2.2.1, w.2.2.2.2.2.2.2.2.2.2.2.2.1, w.2.2.2.2.2.2.2.2.2.2.2.2.2.1, w.2.2.2.2.2.2.2.2.2.2.2.2.2.2.1, w.2.2.2.2.2.2.2.2.2.2.2.2.2.2.2.1, w.2.2.2.2.2.2.2.2.2.2.2.2.2.2.2.2.1, w.2.2.2.2.2.2.2.2.2.2.2.2.2.2.2.2.2.1, w.2.2.2.2.2.2.2.2.2.2.2.2.2.2.2.2.2.2.1, w.2.2.2.2.2.2.2.2.2.2.2.2.2.2.2.2.2.2.2.1, w.2.2.2.2.2.2.2.2.2.2.2.2.2.2.2.2.2.2.2.2.1, w.2.2.2.2.2.2.2.2.2.2.2.2.2.2.2.2.2.2.2.2.2.1, v, w.2.2.2.2.2.2.2.2.2.2.2.2.2.2.2.2.2.2.2.2.2.2.2)
def setPc (w : WT) (v : Int) : WT := (w.1, w.2.1, w.2.2.1, w.2.2.2.1, w.2.2.2.2.1, w.2.2.2.2.2.1, w.2.2.2.2.2.2.1, w.2.2.2.2.2.2.2.1, w.2.2.2.2.2.2.2.2.1, v, w.2.2.2.2.2.2.2.2.2.2)
theorem F231_sp (K : Nat) (w : WT) (s a v : Int) : F231 K (w.1, w.2.1, w.2.2.1, w.2.2.2.1, w.2.2.2.2.1, w.2.2.2.2.2.1, w.2.2.2.2.2.2.1, w.2.2.2.2.2.2.2.1, s, w.2.2.2.2.2.2.2.2.2.1, w.2.2.2.2.2.2.2.2.2.2.1, w.2.2.2.2.2.2.2.2.2.2.2.1, w.2.2.2.2.2.2.2.2.2.2.2.2.1, w.2.2.2.2.2.2.2.2.2.2.2.2.2.1, w.2.2.2.2.2.2.2.2.2.2.2.2.2.2.1, w.2.2.2.2.2.2.2.2.2.2.2.2.2.2.2.1, w.2.2.2.2.2.2.2.2.2.2.2.2.2.2.2.2.1, w.2.2.2.2.2.2.2.2.2.2.2.2.2.2.2.2.2.1, w.2.2.2.2.2.2.2.2.2.2.2.2.2.2.2.2.2.2.1, w.2.2.2.2.2.2.2.2.2.2.2.2.2.2.2.2.2.2.2.1, w.2.2.2.2.2.2.2.2.2.2.2.2.2.2.2.2.2.2.2.2.1, w.2.2.2.2.2.2.2.2.2.2.2.2.2.2.2.2.2.2.2.2.2.1, w.2.2.2.2.2.2.2.2.2.2.2.2.2.2.2.2.2.2.2.2.2.2.1, a, v) = bindO (F231 K (w.1, w.2.1, w.2.2.1, w.2.2.2.1, w.2.2.2.2.1, w.2.2.2.2.2.1, w.2.2.2.2.2.2.1, w.2.2.2.2.2.2.2.1, w.2.2.2.2.2.2.2.2.1, w.2.2.2.2.2.2.2.2.2.1, w.2.2.2.2.2.2.2.2.2.2.1, w.2.2.2.2.2.2.2.2.2.2.2.1, w.2.2.2.2.2.2.2.2.2.2.2.2.1, w.2.2.2.2.2.2.2.2.2.2.2.2.2.1, w.2.2.2.2.2.2.2.2.2.2.2.2.2.2.1, w.2.2.2.2.2.2.2.2.2.2.2.2.2.2.2.1, w.2.2.2.2.2.2.2.2.2.2.2.2.2.2.2.2.1, w.2.2.2.2.2.2.2.2.2.2.2.2.2.2.2.2.2.1, w.2.2.2.2.2.2.2.2.2.2.2.2.2.2.2.2.2.2.1, w.2.2.2.2.2.2.2.2.2.2.2.2.2.2.2.2.2.2.2.1, w.2.2.2.2.2.2.2.2.2.2.2.2.2.2.2.2.2.2.2.2.1, w.2.2.2.2.2.2.2.2.2.2.2.2.2.2.2.2.2.2.2.2.2.1, w.2.2.2.2.2.2.2.2.2.2.2.2.2.2.2.2.2.2.2.2.2.2.1, a, v)) fun r => some (r.1, r.2.1, r.2.2.1, r.2.2.2.1, r.2.2.2.2.1, r.2.2.2.2.2.1, r.2.2.2.2.2.2.1, r.2.2.2.2.2.2.2.1, s, r.2.2.2.2.2.2.2.2.2) := by
  unfold F231
  dsimp only
  simp only [F87_in, bindO_s]
  cases inR a 49152 49407 with
  | true => simp only [branch_t, bind_bind, bindO_s]
  | false =>
    simp only [branch_f]
    cases inR a 65408 65534 with
    | true => simp only [branch_t, bind_bind, bindO_s]
    | false =>
      simp only [branch_f]
      cases decide (a = 65281) with
      | true =>
        simp only [branch_t]
        cases decide ((w.2.2.2.2.2.2.2.2.2.2.2.2.2.2.2.2.2.2.2.2.2.1.length : Int) = 100) with
        | true => rfl
        | false => simp only [branch_f, bind_guard]; rfl
      | false => simp only [branch_f, bind_bind, bindO_s]
theorem F231_f (K : Nat) (w : WT) (s a v : Int) : F231 K (w.1, s, w.2.2.1, w.2.2.2.1, w.2.2.2.2.1, w.2.2.2.2.2.1, w.2.2.2.2.2.2.1, w.2.2.2.2.2.2.2.1, w.2.2.2.2.2.2.2.2.1, w.2.2.2.2.2.2.2.2.2.1, w.2.2.2.2.2.2.2.2.2.2.1, w.2.2.2.2.2.2.2.2.2.2.2.1, w.2.2.2.2.2.2.2.2.2.2.2.2.1, w.2.2.2.2.2.2.2.2.2.2.2.2.2.1, w.2.2.2.2.2.2.2.2.2.2.2.2.2.2.1, w.2.2.2.2.2.2.2.2.2.2.2.2.2.2.2.1, w.2.2.2.2.2.2.2.2.2.2.2.2.2.2.2.2.1, w.2.2.2.2.2.2.2.2.2.2.2.2.2.2.2.2.2.1, w.2.2.2.2.2.2.2.2.2.2.2.2.2.2.2.2.2.2.1, w.2.2.2.2.2.2.2.2.2.2.2.2.2.2.2.2.2.2.2.1, w.2.2.2.2.2.2.2.2.2.2.2.2.2.2.2.2.2.2.2.2.1, w.2.2.2.2.2.2.2.2.2.2.2.2.2.2.2.2.2.2.2.2.2.1, w.2.2.2.2.2.2.2.2.2.2.2.2.2.2.2.2.2.2.2.2.2.2.1, a, v) = bindO (F231 K (w.1, w.2.1, w.2.2.1, w.2.2.2.1, w.2.2.2.2.1, w.2.2.2.2.2.1, w.2.2.2.2.2.2.1, w.2.2.2.2.2.2.2.1, w.2.2.2.2.2.2.2.2.1, w.2.2.2.2.2.2.2.2.2.1, w.2.2.2.2.2.2.2.2.2.2.1, w.2.2.2.2.2.2.2.2.2.2.2.1, w.2.2.2.2.2.2.2.2.2.2.2.2.1, w.2.2.2.2.2.2.2.2.2.2.2.2.2.1, w.2.2.2.2.2.2.2.2.2.2.2.2.2.2.1, w.2.2.2.2.2.2.2.2.2.2.2.2.2.2.2.1, w.2.2.2.2.2.2.2.2.2.2.2.2.2.2.2.2.1, w.2.2.2.2.2.2.2.2.2.2.2.2.2.2.2.2.2.1, w.2.2.2.2.2.2.2.2.2.2.2.2.2.2.2.2.2.2.1, w.2.2.2.2.2.2.2.2.2.2.2.2.2.2.2.2.2.2.2.1, w.2.2.2.2.2.2.2.2.2.2.2.2.2.2.2.2.2.2.2.2.1, w.2.2.2.2.2.2.2.2.2.2.2.2.2.2.2.2.2.2.2.2.2.1, w.2.2.2.2.2.2.2.2.2.2.2.2.2.2.2.2.2.2.2.2.2.2.1, a, v)) fun r => some (r.1, s, r.2.2) := by
  unfold F231
  dsimp only
  simp only [F87_in, bindO_s]
  cases inR a 49152 49407 with
  | true => simp only [branch_t, bind_bind, bindO_s]
  | false =>
    simp only [branch_f]
    cases inR a 65408 65534 with
    | true => simp only [branch_t, bind_bind, bindO_s]
    | false =>
      simp only [branch_f]
      cases decide (a = 65281) with
      | true =>
        simp only [branch_t]
        cases decide ((w.2.2.2.2.2.2.2.2.2.2.2.2.2.2.2.2.2.2.2.2.2.1.length : Int) = 100) with
        | true => rfl
        | false => simp only [branch_f, bind_guard]; rfl
      | false => simp only [branch_f, bind_bind, bindO_s]
theorem F163_sp (K : Nat) (w : WT) (s a v : Int) : F163 K (a, v, setSp w s) = bindO (F163 K (a, v, w)) fun r => some (setSp r s) := by
  unfold F163
  refine (congrArg (fun z => bindO z _) (F231_sp K w s (Int.tmod a 65536) v)).trans ?_
  simp only [bind_bind, bindO_s, setSp]
  congr 1
  funext r
  generalize w.2.2.2.2.2.2.2.2.2.2.2.2.2.2.2.2.2.2.2.2.2.2.2 = q
  cases q <;> rfl
theorem F163_f (K : Nat) (w : WT) (s a v : Int) : F163 K (a, v, setF w s) = bindO (F163 K (a, v, w)) fun r => some (setF r s) := by
  unfold F163
  refine (congrArg (fun z => bindO z _) (F231_f K w s (Int.tmod a 65536) v)).trans ?_
  simp only [bind_bind, bindO_s, setF]
  congr 1
  funext r
  generalize w.2.2.2.2.2.2.2.2.2.2.2.2.2.2.2.2.2.2.2.2.2.2.2 = q
  cases q <;> rfl
theorem F231_hl (K : Nat) (w : WT) (s t a v : Int) : F231 K (w.1, w.2.1, w.2.2.1, w.2.2.2.1, w.2.2.2.2.1, w.2.2.2.2.2.1, s, t, w.2.2.2.2.2.2.2.2.1, w.2.2.2.2.2.2.2.2.2.1, w.2.2.2.2.2.2.2.2.2.2.1, w.2.2.2.2.2.2.2.2.2.2.2.1, w.2.2.2.2.2.2.2.2.2.2.2.2.1, w.2.2.2.2.2.2.2.2.2.2.2.2.2.1, w.2.2.2.2.2.2.2.2.2.2.2.2.2.2.1, w.2.2.2.2.2.2.2.2.2.2.2.2.2.2.2.1, w.2.2.2.2.2.2.2.2.2.2.2.2.2.2.2.2.1, w.2.2.2.2.2.2.2.2.2.2.2.2.2.2.2.2.2.1, w.2.2.2.2.2.2.2.2.2.2.2.2.2.2.2.2.2.2.1, w.2.2.2.2.2.2.2.2.2.2.2.2.2.2.2.2.2.2.2.1, w.2.2.2.2.2.2.2.2.2.2.2.2.2.2.2.2.2.2.2.2.1, w.2.2.2.2.2.2.2.2.2.2.2.2.2.2.2.2.2.2.2.2.2.1, w.2.2.2.2.2.2.2.2.2.2.2.2.2.2.2.2.2.2.2.2.2.2.1, a, v) = bindO (F231 K (w.1, w.2.1, w.2.2.1, w.2.2.2.1, w.2.2.2.2.1, w.2.2.2.2.2.1, w.2.2.2.2.2.2.1, w.2.2.2.2.2.2.2.1, w.2.2.2.2.2.2.2.2.1, w.2.2.2.2.2.2.2.2.2.1, w.2.2.2.2.2.2.2.2.2.2.1, w.2.2.2.2.2.2.2.2.2.2.2.1, w.2.2.2.2.2.2.2.2.2.2.2.2.1, w.2.2.2.2.2.2.2.2.2.2.2.2.2.1, w.2.2.2.2.2.2.2.2.2.2.2.2.2.2.1, w.2.2.2.2.2.2.2.2.2.2.2.2.2.2.2.1, w.2.2.2.2.2.2.2.2.2.2.2.2.2.2.2.2.1, w.2.2.2.2.2.2.2.2.2.2.2.2.2.2.2.2.2.1, w.2.2.2.2.2.2.2.2.2.2.2.2.2.2.2.2.2.2.1, w.2.2.2.2.2.2.2.2.2.2.2.2.2.2.2.2.2.2.2.1, w.2.2.2.2.2.2.2.2.2.2.2.2.2.2.2.2.2.2.2.2.1, w.2.2.2.2.2.2.2.2.2.2.2.2.2.2.2.2.2.2.2.2.2.1, w.2.2.2.2.2.2.2.2.2.2.2.2.2.2.2.2.2.2.2.2.2.2.1, a, v)) fun r => some (r.1, r.2.1, r.2.2.1, r.2.2.2.1, r.2.2.2.2.1, r.2.2.2.2.2.1, s, t, r.2.2.2.2.2.2.2.2) := by
  unfold F231
  dsimp only
  simp only [F87_in, bindO_s]
  cases inR a 49152 49407 with
  | true => simp only [branch_t, bind_bind, bindO_s]
  | false =>
    simp only [branch_f]
    cases inR a 65408 65534 with
    | true => simp only [branch_t, bind_bind, bindO_s]
    | false =>
      simp only [branch_f]
      cases decide (a = 65281) with
      | true =>
        simp only [branch_t]
        cases decide ((w.2.2.2.2.2.2.2.2.2.2.2.2.2.2.2.2.2.2.2.2.2.1.length : Int) = 100) with
        | true => rfl
        | false => simp only [branch_f, bind_guard]; rfl
      | false => simp only [branch_f, bind_bind, bindO_s]
theorem F163_setHL (K : Nat) (w : WT) (s t a v : Int) : F163 K (a, v, setHL w s t) = bindO (F163 K (a, v, w)) fun r => some (setHL r s t) := by
  unfold F163
  refine (congrArg (fun z => bindO z _) (F231_hl K w s t (Int.tmod a 65536) v)).trans ?_
  simp only [bind_bind, bindO_s, setHL]
  congr 1
  funext r
  generalize w.2.2.2.2.2.2.2.2.2.2.2.2.2.2.2.2.2.2.2.2.2.2.2 = q
  cases q <;> rfl
theorem F231_cyc (K : Nat) (w : WT) (s a v : Int) : F231 K (w.1, w.2.1, w.2.2.1, w.2.2.2.1, w.2.2.2.2.1, w.2.2.2.2.2.1, w.2.2.2.2.2.2.1, w.2.2.2.2.2.2.2.1, w.2.2.2.2.2.2.2.2.1, w.2.2.2.2.2.2.2.2.2.1, w.2.2.2.2.2.2.2.2.2.2.1, w.2.2.2.2.2.2.2.2.2.2.2.1, w.2.2.2.2.2.2.2.2.2.2.2.2.1, w.2.2.2.2.2.2.2.2.2.2.2.2.2.1, w.2.2.2.2.2.2.2.2.2.2.2.2.2.2.1, w.2.2.2.2.2.2.2.2.2.2.2.2.2.2.2.1, w.2.2.2.2.2.2.2.2.2.2.2.2.2.2.2.2.1, w.2.2.2.2.2.2.2.2.2.2.2.2.2.2.2.2.2.1, w.2.2.2.2.2.2.2.2.2.2.2.2.2.2.2.2.2.2.1, w.2.2.2.2.2.2.2.2.2.2.2.2.2.2.2.2.2.2.2.1, w.2.2.2.2.2.2.2.2.2.2.2.2.2.2.2.2.2.2.2.2.1, w.2.2.2.2.2.2.2.2.2.2.2.2.2.2.2.2.2.2.2.2.2.1, s, a, v) = bindO (F231 K (w.1, w.2.1, w.2.2.1, w.2.2.2.1, w.2.2.2.2.1, w.2.2.2.2.2.1, w.2.2.2.2.2.2.1, w.2.2.2.2.2.2.2.1, w.2.2.2.2.2.2.2.2.1, w.2.2.2.2.2.2.2.2.2.1, w.2.2.2.2.2.2.2.2.2.2.1, w.2.2.2.2.2.2.2.2.2.2.2.1, w.2.2.2.2.2.2.2.2.2.2.2.2.1, w.2.2.2.2.2.2.2.2.2.2.2.2.2.1, w.2.2.2.2.2.2.2.2.2.2.2.2.2.2.1, w.2.2.2.2.2.2.2.2.2.2.2.2.2.2.2.1, w.2.2.2.2.2.2.2.2.2.2.2.2.2.2.2.2.1, w.2.2.2.2.2.2.2.2.2.2.2.2.2.2.2.2.2.1, w.2.2.2.2.2.2.2.2.2.2.2.2.2.2.2.2.2.2.1, w.2.2.2.2.2.2.2.2.2.2.2.2.2.2.2.2.2.2.2.1, w.2.2.2.2.2.2.2.2.2.2.2.2.2.2.2.2.2.2.2.2.1, w.2.2.2.2.2.2.2.2.2.2.2.2.2.2.2.2.2.2.2.2.2.1, w.2.2.2.2.2.2.2.2.2.2.2.2.2.2.2.2.2.2.2.2.2.2.1, a, v)) fun r => some (r.1, r.2.1, r.2.2.1, r.2.2.2.1, r.2.2.2.2.1, r.2.2.2.2.2.1, r.2.2.2.2.2.2.1, r.2.2.2.2.2.2.2.1, r.2.2.2.2.2.2.2.2.1, r.2.2.2.2.2.2.2.2.2.1, r.2.2.2.2.2.2.2.2.2.2.1, r.2.2.2.2.2.2.2.2.2.2.2.1, r.2.2.2.2.2.2.2.2.2.2.2.2.1, r.2.2.2.2.2.2.2.2.2.2.2.2.2.1, r.2.2.2.2.2.2.2.2.2.2.2.2.2.2.1, r.2.2.2.2.2.2.2.2.2.2.2.2.2.2.2.1, r.2.2.2.2.2.2.2.2.2.2.2.2.2.2.2.2.1, r.2.2.2.2.2.2.2.2.2.2.2.2.2.2.2.2.2.1, r.2.2.2.2.2.2.2.2.2.2.2.2.2.2.2.2.2.2.1, r.2.2.2.2.2.2.2.2.2.2.2.2.2.2.2.2.2.2.2.1, r.2.2.2.2.2.2.2.2.2.2.2.2.2.2.2.2.2.2.2.2.1, r.2.2.2.2.2.2.2.2.2.2.2.2.2.2.2.2.2.2.2.2.2.1, s, r.2.2.2.2.2.2.2.2.2.2.2.2.2.2.2.2.2.2.2.2.2.2.2) := by
  unfold F231
  dsimp only
  simp only [F87_in, bindO_s]
  cases inR a 49152 49407 with
  | true => simp only [branch_t, bind_bind, bindO_s]
  | false =>
    simp only [branch_f]
    cases inR a 65408 65534 with
    | true => simp only [branch_t, bind_bind, bindO_s]
    | false =>
      simp only [branch_f]
      cases decide (a = 65281) with
      | true =>
        simp only [branch_t]
        cases decide ((w.2.2.2.2.2.2.2.2.2.2.2.2.2.2.2.2.2.2.2.2.2.1.length : Int) = 100) with
        | true => rfl
        | false => simp only [branch_f, bind_guard]; rfl
      | false => simp only [branch_f, bind_bind, bindO_s]
theorem F163_setCyc (K : Nat) (w : WT) (s a v : Int) : F163 K (a, v, setCyc w s) = bindO (F163 K (a, v, w)) fun r => some (setCyc r s) := by
  unfold F163
  refine (congrArg (fun z => bindO z _) (F231_cyc K w s (Int.tmod a 65536) v)).trans ?_
  simp only [bind_bind, bindO_s, setCyc]
  congr 1
  funext r
  generalize w.2.2.2.2.2.2.2.2.2.2.2.2.2.2.2.2.2.2.2.2.2.2.2 = q
  cases q <;> rfl
theorem F163_addr (K : Nat) (w : WT) (a b v : Int) (e : Int.tmod a 65536 = Int.tmod b 65536) : F163 K (a, v, w) = F163 K (b, v, w) := by
  unfold F163; simp only [e]
theorem F138_sp (K : Nat) (w : WT) (s a : Int) : F138 K (w.1, w.2.1, w.2.2.1, w.2.2.2.1, w.2.2.2.2.1, w.2.2.2.2.2.1, w.2.2.2.2.2.2.1, w.2.2.2.2.2.2.2.1, s, w.2.2.2.2.2.2.2.2.2.1, w.2.2.2.2.2.2.2.2.2.2.1, w.2.2.2.2.2.2.2.2.2.2.2.1, w.2.2.2.2.2.2.2.2.2.2.2.2.1, w.2.2.2.2.2.2.2.2.2.2.2.2.2.1, w.2.2.2.2.2.2.2.2.2.2.2.2.2.2.1, w.2.2.2.2.2.2.2.2.2.2.2.2.2.2.2.1, w.2.2.2.2.2.2.2.2.2.2.2.2.2.2.2.2.1, w.2.2.2.2.2.2.2.2.2.2.2.2.2.2.2.2.2.1, w.2.2.2.2.2.2.2.2.2.2.2.2.2.2.2.2.2.2.1, w.2.2.2.2.2.2.2.2.2.2.2.2.2.2.2.2.2.2.2.1, w.2.2.2.2.2.2.2.2.2.2.2.2.2.2.2.2.2.2.2.2.1, w.2.2.2.2.2.2.2.2.2.2.2.2.2.2.2.2.2.2.2.2.2.1, w.2.2.2.2.2.2.2.2.2.2.2.2.2.2.2.2.2.2.2.2.2.2.1, a) = F138 K (w.1, w.2.1, w.2.2.1, w.2.2.2.1, w.2.2.2.2.1, w.2.2.2.2.2.1, w.2.2.2.2.2.2.1, w.2.2.2.2.2.2.2.1, w.2.2.2.2.2.2.2.2.1, w.2.2.2.2.2.2.2.2.2.1, w.2.2.2.2.2.2.2.2.2.2.1, w.2.2.2.2.2.2.2.2.2.2.2.1, w.2.2.2.2.2.2.2.2.2.2.2.2.1, w.2.2.2.2.2.2.2.2.2.2.2.2.2.1, w.2.2.2.2.2.2.2.2.2.2.2.2.2.2.1, w.2.2.2.2.2.2.2.2.2.2.2.2.2.2.2.1, w.2.2.2.2.2.2.2.2.2.2.2.2.2.2.2.2.1, w.2.2.2.2.2.2.2.2.2.2.2.2.2.2.2.2.2.1, w.2.2.2.2.2.2.2.2.2.2.2.2.2.2.2.2.2.2.1, w.2.2.2.2.2.2.2.2.2.2.2.2.2.2.2.2.2.2.2.1, w.2.2.2.2.2.2.2.2.2.2.2.2.2.2.2.2.2.2.2.2.1, w.2.2.2.2.2.2.2.2.2.2.2.2.2.2.2.2.2.2.2.2.2.1, w.2.2.2.2.2.2.2.2.2.2.2.2.2.2.2.2.2.2.2.2.2.2.1, a) := rfl
theorem F114_f (K : Nat) (w : WT) (k v s : Int) (hk : 0 ≤ k ∧ k ≤ 7) : F114 K (k, v, setF w s) = bindO (F114 K (k, v, w)) fun r => some (setF r s) := by
  have hc : k = 0 ∨ k = 1 ∨ k = 2 ∨ k = 3 ∨ k = 4 ∨ k = 5 ∨ k = 6 ∨ k = 7 := by omega
  rcases hc with rfl | rfl | rfl | rfl | rfl | rfl | rfl | rfl
  case inr.inr.inr.inr.inr.inr.inl =>
    show bindO (F167 K (setF w s)) (fun v0 => bindO (F163 K (v0.1, v, setF w s)) fun v1 => some v1) = bindO (bindO (F167 K w) fun v0 => bindO (F163 K (v0.1, v, w)) fun v1 => some v1) fun r => some (setF r s)
    simp only [F163_f, bind_bind, bindO_s]
    rfl
  all_goals rfl
theorem F159_eq (K : Nat) (c : Int) (cb : Bool) (imm : Int) (w : WT) (h : WInv w) (k v : Int) (hk : 0 ≤ k ∧ k ≤ 7) (hv : 0 ≤ v ∧ v ≤ 255) :
    F159 K (k, v, A c cb imm w) = bindO (F114 K (k, v, w)) fun r => some (A c cb imm r) := by
  have hc : k = 0 ∨ k = 1 ∨ k = 2 ∨ k = 3 ∨ k = 4 ∨ k = 5 ∨ k = 6 ∨ k = 7 := by omega
  rcases hc with rfl | rfl | rfl | rfl | rfl | rfl | rfl | rfl
  case inr.inr.inr.inr.inr.inr.inl =>
    have hh := h.h
    have hl := h.l
    show bindO (F229r6 K (6, A c cb imm w)) (fun v6 => bindO (F215 K (A c cb imm w)) fun v7 => bindO (F230 K (v7.1, v, A c cb imm w)) fun v8 => some v8) = bindO (bindO (F167 K w) fun v0 => bindO (F163 K (v0.1, v, w)) fun v1 => some v1) fun r => some (A c cb imm r)
    rw [F215_eq K c cb imm w h, F167_eq K w h]
    show bindO (F230 K (256 * w.2.2.2.2.2.2.1 + w.2.2.2.2.2.2.2.1, v, A c cb imm w)) (fun v8 => some v8) = bindO (bindO (F163 K (256 * w.2.2.2.2.2.2.1 + w.2.2.2.2.2.2.2.1, v, w)) fun v1 => some v1) fun r => some (A c cb imm r)
    rw [F230_eq K c cb imm w h _ v (by omega) hv]
    simp only [bind_bind, bindO_s]
  all_goals rfl
theorem hi_eq (v : Int) (hv : -1 ≤ v ∧ v ≤ 65536) : bits .and .i64 (shrI .i64 v 8) 255 = w64 (Int.tdiv (v % 65536) 256) := by
  rw [and255, shr8, tdE (by omega), w64_id (by omega) (by omega)]; omega
theorem lo_eq (v : Int) : bits .and .i64 v 255 = Int.tmod (v % 65536) 256 := by
  rw [and255, tmE (by omega)]; omega
theorem sp_eq (v : Int) : bits .and .i64 v 65535 = v % 65536 := and65535 v
theorem F213_eq (K : Nat) (c : Int) (cb : Bool) (imm : Int) (w : WT) (p v : Int) (hp : 0 ≤ p ∧ p ≤ 3) (hv : -1 ≤ v ∧ v ≤ 65536) :
    F213 K (p, v, A c cb imm w) = bindO (F165 K (p, v % 65536, false, w)) fun r => some (A c cb imm r) := by
  have hc : p = 0 ∨ p = 1 ∨ p = 2 ∨ p = 3 := by omega
  rcases hc with rfl | rfl | rfl | rfl
  · show some (A c cb imm (setBC w (bits .and .i64 (shrI .i64 v 8) 255) (bits .and .i64 v 255))) = some (A c cb imm (setBC w (w64 (Int.tdiv (v % 65536) 256)) (Int.tmod (v % 65536) 256)))
    rw [hi_eq v hv, lo_eq]
  · show some (A c cb imm (setDE w (bits .and .i64 (shrI .i64 v 8) 255) (bits .and .i64 v 255))) = some (A c cb imm (setDE w (w64 (Int.tdiv (v % 65536) 256)) (Int.tmod (v % 65536) 256)))
    rw [hi_eq v hv, lo_eq]
  · show some (A c cb imm (setHL w (bits .and .i64 (shrI .i64 v 8) 255) (bits .and .i64 v 255))) = some (A c cb imm (setHL w (w64 (Int.tdiv (v % 65536) 256)) (Int.tmod (v % 65536) 256)))
    rw [hi_eq v hv, lo_eq]
  · show some (A c cb imm (setSp w (bits .and .i64 v 65535))) = some (A c cb imm (setSp w (v % 65536)))
    rw [sp_eq]
theorem F213_in (K : Nat) (c : Int) (cb : Bool) (imm : Int) (w : WT) (p v : Int) (hp : 0 ≤ p ∧ p ≤ 3) (hv : 0 ≤ v ∧ v ≤ 65535) :
    F213 K (p, v, A c cb imm w) = bindO (F165 K (p, v, false, w)) fun r => some (A c cb imm r) := by
  have e := F213_eq K c cb imm w p v hp (by omega)
  have e2 : v % 65536 = v := by omega
  rw [e2] at e
  exact e
theorem pair_eq (h l : Int) (h0 : 0 ≤ h ∧ h ≤ 255) (l0 : 0 ≤ l ∧ l ≤ 255) : bits .or .i64 (shlI .i64 h 8) l = w64 (w64 (256 * h) + l) := by
  rw [hl_or h l h0 l0, w64_id (n := 256 * h) (by omega) (by omega), w64_id (by omega) (by omega)]
theorem F216_eq (K : Nat) (c : Int) (cb : Bool) (imm : Int) (w : WT) (h : WInv w) (p : Int) (hp : 0 ≤ p ∧ p ≤ 3) :
    F216 K (p, A c cb imm w) = bindO (F168 K (p, false, w)) fun r => some (r.1, A c cb imm w) := by
  have hc : p = 0 ∨ p = 1 ∨ p = 2 ∨ p = 3 := by omega
  rcases hc with rfl | rfl | rfl | rfl
  · show some (bits .or .i64 (shlI .i64 w.2.2.1 8) w.2.2.2.1, A c cb imm w) = some (w64 (w64 (256 * w.2.2.1) + w.2.2.2.1), A c cb imm w)
    rw [pair_eq _ _ h.b h.c]
  · show some (bits .or .i64 (shlI .i64 w.2.2.2.2.1 8) w.2.2.2.2.2.1, A c cb imm w) = some (w64 (w64 (256 * w.2.2.2.2.1) + w.2.2.2.2.2.1), A c cb imm w)
    rw [pair_eq _ _ h.d h.e]
  · show some (bits .or .i64 (shlI .i64 w.2.2.2.2.2.2.1 8) w.2.2.2.2.2.2.2.1, A c cb imm w) = some (w64 (w64 (256 * w.2.2.2.2.2.2.1) + w.2.2.2.2.2.2.2.1), A c cb imm w)
    rw [pair_eq _ _ h.h h.l]
  · rfl
theorem F64_w (K : Nat) (w : WT) (h : WInv w) (a : Int) : F64 K (a, WT.m w) = bindO (F138 K (w.1, w.2.1, w.2.2.1, w.2.2.2.1, w.2.2.2.2.1, w.2.2.2.2.2.1, w.2.2.2.2.2.2.1, w.2.2.2.2.2.2.2.1, w.2.2.2.2.2.2.2.2.1, w.2.2.2.2.2.2.2.2.2.1, w.2.2.2.2.2.2.2.2.2.2.1, w.2.2.2.2.2.2.2.2.2.2.2.1, w.2.2.2.2.2.2.2.2.2.2.2.2.1, w.2.2.2.2.2.2.2.2.2.2.2.2.2.1, w.2.2.2.2.2.2.2.2.2.2.2.2.2.2.1, w.2.2.2.2.2.2.2.2.2.2.2.2.2.2.2.1, w.2.2.2.2.2.2.2.2.2.2.2.2.2.2.2.2.1, w.2.2.2.2.2.2.2.2.2.2.2.2.2.2.2.2.2.1, w.2.2.2.2.2.2.2.2.2.2.2.2.2.2.2.2.2.2.1, w.2.2.2.2.2.2.2.2.2.2.2.2.2.2.2.2.2.2.2.1, w.2.2.2.2.2.2.2.2.2.2.2.2.2.2.2.2.2.2.2.2.1, w.2.2.2.2.2.2.2.2.2.2.2.2.2.2.2.2.2.2.2.2.2.1, w.2.2.2.2.2.2.2.2.2.2.2.2.2.2.2.2.2.2.2.2.2.2.1, a % 65536)) fun r => some (r, WT.m w) := F64_eq K w.m (h.set_full false) a
theorem F221_eq (K : Nat) (c : Int) (cb : Bool) (imm : Int) (w : WT) (h : WInv w) : F221 K (A c cb imm w) = bindO (F171 K w) fun r => some (r.1, A c cb imm r.2) := by
  have hs := h.sp
  obtain ⟨v0, e0, b0⟩ := F138_t K w h w.2.2.2.2.2.2.2.2.1 hs.1
  obtain ⟨v1, e1, b1⟩ := F138_t K w h ((w.2.2.2.2.2.2.2.2.1 + 1) % 65536) (by omega)
  have n1 : w64 (w.2.2.2.2.2.2.2.2.1 + 1) = w.2.2.2.2.2.2.2.2.1 + 1 := w64_id (by omega) (by omega)
  have n2 : w64 (w.2.2.2.2.2.2.2.2.1 + 2) = w.2.2.2.2.2.2.2.2.1 + 2 := w64_id (by omega) (by omega)
  have x0 : w.2.2.2.2.2.2.2.2.1 % 65536 = w.2.2.2.2.2.2.2.2.1 := by omega
  have x1 : Int.tmod (w.2.2.2.2.2.2.2.2.1 + 1) 65536 = (w.2.2.2.2.2.2.2.2.1 + 1) % 65536 := tmE (by omega)
  have x2 : Int.tmod (w.2.2.2.2.2.2.2.2.1 + 2) 65536 = (w.2.2.2.2.2.2.2.2.1 + 2) % 65536 := tmE (by omega)
  have l : F221 K (A c cb imm w) = bindO (F64 K (w.2.2.2.2.2.2.2.2.1, WT.m w)) fun v0 => bindO (F64 K (w64 (w.2.2.2.2.2.2.2.2.1 + 1), WT.m w)) fun v1 => some (bits .or .i64 v0.1 (shlI .i64 v1.1 8), A c cb imm (setSp w (bits .and .i64 (w64 (w.2.2.2.2.2.2.2.2.1 + 2)) 65535))) := rfl
  have r : F171 K w = bindO (F138 K (w.1, w.2.1, w.2.2.1, w.2.2.2.1, w.2.2.2.2.1, w.2.2.2.2.2.1, w.2.2.2.2.2.2.1, w.2.2.2.2.2.2.2.1, Int.tmod (w64 (w.2.2.2.2.2.2.2.2.1 + 2)) 65536, w.2.2.2.2.2.2.2.2.2.1, w.2.2.2.2.2.2.2.2.2.2.1, w.2.2.2.2.2.2.2.2.2.2.2.1, w.2.2.2.2.2.2.2.2.2.2.2.2.1, w.2.2.2.2.2.2.2.2.2.2.2.2.2.1, w.2.2.2.2.2.2.2.2.2.2.2.2.2.2.1, w.2.2.2.2.2.2.2.2.2.2.2.2.2.2.2.1, w.2.2.2.2.2.2.2.2.2.2.2.2.2.2.2.2.1, w.2.2.2.2.2.2.2.2.2.2.2.2.2.2.2.2.2.1, w.2.2.2.2.2.2.2.2.2.2.2.2.2.2.2.2.2.2.1, w.2.2.2.2.2.2.2.2.2.2.2.2.2.2.2.2.2.2.2.1, w.2.2.2.2.2.2.2.2.2.2.2.2.2.2.2.2.2.2.2.2.1, w.2.2.2.2.2.2.2.2.2.2.2.2.2.2.2.2.2.2.2.2.2.1, w.2.2.2.2.2.2.2.2.2.2.2.2.2.2.2.2.2.2.2.2.2.2.1, w.2.2.2.2.2.2.2.2.1)) fun v0 => bindO (F138 K (w.1, w.2.1, w.2.2.1, w.2.2.2.1, w.2.2.2.2.1, w.2.2.2.2.2.1, w.2.2.2.2.2.2.1, w.2.2.2.2.2.2.2.1, Int.tmod (w64 (w.2.2.2.2.2.2.2.2.1 + 2)) 65536, w.2.2.2.2.2.2.2.2.2.1, w.2.2.2.2.2.2.2.2.2.2.1, w.2.2.2.2.2.2.2.2.2.2.2.1, w.2.2.2.2.2.2.2.2.2.2.2.2.1, w.2.2.2.2.2.2.2.2.2.2.2.2.2.1, w.2.2.2.2.2.2.2.2.2.2.2.2.2.2.1, w.2.2.2.2.2.2.2.2.2.2.2.2.2.2.2.1, w.2.2.2.2.2.2.2.2.2.2.2.2.2.2.2.2.1, w.2.2.2.2.2.2.2.2.2.2.2.2.2.2.2.2.2.1, w.2.2.2.2.2.2.2.2.2.2.2.2.2.2.2.2.2.2.1, w.2.2.2.2.2.2.2.2.2.2.2.2.2.2.2.2.2.2.2.1, w.2.2.2.2.2.2.2.2.2.2.2.2.2.2.2.2.2.2.2.2.1, w.2.2.2.2.2.2.2.2.2.2.2.2.2.2.2.2.2.2.2.2.2.1, w.2.2.2.2.2.2.2.2.2.2.2.2.2.2.2.2.2.2.2.2.2.2.1, Int.tmod (w64 (w.2.2.2.2.2.2.2.2.1 + 1)) 65536)) fun v1 => some (w64 (v0 + w64 (256 * v1)), setSp w (Int.tmod (w64 (w.2.2.2.2.2.2.2.2.1 + 2)) 65536)) := rfl
  rw [l, r, F138_sp K w (Int.tmod (w64 (w.2.2.2.2.2.2.2.2.1 + 2)) 65536) w.2.2.2.2.2.2.2.2.1, F138_sp K w (Int.tmod (w64 (w.2.2.2.2.2.2.2.2.1 + 2)) 65536) (Int.tmod (w64 (w.2.2.2.2.2.2.2.2.1 + 1)) 65536), F64_w K w h, F64_w K w h, n1, n2, x0, x1, x2, e0, e1, and65535]
  simp only [bindO_s]
  rw [shl8 v1 b1.1 (by omega), or_join' v1 v0 b1.1 (by omega) b0.1 b0.2, w64_id (n := 256 * v1) (by omega) (by omega), w64_id (n := v0 + 256 * v1) (by omega) (by omega), Int.add_comm]
theorem F227_eq (K : Nat) (c : Int) (cb : Bool) (imm : Int) (w : WT) (h : WInv w) (v : Int) (hv : 0 ≤ v ∧ v ≤ 65535) : F227 K (v, A c cb imm w) = bindO (F173 K (v, w)) fun r => some (A c cb imm r) := by
  have hs := h.sp
  have n0 : w64 (w.2.2.2.2.2.2.2.2.1 - 2) = w.2.2.2.2.2.2.2.2.1 - 2 := w64_id (by omega) (by omega)
  have n1 : w64 (w.2.2.2.2.2.2.2.2.1 + 65535) = w.2.2.2.2.2.2.2.2.1 + 65535 := w64_id (by omega) (by omega)
  have n2 : w64 (w.2.2.2.2.2.2.2.2.1 + 65534) = w.2.2.2.2.2.2.2.2.1 + 65534 := w64_id (by omega) (by omega)
  have t0 : Int.tmod (w.2.2.2.2.2.2.2.2.1 + 65534) 65536 = (w.2.2.2.2.2.2.2.2.1 - 2) % 65536 := by rw [tmE (by omega)]; omega
  have d0 : w64 (Int.tdiv v 256) = v / 256 := by rw [tdE (by omega), w64_id (by omega) (by omega)]
  have d1 : Int.tmod v 256 = v % 256 := tmE (by omega)
  have l : F227 K (v, A c cb imm w) = bindO (F230 K (w64 (bits .and .i64 (w64 (w.2.2.2.2.2.2.2.2.1 - 2)) 65535 + 1), shrI .i64 v 8, A c cb imm (setSp w (bits .and .i64 (w64 (w.2.2.2.2.2.2.2.2.1 - 2)) 65535)))) fun v0 => bindO (F230 K (v0.2.2.2.2.2.2.2.2.2.2.2.2.1, bits .and .i64 v 255, v0)) fun v1 => some v1 := rfl
  have r : F173 K (v, w) = bindO (F163 K (w64 (w.2.2.2.2.2.2.2.2.1 + 65535), w64 (Int.tdiv v 256), w)) fun v0 => bindO (F163 K (w64 (w.2.2.2.2.2.2.2.2.1 + 65534), Int.tmod v 256, v0)) fun v1 => some (setSp v1 (Int.tmod (w64 (w.2.2.2.2.2.2.2.2.1 + 65534)) 65536)) := rfl
  rw [l, r, n0, n1, n2, t0, d0, d1, shr8, and255, and65535]
  have hsp : 0 ≤ (w.2.2.2.2.2.2.2.2.1 - 2) % 65536 ∧ (w.2.2.2.2.2.2.2.2.1 - 2) % 65536 ≤ 65535 := by omega
  have hw := h.set_sp hsp
  have n3 : w64 ((w.2.2.2.2.2.2.2.2.1 - 2) % 65536 + 1) = (w.2.2.2.2.2.2.2.2.1 - 2) % 65536 + 1 := w64_id (by omega) (by omega)
  obtain ⟨r1, e1, i1⟩ := F163_t K w h (w.2.2.2.2.2.2.2.2.1 + 65535) (v / 256) (by omega) (by omega)
  have i1' : WInv (setSp r1 ((w.2.2.2.2.2.2.2.2.1 - 2) % 65536)) := i1.set_sp hsp
  obtain ⟨r2, e2, i2⟩ := F163_t K r1 i1 (w.2.2.2.2.2.2.2.2.1 + 65534) (v % 256) (by omega) (by omega)
  have a1 : F230 K (w64 ((w.2.2.2.2.2.2.2.2.1 - 2) % 65536 + 1), v / 256, A c cb imm (setSp w ((w.2.2.2.2.2.2.2.2.1 - 2) % 65536))) = some (A c cb imm (setSp r1 ((w.2.2.2.2.2.2.2.2.1 - 2) % 65536))) := by
    rw [n3, F230_eq K c cb imm (setSp w ((w.2.2.2.2.2.2.2.2.1 - 2) % 65536)) hw _ _ (by omega) (by omega), F163_sp, F163_addr K w _ (w.2.2.2.2.2.2.2.2.1 + 65535) _ (by rw [tmE (by omega), tmE (by omega)]; omega), e1]
    rfl
  have a2 : F230 K ((w.2.2.2.2.2.2.2.2.1 - 2) % 65536, v % 256, A c cb imm (setSp r1 ((w.2.2.2.2.2.2.2.2.1 - 2) % 65536))) = some (A c cb imm (setSp r2 ((w.2.2.2.2.2.2.2.2.1 - 2) % 65536))) := by
    rw [F230_eq K c cb imm (setSp r1 ((w.2.2.2.2.2.2.2.2.1 - 2) % 65536)) i1' _ _ (by omega) (by omega), F163_sp, F163_addr K r1 _ (w.2.2.2.2.2.2.2.2.1 + 65534) _ (by rw [tmE (by omega), tmE (by omega)]; omega), e2]
    rfl
  rw [a1, e1]
  simp only [bindO_s]
  rw [e2]
  refine (congrArg (fun z => bindO z _) a2).trans rfl
theorem F225_eq (K : Nat) (c : Int) (cb : Bool) (imm : Int) (w : WT) (h : WInv w) (v : Int) : F225 K (v, A c cb imm w) = bindO (F174 K (v, w)) fun r => some (A c cb imm r) := by
  have l : F225 K (v, A c cb imm w) = bindO (F227 K (w.2.2.2.2.2.2.2.2.2.1, A c cb imm w)) fun v0 => some (v0.1, v0.2.1, v0.2.2.1, v0.2.2.2.1, v0.2.2.2.2.1, v0.2.2.2.2.2.1, v0.2.2.2.2.2.2.1, v0.2.2.2.2.2.2.2.1, v0.2.2.2.2.2.2.2.2.1, v0.2.2.2.2.2.2.2.2.2.1, v0.2.2.2.2.2.2.2.2.2.2.1, v0.2.2.2.2.2.2.2.2.2.2.2.1, v0.2.2.2.2.2.2.2.2.2.2.2.2.1, v, v0.2.2.2.2.2.2.2.2.2.2.2.2.2.2) := rfl
  have r : F174 K (v, w) = bindO (F173 K (w.2.2.2.2.2.2.2.2.2.1, w)) fun v0 => some (setPc v0 v) := rfl
  rw [l, r, F227_eq K c cb imm w h _ h.pc]
  simp only [bind_bind, bindO_s]
  rfl
theorem F251_eq (K : Nat) (c : Int) (cb : Bool) (imm : Int) (w : WT) (h : WInv w) : F251 K (A c cb imm w) = bindO (F144 K imm) fun s => some (A c cb imm (setPc w (Int.tmod (w64 (w64 (w.2.2.2.2.2.2.2.2.2.1 + s) + 65536)) 65536))) := by
  have hs := h.pc
  obtain ⟨s, e, b⟩ := F144_t K imm
  have l : F251 K (A c cb imm w) = bindO (F193 K imm) fun v0 => some (A c cb imm (setPc w (bits .and .i64 (w64 (w.2.2.2.2.2.2.2.2.2.1 + v0)) 65535))) := rfl
  have x : Int.tmod (w.2.2.2.2.2.2.2.2.2.1 + s + 65536) 65536 = (w.2.2.2.2.2.2.2.2.2.1 + s) % 65536 := by rw [tmE (by omega)]; omega
  rw [l, F193_eq, e]
  simp only [bindO_s]
  rw [and65535, w64_id (n := w.2.2.2.2.2.2.2.2.2.1 + s) (by omega) (by omega), w64_id (n := w.2.2.2.2.2.2.2.2.2.1 + s + 65536) (by omega) (by omega), x]
end Go.U.Tryz
namespace Go.U.Tryz
open Go Go.U
set_option maxRecDepth 20000
def setPcI (w : WT) (v : Int) (i : Bool) : WT := (w.1, w.2.1, w.2.2.1, w.2.2.2.1, w.2.2.2.2.1, w.2.2.2.2.2.1, w.2.2.2.2.2.2.1, w.2.2.2.2.2.2.2.1, w.2.2.2.2.2.2.2.2.1, v, i, w.2.2.2.2.2.2.2.2.2.2.2)
def cnd (k f : Int) : Bool := decide (f / (if k < 2 then 128 else 16) % 2 = k % 2)
theorem bind_id {α : Type} {x : Option α} : bindO x (fun v => some v) = x := by cases x <;> rfl
theorem f16 {f : Int} (h : 0 ≤ f ∧ f ≤ 255 ∧ f % 16 = 0) : f = 0 ∨ f = 16 ∨ f = 32 ∨ f = 48 ∨ f = 64 ∨ f = 80 ∨ f = 96 ∨ f = 112 ∨ f = 128 ∨ f = 144 ∨ f = 160 ∨ f = 176 ∨ f = 192 ∨ f = 208 ∨ f = 224 ∨ f = 240 := by omega
theorem setF_self (w : WT) : setF w w.2.1 = w := rfl
theorem F157_eq (K : Nat) (c : Int) (cb : Bool) (imm : Int) (w : WT) (h : WInv w) (op v : Int) (ho : 0 ≤ op ∧ op ≤ 7) (hv : 0 ≤ v ∧ v ≤ 255) :
    F157 K (op, v, A c cb imm w) = bindO (F116 K (op, w.1, v, w.2.1)) fun r => some (A c cb imm (setAF w r.1 r.2)) := by
  have l : F157 K (op, v, A c cb imm w) = bindO (F228 K (op, w.1, v, w.2.1)) fun r => some (A c cb imm (setAF w r.1 r.2)) := rfl
  rw [l, F228_eq K op _ _ _ ho h.a hv ⟨h.f.1, h.f.2.1⟩]
theorem F162_w (K : Nat) (w : WT) (h : WInv w) : F162 K w.2.1 = some (w.2.1 / 16 % 2) := F162_eq K _ h.f.1 h.f.2.1
theorem F160_half (K : Nat) (op v f : Int) (q : Int × Int) (e : F160 K (op, v, f) = some q) : bits .andNot .i64 q.2 128 = flagsOf false false false (decide (q.2 / 16 % 2 = 1)) := by
  unfold F160 at e
  obtain ⟨v2, _, e2⟩ := bindO_some e
  rw [F161_eq] at e2
  have e3 := Option.some.inj e2
  rw [← e3]
  show bits .andNot .i64 (flagsOf (decide (v2.1 = 0)) false false (decide (v2.2 = 1))) 128 = flagsOf false false false (decide (flagsOf (decide (v2.1 = 0)) false false (decide (v2.2 = 1)) / 16 % 2 = 1))
  generalize decide (v2.1 = 0) = a
  generalize decide (v2.2 = 1) = b
  cases a <;> cases b <;> rfl
theorem F219_eq (K : Nat) (c : Int) (cb : Bool) (imm : Int) (w : WT) (h : WInv w) (y : Int) (hy : 0 ≤ y ∧ y ≤ 7) :
    F219 K (y, A c cb imm w) = bindO (F170 K (y, w)) fun r => some (A c cb imm r) := by
  have ha := h.a
  have hf := h.f
  have hf' : 0 ≤ w.2.1 ∧ w.2.1 ≤ 255 := ⟨hf.1, hf.2.1⟩
  have hc : y = 4 ∨ y = 5 ∨ y = 6 ∨ y = 7 ∨ (y = 0 ∨ y = 1 ∨ y = 2 ∨ y = 3) := by omega
  rcases hc with rfl | rfl | rfl | rfl | hc
  · have l : F219 K (4, A c cb imm w) = bindO (F252 K (w.1, w.2.1)) fun r => some (A c cb imm (setAF w r.1 r.2)) := rfl
    have r : F170 K (4, w) = bindO (F162 K w.2.1) fun _ => bindO (F232 K (w.1, w.2.1)) fun r => some (setAF w r.1 r.2) := rfl
    rw [l, r, F162_w K w h, F252_eq K _ _ ha hf]
    simp only [bind_bind, bindO_s]
  · have l : F219 K (5, A c cb imm w) = some (A c cb imm (setAF w (bits .xor .i64 w.1 255) (bits .or .i64 w.2.1 96))) := rfl
    have r : F170 K (5, w) = bindO (F162 K w.2.1) fun v0 => bindO (F161 K (decide (128 ≤ w.2.1), true, true, decide (v0 = 1))) fun g => some (setAF w (w64 (255 - w.1)) g) := rfl
    rw [l, r, F162_w K w h]
    simp only [bind_bind, bindO_s, F161_eq]
    have e1 : bits .xor .i64 w.1 255 = w64 (255 - w.1) := by rw [xor255 _ ha.1 ha.2, w64_id (by omega) (by omega)]
    have e2 : bits .or .i64 w.2.1 96 = flagsOf (decide (128 ≤ w.2.1)) true true (decide (w.2.1 / 16 % 2 = 1)) := by
      rcases f16 hf with e | e | e | e | e | e | e | e | e | e | e | e | e | e | e | e <;> rw [e] <;> rfl
    rw [e1, e2]
  · have l : F219 K (6, A c cb imm w) = some (A c cb imm (setF w (bits .or .i64 (bits .and .i64 w.2.1 128) 16))) := rfl
    have r : F170 K (6, w) = bindO (F162 K w.2.1) fun v0 => bindO (F161 K (decide (128 ≤ w.2.1), false, false, true)) fun g => some (setF w g) := rfl
    rw [l, r, F162_w K w h]
    simp only [bind_bind, bindO_s, F161_eq]
    have e2 : bits .or .i64 (bits .and .i64 w.2.1 128) 16 = flagsOf (decide (128 ≤ w.2.1)) false false true := by
      rcases f16 hf with e | e | e | e | e | e | e | e | e | e | e | e | e | e | e | e <;> rw [e] <;> rfl
    rw [e2]
  · have l : F219 K (7, A c cb imm w) = bindO (F211 K (w.2.1, 128)) fun v1 => bindO (F211 K (w.2.1, 16)) fun v2 => bindO (F210 K (v1, false, false, !v2)) fun g => some (A c cb imm (setF w g)) := rfl
    have r : F170 K (7, w) = bindO (F162 K w.2.1) fun v0 => bindO (F161 K (decide (128 ≤ w.2.1), false, false, !decide (v0 = 1))) fun g => some (setF w g) := rfl
    rw [l, r, F162_w K w h, F211_128 K _ hf', F211_16 K _ hf']
    simp only [bind_bind, bindO_s, F161_eq, F210_eq]
  · obtain ⟨q, e, b1, b2⟩ := F160_t K y w.1 w.2.1 ha hf'
    have l : F219 K (y, A c cb imm w) = bindO (F209 K (y, w.1, w.2.1)) fun r => some (A c cb imm (setAF w r.1 (bits .andNot .i64 r.2 128))) := by
      rcases hc with rfl | rfl | rfl | rfl <;> rfl
    have r : F170 K (y, w) = bindO (F162 K w.2.1) fun _ => bindO (F160 K (y, w.1, w.2.1)) fun v5 => bindO (F162 K v5.2) fun v6 => bindO (F161 K (false, false, false, decide (v6 = 1))) fun g => some (setAF w v5.1 g) := by
      rcases hc with rfl | rfl | rfl | rfl <;> rfl
    rw [l, r, F162_w K w h, F209_eq K y _ _ hy ha hf', e]
    simp only [bind_bind, bindO_s]
    rw [F162_eq K q.2 b2.1 b2.2.1]
    simp only [bindO_s, F161_eq]
    rw [F160_half K y _ _ q e]
theorem F211_w (K : Nat) (w : WT) (h : WInv w) : F211 K (w.2.1, 16) = some (decide (w.2.1 / 16 % 2 = 1)) := F211_16 K _ ⟨h.f.1, h.f.2.1⟩
theorem F154_eq (K : Nat) (c : Int) (cb : Bool) (imm : Int) (w : WT) (h : WInv w) (hc : 0 ≤ c ∧ c ≤ 255) :
    F154 K (w64 (Int.tdiv c 64), Int.tmod (w64 (Int.tdiv c 8)) 8, Int.tmod c 8, A c cb imm w) = bindO (F112 K (c, cb, imm, w)) fun r => some (A c cb imm r) := by
  have hf : 0 ≤ w.2.1 ∧ w.2.1 ≤ 255 := ⟨h.f.1, h.f.2.1⟩
  have hz : 0 ≤ Int.tmod c 8 ∧ Int.tmod c 8 ≤ 7 := by (((try (simp (disch := omega) only [w64_id, w64u_id, tmE, tdE])); first | omega | done))
  have hy : 0 ≤ Int.tmod (w64 (Int.tdiv c 8)) 8 ∧ Int.tmod (w64 (Int.tdiv c 8)) 8 ≤ 7 := by (((try (simp (disch := omega) only [w64_id, w64u_id, tmE, tdE])); first | omega | done))
  have hu : w64u (Int.tmod (w64 (Int.tdiv c 8)) 8) = Int.tmod (w64 (Int.tdiv c 8)) 8 := w64u_id hy.1 (by omega)
  have hx : w64 (Int.tdiv c 64) = 0 ∨ w64 (Int.tdiv c 64) = 1 ∨ w64 (Int.tdiv c 64) = 2 ∨ w64 (Int.tdiv c 64) = 3 := by
    rw [tdE hc.1, w64_id (by omega) (by omega)]; omega
  have r : F112 K (c, cb, imm, w) = bindO (F115 K (Int.tmod c 8, w)) fun v0 => guard (decide (0 ≤ (w64u (Int.tmod (w64 (Int.tdiv c 8)) 8)))) <| branch (decide ((w64 (Int.tdiv c 64)) = 0)) (bindO (F160 K (Int.tmod (w64 (Int.tdiv c 8)) 8, v0.1, w.2.1)) fun v1 => bindO (F114 K (Int.tmod c 8, v1.1, w)) fun v2 => some (setF v2 v1.2))
     (branch (decide ((w64 (Int.tdiv c 64)) = 1)) (bindO (F162 K w.2.1) fun v3 => bindO (F161 K (decide ((Go.bits .and .i64 v0.1 (shlI .i64 1 (w64u (Int.tmod (w64 (Int.tdiv c 8)) 8)))) = 0), false, true, decide (v3 = 1))) fun v4 => some (setF w v4))
      (branch (decide ((w64 (Int.tdiv c 64)) = 2)) (bindO (F114 K (Int.tmod c 8, Go.bits .andNot .i64 v0.1 (shlI .i64 1 (w64u (Int.tmod (w64 (Int.tdiv c 8)) 8))), w)) fun v5 => some v5)
       (bindO (F114 K (Int.tmod c 8, Go.bits .or .i64 v0.1 (shlI .i64 1 (w64u (Int.tmod (w64 (Int.tdiv c 8)) 8))), w)) fun v6 => some v6))) := rfl
  have l : ∀ x y z : Int, F154 K (x, y, z, A c cb imm w) = bindO (F158 K (z, A c cb imm w)) fun v0 => guard (decide (0 ≤ y)) <| branch (decide (x = 0)) (bindO (F209 K (y, v0.1, w.2.1)) fun v1 => bindO (F159 K (z, v1.1, A c cb imm (setF w v1.2))) fun v2 => some v2)
     (branch (decide (x = 1)) (bindO (F211 K (w.2.1, 16)) fun v3 => bindO (F210 K (decide ((Go.bits .and .i64 v0.1 (shlI .i64 1 y)) = 0), false, true, v3)) fun v4 => some (A c cb imm (setF w v4)))
      (branch (decide (x = 2)) (bindO (F159 K (z, Go.bits .andNot .i64 v0.1 (shlI .i64 1 y), A c cb imm w)) fun v5 => some v5)
       (bindO (F159 K (z, Go.bits .or .i64 v0.1 (shlI .i64 1 y), A c cb imm w)) fun v6 => some v6))) := fun _ _ _ => rfl
  rw [l, r, hu, F158_eq K c cb imm w h _ hz]
  generalize w64 (Int.tdiv c 64) = x at hx ⊢
  generalize Int.tmod (w64 (Int.tdiv c 8)) 8 = y at hy ⊢
  generalize Int.tmod c 8 = z at hz ⊢
  have hs := shl_byte y hy.1 hy.2
  obtain ⟨⟨b, w'⟩, e, hb, hw'⟩ := F115_t K w h z hz
  rw [e]
  simp only [bindO_s, decide_eq_true hy.1, guard_t]
  dsimp only at hb
  rcases hx with rfl | rfl | rfl | rfl
  · show bindO (F209 K (y, b, w.2.1)) (fun v1 => bindO (F159 K (z, v1.1, A c cb imm (setF w v1.2))) fun v2 => some v2) = bindO (bindO (F160 K (y, b, w.2.1)) fun v1 => bindO (F114 K (z, v1.1, w)) fun v2 => some (setF v2 v1.2)) fun r => some (A c cb imm r)
    obtain ⟨q, e2, b1, b2⟩ := F160_t K y b w.2.1 hb hf
    rw [F209_eq K y b _ hy hb hf, e2]
    simp only [bindO_s]
    have hw : WInv (setF w q.2) := h.set_f b2
    rw [F159_eq K c cb imm _ hw z q.1 hz b1, F114_f K w z q.1 q.2 hz]
    simp only [bind_bind, bindO_s]
  · show bindO (F211 K (w.2.1, 16)) (fun v3 => bindO (F210 K (decide ((Go.bits .and .i64 b (shlI .i64 1 y)) = 0), false, true, v3)) fun v4 => some (A c cb imm (setF w v4))) = bindO (bindO (F162 K w.2.1) fun v3 => bindO (F161 K (decide ((Go.bits .and .i64 b (shlI .i64 1 y)) = 0), false, true, decide (v3 = 1))) fun v4 => some (setF w v4)) fun r => some (A c cb imm r)
    rw [F211_w K w h, F162_w K w h]
    simp only [bindO_s, F210_eq, F161_eq]
  · show bindO (F159 K (z, Go.bits .andNot .i64 b (shlI .i64 1 y), A c cb imm w)) (fun v5 => some v5) = bindO (bindO (F114 K (z, Go.bits .andNot .i64 b (shlI .i64 1 y), w)) fun v5 => some v5) fun r => some (A c cb imm r)
    rw [bind_id, bind_id, F159_eq K c cb imm w h z _ hz (byte_bits .andNot (.inr (.inr (.inr rfl))) _ _ hb.1 hb.2 hs.1 hs.2)]
  · show bindO (F159 K (z, Go.bits .or .i64 b (shlI .i64 1 y), A c cb imm w)) (fun v5 => some v5) = bindO (bindO (F114 K (z, Go.bits .or .i64 b (shlI .i64 1 y), w)) fun v5 => some v5) fun r => some (A c cb imm r)
    rw [bind_id, bind_id, F159_eq K c cb imm w h z _ hz (byte_bits .or (.inr (.inl rfl)) _ _ hb.1 hb.2 hs.1 hs.2)]
def Kp {ρ : Type} (P : ρ → Prop) (x : Option ρ) : Prop := ∀ r, x = some r → P r
section
variable {α ρ : Type} {P : ρ → Prop}
theorem Kp.ret {r : ρ} (h : P r) : Kp P (some r) := fun _ e => Option.some.inj e ▸ h
theorem Kp.br {c : Bool} {a b : Option ρ} (h1 : Kp P a) (h2 : Kp P b) : Kp P (branch c a b) := by cases c <;> assumption
theorem Kp.bind {x : Option α} {k : α → Option ρ} (h : ∀ v, x = some v → Kp P (k v)) : Kp P (bindO x k) := by
  cases x with
  | none => intro r e; cases e
  | some v => exact h v rfl
theorem Kp.guard {c : Bool} {a : Option ρ} (h : Kp P a) : Kp P (guard c a) := by
  cases c with
  | false => intro r e; cases e
  | true => exact h
end
abbrev cyc (w : WT) : Int := w.2.2.2.2.2.2.2.2.2.2.2.2.2.2.2.2.2.2.2.2.2.2.1
theorem F163_cy {K : Nat} {a v : Int} {w r : WT} (e : F163 K (a, v, w) = some r) : cyc r = cyc w := by
  have e1 : F163 K (a, v, w) = bindO (F163 K (a, v, w)) fun r => some (setCyc r (cyc w)) := F163_setCyc K w (cyc w) a v
  rw [e] at e1
  have e2 : r = setCyc r (cyc w) := Option.some.inj e1
  have e3 := congrArg cyc e2
  exact e3
theorem F114_cy {K : Nat} {k v : Int} {w r : WT} (e : F114 K (k, v, w) = some r) : cyc r = cyc w := by
  refine (?_ : Kp (fun r => cyc r = cyc w) (F114 K (k, v, w))) r e
  unfold F114
  exact Kp.br (Kp.ret rfl) (Kp.br (Kp.ret rfl) (Kp.br (Kp.ret rfl) (Kp.br (Kp.ret rfl) (Kp.br (Kp.ret rfl) (Kp.br (Kp.ret rfl) (Kp.br (Kp.bind fun _ _ => Kp.bind fun _ e => Kp.ret (F163_cy e)) (Kp.ret rfl)))))))
theorem F165_cy {K : Nat} {p v : Int} {af : Bool} {w r : WT} (e : F165 K (p, v, af, w) = some r) : cyc r = cyc w := by
  refine (?_ : Kp (fun r => cyc r = cyc w) (F165 K (p, v, af, w))) r e
  unfold F165
  exact Kp.br (Kp.bind fun _ e => Kp.bind fun _ e' => Kp.ret ((F114_cy e').trans (F114_cy e))) (Kp.br (Kp.ret rfl) (Kp.ret rfl))
theorem F171_cy {K : Nat} {w : WT} {r : Int × WT} (e : F171 K w = some r) : cyc r.2 = cyc w := by
  refine (?_ : Kp (fun r => cyc r.2 = cyc w) (F171 K w)) r e
  unfold F171
  exact Kp.bind fun _ _ => Kp.bind fun _ _ => Kp.ret rfl
theorem F173_cy {K : Nat} {v : Int} {w r : WT} (e : F173 K (v, w) = some r) : cyc r = cyc w := by
  refine (?_ : Kp (fun r => cyc r = cyc w) (F173 K (v, w))) r e
  unfold F173
  exact Kp.bind fun _ e => Kp.bind fun _ e' => Kp.ret ((F163_cy e').trans (F163_cy e))
theorem F174_cy {K : Nat} {v : Int} {w r : WT} (e : F174 K (v, w) = some r) : cyc r = cyc w := by
  refine (?_ : Kp (fun r => cyc r = cyc w) (F174 K (v, w))) r e
  unfold F174
  exact Kp.bind fun _ e => Kp.ret (by have h := F173_cy e; exact h)
theorem F170_cy {K : Nat} {v : Int} {w r : WT} (e : F170 K (v, w) = some r) : cyc r = cyc w := by
  refine (?_ : Kp (fun r => cyc r = cyc w) (F170 K (v, w))) r e
  unfold F170
  exact Kp.bind fun _ _ => Kp.br (Kp.bind fun _ _ => Kp.ret rfl) (Kp.br (Kp.bind fun _ _ => Kp.ret rfl) (Kp.br (Kp.bind fun _ _ => Kp.ret rfl) (Kp.br (Kp.bind fun _ _ => Kp.ret rfl) (Kp.bind fun _ _ => Kp.bind fun _ _ => Kp.bind fun _ _ => Kp.ret rfl))))
theorem F112_cy {K : Nat} {c : Int} {cb : Bool} {imm : Int} {w r : WT} (e : F112 K (c, cb, imm, w) = some r) : cyc r = cyc w := by
  refine (?_ : Kp (fun r => cyc r = cyc w) (F112 K (c, cb, imm, w))) r e
  unfold F112
  exact Kp.bind fun _ _ => Kp.guard (Kp.br (Kp.bind fun _ _ => Kp.bind fun _ e => Kp.ret (by have h := F114_cy e; exact h)) (Kp.br (Kp.bind fun _ _ => Kp.bind fun _ _ => Kp.ret rfl) (Kp.br (Kp.bind fun _ e => Kp.ret (F114_cy e)) (Kp.bind fun _ e => Kp.ret (F114_cy e)))))
end Go.U.Tryz
namespace Go.U.Tryz
open Go Go.U
set_option maxRecDepth 20000
def condC (c : Int) : Bool := decide (c = 32 ∨ c = 40 ∨ c = 48 ∨ c = 56 ∨ c = 192 ∨ c = 200 ∨ c = 208 ∨ c = 216 ∨ c = 194 ∨ c = 202 ∨ c = 210 ∨ c = 218 ∨ c = 196 ∨ c = 204 ∨ c = 212 ∨ c = 220)
def Al (k : Bool) (w : WT) (c : Int) (cb : Bool) (imm : Int) (p : Option (Bool × Int × Bool × Int × Bool × MT)) (q : Option (Bool × WT)) : Prop :=
  ∃ t t' w', p = some (t, A c cb imm w') ∧ q = some (t', w') ∧ cyc w' = cyc w ∧ (k = true → t = t')
theorem Al.of {w : WT} {c : Int} {cb : Bool} {imm : Int} {x : Option WT} {P : WT → Prop} (h : T x P) (hc : ∀ r, x = some r → cyc r = cyc w) (t t' : Bool) :
    Al false w c cb imm (bindO (bindO x fun r => some (A c cb imm r)) fun v => some (t, v)) (bindO x fun r => some (t', r)) := by
  obtain ⟨r, e, _⟩ := h
  have := hc r e
  subst e
  exact ⟨t, t', r, rfl, rfl, this, fun e => by cases e⟩
theorem Al.ret {k : Bool} {c : Int} {cb : Bool} {imm : Int} {w w' : WT} (t t' : Bool) (hc : cyc w' = cyc w) (h : k = true → t = t') : Al k w c cb imm (some (t, A c cb imm w')) (some (t', w')) := ⟨t, t', w', rfl, rfl, hc, h⟩
theorem Al.weak {w : WT} (c : Int) (cb : Bool) (imm : Int) {p : Option (Bool × Int × Bool × Int × Bool × MT)} {q : Option (Bool × WT)} {k k' : Bool} (a : Al k w c cb imm p q) (hk : k' = true → k = true) : Al k' w c cb imm p q := by
  obtain ⟨t, t', w', e1, e2, e4, e3⟩ := a
  exact ⟨t, t', w', e1, e2, e4, fun g => e3 (hk g)⟩
theorem Al.re {k : Bool} {c : Int} {cb : Bool} {imm : Int} {w w' : WT} {p : Option (Bool × Int × Bool × Int × Bool × MT)} {q : Option (Bool × WT)} (a : Al k w' c cb imm p q) (e : cyc w' = cyc w) : Al k w c cb imm p q := by
  obtain ⟨t, t', u, e1, e2, e3, e4⟩ := a
  exact ⟨t, t', u, e1, e2, e3.trans e, e4⟩
theorem low_1e (K : Nat) (c : Int) (cb : Bool) (imm : Int) (w : WT) (h : WInv w) (p : Int) (hp : p = 0 ∨ p = 1 ∨ p = 2 ∨ p = 3) (hi : 0 ≤ imm ∧ imm ≤ 65535) : Al false w c cb imm (F155 K (2 * p, 1, A c cb imm w)) (F113 K (16 * p + 1, cb, imm, w)) := by
  have l : F155 K (2 * p, 1, A c cb imm w) = bindO (F213 K (p, imm, A c cb imm w)) fun v1 => some (true, v1) := by rcases hp with rfl | rfl | rfl | rfl <;> kernel_rfl
  have r : F113 K (16 * p + 1, cb, imm, w) = bindO (F165 K (p, imm, false, w)) fun v8 => some (false, v8) := by rcases hp with rfl | rfl | rfl | rfl <;> kernel_rfl
  rw [l, r, F213_in K c cb imm w p imm (by omega) hi]
  exact Al.of (F165_t K w h _ _ _ hi) (fun _ => F165_cy) _ _
theorem low_1o (K : Nat) (c : Int) (cb : Bool) (imm : Int) (w : WT) (h : WInv w) (p : Int) (hp : p = 0 ∨ p = 1 ∨ p = 2 ∨ p = 3) : Al false w c cb imm (F155 K (2 * p + 1, 1, A c cb imm w)) (F113 K (16 * p + 9, cb, imm, w)) := by
  have l : F155 K (2 * p + 1, 1, A c cb imm w) = bindO (F215 K (A c cb imm w)) fun v2 => bindO (F216 K (p, A c cb imm w)) fun v3 => bindO (F214 K (v2.1, v3.1, w.2.1)) fun v4 => bindO (F213 K (2, v4.1, A c cb imm (setF w v4.2))) fun v5 => some (true, v5) := by rcases hp with rfl | rfl | rfl | rfl <;> kernel_rfl
  have r : F113 K (16 * p + 9, cb, imm, w) = bindO (F167 K w) fun v9 => bindO (F168 K (p, false, w)) fun v10 => bindO (F166 K (v9.1, v10.1, w.2.1)) fun v11 => bindO (F165 K (2, v11.1, false, w)) fun v12 => some (false, setF v12 v11.2) := by rcases hp with rfl | rfl | rfl | rfl <;> kernel_rfl
  have hh := h.h
  have hl := h.l
  have hf : 0 ≤ w.2.1 ∧ w.2.1 ≤ 255 := ⟨h.f.1, h.f.2.1⟩
  obtain ⟨⟨b, w'⟩, e, hb, hw'⟩ := F168_t K w h p false (by omega)
  dsimp only at hb
  obtain ⟨⟨s, g⟩, e2, hs, hg⟩ := F166_t K (256 * w.2.2.2.2.2.2.1 + w.2.2.2.2.2.2.2.1) b w.2.1
  dsimp only at hs hg
  rw [l, r, F215_eq K c cb imm w h, F167_eq K w h, F216_eq K c cb imm w h p (by omega), e]
  simp only [bindO_s]
  rw [F214_eq K _ _ _ (by omega) hb hf, e2]
  simp only [bindO_s]
  rw [F213_in K c cb imm (setF w g) 2 s (by omega) hs]
  exact ⟨true, false, setF (setHL w (w64 (Int.tdiv s 256)) (Int.tmod s 256)) g, rfl, rfl, rfl, fun e => by cases e⟩
theorem low_3 (K : Nat) (c : Int) (cb : Bool) (imm : Int) (w : WT) (h : WInv w) (y : Int) (hy : y = 0 ∨ y = 1 ∨ y = 2 ∨ y = 3 ∨ y = 4 ∨ y = 5 ∨ y = 6 ∨ y = 7) : Al false w c cb imm (F155 K (y, 3, A c cb imm w)) (F113 K (8 * y + 3, cb, imm, w)) := by
  have l : F155 K (y, 3, A c cb imm w) = bindO (F216 K (y / 2, A c cb imm w)) fun v7 => bindO (F213 K (y / 2, w64 (w64 (v7.1 + 1) - 2 * (y % 2)), A c cb imm w)) fun v8 => some (true, v8) := by rcases hy with rfl | rfl | rfl | rfl | rfl | rfl | rfl | rfl <;> kernel_rfl
  have r : F113 K (8 * y + 3, cb, imm, w) = bindO (F168 K (y / 2, false, w)) fun v19 => bindO (F165 K (y / 2, Int.tmod (w64 (v19.1 + (if y % 2 = 0 then 1 else 65535))) 65536, false, w)) fun v21 => some (false, v21) := by rcases hy with rfl | rfl | rfl | rfl | rfl | rfl | rfl | rfl <;> kernel_rfl
  obtain ⟨⟨b, w'⟩, e, hb, hw'⟩ := F168_t K w h (y / 2) false (by omega)
  dsimp only at hb
  rw [l, r, F216_eq K c cb imm w h _ (by omega), e]
  simp only [bindO_s]
  have e1 : w64 (w64 (b + 1) - 2 * (y % 2)) = b + 1 - 2 * (y % 2) := by rw [w64_id (n := b + 1) (by omega) (by omega), w64_id (by omega) (by omega)]
  have e2 : (b + 1 - 2 * (y % 2)) % 65536 = Int.tmod (w64 (b + (if y % 2 = 0 then 1 else 65535))) 65536 := by
    split
    · rw [w64_id (by omega) (by omega), tmE (by omega)]; omega
    · rw [w64_id (by omega) (by omega), tmE (by omega)]; omega
  rw [e1, F213_eq K c cb imm w _ _ (by omega) (by omega), ← e2]
  exact Al.of (F165_t K w h _ _ _ (by omega)) (fun _ => F165_cy) _ _
theorem low_45 (K : Nat) (c : Int) (cb : Bool) (imm : Int) (w : WT) (h : WInv w) (y : Int) (z : Int) (hz : z = 4 ∨ z = 5) (hy : y = 0 ∨ y = 1 ∨ y = 2 ∨ y = 3 ∨ y = 4 ∨ y = 5 ∨ y = 6 ∨ y = 7) : Al false w c cb imm (F155 K (y, z, A c cb imm w)) (F113 K (8 * y + z, cb, imm, w)) := by
  have l : F155 K (y, z, A c cb imm w) = bindO (F158 K (y, A c cb imm w)) fun v10 => bindO (F218 K (v10.1, w.2.1, decide (z = 5))) fun v11 => bindO (F159 K (y, v11.1, A c cb imm (setF w v11.2))) fun v12 => some (true, v12) := by rcases hz with rfl | rfl <;> kernel_rfl
  have r : F113 K (8 * y + z, cb, imm, w) = bindO (F115 K (y, w)) fun v23 => bindO (F169 K (v23.1, w.2.1, decide (z = 5))) fun v24 => bindO (F114 K (y, v24.1, w)) fun v25 => some (false, setF v25 v24.2) := by rcases hz with rfl | rfl <;> rcases hy with rfl | rfl | rfl | rfl | rfl | rfl | rfl | rfl <;> kernel_rfl
  have hy' : 0 ≤ y ∧ y ≤ 7 := by omega
  obtain ⟨⟨b, w'⟩, e, hb, hw'⟩ := F115_t K w h y hy'
  dsimp only at hb
  obtain ⟨⟨s, g⟩, e2, hs, hg⟩ := F169_t K b w.2.1 (decide (z = 5))
  dsimp only at hs hg
  rw [l, r, F158_eq K c cb imm w h _ hy', e]
  simp only [bindO_s]
  rw [F218_eq K b _ _ hb h.f, e2]
  simp only [bindO_s]
  have hw : WInv (setF w g) := h.set_f hg
  rw [F159_eq K c cb imm _ hw y s hy' hs, F114_f K w y s g hy']
  obtain ⟨q, e3, _⟩ := F114_t K w h y s hs
  rw [e3]
  exact ⟨true, false, setF q g, rfl, rfl, by have h := F114_cy e3; exact h, fun e => by cases e⟩
theorem low_6 (K : Nat) (c : Int) (cb : Bool) (imm : Int) (w : WT) (h : WInv w) (y : Int) (hy : y = 0 ∨ y = 1 ∨ y = 2 ∨ y = 3 ∨ y = 4 ∨ y = 5 ∨ y = 6 ∨ y = 7) (hi : 0 ≤ imm ∧ imm ≤ 255) : Al false w c cb imm (F155 K (y, 6, A c cb imm w)) (F113 K (8 * y + 6, cb, imm, w)) := by
  have l : F155 K (y, 6, A c cb imm w) = bindO (F159 K (y, imm, A c cb imm w)) fun v13 => some (true, v13) := by kernel_rfl
  have r : F113 K (8 * y + 6, cb, imm, w) = bindO (F114 K (y, imm, w)) fun v26 => some (false, v26) := by rcases hy with rfl | rfl | rfl | rfl | rfl | rfl | rfl | rfl <;> kernel_rfl
  have hy' : 0 ≤ y ∧ y ≤ 7 := by omega
  rw [l, r, F159_eq K c cb imm _ h y imm hy' hi]
  exact Al.of (F114_t K w h y imm hi) (fun _ => F114_cy) _ _
theorem low_7 (K : Nat) (c : Int) (cb : Bool) (imm : Int) (w : WT) (h : WInv w) (y : Int) (hy : y = 0 ∨ y = 1 ∨ y = 2 ∨ y = 3 ∨ y = 4 ∨ y = 5 ∨ y = 6 ∨ y = 7) : Al false w c cb imm (F155 K (y, 7, A c cb imm w)) (F113 K (8 * y + 7, cb, imm, w)) := by
  have l : F155 K (y, 7, A c cb imm w) = bindO (F219 K (y, A c cb imm w)) fun v13 => some (true, v13) := by kernel_rfl
  have r : F113 K (8 * y + 7, cb, imm, w) = bindO (F170 K (y, w)) fun v26 => some (false, v26) := by rcases hy with rfl | rfl | rfl | rfl | rfl | rfl | rfl | rfl <;> kernel_rfl
  have hy' : 0 ≤ y ∧ y ≤ 7 := by omega
  rw [l, r, F219_eq K c cb imm _ h y hy']
  exact Al.of (F170_t K w h y) (fun _ => F170_cy) _ _
theorem F163_hl (K : Nat) (w : WT) (a v : Int) (r : WT) (e : F163 K (a, v, w) = some r) : r.2.2.2.2.2.2.1 = w.2.2.2.2.2.2.1 ∧ r.2.2.2.2.2.2.2.1 = w.2.2.2.2.2.2.2.1 := by
  have e1 : F163 K (a, v, w) = bindO (F163 K (a, v, w)) fun r => some (setHL r w.2.2.2.2.2.2.1 w.2.2.2.2.2.2.2.1) := F163_setHL K w w.2.2.2.2.2.2.1 w.2.2.2.2.2.2.2.1 a v
  rw [e] at e1
  have e2 : r = setHL r w.2.2.2.2.2.2.1 w.2.2.2.2.2.2.2.1 := Option.some.inj e1
  have e3 := congrArg (fun q : WT => q.2.2.2.2.2.2.1) e2
  have e4 := congrArg (fun q : WT => q.2.2.2.2.2.2.2.1) e2
  exact ⟨e3, e4⟩
def fI (K : Nat) (y : Int) (X : Int × Bool × Int × Bool × MT) : Option (Int × Bool × Int × Bool × MT) :=
  branch (decide ((w64 (Int.tdiv y 2)) = 2)) (bindO (F215 K X) fun v4 => bindO (F213 K (2, w64 (v4.1 + 1), X)) fun v5 => some v5)
   (branch (decide ((w64 (Int.tdiv y 2)) = 3)) (bindO (F215 K X) fun v6 => bindO (F213 K (2, w64 (v6.1 - 1), X)) fun v7 => some v7) (some X))
def fS (K : Nat) (p b : Int) (w : WT) : Option (Bool × WT) :=
  branch (decide (1 < p)) (guard (decide (0 ≤ (w64 (p - 2)) ∧ (w64 (p - 2)) < (2 : Int))) <| nthN [1, 65535] ((w64 (p - 2)).toNat) fun v17 => bindO (F165 K (2, Int.tmod (w64 (b + v17)) 65536, false, w)) fun v18 => some (false, v18)) (some (false, w))
theorem hl_step (K : Nat) (c : Int) (cb : Bool) (imm : Int) (w : WT) (h : WInv w) (y b : Int) (hy : y = 0 ∨ y = 1 ∨ y = 2 ∨ y = 3 ∨ y = 4 ∨ y = 5 ∨ y = 6 ∨ y = 7) (hb : 4 ≤ y → b = 256 * w.2.2.2.2.2.2.1 + w.2.2.2.2.2.2.2.1) : Al false w c cb imm (bindO (fI K y (A c cb imm w)) fun v => some (true, v)) (fS K (y / 2) b w) := by
  have hh := h.h
  have hl := h.l
  have c1 : y = 0 ∨ y = 1 ∨ y = 2 ∨ y = 3 → Al false w c cb imm (bindO (fI K y (A c cb imm w)) fun v => some (true, v)) (fS K (y / 2) b w) := by
    rintro (rfl | rfl | rfl | rfl) <;> exact ⟨true, false, w, rfl, rfl, rfl, fun e => by cases e⟩
  have c2 : y = 4 ∨ y = 5 → Al false w c cb imm (bindO (fI K y (A c cb imm w)) fun v => some (true, v)) (fS K (y / 2) b w) := by
    intro g
    have l : fI K y (A c cb imm w) = bindO (F215 K (A c cb imm w)) fun v4 => bindO (F213 K (2, w64 (v4.1 + 1), A c cb imm w)) fun v5 => some v5 := by rcases g with rfl | rfl <;> kernel_rfl
    have r : fS K (y / 2) b w = bindO (F165 K (2, Int.tmod (w64 (b + 1)) 65536, false, w)) fun v => some (false, v) := by rcases g with rfl | rfl <;> kernel_rfl
    rw [l, r, hb (by omega), F215_eq K c cb imm w h]
    simp only [bindO_s, bind_id]
    rw [w64_id (by omega) (by omega), F213_eq K c cb imm w _ _ (by omega) (by omega), tmE (by omega)]
    exact Al.of (F165_t K w h _ _ _ (by omega)) (fun _ => F165_cy) _ _
  have c3 : y = 6 ∨ y = 7 → Al false w c cb imm (bindO (fI K y (A c cb imm w)) fun v => some (true, v)) (fS K (y / 2) b w) := by
    intro g
    have l : fI K y (A c cb imm w) = bindO (F215 K (A c cb imm w)) fun v4 => bindO (F213 K (2, w64 (v4.1 - 1), A c cb imm w)) fun v5 => some v5 := by rcases g with rfl | rfl <;> kernel_rfl
    have r : fS K (y / 2) b w = bindO (F165 K (2, Int.tmod (w64 (b + 65535)) 65536, false, w)) fun v => some (false, v) := by rcases g with rfl | rfl <;> kernel_rfl
    rw [l, r, hb (by omega), F215_eq K c cb imm w h]
    simp only [bindO_s, bind_id]
    have e : Int.tmod (256 * w.2.2.2.2.2.2.1 + w.2.2.2.2.2.2.2.1 + 65535) 65536 = (256 * w.2.2.2.2.2.2.1 + w.2.2.2.2.2.2.2.1 - 1) % 65536 := by rw [tmE (by omega)]; omega
    rw [w64_id (n := 256 * w.2.2.2.2.2.2.1 + w.2.2.2.2.2.2.2.1 - 1) (by omega) (by omega), w64_id (n := 256 * w.2.2.2.2.2.2.1 + w.2.2.2.2.2.2.2.1 + 65535) (by omega) (by omega), F213_eq K c cb imm w _ _ (by omega) (by omega), e]
    exact Al.of (F165_t K w h _ _ _ (by omega)) (fun _ => F165_cy) _ _
  rcases hy with g | g | g | g | g | g | g | g
  · exact c1 (.inl g)
  · exact c1 (.inr (.inl g))
  · exact c1 (.inr (.inr (.inl g)))
  · exact c1 (.inr (.inr (.inr g)))
  · exact c2 (.inl g)
  · exact c2 (.inr g)
  · exact c3 (.inl g)
  · exact c3 (.inr g)
theorem low_2 (K : Nat) (c : Int) (cb : Bool) (imm : Int) (w : WT) (h : WInv w) (y : Int) (hy : y = 0 ∨ y = 1 ∨ y = 2 ∨ y = 3 ∨ y = 4 ∨ y = 5 ∨ y = 6 ∨ y = 7) : Al false w c cb imm (F155 K (y, 2, A c cb imm w)) (F113 K (8 * y + 2, cb, imm, w)) := by
  have hh := h.h
  have hl := h.l
  have l : F155 K (y, 2, A c cb imm w) = bindO (bindO (F216 K (if y / 2 = 3 then 2 else y / 2, A c cb imm w)) fun v0 => bindO (if y % 2 = 0 then bindO (F230 K (v0.1, w.1, A c cb imm w)) fun v1 => some (y, v1) else bindO (F64 K (v0.1, WT.m w)) fun v2 => some (y, A c cb imm (setA w v2.1))) fun v3 => fI K v3.1 v3.2) fun v => some (true, v) := by
    rcases hy with rfl | rfl | rfl | rfl | rfl | rfl | rfl | rfl <;> kernel_rfl
  have r : F113 K (8 * y + 2, cb, imm, w) = bindO (F168 K (if y / 2 = 3 then 2 else y / 2, false, w)) fun v13 => bindO (if y % 2 = 0 then bindO (F163 K (v13.1, w.1, w)) fun v14 => some (y / 2, v13.1, v14) else bindO (F138 K (w.1, w.2.1, w.2.2.1, w.2.2.2.1, w.2.2.2.2.1, w.2.2.2.2.2.1, w.2.2.2.2.2.2.1, w.2.2.2.2.2.2.2.1, w.2.2.2.2.2.2.2.2.1, w.2.2.2.2.2.2.2.2.2.1, w.2.2.2.2.2.2.2.2.2.2.1, w.2.2.2.2.2.2.2.2.2.2.2.1, w.2.2.2.2.2.2.2.2.2.2.2.2.1, w.2.2.2.2.2.2.2.2.2.2.2.2.2.1, w.2.2.2.2.2.2.2.2.2.2.2.2.2.2.1, w.2.2.2.2.2.2.2.2.2.2.2.2.2.2.2.1, w.2.2.2.2.2.2.2.2.2.2.2.2.2.2.2.2.1, w.2.2.2.2.2.2.2.2.2.2.2.2.2.2.2.2.2.1, w.2.2.2.2.2.2.2.2.2.2.2.2.2.2.2.2.2.2.1, w.2.2.2.2.2.2.2.2.2.2.2.2.2.2.2.2.2.2.2.1, w.2.2.2.2.2.2.2.2.2.2.2.2.2.2.2.2.2.2.2.2.1, w.2.2.2.2.2.2.2.2.2.2.2.2.2.2.2.2.2.2.2.2.2.1, w.2.2.2.2.2.2.2.2.2.2.2.2.2.2.2.2.2.2.2.2.2.2.1, v13.1)) fun v15 => some (y / 2, v13.1, setA w v15)) fun v16 => fS K v16.1 v16.2.1 v16.2.2 := by
    rcases hy with rfl | rfl | rfl | rfl | rfl | rfl | rfl | rfl <;> kernel_rfl
  have hq : 0 ≤ (if y / 2 = 3 then 2 else y / 2) ∧ (if y / 2 = 3 then 2 else y / 2) ≤ 2 := by split <;> omega
  have h2 : 4 ≤ y → F168 K (if y / 2 = 3 then 2 else y / 2, false, w) = some (w64 (w64 (256 * w.2.2.2.2.2.2.1) + w.2.2.2.2.2.2.2.1), w) := by
    intro g
    have : (if y / 2 = 3 then 2 else y / 2) = 2 := by split <;> omega
    rw [this]; rfl
  generalize (if y / 2 = 3 then 2 else y / 2) = q at hq l r h2
  obtain ⟨⟨b, w'⟩, e, hb, hw'⟩ := F168_t K w h q false hq.1
  dsimp only at hb
  have hbb : 4 ≤ y → b = 256 * w.2.2.2.2.2.2.1 + w.2.2.2.2.2.2.2.1 := by
    intro g
    have e2 := (h2 g).symm.trans e
    have e3 := congrArg Prod.fst (Option.some.inj e2)
    simp only at e3
    rw [← e3, w64_id (n := 256 * w.2.2.2.2.2.2.1) (by omega) (by omega), w64_id (by omega) (by omega)]
  rw [l, r, F216_eq K c cb imm w h q ⟨hq.1, by omega⟩, e]
  simp only [bindO_s]
  by_cases g : y % 2 = 0
  · simp only [if_pos g]
    obtain ⟨w1, e1, i1⟩ := F163_t K w h b w.1 hb.1 h.a
    have hk := F163_hl K w b w.1 w1 e1
    rw [F230_eq K c cb imm w h _ _ hb.1 h.a, e1]
    simp only [bindO_s]
    exact Al.re (hl_step K c cb imm w1 i1 y b hy (by rw [hk.1, hk.2]; exact hbb)) (F163_cy e1)
  · simp only [if_neg g]
    obtain ⟨v, e1, i1⟩ := F138_t K w h b hb.1
    have e2 : b % 65536 = b := by omega
    rw [F64_w K w h, e2, e1]
    simp only [bindO_s]
    exact Al.re (hl_step K c cb imm (setA w v) (h.set_a i1) y b hy hbb) rfl
theorem F212_id (K : Nat) (c : Int) (cb : Bool) (imm : Int) (w : WT) (y : Int) : F155 K (y, 0, A c cb imm w) = F212 K (y, A c cb imm w) := by
  have l : F155 K (y, 0, A c cb imm w) = bindO (F212 K (y, A c cb imm w)) fun v0 => some v0 := by kernel_rfl
  rw [l, bind_id]
theorem low_0a (K : Nat) (c : Int) (cb : Bool) (imm : Int) (w : WT) (h : WInv w) (y : Int) (hy : y = 0 ∨ y = 2) : Al false w c cb imm (F155 K (y, 0, A c cb imm w)) (F113 K (8 * y, cb, imm, w)) := by
  rw [F212_id]
  have l : F212 K (y, A c cb imm w) = some (true, A c cb imm w) := by rcases hy with rfl | rfl <;> kernel_rfl
  have r : F113 K (8 * y, cb, imm, w) = some (false, w) := by rcases hy with rfl | rfl <;> kernel_rfl
  rw [l, r]
  exact Al.ret _ _ rfl (fun e => by cases e)
theorem low_0b (K : Nat) (c : Int) (cb : Bool) (imm : Int) (w : WT) (h : WInv w) (hi : 0 ≤ imm ∧ imm ≤ 65535) : Al false w c cb imm (F155 K (1, 0, A c cb imm w)) (F113 K (8, cb, imm, w)) := by
  have hs := h.sp
  rw [F212_id]
  have l : F212 K (1, A c cb imm w) = bindO (F230 K (imm, bits .and .i64 w.2.2.2.2.2.2.2.2.1 255, A c cb imm w)) fun v0 => bindO (F230 K (w64 (v0.2.2.1 + 1), shrI .i64 v0.2.2.2.2.2.2.2.2.2.2.2.2.1 8, v0)) fun v1 => some (true, v1) := by kernel_rfl
  have r : F113 K (8, cb, imm, w) = bindO (F163 K (imm, Int.tmod w.2.2.2.2.2.2.2.2.1 256, w)) fun v1 => bindO (F163 K (w64 (imm + 1), w64 (Int.tdiv v1.2.2.2.2.2.2.2.2.1 256), v1)) fun v2 => some (false, v2) := by kernel_rfl
  have d1 : bits .and .i64 w.2.2.2.2.2.2.2.2.1 255 = Int.tmod w.2.2.2.2.2.2.2.2.1 256 := by rw [and255, tmE hs.1]
  have d2 : 0 ≤ Int.tmod w.2.2.2.2.2.2.2.2.1 256 ∧ Int.tmod w.2.2.2.2.2.2.2.2.1 256 ≤ 255 := by rw [tmE hs.1]; omega
  obtain ⟨r1, e1, i1⟩ := F163_t K w h imm (Int.tmod w.2.2.2.2.2.2.2.2.1 256) hi.1 d2
  have hs1 := i1.sp
  rw [l, r, d1, F230_eq K c cb imm w h imm _ hi.1 d2, e1]
  show Al false w c cb imm (bindO (F230 K (w64 (imm + 1), shrI .i64 r1.2.2.2.2.2.2.2.2.1 8, A c cb imm r1)) fun v1 => some (true, v1)) (bindO (F163 K (w64 (imm + 1), w64 (Int.tdiv r1.2.2.2.2.2.2.2.2.1 256), r1)) fun v2 => some (false, v2))
  have d3 : shrI .i64 r1.2.2.2.2.2.2.2.2.1 8 = w64 (Int.tdiv r1.2.2.2.2.2.2.2.2.1 256) := by rw [shr8, tdE hs1.1, w64_id (by omega) (by omega)]
  have d4 : 0 ≤ w64 (Int.tdiv r1.2.2.2.2.2.2.2.2.1 256) ∧ w64 (Int.tdiv r1.2.2.2.2.2.2.2.2.1 256) ≤ 255 := by rw [tdE hs1.1, w64_id (by omega) (by omega)]; omega
  have d5 : 0 ≤ w64 (imm + 1) := by rw [w64_id (by omega) (by omega)]; omega
  rw [d3, F230_eq K c cb imm r1 i1 _ _ d5 d4]
  exact Al.re (Al.of (F163_t K r1 i1 _ _ d5 d4) (fun _ => F163_cy) _ _) (F163_cy e1)
def jmp (w : WT) (s : Int) : WT := setPc w (Int.tmod (w64 (w64 (w.2.2.2.2.2.2.2.2.2.1 + s) + 65536)) 65536)
theorem low_0c (K : Nat) (c : Int) (cb : Bool) (imm : Int) (w : WT) (h : WInv w) : Al false w c cb imm (F155 K (3, 0, A c cb imm w)) (F113 K (24, cb, imm, w)) := by
  rw [F212_id]
  have l : F212 K (3, A c cb imm w) = bindO (F251 K (A c cb imm w)) fun v2 => some (true, v2) := by kernel_rfl
  have r : F113 K (24, cb, imm, w) = bindO (F144 K imm) fun v6 => some (true, jmp w v6) := by kernel_rfl
  obtain ⟨s, e, _⟩ := F144_t K imm
  rw [l, r, F251_eq K c cb imm w h, e]
  exact ⟨true, true, jmp w s, rfl, rfl, rfl, fun _ => rfl⟩
theorem cond_forms (K : Nat) (c : Int) (cb : Bool) (imm : Int) (w : WT) (k : Int) (hk : k = 0 ∨ k = 1 ∨ k = 2 ∨ k = 3) (f : Int) (hf : f = 0 ∨ f = 16 ∨ f = 32 ∨ f = 48 ∨ f = 64 ∨ f = 80 ∨ f = 96 ∨ f = 112 ∨ f = 128 ∨ f = 144 ∨ f = 160 ∨ f = 176 ∨ f = 192 ∨ f = 208 ∨ f = 224 ∨ f = 240) :
    F212 K (4 + k, A c cb imm (setF w f)) = (if cnd k f = true then bindO (F251 K (A c cb imm (setF w f))) (fun v2 => some (true, v2)) else some (false, A c cb imm (setF w f))) ∧
    F113 K (8 * (4 + k), cb, imm, setF w f) = (if cnd k f = true then bindO (F144 K imm) (fun v6 => some (true, jmp (setF w f) v6)) else some (false, setF w f)) := by
  rcases hk with rfl | rfl | rfl | rfl <;> rcases hf with rfl | rfl | rfl | rfl | rfl | rfl | rfl | rfl | rfl | rfl | rfl | rfl | rfl | rfl | rfl | rfl <;> refine ⟨?_, ?_⟩ <;> kernel_rfl
theorem low_0d (K : Nat) (c : Int) (cb : Bool) (imm : Int) (w : WT) (h : WInv w) (k : Int) (hk : k = 0 ∨ k = 1 ∨ k = 2 ∨ k = 3) : Al true w c cb imm (F155 K (4 + k, 0, A c cb imm w)) (F113 K (8 * (4 + k), cb, imm, w)) := by
  obtain ⟨l, r⟩ := cond_forms K c cb imm w k hk w.2.1 (f16 h.f)
  rw [setF_self] at l r
  rw [F212_id, l, r]
  by_cases g : cnd k w.2.1 = true
  · rw [if_pos g, if_pos g]
    obtain ⟨s, e, _⟩ := F144_t K imm
    rw [F251_eq K c cb imm w h, e]
    exact ⟨true, true, jmp w s, rfl, rfl, rfl, fun _ => rfl⟩
  · rw [if_neg g, if_neg g]
    exact ⟨false, false, w, rfl, rfl, rfl, fun _ => rfl⟩
theorem low_eq (K : Nat) (c : Int) (cb : Bool) (imm : Int) (w : WT) (h : WInv w) (n : Int) (hn : 0 ≤ n ∧ n ≤ 63) (hi : 0 ≤ imm ∧ imm ≤ 65535) (h6 : n % 8 = 6 → imm ≤ 255) :
    Al (condC n) w c cb imm (F155 K (n / 8, n % 8, A c cb imm w)) (F113 K (n, cb, imm, w)) := by
  obtain ⟨y, hy⟩ : ∃ y, n / 8 = y := ⟨_, rfl⟩
  have hy' : y = 0 ∨ y = 1 ∨ y = 2 ∨ y = 3 ∨ y = 4 ∨ y = 5 ∨ y = 6 ∨ y = 7 := by omega
  have hz : n % 8 = 0 ∨ n % 8 = 1 ∨ n % 8 = 2 ∨ n % 8 = 3 ∨ n % 8 = 4 ∨ n % 8 = 5 ∨ n % 8 = 6 ∨ n % 8 = 7 := by omega
  have nc : ¬ n % 8 = 0 → condC n = true → false = true := by
    intro g g2
    have := of_decide_eq_true g2
    omega
  rcases hz with g | g | g | g | g | g | g | g
  · have e : n = 8 * y := by omega
    rw [hy, g]
    by_cases g3 : y ≤ 3
    · have n2 : condC n = true → false = true := by
        intro g2
        have := of_decide_eq_true g2
        omega
      refine Al.weak c cb imm ?_ n2
      have : y = 0 ∨ y = 2 ∨ y = 1 ∨ y = 3 := by omega
      rcases this with rfl | rfl | rfl | rfl
      · rw [e]; exact low_0a K c cb imm w h 0 (.inl rfl)
      · rw [e]; exact low_0a K c cb imm w h 2 (.inr rfl)
      · rw [e]; exact low_0b K c cb imm w h hi
      · rw [e]; exact low_0c K c cb imm w h
    · obtain ⟨k, rfl⟩ : ∃ k, y = 4 + k := ⟨y - 4, by omega⟩
      rw [e]
      exact Al.weak c cb imm (low_0d K c cb imm w h k (by omega)) fun _ => rfl
  · refine Al.weak c cb imm ?_ (nc (by omega))
    rw [hy, g]
    by_cases g3 : y % 2 = 0
    · obtain ⟨p, rfl⟩ : ∃ p, y = 2 * p := ⟨y / 2, by omega⟩
      have : n = 16 * p + 1 := by omega
      rw [this]
      exact low_1e K c cb imm w h p (by omega) hi
    · obtain ⟨p, rfl⟩ : ∃ p, y = 2 * p + 1 := ⟨y / 2, by omega⟩
      have : n = 16 * p + 9 := by omega
      rw [this]
      exact low_1o K c cb imm w h p (by omega)
  · refine Al.weak c cb imm ?_ (nc (by omega))
    have : n = 8 * y + 2 := by omega
    rw [hy, g, this]
    exact low_2 K c cb imm w h y hy'
  · refine Al.weak c cb imm ?_ (nc (by omega))
    have : n = 8 * y + 3 := by omega
    rw [hy, g, this]
    exact low_3 K c cb imm w h y hy'
  · refine Al.weak c cb imm ?_ (nc (by omega))
    have : n = 8 * y + 4 := by omega
    rw [hy, g, this]
    exact low_45 K c cb imm w h y 4 (.inl rfl) hy'
  · refine Al.weak c cb imm ?_ (nc (by omega))
    have : n = 8 * y + 5 := by omega
    rw [hy, g, this]
    exact low_45 K c cb imm w h y 5 (.inr rfl) hy'
  · refine Al.weak c cb imm ?_ (nc (by omega))
    have : n = 8 * y + 6 := by omega
    rw [hy, g, this]
    exact low_6 K c cb imm w h y hy' ⟨hi.1, h6 g⟩
  · refine Al.weak c cb imm ?_ (nc (by omega))
    have : n = 8 * y + 7 := by omega
    rw [hy, g, this]
    exact low_7 K c cb imm w h y hy'
end Go.U.Tryz
namespace Go.U.Tryz
open Go Go.U
set_option maxRecDepth 20000
def setIme (w : WT) (i : Bool) : WT := (w.1, w.2.1, w.2.2.1, w.2.2.2.1, w.2.2.2.2.1, w.2.2.2.2.2.1, w.2.2.2.2.2.2.1, w.2.2.2.2.2.2.2.1, w.2.2.2.2.2.2.2.2.1, w.2.2.2.2.2.2.2.2.2.1, i, w.2.2.2.2.2.2.2.2.2.2.2)
abbrev AT := Int × Bool × Int × Bool × MT
def aPc (u : AT) (v : Int) : AT := (u.1, u.2.1, u.2.2.1, u.2.2.2.1, u.2.2.2.2.1, u.2.2.2.2.2.1, u.2.2.2.2.2.2.1, u.2.2.2.2.2.2.2.1, u.2.2.2.2.2.2.2.2.1, u.2.2.2.2.2.2.2.2.2.1, u.2.2.2.2.2.2.2.2.2.2.1, u.2.2.2.2.2.2.2.2.2.2.2.1, u.2.2.2.2.2.2.2.2.2.2.2.2.1, v, u.2.2.2.2.2.2.2.2.2.2.2.2.2.2)
def aPcI (u : AT) (v : Int) (i : Bool) : AT := (u.1, u.2.1, u.2.2.1, u.2.2.2.1, u.2.2.2.2.1, u.2.2.2.2.2.1, u.2.2.2.2.2.2.1, u.2.2.2.2.2.2.2.1, u.2.2.2.2.2.2.2.2.1, u.2.2.2.2.2.2.2.2.2.1, u.2.2.2.2.2.2.2.2.2.2.1, u.2.2.2.2.2.2.2.2.2.2.2.1, u.2.2.2.2.2.2.2.2.2.2.2.2.1, v, i, u.2.2.2.2.2.2.2.2.2.2.2.2.2.2.2)
def aAF (u : AT) (x y : Int) : AT := (u.1, u.2.1, u.2.2.1, u.2.2.2.1, x, y, u.2.2.2.2.2.2)
def aBC (u : AT) (x y : Int) : AT := (u.1, u.2.1, u.2.2.1, u.2.2.2.1, u.2.2.2.2.1, u.2.2.2.2.2.1, x, y, u.2.2.2.2.2.2.2.2)
def aDE (u : AT) (x y : Int) : AT := (u.1, u.2.1, u.2.2.1, u.2.2.2.1, u.2.2.2.2.1, u.2.2.2.2.2.1, u.2.2.2.2.2.2.1, u.2.2.2.2.2.2.2.1, x, y, u.2.2.2.2.2.2.2.2.2.2)
def aHL (u : AT) (x y : Int) : AT := (u.1, u.2.1, u.2.2.1, u.2.2.2.1, u.2.2.2.2.1, u.2.2.2.2.2.1, u.2.2.2.2.2.2.1, u.2.2.2.2.2.2.2.1, u.2.2.2.2.2.2.2.2.1, u.2.2.2.2.2.2.2.2.2.1, x, y, u.2.2.2.2.2.2.2.2.2.2.2.2)
theorem ret_ime (r : WT) (v : Int) (g : Bool) : branch r.2.2.2.2.2.2.2.2.2.2.1 (some (true, setPcI r v true)) (some (true, setPcI r v g)) = some (true, setPcI r v (r.2.2.2.2.2.2.2.2.2.2.1 || g)) := by
  generalize r.2.2.2.2.2.2.2.2.2.2.1 = b
  cases b <;> rfl
theorem setPcI_self (r : WT) (v : Int) : setPcI r v (r.2.2.2.2.2.2.2.2.2.2.1 || false) = setPc r v := by
  rw [Bool.or_false]; rfl
theorem setPcI_true (r : WT) (v : Int) : setPcI r v (r.2.2.2.2.2.2.2.2.2.2.1 || true) = setPcI r v true := by
  rw [Bool.or_true]
theorem hi_forms (K : Nat) (c : Int) (cb : Bool) (imm : Int) (w : WT) (k : Int) (hk : k = 0 ∨ k = 1 ∨ k = 2 ∨ k = 3) (f : Int) (hf : f = 0 ∨ f = 16 ∨ f = 32 ∨ f = 48 ∨ f = 64 ∨ f = 80 ∨ f = 96 ∨ f = 112 ∨ f = 128 ∨ f = 144 ∨ f = 160 ∨ f = 176 ∨ f = 192 ∨ f = 208 ∨ f = 224 ∨ f = 240) :
    F156 K (k, 0, A c cb imm (setF w f)) = (if cnd k f = true then bindO (F221 K (A c cb imm (setF w f))) (fun v8 => some (true, aPc v8.2 v8.1)) else some (false, A c cb imm (setF w f))) ∧
    F117 K (192 + 8 * k, cb, imm, setF w f) = (if cnd k f = true then bindO (F171 K (setF w f)) (fun v3 => branch v3.2.2.2.2.2.2.2.2.2.2.2.1 (some (true, setPcI v3.2 v3.1 true)) (some (true, setPcI v3.2 v3.1 false))) else some (false, setF w f)) ∧
    F156 K (k, 2, A c cb imm (setF w f)) = (if cnd k f = true then some (true, A c cb imm (setPc (setF w f) imm)) else some (false, A c cb imm (setF w f))) ∧
    F117 K (194 + 8 * k, cb, imm, setF w f) = (if cnd k f = true then some (true, setPc (setF w f) imm) else some (false, setF w f)) ∧
    F156 K (k, 4, A c cb imm (setF w f)) = (if cnd k f = true then bindO (F225 K (imm, A c cb imm (setF w f))) (fun v8 => some (true, v8)) else some (false, A c cb imm (setF w f))) ∧
    F117 K (196 + 8 * k, cb, imm, setF w f) = (if cnd k f = true then bindO (F174 K (imm, setF w f)) (fun v3 => some (true, v3)) else some (false, setF w f)) := by
  rcases hk with rfl | rfl | rfl | rfl <;> rcases hf with rfl | rfl | rfl | rfl | rfl | rfl | rfl | rfl | rfl | rfl | rfl | rfl | rfl | rfl | rfl | rfl <;> refine ⟨?_, ?_, ?_, ?_, ?_, ?_⟩ <;> kernel_rfl
theorem hi_0c (K : Nat) (c : Int) (cb : Bool) (imm : Int) (w : WT) (h : WInv w) (k : Int) (hk : k = 0 ∨ k = 1 ∨ k = 2 ∨ k = 3) : Al true w c cb imm (F156 K (k, 0, A c cb imm w)) (F117 K (192 + 8 * k, cb, imm, w)) := by
  obtain ⟨l, r, _⟩ := hi_forms K c cb imm w k hk w.2.1 (f16 h.f)
  rw [setF_self] at l r
  rw [l, r]
  by_cases g : cnd k w.2.1 = true
  · rw [if_pos g, if_pos g]
    obtain ⟨⟨s, w'⟩, e, _⟩ := F171_t K w h
    have hcy : cyc w' = cyc w := F171_cy (r := (s, w')) e
    rw [F221_eq K c cb imm w h, e]
    simp only [bindO_s]
    rw [ret_ime, setPcI_self]
    exact ⟨true, true, setPc w' s, rfl, rfl, hcy, fun _ => rfl⟩
  · rw [if_neg g, if_neg g]
    exact ⟨false, false, w, rfl, rfl, rfl, fun _ => rfl⟩
theorem hi_2c (K : Nat) (c : Int) (cb : Bool) (imm : Int) (w : WT) (h : WInv w) (k : Int) (hk : k = 0 ∨ k = 1 ∨ k = 2 ∨ k = 3) : Al true w c cb imm (F156 K (k, 2, A c cb imm w)) (F117 K (194 + 8 * k, cb, imm, w)) := by
  obtain ⟨_, _, l, r, _⟩ := hi_forms K c cb imm w k hk w.2.1 (f16 h.f)
  rw [setF_self] at l r
  rw [l, r]
  by_cases g : cnd k w.2.1 = true
  · rw [if_pos g, if_pos g]
    exact ⟨true, true, setPc w imm, rfl, rfl, rfl, fun _ => rfl⟩
  · rw [if_neg g, if_neg g]
    exact ⟨false, false, w, rfl, rfl, rfl, fun _ => rfl⟩
theorem hi_4c (K : Nat) (c : Int) (cb : Bool) (imm : Int) (w : WT) (h : WInv w) (k : Int) (hk : k = 0 ∨ k = 1 ∨ k = 2 ∨ k = 3) (hi : 0 ≤ imm ∧ imm ≤ 65535) : Al true w c cb imm (F156 K (k, 4, A c cb imm w)) (F117 K (196 + 8 * k, cb, imm, w)) := by
  obtain ⟨_, _, _, _, l, r⟩ := hi_forms K c cb imm w k hk w.2.1 (f16 h.f)
  rw [setF_self] at l r
  rw [l, r]
  by_cases g : cnd k w.2.1 = true
  · rw [if_pos g, if_pos g]
    obtain ⟨w', e, _⟩ := F174_t K w h imm hi
    have hcy : cyc w' = cyc w := F174_cy (r := w') e
    rw [F225_eq K c cb imm w h, e]
    exact ⟨true, true, w', rfl, rfl, hcy, fun _ => rfl⟩
  · rw [if_neg g, if_neg g]
    exact ⟨false, false, w, rfl, rfl, rfl, fun _ => rfl⟩
theorem put_al (K : Nat) (c : Int) (cb : Bool) (imm : Int) (w : WT) (h : WInv w) (a v : Int) (ha : 0 ≤ a) (hv : 0 ≤ v ∧ v ≤ 255) : Al false w c cb imm (bindO (bindO (F230 K (a, v, A c cb imm w)) fun v1 => some v1) fun v13 => some (true, v13)) (bindO (F163 K (a, v, w)) fun v5 => some (false, v5)) := by
  rw [bind_id, F230_eq K c cb imm w h a v ha hv]
  exact Al.of (F163_t K w h a v ha hv) (fun _ => F163_cy) _ _
theorem get_al (K : Nat) (c : Int) (cb : Bool) (imm : Int) (w : WT) (h : WInv w) (a : Int) (ha : 0 ≤ a ∧ a ≤ 65535) : Al false w c cb imm (bindO (bindO (F64 K (a, WT.m w)) fun v1 => some (A c cb imm (setA w v1.1))) fun v13 => some (true, v13)) (bindO (F138 K (w.1, w.2.1, w.2.2.1, w.2.2.2.1, w.2.2.2.2.1, w.2.2.2.2.2.1, w.2.2.2.2.2.2.1, w.2.2.2.2.2.2.2.1, w.2.2.2.2.2.2.2.2.1, w.2.2.2.2.2.2.2.2.2.1, w.2.2.2.2.2.2.2.2.2.2.1, w.2.2.2.2.2.2.2.2.2.2.2.1, w.2.2.2.2.2.2.2.2.2.2.2.2.1, w.2.2.2.2.2.2.2.2.2.2.2.2.2.1, w.2.2.2.2.2.2.2.2.2.2.2.2.2.2.1, w.2.2.2.2.2.2.2.2.2.2.2.2.2.2.2.1, w.2.2.2.2.2.2.2.2.2.2.2.2.2.2.2.2.1, w.2.2.2.2.2.2.2.2.2.2.2.2.2.2.2.2.2.1, w.2.2.2.2.2.2.2.2.2.2.2.2.2.2.2.2.2.2.1, w.2.2.2.2.2.2.2.2.2.2.2.2.2.2.2.2.2.2.2.1, w.2.2.2.2.2.2.2.2.2.2.2.2.2.2.2.2.2.2.2.2.1, w.2.2.2.2.2.2.2.2.2.2.2.2.2.2.2.2.2.2.2.2.2.1, w.2.2.2.2.2.2.2.2.2.2.2.2.2.2.2.2.2.2.2.2.2.2.1, a)) fun v5 => some (false, setA w v5)) := by
  obtain ⟨v, e, _⟩ := F138_t K w h a ha.1
  have e2 : a % 65536 = a := by omega
  rw [F64_w K w h, e2, e]
  exact ⟨true, false, setA w v, rfl, rfl, rfl, fun e => by cases e⟩
theorem hi_04 (K : Nat) (c : Int) (cb : Bool) (imm : Int) (w : WT) (h : WInv w) (hi : 0 ≤ imm ∧ imm ≤ 255) : Al false w c cb imm (F156 K (4, 0, A c cb imm w)) (F117 K (224, cb, imm, w)) := by
  have l : F156 K (4, 0, A c cb imm w) = bindO (bindO (F230 K (w64 (65280 + imm), w.1, A c cb imm w)) fun v1 => some v1) fun v13 => some (true, v13) := by kernel_rfl
  have r : F117 K (224, cb, imm, w) = bindO (F163 K (w64 (65280 + imm), w.1, w)) fun v5 => some (false, v5) := by kernel_rfl
  rw [l, r, w64_id (by omega) (by omega)]
  exact put_al K c cb imm w h _ _ (by omega) h.a
theorem hi_05 (K : Nat) (c : Int) (cb : Bool) (imm : Int) (w : WT) (h : WInv w) (hi : 0 ≤ imm ∧ imm ≤ 255) : Al false w c cb imm (F156 K (5, 0, A c cb imm w)) (F117 K (232, cb, imm, w)) := by
  have l : F156 K (5, 0, A c cb imm w) = bindO (bindO (F253 K (w.2.2.2.2.2.2.2.2.1, imm)) fun v1 => some (A c cb imm (setSp (setF w v1.2) v1.1))) fun v9 => some (true, v9) := by kernel_rfl
  have r : F117 K (232, cb, imm, w) = bindO (F172 K (w.2.2.2.2.2.2.2.2.1, imm)) fun v1 => some (false, setSp (setF w v1.2) v1.1) := by kernel_rfl
  obtain ⟨v, e, _⟩ := F172_t K w.2.2.2.2.2.2.2.2.1 imm
  rw [l, r, F253_eq K _ _ h.sp hi, e]
  exact ⟨true, false, setSp (setF w v.2) v.1, rfl, rfl, rfl, fun e => by cases e⟩
theorem hi_06 (K : Nat) (c : Int) (cb : Bool) (imm : Int) (w : WT) (h : WInv w) (hi : 0 ≤ imm ∧ imm ≤ 255) : Al false w c cb imm (F156 K (6, 0, A c cb imm w)) (F117 K (240, cb, imm, w)) := by
  have l : F156 K (6, 0, A c cb imm w) = bindO (bindO (F64 K (w64 (65280 + imm), WT.m w)) fun v1 => some (A c cb imm (setA w v1.1))) fun v13 => some (true, v13) := by kernel_rfl
  have r : F117 K (240, cb, imm, w) = bindO (F138 K (w.1, w.2.1, w.2.2.1, w.2.2.2.1, w.2.2.2.2.1, w.2.2.2.2.2.1, w.2.2.2.2.2.2.1, w.2.2.2.2.2.2.2.1, w.2.2.2.2.2.2.2.2.1, w.2.2.2.2.2.2.2.2.2.1, w.2.2.2.2.2.2.2.2.2.2.1, w.2.2.2.2.2.2.2.2.2.2.2.1, w.2.2.2.2.2.2.2.2.2.2.2.2.1, w.2.2.2.2.2.2.2.2.2.2.2.2.2.1, w.2.2.2.2.2.2.2.2.2.2.2.2.2.2.1, w.2.2.2.2.2.2.2.2.2.2.2.2.2.2.2.1, w.2.2.2.2.2.2.2.2.2.2.2.2.2.2.2.2.1, w.2.2.2.2.2.2.2.2.2.2.2.2.2.2.2.2.2.1, w.2.2.2.2.2.2.2.2.2.2.2.2.2.2.2.2.2.2.1, w.2.2.2.2.2.2.2.2.2.2.2.2.2.2.2.2.2.2.2.1, w.2.2.2.2.2.2.2.2.2.2.2.2.2.2.2.2.2.2.2.2.1, w.2.2.2.2.2.2.2.2.2.2.2.2.2.2.2.2.2.2.2.2.2.1, w.2.2.2.2.2.2.2.2.2.2.2.2.2.2.2.2.2.2.2.2.2.2.1, w64 (65280 + imm))) fun v5 => some (false, setA w v5) := by kernel_rfl
  rw [l, r, w64_id (by omega) (by omega)]
  exact get_al K c cb imm w h _ (by omega)
theorem hi_07 (K : Nat) (c : Int) (cb : Bool) (imm : Int) (w : WT) (h : WInv w) (hi : 0 ≤ imm ∧ imm ≤ 255) : Al false w c cb imm (F156 K (7, 0, A c cb imm w)) (F117 K (248, cb, imm, w)) := by
  have l : F156 K (7, 0, A c cb imm w) = bindO (bindO (F253 K (w.2.2.2.2.2.2.2.2.1, imm)) fun v3 => bindO (F213 K (2, v3.1, A c cb imm (setF w v3.2))) fun v4 => some v4) fun v9 => some (true, v9) := by kernel_rfl
  have r : F117 K (248, cb, imm, w) = bindO (F172 K (w.2.2.2.2.2.2.2.2.1, imm)) fun v11 => bindO (F165 K (2, v11.1, false, w)) fun v12 => some (false, setF v12 v11.2) := by kernel_rfl
  obtain ⟨⟨s, g⟩, e, hs, hg⟩ := F172_t K w.2.2.2.2.2.2.2.2.1 imm
  dsimp only at hs
  rw [l, r, F253_eq K _ _ h.sp hi, e]
  simp only [bindO_s, bind_id]
  rw [F213_in K c cb imm (setF w g) 2 s (by omega) hs]
  exact ⟨true, false, setF (setHL w (w64 (Int.tdiv s 256)) (Int.tmod s 256)) g, rfl, rfl, rfl, fun e => by cases e⟩
theorem hi8 (v : Int) (hv : 0 ≤ v ∧ v ≤ 65535) : shrI .i64 v 8 = w64 (Int.tdiv v 256) := by
  rw [shr8, tdE hv.1, w64_id (by omega) (by omega)]
theorem lo8 (v : Int) (hv : 0 ≤ v ∧ v ≤ 65535) : bits .and .i64 v 255 = Int.tmod v 256 := by
  rw [and255, tmE hv.1]
theorem and240 (b : Int) (hb : 0 ≤ b ∧ b ≤ 255) : bits .and .i64 b 240 = w64 (w64 (Int.tdiv b 16) * 16) := by
  obtain ⟨n, rfl⟩ : ∃ n : Nat, b = (n : Int) := ⟨b.toNat, by omega⟩
  have k : ((List.range 256).all fun n => decide (bits .and .i64 (n : Int) 240 = w64 (w64 (Int.tdiv (n : Int) 16) * 16))) = true := by kernel_rfl
  exact of_decide_eq_true (List.all_eq_true.1 k n (List.mem_range.2 (by omega)))
theorem hi_1p (K : Nat) (c : Int) (cb : Bool) (imm : Int) (w : WT) (h : WInv w) (p : Int) (hp : p = 0 ∨ p = 1 ∨ p = 2 ∨ p = 3) : Al false w c cb imm (F156 K (2 * p, 1, A c cb imm w)) (F117 K (193 + 16 * p, cb, imm, w)) := by
  have r : F117 K (193 + 16 * p, cb, imm, w) = bindO (F171 K w) fun v16 => bindO (F165 K (p, v16.1, true, v16.2)) fun v17 => some (false, v17) := by rcases hp with rfl | rfl | rfl | rfl <;> kernel_rfl
  obtain ⟨⟨s, w'⟩, e, hs, hw'⟩ := F171_t K w h
  have hcy : cyc w' = cyc w := F171_cy (r := (s, w')) e
  dsimp only at hs
  have hlo : 0 ≤ Int.tmod s 256 ∧ Int.tmod s 256 ≤ 255 := by rw [tmE hs.1]; omega
  rw [r, e]
  rcases hp with rfl | rfl | rfl | rfl
  · have l : F156 K (2 * 0, 1, A c cb imm w) = bindO (bindO (F221 K (A c cb imm w)) fun v0 => some (aBC v0.2 (shrI .i64 v0.1 8) (bits .and .i64 v0.1 255))) fun v10 => some (true, v10) := by kernel_rfl
    rw [l, F221_eq K c cb imm w h, e]
    simp only [bindO_s]
    rw [hi8 s hs, lo8 s hs]
    exact ⟨true, false, setBC w' (w64 (Int.tdiv s 256)) (Int.tmod s 256), rfl, rfl, hcy, fun e => by cases e⟩
  · have l : F156 K (2 * 1, 1, A c cb imm w) = bindO (bindO (F221 K (A c cb imm w)) fun v0 => some (aDE v0.2 (shrI .i64 v0.1 8) (bits .and .i64 v0.1 255))) fun v10 => some (true, v10) := by kernel_rfl
    rw [l, F221_eq K c cb imm w h, e]
    simp only [bindO_s]
    rw [hi8 s hs, lo8 s hs]
    exact ⟨true, false, setDE w' (w64 (Int.tdiv s 256)) (Int.tmod s 256), rfl, rfl, hcy, fun e => by cases e⟩
  · have l : F156 K (2 * 2, 1, A c cb imm w) = bindO (bindO (F221 K (A c cb imm w)) fun v0 => some (aHL v0.2 (shrI .i64 v0.1 8) (bits .and .i64 v0.1 255))) fun v10 => some (true, v10) := by kernel_rfl
    rw [l, F221_eq K c cb imm w h, e]
    simp only [bindO_s]
    rw [hi8 s hs, lo8 s hs]
    exact ⟨true, false, setHL w' (w64 (Int.tdiv s 256)) (Int.tmod s 256), rfl, rfl, hcy, fun e => by cases e⟩
  · have l : F156 K (2 * 3, 1, A c cb imm w) = bindO (bindO (F221 K (A c cb imm w)) fun v0 => some (aAF v0.2 (shrI .i64 v0.1 8) (bits .and .i64 (bits .and .i64 v0.1 255) 240))) fun v10 => some (true, v10) := by kernel_rfl
    rw [l, F221_eq K c cb imm w h, e]
    simp only [bindO_s]
    rw [hi8 s hs, lo8 s hs, and240 _ hlo]
    exact ⟨true, false, setAF w' (w64 (Int.tdiv s 256)) (w64 (w64 (Int.tdiv (Int.tmod s 256) 16) * 16)), rfl, rfl, hcy, fun e => by cases e⟩
theorem hi_11 (K : Nat) (c : Int) (cb : Bool) (imm : Int) (w : WT) (h : WInv w) : Al false w c cb imm (F156 K (1, 1, A c cb imm w)) (F117 K (201, cb, imm, w)) := by
  have l : F156 K (1, 1, A c cb imm w) = bindO (bindO (F221 K (A c cb imm w)) fun v5 => some (aPc v5.2 v5.1)) fun v10 => some (true, v10) := by kernel_rfl
  have r : F117 K (201, cb, imm, w) = bindO (F171 K w) (fun v3 => branch v3.2.2.2.2.2.2.2.2.2.2.2.1 (some (true, setPcI v3.2 v3.1 true)) (some (true, setPcI v3.2 v3.1 false))) := by kernel_rfl
  obtain ⟨⟨s, w'⟩, e, _⟩ := F171_t K w h
  have hcy : cyc w' = cyc w := F171_cy (r := (s, w')) e
  rw [l, r, F221_eq K c cb imm w h, e]
  simp only [bindO_s]
  rw [ret_ime, setPcI_self]
  exact ⟨true, true, setPc w' s, rfl, rfl, hcy, fun _ => rfl⟩
theorem hi_13 (K : Nat) (c : Int) (cb : Bool) (imm : Int) (w : WT) (h : WInv w) : Al false w c cb imm (F156 K (3, 1, A c cb imm w)) (F117 K (217, cb, imm, w)) := by
  have l : F156 K (3, 1, A c cb imm w) = bindO (bindO (F221 K (A c cb imm w)) fun v5 => some (aPcI v5.2 v5.1 true)) fun v10 => some (true, v10) := by kernel_rfl
  have r : F117 K (217, cb, imm, w) = bindO (F171 K w) (fun v3 => branch v3.2.2.2.2.2.2.2.2.2.2.2.1 (some (true, setPcI v3.2 v3.1 true)) (some (true, setPcI v3.2 v3.1 true))) := by kernel_rfl
  obtain ⟨⟨s, w'⟩, e, _⟩ := F171_t K w h
  have hcy : cyc w' = cyc w := F171_cy (r := (s, w')) e
  rw [l, r, F221_eq K c cb imm w h, e]
  simp only [bindO_s]
  rw [ret_ime, setPcI_true]
  exact ⟨true, true, setPcI w' s true, rfl, rfl, hcy, fun _ => rfl⟩
theorem hi_15 (K : Nat) (c : Int) (cb : Bool) (imm : Int) (w : WT) (h : WInv w) : Al false w c cb imm (F156 K (5, 1, A c cb imm w)) (F117 K (233, cb, imm, w)) := by
  have l : F156 K (5, 1, A c cb imm w) = bindO (bindO (F215 K (A c cb imm w)) fun v7 => some (A c cb imm (setPc w v7.1))) fun v10 => some (true, v10) := by kernel_rfl
  have r : F117 K (233, cb, imm, w) = bindO (F167 K w) fun v14 => some (false, setPc w v14.1) := by kernel_rfl
  rw [l, r, F215_eq K c cb imm w h, F167_eq K w h]
  exact ⟨true, false, setPc w (256 * w.2.2.2.2.2.2.1 + w.2.2.2.2.2.2.2.1), rfl, rfl, rfl, fun e => by cases e⟩
theorem hi_17 (K : Nat) (c : Int) (cb : Bool) (imm : Int) (w : WT) (h : WInv w) : Al false w c cb imm (F156 K (7, 1, A c cb imm w)) (F117 K (249, cb, imm, w)) := by
  have l : F156 K (7, 1, A c cb imm w) = bindO (bindO (F215 K (A c cb imm w)) fun v7 => some (A c cb imm (setSp w v7.1))) fun v10 => some (true, v10) := by kernel_rfl
  have r : F117 K (249, cb, imm, w) = bindO (F167 K w) fun v14 => some (false, setSp w v14.1) := by kernel_rfl
  rw [l, r, F215_eq K c cb imm w h, F167_eq K w h]
  exact ⟨true, false, setSp w (256 * w.2.2.2.2.2.2.1 + w.2.2.2.2.2.2.2.1), rfl, rfl, rfl, fun e => by cases e⟩
theorem hi_24 (K : Nat) (c : Int) (cb : Bool) (imm : Int) (w : WT) (h : WInv w) : Al false w c cb imm (F156 K (4, 2, A c cb imm w)) (F117 K (226, cb, imm, w)) := by
  have hr := h.c
  have l : F156 K (4, 2, A c cb imm w) = bindO (bindO (F230 K (w64 (65280 + w.2.2.2.1), w.1, A c cb imm w)) fun v1 => some v1) fun v13 => some (true, v13) := by kernel_rfl
  have r : F117 K (226, cb, imm, w) = bindO (F163 K (w64 (65280 + w.2.2.2.1), w.1, w)) fun v5 => some (false, v5) := by kernel_rfl
  rw [l, r, w64_id (by omega) (by omega)]
  exact put_al K c cb imm w h _ _ (by omega) h.a
theorem hi_25 (K : Nat) (c : Int) (cb : Bool) (imm : Int) (w : WT) (h : WInv w) (hi : 0 ≤ imm ∧ imm ≤ 65535) : Al false w c cb imm (F156 K (5, 2, A c cb imm w)) (F117 K (234, cb, imm, w)) := by
  have l : F156 K (5, 2, A c cb imm w) = bindO (bindO (F230 K (imm, w.1, A c cb imm w)) fun v1 => some v1) fun v13 => some (true, v13) := by kernel_rfl
  have r : F117 K (234, cb, imm, w) = bindO (F163 K (imm, w.1, w)) fun v5 => some (false, v5) := by kernel_rfl
  rw [l, r]
  exact put_al K c cb imm w h _ _ hi.1 h.a
theorem hi_26 (K : Nat) (c : Int) (cb : Bool) (imm : Int) (w : WT) (h : WInv w) : Al false w c cb imm (F156 K (6, 2, A c cb imm w)) (F117 K (242, cb, imm, w)) := by
  have hr := h.c
  have l : F156 K (6, 2, A c cb imm w) = bindO (bindO (F64 K (w64 (65280 + w.2.2.2.1), WT.m w)) fun v1 => some (A c cb imm (setA w v1.1))) fun v13 => some (true, v13) := by kernel_rfl
  have r : F117 K (242, cb, imm, w) = bindO (F138 K (w.1, w.2.1, w.2.2.1, w.2.2.2.1, w.2.2.2.2.1, w.2.2.2.2.2.1, w.2.2.2.2.2.2.1, w.2.2.2.2.2.2.2.1, w.2.2.2.2.2.2.2.2.1, w.2.2.2.2.2.2.2.2.2.1, w.2.2.2.2.2.2.2.2.2.2.1, w.2.2.2.2.2.2.2.2.2.2.2.1, w.2.2.2.2.2.2.2.2.2.2.2.2.1, w.2.2.2.2.2.2.2.2.2.2.2.2.2.1, w.2.2.2.2.2.2.2.2.2.2.2.2.2.2.1, w.2.2.2.2.2.2.2.2.2.2.2.2.2.2.2.1, w.2.2.2.2.2.2.2.2.2.2.2.2.2.2.2.2.1, w.2.2.2.2.2.2.2.2.2.2.2.2.2.2.2.2.2.1, w.2.2.2.2.2.2.2.2.2.2.2.2.2.2.2.2.2.2.1, w.2.2.2.2.2.2.2.2.2.2.2.2.2.2.2.2.2.2.2.1, w.2.2.2.2.2.2.2.2.2.2.2.2.2.2.2.2.2.2.2.2.1, w.2.2.2.2.2.2.2.2.2.2.2.2.2.2.2.2.2.2.2.2.2.1, w.2.2.2.2.2.2.2.2.2.2.2.2.2.2.2.2.2.2.2.2.2.2.1, w64 (65280 + w.2.2.2.1))) fun v5 => some (false, setA w v5) := by kernel_rfl
  rw [l, r, w64_id (by omega) (by omega)]
  exact get_al K c cb imm w h _ (by omega)
theorem hi_27 (K : Nat) (c : Int) (cb : Bool) (imm : Int) (w : WT) (h : WInv w) (hi : 0 ≤ imm ∧ imm ≤ 65535) : Al false w c cb imm (F156 K (7, 2, A c cb imm w)) (F117 K (250, cb, imm, w)) := by
  have l : F156 K (7, 2, A c cb imm w) = bindO (bindO (F64 K (imm, WT.m w)) fun v1 => some (A c cb imm (setA w v1.1))) fun v13 => some (true, v13) := by kernel_rfl
  have r : F117 K (250, cb, imm, w) = bindO (F138 K (w.1, w.2.1, w.2.2.1, w.2.2.2.1, w.2.2.2.2.1, w.2.2.2.2.2.1, w.2.2.2.2.2.2.1, w.2.2.2.2.2.2.2.1, w.2.2.2.2.2.2.2.2.1, w.2.2.2.2.2.2.2.2.2.1, w.2.2.2.2.2.2.2.2.2.2.1, w.2.2.2.2.2.2.2.2.2.2.2.1, w.2.2.2.2.2.2.2.2.2.2.2.2.1, w.2.2.2.2.2.2.2.2.2.2.2.2.2.1, w.2.2.2.2.2.2.2.2.2.2.2.2.2.2.1, w.2.2.2.2.2.2.2.2.2.2.2.2.2.2.2.1, w.2.2.2.2.2.2.2.2.2.2.2.2.2.2.2.2.1, w.2.2.2.2.2.2.2.2.2.2.2.2.2.2.2.2.2.1, w.2.2.2.2.2.2.2.2.2.2.2.2.2.2.2.2.2.2.1, w.2.2.2.2.2.2.2.2.2.2.2.2.2.2.2.2.2.2.2.1, w.2.2.2.2.2.2.2.2.2.2.2.2.2.2.2.2.2.2.2.2.1, w.2.2.2.2.2.2.2.2.2.2.2.2.2.2.2.2.2.2.2.2.2.1, w.2.2.2.2.2.2.2.2.2.2.2.2.2.2.2.2.2.2.2.2.2.2.1, imm)) fun v5 => some (false, setA w v5) := by kernel_rfl
  rw [l, r]
  exact get_al K c cb imm w h _ hi
theorem hi_30 (K : Nat) (c : Int) (cb : Bool) (imm : Int) (w : WT) : Al false w c cb imm (F156 K (0, 3, A c cb imm w)) (F117 K (195, cb, imm, w)) := by
  have l : F156 K (0, 3, A c cb imm w) = some (true, A c cb imm (setPc w imm)) := by kernel_rfl
  have r : F117 K (195, cb, imm, w) = some (true, setPc w imm) := by kernel_rfl
  rw [l, r]
  exact Al.ret _ _ rfl fun _ => rfl
theorem hi_36 (K : Nat) (c : Int) (cb : Bool) (imm : Int) (w : WT) : Al false w c cb imm (F156 K (6, 3, A c cb imm w)) (F117 K (243, cb, imm, w)) := by
  have l : F156 K (6, 3, A c cb imm w) = some (true, A c cb imm (setIme w false)) := by kernel_rfl
  have r : F117 K (243, cb, imm, w) = some (false, setIme w false) := by kernel_rfl
  rw [l, r]
  exact Al.ret _ _ rfl fun e => by cases e
theorem hi_37 (K : Nat) (c : Int) (cb : Bool) (imm : Int) (w : WT) : Al false w c cb imm (F156 K (7, 3, A c cb imm w)) (F117 K (251, cb, imm, w)) := by
  have l : F156 K (7, 3, A c cb imm w) = some (true, A c cb imm (setIme w true)) := by kernel_rfl
  have r : F117 K (251, cb, imm, w) = some (false, setIme w true) := by kernel_rfl
  rw [l, r]
  exact Al.ret _ _ rfl fun e => by cases e
theorem hi_5p (K : Nat) (c : Int) (cb : Bool) (imm : Int) (w : WT) (h : WInv w) (p : Int) (hp : p = 0 ∨ p = 1 ∨ p = 2 ∨ p = 3) : Al false w c cb imm (F156 K (2 * p, 5, A c cb imm w)) (F117 K (197 + 16 * p, cb, imm, w)) := by
  have r : F117 K (197 + 16 * p, cb, imm, w) = bindO (F168 K (p, true, w)) fun v19 => bindO (F173 K (v19.1, w)) fun v20 => some (false, v20) := by rcases hp with rfl | rfl | rfl | rfl <;> kernel_rfl
  obtain ⟨⟨s, w'⟩, e, hs, hw'⟩ := F168_t K w h p true (by omega)
  dsimp only at hs
  have l : F156 K (2 * p, 5, A c cb imm w) = bindO (F227 K (s, A c cb imm w)) fun v => some (true, v) := by
    rcases hp with rfl | rfl | rfl | rfl
    · have e2 : F168 K (0, true, w) = some (w64 (w64 (256 * w.2.2.1) + w.2.2.2.1), w) := by kernel_rfl
      have e3 := congrArg Prod.fst (Option.some.inj (e.symm.trans e2))
      simp only at e3
      refine Eq.trans (b := bindO (F227 K (bits .or .i64 (shlI .i64 w.2.2.1 8) w.2.2.2.1, A c cb imm w)) fun v => some (true, v)) (by kernel_rfl) ?_
      rw [e3, pair_eq _ _ h.b h.c]
    · have e2 : F168 K (1, true, w) = some (w64 (w64 (256 * w.2.2.2.2.1) + w.2.2.2.2.2.1), w) := by kernel_rfl
      have e3 := congrArg Prod.fst (Option.some.inj (e.symm.trans e2))
      simp only at e3
      refine Eq.trans (b := bindO (F227 K (bits .or .i64 (shlI .i64 w.2.2.2.2.1 8) w.2.2.2.2.2.1, A c cb imm w)) fun v => some (true, v)) (by kernel_rfl) ?_
      rw [e3, pair_eq _ _ h.d h.e]
    · have e2 : F168 K (2, true, w) = some (w64 (w64 (256 * w.2.2.2.2.2.2.1) + w.2.2.2.2.2.2.2.1), w) := by kernel_rfl
      have e3 := congrArg Prod.fst (Option.some.inj (e.symm.trans e2))
      simp only at e3
      refine Eq.trans (b := bindO (F227 K (bits .or .i64 (shlI .i64 w.2.2.2.2.2.2.1 8) w.2.2.2.2.2.2.2.1, A c cb imm w)) fun v => some (true, v)) (by kernel_rfl) ?_
      rw [e3, pair_eq _ _ h.h h.l]
    · have e2 : F168 K (3, true, w) = some (w64 (w64 (256 * w.1) + w.2.1), w) := by kernel_rfl
      have e3 := congrArg Prod.fst (Option.some.inj (e.symm.trans e2))
      simp only at e3
      refine Eq.trans (b := bindO (F227 K (bits .or .i64 (shlI .i64 w.1 8) w.2.1, A c cb imm w)) fun v => some (true, v)) (by kernel_rfl) ?_
      rw [e3, pair_eq _ _ h.a ⟨h.f.1, h.f.2.1⟩]
  rw [l, r, e]
  simp only [bindO_s]
  rw [F227_eq K c cb imm w h s hs]
  exact Al.of (F173_t K w h s hs) (fun _ => F173_cy) _ _
theorem hi_51 (K : Nat) (c : Int) (cb : Bool) (imm : Int) (w : WT) (h : WInv w) (hi : 0 ≤ imm ∧ imm ≤ 65535) : Al false w c cb imm (F156 K (1, 5, A c cb imm w)) (F117 K (205, cb, imm, w)) := by
  have l : F156 K (1, 5, A c cb imm w) = bindO (F225 K (imm, A c cb imm w)) fun v15 => some (true, v15) := by kernel_rfl
  have r : F117 K (205, cb, imm, w) = bindO (F174 K (imm, w)) fun v28 => some (true, v28) := by kernel_rfl
  rw [l, r, F225_eq K c cb imm w h]
  exact Al.of (F174_t K w h imm hi) (fun _ => F174_cy) _ _
theorem hi_6 (K : Nat) (c : Int) (cb : Bool) (imm : Int) (w : WT) (h : WInv w) (y : Int) (hy : y = 0 ∨ y = 1 ∨ y = 2 ∨ y = 3 ∨ y = 4 ∨ y = 5 ∨ y = 6 ∨ y = 7) (hi : 0 ≤ imm ∧ imm ≤ 255) : Al false w c cb imm (F156 K (y, 6, A c cb imm w)) (F117 K (198 + 8 * y, cb, imm, w)) := by
  have l : F156 K (y, 6, A c cb imm w) = bindO (F157 K (y, imm, A c cb imm w)) fun v15 => some (true, v15) := by rcases hy with rfl | rfl | rfl | rfl | rfl | rfl | rfl | rfl <;> kernel_rfl
  have r : F117 K (198 + 8 * y, cb, imm, w) = bindO (F116 K (y, w.1, imm, w.2.1)) fun v29 => some (false, setAF w v29.1 v29.2) := by rcases hy with rfl | rfl | rfl | rfl | rfl | rfl | rfl | rfl <;> kernel_rfl
  obtain ⟨v, e, _⟩ := F116_t K y w.1 imm w.2.1 h.a hi ⟨h.f.1, h.f.2.1⟩
  rw [l, r, F157_eq K c cb imm w h y imm (by omega) hi, e]
  exact ⟨true, false, setAF w v.1 v.2, rfl, rfl, rfl, fun e => by cases e⟩
theorem hi_7 (K : Nat) (c : Int) (cb : Bool) (imm : Int) (w : WT) (h : WInv w) (y : Int) (hy : y = 0 ∨ y = 1 ∨ y = 2 ∨ y = 3 ∨ y = 4 ∨ y = 5 ∨ y = 6 ∨ y = 7) : Al false w c cb imm (F156 K (y, 7, A c cb imm w)) (F117 K (199 + 8 * y, cb, imm, w)) := by
  have l : F156 K (y, 7, A c cb imm w) = bindO (F225 K (w64 (8 * y), A c cb imm w)) fun v15 => some (true, v15) := by rcases hy with rfl | rfl | rfl | rfl | rfl | rfl | rfl | rfl <;> kernel_rfl
  have r : F117 K (199 + 8 * y, cb, imm, w) = bindO (F174 K (w64 (8 * y), w)) fun v28 => some (false, v28) := by rcases hy with rfl | rfl | rfl | rfl | rfl | rfl | rfl | rfl <;> kernel_rfl
  rw [l, r, F225_eq K c cb imm w h]
  exact Al.of (F174_t K w h _ (by rw [w64_id (by omega) (by omega)]; omega)) (fun _ => F174_cy) _ _
def noC (n : Int) : Prop := n = 203 ∨ n = 211 ∨ n = 219 ∨ n = 227 ∨ n = 235 ∨ n = 228 ∨ n = 236 ∨ n = 244 ∨ n = 252 ∨ n = 221 ∨ n = 237 ∨ n = 253
theorem high_eq (K : Nat) (c : Int) (cb : Bool) (imm : Int) (w : WT) (h : WInv w) (n : Int) (hn : 192 ≤ n ∧ n ≤ 255) (hv : ¬ noC n) (hi : 0 ≤ imm ∧ imm ≤ 65535) (h6 : (n % 8 = 6 ∨ n = 224 ∨ n = 232 ∨ n = 240 ∨ n = 248) → imm ≤ 255) :
    Al (condC n) w c cb imm (F156 K (n / 8 % 8, n % 8, A c cb imm w)) (F117 K (n, cb, imm, w)) := by
  obtain ⟨y, hy⟩ : ∃ y, n / 8 % 8 = y := ⟨_, rfl⟩
  have hy' : y = 0 ∨ y = 1 ∨ y = 2 ∨ y = 3 ∨ y = 4 ∨ y = 5 ∨ y = 6 ∨ y = 7 := by omega
  have hz : n % 8 = 0 ∨ n % 8 = 1 ∨ n % 8 = 2 ∨ n % 8 = 3 ∨ n % 8 = 4 ∨ n % 8 = 5 ∨ n % 8 = 6 ∨ n % 8 = 7 := by omega
  have nc : (n % 8 = 1 ∨ n % 8 = 3 ∨ 5 ≤ n % 8 ∨ 4 ≤ y) → condC n = true → false = true := by
    intro g g2
    have := of_decide_eq_true g2
    omega
  unfold noC at hv
  rcases hz with g | g | g | g | g | g | g | g
  · have e : n = 192 + 8 * y := by omega
    rw [hy, g]
    by_cases g3 : y ≤ 3
    · rw [e]; exact Al.weak c cb imm (hi_0c K c cb imm w h y (by omega)) fun _ => rfl
    · refine Al.weak c cb imm ?_ (nc (by omega))
      have : y = 4 ∨ y = 5 ∨ y = 6 ∨ y = 7 := by omega
      rcases this with rfl | rfl | rfl | rfl
      · rw [e]; exact hi_04 K c cb imm w h ⟨hi.1, h6 (by omega)⟩
      · rw [e]; exact hi_05 K c cb imm w h ⟨hi.1, h6 (by omega)⟩
      · rw [e]; exact hi_06 K c cb imm w h ⟨hi.1, h6 (by omega)⟩
      · rw [e]; exact hi_07 K c cb imm w h ⟨hi.1, h6 (by omega)⟩
  · refine Al.weak c cb imm ?_ (nc (by omega))
    rw [hy, g]
    by_cases g3 : y % 2 = 0
    · obtain ⟨p, rfl⟩ : ∃ p, y = 2 * p := ⟨y / 2, by omega⟩
      have : n = 193 + 16 * p := by omega
      rw [this]
      exact hi_1p K c cb imm w h p (by omega)
    · have e : n = 193 + 8 * y := by omega
      have : y = 1 ∨ y = 3 ∨ y = 5 ∨ y = 7 := by omega
      rcases this with rfl | rfl | rfl | rfl
      · rw [e]; exact hi_11 K c cb imm w h
      · rw [e]; exact hi_13 K c cb imm w h
      · rw [e]; exact hi_15 K c cb imm w h
      · rw [e]; exact hi_17 K c cb imm w h
  · have e : n = 194 + 8 * y := by omega
    rw [hy, g]
    by_cases g3 : y ≤ 3
    · rw [e]; exact Al.weak c cb imm (hi_2c K c cb imm w h y (by omega)) fun _ => rfl
    · refine Al.weak c cb imm ?_ (nc (by omega))
      have : y = 4 ∨ y = 5 ∨ y = 6 ∨ y = 7 := by omega
      rcases this with rfl | rfl | rfl | rfl
      · rw [e]; exact hi_24 K c cb imm w h
      · rw [e]; exact hi_25 K c cb imm w h hi
      · rw [e]; exact hi_26 K c cb imm w h
      · rw [e]; exact hi_27 K c cb imm w h hi
  · refine Al.weak c cb imm ?_ (nc (by omega))
    have e : n = 195 + 8 * y := by omega
    rw [hy, g]
    have : y = 0 ∨ y = 6 ∨ y = 7 := by omega
    rcases this with rfl | rfl | rfl
    · rw [e]; exact hi_30 K c cb imm w
    · rw [e]; exact hi_36 K c cb imm w
    · rw [e]; exact hi_37 K c cb imm w
  · have e : n = 196 + 8 * y := by omega
    rw [hy, g, e]
    exact Al.weak c cb imm (hi_4c K c cb imm w h y (by omega) hi) fun _ => rfl
  · refine Al.weak c cb imm ?_ (nc (by omega))
    rw [hy, g]
    by_cases g3 : y % 2 = 0
    · obtain ⟨p, rfl⟩ : ∃ p, y = 2 * p := ⟨y / 2, by omega⟩
      have : n = 197 + 16 * p := by omega
      rw [this]
      exact hi_5p K c cb imm w h p (by omega)
    · have : y = 1 := by omega
      subst this
      have e : n = 205 := by omega
      rw [e]; exact hi_51 K c cb imm w h hi
  · refine Al.weak c cb imm ?_ (nc (by omega))
    have : n = 198 + 8 * y := by omega
    rw [hy, g, this]
    exact hi_6 K c cb imm w h y hy' ⟨hi.1, h6 (.inl g)⟩
  · refine Al.weak c cb imm ?_ (nc (by omega))
    have : n = 199 + 8 * y := by omega
    rw [hy, g, this]
    exact hi_7 K c cb imm w h y hy'
end Go.U.Tryz
