/- A part of the proof. No condition. -/
import Derived.Test.YtncclmpabjglmaaGreatDoorP2
set_option linter.unusedVariables false
set_option linter.unusedSimpArgs false
set_option linter.unusedSectionVars false
namespace Go.U.Tryz
open Go Go.U
set_option linter.unusedVariables false
set_option linter.unusedSimpArgs false
set_option maxRecDepth 20000
def setCyc (w : WT) (v : Int) : WT := (w.1, w.2.1, w.2.2.1, w.2.2.2.1, w.2.2.2.2.1, w.2.2.2.2.2.1, w.2.2.2.2.2.2.1, w.2.2.2.2.2.2.2.1, w.2.2.2.2.2.2.2.2.1, w.2.2.2.2.2.2.2.2.2.1, w.2.2.2.2.2.2.2.2.2.2.1, w.2.2.2.2.2.2.2.2.2.2.2.1, w.2.2.2.2.2.2.2.2.2.2.2.2.1, w.2.2.2.2.2.2.2.2.2.2.2.2.2.1, w.2.2.2.2.2.2.2.2.2.2.2.2.2.2.1, w.2.2.2.2.2.2.2.2.2.2.2.2.2.2.2.1, w.2.2.2.2.2.2.2.2.2.2.2.2.2.2.2.2.1, w.2.2.2.2.2.2.2.2.2.2.2.2.2.2.2.2.2.1, w.2.2.2.2.2.2.2.2.2.2.2.2.2.2.2.2.2.2.1, w.2.2.2.2.2.2.2.2.2.2.2.2.2.2.2.2.2.2.2.1, w.2.2.2.2.2.2.2.2.2.2.2.2.2.2.2.2.2.2.2.2.1, w.2.2.2.2.2.2.2.2.2.2.2.2.2.2.2.2.2.2.2.2.2.1, v, w.2.2.2.2.2.2.2.2.2.2.2.2.2.2.2.2.2.2.2.2.2.2.2)
def setPc (w : WT) (v : Int) : WT := (w.1, w.2.1, w.2.2.1, w.2.2.2.1, w.2.2.2.2.1, w.2.2.2.2.2.1, w.2.2.2.2.2.2.1, w.2.2.2.2.2.2.2.1, w.2.2.2.2.2.2.2.2.1, v, w.2.2.2.2.2.2.2.2.2.2)
end Go.U.Tryz
namespace Go.U.Tryz
open Go Go.U
set_option linter.unusedVariables false
set_option linter.unusedSimpArgs false
set_option maxRecDepth 20000
def Kp {ρ : Type} (P : ρ → Prop) (x : Option ρ) : Prop := ∀ r, x = some r → P r
section
variable {α ρ : Type} {P : ρ → Prop}
theorem Kp.ret {r : ρ} (h : P r) : Kp P (some r) := fun _ e => Option.some.inj e ▸ h
theorem Kp.br {c : Bool} {a b : Option ρ} (h1 : Kp P a) (h2 : Kp P b) : Kp P (branch c a b) := by cases c <;> assumption
theorem Kp.bind {x : Option α} {k : α → Option ρ} (h : ∀ v, x = some v → Kp P (k v)) : Kp P (bindO x k) := by
  cases x with
  | none => intro r e; cases e
  | some v => exact h v rfl
theorem Kp.guard {c : Bool} {a : Option ρ} (h : Kp P a) : Kp P (guard c a) := by
  cases c with
  | false => intro r e; cases e
  | true => exact h
end
abbrev cyc (w : WT) : Int := w.2.2.2.2.2.2.2.2.2.2.2.2.2.2.2.2.2.2.2.2.2.2.1
end Go.U.Tryz
namespace Go.U.Tryz
open Go Go.U
set_option linter.unusedVariables false
set_option linter.unusedSimpArgs false
set_option maxRecDepth 20000
def Al (k : Bool) (w : WT) (c : Int) (cb : Bool) (imm : Int) (p : Option (Bool × Int × Bool × Int × Bool × MT)) (q : Option (Bool × WT)) : Prop :=
  ∃ t t' w', p = some (t, A c cb imm w') ∧ q = some (t', w') ∧ cyc w' = cyc w ∧ (k = true → t = t')
theorem Al.of {w : WT} {c : Int} {cb : Bool} {imm : Int} {x : Option WT} {P : WT → Prop} (h : T x P) (hc : ∀ r, x = some r → cyc r = cyc w) (t t' : Bool) :
    Al false w c cb imm (bindO (bindO x fun r => some (A c cb imm r)) fun v => some (t, v)) (bindO x fun r => some (t', r)) := by
  obtain ⟨r, e, _⟩ := h
  have := hc r e
  subst e
  exact ⟨t, t', r, rfl, rfl, this, fun e => by cases e⟩
theorem Al.ret {k : Bool} {c : Int} {cb : Bool} {imm : Int} {w w' : WT} (t t' : Bool) (hc : cyc w' = cyc w) (h : k = true → t = t') : Al k w c cb imm (some (t, A c cb imm w')) (some (t', w')) := ⟨t, t', w', rfl, rfl, hc, h⟩
end Go.U.Tryz
namespace Go.U.Tryz
open Go Go.U
set_option linter.unusedVariables false
set_option linter.unusedSimpArgs false
set_option maxRecDepth 20000
abbrev AT := Int × Bool × Int × Bool × MT
end Go.U.Tryz
