/- A part of the proof. No condition. -/
import Derived.Test.YtncclmpabjglmaaGreatDoorP3
import Derived.Test.YtncclmpabjglmaaGreatDoorP1
import Derived.Test.YtncclmpabjglmaaGreatDoorVMe
import Derived.Test.YtncclmpabjglmaaGreatDoorVMh
set_option linter.unusedVariables false
set_option linter.unusedSimpArgs false
set_option linter.unusedSectionVars false
namespace Go.U.Tryz
open Go Go.U
set_option linter.unusedVariables false
set_option linter.unusedSimpArgs false
set_option maxRecDepth 20000
theorem iter_go {α β : Type} {n : Nat} {f : α → Option (α ⊕ β)} {a a' : α} (h : f a = some (.inl a')) : iter (n + 1) f a = iter n f a' := by simp only [iter, h]
theorem iter_end {α β : Type} {n : Nat} {f : α → Option (α ⊕ β)} {a : α} {b : β} (h : f a = some (.inr b)) : iter (n + 1) f a = some b := by simp only [iter, h]
theorem F134_1 (k : Nat) (v : Int) : F134 (k + 40) (v, 1) = some (toB [w8 v]) := by kernel_rfl
end Go.U.Tryz
namespace Go.U.Tryz
open Go Go.U
set_option linter.unusedVariables false
set_option linter.unusedSimpArgs false
set_option maxRecDepth 20000
end Go.U.Tryz
namespace Go.U.Tryz
open Go Go.U
set_option linter.unusedVariables false
set_option linter.unusedSimpArgs false
set_option maxRecDepth 20000
def G60 (v0 : Int × Bool × Int × Int × Int × Int × Int × Int × Int × Int × Int × Int × Int × Int × Bool × Bool × (List UInt8) × Int × Int × (List UInt8) × Int × Bool × Int × (List UInt8) × (List UInt8) × (List Int) × Int) (v1 : Bool × AT) (v2 : Int) : Option (Int × Int × Int × Int × Int × Int × Int × Int × Int × Int × Bool × Bool × (List UInt8) × Int × Int × (List UInt8) × Int × Bool × Int × (List UInt8) × (List UInt8) × (List Int) × Int × Int) :=
  bindO (α := Bool × Int × Int × Int × Int × Int × Int × Int × Int × Int × Int × Bool × Bool × (List UInt8) × Int × Int × (List UInt8) × Int × Bool × Int × (List UInt8) × (List UInt8) × (List Int) × Int × Int × Int × Int × Int × Int × Int × Int × Int × Int × Int × Bool × Bool × (List UInt8) × Int × Int × (List UInt8) × Int × Bool × Int × (List UInt8) × (List UInt8) × (List Int) × Int × Int × Int × Int × Int × Int × Int × Int × Int × Int × Int × Bool × Bool × (List UInt8) × Int × Int × (List UInt8) × Int × Bool × Int × (List UInt8) × (List UInt8) × (List Int) × Int) (branch v1.2.2.2.2.1
       (some (true, v1.2.2.2.2.2.1, v1.2.2.2.2.2.2.1, v1.2.2.2.2.2.2.2.1, v1.2.2.2.2.2.2.2.2.1, v1.2.2.2.2.2.2.2.2.2.1, v1.2.2.2.2.2.2.2.2.2.2.1, v1.2.2.2.2.2.2.2.2.2.2.2.1, v1.2.2.2.2.2.2.2.2.2.2.2.2.1, v1.2.2.2.2.2.2.2.2.2.2.2.2.2.1, v1.2.2.2.2.2.2.2.2.2.2.2.2.2.2.1, v1.2.2.2.2.2.2.2.2.2.2.2.2.2.2.2.1, v1.2.2.2.2.2.2.2.2.2.2.2.2.2.2.2.2.1, v1.2.2.2.2.2.2.2.2.2.2.2.2.2.2.2.2.2.1, v1.2.2.2.2.2.2.2.2.2.2.2.2.2.2.2.2.2.2.1, v1.2.2.2.2.2.2.2.2.2.2.2.2.2.2.2.2.2.2.2.1, v1.2.2.2.2.2.2.2.2.2.2.2.2.2.2.2.2.2.2.2.2.1, v1.2.2.2.2.2.2.2.2.2.2.2.2.2.2.2.2.2.2.2.2.2.1, v1.2.2.2.2.2.2.2.2.2.2.2.2.2.2.2.2.2.2.2.2.2.2.1, v1.2.2.2.2.2.2.2.2.2.2.2.2.2.2.2.2.2.2.2.2.2.2.2.1, v1.2.2.2.2.2.2.2.2.2.2.2.2.2.2.2.2.2.2.2.2.2.2.2.2.1, v1.2.2.2.2.2.2.2.2.2.2.2.2.2.2.2.2.2.2.2.2.2.2.2.2.2.1, v1.2.2.2.2.2.2.2.2.2.2.2.2.2.2.2.2.2.2.2.2.2.2.2.2.2.2.1, w64 (v1.2.2.2.2.2.2.2.2.2.2.2.2.2.2.2.2.2.2.2.2.2.2.2.2.2.2.2 + v2), 0, 0, 0, 0, 0, 0, 0, 0, 0, 0, false, false, [], 0, 0, [], 0, false, 0, [], [], [], 0, v0.2.2.2.2))
       (some (decide (1000000000 < (w64 (v1.2.2.2.2.2.2.2.2.2.2.2.2.2.2.2.2.2.2.2.2.2.2.2.2.2.2.2 + v2))), v1.2.2.2.2.2.1, v1.2.2.2.2.2.2.1, v1.2.2.2.2.2.2.2.1, v1.2.2.2.2.2.2.2.2.1, v1.2.2.2.2.2.2.2.2.2.1, v1.2.2.2.2.2.2.2.2.2.2.1, v1.2.2.2.2.2.2.2.2.2.2.2.1, v1.2.2.2.2.2.2.2.2.2.2.2.2.1, v1.2.2.2.2.2.2.2.2.2.2.2.2.2.1, v1.2.2.2.2.2.2.2.2.2.2.2.2.2.2.1, v1.2.2.2.2.2.2.2.2.2.2.2.2.2.2.2.1, v1.2.2.2.2.2.2.2.2.2.2.2.2.2.2.2.2.1, v1.2.2.2.2.2.2.2.2.2.2.2.2.2.2.2.2.2.1, v1.2.2.2.2.2.2.2.2.2.2.2.2.2.2.2.2.2.2.1, v1.2.2.2.2.2.2.2.2.2.2.2.2.2.2.2.2.2.2.2.1, v1.2.2.2.2.2.2.2.2.2.2.2.2.2.2.2.2.2.2.2.2.1, v1.2.2.2.2.2.2.2.2.2.2.2.2.2.2.2.2.2.2.2.2.2.1, v1.2.2.2.2.2.2.2.2.2.2.2.2.2.2.2.2.2.2.2.2.2.2.1, v1.2.2.2.2.2.2.2.2.2.2.2.2.2.2.2.2.2.2.2.2.2.2.2.1, v1.2.2.2.2.2.2.2.2.2.2.2.2.2.2.2.2.2.2.2.2.2.2.2.2.1, v1.2.2.2.2.2.2.2.2.2.2.2.2.2.2.2.2.2.2.2.2.2.2.2.2.2.1, v1.2.2.2.2.2.2.2.2.2.2.2.2.2.2.2.2.2.2.2.2.2.2.2.2.2.2.1, w64 (v1.2.2.2.2.2.2.2.2.2.2.2.2.2.2.2.2.2.2.2.2.2.2.2.2.2.2.2 + v2), 0, 0, 0, 0, 0, 0, 0, 0, 0, 0, false, false, [], 0, 0, [], 0, false, 0, [], [], [], 0, v0.2.2.2.2))) fun v3 =>
    branch v3.1
     (some (v3.2.2.2.2.2.2.2.2.2.2.2.2.2.2.2.2.2.2.2.2.2.2.2.2.2.2.2.2.2.2.2.2.2.2.2.2.2.2.2.2.2.2.2.2.2.2.2.1, v3.2.2.2.2.2.2.2.2.2.2.2.2.2.2.2.2.2.2.2.2.2.2.2.2.2.2.2.2.2.2.2.2.2.2.2.2.2.2.2.2.2.2.2.2.2.2.2.2.1, v3.2.2.2.2.2.2.2.2.2.2.2.2.2.2.2.2.2.2.2.2.2.2.2.2.2.2.2.2.2.2.2.2.2.2.2.2.2.2.2.2.2.2.2.2.2.2.2.2.2.1, v3.2.2.2.2.2.2.2.2.2.2.2.2.2.2.2.2.2.2.2.2.2.2.2.2.2.2.2.2.2.2.2.2.2.2.2.2.2.2.2.2.2.2.2.2.2.2.2.2.2.2.1, v3.2.2.2.2.2.2.2.2.2.2.2.2.2.2.2.2.2.2.2.2.2.2.2.2.2.2.2.2.2.2.2.2.2.2.2.2.2.2.2.2.2.2.2.2.2.2.2.2.2.2.2.1, v3.2.2.2.2.2.2.2.2.2.2.2.2.2.2.2.2.2.2.2.2.2.2.2.2.2.2.2.2.2.2.2.2.2.2.2.2.2.2.2.2.2.2.2.2.2.2.2.2.2.2.2.2.1, v3.2.2.2.2.2.2.2.2.2.2.2.2.2.2.2.2.2.2.2.2.2.2.2.2.2.2.2.2.2.2.2.2.2.2.2.2.2.2.2.2.2.2.2.2.2.2.2.2.2.2.2.2.2.1, v3.2.2.2.2.2.2.2.2.2.2.2.2.2.2.2.2.2.2.2.2.2.2.2.2.2.2.2.2.2.2.2.2.2.2.2.2.2.2.2.2.2.2.2.2.2.2.2.2.2.2.2.2.2.2.1, v3.2.2.2.2.2.2.2.2.2.2.2.2.2.2.2.2.2.2.2.2.2.2.2.2.2.2.2.2.2.2.2.2.2.2.2.2.2.2.2.2.2.2.2.2.2.2.2.2.2.2.2.2.2.2.2.1, v3.2.2.2.2.2.2.2.2.2.2.2.2.2.2.2.2.2.2.2.2.2.2.2.2.2.2.2.2.2.2.2.2.2.2.2.2.2.2.2.2.2.2.2.2.2.2.2.2.2.2.2.2.2.2.2.2.1, v3.2.2.2.2.2.2.2.2.2.2.2.2.2.2.2.2.2.2.2.2.2.2.2.2.2.2.2.2.2.2.2.2.2.2.2.2.2.2.2.2.2.2.2.2.2.2.2.2.2.2.2.2.2.2.2.2.2.1, v3.2.2.2.2.2.2.2.2.2.2.2.2.2.2.2.2.2.2.2.2.2.2.2.2.2.2.2.2.2.2.2.2.2.2.2.2.2.2.2.2.2.2.2.2.2.2.2.2.2.2.2.2.2.2.2.2.2.2.1, v3.2.2.2.2.2.2.2.2.2.2.2.2.2.2.2.2.2.2.2.2.2.2.2.2.2.2.2.2.2.2.2.2.2.2.2.2.2.2.2.2.2.2.2.2.2.2.2.2.2.2.2.2.2.2.2.2.2.2.2.1, v3.2.2.2.2.2.2.2.2.2.2.2.2.2.2.2.2.2.2.2.2.2.2.2.2.2.2.2.2.2.2.2.2.2.2.2.2.2.2.2.2.2.2.2.2.2.2.2.2.2.2.2.2.2.2.2.2.2.2.2.2.1, v3.2.2.2.2.2.2.2.2.2.2.2.2.2.2.2.2.2.2.2.2.2.2.2.2.2.2.2.2.2.2.2.2.2.2.2.2.2.2.2.2.2.2.2.2.2.2.2.2.2.2.2.2.2.2.2.2.2.2.2.2.2.1, v3.2.2.2.2.2.2.2.2.2.2.2.2.2.2.2.2.2.2.2.2.2.2.2.2.2.2.2.2.2.2.2.2.2.2.2.2.2.2.2.2.2.2.2.2.2.2.2.2.2.2.2.2.2.2.2.2.2.2.2.2.2.2.1, v3.2.2.2.2.2.2.2.2.2.2.2.2.2.2.2.2.2.2.2.2.2.2.2.2.2.2.2.2.2.2.2.2.2.2.2.2.2.2.2.2.2.2.2.2.2.2.2.2.2.2.2.2.2.2.2.2.2.2.2.2.2.2.2.1, v3.2.2.2.2.2.2.2.2.2.2.2.2.2.2.2.2.2.2.2.2.2.2.2.2.2.2.2.2.2.2.2.2.2.2.2.2.2.2.2.2.2.2.2.2.2.2.2.2.2.2.2.2.2.2.2.2.2.2.2.2.2.2.2.2.1, v3.2.2.2.2.2.2.2.2.2.2.2.2.2.2.2.2.2.2.2.2.2.2.2.2.2.2.2.2.2.2.2.2.2.2.2.2.2.2.2.2.2.2.2.2.2.2.2.2.2.2.2.2.2.2.2.2.2.2.2.2.2.2.2.2.2.1, v3.2.2.2.2.2.2.2.2.2.2.2.2.2.2.2.2.2.2.2.2.2.2.2.2.2.2.2.2.2.2.2.2.2.2.2.2.2.2.2.2.2.2.2.2.2.2.2.2.2.2.2.2.2.2.2.2.2.2.2.2.2.2.2.2.2.2.1, v3.2.2.2.2.2.2.2.2.2.2.2.2.2.2.2.2.2.2.2.2.2.2.2.2.2.2.2.2.2.2.2.2.2.2.2.2.2.2.2.2.2.2.2.2.2.2.2.2.2.2.2.2.2.2.2.2.2.2.2.2.2.2.2.2.2.2.2.1, v3.2.2.2.2.2.2.2.2.2.2.2.2.2.2.2.2.2.2.2.2.2.2.2.2.2.2.2.2.2.2.2.2.2.2.2.2.2.2.2.2.2.2.2.2.2.2.2.2.2.2.2.2.2.2.2.2.2.2.2.2.2.2.2.2.2.2.2.2.1, v3.2.2.2.2.2.2.2.2.2.2.2.2.2.2.2.2.2.2.2.2.2.2.2.2.2.2.2.2.2.2.2.2.2.2.2.2.2.2.2.2.2.2.2.2.2.2.2.2.2.2.2.2.2.2.2.2.2.2.2.2.2.2.2.2.2.2.2.2.2, 4))
     (some (v3.2.1, v3.2.2.1, v3.2.2.2.1, v3.2.2.2.2.1, v3.2.2.2.2.2.1, v3.2.2.2.2.2.2.1, v3.2.2.2.2.2.2.2.1, v3.2.2.2.2.2.2.2.2.1, v3.2.2.2.2.2.2.2.2.2.1, v3.2.2.2.2.2.2.2.2.2.2.1, v3.2.2.2.2.2.2.2.2.2.2.2.1, v3.2.2.2.2.2.2.2.2.2.2.2.2.1, v3.2.2.2.2.2.2.2.2.2.2.2.2.2.1, v3.2.2.2.2.2.2.2.2.2.2.2.2.2.2.1, v3.2.2.2.2.2.2.2.2.2.2.2.2.2.2.2.1, v3.2.2.2.2.2.2.2.2.2.2.2.2.2.2.2.2.1, v3.2.2.2.2.2.2.2.2.2.2.2.2.2.2.2.2.2.1, v3.2.2.2.2.2.2.2.2.2.2.2.2.2.2.2.2.2.2.1, v3.2.2.2.2.2.2.2.2.2.2.2.2.2.2.2.2.2.2.2.1, v3.2.2.2.2.2.2.2.2.2.2.2.2.2.2.2.2.2.2.2.2.1, v3.2.2.2.2.2.2.2.2.2.2.2.2.2.2.2.2.2.2.2.2.2.1, v3.2.2.2.2.2.2.2.2.2.2.2.2.2.2.2.2.2.2.2.2.2.2.1, v3.2.2.2.2.2.2.2.2.2.2.2.2.2.2.2.2.2.2.2.2.2.2.2.1, 0))
def out (w : WT) (c : Int) : Int × Int × Int × Int × Int × Int × Int × Int × Int × Int × Bool × Bool × (List UInt8) × Int × Int × (List UInt8) × Int × Bool × Int × (List UInt8) × (List UInt8) × (List Int) × Int × Int := (w.1, w.2.1, w.2.2.1, w.2.2.2.1, w.2.2.2.2.1, w.2.2.2.2.2.1, w.2.2.2.2.2.2.1, w.2.2.2.2.2.2.2.1, w.2.2.2.2.2.2.2.2.1, w.2.2.2.2.2.2.2.2.2.1, w.2.2.2.2.2.2.2.2.2.2.1, w.2.2.2.2.2.2.2.2.2.2.2.1, w.2.2.2.2.2.2.2.2.2.2.2.2.1, w.2.2.2.2.2.2.2.2.2.2.2.2.2.1, w.2.2.2.2.2.2.2.2.2.2.2.2.2.2.1, w.2.2.2.2.2.2.2.2.2.2.2.2.2.2.2.1, w.2.2.2.2.2.2.2.2.2.2.2.2.2.2.2.2.1, w.2.2.2.2.2.2.2.2.2.2.2.2.2.2.2.2.2.1, w.2.2.2.2.2.2.2.2.2.2.2.2.2.2.2.2.2.2.1, w.2.2.2.2.2.2.2.2.2.2.2.2.2.2.2.2.2.2.2.1, w.2.2.2.2.2.2.2.2.2.2.2.2.2.2.2.2.2.2.2.2.1, w.2.2.2.2.2.2.2.2.2.2.2.2.2.2.2.2.2.2.2.2.2.1, w.2.2.2.2.2.2.2.2.2.2.2.2.2.2.2.2.2.2.2.2.2.2.1, c)
def fin (b : Bool) (w w' : WT) (n : Int) : Int × Int × Int × Int × Int × Int × Int × Int × Int × Int × Bool × Bool × (List UInt8) × Int × Int × (List UInt8) × Int × Bool × Int × (List UInt8) × (List UInt8) × (List Int) × Int × Int := cond b (out w 4) (out (setCyc w' n) 0)
end Go.U.Tryz
namespace Go.U.Tryz
open Go Go.U
set_option linter.unusedVariables false
set_option linter.unusedSimpArgs false
set_option maxRecDepth 20000
structure Sm (m : MT) : Prop where
  rom : m.2.2.2.2.2.2.2.2.2.2.2.2.1.length ≤ maxLen
  out : m.2.2.2.2.2.2.2.2.2.2.2.2.2.2.2.2.2.2.2.2.2.1.length ≤ 1048576
abbrev cat {α : Type} (m : MT) (t : α) := (m.1, m.2.1, m.2.2.1, m.2.2.2.1, m.2.2.2.2.1, m.2.2.2.2.2.1, m.2.2.2.2.2.2.1, m.2.2.2.2.2.2.2.1, m.2.2.2.2.2.2.2.2.1, m.2.2.2.2.2.2.2.2.2.1, m.2.2.2.2.2.2.2.2.2.2.1, m.2.2.2.2.2.2.2.2.2.2.2.1, m.2.2.2.2.2.2.2.2.2.2.2.2.1, m.2.2.2.2.2.2.2.2.2.2.2.2.2.1, m.2.2.2.2.2.2.2.2.2.2.2.2.2.2.1, m.2.2.2.2.2.2.2.2.2.2.2.2.2.2.2.1, m.2.2.2.2.2.2.2.2.2.2.2.2.2.2.2.2.1, m.2.2.2.2.2.2.2.2.2.2.2.2.2.2.2.2.2.1, m.2.2.2.2.2.2.2.2.2.2.2.2.2.2.2.2.2.2.1, m.2.2.2.2.2.2.2.2.2.2.2.2.2.2.2.2.2.2.2.1, m.2.2.2.2.2.2.2.2.2.2.2.2.2.2.2.2.2.2.2.2.1, m.2.2.2.2.2.2.2.2.2.2.2.2.2.2.2.2.2.2.2.2.2.1, m.2.2.2.2.2.2.2.2.2.2.2.2.2.2.2.2.2.2.2.2.2.2, t)
abbrev ocat {α : Type} (m : MT) (t : α) := (m.1, m.2.1, m.2.2.1, m.2.2.2.1, m.2.2.2.2.1, m.2.2.2.2.2.1, m.2.2.2.2.2.2.1, m.2.2.2.2.2.2.2.1, m.2.2.2.2.2.2.2.2.1, m.2.2.2.2.2.2.2.2.2.1, m.2.2.2.2.2.2.2.2.2.2.1, m.2.2.2.2.2.2.2.2.2.2.2.1, m.2.2.2.2.2.2.2.2.2.2.2.2.1, m.2.2.2.2.2.2.2.2.2.2.2.2.2.1, m.2.2.2.2.2.2.2.2.2.2.2.2.2.2.1, m.2.2.2.2.2.2.2.2.2.2.2.2.2.2.2.1, m.2.2.2.2.2.2.2.2.2.2.2.2.2.2.2.2.1, m.2.2.2.2.2.2.2.2.2.2.2.2.2.2.2.2.2.1, m.2.2.2.2.2.2.2.2.2.2.2.2.2.2.2.2.2.2.1, m.2.2.2.2.2.2.2.2.2.2.2.2.2.2.2.2.2.2.2.1, m.2.2.2.2.2.2.2.2.2.2.2.2.2.2.2.2.2.2.2.2.1, m.2.2.2.2.2.2.2.2.2.2.2.2.2.2.2.2.2.2.2.2.2.2, t)
abbrev outM (m : MT) : List Int := m.2.2.2.2.2.2.2.2.2.2.2.2.2.2.2.2.2.2.2.2.2.1
abbrev OT := Int × Int × Int × Int × Int × Int × Int × Int × Int × Int × Bool × Bool × (List UInt8) × Int × Int × (List UInt8) × Int × Bool × Int × (List UInt8) × (List UInt8) × Int × List Int
def ofO (m : MT) : OT := (m.1, m.2.1, m.2.2.1, m.2.2.2.1, m.2.2.2.2.1, m.2.2.2.2.2.1, m.2.2.2.2.2.2.1, m.2.2.2.2.2.2.2.1, m.2.2.2.2.2.2.2.2.1, m.2.2.2.2.2.2.2.2.2.1, m.2.2.2.2.2.2.2.2.2.2.1, m.2.2.2.2.2.2.2.2.2.2.2.1, m.2.2.2.2.2.2.2.2.2.2.2.2.1, m.2.2.2.2.2.2.2.2.2.2.2.2.2.1, m.2.2.2.2.2.2.2.2.2.2.2.2.2.2.1, m.2.2.2.2.2.2.2.2.2.2.2.2.2.2.2.1, m.2.2.2.2.2.2.2.2.2.2.2.2.2.2.2.2.1, m.2.2.2.2.2.2.2.2.2.2.2.2.2.2.2.2.2.1, m.2.2.2.2.2.2.2.2.2.2.2.2.2.2.2.2.2.2.1, m.2.2.2.2.2.2.2.2.2.2.2.2.2.2.2.2.2.2.2.1, m.2.2.2.2.2.2.2.2.2.2.2.2.2.2.2.2.2.2.2.2.1, m.2.2.2.2.2.2.2.2.2.2.2.2.2.2.2.2.2.2.2.2.2.2, m.2.2.2.2.2.2.2.2.2.2.2.2.2.2.2.2.2.2.2.2.2.1)
theorem F61o_m (K : Nat) (m : MT) (h : m.2.2.2.2.2.2.2.2.2.2.2.2.2.2.2.2.2.2.2.2.2.1.length ≤ 100) : F61o K m = some (ofO m) := by
  have e1 : F111 K m.2.2.2.2.2.2.2.2.2.2.2.2.2.2.2.2.2.2.2.2.2.1 = some m.2.2.2.2.2.2.2.2.2.2.2.2.2.2.2.2.2.2.2.2.2.1 := by
    unfold F111 cloneF
    exact guard_dec (by omega)
  unfold F61o
  rw [e1]
  rfl
def Z : MT := (0, 0, 0, 0, 0, 0, 0, 0, 0, 0, false, false, [], 0, 0, [], 0, false, 0, [], [], [], 0)
end Go.U.Tryz
namespace Go.U.Tryz
open Go Go.U
set_option linter.unusedVariables false
set_option linter.unusedSimpArgs false
set_option maxRecDepth 20000
abbrev zst (n c i : Int) (m : MT) : Int × Int × Int × Int × Int × Int × Int × Int × Int × Int × Int × Int × Int × Bool × Bool × (List UInt8) × Int × Int × (List UInt8) × Int × Bool × Int × (List UInt8) × (List UInt8) × (List Int) × Int × Int × Int × Int × Int × Int × Int × Int × Int × Int × Int × Bool × Bool × (List UInt8) × Int × Int × (List UInt8) × Int × Bool × Int × (List UInt8) × (List UInt8) × (List Int) × Int := (n, c, i, 0, 0, 0, 0, 0, 0, 0, 0, 0, 0, false, false, [], 0, 0, [], 0, false, 0, [], [], [], 0, m)
abbrev zrs (c i : Int) (m : MT) : Int × Int × Int × Int × Int × Int × Int × Int × Int × Int × Int × Int × Bool × Bool × (List UInt8) × Int × Int × (List UInt8) × Int × Bool × Int × (List UInt8) × (List UInt8) × (List Int) × Int × Int × Int × Int × Int × Int × Int × Int × Int × Int × Int × Bool × Bool × (List UInt8) × Int × Int × (List UInt8) × Int × Bool × Int × (List UInt8) × (List UInt8) × (List Int) × Int := (c, i, 0, 0, 0, 0, 0, 0, 0, 0, 0, 0, false, false, [], 0, 0, [], 0, false, 0, [], [], [], 0, m)
end Go.U.Tryz
namespace Go.U.Tryz
open Go Go.U
set_option linter.unusedVariables false
set_option linter.unusedSimpArgs false
set_option maxRecDepth 20000
theorem F64_rom (K : Nat) (m : MT) (a : Nat) (b : UInt8) (ha : a < 256) (hrb : 0 ≤ m.2.2.2.2.2.2.2.2.2.2.2.2.2.2.2.2.1 ∧ m.2.2.2.2.2.2.2.2.2.2.2.2.2.2.2.2.1 ≤ 3) (hb : m.2.2.2.2.2.2.2.2.2.2.2.2.1[a]? = some b) : F64 K ((a : Int), m) = some (w64 (b.toNat : Int), m) := by
  have e0 : bits .and .i64 (a : Int) 65535 = (a : Int) := by rw [and65535]; omega
  have i1 : inR (a : Int) 49152 49407 = false := decide_eq_false (by omega)
  have i2 : inR (a : Int) 65408 65534 = false := decide_eq_false (by omega)
  have i3 : decide ((a : Int) < 256) = true := decide_eq_true (by omega)
  have e1 := F178_eq K m.2.2.2.2.2.2.2.2.2.2.2.2.1 m.2.2.2.2.2.2.2.2.2.2.2.2.2.1 m.2.2.2.2.2.2.2.2.2.2.2.2.2.2.1 m.2.2.2.2.2.2.2.2.2.2.2.2.2.2.2.1 m.2.2.2.2.2.2.2.2.2.2.2.2.2.2.2.2.1 m.2.2.2.2.2.2.2.2.2.2.2.2.2.2.2.2.2.1 m.2.2.2.2.2.2.2.2.2.2.2.2.2.2.2.2.2.2.1 (a : Int) hrb
  unfold F64
  dsimp only
  rw [e0]
  simp only [F54_in, i1, i2, bindO_s, branch_f]
  unfold F119
  dsimp only
  rw [e1]
  simp only [bindO_s, i3, branch_t, nth_s hb]
theorem toB_byte (b : UInt8) : toB [w8 (w64 (b.toNat : Int))] = [b] := by
  have := b.toNat_lt
  rw [w64_id (by omega) (by omega), w8_id (by omega) (by omega)]
  simp [toB]
theorem fetch0 (k : Nat) (m : MT) (p : Nat) (b0 b1 b2 : UInt8) (hp : m.2.2.2.2.2.2.2.2.2.1 = (p : Int)) (hp' : p ≤ 253) (hrb : 0 ≤ m.2.2.2.2.2.2.2.2.2.2.2.2.2.2.2.2.1 ∧ m.2.2.2.2.2.2.2.2.2.2.2.2.2.2.2.2.1 ≤ 3) (h0 : m.2.2.2.2.2.2.2.2.2.2.2.2.1[p]? = some b0) (h1 : m.2.2.2.2.2.2.2.2.2.2.2.2.1[p + 1]? = some b1) (h2 : m.2.2.2.2.2.2.2.2.2.2.2.2.1[p + 2]? = some b2) :
    F98 (k + 40) m = bindO (F25 (k + 40) ([b0, b1, b2], 0)) fun v => some (v.1, v.2.1, v.2.2.1, v.2.2.2, m) := by
  have fa : ∀ (i : Nat) (l : List UInt8) (b : UInt8), i < 3 → l.length ≤ 3 → m.2.2.2.2.2.2.2.2.2.2.2.2.1[p + i]? = some b → F98_b0 (k + 40) (l, (i : Int), 0, false, 0, m) = some (.inl (l ++ [b], ((i + 1 : Nat) : Int), 0, false, 0, m)) := by
    intro i l b hi hl hb
    have a : F98_b0 (k + 40) (l, (i : Int), 0, false, 0, m) = branch (decide ((i : Int) < 3)) (bindO (F64 (k + 40) (w64 (m.2.2.2.2.2.2.2.2.2.1 + (i : Int)), m)) fun v0 => bindO (F134 (k + 40) (v0.1, 1)) fun v1 => guard (decide ((l.length + v1.length) ≤ 9223372036854775807)) <| some (.inl (l ++ v1, w64 ((i : Int) + 1), 0, false, 0, m))) (some (.inr (l, 0, false, 0, m))) := rfl
    have n0 : w64 (m.2.2.2.2.2.2.2.2.2.1 + (i : Int)) = ((p + i : Nat) : Int) := by rw [hp, w64_id (by omega) (by omega)]; omega
    have n1 : w64 ((i : Int) + 1) = ((i + 1 : Nat) : Int) := by rw [w64_id (by omega) (by omega)]; omega
    rw [a, decide_eq_true (show (i : Int) < 3 by omega), branch_t, n0, F64_rom (k + 40) m (p + i) b (by omega) hrb hb]
    simp only [bindO_s, F134_1, n1, toB_byte]
    rw [decide_eq_true (show l.length + [b].length ≤ 9223372036854775807 by simp; omega), guard_t]
  have ea : iter (k + 40) (F98_b0 (k + 40)) ([], 0, 0, false, 0, m) = some ([] ++ [b0] ++ [b1] ++ [b2], 0, false, 0, m) := by
    refine (iter_go (n := k + 39) (fa 0 [] b0 (by omega) (by simp) h0)).trans ?_
    refine (iter_go (n := k + 38) (fa 1 _ b1 (by omega) (by simp) h1)).trans ?_
    refine (iter_go (n := k + 37) (fa 2 _ b2 (by omega) (by simp) h2)).trans ?_
    exact iter_end (n := k + 36) rfl
  have a : F98 (k + 40) m = bindO (iter (k + 40) (F98_b0 (k + 40)) ([], 0, 0, false, 0, m)) fun v0 => bindO (F25 (k + 40) (v0.1, 0)) fun v1 => some (v1.1, v1.2.1, v1.2.2.1, v1.2.2.2, v0.2.2.2.2) := rfl
  rw [a, ea]
  rfl
def X60 (K : Nat) (v0 : Int × Bool × Int × Int × MT) := branch (decide (v0.2.2.2.1 = 0)) (some (out (MT.w v0.2.2.2.2) 2)) (bindO (F110 K (A v0.1 v0.2.1 v0.2.2.1 (setPc (MT.w v0.2.2.2.2) (bits .and .i64 (w64 (v0.2.2.2.2.2.2.2.2.2.2.2.2.2.1 + v0.2.2.2.1)) 65535)))) fun v1 => bindO (F26 K (v0.1, v0.2.1, v1.1)) fun v2 => G60 v0 v1 v2)
def one (K : Nat) (b0 b1 b2 : UInt8) (m : MT) := bindO (F25 K ([b0, b1, b2], 0)) fun v => X60 K (v.1, v.2.1, v.2.2.1, v.2.2.2, m)
theorem F60_at (k : Nat) (m : MT) (p : Nat) (b0 b1 b2 : UInt8) (hh : m.2.2.2.2.2.2.2.2.2.2.2.1 = false) (hp : m.2.2.2.2.2.2.2.2.2.1 = (p : Int)) (hp' : p ≤ 253) (hrb : 0 ≤ m.2.2.2.2.2.2.2.2.2.2.2.2.2.2.2.2.1 ∧ m.2.2.2.2.2.2.2.2.2.2.2.2.2.2.2.2.1 ≤ 3) (h0 : m.2.2.2.2.2.2.2.2.2.2.2.2.1[p]? = some b0) (h1 : m.2.2.2.2.2.2.2.2.2.2.2.2.1[p + 1]? = some b1) (h2 : m.2.2.2.2.2.2.2.2.2.2.2.2.1[p + 2]? = some b2) :
    F60 (k + 40) m = one (k + 40) b0 b1 b2 m := by
  have l : F60 (k + 40) m = branch m.2.2.2.2.2.2.2.2.2.2.2.1 (some (out m.w 1)) (bindO (F98 (k + 40) m) (X60 (k + 40))) := rfl
  rw [l, hh, branch_f, fetch0 k m p b0 b1 b2 hp hp' hrb h0 h1 h2, bind_bind]
  rfl
def n256 : List UInt8 := List.replicate 256 0
def n127 : List UInt8 := List.replicate 127 0
def mk (a f b c d e h l sp pc : Int) (halt : Bool) (rom : List UInt8) (kind : Int) (high : List UInt8) (o : List Int) (cyc : Int) : MT := (a, f, b, c, d, e, h, l, sp, pc, false, halt, rom, kind, 1, n256, 0, false, 0, n256, high, o, cyc)
def im (x : UInt8) : Int := bits .or .i64 (shlI .i64 0 8) (w64 (x.toNat : Int))
theorem im_eq (x : UInt8) : im x = (x.toNat : Int) := by
  have := x.toNat_lt
  unfold im
  rw [hl_or 0 _ (by omega) (by rw [w64_id (by omega) (by omega)]; omega), w64_id (by omega) (by omega)]; omega
theorem byteN (x : Int) (hx : 0 ≤ x ∧ x ≤ 255) : ((UInt8.ofNat x.toNat).toNat : Int) = x := by
  have h : (UInt8.ofNat x.toNat).toNat = x.toNat % 256 := by first | exact UInt8.toNat_ofNat' | rfl | simp
  omega
theorem it_go (k N : Nat) (i : Int) (m m' : MT) (h0 : 0 ≤ i) (hi : i < 50) (h : F60 k m = some (cat m' 0)) : iter (N + 1) (F55n_b0 k) (zst 50 0 i m) = iter N (F55n_b0 k) (zst 50 0 (i + 1) m') := by
  have ei : w64 (i + 1) = i + 1 := w64_id (by omega) (by omega)
  refine iter_go ?_
  show branch (decide (i < 50)) (bindO (F60 k m) _) _ = _
  rw [decide_eq_true hi, h, branch_t]
  show some (Sum.inl (zst 50 0 (w64 (i + 1)) m')) = _
  rw [ei]
theorem it_halt (k N : Nat) (i : Int) (m : MT) (hi : i < 50) (h : m.2.2.2.2.2.2.2.2.2.2.2.1 = true) : iter (N + 1) (F55n_b0 k) (zst 50 0 i m) = some (zrs 1 i m) := by
  have l : F60 k m = branch m.2.2.2.2.2.2.2.2.2.2.2.1 (some (out m.w 1)) (bindO (F98 k m) (X60 k)) := rfl
  refine iter_end ?_
  show branch (decide (i < 50)) (bindO (F60 k m) _) _ = _
  rw [decide_eq_true hi, l, h, branch_t, branch_t]
  rfl
theorem F18_halt (k : Nat) (m m' : MT) (j : Int) (hm : F32 k m = some true) (it : iter k (F55n_b0 k) (zst 50 0 0 m) = some (zrs 1 j m')) (ho : (outM m').length ≤ 100) : F18 k (cat m 50) = some (ocat m' (1, j, outM m')) := by
  have a2 : F54 k (50, 0, 500) = some true := F54_in k 50 0 500
  have hout := F61o_m k m' ho
  have t : T (F18 k (cat m 50)) (fun r => r = (ocat m' (1, j, outM m'))) := by
    unfold F18
    refine T.bindbind (T.bindbind (T.eq hm (T.bindbr nofun fun _ => T.bindbind (T.eq a2 (T.binds (T.bindbr nofun fun _ => T.binds (T.csr ?_)))))))
    refine T.bind (S := fun r => r = (ocat m' (1, j, outM m'))) ?_ fun r hr => T.ret hr
    unfold F55n
    exact T.eq it (T.eq hout (T.ret rfl))
  obtain ⟨r, er, rfl⟩ := t
  exact er
def m0 (rom : List UInt8) (kind : Int) : MT := mk 0 0 0 0 0 0 0 0 65534 0 false rom kind n127 [] 0
theorem F52_256 (K : Nat) : F52 K 256 = some n256 := by kernel_rfl
theorem F52_127 (K : Nat) : F52 K 127 = some n127 := by kernel_rfl
theorem cart_new (rom : List UInt8) (kind : Int) (h : rom.length = 512) (hk : kind = 0 ∨ kind = 2) : cartOk rom kind 1 n256 0 false 0 = true := by
  have hb : banks rom = 2 := by unfold banks; rw [h]; rfl
  have hn : n256.length = 256 := List.length_replicate
  unfold cartOk cartKind
  rw [hb, hn]
  rcases hk with rfl | rfl <;> rfl
theorem F16_new (K : Nat) (rom : List UInt8) (kind : Int) (h : rom.length = 512) (hk : kind = 0 ∨ kind = 2) : F16 K (rom, kind) = some (cat (m0 rom kind) true) := by
  have e : F51 K (rom, kind) = some (rom, kind, 1, n256, 0, false, 0, true) := by
    unfold F51
    rw [F52_256]
    simp only [bindO_s]
    rw [F83_eq K rom kind 1 n256 0 false 0 (by rw [h]; unfold maxLen; omega), cart_new rom kind h hk]
    rfl
  unfold F16
  rw [e]
  simp only [bindO_s, F52_256, F52_127]
  rfl
theorem F17_new (K : Nat) (rom : List UInt8) (kind : Int) (h : rom.length = 512) (hk : kind = 0 ∨ kind = 2) : F17 K (rom, kind) = some (cat (m0 rom kind) true) := by
  have e : F53 K (rom, kind) = some (rom, kind, 1, n256, 0, false, 0, true) := by
    have q := F86_eq K rom kind 1 n256 0 false 0 (by rw [h]; unfold maxLen; omega)
    rw [cart_new rom kind h hk] at q
    unfold F53
    refine (congrArg (fun z => bindO z _) q).trans ?_
    kernel_rfl
  unfold F17
  refine (congrArg (fun z => bindO z _) e).trans ?_
  kernel_rfl
theorem F32_new (K : Nat) (rom : List UInt8) (kind : Int) (h : rom.length = 512) (hk : kind = 0 ∨ kind = 2) (hK : 8 < K) : F32 K (m0 rom kind) = some true := by
  have q := F32_eq K 0 0 0 0 0 0 0 0 65534 0 false false rom kind 1 n256 0 false 0 n256 n127 [] 0 (by rw [h]; unfold maxLen; omega) (by simp [maxLen]) (by simpa using hK)
  refine q.trans ?_
  have c := cart_new rom kind h hk
  have h1 : n256.length = 256 := List.length_replicate
  have h2 : n127.length = 127 := List.length_replicate
  unfold mOk restOk
  rw [c, h1, h2]
  rfl
end Go.U.Tryz
namespace Go.U.Tryz
open Go Go.U
set_option linter.unusedVariables false
set_option linter.unusedSimpArgs false
set_option maxRecDepth 20000
theorem s1 (k : Nat) (x q : UInt8) (R : List UInt8) : one (k + 40) 62 x q (m0 R 0) = some (cat (mk (im x) 0 0 0 0 0 0 0 65534 2 false R 0 n127 [] 2) 0) := by kernel_rfl
theorem s2 (k : Nat) (a : Int) (y q : UInt8) (R : List UInt8) : one (k + 40) 6 y q (mk a 0 0 0 0 0 0 0 65534 2 false R 0 n127 [] 2) = some (cat (mk a 0 (im y) 0 0 0 0 0 65534 4 false R 0 n127 [] 4) 0) := by kernel_rfl
theorem s3 (k : Nat) (a b : Int) (q r : UInt8) (R : List UInt8) (x y : Int) (hf : F228 (k + 40) (0, a, b, 0) = some (x, y)) : one (k + 40) 128 q r (mk a 0 b 0 0 0 0 0 65534 4 false R 0 n127 [] 4) = some (cat (mk x y b 0 0 0 0 0 65534 5 false R 0 n127 [] 5) 0) := by
  have l : F110 (k + 40) (A 128 false 0 (setPc (mk a 0 b 0 0 0 0 0 65534 4 false R 0 n127 [] 4).w 5)) = bindO (F157 (k + 40) (0, b, A 128 false 0 (setPc (mk a 0 b 0 0 0 0 0 65534 4 false R 0 n127 [] 4).w 5))) fun v4 => some (true, v4) := by kernel_rfl
  have l2 : F157 (k + 40) (0, b, A 128 false 0 (setPc (mk a 0 b 0 0 0 0 0 65534 4 false R 0 n127 [] 4).w 5)) = bindO (F228 (k + 40) (0, a, b, 0)) fun r => some (A 128 false 0 (setPc (mk r.1 r.2 b 0 0 0 0 0 65534 4 false R 0 n127 [] 4).w 5)) := by kernel_rfl
  rw [hf, bindO_s] at l2
  rw [l2, bindO_s] at l
  have d : one (k + 40) 128 q r (mk a 0 b 0 0 0 0 0 65534 4 false R 0 n127 [] 4) = bindO (F110 (k + 40) (A 128 false 0 (setPc (mk a 0 b 0 0 0 0 0 65534 4 false R 0 n127 [] 4).w 5))) fun v1 => bindO (F26 (k + 40) (128, false, v1.1)) fun v2 => G60 (128, false, 0, 1, mk a 0 b 0 0 0 0 0 65534 4 false R 0 n127 [] 4) v1 v2 := by kernel_rfl
  refine d.trans ((congrArg (fun z => bindO z _) l).trans ?_)
  kernel_rfl
theorem s4 (k : Nat) (a f b : Int) (q : UInt8) (R : List UInt8) : one (k + 40) 224 1 q (mk a f b 0 0 0 0 0 65534 5 false R 0 n127 [] 5) = some (cat (mk a f b 0 0 0 0 0 65534 7 false R 0 n127 [a] 8) 0) := by kernel_rfl
theorem s5 (k : Nat) (a f b : Int) (q r : UInt8) (R : List UInt8) : one (k + 40) 118 q r (mk a f b 0 0 0 0 0 65534 7 false R 0 n127 [a] 8) = some (cat (mk a f b 0 0 0 0 0 65534 8 true R 0 n127 [a] 9) 0) := by kernel_rfl
theorem F210_some (K : Nat) (p q r s : Bool) : ∃ n, F210 K (p, q, r, s) = some n := by
  cases p <;> cases q <;> cases r <;> cases s <;> exact ⟨_, rfl⟩
theorem F228_add (K : Nat) (p q : Int) (hp : 0 ≤ p ∧ p ≤ 255) (hq : 0 ≤ q ∧ q ≤ 255) : ∃ f, F228 K (0, p, q, 0) = some (bits .and .i64 (w64 (w64 (p + q) + 0)) 255, f) := by
  obtain ⟨f, hf⟩ := F210_some K (decide (bits .and .i64 (w64 (w64 (p + q) + 0)) 255 = 0)) false (decide (15 < w64 (w64 (bits .and .i64 p 15 + bits .and .i64 q 15) + 0))) (decide (255 < w64 (w64 (p + q) + 0)))
  have e1 : F54 K (0, 0, 7) = some true := F54_in K 0 0 7
  have e2 : F80 K p = some true := (F80_eq K p).trans (congrArg some (decide_eq_true hp))
  have e3 : F80 K q = some true := (F80_eq K q).trans (congrArg some (decide_eq_true hq))
  have e4 : F80 K 0 = some true := (F80_eq K 0).trans rfl
  have t : T (F228 K (0, p, q, 0)) (fun r => r = (bits .and .i64 (w64 (w64 (p + q) + 0)) 255, f)) := by
    unfold F228
    refine T.bindbind (T.bindbind (T.eq e1 (T.bindbr nofun fun _ => T.bindbind (T.eq e2 (T.bindbr nofun fun _ => T.bindbind (T.eq e3 (T.bindbr nofun fun _ => T.bindbind (T.eq e4 (T.binds (T.bindbr nofun fun _ => T.binds (T.csr ?_)))))))))))
    refine T.bindbind (T.bindbr nofun fun _ => T.bindbr nofun fun _ => T.binds (T.bindbr nofun fun _ => T.binds ?_))
    exact T.bindbind (T.bindbr (fun _ => T.binds (T.bindbr (fun _ => T.bindbind (T.eq hf (T.binds (T.csl (T.ret rfl))))) nofun)) nofun)
  obtain ⟨r, er, rfl⟩ := t
  exact ⟨f, er⟩
def z512 : List Int := [0, 0, 0, 0, 0, 0, 0, 0, 0, 0, 0, 0, 0, 0, 0, 0, 0, 0, 0, 0, 0, 0, 0, 0, 0, 0, 0, 0, 0, 0, 0, 0, 0, 0, 0, 0, 0, 0, 0, 0, 0, 0, 0, 0, 0, 0, 0, 0, 0, 0, 0, 0, 0, 0, 0, 0, 0, 0, 0, 0, 0, 0, 0, 0, 0, 0, 0, 0, 0, 0, 0, 0, 0, 0, 0, 0, 0, 0, 0, 0, 0, 0, 0, 0, 0, 0, 0, 0, 0, 0, 0, 0, 0, 0, 0, 0, 0, 0, 0, 0, 0, 0, 0, 0, 0, 0, 0, 0, 0, 0, 0, 0, 0, 0, 0, 0, 0, 0, 0, 0, 0, 0, 0, 0, 0, 0, 0, 0, 0, 0, 0, 0, 0, 0, 0, 0, 0, 0, 0, 0, 0, 0, 0, 0, 0, 0, 0, 0, 0, 0, 0, 0, 0, 0, 0, 0, 0, 0, 0, 0, 0, 0, 0, 0, 0, 0, 0, 0, 0, 0, 0, 0, 0, 0, 0, 0, 0, 0, 0, 0, 0, 0, 0, 0, 0, 0, 0, 0, 0, 0, 0, 0, 0, 0, 0, 0, 0, 0, 0, 0, 0, 0, 0, 0, 0, 0, 0, 0, 0, 0, 0, 0, 0, 0, 0, 0, 0, 0, 0, 0, 0, 0, 0, 0, 0, 0, 0, 0, 0, 0, 0, 0, 0, 0, 0, 0, 0, 0, 0, 0, 0, 0, 0, 0, 0, 0, 0, 0, 0, 0, 0, 0, 0, 0, 0, 0, 0, 0, 0, 0, 0, 0, 0, 0, 0, 0, 0, 0, 0, 0, 0, 0, 0, 0, 0, 0, 0, 0, 0, 0, 0, 0, 0, 0, 0, 0, 0, 0, 0, 0, 0, 0, 0, 0, 0, 0, 0, 0, 0, 0, 0, 0, 0, 0, 0, 0, 0, 0, 0, 0, 0, 0, 0, 0, 0, 0, 0, 0, 0, 0, 0, 0, 0, 0, 0, 0, 0, 0, 0, 0, 0, 0, 0, 0, 0, 0, 0, 0, 0, 0, 0, 0, 0, 0, 0, 0, 0, 0, 0, 0, 0, 0, 0, 0, 0, 0, 0, 0, 0, 0, 0, 0, 0, 0, 0, 0, 0, 0, 0, 0, 0, 0, 0, 0, 0, 0, 0, 0, 0, 0, 0, 0, 0, 0, 0, 0, 0, 0, 0, 0, 0, 0, 0, 0, 0, 0, 0, 0, 0, 0, 0, 0, 0, 0, 0, 0, 0, 0, 0, 0, 0, 0, 0, 0, 0, 0, 0, 0, 0, 0, 0, 0, 0, 0, 0, 0, 0, 0, 0, 0, 0, 0, 0, 0, 0, 0, 0, 0, 0, 0, 0, 0, 0, 0, 0, 0, 0, 0, 0, 0, 0, 0, 0, 0, 0, 0, 0, 0, 0, 0, 0, 0, 0, 0, 0, 0, 0, 0, 0, 0, 0, 0, 0, 0, 0, 0, 0, 0, 0, 0, 0, 0, 0, 0, 0, 0, 0, 0, 0, 0, 0, 0, 0, 0, 0, 0, 0, 0, 0, 0, 0, 0, 0, 0, 0, 0, 0, 0, 0, 0, 0, 0]
def rom8 (p : List Int) : List UInt8 := toB (List.take (min p.length 512) p ++ List.drop (min p.length 512) z512)
theorem z512_len : z512.length = 512 := by kernel_rfl
theorem rom8_len (p : List Int) (h : p.length ≤ 512) : (rom8 p).length = 512 := by
  unfold rom8 toB
  rw [List.length_map, List.length_append, List.length_take, List.length_drop, z512_len]
  omega
theorem F19_one (k : Nat) (a : Int) : F19 (k + 40) ([a], [a]) = some true := by
  have s0 : F19_b0 (k + 40) ([a], [a], 0) = some (.inl ([a], [a], 1)) := by
    have l : F19_b0 (k + 40) ([a], [a], 0) = branch (!(decide (a = a))) (some (.inr (.inl false))) (some (.inl ([a], [a], 1))) := by kernel_rfl
    rw [l, decide_eq_true rfl]; rfl
  have s1 : F19_b0 (k + 40) ([a], [a], 1) = some (.inr (.inr ())) := by kernel_rfl
  have e : iter (k + 40) (F19_b0 (k + 40)) ([a], [a], 0) = some (.inr ()) := (iter_go (n := k + 39) s0).trans (iter_end (n := k + 38) s1)
  have l : F19 (k + 40) ([a], [a]) = bindO (iter (k + 40) (F19_b0 (k + 40)) ([a], [a], 0)) fun v0 => csO v0 (fun v1 => some v1) (fun v2 => some true) := by kernel_rfl
  rw [l, e]; rfl
theorem F20_same (k : Nat) (R : List UInt8) (kind : Int) : F20 (k + 40) (cat (m0 R kind) (m0 R kind)) = some true := by
  have e : F57 (k + 40) (R, kind, 1, n256, 0, false, 0, R, kind, 1, n256, 0, false, 0) = some true := by
    unfold F57; simp only [decide_true, Bool.and_self]
  have e2 : F19 (k + 40) ([], []) = some true := by kernel_rfl
  have t : T (F20 (k + 40) (cat (m0 R kind) (m0 R kind))) (fun r => r = true) := by
    unfold F20
    refine T.br (fun _ => T.eq e (T.br (fun _ => T.br (fun _ => T.br (fun _ => T.br (fun _ => T.eq e2 (T.ret rfl)) fun g => absurd rfl (of_decide_eq_false g)) fun g => absurd rfl (of_decide_eq_false g)) fun g => absurd rfl (of_decide_eq_false g)) nofun)) ?_
    exact nofun
  obtain ⟨r, er, rfl⟩ := t
  exact er
theorem T.nthv {α ρ : Type} {Q : ρ → Prop} {xs : List α} {n : Nat} {v : α} {k : α → Option ρ} (h : xs[n]? = some v) (hk : T (k v) Q) : T (nth xs (n : Int) k) Q := by rw [nth_s h]; exact hk
theorem sum_run (k : Nat) (x y : Int) (hx : 0 ≤ x ∧ x ≤ 255) (hy : 0 ≤ y ∧ y ≤ 255) : ∃ f : Int, F18 (k + 600 + 40) (cat (m0 (rom8 [62, x, 6, y, 128, 224, 1, 118]) 0) 50) = some (ocat (mk ((x + y) % 256) f y 0 0 0 0 0 65534 8 true (rom8 [62, x, 6, y, 128, 224, 1, 118]) 0 n127 [(x + y) % 256] 9) (1, 5, [(x + y) % 256])) := by
  have hR := rom8_len [62, x, 6, y, 128, 224, 1, 118] (by simp)
  have r0 : (rom8 [62, x, 6, y, 128, 224, 1, 118])[0]? = some 62 := rfl
  have r1 : (rom8 [62, x, 6, y, 128, 224, 1, 118])[1]? = some (UInt8.ofNat x.toNat) := rfl
  have r2 : (rom8 [62, x, 6, y, 128, 224, 1, 118])[2]? = some 6 := rfl
  have r3 : (rom8 [62, x, 6, y, 128, 224, 1, 118])[3]? = some (UInt8.ofNat y.toNat) := rfl
  have r4 : (rom8 [62, x, 6, y, 128, 224, 1, 118])[4]? = some 128 := rfl
  have r5 : (rom8 [62, x, 6, y, 128, 224, 1, 118])[5]? = some 224 := rfl
  have r6 : (rom8 [62, x, 6, y, 128, 224, 1, 118])[6]? = some 1 := rfl
  have r7 : (rom8 [62, x, 6, y, 128, 224, 1, 118])[7]? = some 118 := rfl
  have r8 : (rom8 [62, x, 6, y, 128, 224, 1, 118])[8]? = some 0 := rfl
  have r9 : (rom8 [62, x, 6, y, 128, 224, 1, 118])[9]? = some 0 := rfl
  generalize rom8 [62, x, 6, y, 128, 224, 1, 118] = R at *
  have vx : im (UInt8.ofNat x.toNat) = x := by rw [im_eq, byteN x hx]
  have vy : im (UInt8.ofNat y.toNat) = y := by rw [im_eq, byteN y hy]
  obtain ⟨f, hf⟩ := F228_add (k + 600 + 40) x y hx hy
  have hs : bits .and .i64 (w64 (w64 (x + y) + 0)) 255 = (x + y) % 256 := by
    rw [and255, w64_id (n := x + y) (by omega) (by omega), w64_id (by omega) (by omega)]; omega
  rw [hs] at hf
  have z : (0 : Int) ≤ 0 ∧ (0 : Int) ≤ 3 := by omega
  have t1 := (F60_at (k + 600) (m0 R 0) 0 62 _ 6 rfl rfl (by omega) z r0 r1 r2).trans (s1 (k + 600) _ 6 R)
  rw [vx] at t1
  have t2 := (F60_at (k + 600) (mk x 0 0 0 0 0 0 0 65534 2 false R 0 n127 [] 2) 2 6 _ 128 rfl rfl (by omega) z r2 r3 r4).trans (s2 (k + 600) x _ 128 R)
  rw [vy] at t2
  have t3 := (F60_at (k + 600) (mk x 0 y 0 0 0 0 0 65534 4 false R 0 n127 [] 4) 4 128 224 1 rfl rfl (by omega) z r4 r5 r6).trans (s3 (k + 600) x y 224 1 R _ _ hf)
  have t4 := (F60_at (k + 600) (mk ((x + y) % 256) f y 0 0 0 0 0 65534 5 false R 0 n127 [] 5) 5 224 1 118 rfl rfl (by omega) z r5 r6 r7).trans (s4 (k + 600) _ f y 118 R)
  have t5 := (F60_at (k + 600) (mk ((x + y) % 256) f y 0 0 0 0 0 65534 7 false R 0 n127 [(x + y) % 256] 8) 7 118 0 0 rfl rfl (by omega) z r7 r8 r9).trans (s5 (k + 600) _ f y 0 0 R)
  refine ⟨f, F18_halt (k + 600 + 40) (m0 R 0) _ 5 (F32_new _ R 0 hR (.inl rfl) (by omega)) ?_ (by show [(x + y) % 256].length ≤ 100; simp)⟩
  refine (it_go _ (k + 639) 0 _ _ (by omega) (by omega) t1).trans ?_
  refine (it_go _ (k + 638) 1 _ _ (by omega) (by omega) t2).trans ?_
  refine (it_go _ (k + 637) 2 _ _ (by omega) (by omega) t3).trans ?_
  refine (it_go _ (k + 636) 3 _ _ (by omega) (by omega) t4).trans ?_
  refine (it_go _ (k + 635) 4 _ _ (by omega) (by omega) t5).trans ?_
  exact it_halt _ (k + 634) 5 _ (by omega) rfl
theorem ffc {P : Prop} (h : false = true) : P := nomatch h
theorem sum_law (k : Nat) (x : List Int) (hb : ∀ v ∈ x, 0 ≤ v ∧ v ≤ 255) : T (F5 (k + 600 + 40) x) fun r => r = true := by
  have e15 : F15 (k + 600 + 40) x = some (decide (1048576 < (x.length : Int))) := rfl
  unfold F5
  by_cases hbig : 1048576 < (x.length : Int)
  · rw [decide_eq_true hbig] at e15
    exact T.bindbind (T.bindbind (T.eq e15 (T.bindbr (fun _ => T.binds (T.bindbr (fun _ => T.binds (T.csl (T.ret rfl))) nofun)) nofun)))
  rw [decide_eq_false hbig] at e15
  refine T.bindbind (T.bindbind (T.eq e15 (T.bindbr nofun fun _ => T.binds (T.bindbr (fun _ => T.binds (T.csl (T.ret rfl))) fun g => T.binds (T.csr ?_)))))
  have hl := of_decide_eq_false g
  obtain ⟨v, u, rest, rfl⟩ : ∃ v u rest, x = v :: u :: rest := by
    match x, hl with
    | [], h => exact absurd (by simp) h
    | [_], h => exact absurd (by simp) h
    | a :: b :: c, _ => exact ⟨a, b, c, rfl⟩
  have hv := hb v (by simp)
  have hu := hb u (by simp)
  have hR := rom8_len [62, v, 6, u, 128, 224, 1, 118] (by simp)
  have e16 := F16_new (k + 600 + 40) _ 0 hR (.inl rfl)
  have e17 := F17_new (k + 600 + 40) _ 0 hR (.inl rfl)
  have e20 := F20_same (k + 600) (rom8 [62, v, 6, u, 128, 224, 1, 118]) 0
  obtain ⟨f, e18⟩ := sum_run k v u hv hu
  have hs : Int.tmod (w64 (w64 v + w64 u)) 256 = (v + u) % 256 := by
    rw [w64_id (n := v) (by omega) (by omega), w64_id (n := u) (by omega) (by omega), w64_id (by omega) (by omega), Int.tmod_eq_emod_of_nonneg (by omega)]
  have e19 := F19_one (k + 600) ((v + u) % 256)
  refine T.nthv (n := 0) rfl (T.nthv (n := 1) rfl (T.eq e16 (T.eq e17 ?_)))
  refine T.bindbind (T.bindbr (fun h => ffc h) fun _ => T.bindbr (fun h => ffc h) fun _ => T.bindbind (T.eq e20 (T.binds (T.bindbr (fun h => ffc h) fun _ => T.binds (T.csr ?_)))))
  refine T.eq e18 (T.nthv (n := 0) rfl (T.nthv (n := 1) rfl ?_))
  refine T.br (fun _ => T.br (fun _ => T.br (fun _ => ?_) nofun) fun g => absurd rfl (of_decide_eq_false g)) fun g => absurd rfl (of_decide_eq_false g)
  rw [hs]
  exact T.eq e19 (T.br (fun _ => T.br (fun _ => T.ret rfl) fun g => absurd rfl (of_decide_eq_false g)) nofun)
theorem fnSum_law (a0 : T22.den) (h : T22.ok a0) : ∃ K, A5 K a0 = some true := by
  obtain ⟨r, e, rfl⟩ := sum_law 0 a0 (fun v hv => by have := h.2 v hv; simp only [Ty.ok] at this; exact ⟨this.1, this.2⟩)
  exact ⟨_, e⟩
end Go.U.Tryz
