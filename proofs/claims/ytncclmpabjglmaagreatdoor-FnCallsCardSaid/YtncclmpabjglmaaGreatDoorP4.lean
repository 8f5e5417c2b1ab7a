/- A part of the proof. No condition. -/
import Derived.Test.YtncclmpabjglmaaGreatDoorP3
import Derived.Test.YtncclmpabjglmaaGreatDoorP1
import Derived.Test.YtncclmpabjglmaaGreatDoorVMe
import Derived.Test.YtncclmpabjglmaaGreatDoorVMh
import Derived.Test.YtncclmpabjglmaaGreatDoorP0
import Derived.Test.YtncclmpabjglmaaGreatDoorVMk
set_option linter.unusedVariables false
set_option linter.unusedSimpArgs false
set_option linter.unusedSectionVars false
namespace Go.U.Tryz
open Go Go.U
set_option linter.unusedVariables false
set_option linter.unusedSimpArgs false
set_option maxRecDepth 20000
theorem iter_go {α β : Type} {n : Nat} {f : α → Option (α ⊕ β)} {a a' : α} (h : f a = some (.inl a')) : iter (n + 1) f a = iter n f a' := by simp only [iter, h]
theorem iter_end {α β : Type} {n : Nat} {f : α → Option (α ⊕ β)} {a : α} {b : β} (h : f a = some (.inr b)) : iter (n + 1) f a = some b := by simp only [iter, h]
theorem F134_1 (k : Nat) (v : Int) : F134 (k + 40) (v, 1) = some (toB [w8 v]) := by kernel_rfl
end Go.U.Tryz
namespace Go.U.Tryz
open Go Go.U
set_option linter.unusedVariables false
set_option linter.unusedSimpArgs false
set_option maxRecDepth 20000
end Go.U.Tryz
namespace Go.U.Tryz
open Go Go.U
set_option linter.unusedVariables false
set_option linter.unusedSimpArgs false
set_option maxRecDepth 20000
def G60 (v0 : Int × Bool × Int × Int × Int × Int × Int × Int × Int × Int × Int × Int × Int × Int × Bool × Bool × (List UInt8) × Int × Int × (List UInt8) × Int × Bool × Int × (List UInt8) × (List UInt8) × (List Int) × Int) (v1 : Bool × AT) (v2 : Int) : Option (Int × Int × Int × Int × Int × Int × Int × Int × Int × Int × Bool × Bool × (List UInt8) × Int × Int × (List UInt8) × Int × Bool × Int × (List UInt8) × (List UInt8) × (List Int) × Int × Int) :=
  bindO (α := Bool × Int × Int × Int × Int × Int × Int × Int × Int × Int × Int × Bool × Bool × (List UInt8) × Int × Int × (List UInt8) × Int × Bool × Int × (List UInt8) × (List UInt8) × (List Int) × Int × Int × Int × Int × Int × Int × Int × Int × Int × Int × Int × Bool × Bool × (List UInt8) × Int × Int × (List UInt8) × Int × Bool × Int × (List UInt8) × (List UInt8) × (List Int) × Int × Int × Int × Int × Int × Int × Int × Int × Int × Int × Int × Bool × Bool × (List UInt8) × Int × Int × (List UInt8) × Int × Bool × Int × (List UInt8) × (List UInt8) × (List Int) × Int) (branch v1.2.2.2.2.1
       (some (true, v1.2.2.2.2.2.1, v1.2.2.2.2.2.2.1, v1.2.2.2.2.2.2.2.1, v1.2.2.2.2.2.2.2.2.1, v1.2.2.2.2.2.2.2.2.2.1, v1.2.2.2.2.2.2.2.2.2.2.1, v1.2.2.2.2.2.2.2.2.2.2.2.1, v1.2.2.2.2.2.2.2.2.2.2.2.2.1, v1.2.2.2.2.2.2.2.2.2.2.2.2.2.1, v1.2.2.2.2.2.2.2.2.2.2.2.2.2.2.1, v1.2.2.2.2.2.2.2.2.2.2.2.2.2.2.2.1, v1.2.2.2.2.2.2.2.2.2.2.2.2.2.2.2.2.1, v1.2.2.2.2.2.2.2.2.2.2.2.2.2.2.2.2.2.1, v1.2.2.2.2.2.2.2.2.2.2.2.2.2.2.2.2.2.2.1, v1.2.2.2.2.2.2.2.2.2.2.2.2.2.2.2.2.2.2.2.1, v1.2.2.2.2.2.2.2.2.2.2.2.2.2.2.2.2.2.2.2.2.1, v1.2.2.2.2.2.2.2.2.2.2.2.2.2.2.2.2.2.2.2.2.2.1, v1.2.2.2.2.2.2.2.2.2.2.2.2.2.2.2.2.2.2.2.2.2.2.1, v1.2.2.2.2.2.2.2.2.2.2.2.2.2.2.2.2.2.2.2.2.2.2.2.1, v1.2.2.2.2.2.2.2.2.2.2.2.2.2.2.2.2.2.2.2.2.2.2.2.2.1, v1.2.2.2.2.2.2.2.2.2.2.2.2.2.2.2.2.2.2.2.2.2.2.2.2.2.1, v1.2.2.2.2.2.2.2.2.2.2.2.2.2.2.2.2.2.2.2.2.2.2.2.2.2.2.1, w64 (v1.2.2.2.2.2.2.2.2.2.2.2.2.2.2.2.2.2.2.2.2.2.2.2.2.2.2.2 + v2), 0, 0, 0, 0, 0, 0, 0, 0, 0, 0, false, false, [], 0, 0, [], 0, false, 0, [], [], [], 0, v0.2.2.2.2))
       (some (decide (1000000000 < (w64 (v1.2.2.2.2.2.2.2.2.2.2.2.2.2.2.2.2.2.2.2.2.2.2.2.2.2.2.2 + v2))), v1.2.2.2.2.2.1, v1.2.2.2.2.2.2.1, v1.2.2.2.2.2.2.2.1, v1.2.2.2.2.2.2.2.2.1, v1.2.2.2.2.2.2.2.2.2.1, v1.2.2.2.2.2.2.2.2.2.2.1, v1.2.2.2.2.2.2.2.2.2.2.2.1, v1.2.2.2.2.2.2.2.2.2.2.2.2.1, v1.2.2.2.2.2.2.2.2.2.2.2.2.2.1, v1.2.2.2.2.2.2.2.2.2.2.2.2.2.2.1, v1.2.2.2.2.2.2.2.2.2.2.2.2.2.2.2.1, v1.2.2.2.2.2.2.2.2.2.2.2.2.2.2.2.2.1, v1.2.2.2.2.2.2.2.2.2.2.2.2.2.2.2.2.2.1, v1.2.2.2.2.2.2.2.2.2.2.2.2.2.2.2.2.2.2.1, v1.2.2.2.2.2.2.2.2.2.2.2.2.2.2.2.2.2.2.2.1, v1.2.2.2.2.2.2.2.2.2.2.2.2.2.2.2.2.2.2.2.2.1, v1.2.2.2.2.2.2.2.2.2.2.2.2.2.2.2.2.2.2.2.2.2.1, v1.2.2.2.2.2.2.2.2.2.2.2.2.2.2.2.2.2.2.2.2.2.2.1, v1.2.2.2.2.2.2.2.2.2.2.2.2.2.2.2.2.2.2.2.2.2.2.2.1, v1.2.2.2.2.2.2.2.2.2.2.2.2.2.2.2.2.2.2.2.2.2.2.2.2.1, v1.2.2.2.2.2.2.2.2.2.2.2.2.2.2.2.2.2.2.2.2.2.2.2.2.2.1, v1.2.2.2.2.2.2.2.2.2.2.2.2.2.2.2.2.2.2.2.2.2.2.2.2.2.2.1, w64 (v1.2.2.2.2.2.2.2.2.2.2.2.2.2.2.2.2.2.2.2.2.2.2.2.2.2.2.2 + v2), 0, 0, 0, 0, 0, 0, 0, 0, 0, 0, false, false, [], 0, 0, [], 0, false, 0, [], [], [], 0, v0.2.2.2.2))) fun v3 =>
    branch v3.1
     (some (v3.2.2.2.2.2.2.2.2.2.2.2.2.2.2.2.2.2.2.2.2.2.2.2.2.2.2.2.2.2.2.2.2.2.2.2.2.2.2.2.2.2.2.2.2.2.2.2.1, v3.2.2.2.2.2.2.2.2.2.2.2.2.2.2.2.2.2.2.2.2.2.2.2.2.2.2.2.2.2.2.2.2.2.2.2.2.2.2.2.2.2.2.2.2.2.2.2.2.1, v3.2.2.2.2.2.2.2.2.2.2.2.2.2.2.2.2.2.2.2.2.2.2.2.2.2.2.2.2.2.2.2.2.2.2.2.2.2.2.2.2.2.2.2.2.2.2.2.2.2.1, v3.2.2.2.2.2.2.2.2.2.2.2.2.2.2.2.2.2.2.2.2.2.2.2.2.2.2.2.2.2.2.2.2.2.2.2.2.2.2.2.2.2.2.2.2.2.2.2.2.2.2.1, v3.2.2.2.2.2.2.2.2.2.2.2.2.2.2.2.2.2.2.2.2.2.2.2.2.2.2.2.2.2.2.2.2.2.2.2.2.2.2.2.2.2.2.2.2.2.2.2.2.2.2.2.1, v3.2.2.2.2.2.2.2.2.2.2.2.2.2.2.2.2.2.2.2.2.2.2.2.2.2.2.2.2.2.2.2.2.2.2.2.2.2.2.2.2.2.2.2.2.2.2.2.2.2.2.2.2.1, v3.2.2.2.2.2.2.2.2.2.2.2.2.2.2.2.2.2.2.2.2.2.2.2.2.2.2.2.2.2.2.2.2.2.2.2.2.2.2.2.2.2.2.2.2.2.2.2.2.2.2.2.2.2.1, v3.2.2.2.2.2.2.2.2.2.2.2.2.2.2.2.2.2.2.2.2.2.2.2.2.2.2.2.2.2.2.2.2.2.2.2.2.2.2.2.2.2.2.2.2.2.2.2.2.2.2.2.2.2.2.1, v3.2.2.2.2.2.2.2.2.2.2.2.2.2.2.2.2.2.2.2.2.2.2.2.2.2.2.2.2.2.2.2.2.2.2.2.2.2.2.2.2.2.2.2.2.2.2.2.2.2.2.2.2.2.2.2.1, v3.2.2.2.2.2.2.2.2.2.2.2.2.2.2.2.2.2.2.2.2.2.2.2.2.2.2.2.2.2.2.2.2.2.2.2.2.2.2.2.2.2.2.2.2.2.2.2.2.2.2.2.2.2.2.2.2.1, v3.2.2.2.2.2.2.2.2.2.2.2.2.2.2.2.2.2.2.2.2.2.2.2.2.2.2.2.2.2.2.2.2.2.2.2.2.2.2.2.2.2.2.2.2.2.2.2.2.2.2.2.2.2.2.2.2.2.1, v3.2.2.2.2.2.2.2.2.2.2.2.2.2.2.2.2.2.2.2.2.2.2.2.2.2.2.2.2.2.2.2.2.2.2.2.2.2.2.2.2.2.2.2.2.2.2.2.2.2.2.2.2.2.2.2.2.2.2.1, v3.2.2.2.2.2.2.2.2.2.2.2.2.2.2.2.2.2.2.2.2.2.2.2.2.2.2.2.2.2.2.2.2.2.2.2.2.2.2.2.2.2.2.2.2.2.2.2.2.2.2.2.2.2.2.2.2.2.2.2.1, v3.2.2.2.2.2.2.2.2.2.2.2.2.2.2.2.2.2.2.2.2.2.2.2.2.2.2.2.2.2.2.2.2.2.2.2.2.2.2.2.2.2.2.2.2.2.2.2.2.2.2.2.2.2.2.2.2.2.2.2.2.1, v3.2.2.2.2.2.2.2.2.2.2.2.2.2.2.2.2.2.2.2.2.2.2.2.2.2.2.2.2.2.2.2.2.2.2.2.2.2.2.2.2.2.2.2.2.2.2.2.2.2.2.2.2.2.2.2.2.2.2.2.2.2.1, v3.2.2.2.2.2.2.2.2.2.2.2.2.2.2.2.2.2.2.2.2.2.2.2.2.2.2.2.2.2.2.2.2.2.2.2.2.2.2.2.2.2.2.2.2.2.2.2.2.2.2.2.2.2.2.2.2.2.2.2.2.2.2.1, v3.2.2.2.2.2.2.2.2.2.2.2.2.2.2.2.2.2.2.2.2.2.2.2.2.2.2.2.2.2.2.2.2.2.2.2.2.2.2.2.2.2.2.2.2.2.2.2.2.2.2.2.2.2.2.2.2.2.2.2.2.2.2.2.1, v3.2.2.2.2.2.2.2.2.2.2.2.2.2.2.2.2.2.2.2.2.2.2.2.2.2.2.2.2.2.2.2.2.2.2.2.2.2.2.2.2.2.2.2.2.2.2.2.2.2.2.2.2.2.2.2.2.2.2.2.2.2.2.2.2.1, v3.2.2.2.2.2.2.2.2.2.2.2.2.2.2.2.2.2.2.2.2.2.2.2.2.2.2.2.2.2.2.2.2.2.2.2.2.2.2.2.2.2.2.2.2.2.2.2.2.2.2.2.2.2.2.2.2.2.2.2.2.2.2.2.2.2.1, v3.2.2.2.2.2.2.2.2.2.2.2.2.2.2.2.2.2.2.2.2.2.2.2.2.2.2.2.2.2.2.2.2.2.2.2.2.2.2.2.2.2.2.2.2.2.2.2.2.2.2.2.2.2.2.2.2.2.2.2.2.2.2.2.2.2.2.1, v3.2.2.2.2.2.2.2.2.2.2.2.2.2.2.2.2.2.2.2.2.2.2.2.2.2.2.2.2.2.2.2.2.2.2.2.2.2.2.2.2.2.2.2.2.2.2.2.2.2.2.2.2.2.2.2.2.2.2.2.2.2.2.2.2.2.2.2.1, v3.2.2.2.2.2.2.2.2.2.2.2.2.2.2.2.2.2.2.2.2.2.2.2.2.2.2.2.2.2.2.2.2.2.2.2.2.2.2.2.2.2.2.2.2.2.2.2.2.2.2.2.2.2.2.2.2.2.2.2.2.2.2.2.2.2.2.2.2.1, v3.2.2.2.2.2.2.2.2.2.2.2.2.2.2.2.2.2.2.2.2.2.2.2.2.2.2.2.2.2.2.2.2.2.2.2.2.2.2.2.2.2.2.2.2.2.2.2.2.2.2.2.2.2.2.2.2.2.2.2.2.2.2.2.2.2.2.2.2.2, 4))
     (some (v3.2.1, v3.2.2.1, v3.2.2.2.1, v3.2.2.2.2.1, v3.2.2.2.2.2.1, v3.2.2.2.2.2.2.1, v3.2.2.2.2.2.2.2.1, v3.2.2.2.2.2.2.2.2.1, v3.2.2.2.2.2.2.2.2.2.1, v3.2.2.2.2.2.2.2.2.2.2.1, v3.2.2.2.2.2.2.2.2.2.2.2.1, v3.2.2.2.2.2.2.2.2.2.2.2.2.1, v3.2.2.2.2.2.2.2.2.2.2.2.2.2.1, v3.2.2.2.2.2.2.2.2.2.2.2.2.2.2.1, v3.2.2.2.2.2.2.2.2.2.2.2.2.2.2.2.1, v3.2.2.2.2.2.2.2.2.2.2.2.2.2.2.2.2.1, v3.2.2.2.2.2.2.2.2.2.2.2.2.2.2.2.2.2.1, v3.2.2.2.2.2.2.2.2.2.2.2.2.2.2.2.2.2.2.1, v3.2.2.2.2.2.2.2.2.2.2.2.2.2.2.2.2.2.2.2.1, v3.2.2.2.2.2.2.2.2.2.2.2.2.2.2.2.2.2.2.2.2.1, v3.2.2.2.2.2.2.2.2.2.2.2.2.2.2.2.2.2.2.2.2.2.1, v3.2.2.2.2.2.2.2.2.2.2.2.2.2.2.2.2.2.2.2.2.2.2.1, v3.2.2.2.2.2.2.2.2.2.2.2.2.2.2.2.2.2.2.2.2.2.2.2.1, 0))
def out (w : WT) (c : Int) : Int × Int × Int × Int × Int × Int × Int × Int × Int × Int × Bool × Bool × (List UInt8) × Int × Int × (List UInt8) × Int × Bool × Int × (List UInt8) × (List UInt8) × (List Int) × Int × Int := (w.1, w.2.1, w.2.2.1, w.2.2.2.1, w.2.2.2.2.1, w.2.2.2.2.2.1, w.2.2.2.2.2.2.1, w.2.2.2.2.2.2.2.1, w.2.2.2.2.2.2.2.2.1, w.2.2.2.2.2.2.2.2.2.1, w.2.2.2.2.2.2.2.2.2.2.1, w.2.2.2.2.2.2.2.2.2.2.2.1, w.2.2.2.2.2.2.2.2.2.2.2.2.1, w.2.2.2.2.2.2.2.2.2.2.2.2.2.1, w.2.2.2.2.2.2.2.2.2.2.2.2.2.2.1, w.2.2.2.2.2.2.2.2.2.2.2.2.2.2.2.1, w.2.2.2.2.2.2.2.2.2.2.2.2.2.2.2.2.1, w.2.2.2.2.2.2.2.2.2.2.2.2.2.2.2.2.2.1, w.2.2.2.2.2.2.2.2.2.2.2.2.2.2.2.2.2.2.1, w.2.2.2.2.2.2.2.2.2.2.2.2.2.2.2.2.2.2.2.1, w.2.2.2.2.2.2.2.2.2.2.2.2.2.2.2.2.2.2.2.2.1, w.2.2.2.2.2.2.2.2.2.2.2.2.2.2.2.2.2.2.2.2.2.1, w.2.2.2.2.2.2.2.2.2.2.2.2.2.2.2.2.2.2.2.2.2.2.1, c)
def fin (b : Bool) (w w' : WT) (n : Int) : Int × Int × Int × Int × Int × Int × Int × Int × Int × Int × Bool × Bool × (List UInt8) × Int × Int × (List UInt8) × Int × Bool × Int × (List UInt8) × (List UInt8) × (List Int) × Int × Int := cond b (out w 4) (out (setCyc w' n) 0)
end Go.U.Tryz
namespace Go.U.Tryz
open Go Go.U
set_option linter.unusedVariables false
set_option linter.unusedSimpArgs false
set_option maxRecDepth 20000
structure Sm (m : MT) : Prop where
  rom : m.2.2.2.2.2.2.2.2.2.2.2.2.1.length ≤ maxLen
  out : m.2.2.2.2.2.2.2.2.2.2.2.2.2.2.2.2.2.2.2.2.2.1.length ≤ 1048576
abbrev cat {α : Type} (m : MT) (t : α) := (m.1, m.2.1, m.2.2.1, m.2.2.2.1, m.2.2.2.2.1, m.2.2.2.2.2.1, m.2.2.2.2.2.2.1, m.2.2.2.2.2.2.2.1, m.2.2.2.2.2.2.2.2.1, m.2.2.2.2.2.2.2.2.2.1, m.2.2.2.2.2.2.2.2.2.2.1, m.2.2.2.2.2.2.2.2.2.2.2.1, m.2.2.2.2.2.2.2.2.2.2.2.2.1, m.2.2.2.2.2.2.2.2.2.2.2.2.2.1, m.2.2.2.2.2.2.2.2.2.2.2.2.2.2.1, m.2.2.2.2.2.2.2.2.2.2.2.2.2.2.2.1, m.2.2.2.2.2.2.2.2.2.2.2.2.2.2.2.2.1, m.2.2.2.2.2.2.2.2.2.2.2.2.2.2.2.2.2.1, m.2.2.2.2.2.2.2.2.2.2.2.2.2.2.2.2.2.2.1, m.2.2.2.2.2.2.2.2.2.2.2.2.2.2.2.2.2.2.2.1, m.2.2.2.2.2.2.2.2.2.2.2.2.2.2.2.2.2.2.2.2.1, m.2.2.2.2.2.2.2.2.2.2.2.2.2.2.2.2.2.2.2.2.2.1, m.2.2.2.2.2.2.2.2.2.2.2.2.2.2.2.2.2.2.2.2.2.2, t)
abbrev ocat {α : Type} (m : MT) (t : α) := (m.1, m.2.1, m.2.2.1, m.2.2.2.1, m.2.2.2.2.1, m.2.2.2.2.2.1, m.2.2.2.2.2.2.1, m.2.2.2.2.2.2.2.1, m.2.2.2.2.2.2.2.2.1, m.2.2.2.2.2.2.2.2.2.1, m.2.2.2.2.2.2.2.2.2.2.1, m.2.2.2.2.2.2.2.2.2.2.2.1, m.2.2.2.2.2.2.2.2.2.2.2.2.1, m.2.2.2.2.2.2.2.2.2.2.2.2.2.1, m.2.2.2.2.2.2.2.2.2.2.2.2.2.2.1, m.2.2.2.2.2.2.2.2.2.2.2.2.2.2.2.1, m.2.2.2.2.2.2.2.2.2.2.2.2.2.2.2.2.1, m.2.2.2.2.2.2.2.2.2.2.2.2.2.2.2.2.2.1, m.2.2.2.2.2.2.2.2.2.2.2.2.2.2.2.2.2.2.1, m.2.2.2.2.2.2.2.2.2.2.2.2.2.2.2.2.2.2.2.1, m.2.2.2.2.2.2.2.2.2.2.2.2.2.2.2.2.2.2.2.2.1, m.2.2.2.2.2.2.2.2.2.2.2.2.2.2.2.2.2.2.2.2.2.2, t)
abbrev outM (m : MT) : List Int := m.2.2.2.2.2.2.2.2.2.2.2.2.2.2.2.2.2.2.2.2.2.1
abbrev OT := Int × Int × Int × Int × Int × Int × Int × Int × Int × Int × Bool × Bool × (List UInt8) × Int × Int × (List UInt8) × Int × Bool × Int × (List UInt8) × (List UInt8) × Int × List Int
def ofO (m : MT) : OT := (m.1, m.2.1, m.2.2.1, m.2.2.2.1, m.2.2.2.2.1, m.2.2.2.2.2.1, m.2.2.2.2.2.2.1, m.2.2.2.2.2.2.2.1, m.2.2.2.2.2.2.2.2.1, m.2.2.2.2.2.2.2.2.2.1, m.2.2.2.2.2.2.2.2.2.2.1, m.2.2.2.2.2.2.2.2.2.2.2.1, m.2.2.2.2.2.2.2.2.2.2.2.2.1, m.2.2.2.2.2.2.2.2.2.2.2.2.2.1, m.2.2.2.2.2.2.2.2.2.2.2.2.2.2.1, m.2.2.2.2.2.2.2.2.2.2.2.2.2.2.2.1, m.2.2.2.2.2.2.2.2.2.2.2.2.2.2.2.2.1, m.2.2.2.2.2.2.2.2.2.2.2.2.2.2.2.2.2.1, m.2.2.2.2.2.2.2.2.2.2.2.2.2.2.2.2.2.2.1, m.2.2.2.2.2.2.2.2.2.2.2.2.2.2.2.2.2.2.2.1, m.2.2.2.2.2.2.2.2.2.2.2.2.2.2.2.2.2.2.2.2.1, m.2.2.2.2.2.2.2.2.2.2.2.2.2.2.2.2.2.2.2.2.2.2, m.2.2.2.2.2.2.2.2.2.2.2.2.2.2.2.2.2.2.2.2.2.1)
theorem F61o_m (K : Nat) (m : MT) (h : m.2.2.2.2.2.2.2.2.2.2.2.2.2.2.2.2.2.2.2.2.2.1.length ≤ 100) : F61o K m = some (ofO m) := by
  have e1 : F111 K m.2.2.2.2.2.2.2.2.2.2.2.2.2.2.2.2.2.2.2.2.2.1 = some m.2.2.2.2.2.2.2.2.2.2.2.2.2.2.2.2.2.2.2.2.2.1 := by
    unfold F111 cloneF
    exact guard_dec (by omega)
  unfold F61o
  rw [e1]
  rfl
def Z : MT := (0, 0, 0, 0, 0, 0, 0, 0, 0, 0, false, false, [], 0, 0, [], 0, false, 0, [], [], [], 0)
end Go.U.Tryz
namespace Go.U.Tryz
open Go Go.U
set_option linter.unusedVariables false
set_option linter.unusedSimpArgs false
set_option maxRecDepth 20000
abbrev zst (n c i : Int) (m : MT) : Int × Int × Int × Int × Int × Int × Int × Int × Int × Int × Int × Int × Int × Bool × Bool × (List UInt8) × Int × Int × (List UInt8) × Int × Bool × Int × (List UInt8) × (List UInt8) × (List Int) × Int × Int × Int × Int × Int × Int × Int × Int × Int × Int × Int × Bool × Bool × (List UInt8) × Int × Int × (List UInt8) × Int × Bool × Int × (List UInt8) × (List UInt8) × (List Int) × Int := (n, c, i, 0, 0, 0, 0, 0, 0, 0, 0, 0, 0, false, false, [], 0, 0, [], 0, false, 0, [], [], [], 0, m)
abbrev zrs (c i : Int) (m : MT) : Int × Int × Int × Int × Int × Int × Int × Int × Int × Int × Int × Int × Bool × Bool × (List UInt8) × Int × Int × (List UInt8) × Int × Bool × Int × (List UInt8) × (List UInt8) × (List Int) × Int × Int × Int × Int × Int × Int × Int × Int × Int × Int × Int × Bool × Bool × (List UInt8) × Int × Int × (List UInt8) × Int × Bool × Int × (List UInt8) × (List UInt8) × (List Int) × Int := (c, i, 0, 0, 0, 0, 0, 0, 0, 0, 0, 0, false, false, [], 0, 0, [], 0, false, 0, [], [], [], 0, m)
end Go.U.Tryz
namespace Go.U.Tryz
open Go Go.U
set_option linter.unusedVariables false
set_option linter.unusedSimpArgs false
set_option maxRecDepth 20000
theorem F64_rom (K : Nat) (m : MT) (a : Nat) (b : UInt8) (ha : a < 256) (hrb : 0 ≤ m.2.2.2.2.2.2.2.2.2.2.2.2.2.2.2.2.1 ∧ m.2.2.2.2.2.2.2.2.2.2.2.2.2.2.2.2.1 ≤ 3) (hb : m.2.2.2.2.2.2.2.2.2.2.2.2.1[a]? = some b) : F64 K ((a : Int), m) = some (w64 (b.toNat : Int), m) := by
  have e0 : bits .and .i64 (a : Int) 65535 = (a : Int) := by rw [and65535]; omega
  have i1 : inR (a : Int) 49152 49407 = false := decide_eq_false (by omega)
  have i2 : inR (a : Int) 65408 65534 = false := decide_eq_false (by omega)
  have i3 : decide ((a : Int) < 256) = true := decide_eq_true (by omega)
  have e1 := F178_eq K m.2.2.2.2.2.2.2.2.2.2.2.2.1 m.2.2.2.2.2.2.2.2.2.2.2.2.2.1 m.2.2.2.2.2.2.2.2.2.2.2.2.2.2.1 m.2.2.2.2.2.2.2.2.2.2.2.2.2.2.2.1 m.2.2.2.2.2.2.2.2.2.2.2.2.2.2.2.2.1 m.2.2.2.2.2.2.2.2.2.2.2.2.2.2.2.2.2.1 m.2.2.2.2.2.2.2.2.2.2.2.2.2.2.2.2.2.2.1 (a : Int) hrb
  unfold F64
  dsimp only
  rw [e0]
  simp only [F54_in, i1, i2, bindO_s, branch_f]
  unfold F119
  dsimp only
  rw [e1]
  simp only [bindO_s, i3, branch_t, nth_s hb]
theorem toB_byte (b : UInt8) : toB [w8 (w64 (b.toNat : Int))] = [b] := by
  have := b.toNat_lt
  rw [w64_id (by omega) (by omega), w8_id (by omega) (by omega)]
  simp [toB]
theorem fetch0 (k : Nat) (m : MT) (p : Nat) (b0 b1 b2 : UInt8) (hp : m.2.2.2.2.2.2.2.2.2.1 = (p : Int)) (hp' : p ≤ 253) (hrb : 0 ≤ m.2.2.2.2.2.2.2.2.2.2.2.2.2.2.2.2.1 ∧ m.2.2.2.2.2.2.2.2.2.2.2.2.2.2.2.2.1 ≤ 3) (h0 : m.2.2.2.2.2.2.2.2.2.2.2.2.1[p]? = some b0) (h1 : m.2.2.2.2.2.2.2.2.2.2.2.2.1[p + 1]? = some b1) (h2 : m.2.2.2.2.2.2.2.2.2.2.2.2.1[p + 2]? = some b2) :
    F98 (k + 40) m = bindO (F25 (k + 40) ([b0, b1, b2], 0)) fun v => some (v.1, v.2.1, v.2.2.1, v.2.2.2, m) := by
  have fa : ∀ (i : Nat) (l : List UInt8) (b : UInt8), i < 3 → l.length ≤ 3 → m.2.2.2.2.2.2.2.2.2.2.2.2.1[p + i]? = some b → F98_b0 (k + 40) (l, (i : Int), 0, false, 0, m) = some (.inl (l ++ [b], ((i + 1 : Nat) : Int), 0, false, 0, m)) := by
    intro i l b hi hl hb
    have a : F98_b0 (k + 40) (l, (i : Int), 0, false, 0, m) = branch (decide ((i : Int) < 3)) (bindO (F64 (k + 40) (w64 (m.2.2.2.2.2.2.2.2.2.1 + (i : Int)), m)) fun v0 => bindO (F134 (k + 40) (v0.1, 1)) fun v1 => guard (decide ((l.length + v1.length) ≤ 9223372036854775807)) <| some (.inl (l ++ v1, w64 ((i : Int) + 1), 0, false, 0, m))) (some (.inr (l, 0, false, 0, m))) := rfl
    have n0 : w64 (m.2.2.2.2.2.2.2.2.2.1 + (i : Int)) = ((p + i : Nat) : Int) := by rw [hp, w64_id (by omega) (by omega)]; omega
    have n1 : w64 ((i : Int) + 1) = ((i + 1 : Nat) : Int) := by rw [w64_id (by omega) (by omega)]; omega
    rw [a, decide_eq_true (show (i : Int) < 3 by omega), branch_t, n0, F64_rom (k + 40) m (p + i) b (by omega) hrb hb]
    simp only [bindO_s, F134_1, n1, toB_byte]
    rw [decide_eq_true (show l.length + [b].length ≤ 9223372036854775807 by simp; omega), guard_t]
  have ea : iter (k + 40) (F98_b0 (k + 40)) ([], 0, 0, false, 0, m) = some ([] ++ [b0] ++ [b1] ++ [b2], 0, false, 0, m) := by
    refine (iter_go (n := k + 39) (fa 0 [] b0 (by omega) (by simp) h0)).trans ?_
    refine (iter_go (n := k + 38) (fa 1 _ b1 (by omega) (by simp) h1)).trans ?_
    refine (iter_go (n := k + 37) (fa 2 _ b2 (by omega) (by simp) h2)).trans ?_
    exact iter_end (n := k + 36) rfl
  have a : F98 (k + 40) m = bindO (iter (k + 40) (F98_b0 (k + 40)) ([], 0, 0, false, 0, m)) fun v0 => bindO (F25 (k + 40) (v0.1, 0)) fun v1 => some (v1.1, v1.2.1, v1.2.2.1, v1.2.2.2, v0.2.2.2.2) := rfl
  rw [a, ea]
  rfl
def X60 (K : Nat) (v0 : Int × Bool × Int × Int × MT) := branch (decide (v0.2.2.2.1 = 0)) (some (out (MT.w v0.2.2.2.2) 2)) (bindO (F110 K (A v0.1 v0.2.1 v0.2.2.1 (setPc (MT.w v0.2.2.2.2) (bits .and .i64 (w64 (v0.2.2.2.2.2.2.2.2.2.2.2.2.2.1 + v0.2.2.2.1)) 65535)))) fun v1 => bindO (F26 K (v0.1, v0.2.1, v1.1)) fun v2 => G60 v0 v1 v2)
def one (K : Nat) (b0 b1 b2 : UInt8) (m : MT) := bindO (F25 K ([b0, b1, b2], 0)) fun v => X60 K (v.1, v.2.1, v.2.2.1, v.2.2.2, m)
theorem F60_at (k : Nat) (m : MT) (p : Nat) (b0 b1 b2 : UInt8) (hh : m.2.2.2.2.2.2.2.2.2.2.2.1 = false) (hp : m.2.2.2.2.2.2.2.2.2.1 = (p : Int)) (hp' : p ≤ 253) (hrb : 0 ≤ m.2.2.2.2.2.2.2.2.2.2.2.2.2.2.2.2.1 ∧ m.2.2.2.2.2.2.2.2.2.2.2.2.2.2.2.2.1 ≤ 3) (h0 : m.2.2.2.2.2.2.2.2.2.2.2.2.1[p]? = some b0) (h1 : m.2.2.2.2.2.2.2.2.2.2.2.2.1[p + 1]? = some b1) (h2 : m.2.2.2.2.2.2.2.2.2.2.2.2.1[p + 2]? = some b2) :
    F60 (k + 40) m = one (k + 40) b0 b1 b2 m := by
  have l : F60 (k + 40) m = branch m.2.2.2.2.2.2.2.2.2.2.2.1 (some (out m.w 1)) (bindO (F98 (k + 40) m) (X60 (k + 40))) := rfl
  rw [l, hh, branch_f, fetch0 k m p b0 b1 b2 hp hp' hrb h0 h1 h2, bind_bind]
  rfl
def n256 : List UInt8 := List.replicate 256 0
def n127 : List UInt8 := List.replicate 127 0
def mk (a f b c d e h l sp pc : Int) (halt : Bool) (rom : List UInt8) (kind : Int) (high : List UInt8) (o : List Int) (cyc : Int) : MT := (a, f, b, c, d, e, h, l, sp, pc, false, halt, rom, kind, 1, n256, 0, false, 0, n256, high, o, cyc)
def im (x : UInt8) : Int := bits .or .i64 (shlI .i64 0 8) (w64 (x.toNat : Int))
theorem im_eq (x : UInt8) : im x = (x.toNat : Int) := by
  have := x.toNat_lt
  unfold im
  rw [hl_or 0 _ (by omega) (by rw [w64_id (by omega) (by omega)]; omega), w64_id (by omega) (by omega)]; omega
theorem byteN (x : Int) (hx : 0 ≤ x ∧ x ≤ 255) : ((UInt8.ofNat x.toNat).toNat : Int) = x := by
  have h : (UInt8.ofNat x.toNat).toNat = x.toNat % 256 := by first | exact UInt8.toNat_ofNat' | rfl | simp
  omega
theorem it_go (k N : Nat) (i : Int) (m m' : MT) (h0 : 0 ≤ i) (hi : i < 50) (h : F60 k m = some (cat m' 0)) : iter (N + 1) (F55n_b0 k) (zst 50 0 i m) = iter N (F55n_b0 k) (zst 50 0 (i + 1) m') := by
  have ei : w64 (i + 1) = i + 1 := w64_id (by omega) (by omega)
  refine iter_go ?_
  show branch (decide (i < 50)) (bindO (F60 k m) _) _ = _
  rw [decide_eq_true hi, h, branch_t]
  show some (Sum.inl (zst 50 0 (w64 (i + 1)) m')) = _
  rw [ei]
theorem it_halt (k N : Nat) (i : Int) (m : MT) (hi : i < 50) (h : m.2.2.2.2.2.2.2.2.2.2.2.1 = true) : iter (N + 1) (F55n_b0 k) (zst 50 0 i m) = some (zrs 1 i m) := by
  have l : F60 k m = branch m.2.2.2.2.2.2.2.2.2.2.2.1 (some (out m.w 1)) (bindO (F98 k m) (X60 k)) := rfl
  refine iter_end ?_
  show branch (decide (i < 50)) (bindO (F60 k m) _) _ = _
  rw [decide_eq_true hi, l, h, branch_t, branch_t]
  rfl
theorem F18_halt (k : Nat) (m m' : MT) (j : Int) (hm : F32 k m = some true) (it : iter k (F55n_b0 k) (zst 50 0 0 m) = some (zrs 1 j m')) (ho : (outM m').length ≤ 100) : F18 k (cat m 50) = some (ocat m' (1, j, outM m')) := by
  have a2 : F54 k (50, 0, 500) = some true := F54_in k 50 0 500
  have hout := F61o_m k m' ho
  have t : T (F18 k (cat m 50)) (fun r => r = (ocat m' (1, j, outM m'))) := by
    unfold F18
    refine T.bindbind (T.bindbind (T.eq hm (T.bindbr nofun fun _ => T.bindbind (T.eq a2 (T.binds (T.bindbr nofun fun _ => T.binds (T.csr ?_)))))))
    refine T.bind (S := fun r => r = (ocat m' (1, j, outM m'))) ?_ fun r hr => T.ret hr
    unfold F55n
    exact T.eq it (T.eq hout (T.ret rfl))
  obtain ⟨r, er, rfl⟩ := t
  exact er
def m0 (rom : List UInt8) (kind : Int) : MT := mk 0 0 0 0 0 0 0 0 65534 0 false rom kind n127 [] 0
theorem F52_256 (K : Nat) : F52 K 256 = some n256 := by kernel_rfl
theorem F52_127 (K : Nat) : F52 K 127 = some n127 := by kernel_rfl
theorem cart_new (rom : List UInt8) (kind : Int) (h : rom.length = 512) (hk : kind = 0 ∨ kind = 2) : cartOk rom kind 1 n256 0 false 0 = true := by
  have hb : banks rom = 2 := by unfold banks; rw [h]; rfl
  have hn : n256.length = 256 := List.length_replicate
  unfold cartOk cartKind
  rw [hb, hn]
  rcases hk with rfl | rfl <;> rfl
theorem F16_new (K : Nat) (rom : List UInt8) (kind : Int) (h : rom.length = 512) (hk : kind = 0 ∨ kind = 2) : F16 K (rom, kind) = some (cat (m0 rom kind) true) := by
  have e : F51 K (rom, kind) = some (rom, kind, 1, n256, 0, false, 0, true) := by
    unfold F51
    rw [F52_256]
    simp only [bindO_s]
    rw [F83_eq K rom kind 1 n256 0 false 0 (by rw [h]; unfold maxLen; omega), cart_new rom kind h hk]
    rfl
  unfold F16
  rw [e]
  simp only [bindO_s, F52_256, F52_127]
  rfl
theorem F17_new (K : Nat) (rom : List UInt8) (kind : Int) (h : rom.length = 512) (hk : kind = 0 ∨ kind = 2) : F17 K (rom, kind) = some (cat (m0 rom kind) true) := by
  have e : F53 K (rom, kind) = some (rom, kind, 1, n256, 0, false, 0, true) := by
    have q := F86_eq K rom kind 1 n256 0 false 0 (by rw [h]; unfold maxLen; omega)
    rw [cart_new rom kind h hk] at q
    unfold F53
    refine (congrArg (fun z => bindO z _) q).trans ?_
    kernel_rfl
  unfold F17
  refine (congrArg (fun z => bindO z _) e).trans ?_
  kernel_rfl
theorem F32_new (K : Nat) (rom : List UInt8) (kind : Int) (h : rom.length = 512) (hk : kind = 0 ∨ kind = 2) (hK : 8 < K) : F32 K (m0 rom kind) = some true := by
  have q := F32_eq K 0 0 0 0 0 0 0 0 65534 0 false false rom kind 1 n256 0 false 0 n256 n127 [] 0 (by rw [h]; unfold maxLen; omega) (by simp [maxLen]) (by simpa using hK)
  refine q.trans ?_
  have c := cart_new rom kind h hk
  have h1 : n256.length = 256 := List.length_replicate
  have h2 : n127.length = 127 := List.length_replicate
  unfold mOk restOk
  rw [c, h1, h2]
  rfl
end Go.U.Tryz
namespace Go.U.Tryz
open Go Go.U
set_option linter.unusedVariables false
set_option linter.unusedSimpArgs false
set_option maxRecDepth 20000
theorem s1 (k : Nat) (x q : UInt8) (R : List UInt8) : one (k + 40) 62 x q (m0 R 0) = some (cat (mk (im x) 0 0 0 0 0 0 0 65534 2 false R 0 n127 [] 2) 0) := by kernel_rfl
theorem s2 (k : Nat) (a : Int) (y q : UInt8) (R : List UInt8) : one (k + 40) 6 y q (mk a 0 0 0 0 0 0 0 65534 2 false R 0 n127 [] 2) = some (cat (mk a 0 (im y) 0 0 0 0 0 65534 4 false R 0 n127 [] 4) 0) := by kernel_rfl
theorem F19_one (k : Nat) (a : Int) : F19 (k + 40) ([a], [a]) = some true := by
  have s0 : F19_b0 (k + 40) ([a], [a], 0) = some (.inl ([a], [a], 1)) := by
    have l : F19_b0 (k + 40) ([a], [a], 0) = branch (!(decide (a = a))) (some (.inr (.inl false))) (some (.inl ([a], [a], 1))) := by kernel_rfl
    rw [l, decide_eq_true rfl]; rfl
  have s1 : F19_b0 (k + 40) ([a], [a], 1) = some (.inr (.inr ())) := by kernel_rfl
  have e : iter (k + 40) (F19_b0 (k + 40)) ([a], [a], 0) = some (.inr ()) := (iter_go (n := k + 39) s0).trans (iter_end (n := k + 38) s1)
  have l : F19 (k + 40) ([a], [a]) = bindO (iter (k + 40) (F19_b0 (k + 40)) ([a], [a], 0)) fun v0 => csO v0 (fun v1 => some v1) (fun v2 => some true) := by kernel_rfl
  rw [l, e]; rfl
theorem T.nthv {α ρ : Type} {Q : ρ → Prop} {xs : List α} {n : Nat} {v : α} {k : α → Option ρ} (h : xs[n]? = some v) (hk : T (k v) Q) : T (nth xs (n : Int) k) Q := by rw [nth_s h]; exact hk
theorem ffc {P : Prop} (h : false = true) : P := nomatch h
end Go.U.Tryz
namespace Go.U.Tryz
open Go Go.U
set_option linter.unusedVariables false
set_option linter.unusedSimpArgs false
set_option maxRecDepth 20000
def st (l : List UInt8) (i : Nat) (v : Int) : List UInt8 := toB (List.set (ofB l) i (w8 v))
def im2 (x y : UInt8) : Int := bits .or .i64 (shlI .i64 (im y) 8) (w64 (x.toNat : Int))
def ps (l : List UInt8) (i : Nat) (v : Int) : List UInt8 := st (st l (i + 1) (shrI .i64 v 8)) i (bits .and .i64 v 255)
theorem p1 (k : Nat) (x y : UInt8) (R : List UInt8) : one (k + 40) 1 x y (m0 R 2) = some (cat (mk 0 0 (bits .and .i64 (shrI .i64 (im2 x y) 8) 255) (bits .and .i64 (im2 x y) 255) 0 0 0 0 65534 3 false R 2 n127 [] 3) 0) := by kernel_rfl
theorem p2 (k : Nat) (b c : Int) (x y : UInt8) (R : List UInt8) : one (k + 40) 17 x y (mk 0 0 b c 0 0 0 0 65534 3 false R 2 n127 [] 3) = some (cat (mk 0 0 b c (bits .and .i64 (shrI .i64 (im2 x y) 8) 255) (bits .and .i64 (im2 x y) 255) 0 0 65534 6 false R 2 n127 [] 6) 0) := by kernel_rfl
theorem p3 (k : Nat) (b c d e : Int) (x y : UInt8) (R : List UInt8) : one (k + 40) 197 x y (mk 0 0 b c d e 0 0 65534 6 false R 2 n127 [] 6) = some (cat (mk 0 0 b c d e 0 0 65532 7 false R 2 (ps n127 124 (bits .or .i64 (shlI .i64 b 8) c)) [] 10) 0) := by kernel_rfl
theorem im2_eq (x y : Int) (hx : 0 ≤ x ∧ x ≤ 255) (hy : 0 ≤ y ∧ y ≤ 255) : im2 (UInt8.ofNat x.toNat) (UInt8.ofNat y.toNat) = 256 * y + x := by
  unfold im2
  rw [im_eq, byteN x hx, byteN y hy, w64_id (by omega) (by omega), hl_or y x hy hx]
def rt (b : UInt8) : UInt8 := UInt8.ofNat ((b.toNat : Int)).toNat
end Go.U.Tryz
namespace Go.U.Tryz
open Go Go.U
set_option linter.unusedVariables false
set_option linter.unusedSimpArgs false
set_option maxRecDepth 20000
set_option maxHeartbeats 1000000
theorem k1 (k : Nat) (x : UInt8) (R : List UInt8) : one (k + 40) 205 x 0 (m0 R 0) = some (cat (mk 0 0 0 0 0 0 0 0 65532 (im2 x 0) false R 0 (ps n127 124 3) [] 6) 0) := by kernel_rfl
theorem k2 (k : Nat) (i : Int) (x y : UInt8) (R : List UInt8) : one (k + 40) 62 x y (mk 0 0 0 0 0 0 0 0 65532 i false R 0 (ps n127 124 3) [] 6) = some (cat (mk (im x) 0 0 0 0 0 0 0 65532 (bits .and .i64 (w64 (i + 2)) 65535) false R 0 (ps n127 124 3) [] 8) 0) := by kernel_rfl
theorem k3 (k : Nat) (i a : Int) (x y : UInt8) (R : List UInt8) : one (k + 40) 197 x y (mk a 0 0 0 0 0 0 0 65532 i false R 0 (ps n127 124 3) [] 8) = some (cat (mk a 0 0 0 0 0 0 0 65530 (bits .and .i64 (w64 (i + 1)) 65535) false R 0 (ps (ps n127 124 3) 122 0) [] 12) 0) := by kernel_rfl
theorem k4 (k : Nat) (i a : Int) (x y : UInt8) (R : List UInt8) : one (k + 40) 209 x y (mk a 0 0 0 0 0 0 0 65530 i false R 0 (ps (ps n127 124 3) 122 0) [] 12) = some (cat (mk a 0 0 0 0 0 0 0 65532 (bits .and .i64 (w64 (i + 1)) 65535) false R 0 (ps (ps n127 124 3) 122 0) [] 15) 0) := by kernel_rfl
theorem k5 (k : Nat) (i a : Int) (x y : UInt8) (R : List UInt8) : one (k + 40) 201 x y (mk a 0 0 0 0 0 0 0 65532 i false R 0 (ps (ps n127 124 3) 122 0) [] 15) = some (cat (mk a 0 0 0 0 0 0 0 65534 3 false R 0 (ps (ps n127 124 3) 122 0) [] 19) 0) := by kernel_rfl
theorem k6 (k : Nat) (a : Int) (hi : List UInt8) (x : UInt8) (R : List UInt8) : one (k + 40) 224 1 x (mk a 0 0 0 0 0 0 0 65534 3 false R 0 hi [] 19) = some (cat (mk a 0 0 0 0 0 0 0 65534 5 false R 0 hi [a] 22) 0) := by kernel_rfl
theorem k7 (k : Nat) (a : Int) (hi : List UInt8) (x y : UInt8) (R : List UInt8) : one (k + 40) 118 x y (mk a 0 0 0 0 0 0 0 65534 5 false R 0 hi [a] 22) = some (cat (mk a 0 0 0 0 0 0 0 65534 6 true R 0 hi [a] 23) 0) := by kernel_rfl
def put2 (L : List Int) (i : Nat) (p : List Int) : List Int := (List.take i L ++ List.take (min p.length (L.length - i)) p) ++ List.drop (i + min p.length (L.length - i)) L
theorem put2_len (L : List Int) (i : Nat) (p : List Int) (h : i + p.length ≤ L.length) : (put2 L i p).length = L.length := by
  unfold put2
  rw [List.length_append, List.length_append, List.length_take, List.length_take, List.length_drop]; omega
theorem put2_lo (L : List Int) (i : Nat) (p : List Int) (j : Nat) (h : i + p.length ≤ L.length) (hj : j < i) : (put2 L i p)[j]? = L[j]? := by
  unfold put2
  rw [List.append_assoc, List.getElem?_append_left (by rw [List.length_take]; omega), List.getElem?_take_of_lt hj]
theorem put2_mid (L : List Int) (i : Nat) (p : List Int) (j : Nat) (h : i + p.length ≤ L.length) (hj : j < p.length) : (put2 L i p)[i + j]? = p[j]? := by
  unfold put2
  have e : min p.length (L.length - i) = p.length := by omega
  rw [e, List.take_length, List.append_assoc, List.getElem?_append_right (by rw [List.length_take]; omega), List.length_take, show i + j - min i L.length = j by omega, List.getElem?_append_left hj]
theorem put2_some (L : List Int) (i : Nat) (p : List Int) (j : Nat) (h : i + p.length ≤ L.length) (hj : j < L.length) : ∃ b, (toB (put2 L i p))[j]? = some b := by
  have hl : j < (toB (put2 L i p)).length := by rw [toB_length, put2_len L i p h]; exact hj
  exact ⟨_, List.getElem?_eq_getElem hl⟩
theorem toB_get (xs : List Int) (j : Nat) (v : Int) (h : xs[j]? = some v) : (toB xs)[j]? = some (UInt8.ofNat v.toNat) := by
  unfold toB; rw [List.getElem?_map, h]; rfl
def L6 (i : Int) : List Int := List.take (min ([205, i, 0, 224, 1, 118] : List Int).length 512) [205, i, 0, 224, 1, 118] ++ List.drop (min ([205, i, 0, 224, 1, 118] : List Int).length 512) z5
theorem L6_len (i : Int) : (L6 i).length = 512 := by
  unfold L6
  rw [List.length_append, List.length_take, List.length_drop, show z5.length = 512 by kernel_rfl]
  simp
theorem calls_run (k : Nat) (i v : Int) (hi : 40 ≤ i ∧ i ≤ 139) (hv : 0 ≤ v ∧ v ≤ 255) : F18 (k + 600 + 40) (cat (m0 (toB (put2 (L6 i) i.toNat [62, v, 197, 209, 201])) 0) 50) = some (ocat (mk v 0 0 0 0 0 0 0 65534 6 true (toB (put2 (L6 i) i.toNat [62, v, 197, 209, 201])) 0 (ps (ps n127 124 3) 122 0) [v] 23) (1, 7, [v])) := by
  obtain ⟨n, rfl⟩ : ∃ n : Nat, i = (n : Int) := ⟨i.toNat, by omega⟩
  rw [Int.toNat_natCast]
  have h5 : n + ([62, v, 197, 209, 201] : List Int).length ≤ (L6 (n : Int)).length := by rw [L6_len]; simp; omega
  have hR : (toB (put2 (L6 (n : Int)) n [62, v, 197, 209, 201])).length = 512 := by rw [toB_length, put2_len _ _ _ h5, L6_len]
  have lo : ∀ (j : Nat) (b : Int), j < 40 → (L6 (n : Int))[j]? = some b → (toB (put2 (L6 (n : Int)) n [62, v, 197, 209, 201]))[j]? = some (UInt8.ofNat b.toNat) := fun j b hj e => toB_get _ j b ((put2_lo _ _ _ j h5 (by omega)).trans e)
  have mi : ∀ (j : Nat) (b : Int), j < 5 → ([62, v, 197, 209, 201] : List Int)[j]? = some b → (toB (put2 (L6 (n : Int)) n [62, v, 197, 209, 201]))[n + j]? = some (UInt8.ofNat b.toNat) := fun j b hj e => toB_get _ _ b ((put2_mid _ _ _ j h5 hj).trans e)
  have r0 := lo 0 205 (by omega) rfl
  have r1 := lo 1 n (by omega) rfl
  have r2 := lo 2 0 (by omega) rfl
  have r3 := lo 3 224 (by omega) rfl
  have r4 := lo 4 1 (by omega) rfl
  have r5 := lo 5 118 (by omega) rfl
  have r6 := lo 6 0 (by omega) rfl
  have r7 := lo 7 0 (by omega) rfl
  have q0 := mi 0 62 (by omega) rfl
  have q1 := mi 1 v (by omega) rfl
  have q2 := mi 2 197 (by omega) rfl
  have q3 := mi 3 209 (by omega) rfl
  have q4 := mi 4 201 (by omega) rfl
  obtain ⟨b5, q5⟩ := put2_some (L6 (n : Int)) n [62, v, 197, 209, 201] (n + 4 + 1) h5 (by rw [L6_len]; omega)
  obtain ⟨b6, q6⟩ := put2_some (L6 (n : Int)) n [62, v, 197, 209, 201] (n + 4 + 2) h5 (by rw [L6_len]; omega)
  generalize toB (put2 (L6 (n : Int)) n [62, v, 197, 209, 201]) = R at *
  have o : (0 : Int) ≤ 0 ∧ (0 : Int) ≤ 3 := by omega
  have vi : im2 (UInt8.ofNat (n : Int).toNat) 0 = (n : Int) := (im2_eq (n : Int) 0 (by omega) (by omega)).trans (by omega)
  have vv : im (UInt8.ofNat v.toNat) = v := by rw [im_eq, byteN v hv]
  have pc : ∀ (a b : Nat), a + b ≤ 1000 → bits .and .i64 (w64 ((a : Int) + (b : Int))) 65535 = ((a + b : Nat) : Int) := fun a b h => by rw [w64_id (by omega) (by omega), and65535]; omega
  have t1 := (F60_at (k + 600) (m0 R 0) 0 205 _ 0 rfl rfl (by omega) o r0 r1 r2).trans (k1 (k + 600) _ R)
  rw [vi] at t1
  have t2 := (F60_at (k + 600) (mk 0 0 0 0 0 0 0 0 65532 n false R 0 (ps n127 124 3) [] 6) n 62 _ 197 rfl rfl (by omega) o q0 q1 q2).trans (k2 (k + 600) n _ 197 R)
  rw [vv, show bits .and .i64 (w64 ((n : Int) + 2)) 65535 = ((n + 2 : Nat) : Int) from pc n 2 (by omega)] at t2
  have t3 := (F60_at (k + 600) (mk v 0 0 0 0 0 0 0 65532 ((n + 2 : Nat) : Int) false R 0 (ps n127 124 3) [] 8) (n + 2) 197 209 201 rfl rfl (by omega) o q2 q3 q4).trans (k3 (k + 600) _ v 209 201 R)
  rw [show bits .and .i64 (w64 (((n + 2 : Nat) : Int) + 1)) 65535 = ((n + 2 + 1 : Nat) : Int) from pc (n + 2) 1 (by omega)] at t3
  have t4 := (F60_at (k + 600) (mk v 0 0 0 0 0 0 0 65530 ((n + 2 + 1 : Nat) : Int) false R 0 (ps (ps n127 124 3) 122 0) [] 12) (n + 3) 209 201 b5 rfl rfl (by omega) o q3 q4 q5).trans (k4 (k + 600) _ v 201 b5 R)
  rw [show bits .and .i64 (w64 (((n + 2 + 1 : Nat) : Int) + 1)) 65535 = ((n + 2 + 1 + 1 : Nat) : Int) from pc (n + 2 + 1) 1 (by omega)] at t4
  have t5 := (F60_at (k + 600) (mk v 0 0 0 0 0 0 0 65532 ((n + 2 + 1 + 1 : Nat) : Int) false R 0 (ps (ps n127 124 3) 122 0) [] 15) (n + 4) 201 b5 b6 rfl rfl (by omega) o q4 q5 q6).trans (k5 (k + 600) _ v b5 b6 R)
  have t6 := (F60_at (k + 600) (mk v 0 0 0 0 0 0 0 65534 3 false R 0 (ps (ps n127 124 3) 122 0) [] 19) 3 224 1 118 rfl rfl (by omega) o r3 r4 r5).trans (k6 (k + 600) v _ 118 R)
  have t7 := (F60_at (k + 600) (mk v 0 0 0 0 0 0 0 65534 5 false R 0 (ps (ps n127 124 3) 122 0) [v] 22) 5 118 0 0 rfl rfl (by omega) o r5 r6 r7).trans (k7 (k + 600) v _ 0 0 R)
  refine F18_halt (k + 600 + 40) (m0 R 0) (mk v 0 0 0 0 0 0 0 65534 6 true R 0 (ps (ps n127 124 3) 122 0) [v] 23) 7 (F32_new _ R 0 hR (.inl rfl) (by omega)) ?_ (by show ([v] : List Int).length ≤ 100; simp)
  refine (it_go _ (k + 639) 0 _ _ (by omega) (by omega) t1).trans ?_
  refine (it_go _ (k + 638) 1 _ _ (by omega) (by omega) t2).trans ?_
  refine (it_go _ (k + 637) 2 _ _ (by omega) (by omega) t3).trans ?_
  refine (it_go _ (k + 636) 3 _ _ (by omega) (by omega) t4).trans ?_
  refine (it_go _ (k + 635) 4 _ _ (by omega) (by omega) t5).trans ?_
  refine (it_go _ (k + 634) 5 _ _ (by omega) (by omega) t6).trans ?_
  refine (it_go _ (k + 633) 6 _ _ (by omega) (by omega) t7).trans ?_
  exact it_halt _ (k + 632) 7 _ (by omega) rfl
theorem calls_law (k : Nat) (x : List Int) (hb : ∀ v ∈ x, 0 ≤ v ∧ v ≤ 255) : T (F4 (k + 600 + 40) x) fun r => r = true := by
  have e15 : F15 (k + 600 + 40) x = some (decide (1048576 < (x.length : Int))) := rfl
  unfold F4
  by_cases hbig : 1048576 < (x.length : Int)
  · rw [decide_eq_true hbig] at e15
    exact T.bindbind (T.bindbind (T.eq e15 (T.bindbr (fun _ => T.binds (T.bindbr (fun _ => T.binds (T.csl (T.ret rfl))) nofun)) nofun)))
  rw [decide_eq_false hbig] at e15
  refine T.bindbind (T.bindbind (T.eq e15 (T.bindbr nofun fun _ => T.binds (T.bindbr (fun _ => T.binds (T.csl (T.ret rfl))) fun g => T.binds (T.csr ?_)))))
  have hl := of_decide_eq_false g
  obtain ⟨u, v, rest, rfl⟩ : ∃ u v rest, x = u :: v :: rest := by
    match x, hl with
    | [], h => exact absurd (by simp) h
    | [_], h => exact absurd (by simp) h
    | a :: b :: c, _ => exact ⟨a, b, c, rfl⟩
  have hu := hb u (by simp)
  have hv := hb v (by simp)
  refine T.nthv (n := 0) rfl ?_
  have hi : 40 ≤ w8 (40 + Int.tmod u 100) ∧ w8 (40 + Int.tmod u 100) ≤ 139 := by
    rw [Int.tmod_eq_emod_of_nonneg hu.1, w8_id (by omega) (by omega)]; omega
  generalize w8 (40 + Int.tmod u 100) = i at hi ⊢
  have hl6 := L6_len i
  refine T.guard (decide_eq_true ⟨by omega, ?_⟩) (T.nthv (n := 1) rfl (T.guard (decide_eq_true ?_) ?_))
  · show i ≤ ((L6 i).length : Int); rw [hl6]; omega
  · show i.toNat + ((L6 i).length - i.toNat) ≤ (L6 i).length; omega
  have h5 : i.toNat + ([62, v, 197, 209, 201] : List Int).length ≤ (L6 i).length := by rw [hl6]; simp; omega
  have hR : (toB (put2 (L6 i) i.toNat [62, v, 197, 209, 201])).length = 512 := by rw [toB_length, put2_len _ _ _ h5, hl6]
  have e16 := F16_new (k + 600 + 40) _ 0 hR (.inl rfl)
  have e17 := F17_new (k + 600 + 40) _ 0 hR (.inl rfl)
  have e18 := calls_run k i v hi hv
  have e19 := F19_one (k + 600) v
  have hw : w64 v = v := w64_id (by omega) (by omega)
  refine T.eq e16 (T.eq e17 (T.bindbind (T.bindbr (fun h => ffc h) fun _ => T.binds (T.bindbr (fun h => ffc h) fun _ => T.binds (T.csr ?_)))))
  refine T.eq e18 (T.br (fun _ => T.br (fun _ => T.nthv (n := 1) rfl ?_) fun g => absurd rfl (of_decide_eq_false g)) fun g => absurd rfl (of_decide_eq_false g))
  rw [hw]
  exact T.eq e19 (T.br (fun _ => T.br (fun _ => T.ret rfl) fun g => absurd rfl (of_decide_eq_false g)) nofun)
theorem fnCalls_law (a0 : T22.den) (h : T22.ok a0) : ∃ K, A4 K a0 = some true := by
  obtain ⟨r, e, rfl⟩ := calls_law 0 a0 (fun v hv => by have := h.2 v hv; simp only [Ty.ok] at this; exact ⟨this.1, this.2⟩)
  exact ⟨_, e⟩
end Go.U.Tryz
