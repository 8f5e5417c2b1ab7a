/- A part of the proof. No condition. -/
import Derived.Test.YtncclmpabjglmaaGreatDoorVMh
set_option linter.unusedVariables false
set_option linter.unusedSimpArgs false
set_option linter.unusedSectionVars false
namespace Go.U.Tryz
open Go Go.U Go.Proofs Go.Proofs.Tryz
set_option maxRecDepth 100000
def F140 (K : Nat) (x : Int × Bool × Int) : Option (Bool) :=
  bindO (F175 K (x.1, x.2.1)) fun v0 =>
  branch (decide (v0 = 0))
   (some false)
   (bindO (F141 K (x.1, x.2.1)) fun v1 =>
   bindO (F142 K v1) fun v2 =>
   branch (decide (v2.2 = ([110, 49, 54] : List UInt8)))
    (bindO (F87 K (x.2.2, 0, 65535)) fun v3 =>
    some v3)
    (bindO (α := Bool × Int × Bool × Int) (branch (decide (v2.2 = ([110, 56] : List UInt8)))
       (some (true, x))
       (some (decide (v2.2 = ([101, 56] : List UInt8)), x))) fun v4 =>
    branch v4.1
     (bindO (F87 K (v4.2.2.2, 0, 255)) fun v5 =>
     some v5)
     (some (decide (v4.2.2.2 = 0)))))
def ct140 (K : Nat) : Ct := ⟨[.agg [i6, (.v .b), i6]], [], [.l (.v .b)], [], [], F140 K⟩
theorem c140 (K : Nat) : CtOk prog 140 (ct140 K) :=
  cmk (K := K) (an := (sN (.seq (sN (.cond .no .no)) (sN (.seq (sN (.blk (sN (.cond .no (.seqJ [(1000000, ⟨(ru 1 (.l (.ptr 2000 0 0) :: ru 24 (.l (.v .b) :: ru 8 []))), [(2000, ⟨3, false, .mix (some 42) [[.l i6, .l (.v .b), .l i6]]⟩)]⟩)] false (sN .no) (.cond .no .no)))))) .no))))) func140 (kX (c87 K) (kX (c141 K) (kX (c142 K) (kX (c175 K) kN))))
end Go.U.Tryz
