/- A part of the proof. No condition. -/
import Derived.Test.YtncclmpabjglmaaGreatDoorVMf
set_option linter.unusedVariables false
set_option linter.unusedSimpArgs false
set_option linter.unusedSectionVars false
namespace Go.U.Tryz
open Go Go.U Go.Proofs Go.Proofs.Tryz
set_option maxRecDepth 100000
def F53 (K : Nat) (x : (List UInt8) × Int) : Option ((List UInt8) × Int × Int × (List UInt8) × Int × Bool × Int × Bool) :=
  bindO (F86 K (x.1, x.2, 1, ([0, 0, 0, 0, 0, 0, 0, 0, 0, 0, 0, 0, 0, 0, 0, 0, 0, 0, 0, 0, 0, 0, 0, 0, 0, 0, 0, 0, 0, 0, 0, 0, 0, 0, 0, 0, 0, 0, 0, 0, 0, 0, 0, 0, 0, 0, 0, 0, 0, 0, 0, 0, 0, 0, 0, 0, 0, 0, 0, 0, 0, 0, 0, 0, 0, 0, 0, 0, 0, 0, 0, 0, 0, 0, 0, 0, 0, 0, 0, 0, 0, 0, 0, 0, 0, 0, 0, 0, 0, 0, 0, 0, 0, 0, 0, 0, 0, 0, 0, 0, 0, 0, 0, 0, 0, 0, 0, 0, 0, 0, 0, 0, 0, 0, 0, 0, 0, 0, 0, 0, 0, 0, 0, 0, 0, 0, 0, 0, 0, 0, 0, 0, 0, 0, 0, 0, 0, 0, 0, 0, 0, 0, 0, 0, 0, 0, 0, 0, 0, 0, 0, 0, 0, 0, 0, 0, 0, 0, 0, 0, 0, 0, 0, 0, 0, 0, 0, 0, 0, 0, 0, 0, 0, 0, 0, 0, 0, 0, 0, 0, 0, 0, 0, 0, 0, 0, 0, 0, 0, 0, 0, 0, 0, 0, 0, 0, 0, 0, 0, 0, 0, 0, 0, 0, 0, 0, 0, 0, 0, 0, 0, 0, 0, 0, 0, 0, 0, 0, 0, 0, 0, 0, 0, 0, 0, 0, 0, 0, 0, 0, 0, 0, 0, 0, 0, 0, 0, 0, 0, 0, 0, 0, 0, 0, 0, 0, 0, 0, 0, 0, 0, 0, 0, 0, 0, 0] : List UInt8), 0, false, 0)) fun v0 =>
  branch (!v0)
   (some ([], 0, 0, [], 0, false, 0, false))
   (some (x.1, x.2, 1, ([0, 0, 0, 0, 0, 0, 0, 0, 0, 0, 0, 0, 0, 0, 0, 0, 0, 0, 0, 0, 0, 0, 0, 0, 0, 0, 0, 0, 0, 0, 0, 0, 0, 0, 0, 0, 0, 0, 0, 0, 0, 0, 0, 0, 0, 0, 0, 0, 0, 0, 0, 0, 0, 0, 0, 0, 0, 0, 0, 0, 0, 0, 0, 0, 0, 0, 0, 0, 0, 0, 0, 0, 0, 0, 0, 0, 0, 0, 0, 0, 0, 0, 0, 0, 0, 0, 0, 0, 0, 0, 0, 0, 0, 0, 0, 0, 0, 0, 0, 0, 0, 0, 0, 0, 0, 0, 0, 0, 0, 0, 0, 0, 0, 0, 0, 0, 0, 0, 0, 0, 0, 0, 0, 0, 0, 0, 0, 0, 0, 0, 0, 0, 0, 0, 0, 0, 0, 0, 0, 0, 0, 0, 0, 0, 0, 0, 0, 0, 0, 0, 0, 0, 0, 0, 0, 0, 0, 0, 0, 0, 0, 0, 0, 0, 0, 0, 0, 0, 0, 0, 0, 0, 0, 0, 0, 0, 0, 0, 0, 0, 0, 0, 0, 0, 0, 0, 0, 0, 0, 0, 0, 0, 0, 0, 0, 0, 0, 0, 0, 0, 0, 0, 0, 0, 0, 0, 0, 0, 0, 0, 0, 0, 0, 0, 0, 0, 0, 0, 0, 0, 0, 0, 0, 0, 0, 0, 0, 0, 0, 0, 0, 0, 0, 0, 0, 0, 0, 0, 0, 0, 0, 0, 0, 0, 0, 0, 0, 0, 0, 0, 0, 0, 0, 0, 0, 0] : List UInt8), 0, false, 0, true))
def ct53 (K : Nat) : Ct := ⟨[.l (.v .s), .l i6], [], [.agg [(.v .s), i6, i6, (.v .s), i6, (.v .b), i6], .l (.v .b)], [], [], F53 K⟩
theorem c53 (K : Nat) : CtOk prog 53 (ct53 K) :=
  cmk (K := K) (an := (sN (sN (.seq (sN (.cond .no .no)) .no)))) func53 (kX (c86 K) kN)
def F17 (K : Nat) (x : (List UInt8) × Int) : Option (MC (Bool)) :=
  bindO (F53 K x) fun v0 =>
  branch (!v0.2.2.2.2.2.2.2)
   (some (0, 0, 0, 0, 0, 0, 0, 0, 0, 0, false, false, [], 0, 0, [], 0, false, 0, [], [], [], 0, false))
   (some (0, 0, 0, 0, 0, 0, 0, 0, 65534, 0, false, false, v0.1, v0.2.1, v0.2.2.1, v0.2.2.2.1, v0.2.2.2.2.1, v0.2.2.2.2.2.1, v0.2.2.2.2.2.2.1, ([0, 0, 0, 0, 0, 0, 0, 0, 0, 0, 0, 0, 0, 0, 0, 0, 0, 0, 0, 0, 0, 0, 0, 0, 0, 0, 0, 0, 0, 0, 0, 0, 0, 0, 0, 0, 0, 0, 0, 0, 0, 0, 0, 0, 0, 0, 0, 0, 0, 0, 0, 0, 0, 0, 0, 0, 0, 0, 0, 0, 0, 0, 0, 0, 0, 0, 0, 0, 0, 0, 0, 0, 0, 0, 0, 0, 0, 0, 0, 0, 0, 0, 0, 0, 0, 0, 0, 0, 0, 0, 0, 0, 0, 0, 0, 0, 0, 0, 0, 0, 0, 0, 0, 0, 0, 0, 0, 0, 0, 0, 0, 0, 0, 0, 0, 0, 0, 0, 0, 0, 0, 0, 0, 0, 0, 0, 0, 0, 0, 0, 0, 0, 0, 0, 0, 0, 0, 0, 0, 0, 0, 0, 0, 0, 0, 0, 0, 0, 0, 0, 0, 0, 0, 0, 0, 0, 0, 0, 0, 0, 0, 0, 0, 0, 0, 0, 0, 0, 0, 0, 0, 0, 0, 0, 0, 0, 0, 0, 0, 0, 0, 0, 0, 0, 0, 0, 0, 0, 0, 0, 0, 0, 0, 0, 0, 0, 0, 0, 0, 0, 0, 0, 0, 0, 0, 0, 0, 0, 0, 0, 0, 0, 0, 0, 0, 0, 0, 0, 0, 0, 0, 0, 0, 0, 0, 0, 0, 0, 0, 0, 0, 0, 0, 0, 0, 0, 0, 0, 0, 0, 0, 0, 0, 0, 0, 0, 0, 0, 0, 0, 0, 0, 0, 0, 0, 0] : List UInt8), ([0, 0, 0, 0, 0, 0, 0, 0, 0, 0, 0, 0, 0, 0, 0, 0, 0, 0, 0, 0, 0, 0, 0, 0, 0, 0, 0, 0, 0, 0, 0, 0, 0, 0, 0, 0, 0, 0, 0, 0, 0, 0, 0, 0, 0, 0, 0, 0, 0, 0, 0, 0, 0, 0, 0, 0, 0, 0, 0, 0, 0, 0, 0, 0, 0, 0, 0, 0, 0, 0, 0, 0, 0, 0, 0, 0, 0, 0, 0, 0, 0, 0, 0, 0, 0, 0, 0, 0, 0, 0, 0, 0, 0, 0, 0, 0, 0, 0, 0, 0, 0, 0, 0, 0, 0, 0, 0, 0, 0, 0, 0, 0, 0, 0, 0, 0, 0, 0, 0, 0, 0, 0, 0, 0, 0, 0, 0] : List UInt8), [], 0, true))
def ct17 (K : Nat) : Ct := ⟨[.l (.v .s), .l i6], [], [.agg mL, .l (.v .b)], [], [], F17 K⟩
theorem c17 (K : Nat) : CtOk prog 17 (ct17 K) :=
  cmk (K := K) (an := (sN (sN (.seq (sN (.cond .no .no)) (.seq (.reg [2, 4] []) .no))))) func17 (kX (c53 K) kN)
def F19_b0 (K : Nat) (x : (List Int) × (List Int) × Int) : Option (((List Int) × (List Int) × Int) ⊕ (Bool ⊕ Unit)) :=
  branch (decide (x.2.2 < (x.1.length : Int)))
   (nth x.1 x.2.2 fun v0 =>
   nth x.2.1 x.2.2 fun v1 =>
   branch (!(decide (v0 = v1)))
    (some (.inr (.inl false)))
    (some (.inl (x.1, x.2.1, w64 (x.2.2 + 1)))))
   (some (.inr (.inr ())))
def F19 (K : Nat) (x : (List Int) × List Int) : Option (Bool) :=
  branch (!(decide ((x.1.length : Int) = (x.2.length : Int))))
   (some false)
   (bindO (iter K (F19_b0 K) (x.1, x.2, 0)) fun v0 =>
   csO v0
    (fun v1 => some v1)
    (fun v2 => some true))
def ct19 (K : Nat) : Ct := ⟨[.l (.v (.l (.i .i64))), .l (.v (.l (.i .i64)))], [], [.l (.v .b)], [], [], F19 K⟩
theorem c19 (K : Nat) : CtOk prog 19 (ct19 K) :=
  cmk (K := K) (an := (sN (.seq (sN (.cond .no .no)) (.seq (sN (.blk (.loop [] ⟨(.l (.v (.l (.i .i64))) :: .l (.v (.l (.i .i64))) :: ru 3 (.l i6 :: ru 20 [])), []⟩ [(0, ⟨(ru 26 []), []⟩)] true (.seq (sN .no) (.seq (.blk (sN (.cond .no .no))) .no))))) .no)))) func19 kN
def F57 (K : Nat) (x : (List UInt8) × Int × Int × (List UInt8) × Int × Bool × Int × (List UInt8) × Int × Int × (List UInt8) × Int × Bool × Int) : Option (Bool) :=
  some ((decide (x.1 = x.2.2.2.2.2.2.2.1)) && ((decide (x.2.1 = x.2.2.2.2.2.2.2.2.1)) && ((decide (x.2.2.1 = x.2.2.2.2.2.2.2.2.2.1)) && ((decide (x.2.2.2.1 = x.2.2.2.2.2.2.2.2.2.2.1)) && ((decide (x.2.2.2.2.1 = x.2.2.2.2.2.2.2.2.2.2.2.1)) && ((decide (x.2.2.2.2.2.1 = x.2.2.2.2.2.2.2.2.2.2.2.2.1)) && (decide (x.2.2.2.2.2.2.1 = x.2.2.2.2.2.2.2.2.2.2.2.2.2))))))))
def ct57 (K : Nat) : Ct := ⟨[.agg [(.v .s), i6, i6, (.v .s), i6, (.v .b), i6], .agg [(.v .s), i6, i6, (.v .s), i6, (.v .b), i6]], [], [.l (.v .b)], [], [], F57 K⟩
theorem c57 (K : Nat) : CtOk prog 57 (ct57 K) :=
  cmk (K := K) (an := (sN .no)) func57 kN
def F20 (K : Nat) (x : MC MM) : Option (Bool) :=
  branch ((decide (x.1 = (pr23 x))) && ((decide (x.2.1 = (pr24 x))) && ((decide (x.2.2.1 = (q24 x).2.1)) && ((decide (x.2.2.2.1 = (q24 x).2.2.1)) && ((decide ((pr4 x) = (q24 x).2.2.2.1)) && ((decide ((pr5 x) = (pr4 (q24 x)))) && ((decide ((pr6 x) = (pr5 (q24 x)))) && ((decide ((pr7 x) = (pr6 (q24 x)))) && ((decide ((pr8 x) = (pr7 (q24 x)))) && ((decide ((pr9 x) = (pr8 (q24 x)))) && ((decide ((pr10 x) = (pr9 (q24 x)))) && (decide ((pr11 x) = (pr10 (q24 x)))))))))))))))
   (bindO (F57 K (pr12 x, pr13 x, pr14 x, pr15 x, pr16 x, pr17 x, pr18 x, pr11 (q24 x), pr12 (q24 x), pr13 (q24 x), pr14 (q24 x), pr15 (q24 x), pr16 (q24 x), pr17 (q24 x))) fun v0 =>
   branch v0
    (branch (decide ((pr19 x) = (pr18 (q24 x))))
     (branch (decide ((pr20 x) = (pr19 (q24 x))))
      (branch (decide ((pr22 x) = (er21 (q24 x))))
       (bindO (F19 K (pr21 x, pr20 (q24 x))) fun v1 =>
       some v1)
       (some false))
      (some false))
     (some false))
    (some false))
   (some false)
def ct20 (K : Nat) : Ct := ⟨[.agg mL, .agg mL], [], [.l (.v .b)], [], [], F20 K⟩
theorem c20 (K : Nat) : CtOk prog 20 (ct20 K) :=
  cmk (K := K) (an := (sN .no)) func20 (kX (c19 K) (kX (c57 K) kN))
def T22 : Ty := (.l (.i .u8))
theorem tl22 : tyL prog 64 22 = some T22 := by kernel_rfl
end Go.U.Tryz
