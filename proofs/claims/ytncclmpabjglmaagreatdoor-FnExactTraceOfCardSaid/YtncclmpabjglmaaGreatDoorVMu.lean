/- A part of the proof. No condition. -/
import Derived.Test.YtncclmpabjglmaaGreatDoorVMt
set_option linter.unusedVariables false
set_option linter.unusedSimpArgs false
set_option linter.unusedSectionVars false
namespace Go.U.Tryz
open Go Go.U Go.Proofs Go.Proofs.Tryz
set_option maxRecDepth 100000
def F45o_b0 (K : Nat) (x : Int × Int × (List (List UInt8)) × MM) : Option ((Int × Int × (List (List UInt8)) × MM) ⊕ (List (List UInt8))) :=
  branch (decide (x.2.1 < x.1))
   (bindO (F60 K x.2.2.2) fun v0 =>
   branch (!(decide (v0.2.2.2.2.2.2.2.2.2.2.2.2.2.2.2.2.2.2.2.2.2.2.2 = 0)))
    (some (.inr x.2.2.1))
    (bindO (F93 K x.2.2.2) fun v1 =>
    bindO (α := (List UInt8) × Int × Int × Int × Int × MC ((List (List UInt8)) × MM)) (branch (decide (0 ≤ v1.1))
       (bindO (F97 K (v1.1, 2)) fun v2 =>
       some (v2, x.1, x.2.1, v1.1, v1.2, v0.1, v0.2.1, v0.2.2.1, v0.2.2.2.1, v0.2.2.2.2.1, v0.2.2.2.2.2.1, v0.2.2.2.2.2.2.1, v0.2.2.2.2.2.2.2.1, v0.2.2.2.2.2.2.2.2.1, v0.2.2.2.2.2.2.2.2.2.1, v0.2.2.2.2.2.2.2.2.2.2.1, v0.2.2.2.2.2.2.2.2.2.2.2.1, v0.2.2.2.2.2.2.2.2.2.2.2.2.1, v0.2.2.2.2.2.2.2.2.2.2.2.2.2.1, v0.2.2.2.2.2.2.2.2.2.2.2.2.2.2.1, v0.2.2.2.2.2.2.2.2.2.2.2.2.2.2.2.1, v0.2.2.2.2.2.2.2.2.2.2.2.2.2.2.2.2.1, v0.2.2.2.2.2.2.2.2.2.2.2.2.2.2.2.2.2.1, v0.2.2.2.2.2.2.2.2.2.2.2.2.2.2.2.2.2.2.1, v0.2.2.2.2.2.2.2.2.2.2.2.2.2.2.2.2.2.2.2.1, v0.2.2.2.2.2.2.2.2.2.2.2.2.2.2.2.2.2.2.2.2.1, v0.2.2.2.2.2.2.2.2.2.2.2.2.2.2.2.2.2.2.2.2.2.1, v0.2.2.2.2.2.2.2.2.2.2.2.2.2.2.2.2.2.2.2.2.2.2.1, x.2.2))
       (some (([45, 45] : List UInt8), x.1, x.2.1, v1.1, v1.2, v0.1, v0.2.1, v0.2.2.1, v0.2.2.2.1, v0.2.2.2.2.1, v0.2.2.2.2.2.1, v0.2.2.2.2.2.2.1, v0.2.2.2.2.2.2.2.1, v0.2.2.2.2.2.2.2.2.1, v0.2.2.2.2.2.2.2.2.2.1, v0.2.2.2.2.2.2.2.2.2.2.1, v0.2.2.2.2.2.2.2.2.2.2.2.1, v0.2.2.2.2.2.2.2.2.2.2.2.2.1, v0.2.2.2.2.2.2.2.2.2.2.2.2.2.1, v0.2.2.2.2.2.2.2.2.2.2.2.2.2.2.1, v0.2.2.2.2.2.2.2.2.2.2.2.2.2.2.2.1, v0.2.2.2.2.2.2.2.2.2.2.2.2.2.2.2.2.1, v0.2.2.2.2.2.2.2.2.2.2.2.2.2.2.2.2.2.1, v0.2.2.2.2.2.2.2.2.2.2.2.2.2.2.2.2.2.2.1, v0.2.2.2.2.2.2.2.2.2.2.2.2.2.2.2.2.2.2.2.1, v0.2.2.2.2.2.2.2.2.2.2.2.2.2.2.2.2.2.2.2.2.1, v0.2.2.2.2.2.2.2.2.2.2.2.2.2.2.2.2.2.2.2.2.2.1, v0.2.2.2.2.2.2.2.2.2.2.2.2.2.2.2.2.2.2.2.2.2.2.1, x.2.2))) fun v3 =>
    bindO (F98 K v3.2.2.2.2.2.2.2.2.2.2.2.2.2.2.2.2.2.2.2.2.2.2.2.2.2.2.2.2.2) fun v4 =>
    guard (decide ((v3.1.length + 1) ≤ 9223372036854775807)) <|
    bindO (F97 K (v3.2.2.2.2.1, 4)) fun v5 =>
    guard (decide ((((v3.1 ++ ([58] : List UInt8)).length) + v5.length) ≤ 9223372036854775807)) <|
    guard (decide (((((v3.1 ++ ([58] : List UInt8)) ++ v5).length) + 1) ≤ 9223372036854775807)) <|
    bindO (F99 K (v4.1, v4.2.1, v4.2.2.1)) fun v6 =>
    guard (decide ((((((v3.1 ++ ([58] : List UInt8)) ++ v5) ++ ([32] : List UInt8)).length) + v6.length) ≤ 9223372036854775807)) <|
    guard (fitN (v3.2.2.2.2.2.2.2.2.2.2.2.2.2.2.2.2.2.2.2.2.2.2.2.2.2.2.2.2.1.length + ([(((v3.1 ++ ([58] : List UInt8)) ++ v5) ++ ([32] : List UInt8)) ++ v6].length)) 16) <|
    some (.inl (v3.2.1, w64 (v3.2.2.1 + 1), v3.2.2.2.2.2.2.2.2.2.2.2.2.2.2.2.2.2.2.2.2.2.2.2.2.2.2.2.2.1 ++ [(((v3.1 ++ ([58] : List UInt8)) ++ v5) ++ ([32] : List UInt8)) ++ v6], v3.2.2.2.2.2.1, v3.2.2.2.2.2.2.1, v3.2.2.2.2.2.2.2.1, v3.2.2.2.2.2.2.2.2.1, v3.2.2.2.2.2.2.2.2.2.1, v3.2.2.2.2.2.2.2.2.2.2.1, v3.2.2.2.2.2.2.2.2.2.2.2.1, v3.2.2.2.2.2.2.2.2.2.2.2.2.1, v3.2.2.2.2.2.2.2.2.2.2.2.2.2.1, v3.2.2.2.2.2.2.2.2.2.2.2.2.2.2.1, v3.2.2.2.2.2.2.2.2.2.2.2.2.2.2.2.1, v3.2.2.2.2.2.2.2.2.2.2.2.2.2.2.2.2.1, v3.2.2.2.2.2.2.2.2.2.2.2.2.2.2.2.2.2.1, v3.2.2.2.2.2.2.2.2.2.2.2.2.2.2.2.2.2.2.1, v3.2.2.2.2.2.2.2.2.2.2.2.2.2.2.2.2.2.2.2.1, v3.2.2.2.2.2.2.2.2.2.2.2.2.2.2.2.2.2.2.2.2.1, v3.2.2.2.2.2.2.2.2.2.2.2.2.2.2.2.2.2.2.2.2.2.1, v3.2.2.2.2.2.2.2.2.2.2.2.2.2.2.2.2.2.2.2.2.2.2.1, v3.2.2.2.2.2.2.2.2.2.2.2.2.2.2.2.2.2.2.2.2.2.2.2.1, v3.2.2.2.2.2.2.2.2.2.2.2.2.2.2.2.2.2.2.2.2.2.2.2.2.1, v3.2.2.2.2.2.2.2.2.2.2.2.2.2.2.2.2.2.2.2.2.2.2.2.2.2.1, v3.2.2.2.2.2.2.2.2.2.2.2.2.2.2.2.2.2.2.2.2.2.2.2.2.2.2.1, v3.2.2.2.2.2.2.2.2.2.2.2.2.2.2.2.2.2.2.2.2.2.2.2.2.2.2.2.1))))
   (some (.inr x.2.2.1))
def F45o (K : Nat) (x : MC (Int)) : Option (List (List UInt8)) :=
  bindO (α := (List (List UInt8)) ⊕ (Int × MM)) (bindO (α := Int × Bool × MM) (bindO (F32 K (x.1, x.2.1, x.2.2.1, x.2.2.2.1, x.2.2.2.2.1, x.2.2.2.2.2.1, x.2.2.2.2.2.2.1, x.2.2.2.2.2.2.2.1, x.2.2.2.2.2.2.2.2.1, x.2.2.2.2.2.2.2.2.2.1, x.2.2.2.2.2.2.2.2.2.2.1, x.2.2.2.2.2.2.2.2.2.2.2.1, x.2.2.2.2.2.2.2.2.2.2.2.2.1, x.2.2.2.2.2.2.2.2.2.2.2.2.2.1, x.2.2.2.2.2.2.2.2.2.2.2.2.2.2.1, x.2.2.2.2.2.2.2.2.2.2.2.2.2.2.2.1, x.2.2.2.2.2.2.2.2.2.2.2.2.2.2.2.2.1, x.2.2.2.2.2.2.2.2.2.2.2.2.2.2.2.2.2.1, x.2.2.2.2.2.2.2.2.2.2.2.2.2.2.2.2.2.2.1, x.2.2.2.2.2.2.2.2.2.2.2.2.2.2.2.2.2.2.2.1, x.2.2.2.2.2.2.2.2.2.2.2.2.2.2.2.2.2.2.2.2.1, x.2.2.2.2.2.2.2.2.2.2.2.2.2.2.2.2.2.2.2.2.2.1, x.2.2.2.2.2.2.2.2.2.2.2.2.2.2.2.2.2.2.2.2.2.2.1)) fun v0 =>
      branch (!v0)
       (some (x.2.2.2.2.2.2.2.2.2.2.2.2.2.2.2.2.2.2.2.2.2.2.2, true, x.1, x.2.1, x.2.2.1, x.2.2.2.1, x.2.2.2.2.1, x.2.2.2.2.2.1, x.2.2.2.2.2.2.1, x.2.2.2.2.2.2.2.1, x.2.2.2.2.2.2.2.2.1, x.2.2.2.2.2.2.2.2.2.1, x.2.2.2.2.2.2.2.2.2.2.1, x.2.2.2.2.2.2.2.2.2.2.2.1, x.2.2.2.2.2.2.2.2.2.2.2.2.1, x.2.2.2.2.2.2.2.2.2.2.2.2.2.1, x.2.2.2.2.2.2.2.2.2.2.2.2.2.2.1, x.2.2.2.2.2.2.2.2.2.2.2.2.2.2.2.1, x.2.2.2.2.2.2.2.2.2.2.2.2.2.2.2.2.1, x.2.2.2.2.2.2.2.2.2.2.2.2.2.2.2.2.2.1, x.2.2.2.2.2.2.2.2.2.2.2.2.2.2.2.2.2.2.1, x.2.2.2.2.2.2.2.2.2.2.2.2.2.2.2.2.2.2.2.1, x.2.2.2.2.2.2.2.2.2.2.2.2.2.2.2.2.2.2.2.2.1, x.2.2.2.2.2.2.2.2.2.2.2.2.2.2.2.2.2.2.2.2.2.1, x.2.2.2.2.2.2.2.2.2.2.2.2.2.2.2.2.2.2.2.2.2.2.1))
       (bindO (F54 K (x.2.2.2.2.2.2.2.2.2.2.2.2.2.2.2.2.2.2.2.2.2.2.2, 0, 100)) fun v1 =>
       some (x.2.2.2.2.2.2.2.2.2.2.2.2.2.2.2.2.2.2.2.2.2.2.2, !v1, x.1, x.2.1, x.2.2.1, x.2.2.2.1, x.2.2.2.2.1, x.2.2.2.2.2.1, x.2.2.2.2.2.2.1, x.2.2.2.2.2.2.2.1, x.2.2.2.2.2.2.2.2.1, x.2.2.2.2.2.2.2.2.2.1, x.2.2.2.2.2.2.2.2.2.2.1, x.2.2.2.2.2.2.2.2.2.2.2.1, x.2.2.2.2.2.2.2.2.2.2.2.2.1, x.2.2.2.2.2.2.2.2.2.2.2.2.2.1, x.2.2.2.2.2.2.2.2.2.2.2.2.2.2.1, x.2.2.2.2.2.2.2.2.2.2.2.2.2.2.2.1, x.2.2.2.2.2.2.2.2.2.2.2.2.2.2.2.2.1, x.2.2.2.2.2.2.2.2.2.2.2.2.2.2.2.2.2.1, x.2.2.2.2.2.2.2.2.2.2.2.2.2.2.2.2.2.2.1, x.2.2.2.2.2.2.2.2.2.2.2.2.2.2.2.2.2.2.2.1, x.2.2.2.2.2.2.2.2.2.2.2.2.2.2.2.2.2.2.2.2.1, x.2.2.2.2.2.2.2.2.2.2.2.2.2.2.2.2.2.2.2.2.2.1, x.2.2.2.2.2.2.2.2.2.2.2.2.2.2.2.2.2.2.2.2.2.2.1))) fun v2 =>
    branch v2.2.1
     (some (.inl []))
     (some (.inr (v2.1, v2.2.2)))) fun v3 =>
  csO v3
   (fun v4 => some v4)
   (fun v5 => bindO (iter K (F45o_b0 K) (v5.1, 0, [], v5.2)) fun v6 =>
   some v6)
def ct45o (K : Nat) : Ct := ⟨[.agg mL, .l i6], [], [.l (.all 0)], [⟨1, true, .row .s⟩], [], F45o K⟩
theorem c45o (K : Nat) : CtOk prog 45 (ct45o K) :=
  cmk (K := K) (an := (sN (.seqJ [(1000000, ⟨(ru 1 (.l i6 :: .l (.ptr 3000 0 0) :: ru 56 [])), [(3000, ⟨23, false, .mix (some 30) [mN]⟩)]⟩)] true (.seqJ [(1000000, ⟨(ru 1 (.l i6 :: .l (.ptr 3000 0 0) :: ru 16 (.l (.v .b) :: ru 39 []))), [(3000, ⟨23, false, .mix (some 30) [mN]⟩)]⟩)] false .no (.cond (.seq (.reg [] [(1, .vslot 4 9900 1 .s)]) .no) .no)) (sN (.seq (sN (.blk (.loop [] ⟨(ru 2 (.l (.ptr 3000 0 0) :: ru 2 (.l (.all 21000) :: ru 15 (.l i6 :: .l i6 :: ru 36 [])))), [(21000, ⟨1, true, .row .s⟩), (3000, ⟨23, false, .mix (some 30) [mN]⟩)]⟩ [(0, ⟨(ru 5 (.l (.all 21000) :: ru 53 [])), [(21000, ⟨1, true, .row .s⟩)]⟩)] false (sN (sN (.seq (.blk (sN (.seq (sN .no) (sN (sN (.seqJ [(1000000, ⟨(ru 2 (.l (.ptr 3000 0 0) :: ru 2 (.l (.all 21000) :: .l (.ptr 7000 0 0) :: ru 1 (.l (.ptr 9000 0 0) :: .l (.v .s) :: ru 11 (.l i6 :: .l i6 :: ru 36 []))))), [(9000, ⟨2, false, .mix (some 62) [[.l i6, .l i6]]⟩), (7000, ⟨23, false, .mix (some 30) [mN]⟩), (21000, ⟨1, true, .row .s⟩), (3000, ⟨23, false, .mix (some 30) [mN]⟩)]⟩)] false (sN .no) (sN (.seq (.reg [11] []) .no)))))))) .no)))))) .no))))) func45 (kX (c54 K) (kX (c97 K) (kX (c32 K) (kX (c98 K) (kX (c60 K) (kX (c93 K) (kX (c99 K) kN)))))))
def F48_b0 (K : Nat) (x : (List (List UInt8)) × (List (List UInt8)) × Int) : Option (((List (List UInt8)) × (List (List UInt8)) × Int) ⊕ (Bool ⊕ Unit)) :=
  branch (decide (x.2.2 < (x.1.length : Int)))
   (nth x.1 x.2.2 fun v0 =>
   nth x.2.1 x.2.2 fun v1 =>
   branch (!(decide (v0 = v1)))
    (some (.inr (.inl false)))
    (some (.inl (x.1, x.2.1, w64 (x.2.2 + 1)))))
   (some (.inr (.inr ())))
def F48 (K : Nat) (x : (List (List UInt8)) × List (List UInt8)) : Option (Bool) :=
  branch (!(decide ((x.1.length : Int) = (x.2.length : Int))))
   (some false)
   (bindO (iter K (F48_b0 K) (x.1, x.2, 0)) fun v0 =>
   csO v0
    (fun v1 => some v1)
    (fun v2 => some true))
def ct48 (K : Nat) : Ct := ⟨[.l (.v (.l .s)), .l (.v (.l .s))], [], [.l (.v .b)], [], [], F48 K⟩
theorem c48 (K : Nat) : CtOk prog 48 (ct48 K) :=
  cmk (K := K) (an := (sN (.seq (sN (.cond .no .no)) (.seq (sN (.blk (.loop [] ⟨(.l (.v (.l .s)) :: .l (.v (.l .s)) :: ru 3 (.l i6 :: ru 20 [])), []⟩ [(0, ⟨(ru 26 []), []⟩)] true (.seq (sN .no) (.seq (.blk (sN (.cond .no .no))) .no))))) .no)))) func48 kN
def F103_b0 (K : Nat) (x : Int × List UInt8) : Option ((Int × List UInt8) ⊕ (List UInt8)) :=
  branch (decide (0 < x.1))
   (guard (decide ((((toB [w8 (w64 (48 + (Int.tmod x.1 10)))]).length) + x.2.length) ≤ 9223372036854775807)) <|
   some (.inl (w64 (Int.tdiv x.1 10), (toB [w8 (w64 (48 + (Int.tmod x.1 10)))]) ++ x.2)))
   (some (.inr x.2))
def F103 (K : Nat) (x : Int) : Option (List UInt8) :=
  branch (decide (x ≤ 0))
   (some ([109, 48] : List UInt8))
   (bindO (iter K (F103_b0 K) (x, [])) fun v0 =>
   guard (decide ((1 + v0.length) ≤ 9223372036854775807)) <|
   some (([109] : List UInt8) ++ v0))
def ct103 (K : Nat) : Ct := ⟨[.l i6], [], [.l (.v .s)], [], [], F103 K⟩
theorem c103 (K : Nat) : CtOk prog 103 (ct103 K) :=
  cmk (K := K) (an := (sN (.seq (sN (.cond .no .no)) (sN (.seq (.blk (.loop [] ⟨(.l i6 :: ru 2 (.l (.v .s) :: ru 16 [])), []⟩ [(0, ⟨(ru 3 (.l (.v .s) :: ru 16 [])), []⟩)] false (.seq (sN .no) (.blk .no)))) .no))))) func103 kN
def F49_b0 (K : Nat) (x : Int × Int × List (List UInt8)) : Option ((Int × Int × List (List UInt8)) ⊕ (Int × List (List UInt8))) :=
  branch (decide (x.2.1 < (x.2.2.length : Int)))
   (bindO (F103 K x.1) fun v0 =>
   guard (decide (0 ≤ x.2.1 ∧ x.2.1 < (x.2.2.length : Int))) <|
   nthN x.2.2 x.2.1.toNat fun v1 =>
   some (.inl (w64 (x.1 + 1), w64 (x.2.1 + 1), List.set x.2.2 x.2.1.toNat v0)))
   (some (.inr (x.1, x.2.2)))
def F49 (K : Nat) (x : Int × List (List UInt8)) : Option (Int × List (List UInt8)) :=
  bindO (iter K (F49_b0 K) (x.1, 0, x.2)) fun v0 =>
  some v0
def ct49 (K : Nat) : Ct := ⟨[.l (.all 0), .l i6], [⟨1, false, .row .s⟩], [.l i6], [⟨1, false, .row .s⟩], [true], F49 K⟩
theorem c49 (K : Nat) : CtOk prog 49 (ct49 K) :=
  cmk (K := K) (an := (sN (.seq (sN (.blk (.loop [] ⟨(.l (.all 0) :: .l i6 :: ru 3 (.l i6 :: ru 14 [])), [(0, ⟨1, false, .row .s⟩)]⟩ [(0, ⟨(ru 1 (.l i6 :: ru 18 [])), [(0, ⟨1, false, .row .s⟩)]⟩)] false (.seq (sN .no) (.seq (.blk .no) .no))))) .no))) func49 (kX (c103 K) kN)
def F50_b0 (K : Nat) (x : (List (List UInt8)) × Int × Int) : Option (((List (List UInt8)) × Int × Int) ⊕ (Int ⊕ Int)) :=
  branch (decide (x.2.2 < (x.1.length : Int)))
   (nth x.1 x.2.2 fun v0 =>
   bindO (F103 K x.2.1) fun v1 =>
   branch (!(decide (v0 = v1)))
    (some (.inr (.inl (-1))))
    (some (.inl (x.1, w64 (x.2.1 + 1), w64 (x.2.2 + 1)))))
   (some (.inr (.inr x.2.1)))
def F50 (K : Nat) (x : (List (List UInt8)) × Int) : Option (Int) :=
  bindO (iter K (F50_b0 K) (x.1, x.2, 0)) fun v0 =>
  csO v0
   (fun v1 => some v1)
   (fun v2 => some v2)
def ct50 (K : Nat) : Ct := ⟨[.l (.v (.l .s)), .l i6], [], [.l i6], [], [], F50 K⟩
theorem c50 (K : Nat) : CtOk prog 50 (ct50 K) :=
  cmk (K := K) (an := (sN (.seq (sN (.blk (.loop [] ⟨(.l (.v (.l .s)) :: .l i6 :: ru 3 (.l i6 :: ru 16 [])), []⟩ [(0, ⟨(ru 1 (.l i6 :: ru 20 [])), []⟩)] true (.seq (sN .no) (.seq (.blk (.seq (sN (.cond .no .no)) .no)) .no))))) .no))) func50 (kX (c103 K) kN)
def F14 (K : Nat) (x : MC (Int)) : Option (Bool) :=
  bindO (F27 K (x.1, x.2.1, x.2.2.1, x.2.2.2.1, pr4 x, pr5 x, pr6 x, pr7 x, pr8 x, pr9 x, pr10 x, pr11 x, pr12 x, pr13 x, pr14 x, pr15 x, pr16 x, pr17 x, pr18 x, pr19 x, pr20 x, pr21 x, pr22 x, 1048576)) fun v0 =>
  branch (decide (v0 < 0))
   (some true)
   (bindO (F28o K (x.1, x.2.1, x.2.2.1, x.2.2.2.1, pr4 x, pr5 x, pr6 x, pr7 x, pr8 x, pr9 x, pr10 x, pr11 x, pr12 x, pr13 x, pr14 x, pr15 x, pr16 x, pr17 x, pr18 x, pr19 x, pr20 x, pr21 x, pr22 x)) fun v1 =>
   bindO (F47 K (v1.1, v1.2.1, v1.2.2.1, v1.2.2.2.1, pr4 v1, pr5 v1, pr6 v1, pr7 v1, pr8 v1, pr9 v1, pr10 v1, pr11 v1, pr12 v1, pr13 v1, pr14 v1, pr15 v1, pr16 v1, pr17 v1, pr18 v1, pr19 v1, pr20 v1, er22 v1, pr21 v1, er23 x)) fun v2 =>
   bindO (F28o K (x.1, x.2.1, x.2.2.1, x.2.2.2.1, pr4 x, pr5 x, pr6 x, pr7 x, pr8 x, pr9 x, pr10 x, pr11 x, pr12 x, pr13 x, pr14 x, pr15 x, pr16 x, pr17 x, pr18 x, pr19 x, pr20 x, pr21 x, pr22 x)) fun v3 =>
   bindO (F45o K (v3.1, v3.2.1, v3.2.2.1, v3.2.2.2.1, pr4 v3, pr5 v3, pr6 v3, pr7 v3, pr8 v3, pr9 v3, pr10 v3, pr11 v3, pr12 v3, pr13 v3, pr14 v3, pr15 v3, pr16 v3, pr17 v3, pr18 v3, pr19 v3, pr20 v3, er22 v3, pr21 v3, er23 x)) fun v4 =>
   bindO (F48 K (v4, v2)) fun v5 =>
   branch (!v5)
    (some false)
    (bindO (F28 K (x.1, x.2.1, x.2.2.1, x.2.2.2.1, pr4 x, pr5 x, pr6 x, pr7 x, pr8 x, pr9 x, pr10 x, pr11 x, pr12 x, pr13 x, pr14 x, pr15 x, pr16 x, pr17 x, pr18 x, pr19 x, pr20 x, pr21 x, pr22 x)) fun v6 =>
    bindO (F29 K (v3.1, v3.2.1, v3.2.2.1, v3.2.2.2.1, pr4 v3, pr5 v3, pr6 v3, pr7 v3, pr8 v3, pr9 v3, pr10 v3, pr11 v3, pr12 v3, pr13 v3, pr14 v3, pr15 v3, pr16 v3, pr17 v3, pr18 v3, pr19 v3, pr20 v3, er22 v3, pr21 v3, v6)) fun v7 =>
    branch (!v7)
     (some false)
     (bindO (F30 K (v3.1, v3.2.1, v3.2.2.1, v3.2.2.2.1, pr4 v3, pr5 v3, pr6 v3, pr7 v3, pr8 v3, pr9 v3, pr10 v3, pr11 v3, pr12 v3, pr13 v3, pr14 v3, pr15 v3, pr16 v3, pr17 v3, pr18 v3, pr19 v3, pr20 v3, pr21 v3, 1, er22 v3)) fun v8 =>
     bindO (α := Bool ⊕ (Int × (List (List UInt8)) × (List (List UInt8)) × MM)) (bindO (α := Int × (List (List UInt8)) × Bool × (List (List UInt8)) × MM) (branch (decide (v8.1 < 0))
          (some (er23 x, v2, true, v4, x.1, x.2.1, x.2.2.1, x.2.2.2.1, pr4 x, pr5 x, pr6 x, pr7 x, pr8 x, pr9 x, pr10 x, pr11 x, pr12 x, pr13 x, pr14 x, pr15 x, pr16 x, pr17 x, pr18 x, pr19 x, pr20 x, pr21 x, pr22 x))
          (bindO (F48 K (v4, v2)) fun v9 =>
          some (er23 x, v2, !v9, v4, x.1, x.2.1, x.2.2.1, x.2.2.2.1, pr4 x, pr5 x, pr6 x, pr7 x, pr8 x, pr9 x, pr10 x, pr11 x, pr12 x, pr13 x, pr14 x, pr15 x, pr16 x, pr17 x, pr18 x, pr19 x, pr20 x, pr21 x, pr22 x))) fun v10 =>
       branch v10.2.2.1
        (some (.inl false))
        (some (.inr (v10.1, v10.2.1, v10.2.2.2)))) fun v11 =>
     csO v11
      (fun v12 => some v12)
      (fun v13 => bindO (F49 K (1, v13.2.2.1)) fun v14 =>
      bindO (F50 K (v14.2, 1)) fun v15 =>
      branch (decide (v15 < 0))
       (some false)
       (branch (!(decide (v15 = v14.1)))
        (some false)
        (bindO (F28o K v13.2.2.2) fun v16 =>
        bindO (F45o K (v16.1, v16.2.1, v16.2.2.1, v16.2.2.2.1, pr4 v16, pr5 v16, pr6 v16, pr7 v16, pr8 v16, pr9 v16, pr10 v16, pr11 v16, pr12 v16, pr13 v16, pr14 v16, pr15 v16, pr16 v16, pr17 v16, pr18 v16, pr19 v16, pr20 v16, er22 v16, pr21 v16, v13.1)) fun v17 =>
        bindO (F48 K (v17, v13.2.1)) fun v18 =>
        branch (!v18)
         (some false)
         (bindO (F50 K (v14.2, 1)) fun v19 =>
         branch (decide (v19 < 0))
          (some false)
          (branch (!(decide (v19 = v14.1)))
           (some false)
           (some true)))))))))
def ct14 (K : Nat) : Ct := ⟨[.agg mL, .l i6], [], [.l (.v .b)], [], [], F14 K⟩
theorem c14 (K : Nat) : CtOk prog 14 (ct14 K) :=
  cmk (K := K) (an := (sN (sN (sN (.seq (sN (.cond .no .no)) (.seq (.reg [] [(3, .frz 20000)]) (sN (sN (.seq (sN (.cond .no .no)) (.seq (sN (.cond .no .no)) (sN (sN (.seqJ [(1000000, ⟨(ru 1 (.l i6 :: .l (.ptr 3000 0 0) :: ru 3 (.l (.v (.l .s)) :: ru 1 (.l (.all 27000) :: ru 65 [])))), [(27000, ⟨1, true, .row .s⟩), (3000, ⟨23, false, .mix (some 49) [mN]⟩)]⟩)] true (.seqJ [(1000000, ⟨(ru 1 (.l i6 :: .l (.ptr 3000 0 0) :: ru 3 (.l (.v (.l .s)) :: ru 1 (.l (.all 27000) :: ru 37 (.l (.v .b) :: ru 27 []))))), [(27000, ⟨1, true, .row .s⟩), (3000, ⟨23, false, .mix (some 49) [mN]⟩)]⟩)] false .no (.cond .no .no)) (sN (sN (sN (sN (.seq (sN (.cond .no .no)) (.seq (sN (.cond .no .no)) (sN (.seq (sN (.cond .no .no)) (sN (sN (.seq (sN (.cond .no .no)) (.seq (sN (.cond .no .no)) .no))))))))))))))))))))))))) func14 (kX (c27 K) (kX (c28o K) (kX (c28 K) (kX (c29 K) (kX (c30 K) (kX (c47 K) (kX (c45o K) (kX (c48 K) (kX (c49 K) (kX (c50 K) kN))))))))))
def A14 (K : Nat) (a0 : T49.den) (a1 : T2.den) : Option Bool := F14 K (a0.1.1, a0.1.2.1, a0.1.2.2.1, a0.1.2.2.2.1, a0.1.2.2.2.2.1, a0.1.2.2.2.2.2.1, a0.1.2.2.2.2.2.2.1, a0.1.2.2.2.2.2.2.2.1, a0.1.2.2.2.2.2.2.2.2.1, a0.1.2.2.2.2.2.2.2.2.2.1, a0.1.2.2.2.2.2.2.2.2.2.2.1, a0.1.2.2.2.2.2.2.2.2.2.2.2, a0.2.1.1, a0.2.1.2.1, a0.2.1.2.2.1, a0.2.1.2.2.2.1, a0.2.1.2.2.2.2.1, a0.2.1.2.2.2.2.2.1, a0.2.1.2.2.2.2.2.2, a0.2.2.1, a0.2.2.2.1, a0.2.2.2.2.1, a0.2.2.2.2.2, a1)
theorem fun14 (K : Nat) (a0 : T49.den) (a1 : T2.den) : funOf (ct14 K) [.agg ((Ty.enc T49 a0).map SV.d), .d (.i .i64 a1)] [] = bindO (A14 K a0 a1) fun r => some ([.d (.b r)], []) := by kernel_rfl
end Go.U.Tryz
