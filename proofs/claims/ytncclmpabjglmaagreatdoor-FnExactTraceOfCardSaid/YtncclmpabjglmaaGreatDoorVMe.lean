/- A part of the proof. No condition. -/
import Derived.Test.YtncclmpabjglmaaGreatDoorVMs
set_option linter.unusedVariables false
set_option linter.unusedSimpArgs false
set_option linter.unusedSectionVars false
namespace Go.U.Tryz
open Go Go.U Go.Proofs Go.Proofs.Tryz
set_option maxRecDepth 100000
def F93 (K : Nat) (x : MM) : Option (Int × Int) :=
  branch (decide (x.2.2.2.2.2.2.2.2.2.1 < 256))
   (some (0, x.2.2.2.2.2.2.2.2.2.1))
   (branch (decide (x.2.2.2.2.2.2.2.2.2.1 < 512))
    (bindO (F130 K (x.2.2.2.2.2.2.2.2.2.2.2.2.1, x.2.2.2.2.2.2.2.2.2.2.2.2.2.1, x.2.2.2.2.2.2.2.2.2.2.2.2.2.2.1, x.2.2.2.2.2.2.2.2.2.2.2.2.2.2.2.1, x.2.2.2.2.2.2.2.2.2.2.2.2.2.2.2.2.1, x.2.2.2.2.2.2.2.2.2.2.2.2.2.2.2.2.2.1, x.2.2.2.2.2.2.2.2.2.2.2.2.2.2.2.2.2.2.1)) fun v0 =>
    some (v0, x.2.2.2.2.2.2.2.2.2.1))
    (some ((-1), x.2.2.2.2.2.2.2.2.2.1)))
def ct93 (K : Nat) : Ct := ⟨[.agg mL], [], [.agg [i6, i6]], [], [], F93 K⟩
theorem c93 (K : Nat) : CtOk prog 93 (ct93 K) :=
  cmk (K := K) (an := (sN (sN (.seq (.blk (sN (.cond .no (sN .no)))) .no)))) func93 (kX (c130 K) kN)
def F70 (K : Nat) (x : (List UInt8) × Int × Int × (List UInt8) × Int × Bool × Int × Int) : Option (Int) :=
  branch (decide ((w64 (x.2.2.2.2.2.2.2 - (x.1.length : Int))) < 0))
   (some (-1))
   (branch (decide ((w64 ((w64 (x.2.2.2.2.2.2.2 - (x.1.length : Int))) - (x.2.2.2.1.length : Int))) < 0))
    (some (-1))
    (some (w64 ((w64 (x.2.2.2.2.2.2.2 - (x.1.length : Int))) - (x.2.2.2.1.length : Int)))))
def ct70 (K : Nat) : Ct := ⟨[.agg [(.v .s), i6, i6, (.v .s), i6, (.v .b), i6], .l i6], [], [.l i6], [], [], F70 K⟩
theorem c70 (K : Nat) : CtOk prog 70 (ct70 K) :=
  cmk (K := K) (an := (sN (sN (.seq (sN (.cond .no .no)) (sN (.seq (sN (.cond .no .no)) .no)))))) func70 kN
def F71 (K : Nat) (x : (List Int) × Int) : Option (Int) :=
  branch (decide ((w64 (x.2 - (x.1.length : Int))) < 0))
   (some (-1))
   (some (w64 (x.2 - (x.1.length : Int))))
def ct71 (K : Nat) : Ct := ⟨[.l (.v (.l (.i .i64))), .l i6], [], [.l i6], [], [], F71 K⟩
theorem c71 (K : Nat) : CtOk prog 71 (ct71 K) :=
  cmk (K := K) (an := (sN (sN (.seq (sN (.cond .no .no)) .no)))) func71 kN
def F27 (K : Nat) (x : MC (Int)) : Option (Int) :=
  bindO (F70 K (x.2.2.2.2.2.2.2.2.2.2.2.2.1, x.2.2.2.2.2.2.2.2.2.2.2.2.2.1, x.2.2.2.2.2.2.2.2.2.2.2.2.2.2.1, x.2.2.2.2.2.2.2.2.2.2.2.2.2.2.2.1, x.2.2.2.2.2.2.2.2.2.2.2.2.2.2.2.2.1, x.2.2.2.2.2.2.2.2.2.2.2.2.2.2.2.2.2.1, x.2.2.2.2.2.2.2.2.2.2.2.2.2.2.2.2.2.2.1, x.2.2.2.2.2.2.2.2.2.2.2.2.2.2.2.2.2.2.2.2.2.2.2)) fun v0 =>
  branch (decide (v0 < 0))
   (some (-1))
   (branch (decide ((w64 (v0 - (x.2.2.2.2.2.2.2.2.2.2.2.2.2.2.2.2.2.2.2.1.length : Int))) < 0))
    (some (-1))
    (branch (decide ((w64 ((w64 (v0 - (x.2.2.2.2.2.2.2.2.2.2.2.2.2.2.2.2.2.2.2.1.length : Int))) - (x.2.2.2.2.2.2.2.2.2.2.2.2.2.2.2.2.2.2.2.2.1.length : Int))) < 0))
     (some (-1))
     (bindO (F71 K (x.2.2.2.2.2.2.2.2.2.2.2.2.2.2.2.2.2.2.2.2.2.1, w64 ((w64 (v0 - (x.2.2.2.2.2.2.2.2.2.2.2.2.2.2.2.2.2.2.2.1.length : Int))) - (x.2.2.2.2.2.2.2.2.2.2.2.2.2.2.2.2.2.2.2.2.1.length : Int)))) fun v1 =>
     branch (decide (v1 < 0))
      (some (-1))
      (some v1))))
def ct27 (K : Nat) : Ct := ⟨[.agg mL, .l i6], [], [.l i6], [], [], F27 K⟩
theorem c27 (K : Nat) : CtOk prog 27 (ct27 K) :=
  cmk (K := K) (an := (sN (sN (.seq (sN (.cond .no .no)) (sN (.seq (sN (.cond .no .no)) (sN (.seq (sN (.cond .no .no)) (sN (.seq (sN (.cond .no .no)) .no)))))))))) func27 (kX (c70 K) (kX (c71 K) kN))
def F72 (K : Nat) (x : Int × Int × Int × Int × Int × Int × Int × Int × Int × Int × Bool × Bool) : Option (Int × Int × Int × Int × Int × Int × Int × Int × Int × Int × Bool × Bool) :=
  some x
def ct72 (K : Nat) : Ct := ⟨[.agg [i6, i6, i6, i6, i6, i6, i6, i6, i6, i6, (.v .b), (.v .b)]], [], [.agg [i6, i6, i6, i6, i6, i6, i6, i6, i6, i6, (.v .b), (.v .b)]], [], [], F72 K⟩
theorem c72 (K : Nat) : CtOk prog 72 (ct72 K) :=
  cmk (K := K) (an := (sN (sN (sN (sN (sN (sN (sN (sN (sN (sN (sN (sN (sN (sN .no))))))))))))))) func72 kN
def F73 (K : Nat) (x : (List UInt8) × Int × Int × (List UInt8) × Int × Bool × Int) : Option ((List UInt8) × Int × Int × (List UInt8) × Int × Bool × Int) :=
  some x
def ct73 (K : Nat) : Ct := ⟨[.agg [(.v .s), i6, i6, (.v .s), i6, (.v .b), i6]], [], [.agg [(.v .s), i6, i6, (.v .s), i6, (.v .b), i6]], [], [], F73 K⟩
theorem c73 (K : Nat) : CtOk prog 73 (ct73 K) :=
  cmk (K := K) (an := (sN (sN (sN (sN (sN (sN (sN (sN (sN .no)))))))))) func73 kN
def F74o_b0 (K : Nat) (x : (List Int) × Int × List Int) : Option (((List Int) × Int × List Int) ⊕ (List Int)) :=
  branch (decide (x.2.1 < (x.1.length : Int)))
   (nth x.1 x.2.1 fun v0 =>
   guard (decide (0 ≤ x.2.1 ∧ x.2.1 < (x.2.2.length : Int))) <|
   nthN x.2.2 x.2.1.toNat fun v1 =>
   some (.inl (x.1, w64 (x.2.1 + 1), List.set x.2.2 x.2.1.toNat v0)))
   (some (.inr x.2.2))
def F74o (K : Nat) (x : List Int) : Option (List Int) :=
  guard (decide ((x.length : Int) = (x.length : Int) ∧ 0 ≤ (x.length : Int) ∧ (8 * ((x.length : Int).toNat)) ≤ 281474976710656)) <|
  bindO (iter K (F74o_b0 K) (x, 0, List.replicate ((x.length : Int).toNat) 0)) fun v0 =>
  some v0
def ct74o (K : Nat) : Ct := ⟨[.l (.v (.l (.i .i64)))], [], [.l (.all 0)], [⟨1, true, .row (.i .i64)⟩], [], F74o K⟩
theorem c74o (K : Nat) : CtOk prog 74 (ct74o K) :=
  cmk (K := K) (an := (sN (sN (.seq (sN (.blk (.loop [] ⟨(.l (.v (.l (.i .i64))) :: ru 2 (.l (.all 8000) :: .l i6 :: ru 17 [])), [(8000, ⟨1, true, .row (.i .i64)⟩)]⟩ [(0, ⟨(ru 3 (.l (.all 8000) :: ru 18 [])), [(8000, ⟨1, true, .row (.i .i64)⟩)]⟩)] false (.seq (sN .no) (sN .no))))) .no)))) func74 kN
def F28o (K : Nat) (x : MM) : Option (Int × Int × Int × Int × Int × Int × Int × Int × Int × Int × Bool × Bool × (List UInt8) × Int × Int × (List UInt8) × Int × Bool × Int × (List UInt8) × (List UInt8) × Int × List Int) :=
  bindO (F72 K (x.1, x.2.1, x.2.2.1, x.2.2.2.1, pr4 x, pr5 x, pr6 x, pr7 x, pr8 x, pr9 x, pr10 x, pr11 x)) fun v0 =>
  bindO (F73 K (pr12 x, pr13 x, pr14 x, pr15 x, pr16 x, pr17 x, pr18 x)) fun v1 =>
  bindO (F74o K (pr21 x)) fun v2 =>
  some (v0.1, v0.2.1, v0.2.2.1, v0.2.2.2.1, pr4 v0, pr5 v0, pr6 v0, pr7 v0, pr8 v0, pr9 v0, pr10 v0, er11 v0, v1.1, v1.2.1, v1.2.2.1, v1.2.2.2.1, pr4 v1, pr5 v1, er6 v1, pr19 x, pr20 x, er22 x, v2)
def ct28o (K : Nat) : Ct := ⟨[.agg mL], [], [.agg [i6, i6, i6, i6, i6, i6, i6, i6, i6, i6, (.v .b), (.v .b), (.v .s), i6, i6, (.v .s), i6, (.v .b), i6, (.v .s), (.v .s), (.all 0), i6]], [⟨1, true, .row (.i .i64)⟩], [], F28o K⟩
theorem c28o (K : Nat) : CtOk prog 28 (ct28o K) :=
  cmk (K := K) (an := (sN (sN (sN (sN (sN (sN (sN (sN .no))))))))) func28 (kX (c72 K) (kX (c73 K) (kX (c74o K) kN)))
def F28 (K : Nat) (x : MM) : Option MM :=
  bindO (F72 K (x.1, x.2.1, x.2.2.1, x.2.2.2.1, pr4 x, pr5 x, pr6 x, pr7 x, pr8 x, pr9 x, pr10 x, pr11 x)) fun v0 =>
  bindO (F73 K (pr12 x, pr13 x, pr14 x, pr15 x, pr16 x, pr17 x, pr18 x)) fun v1 =>
  bindO (F74o K (pr21 x)) fun v2 =>
  some (v0.1, v0.2.1, v0.2.2.1, v0.2.2.2.1, pr4 v0, pr5 v0, pr6 v0, pr7 v0, pr8 v0, pr9 v0, pr10 v0, er11 v0, v1.1, v1.2.1, v1.2.2.1, v1.2.2.2.1, pr4 v1, pr5 v1, er6 v1, pr19 x, pr20 x, v2, er22 x)
def ct28 (K : Nat) : Ct := ⟨[.agg mL], [], [.agg mL], [], [], F28 K⟩
theorem c28 (K : Nat) : CtOk prog 28 (ct28 K) :=
  cmk (K := K) (an := (sN (sN (sN (sN (sN (sN (sN (sN .no))))))))) func28 (kX (c72 K) (kX (c73 K) (kX (c74o K) kN)))
def F75 (K : Nat) (x : Int × Int × Int × Int × Int × Int × Int × Int × Int × Int × Bool × Bool × Int × Int × Int × Int × Int × Int × Int × Int × Int × Int × Bool × Bool) : Option (Bool) :=
  branch (!(decide (x.1 = x.2.2.2.2.2.2.2.2.2.2.2.2.1)))
   (some false)
   (branch (!(decide (x.2.1 = x.2.2.2.2.2.2.2.2.2.2.2.2.2.1)))
    (some false)
    (branch (!(decide (x.2.2.1 = x.2.2.2.2.2.2.2.2.2.2.2.2.2.2.1)))
     (some false)
     (branch (!(decide (x.2.2.2.1 = x.2.2.2.2.2.2.2.2.2.2.2.2.2.2.2.1)))
      (some false)
      (branch (!(decide (x.2.2.2.2.1 = x.2.2.2.2.2.2.2.2.2.2.2.2.2.2.2.2.1)))
       (some false)
       (branch (!(decide (x.2.2.2.2.2.1 = x.2.2.2.2.2.2.2.2.2.2.2.2.2.2.2.2.2.1)))
        (some false)
        (branch (!(decide (x.2.2.2.2.2.2.1 = x.2.2.2.2.2.2.2.2.2.2.2.2.2.2.2.2.2.2.1)))
         (some false)
         (branch (!(decide (x.2.2.2.2.2.2.2.1 = x.2.2.2.2.2.2.2.2.2.2.2.2.2.2.2.2.2.2.2.1)))
          (some false)
          (branch (!(decide (x.2.2.2.2.2.2.2.2.1 = x.2.2.2.2.2.2.2.2.2.2.2.2.2.2.2.2.2.2.2.2.1)))
           (some false)
           (branch (!(decide (x.2.2.2.2.2.2.2.2.2.1 = x.2.2.2.2.2.2.2.2.2.2.2.2.2.2.2.2.2.2.2.2.2.1)))
            (some false)
            (branch (!(decide (x.2.2.2.2.2.2.2.2.2.2.1 = x.2.2.2.2.2.2.2.2.2.2.2.2.2.2.2.2.2.2.2.2.2.2.1)))
             (some false)
             (branch (!(decide (x.2.2.2.2.2.2.2.2.2.2.2.1 = x.2.2.2.2.2.2.2.2.2.2.2.2.2.2.2.2.2.2.2.2.2.2.2)))
              (some false)
              (some true))))))))))))
def ct75 (K : Nat) : Ct := ⟨[.agg [i6, i6, i6, i6, i6, i6, i6, i6, i6, i6, (.v .b), (.v .b)], .agg [i6, i6, i6, i6, i6, i6, i6, i6, i6, i6, (.v .b), (.v .b)]], [], [.l (.v .b)], [], [], F75 K⟩
theorem c75 (K : Nat) : CtOk prog 75 (ct75 K) :=
  cmk (K := K) (an := (sN (.seq (sN (.cond .no .no)) (.seq (sN (.cond .no .no)) (.seq (sN (.cond .no .no)) (.seq (sN (.cond .no .no)) (.seq (sN (.cond .no .no)) (.seq (sN (.cond .no .no)) (.seq (sN (.cond .no .no)) (.seq (sN (.cond .no .no)) (.seq (sN (.cond .no .no)) (.seq (sN (.cond .no .no)) (.seq (sN (.cond .no .no)) (.seq (sN (.cond .no .no)) .no)))))))))))))) func75 kN
def F76 (K : Nat) (x : (List UInt8) × Int × Int × (List UInt8) × Int × Bool × Int × (List UInt8) × Int × Int × (List UInt8) × Int × Bool × Int) : Option (Bool) :=
  branch (!(decide (x.1 = x.2.2.2.2.2.2.2.1)))
   (some false)
   (branch (!(decide (x.2.1 = x.2.2.2.2.2.2.2.2.1)))
    (some false)
    (branch (!(decide (x.2.2.1 = x.2.2.2.2.2.2.2.2.2.1)))
     (some false)
     (branch (!(decide (x.2.2.2.1 = x.2.2.2.2.2.2.2.2.2.2.1)))
      (some false)
      (branch (!(decide (x.2.2.2.2.1 = x.2.2.2.2.2.2.2.2.2.2.2.1)))
       (some false)
       (branch (!(decide (x.2.2.2.2.2.1 = x.2.2.2.2.2.2.2.2.2.2.2.2.1)))
        (some false)
        (branch (!(decide (x.2.2.2.2.2.2.1 = x.2.2.2.2.2.2.2.2.2.2.2.2.2)))
         (some false)
         (some true)))))))
def ct76 (K : Nat) : Ct := ⟨[.agg [(.v .s), i6, i6, (.v .s), i6, (.v .b), i6], .agg [(.v .s), i6, i6, (.v .s), i6, (.v .b), i6]], [], [.l (.v .b)], [], [], F76 K⟩
theorem c76 (K : Nat) : CtOk prog 76 (ct76 K) :=
  cmk (K := K) (an := (sN (.seq (sN (.cond .no .no)) (.seq (sN (.cond .no .no)) (.seq (sN (.cond .no .no)) (.seq (sN (.cond .no .no)) (.seq (sN (.cond .no .no)) (.seq (sN (.cond .no .no)) (.seq (sN (.cond .no .no)) .no))))))))) func76 kN
def F77_b0 (K : Nat) (x : (List Int) × (List Int) × Int) : Option (((List Int) × (List Int) × Int) ⊕ (Bool ⊕ Unit)) :=
  branch (decide (x.2.2 < (x.1.length : Int)))
   (nth x.1 x.2.2 fun v0 =>
   nth x.2.1 x.2.2 fun v1 =>
   branch (!(decide (v0 = v1)))
    (some (.inr (.inl false)))
    (some (.inl (x.1, x.2.1, w64 (x.2.2 + 1)))))
   (some (.inr (.inr ())))
def F77 (K : Nat) (x : (List Int) × List Int) : Option (Bool) :=
  branch (!(decide ((x.1.length : Int) = (x.2.length : Int))))
   (some false)
   (bindO (iter K (F77_b0 K) (x.1, x.2, 0)) fun v0 =>
   csO v0
    (fun v1 => some v1)
    (fun v2 => some true))
def ct77 (K : Nat) : Ct := ⟨[.l (.v (.l (.i .i64))), .l (.v (.l (.i .i64)))], [], [.l (.v .b)], [], [], F77 K⟩
theorem c77 (K : Nat) : CtOk prog 77 (ct77 K) :=
  cmk (K := K) (an := (sN (.seq (sN (.cond .no .no)) (.seq (sN (.blk (.loop [] ⟨(.l (.v (.l (.i .i64))) :: .l (.v (.l (.i .i64))) :: ru 3 (.l i6 :: ru 20 [])), []⟩ [(0, ⟨(ru 26 []), []⟩)] true (.seq (sN .no) (.seq (.blk (sN (.cond .no .no))) .no))))) .no)))) func77 kN
def F29 (K : Nat) (x : MC MM) : Option (Bool) :=
  bindO (F75 K (x.1, x.2.1, x.2.2.1, x.2.2.2.1, pr4 x, pr5 x, pr6 x, pr7 x, pr8 x, pr9 x, pr10 x, pr11 x, pr23 x, pr24 x, (q24 x).2.1, (q24 x).2.2.1, (q24 x).2.2.2.1, pr4 (q24 x), pr5 (q24 x), pr6 (q24 x), pr7 (q24 x), pr8 (q24 x), pr9 (q24 x), pr10 (q24 x))) fun v0 =>
  branch (!v0)
   (some false)
   (bindO (F76 K (pr12 x, pr13 x, pr14 x, pr15 x, pr16 x, pr17 x, pr18 x, pr11 (q24 x), pr12 (q24 x), pr13 (q24 x), pr14 (q24 x), pr15 (q24 x), pr16 (q24 x), pr17 (q24 x))) fun v1 =>
   branch (!v1)
    (some false)
    (branch (!(decide ((pr19 x) = (pr18 (q24 x)))))
     (some false)
     (branch (!(decide ((pr20 x) = (pr19 (q24 x)))))
      (some false)
      (bindO (F77 K (pr21 x, pr20 (q24 x))) fun v2 =>
      branch (!v2)
       (some false)
       (branch (!(decide ((pr22 x) = (er21 (q24 x)))))
        (some false)
        (some true))))))
def ct29 (K : Nat) : Ct := ⟨[.agg mL, .agg mL], [], [.l (.v .b)], [], [], F29 K⟩
theorem c29 (K : Nat) : CtOk prog 29 (ct29 K) :=
  cmk (K := K) (an := (sN (.seq (sN (.cond .no .no)) (.seq (sN (.cond .no .no)) (.seq (sN (.cond .no .no)) (.seq (sN (.cond .no .no)) (.seq (sN (.cond .no .no)) (.seq (sN (.cond .no .no)) .no)))))))) func29 (kX (c75 K) (kX (c76 K) (kX (c77 K) kN)))
def F78_b0 (K : Nat) (x : Int × Int × List Int) : Option ((Int × Int × List Int) ⊕ (Int × List Int)) :=
  branch (decide (x.2.1 < (x.2.2.length : Int)))
   (guard (decide (0 ≤ x.2.1 ∧ x.2.1 < (x.2.2.length : Int))) <|
   nthN x.2.2 x.2.1.toNat fun v0 =>
   some (.inl (w64 (x.1 + 1), w64 (x.2.1 + 1), List.set x.2.2 x.2.1.toNat x.1)))
   (some (.inr (x.1, x.2.2)))
def F78 (K : Nat) (x : Int × List Int) : Option (Int × List Int) :=
  bindO (iter K (F78_b0 K) (x.1, 0, x.2)) fun v0 =>
  some v0
def ct78 (K : Nat) : Ct := ⟨[.l (.all 0), .l i6], [⟨1, false, .row (.i .i64)⟩], [.l i6], [⟨1, false, .row (.i .i64)⟩], [true], F78 K⟩
theorem c78 (K : Nat) : CtOk prog 78 (ct78 K) :=
  cmk (K := K) (an := (sN (.seq (sN (.blk (.loop [] ⟨(.l (.all 0) :: .l i6 :: ru 3 (.l i6 :: ru 13 [])), [(0, ⟨1, false, .row (.i .i64)⟩)]⟩ [(0, ⟨(ru 1 (.l i6 :: ru 17 [])), [(0, ⟨1, false, .row (.i .i64)⟩)]⟩)] false (.seq (sN .no) (.seq (.blk .no) .no))))) .no))) func78 kN
def F30 (K : Nat) (x : Int × Int × Int × Int × Int × Int × Int × Int × Int × Int × Bool × Bool × (List UInt8) × Int × Int × (List UInt8) × Int × Bool × Int × (List UInt8) × (List UInt8) × Int × Int × List Int) : Option (Int × List Int) :=
  bindO (F78 K x.2.2.2.2.2.2.2.2.2.2.2.2.2.2.2.2.2.2.2.2.2.2) fun v0 =>
  some v0
def ct30 (K : Nat) : Ct := ⟨[.agg [i6, i6, i6, i6, i6, i6, i6, i6, i6, i6, (.v .b), (.v .b), (.v .s), i6, i6, (.v .s), i6, (.v .b), i6, (.v .s), (.v .s), (.all 0), i6], .l i6], [⟨1, false, .row (.i .i64)⟩], [.l i6], [⟨1, false, .row (.i .i64)⟩], [true], F30 K⟩
theorem c30 (K : Nat) : CtOk prog 30 (ct30 K) :=
  cmk (K := K) (an := (sN (sN .no))) func30 (kX (c78 K) kN)
def T49 : Ty := (.c (.c (.i .i64) (.c (.i .i64) (.c (.i .i64) (.c (.i .i64) (.c (.i .i64) (.c (.i .i64) (.c (.i .i64) (.c (.i .i64) (.c (.i .i64) (.c (.i .i64) (.c .b .b))))))))))) (.c (.c .s (.c (.i .i64) (.c (.i .i64) (.c .s (.c (.i .i64) (.c .b (.i .i64))))))) (.c .s (.c .s (.c (.l (.i .i64)) (.i .i64))))))
theorem tl49 : tyL prog 64 49 = some T49 := by kernel_rfl
def T2 : Ty := (.i .i64)
theorem tl2 : tyL prog 64 2 = some T2 := by kernel_rfl
end Go.U.Tryz
