/- A part of the proof. No condition. -/
import Derived.Test.YtncclmpabjglmaaGreatDoorVMd
set_option linter.unusedVariables false
set_option linter.unusedSimpArgs false
set_option linter.unusedSectionVars false
namespace Go.U.Tryz
open Go Go.U Go.Proofs Go.Proofs.Tryz
set_option maxRecDepth 100000
def F90 (K : Nat) (x : MM) : Option (Int × Int) :=
  bindO (F33 K x) fun v0 =>
  branch (!v0)
   (some ((-1), (-1)))
   (bindO (F94 K x) fun v1 =>
   some v1)
def ct90 (K : Nat) : Ct := ⟨[.agg mL], [], [.agg [i6, i6]], [], [], F90 K⟩
theorem c90 (K : Nat) : CtOk prog 90 (ct90 K) :=
  cmk (K := K) (an := (sN (.seq (sN (.cond .no .no)) .no))) func90 (kX (c33 K) (kX (c94 K) kN))
def F36_b0 (K : Nat) (x : Int × (List (Int × Int)) × MC ((List Int) × Int × MM)) : Option ((Int × (List (Int × Int)) × MC ((List Int) × Int × MM)) ⊕ ((List (Int × Int)) × MC ((List Int) × Int × MM))) :=
  branch (decide (0 < x.1))
   (bindO (F88 K (8, (q24 x).2.1, (q24 x).2.2.1)) fun v0 =>
   bindO (F35 K (x.2.2.1, x.2.2.2.1, pr4 x, pr5 x, pr6 x, pr7 x, pr8 x, pr9 x, pr10 x, pr11 x, pr12 x, pr13 x, pr14 x, pr15 x, pr16 x, pr17 x, pr18 x, pr19 x, pr20 x, pr21 x, pr22 x, pr23 x, pr24 x, w64 (1 + v0.1))) fun v1 =>
   bindO (F90 K (v1.1, v1.2.1, v1.2.2.1, v1.2.2.2.1, pr4 v1, pr5 v1, pr6 v1, pr7 v1, pr8 v1, pr9 v1, pr10 v1, pr11 v1, pr12 v1, pr13 v1, pr14 v1, pr15 v1, pr16 v1, pr17 v1, pr18 v1, pr19 v1, pr20 v1, pr21 v1, pr22 v1)) fun v2 =>
   guard (fitN (x.2.1.length + [v2].length) 16) <|
   some (.inl (w64 (x.1 - 1), x.2.1 ++ [v2], x.2.2.1, x.2.2.2.1, pr4 x, pr5 x, pr6 x, pr7 x, pr8 x, pr9 x, pr10 x, pr11 x, pr12 x, pr13 x, pr14 x, pr15 x, pr16 x, pr17 x, pr18 x, pr19 x, pr20 x, pr21 x, pr22 x, pr23 x, pr24 x, v0.2.1, v0.2.2, (q24 x).2.2.2)))
   (some (.inr x.2))
def F36 (K : Nat) (x : List Int) : Option (Int × Int × Int × Int × Int × Int × Int × Int × Int × Int × Bool × Bool × (List UInt8) × Int × Int × (List UInt8) × Int × Bool × Int × (List UInt8) × (List UInt8) × (List Int) × Int × (List (Int × Int)) × Int) :=
  bindO (F58 K x) fun v0 =>
  bindO (F59 K (3, v0)) fun v1 =>
  bindO (F88 K (4, er23 v1)) fun v2 =>
  bindO (iter K (F36_b0 K) (v2.1, [], v1.1, v1.2.1, v1.2.2.1, v1.2.2.2.1, pr4 v1, pr5 v1, pr6 v1, pr7 v1, pr8 v1, pr9 v1, pr10 v1, pr11 v1, pr12 v1, pr13 v1, pr14 v1, pr15 v1, pr16 v1, pr17 v1, pr18 v1, pr19 v1, pr20 v1, pr21 v1, pr22 v1, v2.2.1, v2.2.2, 0, 0, 0, 0, 0, 0, 0, 0, 0, 0, false, false, [], 0, 0, [], 0, false, 0, [], [], [], 0)) fun v3 =>
  bindO (F88 K (20, pr24 v3, (q24 v3).2.1)) fun v4 =>
  some (v3.2.1, v3.2.2.1, v3.2.2.2.1, pr4 v3, pr5 v3, pr6 v3, pr7 v3, pr8 v3, pr9 v3, pr10 v3, pr11 v3, pr12 v3, pr13 v3, pr14 v3, pr15 v3, pr16 v3, pr17 v3, pr18 v3, pr19 v3, pr20 v3, pr21 v3, pr22 v3, pr23 v3, v3.1, v4.1)
def ct36 (K : Nat) : Ct := ⟨[.l (.v (.l (.i .u8)))], [], [.agg mL, .l (.v (.l (.c (.i .i64) (.i .i64)))), .l i6], [], [], F36 K⟩
theorem c36 (K : Nat) : CtOk prog 36 (ct36 K) :=
  cmk (K := K) (an := (sN (sN (sN (sN (.seq (sN (.blk (.loop [] ⟨(ru 2 (.l (.ptr 3000 0 0) :: ru 2 (.l (.ptr 14000 0 0) :: .l (.ptr 7000 0 0) :: .l (.all 17000) :: .l i6 :: ru 32 []))), [(17000, ⟨2, true, .row (.c (.i .i64) (.i .i64))⟩), (7000, ⟨23, false, .mix (some 30) [mN]⟩), (14000, ⟨2, false, .mix (some 110) [[.l (.v (.l (.i .u8))), .l i6]]⟩), (3000, ⟨23, false, .mix (some 30) [mN]⟩)]⟩ [(0, ⟨(ru 2 (.l (.ptr 3000 0 0) :: ru 2 (.l (.ptr 14000 0 0) :: .l (.ptr 7000 0 0) :: .l (.all 17000) :: ru 33 []))), [(17000, ⟨2, true, .row (.c (.i .i64) (.i .i64))⟩), (7000, ⟨23, false, .mix (some 30) [mN]⟩), (14000, ⟨2, false, .mix (some 110) [[.l (.v (.l (.i .u8))), .l i6]]⟩), (3000, ⟨23, false, .mix (some 30) [mN]⟩)]⟩)] false (.seq (sN .no) (.seq (.blk .no) .no))))) .no)))))) func36 (kX (c35 K) (kX (c58 K) (kX (c88 K) (kX (c59 K) (kX (c90 K) kN)))))
def F11_b1 (K : Nat) (x : (List (Int × Int)) × Int × Int × Int × Bool × Int × MC (Int × Int × Int × Int × Int × Int × Int × Int × Int × Int × Bool × Bool × (List UInt8) × Int × Int × (List UInt8) × Int × Bool × Int × (List UInt8) × (List UInt8) × Int × (List Int) × MM)) : Option (((List (Int × Int)) × Int × Int × Int × Bool × Int × MC (Int × Int × Int × Int × Int × Int × Int × Int × Int × Int × Bool × Bool × (List UInt8) × Int × Int × (List UInt8) × Int × Bool × Int × (List UInt8) × (List UInt8) × Int × (List Int) × MM)) ⊕ ((List (Int × Int)) × Int × Int × Int × Bool × MC (Int × Int × Int × Int × Int × Int × Int × Int × Int × Int × Bool × Bool × (List UInt8) × Int × Int × (List UInt8) × Int × Bool × Int × (List UInt8) × (List UInt8) × Int × (List Int) × MM))) :=
  branch (decide ((pr5 x) < (x.1.length : Int)))
   (branch (pr4 x)
    (some (.inl (x.1, x.2.1, x.2.2.1, x.2.2.2.1, true, w64 ((pr5 x) + 1), er6 x)))
    (nth x.1 (pr5 x) fun v0 =>
    bindO (F39 K (pr6 x, pr7 x, pr8 x, pr9 x, pr10 x, pr11 x, pr12 x, pr13 x, pr14 x, pr15 x, pr16 x, pr17 x, pr18 x, pr19 x, pr20 x, pr21 x, pr22 x, pr23 x, pr24 x, (q24 x).2.1, (q24 x).2.2.1, (q24 x).2.2.2.1, pr4 (q24 x))) fun v1 =>
    some (.inl (x.1, x.2.1, x.2.2.1, x.2.2.2.1, (decide (v0.1 = v1.1)) && (decide (v0.2 = v1.2)), w64 ((pr5 x) + 1), er6 x))))
   (some (.inr (x.1, x.2.1, x.2.2.1, x.2.2.2.1, pr4 x, er6 x)))
def F11_b0 (K : Nat) (x : (List (Int × Int)) × Int × Int × Int × MC (Int × Int × Int × Int × Int × Int × Int × Int × Int × Int × Bool × Bool × (List UInt8) × Int × Int × (List UInt8) × Int × Bool × Int × (List UInt8) × (List UInt8) × Int × (List Int) × MM)) : Option (((List (Int × Int)) × Int × Int × Int × MC (Int × Int × Int × Int × Int × Int × Int × Int × Int × Int × Bool × Bool × (List UInt8) × Int × Int × (List UInt8) × Int × Bool × Int × (List UInt8) × (List UInt8) × Int × (List Int) × MM)) ⊕ (Bool ⊕ (Int × Int × MC (Int × Int × Int × Int × Int × Int × Int × Int × Int × Int × Bool × Bool × (List UInt8) × Int × Int × (List UInt8) × Int × Bool × Int × (List UInt8) × (List UInt8) × Int × (List Int) × MM)))) :=
  branch (decide (x.2.2.2.1 < x.2.2.1))
   (bindO (F22 K (pr4 x, pr5 x, pr6 x, pr7 x, pr8 x, pr9 x, pr10 x, pr11 x, pr12 x, pr13 x, pr14 x, pr15 x, pr16 x, pr17 x, pr18 x, pr19 x, pr20 x, pr21 x, pr22 x, pr23 x, pr24 x, (q24 x).2.1, (q24 x).2.2.1)) fun v0 =>
   branch (!(decide ((pr22 v0) = 0)))
    (some (.inr (.inl false)))
    (bindO (iter K (F11_b1 K) (x.1, x.2.1, x.2.2.1, x.2.2.2.1, false, 0, v0.1, v0.2.1, v0.2.2.1, v0.2.2.2.1, pr4 v0, pr5 v0, pr6 v0, pr7 v0, pr8 v0, pr9 v0, pr10 v0, pr11 v0, pr12 v0, pr13 v0, pr14 v0, pr15 v0, pr16 v0, pr17 v0, pr18 v0, pr19 v0, pr20 v0, er23 v0, pr21 v0, (q24 x).2.2.2)) fun v1 =>
    bindO (α := (List (Int × Int)) × Int × Int × Int × Bool × MC (Int × Int × Int × Int × Int × Int × Int × Int × Int × Int × Bool × Bool × (List UInt8) × Int × Int × (List UInt8) × Int × Bool × Int × (List UInt8) × (List UInt8) × Int × (List Int) × MM)) (branch (pr4 v1)
       (some (v1.1, v1.2.1, v1.2.2.1, v1.2.2.2.1, decide ((w64 (v1.2.2.2.1 + 1)) < v1.2.2.1), er5 v1))
       (some (v1.1, v1.2.1, v1.2.2.1, v1.2.2.2.1, false, er5 v1))) fun v2 =>
    branch (pr4 v2)
     (some (.inr (.inl false)))
     (some (.inl (v2.1, v2.2.1, v2.2.2.1, w64 (v2.2.2.2.1 + 1), er5 v2)))))
   (some (.inr (.inr (x.2.1, x.2.2.1, er4 x))))
def F11 (K : Nat) (x : List Int) : Option (Bool) :=
  bindO (F15 K x) fun v0 =>
  branch v0
   (some true)
   (bindO (F36 K x) fun v1 =>
   bindO (F37 K v1) fun v2 =>
   bindO (F38 K v1) fun v3 =>
   bindO (α := Bool ⊕ ((List (Int × Int)) × Int × Int × Int × Int × Int × Int × Int × Int × Int × Int × Int × Int × Bool × Bool × (List UInt8) × Int × Int × (List UInt8) × Int × Bool × Int × (List UInt8) × (List UInt8) × Int × (List Int) × MM)) (bindO (α := (List (Int × Int)) × Int × Int × Int × Int × Int × Bool × MC (Int × Int × Int × Int × Int × Int × Int × Int × Int × Int × Bool × Bool × (List UInt8) × Int × Int × (List UInt8) × Int × Bool × Int × (List UInt8) × (List UInt8) × Int × (List Int) × MM)) (branch (!(decide ((pr22 v2) = (pr23 v3))))
        (some (pr23 v1, er24 v1, pr22 v2, pr23 v2, pr23 v3, er24 v3, true, v3.1, v3.2.1, v3.2.2.1, v3.2.2.2.1, pr4 v3, pr5 v3, pr6 v3, pr7 v3, pr8 v3, pr9 v3, pr10 v3, pr11 v3, pr12 v3, pr13 v3, pr14 v3, pr15 v3, pr16 v3, pr17 v3, pr18 v3, pr19 v3, pr20 v3, pr21 v3, pr22 v3, v2.1, v2.2.1, v2.2.2.1, v2.2.2.2.1, pr4 v2, pr5 v2, pr6 v2, pr7 v2, pr8 v2, pr9 v2, pr10 v2, pr11 v2, pr12 v2, pr13 v2, pr14 v2, pr15 v2, pr16 v2, pr17 v2, pr18 v2, pr19 v2, pr20 v2, pr21 v2, er24 v2, v1.1, v1.2.1, v1.2.2.1, v1.2.2.2.1, pr4 v1, pr5 v1, pr6 v1, pr7 v1, pr8 v1, pr9 v1, pr10 v1, pr11 v1, pr12 v1, pr13 v1, pr14 v1, pr15 v1, pr16 v1, pr17 v1, pr18 v1, pr19 v1, pr20 v1, pr21 v1, pr22 v1))
        (branch (!(decide ((pr23 v2) = (er24 v3))))
         (some (pr23 v1, er24 v1, pr22 v2, pr23 v2, pr23 v3, er24 v3, true, v3.1, v3.2.1, v3.2.2.1, v3.2.2.2.1, pr4 v3, pr5 v3, pr6 v3, pr7 v3, pr8 v3, pr9 v3, pr10 v3, pr11 v3, pr12 v3, pr13 v3, pr14 v3, pr15 v3, pr16 v3, pr17 v3, pr18 v3, pr19 v3, pr20 v3, pr21 v3, pr22 v3, v2.1, v2.2.1, v2.2.2.1, v2.2.2.2.1, pr4 v2, pr5 v2, pr6 v2, pr7 v2, pr8 v2, pr9 v2, pr10 v2, pr11 v2, pr12 v2, pr13 v2, pr14 v2, pr15 v2, pr16 v2, pr17 v2, pr18 v2, pr19 v2, pr20 v2, pr21 v2, er24 v2, v1.1, v1.2.1, v1.2.2.1, v1.2.2.2.1, pr4 v1, pr5 v1, pr6 v1, pr7 v1, pr8 v1, pr9 v1, pr10 v1, pr11 v1, pr12 v1, pr13 v1, pr14 v1, pr15 v1, pr16 v1, pr17 v1, pr18 v1, pr19 v1, pr20 v1, pr21 v1, pr22 v1))
         (bindO (F20 K (v2.1, v2.2.1, v2.2.2.1, v2.2.2.2.1, pr4 v2, pr5 v2, pr6 v2, pr7 v2, pr8 v2, pr9 v2, pr10 v2, pr11 v2, pr12 v2, pr13 v2, pr14 v2, pr15 v2, pr16 v2, pr17 v2, pr18 v2, pr19 v2, pr20 v2, er24 v2, pr21 v2, v3.1, v3.2.1, v3.2.2.1, v3.2.2.2.1, pr4 v3, pr5 v3, pr6 v3, pr7 v3, pr8 v3, pr9 v3, pr10 v3, pr11 v3, pr12 v3, pr13 v3, pr14 v3, pr15 v3, pr16 v3, pr17 v3, pr18 v3, pr19 v3, pr20 v3, pr21 v3, pr22 v3)) fun v4 =>
         branch (!v4)
          (some (pr23 v1, er24 v1, pr22 v2, pr23 v2, pr23 v3, er24 v3, true, v3.1, v3.2.1, v3.2.2.1, v3.2.2.2.1, pr4 v3, pr5 v3, pr6 v3, pr7 v3, pr8 v3, pr9 v3, pr10 v3, pr11 v3, pr12 v3, pr13 v3, pr14 v3, pr15 v3, pr16 v3, pr17 v3, pr18 v3, pr19 v3, pr20 v3, pr21 v3, pr22 v3, v2.1, v2.2.1, v2.2.2.1, v2.2.2.2.1, pr4 v2, pr5 v2, pr6 v2, pr7 v2, pr8 v2, pr9 v2, pr10 v2, pr11 v2, pr12 v2, pr13 v2, pr14 v2, pr15 v2, pr16 v2, pr17 v2, pr18 v2, pr19 v2, pr20 v2, pr21 v2, er24 v2, v1.1, v1.2.1, v1.2.2.1, v1.2.2.2.1, pr4 v1, pr5 v1, pr6 v1, pr7 v1, pr8 v1, pr9 v1, pr10 v1, pr11 v1, pr12 v1, pr13 v1, pr14 v1, pr15 v1, pr16 v1, pr17 v1, pr18 v1, pr19 v1, pr20 v1, pr21 v1, pr22 v1))
          (some (pr23 v1, er24 v1, pr22 v2, pr23 v2, pr23 v3, er24 v3, decide ((pr22 v2) = 3), v3.1, v3.2.1, v3.2.2.1, v3.2.2.2.1, pr4 v3, pr5 v3, pr6 v3, pr7 v3, pr8 v3, pr9 v3, pr10 v3, pr11 v3, pr12 v3, pr13 v3, pr14 v3, pr15 v3, pr16 v3, pr17 v3, pr18 v3, pr19 v3, pr20 v3, pr21 v3, pr22 v3, v2.1, v2.2.1, v2.2.2.1, v2.2.2.2.1, pr4 v2, pr5 v2, pr6 v2, pr7 v2, pr8 v2, pr9 v2, pr10 v2, pr11 v2, pr12 v2, pr13 v2, pr14 v2, pr15 v2, pr16 v2, pr17 v2, pr18 v2, pr19 v2, pr20 v2, pr21 v2, er24 v2, v1.1, v1.2.1, v1.2.2.1, v1.2.2.2.1, pr4 v1, pr5 v1, pr6 v1, pr7 v1, pr8 v1, pr9 v1, pr10 v1, pr11 v1, pr12 v1, pr13 v1, pr14 v1, pr15 v1, pr16 v1, pr17 v1, pr18 v1, pr19 v1, pr20 v1, pr21 v1, pr22 v1))))) fun v5 =>
     branch (pr6 v5)
      (branch (decide (v5.2.2.1 = (pr4 v5)))
       (branch (decide (v5.2.2.2.1 = (pr5 v5)))
        (bindO (F20 K (pr6 (q24 v5), pr7 (q24 v5), pr8 (q24 v5), pr9 (q24 v5), pr10 (q24 v5), pr11 (q24 v5), pr12 (q24 v5), pr13 (q24 v5), pr14 (q24 v5), pr15 (q24 v5), pr16 (q24 v5), pr17 (q24 v5), pr18 (q24 v5), pr19 (q24 v5), pr20 (q24 v5), pr21 (q24 v5), pr22 (q24 v5), pr23 (q24 v5), pr24 (q24 v5), (q24 (q24 v5)).2.1, (q24 (q24 v5)).2.2.1, pr4 (q24 (q24 v5)), (q24 (q24 v5)).2.2.2.1, pr7 v5, pr8 v5, pr9 v5, pr10 v5, pr11 v5, pr12 v5, pr13 v5, pr14 v5, pr15 v5, pr16 v5, pr17 v5, pr18 v5, pr19 v5, pr20 v5, pr21 v5, pr22 v5, pr23 v5, pr24 v5, (q24 v5).2.1, (q24 v5).2.2.1, (q24 v5).2.2.2.1, pr4 (q24 v5), pr5 (q24 v5))) fun v6 =>
        some (.inl v6))
        (some (.inl false)))
       (some (.inl false)))
      (some (.inr (v5.1, v5.2.1, v5.2.2.2.1, er6 (q24 v5))))) fun v7 =>
   csO v7
    (fun v8 => some v8)
    (fun v9 => bindO (iter K (F11_b0 K) (v9.1, v9.2.1, v9.2.2.1, 0, (q24 v9).2.2.1, (q24 v9).2.2.2.1, pr4 (q24 v9), pr5 (q24 v9), pr6 (q24 v9), pr7 (q24 v9), pr8 (q24 v9), pr9 (q24 v9), pr10 (q24 v9), pr11 (q24 v9), pr12 (q24 v9), pr13 (q24 v9), pr14 (q24 v9), pr15 (q24 v9), pr16 (q24 v9), pr17 (q24 v9), pr18 (q24 v9), pr19 (q24 v9), pr20 (q24 v9), pr21 (q24 v9), pr22 (q24 v9), pr23 (q24 v9), er24 (q24 v9), v9.2.2.2)) fun v10 =>
    csO v10
     (fun v11 => some v11)
     (fun v12 => bindO (F37 K (pr24 (q24 v12), (q24 (q24 v12)).2.1, (q24 (q24 v12)).2.2.1, (q24 (q24 v12)).2.2.2.1, pr4 (q24 (q24 v12)), pr5 (q24 (q24 v12)), pr6 (q24 (q24 v12)), pr7 (q24 (q24 v12)), pr8 (q24 (q24 v12)), pr9 (q24 (q24 v12)), pr10 (q24 (q24 v12)), pr11 (q24 (q24 v12)), pr12 (q24 (q24 v12)), pr13 (q24 (q24 v12)), pr14 (q24 (q24 v12)), pr15 (q24 (q24 v12)), pr16 (q24 (q24 v12)), pr17 (q24 (q24 v12)), pr18 (q24 (q24 v12)), pr19 (q24 (q24 v12)), pr20 (q24 (q24 v12)), pr21 (q24 (q24 v12)), er22 (q24 (q24 v12)), [], v12.1)) fun v13 =>
     bindO (F18 K (pr24 (q24 v12), (q24 (q24 v12)).2.1, (q24 (q24 v12)).2.2.1, (q24 (q24 v12)).2.2.2.1, pr4 (q24 (q24 v12)), pr5 (q24 (q24 v12)), pr6 (q24 (q24 v12)), pr7 (q24 (q24 v12)), pr8 (q24 (q24 v12)), pr9 (q24 (q24 v12)), pr10 (q24 (q24 v12)), pr11 (q24 (q24 v12)), pr12 (q24 (q24 v12)), pr13 (q24 (q24 v12)), pr14 (q24 (q24 v12)), pr15 (q24 (q24 v12)), pr16 (q24 (q24 v12)), pr17 (q24 (q24 v12)), pr18 (q24 (q24 v12)), pr19 (q24 (q24 v12)), pr20 (q24 (q24 v12)), pr21 (q24 (q24 v12)), er22 (q24 (q24 v12)), v12.1)) fun v14 =>
     branch (decide (v12.2.1 = 0))
      (branch (decide ((pr22 v13) = (pr22 v14)))
       (branch (decide ((pr23 v13) = (pr23 v14)))
        (bindO (F20 K (v13.1, v13.2.1, v13.2.2.1, v13.2.2.2.1, pr4 v13, pr5 v13, pr6 v13, pr7 v13, pr8 v13, pr9 v13, pr10 v13, pr11 v13, pr12 v13, pr13 v13, pr14 v13, pr15 v13, pr16 v13, pr17 v13, pr18 v13, pr19 v13, pr20 v13, er24 v13, pr21 v13, v14.1, v14.2.1, v14.2.2.1, v14.2.2.2.1, pr4 v14, pr5 v14, pr6 v14, pr7 v14, pr8 v14, pr9 v14, pr10 v14, pr11 v14, pr12 v14, pr13 v14, pr14 v14, pr15 v14, pr16 v14, pr17 v14, pr18 v14, pr19 v14, pr20 v14, er24 v14, pr21 v14)) fun v15 =>
        some v15)
        (some false))
       (some false))
      (bindO (F20 K (v12.2.2.1, v12.2.2.2.1, pr4 v12, pr5 v12, pr6 v12, pr7 v12, pr8 v12, pr9 v12, pr10 v12, pr11 v12, pr12 v12, pr13 v12, pr14 v12, pr15 v12, pr16 v12, pr17 v12, pr18 v12, pr19 v12, pr20 v12, pr21 v12, pr22 v12, pr23 v12, pr24 v12, (q24 v12).2.1, (q24 v12).2.2.1, (q24 v12).2.2.2.1, pr4 (q24 v12), pr5 (q24 v12), pr6 (q24 v12), pr7 (q24 v12), pr8 (q24 v12), pr9 (q24 v12), pr10 (q24 v12), pr11 (q24 v12), pr12 (q24 v12), pr13 (q24 v12), pr14 (q24 v12), pr15 (q24 v12), pr16 (q24 v12), pr17 (q24 v12), pr18 (q24 v12), pr19 (q24 v12), pr20 (q24 v12), pr21 (q24 v12), pr23 (q24 v12), pr22 (q24 v12))) fun v16 =>
      branch v16
       (branch (decide ((pr22 v13) = (pr22 v14)))
        (branch (decide ((pr23 v13) = (pr23 v14)))
         (bindO (F20 K (v13.1, v13.2.1, v13.2.2.1, v13.2.2.2.1, pr4 v13, pr5 v13, pr6 v13, pr7 v13, pr8 v13, pr9 v13, pr10 v13, pr11 v13, pr12 v13, pr13 v13, pr14 v13, pr15 v13, pr16 v13, pr17 v13, pr18 v13, pr19 v13, pr20 v13, er24 v13, pr21 v13, v14.1, v14.2.1, v14.2.2.1, v14.2.2.2.1, pr4 v14, pr5 v14, pr6 v14, pr7 v14, pr8 v14, pr9 v14, pr10 v14, pr11 v14, pr12 v14, pr13 v14, pr14 v14, pr15 v14, pr16 v14, pr17 v14, pr18 v14, pr19 v14, pr20 v14, er24 v14, pr21 v14)) fun v17 =>
         some v17)
         (some false))
        (some false))
       (some false)))))
def ct11 (K : Nat) : Ct := ⟨[.l (.v (.l (.i .u8)))], [], [.l (.v .b)], [], [], F11 K⟩
theorem c11 (K : Nat) : CtOk prog 11 (ct11 K) :=
  cmk (K := K) (an := (sN (.seq (sN (.cond .no .no)) (sN (sN (sN (.seqJ [(1000000, ⟨(ru 3 (.l (.ptr 4000 0 0) :: .l (.v (.l (.c (.i .i64) (.i .i64)))) :: .l i6 :: .l (.ptr 7000 0 0) :: ru 1 (.l i6 :: ru 143 []))), [(7000, ⟨23, false, .mix (some 30) [[.l i6, .l i6, .l i6, .l i6, .l i6, .l i6, .l i6, .l i6, .l i6, .l i6, .l (.v .b), .l (.v .b), .l (.v .s), .l i6, .l i6, .l (.v .s), .l i6, .l (.v .b), .l i6, .l (.v .s), .l (.v .s), .l (.all 37000), .l i6]]⟩), (37000, ⟨1, true, .row (.i .i64)⟩), (4000, ⟨23, false, .mix (some 30) [mN]⟩)]⟩)] true (.seqJ [(1000000, ⟨(ru 3 (.l (.ptr 4000 0 0) :: .l (.v (.l (.c (.i .i64) (.i .i64)))) :: .l i6 :: .l (.ptr 7000 0 0) :: .l i6 :: .l i6 :: .l (.ptr 10000 0 0) :: .l i6 :: .l i6 :: ru 53 (.l (.v .b) :: ru 86 []))), [(10000, ⟨23, false, .mix (some 30) [mN]⟩), (7000, ⟨23, false, .mix (some 30) [[.l i6, .l i6, .l i6, .l i6, .l i6, .l i6, .l i6, .l i6, .l i6, .l i6, .l (.v .b), .l (.v .b), .l (.v .s), .l i6, .l i6, .l (.v .s), .l i6, .l (.v .b), .l i6, .l (.v .s), .l (.v .s), .l (.all 37000), .l i6]]⟩), (37000, ⟨1, true, .row (.i .i64)⟩), (4000, ⟨23, false, .mix (some 30) [mN]⟩)]⟩)] false .no (.cond .no .no)) (sN (.seq (sN (.blk (.loop [] ⟨(ru 3 (.l (.ptr 4000 0 0) :: .l (.v (.l (.c (.i .i64) (.i .i64)))) :: .l i6 :: .l (.ptr 7000 0 0) :: ru 1 (.l i6 :: ru 3 (.l (.ptr 13000 0 0) :: .l i6 :: ru 138 [])))), [(13000, ⟨23, false, .mix (some 30) [mN]⟩), (7000, ⟨23, false, .mix (some 30) [[.l i6, .l i6, .l i6, .l i6, .l i6, .l i6, .l i6, .l i6, .l i6, .l i6, .l (.v .b), .l (.v .b), .l (.v .s), .l i6, .l i6, .l (.v .s), .l i6, .l (.v .b), .l i6, .l (.v .s), .l (.v .s), .l (.all 37000), .l i6]]⟩), (37000, ⟨1, true, .row (.i .i64)⟩), (4000, ⟨23, false, .mix (some 30) [mN]⟩)]⟩ [(0, ⟨(ru 3 (.l (.ptr 4000 0 0) :: ru 1 (.l i6 :: .l (.ptr 7000 0 0) :: ru 1 (.l i6 :: ru 3 (.l (.ptr 13000 0 0) :: ru 139 []))))), [(13000, ⟨23, false, .mix (some 30) [mN]⟩), (7000, ⟨23, false, .mix (some 30) [[.l i6, .l i6, .l i6, .l i6, .l i6, .l i6, .l i6, .l i6, .l i6, .l i6, .l (.v .b), .l (.v .b), .l (.v .s), .l i6, .l i6, .l (.v .s), .l i6, .l (.v .b), .l i6, .l (.v .s), .l (.v .s), .l (.all 37000), .l i6]]⟩), (37000, ⟨1, true, .row (.i .i64)⟩), (4000, ⟨23, false, .mix (some 30) [mN]⟩)]⟩)] true (.seq (sN .no) (.seq (.blk (.seq (.reg [] [(2, .frz 88000)]) (.seq (sN (.cond .no .no)) (sN (sN (.seq (sN (.blk (.loop [] ⟨(ru 3 (.l (.ptr 4000 0 0) :: .l (.v (.l (.c (.i .i64) (.i .i64)))) :: .l i6 :: .l (.ptr 7000 0 0) :: ru 1 (.l i6 :: ru 3 (.l (.ptr 13000 0 0) :: .l i6 :: ru 2 (.l (.v .b) :: .l i6 :: ru 134 []))))), [(13000, ⟨23, false, .mix (some 30) [mN]⟩), (7000, ⟨23, false, .mix (some 30) [[.l i6, .l i6, .l i6, .l i6, .l i6, .l i6, .l i6, .l i6, .l i6, .l i6, .l (.v .b), .l (.v .b), .l (.v .s), .l i6, .l i6, .l (.v .s), .l i6, .l (.v .b), .l i6, .l (.v .s), .l (.v .s), .l (.all 37000), .l i6]]⟩), (37000, ⟨1, true, .row (.i .i64)⟩), (4000, ⟨23, false, .mix (some 30) [mN]⟩)]⟩ [(2, ⟨(ru 3 (.l (.ptr 4000 0 0) :: .l (.v (.l (.c (.i .i64) (.i .i64)))) :: .l i6 :: .l (.ptr 7000 0 0) :: ru 1 (.l i6 :: ru 3 (.l (.ptr 13000 0 0) :: .l i6 :: ru 2 (.l (.v .b) :: ru 135 []))))), [(13000, ⟨23, false, .mix (some 30) [mN]⟩), (7000, ⟨23, false, .mix (some 30) [[.l i6, .l i6, .l i6, .l i6, .l i6, .l i6, .l i6, .l i6, .l i6, .l i6, .l (.v .b), .l (.v .b), .l (.v .s), .l i6, .l i6, .l (.v .s), .l i6, .l (.v .b), .l i6, .l (.v .s), .l (.v .s), .l (.all 37000), .l i6]]⟩), (37000, ⟨1, true, .row (.i .i64)⟩), (4000, ⟨23, false, .mix (some 30) [mN]⟩)]⟩)] false (.seq (sN .no) (sN .no))))) (.seqJ [(1000000, ⟨(ru 3 (.l (.ptr 4000 0 0) :: .l (.v (.l (.c (.i .i64) (.i .i64)))) :: .l i6 :: .l (.ptr 7000 0 0) :: ru 1 (.l i6 :: ru 3 (.l (.ptr 13000 0 0) :: .l i6 :: ru 101 (.l (.v .b) :: ru 36 []))))), [(13000, ⟨23, false, .mix (some 30) [mN]⟩), (7000, ⟨23, false, .mix (some 30) [[.l i6, .l i6, .l i6, .l i6, .l i6, .l i6, .l i6, .l i6, .l i6, .l i6, .l (.v .b), .l (.v .b), .l (.v .s), .l i6, .l i6, .l (.v .s), .l i6, .l (.v .b), .l i6, .l (.v .s), .l (.v .s), .l (.all 37000), .l i6]]⟩), (37000, ⟨1, true, .row (.i .i64)⟩), (4000, ⟨23, false, .mix (some 30) [mN]⟩)]⟩)] false .no (.cond .no .no)))))))) .no))))) (sN (sN .no))))))))))) func11 (kX (c15 K) (kX (c38 K) (kX (c22 K) (kX (c18 K) (kX (c37 K) (kX (c39 K) (kX (c20 K) (kX (c36 K) kN))))))))
def A11 (K : Nat) (a0 : T22.den) : Option Bool := F11 K a0
theorem fun11 (K : Nat) (a0 : T22.den) : funOf (ct11 K) [.d (.rov (.i .u8) a0)] [] = bindO (A11 K a0) fun r => some ([.d (.b r)], []) := by kernel_rfl
end Go.U.Tryz
