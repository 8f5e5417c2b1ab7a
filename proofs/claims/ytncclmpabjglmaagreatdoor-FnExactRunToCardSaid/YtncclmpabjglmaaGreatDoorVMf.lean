/- A part of the proof. No condition. -/
import Derived.Test.YtncclmpabjglmaaGreatDoorVMe
set_option linter.unusedVariables false
set_option linter.unusedSimpArgs false
set_option linter.unusedSectionVars false
namespace Go.U.Tryz
open Go Go.U Go.Proofs Go.Proofs.Tryz
set_option maxRecDepth 100000
set_option linter.unusedVariables false
def F95 (K : Nat) (x : Int × Int) : Option (Int × Int) :=
  some x
def ct95 (K : Nat) : Ct := ⟨[.agg [i6, i6]], [], [.agg [i6, i6]], [], [], F95 K⟩
theorem c95 (K : Nat) : CtOk prog 95 (ct95 K) :=
  con_mk (Y := Y) (K := K) (an := (.seq .no (.seq .no (.seq .no (.seq .no .no))))) func95 mixed ctabOk_nil (by kernel_rfl) fun x => by kernel_rfl
def F40 (K : Nat) (x : (List (Int × Int)) × Int) : Option (Int) :=
  branch (decide ((w64 (x.2 - (x.1.length : Int))) < 0))
   (some (-1))
   (some (w64 (x.2 - (x.1.length : Int))))
def ct40 (K : Nat) : Ct := ⟨[.l (.v (.l (.c (.i .i64) (.i .i64)))), .l i6], [], [.l i6], [], [], F40 K⟩
theorem c40 (K : Nat) : CtOk prog 40 (ct40 K) :=
  con_mk (Y := Y) (K := K) (an := (.seq .no (.seq .no (.seq (.seq .no (.cond .no .no)) .no)))) func40 mixed ctabOk_nil (by kernel_rfl) fun x => by kernel_rfl
def F41o_b0 (K : Nat) (x : (List (Int × Int)) × Int × List (Int × Int)) : Option (((List (Int × Int)) × Int × List (Int × Int)) ⊕ (List (Int × Int))) :=
  branch (decide (x.2.1 < (x.1.length : Int)))
   (nth x.1 x.2.1 fun v0 =>
   bindO (F95 K v0) fun v1 =>
   guard (decide (0 ≤ x.2.1 ∧ x.2.1 < (x.2.2.length : Int))) <|
   nthN x.2.2 x.2.1.toNat fun v2 =>
   some (.inl (x.1, w64 (x.2.1 + 1), List.set x.2.2 x.2.1.toNat v1)))
   (some (.inr x.2.2))
def F41o (K : Nat) (x : List (Int × Int)) : Option (List (Int × Int)) :=
  guard (decide ((x.length : Int) = (x.length : Int) ∧ 0 ≤ (x.length : Int) ∧ (16 * ((x.length : Int).toNat)) ≤ 281474976710656)) <|
  bindO (iter K (F41o_b0 K) (x, 0, List.replicate ((x.length : Int).toNat) (0, 0))) fun v0 =>
  some v0
def ct41o (K : Nat) : Ct := ⟨[.l (.v (.l (.c (.i .i64) (.i .i64))))], [], [.l (.all 0)], [⟨2, true, .row (.c (.i .i64) (.i .i64))⟩], [], F41o K⟩
theorem c41o (K : Nat) : CtOk prog 41 (ct41o K) :=
  con_mk (Y := Y) (K := K) (an := (.seq .no (.seq .no (.seq (.seq .no (.blk (.loop [] ⟨(.l (.v (.l (.c (.i .i64) (.i .i64)))) :: ru 2 (.l (.all 8000) :: .l i6 :: ru 18 [])), [(8000, ⟨2, true, .row (.c (.i .i64) (.i .i64))⟩)]⟩ [(0, ⟨(ru 3 (.l (.all 8000) :: ru 19 [])), [(8000, ⟨2, true, .row (.c (.i .i64) (.i .i64))⟩)]⟩)] false (.seq (.seq .no .no) (.seq .no .no))))) .no)))) func41 mixed (ctabOk_cons (c95 K) ctabOk_nil) (by kernel_rfl) fun x => by kernel_rfl
def F96 (K : Nat) (x : Int × Int × Int × Int) : Option (Bool) :=
  branch (!(decide (x.1 = x.2.2.1)))
   (some false)
   (branch (!(decide (x.2.1 = x.2.2.2)))
    (some false)
    (some true))
def ct96 (K : Nat) : Ct := ⟨[.agg [i6, i6], .agg [i6, i6]], [], [.l (.v .b)], [], [], F96 K⟩
theorem c96 (K : Nat) : CtOk prog 96 (ct96 K) :=
  con_mk (Y := Y) (K := K) (an := (.seq .no (.seq (.seq .no (.cond .no .no)) (.seq (.seq .no (.cond .no .no)) .no)))) func96 mixed ctabOk_nil (by kernel_rfl) fun x => by kernel_rfl
def F42_b0 (K : Nat) (x : (List (Int × Int)) × (List (Int × Int)) × Int) : Option (((List (Int × Int)) × (List (Int × Int)) × Int) ⊕ (Bool ⊕ Unit)) :=
  branch (decide (x.2.2 < (x.1.length : Int)))
   (nth x.1 x.2.2 fun v0 =>
   nth x.2.1 x.2.2 fun v1 =>
   bindO (F96 K (v0.1, v0.2, v1)) fun v2 =>
   branch (!v2)
    (some (.inr (.inl false)))
    (some (.inl (x.1, x.2.1, w64 (x.2.2 + 1)))))
   (some (.inr (.inr ())))
def F42 (K : Nat) (x : (List (Int × Int)) × List (Int × Int)) : Option (Bool) :=
  branch (!(decide ((x.1.length : Int) = (x.2.length : Int))))
   (some false)
   (bindO (iter K (F42_b0 K) (x.1, x.2, 0)) fun v0 =>
   csO v0
    (fun v1 => some v1)
    (fun v2 => some true))
def ct42 (K : Nat) : Ct := ⟨[.l (.v (.l (.c (.i .i64) (.i .i64)))), .l (.v (.l (.c (.i .i64) (.i .i64))))], [], [.l (.v .b)], [], [], F42 K⟩
theorem c42 (K : Nat) : CtOk prog 42 (ct42 K) :=
  con_mk (Y := Y) (K := K) (an := (.seq .no (.seq (.seq .no (.cond .no .no)) (.seq (.seq .no (.blk (.loop [] ⟨(.l (.v (.l (.c (.i .i64) (.i .i64)))) :: .l (.v (.l (.c (.i .i64) (.i .i64)))) :: ru 3 (.l i6 :: ru 21 [])), []⟩ [(0, ⟨(ru 27 []), []⟩)] true (.seq (.seq .no .no) (.seq (.blk (.seq .no (.cond .no .no))) .no))))) .no)))) func42 mixed (ctabOk_cons (c96 K) ctabOk_nil) (by kernel_rfl) fun x => by kernel_rfl
def F43_b0 (K : Nat) (x : Int × Int × List (Int × Int)) : Option ((Int × Int × List (Int × Int)) ⊕ (Int × List (Int × Int))) :=
  branch (decide (x.2.1 < (x.2.2.length : Int)))
   (guard (decide (0 ≤ x.2.1 ∧ x.2.1 < (x.2.2.length : Int))) <|
   nthN x.2.2 x.2.1.toNat fun v0 =>
   guard (decide (0 ≤ x.2.1 ∧ x.2.1 < ((List.set x.2.2 x.2.1.toNat (x.1, v0.2)).length : Int))) <|
   nthN (List.set x.2.2 x.2.1.toNat (x.1, v0.2)) x.2.1.toNat fun v1 =>
   some (.inl (w64 ((w64 (x.1 + 1)) + 1), w64 (x.2.1 + 1), List.set (List.set x.2.2 x.2.1.toNat (x.1, v0.2)) x.2.1.toNat (v1.1, w64 (x.1 + 1)))))
   (some (.inr (x.1, x.2.2)))
def F43 (K : Nat) (x : Int × List (Int × Int)) : Option (Int × List (Int × Int)) :=
  bindO (iter K (F43_b0 K) (x.1, 0, x.2)) fun v0 =>
  some v0
def ct43 (K : Nat) : Ct := ⟨[.l (.all 0), .l i6], [⟨2, false, .row (.c (.i .i64) (.i .i64))⟩], [.l i6], [⟨2, false, .row (.c (.i .i64) (.i .i64))⟩], [true], F43 K⟩
theorem c43 (K : Nat) : CtOk prog 43 (ct43 K) :=
  con_mk (Y := Y) (K := K) (an := (.seq .no (.seq (.seq .no (.blk (.loop [] ⟨(.l (.all 0) :: .l i6 :: ru 3 (.l i6 :: ru 21 [])), [(0, ⟨2, false, .row (.c (.i .i64) (.i .i64))⟩)]⟩ [(0, ⟨(ru 1 (.l i6 :: ru 25 [])), [(0, ⟨2, false, .row (.c (.i .i64) (.i .i64))⟩)]⟩)] false (.seq (.seq .no .no) (.seq (.blk (.seq .no (.seq .no .no))) .no))))) .no))) func43 mixed ctabOk_nil (by kernel_rfl) fun x => by kernel_rfl
def F12 (K : Nat) (x : Int × Int × Int × Int × Int × Int × Int × Int × Int × Int × Bool × Bool × (List UInt8) × Int × Int × (List UInt8) × Int × Bool × Int × (List UInt8) × (List UInt8) × (List Int) × Int × (List (Int × Int)) × Int) : Option (Bool) :=
  bindO (F27 K (x.1, x.2.1, x.2.2.1, x.2.2.2.1, pr4 x, pr5 x, pr6 x, pr7 x, pr8 x, pr9 x, pr10 x, pr11 x, pr12 x, pr13 x, pr14 x, pr15 x, pr16 x, pr17 x, pr18 x, pr19 x, pr20 x, pr21 x, pr22 x, 1048576)) fun v0 =>
  branch (decide (v0 < 0))
   (some true)
   (bindO (F40 K (pr23 x, v0)) fun v1 =>
   branch (decide (v1 < 0))
    (some true)
    (bindO (F28o K (x.1, x.2.1, x.2.2.1, x.2.2.2.1, pr4 x, pr5 x, pr6 x, pr7 x, pr8 x, pr9 x, pr10 x, pr11 x, pr12 x, pr13 x, pr14 x, pr15 x, pr16 x, pr17 x, pr18 x, pr19 x, pr20 x, pr21 x, pr22 x)) fun v2 =>
    bindO (F41o K (pr23 x)) fun v3 =>
    bindO (F38 K (v2.1, v2.2.1, v2.2.2.1, v2.2.2.2.1, pr4 v2, pr5 v2, pr6 v2, pr7 v2, pr8 v2, pr9 v2, pr10 v2, pr11 v2, pr12 v2, pr13 v2, pr14 v2, pr15 v2, pr16 v2, pr17 v2, pr18 v2, pr19 v2, pr20 v2, er22 v2, pr21 v2, v3, er24 x)) fun v4 =>
    bindO (F28o K (x.1, x.2.1, x.2.2.1, x.2.2.2.1, pr4 x, pr5 x, pr6 x, pr7 x, pr8 x, pr9 x, pr10 x, pr11 x, pr12 x, pr13 x, pr14 x, pr15 x, pr16 x, pr17 x, pr18 x, pr19 x, pr20 x, pr21 x, pr22 x)) fun v5 =>
    bindO (F41o K (pr23 x)) fun v6 =>
    bindO (F37 K (v5.1, v5.2.1, v5.2.2.1, v5.2.2.2.1, pr4 v5, pr5 v5, pr6 v5, pr7 v5, pr8 v5, pr9 v5, pr10 v5, pr11 v5, pr12 v5, pr13 v5, pr14 v5, pr15 v5, pr16 v5, pr17 v5, pr18 v5, pr19 v5, pr20 v5, er22 v5, pr21 v5, v6, er24 x)) fun v7 =>
    bindO (α := Bool ⊕ ((List (Int × Int)) × Int × Int × Int × Int × Int × Int × Int × Int × Int × Int × Int × Int × Int × Int × Int × Bool × Bool × (List UInt8) × Int × Int × (List UInt8) × Int × Bool × Int × (List UInt8) × (List UInt8) × Int × (List Int) × (List (Int × Int)) × Int × Int × Int × Int × Int × Int × Int × Int × Int × Int × Bool × Bool × (List UInt8) × Int × Int × (List UInt8) × Int × Bool × Int × (List UInt8) × (List UInt8) × Int × (List Int) × Int × Int × Int × Int × Int × Int × Int × Int × Int × Int × Bool × Bool × (List UInt8) × Int × Int × (List UInt8) × Int × Bool × Int × (List UInt8) × (List UInt8) × (List Int) × Int × MM)) (bindO (α := (List (Int × Int)) × Int × Int × Int × Int × Int × Bool × Int × Int × Int × Int × Int × Int × Int × Int × Int × Int × Bool × Bool × (List UInt8) × Int × Int × (List UInt8) × Int × Bool × Int × (List UInt8) × (List UInt8) × Int × (List Int) × (List (Int × Int)) × Int × Int × Int × Int × Int × Int × Int × Int × Int × Int × Bool × Bool × (List UInt8) × Int × Int × (List UInt8) × Int × Bool × Int × (List UInt8) × (List UInt8) × Int × (List Int) × Int × Int × Int × Int × Int × Int × Int × Int × Int × Int × Bool × Bool × (List UInt8) × Int × Int × (List UInt8) × Int × Bool × Int × (List UInt8) × (List UInt8) × (List Int) × Int × MM) (bindO (F29 K (v7.1, v7.2.1, v7.2.2.1, v7.2.2.2.1, pr4 v7, pr5 v7, pr6 v7, pr7 v7, pr8 v7, pr9 v7, pr10 v7, pr11 v7, pr12 v7, pr13 v7, pr14 v7, pr15 v7, pr16 v7, pr17 v7, pr18 v7, pr19 v7, pr20 v7, er24 v7, pr21 v7, v4.1, v4.2.1, v4.2.2.1, v4.2.2.2.1, pr4 v4, pr5 v4, pr6 v4, pr7 v4, pr8 v4, pr9 v4, pr10 v4, pr11 v4, pr12 v4, pr13 v4, pr14 v4, pr15 v4, pr16 v4, pr17 v4, pr18 v4, pr19 v4, pr20 v4, pr21 v4, pr22 v4)) fun v8 =>
        branch (!v8)
         (some (pr23 x, er24 x, pr23 v4, er24 v4, pr22 v7, pr23 v7, true, v7.1, v7.2.1, v7.2.2.1, v7.2.2.2.1, pr4 v7, pr5 v7, pr6 v7, pr7 v7, pr8 v7, pr9 v7, pr10 v7, pr11 v7, pr12 v7, pr13 v7, pr14 v7, pr15 v7, pr16 v7, pr17 v7, pr18 v7, pr19 v7, pr20 v7, pr21 v7, er24 v7, v6, v5.1, v5.2.1, v5.2.2.1, v5.2.2.2.1, pr4 v5, pr5 v5, pr6 v5, pr7 v5, pr8 v5, pr9 v5, pr10 v5, pr11 v5, pr12 v5, pr13 v5, pr14 v5, pr15 v5, pr16 v5, pr17 v5, pr18 v5, pr19 v5, pr20 v5, pr21 v5, er22 v5, v4.1, v4.2.1, v4.2.2.1, v4.2.2.2.1, pr4 v4, pr5 v4, pr6 v4, pr7 v4, pr8 v4, pr9 v4, pr10 v4, pr11 v4, pr12 v4, pr13 v4, pr14 v4, pr15 v4, pr16 v4, pr17 v4, pr18 v4, pr19 v4, pr20 v4, pr21 v4, pr22 v4, x.1, x.2.1, x.2.2.1, x.2.2.2.1, pr4 x, pr5 x, pr6 x, pr7 x, pr8 x, pr9 x, pr10 x, pr11 x, pr12 x, pr13 x, pr14 x, pr15 x, pr16 x, pr17 x, pr18 x, pr19 x, pr20 x, pr21 x, pr22 x))
         (branch (!(decide ((pr22 v7) = (pr23 v4))))
          (some (pr23 x, er24 x, pr23 v4, er24 v4, pr22 v7, pr23 v7, true, v7.1, v7.2.1, v7.2.2.1, v7.2.2.2.1, pr4 v7, pr5 v7, pr6 v7, pr7 v7, pr8 v7, pr9 v7, pr10 v7, pr11 v7, pr12 v7, pr13 v7, pr14 v7, pr15 v7, pr16 v7, pr17 v7, pr18 v7, pr19 v7, pr20 v7, pr21 v7, er24 v7, v6, v5.1, v5.2.1, v5.2.2.1, v5.2.2.2.1, pr4 v5, pr5 v5, pr6 v5, pr7 v5, pr8 v5, pr9 v5, pr10 v5, pr11 v5, pr12 v5, pr13 v5, pr14 v5, pr15 v5, pr16 v5, pr17 v5, pr18 v5, pr19 v5, pr20 v5, pr21 v5, er22 v5, v4.1, v4.2.1, v4.2.2.1, v4.2.2.2.1, pr4 v4, pr5 v4, pr6 v4, pr7 v4, pr8 v4, pr9 v4, pr10 v4, pr11 v4, pr12 v4, pr13 v4, pr14 v4, pr15 v4, pr16 v4, pr17 v4, pr18 v4, pr19 v4, pr20 v4, pr21 v4, pr22 v4, x.1, x.2.1, x.2.2.1, x.2.2.2.1, pr4 x, pr5 x, pr6 x, pr7 x, pr8 x, pr9 x, pr10 x, pr11 x, pr12 x, pr13 x, pr14 x, pr15 x, pr16 x, pr17 x, pr18 x, pr19 x, pr20 x, pr21 x, pr22 x))
          (some (pr23 x, er24 x, pr23 v4, er24 v4, pr22 v7, pr23 v7, !(decide ((pr23 v7) = (er24 v4))), v7.1, v7.2.1, v7.2.2.1, v7.2.2.2.1, pr4 v7, pr5 v7, pr6 v7, pr7 v7, pr8 v7, pr9 v7, pr10 v7, pr11 v7, pr12 v7, pr13 v7, pr14 v7, pr15 v7, pr16 v7, pr17 v7, pr18 v7, pr19 v7, pr20 v7, pr21 v7, er24 v7, v6, v5.1, v5.2.1, v5.2.2.1, v5.2.2.2.1, pr4 v5, pr5 v5, pr6 v5, pr7 v5, pr8 v5, pr9 v5, pr10 v5, pr11 v5, pr12 v5, pr13 v5, pr14 v5, pr15 v5, pr16 v5, pr17 v5, pr18 v5, pr19 v5, pr20 v5, pr21 v5, er22 v5, v4.1, v4.2.1, v4.2.2.1, v4.2.2.2.1, pr4 v4, pr5 v4, pr6 v4, pr7 v4, pr8 v4, pr9 v4, pr10 v4, pr11 v4, pr12 v4, pr13 v4, pr14 v4, pr15 v4, pr16 v4, pr17 v4, pr18 v4, pr19 v4, pr20 v4, pr21 v4, pr22 v4, x.1, x.2.1, x.2.2.1, x.2.2.2.1, pr4 x, pr5 x, pr6 x, pr7 x, pr8 x, pr9 x, pr10 x, pr11 x, pr12 x, pr13 x, pr14 x, pr15 x, pr16 x, pr17 x, pr18 x, pr19 x, pr20 x, pr21 x, pr22 x)))) fun v9 =>
      branch (pr6 v9)
       (some (.inl false))
       (some (.inr (v9.1, v9.2.1, v9.2.2.1, v9.2.2.2.1, pr4 v9, pr5 v9, er7 v9)))) fun v10 =>
    csO v10
     (fun v11 => some v11)
     (fun v12 => bindO (F28 K (er4 (q24 (q24 (q24 v12))))) fun v13 =>
     bindO (F29 K (pr6 (q24 v12), pr7 (q24 v12), pr8 (q24 v12), pr9 (q24 v12), pr10 (q24 v12), pr11 (q24 v12), pr12 (q24 v12), pr13 (q24 v12), pr14 (q24 v12), pr15 (q24 v12), pr16 (q24 v12), pr17 (q24 v12), pr18 (q24 v12), pr19 (q24 v12), pr20 (q24 v12), pr21 (q24 v12), pr22 (q24 v12), pr23 (q24 v12), pr24 (q24 v12), (q24 (q24 v12)).2.1, (q24 (q24 v12)).2.2.1, pr4 (q24 (q24 v12)), (q24 (q24 v12)).2.2.2.1, v13)) fun v14 =>
     branch (!v14)
      (some false)
      (bindO (F41o K v12.1) fun v15 =>
      bindO (F42 K (pr5 (q24 v12), v15)) fun v16 =>
      branch (!v16)
       (some false)
       (bindO (F30 K (pr6 (q24 v12), pr7 (q24 v12), pr8 (q24 v12), pr9 (q24 v12), pr10 (q24 v12), pr11 (q24 v12), pr12 (q24 v12), pr13 (q24 v12), pr14 (q24 v12), pr15 (q24 v12), pr16 (q24 v12), pr17 (q24 v12), pr18 (q24 v12), pr19 (q24 v12), pr20 (q24 v12), pr21 (q24 v12), pr22 (q24 v12), pr23 (q24 v12), pr24 (q24 v12), (q24 (q24 v12)).2.1, (q24 (q24 v12)).2.2.1, (q24 (q24 v12)).2.2.2.1, 1, pr4 (q24 (q24 v12)))) fun v17 =>
       bindO (F43 K (v17.1, pr5 (q24 v12))) fun v18 =>
       bindO (α := Bool ⊕ ((List (Int × Int)) × Int × Int × Int × Int × Int × Int × Int × Int × Int × Int × Int × Int × Int × Bool × Bool × (List UInt8) × Int × Int × (List UInt8) × Int × Bool × Int × (List UInt8) × (List UInt8) × Int × (List Int) × Int × Int × Int × Int × Int × Int × Int × Int × Int × Int × Bool × Bool × (List UInt8) × Int × Int × (List UInt8) × Int × Bool × Int × (List UInt8) × (List UInt8) × (List Int) × Int × MM)) (bindO (α := (List (Int × Int)) × Int × Int × Int × Bool × Int × Int × Int × Int × Int × Int × Int × Int × Int × Int × Bool × Bool × (List UInt8) × Int × Int × (List UInt8) × Int × Bool × Int × (List UInt8) × (List UInt8) × Int × (List Int) × Int × Int × Int × Int × Int × Int × Int × Int × Int × Int × Bool × Bool × (List UInt8) × Int × Int × (List UInt8) × Int × Bool × Int × (List UInt8) × (List UInt8) × (List Int) × Int × MM) (branch (decide (v18.1 < 0))
            (some (v12.1, v12.2.1, v12.2.2.1, v12.2.2.2.1, true, pr6 v12, pr7 v12, pr8 v12, pr9 v12, pr10 v12, pr11 v12, pr12 v12, pr13 v12, pr14 v12, pr15 v12, pr16 v12, pr17 v12, pr18 v12, pr19 v12, pr20 v12, pr21 v12, pr22 v12, pr23 v12, pr24 v12, (q24 v12).2.1, (q24 v12).2.2.1, (q24 v12).2.2.2.1, pr4 (q24 v12), er5 (q24 (q24 v12))))
            (bindO (F29 K (pr6 v12, pr7 v12, pr8 v12, pr9 v12, pr10 v12, pr11 v12, pr12 v12, pr13 v12, pr14 v12, pr15 v12, pr16 v12, pr17 v12, pr18 v12, pr19 v12, pr20 v12, pr21 v12, pr22 v12, pr23 v12, pr24 v12, (q24 v12).2.1, (q24 v12).2.2.1, pr4 (q24 v12), (q24 v12).2.2.2.1, pr5 (q24 (q24 v12)), pr6 (q24 (q24 v12)), pr7 (q24 (q24 v12)), pr8 (q24 (q24 v12)), pr9 (q24 (q24 v12)), pr10 (q24 (q24 v12)), pr11 (q24 (q24 v12)), pr12 (q24 (q24 v12)), pr13 (q24 (q24 v12)), pr14 (q24 (q24 v12)), pr15 (q24 (q24 v12)), pr16 (q24 (q24 v12)), pr17 (q24 (q24 v12)), pr18 (q24 (q24 v12)), pr19 (q24 (q24 v12)), pr20 (q24 (q24 v12)), pr21 (q24 (q24 v12)), pr22 (q24 (q24 v12)), pr23 (q24 (q24 v12)), pr24 (q24 (q24 v12)), (q24 (q24 (q24 v12))).2.1, (q24 (q24 (q24 v12))).2.2.1, (q24 (q24 (q24 v12))).2.2.2.1)) fun v19 =>
            branch (!v19)
             (some (v12.1, v12.2.1, v12.2.2.1, v12.2.2.2.1, true, pr6 v12, pr7 v12, pr8 v12, pr9 v12, pr10 v12, pr11 v12, pr12 v12, pr13 v12, pr14 v12, pr15 v12, pr16 v12, pr17 v12, pr18 v12, pr19 v12, pr20 v12, pr21 v12, pr22 v12, pr23 v12, pr24 v12, (q24 v12).2.1, (q24 v12).2.2.1, (q24 v12).2.2.2.1, pr4 (q24 v12), er5 (q24 (q24 v12))))
             (branch (!(decide ((pr4 v12) = v12.2.2.1)))
              (some (v12.1, v12.2.1, v12.2.2.1, v12.2.2.2.1, true, pr6 v12, pr7 v12, pr8 v12, pr9 v12, pr10 v12, pr11 v12, pr12 v12, pr13 v12, pr14 v12, pr15 v12, pr16 v12, pr17 v12, pr18 v12, pr19 v12, pr20 v12, pr21 v12, pr22 v12, pr23 v12, pr24 v12, (q24 v12).2.1, (q24 v12).2.2.1, (q24 v12).2.2.2.1, pr4 (q24 v12), er5 (q24 (q24 v12))))
              (some (v12.1, v12.2.1, v12.2.2.1, v12.2.2.2.1, !(decide ((pr5 v12) = v12.2.2.2.1)), pr6 v12, pr7 v12, pr8 v12, pr9 v12, pr10 v12, pr11 v12, pr12 v12, pr13 v12, pr14 v12, pr15 v12, pr16 v12, pr17 v12, pr18 v12, pr19 v12, pr20 v12, pr21 v12, pr22 v12, pr23 v12, pr24 v12, (q24 v12).2.1, (q24 v12).2.2.1, (q24 v12).2.2.2.1, pr4 (q24 v12), er5 (q24 (q24 v12))))))) fun v20 =>
         branch (pr4 v20)
          (some (.inl false))
          (some (.inr (v20.1, v20.2.1, v20.2.2.1, v20.2.2.2.1, er5 v20)))) fun v21 =>
       csO v21
        (fun v22 => some v22)
        (fun v23 => bindO (F30 K (pr4 v23, pr5 v23, pr6 v23, pr7 v23, pr8 v23, pr9 v23, pr10 v23, pr11 v23, pr12 v23, pr13 v23, pr14 v23, pr15 v23, pr16 v23, pr17 v23, pr18 v23, pr19 v23, pr20 v23, pr21 v23, pr22 v23, pr23 v23, pr24 v23, (q24 v23).2.1, 1, (q24 v23).2.2.1)) fun v24 =>
        bindO (F31 K (pr4 v23, pr5 v23, pr6 v23, pr7 v23, pr8 v23, pr9 v23, pr10 v23, pr11 v23, pr12 v23, pr13 v23, pr14 v23, pr15 v23, pr16 v23, pr17 v23, pr18 v23, pr19 v23, pr20 v23, pr21 v23, pr22 v23, pr23 v23, pr24 v23, v24.2, (q24 v23).2.1, 1)) fun v25 =>
        branch (decide (v25 < 0))
         (some false)
         (branch (!(decide (v25 = v24.1)))
          (some false)
          (bindO (F28o K (q24 (q24 v23)).2.2) fun v26 =>
          bindO (F41o K v23.1) fun v27 =>
          bindO (F37 K (v26.1, v26.2.1, v26.2.2.1, v26.2.2.2.1, pr4 v26, pr5 v26, pr6 v26, pr7 v26, pr8 v26, pr9 v26, pr10 v26, pr11 v26, pr12 v26, pr13 v26, pr14 v26, pr15 v26, pr16 v26, pr17 v26, pr18 v26, pr19 v26, pr20 v26, er22 v26, pr21 v26, v27, v23.2.1)) fun v28 =>
          bindO (α := Bool ⊕ (Int × Int × Int × Int × Int × Int × Int × Int × Int × Int × Int × Bool × Bool × (List UInt8) × Int × Int × (List UInt8) × Int × Bool × Int × (List UInt8) × (List UInt8) × Int × List Int)) (bindO (α := Int × Bool × Int × Int × Int × Int × Int × Int × Int × Int × Int × Int × Bool × Bool × (List UInt8) × Int × Int × (List UInt8) × Int × Bool × Int × (List UInt8) × (List UInt8) × Int × List Int) (bindO (F29 K (v28.1, v28.2.1, v28.2.2.1, v28.2.2.2.1, pr4 v28, pr5 v28, pr6 v28, pr7 v28, pr8 v28, pr9 v28, pr10 v28, pr11 v28, pr12 v28, pr13 v28, pr14 v28, pr15 v28, pr16 v28, pr17 v28, pr18 v28, pr19 v28, pr20 v28, er24 v28, pr21 v28, (q24 v23).2.2.2.1, pr4 (q24 v23), pr5 (q24 v23), pr6 (q24 v23), pr7 (q24 v23), pr8 (q24 v23), pr9 (q24 v23), pr10 (q24 v23), pr11 (q24 v23), pr12 (q24 v23), pr13 (q24 v23), pr14 (q24 v23), pr15 (q24 v23), pr16 (q24 v23), pr17 (q24 v23), pr18 (q24 v23), pr19 (q24 v23), pr20 (q24 v23), pr21 (q24 v23), pr22 (q24 v23), pr23 (q24 v23), pr24 (q24 v23), (q24 (q24 v23)).2.1)) fun v29 =>
              branch (!v29)
               (some (v24.1, true, pr4 v23, pr5 v23, pr6 v23, pr7 v23, pr8 v23, pr9 v23, pr10 v23, pr11 v23, pr12 v23, pr13 v23, pr14 v23, pr15 v23, pr16 v23, pr17 v23, pr18 v23, pr19 v23, pr20 v23, pr21 v23, pr22 v23, pr23 v23, pr24 v23, (q24 v23).2.1, v24.2))
               (branch (!(decide ((pr22 v28) = v23.2.2.1)))
                (some (v24.1, true, pr4 v23, pr5 v23, pr6 v23, pr7 v23, pr8 v23, pr9 v23, pr10 v23, pr11 v23, pr12 v23, pr13 v23, pr14 v23, pr15 v23, pr16 v23, pr17 v23, pr18 v23, pr19 v23, pr20 v23, pr21 v23, pr22 v23, pr23 v23, pr24 v23, (q24 v23).2.1, v24.2))
                (some (v24.1, !(decide ((pr23 v28) = v23.2.2.2.1)), pr4 v23, pr5 v23, pr6 v23, pr7 v23, pr8 v23, pr9 v23, pr10 v23, pr11 v23, pr12 v23, pr13 v23, pr14 v23, pr15 v23, pr16 v23, pr17 v23, pr18 v23, pr19 v23, pr20 v23, pr21 v23, pr22 v23, pr23 v23, pr24 v23, (q24 v23).2.1, v24.2)))) fun v30 =>
            branch v30.2.1
             (some (.inl false))
             (some (.inr (v30.1, v30.2.2)))) fun v31 =>
          csO v31
           (fun v32 => some v32)
           (fun v33 => bindO (F31 K (v33.2.1, v33.2.2.1, v33.2.2.2.1, pr4 v33, pr5 v33, pr6 v33, pr7 v33, pr8 v33, pr9 v33, pr10 v33, pr11 v33, pr12 v33, pr13 v33, pr14 v33, pr15 v33, pr16 v33, pr17 v33, pr18 v33, pr19 v33, pr20 v33, pr21 v33, er23 v33, pr22 v33, 1)) fun v34 =>
           branch (decide (v34 < 0))
            (some false)
            (branch (!(decide (v34 = v33.1)))
             (some false)
             (some true)))))))))))
def ct12 (K : Nat) : Ct := ⟨[.agg mL, .l (.v (.l (.c (.i .i64) (.i .i64)))), .l i6], [], [.l (.v .b)], [], [], F12 K⟩
theorem c12 (K : Nat) : CtOk prog 12 (ct12 K) :=
  con_mk (Y := Y) (K := K) (an := (.seq .no (.seq .no (.seq .no (.seq (.seq .no (.cond .no .no)) (.seq .no (.seq (.seq .no (.cond .no .no)) (.seq (.reg [] [(5, .frz 35000), (5, .frz 37000)]) (.seq .no (.seq .no (.seq .no (.seqJ [(1000000, ⟨(ru 1 (.l (.v (.l (.c (.i .i64) (.i .i64)))) :: .l i6 :: .l (.ptr 4000 0 0) :: ru 4 (.l (.ptr 9000 0 0) :: .l i6 :: .l i6 :: .l (.ptr 12000 0 0) :: .l (.all 46000) :: .l (.ptr 14000 0 0) :: .l i6 :: .l i6 :: ru 129 []))), [(14000, ⟨23, false, .mix (some 30) [[.l i6, .l i6, .l i6, .l i6, .l i6, .l i6, .l i6, .l i6, .l i6, .l i6, .l (.v .b), .l (.v .b), .l (.v .s), .l i6, .l i6, .l (.v .s), .l i6, .l (.v .b), .l i6, .l (.v .s), .l (.v .s), .l (.all 51000), .l i6]]⟩), (51000, ⟨1, true, .row (.i .i64)⟩), (46000, ⟨2, true, .row (.c (.i .i64) (.i .i64))⟩), (12000, ⟨23, false, .mix (some 30) [[.l i6, .l i6, .l i6, .l i6, .l i6, .l i6, .l i6, .l i6, .l i6, .l i6, .l (.v .b), .l (.v .b), .l (.v .s), .l i6, .l i6, .l (.v .s), .l i6, .l (.v .b), .l i6, .l (.v .s), .l (.v .s), .l (.all 44000), .l i6]]⟩), (44000, ⟨1, true, .row (.i .i64)⟩), (9000, ⟨23, false, .mix (some 30) [mN]⟩), (4000, ⟨23, false, .mix (some 49) [mN]⟩)]⟩)] true (.seqJ [(1000000, ⟨(ru 1 (.l (.v (.l (.c (.i .i64) (.i .i64)))) :: .l i6 :: .l (.ptr 4000 0 0) :: ru 4 (.l (.ptr 9000 0 0) :: .l i6 :: .l i6 :: .l (.ptr 12000 0 0) :: .l (.all 46000) :: .l (.ptr 14000 0 0) :: .l i6 :: .l i6 :: ru 51 (.l (.v .b) :: ru 77 [])))), [(14000, ⟨23, false, .mix (some 30) [[.l i6, .l i6, .l i6, .l i6, .l i6, .l i6, .l i6, .l i6, .l i6, .l i6, .l (.v .b), .l (.v .b), .l (.v .s), .l i6, .l i6, .l (.v .s), .l i6, .l (.v .b), .l i6, .l (.v .s), .l (.v .s), .l (.all 51000), .l i6]]⟩), (51000, ⟨1, true, .row (.i .i64)⟩), (46000, ⟨2, true, .row (.c (.i .i64) (.i .i64))⟩), (12000, ⟨23, false, .mix (some 30) [[.l i6, .l i6, .l i6, .l i6, .l i6, .l i6, .l i6, .l i6, .l i6, .l i6, .l (.v .b), .l (.v .b), .l (.v .s), .l i6, .l i6, .l (.v .s), .l i6, .l (.v .b), .l i6, .l (.v .s), .l (.v .s), .l (.all 44000), .l i6]]⟩), (44000, ⟨1, true, .row (.i .i64)⟩), (9000, ⟨23, false, .mix (some 30) [mN]⟩), (4000, ⟨23, false, .mix (some 49) [mN]⟩)]⟩)] false .no (.cond .no .no)) (.seq (.seq .no (.cond .no .no)) (.seq (.seq .no (.cond .no .no)) (.seq .no (.seq .no (.seq .no (.seqJ [(1000000, ⟨(ru 1 (.l (.v (.l (.c (.i .i64) (.i .i64)))) :: .l i6 :: .l (.ptr 4000 0 0) :: ru 4 (.l (.ptr 9000 0 0) :: .l i6 :: .l i6 :: ru 2 (.l (.ptr 14000 0 0) :: ru 131 [])))), [(14000, ⟨23, false, .mix (some 30) [[.l i6, .l i6, .l i6, .l i6, .l i6, .l i6, .l i6, .l i6, .l i6, .l i6, .l (.v .b), .l (.v .b), .l (.v .s), .l i6, .l i6, .l (.v .s), .l i6, .l (.v .b), .l i6, .l (.v .s), .l (.v .s), .l (.all 51000), .l i6]]⟩), (51000, ⟨1, true, .row (.i .i64)⟩), (9000, ⟨23, false, .mix (some 30) [mN]⟩), (4000, ⟨23, false, .mix (some 49) [mN]⟩)]⟩)] true (.seqJ [(1000000, ⟨(ru 1 (.l (.v (.l (.c (.i .i64) (.i .i64)))) :: .l i6 :: .l (.ptr 4000 0 0) :: ru 4 (.l (.ptr 9000 0 0) :: .l i6 :: .l i6 :: ru 2 (.l (.ptr 14000 0 0) :: ru 87 (.l (.v .b) :: ru 43 []))))), [(14000, ⟨23, false, .mix (some 30) [[.l i6, .l i6, .l i6, .l i6, .l i6, .l i6, .l i6, .l i6, .l i6, .l i6, .l (.v .b), .l (.v .b), .l (.v .s), .l i6, .l i6, .l (.v .s), .l i6, .l (.v .b), .l i6, .l (.v .s), .l (.v .s), .l (.all 51000), .l i6]]⟩), (51000, ⟨1, true, .row (.i .i64)⟩), (9000, ⟨23, false, .mix (some 30) [mN]⟩), (4000, ⟨23, false, .mix (some 49) [mN]⟩)]⟩)] false .no (.cond .no .no)) (.seq .no (.seq .no (.seq .no (.seq .no (.seq (.seq .no (.cond .no .no)) (.seq (.seq .no (.cond .no .no)) (.seq .no (.seqJ [(1000000, ⟨(ru 13 (.l (.ptr 14000 0 0) :: ru 3 (.l i6 :: ru 127 []))), [(14000, ⟨23, false, .mix (some 30) [[.l i6, .l i6, .l i6, .l i6, .l i6, .l i6, .l i6, .l i6, .l i6, .l i6, .l (.v .b), .l (.v .b), .l (.v .s), .l i6, .l i6, .l (.v .s), .l i6, .l (.v .b), .l i6, .l (.v .s), .l (.v .s), .l (.all 51000), .l i6]]⟩), (51000, ⟨1, true, .row (.i .i64)⟩)]⟩)] true (.seqJ [(1000000, ⟨(ru 13 (.l (.ptr 14000 0 0) :: ru 3 (.l i6 :: ru 118 (.l (.v .b) :: ru 8 [])))), [(14000, ⟨23, false, .mix (some 30) [[.l i6, .l i6, .l i6, .l i6, .l i6, .l i6, .l i6, .l i6, .l i6, .l i6, .l (.v .b), .l (.v .b), .l (.v .s), .l i6, .l i6, .l (.v .s), .l i6, .l (.v .b), .l i6, .l (.v .s), .l (.v .s), .l (.all 51000), .l i6]]⟩), (51000, ⟨1, true, .row (.i .i64)⟩)]⟩)] false .no (.cond .no .no)) (.seq .no (.seq .no (.seq (.seq .no (.cond .no .no)) (.seq (.seq .no (.cond .no .no)) .no)))))))))))))))))))))))))))))) func12 mixed (ctabOk_cons (c38 K) (ctabOk_cons (c37 K) (ctabOk_cons (c27 K) (ctabOk_cons (c28o K) (ctabOk_cons (c28 K) (ctabOk_cons (c29 K) (ctabOk_cons (c30 K) (ctabOk_cons (c31 K) (ctabOk_cons (c40 K) (ctabOk_cons (c41o K) (ctabOk_cons (c42 K) (ctabOk_cons (c43 K) ctabOk_nil)))))))))))) (by kernel_rfl) fun x => by kernel_rfl
def T64 : Ty := (.l (.c (.i .i64) (.i .i64)))
theorem tl64 : tyL prog 64 64 = some T64 := by kernel_rfl
def A12 (K : Nat) (a0 : T49.den) (a1 : T64.den) (a2 : T2.den) : Option Bool := F12 K (a0.1.1, a0.1.2.1, a0.1.2.2.1, a0.1.2.2.2.1, a0.1.2.2.2.2.1, a0.1.2.2.2.2.2.1, a0.1.2.2.2.2.2.2.1, a0.1.2.2.2.2.2.2.2.1, a0.1.2.2.2.2.2.2.2.2.1, a0.1.2.2.2.2.2.2.2.2.2.1, a0.1.2.2.2.2.2.2.2.2.2.2.1, a0.1.2.2.2.2.2.2.2.2.2.2.2, a0.2.1.1, a0.2.1.2.1, a0.2.1.2.2.1, a0.2.1.2.2.2.1, a0.2.1.2.2.2.2.1, a0.2.1.2.2.2.2.2.1, a0.2.1.2.2.2.2.2.2, a0.2.2.1, a0.2.2.2.1, a0.2.2.2.2.1, a0.2.2.2.2.2, a1, a2)
theorem fun12 (K : Nat) (a0 : T49.den) (a1 : T64.den) (a2 : T2.den) : funOf (ct12 K) [.agg ((Ty.enc T49 a0).map SV.d), .d (.rov (.c (.i .i64) (.i .i64)) a1), .d (.i .i64 a2)] [] = bindO (A12 K a0 a1 a2) fun r => some ([.d (.b r)], []) := by kernel_rfl
end Go.U.Tryz
