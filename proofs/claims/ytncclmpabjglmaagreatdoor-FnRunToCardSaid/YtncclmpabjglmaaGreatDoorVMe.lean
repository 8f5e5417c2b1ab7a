/- A part of the proof. No condition. -/
import Derived.Test.YtncclmpabjglmaaGreatDoorVMs
set_option linter.unusedVariables false
set_option linter.unusedSimpArgs false
set_option linter.unusedSectionVars false
namespace Go.U.Tryz
open Go Go.U Go.Proofs Go.Proofs.Tryz
set_option maxRecDepth 100000
def F61o (K : Nat) (x : MM) : Option (Int × Int × Int × Int × Int × Int × Int × Int × Int × Int × Bool × Bool × (List UInt8) × Int × Int × (List UInt8) × Int × Bool × Int × (List UInt8) × (List UInt8) × Int × List Int) :=
  bindO (F111 K (pr21 x)) fun v0 =>
  some (x.1, x.2.1, x.2.2.1, x.2.2.2.1, pr4 x, pr5 x, pr6 x, pr7 x, pr8 x, pr9 x, pr10 x, pr11 x, pr12 x, pr13 x, pr14 x, pr15 x, pr16 x, pr17 x, pr18 x, pr19 x, pr20 x, er22 x, v0)
def ct61o (K : Nat) : Ct := ⟨[.agg mL], [], [.agg [i6, i6, i6, i6, i6, i6, i6, i6, i6, i6, (.v .b), (.v .b), (.v .s), i6, i6, (.v .s), i6, (.v .b), i6, (.v .s), (.v .s), (.all 0), i6]], [⟨1, true, .row (.i .i64)⟩], [], F61o K⟩
theorem c61o (K : Nat) : CtOk prog 61 (ct61o K) :=
  cmk (K := K) (an := (sN (sN .no))) func61 (kX (c111 K) kN)
def F22 (K : Nat) (x : MM) : Option (Int × Int × Int × Int × Int × Int × Int × Int × Int × Int × Bool × Bool × (List UInt8) × Int × Int × (List UInt8) × Int × Bool × Int × (List UInt8) × (List UInt8) × Int × Int × List Int) :=
  bindO (F32 K x) fun v0 =>
  branch (!v0)
   (some (0, 0, 0, 0, 0, 0, 0, 0, 0, 0, false, false, [], 0, 0, [], 0, false, 0, [], [], 0, 3, []))
   (bindO (F60 K x) fun v1 =>
   bindO (F61o K (v1.1, v1.2.1, v1.2.2.1, v1.2.2.2.1, pr4 v1, pr5 v1, pr6 v1, pr7 v1, pr8 v1, pr9 v1, pr10 v1, pr11 v1, pr12 v1, pr13 v1, pr14 v1, pr15 v1, pr16 v1, pr17 v1, pr18 v1, pr19 v1, pr20 v1, pr21 v1, pr22 v1)) fun v2 =>
   some (v2.1, v2.2.1, v2.2.2.1, v2.2.2.2.1, pr4 v2, pr5 v2, pr6 v2, pr7 v2, pr8 v2, pr9 v2, pr10 v2, pr11 v2, pr12 v2, pr13 v2, pr14 v2, pr15 v2, pr16 v2, pr17 v2, pr18 v2, pr19 v2, pr20 v2, pr21 v2, er23 v1, er22 v2))
def ct22 (K : Nat) : Ct := ⟨[.agg mL], [], [.agg [i6, i6, i6, i6, i6, i6, i6, i6, i6, i6, (.v .b), (.v .b), (.v .s), i6, i6, (.v .s), i6, (.v .b), i6, (.v .s), (.v .s), (.all 0), i6], .l i6], [⟨1, true, .row (.i .i64)⟩], [], F22 K⟩
theorem c22 (K : Nat) : CtOk prog 22 (ct22 K) :=
  cmk (K := K) (an := (sN (.seq (sN (.cond (.seq (.reg [] [(2, .vcell 3000 21 9900 1 (.i .i64))]) .no) .no)) (sN .no)))) func22 (kX (c32 K) (kX (c60 K) (kX (c61o K) kN)))
def F56 (K : Nat) (x : MM) : Option (Bool) :=
  some false
def ct56 (K : Nat) : Ct := ⟨[.agg mL], [], [.l (.v .b)], [], [], F56 K⟩
theorem c56 (K : Nat) : CtOk prog 56 (ct56 K) :=
  cmk (K := K) (an := (sN .no)) func56 kN
def F55n_b0 (K : Nat) (x : Int × Int × Int × MC MM) : Option ((Int × Int × Int × MC MM) ⊕ (Int × Int × MC MM)) :=
  branch (decide (x.2.2.1 < x.1))
   (bindO (F60 K (q24 x).2.2) fun v0 =>
   branch (!(decide ((er23 v0) = 0)))
    (some (.inr (er23 v0, x.2.2)))
    (bindO (F56 K (v0.1, v0.2.1, v0.2.2.1, v0.2.2.2.1, pr4 v0, pr5 v0, pr6 v0, pr7 v0, pr8 v0, pr9 v0, pr10 v0, pr11 v0, pr12 v0, pr13 v0, pr14 v0, pr15 v0, pr16 v0, pr17 v0, pr18 v0, pr19 v0, pr20 v0, pr21 v0, pr22 v0)) fun v1 =>
    branch v1
     (some (.inr (er23 v0, w64 (x.2.2.1 + 1), x.2.2.2.1, pr4 x, pr5 x, pr6 x, pr7 x, pr8 x, pr9 x, pr10 x, pr11 x, pr12 x, pr13 x, pr14 x, pr15 x, pr16 x, pr17 x, pr18 x, pr19 x, pr20 x, pr21 x, pr22 x, pr23 x, pr24 x, (q24 x).2.1, v0.1, v0.2.1, v0.2.2.1, v0.2.2.2.1, pr4 v0, pr5 v0, pr6 v0, pr7 v0, pr8 v0, pr9 v0, pr10 v0, pr11 v0, pr12 v0, pr13 v0, pr14 v0, pr15 v0, pr16 v0, pr17 v0, pr18 v0, pr19 v0, pr20 v0, pr21 v0, pr22 v0)))
     (some (.inl (x.1, er23 v0, w64 (x.2.2.1 + 1), x.2.2.2.1, pr4 x, pr5 x, pr6 x, pr7 x, pr8 x, pr9 x, pr10 x, pr11 x, pr12 x, pr13 x, pr14 x, pr15 x, pr16 x, pr17 x, pr18 x, pr19 x, pr20 x, pr21 x, pr22 x, pr23 x, pr24 x, (q24 x).2.1, v0.1, v0.2.1, v0.2.2.1, v0.2.2.2.1, pr4 v0, pr5 v0, pr6 v0, pr7 v0, pr8 v0, pr9 v0, pr10 v0, pr11 v0, pr12 v0, pr13 v0, pr14 v0, pr15 v0, pr16 v0, pr17 v0, pr18 v0, pr19 v0, pr20 v0, pr21 v0, pr22 v0)))))
   (some (.inr x.2))
def F55n (K : Nat) (x : MC (Int)) : Option (Int × Int × Int × Int × Int × Int × Int × Int × Int × Int × Bool × Bool × (List UInt8) × Int × Int × (List UInt8) × Int × Bool × Int × (List UInt8) × (List UInt8) × Int × Int × Int × List Int) :=
  bindO (iter K (F55n_b0 K) (er23 x, 0, 0, 0, 0, 0, 0, 0, 0, 0, 0, 0, 0, false, false, [], 0, 0, [], 0, false, 0, [], [], [], 0, x.1, x.2.1, x.2.2.1, x.2.2.2.1, pr4 x, pr5 x, pr6 x, pr7 x, pr8 x, pr9 x, pr10 x, pr11 x, pr12 x, pr13 x, pr14 x, pr15 x, pr16 x, pr17 x, pr18 x, pr19 x, pr20 x, pr21 x, pr22 x)) fun v0 =>
  bindO (F61o K (q24 v0).2) fun v1 =>
  some (v1.1, v1.2.1, v1.2.2.1, v1.2.2.2.1, pr4 v1, pr5 v1, pr6 v1, pr7 v1, pr8 v1, pr9 v1, pr10 v1, pr11 v1, pr12 v1, pr13 v1, pr14 v1, pr15 v1, pr16 v1, pr17 v1, pr18 v1, pr19 v1, pr20 v1, pr21 v1, v0.1, v0.2.1, er22 v1)
def ct55n (K : Nat) : Ct := ⟨[.agg mL, .l i6, .clo 56 []], [], [.agg [i6, i6, i6, i6, i6, i6, i6, i6, i6, i6, (.v .b), (.v .b), (.v .s), i6, i6, (.v .s), i6, (.v .b), i6, (.v .s), (.v .s), (.all 0), i6], .l i6, .l i6], [⟨1, true, .row (.i .i64)⟩], [], F55n K⟩
theorem c55n (K : Nat) : CtOk prog 55 (ct55n K) :=
  cmk (K := K) (an := (sN (sN (.seq (.blk (.loop [] ⟨(ru 1 (.l i6 :: .clo 56 [] :: .l (.ptr 4000 0 0) :: ru 2 (.l (.ptr 7000 0 0) :: ru 2 (.l i6 :: .l i6 :: ru 23 [])))), [(7000, ⟨23, false, .mix (some 30) [mN]⟩), (4000, ⟨23, false, .mix (some 30) [mN]⟩)]⟩ [(0, ⟨(ru 3 (.l (.ptr 4000 0 0) :: ru 2 (.l (.ptr 7000 0 0) :: ru 2 (.l i6 :: .l i6 :: ru 23 [])))), [(7000, ⟨23, false, .mix (some 30) [mN]⟩), (4000, ⟨23, false, .mix (some 30) [mN]⟩)]⟩)] false (.seq (sN .no) (.blk (sN (.seq (sN (sN .no)) (sN (sN (sN .no))))))))) .no)))) func55 (kX (c60 K) (kX (c61o K) (kX (c56 K) kN)))
def F18 (K : Nat) (x : MC (Int)) : Option (Int × Int × Int × Int × Int × Int × Int × Int × Int × Int × Bool × Bool × (List UInt8) × Int × Int × (List UInt8) × Int × Bool × Int × (List UInt8) × (List UInt8) × Int × Int × Int × List Int) :=
  bindO (α := (Int × Int × Int × Int × Int × Int × Int × Int × Int × Int × Bool × Bool × (List UInt8) × Int × Int × (List UInt8) × Int × Bool × Int × (List UInt8) × (List UInt8) × Int × Int × Int × List Int) ⊕ (Int × MC MM)) (bindO (α := Int × Bool × MC MM) (bindO (F32 K (x.1, x.2.1, x.2.2.1, x.2.2.2.1, pr4 x, pr5 x, pr6 x, pr7 x, pr8 x, pr9 x, pr10 x, pr11 x, pr12 x, pr13 x, pr14 x, pr15 x, pr16 x, pr17 x, pr18 x, pr19 x, pr20 x, pr21 x, pr22 x)) fun v0 =>
      branch (!v0)
       (some (er23 x, true, 0, 0, 0, 0, 0, 0, 0, 0, 0, 0, false, false, [], 0, 0, [], 0, false, 0, [], [], [], 0, x.1, x.2.1, x.2.2.1, x.2.2.2.1, pr4 x, pr5 x, pr6 x, pr7 x, pr8 x, pr9 x, pr10 x, pr11 x, pr12 x, pr13 x, pr14 x, pr15 x, pr16 x, pr17 x, pr18 x, pr19 x, pr20 x, pr21 x, pr22 x))
       (bindO (F54 K (er23 x, 0, 500)) fun v1 =>
       some (er23 x, !v1, 0, 0, 0, 0, 0, 0, 0, 0, 0, 0, false, false, [], 0, 0, [], 0, false, 0, [], [], [], 0, x.1, x.2.1, x.2.2.1, x.2.2.2.1, pr4 x, pr5 x, pr6 x, pr7 x, pr8 x, pr9 x, pr10 x, pr11 x, pr12 x, pr13 x, pr14 x, pr15 x, pr16 x, pr17 x, pr18 x, pr19 x, pr20 x, pr21 x, pr22 x))) fun v2 =>
    branch v2.2.1
     (some (.inl (0, 0, 0, 0, 0, 0, 0, 0, 0, 0, false, false, [], 0, 0, [], 0, false, 0, [], [], 0, 3, 0, [])))
     (some (.inr (v2.1, v2.2.2)))) fun v3 =>
  csO v3
   (fun v4 => some v4)
   (fun v5 => bindO (F55n K (pr24 v5, (q24 v5).2.1, (q24 v5).2.2.1, (q24 v5).2.2.2.1, pr4 (q24 v5), pr5 (q24 v5), pr6 (q24 v5), pr7 (q24 v5), pr8 (q24 v5), pr9 (q24 v5), pr10 (q24 v5), pr11 (q24 v5), pr12 (q24 v5), pr13 (q24 v5), pr14 (q24 v5), pr15 (q24 v5), pr16 (q24 v5), pr17 (q24 v5), pr18 (q24 v5), pr19 (q24 v5), pr20 (q24 v5), pr21 (q24 v5), er22 (q24 v5), v5.1)) fun v6 =>
   some v6)
def ct18 (K : Nat) : Ct := ⟨[.agg mL, .l i6], [], [.agg [i6, i6, i6, i6, i6, i6, i6, i6, i6, i6, (.v .b), (.v .b), (.v .s), i6, i6, (.v .s), i6, (.v .b), i6, (.v .s), (.v .s), (.all 0), i6], .l i6, .l i6], [⟨1, true, .row (.i .i64)⟩], [], F18 K⟩
theorem c18 (K : Nat) : CtOk prog 18 (ct18 K) :=
  cmk (K := K) (an := (sN (.seqJ [(1000000, ⟨(ru 1 (.l i6 :: .l (.ptr 3000 0 0) :: ru 1 (.l (.ptr 5000 0 0) :: ru 17 []))), [(5000, ⟨23, false, .mix (some 30) [mN]⟩), (3000, ⟨23, false, .mix (some 30) [mN]⟩)]⟩)] true (.seqJ [(1000000, ⟨(ru 1 (.l i6 :: .l (.ptr 3000 0 0) :: ru 1 (.l (.ptr 5000 0 0) :: ru 9 (.l (.v .b) :: ru 7 [])))), [(5000, ⟨23, false, .mix (some 30) [mN]⟩), (3000, ⟨23, false, .mix (some 30) [mN]⟩)]⟩)] false .no (.cond (.seq (.reg [] [(2, .vcell 5000 21 9900 1 (.i .i64))]) .no) .no)) .no))) func18 (kX (c54 K) (kX (c32 K) (kX (c56 K) (kX (c55n K) kN))))
def F93 (K : Nat) (x : MM) : Option (Int × Int) :=
  branch (decide (x.2.2.2.2.2.2.2.2.2.1 < 256))
   (some (0, x.2.2.2.2.2.2.2.2.2.1))
   (branch (decide (x.2.2.2.2.2.2.2.2.2.1 < 512))
    (bindO (F130 K (x.2.2.2.2.2.2.2.2.2.2.2.2.1, x.2.2.2.2.2.2.2.2.2.2.2.2.2.1, x.2.2.2.2.2.2.2.2.2.2.2.2.2.2.1, x.2.2.2.2.2.2.2.2.2.2.2.2.2.2.2.1, x.2.2.2.2.2.2.2.2.2.2.2.2.2.2.2.2.1, x.2.2.2.2.2.2.2.2.2.2.2.2.2.2.2.2.2.1, x.2.2.2.2.2.2.2.2.2.2.2.2.2.2.2.2.2.2.1)) fun v0 =>
    some (v0, x.2.2.2.2.2.2.2.2.2.1))
    (some ((-1), x.2.2.2.2.2.2.2.2.2.1)))
def ct93 (K : Nat) : Ct := ⟨[.agg mL], [], [.agg [i6, i6]], [], [], F93 K⟩
theorem c93 (K : Nat) : CtOk prog 93 (ct93 K) :=
  cmk (K := K) (an := (sN (sN (.seq (.blk (sN (.cond .no (sN .no)))) .no)))) func93 (kX (c130 K) kN)
def F129_b0 (K : Nat) (x : (List (Int × Int)) × Int × Int × Int × Int) : Option (((List (Int × Int)) × Int × Int × Int × Int) ⊕ (Int ⊕ Unit)) :=
  branch (decide (x.2.2.1 < x.2.1))
   (nth x.1 x.2.2.1 fun v0 =>
   branch ((decide (x.2.2.2.1 = v0.1)) && (decide (x.2.2.2.2 = v0.2)))
    (some (.inr (.inl x.2.2.1)))
    (some (.inl (x.1, x.2.1, w64 (x.2.2.1 + 1), x.2.2.2))))
   (some (.inr (.inr ())))
def F129 (K : Nat) (x : (List (Int × Int)) × Int × Int) : Option (Int) :=
  bindO (iter K (F129_b0 K) (x.1, (x.1.length : Int), 0, x.2)) fun v0 =>
  csO v0
   (fun v1 => some v1)
   (fun v2 => some (-1))
def ct129 (K : Nat) : Ct := ⟨[.l (.v (.l (.c (.i .i64) (.i .i64)))), .agg [i6, i6]], [], [.l i6], [], [], F129 K⟩
theorem c129 (K : Nat) : CtOk prog 129 (ct129 K) :=
  cmk (K := K) (an := (sN (.seq (sN (.blk (.loop [] ⟨(.l (.v (.l (.c (.i .i64) (.i .i64)))) :: ru 2 (.l (.ptr 4000 0 0) :: ru 3 (.l i6 :: .l i6 :: ru 10 []))), [(4000, ⟨2, false, .mix (some 62) [[.l i6, .l i6]]⟩)]⟩ [(0, ⟨(ru 19 []), []⟩)] true (sN (sN (.seq (.blk (sN (sN (.cond .no .no)))) .no)))))) .no))) func129 kN
def F92 (K : Nat) (x : (List (Int × Int)) × Int × Int) : Option (Bool) :=
  bindO (F129 K x) fun v0 =>
  some (decide (0 ≤ v0))
def ct92 (K : Nat) : Ct := ⟨[.l (.v (.l (.c (.i .i64) (.i .i64)))), .agg [i6, i6]], [], [.l (.v .b)], [], [], F92 K⟩
theorem c92 (K : Nat) : CtOk prog 92 (ct92 K) :=
  cmk (K := K) (an := (sN .no)) func92 (kX (c129 K) kN)
def F91 (K : Nat) (x : Int × Int × Int × Int × Int × Int × Int × Int × Int × Int × Bool × Bool × (List UInt8) × Int × Int × (List UInt8) × Int × Bool × Int × (List UInt8) × (List UInt8) × (List Int) × Int × List (Int × Int)) : Option (Bool × List (Int × Int)) :=
  bindO (F93 K (x.1, x.2.1, x.2.2.1, x.2.2.2.1, x.2.2.2.2.1, x.2.2.2.2.2.1, x.2.2.2.2.2.2.1, x.2.2.2.2.2.2.2.1, x.2.2.2.2.2.2.2.2.1, x.2.2.2.2.2.2.2.2.2.1, x.2.2.2.2.2.2.2.2.2.2.1, x.2.2.2.2.2.2.2.2.2.2.2.1, x.2.2.2.2.2.2.2.2.2.2.2.2.1, x.2.2.2.2.2.2.2.2.2.2.2.2.2.1, x.2.2.2.2.2.2.2.2.2.2.2.2.2.2.1, x.2.2.2.2.2.2.2.2.2.2.2.2.2.2.2.1, x.2.2.2.2.2.2.2.2.2.2.2.2.2.2.2.2.1, x.2.2.2.2.2.2.2.2.2.2.2.2.2.2.2.2.2.1, x.2.2.2.2.2.2.2.2.2.2.2.2.2.2.2.2.2.2.1, x.2.2.2.2.2.2.2.2.2.2.2.2.2.2.2.2.2.2.2.1, x.2.2.2.2.2.2.2.2.2.2.2.2.2.2.2.2.2.2.2.2.1, x.2.2.2.2.2.2.2.2.2.2.2.2.2.2.2.2.2.2.2.2.2.1, x.2.2.2.2.2.2.2.2.2.2.2.2.2.2.2.2.2.2.2.2.2.2.1)) fun v0 =>
  bindO (F92 K (x.2.2.2.2.2.2.2.2.2.2.2.2.2.2.2.2.2.2.2.2.2.2.2, v0)) fun v1 =>
  some (v1, x.2.2.2.2.2.2.2.2.2.2.2.2.2.2.2.2.2.2.2.2.2.2.2)
def ct91 (K : Nat) : Ct := ⟨[.agg mL, .l (.ptr 0 0 0)], [⟨1, false, .mix (some 57) [[.l (.v (.l (.c (.i .i64) (.i .i64))))]]⟩], [.l (.v .b)], [⟨1, false, .mix (some 57) [[.l (.v (.l (.c (.i .i64) (.i .i64))))]]⟩], [], F91 K⟩
theorem c91 (K : Nat) : CtOk prog 91 (ct91 K) :=
  cmk (K := K) (an := (sN .no)) func91 (kX (c93 K) (kX (c92 K) kN))
def F55s_b0 (K : Nat) (x : Int × Int × Int × Int × Int × Int × Int × Int × Int × Int × Int × Int × Int × Bool × Bool × (List UInt8) × Int × Int × (List UInt8) × Int × Bool × Int × (List UInt8) × (List UInt8) × (List Int) × Int × Int × Int × Int × Int × Int × Int × Int × Int × Int × Int × Bool × Bool × (List UInt8) × Int × Int × (List UInt8) × Int × Bool × Int × (List UInt8) × (List UInt8) × (List Int) × Int × List (Int × Int)) : Option ((Int × Int × Int × Int × Int × Int × Int × Int × Int × Int × Int × Int × Int × Bool × Bool × (List UInt8) × Int × Int × (List UInt8) × Int × Bool × Int × (List UInt8) × (List UInt8) × (List Int) × Int × Int × Int × Int × Int × Int × Int × Int × Int × Int × Int × Bool × Bool × (List UInt8) × Int × Int × (List UInt8) × Int × Bool × Int × (List UInt8) × (List UInt8) × (List Int) × Int × List (Int × Int)) ⊕ (Int × Int × Int × Int × Int × Int × Int × Int × Int × Int × Int × Int × Bool × Bool × (List UInt8) × Int × Int × (List UInt8) × Int × Bool × Int × (List UInt8) × (List UInt8) × (List Int) × Int × Int × Int × Int × Int × Int × Int × Int × Int × Int × Int × Bool × Bool × (List UInt8) × Int × Int × (List UInt8) × Int × Bool × Int × (List UInt8) × (List UInt8) × (List Int) × Int × List (Int × Int))) :=
  branch (decide (x.2.2.1 < x.1))
   (bindO (F60 K ((q24 x).2.2.1, (q24 x).2.2.2.1, pr4 (q24 x), pr5 (q24 x), pr6 (q24 x), pr7 (q24 x), pr8 (q24 x), pr9 (q24 x), pr10 (q24 x), pr11 (q24 x), pr12 (q24 x), pr13 (q24 x), pr14 (q24 x), pr15 (q24 x), pr16 (q24 x), pr17 (q24 x), pr18 (q24 x), pr19 (q24 x), pr20 (q24 x), pr21 (q24 x), pr22 (q24 x), pr23 (q24 x), pr24 (q24 x))) fun v0 =>
   branch (!(decide ((er23 v0) = 0)))
    (some (.inr (er23 v0, x.2.2)))
    (bindO (F91 K (v0.1, v0.2.1, v0.2.2.1, v0.2.2.2.1, pr4 v0, pr5 v0, pr6 v0, pr7 v0, pr8 v0, pr9 v0, pr10 v0, pr11 v0, pr12 v0, pr13 v0, pr14 v0, pr15 v0, pr16 v0, pr17 v0, pr18 v0, pr19 v0, pr20 v0, pr21 v0, pr22 v0, (q24 (q24 x)).2)) fun v1 =>
    branch v1.1
     (some (.inr (er23 v0, w64 (x.2.2.1 + 1), x.2.2.2.1, pr4 x, pr5 x, pr6 x, pr7 x, pr8 x, pr9 x, pr10 x, pr11 x, pr12 x, pr13 x, pr14 x, pr15 x, pr16 x, pr17 x, pr18 x, pr19 x, pr20 x, pr21 x, pr22 x, pr23 x, pr24 x, (q24 x).2.1, v0.1, v0.2.1, v0.2.2.1, v0.2.2.2.1, pr4 v0, pr5 v0, pr6 v0, pr7 v0, pr8 v0, pr9 v0, pr10 v0, pr11 v0, pr12 v0, pr13 v0, pr14 v0, pr15 v0, pr16 v0, pr17 v0, pr18 v0, pr19 v0, pr20 v0, pr21 v0, pr22 v0, v1.2)))
     (some (.inl (x.1, er23 v0, w64 (x.2.2.1 + 1), x.2.2.2.1, pr4 x, pr5 x, pr6 x, pr7 x, pr8 x, pr9 x, pr10 x, pr11 x, pr12 x, pr13 x, pr14 x, pr15 x, pr16 x, pr17 x, pr18 x, pr19 x, pr20 x, pr21 x, pr22 x, pr23 x, pr24 x, (q24 x).2.1, v0.1, v0.2.1, v0.2.2.1, v0.2.2.2.1, pr4 v0, pr5 v0, pr6 v0, pr7 v0, pr8 v0, pr9 v0, pr10 v0, pr11 v0, pr12 v0, pr13 v0, pr14 v0, pr15 v0, pr16 v0, pr17 v0, pr18 v0, pr19 v0, pr20 v0, pr21 v0, pr22 v0, v1.2)))))
   (some (.inr x.2))
def F55s (K : Nat) (x : Int × Int × Int × Int × Int × Int × Int × Int × Int × Int × Bool × Bool × (List UInt8) × Int × Int × (List UInt8) × Int × Bool × Int × (List UInt8) × (List UInt8) × (List Int) × Int × Int × List (Int × Int)) : Option (Int × Int × Int × Int × Int × Int × Int × Int × Int × Int × Bool × Bool × (List UInt8) × Int × Int × (List UInt8) × Int × Bool × Int × (List UInt8) × (List UInt8) × Int × Int × Int × (List (Int × Int)) × List Int) :=
  bindO (iter K (F55s_b0 K) (pr23 x, 0, 0, 0, 0, 0, 0, 0, 0, 0, 0, 0, 0, false, false, [], 0, 0, [], 0, false, 0, [], [], [], 0, x.1, x.2.1, x.2.2.1, x.2.2.2.1, pr4 x, pr5 x, pr6 x, pr7 x, pr8 x, pr9 x, pr10 x, pr11 x, pr12 x, pr13 x, pr14 x, pr15 x, pr16 x, pr17 x, pr18 x, pr19 x, pr20 x, pr21 x, pr22 x, er24 x)) fun v0 =>
  bindO (F61o K ((q24 v0).2.1, (q24 v0).2.2.1, (q24 v0).2.2.2.1, pr4 (q24 v0), pr5 (q24 v0), pr6 (q24 v0), pr7 (q24 v0), pr8 (q24 v0), pr9 (q24 v0), pr10 (q24 v0), pr11 (q24 v0), pr12 (q24 v0), pr13 (q24 v0), pr14 (q24 v0), pr15 (q24 v0), pr16 (q24 v0), pr17 (q24 v0), pr18 (q24 v0), pr19 (q24 v0), pr20 (q24 v0), pr21 (q24 v0), pr22 (q24 v0), pr23 (q24 v0))) fun v1 =>
  some (v1.1, v1.2.1, v1.2.2.1, v1.2.2.2.1, pr4 v1, pr5 v1, pr6 v1, pr7 v1, pr8 v1, pr9 v1, pr10 v1, pr11 v1, pr12 v1, pr13 v1, pr14 v1, pr15 v1, pr16 v1, pr17 v1, pr18 v1, pr19 v1, pr20 v1, pr21 v1, v0.1, v0.2.1, er24 (q24 v0), er22 v1)
def ct55s (K : Nat) : Ct := ⟨[.agg mL, .l i6, .clo 91 [(.ptr 0 0 0)]], [⟨1, false, .mix (some 57) [[.l (.v (.l (.c (.i .i64) (.i .i64))))]]⟩], [.agg [i6, i6, i6, i6, i6, i6, i6, i6, i6, i6, (.v .b), (.v .b), (.v .s), i6, i6, (.v .s), i6, (.v .b), i6, (.v .s), (.v .s), (.all 1), i6], .l i6, .l i6], [⟨1, false, .mix (some 57) [[.l (.v (.l (.c (.i .i64) (.i .i64))))]]⟩, ⟨1, true, .row (.i .i64)⟩], [], F55s K⟩
theorem c55s (K : Nat) : CtOk prog 55 (ct55s K) :=
  cmk (K := K) (an := (sN (sN (.seq (.blk (.loop [] ⟨(ru 1 (.l i6 :: .clo 91 [(.ptr 0 0 0)] :: .l (.ptr 4000 0 0) :: ru 2 (.l (.ptr 7000 0 0) :: ru 2 (.l i6 :: .l i6 :: ru 23 [])))), [(7000, ⟨23, false, .mix (some 30) [mN]⟩), (4000, ⟨23, false, .mix (some 30) [mN]⟩), (0, ⟨1, false, .mix (some 57) [[.l (.v (.l (.c (.i .i64) (.i .i64))))]]⟩)]⟩ [(0, ⟨(ru 3 (.l (.ptr 4000 0 0) :: ru 2 (.l (.ptr 7000 0 0) :: ru 2 (.l i6 :: .l i6 :: ru 23 [])))), [(7000, ⟨23, false, .mix (some 30) [mN]⟩), (4000, ⟨23, false, .mix (some 30) [mN]⟩), (0, ⟨1, false, .mix (some 57) [[.l (.v (.l (.c (.i .i64) (.i .i64))))]]⟩)]⟩)] false (.seq (sN .no) (.blk (sN (.seq (sN (sN .no)) (sN (sN (sN .no))))))))) .no)))) func55 (kX (c60 K) (kX (c61o K) (kX (c91 K) kN)))
def F37 (K : Nat) (x : Int × Int × Int × Int × Int × Int × Int × Int × Int × Int × Bool × Bool × (List UInt8) × Int × Int × (List UInt8) × Int × Bool × Int × (List UInt8) × (List UInt8) × (List Int) × Int × (List (Int × Int)) × Int) : Option (Int × Int × Int × Int × Int × Int × Int × Int × Int × Int × Bool × Bool × (List UInt8) × Int × Int × (List UInt8) × Int × Bool × Int × (List UInt8) × (List UInt8) × Int × Int × Int × List Int) :=
  bindO (α := (Int × Int × Int × Int × Int × Int × Int × Int × Int × Int × Bool × Bool × (List UInt8) × Int × Int × (List UInt8) × Int × Bool × Int × (List UInt8) × (List UInt8) × Int × Int × Int × List Int) ⊕ (Int × Int × Int × Int × Int × Int × Int × Int × Int × Int × Int × Bool × Bool × (List UInt8) × Int × Int × (List UInt8) × Int × Bool × Int × (List UInt8) × (List UInt8) × (List Int) × Int × (List (Int × Int)) × MM)) (bindO (α := Int × Bool × Int × Int × Int × Int × Int × Int × Int × Int × Int × Int × Bool × Bool × (List UInt8) × Int × Int × (List UInt8) × Int × Bool × Int × (List UInt8) × (List UInt8) × (List Int) × Int × (List (Int × Int)) × MM) (bindO (F32 K (x.1, x.2.1, x.2.2.1, x.2.2.2.1, pr4 x, pr5 x, pr6 x, pr7 x, pr8 x, pr9 x, pr10 x, pr11 x, pr12 x, pr13 x, pr14 x, pr15 x, pr16 x, pr17 x, pr18 x, pr19 x, pr20 x, pr21 x, pr22 x)) fun v0 =>
      branch (!v0)
       (some (er24 x, true, 0, 0, 0, 0, 0, 0, 0, 0, 0, 0, false, false, [], 0, 0, [], 0, false, 0, [], [], [], 0, pr23 x, x.1, x.2.1, x.2.2.1, x.2.2.2.1, pr4 x, pr5 x, pr6 x, pr7 x, pr8 x, pr9 x, pr10 x, pr11 x, pr12 x, pr13 x, pr14 x, pr15 x, pr16 x, pr17 x, pr18 x, pr19 x, pr20 x, pr21 x, pr22 x))
       (bindO (F54 K (er24 x, 0, 500)) fun v1 =>
       branch (!v1)
        (some (er24 x, true, 0, 0, 0, 0, 0, 0, 0, 0, 0, 0, false, false, [], 0, 0, [], 0, false, 0, [], [], [], 0, pr23 x, x.1, x.2.1, x.2.2.1, x.2.2.2.1, pr4 x, pr5 x, pr6 x, pr7 x, pr8 x, pr9 x, pr10 x, pr11 x, pr12 x, pr13 x, pr14 x, pr15 x, pr16 x, pr17 x, pr18 x, pr19 x, pr20 x, pr21 x, pr22 x))
        (some (er24 x, decide (20 < ((pr23 x).length : Int)), 0, 0, 0, 0, 0, 0, 0, 0, 0, 0, false, false, [], 0, 0, [], 0, false, 0, [], [], [], 0, pr23 x, x.1, x.2.1, x.2.2.1, x.2.2.2.1, pr4 x, pr5 x, pr6 x, pr7 x, pr8 x, pr9 x, pr10 x, pr11 x, pr12 x, pr13 x, pr14 x, pr15 x, pr16 x, pr17 x, pr18 x, pr19 x, pr20 x, pr21 x, pr22 x)))) fun v2 =>
    branch v2.2.1
     (some (.inl (0, 0, 0, 0, 0, 0, 0, 0, 0, 0, false, false, [], 0, 0, [], 0, false, 0, [], [], 0, 3, 0, [])))
     (some (.inr (v2.1, v2.2.2)))) fun v3 =>
  csO v3
   (fun v4 => some v4)
   (fun v5 => bindO (F55s K ((q24 v5).2.1, (q24 v5).2.2.1, (q24 v5).2.2.2.1, pr4 (q24 v5), pr5 (q24 v5), pr6 (q24 v5), pr7 (q24 v5), pr8 (q24 v5), pr9 (q24 v5), pr10 (q24 v5), pr11 (q24 v5), pr12 (q24 v5), pr13 (q24 v5), pr14 (q24 v5), pr15 (q24 v5), pr16 (q24 v5), pr17 (q24 v5), pr18 (q24 v5), pr19 (q24 v5), pr20 (q24 v5), pr21 (q24 v5), pr22 (q24 v5), er23 (q24 v5), v5.1, pr24 v5)) fun v6 =>
   some (v6.1, v6.2.1, v6.2.2.1, v6.2.2.2.1, pr4 v6, pr5 v6, pr6 v6, pr7 v6, pr8 v6, pr9 v6, pr10 v6, pr11 v6, pr12 v6, pr13 v6, pr14 v6, pr15 v6, pr16 v6, pr17 v6, pr18 v6, pr19 v6, pr20 v6, pr21 v6, pr22 v6, pr23 v6, (q24 v6).2))
def ct37 (K : Nat) : Ct := ⟨[.agg mL, .l (.v (.l (.c (.i .i64) (.i .i64)))), .l i6], [], [.agg [i6, i6, i6, i6, i6, i6, i6, i6, i6, i6, (.v .b), (.v .b), (.v .s), i6, i6, (.v .s), i6, (.v .b), i6, (.v .s), (.v .s), (.all 0), i6], .l i6, .l i6], [⟨1, true, .row (.i .i64)⟩], [], F37 K⟩
theorem c37 (K : Nat) : CtOk prog 37 (ct37 K) :=
  cmk (K := K) (an := (sN (.seqJ [(1000000, ⟨(ru 2 (.l i6 :: .l (.ptr 4000 0 0) :: .l (.ptr 5000 0 0) :: ru 1 (.l (.ptr 7000 0 0) :: ru 23 []))), [(7000, ⟨23, false, .mix (some 30) [mN]⟩), (5000, ⟨1, false, .mix (some 57) [[.l (.v (.l (.c (.i .i64) (.i .i64))))]]⟩), (4000, ⟨23, false, .mix (some 30) [mN]⟩)]⟩)] true (.seqJ [(1000000, ⟨(ru 2 (.l i6 :: .l (.ptr 4000 0 0) :: .l (.ptr 5000 0 0) :: ru 1 (.l (.ptr 7000 0 0) :: ru 14 (.l (.v .b) :: ru 8 [])))), [(7000, ⟨23, false, .mix (some 30) [mN]⟩), (5000, ⟨1, false, .mix (some 57) [[.l (.v (.l (.c (.i .i64) (.i .i64))))]]⟩), (4000, ⟨23, false, .mix (some 30) [mN]⟩)]⟩)] false .no (.cond (.seq (.reg [] [(2, .vcell 7000 21 9900 1 (.i .i64))]) .no) .no)) .no))) func37 (kX (c54 K) (kX (c32 K) (kX (c55n K) (kX (c91 K) (kX (c55s K) kN)))))
def F39 (K : Nat) (x : MM) : Option (Int × Int) :=
  bindO (F32 K x) fun v0 =>
  branch (!v0)
   (some ((-1), (-1)))
   (bindO (F93 K x) fun v1 =>
   some v1)
def ct39 (K : Nat) : Ct := ⟨[.agg mL], [], [.agg [i6, i6]], [], [], F39 K⟩
theorem c39 (K : Nat) : CtOk prog 39 (ct39 K) :=
  cmk (K := K) (an := (sN (.seq (sN (.cond .no .no)) .no))) func39 (kX (c32 K) (kX (c93 K) kN))
def F77_b0 (K : Nat) (x : (List Int) × (List Int) × Int) : Option (((List Int) × (List Int) × Int) ⊕ (Bool ⊕ Unit)) :=
  branch (decide (x.2.2 < (x.1.length : Int)))
   (nth x.1 x.2.2 fun v0 =>
   nth x.2.1 x.2.2 fun v1 =>
   branch (!(decide (v0 = v1)))
    (some (.inr (.inl false)))
    (some (.inl (x.1, x.2.1, w64 (x.2.2 + 1)))))
   (some (.inr (.inr ())))
def F77 (K : Nat) (x : (List Int) × List Int) : Option (Bool) :=
  branch (!(decide ((x.1.length : Int) = (x.2.length : Int))))
   (some false)
   (bindO (iter K (F77_b0 K) (x.1, x.2, 0)) fun v0 =>
   csO v0
    (fun v1 => some v1)
    (fun v2 => some true))
def ct77 (K : Nat) : Ct := ⟨[.l (.v (.l (.i .i64))), .l (.v (.l (.i .i64)))], [], [.l (.v .b)], [], [], F77 K⟩
def T49 : Ty := (.c (.c (.i .i64) (.c (.i .i64) (.c (.i .i64) (.c (.i .i64) (.c (.i .i64) (.c (.i .i64) (.c (.i .i64) (.c (.i .i64) (.c (.i .i64) (.c (.i .i64) (.c .b .b))))))))))) (.c (.c .s (.c (.i .i64) (.c (.i .i64) (.c .s (.c (.i .i64) (.c .b (.i .i64))))))) (.c .s (.c .s (.c (.l (.i .i64)) (.i .i64))))))
def T2 : Ty := (.i .i64)
end Go.U.Tryz
