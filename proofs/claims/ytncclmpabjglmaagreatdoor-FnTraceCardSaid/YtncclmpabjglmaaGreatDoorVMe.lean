/- A part of the proof. No condition. -/
import Derived.Test.YtncclmpabjglmaaGreatDoorVMs
set_option linter.unusedVariables false
set_option linter.unusedSimpArgs false
set_option linter.unusedSectionVars false
namespace Go.U.Tryz
open Go Go.U Go.Proofs Go.Proofs.Tryz
set_option maxRecDepth 100000
def F61o (K : Nat) (x : MM) : Option (Int × Int × Int × Int × Int × Int × Int × Int × Int × Int × Bool × Bool × (List UInt8) × Int × Int × (List UInt8) × Int × Bool × Int × (List UInt8) × (List UInt8) × Int × List Int) :=
  bindO (F111 K (pr21 x)) fun v0 =>
  some (x.1, x.2.1, x.2.2.1, x.2.2.2.1, pr4 x, pr5 x, pr6 x, pr7 x, pr8 x, pr9 x, pr10 x, pr11 x, pr12 x, pr13 x, pr14 x, pr15 x, pr16 x, pr17 x, pr18 x, pr19 x, pr20 x, er22 x, v0)
def ct61o (K : Nat) : Ct := ⟨[.agg mL], [], [.agg [i6, i6, i6, i6, i6, i6, i6, i6, i6, i6, (.v .b), (.v .b), (.v .s), i6, i6, (.v .s), i6, (.v .b), i6, (.v .s), (.v .s), (.all 0), i6]], [⟨1, true, .row (.i .i64)⟩], [], F61o K⟩
theorem c61o (K : Nat) : CtOk prog 61 (ct61o K) :=
  cmk (K := K) (an := (sN (sN .no))) func61 (kX (c111 K) kN)
def F56 (K : Nat) (x : MM) : Option (Bool) :=
  some false
def ct56 (K : Nat) : Ct := ⟨[.agg mL], [], [.l (.v .b)], [], [], F56 K⟩
theorem c56 (K : Nat) : CtOk prog 56 (ct56 K) :=
  cmk (K := K) (an := (sN .no)) func56 kN
def F55n_b0 (K : Nat) (x : Int × Int × Int × MC MM) : Option ((Int × Int × Int × MC MM) ⊕ (Int × Int × MC MM)) :=
  branch (decide (x.2.2.1 < x.1))
   (bindO (F60 K (q24 x).2.2) fun v0 =>
   branch (!(decide ((er23 v0) = 0)))
    (some (.inr (er23 v0, x.2.2)))
    (bindO (F56 K (v0.1, v0.2.1, v0.2.2.1, v0.2.2.2.1, pr4 v0, pr5 v0, pr6 v0, pr7 v0, pr8 v0, pr9 v0, pr10 v0, pr11 v0, pr12 v0, pr13 v0, pr14 v0, pr15 v0, pr16 v0, pr17 v0, pr18 v0, pr19 v0, pr20 v0, pr21 v0, pr22 v0)) fun v1 =>
    branch v1
     (some (.inr (er23 v0, w64 (x.2.2.1 + 1), x.2.2.2.1, pr4 x, pr5 x, pr6 x, pr7 x, pr8 x, pr9 x, pr10 x, pr11 x, pr12 x, pr13 x, pr14 x, pr15 x, pr16 x, pr17 x, pr18 x, pr19 x, pr20 x, pr21 x, pr22 x, pr23 x, pr24 x, (q24 x).2.1, v0.1, v0.2.1, v0.2.2.1, v0.2.2.2.1, pr4 v0, pr5 v0, pr6 v0, pr7 v0, pr8 v0, pr9 v0, pr10 v0, pr11 v0, pr12 v0, pr13 v0, pr14 v0, pr15 v0, pr16 v0, pr17 v0, pr18 v0, pr19 v0, pr20 v0, pr21 v0, pr22 v0)))
     (some (.inl (x.1, er23 v0, w64 (x.2.2.1 + 1), x.2.2.2.1, pr4 x, pr5 x, pr6 x, pr7 x, pr8 x, pr9 x, pr10 x, pr11 x, pr12 x, pr13 x, pr14 x, pr15 x, pr16 x, pr17 x, pr18 x, pr19 x, pr20 x, pr21 x, pr22 x, pr23 x, pr24 x, (q24 x).2.1, v0.1, v0.2.1, v0.2.2.1, v0.2.2.2.1, pr4 v0, pr5 v0, pr6 v0, pr7 v0, pr8 v0, pr9 v0, pr10 v0, pr11 v0, pr12 v0, pr13 v0, pr14 v0, pr15 v0, pr16 v0, pr17 v0, pr18 v0, pr19 v0, pr20 v0, pr21 v0, pr22 v0)))))
   (some (.inr x.2))
def F55n (K : Nat) (x : MC (Int)) : Option (Int × Int × Int × Int × Int × Int × Int × Int × Int × Int × Bool × Bool × (List UInt8) × Int × Int × (List UInt8) × Int × Bool × Int × (List UInt8) × (List UInt8) × Int × Int × Int × List Int) :=
  bindO (iter K (F55n_b0 K) (er23 x, 0, 0, 0, 0, 0, 0, 0, 0, 0, 0, 0, 0, false, false, [], 0, 0, [], 0, false, 0, [], [], [], 0, x.1, x.2.1, x.2.2.1, x.2.2.2.1, pr4 x, pr5 x, pr6 x, pr7 x, pr8 x, pr9 x, pr10 x, pr11 x, pr12 x, pr13 x, pr14 x, pr15 x, pr16 x, pr17 x, pr18 x, pr19 x, pr20 x, pr21 x, pr22 x)) fun v0 =>
  bindO (F61o K (q24 v0).2) fun v1 =>
  some (v1.1, v1.2.1, v1.2.2.1, v1.2.2.2.1, pr4 v1, pr5 v1, pr6 v1, pr7 v1, pr8 v1, pr9 v1, pr10 v1, pr11 v1, pr12 v1, pr13 v1, pr14 v1, pr15 v1, pr16 v1, pr17 v1, pr18 v1, pr19 v1, pr20 v1, pr21 v1, v0.1, v0.2.1, er22 v1)
def ct55n (K : Nat) : Ct := ⟨[.agg mL, .l i6, .clo 56 []], [], [.agg [i6, i6, i6, i6, i6, i6, i6, i6, i6, i6, (.v .b), (.v .b), (.v .s), i6, i6, (.v .s), i6, (.v .b), i6, (.v .s), (.v .s), (.all 0), i6], .l i6, .l i6], [⟨1, true, .row (.i .i64)⟩], [], F55n K⟩
theorem c55n (K : Nat) : CtOk prog 55 (ct55n K) :=
  cmk (K := K) (an := (sN (sN (.seq (.blk (.loop [] ⟨(ru 1 (.l i6 :: .clo 56 [] :: .l (.ptr 4000 0 0) :: ru 2 (.l (.ptr 7000 0 0) :: ru 2 (.l i6 :: .l i6 :: ru 23 [])))), [(7000, ⟨23, false, .mix (some 30) [mN]⟩), (4000, ⟨23, false, .mix (some 30) [mN]⟩)]⟩ [(0, ⟨(ru 3 (.l (.ptr 4000 0 0) :: ru 2 (.l (.ptr 7000 0 0) :: ru 2 (.l i6 :: .l i6 :: ru 23 [])))), [(7000, ⟨23, false, .mix (some 30) [mN]⟩), (4000, ⟨23, false, .mix (some 30) [mN]⟩)]⟩)] false (.seq (sN .no) (.blk (sN (.seq (sN (sN .no)) (sN (sN (sN .no))))))))) .no)))) func55 (kX (c60 K) (kX (c61o K) (kX (c56 K) kN)))
def F18 (K : Nat) (x : MC (Int)) : Option (Int × Int × Int × Int × Int × Int × Int × Int × Int × Int × Bool × Bool × (List UInt8) × Int × Int × (List UInt8) × Int × Bool × Int × (List UInt8) × (List UInt8) × Int × Int × Int × List Int) :=
  bindO (α := (Int × Int × Int × Int × Int × Int × Int × Int × Int × Int × Bool × Bool × (List UInt8) × Int × Int × (List UInt8) × Int × Bool × Int × (List UInt8) × (List UInt8) × Int × Int × Int × List Int) ⊕ (Int × MC MM)) (bindO (α := Int × Bool × MC MM) (bindO (F32 K (x.1, x.2.1, x.2.2.1, x.2.2.2.1, pr4 x, pr5 x, pr6 x, pr7 x, pr8 x, pr9 x, pr10 x, pr11 x, pr12 x, pr13 x, pr14 x, pr15 x, pr16 x, pr17 x, pr18 x, pr19 x, pr20 x, pr21 x, pr22 x)) fun v0 =>
      branch (!v0)
       (some (er23 x, true, 0, 0, 0, 0, 0, 0, 0, 0, 0, 0, false, false, [], 0, 0, [], 0, false, 0, [], [], [], 0, x.1, x.2.1, x.2.2.1, x.2.2.2.1, pr4 x, pr5 x, pr6 x, pr7 x, pr8 x, pr9 x, pr10 x, pr11 x, pr12 x, pr13 x, pr14 x, pr15 x, pr16 x, pr17 x, pr18 x, pr19 x, pr20 x, pr21 x, pr22 x))
       (bindO (F54 K (er23 x, 0, 500)) fun v1 =>
       some (er23 x, !v1, 0, 0, 0, 0, 0, 0, 0, 0, 0, 0, false, false, [], 0, 0, [], 0, false, 0, [], [], [], 0, x.1, x.2.1, x.2.2.1, x.2.2.2.1, pr4 x, pr5 x, pr6 x, pr7 x, pr8 x, pr9 x, pr10 x, pr11 x, pr12 x, pr13 x, pr14 x, pr15 x, pr16 x, pr17 x, pr18 x, pr19 x, pr20 x, pr21 x, pr22 x))) fun v2 =>
    branch v2.2.1
     (some (.inl (0, 0, 0, 0, 0, 0, 0, 0, 0, 0, false, false, [], 0, 0, [], 0, false, 0, [], [], 0, 3, 0, [])))
     (some (.inr (v2.1, v2.2.2)))) fun v3 =>
  csO v3
   (fun v4 => some v4)
   (fun v5 => bindO (F55n K (pr24 v5, (q24 v5).2.1, (q24 v5).2.2.1, (q24 v5).2.2.2.1, pr4 (q24 v5), pr5 (q24 v5), pr6 (q24 v5), pr7 (q24 v5), pr8 (q24 v5), pr9 (q24 v5), pr10 (q24 v5), pr11 (q24 v5), pr12 (q24 v5), pr13 (q24 v5), pr14 (q24 v5), pr15 (q24 v5), pr16 (q24 v5), pr17 (q24 v5), pr18 (q24 v5), pr19 (q24 v5), pr20 (q24 v5), pr21 (q24 v5), er22 (q24 v5), v5.1)) fun v6 =>
   some v6)
def ct18 (K : Nat) : Ct := ⟨[.agg mL, .l i6], [], [.agg [i6, i6, i6, i6, i6, i6, i6, i6, i6, i6, (.v .b), (.v .b), (.v .s), i6, i6, (.v .s), i6, (.v .b), i6, (.v .s), (.v .s), (.all 0), i6], .l i6, .l i6], [⟨1, true, .row (.i .i64)⟩], [], F18 K⟩
theorem c18 (K : Nat) : CtOk prog 18 (ct18 K) :=
  cmk (K := K) (an := (sN (.seqJ [(1000000, ⟨(ru 1 (.l i6 :: .l (.ptr 3000 0 0) :: ru 1 (.l (.ptr 5000 0 0) :: ru 17 []))), [(5000, ⟨23, false, .mix (some 30) [mN]⟩), (3000, ⟨23, false, .mix (some 30) [mN]⟩)]⟩)] true (.seqJ [(1000000, ⟨(ru 1 (.l i6 :: .l (.ptr 3000 0 0) :: ru 1 (.l (.ptr 5000 0 0) :: ru 9 (.l (.v .b) :: ru 7 [])))), [(5000, ⟨23, false, .mix (some 30) [mN]⟩), (3000, ⟨23, false, .mix (some 30) [mN]⟩)]⟩)] false .no (.cond (.seq (.reg [] [(2, .vcell 5000 21 9900 1 (.i .i64))]) .no) .no)) .no))) func18 (kX (c54 K) (kX (c32 K) (kX (c56 K) (kX (c55n K) kN))))
def F93 (K : Nat) (x : MM) : Option (Int × Int) :=
  branch (decide (x.2.2.2.2.2.2.2.2.2.1 < 256))
   (some (0, x.2.2.2.2.2.2.2.2.2.1))
   (branch (decide (x.2.2.2.2.2.2.2.2.2.1 < 512))
    (bindO (F130 K (x.2.2.2.2.2.2.2.2.2.2.2.2.1, x.2.2.2.2.2.2.2.2.2.2.2.2.2.1, x.2.2.2.2.2.2.2.2.2.2.2.2.2.2.1, x.2.2.2.2.2.2.2.2.2.2.2.2.2.2.2.1, x.2.2.2.2.2.2.2.2.2.2.2.2.2.2.2.2.1, x.2.2.2.2.2.2.2.2.2.2.2.2.2.2.2.2.2.1, x.2.2.2.2.2.2.2.2.2.2.2.2.2.2.2.2.2.2.1)) fun v0 =>
    some (v0, x.2.2.2.2.2.2.2.2.2.1))
    (some ((-1), x.2.2.2.2.2.2.2.2.2.1)))
def ct93 (K : Nat) : Ct := ⟨[.agg mL], [], [.agg [i6, i6]], [], [], F93 K⟩
theorem c93 (K : Nat) : CtOk prog 93 (ct93 K) :=
  cmk (K := K) (an := (sN (sN (.seq (.blk (sN (.cond .no (sN .no)))) .no)))) func93 (kX (c130 K) kN)
def T49 : Ty := (.c (.c (.i .i64) (.c (.i .i64) (.c (.i .i64) (.c (.i .i64) (.c (.i .i64) (.c (.i .i64) (.c (.i .i64) (.c (.i .i64) (.c (.i .i64) (.c (.i .i64) (.c .b .b))))))))))) (.c (.c .s (.c (.i .i64) (.c (.i .i64) (.c .s (.c (.i .i64) (.c .b (.i .i64))))))) (.c .s (.c .s (.c (.l (.i .i64)) (.i .i64))))))
def T2 : Ty := (.i .i64)
end Go.U.Tryz
