/- A part of the proof. No condition. -/
import Derived.Test.YtncclmpabjglmaaGreatDoorVMd
set_option linter.unusedVariables false
set_option linter.unusedSimpArgs false
set_option linter.unusedSectionVars false
namespace Go.U.Tryz
open Go Go.U Go.Proofs Go.Proofs.Tryz
set_option maxRecDepth 100000
set_option linter.unusedVariables false
def F6_b0 (K : Nat) (x : (List UInt8) × Int × Int × Int × Int × Int × Int × Int × Int × Int × Int × Int × Bool × Bool × (List UInt8) × Int × Int × (List UInt8) × Int × Bool × Int × (List UInt8) × (List UInt8) × Int × (List Int) × MM) : Option (((List UInt8) × Int × Int × Int × Int × Int × Int × Int × Int × Int × Int × Int × Bool × Bool × (List UInt8) × Int × Int × (List UInt8) × Int × Bool × Int × (List UInt8) × (List UInt8) × Int × (List Int) × MM) ⊕ ((List UInt8) × Int × Int × Int × Int × Int × Int × Int × Int × Int × Int × Bool × Bool × (List UInt8) × Int × Int × (List UInt8) × Int × Bool × Int × (List UInt8) × (List UInt8) × Int × (List Int) × MM)) :=
  branch (decide (x.2.1 < 3))
   (bindO (F24 K ((q24 x).2.1, (q24 x).2.2.1, (q24 x).2.2.2.1, pr4 (q24 x), pr5 (q24 x), pr6 (q24 x), pr7 (q24 x), pr8 (q24 x), pr9 (q24 x), pr10 (q24 x), pr11 (q24 x), pr12 (q24 x), pr13 (q24 x), pr14 (q24 x), pr15 (q24 x), pr16 (q24 x), pr17 (q24 x), pr18 (q24 x), pr19 (q24 x), pr20 (q24 x), pr21 (q24 x), pr22 (q24 x), er23 (q24 x), Int.tmod (w64 ((pr10 (q24 x)) + x.2.1)) 65536)) fun v0 =>
   guard (decide ((x.1.length + ((toB [w8 v0]).length)) ≤ 9223372036854775807)) <|
   some (.inl (x.1 ++ (toB [w8 v0]), w64 (x.2.1 + 1), x.2.2)))
   (some (.inr (x.1, x.2.2)))
def F6 (K : Nat) (x : List Int) : Option (Bool) :=
  bindO (F15 K x) fun v0 =>
  branch v0
   (some true)
   (bindO (F21 K x) fun v1 =>
   bindO (F22 K v1) fun v2 =>
   bindO (F23 K v1) fun v3 =>
   bindO (α := Bool ⊕ (Int × Int × Int × Int × Int × Int × Int × Int × Int × Int × Bool × Bool × (List UInt8) × Int × Int × (List UInt8) × Int × Bool × Int × (List UInt8) × (List UInt8) × Int × (List Int) × MM)) (bindO (α := Int × Int × Bool × Int × Int × Int × Int × Int × Int × Int × Int × Int × Int × Bool × Bool × (List UInt8) × Int × Int × (List UInt8) × Int × Bool × Int × (List UInt8) × (List UInt8) × Int × (List Int) × MM) (branch (!(decide ((pr22 v2) = (er23 v3))))
        (some (pr22 v2, er23 v3, true, v2.1, v2.2.1, v2.2.2.1, v2.2.2.2.1, pr4 v2, pr5 v2, pr6 v2, pr7 v2, pr8 v2, pr9 v2, pr10 v2, pr11 v2, pr12 v2, pr13 v2, pr14 v2, pr15 v2, pr16 v2, pr17 v2, pr18 v2, pr19 v2, pr20 v2, pr21 v2, er23 v2, v1))
        (some (pr22 v2, er23 v3, !(decide ((pr22 v2) = 0)), v2.1, v2.2.1, v2.2.2.1, v2.2.2.2.1, pr4 v2, pr5 v2, pr6 v2, pr7 v2, pr8 v2, pr9 v2, pr10 v2, pr11 v2, pr12 v2, pr13 v2, pr14 v2, pr15 v2, pr16 v2, pr17 v2, pr18 v2, pr19 v2, pr20 v2, pr21 v2, er23 v2, v1))) fun v4 =>
     branch v4.2.2.1
      (some (.inl (decide (v4.1 = v4.2.1))))
      (some (.inr v4.2.2.2))) fun v5 =>
   csO v5
    (fun v6 => some v6)
    (fun v7 => bindO (iter K (F6_b0 K) ([], 0, v7)) fun v8 =>
    bindO (F25 K (v8.1, 0)) fun v9 =>
    bindO (α := Bool ⊕ (Int × Int × Bool × Int × Int × Int × Int × Int × Int × Int × Int × Int × Int × Int × Bool × Bool × (List UInt8) × Int × Int × (List UInt8) × Int × Bool × Int × (List UInt8) × (List UInt8) × Int × (List Int) × MM)) (bindO (α := Int × Bool × Int × Bool × Int × Int × Int × Int × Int × Int × Int × Int × Int × Int × Int × Bool × Bool × (List UInt8) × Int × Int × (List UInt8) × Int × Bool × Int × (List UInt8) × (List UInt8) × Int × (List Int) × MM) (bindO (F26 K (v9.1, v9.2.1, true)) fun v10 =>
        branch (!(decide ((w64 ((pr22 v8) - (er22 (q24 v8)))) = v10)))
         (bindO (F26 K (v9.1, v9.2.1, false)) fun v11 =>
         some (v9.2.2.2, !(decide ((w64 ((pr22 v8) - (er22 (q24 v8)))) = v11)), v9.1, v9.2.1, v9.2.2.1, v8.2))
         (some (v9.2.2.2, false, v9.1, v9.2.1, v9.2.2.1, v8.2))) fun v12 =>
      branch v12.2.1
       (some (.inl false))
       (some (.inr (v12.1, v12.2.2)))) fun v13 =>
    csO v13
     (fun v14 => some v14)
     (fun v15 => bindO (α := Int × Bool × Int × Int × Int × Int × Int × Int × Int × Int × Int × Int × Bool × Bool × (List UInt8) × Int × Int × (List UInt8) × Int × Bool × Int × (List UInt8) × (List UInt8) × Int × (List Int) × MM) (branch v15.2.2.1
        (some (v15.1, true, er4 v15))
        (branch (decide (63 < v15.2.1))
         (branch (decide (v15.2.1 < 192))
          (some (v15.1, true, er4 v15))
          (branch (decide (v15.2.1 < 64))
           (some (v15.1, decide (0 < (Int.tmod v15.2.1 8)), er4 v15))
           (some (v15.1, false, er4 v15))))
         (branch (decide (v15.2.1 < 64))
          (some (v15.1, decide (0 < (Int.tmod v15.2.1 8)), er4 v15))
          (some (v15.1, false, er4 v15))))) fun v16 =>
     branch (!v16.2.1)
      (some true)
      (some (decide ((pr11 v16) = (Int.tmod (w64 ((pr10 (q24 v16)) + v16.1)) 65536)))))))
def ct6 (K : Nat) : Ct := ⟨[.l (.v (.l (.i .u8)))], [], [.l (.v .b)], [], [], F6 K⟩
theorem c6 (K : Nat) : CtOk prog 6 (ct6 K) :=
  con_mk (Y := Y) (K := K) (an := (.seq .no (.seq (.seq .no (.cond .no .no)) (.seq .no (.seq .no (.seq .no (.seqJ [(1000000, ⟨(ru 3 (.l (.ptr 4000 0 0) :: .l (.ptr 5000 0 0) :: ru 113 [])), [(5000, ⟨23, false, .mix (some 30) [[.l i6, .l i6, .l i6, .l i6, .l i6, .l i6, .l i6, .l i6, .l i6, .l i6, .l (.v .b), .l (.v .b), .l (.v .s), .l i6, .l i6, .l (.v .s), .l i6, .l (.v .b), .l i6, .l (.v .s), .l (.v .s), .l (.all 21000), .l i6]]⟩), (21000, ⟨1, true, .row (.i .i64)⟩), (4000, ⟨23, false, .mix (some 30) [mN]⟩)]⟩)] true (.seqJ [(1000000, ⟨(ru 3 (.l (.ptr 4000 0 0) :: .l (.ptr 5000 0 0) :: .l i6 :: ru 1 (.l i6 :: ru 26 (.l (.v .b) :: ru 83 [])))), [(5000, ⟨23, false, .mix (some 30) [[.l i6, .l i6, .l i6, .l i6, .l i6, .l i6, .l i6, .l i6, .l i6, .l i6, .l (.v .b), .l (.v .b), .l (.v .s), .l i6, .l i6, .l (.v .s), .l i6, .l (.v .b), .l i6, .l (.v .s), .l (.v .s), .l (.all 21000), .l i6]]⟩), (21000, ⟨1, true, .row (.i .i64)⟩), (4000, ⟨23, false, .mix (some 30) [mN]⟩)]⟩)] false .no (.cond .no .no)) (.seq .no (.seq (.seq .no (.blk (.loop [] ⟨(ru 3 (.l (.ptr 4000 0 0) :: .l (.ptr 5000 0 0) :: ru 3 (.l (.v .s) :: .l i6 :: ru 108 []))), [(5000, ⟨23, false, .mix (some 30) [[.l i6, .l i6, .l i6, .l i6, .l i6, .l i6, .l i6, .l i6, .l i6, .l i6, .l (.v .b), .l (.v .b), .l (.v .s), .l i6, .l i6, .l (.v .s), .l i6, .l (.v .b), .l i6, .l (.v .s), .l (.v .s), .l (.all 21000), .l i6]]⟩), (21000, ⟨1, true, .row (.i .i64)⟩), (4000, ⟨23, false, .mix (some 30) [mN]⟩)]⟩ [(0, ⟨(ru 3 (.l (.ptr 4000 0 0) :: .l (.ptr 5000 0 0) :: ru 3 (.l (.v .s) :: ru 109 []))), [(5000, ⟨23, false, .mix (some 30) [[.l i6, .l i6, .l i6, .l i6, .l i6, .l i6, .l i6, .l i6, .l i6, .l i6, .l (.v .b), .l (.v .b), .l (.v .s), .l i6, .l i6, .l (.v .s), .l i6, .l (.v .b), .l i6, .l (.v .s), .l (.v .s), .l (.all 21000), .l i6]]⟩), (21000, ⟨1, true, .row (.i .i64)⟩), (4000, ⟨23, false, .mix (some 30) [mN]⟩)]⟩)] false (.seq (.seq .no .no) (.seq .no .no))))) (.seq .no (.seq .no (.seqJ [(1000000, ⟨(ru 3 (.l (.ptr 4000 0 0) :: .l (.ptr 5000 0 0) :: ru 5 (.l (.ptr 11000 0 0) :: .l i6 :: ru 106 []))), [(11000, ⟨3, false, .mix (some 42) [[.l i6, .l (.v .b), .l i6]]⟩), (5000, ⟨23, false, .mix (some 30) [[.l i6, .l i6, .l i6, .l i6, .l i6, .l i6, .l i6, .l i6, .l i6, .l i6, .l (.v .b), .l (.v .b), .l (.v .s), .l i6, .l i6, .l (.v .s), .l i6, .l (.v .b), .l i6, .l (.v .s), .l (.v .s), .l (.all 21000), .l i6]]⟩), (21000, ⟨1, true, .row (.i .i64)⟩), (4000, ⟨23, false, .mix (some 30) [mN]⟩)]⟩)] true (.seqJ [(1000000, ⟨(ru 3 (.l (.ptr 4000 0 0) :: .l (.ptr 5000 0 0) :: ru 5 (.l (.ptr 11000 0 0) :: .l i6 :: ru 68 (.l (.v .b) :: ru 37 [])))), [(11000, ⟨3, false, .mix (some 42) [[.l i6, .l (.v .b), .l i6]]⟩), (5000, ⟨23, false, .mix (some 30) [[.l i6, .l i6, .l i6, .l i6, .l i6, .l i6, .l i6, .l i6, .l i6, .l i6, .l (.v .b), .l (.v .b), .l (.v .s), .l i6, .l i6, .l (.v .s), .l i6, .l (.v .b), .l i6, .l (.v .s), .l (.v .s), .l (.all 21000), .l i6]]⟩), (21000, ⟨1, true, .row (.i .i64)⟩), (4000, ⟨23, false, .mix (some 30) [mN]⟩)]⟩)] false .no (.cond .no .no)) (.seqJ [(1000000, ⟨(ru 3 (.l (.ptr 4000 0 0) :: .l (.ptr 5000 0 0) :: ru 6 (.l i6 :: ru 1 (.l (.v .b) :: ru 104 [])))), [(5000, ⟨23, false, .mix (some 30) [[.l i6, .l i6, .l i6, .l i6, .l i6, .l i6, .l i6, .l i6, .l i6, .l i6, .l (.v .b), .l (.v .b), .l (.v .s), .l i6, .l i6, .l (.v .s), .l i6, .l (.v .b), .l i6, .l (.v .s), .l (.v .s), .l (.all 21000), .l i6]]⟩), (21000, ⟨1, true, .row (.i .i64)⟩), (4000, ⟨23, false, .mix (some 30) [mN]⟩)]⟩)] false .no .no))))))))))))) func6 mixed (ctabOk_cons (c26 K) (ctabOk_cons (c15 K) (ctabOk_cons (c25 K) (ctabOk_cons (c23 K) (ctabOk_cons (c22 K) (ctabOk_cons (c24 K) (ctabOk_cons (c21 K) ctabOk_nil))))))) (by kernel_rfl) fun x => by kernel_rfl
def A6 (K : Nat) (a0 : T22.den) : Option Bool := F6 K a0
theorem fun6 (K : Nat) (a0 : T22.den) : funOf (ct6 K) [.d (.rov (.i .u8) a0)] [] = bindO (A6 K a0) fun r => some ([.d (.b r)], []) := by kernel_rfl
end Go.U.Tryz
