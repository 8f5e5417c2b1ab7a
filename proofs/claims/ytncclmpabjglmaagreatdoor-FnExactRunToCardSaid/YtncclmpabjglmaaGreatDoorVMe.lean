/- A part of the proof. No condition. -/
import Derived.Test.YtncclmpabjglmaaGreatDoorVMs
set_option linter.unusedVariables false
set_option linter.unusedSimpArgs false
set_option linter.unusedSectionVars false
namespace Go.U.Tryz
open Go Go.U Go.Proofs Go.Proofs.Tryz
set_option maxRecDepth 100000
set_option linter.unusedVariables false
def F61o (K : Nat) (x : MM) : Option (Int × Int × Int × Int × Int × Int × Int × Int × Int × Int × Bool × Bool × (List UInt8) × Int × Int × (List UInt8) × Int × Bool × Int × (List UInt8) × (List UInt8) × Int × List Int) :=
  bindO (F111 K (pr21 x)) fun v0 =>
  some (x.1, x.2.1, x.2.2.1, x.2.2.2.1, pr4 x, pr5 x, pr6 x, pr7 x, pr8 x, pr9 x, pr10 x, pr11 x, pr12 x, pr13 x, pr14 x, pr15 x, pr16 x, pr17 x, pr18 x, pr19 x, pr20 x, er22 x, v0)
def ct61o (K : Nat) : Ct := ⟨[.agg mL], [], [.agg [i6, i6, i6, i6, i6, i6, i6, i6, i6, i6, (.v .b), (.v .b), (.v .s), i6, i6, (.v .s), i6, (.v .b), i6, (.v .s), (.v .s), (.all 0), i6]], [⟨1, true, .row (.i .i64)⟩], [], F61o K⟩
theorem c61o (K : Nat) : CtOk prog 61 (ct61o K) :=
  con_mk (Y := Y) (K := K) (an := (.seq .no (.seq .no .no))) func61 mixed (ctabOk_cons (c111 K) ctabOk_nil) (by kernel_rfl) fun x => by kernel_rfl
def F56 (K : Nat) (x : MM) : Option (Bool) :=
  some false
def ct56 (K : Nat) : Ct := ⟨[.agg mL], [], [.l (.v .b)], [], [], F56 K⟩
theorem c56 (K : Nat) : CtOk prog 56 (ct56 K) :=
  con_mk (Y := Y) (K := K) (an := (.seq .no .no)) func56 mixed ctabOk_nil (by kernel_rfl) fun x => by kernel_rfl
def F55n_b0 (K : Nat) (x : Int × Int × Int × Int × Int × Int × Int × Int × Int × Int × Int × Int × Int × Bool × Bool × (List UInt8) × Int × Int × (List UInt8) × Int × Bool × Int × (List UInt8) × (List UInt8) × (List Int) × Int × MM) : Option ((Int × Int × Int × Int × Int × Int × Int × Int × Int × Int × Int × Int × Int × Bool × Bool × (List UInt8) × Int × Int × (List UInt8) × Int × Bool × Int × (List UInt8) × (List UInt8) × (List Int) × Int × MM) ⊕ (Int × Int × Int × Int × Int × Int × Int × Int × Int × Int × Int × Int × Bool × Bool × (List UInt8) × Int × Int × (List UInt8) × Int × Bool × Int × (List UInt8) × (List UInt8) × (List Int) × Int × MM)) :=
  branch (decide (x.2.2.1 < x.1))
   (bindO (F60 K (q24 x).2.2) fun v0 =>
   branch (!(decide ((er23 v0) = 0)))
    (some (.inr (er23 v0, x.2.2)))
    (bindO (F56 K (v0.1, v0.2.1, v0.2.2.1, v0.2.2.2.1, pr4 v0, pr5 v0, pr6 v0, pr7 v0, pr8 v0, pr9 v0, pr10 v0, pr11 v0, pr12 v0, pr13 v0, pr14 v0, pr15 v0, pr16 v0, pr17 v0, pr18 v0, pr19 v0, pr20 v0, pr21 v0, pr22 v0)) fun v1 =>
    branch v1
     (some (.inr (er23 v0, w64 (x.2.2.1 + 1), x.2.2.2.1, pr4 x, pr5 x, pr6 x, pr7 x, pr8 x, pr9 x, pr10 x, pr11 x, pr12 x, pr13 x, pr14 x, pr15 x, pr16 x, pr17 x, pr18 x, pr19 x, pr20 x, pr21 x, pr22 x, pr23 x, pr24 x, (q24 x).2.1, v0.1, v0.2.1, v0.2.2.1, v0.2.2.2.1, pr4 v0, pr5 v0, pr6 v0, pr7 v0, pr8 v0, pr9 v0, pr10 v0, pr11 v0, pr12 v0, pr13 v0, pr14 v0, pr15 v0, pr16 v0, pr17 v0, pr18 v0, pr19 v0, pr20 v0, pr21 v0, pr22 v0)))
     (some (.inl (x.1, er23 v0, w64 (x.2.2.1 + 1), x.2.2.2.1, pr4 x, pr5 x, pr6 x, pr7 x, pr8 x, pr9 x, pr10 x, pr11 x, pr12 x, pr13 x, pr14 x, pr15 x, pr16 x, pr17 x, pr18 x, pr19 x, pr20 x, pr21 x, pr22 x, pr23 x, pr24 x, (q24 x).2.1, v0.1, v0.2.1, v0.2.2.1, v0.2.2.2.1, pr4 v0, pr5 v0, pr6 v0, pr7 v0, pr8 v0, pr9 v0, pr10 v0, pr11 v0, pr12 v0, pr13 v0, pr14 v0, pr15 v0, pr16 v0, pr17 v0, pr18 v0, pr19 v0, pr20 v0, pr21 v0, pr22 v0)))))
   (some (.inr x.2))
def F55n (K : Nat) (x : Int × Int × Int × Int × Int × Int × Int × Int × Int × Int × Bool × Bool × (List UInt8) × Int × Int × (List UInt8) × Int × Bool × Int × (List UInt8) × (List UInt8) × (List Int) × Int × Int) : Option (Int × Int × Int × Int × Int × Int × Int × Int × Int × Int × Bool × Bool × (List UInt8) × Int × Int × (List UInt8) × Int × Bool × Int × (List UInt8) × (List UInt8) × Int × Int × Int × List Int) :=
  bindO (iter K (F55n_b0 K) (er23 x, 0, 0, 0, 0, 0, 0, 0, 0, 0, 0, 0, 0, false, false, [], 0, 0, [], 0, false, 0, [], [], [], 0, x.1, x.2.1, x.2.2.1, x.2.2.2.1, pr4 x, pr5 x, pr6 x, pr7 x, pr8 x, pr9 x, pr10 x, pr11 x, pr12 x, pr13 x, pr14 x, pr15 x, pr16 x, pr17 x, pr18 x, pr19 x, pr20 x, pr21 x, pr22 x)) fun v0 =>
  bindO (F61o K (q24 v0).2) fun v1 =>
  some (v1.1, v1.2.1, v1.2.2.1, v1.2.2.2.1, pr4 v1, pr5 v1, pr6 v1, pr7 v1, pr8 v1, pr9 v1, pr10 v1, pr11 v1, pr12 v1, pr13 v1, pr14 v1, pr15 v1, pr16 v1, pr17 v1, pr18 v1, pr19 v1, pr20 v1, pr21 v1, v0.1, v0.2.1, er22 v1)
def ct55n (K : Nat) : Ct := ⟨[.agg mL, .l i6, .clo 56 []], [], [.agg [i6, i6, i6, i6, i6, i6, i6, i6, i6, i6, (.v .b), (.v .b), (.v .s), i6, i6, (.v .s), i6, (.v .b), i6, (.v .s), (.v .s), (.all 0), i6], .l i6, .l i6], [⟨1, true, .row (.i .i64)⟩], [], F55n K⟩
theorem c55n (K : Nat) : CtOk prog 55 (ct55n K) :=
  con_mk (Y := Y) (K := K) (an := (.seq .no (.seq .no (.seq (.blk (.loop [] ⟨(ru 1 (.l i6 :: .clo 56 [] :: .l (.ptr 4000 0 0) :: ru 2 (.l (.ptr 7000 0 0) :: ru 2 (.l i6 :: .l i6 :: ru 23 [])))), [(7000, ⟨23, false, .mix (some 30) [mN]⟩), (4000, ⟨23, false, .mix (some 30) [mN]⟩)]⟩ [(0, ⟨(ru 3 (.l (.ptr 4000 0 0) :: ru 2 (.l (.ptr 7000 0 0) :: ru 2 (.l i6 :: .l i6 :: ru 23 [])))), [(7000, ⟨23, false, .mix (some 30) [mN]⟩), (4000, ⟨23, false, .mix (some 30) [mN]⟩)]⟩)] false (.seq (.seq .no .no) (.blk (.seq .no (.seq (.seq .no (.seq .no .no)) (.seq .no (.seq .no (.seq .no .no))))))))) .no)))) func55 mixed (ctabOk_cons (c60 K) (ctabOk_cons (c61o K) (ctabOk_cons (c56 K) ctabOk_nil))) (by kernel_rfl) fun x => by kernel_rfl
def F93 (K : Nat) (x : MM) : Option (Int × Int) :=
  branch (decide (x.2.2.2.2.2.2.2.2.2.1 < 256))
   (some (0, x.2.2.2.2.2.2.2.2.2.1))
   (branch (decide (x.2.2.2.2.2.2.2.2.2.1 < 512))
    (bindO (F130 K (x.2.2.2.2.2.2.2.2.2.2.2.2.1, x.2.2.2.2.2.2.2.2.2.2.2.2.2.1, x.2.2.2.2.2.2.2.2.2.2.2.2.2.2.1, x.2.2.2.2.2.2.2.2.2.2.2.2.2.2.2.1, x.2.2.2.2.2.2.2.2.2.2.2.2.2.2.2.2.1, x.2.2.2.2.2.2.2.2.2.2.2.2.2.2.2.2.2.1, x.2.2.2.2.2.2.2.2.2.2.2.2.2.2.2.2.2.2.1)) fun v0 =>
    some (v0, x.2.2.2.2.2.2.2.2.2.1))
    (some ((-1), x.2.2.2.2.2.2.2.2.2.1)))
def ct93 (K : Nat) : Ct := ⟨[.agg mL], [], [.agg [i6, i6]], [], [], F93 K⟩
theorem c93 (K : Nat) : CtOk prog 93 (ct93 K) :=
  con_mk (Y := Y) (K := K) (an := (.seq .no (.seq .no (.seq (.blk (.seq .no (.cond .no (.seq .no .no)))) .no)))) func93 mixed (ctabOk_cons (c130 K) ctabOk_nil) (by kernel_rfl) fun x => by kernel_rfl
def F129_b0 (K : Nat) (x : (List (Int × Int)) × Int × Int × Int × Int) : Option (((List (Int × Int)) × Int × Int × Int × Int) ⊕ (Int ⊕ Unit)) :=
  branch (decide (x.2.2.1 < x.2.1))
   (nth x.1 x.2.2.1 fun v0 =>
   branch ((decide (x.2.2.2.1 = v0.1)) && (decide (x.2.2.2.2 = v0.2)))
    (some (.inr (.inl x.2.2.1)))
    (some (.inl (x.1, x.2.1, w64 (x.2.2.1 + 1), x.2.2.2))))
   (some (.inr (.inr ())))
def F129 (K : Nat) (x : (List (Int × Int)) × Int × Int) : Option (Int) :=
  bindO (iter K (F129_b0 K) (x.1, (x.1.length : Int), 0, x.2)) fun v0 =>
  csO v0
   (fun v1 => some v1)
   (fun v2 => some (-1))
def ct129 (K : Nat) : Ct := ⟨[.l (.v (.l (.c (.i .i64) (.i .i64)))), .agg [i6, i6]], [], [.l i6], [], [], F129 K⟩
theorem c129 (K : Nat) : CtOk prog 129 (ct129 K) :=
  con_mk (Y := Y) (K := K) (an := (.seq .no (.seq (.seq .no (.blk (.loop [] ⟨(.l (.v (.l (.c (.i .i64) (.i .i64)))) :: ru 2 (.l (.ptr 4000 0 0) :: ru 3 (.l i6 :: .l i6 :: ru 10 []))), [(4000, ⟨2, false, .mix (some 62) [[.l i6, .l i6]]⟩)]⟩ [(0, ⟨(ru 19 []), []⟩)] true (.seq .no (.seq .no (.seq (.blk (.seq .no (.seq .no (.cond .no .no)))) .no)))))) .no))) func129 mixed ctabOk_nil (by kernel_rfl) fun x => by kernel_rfl
def F92 (K : Nat) (x : (List (Int × Int)) × Int × Int) : Option (Bool) :=
  bindO (F129 K x) fun v0 =>
  some (decide (0 ≤ v0))
def ct92 (K : Nat) : Ct := ⟨[.l (.v (.l (.c (.i .i64) (.i .i64)))), .agg [i6, i6]], [], [.l (.v .b)], [], [], F92 K⟩
theorem c92 (K : Nat) : CtOk prog 92 (ct92 K) :=
  con_mk (Y := Y) (K := K) (an := (.seq .no .no)) func92 mixed (ctabOk_cons (c129 K) ctabOk_nil) (by kernel_rfl) fun x => by kernel_rfl
def F91 (K : Nat) (x : Int × Int × Int × Int × Int × Int × Int × Int × Int × Int × Bool × Bool × (List UInt8) × Int × Int × (List UInt8) × Int × Bool × Int × (List UInt8) × (List UInt8) × (List Int) × Int × List (Int × Int)) : Option (Bool × List (Int × Int)) :=
  bindO (F93 K (x.1, x.2.1, x.2.2.1, x.2.2.2.1, x.2.2.2.2.1, x.2.2.2.2.2.1, x.2.2.2.2.2.2.1, x.2.2.2.2.2.2.2.1, x.2.2.2.2.2.2.2.2.1, x.2.2.2.2.2.2.2.2.2.1, x.2.2.2.2.2.2.2.2.2.2.1, x.2.2.2.2.2.2.2.2.2.2.2.1, x.2.2.2.2.2.2.2.2.2.2.2.2.1, x.2.2.2.2.2.2.2.2.2.2.2.2.2.1, x.2.2.2.2.2.2.2.2.2.2.2.2.2.2.1, x.2.2.2.2.2.2.2.2.2.2.2.2.2.2.2.1, x.2.2.2.2.2.2.2.2.2.2.2.2.2.2.2.2.1, x.2.2.2.2.2.2.2.2.2.2.2.2.2.2.2.2.2.1, x.2.2.2.2.2.2.2.2.2.2.2.2.2.2.2.2.2.2.1, x.2.2.2.2.2.2.2.2.2.2.2.2.2.2.2.2.2.2.2.1, x.2.2.2.2.2.2.2.2.2.2.2.2.2.2.2.2.2.2.2.2.1, x.2.2.2.2.2.2.2.2.2.2.2.2.2.2.2.2.2.2.2.2.2.1, x.2.2.2.2.2.2.2.2.2.2.2.2.2.2.2.2.2.2.2.2.2.2.1)) fun v0 =>
  bindO (F92 K (x.2.2.2.2.2.2.2.2.2.2.2.2.2.2.2.2.2.2.2.2.2.2.2, v0)) fun v1 =>
  some (v1, x.2.2.2.2.2.2.2.2.2.2.2.2.2.2.2.2.2.2.2.2.2.2.2)
def ct91 (K : Nat) : Ct := ⟨[.agg mL, .l (.ptr 0 0 0)], [⟨1, false, .mix (some 57) [[.l (.v (.l (.c (.i .i64) (.i .i64))))]]⟩], [.l (.v .b)], [⟨1, false, .mix (some 57) [[.l (.v (.l (.c (.i .i64) (.i .i64))))]]⟩], [], F91 K⟩
theorem c91 (K : Nat) : CtOk prog 91 (ct91 K) :=
  con_mk (Y := Y) (K := K) (an := (.seq .no .no)) func91 mixed (ctabOk_cons (c93 K) (ctabOk_cons (c92 K) ctabOk_nil)) (by kernel_rfl) fun x => by kernel_rfl
def F55s_b0 (K : Nat) (x : Int × Int × Int × Int × Int × Int × Int × Int × Int × Int × Int × Int × Int × Bool × Bool × (List UInt8) × Int × Int × (List UInt8) × Int × Bool × Int × (List UInt8) × (List UInt8) × (List Int) × Int × Int × Int × Int × Int × Int × Int × Int × Int × Int × Int × Bool × Bool × (List UInt8) × Int × Int × (List UInt8) × Int × Bool × Int × (List UInt8) × (List UInt8) × (List Int) × Int × List (Int × Int)) : Option ((Int × Int × Int × Int × Int × Int × Int × Int × Int × Int × Int × Int × Int × Bool × Bool × (List UInt8) × Int × Int × (List UInt8) × Int × Bool × Int × (List UInt8) × (List UInt8) × (List Int) × Int × Int × Int × Int × Int × Int × Int × Int × Int × Int × Int × Bool × Bool × (List UInt8) × Int × Int × (List UInt8) × Int × Bool × Int × (List UInt8) × (List UInt8) × (List Int) × Int × List (Int × Int)) ⊕ (Int × Int × Int × Int × Int × Int × Int × Int × Int × Int × Int × Int × Bool × Bool × (List UInt8) × Int × Int × (List UInt8) × Int × Bool × Int × (List UInt8) × (List UInt8) × (List Int) × Int × Int × Int × Int × Int × Int × Int × Int × Int × Int × Int × Bool × Bool × (List UInt8) × Int × Int × (List UInt8) × Int × Bool × Int × (List UInt8) × (List UInt8) × (List Int) × Int × List (Int × Int))) :=
  branch (decide (x.2.2.1 < x.1))
   (bindO (F60 K ((q24 x).2.2.1, (q24 x).2.2.2.1, pr4 (q24 x), pr5 (q24 x), pr6 (q24 x), pr7 (q24 x), pr8 (q24 x), pr9 (q24 x), pr10 (q24 x), pr11 (q24 x), pr12 (q24 x), pr13 (q24 x), pr14 (q24 x), pr15 (q24 x), pr16 (q24 x), pr17 (q24 x), pr18 (q24 x), pr19 (q24 x), pr20 (q24 x), pr21 (q24 x), pr22 (q24 x), pr23 (q24 x), pr24 (q24 x))) fun v0 =>
   branch (!(decide ((er23 v0) = 0)))
    (some (.inr (er23 v0, x.2.2)))
    (bindO (F91 K (v0.1, v0.2.1, v0.2.2.1, v0.2.2.2.1, pr4 v0, pr5 v0, pr6 v0, pr7 v0, pr8 v0, pr9 v0, pr10 v0, pr11 v0, pr12 v0, pr13 v0, pr14 v0, pr15 v0, pr16 v0, pr17 v0, pr18 v0, pr19 v0, pr20 v0, pr21 v0, pr22 v0, (q24 (q24 x)).2)) fun v1 =>
    branch v1.1
     (some (.inr (er23 v0, w64 (x.2.2.1 + 1), x.2.2.2.1, pr4 x, pr5 x, pr6 x, pr7 x, pr8 x, pr9 x, pr10 x, pr11 x, pr12 x, pr13 x, pr14 x, pr15 x, pr16 x, pr17 x, pr18 x, pr19 x, pr20 x, pr21 x, pr22 x, pr23 x, pr24 x, (q24 x).2.1, v0.1, v0.2.1, v0.2.2.1, v0.2.2.2.1, pr4 v0, pr5 v0, pr6 v0, pr7 v0, pr8 v0, pr9 v0, pr10 v0, pr11 v0, pr12 v0, pr13 v0, pr14 v0, pr15 v0, pr16 v0, pr17 v0, pr18 v0, pr19 v0, pr20 v0, pr21 v0, pr22 v0, v1.2)))
     (some (.inl (x.1, er23 v0, w64 (x.2.2.1 + 1), x.2.2.2.1, pr4 x, pr5 x, pr6 x, pr7 x, pr8 x, pr9 x, pr10 x, pr11 x, pr12 x, pr13 x, pr14 x, pr15 x, pr16 x, pr17 x, pr18 x, pr19 x, pr20 x, pr21 x, pr22 x, pr23 x, pr24 x, (q24 x).2.1, v0.1, v0.2.1, v0.2.2.1, v0.2.2.2.1, pr4 v0, pr5 v0, pr6 v0, pr7 v0, pr8 v0, pr9 v0, pr10 v0, pr11 v0, pr12 v0, pr13 v0, pr14 v0, pr15 v0, pr16 v0, pr17 v0, pr18 v0, pr19 v0, pr20 v0, pr21 v0, pr22 v0, v1.2)))))
   (some (.inr x.2))
def F55s (K : Nat) (x : Int × Int × Int × Int × Int × Int × Int × Int × Int × Int × Bool × Bool × (List UInt8) × Int × Int × (List UInt8) × Int × Bool × Int × (List UInt8) × (List UInt8) × (List Int) × Int × Int × List (Int × Int)) : Option (Int × Int × Int × Int × Int × Int × Int × Int × Int × Int × Bool × Bool × (List UInt8) × Int × Int × (List UInt8) × Int × Bool × Int × (List UInt8) × (List UInt8) × Int × Int × Int × (List (Int × Int)) × List Int) :=
  bindO (iter K (F55s_b0 K) (pr23 x, 0, 0, 0, 0, 0, 0, 0, 0, 0, 0, 0, 0, false, false, [], 0, 0, [], 0, false, 0, [], [], [], 0, x.1, x.2.1, x.2.2.1, x.2.2.2.1, pr4 x, pr5 x, pr6 x, pr7 x, pr8 x, pr9 x, pr10 x, pr11 x, pr12 x, pr13 x, pr14 x, pr15 x, pr16 x, pr17 x, pr18 x, pr19 x, pr20 x, pr21 x, pr22 x, er24 x)) fun v0 =>
  bindO (F61o K ((q24 v0).2.1, (q24 v0).2.2.1, (q24 v0).2.2.2.1, pr4 (q24 v0), pr5 (q24 v0), pr6 (q24 v0), pr7 (q24 v0), pr8 (q24 v0), pr9 (q24 v0), pr10 (q24 v0), pr11 (q24 v0), pr12 (q24 v0), pr13 (q24 v0), pr14 (q24 v0), pr15 (q24 v0), pr16 (q24 v0), pr17 (q24 v0), pr18 (q24 v0), pr19 (q24 v0), pr20 (q24 v0), pr21 (q24 v0), pr22 (q24 v0), pr23 (q24 v0))) fun v1 =>
  some (v1.1, v1.2.1, v1.2.2.1, v1.2.2.2.1, pr4 v1, pr5 v1, pr6 v1, pr7 v1, pr8 v1, pr9 v1, pr10 v1, pr11 v1, pr12 v1, pr13 v1, pr14 v1, pr15 v1, pr16 v1, pr17 v1, pr18 v1, pr19 v1, pr20 v1, pr21 v1, v0.1, v0.2.1, er24 (q24 v0), er22 v1)
def ct55s (K : Nat) : Ct := ⟨[.agg mL, .l i6, .clo 91 [(.ptr 0 0 0)]], [⟨1, false, .mix (some 57) [[.l (.v (.l (.c (.i .i64) (.i .i64))))]]⟩], [.agg [i6, i6, i6, i6, i6, i6, i6, i6, i6, i6, (.v .b), (.v .b), (.v .s), i6, i6, (.v .s), i6, (.v .b), i6, (.v .s), (.v .s), (.all 1), i6], .l i6, .l i6], [⟨1, false, .mix (some 57) [[.l (.v (.l (.c (.i .i64) (.i .i64))))]]⟩, ⟨1, true, .row (.i .i64)⟩], [], F55s K⟩
theorem c55s (K : Nat) : CtOk prog 55 (ct55s K) :=
  con_mk (Y := Y) (K := K) (an := (.seq .no (.seq .no (.seq (.blk (.loop [] ⟨(ru 1 (.l i6 :: .clo 91 [(.ptr 0 0 0)] :: .l (.ptr 4000 0 0) :: ru 2 (.l (.ptr 7000 0 0) :: ru 2 (.l i6 :: .l i6 :: ru 23 [])))), [(7000, ⟨23, false, .mix (some 30) [mN]⟩), (4000, ⟨23, false, .mix (some 30) [mN]⟩), (0, ⟨1, false, .mix (some 57) [[.l (.v (.l (.c (.i .i64) (.i .i64))))]]⟩)]⟩ [(0, ⟨(ru 3 (.l (.ptr 4000 0 0) :: ru 2 (.l (.ptr 7000 0 0) :: ru 2 (.l i6 :: .l i6 :: ru 23 [])))), [(7000, ⟨23, false, .mix (some 30) [mN]⟩), (4000, ⟨23, false, .mix (some 30) [mN]⟩), (0, ⟨1, false, .mix (some 57) [[.l (.v (.l (.c (.i .i64) (.i .i64))))]]⟩)]⟩)] false (.seq (.seq .no .no) (.blk (.seq .no (.seq (.seq .no (.seq .no .no)) (.seq .no (.seq .no (.seq .no .no))))))))) .no)))) func55 mixed (ctabOk_cons (c60 K) (ctabOk_cons (c61o K) (ctabOk_cons (c91 K) ctabOk_nil))) (by kernel_rfl) fun x => by kernel_rfl
def F37 (K : Nat) (x : Int × Int × Int × Int × Int × Int × Int × Int × Int × Int × Bool × Bool × (List UInt8) × Int × Int × (List UInt8) × Int × Bool × Int × (List UInt8) × (List UInt8) × (List Int) × Int × (List (Int × Int)) × Int) : Option (Int × Int × Int × Int × Int × Int × Int × Int × Int × Int × Bool × Bool × (List UInt8) × Int × Int × (List UInt8) × Int × Bool × Int × (List UInt8) × (List UInt8) × Int × Int × Int × List Int) :=
  bindO (α := (Int × Int × Int × Int × Int × Int × Int × Int × Int × Int × Bool × Bool × (List UInt8) × Int × Int × (List UInt8) × Int × Bool × Int × (List UInt8) × (List UInt8) × Int × Int × Int × List Int) ⊕ (Int × Int × Int × Int × Int × Int × Int × Int × Int × Int × Int × Bool × Bool × (List UInt8) × Int × Int × (List UInt8) × Int × Bool × Int × (List UInt8) × (List UInt8) × (List Int) × Int × (List (Int × Int)) × MM)) (bindO (α := Int × Bool × Int × Int × Int × Int × Int × Int × Int × Int × Int × Int × Bool × Bool × (List UInt8) × Int × Int × (List UInt8) × Int × Bool × Int × (List UInt8) × (List UInt8) × (List Int) × Int × (List (Int × Int)) × MM) (bindO (F32 K (x.1, x.2.1, x.2.2.1, x.2.2.2.1, pr4 x, pr5 x, pr6 x, pr7 x, pr8 x, pr9 x, pr10 x, pr11 x, pr12 x, pr13 x, pr14 x, pr15 x, pr16 x, pr17 x, pr18 x, pr19 x, pr20 x, pr21 x, pr22 x)) fun v0 =>
      branch (!v0)
       (some (er24 x, true, 0, 0, 0, 0, 0, 0, 0, 0, 0, 0, false, false, [], 0, 0, [], 0, false, 0, [], [], [], 0, pr23 x, x.1, x.2.1, x.2.2.1, x.2.2.2.1, pr4 x, pr5 x, pr6 x, pr7 x, pr8 x, pr9 x, pr10 x, pr11 x, pr12 x, pr13 x, pr14 x, pr15 x, pr16 x, pr17 x, pr18 x, pr19 x, pr20 x, pr21 x, pr22 x))
       (bindO (F54 K (er24 x, 0, 500)) fun v1 =>
       branch (!v1)
        (some (er24 x, true, 0, 0, 0, 0, 0, 0, 0, 0, 0, 0, false, false, [], 0, 0, [], 0, false, 0, [], [], [], 0, pr23 x, x.1, x.2.1, x.2.2.1, x.2.2.2.1, pr4 x, pr5 x, pr6 x, pr7 x, pr8 x, pr9 x, pr10 x, pr11 x, pr12 x, pr13 x, pr14 x, pr15 x, pr16 x, pr17 x, pr18 x, pr19 x, pr20 x, pr21 x, pr22 x))
        (some (er24 x, decide (20 < ((pr23 x).length : Int)), 0, 0, 0, 0, 0, 0, 0, 0, 0, 0, false, false, [], 0, 0, [], 0, false, 0, [], [], [], 0, pr23 x, x.1, x.2.1, x.2.2.1, x.2.2.2.1, pr4 x, pr5 x, pr6 x, pr7 x, pr8 x, pr9 x, pr10 x, pr11 x, pr12 x, pr13 x, pr14 x, pr15 x, pr16 x, pr17 x, pr18 x, pr19 x, pr20 x, pr21 x, pr22 x)))) fun v2 =>
    branch v2.2.1
     (some (.inl (0, 0, 0, 0, 0, 0, 0, 0, 0, 0, false, false, [], 0, 0, [], 0, false, 0, [], [], 0, 3, 0, [])))
     (some (.inr (v2.1, v2.2.2)))) fun v3 =>
  csO v3
   (fun v4 => some v4)
   (fun v5 => bindO (F55s K ((q24 v5).2.1, (q24 v5).2.2.1, (q24 v5).2.2.2.1, pr4 (q24 v5), pr5 (q24 v5), pr6 (q24 v5), pr7 (q24 v5), pr8 (q24 v5), pr9 (q24 v5), pr10 (q24 v5), pr11 (q24 v5), pr12 (q24 v5), pr13 (q24 v5), pr14 (q24 v5), pr15 (q24 v5), pr16 (q24 v5), pr17 (q24 v5), pr18 (q24 v5), pr19 (q24 v5), pr20 (q24 v5), pr21 (q24 v5), pr22 (q24 v5), er23 (q24 v5), v5.1, pr24 v5)) fun v6 =>
   some (v6.1, v6.2.1, v6.2.2.1, v6.2.2.2.1, pr4 v6, pr5 v6, pr6 v6, pr7 v6, pr8 v6, pr9 v6, pr10 v6, pr11 v6, pr12 v6, pr13 v6, pr14 v6, pr15 v6, pr16 v6, pr17 v6, pr18 v6, pr19 v6, pr20 v6, pr21 v6, pr22 v6, pr23 v6, (q24 v6).2))
def ct37 (K : Nat) : Ct := ⟨[.agg mL, .l (.v (.l (.c (.i .i64) (.i .i64)))), .l i6], [], [.agg [i6, i6, i6, i6, i6, i6, i6, i6, i6, i6, (.v .b), (.v .b), (.v .s), i6, i6, (.v .s), i6, (.v .b), i6, (.v .s), (.v .s), (.all 0), i6], .l i6, .l i6], [⟨1, true, .row (.i .i64)⟩], [], F37 K⟩
theorem c37 (K : Nat) : CtOk prog 37 (ct37 K) :=
  con_mk (Y := Y) (K := K) (an := (.seq .no (.seqJ [(1000000, ⟨(ru 2 (.l i6 :: .l (.ptr 4000 0 0) :: .l (.ptr 5000 0 0) :: ru 1 (.l (.ptr 7000 0 0) :: ru 23 []))), [(7000, ⟨23, false, .mix (some 30) [mN]⟩), (5000, ⟨1, false, .mix (some 57) [[.l (.v (.l (.c (.i .i64) (.i .i64))))]]⟩), (4000, ⟨23, false, .mix (some 30) [mN]⟩)]⟩)] true (.seqJ [(1000000, ⟨(ru 2 (.l i6 :: .l (.ptr 4000 0 0) :: .l (.ptr 5000 0 0) :: ru 1 (.l (.ptr 7000 0 0) :: ru 14 (.l (.v .b) :: ru 8 [])))), [(7000, ⟨23, false, .mix (some 30) [mN]⟩), (5000, ⟨1, false, .mix (some 57) [[.l (.v (.l (.c (.i .i64) (.i .i64))))]]⟩), (4000, ⟨23, false, .mix (some 30) [mN]⟩)]⟩)] false .no (.cond (.seq (.reg [] [(2, .vcell 7000 21 9900 1 (.i .i64))]) .no) .no)) .no))) func37 mixed (ctabOk_cons (c54 K) (ctabOk_cons (c32 K) (ctabOk_cons (c55n K) (ctabOk_cons (c91 K) (ctabOk_cons (c55s K) ctabOk_nil))))) (by kernel_rfl) fun x => by kernel_rfl
def F70 (K : Nat) (x : (List UInt8) × Int × Int × (List UInt8) × Int × Bool × Int × Int) : Option (Int) :=
  branch (decide ((w64 (x.2.2.2.2.2.2.2 - (x.1.length : Int))) < 0))
   (some (-1))
   (branch (decide ((w64 ((w64 (x.2.2.2.2.2.2.2 - (x.1.length : Int))) - (x.2.2.2.1.length : Int))) < 0))
    (some (-1))
    (some (w64 ((w64 (x.2.2.2.2.2.2.2 - (x.1.length : Int))) - (x.2.2.2.1.length : Int)))))
def ct70 (K : Nat) : Ct := ⟨[.agg [(.v .s), i6, i6, (.v .s), i6, (.v .b), i6], .l i6], [], [.l i6], [], [], F70 K⟩
theorem c70 (K : Nat) : CtOk prog 70 (ct70 K) :=
  con_mk (Y := Y) (K := K) (an := (.seq .no (.seq .no (.seq (.seq .no (.cond .no .no)) (.seq .no (.seq (.seq .no (.cond .no .no)) .no)))))) func70 mixed ctabOk_nil (by kernel_rfl) fun x => by kernel_rfl
def F71 (K : Nat) (x : (List Int) × Int) : Option (Int) :=
  branch (decide ((w64 (x.2 - (x.1.length : Int))) < 0))
   (some (-1))
   (some (w64 (x.2 - (x.1.length : Int))))
def ct71 (K : Nat) : Ct := ⟨[.l (.v (.l (.i .i64))), .l i6], [], [.l i6], [], [], F71 K⟩
theorem c71 (K : Nat) : CtOk prog 71 (ct71 K) :=
  con_mk (Y := Y) (K := K) (an := (.seq .no (.seq .no (.seq (.seq .no (.cond .no .no)) .no)))) func71 mixed ctabOk_nil (by kernel_rfl) fun x => by kernel_rfl
def F27 (K : Nat) (x : Int × Int × Int × Int × Int × Int × Int × Int × Int × Int × Bool × Bool × (List UInt8) × Int × Int × (List UInt8) × Int × Bool × Int × (List UInt8) × (List UInt8) × (List Int) × Int × Int) : Option (Int) :=
  bindO (F70 K (x.2.2.2.2.2.2.2.2.2.2.2.2.1, x.2.2.2.2.2.2.2.2.2.2.2.2.2.1, x.2.2.2.2.2.2.2.2.2.2.2.2.2.2.1, x.2.2.2.2.2.2.2.2.2.2.2.2.2.2.2.1, x.2.2.2.2.2.2.2.2.2.2.2.2.2.2.2.2.1, x.2.2.2.2.2.2.2.2.2.2.2.2.2.2.2.2.2.1, x.2.2.2.2.2.2.2.2.2.2.2.2.2.2.2.2.2.2.1, x.2.2.2.2.2.2.2.2.2.2.2.2.2.2.2.2.2.2.2.2.2.2.2)) fun v0 =>
  branch (decide (v0 < 0))
   (some (-1))
   (branch (decide ((w64 (v0 - (x.2.2.2.2.2.2.2.2.2.2.2.2.2.2.2.2.2.2.2.1.length : Int))) < 0))
    (some (-1))
    (branch (decide ((w64 ((w64 (v0 - (x.2.2.2.2.2.2.2.2.2.2.2.2.2.2.2.2.2.2.2.1.length : Int))) - (x.2.2.2.2.2.2.2.2.2.2.2.2.2.2.2.2.2.2.2.2.1.length : Int))) < 0))
     (some (-1))
     (bindO (F71 K (x.2.2.2.2.2.2.2.2.2.2.2.2.2.2.2.2.2.2.2.2.2.1, w64 ((w64 (v0 - (x.2.2.2.2.2.2.2.2.2.2.2.2.2.2.2.2.2.2.2.1.length : Int))) - (x.2.2.2.2.2.2.2.2.2.2.2.2.2.2.2.2.2.2.2.2.1.length : Int)))) fun v1 =>
     branch (decide (v1 < 0))
      (some (-1))
      (some v1))))
def ct27 (K : Nat) : Ct := ⟨[.agg mL, .l i6], [], [.l i6], [], [], F27 K⟩
theorem c27 (K : Nat) : CtOk prog 27 (ct27 K) :=
  con_mk (Y := Y) (K := K) (an := (.seq .no (.seq .no (.seq (.seq .no (.cond .no .no)) (.seq .no (.seq (.seq .no (.cond .no .no)) (.seq .no (.seq (.seq .no (.cond .no .no)) (.seq .no (.seq (.seq .no (.cond .no .no)) .no)))))))))) func27 mixed (ctabOk_cons (c70 K) (ctabOk_cons (c71 K) ctabOk_nil)) (by kernel_rfl) fun x => by kernel_rfl
def F72 (K : Nat) (x : Int × Int × Int × Int × Int × Int × Int × Int × Int × Int × Bool × Bool) : Option (Int × Int × Int × Int × Int × Int × Int × Int × Int × Int × Bool × Bool) :=
  some x
def ct72 (K : Nat) : Ct := ⟨[.agg [i6, i6, i6, i6, i6, i6, i6, i6, i6, i6, (.v .b), (.v .b)]], [], [.agg [i6, i6, i6, i6, i6, i6, i6, i6, i6, i6, (.v .b), (.v .b)]], [], [], F72 K⟩
theorem c72 (K : Nat) : CtOk prog 72 (ct72 K) :=
  con_mk (Y := Y) (K := K) (an := (.seq .no (.seq .no (.seq .no (.seq .no (.seq .no (.seq .no (.seq .no (.seq .no (.seq .no (.seq .no (.seq .no (.seq .no (.seq .no (.seq .no .no))))))))))))))) func72 mixed ctabOk_nil (by kernel_rfl) fun x => by kernel_rfl
def F73 (K : Nat) (x : (List UInt8) × Int × Int × (List UInt8) × Int × Bool × Int) : Option ((List UInt8) × Int × Int × (List UInt8) × Int × Bool × Int) :=
  some x
def ct73 (K : Nat) : Ct := ⟨[.agg [(.v .s), i6, i6, (.v .s), i6, (.v .b), i6]], [], [.agg [(.v .s), i6, i6, (.v .s), i6, (.v .b), i6]], [], [], F73 K⟩
theorem c73 (K : Nat) : CtOk prog 73 (ct73 K) :=
  con_mk (Y := Y) (K := K) (an := (.seq .no (.seq .no (.seq .no (.seq .no (.seq .no (.seq .no (.seq .no (.seq .no (.seq .no .no)))))))))) func73 mixed ctabOk_nil (by kernel_rfl) fun x => by kernel_rfl
def F74o_b0 (K : Nat) (x : (List Int) × Int × List Int) : Option (((List Int) × Int × List Int) ⊕ (List Int)) :=
  branch (decide (x.2.1 < (x.1.length : Int)))
   (nth x.1 x.2.1 fun v0 =>
   guard (decide (0 ≤ x.2.1 ∧ x.2.1 < (x.2.2.length : Int))) <|
   nthN x.2.2 x.2.1.toNat fun v1 =>
   some (.inl (x.1, w64 (x.2.1 + 1), List.set x.2.2 x.2.1.toNat v0)))
   (some (.inr x.2.2))
def F74o (K : Nat) (x : List Int) : Option (List Int) :=
  guard (decide ((x.length : Int) = (x.length : Int) ∧ 0 ≤ (x.length : Int) ∧ (8 * ((x.length : Int).toNat)) ≤ 281474976710656)) <|
  bindO (iter K (F74o_b0 K) (x, 0, List.replicate ((x.length : Int).toNat) 0)) fun v0 =>
  some v0
def ct74o (K : Nat) : Ct := ⟨[.l (.v (.l (.i .i64)))], [], [.l (.all 0)], [⟨1, true, .row (.i .i64)⟩], [], F74o K⟩
theorem c74o (K : Nat) : CtOk prog 74 (ct74o K) :=
  con_mk (Y := Y) (K := K) (an := (.seq .no (.seq .no (.seq (.seq .no (.blk (.loop [] ⟨(.l (.v (.l (.i .i64))) :: ru 2 (.l (.all 8000) :: .l i6 :: ru 17 [])), [(8000, ⟨1, true, .row (.i .i64)⟩)]⟩ [(0, ⟨(ru 3 (.l (.all 8000) :: ru 18 [])), [(8000, ⟨1, true, .row (.i .i64)⟩)]⟩)] false (.seq (.seq .no .no) (.seq .no .no))))) .no)))) func74 mixed ctabOk_nil (by kernel_rfl) fun x => by kernel_rfl
def F28o (K : Nat) (x : MM) : Option (Int × Int × Int × Int × Int × Int × Int × Int × Int × Int × Bool × Bool × (List UInt8) × Int × Int × (List UInt8) × Int × Bool × Int × (List UInt8) × (List UInt8) × Int × List Int) :=
  bindO (F72 K (x.1, x.2.1, x.2.2.1, x.2.2.2.1, pr4 x, pr5 x, pr6 x, pr7 x, pr8 x, pr9 x, pr10 x, pr11 x)) fun v0 =>
  bindO (F73 K (pr12 x, pr13 x, pr14 x, pr15 x, pr16 x, pr17 x, pr18 x)) fun v1 =>
  bindO (F74o K (pr21 x)) fun v2 =>
  some (v0.1, v0.2.1, v0.2.2.1, v0.2.2.2.1, pr4 v0, pr5 v0, pr6 v0, pr7 v0, pr8 v0, pr9 v0, pr10 v0, er11 v0, v1.1, v1.2.1, v1.2.2.1, v1.2.2.2.1, pr4 v1, pr5 v1, er6 v1, pr19 x, pr20 x, er22 x, v2)
def ct28o (K : Nat) : Ct := ⟨[.agg mL], [], [.agg [i6, i6, i6, i6, i6, i6, i6, i6, i6, i6, (.v .b), (.v .b), (.v .s), i6, i6, (.v .s), i6, (.v .b), i6, (.v .s), (.v .s), (.all 0), i6]], [⟨1, true, .row (.i .i64)⟩], [], F28o K⟩
theorem c28o (K : Nat) : CtOk prog 28 (ct28o K) :=
  con_mk (Y := Y) (K := K) (an := (.seq .no (.seq .no (.seq .no (.seq .no (.seq .no (.seq .no (.seq .no (.seq .no .no))))))))) func28 mixed (ctabOk_cons (c72 K) (ctabOk_cons (c73 K) (ctabOk_cons (c74o K) ctabOk_nil))) (by kernel_rfl) fun x => by kernel_rfl
def F28 (K : Nat) (x : MM) : Option MM :=
  bindO (F72 K (x.1, x.2.1, x.2.2.1, x.2.2.2.1, pr4 x, pr5 x, pr6 x, pr7 x, pr8 x, pr9 x, pr10 x, pr11 x)) fun v0 =>
  bindO (F73 K (pr12 x, pr13 x, pr14 x, pr15 x, pr16 x, pr17 x, pr18 x)) fun v1 =>
  bindO (F74o K (pr21 x)) fun v2 =>
  some (v0.1, v0.2.1, v0.2.2.1, v0.2.2.2.1, pr4 v0, pr5 v0, pr6 v0, pr7 v0, pr8 v0, pr9 v0, pr10 v0, er11 v0, v1.1, v1.2.1, v1.2.2.1, v1.2.2.2.1, pr4 v1, pr5 v1, er6 v1, pr19 x, pr20 x, v2, er22 x)
def ct28 (K : Nat) : Ct := ⟨[.agg mL], [], [.agg mL], [], [], F28 K⟩
theorem c28 (K : Nat) : CtOk prog 28 (ct28 K) :=
  con_mk (Y := Y) (K := K) (an := (.seq .no (.seq .no (.seq .no (.seq .no (.seq .no (.seq .no (.seq .no (.seq .no .no))))))))) func28 mixed (ctabOk_cons (c72 K) (ctabOk_cons (c73 K) (ctabOk_cons (c74o K) ctabOk_nil))) (by kernel_rfl) fun x => by kernel_rfl
def F75 (K : Nat) (x : Int × Int × Int × Int × Int × Int × Int × Int × Int × Int × Bool × Bool × Int × Int × Int × Int × Int × Int × Int × Int × Int × Int × Bool × Bool) : Option (Bool) :=
  branch (!(decide (x.1 = x.2.2.2.2.2.2.2.2.2.2.2.2.1)))
   (some false)
   (branch (!(decide (x.2.1 = x.2.2.2.2.2.2.2.2.2.2.2.2.2.1)))
    (some false)
    (branch (!(decide (x.2.2.1 = x.2.2.2.2.2.2.2.2.2.2.2.2.2.2.1)))
     (some false)
     (branch (!(decide (x.2.2.2.1 = x.2.2.2.2.2.2.2.2.2.2.2.2.2.2.2.1)))
      (some false)
      (branch (!(decide (x.2.2.2.2.1 = x.2.2.2.2.2.2.2.2.2.2.2.2.2.2.2.2.1)))
       (some false)
       (branch (!(decide (x.2.2.2.2.2.1 = x.2.2.2.2.2.2.2.2.2.2.2.2.2.2.2.2.2.1)))
        (some false)
        (branch (!(decide (x.2.2.2.2.2.2.1 = x.2.2.2.2.2.2.2.2.2.2.2.2.2.2.2.2.2.2.1)))
         (some false)
         (branch (!(decide (x.2.2.2.2.2.2.2.1 = x.2.2.2.2.2.2.2.2.2.2.2.2.2.2.2.2.2.2.2.1)))
          (some false)
          (branch (!(decide (x.2.2.2.2.2.2.2.2.1 = x.2.2.2.2.2.2.2.2.2.2.2.2.2.2.2.2.2.2.2.2.1)))
           (some false)
           (branch (!(decide (x.2.2.2.2.2.2.2.2.2.1 = x.2.2.2.2.2.2.2.2.2.2.2.2.2.2.2.2.2.2.2.2.2.1)))
            (some false)
            (branch (!(decide (x.2.2.2.2.2.2.2.2.2.2.1 = x.2.2.2.2.2.2.2.2.2.2.2.2.2.2.2.2.2.2.2.2.2.2.1)))
             (some false)
             (branch (!(decide (x.2.2.2.2.2.2.2.2.2.2.2.1 = x.2.2.2.2.2.2.2.2.2.2.2.2.2.2.2.2.2.2.2.2.2.2.2)))
              (some false)
              (some true))))))))))))
def ct75 (K : Nat) : Ct := ⟨[.agg [i6, i6, i6, i6, i6, i6, i6, i6, i6, i6, (.v .b), (.v .b)], .agg [i6, i6, i6, i6, i6, i6, i6, i6, i6, i6, (.v .b), (.v .b)]], [], [.l (.v .b)], [], [], F75 K⟩
theorem c75 (K : Nat) : CtOk prog 75 (ct75 K) :=
  con_mk (Y := Y) (K := K) (an := (.seq .no (.seq (.seq .no (.cond .no .no)) (.seq (.seq .no (.cond .no .no)) (.seq (.seq .no (.cond .no .no)) (.seq (.seq .no (.cond .no .no)) (.seq (.seq .no (.cond .no .no)) (.seq (.seq .no (.cond .no .no)) (.seq (.seq .no (.cond .no .no)) (.seq (.seq .no (.cond .no .no)) (.seq (.seq .no (.cond .no .no)) (.seq (.seq .no (.cond .no .no)) (.seq (.seq .no (.cond .no .no)) (.seq (.seq .no (.cond .no .no)) .no)))))))))))))) func75 mixed ctabOk_nil (by kernel_rfl) fun x => by kernel_rfl
def F76 (K : Nat) (x : (List UInt8) × Int × Int × (List UInt8) × Int × Bool × Int × (List UInt8) × Int × Int × (List UInt8) × Int × Bool × Int) : Option (Bool) :=
  branch (!(decide (x.1 = x.2.2.2.2.2.2.2.1)))
   (some false)
   (branch (!(decide (x.2.1 = x.2.2.2.2.2.2.2.2.1)))
    (some false)
    (branch (!(decide (x.2.2.1 = x.2.2.2.2.2.2.2.2.2.1)))
     (some false)
     (branch (!(decide (x.2.2.2.1 = x.2.2.2.2.2.2.2.2.2.2.1)))
      (some false)
      (branch (!(decide (x.2.2.2.2.1 = x.2.2.2.2.2.2.2.2.2.2.2.1)))
       (some false)
       (branch (!(decide (x.2.2.2.2.2.1 = x.2.2.2.2.2.2.2.2.2.2.2.2.1)))
        (some false)
        (branch (!(decide (x.2.2.2.2.2.2.1 = x.2.2.2.2.2.2.2.2.2.2.2.2.2)))
         (some false)
         (some true)))))))
def ct76 (K : Nat) : Ct := ⟨[.agg [(.v .s), i6, i6, (.v .s), i6, (.v .b), i6], .agg [(.v .s), i6, i6, (.v .s), i6, (.v .b), i6]], [], [.l (.v .b)], [], [], F76 K⟩
theorem c76 (K : Nat) : CtOk prog 76 (ct76 K) :=
  con_mk (Y := Y) (K := K) (an := (.seq .no (.seq (.seq .no (.cond .no .no)) (.seq (.seq .no (.cond .no .no)) (.seq (.seq .no (.cond .no .no)) (.seq (.seq .no (.cond .no .no)) (.seq (.seq .no (.cond .no .no)) (.seq (.seq .no (.cond .no .no)) (.seq (.seq .no (.cond .no .no)) .no))))))))) func76 mixed ctabOk_nil (by kernel_rfl) fun x => by kernel_rfl
def F77_b0 (K : Nat) (x : (List Int) × (List Int) × Int) : Option (((List Int) × (List Int) × Int) ⊕ (Bool ⊕ Unit)) :=
  branch (decide (x.2.2 < (x.1.length : Int)))
   (nth x.1 x.2.2 fun v0 =>
   nth x.2.1 x.2.2 fun v1 =>
   branch (!(decide (v0 = v1)))
    (some (.inr (.inl false)))
    (some (.inl (x.1, x.2.1, w64 (x.2.2 + 1)))))
   (some (.inr (.inr ())))
def F77 (K : Nat) (x : (List Int) × List Int) : Option (Bool) :=
  branch (!(decide ((x.1.length : Int) = (x.2.length : Int))))
   (some false)
   (bindO (iter K (F77_b0 K) (x.1, x.2, 0)) fun v0 =>
   csO v0
    (fun v1 => some v1)
    (fun v2 => some true))
def ct77 (K : Nat) : Ct := ⟨[.l (.v (.l (.i .i64))), .l (.v (.l (.i .i64)))], [], [.l (.v .b)], [], [], F77 K⟩
theorem c77 (K : Nat) : CtOk prog 77 (ct77 K) :=
  con_mk (Y := Y) (K := K) (an := (.seq .no (.seq (.seq .no (.cond .no .no)) (.seq (.seq .no (.blk (.loop [] ⟨(.l (.v (.l (.i .i64))) :: .l (.v (.l (.i .i64))) :: ru 3 (.l i6 :: ru 20 [])), []⟩ [(0, ⟨(ru 26 []), []⟩)] true (.seq (.seq .no .no) (.seq (.blk (.seq .no (.cond .no .no))) .no))))) .no)))) func77 mixed ctabOk_nil (by kernel_rfl) fun x => by kernel_rfl
def F29 (K : Nat) (x : Int × Int × Int × Int × Int × Int × Int × Int × Int × Int × Bool × Bool × (List UInt8) × Int × Int × (List UInt8) × Int × Bool × Int × (List UInt8) × (List UInt8) × (List Int) × Int × MM) : Option (Bool) :=
  bindO (F75 K (x.1, x.2.1, x.2.2.1, x.2.2.2.1, pr4 x, pr5 x, pr6 x, pr7 x, pr8 x, pr9 x, pr10 x, pr11 x, pr23 x, pr24 x, (q24 x).2.1, (q24 x).2.2.1, (q24 x).2.2.2.1, pr4 (q24 x), pr5 (q24 x), pr6 (q24 x), pr7 (q24 x), pr8 (q24 x), pr9 (q24 x), pr10 (q24 x))) fun v0 =>
  branch (!v0)
   (some false)
   (bindO (F76 K (pr12 x, pr13 x, pr14 x, pr15 x, pr16 x, pr17 x, pr18 x, pr11 (q24 x), pr12 (q24 x), pr13 (q24 x), pr14 (q24 x), pr15 (q24 x), pr16 (q24 x), pr17 (q24 x))) fun v1 =>
   branch (!v1)
    (some false)
    (branch (!(decide ((pr19 x) = (pr18 (q24 x)))))
     (some false)
     (branch (!(decide ((pr20 x) = (pr19 (q24 x)))))
      (some false)
      (bindO (F77 K (pr21 x, pr20 (q24 x))) fun v2 =>
      branch (!v2)
       (some false)
       (branch (!(decide ((pr22 x) = (er21 (q24 x)))))
        (some false)
        (some true))))))
def ct29 (K : Nat) : Ct := ⟨[.agg mL, .agg mL], [], [.l (.v .b)], [], [], F29 K⟩
theorem c29 (K : Nat) : CtOk prog 29 (ct29 K) :=
  con_mk (Y := Y) (K := K) (an := (.seq .no (.seq (.seq .no (.cond .no .no)) (.seq (.seq .no (.cond .no .no)) (.seq (.seq .no (.cond .no .no)) (.seq (.seq .no (.cond .no .no)) (.seq (.seq .no (.cond .no .no)) (.seq (.seq .no (.cond .no .no)) .no)))))))) func29 mixed (ctabOk_cons (c75 K) (ctabOk_cons (c76 K) (ctabOk_cons (c77 K) ctabOk_nil))) (by kernel_rfl) fun x => by kernel_rfl
def F78_b0 (K : Nat) (x : Int × Int × List Int) : Option ((Int × Int × List Int) ⊕ (Int × List Int)) :=
  branch (decide (x.2.1 < (x.2.2.length : Int)))
   (guard (decide (0 ≤ x.2.1 ∧ x.2.1 < (x.2.2.length : Int))) <|
   nthN x.2.2 x.2.1.toNat fun v0 =>
   some (.inl (w64 (x.1 + 1), w64 (x.2.1 + 1), List.set x.2.2 x.2.1.toNat x.1)))
   (some (.inr (x.1, x.2.2)))
def F78 (K : Nat) (x : Int × List Int) : Option (Int × List Int) :=
  bindO (iter K (F78_b0 K) (x.1, 0, x.2)) fun v0 =>
  some v0
def ct78 (K : Nat) : Ct := ⟨[.l (.all 0), .l i6], [⟨1, false, .row (.i .i64)⟩], [.l i6], [⟨1, false, .row (.i .i64)⟩], [true], F78 K⟩
theorem c78 (K : Nat) : CtOk prog 78 (ct78 K) :=
  con_mk (Y := Y) (K := K) (an := (.seq .no (.seq (.seq .no (.blk (.loop [] ⟨(.l (.all 0) :: .l i6 :: ru 3 (.l i6 :: ru 13 [])), [(0, ⟨1, false, .row (.i .i64)⟩)]⟩ [(0, ⟨(ru 1 (.l i6 :: ru 17 [])), [(0, ⟨1, false, .row (.i .i64)⟩)]⟩)] false (.seq (.seq .no .no) (.seq (.blk .no) .no))))) .no))) func78 mixed ctabOk_nil (by kernel_rfl) fun x => by kernel_rfl
def F30 (K : Nat) (x : Int × Int × Int × Int × Int × Int × Int × Int × Int × Int × Bool × Bool × (List UInt8) × Int × Int × (List UInt8) × Int × Bool × Int × (List UInt8) × (List UInt8) × Int × Int × List Int) : Option (Int × List Int) :=
  bindO (F78 K x.2.2.2.2.2.2.2.2.2.2.2.2.2.2.2.2.2.2.2.2.2.2) fun v0 =>
  some v0
def ct30 (K : Nat) : Ct := ⟨[.agg [i6, i6, i6, i6, i6, i6, i6, i6, i6, i6, (.v .b), (.v .b), (.v .s), i6, i6, (.v .s), i6, (.v .b), i6, (.v .s), (.v .s), (.all 0), i6], .l i6], [⟨1, false, .row (.i .i64)⟩], [.l i6], [⟨1, false, .row (.i .i64)⟩], [true], F30 K⟩
theorem c30 (K : Nat) : CtOk prog 30 (ct30 K) :=
  con_mk (Y := Y) (K := K) (an := (.seq .no (.seq .no .no))) func30 mixed (ctabOk_cons (c78 K) ctabOk_nil) (by kernel_rfl) fun x => by kernel_rfl
def F79_b0 (K : Nat) (x : (List Int) × Int × Int) : Option (((List Int) × Int × Int) ⊕ (Int ⊕ Int)) :=
  branch (decide (x.2.2 < (x.1.length : Int)))
   (nth x.1 x.2.2 fun v0 =>
   branch (!(decide (v0 = x.2.1)))
    (some (.inr (.inl (-1))))
    (some (.inl (x.1, w64 (x.2.1 + 1), w64 (x.2.2 + 1)))))
   (some (.inr (.inr x.2.1)))
def F79 (K : Nat) (x : (List Int) × Int) : Option (Int) :=
  bindO (iter K (F79_b0 K) (x.1, x.2, 0)) fun v0 =>
  csO v0
   (fun v1 => some v1)
   (fun v2 => some v2)
def ct79 (K : Nat) : Ct := ⟨[.l (.v (.l (.i .i64))), .l i6], [], [.l i6], [], [], F79 K⟩
theorem c79 (K : Nat) : CtOk prog 79 (ct79 K) :=
  con_mk (Y := Y) (K := K) (an := (.seq .no (.seq (.seq .no (.blk (.loop [] ⟨(.l (.v (.l (.i .i64))) :: .l i6 :: ru 3 (.l i6 :: ru 15 [])), []⟩ [(0, ⟨(ru 1 (.l i6 :: ru 19 [])), []⟩)] true (.seq (.seq .no .no) (.seq (.blk (.seq (.seq .no (.cond .no .no)) .no)) .no))))) .no))) func79 mixed ctabOk_nil (by kernel_rfl) fun x => by kernel_rfl
def F31 (K : Nat) (x : Int × Int × Int × Int × Int × Int × Int × Int × Int × Int × Bool × Bool × (List UInt8) × Int × Int × (List UInt8) × Int × Bool × Int × (List UInt8) × (List UInt8) × (List Int) × Int × Int) : Option (Int) :=
  bindO (F79 K (x.2.2.2.2.2.2.2.2.2.2.2.2.2.2.2.2.2.2.2.2.2.1, x.2.2.2.2.2.2.2.2.2.2.2.2.2.2.2.2.2.2.2.2.2.2.2)) fun v0 =>
  branch (decide (v0 < 0))
   (some (-1))
   (some v0)
def ct31 (K : Nat) : Ct := ⟨[.agg mL, .l i6], [], [.l i6], [], [], F31 K⟩
theorem c31 (K : Nat) : CtOk prog 31 (ct31 K) :=
  con_mk (Y := Y) (K := K) (an := (.seq .no (.seq .no (.seq (.seq .no (.cond .no .no)) .no)))) func31 mixed (ctabOk_cons (c79 K) ctabOk_nil) (by kernel_rfl) fun x => by kernel_rfl
def T49 : Ty := (.c (.c (.i .i64) (.c (.i .i64) (.c (.i .i64) (.c (.i .i64) (.c (.i .i64) (.c (.i .i64) (.c (.i .i64) (.c (.i .i64) (.c (.i .i64) (.c (.i .i64) (.c .b .b))))))))))) (.c (.c .s (.c (.i .i64) (.c (.i .i64) (.c .s (.c (.i .i64) (.c .b (.i .i64))))))) (.c .s (.c .s (.c (.l (.i .i64)) (.i .i64))))))
theorem tl49 : tyL prog 64 49 = some T49 := by kernel_rfl
def T2 : Ty := (.i .i64)
theorem tl2 : tyL prog 64 2 = some T2 := by kernel_rfl
end Go.U.Tryz
