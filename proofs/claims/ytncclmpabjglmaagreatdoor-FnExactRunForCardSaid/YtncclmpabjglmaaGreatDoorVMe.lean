/- A part of the proof. No condition. -/
import Derived.Test.YtncclmpabjglmaaGreatDoorVMs
set_option linter.unusedVariables false
set_option linter.unusedSimpArgs false
set_option linter.unusedSectionVars false
namespace Go.U.Tryz
open Go Go.U Go.Proofs Go.Proofs.Tryz
set_option maxRecDepth 100000
set_option linter.unusedVariables false
def F61o (K : Nat) (x : MM) : Option (Int × Int × Int × Int × Int × Int × Int × Int × Int × Int × Bool × Bool × (List UInt8) × Int × Int × (List UInt8) × Int × Bool × Int × (List UInt8) × (List UInt8) × Int × List Int) :=
  bindO (F111 K x.2.2.2.2.2.2.2.2.2.2.2.2.2.2.2.2.2.2.2.2.2.1) fun v0 =>
  some (x.1, x.2.1, x.2.2.1, x.2.2.2.1, x.2.2.2.2.1, x.2.2.2.2.2.1, x.2.2.2.2.2.2.1, x.2.2.2.2.2.2.2.1, x.2.2.2.2.2.2.2.2.1, x.2.2.2.2.2.2.2.2.2.1, x.2.2.2.2.2.2.2.2.2.2.1, x.2.2.2.2.2.2.2.2.2.2.2.1, x.2.2.2.2.2.2.2.2.2.2.2.2.1, x.2.2.2.2.2.2.2.2.2.2.2.2.2.1, x.2.2.2.2.2.2.2.2.2.2.2.2.2.2.1, x.2.2.2.2.2.2.2.2.2.2.2.2.2.2.2.1, x.2.2.2.2.2.2.2.2.2.2.2.2.2.2.2.2.1, x.2.2.2.2.2.2.2.2.2.2.2.2.2.2.2.2.2.1, x.2.2.2.2.2.2.2.2.2.2.2.2.2.2.2.2.2.2.1, x.2.2.2.2.2.2.2.2.2.2.2.2.2.2.2.2.2.2.2.1, x.2.2.2.2.2.2.2.2.2.2.2.2.2.2.2.2.2.2.2.2.1, x.2.2.2.2.2.2.2.2.2.2.2.2.2.2.2.2.2.2.2.2.2.2, v0)
def ct61o (K : Nat) : Ct := ⟨[.agg mL], [], [.agg [i6, i6, i6, i6, i6, i6, i6, i6, i6, i6, (.v .b), (.v .b), (.v .s), i6, i6, (.v .s), i6, (.v .b), i6, (.v .s), (.v .s), (.all 0), i6]], [⟨1, true, .row (.i .i64)⟩], [], F61o K⟩
theorem c61o (K : Nat) : CtOk prog 61 (ct61o K) :=
  con_mk (Y := Y) (L := [(111, ct111 K)]) (K := K) (an := (.seq .no (.seq .no .no))) func61 mixed (ctabOk_cons (c111 K) ctabOk_nil) (by kernel_rfl) fun x => by kernel_rfl
def F22 (K : Nat) (x : MM) : Option (Int × Int × Int × Int × Int × Int × Int × Int × Int × Int × Bool × Bool × (List UInt8) × Int × Int × (List UInt8) × Int × Bool × Int × (List UInt8) × (List UInt8) × Int × Int × List Int) :=
  bindO (F32 K x) fun v0 =>
  branch (!v0)
   (some (0, 0, 0, 0, 0, 0, 0, 0, 0, 0, false, false, [], 0, 0, [], 0, false, 0, [], [], 0, 3, []))
   (bindO (F60 K x) fun v1 =>
   bindO (F61o K (v1.1, v1.2.1, v1.2.2.1, v1.2.2.2.1, v1.2.2.2.2.1, v1.2.2.2.2.2.1, v1.2.2.2.2.2.2.1, v1.2.2.2.2.2.2.2.1, v1.2.2.2.2.2.2.2.2.1, v1.2.2.2.2.2.2.2.2.2.1, v1.2.2.2.2.2.2.2.2.2.2.1, v1.2.2.2.2.2.2.2.2.2.2.2.1, v1.2.2.2.2.2.2.2.2.2.2.2.2.1, v1.2.2.2.2.2.2.2.2.2.2.2.2.2.1, v1.2.2.2.2.2.2.2.2.2.2.2.2.2.2.1, v1.2.2.2.2.2.2.2.2.2.2.2.2.2.2.2.1, v1.2.2.2.2.2.2.2.2.2.2.2.2.2.2.2.2.1, v1.2.2.2.2.2.2.2.2.2.2.2.2.2.2.2.2.2.1, v1.2.2.2.2.2.2.2.2.2.2.2.2.2.2.2.2.2.2.1, v1.2.2.2.2.2.2.2.2.2.2.2.2.2.2.2.2.2.2.2.1, v1.2.2.2.2.2.2.2.2.2.2.2.2.2.2.2.2.2.2.2.2.1, v1.2.2.2.2.2.2.2.2.2.2.2.2.2.2.2.2.2.2.2.2.2.1, v1.2.2.2.2.2.2.2.2.2.2.2.2.2.2.2.2.2.2.2.2.2.2.1)) fun v2 =>
   some (v2.1, v2.2.1, v2.2.2.1, v2.2.2.2.1, v2.2.2.2.2.1, v2.2.2.2.2.2.1, v2.2.2.2.2.2.2.1, v2.2.2.2.2.2.2.2.1, v2.2.2.2.2.2.2.2.2.1, v2.2.2.2.2.2.2.2.2.2.1, v2.2.2.2.2.2.2.2.2.2.2.1, v2.2.2.2.2.2.2.2.2.2.2.2.1, v2.2.2.2.2.2.2.2.2.2.2.2.2.1, v2.2.2.2.2.2.2.2.2.2.2.2.2.2.1, v2.2.2.2.2.2.2.2.2.2.2.2.2.2.2.1, v2.2.2.2.2.2.2.2.2.2.2.2.2.2.2.2.1, v2.2.2.2.2.2.2.2.2.2.2.2.2.2.2.2.2.1, v2.2.2.2.2.2.2.2.2.2.2.2.2.2.2.2.2.2.1, v2.2.2.2.2.2.2.2.2.2.2.2.2.2.2.2.2.2.2.1, v2.2.2.2.2.2.2.2.2.2.2.2.2.2.2.2.2.2.2.2.1, v2.2.2.2.2.2.2.2.2.2.2.2.2.2.2.2.2.2.2.2.2.1, v2.2.2.2.2.2.2.2.2.2.2.2.2.2.2.2.2.2.2.2.2.2.1, v1.2.2.2.2.2.2.2.2.2.2.2.2.2.2.2.2.2.2.2.2.2.2.2, v2.2.2.2.2.2.2.2.2.2.2.2.2.2.2.2.2.2.2.2.2.2.2))
def ct22 (K : Nat) : Ct := ⟨[.agg mL], [], [.agg [i6, i6, i6, i6, i6, i6, i6, i6, i6, i6, (.v .b), (.v .b), (.v .s), i6, i6, (.v .s), i6, (.v .b), i6, (.v .s), (.v .s), (.all 0), i6], .l i6], [⟨1, true, .row (.i .i64)⟩], [], F22 K⟩
def F56 (K : Nat) (x : MM) : Option (Bool) :=
  some false
def ct56 (K : Nat) : Ct := ⟨[.agg mL], [], [.l (.v .b)], [], [], F56 K⟩
theorem c56 (K : Nat) : CtOk prog 56 (ct56 K) :=
  con_mk (Y := Y) (L := []) (K := K) (an := (.seq .no .no)) func56 mixed ctabOk_nil (by kernel_rfl) fun x => by kernel_rfl
def F55n_b0 (K : Nat) (x : Int × Int × Int × Int × Int × Int × Int × Int × Int × Int × Int × Int × Int × Bool × Bool × (List UInt8) × Int × Int × (List UInt8) × Int × Bool × Int × (List UInt8) × (List UInt8) × (List Int) × Int × MM) : Option ((Int × Int × Int × Int × Int × Int × Int × Int × Int × Int × Int × Int × Int × Bool × Bool × (List UInt8) × Int × Int × (List UInt8) × Int × Bool × Int × (List UInt8) × (List UInt8) × (List Int) × Int × MM) ⊕ (Int × Int × Int × Int × Int × Int × Int × Int × Int × Int × Int × Int × Bool × Bool × (List UInt8) × Int × Int × (List UInt8) × Int × Bool × Int × (List UInt8) × (List UInt8) × (List Int) × Int × MM)) :=
  branch (decide (x.2.2.1 < x.1))
   (bindO (F60 K (q8 (q8 (q8 x))).2.2) fun v0 =>
   branch (!(decide ((q8 (q8 v0)).2.2.2.2.2.2.2 = 0)))
    (some (.inr ((q8 (q8 v0)).2.2.2.2.2.2.2, x.2.2)))
    (bindO (F56 K (v0.1, v0.2.1, v0.2.2.1, v0.2.2.2.1, v0.2.2.2.2.1, v0.2.2.2.2.2.1, v0.2.2.2.2.2.2.1, v0.2.2.2.2.2.2.2.1, v0.2.2.2.2.2.2.2.2.1, v0.2.2.2.2.2.2.2.2.2.1, (q8 v0).2.2.1, (q8 v0).2.2.2.1, (q8 v0).2.2.2.2.1, (q8 v0).2.2.2.2.2.1, (q8 v0).2.2.2.2.2.2.1, (q8 v0).2.2.2.2.2.2.2.1, (q8 (q8 v0)).1, (q8 (q8 v0)).2.1, (q8 (q8 v0)).2.2.1, (q8 (q8 v0)).2.2.2.1, (q8 (q8 v0)).2.2.2.2.1, (q8 (q8 v0)).2.2.2.2.2.1, (q8 (q8 v0)).2.2.2.2.2.2.1)) fun v1 =>
    branch v1
     (some (.inr ((q8 (q8 v0)).2.2.2.2.2.2.2, w64 (x.2.2.1 + 1), x.2.2.2.1, x.2.2.2.2.1, x.2.2.2.2.2.1, x.2.2.2.2.2.2.1, x.2.2.2.2.2.2.2.1, x.2.2.2.2.2.2.2.2.1, x.2.2.2.2.2.2.2.2.2.1, (q8 x).2.2.1, (q8 x).2.2.2.1, (q8 x).2.2.2.2.1, (q8 x).2.2.2.2.2.1, (q8 x).2.2.2.2.2.2.1, (q8 x).2.2.2.2.2.2.2.1, (q8 (q8 x)).1, (q8 (q8 x)).2.1, (q8 (q8 x)).2.2.1, (q8 (q8 x)).2.2.2.1, (q8 (q8 x)).2.2.2.2.1, (q8 (q8 x)).2.2.2.2.2.1, (q8 (q8 x)).2.2.2.2.2.2.1, (q8 (q8 x)).2.2.2.2.2.2.2.1, (q8 (q8 (q8 x))).1, (q8 (q8 (q8 x))).2.1, v0.1, v0.2.1, v0.2.2.1, v0.2.2.2.1, v0.2.2.2.2.1, v0.2.2.2.2.2.1, v0.2.2.2.2.2.2.1, v0.2.2.2.2.2.2.2.1, v0.2.2.2.2.2.2.2.2.1, v0.2.2.2.2.2.2.2.2.2.1, (q8 v0).2.2.1, (q8 v0).2.2.2.1, (q8 v0).2.2.2.2.1, (q8 v0).2.2.2.2.2.1, (q8 v0).2.2.2.2.2.2.1, (q8 v0).2.2.2.2.2.2.2.1, (q8 (q8 v0)).1, (q8 (q8 v0)).2.1, (q8 (q8 v0)).2.2.1, (q8 (q8 v0)).2.2.2.1, (q8 (q8 v0)).2.2.2.2.1, (q8 (q8 v0)).2.2.2.2.2.1, (q8 (q8 v0)).2.2.2.2.2.2.1)))
     (some (.inl (x.1, (q8 (q8 v0)).2.2.2.2.2.2.2, w64 (x.2.2.1 + 1), x.2.2.2.1, x.2.2.2.2.1, x.2.2.2.2.2.1, x.2.2.2.2.2.2.1, x.2.2.2.2.2.2.2.1, x.2.2.2.2.2.2.2.2.1, x.2.2.2.2.2.2.2.2.2.1, (q8 x).2.2.1, (q8 x).2.2.2.1, (q8 x).2.2.2.2.1, (q8 x).2.2.2.2.2.1, (q8 x).2.2.2.2.2.2.1, (q8 x).2.2.2.2.2.2.2.1, (q8 (q8 x)).1, (q8 (q8 x)).2.1, (q8 (q8 x)).2.2.1, (q8 (q8 x)).2.2.2.1, (q8 (q8 x)).2.2.2.2.1, (q8 (q8 x)).2.2.2.2.2.1, (q8 (q8 x)).2.2.2.2.2.2.1, (q8 (q8 x)).2.2.2.2.2.2.2.1, (q8 (q8 (q8 x))).1, (q8 (q8 (q8 x))).2.1, v0.1, v0.2.1, v0.2.2.1, v0.2.2.2.1, v0.2.2.2.2.1, v0.2.2.2.2.2.1, v0.2.2.2.2.2.2.1, v0.2.2.2.2.2.2.2.1, v0.2.2.2.2.2.2.2.2.1, v0.2.2.2.2.2.2.2.2.2.1, (q8 v0).2.2.1, (q8 v0).2.2.2.1, (q8 v0).2.2.2.2.1, (q8 v0).2.2.2.2.2.1, (q8 v0).2.2.2.2.2.2.1, (q8 v0).2.2.2.2.2.2.2.1, (q8 (q8 v0)).1, (q8 (q8 v0)).2.1, (q8 (q8 v0)).2.2.1, (q8 (q8 v0)).2.2.2.1, (q8 (q8 v0)).2.2.2.2.1, (q8 (q8 v0)).2.2.2.2.2.1, (q8 (q8 v0)).2.2.2.2.2.2.1)))))
   (some (.inr x.2))
def F55n (K : Nat) (x : Int × Int × Int × Int × Int × Int × Int × Int × Int × Int × Bool × Bool × (List UInt8) × Int × Int × (List UInt8) × Int × Bool × Int × (List UInt8) × (List UInt8) × (List Int) × Int × Int) : Option (Int × Int × Int × Int × Int × Int × Int × Int × Int × Int × Bool × Bool × (List UInt8) × Int × Int × (List UInt8) × Int × Bool × Int × (List UInt8) × (List UInt8) × Int × Int × Int × List Int) :=
  bindO (iter K (F55n_b0 K) ((q8 (q8 x)).2.2.2.2.2.2.2, 0, 0, 0, 0, 0, 0, 0, 0, 0, 0, 0, 0, false, false, [], 0, 0, [], 0, false, 0, [], [], [], 0, x.1, x.2.1, x.2.2.1, x.2.2.2.1, x.2.2.2.2.1, x.2.2.2.2.2.1, x.2.2.2.2.2.2.1, x.2.2.2.2.2.2.2.1, x.2.2.2.2.2.2.2.2.1, x.2.2.2.2.2.2.2.2.2.1, (q8 x).2.2.1, (q8 x).2.2.2.1, (q8 x).2.2.2.2.1, (q8 x).2.2.2.2.2.1, (q8 x).2.2.2.2.2.2.1, (q8 x).2.2.2.2.2.2.2.1, (q8 (q8 x)).1, (q8 (q8 x)).2.1, (q8 (q8 x)).2.2.1, (q8 (q8 x)).2.2.2.1, (q8 (q8 x)).2.2.2.2.1, (q8 (q8 x)).2.2.2.2.2.1, (q8 (q8 x)).2.2.2.2.2.2.1)) fun v0 =>
  bindO (F61o K (q8 (q8 (q8 v0))).2) fun v1 =>
  some (v1.1, v1.2.1, v1.2.2.1, v1.2.2.2.1, v1.2.2.2.2.1, v1.2.2.2.2.2.1, v1.2.2.2.2.2.2.1, v1.2.2.2.2.2.2.2.1, v1.2.2.2.2.2.2.2.2.1, v1.2.2.2.2.2.2.2.2.2.1, (q8 v1).2.2.1, (q8 v1).2.2.2.1, (q8 v1).2.2.2.2.1, (q8 v1).2.2.2.2.2.1, (q8 v1).2.2.2.2.2.2.1, (q8 v1).2.2.2.2.2.2.2.1, (q8 (q8 v1)).1, (q8 (q8 v1)).2.1, (q8 (q8 v1)).2.2.1, (q8 (q8 v1)).2.2.2.1, (q8 (q8 v1)).2.2.2.2.1, (q8 (q8 v1)).2.2.2.2.2.1, v0.1, v0.2.1, (q8 (q8 v1)).2.2.2.2.2.2)
def ct55n (K : Nat) : Ct := ⟨[.agg mL, .l i6, .clo 56 []], [], [.agg [i6, i6, i6, i6, i6, i6, i6, i6, i6, i6, (.v .b), (.v .b), (.v .s), i6, i6, (.v .s), i6, (.v .b), i6, (.v .s), (.v .s), (.all 0), i6], .l i6, .l i6], [⟨1, true, .row (.i .i64)⟩], [], F55n K⟩
theorem c55n (K : Nat) : CtOk prog 55 (ct55n K) :=
  con_mk (Y := Y) (L := [(60, ct60 K), (61, ct61o K), (56, ct56 K)]) (K := K) (an := (.seq .no (.seq .no (.seq (.blk (.loop [] ⟨(ru 1 (.l i6 :: .clo 56 [] :: .l (.ptr 4000 0 0) :: ru 2 (.l (.ptr 7000 0 0) :: ru 2 (.l i6 :: .l i6 :: ru 23 [])))), [(7000, ⟨23, false, .mix (some 30) [mN]⟩), (4000, ⟨23, false, .mix (some 30) [mN]⟩)]⟩ [(0, ⟨(ru 3 (.l (.ptr 4000 0 0) :: ru 2 (.l (.ptr 7000 0 0) :: ru 2 (.l i6 :: .l i6 :: ru 23 [])))), [(7000, ⟨23, false, .mix (some 30) [mN]⟩), (4000, ⟨23, false, .mix (some 30) [mN]⟩)]⟩)] false (.seq (.seq .no .no) (.blk (.seq .no (.seq (.seq .no (.seq .no .no)) (.seq .no (.seq .no (.seq .no .no))))))))) .no)))) func55 mixed (ctabOk_cons (c60 K) (ctabOk_cons (c61o K) (ctabOk_cons (c56 K) ctabOk_nil))) (by kernel_rfl) fun x => by kernel_rfl
def F18 (K : Nat) (x : Int × Int × Int × Int × Int × Int × Int × Int × Int × Int × Bool × Bool × (List UInt8) × Int × Int × (List UInt8) × Int × Bool × Int × (List UInt8) × (List UInt8) × (List Int) × Int × Int) : Option (Int × Int × Int × Int × Int × Int × Int × Int × Int × Int × Bool × Bool × (List UInt8) × Int × Int × (List UInt8) × Int × Bool × Int × (List UInt8) × (List UInt8) × Int × Int × Int × List Int) :=
  bindO (α := (Int × Int × Int × Int × Int × Int × Int × Int × Int × Int × Bool × Bool × (List UInt8) × Int × Int × (List UInt8) × Int × Bool × Int × (List UInt8) × (List UInt8) × Int × Int × Int × List Int) ⊕ (Int × Int × Int × Int × Int × Int × Int × Int × Int × Int × Int × Bool × Bool × (List UInt8) × Int × Int × (List UInt8) × Int × Bool × Int × (List UInt8) × (List UInt8) × (List Int) × Int × MM)) (bindO (α := Int × Bool × Int × Int × Int × Int × Int × Int × Int × Int × Int × Int × Bool × Bool × (List UInt8) × Int × Int × (List UInt8) × Int × Bool × Int × (List UInt8) × (List UInt8) × (List Int) × Int × MM) (bindO (F32 K (x.1, x.2.1, x.2.2.1, x.2.2.2.1, x.2.2.2.2.1, x.2.2.2.2.2.1, x.2.2.2.2.2.2.1, x.2.2.2.2.2.2.2.1, x.2.2.2.2.2.2.2.2.1, x.2.2.2.2.2.2.2.2.2.1, (q8 x).2.2.1, (q8 x).2.2.2.1, (q8 x).2.2.2.2.1, (q8 x).2.2.2.2.2.1, (q8 x).2.2.2.2.2.2.1, (q8 x).2.2.2.2.2.2.2.1, (q8 (q8 x)).1, (q8 (q8 x)).2.1, (q8 (q8 x)).2.2.1, (q8 (q8 x)).2.2.2.1, (q8 (q8 x)).2.2.2.2.1, (q8 (q8 x)).2.2.2.2.2.1, (q8 (q8 x)).2.2.2.2.2.2.1)) fun v0 =>
      branch (!v0)
       (some ((q8 (q8 x)).2.2.2.2.2.2.2, true, 0, 0, 0, 0, 0, 0, 0, 0, 0, 0, false, false, [], 0, 0, [], 0, false, 0, [], [], [], 0, x.1, x.2.1, x.2.2.1, x.2.2.2.1, x.2.2.2.2.1, x.2.2.2.2.2.1, x.2.2.2.2.2.2.1, x.2.2.2.2.2.2.2.1, x.2.2.2.2.2.2.2.2.1, x.2.2.2.2.2.2.2.2.2.1, (q8 x).2.2.1, (q8 x).2.2.2.1, (q8 x).2.2.2.2.1, (q8 x).2.2.2.2.2.1, (q8 x).2.2.2.2.2.2.1, (q8 x).2.2.2.2.2.2.2.1, (q8 (q8 x)).1, (q8 (q8 x)).2.1, (q8 (q8 x)).2.2.1, (q8 (q8 x)).2.2.2.1, (q8 (q8 x)).2.2.2.2.1, (q8 (q8 x)).2.2.2.2.2.1, (q8 (q8 x)).2.2.2.2.2.2.1))
       (bindO (F54 K ((q8 (q8 x)).2.2.2.2.2.2.2, 0, 500)) fun v1 =>
       some ((q8 (q8 x)).2.2.2.2.2.2.2, !v1, 0, 0, 0, 0, 0, 0, 0, 0, 0, 0, false, false, [], 0, 0, [], 0, false, 0, [], [], [], 0, x.1, x.2.1, x.2.2.1, x.2.2.2.1, x.2.2.2.2.1, x.2.2.2.2.2.1, x.2.2.2.2.2.2.1, x.2.2.2.2.2.2.2.1, x.2.2.2.2.2.2.2.2.1, x.2.2.2.2.2.2.2.2.2.1, (q8 x).2.2.1, (q8 x).2.2.2.1, (q8 x).2.2.2.2.1, (q8 x).2.2.2.2.2.1, (q8 x).2.2.2.2.2.2.1, (q8 x).2.2.2.2.2.2.2.1, (q8 (q8 x)).1, (q8 (q8 x)).2.1, (q8 (q8 x)).2.2.1, (q8 (q8 x)).2.2.2.1, (q8 (q8 x)).2.2.2.2.1, (q8 (q8 x)).2.2.2.2.2.1, (q8 (q8 x)).2.2.2.2.2.2.1))) fun v2 =>
    branch v2.2.1
     (some (.inl (0, 0, 0, 0, 0, 0, 0, 0, 0, 0, false, false, [], 0, 0, [], 0, false, 0, [], [], 0, 3, 0, [])))
     (some (.inr (v2.1, v2.2.2)))) fun v3 =>
  csO v3
   (fun v4 => some v4)
   (fun v5 => bindO (F55n K ((q8 (q8 (q8 v5))).1, (q8 (q8 (q8 v5))).2.1, (q8 (q8 (q8 v5))).2.2.1, (q8 (q8 (q8 v5))).2.2.2.1, (q8 (q8 (q8 v5))).2.2.2.2.1, (q8 (q8 (q8 v5))).2.2.2.2.2.1, (q8 (q8 (q8 v5))).2.2.2.2.2.2.1, (q8 (q8 (q8 v5))).2.2.2.2.2.2.2.1, (q8 (q8 (q8 (q8 v5)))).1, (q8 (q8 (q8 (q8 v5)))).2.1, (q8 (q8 (q8 (q8 v5)))).2.2.1, (q8 (q8 (q8 (q8 v5)))).2.2.2.1, (q8 (q8 (q8 (q8 v5)))).2.2.2.2.1, (q8 (q8 (q8 (q8 v5)))).2.2.2.2.2.1, (q8 (q8 (q8 (q8 v5)))).2.2.2.2.2.2.1, (q8 (q8 (q8 (q8 v5)))).2.2.2.2.2.2.2.1, (q8 (q8 (q8 (q8 (q8 v5))))).1, (q8 (q8 (q8 (q8 (q8 v5))))).2.1, (q8 (q8 (q8 (q8 (q8 v5))))).2.2.1, (q8 (q8 (q8 (q8 (q8 v5))))).2.2.2.1, (q8 (q8 (q8 (q8 (q8 v5))))).2.2.2.2.1, (q8 (q8 (q8 (q8 (q8 v5))))).2.2.2.2.2.1, (q8 (q8 (q8 (q8 (q8 v5))))).2.2.2.2.2.2, v5.1)) fun v6 =>
   some v6)
def ct18 (K : Nat) : Ct := ⟨[.agg mL, .l i6], [], [.agg [i6, i6, i6, i6, i6, i6, i6, i6, i6, i6, (.v .b), (.v .b), (.v .s), i6, i6, (.v .s), i6, (.v .b), i6, (.v .s), (.v .s), (.all 0), i6], .l i6, .l i6], [⟨1, true, .row (.i .i64)⟩], [], F18 K⟩
theorem c18 (K : Nat) : CtOk prog 18 (ct18 K) :=
  con_mk (Y := Y) (L := [(54, ct54 K), (32, ct32 K), (56, ct56 K), (55, ct55n K)]) (K := K) (an := (.seq .no (.seqJ [(1000000, ⟨(ru 1 (.l i6 :: .l (.ptr 3000 0 0) :: ru 1 (.l (.ptr 5000 0 0) :: ru 17 []))), [(5000, ⟨23, false, .mix (some 30) [mN]⟩), (3000, ⟨23, false, .mix (some 30) [mN]⟩)]⟩)] true (.seqJ [(1000000, ⟨(ru 1 (.l i6 :: .l (.ptr 3000 0 0) :: ru 1 (.l (.ptr 5000 0 0) :: ru 9 (.l (.v .b) :: ru 7 [])))), [(5000, ⟨23, false, .mix (some 30) [mN]⟩), (3000, ⟨23, false, .mix (some 30) [mN]⟩)]⟩)] false .no (.cond (.seq (.reg [] [(2, .vcell 5000 21 9900 1 (.i .i64))]) .no) .no)) .no))) func18 mixed (ctabOk_cons (c54 K) (ctabOk_cons (c32 K) (ctabOk_cons (c56 K) (ctabOk_cons (c55n K) ctabOk_nil)))) (by kernel_rfl) fun x => by kernel_rfl
def F70 (K : Nat) (x : (List UInt8) × Int × Int × (List UInt8) × Int × Bool × Int × Int) : Option (Int) :=
  branch (decide ((w64 (x.2.2.2.2.2.2.2 - (x.1.length : Int))) < 0))
   (some (-1))
   (branch (decide ((w64 ((w64 (x.2.2.2.2.2.2.2 - (x.1.length : Int))) - (x.2.2.2.1.length : Int))) < 0))
    (some (-1))
    (some (w64 ((w64 (x.2.2.2.2.2.2.2 - (x.1.length : Int))) - (x.2.2.2.1.length : Int)))))
def ct70 (K : Nat) : Ct := ⟨[.agg [(.v .s), i6, i6, (.v .s), i6, (.v .b), i6], .l i6], [], [.l i6], [], [], F70 K⟩
theorem c70 (K : Nat) : CtOk prog 70 (ct70 K) :=
  con_mk (Y := Y) (L := []) (K := K) (an := (.seq .no (.seq .no (.seq (.seq .no (.cond .no .no)) (.seq .no (.seq (.seq .no (.cond .no .no)) .no)))))) func70 mixed ctabOk_nil (by kernel_rfl) fun x => by kernel_rfl
def F71 (K : Nat) (x : (List Int) × Int) : Option (Int) :=
  branch (decide ((w64 (x.2 - (x.1.length : Int))) < 0))
   (some (-1))
   (some (w64 (x.2 - (x.1.length : Int))))
def ct71 (K : Nat) : Ct := ⟨[.l (.v (.l (.i .i64))), .l i6], [], [.l i6], [], [], F71 K⟩
theorem c71 (K : Nat) : CtOk prog 71 (ct71 K) :=
  con_mk (Y := Y) (L := []) (K := K) (an := (.seq .no (.seq .no (.seq (.seq .no (.cond .no .no)) .no)))) func71 mixed ctabOk_nil (by kernel_rfl) fun x => by kernel_rfl
def F27 (K : Nat) (x : Int × Int × Int × Int × Int × Int × Int × Int × Int × Int × Bool × Bool × (List UInt8) × Int × Int × (List UInt8) × Int × Bool × Int × (List UInt8) × (List UInt8) × (List Int) × Int × Int) : Option (Int) :=
  bindO (F70 K (x.2.2.2.2.2.2.2.2.2.2.2.2.1, x.2.2.2.2.2.2.2.2.2.2.2.2.2.1, x.2.2.2.2.2.2.2.2.2.2.2.2.2.2.1, x.2.2.2.2.2.2.2.2.2.2.2.2.2.2.2.1, x.2.2.2.2.2.2.2.2.2.2.2.2.2.2.2.2.1, x.2.2.2.2.2.2.2.2.2.2.2.2.2.2.2.2.2.1, x.2.2.2.2.2.2.2.2.2.2.2.2.2.2.2.2.2.2.1, x.2.2.2.2.2.2.2.2.2.2.2.2.2.2.2.2.2.2.2.2.2.2.2)) fun v0 =>
  branch (decide (v0 < 0))
   (some (-1))
   (branch (decide ((w64 (v0 - (x.2.2.2.2.2.2.2.2.2.2.2.2.2.2.2.2.2.2.2.1.length : Int))) < 0))
    (some (-1))
    (branch (decide ((w64 ((w64 (v0 - (x.2.2.2.2.2.2.2.2.2.2.2.2.2.2.2.2.2.2.2.1.length : Int))) - (x.2.2.2.2.2.2.2.2.2.2.2.2.2.2.2.2.2.2.2.2.1.length : Int))) < 0))
     (some (-1))
     (bindO (F71 K (x.2.2.2.2.2.2.2.2.2.2.2.2.2.2.2.2.2.2.2.2.2.1, w64 ((w64 (v0 - (x.2.2.2.2.2.2.2.2.2.2.2.2.2.2.2.2.2.2.2.1.length : Int))) - (x.2.2.2.2.2.2.2.2.2.2.2.2.2.2.2.2.2.2.2.2.1.length : Int)))) fun v1 =>
     branch (decide (v1 < 0))
      (some (-1))
      (some v1))))
def ct27 (K : Nat) : Ct := ⟨[.agg mL, .l i6], [], [.l i6], [], [], F27 K⟩
theorem c27 (K : Nat) : CtOk prog 27 (ct27 K) :=
  con_mk (Y := Y) (L := [(70, ct70 K), (71, ct71 K)]) (K := K) (an := (.seq .no (.seq .no (.seq (.seq .no (.cond .no .no)) (.seq .no (.seq (.seq .no (.cond .no .no)) (.seq .no (.seq (.seq .no (.cond .no .no)) (.seq .no (.seq (.seq .no (.cond .no .no)) .no)))))))))) func27 mixed (ctabOk_cons (c70 K) (ctabOk_cons (c71 K) ctabOk_nil)) (by kernel_rfl) fun x => by kernel_rfl
def F72 (K : Nat) (x : Int × Int × Int × Int × Int × Int × Int × Int × Int × Int × Bool × Bool) : Option (Int × Int × Int × Int × Int × Int × Int × Int × Int × Int × Bool × Bool) :=
  some x
def ct72 (K : Nat) : Ct := ⟨[.agg [i6, i6, i6, i6, i6, i6, i6, i6, i6, i6, (.v .b), (.v .b)]], [], [.agg [i6, i6, i6, i6, i6, i6, i6, i6, i6, i6, (.v .b), (.v .b)]], [], [], F72 K⟩
theorem c72 (K : Nat) : CtOk prog 72 (ct72 K) :=
  con_mk (Y := Y) (L := []) (K := K) (an := (.seq .no (.seq .no (.seq .no (.seq .no (.seq .no (.seq .no (.seq .no (.seq .no (.seq .no (.seq .no (.seq .no (.seq .no (.seq .no (.seq .no .no))))))))))))))) func72 mixed ctabOk_nil (by kernel_rfl) fun x => by kernel_rfl
def F73 (K : Nat) (x : (List UInt8) × Int × Int × (List UInt8) × Int × Bool × Int) : Option ((List UInt8) × Int × Int × (List UInt8) × Int × Bool × Int) :=
  some x
def ct73 (K : Nat) : Ct := ⟨[.agg [(.v .s), i6, i6, (.v .s), i6, (.v .b), i6]], [], [.agg [(.v .s), i6, i6, (.v .s), i6, (.v .b), i6]], [], [], F73 K⟩
theorem c73 (K : Nat) : CtOk prog 73 (ct73 K) :=
  con_mk (Y := Y) (L := []) (K := K) (an := (.seq .no (.seq .no (.seq .no (.seq .no (.seq .no (.seq .no (.seq .no (.seq .no (.seq .no .no)))))))))) func73 mixed ctabOk_nil (by kernel_rfl) fun x => by kernel_rfl
def F74o_b0 (K : Nat) (x : (List Int) × Int × List Int) : Option (((List Int) × Int × List Int) ⊕ (List Int)) :=
  branch (decide (x.2.1 < (x.1.length : Int)))
   (nth x.1 x.2.1 fun v0 =>
   guard (decide (0 ≤ x.2.1 ∧ x.2.1 < (x.2.2.length : Int))) <|
   nthN x.2.2 x.2.1.toNat fun v1 =>
   some (.inl (x.1, w64 (x.2.1 + 1), List.set x.2.2 x.2.1.toNat v0)))
   (some (.inr x.2.2))
def F74o (K : Nat) (x : List Int) : Option (List Int) :=
  guard (decide ((x.length : Int) = (x.length : Int) ∧ 0 ≤ (x.length : Int) ∧ (8 * ((x.length : Int).toNat)) ≤ 281474976710656)) <|
  bindO (iter K (F74o_b0 K) (x, 0, List.replicate ((x.length : Int).toNat) 0)) fun v0 =>
  some v0
def ct74o (K : Nat) : Ct := ⟨[.l (.v (.l (.i .i64)))], [], [.l (.all 0)], [⟨1, true, .row (.i .i64)⟩], [], F74o K⟩
theorem c74o (K : Nat) : CtOk prog 74 (ct74o K) :=
  con_mk (Y := Y) (L := []) (K := K) (an := (.seq .no (.seq .no (.seq (.seq .no (.blk (.loop [] ⟨(.l (.v (.l (.i .i64))) :: ru 2 (.l (.all 8000) :: .l i6 :: ru 17 [])), [(8000, ⟨1, true, .row (.i .i64)⟩)]⟩ [(0, ⟨(ru 3 (.l (.all 8000) :: ru 18 [])), [(8000, ⟨1, true, .row (.i .i64)⟩)]⟩)] false (.seq (.seq .no .no) (.seq .no .no))))) .no)))) func74 mixed ctabOk_nil (by kernel_rfl) fun x => by kernel_rfl
def F28o (K : Nat) (x : MM) : Option (Int × Int × Int × Int × Int × Int × Int × Int × Int × Int × Bool × Bool × (List UInt8) × Int × Int × (List UInt8) × Int × Bool × Int × (List UInt8) × (List UInt8) × Int × List Int) :=
  bindO (F72 K (x.1, x.2.1, x.2.2.1, x.2.2.2.1, x.2.2.2.2.1, x.2.2.2.2.2.1, x.2.2.2.2.2.2.1, x.2.2.2.2.2.2.2.1, x.2.2.2.2.2.2.2.2.1, x.2.2.2.2.2.2.2.2.2.1, x.2.2.2.2.2.2.2.2.2.2.1, x.2.2.2.2.2.2.2.2.2.2.2.1)) fun v0 =>
  bindO (F73 K (x.2.2.2.2.2.2.2.2.2.2.2.2.1, x.2.2.2.2.2.2.2.2.2.2.2.2.2.1, x.2.2.2.2.2.2.2.2.2.2.2.2.2.2.1, x.2.2.2.2.2.2.2.2.2.2.2.2.2.2.2.1, x.2.2.2.2.2.2.2.2.2.2.2.2.2.2.2.2.1, x.2.2.2.2.2.2.2.2.2.2.2.2.2.2.2.2.2.1, x.2.2.2.2.2.2.2.2.2.2.2.2.2.2.2.2.2.2.1)) fun v1 =>
  bindO (F74o K x.2.2.2.2.2.2.2.2.2.2.2.2.2.2.2.2.2.2.2.2.2.1) fun v2 =>
  some (v0.1, v0.2.1, v0.2.2.1, v0.2.2.2.1, v0.2.2.2.2.1, v0.2.2.2.2.2.1, v0.2.2.2.2.2.2.1, v0.2.2.2.2.2.2.2.1, v0.2.2.2.2.2.2.2.2.1, v0.2.2.2.2.2.2.2.2.2.1, v0.2.2.2.2.2.2.2.2.2.2.1, v0.2.2.2.2.2.2.2.2.2.2.2, v1.1, v1.2.1, v1.2.2.1, v1.2.2.2.1, v1.2.2.2.2.1, v1.2.2.2.2.2.1, v1.2.2.2.2.2.2, x.2.2.2.2.2.2.2.2.2.2.2.2.2.2.2.2.2.2.2.1, x.2.2.2.2.2.2.2.2.2.2.2.2.2.2.2.2.2.2.2.2.1, x.2.2.2.2.2.2.2.2.2.2.2.2.2.2.2.2.2.2.2.2.2.2, v2)
def ct28o (K : Nat) : Ct := ⟨[.agg mL], [], [.agg [i6, i6, i6, i6, i6, i6, i6, i6, i6, i6, (.v .b), (.v .b), (.v .s), i6, i6, (.v .s), i6, (.v .b), i6, (.v .s), (.v .s), (.all 0), i6]], [⟨1, true, .row (.i .i64)⟩], [], F28o K⟩
theorem c28o (K : Nat) : CtOk prog 28 (ct28o K) :=
  con_mk (Y := Y) (L := [(72, ct72 K), (73, ct73 K), (74, ct74o K)]) (K := K) (an := (.seq .no (.seq .no (.seq .no (.seq .no (.seq .no (.seq .no (.seq .no (.seq .no .no))))))))) func28 mixed (ctabOk_cons (c72 K) (ctabOk_cons (c73 K) (ctabOk_cons (c74o K) ctabOk_nil))) (by kernel_rfl) fun x => by kernel_rfl
def F28 (K : Nat) (x : MM) : Option MM :=
  bindO (F72 K (x.1, x.2.1, x.2.2.1, x.2.2.2.1, x.2.2.2.2.1, x.2.2.2.2.2.1, x.2.2.2.2.2.2.1, x.2.2.2.2.2.2.2.1, x.2.2.2.2.2.2.2.2.1, x.2.2.2.2.2.2.2.2.2.1, x.2.2.2.2.2.2.2.2.2.2.1, x.2.2.2.2.2.2.2.2.2.2.2.1)) fun v0 =>
  bindO (F73 K (x.2.2.2.2.2.2.2.2.2.2.2.2.1, x.2.2.2.2.2.2.2.2.2.2.2.2.2.1, x.2.2.2.2.2.2.2.2.2.2.2.2.2.2.1, x.2.2.2.2.2.2.2.2.2.2.2.2.2.2.2.1, x.2.2.2.2.2.2.2.2.2.2.2.2.2.2.2.2.1, x.2.2.2.2.2.2.2.2.2.2.2.2.2.2.2.2.2.1, x.2.2.2.2.2.2.2.2.2.2.2.2.2.2.2.2.2.2.1)) fun v1 =>
  bindO (F74o K x.2.2.2.2.2.2.2.2.2.2.2.2.2.2.2.2.2.2.2.2.2.1) fun v2 =>
  some (v0.1, v0.2.1, v0.2.2.1, v0.2.2.2.1, v0.2.2.2.2.1, v0.2.2.2.2.2.1, v0.2.2.2.2.2.2.1, v0.2.2.2.2.2.2.2.1, v0.2.2.2.2.2.2.2.2.1, v0.2.2.2.2.2.2.2.2.2.1, v0.2.2.2.2.2.2.2.2.2.2.1, v0.2.2.2.2.2.2.2.2.2.2.2, v1.1, v1.2.1, v1.2.2.1, v1.2.2.2.1, v1.2.2.2.2.1, v1.2.2.2.2.2.1, v1.2.2.2.2.2.2, x.2.2.2.2.2.2.2.2.2.2.2.2.2.2.2.2.2.2.2.1, x.2.2.2.2.2.2.2.2.2.2.2.2.2.2.2.2.2.2.2.2.1, v2, x.2.2.2.2.2.2.2.2.2.2.2.2.2.2.2.2.2.2.2.2.2.2)
def ct28 (K : Nat) : Ct := ⟨[.agg mL], [], [.agg mL], [], [], F28 K⟩
theorem c28 (K : Nat) : CtOk prog 28 (ct28 K) :=
  con_mk (Y := Y) (L := [(72, ct72 K), (73, ct73 K), (74, ct74o K)]) (K := K) (an := (.seq .no (.seq .no (.seq .no (.seq .no (.seq .no (.seq .no (.seq .no (.seq .no .no))))))))) func28 mixed (ctabOk_cons (c72 K) (ctabOk_cons (c73 K) (ctabOk_cons (c74o K) ctabOk_nil))) (by kernel_rfl) fun x => by kernel_rfl
def F75 (K : Nat) (x : Int × Int × Int × Int × Int × Int × Int × Int × Int × Int × Bool × Bool × Int × Int × Int × Int × Int × Int × Int × Int × Int × Int × Bool × Bool) : Option (Bool) :=
  branch (!(decide (x.1 = x.2.2.2.2.2.2.2.2.2.2.2.2.1)))
   (some false)
   (branch (!(decide (x.2.1 = x.2.2.2.2.2.2.2.2.2.2.2.2.2.1)))
    (some false)
    (branch (!(decide (x.2.2.1 = x.2.2.2.2.2.2.2.2.2.2.2.2.2.2.1)))
     (some false)
     (branch (!(decide (x.2.2.2.1 = x.2.2.2.2.2.2.2.2.2.2.2.2.2.2.2.1)))
      (some false)
      (branch (!(decide (x.2.2.2.2.1 = x.2.2.2.2.2.2.2.2.2.2.2.2.2.2.2.2.1)))
       (some false)
       (branch (!(decide (x.2.2.2.2.2.1 = x.2.2.2.2.2.2.2.2.2.2.2.2.2.2.2.2.2.1)))
        (some false)
        (branch (!(decide (x.2.2.2.2.2.2.1 = x.2.2.2.2.2.2.2.2.2.2.2.2.2.2.2.2.2.2.1)))
         (some false)
         (branch (!(decide (x.2.2.2.2.2.2.2.1 = x.2.2.2.2.2.2.2.2.2.2.2.2.2.2.2.2.2.2.2.1)))
          (some false)
          (branch (!(decide (x.2.2.2.2.2.2.2.2.1 = x.2.2.2.2.2.2.2.2.2.2.2.2.2.2.2.2.2.2.2.2.1)))
           (some false)
           (branch (!(decide (x.2.2.2.2.2.2.2.2.2.1 = x.2.2.2.2.2.2.2.2.2.2.2.2.2.2.2.2.2.2.2.2.2.1)))
            (some false)
            (branch (!(decide (x.2.2.2.2.2.2.2.2.2.2.1 = x.2.2.2.2.2.2.2.2.2.2.2.2.2.2.2.2.2.2.2.2.2.2.1)))
             (some false)
             (branch (!(decide (x.2.2.2.2.2.2.2.2.2.2.2.1 = x.2.2.2.2.2.2.2.2.2.2.2.2.2.2.2.2.2.2.2.2.2.2.2)))
              (some false)
              (some true))))))))))))
def ct75 (K : Nat) : Ct := ⟨[.agg [i6, i6, i6, i6, i6, i6, i6, i6, i6, i6, (.v .b), (.v .b)], .agg [i6, i6, i6, i6, i6, i6, i6, i6, i6, i6, (.v .b), (.v .b)]], [], [.l (.v .b)], [], [], F75 K⟩
theorem c75 (K : Nat) : CtOk prog 75 (ct75 K) :=
  con_mk (Y := Y) (L := []) (K := K) (an := (.seq .no (.seq (.seq .no (.cond .no .no)) (.seq (.seq .no (.cond .no .no)) (.seq (.seq .no (.cond .no .no)) (.seq (.seq .no (.cond .no .no)) (.seq (.seq .no (.cond .no .no)) (.seq (.seq .no (.cond .no .no)) (.seq (.seq .no (.cond .no .no)) (.seq (.seq .no (.cond .no .no)) (.seq (.seq .no (.cond .no .no)) (.seq (.seq .no (.cond .no .no)) (.seq (.seq .no (.cond .no .no)) (.seq (.seq .no (.cond .no .no)) .no)))))))))))))) func75 mixed ctabOk_nil (by kernel_rfl) fun x => by kernel_rfl
def F76 (K : Nat) (x : (List UInt8) × Int × Int × (List UInt8) × Int × Bool × Int × (List UInt8) × Int × Int × (List UInt8) × Int × Bool × Int) : Option (Bool) :=
  branch (!(decide (x.1 = x.2.2.2.2.2.2.2.1)))
   (some false)
   (branch (!(decide (x.2.1 = x.2.2.2.2.2.2.2.2.1)))
    (some false)
    (branch (!(decide (x.2.2.1 = x.2.2.2.2.2.2.2.2.2.1)))
     (some false)
     (branch (!(decide (x.2.2.2.1 = x.2.2.2.2.2.2.2.2.2.2.1)))
      (some false)
      (branch (!(decide (x.2.2.2.2.1 = x.2.2.2.2.2.2.2.2.2.2.2.1)))
       (some false)
       (branch (!(decide (x.2.2.2.2.2.1 = x.2.2.2.2.2.2.2.2.2.2.2.2.1)))
        (some false)
        (branch (!(decide (x.2.2.2.2.2.2.1 = x.2.2.2.2.2.2.2.2.2.2.2.2.2)))
         (some false)
         (some true)))))))
def ct76 (K : Nat) : Ct := ⟨[.agg [(.v .s), i6, i6, (.v .s), i6, (.v .b), i6], .agg [(.v .s), i6, i6, (.v .s), i6, (.v .b), i6]], [], [.l (.v .b)], [], [], F76 K⟩
theorem c76 (K : Nat) : CtOk prog 76 (ct76 K) :=
  con_mk (Y := Y) (L := []) (K := K) (an := (.seq .no (.seq (.seq .no (.cond .no .no)) (.seq (.seq .no (.cond .no .no)) (.seq (.seq .no (.cond .no .no)) (.seq (.seq .no (.cond .no .no)) (.seq (.seq .no (.cond .no .no)) (.seq (.seq .no (.cond .no .no)) (.seq (.seq .no (.cond .no .no)) .no))))))))) func76 mixed ctabOk_nil (by kernel_rfl) fun x => by kernel_rfl
def F77_b0 (K : Nat) (x : (List Int) × (List Int) × Int) : Option (((List Int) × (List Int) × Int) ⊕ (Bool ⊕ Unit)) :=
  branch (decide (x.2.2 < (x.1.length : Int)))
   (nth x.1 x.2.2 fun v0 =>
   nth x.2.1 x.2.2 fun v1 =>
   branch (!(decide (v0 = v1)))
    (some (.inr (.inl false)))
    (some (.inl (x.1, x.2.1, w64 (x.2.2 + 1)))))
   (some (.inr (.inr ())))
def F77 (K : Nat) (x : (List Int) × List Int) : Option (Bool) :=
  branch (!(decide ((x.1.length : Int) = (x.2.length : Int))))
   (some false)
   (bindO (iter K (F77_b0 K) (x.1, x.2, 0)) fun v0 =>
   csO v0
    (fun v1 => some v1)
    (fun v2 => some true))
def ct77 (K : Nat) : Ct := ⟨[.l (.v (.l (.i .i64))), .l (.v (.l (.i .i64)))], [], [.l (.v .b)], [], [], F77 K⟩
theorem c77 (K : Nat) : CtOk prog 77 (ct77 K) :=
  con_mk (Y := Y) (L := []) (K := K) (an := (.seq .no (.seq (.seq .no (.cond .no .no)) (.seq (.seq .no (.blk (.loop [] ⟨(.l (.v (.l (.i .i64))) :: .l (.v (.l (.i .i64))) :: ru 3 (.l i6 :: ru 20 [])), []⟩ [(0, ⟨(ru 26 []), []⟩)] true (.seq (.seq .no .no) (.seq (.blk (.seq .no (.cond .no .no))) .no))))) .no)))) func77 mixed ctabOk_nil (by kernel_rfl) fun x => by kernel_rfl
def F29 (K : Nat) (x : Int × Int × Int × Int × Int × Int × Int × Int × Int × Int × Bool × Bool × (List UInt8) × Int × Int × (List UInt8) × Int × Bool × Int × (List UInt8) × (List UInt8) × (List Int) × Int × MM) : Option (Bool) :=
  bindO (F75 K (x.1, x.2.1, x.2.2.1, x.2.2.2.1, x.2.2.2.2.1, x.2.2.2.2.2.1, x.2.2.2.2.2.2.1, x.2.2.2.2.2.2.2.1, x.2.2.2.2.2.2.2.2.1, x.2.2.2.2.2.2.2.2.2.1, x.2.2.2.2.2.2.2.2.2.2.1, x.2.2.2.2.2.2.2.2.2.2.2.1, x.2.2.2.2.2.2.2.2.2.2.2.2.2.2.2.2.2.2.2.2.2.2.2.1, x.2.2.2.2.2.2.2.2.2.2.2.2.2.2.2.2.2.2.2.2.2.2.2.2.1, x.2.2.2.2.2.2.2.2.2.2.2.2.2.2.2.2.2.2.2.2.2.2.2.2.2.1, x.2.2.2.2.2.2.2.2.2.2.2.2.2.2.2.2.2.2.2.2.2.2.2.2.2.2.1, x.2.2.2.2.2.2.2.2.2.2.2.2.2.2.2.2.2.2.2.2.2.2.2.2.2.2.2.1, x.2.2.2.2.2.2.2.2.2.2.2.2.2.2.2.2.2.2.2.2.2.2.2.2.2.2.2.2.1, x.2.2.2.2.2.2.2.2.2.2.2.2.2.2.2.2.2.2.2.2.2.2.2.2.2.2.2.2.2.1, x.2.2.2.2.2.2.2.2.2.2.2.2.2.2.2.2.2.2.2.2.2.2.2.2.2.2.2.2.2.2.1, x.2.2.2.2.2.2.2.2.2.2.2.2.2.2.2.2.2.2.2.2.2.2.2.2.2.2.2.2.2.2.2.1, x.2.2.2.2.2.2.2.2.2.2.2.2.2.2.2.2.2.2.2.2.2.2.2.2.2.2.2.2.2.2.2.2.1, x.2.2.2.2.2.2.2.2.2.2.2.2.2.2.2.2.2.2.2.2.2.2.2.2.2.2.2.2.2.2.2.2.2.1, x.2.2.2.2.2.2.2.2.2.2.2.2.2.2.2.2.2.2.2.2.2.2.2.2.2.2.2.2.2.2.2.2.2.2.1)) fun v0 =>
  branch (!v0)
   (some false)
   (bindO (F76 K (x.2.2.2.2.2.2.2.2.2.2.2.2.1, x.2.2.2.2.2.2.2.2.2.2.2.2.2.1, x.2.2.2.2.2.2.2.2.2.2.2.2.2.2.1, x.2.2.2.2.2.2.2.2.2.2.2.2.2.2.2.1, x.2.2.2.2.2.2.2.2.2.2.2.2.2.2.2.2.1, x.2.2.2.2.2.2.2.2.2.2.2.2.2.2.2.2.2.1, x.2.2.2.2.2.2.2.2.2.2.2.2.2.2.2.2.2.2.1, x.2.2.2.2.2.2.2.2.2.2.2.2.2.2.2.2.2.2.2.2.2.2.2.2.2.2.2.2.2.2.2.2.2.2.2.1, x.2.2.2.2.2.2.2.2.2.2.2.2.2.2.2.2.2.2.2.2.2.2.2.2.2.2.2.2.2.2.2.2.2.2.2.2.1, x.2.2.2.2.2.2.2.2.2.2.2.2.2.2.2.2.2.2.2.2.2.2.2.2.2.2.2.2.2.2.2.2.2.2.2.2.2.1, x.2.2.2.2.2.2.2.2.2.2.2.2.2.2.2.2.2.2.2.2.2.2.2.2.2.2.2.2.2.2.2.2.2.2.2.2.2.2.1, x.2.2.2.2.2.2.2.2.2.2.2.2.2.2.2.2.2.2.2.2.2.2.2.2.2.2.2.2.2.2.2.2.2.2.2.2.2.2.2.1, x.2.2.2.2.2.2.2.2.2.2.2.2.2.2.2.2.2.2.2.2.2.2.2.2.2.2.2.2.2.2.2.2.2.2.2.2.2.2.2.2.1, x.2.2.2.2.2.2.2.2.2.2.2.2.2.2.2.2.2.2.2.2.2.2.2.2.2.2.2.2.2.2.2.2.2.2.2.2.2.2.2.2.2.1)) fun v1 =>
   branch (!v1)
    (some false)
    (branch (!(decide (x.2.2.2.2.2.2.2.2.2.2.2.2.2.2.2.2.2.2.2.1 = x.2.2.2.2.2.2.2.2.2.2.2.2.2.2.2.2.2.2.2.2.2.2.2.2.2.2.2.2.2.2.2.2.2.2.2.2.2.2.2.2.2.2.1)))
     (some false)
     (branch (!(decide (x.2.2.2.2.2.2.2.2.2.2.2.2.2.2.2.2.2.2.2.2.1 = x.2.2.2.2.2.2.2.2.2.2.2.2.2.2.2.2.2.2.2.2.2.2.2.2.2.2.2.2.2.2.2.2.2.2.2.2.2.2.2.2.2.2.2.1)))
      (some false)
      (bindO (F77 K (x.2.2.2.2.2.2.2.2.2.2.2.2.2.2.2.2.2.2.2.2.2.1, x.2.2.2.2.2.2.2.2.2.2.2.2.2.2.2.2.2.2.2.2.2.2.2.2.2.2.2.2.2.2.2.2.2.2.2.2.2.2.2.2.2.2.2.2.1)) fun v2 =>
      branch (!v2)
       (some false)
       (branch (!(decide (x.2.2.2.2.2.2.2.2.2.2.2.2.2.2.2.2.2.2.2.2.2.2.1 = x.2.2.2.2.2.2.2.2.2.2.2.2.2.2.2.2.2.2.2.2.2.2.2.2.2.2.2.2.2.2.2.2.2.2.2.2.2.2.2.2.2.2.2.2.2)))
        (some false)
        (some true))))))
def ct29 (K : Nat) : Ct := ⟨[.agg mL, .agg mL], [], [.l (.v .b)], [], [], F29 K⟩
theorem c29 (K : Nat) : CtOk prog 29 (ct29 K) :=
  con_mk (Y := Y) (L := [(75, ct75 K), (76, ct76 K), (77, ct77 K)]) (K := K) (an := (.seq .no (.seq (.seq .no (.cond .no .no)) (.seq (.seq .no (.cond .no .no)) (.seq (.seq .no (.cond .no .no)) (.seq (.seq .no (.cond .no .no)) (.seq (.seq .no (.cond .no .no)) (.seq (.seq .no (.cond .no .no)) .no)))))))) func29 mixed (ctabOk_cons (c75 K) (ctabOk_cons (c76 K) (ctabOk_cons (c77 K) ctabOk_nil))) (by kernel_rfl) fun x => by kernel_rfl
def F78_b0 (K : Nat) (x : Int × Int × List Int) : Option ((Int × Int × List Int) ⊕ (Int × List Int)) :=
  branch (decide (x.2.1 < (x.2.2.length : Int)))
   (guard (decide (0 ≤ x.2.1 ∧ x.2.1 < (x.2.2.length : Int))) <|
   nthN x.2.2 x.2.1.toNat fun v0 =>
   some (.inl (w64 (x.1 + 1), w64 (x.2.1 + 1), List.set x.2.2 x.2.1.toNat x.1)))
   (some (.inr (x.1, x.2.2)))
def F78 (K : Nat) (x : Int × List Int) : Option (Int × List Int) :=
  bindO (iter K (F78_b0 K) (x.1, 0, x.2)) fun v0 =>
  some v0
def ct78 (K : Nat) : Ct := ⟨[.l (.all 0), .l i6], [⟨1, false, .row (.i .i64)⟩], [.l i6], [⟨1, false, .row (.i .i64)⟩], [true], F78 K⟩
theorem c78 (K : Nat) : CtOk prog 78 (ct78 K) :=
  con_mk (Y := Y) (L := []) (K := K) (an := (.seq .no (.seq (.seq .no (.blk (.loop [] ⟨(.l (.all 0) :: .l i6 :: ru 3 (.l i6 :: ru 13 [])), [(0, ⟨1, false, .row (.i .i64)⟩)]⟩ [(0, ⟨(ru 1 (.l i6 :: ru 17 [])), [(0, ⟨1, false, .row (.i .i64)⟩)]⟩)] false (.seq (.seq .no .no) (.seq (.blk .no) .no))))) .no))) func78 mixed ctabOk_nil (by kernel_rfl) fun x => by kernel_rfl
def F30 (K : Nat) (x : Int × Int × Int × Int × Int × Int × Int × Int × Int × Int × Bool × Bool × (List UInt8) × Int × Int × (List UInt8) × Int × Bool × Int × (List UInt8) × (List UInt8) × Int × Int × List Int) : Option (Int × List Int) :=
  bindO (F78 K x.2.2.2.2.2.2.2.2.2.2.2.2.2.2.2.2.2.2.2.2.2.2) fun v0 =>
  some v0
def ct30 (K : Nat) : Ct := ⟨[.agg [i6, i6, i6, i6, i6, i6, i6, i6, i6, i6, (.v .b), (.v .b), (.v .s), i6, i6, (.v .s), i6, (.v .b), i6, (.v .s), (.v .s), (.all 0), i6], .l i6], [⟨1, false, .row (.i .i64)⟩], [.l i6], [⟨1, false, .row (.i .i64)⟩], [true], F30 K⟩
theorem c30 (K : Nat) : CtOk prog 30 (ct30 K) :=
  con_mk (Y := Y) (L := [(78, ct78 K)]) (K := K) (an := (.seq .no (.seq .no .no))) func30 mixed (ctabOk_cons (c78 K) ctabOk_nil) (by kernel_rfl) fun x => by kernel_rfl
def F79_b0 (K : Nat) (x : (List Int) × Int × Int) : Option (((List Int) × Int × Int) ⊕ (Int ⊕ Int)) :=
  branch (decide (x.2.2 < (x.1.length : Int)))
   (nth x.1 x.2.2 fun v0 =>
   branch (!(decide (v0 = x.2.1)))
    (some (.inr (.inl (-1))))
    (some (.inl (x.1, w64 (x.2.1 + 1), w64 (x.2.2 + 1)))))
   (some (.inr (.inr x.2.1)))
def F79 (K : Nat) (x : (List Int) × Int) : Option (Int) :=
  bindO (iter K (F79_b0 K) (x.1, x.2, 0)) fun v0 =>
  csO v0
   (fun v1 => some v1)
   (fun v2 => some v2)
def ct79 (K : Nat) : Ct := ⟨[.l (.v (.l (.i .i64))), .l i6], [], [.l i6], [], [], F79 K⟩
theorem c79 (K : Nat) : CtOk prog 79 (ct79 K) :=
  con_mk (Y := Y) (L := []) (K := K) (an := (.seq .no (.seq (.seq .no (.blk (.loop [] ⟨(.l (.v (.l (.i .i64))) :: .l i6 :: ru 3 (.l i6 :: ru 15 [])), []⟩ [(0, ⟨(ru 1 (.l i6 :: ru 19 [])), []⟩)] true (.seq (.seq .no .no) (.seq (.blk (.seq (.seq .no (.cond .no .no)) .no)) .no))))) .no))) func79 mixed ctabOk_nil (by kernel_rfl) fun x => by kernel_rfl
def F31 (K : Nat) (x : Int × Int × Int × Int × Int × Int × Int × Int × Int × Int × Bool × Bool × (List UInt8) × Int × Int × (List UInt8) × Int × Bool × Int × (List UInt8) × (List UInt8) × (List Int) × Int × Int) : Option (Int) :=
  bindO (F79 K (x.2.2.2.2.2.2.2.2.2.2.2.2.2.2.2.2.2.2.2.2.2.1, x.2.2.2.2.2.2.2.2.2.2.2.2.2.2.2.2.2.2.2.2.2.2.2)) fun v0 =>
  branch (decide (v0 < 0))
   (some (-1))
   (some v0)
def ct31 (K : Nat) : Ct := ⟨[.agg mL, .l i6], [], [.l i6], [], [], F31 K⟩
theorem c31 (K : Nat) : CtOk prog 31 (ct31 K) :=
  con_mk (Y := Y) (L := [(79, ct79 K)]) (K := K) (an := (.seq .no (.seq .no (.seq (.seq .no (.cond .no .no)) .no)))) func31 mixed (ctabOk_cons (c79 K) ctabOk_nil) (by kernel_rfl) fun x => by kernel_rfl
def F10 (K : Nat) (x : Int × Int × Int × Int × Int × Int × Int × Int × Int × Int × Bool × Bool × (List UInt8) × Int × Int × (List UInt8) × Int × Bool × Int × (List UInt8) × (List UInt8) × (List Int) × Int × Int) : Option (Bool) :=
  bindO (F27 K (x.1, x.2.1, x.2.2.1, x.2.2.2.1, x.2.2.2.2.1, x.2.2.2.2.2.1, x.2.2.2.2.2.2.1, x.2.2.2.2.2.2.2.1, x.2.2.2.2.2.2.2.2.1, x.2.2.2.2.2.2.2.2.2.1, (q8 x).2.2.1, (q8 x).2.2.2.1, (q8 x).2.2.2.2.1, (q8 x).2.2.2.2.2.1, (q8 x).2.2.2.2.2.2.1, (q8 x).2.2.2.2.2.2.2.1, (q8 (q8 x)).1, (q8 (q8 x)).2.1, (q8 (q8 x)).2.2.1, (q8 (q8 x)).2.2.2.1, (q8 (q8 x)).2.2.2.2.1, (q8 (q8 x)).2.2.2.2.2.1, (q8 (q8 x)).2.2.2.2.2.2.1, 1048576)) fun v0 =>
  branch (decide (v0 < 0))
   (some true)
   (bindO (F28o K (x.1, x.2.1, x.2.2.1, x.2.2.2.1, x.2.2.2.2.1, x.2.2.2.2.2.1, x.2.2.2.2.2.2.1, x.2.2.2.2.2.2.2.1, x.2.2.2.2.2.2.2.2.1, x.2.2.2.2.2.2.2.2.2.1, (q8 x).2.2.1, (q8 x).2.2.2.1, (q8 x).2.2.2.2.1, (q8 x).2.2.2.2.2.1, (q8 x).2.2.2.2.2.2.1, (q8 x).2.2.2.2.2.2.2.1, (q8 (q8 x)).1, (q8 (q8 x)).2.1, (q8 (q8 x)).2.2.1, (q8 (q8 x)).2.2.2.1, (q8 (q8 x)).2.2.2.2.1, (q8 (q8 x)).2.2.2.2.2.1, (q8 (q8 x)).2.2.2.2.2.2.1)) fun v1 =>
   bindO (F35 K (v1.1, v1.2.1, v1.2.2.1, v1.2.2.2.1, v1.2.2.2.2.1, v1.2.2.2.2.2.1, v1.2.2.2.2.2.2.1, v1.2.2.2.2.2.2.2.1, v1.2.2.2.2.2.2.2.2.1, v1.2.2.2.2.2.2.2.2.2.1, (q8 v1).2.2.1, (q8 v1).2.2.2.1, (q8 v1).2.2.2.2.1, (q8 v1).2.2.2.2.2.1, (q8 v1).2.2.2.2.2.2.1, (q8 v1).2.2.2.2.2.2.2.1, (q8 (q8 v1)).1, (q8 (q8 v1)).2.1, (q8 (q8 v1)).2.2.1, (q8 (q8 v1)).2.2.2.1, (q8 (q8 v1)).2.2.2.2.1, (q8 (q8 v1)).2.2.2.2.2.2, (q8 (q8 v1)).2.2.2.2.2.1, (q8 (q8 x)).2.2.2.2.2.2.2)) fun v2 =>
   bindO (F28o K (x.1, x.2.1, x.2.2.1, x.2.2.2.1, x.2.2.2.2.1, x.2.2.2.2.2.1, x.2.2.2.2.2.2.1, x.2.2.2.2.2.2.2.1, x.2.2.2.2.2.2.2.2.1, x.2.2.2.2.2.2.2.2.2.1, (q8 x).2.2.1, (q8 x).2.2.2.1, (q8 x).2.2.2.2.1, (q8 x).2.2.2.2.2.1, (q8 x).2.2.2.2.2.2.1, (q8 x).2.2.2.2.2.2.2.1, (q8 (q8 x)).1, (q8 (q8 x)).2.1, (q8 (q8 x)).2.2.1, (q8 (q8 x)).2.2.2.1, (q8 (q8 x)).2.2.2.2.1, (q8 (q8 x)).2.2.2.2.2.1, (q8 (q8 x)).2.2.2.2.2.2.1)) fun v3 =>
   bindO (F18 K (v3.1, v3.2.1, v3.2.2.1, v3.2.2.2.1, v3.2.2.2.2.1, v3.2.2.2.2.2.1, v3.2.2.2.2.2.2.1, v3.2.2.2.2.2.2.2.1, v3.2.2.2.2.2.2.2.2.1, v3.2.2.2.2.2.2.2.2.2.1, (q8 v3).2.2.1, (q8 v3).2.2.2.1, (q8 v3).2.2.2.2.1, (q8 v3).2.2.2.2.2.1, (q8 v3).2.2.2.2.2.2.1, (q8 v3).2.2.2.2.2.2.2.1, (q8 (q8 v3)).1, (q8 (q8 v3)).2.1, (q8 (q8 v3)).2.2.1, (q8 (q8 v3)).2.2.2.1, (q8 (q8 v3)).2.2.2.2.1, (q8 (q8 v3)).2.2.2.2.2.2, (q8 (q8 v3)).2.2.2.2.2.1, (q8 (q8 x)).2.2.2.2.2.2.2)) fun v4 =>
   bindO (α := Bool ⊕ (Int × Int × Int × Int × Int × Int × Int × Int × Int × Int × Int × Int × Int × Int × Int × Bool × Bool × (List UInt8) × Int × Int × (List UInt8) × Int × Bool × Int × (List UInt8) × (List UInt8) × Int × (List Int) × Int × Int × Int × Int × Int × Int × Int × Int × Int × Int × Bool × Bool × (List UInt8) × Int × Int × (List UInt8) × Int × Bool × Int × (List UInt8) × (List UInt8) × Int × (List Int) × Int × Int × Int × Int × Int × Int × Int × Int × Int × Int × Bool × Bool × (List UInt8) × Int × Int × (List UInt8) × Int × Bool × Int × (List UInt8) × (List UInt8) × (List Int) × Int × MM)) (bindO (α := Int × Int × Int × Int × Int × Bool × Int × Int × Int × Int × Int × Int × Int × Int × Int × Int × Bool × Bool × (List UInt8) × Int × Int × (List UInt8) × Int × Bool × Int × (List UInt8) × (List UInt8) × Int × (List Int) × Int × Int × Int × Int × Int × Int × Int × Int × Int × Int × Bool × Bool × (List UInt8) × Int × Int × (List UInt8) × Int × Bool × Int × (List UInt8) × (List UInt8) × Int × (List Int) × Int × Int × Int × Int × Int × Int × Int × Int × Int × Int × Bool × Bool × (List UInt8) × Int × Int × (List UInt8) × Int × Bool × Int × (List UInt8) × (List UInt8) × (List Int) × Int × MM) (bindO (F29 K (v4.1, v4.2.1, v4.2.2.1, v4.2.2.2.1, v4.2.2.2.2.1, v4.2.2.2.2.2.1, v4.2.2.2.2.2.2.1, v4.2.2.2.2.2.2.2.1, v4.2.2.2.2.2.2.2.2.1, v4.2.2.2.2.2.2.2.2.2.1, (q8 v4).2.2.1, (q8 v4).2.2.2.1, (q8 v4).2.2.2.2.1, (q8 v4).2.2.2.2.2.1, (q8 v4).2.2.2.2.2.2.1, (q8 v4).2.2.2.2.2.2.2.1, (q8 (q8 v4)).1, (q8 (q8 v4)).2.1, (q8 (q8 v4)).2.2.1, (q8 (q8 v4)).2.2.2.1, (q8 (q8 v4)).2.2.2.2.1, (q8 (q8 (q8 v4))), (q8 (q8 v4)).2.2.2.2.2.1, v2.1, v2.2.1, v2.2.2.1, v2.2.2.2.1, v2.2.2.2.2.1, v2.2.2.2.2.2.1, v2.2.2.2.2.2.2.1, v2.2.2.2.2.2.2.2.1, v2.2.2.2.2.2.2.2.2.1, v2.2.2.2.2.2.2.2.2.2.1, (q8 v2).2.2.1, (q8 v2).2.2.2.1, (q8 v2).2.2.2.2.1, (q8 v2).2.2.2.2.2.1, (q8 v2).2.2.2.2.2.2.1, (q8 v2).2.2.2.2.2.2.2.1, (q8 (q8 v2)).1, (q8 (q8 v2)).2.1, (q8 (q8 v2)).2.2.1, (q8 (q8 v2)).2.2.2.1, (q8 (q8 v2)).2.2.2.2.1, (q8 (q8 v2)).2.2.2.2.2.1, (q8 (q8 v2)).2.2.2.2.2.2.1)) fun v5 =>
       branch (!v5)
        (some ((q8 (q8 x)).2.2.2.2.2.2.2, (q8 (q8 v2)).2.2.2.2.2.2.2.1, (q8 (q8 (q8 v2))), (q8 (q8 v4)).2.2.2.2.2.2.1, (q8 (q8 v4)).2.2.2.2.2.2.2.1, true, v4.1, v4.2.1, v4.2.2.1, v4.2.2.2.1, v4.2.2.2.2.1, v4.2.2.2.2.2.1, v4.2.2.2.2.2.2.1, v4.2.2.2.2.2.2.2.1, v4.2.2.2.2.2.2.2.2.1, v4.2.2.2.2.2.2.2.2.2.1, (q8 v4).2.2.1, (q8 v4).2.2.2.1, (q8 v4).2.2.2.2.1, (q8 v4).2.2.2.2.2.1, (q8 v4).2.2.2.2.2.2.1, (q8 v4).2.2.2.2.2.2.2.1, (q8 (q8 v4)).1, (q8 (q8 v4)).2.1, (q8 (q8 v4)).2.2.1, (q8 (q8 v4)).2.2.2.1, (q8 (q8 v4)).2.2.2.2.1, (q8 (q8 v4)).2.2.2.2.2.1, (q8 (q8 (q8 v4))), v3.1, v3.2.1, v3.2.2.1, v3.2.2.2.1, v3.2.2.2.2.1, v3.2.2.2.2.2.1, v3.2.2.2.2.2.2.1, v3.2.2.2.2.2.2.2.1, v3.2.2.2.2.2.2.2.2.1, v3.2.2.2.2.2.2.2.2.2.1, (q8 v3).2.2.1, (q8 v3).2.2.2.1, (q8 v3).2.2.2.2.1, (q8 v3).2.2.2.2.2.1, (q8 v3).2.2.2.2.2.2.1, (q8 v3).2.2.2.2.2.2.2.1, (q8 (q8 v3)).1, (q8 (q8 v3)).2.1, (q8 (q8 v3)).2.2.1, (q8 (q8 v3)).2.2.2.1, (q8 (q8 v3)).2.2.2.2.1, (q8 (q8 v3)).2.2.2.2.2.1, (q8 (q8 v3)).2.2.2.2.2.2, v2.1, v2.2.1, v2.2.2.1, v2.2.2.2.1, v2.2.2.2.2.1, v2.2.2.2.2.2.1, v2.2.2.2.2.2.2.1, v2.2.2.2.2.2.2.2.1, v2.2.2.2.2.2.2.2.2.1, v2.2.2.2.2.2.2.2.2.2.1, (q8 v2).2.2.1, (q8 v2).2.2.2.1, (q8 v2).2.2.2.2.1, (q8 v2).2.2.2.2.2.1, (q8 v2).2.2.2.2.2.2.1, (q8 v2).2.2.2.2.2.2.2.1, (q8 (q8 v2)).1, (q8 (q8 v2)).2.1, (q8 (q8 v2)).2.2.1, (q8 (q8 v2)).2.2.2.1, (q8 (q8 v2)).2.2.2.2.1, (q8 (q8 v2)).2.2.2.2.2.1, (q8 (q8 v2)).2.2.2.2.2.2.1, x.1, x.2.1, x.2.2.1, x.2.2.2.1, x.2.2.2.2.1, x.2.2.2.2.2.1, x.2.2.2.2.2.2.1, x.2.2.2.2.2.2.2.1, x.2.2.2.2.2.2.2.2.1, x.2.2.2.2.2.2.2.2.2.1, (q8 x).2.2.1, (q8 x).2.2.2.1, (q8 x).2.2.2.2.1, (q8 x).2.2.2.2.2.1, (q8 x).2.2.2.2.2.2.1, (q8 x).2.2.2.2.2.2.2.1, (q8 (q8 x)).1, (q8 (q8 x)).2.1, (q8 (q8 x)).2.2.1, (q8 (q8 x)).2.2.2.1, (q8 (q8 x)).2.2.2.2.1, (q8 (q8 x)).2.2.2.2.2.1, (q8 (q8 x)).2.2.2.2.2.2.1))
        (branch (!(decide ((q8 (q8 v4)).2.2.2.2.2.2.1 = (q8 (q8 v2)).2.2.2.2.2.2.2.1)))
         (some ((q8 (q8 x)).2.2.2.2.2.2.2, (q8 (q8 v2)).2.2.2.2.2.2.2.1, (q8 (q8 (q8 v2))), (q8 (q8 v4)).2.2.2.2.2.2.1, (q8 (q8 v4)).2.2.2.2.2.2.2.1, true, v4.1, v4.2.1, v4.2.2.1, v4.2.2.2.1, v4.2.2.2.2.1, v4.2.2.2.2.2.1, v4.2.2.2.2.2.2.1, v4.2.2.2.2.2.2.2.1, v4.2.2.2.2.2.2.2.2.1, v4.2.2.2.2.2.2.2.2.2.1, (q8 v4).2.2.1, (q8 v4).2.2.2.1, (q8 v4).2.2.2.2.1, (q8 v4).2.2.2.2.2.1, (q8 v4).2.2.2.2.2.2.1, (q8 v4).2.2.2.2.2.2.2.1, (q8 (q8 v4)).1, (q8 (q8 v4)).2.1, (q8 (q8 v4)).2.2.1, (q8 (q8 v4)).2.2.2.1, (q8 (q8 v4)).2.2.2.2.1, (q8 (q8 v4)).2.2.2.2.2.1, (q8 (q8 (q8 v4))), v3.1, v3.2.1, v3.2.2.1, v3.2.2.2.1, v3.2.2.2.2.1, v3.2.2.2.2.2.1, v3.2.2.2.2.2.2.1, v3.2.2.2.2.2.2.2.1, v3.2.2.2.2.2.2.2.2.1, v3.2.2.2.2.2.2.2.2.2.1, (q8 v3).2.2.1, (q8 v3).2.2.2.1, (q8 v3).2.2.2.2.1, (q8 v3).2.2.2.2.2.1, (q8 v3).2.2.2.2.2.2.1, (q8 v3).2.2.2.2.2.2.2.1, (q8 (q8 v3)).1, (q8 (q8 v3)).2.1, (q8 (q8 v3)).2.2.1, (q8 (q8 v3)).2.2.2.1, (q8 (q8 v3)).2.2.2.2.1, (q8 (q8 v3)).2.2.2.2.2.1, (q8 (q8 v3)).2.2.2.2.2.2, v2.1, v2.2.1, v2.2.2.1, v2.2.2.2.1, v2.2.2.2.2.1, v2.2.2.2.2.2.1, v2.2.2.2.2.2.2.1, v2.2.2.2.2.2.2.2.1, v2.2.2.2.2.2.2.2.2.1, v2.2.2.2.2.2.2.2.2.2.1, (q8 v2).2.2.1, (q8 v2).2.2.2.1, (q8 v2).2.2.2.2.1, (q8 v2).2.2.2.2.2.1, (q8 v2).2.2.2.2.2.2.1, (q8 v2).2.2.2.2.2.2.2.1, (q8 (q8 v2)).1, (q8 (q8 v2)).2.1, (q8 (q8 v2)).2.2.1, (q8 (q8 v2)).2.2.2.1, (q8 (q8 v2)).2.2.2.2.1, (q8 (q8 v2)).2.2.2.2.2.1, (q8 (q8 v2)).2.2.2.2.2.2.1, x.1, x.2.1, x.2.2.1, x.2.2.2.1, x.2.2.2.2.1, x.2.2.2.2.2.1, x.2.2.2.2.2.2.1, x.2.2.2.2.2.2.2.1, x.2.2.2.2.2.2.2.2.1, x.2.2.2.2.2.2.2.2.2.1, (q8 x).2.2.1, (q8 x).2.2.2.1, (q8 x).2.2.2.2.1, (q8 x).2.2.2.2.2.1, (q8 x).2.2.2.2.2.2.1, (q8 x).2.2.2.2.2.2.2.1, (q8 (q8 x)).1, (q8 (q8 x)).2.1, (q8 (q8 x)).2.2.1, (q8 (q8 x)).2.2.2.1, (q8 (q8 x)).2.2.2.2.1, (q8 (q8 x)).2.2.2.2.2.1, (q8 (q8 x)).2.2.2.2.2.2.1))
         (some ((q8 (q8 x)).2.2.2.2.2.2.2, (q8 (q8 v2)).2.2.2.2.2.2.2.1, (q8 (q8 (q8 v2))), (q8 (q8 v4)).2.2.2.2.2.2.1, (q8 (q8 v4)).2.2.2.2.2.2.2.1, !(decide ((q8 (q8 v4)).2.2.2.2.2.2.2.1 = (q8 (q8 (q8 v2))))), v4.1, v4.2.1, v4.2.2.1, v4.2.2.2.1, v4.2.2.2.2.1, v4.2.2.2.2.2.1, v4.2.2.2.2.2.2.1, v4.2.2.2.2.2.2.2.1, v4.2.2.2.2.2.2.2.2.1, v4.2.2.2.2.2.2.2.2.2.1, (q8 v4).2.2.1, (q8 v4).2.2.2.1, (q8 v4).2.2.2.2.1, (q8 v4).2.2.2.2.2.1, (q8 v4).2.2.2.2.2.2.1, (q8 v4).2.2.2.2.2.2.2.1, (q8 (q8 v4)).1, (q8 (q8 v4)).2.1, (q8 (q8 v4)).2.2.1, (q8 (q8 v4)).2.2.2.1, (q8 (q8 v4)).2.2.2.2.1, (q8 (q8 v4)).2.2.2.2.2.1, (q8 (q8 (q8 v4))), v3.1, v3.2.1, v3.2.2.1, v3.2.2.2.1, v3.2.2.2.2.1, v3.2.2.2.2.2.1, v3.2.2.2.2.2.2.1, v3.2.2.2.2.2.2.2.1, v3.2.2.2.2.2.2.2.2.1, v3.2.2.2.2.2.2.2.2.2.1, (q8 v3).2.2.1, (q8 v3).2.2.2.1, (q8 v3).2.2.2.2.1, (q8 v3).2.2.2.2.2.1, (q8 v3).2.2.2.2.2.2.1, (q8 v3).2.2.2.2.2.2.2.1, (q8 (q8 v3)).1, (q8 (q8 v3)).2.1, (q8 (q8 v3)).2.2.1, (q8 (q8 v3)).2.2.2.1, (q8 (q8 v3)).2.2.2.2.1, (q8 (q8 v3)).2.2.2.2.2.1, (q8 (q8 v3)).2.2.2.2.2.2, v2.1, v2.2.1, v2.2.2.1, v2.2.2.2.1, v2.2.2.2.2.1, v2.2.2.2.2.2.1, v2.2.2.2.2.2.2.1, v2.2.2.2.2.2.2.2.1, v2.2.2.2.2.2.2.2.2.1, v2.2.2.2.2.2.2.2.2.2.1, (q8 v2).2.2.1, (q8 v2).2.2.2.1, (q8 v2).2.2.2.2.1, (q8 v2).2.2.2.2.2.1, (q8 v2).2.2.2.2.2.2.1, (q8 v2).2.2.2.2.2.2.2.1, (q8 (q8 v2)).1, (q8 (q8 v2)).2.1, (q8 (q8 v2)).2.2.1, (q8 (q8 v2)).2.2.2.1, (q8 (q8 v2)).2.2.2.2.1, (q8 (q8 v2)).2.2.2.2.2.1, (q8 (q8 v2)).2.2.2.2.2.2.1, x.1, x.2.1, x.2.2.1, x.2.2.2.1, x.2.2.2.2.1, x.2.2.2.2.2.1, x.2.2.2.2.2.2.1, x.2.2.2.2.2.2.2.1, x.2.2.2.2.2.2.2.2.1, x.2.2.2.2.2.2.2.2.2.1, (q8 x).2.2.1, (q8 x).2.2.2.1, (q8 x).2.2.2.2.1, (q8 x).2.2.2.2.2.1, (q8 x).2.2.2.2.2.2.1, (q8 x).2.2.2.2.2.2.2.1, (q8 (q8 x)).1, (q8 (q8 x)).2.1, (q8 (q8 x)).2.2.1, (q8 (q8 x)).2.2.2.1, (q8 (q8 x)).2.2.2.2.1, (q8 (q8 x)).2.2.2.2.2.1, (q8 (q8 x)).2.2.2.2.2.2.1)))) fun v6 =>
     branch v6.2.2.2.2.2.1
      (some (.inl false))
      (some (.inr (v6.1, v6.2.1, v6.2.2.1, v6.2.2.2.1, v6.2.2.2.2.1, v6.2.2.2.2.2.2)))) fun v7 =>
   csO v7
    (fun v8 => some v8)
    (fun v9 => bindO (F28 K (q8 (q8 (q8 (q8 (q8 (q8 (q8 (q8 (q8 v9))))))))).2.2) fun v10 =>
    bindO (F29 K ((q8 (q8 (q8 v9))).2.2.2.2.1, (q8 (q8 (q8 v9))).2.2.2.2.2.1, (q8 (q8 (q8 v9))).2.2.2.2.2.2.1, (q8 (q8 (q8 v9))).2.2.2.2.2.2.2.1, (q8 (q8 (q8 (q8 v9)))).1, (q8 (q8 (q8 (q8 v9)))).2.1, (q8 (q8 (q8 (q8 v9)))).2.2.1, (q8 (q8 (q8 (q8 v9)))).2.2.2.1, (q8 (q8 (q8 (q8 v9)))).2.2.2.2.1, (q8 (q8 (q8 (q8 v9)))).2.2.2.2.2.1, (q8 (q8 (q8 (q8 v9)))).2.2.2.2.2.2.1, (q8 (q8 (q8 (q8 v9)))).2.2.2.2.2.2.2.1, (q8 (q8 (q8 (q8 (q8 v9))))).1, (q8 (q8 (q8 (q8 (q8 v9))))).2.1, (q8 (q8 (q8 (q8 (q8 v9))))).2.2.1, (q8 (q8 (q8 (q8 (q8 v9))))).2.2.2.1, (q8 (q8 (q8 (q8 (q8 v9))))).2.2.2.2.1, (q8 (q8 (q8 (q8 (q8 v9))))).2.2.2.2.2.1, (q8 (q8 (q8 (q8 (q8 v9))))).2.2.2.2.2.2.1, (q8 (q8 (q8 (q8 (q8 v9))))).2.2.2.2.2.2.2.1, (q8 (q8 (q8 (q8 (q8 (q8 v9)))))).1, (q8 (q8 (q8 (q8 (q8 (q8 v9)))))).2.2.1, (q8 (q8 (q8 (q8 (q8 (q8 v9)))))).2.1, v10)) fun v11 =>
    branch (!v11)
     (some false)
     (bindO (F30 K ((q8 (q8 (q8 v9))).2.2.2.2.1, (q8 (q8 (q8 v9))).2.2.2.2.2.1, (q8 (q8 (q8 v9))).2.2.2.2.2.2.1, (q8 (q8 (q8 v9))).2.2.2.2.2.2.2.1, (q8 (q8 (q8 (q8 v9)))).1, (q8 (q8 (q8 (q8 v9)))).2.1, (q8 (q8 (q8 (q8 v9)))).2.2.1, (q8 (q8 (q8 (q8 v9)))).2.2.2.1, (q8 (q8 (q8 (q8 v9)))).2.2.2.2.1, (q8 (q8 (q8 (q8 v9)))).2.2.2.2.2.1, (q8 (q8 (q8 (q8 v9)))).2.2.2.2.2.2.1, (q8 (q8 (q8 (q8 v9)))).2.2.2.2.2.2.2.1, (q8 (q8 (q8 (q8 (q8 v9))))).1, (q8 (q8 (q8 (q8 (q8 v9))))).2.1, (q8 (q8 (q8 (q8 (q8 v9))))).2.2.1, (q8 (q8 (q8 (q8 (q8 v9))))).2.2.2.1, (q8 (q8 (q8 (q8 (q8 v9))))).2.2.2.2.1, (q8 (q8 (q8 (q8 (q8 v9))))).2.2.2.2.2.1, (q8 (q8 (q8 (q8 (q8 v9))))).2.2.2.2.2.2.1, (q8 (q8 (q8 (q8 (q8 v9))))).2.2.2.2.2.2.2.1, (q8 (q8 (q8 (q8 (q8 (q8 v9)))))).1, (q8 (q8 (q8 (q8 (q8 (q8 v9)))))).2.1, 1, (q8 (q8 (q8 (q8 (q8 (q8 v9)))))).2.2.1)) fun v12 =>
     bindO (α := Bool ⊕ (Int × Int × Int × Int × Int × Int × Int × Int × Int × Int × Int × Int × Int × Bool × Bool × (List UInt8) × Int × Int × (List UInt8) × Int × Bool × Int × (List UInt8) × (List UInt8) × Int × (List Int) × Int × Int × Int × Int × Int × Int × Int × Int × Int × Int × Bool × Bool × (List UInt8) × Int × Int × (List UInt8) × Int × Bool × Int × (List UInt8) × (List UInt8) × (List Int) × Int × MM)) (bindO (α := Int × Int × Int × Bool × Int × Int × Int × Int × Int × Int × Int × Int × Int × Int × Bool × Bool × (List UInt8) × Int × Int × (List UInt8) × Int × Bool × Int × (List UInt8) × (List UInt8) × Int × (List Int) × Int × Int × Int × Int × Int × Int × Int × Int × Int × Int × Bool × Bool × (List UInt8) × Int × Int × (List UInt8) × Int × Bool × Int × (List UInt8) × (List UInt8) × (List Int) × Int × MM) (branch (decide (v12.1 < 0))
          (some (v9.1, v9.2.1, v9.2.2.1, true, v9.2.2.2.2.2.1, v9.2.2.2.2.2.2.1, v9.2.2.2.2.2.2.2.1, v9.2.2.2.2.2.2.2.2.1, v9.2.2.2.2.2.2.2.2.2.1, (q8 v9).2.2.1, (q8 v9).2.2.2.1, (q8 v9).2.2.2.2.1, (q8 v9).2.2.2.2.2.1, (q8 v9).2.2.2.2.2.2.1, (q8 v9).2.2.2.2.2.2.2.1, (q8 (q8 v9)).1, (q8 (q8 v9)).2.1, (q8 (q8 v9)).2.2.1, (q8 (q8 v9)).2.2.2.1, (q8 (q8 v9)).2.2.2.2.1, (q8 (q8 v9)).2.2.2.2.2.1, (q8 (q8 v9)).2.2.2.2.2.2.1, (q8 (q8 v9)).2.2.2.2.2.2.2.1, (q8 (q8 (q8 v9))).1, (q8 (q8 (q8 v9))).2.1, (q8 (q8 (q8 v9))).2.2.1, (q8 (q8 (q8 v9))).2.2.2.1, (q8 (q8 (q8 (q8 (q8 (q8 v9)))))).2.2.2))
          (bindO (F29 K (v9.2.2.2.2.2.1, v9.2.2.2.2.2.2.1, v9.2.2.2.2.2.2.2.1, v9.2.2.2.2.2.2.2.2.1, v9.2.2.2.2.2.2.2.2.2.1, (q8 v9).2.2.1, (q8 v9).2.2.2.1, (q8 v9).2.2.2.2.1, (q8 v9).2.2.2.2.2.1, (q8 v9).2.2.2.2.2.2.1, (q8 v9).2.2.2.2.2.2.2.1, (q8 (q8 v9)).1, (q8 (q8 v9)).2.1, (q8 (q8 v9)).2.2.1, (q8 (q8 v9)).2.2.2.1, (q8 (q8 v9)).2.2.2.2.1, (q8 (q8 v9)).2.2.2.2.2.1, (q8 (q8 v9)).2.2.2.2.2.2.1, (q8 (q8 v9)).2.2.2.2.2.2.2.1, (q8 (q8 (q8 v9))).1, (q8 (q8 (q8 v9))).2.1, (q8 (q8 (q8 v9))).2.2.2.1, (q8 (q8 (q8 v9))).2.2.1, (q8 (q8 (q8 (q8 (q8 (q8 v9)))))).2.2.2.1, (q8 (q8 (q8 (q8 (q8 (q8 v9)))))).2.2.2.2.1, (q8 (q8 (q8 (q8 (q8 (q8 v9)))))).2.2.2.2.2.1, (q8 (q8 (q8 (q8 (q8 (q8 v9)))))).2.2.2.2.2.2.1, (q8 (q8 (q8 (q8 (q8 (q8 v9)))))).2.2.2.2.2.2.2.1, (q8 (q8 (q8 (q8 (q8 (q8 (q8 v9))))))).1, (q8 (q8 (q8 (q8 (q8 (q8 (q8 v9))))))).2.1, (q8 (q8 (q8 (q8 (q8 (q8 (q8 v9))))))).2.2.1, (q8 (q8 (q8 (q8 (q8 (q8 (q8 v9))))))).2.2.2.1, (q8 (q8 (q8 (q8 (q8 (q8 (q8 v9))))))).2.2.2.2.1, (q8 (q8 (q8 (q8 (q8 (q8 (q8 v9))))))).2.2.2.2.2.1, (q8 (q8 (q8 (q8 (q8 (q8 (q8 v9))))))).2.2.2.2.2.2.1, (q8 (q8 (q8 (q8 (q8 (q8 (q8 v9))))))).2.2.2.2.2.2.2.1, (q8 (q8 (q8 (q8 (q8 (q8 (q8 (q8 v9)))))))).1, (q8 (q8 (q8 (q8 (q8 (q8 (q8 (q8 v9)))))))).2.1, (q8 (q8 (q8 (q8 (q8 (q8 (q8 (q8 v9)))))))).2.2.1, (q8 (q8 (q8 (q8 (q8 (q8 (q8 (q8 v9)))))))).2.2.2.1, (q8 (q8 (q8 (q8 (q8 (q8 (q8 (q8 v9)))))))).2.2.2.2.1, (q8 (q8 (q8 (q8 (q8 (q8 (q8 (q8 v9)))))))).2.2.2.2.2.1, (q8 (q8 (q8 (q8 (q8 (q8 (q8 (q8 v9)))))))).2.2.2.2.2.2.1, (q8 (q8 (q8 (q8 (q8 (q8 (q8 (q8 v9)))))))).2.2.2.2.2.2.2.1, (q8 (q8 (q8 (q8 (q8 (q8 (q8 (q8 (q8 v9))))))))).1, (q8 (q8 (q8 (q8 (q8 (q8 (q8 (q8 (q8 v9))))))))).2.1)) fun v13 =>
          branch (!v13)
           (some (v9.1, v9.2.1, v9.2.2.1, true, v9.2.2.2.2.2.1, v9.2.2.2.2.2.2.1, v9.2.2.2.2.2.2.2.1, v9.2.2.2.2.2.2.2.2.1, v9.2.2.2.2.2.2.2.2.2.1, (q8 v9).2.2.1, (q8 v9).2.2.2.1, (q8 v9).2.2.2.2.1, (q8 v9).2.2.2.2.2.1, (q8 v9).2.2.2.2.2.2.1, (q8 v9).2.2.2.2.2.2.2.1, (q8 (q8 v9)).1, (q8 (q8 v9)).2.1, (q8 (q8 v9)).2.2.1, (q8 (q8 v9)).2.2.2.1, (q8 (q8 v9)).2.2.2.2.1, (q8 (q8 v9)).2.2.2.2.2.1, (q8 (q8 v9)).2.2.2.2.2.2.1, (q8 (q8 v9)).2.2.2.2.2.2.2.1, (q8 (q8 (q8 v9))).1, (q8 (q8 (q8 v9))).2.1, (q8 (q8 (q8 v9))).2.2.1, (q8 (q8 (q8 v9))).2.2.2.1, (q8 (q8 (q8 (q8 (q8 (q8 v9)))))).2.2.2))
           (branch (!(decide (v9.2.2.2.1 = v9.2.1)))
            (some (v9.1, v9.2.1, v9.2.2.1, true, v9.2.2.2.2.2.1, v9.2.2.2.2.2.2.1, v9.2.2.2.2.2.2.2.1, v9.2.2.2.2.2.2.2.2.1, v9.2.2.2.2.2.2.2.2.2.1, (q8 v9).2.2.1, (q8 v9).2.2.2.1, (q8 v9).2.2.2.2.1, (q8 v9).2.2.2.2.2.1, (q8 v9).2.2.2.2.2.2.1, (q8 v9).2.2.2.2.2.2.2.1, (q8 (q8 v9)).1, (q8 (q8 v9)).2.1, (q8 (q8 v9)).2.2.1, (q8 (q8 v9)).2.2.2.1, (q8 (q8 v9)).2.2.2.2.1, (q8 (q8 v9)).2.2.2.2.2.1, (q8 (q8 v9)).2.2.2.2.2.2.1, (q8 (q8 v9)).2.2.2.2.2.2.2.1, (q8 (q8 (q8 v9))).1, (q8 (q8 (q8 v9))).2.1, (q8 (q8 (q8 v9))).2.2.1, (q8 (q8 (q8 v9))).2.2.2.1, (q8 (q8 (q8 (q8 (q8 (q8 v9)))))).2.2.2))
            (some (v9.1, v9.2.1, v9.2.2.1, !(decide (v9.2.2.2.2.1 = v9.2.2.1)), v9.2.2.2.2.2.1, v9.2.2.2.2.2.2.1, v9.2.2.2.2.2.2.2.1, v9.2.2.2.2.2.2.2.2.1, v9.2.2.2.2.2.2.2.2.2.1, (q8 v9).2.2.1, (q8 v9).2.2.2.1, (q8 v9).2.2.2.2.1, (q8 v9).2.2.2.2.2.1, (q8 v9).2.2.2.2.2.2.1, (q8 v9).2.2.2.2.2.2.2.1, (q8 (q8 v9)).1, (q8 (q8 v9)).2.1, (q8 (q8 v9)).2.2.1, (q8 (q8 v9)).2.2.2.1, (q8 (q8 v9)).2.2.2.2.1, (q8 (q8 v9)).2.2.2.2.2.1, (q8 (q8 v9)).2.2.2.2.2.2.1, (q8 (q8 v9)).2.2.2.2.2.2.2.1, (q8 (q8 (q8 v9))).1, (q8 (q8 (q8 v9))).2.1, (q8 (q8 (q8 v9))).2.2.1, (q8 (q8 (q8 v9))).2.2.2.1, (q8 (q8 (q8 (q8 (q8 (q8 v9)))))).2.2.2))))) fun v14 =>
       branch v14.2.2.2.1
        (some (.inl false))
        (some (.inr (v14.1, v14.2.1, v14.2.2.1, v14.2.2.2.2)))) fun v15 =>
     csO v15
      (fun v16 => some v16)
      (fun v17 => bindO (F30 K (v17.2.2.2.1, v17.2.2.2.2.1, v17.2.2.2.2.2.1, v17.2.2.2.2.2.2.1, v17.2.2.2.2.2.2.2.1, v17.2.2.2.2.2.2.2.2.1, v17.2.2.2.2.2.2.2.2.2.1, (q8 v17).2.2.1, (q8 v17).2.2.2.1, (q8 v17).2.2.2.2.1, (q8 v17).2.2.2.2.2.1, (q8 v17).2.2.2.2.2.2.1, (q8 v17).2.2.2.2.2.2.2.1, (q8 (q8 v17)).1, (q8 (q8 v17)).2.1, (q8 (q8 v17)).2.2.1, (q8 (q8 v17)).2.2.2.1, (q8 (q8 v17)).2.2.2.2.1, (q8 (q8 v17)).2.2.2.2.2.1, (q8 (q8 v17)).2.2.2.2.2.2.1, (q8 (q8 v17)).2.2.2.2.2.2.2.1, (q8 (q8 (q8 v17))).1, 1, (q8 (q8 (q8 v17))).2.1)) fun v18 =>
      bindO (F31 K (v17.2.2.2.1, v17.2.2.2.2.1, v17.2.2.2.2.2.1, v17.2.2.2.2.2.2.1, v17.2.2.2.2.2.2.2.1, v17.2.2.2.2.2.2.2.2.1, v17.2.2.2.2.2.2.2.2.2.1, (q8 v17).2.2.1, (q8 v17).2.2.2.1, (q8 v17).2.2.2.2.1, (q8 v17).2.2.2.2.2.1, (q8 v17).2.2.2.2.2.2.1, (q8 v17).2.2.2.2.2.2.2.1, (q8 (q8 v17)).1, (q8 (q8 v17)).2.1, (q8 (q8 v17)).2.2.1, (q8 (q8 v17)).2.2.2.1, (q8 (q8 v17)).2.2.2.2.1, (q8 (q8 v17)).2.2.2.2.2.1, (q8 (q8 v17)).2.2.2.2.2.2.1, (q8 (q8 v17)).2.2.2.2.2.2.2.1, v18.2, (q8 (q8 (q8 v17))).1, 1)) fun v19 =>
      branch (decide (v19 < 0))
       (some false)
       (branch (!(decide (v19 = v18.1)))
        (some false)
        (bindO (F28o K (q8 (q8 (q8 (q8 (q8 (q8 v17)))))).2) fun v20 =>
        bindO (F18 K (v20.1, v20.2.1, v20.2.2.1, v20.2.2.2.1, v20.2.2.2.2.1, v20.2.2.2.2.2.1, v20.2.2.2.2.2.2.1, v20.2.2.2.2.2.2.2.1, v20.2.2.2.2.2.2.2.2.1, v20.2.2.2.2.2.2.2.2.2.1, (q8 v20).2.2.1, (q8 v20).2.2.2.1, (q8 v20).2.2.2.2.1, (q8 v20).2.2.2.2.2.1, (q8 v20).2.2.2.2.2.2.1, (q8 v20).2.2.2.2.2.2.2.1, (q8 (q8 v20)).1, (q8 (q8 v20)).2.1, (q8 (q8 v20)).2.2.1, (q8 (q8 v20)).2.2.2.1, (q8 (q8 v20)).2.2.2.2.1, (q8 (q8 v20)).2.2.2.2.2.2, (q8 (q8 v20)).2.2.2.2.2.1, v17.1)) fun v21 =>
        bindO (α := Bool ⊕ (Int × Int × Int × Int × Int × Int × Int × Int × Int × Int × Int × Bool × Bool × (List UInt8) × Int × Int × (List UInt8) × Int × Bool × Int × (List UInt8) × (List UInt8) × Int × List Int)) (bindO (α := Int × Bool × Int × Int × Int × Int × Int × Int × Int × Int × Int × Int × Bool × Bool × (List UInt8) × Int × Int × (List UInt8) × Int × Bool × Int × (List UInt8) × (List UInt8) × Int × List Int) (bindO (F29 K (v21.1, v21.2.1, v21.2.2.1, v21.2.2.2.1, v21.2.2.2.2.1, v21.2.2.2.2.2.1, v21.2.2.2.2.2.2.1, v21.2.2.2.2.2.2.2.1, v21.2.2.2.2.2.2.2.2.1, v21.2.2.2.2.2.2.2.2.2.1, (q8 v21).2.2.1, (q8 v21).2.2.2.1, (q8 v21).2.2.2.2.1, (q8 v21).2.2.2.2.2.1, (q8 v21).2.2.2.2.2.2.1, (q8 v21).2.2.2.2.2.2.2.1, (q8 (q8 v21)).1, (q8 (q8 v21)).2.1, (q8 (q8 v21)).2.2.1, (q8 (q8 v21)).2.2.2.1, (q8 (q8 v21)).2.2.2.2.1, (q8 (q8 (q8 v21))), (q8 (q8 v21)).2.2.2.2.2.1, (q8 (q8 (q8 v17))).2.2.1, (q8 (q8 (q8 v17))).2.2.2.1, (q8 (q8 (q8 v17))).2.2.2.2.1, (q8 (q8 (q8 v17))).2.2.2.2.2.1, (q8 (q8 (q8 v17))).2.2.2.2.2.2.1, (q8 (q8 (q8 v17))).2.2.2.2.2.2.2.1, (q8 (q8 (q8 (q8 v17)))).1, (q8 (q8 (q8 (q8 v17)))).2.1, (q8 (q8 (q8 (q8 v17)))).2.2.1, (q8 (q8 (q8 (q8 v17)))).2.2.2.1, (q8 (q8 (q8 (q8 v17)))).2.2.2.2.1, (q8 (q8 (q8 (q8 v17)))).2.2.2.2.2.1, (q8 (q8 (q8 (q8 v17)))).2.2.2.2.2.2.1, (q8 (q8 (q8 (q8 v17)))).2.2.2.2.2.2.2.1, (q8 (q8 (q8 (q8 (q8 v17))))).1, (q8 (q8 (q8 (q8 (q8 v17))))).2.1, (q8 (q8 (q8 (q8 (q8 v17))))).2.2.1, (q8 (q8 (q8 (q8 (q8 v17))))).2.2.2.1, (q8 (q8 (q8 (q8 (q8 v17))))).2.2.2.2.1, (q8 (q8 (q8 (q8 (q8 v17))))).2.2.2.2.2.1, (q8 (q8 (q8 (q8 (q8 v17))))).2.2.2.2.2.2.1, (q8 (q8 (q8 (q8 (q8 v17))))).2.2.2.2.2.2.2.1, (q8 (q8 (q8 (q8 (q8 (q8 v17)))))).1)) fun v22 =>
            branch (!v22)
             (some (v18.1, true, v17.2.2.2.1, v17.2.2.2.2.1, v17.2.2.2.2.2.1, v17.2.2.2.2.2.2.1, v17.2.2.2.2.2.2.2.1, v17.2.2.2.2.2.2.2.2.1, v17.2.2.2.2.2.2.2.2.2.1, (q8 v17).2.2.1, (q8 v17).2.2.2.1, (q8 v17).2.2.2.2.1, (q8 v17).2.2.2.2.2.1, (q8 v17).2.2.2.2.2.2.1, (q8 v17).2.2.2.2.2.2.2.1, (q8 (q8 v17)).1, (q8 (q8 v17)).2.1, (q8 (q8 v17)).2.2.1, (q8 (q8 v17)).2.2.2.1, (q8 (q8 v17)).2.2.2.2.1, (q8 (q8 v17)).2.2.2.2.2.1, (q8 (q8 v17)).2.2.2.2.2.2.1, (q8 (q8 v17)).2.2.2.2.2.2.2.1, (q8 (q8 (q8 v17))).1, v18.2))
             (branch (!(decide ((q8 (q8 v21)).2.2.2.2.2.2.1 = v17.2.1)))
              (some (v18.1, true, v17.2.2.2.1, v17.2.2.2.2.1, v17.2.2.2.2.2.1, v17.2.2.2.2.2.2.1, v17.2.2.2.2.2.2.2.1, v17.2.2.2.2.2.2.2.2.1, v17.2.2.2.2.2.2.2.2.2.1, (q8 v17).2.2.1, (q8 v17).2.2.2.1, (q8 v17).2.2.2.2.1, (q8 v17).2.2.2.2.2.1, (q8 v17).2.2.2.2.2.2.1, (q8 v17).2.2.2.2.2.2.2.1, (q8 (q8 v17)).1, (q8 (q8 v17)).2.1, (q8 (q8 v17)).2.2.1, (q8 (q8 v17)).2.2.2.1, (q8 (q8 v17)).2.2.2.2.1, (q8 (q8 v17)).2.2.2.2.2.1, (q8 (q8 v17)).2.2.2.2.2.2.1, (q8 (q8 v17)).2.2.2.2.2.2.2.1, (q8 (q8 (q8 v17))).1, v18.2))
              (some (v18.1, !(decide ((q8 (q8 v21)).2.2.2.2.2.2.2.1 = v17.2.2.1)), v17.2.2.2.1, v17.2.2.2.2.1, v17.2.2.2.2.2.1, v17.2.2.2.2.2.2.1, v17.2.2.2.2.2.2.2.1, v17.2.2.2.2.2.2.2.2.1, v17.2.2.2.2.2.2.2.2.2.1, (q8 v17).2.2.1, (q8 v17).2.2.2.1, (q8 v17).2.2.2.2.1, (q8 v17).2.2.2.2.2.1, (q8 v17).2.2.2.2.2.2.1, (q8 v17).2.2.2.2.2.2.2.1, (q8 (q8 v17)).1, (q8 (q8 v17)).2.1, (q8 (q8 v17)).2.2.1, (q8 (q8 v17)).2.2.2.1, (q8 (q8 v17)).2.2.2.2.1, (q8 (q8 v17)).2.2.2.2.2.1, (q8 (q8 v17)).2.2.2.2.2.2.1, (q8 (q8 v17)).2.2.2.2.2.2.2.1, (q8 (q8 (q8 v17))).1, v18.2)))) fun v23 =>
          branch v23.2.1
           (some (.inl false))
           (some (.inr (v23.1, v23.2.2)))) fun v24 =>
        csO v24
         (fun v25 => some v25)
         (fun v26 => bindO (F31 K (v26.2.1, v26.2.2.1, v26.2.2.2.1, v26.2.2.2.2.1, v26.2.2.2.2.2.1, v26.2.2.2.2.2.2.1, v26.2.2.2.2.2.2.2.1, v26.2.2.2.2.2.2.2.2.1, v26.2.2.2.2.2.2.2.2.2.1, (q8 v26).2.2.1, (q8 v26).2.2.2.1, (q8 v26).2.2.2.2.1, (q8 v26).2.2.2.2.2.1, (q8 v26).2.2.2.2.2.2.1, (q8 v26).2.2.2.2.2.2.2.1, (q8 (q8 v26)).1, (q8 (q8 v26)).2.1, (q8 (q8 v26)).2.2.1, (q8 (q8 v26)).2.2.2.1, (q8 (q8 v26)).2.2.2.2.1, (q8 (q8 v26)).2.2.2.2.2.1, (q8 (q8 v26)).2.2.2.2.2.2.2, (q8 (q8 v26)).2.2.2.2.2.2.1, 1)) fun v27 =>
         branch (decide (v27 < 0))
          (some false)
          (branch (!(decide (v27 = v26.1)))
           (some false)
           (some true)))))))))
def ct10 (K : Nat) : Ct := ⟨[.agg mL, .l i6], [], [.l (.v .b)], [], [], F10 K⟩
theorem c10 (K : Nat) : CtOk prog 10 (ct10 K) :=
  con_mk (Y := Y) (L := [(35, ct35 K), (18, ct18 K), (27, ct27 K), (28, ct28o K), (28, ct28 K), (29, ct29 K), (30, ct30 K), (31, ct31 K)]) (K := K) (an := (.seq .no (.seq .no (.seq .no (.seq (.seq .no (.cond .no .no)) (.seq (.reg [] [(3, .frz 27000)]) (.seq .no (.seq .no (.seqJ [(1000000, ⟨(ru 1 (.l i6 :: .l (.ptr 3000 0 0) :: ru 3 (.l (.ptr 7000 0 0) :: .l i6 :: .l i6 :: .l (.ptr 10000 0 0) :: .l (.ptr 11000 0 0) :: .l i6 :: .l i6 :: ru 109 []))), [(11000, ⟨23, false, .mix (some 30) [[.l i6, .l i6, .l i6, .l i6, .l i6, .l i6, .l i6, .l i6, .l i6, .l i6, .l (.v .b), .l (.v .b), .l (.v .s), .l i6, .l i6, .l (.v .s), .l i6, .l (.v .b), .l i6, .l (.v .s), .l (.v .s), .l (.all 38000), .l i6]]⟩), (38000, ⟨1, true, .row (.i .i64)⟩), (10000, ⟨23, false, .mix (some 30) [[.l i6, .l i6, .l i6, .l i6, .l i6, .l i6, .l i6, .l i6, .l i6, .l i6, .l (.v .b), .l (.v .b), .l (.v .s), .l i6, .l i6, .l (.v .s), .l i6, .l (.v .b), .l i6, .l (.v .s), .l (.v .s), .l (.all 34000), .l i6]]⟩), (34000, ⟨1, true, .row (.i .i64)⟩), (7000, ⟨23, false, .mix (some 30) [mN]⟩), (3000, ⟨23, false, .mix (some 49) [mN]⟩)]⟩)] true (.seqJ [(1000000, ⟨(ru 1 (.l i6 :: .l (.ptr 3000 0 0) :: ru 3 (.l (.ptr 7000 0 0) :: .l i6 :: .l i6 :: .l (.ptr 10000 0 0) :: .l (.ptr 11000 0 0) :: .l i6 :: .l i6 :: ru 41 (.l (.v .b) :: ru 67 [])))), [(11000, ⟨23, false, .mix (some 30) [[.l i6, .l i6, .l i6, .l i6, .l i6, .l i6, .l i6, .l i6, .l i6, .l i6, .l (.v .b), .l (.v .b), .l (.v .s), .l i6, .l i6, .l (.v .s), .l i6, .l (.v .b), .l i6, .l (.v .s), .l (.v .s), .l (.all 38000), .l i6]]⟩), (38000, ⟨1, true, .row (.i .i64)⟩), (10000, ⟨23, false, .mix (some 30) [[.l i6, .l i6, .l i6, .l i6, .l i6, .l i6, .l i6, .l i6, .l i6, .l i6, .l (.v .b), .l (.v .b), .l (.v .s), .l i6, .l i6, .l (.v .s), .l i6, .l (.v .b), .l i6, .l (.v .s), .l (.v .s), .l (.all 34000), .l i6]]⟩), (34000, ⟨1, true, .row (.i .i64)⟩), (7000, ⟨23, false, .mix (some 30) [mN]⟩), (3000, ⟨23, false, .mix (some 49) [mN]⟩)]⟩)] false .no (.cond .no .no)) (.seq (.seq .no (.cond .no .no)) (.seq .no (.seq .no (.seqJ [(1000000, ⟨(ru 1 (.l i6 :: .l (.ptr 3000 0 0) :: ru 3 (.l (.ptr 7000 0 0) :: .l i6 :: .l i6 :: ru 1 (.l (.ptr 11000 0 0) :: ru 111 [])))), [(11000, ⟨23, false, .mix (some 30) [[.l i6, .l i6, .l i6, .l i6, .l i6, .l i6, .l i6, .l i6, .l i6, .l i6, .l (.v .b), .l (.v .b), .l (.v .s), .l i6, .l i6, .l (.v .s), .l i6, .l (.v .b), .l i6, .l (.v .s), .l (.v .s), .l (.all 38000), .l i6]]⟩), (38000, ⟨1, true, .row (.i .i64)⟩), (7000, ⟨23, false, .mix (some 30) [mN]⟩), (3000, ⟨23, false, .mix (some 49) [mN]⟩)]⟩)] true (.seqJ [(1000000, ⟨(ru 1 (.l i6 :: .l (.ptr 3000 0 0) :: ru 3 (.l (.ptr 7000 0 0) :: .l i6 :: .l i6 :: ru 1 (.l (.ptr 11000 0 0) :: ru 69 (.l (.v .b) :: ru 41 []))))), [(11000, ⟨23, false, .mix (some 30) [[.l i6, .l i6, .l i6, .l i6, .l i6, .l i6, .l i6, .l i6, .l i6, .l i6, .l (.v .b), .l (.v .b), .l (.v .s), .l i6, .l i6, .l (.v .s), .l i6, .l (.v .b), .l i6, .l (.v .s), .l (.v .s), .l (.all 38000), .l i6]]⟩), (38000, ⟨1, true, .row (.i .i64)⟩), (7000, ⟨23, false, .mix (some 30) [mN]⟩), (3000, ⟨23, false, .mix (some 49) [mN]⟩)]⟩)] false .no (.cond .no .no)) (.seq .no (.seq .no (.seq .no (.seq .no (.seq (.seq .no (.cond .no .no)) (.seq (.seq .no (.cond .no .no)) (.seq .no (.seqJ [(1000000, ⟨(ru 10 (.l (.ptr 11000 0 0) :: ru 3 (.l i6 :: ru 107 []))), [(11000, ⟨23, false, .mix (some 30) [[.l i6, .l i6, .l i6, .l i6, .l i6, .l i6, .l i6, .l i6, .l i6, .l i6, .l (.v .b), .l (.v .b), .l (.v .s), .l i6, .l i6, .l (.v .s), .l i6, .l (.v .b), .l i6, .l (.v .s), .l (.v .s), .l (.all 38000), .l i6]]⟩), (38000, ⟨1, true, .row (.i .i64)⟩)]⟩)] true (.seqJ [(1000000, ⟨(ru 10 (.l (.ptr 11000 0 0) :: ru 3 (.l i6 :: ru 98 (.l (.v .b) :: ru 8 [])))), [(11000, ⟨23, false, .mix (some 30) [[.l i6, .l i6, .l i6, .l i6, .l i6, .l i6, .l i6, .l i6, .l i6, .l i6, .l (.v .b), .l (.v .b), .l (.v .s), .l i6, .l i6, .l (.v .s), .l i6, .l (.v .b), .l i6, .l (.v .s), .l (.v .s), .l (.all 38000), .l i6]]⟩), (38000, ⟨1, true, .row (.i .i64)⟩)]⟩)] false .no (.cond .no .no)) (.seq .no (.seq .no (.seq (.seq .no (.cond .no .no)) (.seq (.seq .no (.cond .no .no)) .no))))))))))))))))))))))))) func10 mixed (ctabOk_cons (c35 K) (ctabOk_cons (c18 K) (ctabOk_cons (c27 K) (ctabOk_cons (c28o K) (ctabOk_cons (c28 K) (ctabOk_cons (c29 K) (ctabOk_cons (c30 K) (ctabOk_cons (c31 K) ctabOk_nil)))))))) (by kernel_rfl) fun x => by kernel_rfl
def T49 : Ty := (.c (.c (.i .i64) (.c (.i .i64) (.c (.i .i64) (.c (.i .i64) (.c (.i .i64) (.c (.i .i64) (.c (.i .i64) (.c (.i .i64) (.c (.i .i64) (.c (.i .i64) (.c .b .b))))))))))) (.c (.c .s (.c (.i .i64) (.c (.i .i64) (.c .s (.c (.i .i64) (.c .b (.i .i64))))))) (.c .s (.c .s (.c (.l (.i .i64)) (.i .i64))))))
theorem tl49 : tyL prog 64 49 = some T49 := by kernel_rfl
def T2 : Ty := (.i .i64)
theorem tl2 : tyL prog 64 2 = some T2 := by kernel_rfl
def A10 (K : Nat) (a0 : T49.den) (a1 : T2.den) : Option Bool := F10 K (a0.1.1, a0.1.2.1, a0.1.2.2.1, a0.1.2.2.2.1, a0.1.2.2.2.2.1, a0.1.2.2.2.2.2.1, a0.1.2.2.2.2.2.2.1, a0.1.2.2.2.2.2.2.2.1, a0.1.2.2.2.2.2.2.2.2.1, a0.1.2.2.2.2.2.2.2.2.2.1, a0.1.2.2.2.2.2.2.2.2.2.2.1, a0.1.2.2.2.2.2.2.2.2.2.2.2, a0.2.1.1, a0.2.1.2.1, a0.2.1.2.2.1, a0.2.1.2.2.2.1, a0.2.1.2.2.2.2.1, a0.2.1.2.2.2.2.2.1, a0.2.1.2.2.2.2.2.2, a0.2.2.1, a0.2.2.2.1, a0.2.2.2.2.1, a0.2.2.2.2.2, a1)
theorem fun10 (K : Nat) (a0 : T49.den) (a1 : T2.den) : funOf (ct10 K) [.agg ((Ty.enc T49 a0).map SV.d), .d (.i .i64 a1)] [] = bindO (A10 K a0 a1) fun r => some ([.d (.b r)], []) := by kernel_rfl
end Go.U.Tryz
