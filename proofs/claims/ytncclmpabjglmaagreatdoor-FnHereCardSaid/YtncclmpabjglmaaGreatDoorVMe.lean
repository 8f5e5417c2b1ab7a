/- A part of the proof. No condition. -/
import Derived.Test.YtncclmpabjglmaaGreatDoorVMs
set_option linter.unusedVariables false
set_option linter.unusedSimpArgs false
set_option linter.unusedSectionVars false
namespace Go.U.Tryz
open Go Go.U Go.Proofs Go.Proofs.Tryz
set_option maxRecDepth 100000
set_option linter.unusedVariables false
def F61o (K : Nat) (x : MM) : Option (Int × Int × Int × Int × Int × Int × Int × Int × Int × Int × Bool × Bool × (List UInt8) × Int × Int × (List UInt8) × Int × Bool × Int × (List UInt8) × (List UInt8) × Int × List Int) :=
  bindO (F111 K (pr21 x)) fun v0 =>
  some (x.1, x.2.1, x.2.2.1, x.2.2.2.1, pr4 x, pr5 x, pr6 x, pr7 x, pr8 x, pr9 x, pr10 x, pr11 x, pr12 x, pr13 x, pr14 x, pr15 x, pr16 x, pr17 x, pr18 x, pr19 x, pr20 x, er22 x, v0)
def ct61o (K : Nat) : Ct := ⟨[.agg mL], [], [.agg [i6, i6, i6, i6, i6, i6, i6, i6, i6, i6, (.v .b), (.v .b), (.v .s), i6, i6, (.v .s), i6, (.v .b), i6, (.v .s), (.v .s), (.all 0), i6]], [⟨1, true, .row (.i .i64)⟩], [], F61o K⟩
theorem c61o (K : Nat) : CtOk prog 61 (ct61o K) :=
  con_mk (Y := Y) (K := K) (an := (.seq .no (.seq .no .no))) func61 mixed (ctabOk_cons (c111 K) ctabOk_nil) (by kernel_rfl) fun x => by kernel_rfl
def F22 (K : Nat) (x : MM) : Option (Int × Int × Int × Int × Int × Int × Int × Int × Int × Int × Bool × Bool × (List UInt8) × Int × Int × (List UInt8) × Int × Bool × Int × (List UInt8) × (List UInt8) × Int × Int × List Int) :=
  bindO (F32 K x) fun v0 =>
  branch (!v0)
   (some (0, 0, 0, 0, 0, 0, 0, 0, 0, 0, false, false, [], 0, 0, [], 0, false, 0, [], [], 0, 3, []))
   (bindO (F60 K x) fun v1 =>
   bindO (F61o K (v1.1, v1.2.1, v1.2.2.1, v1.2.2.2.1, pr4 v1, pr5 v1, pr6 v1, pr7 v1, pr8 v1, pr9 v1, pr10 v1, pr11 v1, pr12 v1, pr13 v1, pr14 v1, pr15 v1, pr16 v1, pr17 v1, pr18 v1, pr19 v1, pr20 v1, pr21 v1, pr22 v1)) fun v2 =>
   some (v2.1, v2.2.1, v2.2.2.1, v2.2.2.2.1, pr4 v2, pr5 v2, pr6 v2, pr7 v2, pr8 v2, pr9 v2, pr10 v2, pr11 v2, pr12 v2, pr13 v2, pr14 v2, pr15 v2, pr16 v2, pr17 v2, pr18 v2, pr19 v2, pr20 v2, pr21 v2, er23 v1, er22 v2))
def ct22 (K : Nat) : Ct := ⟨[.agg mL], [], [.agg [i6, i6, i6, i6, i6, i6, i6, i6, i6, i6, (.v .b), (.v .b), (.v .s), i6, i6, (.v .s), i6, (.v .b), i6, (.v .s), (.v .s), (.all 0), i6], .l i6], [⟨1, true, .row (.i .i64)⟩], [], F22 K⟩
theorem c22 (K : Nat) : CtOk prog 22 (ct22 K) :=
  con_mk (Y := Y) (K := K) (an := (.seq .no (.seq (.seq .no (.cond (.seq (.reg [] [(2, .vcell 3000 21 9900 1 (.i .i64))]) .no) .no)) (.seq .no .no)))) func22 mixed (ctabOk_cons (c32 K) (ctabOk_cons (c60 K) (ctabOk_cons (c61o K) ctabOk_nil))) (by kernel_rfl) fun x => by kernel_rfl
def T49 : Ty := (.c (.c (.i .i64) (.c (.i .i64) (.c (.i .i64) (.c (.i .i64) (.c (.i .i64) (.c (.i .i64) (.c (.i .i64) (.c (.i .i64) (.c (.i .i64) (.c (.i .i64) (.c .b .b))))))))))) (.c (.c .s (.c (.i .i64) (.c (.i .i64) (.c .s (.c (.i .i64) (.c .b (.i .i64))))))) (.c .s (.c .s (.c (.l (.i .i64)) (.i .i64))))))
def T2 : Ty := (.i .i64)
end Go.U.Tryz
