/- A part of the proof. No condition. -/
import Derived.Test.YtllgcnjhlhkhjaaDoorVEe
set_option linter.unusedVariables false
set_option linter.unusedSimpArgs false
set_option linter.unusedSectionVars false
namespace Go.U.Tryd
open Go Go.U Go.Proofs Go.Proofs.Tryd
set_option maxRecDepth 100000
-- loop.example/g00460/spec.DrawCompiled
def F12 (K : Nat) (x : List Int) : Option (List UInt8) :=
  bindO (F23 K x) fun v0 =>
  bindO (F24 K (1, v0)) fun v1 =>
  bindO (F25 K (3, v1.2)) fun v2 =>
  branch v2.1
   (bindO (F26 K (v1.1, v2.2)) fun v3 =>
   some v3.1)
   (some v1.1)
def ct12 (K : Nat) : Ct := ⟨[.l (.v (.l (.i .u8)))], [], [.l (.v .s)], [], [], F12 K⟩
theorem c12 (K : Nat) : CtOk prog 12 (ct12 K) :=
  con_mk (Y := Y) (L := [(23, ct23 K), (25, ct25 K), (26, ct26 K), (24, ct24 K)]) (K := K) (an := (.seq .no (.seq .no (.seq .no (.seq (.seq .no (.cond .no .no)) .no))))) func12 mixed (ctabOk_cons (c23 K) (ctabOk_cons (c25 K) (ctabOk_cons (c26 K) (ctabOk_cons (c24 K) ctabOk_nil)))) (by kernel_rfl) fun x => by kernel_rfl
-- loop.example/g00460/laws.FnCompiled
def F4 (K : Nat) (x : List Int) : Option (Bool) :=
  bindO (F11 K x) fun v0 =>
  branch v0
   (some true)
   (bindO (F12 K x) fun v1 =>
   bindO (F7 K v1) fun v2 =>
   bindO (F6 K v1) fun v3 =>
   bindO (α := Bool ⊕ ((List UInt8) × List (Int × Int × List UInt8))) (bindO (α := (List UInt8) × (List (Int × Int × List UInt8)) × Bool × (List (Int × Int × List UInt8)) × Bool × Bool) (branch (!(decide (v2.2 = v3.2)))
        (some (v1, v2.1, v2.2, v3.1, v3.2, true))
        (bindO (F13 K (v2.1, v3.1)) fun v4 =>
        branch (!v4)
         (some (v1, v2.1, v2.2, v3.1, v3.2, true))
         (some (v1, v2.1, v2.2, v3.1, v3.2, !v2.2)))) fun v5 =>
     branch v5.2.2.2.2.2
      (branch (decide (v5.2.2.1 = v5.2.2.2.2.1))
       (bindO (F13 K (v5.2.1, v5.2.2.2.1)) fun v6 =>
       some (.inl v6))
       (some (.inl false)))
      (some (.inr (v5.1, v5.2.1)))) fun v7 =>
   csO v7
    (fun v8 => some v8)
    (fun v9 => guard (decide ((1 + v9.1.length) ≤ 9223372036854775807)) <|
    guard (decide ((((([40] : List UInt8) ++ v9.1).length) + 1) ≤ 9223372036854775807)) <|
    bindO (F7 K ((([40] : List UInt8) ++ v9.1) ++ ([41] : List UInt8))) fun v10 =>
    guard (decide ((2 + v9.1.length) ≤ 9223372036854775807)) <|
    guard (decide ((((([45, 40] : List UInt8) ++ v9.1).length) + 1) ≤ 9223372036854775807)) <|
    bindO (F7 K ((([45, 40] : List UInt8) ++ v9.1) ++ ([41] : List UInt8))) fun v11 =>
    bindO (α := Bool ⊕ ((List (Int × Int × List UInt8)) × (List (Int × Int × List UInt8)) × Bool × (List (Int × Int × List UInt8)) × Bool)) (bindO (α := (List (Int × Int × List UInt8)) × (List (Int × Int × List UInt8)) × Bool × (List (Int × Int × List UInt8)) × Bool × Bool) (branch (decide (190 < (v9.1.length : Int)))
         (some (v9.2, v10.1, v10.2, v11.1, v11.2, true))
         (some (v9.2, v10.1, v10.2, v11.1, v11.2, decide ((v9.2.length : Int) = 30)))) fun v12 =>
      branch v12.2.2.2.2.2
       (some (.inl true))
       (some (.inr (v12.1, v12.2.1, v12.2.2.1, v12.2.2.2.1, v12.2.2.2.2.1)))) fun v13 =>
    csO v13
     (fun v14 => some v14)
     (fun v15 => bindO (F14 K v15.1) fun v16 =>
     branch v16
      (branch (!v15.2.2.1)
       (branch (!v15.2.2.2.2)
        (some true)
        (guard (fitN (0 + v15.1.length) 32) <|
        guard (fitN ((([] ++ v15.1).length) + 1) 32) <|
        bindO (F13 K (v15.2.2.2.1, ([] ++ v15.1) ++ [(4, 0, [])])) fun v17 =>
        some v17))
       (bindO (F13 K (v15.2.1, v15.1)) fun v18 =>
       branch v18
        (branch (!v15.2.2.2.2)
         (some true)
         (guard (fitN (0 + v15.1.length) 32) <|
         guard (fitN ((([] ++ v15.1).length) + 1) 32) <|
         bindO (F13 K (v15.2.2.2.1, ([] ++ v15.1) ++ [(4, 0, [])])) fun v19 =>
         some v19))
        (some false)))
      (some false))))
def ct4 (K : Nat) : Ct := ⟨[.l (.v (.l (.i .u8)))], [], [.l (.v .b)], [], [], F4 K⟩
theorem c4 (K : Nat) : CtOk prog 4 (ct4 K) :=
  con_mk (Y := Y) (L := [(11, ct11 K), (13, ct13 K), (14, ct14 K), (6, ct6 K), (7, ct7 K), (12, ct12 K)]) (K := K) (an := (.seq .no (.seq (.seq .no (.cond .no .no)) (.seq .no (.seq .no (.seq .no (.seqJ [(1000000, ⟨(ru 3 (.l (.v .s) :: .l (.v (.l (.c (.i .i64) (.c (.i .i64) .s)))) :: ru 89 [])), []⟩)] true (.seqJ [(1000000, ⟨(ru 3 (.l (.v .s) :: .l (.v (.l (.c (.i .i64) (.c (.i .i64) .s)))) :: .l (.v .b) :: .l (.v (.l (.c (.i .i64) (.c (.i .i64) .s)))) :: .l (.v .b) :: ru 30 (.l (.v .b) :: ru 55 []))), []⟩)] false .no (.cond .no .no)) (.seq .no (.seq .no (.seqJ [(1000000, ⟨(ru 4 (.l (.v (.l (.c (.i .i64) (.c (.i .i64) .s)))) :: ru 3 (.l (.v (.l (.c (.i .i64) (.c (.i .i64) .s)))) :: .l (.v .b) :: .l (.v (.l (.c (.i .i64) (.c (.i .i64) .s)))) :: .l (.v .b) :: ru 82 []))), []⟩)] true (.seqJ [(1000000, ⟨(ru 4 (.l (.v (.l (.c (.i .i64) (.c (.i .i64) .s)))) :: ru 3 (.l (.v (.l (.c (.i .i64) (.c (.i .i64) .s)))) :: .l (.v .b) :: .l (.v (.l (.c (.i .i64) (.c (.i .i64) .s)))) :: .l (.v .b) :: ru 56 (.l (.v .b) :: ru 25 [])))), []⟩)] false .no (.cond .no .no)) .no)))))))))) func4 mixed (ctabOk_cons (c11 K) (ctabOk_cons (c13 K) (ctabOk_cons (c14 K) (ctabOk_cons (c6 K) (ctabOk_cons (c7 K) (ctabOk_cons (c12 K) ctabOk_nil)))))) (by kernel_rfl) fun x => by kernel_rfl
def T28 : Ty := (.l (.i .u8))
theorem tl28 : tyL prog 64 28 = some T28 := by kernel_rfl
def A4 (K : Nat) (a0 : T28.den) : Option Bool := F4 K a0
end Go.U.Tryd
