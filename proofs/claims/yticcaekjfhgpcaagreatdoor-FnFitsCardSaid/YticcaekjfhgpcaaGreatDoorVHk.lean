/- A part of the proof. No condition. -/
import Derived.Test.YticcaekjfhgpcaaGreatDoorVHg
set_option linter.unusedVariables false
set_option linter.unusedSimpArgs false
set_option linter.unusedSectionVars false
namespace Go.U.Tryz
open Go Go.U Go.Proofs Go.Proofs.Tryz
set_option maxRecDepth 100000
-- loop.example/g00460/spec.DrawFitting
def F12 (K : Nat) (x : List Int) : Option (List UInt8) :=
  bindO (F25 K x) fun v0 =>
  bindO (F26 K (4, v0)) fun v1 =>
  branch (decide (v1.1 = 0))
   (bindO (F29 K v1.2) fun v2 =>
   bindO (F28 K (v2.1, v2.2.1, v2.2.2.1)) fun v3 =>
   bindO (F27 K (v3, v2.2.2.2)) fun v4 =>
   some v4.1)
   (branch (decide (v1.1 = 1))
    (bindO (F26 K (6, v1.2)) fun v5 =>
    nth [([108, 100, 32, 97, 44] : List UInt8), ([108, 100, 32, 104, 108, 44] : List UInt8), ([106, 114, 32] : List UInt8), ([108, 100, 32, 91] : List UInt8), ([97, 100, 100, 32, 115, 112, 44] : List UInt8), ([108, 100, 32, 104, 108, 44, 115, 112, 43] : List UInt8)] v5.1 fun v6 =>
    bindO (F30 K (2, v5.2)) fun v7 =>
    guard (decide ((v6.length + v7.1.length) ≤ 9223372036854775807)) <|
    bindO (F26 K (3, v7.2)) fun v8 =>
    nth [[], ([93] : List UInt8), ([93, 44, 97] : List UInt8)] v8.1 fun v9 =>
    guard (decide ((((v6 ++ v7.1).length) + v9.length) ≤ 9223372036854775807)) <|
    some ((v6 ++ v7.1) ++ v9))
    (bindO (F29 K v1.2) fun v10 =>
    bindO (F28 K (v10.1, v10.2.1, v10.2.2.1)) fun v11 =>
    some v11))
def ct12 (K : Nat) : Ct := ⟨[.l (.v (.l (.i .u8)))], [], [.l (.v .s)], [], [], F12 K⟩
theorem c12 (K : Nat) : CtOk prog 12 (ct12 K) :=
  con_mk (Y := Y) (L := [(25, ct25 K), (26, ct26 K), (29, ct29 K), (28, ct28 K), (27, ct27 K), (30, ct30 K)]) (K := K) (an := (.seq .no (.seq .no (.seq (.seq .no (.blk (.seq .no (.cond .no (.seq .no (.cond (.seq (.reg [0, 8] []) .no) .no)))))) .no)))) func12 mixed (ctabOk_cons (c25 K) (ctabOk_cons (c26 K) (ctabOk_cons (c29 K) (ctabOk_cons (c28 K) (ctabOk_cons (c27 K) (ctabOk_cons (c30 K) ctabOk_nil)))))) (by kernel_rfl) fun x => by kernel_rfl
-- loop.example/g00460/laws.FnFits
def F4 (K : Nat) (x : List Int) : Option (Bool) :=
  bindO (F11 K x) fun v0 =>
  branch v0
   (some true)
   (bindO (F12 K x) fun v1 =>
   bindO (F6 K v1) fun v2 =>
   bindO (F5 K v1) fun v3 =>
   bindO (α := Bool ⊕ ((List Int) × (List UInt8) × (List UInt8) × (List (Int × Int × List UInt8)) × Bool × Int × Bool × Int)) (bindO (α := (List Int) × (List UInt8) × (List UInt8) × (List (Int × Int × List UInt8)) × Bool × Bool × Int × Bool × Int) (branch (!((decide (v2.1 = v3.1)) && ((decide (v2.2.1 = v3.2.1)) && (decide (v2.2.2.1 = v3.2.2.1)))))
        (some (x, v1, v2.2.2.2.1, v2.2.2.2.2.1, v2.2.2.2.2.2, true, v2.1, v2.2.1, v2.2.2.1))
        (branch (!(decide (v2.2.2.2.1 = v3.2.2.2.1)))
         (some (x, v1, v2.2.2.2.1, v2.2.2.2.2.1, v2.2.2.2.2.2, true, v2.1, v2.2.1, v2.2.2.1))
         (bindO (F13 K (v2.2.2.2.2.1, v3.2.2.2.2.1)) fun v4 =>
         branch (!v4)
          (some (x, v1, v2.2.2.2.1, v2.2.2.2.2.1, v2.2.2.2.2.2, true, v2.1, v2.2.1, v2.2.2.1))
          (some (x, v1, v2.2.2.2.1, v2.2.2.2.2.1, v2.2.2.2.2.2, !(decide (v2.2.2.2.2.2 = v3.2.2.2.2.2)), v2.1, v2.2.1, v2.2.2.1))))) fun v5 =>
     branch v5.2.2.2.2.2.1
      (some (.inl false))
      (some (.inr (v5.1, v5.2.1, v5.2.2.1, v5.2.2.2.1, v5.2.2.2.2.1, v5.2.2.2.2.2.2)))) fun v6 =>
   csO v6
    (fun v7 => some v7)
    (fun v8 => bindO (α := Bool ⊕ (List Int)) (bindO (α := (List Int) × Bool) (branch v8.2.2.2.2.1
         (bindO (F14 K (v8.2.2.2.2.2.1, v8.2.2.2.2.2.2.1)) fun v9 =>
         branch (decide (v9 = 0))
          (some (v8.1, true))
          (branch (!(decide ((decide (v8.2.2.1 = [])) = (decide ((v8.2.2.2.1.length : Int) = 0)))))
           (some (v8.1, true))
           (branch (decide (v8.2.2.1 = []))
            (bindO (F15 K v8.2.2.2.2.2) fun v10 =>
            some (v8.1, !(decide (v10 = v8.2.1))))
            (some (v8.1, false)))))
         (some (v8.1, false))) fun v11 =>
      branch v11.2
       (some (.inl false))
       (some (.inr v11.1))) fun v12 =>
    csO v12
     (fun v13 => some v13)
     (fun v14 => bindO (F16 K v14) fun v15 =>
     bindO (F15 K v15) fun v16 =>
     bindO (F6 K v16) fun v17 =>
     bindO (F17 K v15) fun v18 =>
     branch (!v18)
      (some true)
      (branch v17.2.2.2.2.2
       (branch (decide (v17.1 = v15.1))
        (some (decide (v17.2.1 = v15.2.1)))
        (some false))
       (some false)))))
def ct4 (K : Nat) : Ct := ⟨[.l (.v (.l (.i .u8)))], [], [.l (.v .b)], [], [], F4 K⟩
theorem c4 (K : Nat) : CtOk prog 4 (ct4 K) :=
  con_mk (Y := Y) (L := [(5, ct5 K), (6, ct6 K), (11, ct11 K), (17, ct17 K), (13, ct13 K), (14, ct14 K), (15, ct15 K), (16, ct16 K), (12, ct12 K)]) (K := K) (an := (.seq .no (.seq (.seq .no (.cond .no .no)) (.seq .no (.seq .no (.seq .no (.seqJ [(1000000, ⟨(.l (.v (.l (.i .u8))) :: ru 2 (.l (.v .s) :: .l (.ptr 5000 0 0) :: .l (.v .s) :: .l (.v (.l (.c (.i .i64) (.c (.i .i64) .s)))) :: .l (.v .b) :: ru 103 [])), [(5000, ⟨3, false, .mix (some 23) [[.l (.v (.i .i64)), .l (.v .b), .l (.v (.i .i64))]]⟩)]⟩)] true (.seqJ [(1000000, ⟨(.l (.v (.l (.i .u8))) :: ru 2 (.l (.v .s) :: .l (.ptr 5000 0 0) :: .l (.v .s) :: .l (.v (.l (.c (.i .i64) (.c (.i .i64) .s)))) :: .l (.v .b) :: ru 45 (.l (.v .b) :: ru 57 []))), [(5000, ⟨3, false, .mix (some 23) [[.l (.v (.i .i64)), .l (.v .b), .l (.v (.i .i64))]]⟩)]⟩)] false .no (.cond .no .no)) (.seqJ [(1000000, ⟨(.l (.v (.l (.i .u8))) :: ru 110 []), []⟩)] true (.seqJ [(1000000, ⟨(.l (.v (.l (.i .u8))) :: ru 79 (.l (.v .b) :: ru 30 [])), []⟩)] false .no (.cond .no .no)) (.seq .no (.seq .no .no)))))))))) func4 mixed (ctabOk_cons (c5 K) (ctabOk_cons (c6 K) (ctabOk_cons (c11 K) (ctabOk_cons (c17 K) (ctabOk_cons (c13 K) (ctabOk_cons (c14 K) (ctabOk_cons (c15 K) (ctabOk_cons (c16 K) (ctabOk_cons (c12 K) ctabOk_nil))))))))) (by kernel_rfl) fun x => by kernel_rfl
def T31 : Ty := (.l (.i .u8))
theorem tl31 : tyL prog 64 31 = some T31 := by kernel_rfl
def A4 (K : Nat) (a0 : T31.den) : Option Bool := F4 K a0
theorem fun4 (K : Nat) (a0 : T31.den) : funOf (ct4 K) [.d (.rov (.i .u8) a0)] [] = bindO (A4 K a0) fun r => some ([.d (.b r)], []) := by kernel_rfl
end Go.U.Tryz
