/- A part of the proof. No condition. -/
import Derived.Test.YtllgcnjhlhkhjaaDoorVEf
set_option linter.unusedVariables false
set_option linter.unusedSimpArgs false
set_option linter.unusedSectionVars false
namespace Go.U.Tryd
open Go Go.U Go.Proofs Go.Proofs.Tryd
set_option maxRecDepth 100000
-- loop.example/g00460/impl.evaluated
def F47_b0 (K : Nat) (x : (List ((List UInt8) × Int × Int)) × (List (Int × Int × List UInt8)) × Int × Int × List Int) : Option (((List ((List UInt8) × Int × Int)) × (List (Int × Int × List UInt8)) × Int × Int × List Int) ⊕ ((Int × Int) ⊕ (List Int))) :=
  branch (decide (x.2.2.2.1 < x.2.2.1))
   (nth x.2.1 x.2.2.2.1 fun v0 =>
   branch (decide (v0.1 = 1))
    (guard (fitN (x.2.2.2.2.length + ([w32 v0.2.1].length)) 4) <|
    some (.inl (x.1, x.2.1, x.2.2.1, w64 (x.2.2.2.1 + 1), x.2.2.2.2 ++ [w32 v0.2.1])))
    (branch (decide (v0.1 ≤ 3))
     (none)
     (branch (decide (v0.1 ≤ 7))
      (guard (decide (0 ≤ (w64 ((x.2.2.2.2.length : Int) - 1)) ∧ (w64 ((x.2.2.2.2.length : Int) - 1)) < (x.2.2.2.2.length : Int))) <|
      nthN x.2.2.2.2 ((w64 ((x.2.2.2.2.length : Int) - 1)).toNat) fun v1 =>
      bindO (F65 K (v0.1, v1)) fun v2 =>
      guard (decide (0 ≤ (w64 ((x.2.2.2.2.length : Int) - 1)) ∧ (w64 ((x.2.2.2.2.length : Int) - 1)) < (x.2.2.2.2.length : Int))) <|
      nthN x.2.2.2.2 ((w64 ((x.2.2.2.2.length : Int) - 1)).toNat) fun v3 =>
      some (.inl (x.1, x.2.1, x.2.2.1, w64 (x.2.2.2.1 + 1), List.set x.2.2.2.2 ((w64 ((x.2.2.2.2.length : Int) - 1)).toNat) v2)))
      (guard (decide (0 ≤ (w64 ((x.2.2.2.2.length : Int) - 2)) ∧ (w64 ((x.2.2.2.2.length : Int) - 2)) < (x.2.2.2.2.length : Int))) <|
      nthN x.2.2.2.2 ((w64 ((x.2.2.2.2.length : Int) - 2)).toNat) fun v4 =>
      guard (decide (0 ≤ (w64 ((x.2.2.2.2.length : Int) - 1)) ∧ (w64 ((x.2.2.2.2.length : Int) - 1)) < (x.2.2.2.2.length : Int))) <|
      nthN x.2.2.2.2 ((w64 ((x.2.2.2.2.length : Int) - 1)).toNat) fun v5 =>
      bindO (F66 K (v0.1, v4, v5)) fun v6 =>
      branch (!v6.2)
       (some (.inr (.inl (0, 3))))
       (guard (decide (0 ≤ (w64 ((x.2.2.2.2.length : Int) - 2)) ∧ (w64 ((x.2.2.2.2.length : Int) - 2)) ≤ (x.2.2.2.2.length : Int))) <|
       guard ((decide ((0 + ((w64 ((x.2.2.2.2.length : Int) - 2)).toNat)) ≤ x.2.2.2.2.length)) && (fitN (((w64 ((x.2.2.2.2.length : Int) - 2)).toNat) + [v6.1].length) 4)) <|
       some (.inl (x.1, x.2.1, x.2.2.1, w64 (x.2.2.2.1 + 1), (List.take ((w64 ((x.2.2.2.2.length : Int) - 2)).toNat) (List.drop 0 x.2.2.2.2)) ++ [v6.1])))))))
   (some (.inr (.inr x.2.2.2.2)))
def F47 (K : Nat) (x : (List (Int × Int × List UInt8)) × List ((List UInt8) × Int × Int)) : Option (Int × Int) :=
  bindO (iter K (F47_b0 K) (x.2, x.1, (x.1.length : Int), 0, [])) fun v0 =>
  csO v0
   (fun v1 => some v1)
   (fun v2 => guard (decide ((0 : Int) ≤ 0 ∧ 0 < (v2.length : Int))) <|
   nthN v2 0 fun v3 =>
   some (w64 v3, 0))
def ct47 (K : Nat) : Ct := ⟨[.l (.v (.l (.c (.i .i64) (.c (.i .i64) .s)))), .l (.v (.l (.c .s (.c (.i .i64) (.i .i64)))))], [], [.l (.v (.i .i64)), .l (.v (.i .i64))], [], [], F47 K⟩
theorem c47 (K : Nat) : CtOk prog 47 (ct47 K) :=
  con_mk (Y := Y) (L := [(65, ct65 K), (66, ct66 K)]) (K := K) (an := (.seq .no (.seq .no (.seq (.seq .no (.blk (.loop [] ⟨(ru 1 (.l (.v (.l (.c .s (.c (.i .i64) (.i .i64))))) :: ru 4 (.l (.all 15000) :: ru 8 (.l (.v (.l (.c (.i .i64) (.c (.i .i64) .s)))) :: .l (.v (.i .i64)) :: .l (.v (.i .i64)) :: ru 88 [])))), [(15000, ⟨1, true, .row (.i .i32)⟩)]⟩ [(0, ⟨(ru 6 (.l (.all 15000) :: ru 99 [])), [(15000, ⟨1, true, .row (.i .i32)⟩)]⟩)] true (.seq .no (.seq .no (.seq (.blk (.seq .no (.seq .no (.blk (.seq .no (.cond .no (.seq .no (.cond (.seq .no (.seq (.seq .no (.cond .no .no)) (.seq .no (.seq (.seq .no .no) .no)))) (.seq .no (.cond .no (.seq .no (.seq (.seq .no (.cond .no .no)) .no)))))))))))) .no)))))) .no)))) func47 mixed (ctabOk_cons (c65 K) (ctabOk_cons (c66 K) ctabOk_nil)) (by kernel_rfl) fun x => by kernel_rfl
-- loop.example/g00460/impl.EvalExpr
def F28 (K : Nat) (x : (List (Int × Int × List UInt8)) × List ((List UInt8) × Int × Int)) : Option (Int × Int) :=
  bindO (α := (Int × Int) ⊕ ((List (Int × Int × List UInt8)) × List ((List UInt8) × Int × Int))) (bindO (α := (List (Int × Int × List UInt8)) × (List ((List UInt8) × Int × Int)) × Bool) (bindO (F14 K x.1) fun v0 =>
      branch (!v0)
       (some (x.1, x.2, true))
       (some (x.1, x.2, decide (200 < (x.2.length : Int))))) fun v1 =>
    branch v1.2.2
     (some (.inl (0, 1)))
     (some (.inr (v1.1, v1.2.1)))) fun v2 =>
  csO v2
   (fun v3 => some v3)
   (fun v4 => bindO (F47 K v4) fun v5 =>
   some v5)
def ct28 (K : Nat) : Ct := ⟨[.l (.v (.l (.c (.i .i64) (.c (.i .i64) .s)))), .l (.v (.l (.c .s (.c (.i .i64) (.i .i64)))))], [], [.l (.v (.i .i64)), .l (.v (.i .i64))], [], [], F28 K⟩
theorem c28 (K : Nat) : CtOk prog 28 (ct28 K) :=
  con_mk (Y := Y) (L := [(14, ct14 K), (47, ct47 K)]) (K := K) (an := (.seq .no (.seqJ [(1000000, ⟨(.l (.v (.l (.c (.i .i64) (.c (.i .i64) .s)))) :: .l (.v (.l (.c .s (.c (.i .i64) (.i .i64))))) :: ru 17 []), []⟩)] true (.seqJ [(1000000, ⟨(.l (.v (.l (.c (.i .i64) (.c (.i .i64) .s)))) :: .l (.v (.l (.c .s (.c (.i .i64) (.i .i64))))) :: ru 11 (.l (.v .b) :: ru 5 [])), []⟩)] false .no (.cond .no .no)) .no))) func28 mixed (ctabOk_cons (c14 K) (ctabOk_cons (c47 K) ctabOk_nil)) (by kernel_rfl) fun x => by kernel_rfl
-- loop.example/g00460/laws.told
def F15 (K : Nat) (x : List UInt8) : Option (Int × Bool) :=
  bindO (F7 K x) fun v0 =>
  branch (!v0.2)
   (some (0, false))
   (bindO (F28 K (v0.1, [])) fun v1 =>
   some (v1.1, decide (v1.2 = 0)))
def ct15 (K : Nat) : Ct := ⟨[.l (.v .s)], [], [.l (.v (.i .i64)), .l (.v .b)], [], [], F15 K⟩
theorem c15 (K : Nat) : CtOk prog 15 (ct15 K) :=
  con_mk (Y := Y) (L := [(7, ct7 K), (28, ct28 K)]) (K := K) (an := (.seq .no (.seq .no (.seq (.seq .no (.cond .no .no)) (.seq .no .no))))) func15 mixed (ctabOk_cons (c7 K) (ctabOk_cons (c28 K) ctabOk_nil)) (by kernel_rfl) fun x => by kernel_rfl
-- loop.example/g00460/laws.FnPrecedence
def F5 (K : Nat) (x : List Int) : Option (Bool) :=
  bindO (α := Bool ⊕ (List Int)) (bindO (α := (List Int) × Bool) (bindO (F11 K x) fun v0 =>
      branch v0
       (some (x, true))
       (some (x, decide ((x.length : Int) < 3)))) fun v1 =>
    branch v1.2
     (some (.inl true))
     (some (.inr v1.1))) fun v2 =>
  csO v2
   (fun v3 => some v3)
   (fun v4 => nth v4 0 fun v5 =>
   nth v4 1 fun v6 =>
   nth v4 2 fun v7 =>
   bindO (F16 K (w64 v5)) fun v8 =>
   guard (decide ((v8.length + 1) ≤ 9223372036854775807)) <|
   bindO (F16 K (w64 v6)) fun v9 =>
   guard (decide ((((v8 ++ ([43] : List UInt8)).length) + v9.length) ≤ 9223372036854775807)) <|
   guard (decide (((((v8 ++ ([43] : List UInt8)) ++ v9).length) + 1) ≤ 9223372036854775807)) <|
   bindO (F16 K (w64 ((w64 v7) + 1))) fun v10 =>
   guard (decide ((((((v8 ++ ([43] : List UInt8)) ++ v9) ++ ([42] : List UInt8)).length) + v10.length) ≤ 9223372036854775807)) <|
   bindO (F15 K ((((v8 ++ ([43] : List UInt8)) ++ v9) ++ ([42] : List UInt8)) ++ v10)) fun v11 =>
   bindO (F16 K (w64 v5)) fun v12 =>
   guard (decide ((v12.length + 1) ≤ 9223372036854775807)) <|
   bindO (F16 K (w64 v6)) fun v13 =>
   guard (decide ((((v12 ++ ([45] : List UInt8)).length) + v13.length) ≤ 9223372036854775807)) <|
   guard (decide (((((v12 ++ ([45] : List UInt8)) ++ v13).length) + 1) ≤ 9223372036854775807)) <|
   bindO (F16 K (w64 ((w64 v7) + 1))) fun v14 =>
   guard (decide ((((((v12 ++ ([45] : List UInt8)) ++ v13) ++ ([45] : List UInt8)).length) + v14.length) ≤ 9223372036854775807)) <|
   bindO (F15 K ((((v12 ++ ([45] : List UInt8)) ++ v13) ++ ([45] : List UInt8)) ++ v14)) fun v15 =>
   bindO (F16 K (w64 v5)) fun v16 =>
   guard (decide ((1 + v16.length) ≤ 9223372036854775807)) <|
   guard (decide ((((([40] : List UInt8) ++ v16).length) + 1) ≤ 9223372036854775807)) <|
   bindO (F16 K (w64 v6)) fun v17 =>
   guard (decide (((((([40] : List UInt8) ++ v16) ++ ([43] : List UInt8)).length) + v17.length) ≤ 9223372036854775807)) <|
   guard (decide ((((((([40] : List UInt8) ++ v16) ++ ([43] : List UInt8)) ++ v17).length) + 2) ≤ 9223372036854775807)) <|
   bindO (F16 K (w64 ((w64 v7) + 1))) fun v18 =>
   guard (decide (((((((([40] : List UInt8) ++ v16) ++ ([43] : List UInt8)) ++ v17) ++ ([41, 47] : List UInt8)).length) + v18.length) ≤ 9223372036854775807)) <|
   bindO (F15 K (((((([40] : List UInt8) ++ v16) ++ ([43] : List UInt8)) ++ v17) ++ ([41, 47] : List UInt8)) ++ v18)) fun v19 =>
   bindO (F16 K (w64 v5)) fun v20 =>
   guard (decide ((v20.length + 1) ≤ 9223372036854775807)) <|
   bindO (F16 K (w64 v6)) fun v21 =>
   guard (decide ((((v20 ++ ([124] : List UInt8)).length) + v21.length) ≤ 9223372036854775807)) <|
   guard (decide (((((v20 ++ ([124] : List UInt8)) ++ v21).length) + 1) ≤ 9223372036854775807)) <|
   bindO (F16 K (w64 ((w64 v7) + 1))) fun v22 =>
   guard (decide ((((((v20 ++ ([124] : List UInt8)) ++ v21) ++ ([38] : List UInt8)).length) + v22.length) ≤ 9223372036854775807)) <|
   bindO (F15 K ((((v20 ++ ([124] : List UInt8)) ++ v21) ++ ([38] : List UInt8)) ++ v22)) fun v23 =>
   bindO (F6 K ([49, 43, 50, 42, 51] : List UInt8)) fun v24 =>
   bindO (F17 K (v24.1, [])) fun v25 =>
   branch v11.2
    (branch v15.2
     (branch v19.2
      (branch v23.2
       (branch v24.2
        (branch (decide (v25.1 = 7))
         (branch (decide (v11.1 = (w64 ((w64 v5) + (w64 ((w64 v6) * (w64 ((w64 v7) + 1))))))))
          (branch (decide (v15.1 = (w64 ((w64 ((w64 v5) - (w64 v6))) - (w64 ((w64 v7) + 1))))))
           (guard (!(decide ((w64 ((w64 v7) + 1)) = 0))) <|
           branch (decide (v19.1 = (w64 (Int.tdiv (w64 ((w64 v5) + (w64 v6))) (w64 ((w64 v7) + 1))))))
            (some (decide (v23.1 = (Go.bits Go.BinOp.or Go.IntKind.i64 (w64 v5) (Go.bits Go.BinOp.and Go.IntKind.i64 (w64 v6) (w64 ((w64 v7) + 1)))))))
            (some false))
           (some false))
          (some false))
         (some false))
        (some false))
       (some false))
      (some false))
     (some false))
    (some false))
def ct5 (K : Nat) : Ct := ⟨[.l (.v (.l (.i .u8)))], [], [.l (.v .b)], [], [], F5 K⟩
theorem c5 (K : Nat) : CtOk prog 5 (ct5 K) :=
  con_mk (Y := Y) (L := [(11, ct11 K), (16, ct16 K), (17, ct17 K), (6, ct6 K), (15, ct15 K)]) (K := K) (an := (.seq .no (.seqJ [(1000000, ⟨(.l (.v (.l (.i .u8))) :: ru 156 []), []⟩)] true (.seqJ [(1000000, ⟨(.l (.v (.l (.i .u8))) :: ru 23 (.l (.v .b) :: ru 132 [])), []⟩)] false .no (.cond .no .no)) (.seq .no (.seq .no (.seq .no (.seq .no (.seq .no (.seq .no (.seq .no (.seq .no (.seq .no .no)))))))))))) func5 mixed (ctabOk_cons (c11 K) (ctabOk_cons (c16 K) (ctabOk_cons (c17 K) (ctabOk_cons (c6 K) (ctabOk_cons (c15 K) ctabOk_nil))))) (by kernel_rfl) fun x => by kernel_rfl
def A5 (K : Nat) (a0 : T28.den) : Option Bool := F5 K a0
theorem fun5 (K : Nat) (a0 : T28.den) : funOf (ct5 K) [.d (.rov (.i .u8) a0)] [] = bindO (A5 K a0) fun r => some ([.d (.b r)], []) := by kernel_rfl
end Go.U.Tryd
