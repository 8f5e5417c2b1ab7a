/- A part of the proof. No condition. -/
import Derived.Test.YtclapampnmjmoaaGreatDoorVJb
set_option linter.unusedVariables false
set_option linter.unusedSimpArgs false
set_option linter.unusedSectionVars false
namespace Go.U.Tryz
open Go Go.U Go.Proofs Go.Proofs.Tryz
set_option maxRecDepth 100000
-- loop.example/g00460/spec.Compiled
def F79 (K : Nat) (x : List UInt8) : Option ((List (Int × Int × List UInt8)) × Bool) :=
  branch (decide (200 < (x.length : Int)))
   (some ([], false))
   (bindO (F91 K (1, 1, x, 0, false, [])) fun v0 =>
   bindO (α := ((List (Int × Int × List UInt8)) × Bool) ⊕ ((List (Int × Int × List UInt8)) × (List UInt8) × Int × Bool)) (bindO (α := Bool × (List (Int × Int × List UInt8)) × (List UInt8) × Int × Bool) (branch v0.2.2.1
        (some (true, v0.2.2.2, v0.1, v0.2.1, v0.2.2.1))
        (branch (!(decide (v0.2.1 = (x.length : Int))))
         (some (true, v0.2.2.2, v0.1, v0.2.1, v0.2.2.1))
         (bindO (F92 K v0.2.2.2) fun v1 =>
         some (!v1, v0.2.2.2, v0.1, v0.2.1, v0.2.2.1)))) fun v2 =>
     branch v2.1
      (some (.inl ([], false)))
      (some (.inr v2.2))) fun v3 =>
   csO v3
    (fun v4 => some v4)
    (fun v5 => some (v5.1, true)))
def ct79 (K : Nat) : Ct := ⟨[.l (.v .s)], [], [.l (.v (.l (.c (.i .i64) (.c (.i .i64) .s)))), .l (.v .b)], [], [], F79 K⟩
theorem c79 (K : Nat) : CtOk prog 79 (ct79 K) :=
  con_mk (Y := Y) (L := [(92, ct92 K), (91, ct91 K)]) (K := K) (an := (.seq .no (.seq (.seq .no (.cond .no .no)) (.seq .no (.seq (.reg [] [(0, .vcell 11000 2 11050 3 (.c (.i .i64) (.c (.i .i64) .s)))]) (.seqJ [(1000000, ⟨(ru 4 (.l (.ptr 11000 0 0) :: ru 33 [])), [(11050, ⟨3, true, .row (.c (.i .i64) (.c (.i .i64) .s))⟩), (11000, ⟨4, false, .mix (some 109) [[.l (.v .s), .l (.v (.i .i64)), .l (.all 11050), .l (.v .b)]]⟩)]⟩)] true (.seqJ [(1000000, ⟨(ru 4 (.l (.ptr 11000 0 0) :: ru 28 (.l (.v .b) :: ru 4 []))), [(11050, ⟨3, true, .row (.c (.i .i64) (.c (.i .i64) .s))⟩), (11000, ⟨4, false, .mix (some 109) [[.l (.v .s), .l (.v (.i .i64)), .l (.all 11050), .l (.v .b)]]⟩)]⟩)] false .no (.cond .no .no)) .no)))))) func79 mixed (ctabOk_cons (c92 K) (ctabOk_cons (c91 K) ctabOk_nil)) (by kernel_rfl) fun x => by kernel_rfl
-- loop.example/g00460/impl.Compiled
def F83 (K : Nat) (x : List UInt8) : Option ((List (Int × Int × List UInt8)) × Bool) :=
  branch (decide (200 < (x.length : Int)))
   (some ([], false))
   (bindO (F96 K (0, 1, x, 0, false, [])) fun v0 =>
   bindO (α := ((List (Int × Int × List UInt8)) × Bool) ⊕ ((List (Int × Int × List UInt8)) × (List UInt8) × Int × Bool)) (bindO (α := Bool × (List (Int × Int × List UInt8)) × (List UInt8) × Int × Bool) (branch v0.2.2.1
        (some (true, v0.2.2.2, v0.1, v0.2.1, v0.2.2.1))
        (some (decide (v0.2.1 < (x.length : Int)), v0.2.2.2, v0.1, v0.2.1, v0.2.2.1))) fun v1 =>
     branch v1.1
      (some (.inl ([], false)))
      (some (.inr v1.2))) fun v2 =>
   csO v2
    (fun v3 => some v3)
    (fun v4 => some (v4.1, true)))
def ct83 (K : Nat) : Ct := ⟨[.l (.v .s)], [], [.l (.v (.l (.c (.i .i64) (.c (.i .i64) .s)))), .l (.v .b)], [], [], F83 K⟩
theorem c83 (K : Nat) : CtOk prog 83 (ct83 K) :=
  con_mk (Y := Y) (L := [(96, ct96 K)]) (K := K) (an := (.seq .no (.seq (.seq .no (.cond .no .no)) (.seq .no (.seq (.reg [] [(0, .vcell 11000 2 11050 3 (.c (.i .i64) (.c (.i .i64) .s)))]) (.seqJ [(1000000, ⟨(ru 4 (.l (.ptr 11000 0 0) :: ru 25 [])), [(11050, ⟨3, true, .row (.c (.i .i64) (.c (.i .i64) .s))⟩), (11000, ⟨4, false, .mix (some 116) [[.l (.v .s), .l (.v (.i .i64)), .l (.all 11050), .l (.v .b)]]⟩)]⟩)] true (.seqJ [(1000000, ⟨(ru 4 (.l (.ptr 11000 0 0) :: ru 20 (.l (.v .b) :: ru 4 []))), [(11050, ⟨3, true, .row (.c (.i .i64) (.c (.i .i64) .s))⟩), (11000, ⟨4, false, .mix (some 116) [[.l (.v .s), .l (.v (.i .i64)), .l (.all 11050), .l (.v .b)]]⟩)]⟩)] false .no (.cond .no .no)) .no)))))) func83 mixed (ctabOk_cons (c96 K) ctabOk_nil) (by kernel_rfl) fun x => by kernel_rfl
-- loop.example/g00460/spec.l2Eval
def F93_b0 (K : Nat) (x : (List (Int × Int × List UInt8)) × (List ((List UInt8) × Int × Int)) × Int × List Int) : Option (((List (Int × Int × List UInt8)) × (List ((List UInt8) × Int × Int)) × Int × List Int) ⊕ ((Int × Int) ⊕ (List Int))) :=
  branch (decide (x.2.2.1 < (x.1.length : Int)))
   (bindO (α := (Int × Int) ⊕ (((List (Int × Int × List UInt8)) × (List ((List UInt8) × Int × Int)) × Int × Int × List Int) ⊕ ((List (Int × Int × List UInt8)) × (List ((List UInt8) × Int × Int)) × Int × List Int))) (nth x.1 x.2.2.1 fun v0 =>
     branch (decide (v0.1 = 1))
      (nth x.1 x.2.2.1 fun v1 =>
      guard (fitN (x.2.2.2.length + [v1.2.1].length) 8) <|
      some (.inr (.inr (x.1, x.2.1, x.2.2.1, x.2.2.2 ++ [v1.2.1]))))
      (bindO (α := (List (Int × Int × List UInt8)) × (List ((List UInt8) × Int × Int)) × Int × Int × Int × Bool × List Int) (branch (decide (v0.1 = 2))
         (some (x.1, x.2.1, x.2.2.1, (x.2.2.2.length : Int), v0.1, true, x.2.2.2))
         (some (x.1, x.2.1, x.2.2.1, (x.2.2.2.length : Int), v0.1, decide (v0.1 = 3), x.2.2.2))) fun v2 =>
      branch v2.2.2.2.2.2.1
       (nth v2.1 v2.2.2.1 fun v3 =>
       bindO (F112 K (v2.2.1, v3.2.2)) fun v4 =>
       branch (decide (v4 < 0))
        (some (.inl (0, 2)))
        (nth v2.2.1 v4 fun v5 =>
        bindO (α := (List (Int × Int × List UInt8)) × (List ((List UInt8) × Int × Int)) × Int × Int × List Int) (nth v2.1 v2.2.2.1 fun v6 =>
          branch (decide (v6.1 = 3))
           (nth v2.2.1 v4 fun v7 =>
           some (v2.1, v2.2.1, v2.2.2.1, v7.2.1, v2.2.2.2.2.2.2))
           (some (v2.1, v2.2.1, v2.2.2.1, v5.2.2, v2.2.2.2.2.2.2))) fun v8 =>
        bindO (F113 K v8.2.2.2.1) fun v9 =>
        guard (fitN (v8.2.2.2.2.length + [v9].length) 8) <|
        some (.inr (.inr (v8.1, v8.2.1, v8.2.2.1, v8.2.2.2.2 ++ [v9])))))
       (branch (decide (v2.2.2.2.2.1 = 4))
        (guard (decide (0 ≤ (w64 (v2.2.2.2.1 - 1)) ∧ (w64 (v2.2.2.2.1 - 1)) < (v2.2.2.2.2.2.2.length : Int))) <|
        nthN v2.2.2.2.2.2.2 ((w64 (v2.2.2.2.1 - 1)).toNat) fun v10 =>
        bindO (F113 K (w64 (0 - v10))) fun v11 =>
        guard (decide (0 ≤ (w64 (v2.2.2.2.1 - 1)) ∧ (w64 (v2.2.2.2.1 - 1)) < (v2.2.2.2.2.2.2.length : Int))) <|
        nthN v2.2.2.2.2.2.2 ((w64 (v2.2.2.2.1 - 1)).toNat) fun v12 =>
        some (.inr (.inr (v2.1, v2.2.1, v2.2.2.1, List.set v2.2.2.2.2.2.2 ((w64 (v2.2.2.2.1 - 1)).toNat) v11))))
        (branch (decide (v2.2.2.2.2.1 = 5))
         (guard (decide (0 ≤ (w64 (v2.2.2.2.1 - 1)) ∧ (w64 (v2.2.2.2.1 - 1)) < (v2.2.2.2.2.2.2.length : Int))) <|
         nthN v2.2.2.2.2.2.2 ((w64 (v2.2.2.2.1 - 1)).toNat) fun v13 =>
         guard (decide (0 ≤ (w64 (v2.2.2.2.1 - 1)) ∧ (w64 (v2.2.2.2.1 - 1)) < (v2.2.2.2.2.2.2.length : Int))) <|
         nthN v2.2.2.2.2.2.2 ((w64 (v2.2.2.2.1 - 1)).toNat) fun v14 =>
         some (.inr (.inr (v2.1, v2.2.1, v2.2.2.1, List.set v2.2.2.2.2.2.2 ((w64 (v2.2.2.2.1 - 1)).toNat) (Go.bits Go.BinOp.xor Go.IntKind.i64 (-1) v13)))))
         (branch (decide (v2.2.2.2.2.1 = 6))
          (guard (decide (0 ≤ (w64 (v2.2.2.2.1 - 1)) ∧ (w64 (v2.2.2.2.1 - 1)) < (v2.2.2.2.2.2.2.length : Int))) <|
          nthN v2.2.2.2.2.2.2 ((w64 (v2.2.2.2.1 - 1)).toNat) fun v15 =>
          guard (decide (0 ≤ (w64 (v2.2.2.2.1 - 1)) ∧ (w64 (v2.2.2.2.1 - 1)) < (v2.2.2.2.2.2.2.length : Int))) <|
          nthN v2.2.2.2.2.2.2 ((w64 (v2.2.2.2.1 - 1)).toNat) fun v16 =>
          some (.inr (.inr (v2.1, v2.2.1, v2.2.2.1, List.set v2.2.2.2.2.2.2 ((w64 (v2.2.2.2.1 - 1)).toNat) (Go.bits Go.BinOp.and Go.IntKind.i64 (shrI Go.IntKind.i64 v15 8) 255)))))
          (branch (decide (v2.2.2.2.2.1 = 7))
           (guard (decide (0 ≤ (w64 (v2.2.2.2.1 - 1)) ∧ (w64 (v2.2.2.2.1 - 1)) < (v2.2.2.2.2.2.2.length : Int))) <|
           nthN v2.2.2.2.2.2.2 ((w64 (v2.2.2.2.1 - 1)).toNat) fun v17 =>
           guard (decide (0 ≤ (w64 (v2.2.2.2.1 - 1)) ∧ (w64 (v2.2.2.2.1 - 1)) < (v2.2.2.2.2.2.2.length : Int))) <|
           nthN v2.2.2.2.2.2.2 ((w64 (v2.2.2.2.1 - 1)).toNat) fun v18 =>
           some (.inr (.inr (v2.1, v2.2.1, v2.2.2.1, List.set v2.2.2.2.2.2.2 ((w64 (v2.2.2.2.1 - 1)).toNat) (Go.bits Go.BinOp.and Go.IntKind.i64 v17 255)))))
           (some (.inr (.inl (v2.1, v2.2.1, v2.2.2.1, v2.2.2.2.1, v2.2.2.2.2.2.2)))))))))) fun v19 =>
   csO v19
    (fun v20 => some (.inr (.inl v20)))
    (fun v21 => csO v21
     (fun v22 => nth v22.1 v22.2.2.1 fun v24 =>
     guard (decide (0 ≤ (w64 (v22.2.2.2.1 - 2)) ∧ (w64 (v22.2.2.2.1 - 2)) < (v22.2.2.2.2.length : Int))) <|
     nthN v22.2.2.2.2 ((w64 (v22.2.2.2.1 - 2)).toNat) fun v25 =>
     guard (decide (0 ≤ (w64 (v22.2.2.2.1 - 1)) ∧ (w64 (v22.2.2.2.1 - 1)) < (v22.2.2.2.2.length : Int))) <|
     nthN v22.2.2.2.2 ((w64 (v22.2.2.2.1 - 1)).toNat) fun v26 =>
     bindO (F114 K (v24.1, v25, v26)) fun v27 =>
     branch (!v27.2)
      (some (.inr (.inl (0, 3))))
      (guard (decide (0 ≤ (w64 (v22.2.2.2.1 - 2)) ∧ (w64 (v22.2.2.2.1 - 2)) ≤ (v22.2.2.2.2.length : Int))) <|
      guard ((decide ((0 + ((w64 (v22.2.2.2.1 - 2)).toNat)) ≤ v22.2.2.2.2.length)) && (fitN (((w64 (v22.2.2.2.1 - 2)).toNat) + [v27.1].length) 8)) <|
      some (.inl (v22.1, v22.2.1, w64 (v22.2.2.1 + 1), (List.take ((w64 (v22.2.2.2.1 - 2)).toNat) (List.drop 0 v22.2.2.2.2)) ++ [v27.1]))))
     (fun v23 => some (.inl (v23.1, v23.2.1, w64 (v23.2.2.1 + 1), v23.2.2.2)))))
   (some (.inr (.inr x.2.2.2)))
def F93 (K : Nat) (x : (List (Int × Int × List UInt8)) × List ((List UInt8) × Int × Int)) : Option (Int × Int) :=
  bindO (iter K (F93_b0 K) (x.1, x.2, 0, [])) fun v0 =>
  csO v0
   (fun v1 => some v1)
   (fun v2 => guard (decide ((0 : Int) ≤ 0 ∧ 0 < (v2.length : Int))) <|
   nthN v2 0 fun v3 =>
   some (v3, 0))
def ct93 (K : Nat) : Ct := ⟨[.l (.v (.l (.c (.i .i64) (.c (.i .i64) .s)))), .l (.v (.l (.c .s (.c (.i .i64) (.i .i64)))))], [], [.l (.v (.i .i64)), .l (.v (.i .i64))], [], [], F93 K⟩
theorem c93 (K : Nat) : CtOk prog 93 (ct93 K) :=
  con_mk (Y := Y) (L := [(112, ct112 K), (113, ct113 K), (114, ct114 K)]) (K := K) (an := (.seq .no (.seq .no (.seq (.seq .no (.blk (.loop [] ⟨(.l (.v (.l (.c (.i .i64) (.c (.i .i64) .s)))) :: .l (.v (.l (.c .s (.c (.i .i64) (.i .i64))))) :: ru 4 (.l (.all 14000) :: .l (.v (.i .i64)) :: ru 143 [])), [(14000, ⟨1, true, .row (.i .i64)⟩)]⟩ [(0, ⟨(ru 6 (.l (.all 14000) :: ru 144 [])), [(14000, ⟨1, true, .row (.i .i64)⟩)]⟩)] true (.seq (.seq .no .no) (.seq (.blk (.seq .no (.seqJ [(1000000, ⟨(.l (.v (.l (.c (.i .i64) (.c (.i .i64) .s)))) :: .l (.v (.l (.c .s (.c (.i .i64) (.i .i64))))) :: ru 4 (.l (.all 14000) :: .l (.v (.i .i64)) :: .l (.v (.i .i64)) :: ru 142 [])), [(14000, ⟨1, true, .row (.i .i64)⟩)]⟩), (1, ⟨(.l (.v (.l (.c (.i .i64) (.c (.i .i64) .s)))) :: .l (.v (.l (.c .s (.c (.i .i64) (.i .i64))))) :: ru 4 (.l (.all 14000) :: .l (.v (.i .i64)) :: ru 143 [])), [(14000, ⟨1, true, .row (.i .i64)⟩)]⟩)] true (.seq .no (.blk (.seq .no (.cond .no (.seqJ [(1000000, ⟨(.l (.v (.l (.c (.i .i64) (.c (.i .i64) .s)))) :: .l (.v (.l (.c .s (.c (.i .i64) (.i .i64))))) :: ru 4 (.l (.all 14000) :: .l (.v (.i .i64)) :: .l (.v (.i .i64)) :: ru 17 (.l (.v (.i .i64)) :: ru 10 (.l (.v .b) :: ru 113 [])))), [(14000, ⟨1, true, .row (.i .i64)⟩)]⟩)] false (.seq .no .no) (.cond (.seq .no (.seq (.seq .no (.cond .no .no)) (.seq .no (.seqJ [(1000000, ⟨(.l (.v (.l (.c (.i .i64) (.c (.i .i64) .s)))) :: .l (.v (.l (.c .s (.c (.i .i64) (.i .i64))))) :: ru 4 (.l (.all 14000) :: .l (.v (.i .i64)) :: ru 2 (.l (.v (.i .i64)) :: ru 140 []))), [(14000, ⟨1, true, .row (.i .i64)⟩)]⟩)] false (.seq .no .no) .no)))) (.seq .no (.cond .no (.seq .no (.cond .no (.seq .no (.cond .no (.seq .no (.cond .no .no)))))))))))))) (.seq .no (.seq (.seq .no (.cond .no .no)) .no))))) .no))))) .no)))) func93 mixed (ctabOk_cons (c112 K) (ctabOk_cons (c113 K) (ctabOk_cons (c114 K) ctabOk_nil))) (by kernel_rfl) fun x => by kernel_rfl
-- loop.example/g00460/spec.EvalExpr
def F80 (K : Nat) (x : (List (Int × Int × List UInt8)) × List ((List UInt8) × Int × Int)) : Option (Int × Int) :=
  bindO (α := (Int × Int) ⊕ ((List (Int × Int × List UInt8)) × List ((List UInt8) × Int × Int))) (bindO (α := (List (Int × Int × List UInt8)) × (List ((List UInt8) × Int × Int)) × Bool) (bindO (F92 K x.1) fun v0 =>
      branch (!v0)
       (some (x.1, x.2, true))
       (some (x.1, x.2, decide (200 < (x.2.length : Int))))) fun v1 =>
    branch v1.2.2
     (some (.inl (0, 1)))
     (some (.inr (v1.1, v1.2.1)))) fun v2 =>
  csO v2
   (fun v3 => some v3)
   (fun v4 => bindO (F93 K v4) fun v5 =>
   some v5)
def ct80 (K : Nat) : Ct := ⟨[.l (.v (.l (.c (.i .i64) (.c (.i .i64) .s)))), .l (.v (.l (.c .s (.c (.i .i64) (.i .i64)))))], [], [.l (.v (.i .i64)), .l (.v (.i .i64))], [], [], F80 K⟩
theorem c80 (K : Nat) : CtOk prog 80 (ct80 K) :=
  con_mk (Y := Y) (L := [(92, ct92 K), (93, ct93 K)]) (K := K) (an := (.seq .no (.seqJ [(1000000, ⟨(.l (.v (.l (.c (.i .i64) (.c (.i .i64) .s)))) :: .l (.v (.l (.c .s (.c (.i .i64) (.i .i64))))) :: ru 17 []), []⟩)] true (.seqJ [(1000000, ⟨(.l (.v (.l (.c (.i .i64) (.c (.i .i64) .s)))) :: .l (.v (.l (.c .s (.c (.i .i64) (.i .i64))))) :: ru 11 (.l (.v .b) :: ru 5 [])), []⟩)] false .no (.cond .no .no)) .no))) func80 mixed (ctabOk_cons (c92 K) (ctabOk_cons (c93 K) ctabOk_nil)) (by kernel_rfl) fun x => by kernel_rfl
-- loop.example/g00460/spec.l8Number
def F66 (K : Nat) (x : List UInt8) : Option (Int × Bool) :=
  bindO (F79 K x) fun v0 =>
  branch (!v0.2)
   (some (0, false))
   (bindO (F80 K (v0.1, [])) fun v1 =>
   some (v1.1, decide (v1.2 = 0)))
def ct66 (K : Nat) : Ct := ⟨[.l (.v .s)], [], [.l (.v (.i .i64)), .l (.v .b)], [], [], F66 K⟩
theorem c66 (K : Nat) : CtOk prog 66 (ct66 K) :=
  con_mk (Y := Y) (L := [(79, ct79 K), (80, ct80 K)]) (K := K) (an := (.seq .no (.seq .no (.seq (.seq .no (.cond .no .no)) (.seq .no .no))))) func66 mixed (ctabOk_cons (c79 K) (ctabOk_cons (c80 K) ctabOk_nil)) (by kernel_rfl) fun x => by kernel_rfl
-- loop.example/g00460/impl.evaluated$1
def F98 (K : Nat) (x : (List UInt8) × Int × Int × Int × Int × List UInt8) : Option (Bool × Int × Int × List UInt8) :=
  some (decide (x.1 = x.2.2.2.2.2), x.2.2.2)
def ct98 (K : Nat) : Ct := ⟨[.agg [(.v .s), (.v (.i .i64)), (.v (.i .i64))], .l (.ptr 0 0 0)], [⟨3, false, .mix (some 119) [[.l (.v (.i .i64)), .l (.v (.i .i64)), .l (.v .s)]]⟩], [.l (.v .b)], [⟨3, false, .mix (some 119) [[.l (.v (.i .i64)), .l (.v (.i .i64)), .l (.v .s)]]⟩], [], F98 K⟩
theorem c98 (K : Nat) : CtOk prog 98 (ct98 K) :=
  con_mk (Y := Y) (L := []) (K := K) (an := (.seq .no .no)) func98 mixed ctabOk_nil (by kernel_rfl) fun x => by kernel_rfl
-- slices.IndexFunc[[]loop.example/g00460/impl.Sym,loop.example/g00460/impl.Sym]
def F97_b0 (K : Nat) (x : (List ((List UInt8) × Int × Int)) × Int × Int × Int × Int × List UInt8) : Option (((List ((List UInt8) × Int × Int)) × Int × Int × Int × Int × List UInt8) ⊕ ((Int × Int × Int × List UInt8) ⊕ (Int × Int × List UInt8))) :=
  branch (decide (x.2.2.1 < x.2.1))
   (nth x.1 x.2.2.1 fun v0 =>
   bindO (F98 K (v0.1, v0.2.1, v0.2.2, x.2.2.2)) fun v1 =>
   branch v1.1
    (some (.inr (.inl (x.2.2.1, v1.2))))
    (some (.inl (x.1, x.2.1, w64 (x.2.2.1 + 1), v1.2))))
   (some (.inr (.inr x.2.2.2)))
def F97 (K : Nat) (x : (List ((List UInt8) × Int × Int)) × Int × Int × List UInt8) : Option (Int × Int × Int × List UInt8) :=
  bindO (iter K (F97_b0 K) (x.1, (x.1.length : Int), 0, x.2)) fun v0 =>
  csO v0
   (fun v1 => some v1)
   (fun v2 => some ((-1), v2))
def ct97 (K : Nat) : Ct := ⟨[.l (.v (.l (.c .s (.c (.i .i64) (.i .i64))))), .clo 98 [(.ptr 0 0 0)]], [⟨3, false, .mix (some 119) [[.l (.v (.i .i64)), .l (.v (.i .i64)), .l (.v .s)]]⟩], [.l (.v (.i .i64))], [⟨3, false, .mix (some 119) [[.l (.v (.i .i64)), .l (.v (.i .i64)), .l (.v .s)]]⟩], [], F97 K⟩
theorem c97 (K : Nat) : CtOk prog 97 (ct97 K) :=
  con_mk (Y := Y) (L := [(98, ct98 K)]) (K := K) (an := (.seq .no (.seq (.seq .no (.blk (.loop [] ⟨(.l (.v (.l (.c .s (.c (.i .i64) (.i .i64))))) :: .clo 98 [(.ptr 0 0 0)] :: ru 5 (.l (.v (.i .i64)) :: .l (.v (.i .i64)) :: ru 10 [])), [(0, ⟨3, false, .mix (some 119) [[.l (.v (.i .i64)), .l (.v (.i .i64)), .l (.v .s)]]⟩)]⟩ [(0, ⟨(ru 19 []), [(0, ⟨3, false, .mix (some 119) [[.l (.v (.i .i64)), .l (.v (.i .i64)), .l (.v .s)]]⟩)]⟩)] true (.seq .no (.seq .no (.seq (.blk (.seq .no (.seq .no (.cond .no .no)))) .no)))))) .no))) func97 mixed (ctabOk_cons (c98 K) ctabOk_nil) (by kernel_rfl) fun x => by kernel_rfl
-- loop.example/g00460/impl.evaluated
def F84_b0 (K : Nat) (x : (List ((List UInt8) × Int × Int)) × (List (Int × Int × List UInt8)) × Int × Int × List Int) : Option (((List ((List UInt8) × Int × Int)) × (List (Int × Int × List UInt8)) × Int × Int × List Int) ⊕ ((Int × Int) ⊕ (List Int))) :=
  branch (decide (x.2.2.2.1 < x.2.2.1))
   (nth x.2.1 x.2.2.2.1 fun v0 =>
   branch (decide (v0.1 = 1))
    (guard (fitN (x.2.2.2.2.length + ([w32 v0.2.1].length)) 4) <|
    some (.inl (x.1, x.2.1, x.2.2.1, w64 (x.2.2.2.1 + 1), x.2.2.2.2 ++ [w32 v0.2.1])))
    (branch (decide (v0.1 ≤ 3))
     (bindO (F97 K (x.1, v0)) fun v1 =>
     branch (decide (v1.1 < 0))
      (some (.inr (.inl (0, 2))))
      (nth x.1 v1.1 fun v2 =>
      bindO (α := (List ((List UInt8) × Int × Int)) × Int × (List (Int × Int × List UInt8)) × Int × Int × List Int) (branch (decide (v1.2.1 = 3))
         (nth x.1 v1.1 fun v3 =>
         some (x.1, v3.2.1, x.2))
         (some (x.1, v2.2.2, x.2))) fun v4 =>
      guard (fitN (v4.2.2.2.2.2.length + ([w32 v4.2.1].length)) 4) <|
      some (.inl (v4.1, v4.2.2.1, v4.2.2.2.1, w64 (v4.2.2.2.2.1 + 1), v4.2.2.2.2.2 ++ [w32 v4.2.1]))))
     (branch (decide (v0.1 ≤ 7))
      (guard (decide (0 ≤ (w64 ((x.2.2.2.2.length : Int) - 1)) ∧ (w64 ((x.2.2.2.2.length : Int) - 1)) < (x.2.2.2.2.length : Int))) <|
      nthN x.2.2.2.2 ((w64 ((x.2.2.2.2.length : Int) - 1)).toNat) fun v5 =>
      bindO (F99 K (v0.1, v5)) fun v6 =>
      guard (decide (0 ≤ (w64 ((x.2.2.2.2.length : Int) - 1)) ∧ (w64 ((x.2.2.2.2.length : Int) - 1)) < (x.2.2.2.2.length : Int))) <|
      nthN x.2.2.2.2 ((w64 ((x.2.2.2.2.length : Int) - 1)).toNat) fun v7 =>
      some (.inl (x.1, x.2.1, x.2.2.1, w64 (x.2.2.2.1 + 1), List.set x.2.2.2.2 ((w64 ((x.2.2.2.2.length : Int) - 1)).toNat) v6)))
      (guard (decide (0 ≤ (w64 ((x.2.2.2.2.length : Int) - 2)) ∧ (w64 ((x.2.2.2.2.length : Int) - 2)) < (x.2.2.2.2.length : Int))) <|
      nthN x.2.2.2.2 ((w64 ((x.2.2.2.2.length : Int) - 2)).toNat) fun v8 =>
      guard (decide (0 ≤ (w64 ((x.2.2.2.2.length : Int) - 1)) ∧ (w64 ((x.2.2.2.2.length : Int) - 1)) < (x.2.2.2.2.length : Int))) <|
      nthN x.2.2.2.2 ((w64 ((x.2.2.2.2.length : Int) - 1)).toNat) fun v9 =>
      bindO (F100 K (v0.1, v8, v9)) fun v10 =>
      branch (!v10.2)
       (some (.inr (.inl (0, 3))))
       (guard (decide (0 ≤ (w64 ((x.2.2.2.2.length : Int) - 2)) ∧ (w64 ((x.2.2.2.2.length : Int) - 2)) ≤ (x.2.2.2.2.length : Int))) <|
       guard ((decide ((0 + ((w64 ((x.2.2.2.2.length : Int) - 2)).toNat)) ≤ x.2.2.2.2.length)) && (fitN (((w64 ((x.2.2.2.2.length : Int) - 2)).toNat) + [v10.1].length) 4)) <|
       some (.inl (x.1, x.2.1, x.2.2.1, w64 (x.2.2.2.1 + 1), (List.take ((w64 ((x.2.2.2.2.length : Int) - 2)).toNat) (List.drop 0 x.2.2.2.2)) ++ [v10.1])))))))
   (some (.inr (.inr x.2.2.2.2)))
def F84 (K : Nat) (x : (List (Int × Int × List UInt8)) × List ((List UInt8) × Int × Int)) : Option (Int × Int) :=
  bindO (iter K (F84_b0 K) (x.2, x.1, (x.1.length : Int), 0, [])) fun v0 =>
  csO v0
   (fun v1 => some v1)
   (fun v2 => guard (decide ((0 : Int) ≤ 0 ∧ 0 < (v2.length : Int))) <|
   nthN v2 0 fun v3 =>
   some (w64 v3, 0))
def ct84 (K : Nat) : Ct := ⟨[.l (.v (.l (.c (.i .i64) (.c (.i .i64) .s)))), .l (.v (.l (.c .s (.c (.i .i64) (.i .i64)))))], [], [.l (.v (.i .i64)), .l (.v (.i .i64))], [], [], F84 K⟩
theorem c84 (K : Nat) : CtOk prog 84 (ct84 K) :=
  con_mk (Y := Y) (L := [(99, ct99 K), (100, ct100 K), (98, ct98 K), (97, ct97 K)]) (K := K) (an := (.seq .no (.seq .no (.seq (.seq .no (.blk (.loop [] ⟨(ru 1 (.l (.v (.l (.c .s (.c (.i .i64) (.i .i64))))) :: ru 4 (.l (.all 15000) :: ru 8 (.l (.v (.l (.c (.i .i64) (.c (.i .i64) .s)))) :: .l (.v (.i .i64)) :: .l (.v (.i .i64)) :: ru 88 [])))), [(15000, ⟨1, true, .row (.i .i32)⟩)]⟩ [(0, ⟨(ru 6 (.l (.all 15000) :: ru 99 [])), [(15000, ⟨1, true, .row (.i .i32)⟩)]⟩)] true (.seq .no (.seq .no (.seq (.blk (.seq .no (.seq .no (.blk (.seq .no (.cond .no (.seq .no (.cond (.seq .no (.seq (.seq .no (.cond .no .no)) (.seq .no (.seqJ [(1000000, ⟨(ru 1 (.l (.v (.l (.c .s (.c (.i .i64) (.i .i64))))) :: ru 4 (.l (.all 15000) :: ru 4 (.l (.v (.i .i64)) :: ru 3 (.l (.v (.l (.c (.i .i64) (.c (.i .i64) .s)))) :: .l (.v (.i .i64)) :: .l (.v (.i .i64)) :: ru 88 []))))), [(15000, ⟨1, true, .row (.i .i32)⟩)]⟩)] false (.seq .no .no) .no)))) (.seq .no (.cond .no (.seq .no (.seq (.seq .no (.cond .no .no)) .no)))))))))))) .no)))))) .no)))) func84 mixed (ctabOk_cons (c99 K) (ctabOk_cons (c100 K) (ctabOk_cons (c98 K) (ctabOk_cons (c97 K) ctabOk_nil)))) (by kernel_rfl) fun x => by kernel_rfl
-- loop.example/g00460/impl.told
def F71 (K : Nat) (x : List UInt8) : Option (Int × Bool) :=
  bindO (F83 K x) fun v0 =>
  branch (!v0.2)
   (some (0, false))
   (bindO (F84 K (v0.1, [])) fun v1 =>
   some (v1.1, decide (v1.2 = 0)))
def ct71 (K : Nat) : Ct := ⟨[.l (.v .s)], [], [.l (.v (.i .i64)), .l (.v .b)], [], [], F71 K⟩
theorem c71 (K : Nat) : CtOk prog 71 (ct71 K) :=
  con_mk (Y := Y) (L := [(83, ct83 K), (84, ct84 K)]) (K := K) (an := (.seq .no (.seq .no (.seq (.seq .no (.cond .no .no)) (.seq .no .no))))) func71 mixed (ctabOk_cons (c83 K) (ctabOk_cons (c84 K) ctabOk_nil)) (by kernel_rfl) fun x => by kernel_rfl
-- (*loop.example/g00460/impl.expander).fail
def F44 (K : Nat) (x : Int × Int × Int × (List (List UInt8)) × List ((List UInt8) × List (List UInt8))) : Option (Int × Int × (List (List UInt8)) × List ((List UInt8) × List (List UInt8))) :=
  branch (decide (x.2.2.1 = 0))
   (some (x.2.1, x.1, x.2.2.2))
   (some x.2)
def ct44 (K : Nat) : Ct := ⟨[.l (.ptr 0 0 0), .l (.v (.i .i64))], [⟨4, false, .mix (some 49) [[.l (.all 1), .clo 1000000009 [(.ptr 2 0 0)], .l (.v (.i .i64)), .l (.v (.i .i64))]]⟩, ⟨1, true, .row .s⟩, ⟨1, false, .map (.l .s)⟩], [], [⟨4, false, .mix (some 49) [[.l (.all 1), .clo 1000000009 [(.ptr 2 0 0)], .l (.v (.i .i64)), .l (.v (.i .i64))]]⟩, ⟨1, true, .row .s⟩, ⟨1, false, .map (.l .s)⟩], [], F44 K⟩
theorem c44 (K : Nat) : CtOk prog 44 (ct44 K) :=
  con_mk (Y := Y) (L := []) (K := K) (an := (.seq .no .no)) func44 mixed ctabOk_nil (by kernel_rfl) fun x => by kernel_rfl
-- (*loop.example/g00460/spec.l8X).fail
def F40 (K : Nat) (x : Int × Int × Int × (List (List UInt8)) × (List (List UInt8)) × List (List (List UInt8))) : Option (Int × Int × (List (List UInt8)) × (List (List UInt8)) × List (List (List UInt8))) :=
  branch (decide (x.2.1 = 0))
   (some (x.1, x.2.2))
   (some x.2)
def ct40 (K : Nat) : Ct := ⟨[.l (.ptr 0 0 0), .l (.v (.i .i64))], [⟨5, false, .mix (some 44) [[.l (.all 1), .l (.all 2), .l (.all 3), .l (.v (.i .i64)), .l (.v (.i .i64))]]⟩, ⟨1, true, .row .s⟩, ⟨1, true, .row .s⟩, ⟨1, true, .row (.l .s)⟩], [], [⟨5, false, .mix (some 44) [[.l (.all 1), .l (.all 2), .l (.all 3), .l (.v (.i .i64)), .l (.v (.i .i64))]]⟩, ⟨1, true, .row .s⟩, ⟨1, true, .row .s⟩, ⟨1, true, .row (.l .s)⟩], [], F40 K⟩
theorem c40 (K : Nat) : CtOk prog 40 (ct40 K) :=
  con_mk (Y := Y) (L := []) (K := K) (an := (.seq .no .no)) func40 mixed ctabOk_nil (by kernel_rfl) fun x => by kernel_rfl
-- loop.example/g00460/spec.l8Macro
def F41_b0 (K : Nat) (x : (List UInt8) × Int × Int × Int × (List (List UInt8)) × (List (List UInt8)) × List (List (List UInt8))) : Option (((List UInt8) × Int × Int × Int × (List (List UInt8)) × (List (List UInt8)) × List (List (List UInt8))) ⊕ ((Int × Int × Int × (List (List UInt8)) × (List (List UInt8)) × List (List (List UInt8))) ⊕ (Int × Int × (List (List UInt8)) × (List (List UInt8)) × List (List (List UInt8))))) :=
  branch (decide (x.2.1 < (x.2.2.2.2.2.1.length : Int)))
   (guard (decide (0 ≤ x.2.1 ∧ x.2.1 < (x.2.2.2.2.2.1.length : Int))) <|
   nthN x.2.2.2.2.2.1 x.2.1.toNat fun v0 =>
   branch (decide (v0 = x.1))
    (some (.inr (.inl x.2)))
    (some (.inl (x.1, w64 (x.2.1 + 1), x.2.2))))
   (some (.inr (.inr x.2.2)))
def F41 (K : Nat) (x : (List UInt8) × Int × Int × (List (List UInt8)) × (List (List UInt8)) × List (List (List UInt8))) : Option (Int × Int × Int × (List (List UInt8)) × (List (List UInt8)) × List (List (List UInt8))) :=
  bindO (iter K (F41_b0 K) (x.1, 0, x.2)) fun v0 =>
  csO v0
   (fun v1 => some v1)
   (fun v2 => some ((-1), v2))
def ct41 (K : Nat) : Ct := ⟨[.l (.ptr 0 0 0), .l (.v .s)], [⟨5, false, .mix (some 44) [[.l (.all 1), .l (.all 2), .l (.all 3), .l (.v (.i .i64)), .l (.v (.i .i64))]]⟩, ⟨1, true, .row .s⟩, ⟨1, true, .row .s⟩, ⟨1, true, .row (.l .s)⟩], [.l (.v (.i .i64))], [⟨5, false, .mix (some 44) [[.l (.all 1), .l (.all 2), .l (.all 3), .l (.v (.i .i64)), .l (.v (.i .i64))]]⟩, ⟨1, true, .row .s⟩, ⟨1, true, .row .s⟩, ⟨1, true, .row (.l .s)⟩], [], F41 K⟩
theorem c41 (K : Nat) : CtOk prog 41 (ct41 K) :=
  con_mk (Y := Y) (L := []) (K := K) (an := (.seq .no (.seq (.seq .no (.blk (.loop [] ⟨(.l (.ptr 0 0 0) :: .l (.v .s) :: ru 3 (.l (.v (.i .i64)) :: ru 19 [])), [(0, ⟨5, false, .mix (some 44) [[.l (.all 1), .l (.all 2), .l (.all 3), .l (.v (.i .i64)), .l (.v (.i .i64))]]⟩), (1, ⟨1, true, .row .s⟩), (2, ⟨1, true, .row .s⟩), (3, ⟨1, true, .row (.l .s)⟩)]⟩ [(0, ⟨(ru 25 []), [(0, ⟨5, false, .mix (some 44) [[.l (.all 1), .l (.all 2), .l (.all 3), .l (.v (.i .i64)), .l (.v (.i .i64))]]⟩), (1, ⟨1, true, .row .s⟩), (2, ⟨1, true, .row .s⟩), (3, ⟨1, true, .row (.l .s)⟩)]⟩)] true (.seq (.seq .no .no) (.seq (.blk (.seq .no (.cond .no .no))) .no))))) .no))) func41 mixed ctabOk_nil (by kernel_rfl) fun x => by kernel_rfl
end Go.U.Tryz
