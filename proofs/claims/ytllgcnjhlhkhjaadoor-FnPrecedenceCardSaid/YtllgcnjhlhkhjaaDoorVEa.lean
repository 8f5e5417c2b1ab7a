/- A part of the proof. No condition. -/
import Derived.Test.YtllgcnjhlhkhjaaDoorVEc
set_option linter.unusedVariables false
set_option linter.unusedSimpArgs false
set_option linter.unusedSectionVars false
namespace Go.U.Tryd
open Go Go.U Go.Proofs Go.Proofs.Tryd
set_option maxRecDepth 100000
theorem ty2 : tyOf prog 2 = some ⟨.int .i64, 1, 8, [.i .i64 0], some (.i .i64)⟩ := by kernel_rfl
theorem ty9 : tyOf prog 9 = some ⟨.str, 1, 16, [.str []], some .s⟩ := by kernel_rfl
theorem ty3 : tyOf prog 3 = some ⟨.int .i64, 1, 8, [.i .i64 0], some (.i .i64)⟩ := by kernel_rfl
theorem ty33 : tyOf prog 33 = some ⟨.st [(0, (2, 1)), (1, (2, 1)), (2, (9, 1))], 3, 32, [.i .i64 0, .i .i64 0, .str []], some (.c (.i .i64) (.c (.i .i64) .s))⟩ := by kernel_rfl
theorem ty22 : tyOf prog 22 = some ⟨.sl 33, 1, 24, [.emp], some (.l (.c (.i .i64) (.c (.i .i64) .s)))⟩ := by kernel_rfl
theorem ty4 : tyOf prog 4 = some ⟨.bool, 1, 1, [.b false], some .b⟩ := by kernel_rfl
theorem ty5 : tyOf prog 5 = some ⟨.int .u8, 1, 1, [.i .u8 0], some (.i .u8)⟩ := by kernel_rfl
theorem ty41 : tyOf prog 41 = some ⟨.st [(0, (9, 1)), (1, (3, 1)), (2, (22, 1)), (3, (4, 1))], 4, 56, [.str [], .i .i64 0, .emp, .b false], some (.c .s (.c (.i .i64) (.c (.l (.c (.i .i64) (.c (.i .i64) .s))) .b)))⟩ := by kernel_rfl
theorem ty21 : tyOf prog 21 = some ⟨.int .i32, 1, 4, [.i .i32 0], some (.i .i32)⟩ := by kernel_rfl
theorem ty62 : tyOf prog 62 = some ⟨.sl 2, 1, 24, [.emp], some (.l (.i .i64))⟩ := by kernel_rfl
theorem ty45 : tyOf prog 45 = some ⟨.st [(0, (9, 1)), (1, (3, 1)), (2, (22, 1)), (3, (4, 1))], 4, 56, [.str [], .i .i64 0, .emp, .b false], some (.c .s (.c (.i .i64) (.c (.l (.c (.i .i64) (.c (.i .i64) .s))) .b)))⟩ := by kernel_rfl
theorem ty43 : tyOf prog 43 = some ⟨.ptr 45, 1, 8, [.nilp], none⟩ := by kernel_rfl
theorem ty39 : tyOf prog 39 = some ⟨.ptr 41, 1, 8, [.nilp], none⟩ := by kernel_rfl
theorem ty48 : tyOf prog 48 = some ⟨.ptr 65, 1, 8, [.nilp], none⟩ := by kernel_rfl
theorem ty28 : tyOf prog 28 = some ⟨.sl 5, 1, 24, [.emp], some (.l (.i .u8))⟩ := by kernel_rfl
theorem ty72 : tyOf prog 72 = some ⟨.st [(0, (9, 1)), (1, (2, 1)), (2, (2, 1))], 3, 32, [.str [], .i .i64 0, .i .i64 0], some (.c .s (.c (.i .i64) (.i .i64)))⟩ := by kernel_rfl
theorem ty57 : tyOf prog 57 = some ⟨.sl 9, 1, 24, [.emp], some (.l .s)⟩ := by kernel_rfl
theorem ty81 : tyOf prog 81 = some ⟨.sl 21, 1, 24, [.emp], some (.l (.i .i32))⟩ := by kernel_rfl
theorem ty53 : tyOf prog 53 = some ⟨.sl 72, 1, 24, [.emp], some (.l (.c .s (.c (.i .i64) (.i .i64))))⟩ := by kernel_rfl
theorem ty65 : tyOf prog 65 = some ⟨.st [(0, (28, 1)), (1, (3, 1))], 2, 32, [.emp, .i .i64 0], some (.c (.l (.i .u8)) (.i .i64))⟩ := by kernel_rfl
theorem ty89 : tyOf prog 89 = some ⟨.int .u32, 1, 4, [.i .u32 0], some (.i .u32)⟩ := by kernel_rfl
theorem ty60 : tyOf prog 60 = some ⟨.sl 62, 1, 24, [.emp], some (.l (.l (.i .i64)))⟩ := by kernel_rfl
theorem ty74 : tyOf prog 74 = some ⟨.int .u64, 1, 8, [.i .u64 0], some (.i .u64)⟩ := by kernel_rfl
def Y : TT prog := mkTT _ (tys_cons ty2 (tys_cons ty9 (tys_cons ty3 (tys_cons ty33 (tys_cons ty22 (tys_cons ty4 (tys_cons ty5 (tys_cons ty41 (tys_cons ty21 (tys_cons ty62 (tys_cons ty45 (tys_cons ty43 (tys_cons ty39 (tys_cons ty48 (tys_cons ty28 (tys_cons ty72 (tys_cons ty57 (tys_cons ty81 (tys_cons ty53 (tys_cons ty65 (tys_cons ty89 (tys_cons ty60 (tys_cons ty74 tys_nil))))))))))))))))))))))) [33, 41, 45, 72, 65] (by kernel_rfl)
theorem mixed : prog.follows .mixedOrders = true := by kernel_rfl
-- loop.example/g00460/spec.l1Letter
def F67 (K : Nat) (x : Int) : Option (Bool) :=
  branch (decide (97 ≤ x))
   (branch (decide (x ≤ 122))
    (some true)
    (branch (decide (x = 95))
     (some true)
     (some (decide (x = 46)))))
   (branch (decide (x = 95))
    (some true)
    (some (decide (x = 46))))
def ct67 (K : Nat) : Ct := ⟨[.l (.v (.i .u8))], [], [.l (.v .b)], [], [], F67 K⟩
theorem c67 (K : Nat) : CtOk prog 67 (ct67 K) :=
  con_mk (Y := Y) (L := []) (K := K) (an := (.seq .no .no)) func67 mixed ctabOk_nil (by kernel_rfl) fun x => by kernel_rfl
-- loop.example/g00460/spec.NameOk
def F53_b0 (K : Nat) (x : (List UInt8) × Int) : Option (((List UInt8) × Int) ⊕ (Bool ⊕ Unit)) :=
  branch (decide (x.2 < (x.1.length : Int)))
   (bindO (α := (List UInt8) × Int × Bool) (nth x.1 x.2 fun v0 =>
     bindO (F67 K (v0.toNat : Int)) fun v1 =>
     branch (!v1)
      (nth x.1 x.2 fun v2 =>
      branch (decide (48 ≤ (v2.toNat : Int)))
       (nth x.1 x.2 fun v3 =>
       some (x.1, x.2, !(decide ((v3.toNat : Int) ≤ 57))))
       (some (x.1, x.2, true)))
      (some (x.1, x.2, false))) fun v4 =>
   branch v4.2.2
    (some (.inr (.inl false)))
    (some (.inl (v4.1, w64 (v4.2.1 + 1)))))
   (some (.inr (.inr ())))
def F53 (K : Nat) (x : List UInt8) : Option (Bool) :=
  bindO (α := Bool ⊕ (List UInt8)) (bindO (α := (List UInt8) × Bool) (branch (decide ((x.length : Int) < 1))
       (some (x, true))
       (branch (decide (16 < (x.length : Int)))
        (some (x, true))
        (nth x 0 fun v0 =>
        bindO (F67 K (v0.toNat : Int)) fun v1 =>
        some (x, !v1)))) fun v2 =>
    branch v2.2
     (some (.inl false))
     (some (.inr v2.1))) fun v3 =>
  csO v3
   (fun v4 => some v4)
   (fun v5 => bindO (iter K (F53_b0 K) (v5, 0)) fun v6 =>
   csO v6
    (fun v7 => some v7)
    (fun v8 => some true))
def ct53 (K : Nat) : Ct := ⟨[.l (.v .s)], [], [.l (.v .b)], [], [], F53 K⟩
theorem c53 (K : Nat) : CtOk prog 53 (ct53 K) :=
  con_mk (Y := Y) (L := [(67, ct67 K)]) (K := K) (an := (.seq .no (.seqJ [(1000000, ⟨(.l (.v .s) :: ru 41 []), []⟩)] true (.seqJ [(1000000, ⟨(.l (.v .s) :: ru 16 (.l (.v .b) :: ru 24 [])), []⟩)] false .no (.cond .no .no)) (.seq (.seq .no (.blk (.loop [] ⟨(.l (.v .s) :: ru 2 (.l (.v (.i .i64)) :: ru 38 [])), []⟩ [(0, ⟨(ru 42 []), []⟩)] true (.seq (.seq .no .no) (.seq (.blk (.seqJ [(1000000, ⟨(.l (.v .s) :: ru 2 (.l (.v (.i .i64)) :: ru 37 (.l (.v .b) :: []))), []⟩)] false .no (.cond .no .no))) .no))))) .no)))) func53 mixed (ctabOk_cons (c67 K) ctabOk_nil) (by kernel_rfl) fun x => by kernel_rfl
-- loop.example/g00460/spec.l1Digit
def F73 (K : Nat) (x : Int) : Option (Int) :=
  bindO (α := Int × Bool) (branch (decide (48 ≤ x))
     (some (x, decide (x ≤ 57)))
     (some (x, false))) fun v0 =>
  branch v0.2
   (some (w64 (w8 (v0.1 - 48))))
   (bindO (α := Int × Bool) (branch (decide (65 ≤ v0.1))
      (some (v0.1, decide (v0.1 ≤ 70)))
      (some (v0.1, false))) fun v1 =>
   branch v1.2
    (some (w64 ((w64 (w8 (v1.1 - 65))) + 10)))
    (some 99))
def ct73 (K : Nat) : Ct := ⟨[.l (.v (.i .u8))], [], [.l (.v (.i .i64))], [], [], F73 K⟩
theorem c73 (K : Nat) : CtOk prog 73 (ct73 K) :=
  con_mk (Y := Y) (L := []) (K := K) (an := (.seq .no (.seq (.blk (.seqJ [(1000000, ⟨(.l (.v (.i .u8)) :: ru 2 (.l (.v .b) :: ru 20 [])), []⟩)] false .no (.cond .no (.seqJ [(1000000, ⟨(.l (.v (.i .u8)) :: ru 12 (.l (.v .b) :: ru 10 [])), []⟩)] false .no (.cond .no .no))))) .no))) func73 mixed ctabOk_nil (by kernel_rfl) fun x => by kernel_rfl
-- loop.example/g00460/spec.l1Base
def F68_b0 (K : Nat) (x : (List UInt8) × Int × Int × Int) : Option (((List UInt8) × Int × Int × Int) ⊕ ((Int × Bool) ⊕ ((List UInt8) × Int))) :=
  branch (decide (x.2.2.2 < (x.1.length : Int)))
   (nth x.1 x.2.2.2 fun v0 =>
   bindO (F73 K (v0.toNat : Int)) fun v1 =>
   branch (decide (x.2.1 ≤ v1))
    (some (.inr (.inl (0, false))))
    (branch (decide (65535 < (w64 ((w64 (x.2.2.1 * x.2.1)) + v1))))
     (some (.inr (.inl (0, false))))
     (some (.inl (x.1, x.2.1, w64 ((w64 (x.2.2.1 * x.2.1)) + v1), w64 (x.2.2.2 + 1))))))
   (some (.inr (.inr (x.1, x.2.2.1))))
def F68 (K : Nat) (x : (List UInt8) × Int) : Option (Int × Bool) :=
  bindO (iter K (F68_b0 K) (x.1, x.2, 0, 0)) fun v0 =>
  csO v0
   (fun v1 => some v1)
   (fun v2 => some (v2.2, !(decide (v2.1 = []))))
def ct68 (K : Nat) : Ct := ⟨[.l (.v .s), .l (.v (.i .i64))], [], [.l (.v (.i .i64)), .l (.v .b)], [], [], F68 K⟩
theorem c68 (K : Nat) : CtOk prog 68 (ct68 K) :=
  con_mk (Y := Y) (L := [(73, ct73 K)]) (K := K) (an := (.seq .no (.seq .no (.seq (.seq .no (.blk (.loop [] ⟨(.l (.v .s) :: .l (.v (.i .i64)) :: ru 4 (.l (.v (.i .i64)) :: .l (.v (.i .i64)) :: ru 24 [])), []⟩ [(0, ⟨(.l (.v .s) :: ru 5 (.l (.v (.i .i64)) :: ru 25 [])), []⟩)] true (.seq (.seq .no .no) (.seq (.blk (.seq .no (.seq (.seq .no (.cond .no .no)) (.seq .no (.seq .no (.cond .no .no)))))) .no))))) .no)))) func68 mixed (ctabOk_cons (c73 K) ctabOk_nil) (by kernel_rfl) fun x => by kernel_rfl
-- loop.example/g00460/spec.ReadNum
def F54 (K : Nat) (x : List UInt8) : Option (Int × Bool) :=
  bindO (α := (Int × Bool) ⊕ (List UInt8)) (bindO (α := (List UInt8) × Bool) (branch (decide (18 < (x.length : Int)))
       (some (x, true))
       (some (x, decide (x = [])))) fun v0 =>
    branch v0.2
     (some (.inl (0, false)))
     (some (.inr v0.1))) fun v1 =>
  csO v1
   (fun v2 => some v2)
   (fun v3 => nth v3 0 fun v4 =>
   branch (decide ((v4.toNat : Int) = 36))
    (guard (decide ((0 : Int) ≤ 1 ∧ 1 ≤ (v3.length : Int))) <|
    bindO (F68 K (dpL v3 1, 16)) fun v5 =>
    some v5)
    (branch (decide ((v4.toNat : Int) = 37))
     (guard (decide ((0 : Int) ≤ 1 ∧ 1 ≤ (v3.length : Int))) <|
     bindO (F68 K (dpL v3 1, 2)) fun v6 =>
     some v6)
     (bindO (F68 K (v3, 10)) fun v7 =>
     some v7)))
def ct54 (K : Nat) : Ct := ⟨[.l (.v .s)], [], [.l (.v (.i .i64)), .l (.v .b)], [], [], F54 K⟩
theorem c54 (K : Nat) : CtOk prog 54 (ct54 K) :=
  con_mk (Y := Y) (L := [(68, ct68 K)]) (K := K) (an := (.seq .no (.seqJ [(1000000, ⟨(.l (.v .s) :: ru 30 []), []⟩)] true (.seqJ [(1000000, ⟨(.l (.v .s) :: ru 9 (.l (.v .b) :: ru 20 [])), []⟩)] false .no (.cond .no .no)) (.seq (.seq .no (.blk (.seq .no (.cond .no (.seq .no (.cond .no .no)))))) .no)))) func54 mixed (ctabOk_cons (c68 K) ctabOk_nil) (by kernel_rfl) fun x => by kernel_rfl
-- loop.example/g00460/spec.l2Words
def F33 (K : Nat) (x : Unit) : Option (List (List UInt8)) :=
  some [[], [], [], [], ([110, 101, 103] : List UInt8), ([110, 111, 116] : List UInt8), ([104, 105, 103, 104] : List UInt8), ([108, 111, 119] : List UInt8), ([43] : List UInt8), ([45] : List UInt8), ([42] : List UInt8), ([47] : List UInt8), ([37] : List UInt8), ([38] : List UInt8), ([94] : List UInt8), ([124] : List UInt8), ([60, 60] : List UInt8), ([62, 62] : List UInt8)]
def ct33 (K : Nat) : Ct := ⟨[], [], [.l (.v (.l .s))], [], [], F33 K⟩
theorem c33 (K : Nat) : CtOk prog 33 (ct33 K) :=
  con_mk (Y := Y) (L := []) (K := K) (an := (.seq .no .no)) func33 mixed ctabOk_nil (by kernel_rfl) fun x => by kernel_rfl
-- loop.example/g00460/spec.l2Level
def F32 (K : Nat) (x : Int) : Option (Int) :=
  bindO (α := Int × Bool) (branch (decide (x = 10))
     (some (x, true))
     (branch (decide (x = 11))
      (some (x, true))
      (some (x, decide (x = 12))))) fun v0 =>
  branch v0.2
   (some 6)
   (bindO (α := Int × Bool) (branch (decide (v0.1 = 8))
      (some (v0.1, true))
      (some (v0.1, decide (v0.1 = 9)))) fun v1 =>
   branch v1.2
    (some 5)
    (bindO (α := Int × Bool) (branch (decide (v1.1 = 16))
       (some (v1.1, true))
       (some (v1.1, decide (v1.1 = 17)))) fun v2 =>
    branch v2.2
     (some 4)
     (branch (decide (v2.1 = 13))
      (some 3)
      (branch (decide (v2.1 = 14))
       (some 2)
       (some 1)))))
def ct32 (K : Nat) : Ct := ⟨[.l (.v (.i .i64))], [], [.l (.v (.i .i64))], [], [], F32 K⟩
theorem c32 (K : Nat) : CtOk prog 32 (ct32 K) :=
  con_mk (Y := Y) (L := []) (K := K) (an := (.seq .no (.seq (.seq .no (.blk (.seqJ [(1000000, ⟨(ru 3 (.l (.v (.i .i64)) :: .l (.v .b) :: ru 13 [])), []⟩)] false (.seq .no (.cond .no (.seq .no .no))) (.cond .no (.seqJ [(1000000, ⟨(ru 3 (.l (.v (.i .i64)) :: ru 4 (.l (.v .b) :: ru 9 []))), []⟩)] false (.seq .no .no) (.cond .no (.seqJ [(1000000, ⟨(ru 3 (.l (.v (.i .i64)) :: ru 7 (.l (.v .b) :: ru 6 []))), []⟩)] false (.seq .no .no) (.cond .no (.seq .no (.cond .no (.seq .no (.cond .no .no)))))))))))) .no))) func32 mixed ctabOk_nil (by kernel_rfl) fun x => by kernel_rfl
-- loop.example/g00460/spec.l1In
def F55 (K : Nat) (x : Int × Int × Int) : Option (Bool) :=
  branch (decide (x.2.1 ≤ x.1))
   (some (decide (x.1 ≤ x.2.2)))
   (some false)
def ct55 (K : Nat) : Ct := ⟨[.l (.v (.i .i64)), .l (.v (.i .i64)), .l (.v (.i .i64))], [], [.l (.v .b)], [], [], F55 K⟩
theorem c55 (K : Nat) : CtOk prog 55 (ct55 K) :=
  con_mk (Y := Y) (L := []) (K := K) (an := (.seq .no .no)) func55 mixed ctabOk_nil (by kernel_rfl) fun x => by kernel_rfl
-- loop.example/g00460/spec.l2Takes
def F36 (K : Nat) (x : Int) : Option (Int) :=
  bindO (F55 K (x, 1, 3)) fun v0 =>
  branch v0
   (some 0)
   (bindO (F55 K (x, 4, 7)) fun v1 =>
   branch v1
    (some 1)
    (bindO (F55 K (x, 8, 17)) fun v2 =>
    branch v2
     (some 2)
     (some (-1))))
def ct36 (K : Nat) : Ct := ⟨[.l (.v (.i .i64))], [], [.l (.v (.i .i64))], [], [], F36 K⟩
theorem c36 (K : Nat) : CtOk prog 36 (ct36 K) :=
  con_mk (Y := Y) (L := [(55, ct55 K)]) (K := K) (an := (.seq .no (.seq (.blk (.seq .no (.cond .no (.seq .no (.cond .no (.seq .no (.cond .no .no))))))) .no))) func36 mixed (ctabOk_cons (c55 K) ctabOk_nil) (by kernel_rfl) fun x => by kernel_rfl
-- loop.example/g00460/spec.l2Node
def F35 (K : Nat) (x : Int × Int × List UInt8) : Option (Bool) :=
  bindO (α := Bool ⊕ (Int × Int × List UInt8)) (branch (decide (x.1 = 1))
     (bindO (F55 K (x.2.1, 0, 65535)) fun v0 =>
     branch v0
      (some (.inl (decide (x.2.2 = []))))
      (some (.inl false)))
     (bindO (α := Bool × Int × Int × List UInt8) (branch (decide (x.1 = 2))
        (some (true, x))
        (some (decide (x.1 = 3), x))) fun v1 =>
     branch v1.1
      (branch (decide (v1.2.2.1 = 0))
       (bindO (F53 K v1.2.2.2) fun v2 =>
       some (.inl v2))
       (some (.inl false)))
      (some (.inr v1.2)))) fun v3 =>
  csO v3
   (fun v4 => some v4)
   (fun v5 => branch (decide (v5.2.1 = 0))
    (branch (decide (v5.2.2 = []))
     (bindO (F36 K v5.1) fun v6 =>
     some (decide (0 < v6)))
     (some false))
    (some false))
def ct35 (K : Nat) : Ct := ⟨[.agg [(.v (.i .i64)), (.v (.i .i64)), (.v .s)]], [], [.l (.v .b)], [], [], F35 K⟩
theorem c35 (K : Nat) : CtOk prog 35 (ct35 K) :=
  con_mk (Y := Y) (L := [(53, ct53 K), (55, ct55 K), (36, ct36 K)]) (K := K) (an := (.seq .no (.seqJ [(1000000, ⟨(ru 1 (.l (.ptr 2000 0 0) :: ru 38 [])), [(2000, ⟨3, false, .mix (some 33) [[.l (.v (.i .i64)), .l (.v (.i .i64)), .l (.v .s)]]⟩)]⟩)] true (.seq .no (.blk (.seq .no (.cond .no (.seqJ [(1000000, ⟨(ru 1 (.l (.ptr 2000 0 0) :: ru 13 (.l (.v .b) :: ru 24 []))), [(2000, ⟨3, false, .mix (some 33) [[.l (.v (.i .i64)), .l (.v (.i .i64)), .l (.v .s)]]⟩)]⟩)] false (.seq .no .no) (.cond .no .no)))))) .no))) func35 mixed (ctabOk_cons (c53 K) (ctabOk_cons (c55 K) (ctabOk_cons (c36 K) ctabOk_nil))) (by kernel_rfl) fun x => by kernel_rfl
-- loop.example/g00460/spec.ExprOk
def F19_b0 (K : Nat) (x : (List (Int × Int × List UInt8)) × Int × Int) : Option (((List (Int × Int × List UInt8)) × Int × Int) ⊕ (Bool ⊕ ((List (Int × Int × List UInt8)) × Int))) :=
  branch (decide (x.2.2 < (x.1.length : Int)))
   (bindO (α := Bool ⊕ ((List (Int × Int × List UInt8)) × Int × Int)) (bindO (α := (List (Int × Int × List UInt8)) × Int × Int × Bool) (nth x.1 x.2.2 fun v0 =>
       bindO (F35 K v0) fun v1 =>
       branch (!v1)
        (some (x.1, x.2.1, x.2.2, true))
        (nth x.1 x.2.2 fun v2 =>
        bindO (F36 K v2.1) fun v3 =>
        some (x.1, x.2.1, x.2.2, decide (x.2.1 < v3)))) fun v4 =>
     branch v4.2.2.2
      (some (.inl false))
      (some (.inr (v4.1, v4.2.1, v4.2.2.1)))) fun v5 =>
   csO v5
    (fun v6 => some (.inr (.inl v6)))
    (fun v7 => nth v7.1 v7.2.2 fun v8 =>
    bindO (F36 K v8.1) fun v9 =>
    some (.inl (v7.1, w64 ((w64 (v7.2.1 - v9)) + 1), w64 (v7.2.2 + 1)))))
   (some (.inr (.inr (x.1, x.2.1))))
def F19 (K : Nat) (x : List (Int × Int × List UInt8)) : Option (Bool) :=
  bindO (iter K (F19_b0 K) (x, 0, 0)) fun v0 =>
  csO v0
   (fun v1 => some v1)
   (fun v2 => branch (decide ((v2.1.length : Int) ≤ 30))
    (some (decide (v2.2 = 1)))
    (some false))
def ct19 (K : Nat) : Ct := ⟨[.l (.v (.l (.c (.i .i64) (.c (.i .i64) .s))))], [], [.l (.v .b)], [], [], F19 K⟩
theorem c19 (K : Nat) : CtOk prog 19 (ct19 K) :=
  con_mk (Y := Y) (L := [(36, ct36 K), (35, ct35 K)]) (K := K) (an := (.seq .no (.seq .no (.seq (.seq .no (.blk (.loop [] ⟨(.l (.v (.l (.c (.i .i64) (.c (.i .i64) .s)))) :: ru 2 (.l (.v (.i .i64)) :: .l (.v (.i .i64)) :: ru 38 [])), []⟩ [(0, ⟨(.l (.v (.l (.c (.i .i64) (.c (.i .i64) .s)))) :: ru 2 (.l (.v (.i .i64)) :: ru 39 [])), []⟩)] true (.seq (.seq .no .no) (.seq (.blk (.seqJ [(1000000, ⟨(.l (.v (.l (.c (.i .i64) (.c (.i .i64) .s)))) :: ru 2 (.l (.v (.i .i64)) :: .l (.v (.i .i64)) :: ru 38 [])), []⟩)] true (.seqJ [(1000000, ⟨(.l (.v (.l (.c (.i .i64) (.c (.i .i64) .s)))) :: ru 2 (.l (.v (.i .i64)) :: .l (.v (.i .i64)) :: ru 21 (.l (.v .b) :: ru 16 []))), []⟩)] false .no (.cond .no .no)) .no)) .no))))) .no)))) func19 mixed (ctabOk_cons (c36 K) (ctabOk_cons (c35 K) ctabOk_nil)) (by kernel_rfl) fun x => by kernel_rfl
-- loop.example/g00460/impl.levels
def F37 (K : Nat) (x : Unit) : Option (List (List Int)) :=
  some [[15], [14], [13], [16, 17], [8, 9], [10, 11, 12]]
def ct37 (K : Nat) : Ct := ⟨[], [], [.l (.v (.l (.l (.i .i64))))], [], [], F37 K⟩
theorem c37 (K : Nat) : CtOk prog 37 (ct37 K) :=
  con_mk (Y := Y) (L := []) (K := K) (an := (.seq .no (.seq (.reg [0, 1, 2, 3, 4, 5, 6] []) .no))) func37 mixed ctabOk_nil (by kernel_rfl) fun x => by kernel_rfl
-- internal/stringslite.HasPrefix
def F71 (K : Nat) (x : (List UInt8) × List UInt8) : Option (Bool) :=
  branch (decide ((x.2.length : Int) ≤ (x.1.length : Int)))
   (guard (decide (0 ≤ (x.2.length : Int) ∧ (x.2.length : Int) ≤ (x.1.length : Int))) <|
   some (decide ((tkL x.1 (x.2.length : Int)) = x.2)))
   (some false)
def ct71 (K : Nat) : Ct := ⟨[.l (.v .s), .l (.v .s)], [], [.l (.v .b)], [], [], F71 K⟩
theorem c71 (K : Nat) : CtOk prog 71 (ct71 K) :=
  con_mk (Y := Y) (L := []) (K := K) (an := (.seq .no .no)) func71 mixed ctabOk_nil (by kernel_rfl) fun x => by kernel_rfl
-- strings.HasPrefix
def F58 (K : Nat) (x : (List UInt8) × List UInt8) : Option (Bool) :=
  bindO (F71 K x) fun v0 =>
  some v0
def ct58 (K : Nat) : Ct := ⟨[.l (.v .s), .l (.v .s)], [], [.l (.v .b)], [], [], F58 K⟩
theorem c58 (K : Nat) : CtOk prog 58 (ct58 K) :=
  con_mk (Y := Y) (L := [(71, ct71 K)]) (K := K) (an := (.seq .no .no)) func58 mixed (ctabOk_cons (c71 K) ctabOk_nil) (by kernel_rfl) fun x => by kernel_rfl
-- loop.example/g00460/impl.isSmall
def F62 (K : Nat) (x : Int) : Option (Bool) :=
  branch (decide (97 ≤ x))
   (some (decide (x ≤ 122)))
   (some false)
def ct62 (K : Nat) : Ct := ⟨[.l (.v (.i .u8))], [], [.l (.v .b)], [], [], F62 K⟩
theorem c62 (K : Nat) : CtOk prog 62 (ct62 K) :=
  con_mk (Y := Y) (L := []) (K := K) (an := (.seq .no .no)) func62 mixed ctabOk_nil (by kernel_rfl) fun x => by kernel_rfl
-- loop.example/g00460/impl.isDigit
def F61 (K : Nat) (x : Int) : Option (Bool) :=
  branch (decide (48 ≤ x))
   (some (decide (x ≤ 57)))
   (some false)
def ct61 (K : Nat) : Ct := ⟨[.l (.v (.i .u8))], [], [.l (.v .b)], [], [], F61 K⟩
theorem c61 (K : Nat) : CtOk prog 61 (ct61 K) :=
  con_mk (Y := Y) (L := []) (K := K) (an := (.seq .no .no)) func61 mixed ctabOk_nil (by kernel_rfl) fun x => by kernel_rfl
-- loop.example/g00460/impl.valueOf
def F74_b0 (K : Nat) (x : (List UInt8) × (List UInt8) × Int × Int × Int) : Option (((List UInt8) × (List UInt8) × Int × Int × Int) ⊕ ((Int × Bool) ⊕ ((List UInt8) × Int))) :=
  branch (decide (x.2.2.2.2 < x.2.2.2.1))
   (nth x.1 x.2.2.2.2 fun v0 =>
   bindO (F78 K (x.2.1, (v0.toNat : Int))) fun v1 =>
   bindO (α := (Int × Bool) ⊕ ((List UInt8) × (List UInt8) × Int × Int × Int × Int)) (bindO (α := (List UInt8) × (List UInt8) × Int × Int × Int × Int × Bool) (branch (decide (v1 < 0))
        (some (x.1, x.2.1, x.2.2.1, v1, x.2.2.2.1, x.2.2.2.2, true))
        (some (x.1, x.2.1, x.2.2.1, v1, x.2.2.2.1, x.2.2.2.2, decide (65535 < x.2.2.1)))) fun v2 =>
     branch v2.2.2.2.2.2.2
      (some (.inl (0, false)))
      (some (.inr (v2.1, v2.2.1, v2.2.2.1, v2.2.2.2.1, v2.2.2.2.2.1, v2.2.2.2.2.2.1)))) fun v3 =>
   csO v3
    (fun v4 => some (.inr (.inl v4)))
    (fun v5 => some (.inl (v5.1, v5.2.1, w64 ((w64 (v5.2.2.1 * (v5.2.1.length : Int))) + v5.2.2.2.1), v5.2.2.2.2.1, w64 (v5.2.2.2.2.2 + 1)))))
   (some (.inr (.inr (x.1, x.2.2.1))))
def F74 (K : Nat) (x : (List UInt8) × List UInt8) : Option (Int × Bool) :=
  bindO (iter K (F74_b0 K) (x.1, x.2, 0, (x.1.length : Int), 0)) fun v0 =>
  csO v0
   (fun v1 => some v1)
   (fun v2 => branch (!(decide (v2.1 = [])))
    (some (v2.2, decide (v2.2 ≤ 65535)))
    (some (v2.2, false)))
def ct74 (K : Nat) : Ct := ⟨[.l (.v .s), .l (.v .s)], [], [.l (.v (.i .i64)), .l (.v .b)], [], [], F74 K⟩
theorem c74 (K : Nat) : CtOk prog 74 (ct74 K) :=
  con_mk (Y := Y) (L := [(78, ct78 K)]) (K := K) (an := (.seq .no (.seq .no (.seq (.seq .no (.blk (.loop [] ⟨(.l (.v .s) :: .l (.v .s) :: ru 4 (.l (.v (.i .i64)) :: ru 3 (.l (.v (.i .i64)) :: .l (.v (.i .i64)) :: ru 27 []))), []⟩ [(0, ⟨(.l (.v .s) :: ru 5 (.l (.v (.i .i64)) :: ru 32 [])), []⟩)] true (.seq .no (.seq .no (.seq (.blk (.seq .no (.seq .no (.seqJ [(1000000, ⟨(.l (.v .s) :: .l (.v .s) :: ru 4 (.l (.v (.i .i64)) :: ru 1 (.l (.v (.i .i64)) :: ru 1 (.l (.v (.i .i64)) :: .l (.v (.i .i64)) :: ru 27 [])))), []⟩)] true (.seqJ [(1000000, ⟨(.l (.v .s) :: .l (.v .s) :: ru 4 (.l (.v (.i .i64)) :: ru 1 (.l (.v (.i .i64)) :: ru 1 (.l (.v (.i .i64)) :: .l (.v (.i .i64)) :: ru 12 (.l (.v .b) :: ru 14 []))))), []⟩)] false .no (.cond .no .no)) .no)))) .no)))))) .no)))) func74 mixed (ctabOk_cons (c78 K) ctabOk_nil) (by kernel_rfl) fun x => by kernel_rfl
-- loop.example/g00460/impl.ReadNum
def F70 (K : Nat) (x : List UInt8) : Option (Int × Bool) :=
  bindO (α := Int × Bool) (branch (decide (18 < (x.length : Int)))
     (some (0, false))
     (bindO (F58 K (x, ([36] : List UInt8))) fun v0 =>
     branch v0
      (guard (decide ((0 : Int) ≤ 1 ∧ 1 ≤ (x.length : Int))) <|
      bindO (F74 K (dpL x 1, ([48, 49, 50, 51, 52, 53, 54, 55, 56, 57, 65, 66, 67, 68, 69, 70] : List UInt8))) fun v1 =>
      some v1)
      (bindO (F58 K (x, ([37] : List UInt8))) fun v2 =>
      branch v2
       (guard (decide ((0 : Int) ≤ 1 ∧ 1 ≤ (x.length : Int))) <|
       bindO (F74 K (dpL x 1, ([48, 49] : List UInt8))) fun v3 =>
       some v3)
       (bindO (F74 K (x, ([48, 49, 50, 51, 52, 53, 54, 55, 56, 57] : List UInt8))) fun v4 =>
       some v4)))) fun v5 =>
  branch (!v5.2)
   (some (0, false))
   (some (v5.1, true))
def ct70 (K : Nat) : Ct := ⟨[.l (.v .s)], [], [.l (.v (.i .i64)), .l (.v .b)], [], [], F70 K⟩
theorem c70 (K : Nat) : CtOk prog 70 (ct70 K) :=
  con_mk (Y := Y) (L := [(58, ct58 K), (74, ct74 K)]) (K := K) (an := (.seq .no (.seq .no (.seqJ [(1000000, ⟨(ru 4 (.l (.v (.i .i64)) :: .l (.v .b) :: ru 30 [])), []⟩)] false (.blk (.seq .no (.cond .no (.seq .no (.cond .no (.seq .no .no)))))) (.seq (.seq .no (.cond .no .no)) .no))))) func70 mixed (ctabOk_cons (c58 K) (ctabOk_cons (c74 K) ctabOk_nil)) (by kernel_rfl) fun x => by kernel_rfl
-- loop.example/g00460/impl.within
def F46 (K : Nat) (x : Int × Int × Int) : Option (Bool) :=
  branch (decide (x.2.1 ≤ x.1))
   (some (decide (x.1 ≤ x.2.2)))
   (some false)
def ct46 (K : Nat) : Ct := ⟨[.l (.v (.i .i64)), .l (.v (.i .i64)), .l (.v (.i .i64))], [], [.l (.v .b)], [], [], F46 K⟩
theorem c46 (K : Nat) : CtOk prog 46 (ct46 K) :=
  con_mk (Y := Y) (L := []) (K := K) (an := (.seq .no .no)) func46 mixed ctabOk_nil (by kernel_rfl) fun x => by kernel_rfl
-- loop.example/g00460/impl.NameOk
def F45_b0 (K : Nat) (x : (List UInt8) × Int × Int) : Option (((List UInt8) × Int × Int) ⊕ (Bool ⊕ Unit)) :=
  branch (decide (x.2.2 < x.2.1))
   (bindO (α := (List UInt8) × Int × Int × Bool) (nth x.1 x.2.2 fun v0 =>
     bindO (F62 K (v0.toNat : Int)) fun v1 =>
     branch (!v1)
      (nth x.1 x.2.2 fun v2 =>
      bindO (F61 K (v2.toNat : Int)) fun v3 =>
      branch (!v3)
       (nth x.1 x.2.2 fun v4 =>
       branch (!(decide ((v4.toNat : Int) = 95)))
        (nth x.1 x.2.2 fun v5 =>
        some (x.1, x.2.1, x.2.2, !(decide ((v5.toNat : Int) = 46))))
        (some (x.1, x.2.1, x.2.2, false)))
       (some (x.1, x.2.1, x.2.2, false)))
      (some (x.1, x.2.1, x.2.2, false))) fun v6 =>
   branch v6.2.2.2
    (some (.inr (.inl false)))
    (some (.inl (v6.1, v6.2.1, w64 (v6.2.2.1 + 1)))))
   (some (.inr (.inr ())))
def F45 (K : Nat) (x : List UInt8) : Option (Bool) :=
  bindO (α := Bool ⊕ (List UInt8)) (bindO (α := (List UInt8) × Bool) (bindO (F46 K ((x.length : Int), 1, 16)) fun v0 =>
      branch (!v0)
       (some (x, true))
       (nth x 0 fun v1 =>
       bindO (F61 K (v1.toNat : Int)) fun v2 =>
       some (x, v2))) fun v3 =>
    branch v3.2
     (some (.inl false))
     (some (.inr v3.1))) fun v4 =>
  csO v4
   (fun v5 => some v5)
   (fun v6 => bindO (iter K (F45_b0 K) (v6, (v6.length : Int), 0)) fun v7 =>
   csO v7
    (fun v8 => some v8)
    (fun v9 => some true))
def ct45 (K : Nat) : Ct := ⟨[.l (.v .s)], [], [.l (.v .b)], [], [], F45 K⟩
theorem c45 (K : Nat) : CtOk prog 45 (ct45 K) :=
  con_mk (Y := Y) (L := [(62, ct62 K), (61, ct61 K), (46, ct46 K)]) (K := K) (an := (.seq .no (.seqJ [(1000000, ⟨(.l (.v .s) :: ru 42 []), []⟩)] true (.seqJ [(1000000, ⟨(.l (.v .s) :: ru 11 (.l (.v .b) :: ru 30 [])), []⟩)] false .no (.cond .no .no)) (.seq (.seq .no (.blk (.loop [] ⟨(.l (.v .s) :: ru 13 (.l (.v (.i .i64)) :: .l (.v (.i .i64)) :: ru 27 [])), []⟩ [(0, ⟨(ru 43 []), []⟩)] true (.seq .no (.seq .no (.seq (.blk (.seq .no (.seqJ [(1000000, ⟨(.l (.v .s) :: ru 13 (.l (.v (.i .i64)) :: .l (.v (.i .i64)) :: ru 25 (.l (.v .b) :: ru 1 []))), []⟩)] false .no (.cond .no .no)))) .no)))))) .no)))) func45 mixed (ctabOk_cons (c62 K) (ctabOk_cons (c61 K) (ctabOk_cons (c46 K) ctabOk_nil))) (by kernel_rfl) fun x => by kernel_rfl
-- loop.example/g00460/impl.opWords
def F40 (K : Nat) (x : Unit) : Option (List (List UInt8)) :=
  bindO (F59 K (([110, 101, 103, 32, 110, 111, 116, 32, 104, 105, 103, 104, 32, 108, 111, 119, 32, 43, 32, 45, 32, 42, 32, 47, 32, 37, 32, 38, 32, 94, 32, 124, 32, 60, 60, 32, 62, 62] : List UInt8), ([32] : List UInt8))) fun v0 =>
  some v0
def ct40 (K : Nat) : Ct := ⟨[], [], [.l (.v (.l .s))], [], [], F40 K⟩
theorem c40 (K : Nat) : CtOk prog 40 (ct40 K) :=
  con_mk (Y := Y) (L := [(59, ct59 K)]) (K := K) (an := (.seq .no .no)) func40 mixed (ctabOk_cons (c59 K) ctabOk_nil) (by kernel_rfl) fun x => by kernel_rfl
-- loop.example/g00460/laws.eqENode
def F21 (K : Nat) (x : Int × Int × (List UInt8) × Int × Int × List UInt8) : Option (Bool) :=
  branch (!(decide (x.1 = x.2.2.2.1)))
   (some false)
   (branch (!(decide (x.2.1 = x.2.2.2.2.1)))
    (some false)
    (branch (!(decide (x.2.2.1 = x.2.2.2.2.2)))
     (some false)
     (some true)))
def ct21 (K : Nat) : Ct := ⟨[.agg [(.v (.i .i64)), (.v (.i .i64)), (.v .s)], .agg [(.v (.i .i64)), (.v (.i .i64)), (.v .s)]], [], [.l (.v .b)], [], [], F21 K⟩
theorem c21 (K : Nat) : CtOk prog 21 (ct21 K) :=
  con_mk (Y := Y) (L := []) (K := K) (an := (.seq .no (.seq (.seq .no (.cond .no .no)) (.seq (.seq .no (.cond .no .no)) (.seq (.seq .no (.cond .no .no)) .no))))) func21 mixed ctabOk_nil (by kernel_rfl) fun x => by kernel_rfl
-- loop.example/g00460/laws.eqENodeS
def F8_b0 (K : Nat) (x : (List (Int × Int × List UInt8)) × (List (Int × Int × List UInt8)) × Int) : Option (((List (Int × Int × List UInt8)) × (List (Int × Int × List UInt8)) × Int) ⊕ (Bool ⊕ Unit)) :=
  branch (decide (x.2.2 < (x.1.length : Int)))
   (nth x.1 x.2.2 fun v0 =>
   nth x.2.1 x.2.2 fun v1 =>
   bindO (F21 K (v0.1, v0.2.1, v0.2.2, v1)) fun v2 =>
   branch (!v2)
    (some (.inr (.inl false)))
    (some (.inl (x.1, x.2.1, w64 (x.2.2 + 1)))))
   (some (.inr (.inr ())))
def F8 (K : Nat) (x : (List (Int × Int × List UInt8)) × List (Int × Int × List UInt8)) : Option (Bool) :=
  branch (!(decide ((x.1.length : Int) = (x.2.length : Int))))
   (some false)
   (bindO (iter K (F8_b0 K) (x.1, x.2, 0)) fun v0 =>
   csO v0
    (fun v1 => some v1)
    (fun v2 => some true))
def ct8 (K : Nat) : Ct := ⟨[.l (.v (.l (.c (.i .i64) (.c (.i .i64) .s)))), .l (.v (.l (.c (.i .i64) (.c (.i .i64) .s))))], [], [.l (.v .b)], [], [], F8 K⟩
theorem c8 (K : Nat) : CtOk prog 8 (ct8 K) :=
  con_mk (Y := Y) (L := [(21, ct21 K)]) (K := K) (an := (.seq .no (.seq (.seq .no (.cond .no .no)) (.seq (.seq .no (.blk (.loop [] ⟨(.l (.v (.l (.c (.i .i64) (.c (.i .i64) .s)))) :: .l (.v (.l (.c (.i .i64) (.c (.i .i64) .s)))) :: ru 3 (.l (.v (.i .i64)) :: ru 21 [])), []⟩ [(0, ⟨(ru 27 []), []⟩)] true (.seq (.seq .no .no) (.seq (.blk (.seq .no (.cond .no .no))) .no))))) .no)))) func8 mixed (ctabOk_cons (c21 K) ctabOk_nil) (by kernel_rfl) fun x => by kernel_rfl
-- loop.example/g00460/laws.markText
def F22_b0 (K : Nat) (x : Int × List UInt8) : Option ((Int × List UInt8) ⊕ (List UInt8)) :=
  branch (decide (0 < x.1))
   (guard (decide ((((toB [w8 (w64 (48 + (Int.tmod x.1 10)))]).length) + x.2.length) ≤ 9223372036854775807)) <|
   some (.inl (w64 (Int.tdiv x.1 10), (toB [w8 (w64 (48 + (Int.tmod x.1 10)))]) ++ x.2)))
   (some (.inr x.2))
def F22 (K : Nat) (x : Int) : Option (List UInt8) :=
  branch (decide (x ≤ 0))
   (some ([109, 48] : List UInt8))
   (bindO (iter K (F22_b0 K) (x, [])) fun v0 =>
   guard (decide ((1 + v0.length) ≤ 9223372036854775807)) <|
   some (([109] : List UInt8) ++ v0))
def ct22 (K : Nat) : Ct := ⟨[.l (.v (.i .i64))], [], [.l (.v .s)], [], [], F22 K⟩
theorem c22 (K : Nat) : CtOk prog 22 (ct22 K) :=
  con_mk (Y := Y) (L := []) (K := K) (an := (.seq .no (.seq (.seq .no (.cond .no .no)) (.seq .no (.seq (.blk (.loop [] ⟨(.l (.v (.i .i64)) :: ru 2 (.l (.v .s) :: ru 16 [])), []⟩ [(0, ⟨(ru 3 (.l (.v .s) :: ru 16 [])), []⟩)] false (.seq (.seq .no .no) (.blk .no)))) .no))))) func22 mixed ctabOk_nil (by kernel_rfl) fun x => by kernel_rfl
-- loop.example/g00460/laws.heldENodeS
def F10_b0 (K : Nat) (x : (List (Int × Int × List UInt8)) × Int × Int) : Option (((List (Int × Int × List UInt8)) × Int × Int) ⊕ (Int ⊕ Int)) :=
  branch (decide (x.2.2 < (x.1.length : Int)))
   (nth x.1 x.2.2 fun v0 =>
   branch (!(decide (v0.1 = x.2.1)))
    (some (.inr (.inl (-1))))
    (nth x.1 x.2.2 fun v1 =>
    branch (!(decide (v1.2.1 = (w64 (x.2.1 + 1)))))
     (some (.inr (.inl (-1))))
     (nth x.1 x.2.2 fun v2 =>
     bindO (F22 K (w64 ((w64 (x.2.1 + 1)) + 1))) fun v3 =>
     branch (!(decide (v2.2.2 = v3)))
      (some (.inr (.inl (-1))))
      (some (.inl (x.1, w64 ((w64 ((w64 (x.2.1 + 1)) + 1)) + 1), w64 (x.2.2 + 1)))))))
   (some (.inr (.inr x.2.1)))
def F10 (K : Nat) (x : (List (Int × Int × List UInt8)) × Int) : Option (Int) :=
  bindO (iter K (F10_b0 K) (x.1, x.2, 0)) fun v0 =>
  csO v0
   (fun v1 => some v1)
   (fun v2 => some v2)
def ct10 (K : Nat) : Ct := ⟨[.l (.v (.l (.c (.i .i64) (.c (.i .i64) .s)))), .l (.v (.i .i64))], [], [.l (.v (.i .i64))], [], [], F10 K⟩
theorem c10 (K : Nat) : CtOk prog 10 (ct10 K) :=
  con_mk (Y := Y) (L := [(22, ct22 K)]) (K := K) (an := (.seq .no (.seq (.seq .no (.blk (.loop [] ⟨(.l (.v (.l (.c (.i .i64) (.c (.i .i64) .s)))) :: .l (.v (.i .i64)) :: ru 3 (.l (.v (.i .i64)) :: ru 35 [])), []⟩ [(0, ⟨(ru 1 (.l (.v (.i .i64)) :: ru 39 [])), []⟩)] true (.seq (.seq .no .no) (.seq (.blk (.seq (.seq .no (.cond .no .no)) (.seq .no (.seq (.seq .no (.cond .no .no)) (.seq .no (.seq (.seq .no (.cond .no .no)) .no)))))) .no))))) .no))) func10 mixed (ctabOk_cons (c22 K) ctabOk_nil) (by kernel_rfl) fun x => by kernel_rfl
-- loop.example/g00460/laws.big
def F11 (K : Nat) (x : List Int) : Option (Bool) :=
  some (decide (1048576 < (x.length : Int)))
def ct11 (K : Nat) : Ct := ⟨[.l (.v (.l (.i .u8)))], [], [.l (.v .b)], [], [], F11 K⟩
theorem c11 (K : Nat) : CtOk prog 11 (ct11 K) :=
  con_mk (Y := Y) (L := []) (K := K) (an := (.seq .no .no)) func11 mixed ctabOk_nil (by kernel_rfl) fun x => by kernel_rfl
-- loop.example/g00460/spec.l1Open
def F23 (K : Nat) (x : List Int) : Option ((List Int) × Int) :=
  some (x, 0)
def ct23 (K : Nat) : Ct := ⟨[.l (.v (.l (.i .u8)))], [], [.l (.ptr 0 0 0)], [⟨2, false, .mix (some 65) [[.l (.v (.l (.i .u8))), .l (.v (.i .i64))]]⟩], [], F23 K⟩
theorem c23 (K : Nat) : CtOk prog 23 (ct23 K) :=
  con_mk (Y := Y) (L := []) (K := K) (an := (.seq .no .no)) func23 mixed ctabOk_nil (by kernel_rfl) fun x => by kernel_rfl
-- (*loop.example/g00460/spec.l1Rd).next
def F60 (K : Nat) (x : (List Int) × Int) : Option (Int × (List Int) × Int) :=
  branch (decide ((x.1.length : Int) ≤ x.2))
   (some (0, x))
   (nth x.1 (w64 ((w64 (x.2 + 1)) - 1)) fun v0 =>
   some (w64 v0, x.1, w64 (x.2 + 1)))
def ct60 (K : Nat) : Ct := ⟨[.l (.ptr 0 0 0)], [⟨2, false, .mix (some 65) [[.l (.v (.l (.i .u8))), .l (.v (.i .i64))]]⟩], [.l (.v (.i .i64))], [⟨2, false, .mix (some 65) [[.l (.v (.l (.i .u8))), .l (.v (.i .i64))]]⟩], [], F60 K⟩
theorem c60 (K : Nat) : CtOk prog 60 (ct60 K) :=
  con_mk (Y := Y) (L := []) (K := K) (an := (.seq .no (.seq (.seq .no (.cond .no .no)) (.seq .no .no)))) func60 mixed ctabOk_nil (by kernel_rfl) fun x => by kernel_rfl
-- (*loop.example/g00460/spec.l1Rd).below
def F43 (K : Nat) (x : Int × (List Int) × Int) : Option (Int × (List Int) × Int) :=
  branch (decide (x.1 ≤ 1))
   (some (0, x.2))
   (branch (decide (x.1 ≤ 256))
    (bindO (F60 K x.2) fun v0 =>
    guard (!(decide (x.1 = 0))) <|
    some (Int.tmod v0.1 x.1, v0.2))
    (bindO (F60 K x.2) fun v1 =>
    bindO (F60 K v1.2) fun v2 =>
    guard (!(decide (x.1 = 0))) <|
    some (Int.tmod (w64 ((w64 (v1.1 * 256)) + v2.1)) x.1, v2.2)))
def ct43 (K : Nat) : Ct := ⟨[.l (.ptr 0 0 0), .l (.v (.i .i64))], [⟨2, false, .mix (some 65) [[.l (.v (.l (.i .u8))), .l (.v (.i .i64))]]⟩], [.l (.v (.i .i64))], [⟨2, false, .mix (some 65) [[.l (.v (.l (.i .u8))), .l (.v (.i .i64))]]⟩], [], F43 K⟩
theorem c43 (K : Nat) : CtOk prog 43 (ct43 K) :=
  con_mk (Y := Y) (L := [(60, ct60 K)]) (K := K) (an := (.seq .no (.seq (.seq .no (.cond .no .no)) (.seq (.seq .no (.cond .no .no)) (.seq .no (.seq .no .no)))))) func43 mixed (ctabOk_cons (c60 K) ctabOk_nil) (by kernel_rfl) fun x => by kernel_rfl
-- (*loop.example/g00460/spec.l1Rd).name
def F42 (K : Nat) (x : (List Int) × Int) : Option ((List UInt8) × (List Int) × Int) :=
  bindO (F43 K (4, x)) fun v0 =>
  guard (decide (0 ≤ v0.1 ∧ v0.1 < (4 : Int))) <|
  nthN [([97, 49] : List UInt8), ([108, 111, 111, 112] : List UInt8), ([120, 46, 121] : List UInt8), ([101, 110, 100, 95] : List UInt8)] v0.1.toNat fun v1 =>
  some (v1, v0.2)
def ct42 (K : Nat) : Ct := ⟨[.l (.ptr 0 0 0)], [⟨2, false, .mix (some 65) [[.l (.v (.l (.i .u8))), .l (.v (.i .i64))]]⟩], [.l (.v .s)], [⟨2, false, .mix (some 65) [[.l (.v (.l (.i .u8))), .l (.v (.i .i64))]]⟩], [], F42 K⟩
theorem c42 (K : Nat) : CtOk prog 42 (ct42 K) :=
  con_mk (Y := Y) (L := [(43, ct43 K)]) (K := K) (an := (.seq .no .no)) func42 mixed (ctabOk_cons (c43 K) ctabOk_nil) (by kernel_rfl) fun x => by kernel_rfl
-- (*loop.example/g00460/spec.l1Rd).once
def F25 (K : Nat) (x : Int × (List Int) × Int) : Option (Bool × (List Int) × Int) :=
  bindO (F43 K x) fun v0 =>
  some (decide (v0.1 = (w64 (x.1 - 1))), v0.2)
def ct25 (K : Nat) : Ct := ⟨[.l (.ptr 0 0 0), .l (.v (.i .i64))], [⟨2, false, .mix (some 65) [[.l (.v (.l (.i .u8))), .l (.v (.i .i64))]]⟩], [.l (.v .b)], [⟨2, false, .mix (some 65) [[.l (.v (.l (.i .u8))), .l (.v (.i .i64))]]⟩], [], F25 K⟩
theorem c25 (K : Nat) : CtOk prog 25 (ct25 K) :=
  con_mk (Y := Y) (L := [(43, ct43 K)]) (K := K) (an := (.seq .no .no)) func25 mixed (ctabOk_cons (c43 K) ctabOk_nil) (by kernel_rfl) fun x => by kernel_rfl
-- (*loop.example/g00460/spec.l1Rd).hurt
def F26 (K : Nat) (x : (List UInt8) × (List Int) × Int) : Option ((List UInt8) × (List Int) × Int) :=
  bindO (F43 K (6, x.2)) fun v0 =>
  branch (decide (v0.1 = 1))
   (bindO (F43 K (w64 ((x.1.length : Int) + 1), v0.2)) fun v1 =>
   guard (decide (0 ≤ v1.1 ∧ v1.1 ≤ (x.1.length : Int))) <|
   some (tkL x.1 v1.1, v1.2))
   (branch (decide (v0.1 = 2))
    (branch (decide (0 < (x.1.length : Int)))
     (bindO (F43 K ((x.1.length : Int), v0.2)) fun v2 =>
     guard (decide (0 ≤ v2.1 ∧ v2.1 ≤ (x.1.length : Int))) <|
     bindO (F43 K (6, v2.2)) fun v3 =>
     nth [([48] : List UInt8), ([97] : List UInt8), ([32] : List UInt8), ([44] : List UInt8), ([36] : List UInt8), ([43] : List UInt8)] v3.1 fun v4 =>
     guard (decide ((((tkL x.1 v2.1).length) + v4.length) ≤ 9223372036854775807)) <|
     guard (decide (0 ≤ (w64 (v2.1 + 1)) ∧ (w64 (v2.1 + 1)) ≤ (x.1.length : Int))) <|
     guard (decide (((((tkL x.1 v2.1) ++ v4).length) + ((dpL x.1 (w64 (v2.1 + 1))).length)) ≤ 9223372036854775807)) <|
     some (((tkL x.1 v2.1) ++ v4) ++ (dpL x.1 (w64 (v2.1 + 1))), v3.2))
     (some (x.1, v0.2)))
    (branch (decide (v0.1 = 3))
     (bindO (F43 K (3, v0.2)) fun v5 =>
     guard (decide (0 ≤ v5.1 ∧ v5.1 < (3 : Int))) <|
     nthN [([32] : List UInt8), ([48] : List UInt8), ([120] : List UInt8)] v5.1.toNat fun v6 =>
     guard (decide ((x.1.length + v6.length) ≤ 9223372036854775807)) <|
     some (x.1 ++ v6, v5.2))
     (some (x.1, v0.2))))
def ct26 (K : Nat) : Ct := ⟨[.l (.ptr 0 0 0), .l (.v .s)], [⟨2, false, .mix (some 65) [[.l (.v (.l (.i .u8))), .l (.v (.i .i64))]]⟩], [.l (.v .s)], [⟨2, false, .mix (some 65) [[.l (.v (.l (.i .u8))), .l (.v (.i .i64))]]⟩], [], F26 K⟩
theorem c26 (K : Nat) : CtOk prog 26 (ct26 K) :=
  con_mk (Y := Y) (L := [(43, ct43 K)]) (K := K) (an := (.seq .no (.seq (.seq .no (.blk (.seq .no (.cond .no (.seq .no (.cond (.seq .no (.cond (.seq .no (.seq (.reg [3] []) .no)) .no)) (.seq .no (.cond .no .no)))))))) .no))) func26 mixed (ctabOk_cons (c43 K) ctabOk_nil) (by kernel_rfl) fun x => by kernel_rfl
-- loop.example/g00460/laws.sameExpr
def F13_b0 (K : Nat) (x : (List (Int × Int × List UInt8)) × (List (Int × Int × List UInt8)) × Int) : Option (((List (Int × Int × List UInt8)) × (List (Int × Int × List UInt8)) × Int) ⊕ (Bool ⊕ Unit)) :=
  branch (decide (x.2.2 < (x.1.length : Int)))
   (nth x.1 x.2.2 fun v0 =>
   nth x.2.1 x.2.2 fun v1 =>
   branch (!((decide (v0.1 = v1.1)) && ((decide (v0.2.1 = v1.2.1)) && (decide (v0.2.2 = v1.2.2)))))
    (some (.inr (.inl false)))
    (some (.inl (x.1, x.2.1, w64 (x.2.2 + 1)))))
   (some (.inr (.inr ())))
def F13 (K : Nat) (x : (List (Int × Int × List UInt8)) × List (Int × Int × List UInt8)) : Option (Bool) :=
  branch (!(decide ((x.1.length : Int) = (x.2.length : Int))))
   (some false)
   (bindO (iter K (F13_b0 K) (x.1, x.2, 0)) fun v0 =>
   csO v0
    (fun v1 => some v1)
    (fun v2 => some true))
def ct13 (K : Nat) : Ct := ⟨[.l (.v (.l (.c (.i .i64) (.c (.i .i64) .s)))), .l (.v (.l (.c (.i .i64) (.c (.i .i64) .s))))], [], [.l (.v .b)], [], [], F13 K⟩
theorem c13 (K : Nat) : CtOk prog 13 (ct13 K) :=
  con_mk (Y := Y) (L := []) (K := K) (an := (.seq .no (.seq (.seq .no (.cond .no .no)) (.seq (.seq .no (.blk (.loop [] ⟨(.l (.v (.l (.c (.i .i64) (.c (.i .i64) .s)))) :: .l (.v (.l (.c (.i .i64) (.c (.i .i64) .s)))) :: ru 3 (.l (.v (.i .i64)) :: ru 20 [])), []⟩ [(0, ⟨(ru 26 []), []⟩)] true (.seq (.seq .no .no) (.seq (.blk (.seq .no (.cond .no .no))) .no))))) .no)))) func13 mixed ctabOk_nil (by kernel_rfl) fun x => by kernel_rfl
-- loop.example/g00460/impl.isWord
def F44 (K : Nat) (x : Int) : Option (Bool) :=
  bindO (F46 K (x, 0, 65535)) fun v0 =>
  some v0
def ct44 (K : Nat) : Ct := ⟨[.l (.v (.i .i64))], [], [.l (.v .b)], [], [], F44 K⟩
theorem c44 (K : Nat) : CtOk prog 44 (ct44 K) :=
  con_mk (Y := Y) (L := [(46, ct46 K)]) (K := K) (an := (.seq .no .no)) func44 mixed (ctabOk_cons (c46 K) ctabOk_nil) (by kernel_rfl) fun x => by kernel_rfl
-- loop.example/g00460/impl.isNode
def F27 (K : Nat) (x : Int × Int × List UInt8) : Option (Bool) :=
  bindO (α := Bool ⊕ (Int × Int × List UInt8)) (branch (decide (x.1 = 1))
     (bindO (F44 K x.2.1) fun v0 =>
     branch v0
      (some (.inl (decide (x.2.2 = []))))
      (some (.inl false)))
     (bindO (α := Bool × Int × Int × List UInt8) (branch (decide (x.1 = 2))
        (some (true, x))
        (some (decide (x.1 = 3), x))) fun v1 =>
     branch v1.1
      (branch (decide (v1.2.2.1 = 0))
       (bindO (F45 K v1.2.2.2) fun v2 =>
       some (.inl v2))
       (some (.inl false)))
      (some (.inr v1.2)))) fun v3 =>
  csO v3
   (fun v4 => some v4)
   (fun v5 => bindO (F46 K (v5.1, 4, 17)) fun v6 =>
   branch v6
    (branch (decide (v5.2.1 = 0))
     (some (decide (v5.2.2 = [])))
     (some false))
    (some false))
def ct27 (K : Nat) : Ct := ⟨[.agg [(.v (.i .i64)), (.v (.i .i64)), (.v .s)]], [], [.l (.v .b)], [], [], F27 K⟩
theorem c27 (K : Nat) : CtOk prog 27 (ct27 K) :=
  con_mk (Y := Y) (L := [(46, ct46 K), (45, ct45 K), (44, ct44 K)]) (K := K) (an := (.seq .no (.seqJ [(1000000, ⟨(ru 1 (.l (.ptr 2000 0 0) :: ru 43 [])), [(2000, ⟨3, false, .mix (some 33) [[.l (.v (.i .i64)), .l (.v (.i .i64)), .l (.v .s)]]⟩)]⟩)] true (.blk (.seq .no (.cond .no (.seqJ [(1000000, ⟨(ru 1 (.l (.ptr 2000 0 0) :: ru 13 (.l (.v .b) :: ru 29 []))), [(2000, ⟨3, false, .mix (some 33) [[.l (.v (.i .i64)), .l (.v (.i .i64)), .l (.v .s)]]⟩)]⟩)] false .no (.cond .no .no))))) .no))) func27 mixed (ctabOk_cons (c46 K) (ctabOk_cons (c45 K) (ctabOk_cons (c44 K) ctabOk_nil))) (by kernel_rfl) fun x => by kernel_rfl
-- loop.example/g00460/impl.ExprOk
def F14_b0 (K : Nat) (x : Int × (List (Int × Int × List UInt8)) × Int × Int) : Option ((Int × (List (Int × Int × List UInt8)) × Int × Int) ⊕ (Bool ⊕ Int)) :=
  branch (decide (x.2.2.2 < x.2.2.1))
   (nth x.2.1 x.2.2.2 fun v0 =>
   bindO (F27 K v0) fun v1 =>
   branch (!v1)
    (some (.inr (.inl false)))
    (branch (decide (v0.1 ≤ 3))
     (some (.inl (w64 (x.1 + 1), x.2.1, x.2.2.1, w64 (x.2.2.2 + 1))))
     (branch (decide (v0.1 ≤ 7))
      (branch (decide (x.1 < 1))
       (some (.inr (.inl false)))
       (some (.inl (x.1, x.2.1, x.2.2.1, w64 (x.2.2.2 + 1)))))
      (branch (decide (x.1 < 2))
       (some (.inr (.inl false)))
       (some (.inl (w64 (x.1 - 1), x.2.1, x.2.2.1, w64 (x.2.2.2 + 1))))))))
   (some (.inr (.inr x.1)))
def F14 (K : Nat) (x : List (Int × Int × List UInt8)) : Option (Bool) :=
  branch (decide (30 < (x.length : Int)))
   (some false)
   (bindO (iter K (F14_b0 K) (0, x, (x.length : Int), 0)) fun v0 =>
   csO v0
    (fun v1 => some v1)
    (fun v2 => some (decide (v2 = 1))))
def ct14 (K : Nat) : Ct := ⟨[.l (.v (.l (.c (.i .i64) (.c (.i .i64) .s))))], [], [.l (.v .b)], [], [], F14 K⟩
theorem c14 (K : Nat) : CtOk prog 14 (ct14 K) :=
  con_mk (Y := Y) (L := [(27, ct27 K)]) (K := K) (an := (.seq .no (.seq (.seq .no (.cond .no .no)) (.seq .no (.seq (.seq .no (.blk (.loop [] ⟨(ru 3 (.l (.v (.i .i64)) :: ru 5 (.l (.v (.l (.c (.i .i64) (.c (.i .i64) .s)))) :: .l (.v (.i .i64)) :: .l (.v (.i .i64)) :: ru 25 []))), []⟩ [(0, ⟨(ru 3 (.l (.v (.i .i64)) :: ru 33 [])), []⟩)] true (.seq .no (.seq .no (.seq (.blk (.seq .no (.seq (.seq .no (.cond .no .no)) (.blk (.seq .no (.cond .no (.seq .no (.cond (.seq .no (.cond .no .no)) (.seq (.seq .no (.cond .no .no)) .no))))))))) .no)))))) .no))))) func14 mixed (ctabOk_cons (c27 K) ctabOk_nil) (by kernel_rfl) fun x => by kernel_rfl
-- loop.example/g00460/laws.dec
def F16_b0 (K : Nat) (x : Int × List UInt8) : Option ((Int × List UInt8) ⊕ (Int × List UInt8)) :=
  branch (decide (10 ≤ x.1))
   (guard (decide ((((toB [w8 (w64 (48 + (Int.tmod x.1 10)))]).length) + x.2.length) ≤ 9223372036854775807)) <|
   some (.inl (w64 (Int.tdiv x.1 10), (toB [w8 (w64 (48 + (Int.tmod x.1 10)))]) ++ x.2)))
   (some (.inr x))
def F16 (K : Nat) (x : Int) : Option (List UInt8) :=
  bindO (iter K (F16_b0 K) (x, [])) fun v0 =>
  guard (decide ((((toB [w8 (w64 (48 + v0.1))]).length) + v0.2.length) ≤ 9223372036854775807)) <|
  some ((toB [w8 (w64 (48 + v0.1))]) ++ v0.2)
def ct16 (K : Nat) : Ct := ⟨[.l (.v (.i .i64))], [], [.l (.v .s)], [], [], F16 K⟩
theorem c16 (K : Nat) : CtOk prog 16 (ct16 K) :=
  con_mk (Y := Y) (L := []) (K := K) (an := (.seq .no (.seq .no (.seq (.blk (.loop [] ⟨(.l (.v (.i .i64)) :: ru 2 (.l (.v .s) :: ru 19 [])), []⟩ [(0, ⟨(.l (.v (.i .i64)) :: ru 2 (.l (.v .s) :: ru 19 [])), []⟩)] false (.seq (.seq .no .no) (.blk .no)))) .no)))) func16 mixed ctabOk_nil (by kernel_rfl) fun x => by kernel_rfl
-- loop.example/g00460/impl.signed
def F65 (K : Nat) (x : Int × Int) : Option (Int) :=
  branch (decide (x.1 = 4))
   (some (w32 (0 - x.2)))
   (branch (decide (x.1 = 5))
    (some (Go.bits Go.BinOp.xor Go.IntKind.i32 (-1) x.2))
    (branch (decide (x.1 = 6))
     (some (Go.bits Go.BinOp.and Go.IntKind.i32 (shrI Go.IntKind.i32 x.2 8) 255))
     (some (Go.bits Go.BinOp.and Go.IntKind.i32 x.2 255))))
def ct65 (K : Nat) : Ct := ⟨[.l (.v (.i .i64)), .l (.v (.i .i32))], [], [.l (.v (.i .i32))], [], [], F65 K⟩
theorem c65 (K : Nat) : CtOk prog 65 (ct65 K) :=
  con_mk (Y := Y) (L := []) (K := K) (an := (.seq .no (.seq (.seq .no (.blk (.seq .no (.cond .no (.seq .no (.cond .no (.seq .no (.cond .no .no)))))))) .no))) func65 mixed ctabOk_nil (by kernel_rfl) fun x => by kernel_rfl
-- loop.example/g00460/impl.operated
def F66 (K : Nat) (x : Int × Int × Int) : Option (Int × Bool) :=
  branch (decide (x.1 = 8))
   (some (w32 (x.2.1 + x.2.2), true))
   (branch (decide (x.1 = 9))
    (some (w32 (x.2.1 - x.2.2), true))
    (branch (decide (x.1 = 10))
     (some (w32 (x.2.1 * x.2.2), true))
     (branch (decide (x.1 = 11))
      (branch (decide (x.2.2 = 0))
       (some (0, false))
       (guard (!(decide (x.2.2 = 0))) <|
       some (w32 (Int.tdiv x.2.1 x.2.2), true)))
      (branch (decide (x.1 = 12))
       (branch (decide (x.2.2 = 0))
        (some (0, false))
        (guard (!(decide (x.2.2 = 0))) <|
        some (Int.tmod x.2.1 x.2.2, true)))
       (branch (decide (x.1 = 13))
        (some (Go.bits Go.BinOp.and Go.IntKind.i32 x.2.1 x.2.2, true))
        (branch (decide (x.1 = 14))
         (some (Go.bits Go.BinOp.xor Go.IntKind.i32 x.2.1 x.2.2, true))
         (branch (decide (x.1 = 15))
          (some (Go.bits Go.BinOp.or Go.IntKind.i32 x.2.1 x.2.2, true))
          (branch (decide (x.1 = 16))
           (some (shlI Go.IntKind.i32 x.2.1 (Go.bits Go.BinOp.and Go.IntKind.u32 (Go.IntKind.wrap .u32 x.2.2) 31), true))
           (some (shrI Go.IntKind.i32 x.2.1 (Go.bits Go.BinOp.and Go.IntKind.u32 (Go.IntKind.wrap .u32 x.2.2) 31), true))))))))))
def ct66 (K : Nat) : Ct := ⟨[.l (.v (.i .i64)), .l (.v (.i .i32)), .l (.v (.i .i32))], [], [.l (.v (.i .i32)), .l (.v .b)], [], [], F66 K⟩
theorem c66 (K : Nat) : CtOk prog 66 (ct66 K) :=
  con_mk (Y := Y) (L := []) (K := K) (an := (.seq .no (.seq (.seq .no (.blk (.seq .no (.cond .no (.seq .no (.cond .no (.seq .no (.cond .no (.seq .no (.cond (.seq (.seq .no (.cond .no .no)) .no) (.seq .no (.cond (.seq (.seq .no (.cond .no .no)) .no) (.seq .no (.cond .no (.seq .no (.cond .no (.seq .no (.cond .no (.seq .no (.cond .no .no)))))))))))))))))))) .no))) func66 mixed ctabOk_nil (by kernel_rfl) fun x => by kernel_rfl
-- loop.example/g00460/spec.l2Sym
def F48_b0 (K : Nat) (x : (List ((List UInt8) × Int × Int)) × (List UInt8) × Int) : Option (((List ((List UInt8) × Int × Int)) × (List UInt8) × Int) ⊕ (Int ⊕ Unit)) :=
  branch (decide (x.2.2 < (x.1.length : Int)))
   (nth x.1 x.2.2 fun v0 =>
   branch (decide (v0.1 = x.2.1))
    (some (.inr (.inl x.2.2)))
    (some (.inl (x.1, x.2.1, w64 (x.2.2 + 1)))))
   (some (.inr (.inr ())))
def F48 (K : Nat) (x : (List ((List UInt8) × Int × Int)) × List UInt8) : Option (Int) :=
  bindO (iter K (F48_b0 K) (x.1, x.2, 0)) fun v0 =>
  csO v0
   (fun v1 => some v1)
   (fun v2 => some (-1))
def ct48 (K : Nat) : Ct := ⟨[.l (.v (.l (.c .s (.c (.i .i64) (.i .i64))))), .l (.v .s)], [], [.l (.v (.i .i64))], [], [], F48 K⟩
theorem c48 (K : Nat) : CtOk prog 48 (ct48 K) :=
  con_mk (Y := Y) (L := []) (K := K) (an := (.seq .no (.seq (.seq .no (.blk (.loop [] ⟨(.l (.v (.l (.c .s (.c (.i .i64) (.i .i64))))) :: .l (.v .s) :: ru 3 (.l (.v (.i .i64)) :: ru 14 [])), []⟩ [(0, ⟨(ru 20 []), []⟩)] true (.seq (.seq .no .no) (.seq (.blk (.seq .no (.cond .no .no))) .no))))) .no))) func48 mixed ctabOk_nil (by kernel_rfl) fun x => by kernel_rfl
-- loop.example/g00460/spec.l2Wrap
def F49 (K : Nat) (x : Int) : Option (Int) :=
  some (w64 (w32 x))
def ct49 (K : Nat) : Ct := ⟨[.l (.v (.i .i64))], [], [.l (.v (.i .i64))], [], [], F49 K⟩
theorem c49 (K : Nat) : CtOk prog 49 (ct49 K) :=
  con_mk (Y := Y) (L := []) (K := K) (an := (.seq .no .no)) func49 mixed ctabOk_nil (by kernel_rfl) fun x => by kernel_rfl
-- loop.example/g00460/spec.l2Two
def F50 (K : Nat) (x : Int × Int × Int) : Option (Int × Bool) :=
  branch (decide (x.1 = 8))
   (bindO (F49 K (w64 (x.2.1 + x.2.2))) fun v0 =>
   some (v0, true))
   (branch (decide (x.1 = 9))
    (bindO (F49 K (w64 (x.2.1 - x.2.2))) fun v1 =>
    some (v1, true))
    (branch (decide (x.1 = 10))
     (bindO (F49 K (w64 (x.2.1 * x.2.2))) fun v2 =>
     some (v2, true))
     (branch (decide (x.1 = 11))
      (branch (decide (x.2.2 = 0))
       (some (0, false))
       (guard (!(decide (x.2.2 = 0))) <|
       bindO (F49 K (w64 (Int.tdiv x.2.1 x.2.2))) fun v3 =>
       some (v3, true)))
      (branch (decide (x.1 = 12))
       (branch (decide (x.2.2 = 0))
        (some (0, false))
        (guard (!(decide (x.2.2 = 0))) <|
        bindO (F49 K (Int.tmod x.2.1 x.2.2)) fun v4 =>
        some (v4, true)))
       (branch (decide (x.1 = 13))
        (some (Go.bits Go.BinOp.and Go.IntKind.i64 x.2.1 x.2.2, true))
        (branch (decide (x.1 = 14))
         (some (Go.bits Go.BinOp.xor Go.IntKind.i64 x.2.1 x.2.2, true))
         (branch (decide (x.1 = 15))
          (some (Go.bits Go.BinOp.or Go.IntKind.i64 x.2.1 x.2.2, true))
          (branch (decide (x.1 = 16))
           (guard (decide (0 ≤ (w64u (Go.bits Go.BinOp.and Go.IntKind.i64 x.2.2 31)))) <|
           bindO (F49 K (shlI Go.IntKind.i64 x.2.1 (w64u (Go.bits Go.BinOp.and Go.IntKind.i64 x.2.2 31)))) fun v5 =>
           some (v5, true))
           (guard (decide (0 ≤ (w64u (Go.bits Go.BinOp.and Go.IntKind.i64 x.2.2 31)))) <|
           some (shrI Go.IntKind.i64 x.2.1 (w64u (Go.bits Go.BinOp.and Go.IntKind.i64 x.2.2 31)), true))))))))))
def ct50 (K : Nat) : Ct := ⟨[.l (.v (.i .i64)), .l (.v (.i .i64)), .l (.v (.i .i64))], [], [.l (.v (.i .i64)), .l (.v .b)], [], [], F50 K⟩
theorem c50 (K : Nat) : CtOk prog 50 (ct50 K) :=
  con_mk (Y := Y) (L := [(49, ct49 K)]) (K := K) (an := (.seq .no (.seq (.seq .no (.blk (.seq .no (.cond .no (.seq .no (.cond .no (.seq .no (.cond .no (.seq .no (.cond (.seq (.seq .no (.cond .no .no)) .no) (.seq .no (.cond (.seq (.seq .no (.cond .no .no)) .no) (.seq .no (.cond .no (.seq .no (.cond .no (.seq .no (.cond .no (.seq .no (.cond .no .no)))))))))))))))))))) .no))) func50 mixed (ctabOk_cons (c49 K) ctabOk_nil) (by kernel_rfl) fun x => by kernel_rfl
-- loop.example/g00460/spec.l2Eval
def F29_b0 (K : Nat) (x : (List (Int × Int × List UInt8)) × (List ((List UInt8) × Int × Int)) × Int × List Int) : Option (((List (Int × Int × List UInt8)) × (List ((List UInt8) × Int × Int)) × Int × List Int) ⊕ ((Int × Int) ⊕ (List Int))) :=
  branch (decide (x.2.2.1 < (x.1.length : Int)))
   (bindO (α := (Int × Int) ⊕ (((List (Int × Int × List UInt8)) × (List ((List UInt8) × Int × Int)) × Int × Int × List Int) ⊕ ((List (Int × Int × List UInt8)) × (List ((List UInt8) × Int × Int)) × Int × List Int))) (nth x.1 x.2.2.1 fun v0 =>
     branch (decide (v0.1 = 1))
      (nth x.1 x.2.2.1 fun v1 =>
      guard (fitN (x.2.2.2.length + [v1.2.1].length) 8) <|
      some (.inr (.inr (x.1, x.2.1, x.2.2.1, x.2.2.2 ++ [v1.2.1]))))
      (bindO (α := (List (Int × Int × List UInt8)) × (List ((List UInt8) × Int × Int)) × Int × Int × Int × Bool × List Int) (branch (decide (v0.1 = 2))
         (some (x.1, x.2.1, x.2.2.1, (x.2.2.2.length : Int), v0.1, true, x.2.2.2))
         (some (x.1, x.2.1, x.2.2.1, (x.2.2.2.length : Int), v0.1, decide (v0.1 = 3), x.2.2.2))) fun v2 =>
      branch v2.2.2.2.2.2.1
       (nth v2.1 v2.2.2.1 fun v3 =>
       bindO (F48 K (v2.2.1, v3.2.2)) fun v4 =>
       branch (decide (v4 < 0))
        (some (.inl (0, 2)))
        (nth v2.2.1 v4 fun v5 =>
        bindO (α := (List (Int × Int × List UInt8)) × (List ((List UInt8) × Int × Int)) × Int × Int × List Int) (nth v2.1 v2.2.2.1 fun v6 =>
          branch (decide (v6.1 = 3))
           (nth v2.2.1 v4 fun v7 =>
           some (v2.1, v2.2.1, v2.2.2.1, v7.2.1, v2.2.2.2.2.2.2))
           (some (v2.1, v2.2.1, v2.2.2.1, v5.2.2, v2.2.2.2.2.2.2))) fun v8 =>
        bindO (F49 K v8.2.2.2.1) fun v9 =>
        guard (fitN (v8.2.2.2.2.length + [v9].length) 8) <|
        some (.inr (.inr (v8.1, v8.2.1, v8.2.2.1, v8.2.2.2.2 ++ [v9])))))
       (branch (decide (v2.2.2.2.2.1 = 4))
        (guard (decide (0 ≤ (w64 (v2.2.2.2.1 - 1)) ∧ (w64 (v2.2.2.2.1 - 1)) < (v2.2.2.2.2.2.2.length : Int))) <|
        nthN v2.2.2.2.2.2.2 ((w64 (v2.2.2.2.1 - 1)).toNat) fun v10 =>
        bindO (F49 K (w64 (0 - v10))) fun v11 =>
        guard (decide (0 ≤ (w64 (v2.2.2.2.1 - 1)) ∧ (w64 (v2.2.2.2.1 - 1)) < (v2.2.2.2.2.2.2.length : Int))) <|
        nthN v2.2.2.2.2.2.2 ((w64 (v2.2.2.2.1 - 1)).toNat) fun v12 =>
        some (.inr (.inr (v2.1, v2.2.1, v2.2.2.1, List.set v2.2.2.2.2.2.2 ((w64 (v2.2.2.2.1 - 1)).toNat) v11))))
        (branch (decide (v2.2.2.2.2.1 = 5))
         (guard (decide (0 ≤ (w64 (v2.2.2.2.1 - 1)) ∧ (w64 (v2.2.2.2.1 - 1)) < (v2.2.2.2.2.2.2.length : Int))) <|
         nthN v2.2.2.2.2.2.2 ((w64 (v2.2.2.2.1 - 1)).toNat) fun v13 =>
         guard (decide (0 ≤ (w64 (v2.2.2.2.1 - 1)) ∧ (w64 (v2.2.2.2.1 - 1)) < (v2.2.2.2.2.2.2.length : Int))) <|
         nthN v2.2.2.2.2.2.2 ((w64 (v2.2.2.2.1 - 1)).toNat) fun v14 =>
         some (.inr (.inr (v2.1, v2.2.1, v2.2.2.1, List.set v2.2.2.2.2.2.2 ((w64 (v2.2.2.2.1 - 1)).toNat) (Go.bits Go.BinOp.xor Go.IntKind.i64 (-1) v13)))))
         (branch (decide (v2.2.2.2.2.1 = 6))
          (guard (decide (0 ≤ (w64 (v2.2.2.2.1 - 1)) ∧ (w64 (v2.2.2.2.1 - 1)) < (v2.2.2.2.2.2.2.length : Int))) <|
          nthN v2.2.2.2.2.2.2 ((w64 (v2.2.2.2.1 - 1)).toNat) fun v15 =>
          guard (decide (0 ≤ (w64 (v2.2.2.2.1 - 1)) ∧ (w64 (v2.2.2.2.1 - 1)) < (v2.2.2.2.2.2.2.length : Int))) <|
          nthN v2.2.2.2.2.2.2 ((w64 (v2.2.2.2.1 - 1)).toNat) fun v16 =>
          some (.inr (.inr (v2.1, v2.2.1, v2.2.2.1, List.set v2.2.2.2.2.2.2 ((w64 (v2.2.2.2.1 - 1)).toNat) (Go.bits Go.BinOp.and Go.IntKind.i64 (shrI Go.IntKind.i64 v15 8) 255)))))
          (branch (decide (v2.2.2.2.2.1 = 7))
           (guard (decide (0 ≤ (w64 (v2.2.2.2.1 - 1)) ∧ (w64 (v2.2.2.2.1 - 1)) < (v2.2.2.2.2.2.2.length : Int))) <|
           nthN v2.2.2.2.2.2.2 ((w64 (v2.2.2.2.1 - 1)).toNat) fun v17 =>
           guard (decide (0 ≤ (w64 (v2.2.2.2.1 - 1)) ∧ (w64 (v2.2.2.2.1 - 1)) < (v2.2.2.2.2.2.2.length : Int))) <|
           nthN v2.2.2.2.2.2.2 ((w64 (v2.2.2.2.1 - 1)).toNat) fun v18 =>
           some (.inr (.inr (v2.1, v2.2.1, v2.2.2.1, List.set v2.2.2.2.2.2.2 ((w64 (v2.2.2.2.1 - 1)).toNat) (Go.bits Go.BinOp.and Go.IntKind.i64 v17 255)))))
           (some (.inr (.inl (v2.1, v2.2.1, v2.2.2.1, v2.2.2.2.1, v2.2.2.2.2.2.2)))))))))) fun v19 =>
   csO v19
    (fun v20 => some (.inr (.inl v20)))
    (fun v21 => csO v21
     (fun v22 => nth v22.1 v22.2.2.1 fun v24 =>
     guard (decide (0 ≤ (w64 (v22.2.2.2.1 - 2)) ∧ (w64 (v22.2.2.2.1 - 2)) < (v22.2.2.2.2.length : Int))) <|
     nthN v22.2.2.2.2 ((w64 (v22.2.2.2.1 - 2)).toNat) fun v25 =>
     guard (decide (0 ≤ (w64 (v22.2.2.2.1 - 1)) ∧ (w64 (v22.2.2.2.1 - 1)) < (v22.2.2.2.2.length : Int))) <|
     nthN v22.2.2.2.2 ((w64 (v22.2.2.2.1 - 1)).toNat) fun v26 =>
     bindO (F50 K (v24.1, v25, v26)) fun v27 =>
     branch (!v27.2)
      (some (.inr (.inl (0, 3))))
      (guard (decide (0 ≤ (w64 (v22.2.2.2.1 - 2)) ∧ (w64 (v22.2.2.2.1 - 2)) ≤ (v22.2.2.2.2.length : Int))) <|
      guard ((decide ((0 + ((w64 (v22.2.2.2.1 - 2)).toNat)) ≤ v22.2.2.2.2.length)) && (fitN (((w64 (v22.2.2.2.1 - 2)).toNat) + [v27.1].length) 8)) <|
      some (.inl (v22.1, v22.2.1, w64 (v22.2.2.1 + 1), (List.take ((w64 (v22.2.2.2.1 - 2)).toNat) (List.drop 0 v22.2.2.2.2)) ++ [v27.1]))))
     (fun v23 => some (.inl (v23.1, v23.2.1, w64 (v23.2.2.1 + 1), v23.2.2.2)))))
   (some (.inr (.inr x.2.2.2)))
def F29 (K : Nat) (x : (List (Int × Int × List UInt8)) × List ((List UInt8) × Int × Int)) : Option (Int × Int) :=
  bindO (iter K (F29_b0 K) (x.1, x.2, 0, [])) fun v0 =>
  csO v0
   (fun v1 => some v1)
   (fun v2 => guard (decide ((0 : Int) ≤ 0 ∧ 0 < (v2.length : Int))) <|
   nthN v2 0 fun v3 =>
   some (v3, 0))
def ct29 (K : Nat) : Ct := ⟨[.l (.v (.l (.c (.i .i64) (.c (.i .i64) .s)))), .l (.v (.l (.c .s (.c (.i .i64) (.i .i64)))))], [], [.l (.v (.i .i64)), .l (.v (.i .i64))], [], [], F29 K⟩
theorem c29 (K : Nat) : CtOk prog 29 (ct29 K) :=
  con_mk (Y := Y) (L := [(48, ct48 K), (49, ct49 K), (50, ct50 K)]) (K := K) (an := (.seq .no (.seq .no (.seq (.seq .no (.blk (.loop [] ⟨(.l (.v (.l (.c (.i .i64) (.c (.i .i64) .s)))) :: .l (.v (.l (.c .s (.c (.i .i64) (.i .i64))))) :: ru 4 (.l (.all 14000) :: .l (.v (.i .i64)) :: ru 143 [])), [(14000, ⟨1, true, .row (.i .i64)⟩)]⟩ [(0, ⟨(ru 6 (.l (.all 14000) :: ru 144 [])), [(14000, ⟨1, true, .row (.i .i64)⟩)]⟩)] true (.seq (.seq .no .no) (.seq (.blk (.seq .no (.seqJ [(1000000, ⟨(.l (.v (.l (.c (.i .i64) (.c (.i .i64) .s)))) :: .l (.v (.l (.c .s (.c (.i .i64) (.i .i64))))) :: ru 4 (.l (.all 14000) :: .l (.v (.i .i64)) :: .l (.v (.i .i64)) :: ru 142 [])), [(14000, ⟨1, true, .row (.i .i64)⟩)]⟩), (1, ⟨(.l (.v (.l (.c (.i .i64) (.c (.i .i64) .s)))) :: .l (.v (.l (.c .s (.c (.i .i64) (.i .i64))))) :: ru 4 (.l (.all 14000) :: .l (.v (.i .i64)) :: ru 143 [])), [(14000, ⟨1, true, .row (.i .i64)⟩)]⟩)] true (.seq .no (.blk (.seq .no (.cond .no (.seqJ [(1000000, ⟨(.l (.v (.l (.c (.i .i64) (.c (.i .i64) .s)))) :: .l (.v (.l (.c .s (.c (.i .i64) (.i .i64))))) :: ru 4 (.l (.all 14000) :: .l (.v (.i .i64)) :: .l (.v (.i .i64)) :: ru 17 (.l (.v (.i .i64)) :: ru 10 (.l (.v .b) :: ru 113 [])))), [(14000, ⟨1, true, .row (.i .i64)⟩)]⟩)] false (.seq .no .no) (.cond (.seq .no (.seq (.seq .no (.cond .no .no)) (.seq .no (.seqJ [(1000000, ⟨(.l (.v (.l (.c (.i .i64) (.c (.i .i64) .s)))) :: .l (.v (.l (.c .s (.c (.i .i64) (.i .i64))))) :: ru 4 (.l (.all 14000) :: .l (.v (.i .i64)) :: ru 2 (.l (.v (.i .i64)) :: ru 140 []))), [(14000, ⟨1, true, .row (.i .i64)⟩)]⟩)] false (.seq .no .no) .no)))) (.seq .no (.cond .no (.seq .no (.cond .no (.seq .no (.cond .no (.seq .no (.cond .no .no)))))))))))))) (.seq .no (.seq (.seq .no (.cond .no .no)) .no))))) .no))))) .no)))) func29 mixed (ctabOk_cons (c48 K) (ctabOk_cons (c49 K) (ctabOk_cons (c50 K) ctabOk_nil))) (by kernel_rfl) fun x => by kernel_rfl
-- loop.example/g00460/spec.EvalExpr
def F17 (K : Nat) (x : (List (Int × Int × List UInt8)) × List ((List UInt8) × Int × Int)) : Option (Int × Int) :=
  bindO (α := (Int × Int) ⊕ ((List (Int × Int × List UInt8)) × List ((List UInt8) × Int × Int))) (bindO (α := (List (Int × Int × List UInt8)) × (List ((List UInt8) × Int × Int)) × Bool) (bindO (F19 K x.1) fun v0 =>
      branch (!v0)
       (some (x.1, x.2, true))
       (some (x.1, x.2, decide (200 < (x.2.length : Int))))) fun v1 =>
    branch v1.2.2
     (some (.inl (0, 1)))
     (some (.inr (v1.1, v1.2.1)))) fun v2 =>
  csO v2
   (fun v3 => some v3)
   (fun v4 => bindO (F29 K v4) fun v5 =>
   some v5)
def ct17 (K : Nat) : Ct := ⟨[.l (.v (.l (.c (.i .i64) (.c (.i .i64) .s)))), .l (.v (.l (.c .s (.c (.i .i64) (.i .i64)))))], [], [.l (.v (.i .i64)), .l (.v (.i .i64))], [], [], F17 K⟩
theorem c17 (K : Nat) : CtOk prog 17 (ct17 K) :=
  con_mk (Y := Y) (L := [(19, ct19 K), (29, ct29 K)]) (K := K) (an := (.seq .no (.seqJ [(1000000, ⟨(.l (.v (.l (.c (.i .i64) (.c (.i .i64) .s)))) :: .l (.v (.l (.c .s (.c (.i .i64) (.i .i64))))) :: ru 17 []), []⟩)] true (.seqJ [(1000000, ⟨(.l (.v (.l (.c (.i .i64) (.c (.i .i64) .s)))) :: .l (.v (.l (.c .s (.c (.i .i64) (.i .i64))))) :: ru 11 (.l (.v .b) :: ru 5 [])), []⟩)] false .no (.cond .no .no)) .no))) func17 mixed (ctabOk_cons (c19 K) (ctabOk_cons (c29 K) ctabOk_nil)) (by kernel_rfl) fun x => by kernel_rfl
-- (*loop.example/g00460/spec.l2P).is
def F51 (K : Nat) (x : (List UInt8) × (List UInt8) × Int × Bool × List (Int × Int × List UInt8)) : Option (Bool × (List UInt8) × Int × Bool × List (Int × Int × List UInt8)) :=
  bindO (α := (Bool × (List UInt8) × Int × Bool × List (Int × Int × List UInt8)) ⊕ ((List UInt8) × (List UInt8) × Int × Bool × List (Int × Int × List UInt8))) (bindO (α := (List UInt8) × Bool × (List UInt8) × Int × Bool × List (Int × Int × List UInt8)) (branch (decide ((w64 ((x.2.1.length : Int) - x.2.2.1)) < (x.1.length : Int)))
       (some (x.1, true, x.2))
       (guard (decide (0 ≤ x.2.2.1 ∧ x.2.2.1 ≤ (w64 (x.2.2.1 + (x.1.length : Int))) ∧ (w64 (x.2.2.1 + (x.1.length : Int))) ≤ (x.2.1.length : Int))) <|
       some (x.1, !(decide ((subL x.2.1 x.2.2.1 (w64 (x.2.2.1 + (x.1.length : Int)))) = x.1)), x.2))) fun v0 =>
    branch v0.2.1
     (some (.inl (false, v0.2.2)))
     (some (.inr (v0.1, v0.2.2)))) fun v1 =>
  csO v1
   (fun v2 => some v2)
   (fun v3 => some (true, v3.2.1, w64 (v3.2.2.1 + (v3.1.length : Int)), v3.2.2.2))
def ct51 (K : Nat) : Ct := ⟨[.l (.ptr 0 0 0), .l (.v .s)], [⟨4, false, .mix (some 41) [[.l (.v .s), .l (.v (.i .i64)), .l (.all 1), .l (.v .b)]]⟩, ⟨3, true, .row (.c (.i .i64) (.c (.i .i64) .s))⟩], [.l (.v .b)], [⟨4, false, .mix (some 41) [[.l (.v .s), .l (.v (.i .i64)), .l (.all 1), .l (.v .b)]]⟩, ⟨3, true, .row (.c (.i .i64) (.c (.i .i64) .s))⟩], [], F51 K⟩
theorem c51 (K : Nat) : CtOk prog 51 (ct51 K) :=
  con_mk (Y := Y) (L := []) (K := K) (an := (.seq .no (.seqJ [(1000000, ⟨(.l (.ptr 0 0 0) :: .l (.v .s) :: ru 46 []), [(0, ⟨4, false, .mix (some 41) [[.l (.v .s), .l (.v (.i .i64)), .l (.all 1), .l (.v .b)]]⟩), (1, ⟨3, true, .row (.c (.i .i64) (.c (.i .i64) .s))⟩)]⟩)] true (.seqJ [(1000000, ⟨(.l (.ptr 0 0 0) :: .l (.v .s) :: ru 35 (.l (.v .b) :: ru 10 [])), [(0, ⟨4, false, .mix (some 41) [[.l (.v .s), .l (.v (.i .i64)), .l (.all 1), .l (.v .b)]]⟩), (1, ⟨3, true, .row (.c (.i .i64) (.c (.i .i64) .s))⟩)]⟩)] false .no (.cond .no .no)) (.seq .no .no)))) func51 mixed ctabOk_nil (by kernel_rfl) fun x => by kernel_rfl
-- (*loop.example/g00460/spec.l2P).op
def F31_b0 (K : Nat) (x : (List (List UInt8)) × Int × (List UInt8) × Int × Bool × List (Int × Int × List UInt8)) : Option (((List (List UInt8)) × Int × (List UInt8) × Int × Bool × List (Int × Int × List UInt8)) ⊕ ((Int × (List UInt8) × Int × Bool × List (Int × Int × List UInt8)) ⊕ ((List UInt8) × Int × Bool × List (Int × Int × List UInt8)))) :=
  branch (decide (8 ≤ x.2.1))
   (nth x.1 x.2.1 fun v0 =>
   bindO (α := (List (List UInt8)) × Int × Bool × (List UInt8) × Int × Bool × List (Int × Int × List UInt8)) (branch (decide ((v0.length : Int) ≤ (w64 ((x.2.2.1.length : Int) - x.2.2.2.1))))
      (guard (decide (0 ≤ x.2.2.2.1 ∧ x.2.2.2.1 ≤ (w64 (x.2.2.2.1 + (v0.length : Int))) ∧ (w64 (x.2.2.2.1 + (v0.length : Int))) ≤ (x.2.2.1.length : Int))) <|
      nth x.1 x.2.1 fun v1 =>
      some (x.1, x.2.1, decide ((subL x.2.2.1 x.2.2.2.1 (w64 (x.2.2.2.1 + (v0.length : Int)))) = v1), x.2.2))
      (some (x.1, x.2.1, false, x.2.2))) fun v2 =>
   branch v2.2.2.1
    (some (.inr (.inl (v2.2.1, v2.2.2.2))))
    (some (.inl (v2.1, w64 (v2.2.1 - 1), v2.2.2.2))))
   (some (.inr (.inr x.2.2)))
def F31 (K : Nat) (x : (List UInt8) × Int × Bool × List (Int × Int × List UInt8)) : Option (Int × (List UInt8) × Int × Bool × List (Int × Int × List UInt8)) :=
  bindO (F33 K ()) fun v0 =>
  bindO (iter K (F31_b0 K) (v0, 17, x)) fun v1 =>
  csO v1
   (fun v2 => some v2)
   (fun v3 => some (0, v3))
def ct31 (K : Nat) : Ct := ⟨[.l (.ptr 0 0 0)], [⟨4, false, .mix (some 41) [[.l (.v .s), .l (.v (.i .i64)), .l (.all 1), .l (.v .b)]]⟩, ⟨3, true, .row (.c (.i .i64) (.c (.i .i64) .s))⟩], [.l (.v (.i .i64))], [⟨4, false, .mix (some 41) [[.l (.v .s), .l (.v (.i .i64)), .l (.all 1), .l (.v .b)]]⟩, ⟨3, true, .row (.c (.i .i64) (.c (.i .i64) .s))⟩], [], F31 K⟩
theorem c31 (K : Nat) : CtOk prog 31 (ct31 K) :=
  con_mk (Y := Y) (L := [(33, ct33 K)]) (K := K) (an := (.seq .no (.seq .no (.seq (.seq .no (.blk (.loop [] ⟨(.l (.ptr 0 0 0) :: ru 2 (.l (.v (.l .s)) :: .l (.v (.i .i64)) :: ru 46 [])), [(0, ⟨4, false, .mix (some 41) [[.l (.v .s), .l (.v (.i .i64)), .l (.all 1), .l (.v .b)]]⟩), (1, ⟨3, true, .row (.c (.i .i64) (.c (.i .i64) .s))⟩)]⟩ [(0, ⟨(ru 51 []), [(0, ⟨4, false, .mix (some 41) [[.l (.v .s), .l (.v (.i .i64)), .l (.all 1), .l (.v .b)]]⟩), (1, ⟨3, true, .row (.c (.i .i64) (.c (.i .i64) .s))⟩)]⟩)] true (.seq (.seq .no .no) (.seq (.blk (.seq .no (.seqJ [(1000000, ⟨(.l (.ptr 0 0 0) :: ru 2 (.l (.v (.l .s)) :: .l (.v (.i .i64)) :: ru 44 (.l (.v .b) :: ru 1 []))), [(0, ⟨4, false, .mix (some 41) [[.l (.v .s), .l (.v (.i .i64)), .l (.all 1), .l (.v .b)]]⟩), (1, ⟨3, true, .row (.c (.i .i64) (.c (.i .i64) .s))⟩)]⟩)] false .no (.cond .no .no)))) .no))))) .no)))) func31 mixed (ctabOk_cons (c33 K) ctabOk_nil) (by kernel_rfl) fun x => by kernel_rfl
-- (*loop.example/g00460/spec.l2P).put
def F34 (K : Nat) (x : Int × Int × (List UInt8) × (List UInt8) × Int × Bool × List (Int × Int × List UInt8)) : Option ((List UInt8) × Int × Bool × List (Int × Int × List UInt8)) :=
  branch (decide (30 ≤ (x.2.2.2.2.2.2.length : Int)))
   (some (x.2.2.2.1, x.2.2.2.2.1, true, x.2.2.2.2.2.2))
   (guard (fitN (x.2.2.2.2.2.2.length + ([(x.1, x.2.1, x.2.2.1)].length)) 32) <|
   some (x.2.2.2.1, x.2.2.2.2.1, x.2.2.2.2.2.1, x.2.2.2.2.2.2 ++ [(x.1, x.2.1, x.2.2.1)]))
def ct34 (K : Nat) : Ct := ⟨[.l (.ptr 0 0 0), .l (.v (.i .i64)), .l (.v (.i .i64)), .l (.v .s)], [⟨4, false, .mix (some 41) [[.l (.v .s), .l (.v (.i .i64)), .l (.all 1), .l (.v .b)]]⟩, ⟨3, true, .row (.c (.i .i64) (.c (.i .i64) .s))⟩], [], [⟨4, false, .mix (some 41) [[.l (.v .s), .l (.v (.i .i64)), .l (.all 1), .l (.v .b)]]⟩, ⟨3, true, .row (.c (.i .i64) (.c (.i .i64) .s))⟩], [], F34 K⟩
theorem c34 (K : Nat) : CtOk prog 34 (ct34 K) :=
  con_mk (Y := Y) (L := []) (K := K) (an := (.seq (.seq .no (.cond .no .no)) .no)) func34 mixed ctabOk_nil (by kernel_rfl) fun x => by kernel_rfl
-- (*loop.example/g00460/spec.l2P).word
def F52_b0 (K : Nat) (x : Int × (List UInt8) × Int × Bool × List (Int × Int × List UInt8)) : Option ((Int × (List UInt8) × Int × Bool × List (Int × Int × List UInt8)) ⊕ (Int × (List UInt8) × Int × Bool × List (Int × Int × List UInt8))) :=
  bindO (α := (Int × (List UInt8) × Int × Bool × List (Int × Int × List UInt8)) ⊕ (Int × (List UInt8) × Int × Bool × List (Int × Int × List UInt8))) (branch (decide (x.2.2.1 < (x.2.1.length : Int)))
     (nth x.2.1 x.2.2.1 fun v0 =>
     bindO (F67 K (v0.toNat : Int)) fun v1 =>
     branch v1
      (some (.inl x))
      (nth x.2.1 x.2.2.1 fun v2 =>
      branch (decide (48 ≤ (v2.toNat : Int)))
       (nth x.2.1 x.2.2.1 fun v3 =>
       branch (decide ((v3.toNat : Int) ≤ 57))
        (some (.inl x))
        (nth x.2.1 x.2.2.1 fun v4 =>
        branch (decide (65 ≤ (v4.toNat : Int)))
         (nth x.2.1 x.2.2.1 fun v5 =>
         branch (decide ((v5.toNat : Int) ≤ 70))
          (some (.inl x))
          (some (.inr x)))
         (some (.inr x))))
       (nth x.2.1 x.2.2.1 fun v6 =>
       branch (decide (65 ≤ (v6.toNat : Int)))
        (nth x.2.1 x.2.2.1 fun v7 =>
        branch (decide ((v7.toNat : Int) ≤ 70))
         (some (.inl x))
         (some (.inr x)))
        (some (.inr x)))))
     (some (.inr x))) fun v8 =>
  csO v8
   (fun v9 => some (.inl (v9.1, v9.2.1, w64 (v9.2.2.1 + 1), v9.2.2.2)))
   (fun v10 => some (.inr v10))
def F52 (K : Nat) (x : (List UInt8) × Int × Bool × List (Int × Int × List UInt8)) : Option ((List UInt8) × (List UInt8) × Int × Bool × List (Int × Int × List UInt8)) :=
  bindO (iter K (F52_b0 K) (x.2.1, x)) fun v0 =>
  guard (decide (0 ≤ v0.1 ∧ v0.1 ≤ v0.2.2.1 ∧ v0.2.2.1 ≤ (v0.2.1.length : Int))) <|
  some (subL v0.2.1 v0.1 v0.2.2.1, v0.2)
def ct52 (K : Nat) : Ct := ⟨[.l (.ptr 0 0 0)], [⟨4, false, .mix (some 41) [[.l (.v .s), .l (.v (.i .i64)), .l (.all 1), .l (.v .b)]]⟩, ⟨3, true, .row (.c (.i .i64) (.c (.i .i64) .s))⟩], [.l (.v .s)], [⟨4, false, .mix (some 41) [[.l (.v .s), .l (.v (.i .i64)), .l (.all 1), .l (.v .b)]]⟩, ⟨3, true, .row (.c (.i .i64) (.c (.i .i64) .s))⟩], [], F52 K⟩
theorem c52 (K : Nat) : CtOk prog 52 (ct52 K) :=
  con_mk (Y := Y) (L := [(67, ct67 K)]) (K := K) (an := (.seq .no (.seq .no (.seq (.blk (.loop [] ⟨(.l (.ptr 0 0 0) :: ru 2 (.l (.v (.i .i64)) :: ru 91 [])), [(0, ⟨4, false, .mix (some 41) [[.l (.v .s), .l (.v (.i .i64)), .l (.all 1), .l (.v .b)]]⟩), (1, ⟨3, true, .row (.c (.i .i64) (.c (.i .i64) .s))⟩)]⟩ [(0, ⟨(.l (.ptr 0 0 0) :: ru 2 (.l (.v (.i .i64)) :: ru 91 [])), [(0, ⟨4, false, .mix (some 41) [[.l (.v .s), .l (.v (.i .i64)), .l (.all 1), .l (.v .b)]]⟩), (1, ⟨3, true, .row (.c (.i .i64) (.c (.i .i64) .s))⟩)]⟩)] false (.seqJ [(1000000, ⟨(.l (.ptr 0 0 0) :: ru 2 (.l (.v (.i .i64)) :: ru 91 [])), [(0, ⟨4, false, .mix (some 41) [[.l (.v .s), .l (.v (.i .i64)), .l (.all 1), .l (.v .b)]]⟩), (1, ⟨3, true, .row (.c (.i .i64) (.c (.i .i64) .s))⟩)]⟩), (0, ⟨(.l (.ptr 0 0 0) :: ru 2 (.l (.v (.i .i64)) :: ru 91 [])), [(0, ⟨4, false, .mix (some 41) [[.l (.v .s), .l (.v (.i .i64)), .l (.all 1), .l (.v .b)]]⟩), (1, ⟨3, true, .row (.c (.i .i64) (.c (.i .i64) .s))⟩)]⟩)] false (.seq .no .no) .no))) .no)))) func52 mixed (ctabOk_cons (c67 K) ctabOk_nil) (by kernel_rfl) fun x => by kernel_rfl
-- (*loop.example/g00460/impl.formula).sign
def F39 (K : Nat) (x : (List UInt8) × (List UInt8) × Int × Bool × List (Int × Int × List UInt8)) : Option (Bool × (List UInt8) × Int × Bool × List (Int × Int × List UInt8)) :=
  bindO (α := (Bool × (List UInt8) × Int × Bool × List (Int × Int × List UInt8)) ⊕ ((List UInt8) × (List UInt8) × Int × Bool × List (Int × Int × List UInt8))) (bindO (α := (List UInt8) × Bool × (List UInt8) × Int × Bool × List (Int × Int × List UInt8)) (branch x.2.2.2.1
       (some (x.1, true, x.2))
       (guard (decide (0 ≤ x.2.2.1 ∧ x.2.2.1 ≤ (x.2.1.length : Int))) <|
       bindO (F58 K (dpL x.2.1 x.2.2.1, x.1)) fun v0 =>
       some (x.1, !v0, x.2))) fun v1 =>
    branch v1.2.1
     (some (.inl (false, v1.2.2)))
     (some (.inr (v1.1, v1.2.2)))) fun v2 =>
  csO v2
   (fun v3 => some v3)
   (fun v4 => some (true, v4.2.1, w64 (v4.2.2.1 + (v4.1.length : Int)), v4.2.2.2))
def ct39 (K : Nat) : Ct := ⟨[.l (.ptr 0 0 0), .l (.v .s)], [⟨4, false, .mix (some 45) [[.l (.v .s), .l (.v (.i .i64)), .l (.all 1), .l (.v .b)]]⟩, ⟨3, true, .row (.c (.i .i64) (.c (.i .i64) .s))⟩], [.l (.v .b)], [⟨4, false, .mix (some 45) [[.l (.v .s), .l (.v (.i .i64)), .l (.all 1), .l (.v .b)]]⟩, ⟨3, true, .row (.c (.i .i64) (.c (.i .i64) .s))⟩], [], F39 K⟩
theorem c39 (K : Nat) : CtOk prog 39 (ct39 K) :=
  con_mk (Y := Y) (L := [(58, ct58 K)]) (K := K) (an := (.seq .no (.seqJ [(1000000, ⟨(.l (.ptr 0 0 0) :: .l (.v .s) :: ru 30 []), [(0, ⟨4, false, .mix (some 45) [[.l (.v .s), .l (.v (.i .i64)), .l (.all 1), .l (.v .b)]]⟩), (1, ⟨3, true, .row (.c (.i .i64) (.c (.i .i64) .s))⟩)]⟩)] true (.seqJ [(1000000, ⟨(.l (.ptr 0 0 0) :: .l (.v .s) :: ru 20 (.l (.v .b) :: ru 9 [])), [(0, ⟨4, false, .mix (some 45) [[.l (.v .s), .l (.v (.i .i64)), .l (.all 1), .l (.v .b)]]⟩), (1, ⟨3, true, .row (.c (.i .i64) (.c (.i .i64) .s))⟩)]⟩)] false .no (.cond .no .no)) (.seq .no .no)))) func39 mixed (ctabOk_cons (c58 K) ctabOk_nil) (by kernel_rfl) fun x => by kernel_rfl
-- (*loop.example/g00460/impl.formula).run
def F69_b0 (K : Nat) (x : Int × (List UInt8) × Int × Bool × List (Int × Int × List UInt8)) : Option ((Int × (List UInt8) × Int × Bool × List (Int × Int × List UInt8)) ⊕ (Int × (List UInt8) × Int × Bool × List (Int × Int × List UInt8))) :=
  branch (decide (x.2.2.1 < (x.2.1.length : Int)))
   (nth x.2.1 x.2.2.1 fun v0 =>
   bindO (α := (Int × (List UInt8) × Int × Bool × List (Int × Int × List UInt8)) ⊕ (Int × (List UInt8) × Int × Bool × List (Int × Int × List UInt8))) (bindO (F62 K (v0.toNat : Int)) fun v1 =>
     branch (!v1)
      (bindO (F61 K (v0.toNat : Int)) fun v2 =>
      branch (!v2)
       (branch (!(decide ((v0.toNat : Int) = 95)))
        (branch (!(decide ((v0.toNat : Int) = 46)))
         (branch (decide (65 ≤ (v0.toNat : Int)))
          (branch (!(decide ((v0.toNat : Int) ≤ 70)))
           (some (.inr x))
           (some (.inl x)))
          (some (.inr x)))
         (some (.inl x)))
        (some (.inl x)))
       (some (.inl x)))
      (some (.inl x))) fun v3 =>
   csO v3
    (fun v4 => some (.inl (v4.1, v4.2.1, w64 (v4.2.2.1 + 1), v4.2.2.2)))
    (fun v5 => some (.inr v5)))
   (some (.inr x))
def F69 (K : Nat) (x : (List UInt8) × Int × Bool × List (Int × Int × List UInt8)) : Option ((List UInt8) × (List UInt8) × Int × Bool × List (Int × Int × List UInt8)) :=
  bindO (iter K (F69_b0 K) (x.2.1, x)) fun v0 =>
  guard (decide (0 ≤ v0.1 ∧ v0.1 ≤ v0.2.2.1 ∧ v0.2.2.1 ≤ (v0.2.1.length : Int))) <|
  some (subL v0.2.1 v0.1 v0.2.2.1, v0.2)
def ct69 (K : Nat) : Ct := ⟨[.l (.ptr 0 0 0)], [⟨4, false, .mix (some 45) [[.l (.v .s), .l (.v (.i .i64)), .l (.all 1), .l (.v .b)]]⟩, ⟨3, true, .row (.c (.i .i64) (.c (.i .i64) .s))⟩], [.l (.v .s)], [⟨4, false, .mix (some 45) [[.l (.v .s), .l (.v (.i .i64)), .l (.all 1), .l (.v .b)]]⟩, ⟨3, true, .row (.c (.i .i64) (.c (.i .i64) .s))⟩], [], F69 K⟩
theorem c69 (K : Nat) : CtOk prog 69 (ct69 K) :=
  con_mk (Y := Y) (L := [(62, ct62 K), (61, ct61 K)]) (K := K) (an := (.seq .no (.seq .no (.seq (.blk (.loop [] ⟨(.l (.ptr 0 0 0) :: ru 2 (.l (.v (.i .i64)) :: ru 66 [])), [(0, ⟨4, false, .mix (some 45) [[.l (.v .s), .l (.v (.i .i64)), .l (.all 1), .l (.v .b)]]⟩), (1, ⟨3, true, .row (.c (.i .i64) (.c (.i .i64) .s))⟩)]⟩ [(0, ⟨(.l (.ptr 0 0 0) :: ru 2 (.l (.v (.i .i64)) :: ru 66 [])), [(0, ⟨4, false, .mix (some 45) [[.l (.v .s), .l (.v (.i .i64)), .l (.all 1), .l (.v .b)]]⟩), (1, ⟨3, true, .row (.c (.i .i64) (.c (.i .i64) .s))⟩)]⟩)] false (.seq (.seq .no .no) (.blk (.seq .no (.seqJ [(1000000, ⟨(.l (.ptr 0 0 0) :: ru 2 (.l (.v (.i .i64)) :: ru 66 [])), [(0, ⟨4, false, .mix (some 45) [[.l (.v .s), .l (.v (.i .i64)), .l (.all 1), .l (.v .b)]]⟩), (1, ⟨3, true, .row (.c (.i .i64) (.c (.i .i64) .s))⟩)]⟩), (0, ⟨(.l (.ptr 0 0 0) :: ru 2 (.l (.v (.i .i64)) :: ru 66 [])), [(0, ⟨4, false, .mix (some 45) [[.l (.v .s), .l (.v (.i .i64)), .l (.all 1), .l (.v .b)]]⟩), (1, ⟨3, true, .row (.c (.i .i64) (.c (.i .i64) .s))⟩)]⟩)] false (.seq .no .no) .no)))))) .no)))) func69 mixed (ctabOk_cons (c62 K) (ctabOk_cons (c61 K) ctabOk_nil)) (by kernel_rfl) fun x => by kernel_rfl
-- (*loop.example/g00460/impl.formula).need
def F56 (K : Nat) (x : (List UInt8) × (List UInt8) × Int × Bool × List (Int × Int × List UInt8)) : Option ((List UInt8) × Int × Bool × List (Int × Int × List UInt8)) :=
  bindO (F39 K x) fun v0 =>
  branch (!v0.1)
   (some (v0.2.1, v0.2.2.1, true, v0.2.2.2.2))
   (some v0.2)
def ct56 (K : Nat) : Ct := ⟨[.l (.ptr 0 0 0), .l (.v .s)], [⟨4, false, .mix (some 45) [[.l (.v .s), .l (.v (.i .i64)), .l (.all 1), .l (.v .b)]]⟩, ⟨3, true, .row (.c (.i .i64) (.c (.i .i64) .s))⟩], [], [⟨4, false, .mix (some 45) [[.l (.v .s), .l (.v (.i .i64)), .l (.all 1), .l (.v .b)]]⟩, ⟨3, true, .row (.c (.i .i64) (.c (.i .i64) .s))⟩], [], F56 K⟩
theorem c56 (K : Nat) : CtOk prog 56 (ct56 K) :=
  con_mk (Y := Y) (L := [(39, ct39 K)]) (K := K) (an := .no) func56 mixed (ctabOk_cons (c39 K) ctabOk_nil) (by kernel_rfl) fun x => by kernel_rfl
-- (*loop.example/g00460/impl.formula).put
def F41 (K : Nat) (x : Int × Int × (List UInt8) × (List UInt8) × Int × Bool × List (Int × Int × List UInt8)) : Option ((List UInt8) × Int × Bool × List (Int × Int × List UInt8)) :=
  guard (fitN (x.2.2.2.2.2.2.length + ([(x.1, x.2.1, x.2.2.1)].length)) 32) <|
  branch x.2.2.2.2.2.1
   (some (x.2.2.2.1, x.2.2.2.2.1, true, x.2.2.2.2.2.2 ++ [(x.1, x.2.1, x.2.2.1)]))
   (some (x.2.2.2.1, x.2.2.2.2.1, decide (30 < ((x.2.2.2.2.2.2 ++ [(x.1, x.2.1, x.2.2.1)]).length : Int)), x.2.2.2.2.2.2 ++ [(x.1, x.2.1, x.2.2.1)]))
def ct41 (K : Nat) : Ct := ⟨[.l (.ptr 0 0 0), .agg [(.v (.i .i64)), (.v (.i .i64)), (.v .s)]], [⟨4, false, .mix (some 45) [[.l (.v .s), .l (.v (.i .i64)), .l (.all 1), .l (.v .b)]]⟩, ⟨3, true, .row (.c (.i .i64) (.c (.i .i64) .s))⟩], [], [⟨4, false, .mix (some 45) [[.l (.v .s), .l (.v (.i .i64)), .l (.all 1), .l (.v .b)]]⟩, ⟨3, true, .row (.c (.i .i64) (.c (.i .i64) .s))⟩], [], F41 K⟩
theorem c41 (K : Nat) : CtOk prog 41 (ct41 K) :=
  con_mk (Y := Y) (L := []) (K := K) (an := (.seq .no (.seq (.reg [6] []) .no))) func41 mixed ctabOk_nil (by kernel_rfl) fun x => by kernel_rfl
-- loop.example/g00460/laws.markENodeS
def F9_b0 (K : Nat) (x : Int × Int × List (Int × Int × List UInt8)) : Option ((Int × Int × List (Int × Int × List UInt8)) ⊕ (Int × List (Int × Int × List UInt8))) :=
  branch (decide (x.2.1 < (x.2.2.length : Int)))
   (guard (decide (0 ≤ x.2.1 ∧ x.2.1 < (x.2.2.length : Int))) <|
   nthN x.2.2 x.2.1.toNat fun v0 =>
   guard (decide (0 ≤ x.2.1 ∧ x.2.1 < ((List.set x.2.2 x.2.1.toNat (x.1, v0.2)).length : Int))) <|
   nthN (List.set x.2.2 x.2.1.toNat (x.1, v0.2)) x.2.1.toNat fun v1 =>
   bindO (F22 K (w64 ((w64 (x.1 + 1)) + 1))) fun v2 =>
   guard (decide (0 ≤ x.2.1 ∧ x.2.1 < ((List.set (List.set x.2.2 x.2.1.toNat (x.1, v0.2)) x.2.1.toNat (v1.1, w64 (x.1 + 1), v1.2.2)).length : Int))) <|
   nthN (List.set (List.set x.2.2 x.2.1.toNat (x.1, v0.2)) x.2.1.toNat (v1.1, w64 (x.1 + 1), v1.2.2)) x.2.1.toNat fun v3 =>
   some (.inl (w64 ((w64 ((w64 (x.1 + 1)) + 1)) + 1), w64 (x.2.1 + 1), List.set (List.set (List.set x.2.2 x.2.1.toNat (x.1, v0.2)) x.2.1.toNat (v1.1, w64 (x.1 + 1), v1.2.2)) x.2.1.toNat (v3.1, v3.2.1, v2))))
   (some (.inr (x.1, x.2.2)))
def F9 (K : Nat) (x : Int × List (Int × Int × List UInt8)) : Option (Int × List (Int × Int × List UInt8)) :=
  bindO (iter K (F9_b0 K) (x.1, 0, x.2)) fun v0 =>
  some v0
def ct9 (K : Nat) : Ct := ⟨[.l (.all 0), .l (.v (.i .i64))], [⟨3, true, .row (.c (.i .i64) (.c (.i .i64) .s))⟩], [.l (.v (.i .i64))], [⟨3, true, .row (.c (.i .i64) (.c (.i .i64) .s))⟩], [true], F9 K⟩
theorem c9 (K : Nat) : CtOk prog 9 (ct9 K) :=
  con_mk (Y := Y) (L := [(22, ct22 K)]) (K := K) (an := (.seq .no (.seq (.seq .no (.blk (.loop [] ⟨(.l (.all 0) :: .l (.v (.i .i64)) :: ru 3 (.l (.v (.i .i64)) :: ru 29 [])), [(0, ⟨3, true, .row (.c (.i .i64) (.c (.i .i64) .s))⟩)]⟩ [(0, ⟨(ru 1 (.l (.v (.i .i64)) :: ru 33 [])), [(0, ⟨3, true, .row (.c (.i .i64) (.c (.i .i64) .s))⟩)]⟩)] false (.seq (.seq .no .no) (.seq (.blk (.seq .no (.seq .no (.seq .no (.seq .no .no))))) .no))))) .no))) func9 mixed (ctabOk_cons (c22 K) ctabOk_nil) (by kernel_rfl) fun x => by kernel_rfl
end Go.U.Tryd
