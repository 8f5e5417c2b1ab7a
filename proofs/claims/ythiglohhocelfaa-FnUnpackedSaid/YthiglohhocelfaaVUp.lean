/- The functions that the laws of Unpacked and Packed reach, told. No condition. -/
import Derived.Test.YthiglohhocelfaaVRp
import Derived.Laws.Externs
import Derived.Test.YthiglohhocelfaaProg
set_option linter.unusedVariables false
set_option linter.unusedSimpArgs false
namespace Go.U.Try
open Go Go.U Go.Proofs Go.Proofs.Try
set_option maxRecDepth 100000
set_option linter.unusedVariables false
theorem ty3 : tyOf prog 3 = some ⟨.int .i64, 1, 8, [.i .i64 0], some (.i .i64)⟩ := by kernel_rfl
theorem ty9 : tyOf prog 9 = some ⟨.str, 1, 16, [.str []], some .s⟩ := by kernel_rfl
theorem ty34 : tyOf prog 34 = some ⟨.sl 5, 1, 24, [.emp], some (.l (.i .u8))⟩ := by kernel_rfl
theorem ty5 : tyOf prog 5 = some ⟨.int .u8, 1, 1, [.i .u8 0], some (.i .u8)⟩ := by kernel_rfl
theorem ty67 : tyOf prog 67 = some ⟨.ptr 69, 1, 8, [.nilp], none⟩ := by kernel_rfl
theorem ty69 : tyOf prog 69 = some ⟨.st [(0, (67, 1)), (1, (34, 1))], 2, 32, [.nilp, .emp], none⟩ := by kernel_rfl
theorem ty78 : tyOf prog 78 = some ⟨.ptr 102, 1, 8, [.nilp], none⟩ := by kernel_rfl
theorem ty102 : tyOf prog 102 = some ⟨.st [(0, (34, 1)), (1, (3, 1))], 2, 32, [.emp, .i .i64 0], some (.c (.l (.i .u8)) (.i .i64))⟩ := by kernel_rfl
theorem ty2 : tyOf prog 2 = some ⟨.int .i64, 1, 8, [.i .i64 0], some (.i .i64)⟩ := by kernel_rfl
theorem ty4 : tyOf prog 4 = some ⟨.bool, 1, 1, [.b false], some .b⟩ := by kernel_rfl
theorem ty99 : tyOf prog 99 = some ⟨.int .u64, 1, 8, [.i .u64 0], some (.i .u64)⟩ := by kernel_rfl
theorem ty84 : tyOf prog 84 = some ⟨.sl 9, 1, 24, [.emp], some (.l .s)⟩ := by kernel_rfl
theorem ty111 : tyOf prog 111 = some ⟨.up, 1, 8, [.nilp], none⟩ := by kernel_rfl
theorem ty87 : tyOf prog 87 = some ⟨.sl 3, 1, 24, [.emp], some (.l (.i .i64))⟩ := by kernel_rfl
theorem ty100 : tyOf prog 100 = some ⟨.ptr 5, 1, 8, [.nilp], none⟩ := by kernel_rfl
def Y : TT prog := mkTT _ (tys_cons ty3 (tys_cons ty9 (tys_cons ty34 (tys_cons ty5 (tys_cons ty67 (tys_cons ty69 (tys_cons ty78 (tys_cons ty102 (tys_cons ty2 (tys_cons ty4 (tys_cons ty99 (tys_cons ty84 (tys_cons ty111 (tys_cons ty87 (tys_cons ty100 tys_nil)))))))))))))))
theorem mixed : prog.follows .mixedOrders = true := by kernel_rfl
def F86 (K : Nat) (x : List Int) : Option (List Int) := some x
def ct86 (K : Nat) : Ct := ⟨[.l (.ptr 0 0 0)], bldH 69 5 .nilp, [.l (.ptr 0 0 0)], bldH 69 5 .nilp, [], F86 K⟩
theorem c86 (K : Nat) : CtOk prog 86 (ct86 K) := ct_noEscape fun v w => by rw [run_callFunc_extern func86 (by kernel_rfl) (by kernel_rfl) (by kernel_rfl) (e := Extern.AbiNoEscape.same) (by kernel_rfl)]; rfl

-- (*strings.Builder).copyCheck
def F72A (K : Nat) (x : List Int) : Option (List Int) :=
  bindO (F86 K x) fun v0 =>
  some v0
def ct72A (K : Nat) : Ct := ⟨[.l (.ptr 0 0 0)], [⟨2, false, .mix (some 69) [[.l .nilp, .l (.bb 1)]]⟩, ⟨1, true, .row (.y 5)⟩], [], [⟨2, false, .mix (some 69) [[.l (.pon 0 0 0), .l (.bb 1)]]⟩, ⟨1, true, .row (.y 5)⟩], [], F72A K⟩
theorem c72A (K : Nat) : CtOk prog 72 (ct72A K) :=
  con_mk (Y := Y) (L := [(86, ct86 K)]) (K := K) (an := (.seq .no (.cond .no (.seq .no .no)))) func72 mixed (ctabOk_cons (c86 K) ctabOk_nil) (by kernel_rfl) fun x => by kernel_rfl

-- (*strings.Builder).copyCheck
def F72B (K : Nat) (x : List Int) : Option (List Int) :=
  some x
def ct72B (K : Nat) : Ct := ⟨[.l (.ptr 0 0 0)], [⟨2, false, .mix (some 69) [[.l (.ptr 0 0 0), .l (.bb 1)]]⟩, ⟨1, true, .row (.y 5)⟩], [], [⟨2, false, .mix (some 69) [[.l (.pon 0 0 0), .l (.bb 1)]]⟩, ⟨1, true, .row (.y 5)⟩], [], F72B K⟩
theorem c72B (K : Nat) : CtOk prog 72 (ct72B K) :=
  con_mk (Y := Y) (L := [(86, ct86 K)]) (K := K) (an := (.seq .no (.cond .no (.seq .no .no)))) func72 mixed (ctabOk_cons (c86 K) ctabOk_nil) (by kernel_rfl) fun x => by kernel_rfl

def F72 (K : Nat) (x : List Int) : Option (List Int) := some x
def ct72 (K : Nat) : Ct := ⟨[.l (.ptr 0 0 0)], bldH 69 5 (.pon 0 0 0), [], bldH 69 5 (.pon 0 0 0), [], F72 K⟩
theorem c72 (K : Nat) : CtOk prog 72 (ct72 K) := ct_bld (ps := [.l (.ptr 0 0 0)]) (T := 69) (e := 5) (rs := []) (hr := bldH 69 5 (.pon 0 0 0)) (refs := []) (F := F72 K) (c72A K) (c72B K)

def F55 (K : Nat) (x : (List UInt8) × Int) : Option (List UInt8) := repF x
def ct55 (K : Nat) : Ct := ⟨[.l (.v .s), .l (.v (.i .i64))], [], [.l (.v .s)], [], [], F55 K⟩
theorem c55 (K : Nat) : CtOk prog 55 (ct55 K) := c55_repeat K

-- (*strings.Builder).WriteString
def F45 (K : Nat) (x : (List UInt8) × List Int) : Option (Int × Bool × List Int) :=
  bindO (F72 K x.2) fun v0 =>
  guard (fitN (v0.length + ((ofB x.1).length)) 1) <|
  some ((x.1.length : Int), false, v0 ++ (ofB x.1))
def ct45 (K : Nat) : Ct := ⟨[.l (.ptr 0 0 0), .l (.v .s)], [⟨2, false, .mix (some 69) [[.l (.pon 0 0 0), .l (.bb 1)]]⟩, ⟨1, true, .row (.y 5)⟩], [.l (.v (.i .i64)), .l (.v .e)], [⟨2, false, .mix (some 69) [[.l (.pon 0 0 0), .l (.bb 1)]]⟩, ⟨1, true, .row (.y 5)⟩], [], F45 K⟩
theorem c45 (K : Nat) : CtOk prog 45 (ct45 K) :=
  con_mk (Y := Y) (L := [(72, ct72 K)]) (K := K) (an := (.seq .no (.seq .no (.seq .no .no)))) func45 mixed (ctabOk_cons (c72 K) ctabOk_nil) (by kernel_rfl) fun x => by kernel_rfl

-- (*strings.Builder).String
def F47 (K : Nat) (x : List Int) : Option ((List UInt8) × List Int) :=
  branch (decide (0 < x.length))
   (guard (decide ((x.length : Int) = (x.length : Int) ∧ 0 < x.length ∧ x.length ≤ 9223372036854775807)) <|
   some (toB x, x))
   (guard (decide ((x.length : Int) = 0)) <|
   some ([], x))
def ct47 (K : Nat) : Ct := ⟨[.l (.ptr 0 0 0)], [⟨2, false, .mix (some 69) [[.l (.pon 0 0 0), .l (.bb 1)]]⟩, ⟨1, true, .row (.y 5)⟩], [.l (.v .s)], [⟨2, false, .mix (some 69) [[.l (.pon 0 0 0), .l (.bb 1)]]⟩, ⟨1, true, .row (.y 5)⟩], [], F47 K⟩
theorem c47 (K : Nat) : CtOk prog 47 (ct47 K) :=
  con_mk (Y := Y) (L := []) (K := K) (an := (.seq .no (.seq (.reg [4, 10] []) .no))) func47 mixed ctabOk_nil (by kernel_rfl) fun x => by kernel_rfl

-- (*strings.Builder).Len
def F56 (K : Nat) (x : List Int) : Option (Int × List Int) :=
  some ((x.length : Int), x)
def ct56 (K : Nat) : Ct := ⟨[.l (.ptr 0 0 0)], [⟨2, false, .mix (some 69) [[.l (.pon 0 0 0), .l (.bb 1)]]⟩, ⟨1, true, .row (.y 5)⟩], [.l (.v (.i .i64))], [⟨2, false, .mix (some 69) [[.l (.pon 0 0 0), .l (.bb 1)]]⟩, ⟨1, true, .row (.y 5)⟩], [], F56 K⟩
theorem c56 (K : Nat) : CtOk prog 56 (ct56 K) :=
  con_mk (Y := Y) (L := []) (K := K) (an := (.seq .no .no)) func56 mixed ctabOk_nil (by kernel_rfl) fun x => by kernel_rfl

-- loop.example/g00460/spec.l15Run
def F43_b0 (K : Nat) (x : (List UInt8) × Int × Int) : Option (((List UInt8) × Int × Int) ⊕ Int) :=
  branch (decide ((w64 (x.2.1 + x.2.2)) < (x.1.length : Int)))
   (branch (decide (x.2.2 < 128))
    (nth x.1 (w64 (x.2.1 + x.2.2)) fun v0 =>
    nth x.1 x.2.1 fun v1 =>
    branch (decide ((v0.toNat : Int) = (v1.toNat : Int)))
     (some (.inl (x.1, x.2.1, w64 (x.2.2 + 1))))
     (some (.inr x.2.2)))
    (some (.inr x.2.2)))
   (some (.inr x.2.2))
def F43 (K : Nat) (x : (List UInt8) × Int) : Option (Int) :=
  bindO (iter K (F43_b0 K) (x.1, x.2, 1)) fun v0 =>
  some v0
def ct43 (K : Nat) : Ct := ⟨[.l (.v .s), .l (.v (.i .i64))], [], [.l (.v (.i .i64))], [], [], F43 K⟩
theorem c43 (K : Nat) : CtOk prog 43 (ct43 K) :=
  con_mk (Y := Y) (L := []) (K := K) (an := (.seq .no (.seq .no (.seq (.blk (.loop [] ⟨(.l (.v .s) :: .l (.v (.i .i64)) :: ru 3 (.l (.v (.i .i64)) :: ru 24 [])), []⟩ [(0, ⟨(ru 5 (.l (.v (.i .i64)) :: ru 24 [])), []⟩)] false (.seq (.seq .no .no) .no))) .no)))) func43 mixed ctabOk_nil (by kernel_rfl) fun x => by kernel_rfl

-- loop.example/g00460/spec.PackedOf
def F18_b1 (K : Nat) (x : (List UInt8) × (List UInt8) × Int × Int) : Option (((List UInt8) × (List UInt8) × Int × Int) ⊕ ((List UInt8) × (List UInt8) × Int × Int)) :=
  branch (decide (x.2.2.2 < (x.1.length : Int)))
   (branch (decide ((w64 (x.2.2.2 - x.2.2.1)) < 128))
    (bindO (F43 K (x.1, x.2.2.2)) fun v0 =>
    branch (decide (v0 < 3))
     (some (.inl (x.1, x.2.1, x.2.2.1, w64 (x.2.2.2 + 1))))
     (some (.inr x)))
    (some (.inr x)))
   (some (.inr x))
def F18_b0 (K : Nat) (x : (List UInt8) × (List UInt8) × Int) : Option (((List UInt8) × (List UInt8) × Int) ⊕ (List UInt8)) :=
  branch (decide (x.2.2 < (x.1.length : Int)))
   (bindO (F43 K (x.1, x.2.2)) fun v0 =>
   branch (decide (2 < v0))
    (nth x.1 x.2.2 fun v1 =>
    guard (decide ((x.2.1.length + ((toB [w8 (w64 (257 - v0)), (v1.toNat : Int)]).length)) ≤ 9223372036854775807)) <|
    some (.inl (x.1, x.2.1 ++ (toB [w8 (w64 (257 - v0)), (v1.toNat : Int)]), w64 (x.2.2 + v0))))
    (bindO (iter K (F18_b1 K) (x.1, x.2.1, x.2.2, x.2.2)) fun v2 =>
    guard (decide ((v2.2.1.length + ((toB [w8 (w64 ((w64 (v2.2.2.2 - v2.2.2.1)) - 1))]).length)) ≤ 9223372036854775807)) <|
    guard (decide (0 ≤ v2.2.2.1 ∧ v2.2.2.1 ≤ v2.2.2.2 ∧ v2.2.2.2 ≤ (v2.1.length : Int))) <|
    guard (decide ((((v2.2.1 ++ (toB [w8 (w64 ((w64 (v2.2.2.2 - v2.2.2.1)) - 1))])).length) + ((subL v2.1 v2.2.2.1 v2.2.2.2).length)) ≤ 9223372036854775807)) <|
    some (.inl (v2.1, (v2.2.1 ++ (toB [w8 (w64 ((w64 (v2.2.2.2 - v2.2.2.1)) - 1))])) ++ (subL v2.1 v2.2.2.1 v2.2.2.2), v2.2.2.2))))
   (some (.inr x.2.1))
def F18 (K : Nat) (x : List UInt8) : Option ((List UInt8) × Bool) :=
  branch (decide (20000 < (x.length : Int)))
   (some ([], false))
   (bindO (iter K (F18_b0 K) (x, [], 0)) fun v0 =>
   some (v0, true))
def ct18 (K : Nat) : Ct := ⟨[.l (.v .s)], [], [.l (.v .s), .l (.v .b)], [], [], F18 K⟩
theorem c18 (K : Nat) : CtOk prog 18 (ct18 K) :=
  con_mk (Y := Y) (L := [(43, ct43 K)]) (K := K) (an := (.seq .no (.seq (.seq .no (.cond .no .no)) (.seq .no (.seq (.seq .no (.blk (.loop [] ⟨(.l (.v .s) :: ru 3 (.l (.v .s) :: .l (.v (.i .i64)) :: ru 62 [])), []⟩ [(0, ⟨(ru 4 (.l (.v .s) :: ru 63 [])), []⟩)] false (.seq (.seq .no .no) (.blk (.seq .no (.seq (.seq .no (.cond (.seq .no .no) .no)) (.seq .no (.seq (.blk (.loop [] ⟨(.l (.v .s) :: ru 3 (.l (.v .s) :: .l (.v (.i .i64)) :: ru 1 (.l (.v (.i .i64)) :: ru 60 []))), []⟩ [(2, ⟨(.l (.v .s) :: ru 3 (.l (.v .s) :: .l (.v (.i .i64)) :: ru 1 (.l (.v (.i .i64)) :: ru 60 []))), []⟩)] false (.seq (.seq .no .no) .no))) (.seq (.reg [6] []) .no)))))))))) .no))))) func18 mixed (ctabOk_cons (c43 K) ctabOk_nil) (by kernel_rfl) fun x => by kernel_rfl

-- loop.example/g00460/impl.alikeAt
def F44_b0 (K : Nat) (x : (List UInt8) × Int × Int) : Option (((List UInt8) × Int × Int) ⊕ Int) :=
  branch (decide (x.2.2 < 128))
   (branch (decide ((w64 (x.2.1 + x.2.2)) < (x.1.length : Int)))
    (nth x.1 (w64 (x.2.1 + x.2.2)) fun v0 =>
    nth x.1 x.2.1 fun v1 =>
    branch (decide ((v0.toNat : Int) = (v1.toNat : Int)))
     (some (.inl (x.1, x.2.1, w64 (x.2.2 + 1))))
     (some (.inr x.2.2)))
    (some (.inr x.2.2)))
   (some (.inr x.2.2))
def F44 (K : Nat) (x : (List UInt8) × Int) : Option (Int) :=
  bindO (iter K (F44_b0 K) (x.1, x.2, 0)) fun v0 =>
  some v0
def ct44 (K : Nat) : Ct := ⟨[.l (.v .s), .l (.v (.i .i64))], [], [.l (.v (.i .i64))], [], [], F44 K⟩
theorem c44 (K : Nat) : CtOk prog 44 (ct44 K) :=
  con_mk (Y := Y) (L := []) (K := K) (an := (.seq .no (.seq .no (.seq (.blk (.loop [] ⟨(.l (.v .s) :: .l (.v (.i .i64)) :: ru 3 (.l (.v (.i .i64)) :: ru 24 [])), []⟩ [(0, ⟨(ru 5 (.l (.v (.i .i64)) :: ru 24 [])), []⟩)] false (.seq (.seq .no .no) .no))) .no)))) func44 mixed ctabOk_nil (by kernel_rfl) fun x => by kernel_rfl

-- loop.example/g00460/impl.bytesOf
def F46_b0 (K : Nat) (x : Int × Int × List Int) : Option ((Int × Int × List Int) ⊕ (List Int)) :=
  branch (decide (0 < x.2.1))
   (guard (fitN (x.2.2.length + [w8 x.1].length) 1) <|
   some (.inl (shrI Go.IntKind.i64 x.1 8, w64 (x.2.1 - 1), x.2.2 ++ [w8 x.1])))
   (some (.inr x.2.2))
def F46 (K : Nat) (x : Int × Int) : Option (List UInt8) :=
  bindO (iter K (F46_b0 K) (x.1, x.2, [])) fun v0 =>
  some (toB v0)
def ct46 (K : Nat) : Ct := ⟨[.l (.v (.i .i64)), .l (.v (.i .i64))], [], [.l (.v .s)], [], [], F46 K⟩
theorem c46 (K : Nat) : CtOk prog 46 (ct46 K) :=
  con_mk (Y := Y) (L := []) (K := K) (an := (.seq .no (.seq .no (.seq (.blk (.loop [] ⟨(.l (.v (.i .i64)) :: .l (.v (.i .i64)) :: ru 3 (.l (.all 7000) :: ru 14 [])), [(7000, ⟨1, true, .row (.i .u8)⟩)]⟩ [(0, ⟨(ru 5 (.l (.all 7000) :: ru 14 [])), [(7000, ⟨1, true, .row (.i .u8)⟩)]⟩)] false (.seq (.seq .no .no) (.seq (.blk .no) .no)))) .no)))) func46 mixed ctabOk_nil (by kernel_rfl) fun x => by kernel_rfl

-- loop.example/g00460/impl.PackedOf
def F19_b1 (K : Nat) (x : (List UInt8) × Int × Int × List Int) : Option (((List UInt8) × Int × Int × List Int) ⊕ ((List UInt8) × Int × Int × List Int)) :=
  branch (decide (x.2.2.1 < 128))
   (branch (decide ((w64 (x.2.1 + x.2.2.1)) < (x.1.length : Int)))
    (bindO (F44 K (x.1, w64 (x.2.1 + x.2.2.1))) fun v0 =>
    branch (decide (v0 < 3))
     (some (.inl (x.1, x.2.1, w64 (x.2.2.1 + 1), x.2.2.2)))
     (some (.inr x)))
    (some (.inr x)))
   (some (.inr x))
def F19_b0 (K : Nat) (x : (List UInt8) × Int × List Int) : Option (((List UInt8) × Int × List Int) ⊕ (List Int)) :=
  branch (decide (x.2.1 < (x.1.length : Int)))
   (bindO (F44 K (x.1, x.2.1)) fun v0 =>
   branch (decide (3 ≤ v0))
    (bindO (F46 K (w64 (257 - v0), 1)) fun v1 =>
    guard (decide (0 ≤ x.2.1 ∧ x.2.1 ≤ (w64 (x.2.1 + 1)) ∧ (w64 (x.2.1 + 1)) ≤ (x.1.length : Int))) <|
    guard (decide ((v1.length + ((subL x.1 x.2.1 (w64 (x.2.1 + 1))).length)) ≤ 9223372036854775807)) <|
    bindO (F45 K (v1 ++ (subL x.1 x.2.1 (w64 (x.2.1 + 1))), x.2.2)) fun v2 =>
    some (.inl (x.1, w64 (x.2.1 + v0), v2.2.2)))
    (bindO (iter K (F19_b1 K) (x.1, x.2.1, 1, x.2.2)) fun v3 =>
    bindO (F46 K (w64 (v3.2.2.1 - 1), 1)) fun v4 =>
    guard (decide (0 ≤ v3.2.1 ∧ v3.2.1 ≤ (w64 (v3.2.1 + v3.2.2.1)) ∧ (w64 (v3.2.1 + v3.2.2.1)) ≤ (v3.1.length : Int))) <|
    guard (decide ((v4.length + ((subL v3.1 v3.2.1 (w64 (v3.2.1 + v3.2.2.1))).length)) ≤ 9223372036854775807)) <|
    bindO (F45 K (v4 ++ (subL v3.1 v3.2.1 (w64 (v3.2.1 + v3.2.2.1))), v3.2.2.2)) fun v5 =>
    some (.inl (v3.1, w64 (v3.2.1 + v3.2.2.1), v5.2.2))))
   (some (.inr x.2.2))
def F19 (K : Nat) (x : List UInt8) : Option ((List UInt8) × Bool) :=
  branch (decide (20000 < (x.length : Int)))
   (some ([], false))
   (bindO (iter K (F19_b0 K) (x, 0, [])) fun v0 =>
   bindO (F47 K v0) fun v1 =>
   some (v1.1, true))
def ct19 (K : Nat) : Ct := ⟨[.l (.v .s)], [], [.l (.v .s), .l (.v .b)], [], [], F19 K⟩
theorem c19 (K : Nat) : CtOk prog 19 (ct19 K) :=
  con_mk (Y := Y) (L := [(45, ct45 K), (47, ct47 K), (44, ct44 K), (46, ct46 K)]) (K := K) (an := (.seq .no (.seq (.seq .no (.cond .no .no)) (.seq .no (.seq (.seq (.reg [] [(0, .vcell 5000 1 5050 1 (.y 5))]) (.blk (.loop [] ⟨(.l (.v .s) :: ru 3 (.l (.ptr 5000 0 0) :: .l (.v (.i .i64)) :: ru 61 [])), [(5050, ⟨1, true, .row (.y 5)⟩), (5000, ⟨2, false, .mix (some 69) [[.l (.pon 5000 0 0), .l (.bb 5050)]]⟩)]⟩ [(0, ⟨(ru 4 (.l (.ptr 5000 0 0) :: ru 62 [])), [(5050, ⟨1, true, .row (.y 5)⟩), (5000, ⟨2, false, .mix (some 69) [[.l (.pon 5000 0 0), .l (.bb 5050)]]⟩)]⟩)] false (.seq (.seq .no .no) (.blk (.seq .no (.seq (.seq .no (.cond (.seq .no .no) .no)) (.seq .no (.seq (.blk (.loop [] ⟨(.l (.v .s) :: ru 3 (.l (.ptr 5000 0 0) :: .l (.v (.i .i64)) :: .l (.v (.i .i64)) :: ru 60 [])), [(5050, ⟨1, true, .row (.y 5)⟩), (5000, ⟨2, false, .mix (some 69) [[.l (.pon 5000 0 0), .l (.bb 5050)]]⟩)]⟩ [(2, ⟨(.l (.v .s) :: ru 3 (.l (.ptr 5000 0 0) :: .l (.v (.i .i64)) :: .l (.v (.i .i64)) :: ru 60 [])), [(5050, ⟨1, true, .row (.y 5)⟩), (5000, ⟨2, false, .mix (some 69) [[.l (.pon 5000 0 0), .l (.bb 5050)]]⟩)]⟩)] false (.seq (.seq .no .no) .no))) .no))))))))) .no))))) func19 mixed (ctabOk_cons (c45 K) (ctabOk_cons (c47 K) (ctabOk_cons (c44 K) (ctabOk_cons (c46 K) ctabOk_nil)))) (by kernel_rfl) fun x => by kernel_rfl

-- loop.example/g00460/laws.FnExactPackedOf
def F4 (K : Nat) (x : List UInt8) : Option (Bool) :=
  branch (decide (1048576 < (x.length : Int)))
   (some true)
   (bindO (F18 K x) fun v0 =>
   bindO (F19 K x) fun v1 =>
   bindO (branch (!(decide (v1.1 = v0.1)))
      (some true)
      (some (!(decide (v1.2 = v0.2))))) fun v2 =>
   branch v2
    (some false)
    (some true))
def ct4 (K : Nat) : Ct := ⟨[.l (.v .s)], [], [.l (.v .b)], [], [], F4 K⟩
theorem c4 (K : Nat) : CtOk prog 4 (ct4 K) :=
  con_mk (Y := Y) (L := [(18, ct18 K), (19, ct19 K)]) (K := K) (an := (.seq .no (.seq (.seq .no (.cond .no .no)) (.seq .no (.seq .no (.seq (.seqJ [(1000000, ⟨(ru 27 (.l (.v .b) :: [])), []⟩)] false .no (.cond .no .no)) .no)))))) func4 mixed (ctabOk_cons (c18 K) (ctabOk_cons (c19 K) ctabOk_nil)) (by kernel_rfl) fun x => by kernel_rfl

-- loop.example/g00460/spec.Unpacked
def F27_b1 (K : Nat) (x : (List UInt8) × Int × Int × Int × List Int) : Option (((List UInt8) × Int × Int × Int × List Int) ⊕ ((List UInt8) × Int × List Int)) :=
  branch (decide (x.2.2.2.1 < (w64 (257 - x.2.2.1))))
   (nth x.1 (w64 (x.2.1 + 1)) fun v0 =>
   guard (fitN (x.2.2.2.2.length + [(v0.toNat : Int)].length) 1) <|
   some (.inl (x.1, x.2.1, x.2.2.1, w64 (x.2.2.2.1 + 1), x.2.2.2.2 ++ [(v0.toNat : Int)])))
   (some (.inr (x.1, x.2.1, x.2.2.2.2)))
def F27_b0 (K : Nat) (x : (List UInt8) × Int × List Int) : Option (((List UInt8) × Int × List Int) ⊕ (((List UInt8) × Bool) ⊕ (List Int))) :=
  branch (decide (x.2.1 < (x.1.length : Int)))
   (nth x.1 x.2.1 fun v0 =>
   bindO (bindO (branch (decide ((w64 (v0.toNat : Int)) = 128))
        (some (x.1, x.2.1, w64 (v0.toNat : Int), true, x.2.2))
        (some (x.1, x.2.1, w64 (v0.toNat : Int), decide ((x.1.length : Int) ≤ (w64 (x.2.1 + 1))), x.2.2))) fun v1 =>
     branch v1.2.2.2.1
      (some (.inl ([], false)))
      (branch (decide (128 < v1.2.2.1))
       (bindO (iter K (F27_b1 K) (v1.1, v1.2.1, v1.2.2.1, 0, v1.2.2.2.2)) fun v2 =>
       some (.inr (v2.1, w64 (v2.2.1 + 2), v2.2.2)))
       (branch (decide ((v1.1.length : Int) < (w64 ((w64 (v1.2.1 + 2)) + v1.2.2.1))))
        (some (.inl ([], false)))
        (guard (decide (0 ≤ (w64 (v1.2.1 + 1)) ∧ (w64 (v1.2.1 + 1)) ≤ (w64 ((w64 (v1.2.1 + 2)) + v1.2.2.1)) ∧ (w64 ((w64 (v1.2.1 + 2)) + v1.2.2.1)) ≤ (v1.1.length : Int))) <|
        guard (fitN (v1.2.2.2.2.length + ((ofB (subL v1.1 (w64 (v1.2.1 + 1)) (w64 ((w64 (v1.2.1 + 2)) + v1.2.2.1)))).length)) 1) <|
        some (.inr (v1.1, w64 ((w64 (v1.2.1 + 2)) + v1.2.2.1), v1.2.2.2.2 ++ (ofB (subL v1.1 (w64 (v1.2.1 + 1)) (w64 ((w64 (v1.2.1 + 2)) + v1.2.2.1)))))))))) fun v3 =>
   csO v3
    (fun v4 => some (.inr (.inl v4)))
    (fun v5 => branch (decide (20000 < (v5.2.2.length : Int)))
     (some (.inr (.inl ([], false))))
     (some (.inl v5))))
   (some (.inr (.inr x.2.2)))
def F27 (K : Nat) (x : List UInt8) : Option ((List UInt8) × Bool) :=
  branch (decide (40000 < (x.length : Int)))
   (some ([], false))
   (bindO (iter K (F27_b0 K) (x, 0, [])) fun v0 =>
   csO v0
    (fun v1 => some v1)
    (fun v2 => some (toB v2, true)))
def ct27 (K : Nat) : Ct := ⟨[.l (.v .s)], [], [.l (.v .s), .l (.v .b)], [], [], F27 K⟩
theorem c27 (K : Nat) : CtOk prog 27 (ct27 K) :=
  con_mk (Y := Y) (L := []) (K := K) (an := (.seq .no (.seq (.seq .no (.cond .no .no)) (.seq .no (.seq (.seq .no (.blk (.loop [] ⟨(.l (.v .s) :: ru 3 (.l (.all 12000) :: .l (.v (.i .i64)) :: ru 68 [])), [(12000, ⟨1, true, .row (.i .u8)⟩)]⟩ [(0, ⟨(ru 4 (.l (.all 12000) :: ru 69 [])), [(12000, ⟨1, true, .row (.i .u8)⟩)]⟩)] true (.seq (.seq .no .no) (.blk (.seq .no (.seqJ [(1000000, ⟨(.l (.v .s) :: ru 3 (.l (.all 12000) :: .l (.v (.i .i64)) :: ru 68 [])), [(12000, ⟨1, true, .row (.i .u8)⟩)]⟩)] true (.blk (.seqJ [(1000000, ⟨(.l (.v .s) :: ru 3 (.l (.all 12000) :: .l (.v (.i .i64)) :: .l (.v (.i .i64)) :: ru 34 (.l (.v .b) :: ru 32 []))), [(12000, ⟨1, true, .row (.i .u8)⟩)]⟩)] false .no (.cond .no (.seq .no (.cond (.seq (.seq .no (.blk (.loop [] ⟨(.l (.v .s) :: ru 3 (.l (.all 12000) :: .l (.v (.i .i64)) :: .l (.v (.i .i64)) :: .l (.v (.i .i64)) :: ru 66 [])), [(12000, ⟨1, true, .row (.i .u8)⟩)]⟩ [(3, ⟨(.l (.v .s) :: ru 3 (.l (.all 12000) :: .l (.v (.i .i64)) :: ru 68 [])), [(12000, ⟨1, true, .row (.i .u8)⟩)]⟩)] false (.seq (.seq .no .no) (.seq .no .no))))) .no) (.seq (.seq .no (.cond .no .no)) .no)))))) (.seq .no (.cond .no .no))))))))) .no))))) func27 mixed ctabOk_nil (by kernel_rfl) fun x => by kernel_rfl

-- loop.example/g00460/impl.Unpacked
def F28_b0 (K : Nat) (x : (List UInt8) × Int × List Int) : Option (((List UInt8) × Int × List Int) ⊕ (((List UInt8) × Bool) ⊕ (List Int))) :=
  branch (decide (x.2.1 < (x.1.length : Int)))
   (nth x.1 x.2.1 fun v0 =>
   bindO (bindO (branch (decide (128 < (w64 (v0.toNat : Int))))
        (some (x.1, w64 (x.2.1 + 1), w64 (v0.toNat : Int), decide ((w64 (x.2.1 + 1)) < (x.1.length : Int)), x.2.2))
        (some (x.1, w64 (x.2.1 + 1), w64 (v0.toNat : Int), false, x.2.2))) fun v1 =>
     branch v1.2.2.2.1
      (guard (decide (0 ≤ v1.2.1 ∧ v1.2.1 ≤ (w64 (v1.2.1 + 1)) ∧ (w64 (v1.2.1 + 1)) ≤ (v1.1.length : Int))) <|
      bindO (F55 K (subL v1.1 v1.2.1 (w64 (v1.2.1 + 1)), w64 (257 - v1.2.2.1))) fun v2 =>
      bindO (F45 K (v2, v1.2.2.2.2)) fun v3 =>
      some (.inr (v1.1, w64 (v1.2.1 + 1), v3.2.2)))
      (bindO (branch (decide (v1.2.2.1 < 128))
         (some (v1.1, v1.2.1, v1.2.2.1, decide ((w64 (v1.2.1 + v1.2.2.1)) < (v1.1.length : Int)), v1.2.2.2.2))
         (some (v1.1, v1.2.1, v1.2.2.1, false, v1.2.2.2.2))) fun v4 =>
      branch v4.2.2.2.1
       (guard (decide (0 ≤ v4.2.1 ∧ v4.2.1 ≤ (w64 ((w64 (v4.2.1 + v4.2.2.1)) + 1)) ∧ (w64 ((w64 (v4.2.1 + v4.2.2.1)) + 1)) ≤ (v4.1.length : Int))) <|
       bindO (F45 K (subL v4.1 v4.2.1 (w64 ((w64 (v4.2.1 + v4.2.2.1)) + 1)), v4.2.2.2.2)) fun v5 =>
       some (.inr (v4.1, w64 (v4.2.1 + (w64 (v4.2.2.1 + 1))), v5.2.2)))
       (some (.inl ([], false))))) fun v6 =>
   csO v6
    (fun v7 => some (.inr (.inl v7)))
    (fun v8 => bindO (F56 K v8.2.2) fun v9 =>
    branch (decide (20000 < v9.1))
     (some (.inr (.inl ([], false))))
     (some (.inl (v8.1, v8.2.1, v9.2)))))
   (some (.inr (.inr x.2.2)))
def F28 (K : Nat) (x : List UInt8) : Option ((List UInt8) × Bool) :=
  branch (decide (40000 < (x.length : Int)))
   (some ([], false))
   (bindO (iter K (F28_b0 K) (x, 0, [])) fun v0 =>
   csO v0
    (fun v1 => some v1)
    (fun v2 => bindO (F47 K v2) fun v3 =>
    some (v3.1, true)))
def ct28 (K : Nat) : Ct := ⟨[.l (.v .s)], [], [.l (.v .s), .l (.v .b)], [], [], F28 K⟩
theorem c28 (K : Nat) : CtOk prog 28 (ct28 K) :=
  con_mk (Y := Y) (L := [(55, ct55 K), (45, ct45 K), (47, ct47 K), (56, ct56 K)]) (K := K) (an := (.seq .no (.seq (.seq .no (.cond .no .no)) (.seq .no (.seq (.seq (.reg [] [(0, .vcell 5000 1 5050 1 (.y 5))]) (.blk (.loop [] ⟨(.l (.v .s) :: ru 3 (.l (.ptr 5000 0 0) :: .l (.v (.i .i64)) :: ru 60 [])), [(5050, ⟨1, true, .row (.y 5)⟩), (5000, ⟨2, false, .mix (some 69) [[.l (.pon 5000 0 0), .l (.bb 5050)]]⟩)]⟩ [(0, ⟨(ru 4 (.l (.ptr 5000 0 0) :: ru 61 [])), [(5050, ⟨1, true, .row (.y 5)⟩), (5000, ⟨2, false, .mix (some 69) [[.l (.pon 5000 0 0), .l (.bb 5050)]]⟩)]⟩)] true (.seq (.seq .no .no) (.blk (.seq .no (.seq .no (.seqJ [(1000000, ⟨(.l (.v .s) :: ru 3 (.l (.ptr 5000 0 0) :: .l (.v (.i .i64)) :: ru 60 [])), [(5050, ⟨1, true, .row (.y 5)⟩), (5000, ⟨2, false, .mix (some 69) [[.l (.pon 5000 0 0), .l (.bb 5050)]]⟩)]⟩)] true (.blk (.seqJ [(1000000, ⟨(.l (.v .s) :: ru 3 (.l (.ptr 5000 0 0) :: .l (.v (.i .i64)) :: .l (.v (.i .i64)) :: ru 13 (.l (.v .b) :: ru 45 []))), [(5050, ⟨1, true, .row (.y 5)⟩), (5000, ⟨2, false, .mix (some 69) [[.l (.pon 5000 0 0), .l (.bb 5050)]]⟩)]⟩)] false .no (.cond .no (.seqJ [(1000000, ⟨(.l (.v .s) :: ru 3 (.l (.ptr 5000 0 0) :: .l (.v (.i .i64)) :: .l (.v (.i .i64)) :: ru 33 (.l (.v .b) :: ru 25 []))), [(5050, ⟨1, true, .row (.y 5)⟩), (5000, ⟨2, false, .mix (some 69) [[.l (.pon 5000 0 0), .l (.bb 5050)]]⟩)]⟩)] false .no (.cond .no .no))))) (.seq .no (.cond .no .no)))))))))) .no))))) func28 mixed (ctabOk_cons (c55 K) (ctabOk_cons (c45 K) (ctabOk_cons (c47 K) (ctabOk_cons (c56 K) ctabOk_nil)))) (by kernel_rfl) fun x => by kernel_rfl

-- loop.example/g00460/laws.FnExactUnpacked
def F9 (K : Nat) (x : List UInt8) : Option (Bool) :=
  branch (decide (1048576 < (x.length : Int)))
   (some true)
   (bindO (F27 K x) fun v0 =>
   bindO (F28 K x) fun v1 =>
   bindO (branch (!(decide (v1.1 = v0.1)))
      (some true)
      (some (!(decide (v1.2 = v0.2))))) fun v2 =>
   branch v2
    (some false)
    (some true))
def ct9 (K : Nat) : Ct := ⟨[.l (.v .s)], [], [.l (.v .b)], [], [], F9 K⟩
theorem c9 (K : Nat) : CtOk prog 9 (ct9 K) :=
  con_mk (Y := Y) (L := [(27, ct27 K), (28, ct28 K)]) (K := K) (an := (.seq .no (.seq (.seq .no (.cond .no .no)) (.seq .no (.seq .no (.seq (.seqJ [(1000000, ⟨(ru 27 (.l (.v .b) :: [])), []⟩)] false .no (.cond .no .no)) .no)))))) func9 mixed (ctabOk_cons (c27 K) (ctabOk_cons (c28 K) ctabOk_nil)) (by kernel_rfl) fun x => by kernel_rfl

-- loop.example/g00460/laws.big
def F22 (K : Nat) (x : List Int) : Option (Bool) :=
  some (decide (1048576 < (x.length : Int)))
def ct22 (K : Nat) : Ct := ⟨[.l (.v (.l (.i .u8)))], [], [.l (.v .b)], [], [], F22 K⟩
theorem c22 (K : Nat) : CtOk prog 22 (ct22 K) :=
  con_mk (Y := Y) (L := []) (K := K) (an := (.seq .no .no)) func22 mixed ctabOk_nil (by kernel_rfl) fun x => by kernel_rfl

-- loop.example/g00460/spec.l1Open
def F50 (K : Nat) (x : List Int) : Option ((List Int) × Int) :=
  some (x, 0)
def ct50 (K : Nat) : Ct := ⟨[.l (.v (.l (.i .u8)))], [], [.l (.ptr 0 0 0)], [⟨2, false, .mix (some 102) [[.l (.v (.l (.i .u8))), .l (.v (.i .i64))]]⟩], [], F50 K⟩
theorem c50 (K : Nat) : CtOk prog 50 (ct50 K) :=
  con_mk (Y := Y) (L := []) (K := K) (an := (.seq .no .no)) func50 mixed ctabOk_nil (by kernel_rfl) fun x => by kernel_rfl

-- (*loop.example/g00460/spec.l1Rd).next
def F74 (K : Nat) (x : (List Int) × Int) : Option (Int × (List Int) × Int) :=
  branch (decide ((x.1.length : Int) ≤ x.2))
   (some (0, x))
   (nth x.1 (w64 ((w64 (x.2 + 1)) - 1)) fun v0 =>
   some (w64 v0, x.1, w64 (x.2 + 1)))
def ct74 (K : Nat) : Ct := ⟨[.l (.ptr 0 0 0)], [⟨2, false, .mix (some 102) [[.l (.v (.l (.i .u8))), .l (.v (.i .i64))]]⟩], [.l (.v (.i .i64))], [⟨2, false, .mix (some 102) [[.l (.v (.l (.i .u8))), .l (.v (.i .i64))]]⟩], [], F74 K⟩
theorem c74 (K : Nat) : CtOk prog 74 (ct74 K) :=
  con_mk (Y := Y) (L := []) (K := K) (an := (.seq .no (.seq (.seq .no (.cond .no .no)) (.seq .no .no)))) func74 mixed ctabOk_nil (by kernel_rfl) fun x => by kernel_rfl

-- (*loop.example/g00460/spec.l1Rd).below
def F52 (K : Nat) (x : Int × (List Int) × Int) : Option (Int × (List Int) × Int) :=
  branch (decide (x.1 ≤ 1))
   (some (0, x.2))
   (branch (decide (x.1 ≤ 256))
    (bindO (F74 K x.2) fun v0 =>
    guard (!(decide (x.1 = 0))) <|
    some (Int.tmod v0.1 x.1, v0.2))
    (bindO (F74 K x.2) fun v1 =>
    bindO (F74 K v1.2) fun v2 =>
    guard (!(decide (x.1 = 0))) <|
    some (Int.tmod (w64 ((w64 (v1.1 * 256)) + v2.1)) x.1, v2.2)))
def ct52 (K : Nat) : Ct := ⟨[.l (.ptr 0 0 0), .l (.v (.i .i64))], [⟨2, false, .mix (some 102) [[.l (.v (.l (.i .u8))), .l (.v (.i .i64))]]⟩], [.l (.v (.i .i64))], [⟨2, false, .mix (some 102) [[.l (.v (.l (.i .u8))), .l (.v (.i .i64))]]⟩], [], F52 K⟩
theorem c52 (K : Nat) : CtOk prog 52 (ct52 K) :=
  con_mk (Y := Y) (L := [(74, ct74 K)]) (K := K) (an := (.seq .no (.seq (.seq .no (.cond .no .no)) (.seq (.seq .no (.cond .no .no)) (.seq .no (.seq .no .no)))))) func52 mixed (ctabOk_cons (c74 K) ctabOk_nil) (by kernel_rfl) fun x => by kernel_rfl

-- (*loop.example/g00460/spec.l1Rd).once
def F57 (K : Nat) (x : Int × (List Int) × Int) : Option (Bool × (List Int) × Int) :=
  bindO (F52 K x) fun v0 =>
  some (decide (v0.1 = (w64 (x.1 - 1))), v0.2)
def ct57 (K : Nat) : Ct := ⟨[.l (.ptr 0 0 0), .l (.v (.i .i64))], [⟨2, false, .mix (some 102) [[.l (.v (.l (.i .u8))), .l (.v (.i .i64))]]⟩], [.l (.v .b)], [⟨2, false, .mix (some 102) [[.l (.v (.l (.i .u8))), .l (.v (.i .i64))]]⟩], [], F57 K⟩
theorem c57 (K : Nat) : CtOk prog 57 (ct57 K) :=
  con_mk (Y := Y) (L := [(52, ct52 K)]) (K := K) (an := (.seq .no .no)) func57 mixed (ctabOk_cons (c52 K) ctabOk_nil) (by kernel_rfl) fun x => by kernel_rfl

-- loop.example/g00460/spec.DrawPackedOf
def F29_b1 (K : Nat) (x : Int × Int × Int × Int × (List Int) × (List Int) × Int) : Option ((Int × Int × Int × Int × (List Int) × (List Int) × Int) ⊕ (Int × (List Int) × (List Int) × Int)) :=
  branch (decide (x.2.2.2.1 < x.2.2.1))
   (guard (fitN (x.2.2.2.2.1.length + [x.2.1].length) 1) <|
   some (.inl (x.1, x.2.1, x.2.2.1, w64 (x.2.2.2.1 + 1), x.2.2.2.2.1 ++ [x.2.1], x.2.2.2.2.2)))
   (some (.inr (x.1, x.2.2.2.2)))
def F29_b0 (K : Nat) (x : Int × (List Int) × (List Int) × Int) : Option ((Int × (List Int) × (List Int) × Int) ⊕ (List Int)) :=
  branch (decide (0 < x.1))
   (bindO (F52 K (4, x.2.2)) fun v0 =>
   bindO (F52 K (8, v0.2)) fun v1 =>
   guard (decide (0 ≤ v1.1 ∧ v1.1 < (8 : Int))) <|
   nthN [1, 2, 3, 4, 127, 128, 129, 130] v1.1.toNat fun v2 =>
   bindO (bindO (F57 K (2, v1.2)) fun v3 =>
     branch v3.1
      (bindO (F52 K (4, v3.2)) fun v4 =>
      some (x.1, w8 v0.1, w64 (1 + v4.1), x.2.1, v4.2))
      (some (x.1, w8 v0.1, v2, x.2.1, v3.2))) fun v5 =>
   bindO (iter K (F29_b1 K) (v5.1, v5.2.1, v5.2.2.1, 0, v5.2.2.2)) fun v6 =>
   some (.inl (w64 (v6.1 - 1), v6.2)))
   (some (.inr x.2.1))
def F29 (K : Nat) (x : List Int) : Option (List UInt8) :=
  bindO (F50 K x) fun v0 =>
  bindO (F52 K (8, v0)) fun v1 =>
  bindO (iter K (F29_b0 K) (v1.1, [], v1.2)) fun v2 =>
  some (toB v2)
def ct29 (K : Nat) : Ct := ⟨[.l (.v (.l (.i .u8)))], [], [.l (.v .s)], [], [], F29 K⟩
theorem c29 (K : Nat) : CtOk prog 29 (ct29 K) :=
  con_mk (Y := Y) (L := [(50, ct50 K), (52, ct52 K), (57, ct57 K)]) (K := K) (an := (.seq .no (.seq .no (.seq .no (.seq (.seq .no (.blk (.loop [] ⟨(ru 3 (.l (.ptr 11000 0 0) :: .l (.all 12000) :: .l (.v (.i .i64)) :: ru 36 [])), [(12000, ⟨1, true, .row (.i .u8)⟩), (11000, ⟨2, false, .mix (some 102) [[.l (.v (.l (.i .u8))), .l (.v (.i .i64))]]⟩)]⟩ [(0, ⟨(ru 4 (.l (.all 12000) :: ru 37 [])), [(12000, ⟨1, true, .row (.i .u8)⟩)]⟩)] false (.seq (.seq .no .no) (.seq (.blk (.seq .no (.seq .no (.seqJ [(1000000, ⟨(ru 3 (.l (.ptr 11000 0 0) :: .l (.all 12000) :: .l (.v (.i .i64)) :: .l (.v (.i .u8)) :: .l (.v (.i .i64)) :: ru 34 [])), [(12000, ⟨1, true, .row (.i .u8)⟩), (11000, ⟨2, false, .mix (some 102) [[.l (.v (.l (.i .u8))), .l (.v (.i .i64))]]⟩)]⟩)] false (.seq .no .no) (.seq .no (.blk (.loop [] ⟨(ru 3 (.l (.ptr 11000 0 0) :: .l (.all 12000) :: .l (.v (.i .i64)) :: .l (.v (.i .u8)) :: .l (.v (.i .i64)) :: .l (.v (.i .i64)) :: ru 33 [])), [(12000, ⟨1, true, .row (.i .u8)⟩), (11000, ⟨2, false, .mix (some 102) [[.l (.v (.l (.i .u8))), .l (.v (.i .i64))]]⟩)]⟩ [(2, ⟨(ru 3 (.l (.ptr 11000 0 0) :: .l (.all 12000) :: .l (.v (.i .i64)) :: ru 36 [])), [(12000, ⟨1, true, .row (.i .u8)⟩), (11000, ⟨2, false, .mix (some 102) [[.l (.v (.l (.i .u8))), .l (.v (.i .i64))]]⟩)]⟩)] false (.seq (.seq .no .no) (.seq .no .no))))))))) .no))))) .no))))) func29 mixed (ctabOk_cons (c50 K) (ctabOk_cons (c52 K) (ctabOk_cons (c57 K) ctabOk_nil))) (by kernel_rfl) fun x => by kernel_rfl

-- loop.example/g00460/laws.FnPacked
def F10 (K : Nat) (x : List Int) : Option (Bool) :=
  bindO (F22 K x) fun v0 =>
  branch v0
   (some true)
   (bindO (F29 K x) fun v1 =>
   bindO (F19 K v1) fun v2 =>
   bindO (F18 K v1) fun v3 =>
   bindO (bindO (branch (!(decide (v2.2 = v3.2)))
        (some (v1, v2.1, v2.2, v3.1, v3.2, true))
        (branch (!(decide (v2.1 = v3.1)))
         (some (v1, v2.1, v2.2, v3.1, v3.2, true))
         (some (v1, v2.1, v2.2, v3.1, v3.2, !v2.2)))) fun v4 =>
     branch v4.2.2.2.2.2
      (branch (decide (v4.2.2.1 = v4.2.2.2.2.1))
       (some (.inl (decide (v4.2.1 = v4.2.2.2.1))))
       (some (.inl false)))
      (some (.inr (v4.1, v4.2.1)))) fun v5 =>
   csO v5
    (fun v6 => some v6)
    (fun v7 => bindO (F28 K v7.2) fun v8 =>
    branch v8.2
     (branch (decide (v8.1 = v7.1))
      (some (decide ((v7.2.length : Int) ≤ (w64 ((w64 ((v7.1.length : Int) + (w64 (Int.tdiv (v7.1.length : Int) 128)))) + 1)))))
      (some false))
     (some false)))
def ct10 (K : Nat) : Ct := ⟨[.l (.v (.l (.i .u8)))], [], [.l (.v .b)], [], [], F10 K⟩
theorem c10 (K : Nat) : CtOk prog 10 (ct10 K) :=
  con_mk (Y := Y) (L := [(18, ct18 K), (19, ct19 K), (28, ct28 K), (22, ct22 K), (29, ct29 K)]) (K := K) (an := (.seq .no (.seq (.seq .no (.cond .no .no)) (.seq .no (.seq .no (.seq .no (.seqJ [(1000000, ⟨(ru 3 (.l (.v .s) :: .l (.v .s) :: ru 62 [])), []⟩)] true (.seqJ [(1000000, ⟨(ru 3 (.l (.v .s) :: .l (.v .s) :: .l (.v .b) :: .l (.v .s) :: .l (.v .b) :: ru 27 (.l (.v .b) :: ru 31 []))), []⟩)] false .no (.cond .no .no)) (.seq .no .no)))))))) func10 mixed (ctabOk_cons (c18 K) (ctabOk_cons (c19 K) (ctabOk_cons (c28 K) (ctabOk_cons (c22 K) (ctabOk_cons (c29 K) ctabOk_nil))))) (by kernel_rfl) fun x => by kernel_rfl

-- (*loop.example/g00460/spec.l1Rd).hurt
def F70 (K : Nat) (x : (List UInt8) × (List Int) × Int) : Option ((List UInt8) × (List Int) × Int) :=
  bindO (F52 K (6, x.2)) fun v0 =>
  branch (decide (v0.1 = 1))
   (bindO (F52 K (w64 ((x.1.length : Int) + 1), v0.2)) fun v1 =>
   guard (decide (0 ≤ v1.1 ∧ v1.1 ≤ (x.1.length : Int))) <|
   some (tkL x.1 v1.1, v1.2))
   (branch (decide (v0.1 = 2))
    (branch (decide (0 < (x.1.length : Int)))
     (bindO (F52 K ((x.1.length : Int), v0.2)) fun v2 =>
     guard (decide (0 ≤ v2.1 ∧ v2.1 ≤ (x.1.length : Int))) <|
     bindO (F52 K (6, v2.2)) fun v3 =>
     nth [[48], [97], [32], [44], [36], [43]] v3.1 fun v4 =>
     guard (decide ((((tkL x.1 v2.1).length) + v4.length) ≤ 9223372036854775807)) <|
     guard (decide (0 ≤ (w64 (v2.1 + 1)) ∧ (w64 (v2.1 + 1)) ≤ (x.1.length : Int))) <|
     guard (decide (((((tkL x.1 v2.1) ++ v4).length) + ((dpL x.1 (w64 (v2.1 + 1))).length)) ≤ 9223372036854775807)) <|
     some (((tkL x.1 v2.1) ++ v4) ++ (dpL x.1 (w64 (v2.1 + 1))), v3.2))
     (some (x.1, v0.2)))
    (branch (decide (v0.1 = 3))
     (bindO (F52 K (3, v0.2)) fun v5 =>
     guard (decide (0 ≤ v5.1 ∧ v5.1 < (3 : Int))) <|
     nthN [[32], [48], [120]] v5.1.toNat fun v6 =>
     guard (decide ((x.1.length + v6.length) ≤ 9223372036854775807)) <|
     some (x.1 ++ v6, v5.2))
     (some (x.1, v0.2))))
def ct70 (K : Nat) : Ct := ⟨[.l (.ptr 0 0 0), .l (.v .s)], [⟨2, false, .mix (some 102) [[.l (.v (.l (.i .u8))), .l (.v (.i .i64))]]⟩], [.l (.v .s)], [⟨2, false, .mix (some 102) [[.l (.v (.l (.i .u8))), .l (.v (.i .i64))]]⟩], [], F70 K⟩
theorem c70 (K : Nat) : CtOk prog 70 (ct70 K) :=
  con_mk (Y := Y) (L := [(52, ct52 K)]) (K := K) (an := (.seq .no (.seq (.seq .no (.blk (.seq .no (.cond .no (.seq .no (.cond (.seq .no (.cond (.seq .no (.seq (.reg [3] []) .no)) .no)) (.seq .no (.cond .no .no)))))))) .no))) func70 mixed (ctabOk_cons (c52 K) ctabOk_nil) (by kernel_rfl) fun x => by kernel_rfl

-- loop.example/g00460/spec.DrawUnpacked
def F36 (K : Nat) (x : List Int) : Option (List UInt8) :=
  bindO (F50 K x) fun v0 =>
  bindO (F29 K x) fun v1 =>
  bindO (F18 K v1) fun v2 =>
  bindO (F57 K (3, v0)) fun v3 =>
  branch v3.1
   (bindO (F70 K (v2.1, v3.2)) fun v4 =>
   some v4.1)
   (some v2.1)
def ct36 (K : Nat) : Ct := ⟨[.l (.v (.l (.i .u8)))], [], [.l (.v .s)], [], [], F36 K⟩
theorem c36 (K : Nat) : CtOk prog 36 (ct36 K) :=
  con_mk (Y := Y) (L := [(18, ct18 K), (50, ct50 K), (57, ct57 K), (29, ct29 K), (70, ct70 K)]) (K := K) (an := (.seq .no (.seq .no (.seq .no (.seq (.seq .no (.cond .no .no)) .no))))) func36 mixed (ctabOk_cons (c18 K) (ctabOk_cons (c50 K) (ctabOk_cons (c57 K) (ctabOk_cons (c29 K) (ctabOk_cons (c70 K) ctabOk_nil))))) (by kernel_rfl) fun x => by kernel_rfl

-- loop.example/g00460/laws.FnUnpacked
def F12 (K : Nat) (x : List Int) : Option (Bool) :=
  bindO (F22 K x) fun v0 =>
  branch v0
   (some true)
   (bindO (F36 K x) fun v1 =>
   bindO (F28 K v1) fun v2 =>
   bindO (F27 K v1) fun v3 =>
   bindO (bindO (branch (!(decide (v2.2 = v3.2)))
        (some (v2.1, v2.2, v3.1, v3.2, true))
        (branch (!(decide (v2.1 = v3.1)))
         (some (v2.1, v2.2, v3.1, v3.2, true))
         (some (v2.1, v2.2, v3.1, v3.2, !v2.2)))) fun v4 =>
     branch v4.2.2.2.2
      (branch (decide (v4.2.1 = v4.2.2.2.1))
       (some (.inl (decide (v4.1 = v4.2.2.1))))
       (some (.inl false)))
      (some (.inr v4.1))) fun v5 =>
   csO v5
    (fun v6 => some v6)
    (fun v7 => bindO (F19 K v7) fun v8 =>
    bindO (F28 K v8.1) fun v9 =>
    branch v8.2
     (branch v9.2
      (some (decide (v9.1 = v7)))
      (some false))
     (some false)))
def ct12 (K : Nat) : Ct := ⟨[.l (.v (.l (.i .u8)))], [], [.l (.v .b)], [], [], F12 K⟩
theorem c12 (K : Nat) : CtOk prog 12 (ct12 K) :=
  con_mk (Y := Y) (L := [(19, ct19 K), (27, ct27 K), (28, ct28 K), (22, ct22 K), (36, ct36 K)]) (K := K) (an := (.seq .no (.seq (.seq .no (.cond .no .no)) (.seq .no (.seq .no (.seq .no (.seqJ [(1000000, ⟨(ru 4 (.l (.v .s) :: ru 60 [])), []⟩)] true (.seqJ [(1000000, ⟨(ru 4 (.l (.v .s) :: .l (.v .b) :: .l (.v .s) :: .l (.v .b) :: ru 29 (.l (.v .b) :: ru 27 []))), []⟩)] false .no (.cond .no .no)) (.seq .no (.seq .no .no))))))))) func12 mixed (ctabOk_cons (c19 K) (ctabOk_cons (c27 K) (ctabOk_cons (c28 K) (ctabOk_cons (c22 K) (ctabOk_cons (c36 K) ctabOk_nil))))) (by kernel_rfl) fun x => by kernel_rfl

def T9 : Ty := .s
theorem tl9 : tyL prog 64 9 = some T9 := by kernel_rfl
def A4 (K : Nat) (a0 : T9.den) : Option Bool := F4 K a0
theorem fun4 (K : Nat) (a0 : T9.den) : funOf (ct4 K) [.d (.str a0)] [] = bindO (A4 K a0) fun r => some ([.d (.b r)], []) := by kernel_rfl
def A9 (K : Nat) (a0 : T9.den) : Option Bool := F9 K a0
theorem fun9 (K : Nat) (a0 : T9.den) : funOf (ct9 K) [.d (.str a0)] [] = bindO (A9 K a0) fun r => some ([.d (.b r)], []) := by kernel_rfl
def T34 : Ty := (.l (.i .u8))
theorem tl34 : tyL prog 64 34 = some T34 := by kernel_rfl
def A10 (K : Nat) (a0 : T34.den) : Option Bool := F10 K a0
theorem fun10 (K : Nat) (a0 : T34.den) : funOf (ct10 K) [.d (.rov (.i .u8) a0)] [] = bindO (A10 K a0) fun r => some ([.d (.b r)], []) := by kernel_rfl
def A12 (K : Nat) (a0 : T34.den) : Option Bool := F12 K a0
theorem fun12 (K : Nat) (a0 : T34.den) : funOf (ct12 K) [.d (.rov (.i .u8) a0)] [] = bindO (A12 K a0) fun r => some ([.d (.b r)], []) := by kernel_rfl

end Go.U.Try
