/- The functions that the law of PackedOf reaches, told. No condition. -/
import Derived.Test.YthiglohhocelfaaUYe
import Derived.Laws.Externs
import Derived.Test.YthiglohhocelfaaProg
set_option linter.unusedVariables false
set_option linter.unusedSimpArgs false
namespace Go.U.Try
open Go Go.U Go.Proofs Go.Proofs.Try
set_option maxRecDepth 100000
set_option linter.unusedVariables false
theorem ty3 : tyOf prog 3 = some ⟨.int .i64, 1, 8, [.i .i64 0], some (.i .i64)⟩ := by kernel_rfl
theorem ty9 : tyOf prog 9 = some ⟨.str, 1, 16, [.str []], some .s⟩ := by kernel_rfl
theorem ty34 : tyOf prog 34 = some ⟨.sl 5, 1, 24, [.emp], some (.l (.i .u8))⟩ := by kernel_rfl
theorem ty5 : tyOf prog 5 = some ⟨.int .u8, 1, 1, [.i .u8 0], some (.i .u8)⟩ := by kernel_rfl
theorem ty67 : tyOf prog 67 = some ⟨.ptr 69, 1, 8, [.nilp], none⟩ := by kernel_rfl
theorem ty69 : tyOf prog 69 = some ⟨.st [(0, (67, 1)), (1, (34, 1))], 2, 32, [.nilp, .emp], none⟩ := by kernel_rfl
theorem ty2 : tyOf prog 2 = some ⟨.int .i64, 1, 8, [.i .i64 0], some (.i .i64)⟩ := by kernel_rfl
theorem ty111 : tyOf prog 111 = some ⟨.up, 1, 8, [.nilp], none⟩ := by kernel_rfl
theorem ty100 : tyOf prog 100 = some ⟨.ptr 5, 1, 8, [.nilp], none⟩ := by kernel_rfl
theorem ty4 : tyOf prog 4 = some ⟨.bool, 1, 1, [.b false], some .b⟩ := by kernel_rfl
def Y : TT prog := mkTT _ (tys_cons ty3 (tys_cons ty9 (tys_cons ty34 (tys_cons ty5 (tys_cons ty67 (tys_cons ty69 (tys_cons ty2 (tys_cons ty111 (tys_cons ty100 (tys_cons ty4 tys_nil))))))))))
theorem mixed : prog.follows .mixedOrders = true := by kernel_rfl
def F86 (K : Nat) (x : List Int) : Option (List Int) := some x
def ct86 (K : Nat) : Ct := ⟨[.l (.ptr 0 0 0)], bldH 69 5 .nilp, [.l (.ptr 0 0 0)], bldH 69 5 .nilp, [], F86 K⟩
theorem c86 (K : Nat) : CtOk prog 86 (ct86 K) := ct_noEscape fun v w => by rw [run_callFunc_extern func86 (by kernel_rfl) (by kernel_rfl) (by kernel_rfl) (e := Extern.AbiNoEscape.same) (by kernel_rfl)]; rfl

-- (*strings.Builder).copyCheck
def F72A (K : Nat) (x : List Int) : Option (List Int) :=
  bindO (F86 K x) fun v0 =>
  some v0
def ct72A (K : Nat) : Ct := ⟨[.l (.ptr 0 0 0)], [⟨2, false, .mix (some 69) [[.l .nilp, .l (.bb 1)]]⟩, ⟨1, true, .row (.y 5)⟩], [], [⟨2, false, .mix (some 69) [[.l (.pon 0 0 0), .l (.bb 1)]]⟩, ⟨1, true, .row (.y 5)⟩], [], F72A K⟩
theorem c72A (K : Nat) : CtOk prog 72 (ct72A K) :=
  con_mk (Y := Y) (L := [(86, ct86 K)]) (K := K) (an := (.seq .no (.cond .no (.seq .no .no)))) func72 mixed (ctabOk_cons (c86 K) ctabOk_nil) (by kernel_rfl) fun x => by kernel_rfl

-- (*strings.Builder).copyCheck
def F72B (K : Nat) (x : List Int) : Option (List Int) :=
  some x
def ct72B (K : Nat) : Ct := ⟨[.l (.ptr 0 0 0)], [⟨2, false, .mix (some 69) [[.l (.ptr 0 0 0), .l (.bb 1)]]⟩, ⟨1, true, .row (.y 5)⟩], [], [⟨2, false, .mix (some 69) [[.l (.pon 0 0 0), .l (.bb 1)]]⟩, ⟨1, true, .row (.y 5)⟩], [], F72B K⟩
theorem c72B (K : Nat) : CtOk prog 72 (ct72B K) :=
  con_mk (Y := Y) (L := [(86, ct86 K)]) (K := K) (an := (.seq .no (.cond .no (.seq .no .no)))) func72 mixed (ctabOk_cons (c86 K) ctabOk_nil) (by kernel_rfl) fun x => by kernel_rfl

def F72 (K : Nat) (x : List Int) : Option (List Int) := some x
def ct72 (K : Nat) : Ct := ⟨[.l (.ptr 0 0 0)], bldH 69 5 (.pon 0 0 0), [], bldH 69 5 (.pon 0 0 0), [], F72 K⟩
theorem c72 (K : Nat) : CtOk prog 72 (ct72 K) := ct_bld (ps := [.l (.ptr 0 0 0)]) (T := 69) (e := 5) (rs := []) (hr := bldH 69 5 (.pon 0 0 0)) (refs := []) (F := F72 K) (c72A K) (c72B K)

-- (*strings.Builder).WriteString
def F45 (K : Nat) (x : (List UInt8) × List Int) : Option (Int × Bool × List Int) :=
  bindO (F72 K x.2) fun v0 =>
  guard (fitN (v0.length + ((ofB x.1).length)) 1) <|
  some ((x.1.length : Int), false, v0 ++ (ofB x.1))
def ct45 (K : Nat) : Ct := ⟨[.l (.ptr 0 0 0), .l (.v .s)], [⟨2, false, .mix (some 69) [[.l (.pon 0 0 0), .l (.bb 1)]]⟩, ⟨1, true, .row (.y 5)⟩], [.l (.v (.i .i64)), .l (.v .e)], [⟨2, false, .mix (some 69) [[.l (.pon 0 0 0), .l (.bb 1)]]⟩, ⟨1, true, .row (.y 5)⟩], [], F45 K⟩
theorem c45 (K : Nat) : CtOk prog 45 (ct45 K) :=
  con_mk (Y := Y) (L := [(72, ct72 K)]) (K := K) (an := (.seq .no (.seq .no (.seq .no .no)))) func45 mixed (ctabOk_cons (c72 K) ctabOk_nil) (by kernel_rfl) fun x => by kernel_rfl

-- (*strings.Builder).String
def F47 (K : Nat) (x : List Int) : Option ((List UInt8) × List Int) :=
  branch (decide (0 < x.length))
   (guard (decide ((x.length : Int) = (x.length : Int) ∧ 0 < x.length ∧ x.length ≤ 9223372036854775807)) <|
   some (toB x, x))
   (guard (decide ((x.length : Int) = 0)) <|
   some ([], x))
def ct47 (K : Nat) : Ct := ⟨[.l (.ptr 0 0 0)], [⟨2, false, .mix (some 69) [[.l (.pon 0 0 0), .l (.bb 1)]]⟩, ⟨1, true, .row (.y 5)⟩], [.l (.v .s)], [⟨2, false, .mix (some 69) [[.l (.pon 0 0 0), .l (.bb 1)]]⟩, ⟨1, true, .row (.y 5)⟩], [], F47 K⟩
theorem c47 (K : Nat) : CtOk prog 47 (ct47 K) :=
  con_mk (Y := Y) (L := []) (K := K) (an := (.seq .no (.seq (.reg [4, 10] []) .no))) func47 mixed ctabOk_nil (by kernel_rfl) fun x => by kernel_rfl

-- (*strings.Builder).Len
def F56 (K : Nat) (x : List Int) : Option (Int × List Int) :=
  some ((x.length : Int), x)
def ct56 (K : Nat) : Ct := ⟨[.l (.ptr 0 0 0)], [⟨2, false, .mix (some 69) [[.l (.pon 0 0 0), .l (.bb 1)]]⟩, ⟨1, true, .row (.y 5)⟩], [.l (.v (.i .i64))], [⟨2, false, .mix (some 69) [[.l (.pon 0 0 0), .l (.bb 1)]]⟩, ⟨1, true, .row (.y 5)⟩], [], F56 K⟩
theorem c56 (K : Nat) : CtOk prog 56 (ct56 K) :=
  con_mk (Y := Y) (L := []) (K := K) (an := (.seq .no .no)) func56 mixed ctabOk_nil (by kernel_rfl) fun x => by kernel_rfl

-- loop.example/g00460/spec.l15Run
def F43_b0 (K : Nat) (x : (List UInt8) × Int × Int) : Option (((List UInt8) × Int × Int) ⊕ Int) :=
  branch (decide ((w64 (x.2.1 + x.2.2)) < (x.1.length : Int)))
   (branch (decide (x.2.2 < 128))
    (nth x.1 (w64 (x.2.1 + x.2.2)) fun v0 =>
    nth x.1 x.2.1 fun v1 =>
    branch (decide ((v0.toNat : Int) = (v1.toNat : Int)))
     (some (.inl (x.1, x.2.1, w64 (x.2.2 + 1))))
     (some (.inr x.2.2)))
    (some (.inr x.2.2)))
   (some (.inr x.2.2))
def F43 (K : Nat) (x : (List UInt8) × Int) : Option (Int) :=
  bindO (iter K (F43_b0 K) (x.1, x.2, 1)) fun v0 =>
  some v0
def ct43 (K : Nat) : Ct := ⟨[.l (.v .s), .l (.v (.i .i64))], [], [.l (.v (.i .i64))], [], [], F43 K⟩
theorem c43 (K : Nat) : CtOk prog 43 (ct43 K) :=
  con_mk (Y := Y) (L := []) (K := K) (an := (.seq .no (.seq .no (.seq (.blk (.loop [] ⟨(.l (.v .s) :: .l (.v (.i .i64)) :: ru 3 (.l (.v (.i .i64)) :: ru 24 [])), []⟩ [(0, ⟨(ru 5 (.l (.v (.i .i64)) :: ru 24 [])), []⟩)] false (.seq (.seq .no .no) .no))) .no)))) func43 mixed ctabOk_nil (by kernel_rfl) fun x => by kernel_rfl

-- loop.example/g00460/spec.PackedOf
def F18_b1 (K : Nat) (x : (List UInt8) × (List UInt8) × Int × Int) : Option (((List UInt8) × (List UInt8) × Int × Int) ⊕ ((List UInt8) × (List UInt8) × Int × Int)) :=
  branch (decide (x.2.2.2 < (x.1.length : Int)))
   (branch (decide ((w64 (x.2.2.2 - x.2.2.1)) < 128))
    (bindO (F43 K (x.1, x.2.2.2)) fun v0 =>
    branch (decide (v0 < 3))
     (some (.inl (x.1, x.2.1, x.2.2.1, w64 (x.2.2.2 + 1))))
     (some (.inr x)))
    (some (.inr x)))
   (some (.inr x))
def F18_b0 (K : Nat) (x : (List UInt8) × (List UInt8) × Int) : Option (((List UInt8) × (List UInt8) × Int) ⊕ (List UInt8)) :=
  branch (decide (x.2.2 < (x.1.length : Int)))
   (bindO (F43 K (x.1, x.2.2)) fun v0 =>
   branch (decide (2 < v0))
    (nth x.1 x.2.2 fun v1 =>
    guard (decide ((x.2.1.length + ((toB [w8 (w64 (257 - v0)), (v1.toNat : Int)]).length)) ≤ 9223372036854775807)) <|
    some (.inl (x.1, x.2.1 ++ (toB [w8 (w64 (257 - v0)), (v1.toNat : Int)]), w64 (x.2.2 + v0))))
    (bindO (iter K (F18_b1 K) (x.1, x.2.1, x.2.2, x.2.2)) fun v2 =>
    guard (decide ((v2.2.1.length + ((toB [w8 (w64 ((w64 (v2.2.2.2 - v2.2.2.1)) - 1))]).length)) ≤ 9223372036854775807)) <|
    guard (decide (0 ≤ v2.2.2.1 ∧ v2.2.2.1 ≤ v2.2.2.2 ∧ v2.2.2.2 ≤ (v2.1.length : Int))) <|
    guard (decide ((((v2.2.1 ++ (toB [w8 (w64 ((w64 (v2.2.2.2 - v2.2.2.1)) - 1))])).length) + ((subL v2.1 v2.2.2.1 v2.2.2.2).length)) ≤ 9223372036854775807)) <|
    some (.inl (v2.1, (v2.2.1 ++ (toB [w8 (w64 ((w64 (v2.2.2.2 - v2.2.2.1)) - 1))])) ++ (subL v2.1 v2.2.2.1 v2.2.2.2), v2.2.2.2))))
   (some (.inr x.2.1))
def F18 (K : Nat) (x : List UInt8) : Option ((List UInt8) × Bool) :=
  branch (decide (20000 < (x.length : Int)))
   (some ([], false))
   (bindO (iter K (F18_b0 K) (x, [], 0)) fun v0 =>
   some (v0, true))
def ct18 (K : Nat) : Ct := ⟨[.l (.v .s)], [], [.l (.v .s), .l (.v .b)], [], [], F18 K⟩
theorem c18 (K : Nat) : CtOk prog 18 (ct18 K) :=
  con_mk (Y := Y) (L := [(43, ct43 K)]) (K := K) (an := (.seq .no (.seq (.seq .no (.cond .no .no)) (.seq .no (.seq (.seq .no (.blk (.loop [] ⟨(.l (.v .s) :: ru 3 (.l (.v .s) :: .l (.v (.i .i64)) :: ru 62 [])), []⟩ [(0, ⟨(ru 4 (.l (.v .s) :: ru 63 [])), []⟩)] false (.seq (.seq .no .no) (.blk (.seq .no (.seq (.seq .no (.cond (.seq .no .no) .no)) (.seq .no (.seq (.blk (.loop [] ⟨(.l (.v .s) :: ru 3 (.l (.v .s) :: .l (.v (.i .i64)) :: ru 1 (.l (.v (.i .i64)) :: ru 60 []))), []⟩ [(2, ⟨(.l (.v .s) :: ru 3 (.l (.v .s) :: .l (.v (.i .i64)) :: ru 1 (.l (.v (.i .i64)) :: ru 60 []))), []⟩)] false (.seq (.seq .no .no) .no))) (.seq (.reg [6] []) .no)))))))))) .no))))) func18 mixed (ctabOk_cons (c43 K) ctabOk_nil) (by kernel_rfl) fun x => by kernel_rfl

-- loop.example/g00460/impl.alikeAt
def F44_b0 (K : Nat) (x : (List UInt8) × Int × Int) : Option (((List UInt8) × Int × Int) ⊕ Int) :=
  branch (decide (x.2.2 < 128))
   (branch (decide ((w64 (x.2.1 + x.2.2)) < (x.1.length : Int)))
    (nth x.1 (w64 (x.2.1 + x.2.2)) fun v0 =>
    nth x.1 x.2.1 fun v1 =>
    branch (decide ((v0.toNat : Int) = (v1.toNat : Int)))
     (some (.inl (x.1, x.2.1, w64 (x.2.2 + 1))))
     (some (.inr x.2.2)))
    (some (.inr x.2.2)))
   (some (.inr x.2.2))
def F44 (K : Nat) (x : (List UInt8) × Int) : Option (Int) :=
  bindO (iter K (F44_b0 K) (x.1, x.2, 0)) fun v0 =>
  some v0
def ct44 (K : Nat) : Ct := ⟨[.l (.v .s), .l (.v (.i .i64))], [], [.l (.v (.i .i64))], [], [], F44 K⟩
theorem c44 (K : Nat) : CtOk prog 44 (ct44 K) :=
  con_mk (Y := Y) (L := []) (K := K) (an := (.seq .no (.seq .no (.seq (.blk (.loop [] ⟨(.l (.v .s) :: .l (.v (.i .i64)) :: ru 3 (.l (.v (.i .i64)) :: ru 24 [])), []⟩ [(0, ⟨(ru 5 (.l (.v (.i .i64)) :: ru 24 [])), []⟩)] false (.seq (.seq .no .no) .no))) .no)))) func44 mixed ctabOk_nil (by kernel_rfl) fun x => by kernel_rfl

-- loop.example/g00460/impl.bytesOf
def F46_b0 (K : Nat) (x : Int × Int × List Int) : Option ((Int × Int × List Int) ⊕ (List Int)) :=
  branch (decide (0 < x.2.1))
   (guard (fitN (x.2.2.length + [w8 x.1].length) 1) <|
   some (.inl (shrI Go.IntKind.i64 x.1 8, w64 (x.2.1 - 1), x.2.2 ++ [w8 x.1])))
   (some (.inr x.2.2))
def F46 (K : Nat) (x : Int × Int) : Option (List UInt8) :=
  bindO (iter K (F46_b0 K) (x.1, x.2, [])) fun v0 =>
  some (toB v0)
def ct46 (K : Nat) : Ct := ⟨[.l (.v (.i .i64)), .l (.v (.i .i64))], [], [.l (.v .s)], [], [], F46 K⟩
theorem c46 (K : Nat) : CtOk prog 46 (ct46 K) :=
  con_mk (Y := Y) (L := []) (K := K) (an := (.seq .no (.seq .no (.seq (.blk (.loop [] ⟨(.l (.v (.i .i64)) :: .l (.v (.i .i64)) :: ru 3 (.l (.all 7000) :: ru 14 [])), [(7000, ⟨1, true, .row (.i .u8)⟩)]⟩ [(0, ⟨(ru 5 (.l (.all 7000) :: ru 14 [])), [(7000, ⟨1, true, .row (.i .u8)⟩)]⟩)] false (.seq (.seq .no .no) (.seq (.blk .no) .no)))) .no)))) func46 mixed ctabOk_nil (by kernel_rfl) fun x => by kernel_rfl

-- loop.example/g00460/impl.PackedOf
def F19_b1 (K : Nat) (x : (List UInt8) × Int × Int × List Int) : Option (((List UInt8) × Int × Int × List Int) ⊕ ((List UInt8) × Int × Int × List Int)) :=
  branch (decide (x.2.2.1 < 128))
   (branch (decide ((w64 (x.2.1 + x.2.2.1)) < (x.1.length : Int)))
    (bindO (F44 K (x.1, w64 (x.2.1 + x.2.2.1))) fun v0 =>
    branch (decide (v0 < 3))
     (some (.inl (x.1, x.2.1, w64 (x.2.2.1 + 1), x.2.2.2)))
     (some (.inr x)))
    (some (.inr x)))
   (some (.inr x))
def F19_b0 (K : Nat) (x : (List UInt8) × Int × List Int) : Option (((List UInt8) × Int × List Int) ⊕ (List Int)) :=
  branch (decide (x.2.1 < (x.1.length : Int)))
   (bindO (F44 K (x.1, x.2.1)) fun v0 =>
   branch (decide (3 ≤ v0))
    (bindO (F46 K (w64 (257 - v0), 1)) fun v1 =>
    guard (decide (0 ≤ x.2.1 ∧ x.2.1 ≤ (w64 (x.2.1 + 1)) ∧ (w64 (x.2.1 + 1)) ≤ (x.1.length : Int))) <|
    guard (decide ((v1.length + ((subL x.1 x.2.1 (w64 (x.2.1 + 1))).length)) ≤ 9223372036854775807)) <|
    bindO (F45 K (v1 ++ (subL x.1 x.2.1 (w64 (x.2.1 + 1))), x.2.2)) fun v2 =>
    some (.inl (x.1, w64 (x.2.1 + v0), v2.2.2)))
    (bindO (iter K (F19_b1 K) (x.1, x.2.1, 1, x.2.2)) fun v3 =>
    bindO (F46 K (w64 (v3.2.2.1 - 1), 1)) fun v4 =>
    guard (decide (0 ≤ v3.2.1 ∧ v3.2.1 ≤ (w64 (v3.2.1 + v3.2.2.1)) ∧ (w64 (v3.2.1 + v3.2.2.1)) ≤ (v3.1.length : Int))) <|
    guard (decide ((v4.length + ((subL v3.1 v3.2.1 (w64 (v3.2.1 + v3.2.2.1))).length)) ≤ 9223372036854775807)) <|
    bindO (F45 K (v4 ++ (subL v3.1 v3.2.1 (w64 (v3.2.1 + v3.2.2.1))), v3.2.2.2)) fun v5 =>
    some (.inl (v3.1, w64 (v3.2.1 + v3.2.2.1), v5.2.2))))
   (some (.inr x.2.2))
def F19 (K : Nat) (x : List UInt8) : Option ((List UInt8) × Bool) :=
  branch (decide (20000 < (x.length : Int)))
   (some ([], false))
   (bindO (iter K (F19_b0 K) (x, 0, [])) fun v0 =>
   bindO (F47 K v0) fun v1 =>
   some (v1.1, true))
def ct19 (K : Nat) : Ct := ⟨[.l (.v .s)], [], [.l (.v .s), .l (.v .b)], [], [], F19 K⟩
theorem c19 (K : Nat) : CtOk prog 19 (ct19 K) :=
  con_mk (Y := Y) (L := [(45, ct45 K), (47, ct47 K), (44, ct44 K), (46, ct46 K)]) (K := K) (an := (.seq .no (.seq (.seq .no (.cond .no .no)) (.seq .no (.seq (.seq (.reg [] [(0, .vcell 5000 1 5050 1 (.y 5))]) (.blk (.loop [] ⟨(.l (.v .s) :: ru 3 (.l (.ptr 5000 0 0) :: .l (.v (.i .i64)) :: ru 61 [])), [(5050, ⟨1, true, .row (.y 5)⟩), (5000, ⟨2, false, .mix (some 69) [[.l (.pon 5000 0 0), .l (.bb 5050)]]⟩)]⟩ [(0, ⟨(ru 4 (.l (.ptr 5000 0 0) :: ru 62 [])), [(5050, ⟨1, true, .row (.y 5)⟩), (5000, ⟨2, false, .mix (some 69) [[.l (.pon 5000 0 0), .l (.bb 5050)]]⟩)]⟩)] false (.seq (.seq .no .no) (.blk (.seq .no (.seq (.seq .no (.cond (.seq .no .no) .no)) (.seq .no (.seq (.blk (.loop [] ⟨(.l (.v .s) :: ru 3 (.l (.ptr 5000 0 0) :: .l (.v (.i .i64)) :: .l (.v (.i .i64)) :: ru 60 [])), [(5050, ⟨1, true, .row (.y 5)⟩), (5000, ⟨2, false, .mix (some 69) [[.l (.pon 5000 0 0), .l (.bb 5050)]]⟩)]⟩ [(2, ⟨(.l (.v .s) :: ru 3 (.l (.ptr 5000 0 0) :: .l (.v (.i .i64)) :: .l (.v (.i .i64)) :: ru 60 [])), [(5050, ⟨1, true, .row (.y 5)⟩), (5000, ⟨2, false, .mix (some 69) [[.l (.pon 5000 0 0), .l (.bb 5050)]]⟩)]⟩)] false (.seq (.seq .no .no) .no))) .no))))))))) .no))))) func19 mixed (ctabOk_cons (c45 K) (ctabOk_cons (c47 K) (ctabOk_cons (c44 K) (ctabOk_cons (c46 K) ctabOk_nil)))) (by kernel_rfl) fun x => by kernel_rfl

-- loop.example/g00460/laws.FnExactPackedOf
def F4 (K : Nat) (x : List UInt8) : Option (Bool) :=
  branch (decide (1048576 < (x.length : Int)))
   (some true)
   (bindO (F18 K x) fun v0 =>
   bindO (F19 K x) fun v1 =>
   bindO (branch (!(decide (v1.1 = v0.1)))
      (some true)
      (some (!(decide (v1.2 = v0.2))))) fun v2 =>
   branch v2
    (some false)
    (some true))
def ct4 (K : Nat) : Ct := ⟨[.l (.v .s)], [], [.l (.v .b)], [], [], F4 K⟩
theorem c4 (K : Nat) : CtOk prog 4 (ct4 K) :=
  con_mk (Y := Y) (L := [(18, ct18 K), (19, ct19 K)]) (K := K) (an := (.seq .no (.seq (.seq .no (.cond .no .no)) (.seq .no (.seq .no (.seq (.seqJ [(1000000, ⟨(ru 27 (.l (.v .b) :: [])), []⟩)] false .no (.cond .no .no)) .no)))))) func4 mixed (ctabOk_cons (c18 K) (ctabOk_cons (c19 K) ctabOk_nil)) (by kernel_rfl) fun x => by kernel_rfl

def T9 : Ty := .s
theorem tl9 : tyL prog 64 9 = some T9 := by kernel_rfl
def A4 (K : Nat) (a0 : T9.den) : Option Bool := F4 K a0
theorem fun4 (K : Nat) (a0 : T9.den) : funOf (ct4 K) [.d (.str a0)] [] = bindO (A4 K a0) fun r => some ([.d (.b r)], []) := by kernel_rfl
end Go.U.Try
