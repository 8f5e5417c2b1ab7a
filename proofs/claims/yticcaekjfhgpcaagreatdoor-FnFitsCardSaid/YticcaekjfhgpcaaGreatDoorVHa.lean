/- A part of the proof. No condition. -/
import Derived.Test.YticcaekjfhgpcaaGreatDoorVHd
set_option linter.unusedVariables false
set_option linter.unusedSimpArgs false
set_option linter.unusedSectionVars false
namespace Go.U.Tryz
open Go Go.U Go.Proofs Go.Proofs.Tryz
set_option maxRecDepth 100000
theorem ty9 : tyOf prog 9 = some ⟨.str, 1, 16, [.str []], some .s⟩ := by kernel_rfl
theorem ty2 : tyOf prog 2 = some ⟨.int .i64, 1, 8, [.i .i64 0], some (.i .i64)⟩ := by kernel_rfl
theorem ty3 : tyOf prog 3 = some ⟨.int .i64, 1, 8, [.i .i64 0], some (.i .i64)⟩ := by kernel_rfl
theorem ty4 : tyOf prog 4 = some ⟨.bool, 1, 1, [.b false], some .b⟩ := by kernel_rfl
theorem ty54 : tyOf prog 54 = some ⟨.sl 9, 1, 24, [.emp], some (.l .s)⟩ := by kernel_rfl
theorem ty24 : tyOf prog 24 = some ⟨.sl 47, 1, 24, [.emp], some (.l (.c (.i .i64) (.c (.i .i64) .s)))⟩ := by kernel_rfl
theorem ty23 : tyOf prog 23 = some ⟨.st [(0, (2, 1)), (1, (4, 1)), (2, (2, 1))], 3, 24, [.i .i64 0, .b false, .i .i64 0], some (.c (.i .i64) (.c .b (.i .i64)))⟩ := by kernel_rfl
theorem ty47 : tyOf prog 47 = some ⟨.st [(0, (2, 1)), (1, (2, 1)), (2, (9, 1))], 3, 32, [.i .i64 0, .i .i64 0, .str []], some (.c (.i .i64) (.c (.i .i64) .s))⟩ := by kernel_rfl
theorem ty5 : tyOf prog 5 = some ⟨.int .u8, 1, 1, [.i .u8 0], some (.i .u8)⟩ := by kernel_rfl
theorem ty91 : tyOf prog 91 = some ⟨.st [(0, (9, 1)), (1, (3, 1)), (2, (24, 1)), (3, (4, 1))], 4, 56, [.str [], .i .i64 0, .emp, .b false], some (.c .s (.c (.i .i64) (.c (.l (.c (.i .i64) (.c (.i .i64) .s))) .b)))⟩ := by kernel_rfl
theorem ty49 : tyOf prog 49 = some ⟨.ptr 67, 1, 8, [.nilp], none⟩ := by kernel_rfl
theorem ty31 : tyOf prog 31 = some ⟨.sl 5, 1, 24, [.emp], some (.l (.i .u8))⟩ := by kernel_rfl
theorem ty99 : tyOf prog 99 = some ⟨.st [(0, (9, 1)), (1, (3, 1)), (2, (24, 1)), (3, (4, 1))], 4, 56, [.str [], .i .i64 0, .emp, .b false], some (.c .s (.c (.i .i64) (.c (.l (.c (.i .i64) (.c (.i .i64) .s))) .b)))⟩ := by kernel_rfl
theorem ty97 : tyOf prog 97 = some ⟨.ptr 99, 1, 8, [.nilp], none⟩ := by kernel_rfl
theorem ty89 : tyOf prog 89 = some ⟨.ptr 91, 1, 8, [.nilp], none⟩ := by kernel_rfl
theorem ty118 : tyOf prog 118 = some ⟨.int .u64, 1, 8, [.i .u64 0], some (.i .u64)⟩ := by kernel_rfl
theorem ty101 : tyOf prog 101 = some ⟨.sl 2, 1, 24, [.emp], some (.l (.i .i64))⟩ := by kernel_rfl
theorem ty171 : tyOf prog 171 = some ⟨.arr 65 5, 65, 65, [.i .u8 0, .i .u8 0, .i .u8 0, .i .u8 0, .i .u8 0, .i .u8 0, .i .u8 0, .i .u8 0, .i .u8 0, .i .u8 0, .i .u8 0, .i .u8 0, .i .u8 0, .i .u8 0, .i .u8 0, .i .u8 0, .i .u8 0, .i .u8 0, .i .u8 0, .i .u8 0, .i .u8 0, .i .u8 0, .i .u8 0, .i .u8 0, .i .u8 0, .i .u8 0, .i .u8 0, .i .u8 0, .i .u8 0, .i .u8 0, .i .u8 0, .i .u8 0, .i .u8 0, .i .u8 0, .i .u8 0, .i .u8 0, .i .u8 0, .i .u8 0, .i .u8 0, .i .u8 0, .i .u8 0, .i .u8 0, .i .u8 0, .i .u8 0, .i .u8 0, .i .u8 0, .i .u8 0, .i .u8 0, .i .u8 0, .i .u8 0, .i .u8 0, .i .u8 0, .i .u8 0, .i .u8 0, .i .u8 0, .i .u8 0, .i .u8 0, .i .u8 0, .i .u8 0, .i .u8 0, .i .u8 0, .i .u8 0, .i .u8 0, .i .u8 0, .i .u8 0], none⟩ := by kernel_rfl
theorem ty67 : tyOf prog 67 = some ⟨.st [(0, (31, 1)), (1, (3, 1))], 2, 32, [.emp, .i .i64 0], some (.c (.l (.i .u8)) (.i .i64))⟩ := by kernel_rfl
theorem ty120 : tyOf prog 120 = some ⟨.int .u64, 1, 8, [.i .u64 0], some (.i .u64)⟩ := by kernel_rfl
theorem ty136 : tyOf prog 136 = some ⟨.sl 54, 1, 24, [.emp], some (.l (.l .s))⟩ := by kernel_rfl
theorem ty147 : tyOf prog 147 = some ⟨.arr 24 5, 24, 24, [.i .u8 0, .i .u8 0, .i .u8 0, .i .u8 0, .i .u8 0, .i .u8 0, .i .u8 0, .i .u8 0, .i .u8 0, .i .u8 0, .i .u8 0, .i .u8 0, .i .u8 0, .i .u8 0, .i .u8 0, .i .u8 0, .i .u8 0, .i .u8 0, .i .u8 0, .i .u8 0, .i .u8 0, .i .u8 0, .i .u8 0, .i .u8 0], none⟩ := by kernel_rfl
theorem ty110 : tyOf prog 110 = some ⟨.sl 101, 1, 24, [.emp], some (.l (.l (.i .i64)))⟩ := by kernel_rfl
theorem ty94 : tyOf prog 94 = some ⟨.sl 4, 1, 24, [.emp], some (.l .b)⟩ := by kernel_rfl
def Y : TT prog := mkTT _ (tys_cons ty9 (tys_cons ty2 (tys_cons ty3 (tys_cons ty4 (tys_cons ty54 (tys_cons ty24 (tys_cons ty23 (tys_cons ty47 (tys_cons ty5 (tys_cons ty91 (tys_cons ty49 (tys_cons ty31 (tys_cons ty99 (tys_cons ty97 (tys_cons ty89 (tys_cons ty118 (tys_cons ty101 (tys_cons ty171 (tys_cons ty67 (tys_cons ty120 (tys_cons ty136 (tys_cons ty147 (tys_cons ty110 (tys_cons ty94 tys_nil)))))))))))))))))))))))) [23, 47, 91, 99, 67] (by kernel_rfl)
theorem mixed : prog.follows .mixedOrders = true := by kernel_rfl
-- internal/strconv.isPowerOfTwo
def F184 (K : Nat) (x : Int) : Option (Bool) :=
  some (decide ((Go.bits Go.BinOp.and Go.IntKind.i64 x (w64 (x - 1))) = 0))
def ct184 (K : Nat) : Ct := ⟨[.l (.v (.i .i64))], [], [.l (.v .b)], [], [], F184 K⟩
theorem c184 (K : Nat) : CtOk prog 184 (ct184 K) :=
  con_mk (Y := Y) (L := []) (K := K) (an := (.seq .no .no)) func184 mixed ctabOk_nil (by kernel_rfl) fun x => by kernel_rfl
-- internal/strconv.formatBits
def F159h_b0 (K : Nat) (x : (List Int) × Int × Bool × Bool × (List Int) × (List UInt8) × Int × Int × Int × Int × List Int) : Option (((List Int) × Int × Bool × Bool × (List Int) × (List UInt8) × Int × Int × Int × Int × List Int) ⊕ ((List Int) × Int × Bool × Bool × (List Int) × (List UInt8) × Int × List Int)) :=
  branch (decide (x.2.2.2.2.2.2.2.2.1 ≤ x.2.1))
   (nth ([48, 49, 50, 51, 52, 53, 54, 55, 56, 57, 97, 98, 99, 100, 101, 102, 103, 104, 105, 106, 107, 108, 109, 110, 111, 112, 113, 114, 115, 116, 117, 118, 119, 120, 121, 122] : List UInt8) (Go.bits Go.BinOp.and Go.IntKind.u64 x.2.1 x.2.2.2.2.2.2.2.2.2.1) fun v0 =>
   guard (decide (0 ≤ (w64 (x.2.2.2.2.2.2.1 - 1)) ∧ (w64 (x.2.2.2.2.2.2.1 - 1)) < 65)) <|
   nthN x.2.2.2.2.2.2.2.2.2.2 (0 + ((w64 (x.2.2.2.2.2.2.1 - 1)).toNat)) fun v1 =>
   guard (decide (0 ≤ x.2.2.2.2.2.2.2.1)) <|
   some (.inl (x.1, shrI Go.IntKind.u64 x.2.1 x.2.2.2.2.2.2.2.1, x.2.2.1, x.2.2.2.1, x.2.2.2.2.1, x.2.2.2.2.2.1, w64 (x.2.2.2.2.2.2.1 - 1), x.2.2.2.2.2.2.2.1, x.2.2.2.2.2.2.2.2.1, x.2.2.2.2.2.2.2.2.2.1, List.set x.2.2.2.2.2.2.2.2.2.2 (0 + ((w64 (x.2.2.2.2.2.2.1 - 1)).toNat)) (v0.toNat : Int))))
   (some (.inr (x.1, x.2.1, x.2.2.1, x.2.2.2.1, x.2.2.2.2.1, x.2.2.2.2.2.1, x.2.2.2.2.2.2.1, x.2.2.2.2.2.2.2.2.2.2)))
def F159h_b1 (K : Nat) (x : (List Int) × Int × Bool × Bool × (List Int) × (List UInt8) × Int × Int × List Int) : Option (((List Int) × Int × Bool × Bool × (List Int) × (List UInt8) × Int × Int × List Int) ⊕ ((List Int) × Int × Bool × Bool × (List Int) × (List UInt8) × Int × List Int)) :=
  branch (decide (x.2.2.2.2.2.2.2.1 ≤ x.2.1))
   (guard (!(decide (x.2.2.2.2.2.2.2.1 = 0))) <|
   nth ([48, 49, 50, 51, 52, 53, 54, 55, 56, 57, 97, 98, 99, 100, 101, 102, 103, 104, 105, 106, 107, 108, 109, 110, 111, 112, 113, 114, 115, 116, 117, 118, 119, 120, 121, 122] : List UInt8) (w64u (x.2.1 - (w64u ((w64u (Int.tdiv x.2.1 x.2.2.2.2.2.2.2.1)) * x.2.2.2.2.2.2.2.1)))) fun v0 =>
   guard (decide (0 ≤ (w64 (x.2.2.2.2.2.2.1 - 1)) ∧ (w64 (x.2.2.2.2.2.2.1 - 1)) < 65)) <|
   nthN x.2.2.2.2.2.2.2.2 (0 + ((w64 (x.2.2.2.2.2.2.1 - 1)).toNat)) fun v1 =>
   some (.inl (x.1, w64u (Int.tdiv x.2.1 x.2.2.2.2.2.2.2.1), x.2.2.1, x.2.2.2.1, x.2.2.2.2.1, x.2.2.2.2.2.1, w64 (x.2.2.2.2.2.2.1 - 1), x.2.2.2.2.2.2.2.1, List.set x.2.2.2.2.2.2.2.2 (0 + ((w64 (x.2.2.2.2.2.2.1 - 1)).toNat)) (v0.toNat : Int))))
   (some (.inr (x.1, x.2.1, x.2.2.1, x.2.2.2.1, x.2.2.2.2.1, x.2.2.2.2.2.1, x.2.2.2.2.2.2.1, x.2.2.2.2.2.2.2.2)))
def F159h_b2 (K : Nat) (x : (List Int) × Int × Bool × Bool × (List Int) × (List UInt8) × Int × Int × Int × Int × List Int) : Option (((List Int) × Int × Bool × Bool × (List Int) × (List UInt8) × Int × Int × Int × Int × List Int) ⊕ ((List Int) × Int × Bool × Bool × (List Int) × (List UInt8) × Int × List Int)) :=
  branch (decide (x.2.2.2.2.2.2.2.2.1 ≤ x.2.1))
   (nth ([48, 49, 50, 51, 52, 53, 54, 55, 56, 57, 97, 98, 99, 100, 101, 102, 103, 104, 105, 106, 107, 108, 109, 110, 111, 112, 113, 114, 115, 116, 117, 118, 119, 120, 121, 122] : List UInt8) (Go.bits Go.BinOp.and Go.IntKind.u64 x.2.1 x.2.2.2.2.2.2.2.2.2.1) fun v0 =>
   guard (decide (0 ≤ (w64 (x.2.2.2.2.2.2.1 - 1)) ∧ (w64 (x.2.2.2.2.2.2.1 - 1)) < 65)) <|
   nthN x.2.2.2.2.2.2.2.2.2.2 (0 + ((w64 (x.2.2.2.2.2.2.1 - 1)).toNat)) fun v1 =>
   guard (decide (0 ≤ x.2.2.2.2.2.2.2.1)) <|
   some (.inl (x.1, shrI Go.IntKind.u64 x.2.1 x.2.2.2.2.2.2.2.1, x.2.2.1, x.2.2.2.1, x.2.2.2.2.1, x.2.2.2.2.2.1, w64 (x.2.2.2.2.2.2.1 - 1), x.2.2.2.2.2.2.2.1, x.2.2.2.2.2.2.2.2.1, x.2.2.2.2.2.2.2.2.2.1, List.set x.2.2.2.2.2.2.2.2.2.2 (0 + ((w64 (x.2.2.2.2.2.2.1 - 1)).toNat)) (v0.toNat : Int))))
   (some (.inr (x.1, x.2.1, x.2.2.1, x.2.2.2.1, x.2.2.2.2.1, x.2.2.2.2.2.1, x.2.2.2.2.2.2.1, x.2.2.2.2.2.2.2.2.2.2)))
def F159h_b3 (K : Nat) (x : (List Int) × Int × Bool × Bool × (List Int) × (List UInt8) × Int × Int × List Int) : Option (((List Int) × Int × Bool × Bool × (List Int) × (List UInt8) × Int × Int × List Int) ⊕ ((List Int) × Int × Bool × Bool × (List Int) × (List UInt8) × Int × List Int)) :=
  branch (decide (x.2.2.2.2.2.2.2.1 ≤ x.2.1))
   (guard (!(decide (x.2.2.2.2.2.2.2.1 = 0))) <|
   nth ([48, 49, 50, 51, 52, 53, 54, 55, 56, 57, 97, 98, 99, 100, 101, 102, 103, 104, 105, 106, 107, 108, 109, 110, 111, 112, 113, 114, 115, 116, 117, 118, 119, 120, 121, 122] : List UInt8) (w64u (x.2.1 - (w64u ((w64u (Int.tdiv x.2.1 x.2.2.2.2.2.2.2.1)) * x.2.2.2.2.2.2.2.1)))) fun v0 =>
   guard (decide (0 ≤ (w64 (x.2.2.2.2.2.2.1 - 1)) ∧ (w64 (x.2.2.2.2.2.2.1 - 1)) < 65)) <|
   nthN x.2.2.2.2.2.2.2.2 (0 + ((w64 (x.2.2.2.2.2.2.1 - 1)).toNat)) fun v1 =>
   some (.inl (x.1, w64u (Int.tdiv x.2.1 x.2.2.2.2.2.2.2.1), x.2.2.1, x.2.2.2.1, x.2.2.2.2.1, x.2.2.2.2.2.1, w64 (x.2.2.2.2.2.2.1 - 1), x.2.2.2.2.2.2.2.1, List.set x.2.2.2.2.2.2.2.2 (0 + ((w64 (x.2.2.2.2.2.2.1 - 1)).toNat)) (v0.toNat : Int))))
   (some (.inr (x.1, x.2.1, x.2.2.1, x.2.2.2.1, x.2.2.2.2.1, x.2.2.2.2.2.1, x.2.2.2.2.2.2.1, x.2.2.2.2.2.2.2.2)))
def F159h (K : Nat) (x : (List Int) × Int × Int × Bool × Bool) : Option ((List Int) × List UInt8) :=
  branch x.2.2.2.1
   (bindO (F184 K 16) fun v0 =>
   branch v0
    (bindO (F185 K 16) fun v1 =>
    bindO (iter K (F159h_b0 K) (x.1, w64u (0 - x.2.1), x.2.2.2.1, x.2.2.2.2, [], [], 65, w64u v1, 16, 15, [0, 0, 0, 0, 0, 0, 0, 0, 0, 0, 0, 0, 0, 0, 0, 0, 0, 0, 0, 0, 0, 0, 0, 0, 0, 0, 0, 0, 0, 0, 0, 0, 0, 0, 0, 0, 0, 0, 0, 0, 0, 0, 0, 0, 0, 0, 0, 0, 0, 0, 0, 0, 0, 0, 0, 0, 0, 0, 0, 0, 0, 0, 0, 0, 0])) fun v2 =>
    nth ([48, 49, 50, 51, 52, 53, 54, 55, 56, 57, 97, 98, 99, 100, 101, 102, 103, 104, 105, 106, 107, 108, 109, 110, 111, 112, 113, 114, 115, 116, 117, 118, 119, 120, 121, 122] : List UInt8) v2.2.1 fun v3 =>
    guard (decide (0 ≤ (w64 (v2.2.2.2.2.2.2.1 - 1)) ∧ (w64 (v2.2.2.2.2.2.2.1 - 1)) < 65)) <|
    nthN v2.2.2.2.2.2.2.2 (0 + ((w64 (v2.2.2.2.2.2.2.1 - 1)).toNat)) fun v4 =>
    branch v2.2.2.1
     (guard (decide (0 ≤ (w64 ((w64 (v2.2.2.2.2.2.2.1 - 1)) - 1)) ∧ (w64 ((w64 (v2.2.2.2.2.2.2.1 - 1)) - 1)) < 65)) <|
     nthN (List.set v2.2.2.2.2.2.2.2 (0 + ((w64 (v2.2.2.2.2.2.2.1 - 1)).toNat)) (v3.toNat : Int)) (0 + ((w64 ((w64 (v2.2.2.2.2.2.2.1 - 1)) - 1)).toNat)) fun v5 =>
     branch v2.2.2.2.1
      (guard (decide (65 = ((List.set (List.set v2.2.2.2.2.2.2.2 (0 + ((w64 (v2.2.2.2.2.2.2.1 - 1)).toNat)) (v3.toNat : Int)) (0 + ((w64 ((w64 (v2.2.2.2.2.2.2.1 - 1)) - 1)).toNat)) 45).length))) <|
      guard (decide (0 ≤ (w64 ((w64 (v2.2.2.2.2.2.2.1 - 1)) - 1)) ∧ (w64 ((w64 (v2.2.2.2.2.2.2.1 - 1)) - 1)) ≤ 65)) <|
      guard (decide ((((w64 ((w64 (v2.2.2.2.2.2.2.1 - 1)) - 1)).toNat) + (65 - ((w64 ((w64 (v2.2.2.2.2.2.2.1 - 1)) - 1)).toNat))) ≤ ((List.set (List.set v2.2.2.2.2.2.2.2 (0 + ((w64 (v2.2.2.2.2.2.2.1 - 1)).toNat)) (v3.toNat : Int)) (0 + ((w64 ((w64 (v2.2.2.2.2.2.2.1 - 1)) - 1)).toNat)) 45).length))) <|
      none)
      (guard (decide (65 = ((List.set (List.set v2.2.2.2.2.2.2.2 (0 + ((w64 (v2.2.2.2.2.2.2.1 - 1)).toNat)) (v3.toNat : Int)) (0 + ((w64 ((w64 (v2.2.2.2.2.2.2.1 - 1)) - 1)).toNat)) 45).length))) <|
      guard (decide (0 ≤ (w64 ((w64 (v2.2.2.2.2.2.2.1 - 1)) - 1)) ∧ (w64 ((w64 (v2.2.2.2.2.2.2.1 - 1)) - 1)) ≤ 65)) <|
      guard (decide ((((w64 ((w64 (v2.2.2.2.2.2.2.1 - 1)) - 1)).toNat) + (65 - ((w64 ((w64 (v2.2.2.2.2.2.2.1 - 1)) - 1)).toNat))) ≤ ((List.set (List.set v2.2.2.2.2.2.2.2 (0 + ((w64 (v2.2.2.2.2.2.2.1 - 1)).toNat)) (v3.toNat : Int)) (0 + ((w64 ((w64 (v2.2.2.2.2.2.2.1 - 1)) - 1)).toNat)) 45).length))) <|
      some (v2.2.2.2.2.1, toB (List.take (65 - ((w64 ((w64 (v2.2.2.2.2.2.2.1 - 1)) - 1)).toNat)) (List.drop ((w64 ((w64 (v2.2.2.2.2.2.2.1 - 1)) - 1)).toNat) (List.set (List.set v2.2.2.2.2.2.2.2 (0 + ((w64 (v2.2.2.2.2.2.2.1 - 1)).toNat)) (v3.toNat : Int)) (0 + ((w64 ((w64 (v2.2.2.2.2.2.2.1 - 1)) - 1)).toNat)) 45))))))
     (branch v2.2.2.2.1
      (guard (decide (65 = ((List.set v2.2.2.2.2.2.2.2 (0 + ((w64 (v2.2.2.2.2.2.2.1 - 1)).toNat)) (v3.toNat : Int)).length))) <|
      guard (decide (0 ≤ (w64 (v2.2.2.2.2.2.2.1 - 1)) ∧ (w64 (v2.2.2.2.2.2.2.1 - 1)) ≤ 65)) <|
      guard (decide ((((w64 (v2.2.2.2.2.2.2.1 - 1)).toNat) + (65 - ((w64 (v2.2.2.2.2.2.2.1 - 1)).toNat))) ≤ ((List.set v2.2.2.2.2.2.2.2 (0 + ((w64 (v2.2.2.2.2.2.2.1 - 1)).toNat)) (v3.toNat : Int)).length))) <|
      none)
      (guard (decide (65 = ((List.set v2.2.2.2.2.2.2.2 (0 + ((w64 (v2.2.2.2.2.2.2.1 - 1)).toNat)) (v3.toNat : Int)).length))) <|
      guard (decide (0 ≤ (w64 (v2.2.2.2.2.2.2.1 - 1)) ∧ (w64 (v2.2.2.2.2.2.2.1 - 1)) ≤ 65)) <|
      guard (decide ((((w64 (v2.2.2.2.2.2.2.1 - 1)).toNat) + (65 - ((w64 (v2.2.2.2.2.2.2.1 - 1)).toNat))) ≤ ((List.set v2.2.2.2.2.2.2.2 (0 + ((w64 (v2.2.2.2.2.2.2.1 - 1)).toNat)) (v3.toNat : Int)).length))) <|
      some (v2.2.2.2.2.1, toB (List.take (65 - ((w64 (v2.2.2.2.2.2.2.1 - 1)).toNat)) (List.drop ((w64 (v2.2.2.2.2.2.2.1 - 1)).toNat) (List.set v2.2.2.2.2.2.2.2 (0 + ((w64 (v2.2.2.2.2.2.2.1 - 1)).toNat)) (v3.toNat : Int))))))))
    (bindO (iter K (F159h_b1 K) (x.1, w64u (0 - x.2.1), x.2.2.2.1, x.2.2.2.2, [], [], 65, 16, [0, 0, 0, 0, 0, 0, 0, 0, 0, 0, 0, 0, 0, 0, 0, 0, 0, 0, 0, 0, 0, 0, 0, 0, 0, 0, 0, 0, 0, 0, 0, 0, 0, 0, 0, 0, 0, 0, 0, 0, 0, 0, 0, 0, 0, 0, 0, 0, 0, 0, 0, 0, 0, 0, 0, 0, 0, 0, 0, 0, 0, 0, 0, 0, 0])) fun v6 =>
    nth ([48, 49, 50, 51, 52, 53, 54, 55, 56, 57, 97, 98, 99, 100, 101, 102, 103, 104, 105, 106, 107, 108, 109, 110, 111, 112, 113, 114, 115, 116, 117, 118, 119, 120, 121, 122] : List UInt8) v6.2.1 fun v7 =>
    guard (decide (0 ≤ (w64 (v6.2.2.2.2.2.2.1 - 1)) ∧ (w64 (v6.2.2.2.2.2.2.1 - 1)) < 65)) <|
    nthN v6.2.2.2.2.2.2.2 (0 + ((w64 (v6.2.2.2.2.2.2.1 - 1)).toNat)) fun v8 =>
    branch v6.2.2.1
     (guard (decide (0 ≤ (w64 ((w64 (v6.2.2.2.2.2.2.1 - 1)) - 1)) ∧ (w64 ((w64 (v6.2.2.2.2.2.2.1 - 1)) - 1)) < 65)) <|
     nthN (List.set v6.2.2.2.2.2.2.2 (0 + ((w64 (v6.2.2.2.2.2.2.1 - 1)).toNat)) (v7.toNat : Int)) (0 + ((w64 ((w64 (v6.2.2.2.2.2.2.1 - 1)) - 1)).toNat)) fun v9 =>
     branch v6.2.2.2.1
      (guard (decide (65 = ((List.set (List.set v6.2.2.2.2.2.2.2 (0 + ((w64 (v6.2.2.2.2.2.2.1 - 1)).toNat)) (v7.toNat : Int)) (0 + ((w64 ((w64 (v6.2.2.2.2.2.2.1 - 1)) - 1)).toNat)) 45).length))) <|
      guard (decide (0 ≤ (w64 ((w64 (v6.2.2.2.2.2.2.1 - 1)) - 1)) ∧ (w64 ((w64 (v6.2.2.2.2.2.2.1 - 1)) - 1)) ≤ 65)) <|
      guard (decide ((((w64 ((w64 (v6.2.2.2.2.2.2.1 - 1)) - 1)).toNat) + (65 - ((w64 ((w64 (v6.2.2.2.2.2.2.1 - 1)) - 1)).toNat))) ≤ ((List.set (List.set v6.2.2.2.2.2.2.2 (0 + ((w64 (v6.2.2.2.2.2.2.1 - 1)).toNat)) (v7.toNat : Int)) (0 + ((w64 ((w64 (v6.2.2.2.2.2.2.1 - 1)) - 1)).toNat)) 45).length))) <|
      none)
      (guard (decide (65 = ((List.set (List.set v6.2.2.2.2.2.2.2 (0 + ((w64 (v6.2.2.2.2.2.2.1 - 1)).toNat)) (v7.toNat : Int)) (0 + ((w64 ((w64 (v6.2.2.2.2.2.2.1 - 1)) - 1)).toNat)) 45).length))) <|
      guard (decide (0 ≤ (w64 ((w64 (v6.2.2.2.2.2.2.1 - 1)) - 1)) ∧ (w64 ((w64 (v6.2.2.2.2.2.2.1 - 1)) - 1)) ≤ 65)) <|
      guard (decide ((((w64 ((w64 (v6.2.2.2.2.2.2.1 - 1)) - 1)).toNat) + (65 - ((w64 ((w64 (v6.2.2.2.2.2.2.1 - 1)) - 1)).toNat))) ≤ ((List.set (List.set v6.2.2.2.2.2.2.2 (0 + ((w64 (v6.2.2.2.2.2.2.1 - 1)).toNat)) (v7.toNat : Int)) (0 + ((w64 ((w64 (v6.2.2.2.2.2.2.1 - 1)) - 1)).toNat)) 45).length))) <|
      some (v6.2.2.2.2.1, toB (List.take (65 - ((w64 ((w64 (v6.2.2.2.2.2.2.1 - 1)) - 1)).toNat)) (List.drop ((w64 ((w64 (v6.2.2.2.2.2.2.1 - 1)) - 1)).toNat) (List.set (List.set v6.2.2.2.2.2.2.2 (0 + ((w64 (v6.2.2.2.2.2.2.1 - 1)).toNat)) (v7.toNat : Int)) (0 + ((w64 ((w64 (v6.2.2.2.2.2.2.1 - 1)) - 1)).toNat)) 45))))))
     (branch v6.2.2.2.1
      (guard (decide (65 = ((List.set v6.2.2.2.2.2.2.2 (0 + ((w64 (v6.2.2.2.2.2.2.1 - 1)).toNat)) (v7.toNat : Int)).length))) <|
      guard (decide (0 ≤ (w64 (v6.2.2.2.2.2.2.1 - 1)) ∧ (w64 (v6.2.2.2.2.2.2.1 - 1)) ≤ 65)) <|
      guard (decide ((((w64 (v6.2.2.2.2.2.2.1 - 1)).toNat) + (65 - ((w64 (v6.2.2.2.2.2.2.1 - 1)).toNat))) ≤ ((List.set v6.2.2.2.2.2.2.2 (0 + ((w64 (v6.2.2.2.2.2.2.1 - 1)).toNat)) (v7.toNat : Int)).length))) <|
      none)
      (guard (decide (65 = ((List.set v6.2.2.2.2.2.2.2 (0 + ((w64 (v6.2.2.2.2.2.2.1 - 1)).toNat)) (v7.toNat : Int)).length))) <|
      guard (decide (0 ≤ (w64 (v6.2.2.2.2.2.2.1 - 1)) ∧ (w64 (v6.2.2.2.2.2.2.1 - 1)) ≤ 65)) <|
      guard (decide ((((w64 (v6.2.2.2.2.2.2.1 - 1)).toNat) + (65 - ((w64 (v6.2.2.2.2.2.2.1 - 1)).toNat))) ≤ ((List.set v6.2.2.2.2.2.2.2 (0 + ((w64 (v6.2.2.2.2.2.2.1 - 1)).toNat)) (v7.toNat : Int)).length))) <|
      some (v6.2.2.2.2.1, toB (List.take (65 - ((w64 (v6.2.2.2.2.2.2.1 - 1)).toNat)) (List.drop ((w64 (v6.2.2.2.2.2.2.1 - 1)).toNat) (List.set v6.2.2.2.2.2.2.2 (0 + ((w64 (v6.2.2.2.2.2.2.1 - 1)).toNat)) (v7.toNat : Int)))))))))
   (bindO (F184 K 16) fun v10 =>
   branch v10
    (bindO (F185 K 16) fun v11 =>
    bindO (iter K (F159h_b2 K) (x.1, x.2.1, x.2.2.2.1, x.2.2.2.2, [], [], 65, w64u v11, 16, 15, [0, 0, 0, 0, 0, 0, 0, 0, 0, 0, 0, 0, 0, 0, 0, 0, 0, 0, 0, 0, 0, 0, 0, 0, 0, 0, 0, 0, 0, 0, 0, 0, 0, 0, 0, 0, 0, 0, 0, 0, 0, 0, 0, 0, 0, 0, 0, 0, 0, 0, 0, 0, 0, 0, 0, 0, 0, 0, 0, 0, 0, 0, 0, 0, 0])) fun v12 =>
    nth ([48, 49, 50, 51, 52, 53, 54, 55, 56, 57, 97, 98, 99, 100, 101, 102, 103, 104, 105, 106, 107, 108, 109, 110, 111, 112, 113, 114, 115, 116, 117, 118, 119, 120, 121, 122] : List UInt8) v12.2.1 fun v13 =>
    guard (decide (0 ≤ (w64 (v12.2.2.2.2.2.2.1 - 1)) ∧ (w64 (v12.2.2.2.2.2.2.1 - 1)) < 65)) <|
    nthN v12.2.2.2.2.2.2.2 (0 + ((w64 (v12.2.2.2.2.2.2.1 - 1)).toNat)) fun v14 =>
    branch v12.2.2.1
     (guard (decide (0 ≤ (w64 ((w64 (v12.2.2.2.2.2.2.1 - 1)) - 1)) ∧ (w64 ((w64 (v12.2.2.2.2.2.2.1 - 1)) - 1)) < 65)) <|
     nthN (List.set v12.2.2.2.2.2.2.2 (0 + ((w64 (v12.2.2.2.2.2.2.1 - 1)).toNat)) (v13.toNat : Int)) (0 + ((w64 ((w64 (v12.2.2.2.2.2.2.1 - 1)) - 1)).toNat)) fun v15 =>
     branch v12.2.2.2.1
      (guard (decide (65 = ((List.set (List.set v12.2.2.2.2.2.2.2 (0 + ((w64 (v12.2.2.2.2.2.2.1 - 1)).toNat)) (v13.toNat : Int)) (0 + ((w64 ((w64 (v12.2.2.2.2.2.2.1 - 1)) - 1)).toNat)) 45).length))) <|
      guard (decide (0 ≤ (w64 ((w64 (v12.2.2.2.2.2.2.1 - 1)) - 1)) ∧ (w64 ((w64 (v12.2.2.2.2.2.2.1 - 1)) - 1)) ≤ 65)) <|
      guard (decide ((((w64 ((w64 (v12.2.2.2.2.2.2.1 - 1)) - 1)).toNat) + (65 - ((w64 ((w64 (v12.2.2.2.2.2.2.1 - 1)) - 1)).toNat))) ≤ ((List.set (List.set v12.2.2.2.2.2.2.2 (0 + ((w64 (v12.2.2.2.2.2.2.1 - 1)).toNat)) (v13.toNat : Int)) (0 + ((w64 ((w64 (v12.2.2.2.2.2.2.1 - 1)) - 1)).toNat)) 45).length))) <|
      none)
      (guard (decide (65 = ((List.set (List.set v12.2.2.2.2.2.2.2 (0 + ((w64 (v12.2.2.2.2.2.2.1 - 1)).toNat)) (v13.toNat : Int)) (0 + ((w64 ((w64 (v12.2.2.2.2.2.2.1 - 1)) - 1)).toNat)) 45).length))) <|
      guard (decide (0 ≤ (w64 ((w64 (v12.2.2.2.2.2.2.1 - 1)) - 1)) ∧ (w64 ((w64 (v12.2.2.2.2.2.2.1 - 1)) - 1)) ≤ 65)) <|
      guard (decide ((((w64 ((w64 (v12.2.2.2.2.2.2.1 - 1)) - 1)).toNat) + (65 - ((w64 ((w64 (v12.2.2.2.2.2.2.1 - 1)) - 1)).toNat))) ≤ ((List.set (List.set v12.2.2.2.2.2.2.2 (0 + ((w64 (v12.2.2.2.2.2.2.1 - 1)).toNat)) (v13.toNat : Int)) (0 + ((w64 ((w64 (v12.2.2.2.2.2.2.1 - 1)) - 1)).toNat)) 45).length))) <|
      some (v12.2.2.2.2.1, toB (List.take (65 - ((w64 ((w64 (v12.2.2.2.2.2.2.1 - 1)) - 1)).toNat)) (List.drop ((w64 ((w64 (v12.2.2.2.2.2.2.1 - 1)) - 1)).toNat) (List.set (List.set v12.2.2.2.2.2.2.2 (0 + ((w64 (v12.2.2.2.2.2.2.1 - 1)).toNat)) (v13.toNat : Int)) (0 + ((w64 ((w64 (v12.2.2.2.2.2.2.1 - 1)) - 1)).toNat)) 45))))))
     (branch v12.2.2.2.1
      (guard (decide (65 = ((List.set v12.2.2.2.2.2.2.2 (0 + ((w64 (v12.2.2.2.2.2.2.1 - 1)).toNat)) (v13.toNat : Int)).length))) <|
      guard (decide (0 ≤ (w64 (v12.2.2.2.2.2.2.1 - 1)) ∧ (w64 (v12.2.2.2.2.2.2.1 - 1)) ≤ 65)) <|
      guard (decide ((((w64 (v12.2.2.2.2.2.2.1 - 1)).toNat) + (65 - ((w64 (v12.2.2.2.2.2.2.1 - 1)).toNat))) ≤ ((List.set v12.2.2.2.2.2.2.2 (0 + ((w64 (v12.2.2.2.2.2.2.1 - 1)).toNat)) (v13.toNat : Int)).length))) <|
      none)
      (guard (decide (65 = ((List.set v12.2.2.2.2.2.2.2 (0 + ((w64 (v12.2.2.2.2.2.2.1 - 1)).toNat)) (v13.toNat : Int)).length))) <|
      guard (decide (0 ≤ (w64 (v12.2.2.2.2.2.2.1 - 1)) ∧ (w64 (v12.2.2.2.2.2.2.1 - 1)) ≤ 65)) <|
      guard (decide ((((w64 (v12.2.2.2.2.2.2.1 - 1)).toNat) + (65 - ((w64 (v12.2.2.2.2.2.2.1 - 1)).toNat))) ≤ ((List.set v12.2.2.2.2.2.2.2 (0 + ((w64 (v12.2.2.2.2.2.2.1 - 1)).toNat)) (v13.toNat : Int)).length))) <|
      some (v12.2.2.2.2.1, toB (List.take (65 - ((w64 (v12.2.2.2.2.2.2.1 - 1)).toNat)) (List.drop ((w64 (v12.2.2.2.2.2.2.1 - 1)).toNat) (List.set v12.2.2.2.2.2.2.2 (0 + ((w64 (v12.2.2.2.2.2.2.1 - 1)).toNat)) (v13.toNat : Int))))))))
    (bindO (iter K (F159h_b3 K) (x.1, x.2.1, x.2.2.2.1, x.2.2.2.2, [], [], 65, 16, [0, 0, 0, 0, 0, 0, 0, 0, 0, 0, 0, 0, 0, 0, 0, 0, 0, 0, 0, 0, 0, 0, 0, 0, 0, 0, 0, 0, 0, 0, 0, 0, 0, 0, 0, 0, 0, 0, 0, 0, 0, 0, 0, 0, 0, 0, 0, 0, 0, 0, 0, 0, 0, 0, 0, 0, 0, 0, 0, 0, 0, 0, 0, 0, 0])) fun v16 =>
    nth ([48, 49, 50, 51, 52, 53, 54, 55, 56, 57, 97, 98, 99, 100, 101, 102, 103, 104, 105, 106, 107, 108, 109, 110, 111, 112, 113, 114, 115, 116, 117, 118, 119, 120, 121, 122] : List UInt8) v16.2.1 fun v17 =>
    guard (decide (0 ≤ (w64 (v16.2.2.2.2.2.2.1 - 1)) ∧ (w64 (v16.2.2.2.2.2.2.1 - 1)) < 65)) <|
    nthN v16.2.2.2.2.2.2.2 (0 + ((w64 (v16.2.2.2.2.2.2.1 - 1)).toNat)) fun v18 =>
    branch v16.2.2.1
     (guard (decide (0 ≤ (w64 ((w64 (v16.2.2.2.2.2.2.1 - 1)) - 1)) ∧ (w64 ((w64 (v16.2.2.2.2.2.2.1 - 1)) - 1)) < 65)) <|
     nthN (List.set v16.2.2.2.2.2.2.2 (0 + ((w64 (v16.2.2.2.2.2.2.1 - 1)).toNat)) (v17.toNat : Int)) (0 + ((w64 ((w64 (v16.2.2.2.2.2.2.1 - 1)) - 1)).toNat)) fun v19 =>
     branch v16.2.2.2.1
      (guard (decide (65 = ((List.set (List.set v16.2.2.2.2.2.2.2 (0 + ((w64 (v16.2.2.2.2.2.2.1 - 1)).toNat)) (v17.toNat : Int)) (0 + ((w64 ((w64 (v16.2.2.2.2.2.2.1 - 1)) - 1)).toNat)) 45).length))) <|
      guard (decide (0 ≤ (w64 ((w64 (v16.2.2.2.2.2.2.1 - 1)) - 1)) ∧ (w64 ((w64 (v16.2.2.2.2.2.2.1 - 1)) - 1)) ≤ 65)) <|
      guard (decide ((((w64 ((w64 (v16.2.2.2.2.2.2.1 - 1)) - 1)).toNat) + (65 - ((w64 ((w64 (v16.2.2.2.2.2.2.1 - 1)) - 1)).toNat))) ≤ ((List.set (List.set v16.2.2.2.2.2.2.2 (0 + ((w64 (v16.2.2.2.2.2.2.1 - 1)).toNat)) (v17.toNat : Int)) (0 + ((w64 ((w64 (v16.2.2.2.2.2.2.1 - 1)) - 1)).toNat)) 45).length))) <|
      none)
      (guard (decide (65 = ((List.set (List.set v16.2.2.2.2.2.2.2 (0 + ((w64 (v16.2.2.2.2.2.2.1 - 1)).toNat)) (v17.toNat : Int)) (0 + ((w64 ((w64 (v16.2.2.2.2.2.2.1 - 1)) - 1)).toNat)) 45).length))) <|
      guard (decide (0 ≤ (w64 ((w64 (v16.2.2.2.2.2.2.1 - 1)) - 1)) ∧ (w64 ((w64 (v16.2.2.2.2.2.2.1 - 1)) - 1)) ≤ 65)) <|
      guard (decide ((((w64 ((w64 (v16.2.2.2.2.2.2.1 - 1)) - 1)).toNat) + (65 - ((w64 ((w64 (v16.2.2.2.2.2.2.1 - 1)) - 1)).toNat))) ≤ ((List.set (List.set v16.2.2.2.2.2.2.2 (0 + ((w64 (v16.2.2.2.2.2.2.1 - 1)).toNat)) (v17.toNat : Int)) (0 + ((w64 ((w64 (v16.2.2.2.2.2.2.1 - 1)) - 1)).toNat)) 45).length))) <|
      some (v16.2.2.2.2.1, toB (List.take (65 - ((w64 ((w64 (v16.2.2.2.2.2.2.1 - 1)) - 1)).toNat)) (List.drop ((w64 ((w64 (v16.2.2.2.2.2.2.1 - 1)) - 1)).toNat) (List.set (List.set v16.2.2.2.2.2.2.2 (0 + ((w64 (v16.2.2.2.2.2.2.1 - 1)).toNat)) (v17.toNat : Int)) (0 + ((w64 ((w64 (v16.2.2.2.2.2.2.1 - 1)) - 1)).toNat)) 45))))))
     (branch v16.2.2.2.1
      (guard (decide (65 = ((List.set v16.2.2.2.2.2.2.2 (0 + ((w64 (v16.2.2.2.2.2.2.1 - 1)).toNat)) (v17.toNat : Int)).length))) <|
      guard (decide (0 ≤ (w64 (v16.2.2.2.2.2.2.1 - 1)) ∧ (w64 (v16.2.2.2.2.2.2.1 - 1)) ≤ 65)) <|
      guard (decide ((((w64 (v16.2.2.2.2.2.2.1 - 1)).toNat) + (65 - ((w64 (v16.2.2.2.2.2.2.1 - 1)).toNat))) ≤ ((List.set v16.2.2.2.2.2.2.2 (0 + ((w64 (v16.2.2.2.2.2.2.1 - 1)).toNat)) (v17.toNat : Int)).length))) <|
      none)
      (guard (decide (65 = ((List.set v16.2.2.2.2.2.2.2 (0 + ((w64 (v16.2.2.2.2.2.2.1 - 1)).toNat)) (v17.toNat : Int)).length))) <|
      guard (decide (0 ≤ (w64 (v16.2.2.2.2.2.2.1 - 1)) ∧ (w64 (v16.2.2.2.2.2.2.1 - 1)) ≤ 65)) <|
      guard (decide ((((w64 (v16.2.2.2.2.2.2.1 - 1)).toNat) + (65 - ((w64 (v16.2.2.2.2.2.2.1 - 1)).toNat))) ≤ ((List.set v16.2.2.2.2.2.2.2 (0 + ((w64 (v16.2.2.2.2.2.2.1 - 1)).toNat)) (v17.toNat : Int)).length))) <|
      some (v16.2.2.2.2.1, toB (List.take (65 - ((w64 (v16.2.2.2.2.2.2.1 - 1)).toNat)) (List.drop ((w64 (v16.2.2.2.2.2.2.1 - 1)).toNat) (List.set v16.2.2.2.2.2.2.2 (0 + ((w64 (v16.2.2.2.2.2.2.1 - 1)).toNat)) (v17.toNat : Int)))))))))
def ct159h (K : Nat) : Ct := ⟨[.l (.v (.l (.i .u8))), .l (.v (.i .u64)), .l (.k .i64 (16)), .l (.v .b), .l (.v .b)], [], [.l (.v (.l (.i .u8))), .l (.v .s)], [], [], F159h K⟩
theorem c159h (K : Nat) : CtOk prog 159 (ct159h K) :=
  con_mk (Y := Y) (L := [(185, ct185 K), (184, ct184 K)]) (K := K) (an := (.seq .no (.seq (.seq .no .no) (.seq .no (.seq .no (.seq (.seq .no .no) (.seq (.seq .no (.cond (.seq .no (.seq .no (.seq .no (.seq (.blk (.loop [] ⟨(.l (.v (.l (.i .u8))) :: .l (.v (.i .u64)) :: ru 1 (.l (.v .b) :: .l (.v .b) :: ru 5 (.l (.v (.l (.i .u8))) :: .l (.v .s) :: .l (.ptr 13000 0 0) :: .l (.v (.i .i64)) :: .l (.v (.i .u64)) :: .l (.v (.i .u64)) :: .l (.v (.i .u64)) :: ru 85 []))), [(13000, ⟨1, true, .row (.i .u8)⟩)]⟩ [(0, ⟨(.l (.v (.l (.i .u8))) :: .l (.v (.i .u64)) :: ru 1 (.l (.v .b) :: .l (.v .b) :: ru 5 (.l (.v (.l (.i .u8))) :: .l (.v .s) :: .l (.ptr 13000 0 0) :: .l (.v (.i .i64)) :: ru 88 []))), [(13000, ⟨1, true, .row (.i .u8)⟩)]⟩)] false (.seq (.seq .no .no) (.blk (.seq .no .no))))) .no)))) (.seq .no (.seq (.blk (.loop [] ⟨(.l (.v (.l (.i .u8))) :: .l (.v (.i .u64)) :: ru 1 (.l (.v .b) :: .l (.v .b) :: ru 5 (.l (.v (.l (.i .u8))) :: .l (.v .s) :: .l (.ptr 13000 0 0) :: .l (.v (.i .i64)) :: ru 3 (.l (.v (.i .u64)) :: ru 84 [])))), [(13000, ⟨1, true, .row (.i .u8)⟩)]⟩ [(2, ⟨(.l (.v (.l (.i .u8))) :: .l (.v (.i .u64)) :: ru 1 (.l (.v .b) :: .l (.v .b) :: ru 5 (.l (.v (.l (.i .u8))) :: .l (.v .s) :: .l (.ptr 13000 0 0) :: .l (.v (.i .i64)) :: ru 88 []))), [(13000, ⟨1, true, .row (.i .u8)⟩)]⟩)] false (.seq (.seq .no .no) (.blk (.seq .no (.seq .no .no)))))) .no)))) (.seq (.seq .no (.cond .no .no)) (.seq (.seq .no (.cond .no .no)) .no))))))))) func159 mixed (ctabOk_cons (c185 K) (ctabOk_cons (c184 K) ctabOk_nil)) (by kernel_rfl) fun x => by kernel_rfl
-- internal/strconv.FormatInt
def F134h (K : Nat) (x : Int × Int) : Option (List UInt8) :=
  bindO (F159h K ([], w64u x.1, 16, decide (x.1 < 0), false)) fun v0 =>
  some v0.2
def ct134h (K : Nat) : Ct := ⟨[.l (.v (.i .i64)), .l (.k .i64 (16))], [], [.l (.v .s)], [], [], F134h K⟩
theorem c134h (K : Nat) : CtOk prog 134 (ct134h K) :=
  con_mk (Y := Y) (L := [(159, ct159h K)]) (K := K) (an := (.seq .no (.seq (.seq .no (.cond (.seq (.seq .no (.cond .no .no)) (.seq .no (.seq .no (.seq (.seq .no .no) (.seq .no (.seq .no (.seq (.seq .no (.cond (.seq .no .no) .no)) .no))))))) .no)) (.seq .no .no)))) func134 mixed (ctabOk_cons (c159h K) ctabOk_nil) (by kernel_rfl) fun x => by kernel_rfl
-- strconv.FormatInt
def F103h (K : Nat) (x : Int × Int) : Option (List UInt8) :=
  bindO (F134h K (x.1, 16)) fun v0 =>
  some v0
def ct103h (K : Nat) : Ct := ⟨[.l (.v (.i .i64)), .l (.k .i64 (16))], [], [.l (.v .s)], [], [], F103h K⟩
theorem c103h (K : Nat) : CtOk prog 103 (ct103h K) :=
  con_mk (Y := Y) (L := [(134, ct134h K)]) (K := K) (an := (.seq .no .no)) func103 mixed (ctabOk_cons (c134h K) ctabOk_nil) (by kernel_rfl) fun x => by kernel_rfl
def F41i (K : Nat) (x : Int) : Option (List UInt8) := none
def ct41i (K : Nat) : Ct := ⟨[.l (.v (.i .i64))], [], [.l (.v .s)], [], [], F41i K⟩
theorem c41i (K : Nat) : CtOk prog 41 (ct41i K) := ct_none
-- loop.example/g00460/spec.l1Dec
def F41b_b0 (K : Nat) (x : Int × List UInt8) : Option ((Int × List UInt8) ⊕ (Int × List UInt8)) :=
  branch (decide (10 ≤ x.1))
   (guard (decide ((((toB [w8 (w64 (48 + (Int.tmod x.1 10)))]).length) + x.2.length) ≤ 9223372036854775807)) <|
   some (.inl (w64 (Int.tdiv x.1 10), (toB [w8 (w64 (48 + (Int.tmod x.1 10)))]) ++ x.2)))
   (some (.inr x))
def F41b (K : Nat) (x : Int) : Option (List UInt8) :=
  branch (decide (x < 0))
   (bindO (F41i K (w64 (0 - x))) fun v0 =>
   guard (decide ((1 + v0.length) ≤ 9223372036854775807)) <|
   some (([45] : List UInt8) ++ v0))
   (bindO (iter K (F41b_b0 K) (x, [])) fun v1 =>
   guard (decide ((((toB [w8 (w64 (48 + v1.1))]).length) + v1.2.length) ≤ 9223372036854775807)) <|
   some ((toB [w8 (w64 (48 + v1.1))]) ++ v1.2))
def ct41b (K : Nat) : Ct := ⟨[.l (.v (.i .i64))], [], [.l (.v .s)], [], [], F41b K⟩
theorem c41b (K : Nat) : CtOk prog 41 (ct41b K) :=
  con_mk (Y := Y) (L := [(41, ct41i K)]) (K := K) (an := (.seq .no (.seq (.seq .no (.cond .no .no)) (.seq .no (.seq (.blk (.loop [] ⟨(.l (.v (.i .i64)) :: ru 2 (.l (.v .s) :: ru 25 [])), []⟩ [(0, ⟨(.l (.v (.i .i64)) :: ru 2 (.l (.v .s) :: ru 25 [])), []⟩)] false (.seq (.seq .no .no) (.blk .no)))) .no))))) func41 mixed (ctabOk_cons (c41i K) ctabOk_nil) (by kernel_rfl) fun x => by kernel_rfl
-- loop.example/g00460/spec.l3Turns
def F39 (K : Nat) (x : Unit) : Option (List (List UInt8)) :=
  some [([114, 108, 99] : List UInt8), ([114, 114, 99] : List UInt8), ([114, 108] : List UInt8), ([114, 114] : List UInt8), ([115, 108, 97] : List UInt8), ([115, 114, 97] : List UInt8), ([115, 119, 97, 112] : List UInt8), ([115, 114, 108] : List UInt8)]
def ct39 (K : Nat) : Ct := ⟨[], [], [.l (.v (.l .s))], [], [], F39 K⟩
theorem c39 (K : Nat) : CtOk prog 39 (ct39 K) :=
  con_mk (Y := Y) (L := []) (K := K) (an := (.seq .no .no)) func39 mixed ctabOk_nil (by kernel_rfl) fun x => by kernel_rfl
-- loop.example/g00460/spec.l3Regs
def F40 (K : Nat) (x : Unit) : Option (List (List UInt8)) :=
  some [([98] : List UInt8), ([99] : List UInt8), ([100] : List UInt8), ([101] : List UInt8), ([104] : List UInt8), ([108] : List UInt8), ([91, 104, 108, 93] : List UInt8), ([97] : List UInt8)]
def ct40 (K : Nat) : Ct := ⟨[], [], [.l (.v (.l .s))], [], [], F40 K⟩
theorem c40 (K : Nat) : CtOk prog 40 (ct40 K) :=
  con_mk (Y := Y) (L := []) (K := K) (an := (.seq .no .no)) func40 mixed ctabOk_nil (by kernel_rfl) fun x => by kernel_rfl
-- loop.example/g00460/spec.l3Conds
def F78 (K : Nat) (x : Unit) : Option (List (List UInt8)) :=
  some [([110, 122] : List UInt8), ([122] : List UInt8), ([110, 99] : List UInt8), ([99] : List UInt8)]
def ct78 (K : Nat) : Ct := ⟨[], [], [.l (.v (.l .s))], [], [], F78 K⟩
theorem c78 (K : Nat) : CtOk prog 78 (ct78 K) :=
  con_mk (Y := Y) (L := []) (K := K) (an := (.seq .no .no)) func78 mixed ctabOk_nil (by kernel_rfl) fun x => by kernel_rfl
-- loop.example/g00460/spec.l3Pairs
def F79 (K : Nat) (x : Unit) : Option (List (List UInt8)) :=
  some [([98, 99] : List UInt8), ([100, 101] : List UInt8), ([104, 108] : List UInt8), ([115, 112] : List UInt8)]
def ct79 (K : Nat) : Ct := ⟨[], [], [.l (.v (.l .s))], [], [], F79 K⟩
theorem c79 (K : Nat) : CtOk prog 79 (ct79 K) :=
  con_mk (Y := Y) (L := []) (K := K) (an := (.seq .no .no)) func79 mixed ctabOk_nil (by kernel_rfl) fun x => by kernel_rfl
-- loop.example/g00460/spec.l3Low
def F42 (K : Nat) (x : Int × Int) : Option (List UInt8) :=
  branch (decide (x.2 = 0))
   (branch (decide (x.1 < 4))
    (guard (decide (0 ≤ x.1 ∧ x.1 < (4 : Int))) <|
    nthN [([110, 111, 112] : List UInt8), ([108, 100, 32, 91, 110, 49, 54, 93, 44, 115, 112] : List UInt8), ([115, 116, 111, 112, 32, 110, 56] : List UInt8), ([106, 114, 32, 101, 56] : List UInt8)] x.1.toNat fun v0 =>
    some v0)
    (bindO (F78 K ()) fun v1 =>
    nth v1 (w64 (x.1 - 4)) fun v2 =>
    guard (decide ((3 + v2.length) ≤ 9223372036854775807)) <|
    guard (decide ((((([106, 114, 32] : List UInt8) ++ v2).length) + 3) ≤ 9223372036854775807)) <|
    some ((([106, 114, 32] : List UInt8) ++ v2) ++ ([44, 101, 56] : List UInt8))))
   (branch (decide (x.2 = 1))
    (branch (decide ((Int.tmod x.1 2) = 0))
     (bindO (F79 K ()) fun v3 =>
     nth v3 (w64 (Int.tdiv x.1 2)) fun v4 =>
     guard (decide ((3 + v4.length) ≤ 9223372036854775807)) <|
     guard (decide ((((([108, 100, 32] : List UInt8) ++ v4).length) + 4) ≤ 9223372036854775807)) <|
     some ((([108, 100, 32] : List UInt8) ++ v4) ++ ([44, 110, 49, 54] : List UInt8)))
     (bindO (F79 K ()) fun v5 =>
     nth v5 (w64 (Int.tdiv x.1 2)) fun v6 =>
     guard (decide ((7 + v6.length) ≤ 9223372036854775807)) <|
     some (([97, 100, 100, 32, 104, 108, 44] : List UInt8) ++ v6)))
    (branch (decide (x.2 = 2))
     (guard (decide (0 ≤ (w64 (Int.tdiv x.1 2)) ∧ (w64 (Int.tdiv x.1 2)) < (4 : Int))) <|
     nthN [([91, 98, 99, 93] : List UInt8), ([91, 100, 101, 93] : List UInt8), ([91, 104, 108, 43, 93] : List UInt8), ([91, 104, 108, 45, 93] : List UInt8)] ((w64 (Int.tdiv x.1 2)).toNat) fun v7 =>
     branch (decide ((Int.tmod x.1 2) = 0))
      (guard (decide ((3 + v7.length) ≤ 9223372036854775807)) <|
      guard (decide ((((([108, 100, 32] : List UInt8) ++ v7).length) + 2) ≤ 9223372036854775807)) <|
      some ((([108, 100, 32] : List UInt8) ++ v7) ++ ([44, 97] : List UInt8)))
      (guard (decide ((5 + v7.length) ≤ 9223372036854775807)) <|
      some (([108, 100, 32, 97, 44] : List UInt8) ++ v7)))
     (branch (decide (x.2 = 3))
      (nth [([105, 110, 99, 32] : List UInt8), ([100, 101, 99, 32] : List UInt8)] (Int.tmod x.1 2) fun v8 =>
      bindO (F79 K ()) fun v9 =>
      nth v9 (w64 (Int.tdiv x.1 2)) fun v10 =>
      guard (decide ((v8.length + v10.length) ≤ 9223372036854775807)) <|
      some (v8 ++ v10))
      (branch (decide (x.2 = 4))
       (bindO (F40 K ()) fun v11 =>
       nth v11 x.1 fun v12 =>
       guard (decide ((4 + v12.length) ≤ 9223372036854775807)) <|
       some (([105, 110, 99, 32] : List UInt8) ++ v12))
       (branch (decide (x.2 = 5))
        (bindO (F40 K ()) fun v13 =>
        nth v13 x.1 fun v14 =>
        guard (decide ((4 + v14.length) ≤ 9223372036854775807)) <|
        some (([100, 101, 99, 32] : List UInt8) ++ v14))
        (branch (decide (x.2 = 6))
         (bindO (F40 K ()) fun v15 =>
         nth v15 x.1 fun v16 =>
         guard (decide ((3 + v16.length) ≤ 9223372036854775807)) <|
         guard (decide ((((([108, 100, 32] : List UInt8) ++ v16).length) + 3) ≤ 9223372036854775807)) <|
         some ((([108, 100, 32] : List UInt8) ++ v16) ++ ([44, 110, 56] : List UInt8)))
         (guard (decide (0 ≤ x.1 ∧ x.1 < (8 : Int))) <|
         nthN [([114, 108, 99, 97] : List UInt8), ([114, 114, 99, 97] : List UInt8), ([114, 108, 97] : List UInt8), ([114, 114, 97] : List UInt8), ([100, 97, 97] : List UInt8), ([99, 112, 108] : List UInt8), ([115, 99, 102] : List UInt8), ([99, 99, 102] : List UInt8)] x.1.toNat fun v17 =>
         some v17)))))))
def ct42 (K : Nat) : Ct := ⟨[.l (.v (.i .i64)), .l (.v (.i .i64))], [], [.l (.v .s)], [], [], F42 K⟩
theorem c42 (K : Nat) : CtOk prog 42 (ct42 K) :=
  con_mk (Y := Y) (L := [(40, ct40 K), (78, ct78 K), (79, ct79 K)]) (K := K) (an := (.seq .no (.seq .no (.seq .no (.seq (.seq .no (.blk (.seq .no (.cond (.seq (.seq .no (.cond .no .no)) .no) (.seq .no (.cond (.seq (.seq .no (.cond .no .no)) .no) (.seq .no (.cond (.seq .no (.seq (.seq .no (.cond .no .no)) .no)) (.seq .no (.cond (.seq (.reg [0] []) .no) (.seq .no (.cond .no (.seq .no (.cond .no (.seq .no (.cond .no .no)))))))))))))))) .no))))) func42 mixed (ctabOk_cons (c40 K) (ctabOk_cons (c78 K) (ctabOk_cons (c79 K) ctabOk_nil))) (by kernel_rfl) fun x => by kernel_rfl
-- loop.example/g00460/spec.l3Alus
def F43 (K : Nat) (x : Unit) : Option (List (List UInt8)) :=
  some [([97, 100, 100] : List UInt8), ([97, 100, 99] : List UInt8), ([115, 117, 98] : List UInt8), ([115, 98, 99] : List UInt8), ([97, 110, 100] : List UInt8), ([120, 111, 114] : List UInt8), ([111, 114] : List UInt8), ([99, 112] : List UInt8)]
def ct43 (K : Nat) : Ct := ⟨[], [], [.l (.v (.l .s))], [], [], F43 K⟩
theorem c43 (K : Nat) : CtOk prog 43 (ct43 K) :=
  con_mk (Y := Y) (L := []) (K := K) (an := (.seq .no .no)) func43 mixed ctabOk_nil (by kernel_rfl) fun x => by kernel_rfl
-- loop.example/g00460/spec.l1In
def F38 (K : Nat) (x : Int × Int × Int) : Option (Bool) :=
  branch (decide (x.2.1 ≤ x.1))
   (some (decide (x.1 ≤ x.2.2)))
   (some false)
def ct38 (K : Nat) : Ct := ⟨[.l (.v (.i .i64)), .l (.v (.i .i64)), .l (.v (.i .i64))], [], [.l (.v .b)], [], [], F38 K⟩
theorem c38 (K : Nat) : CtOk prog 38 (ct38 K) :=
  con_mk (Y := Y) (L := []) (K := K) (an := (.seq .no .no)) func38 mixed ctabOk_nil (by kernel_rfl) fun x => by kernel_rfl
-- loop.example/g00460/spec.HexOf
def F53_b0 (K : Nat) (x : Int × Int × (List UInt8) × Int) : Option ((Int × Int × (List UInt8) × Int) ⊕ (Int × List UInt8)) :=
  branch (decide (x.2.2.2 < x.2.1))
   (guard (decide (0 ≤ (Int.tmod x.1 16) ∧ (Int.tmod x.1 16) ≤ (w64 ((Int.tmod x.1 16) + 1)) ∧ (w64 ((Int.tmod x.1 16) + 1)) ≤ 16)) <|
   guard (decide ((((subL ([48, 49, 50, 51, 52, 53, 54, 55, 56, 57, 65, 66, 67, 68, 69, 70] : List UInt8) (Int.tmod x.1 16) (w64 ((Int.tmod x.1 16) + 1))).length) + x.2.2.1.length) ≤ 9223372036854775807)) <|
   some (.inl (w64 (Int.tdiv x.1 16), x.2.1, (subL ([48, 49, 50, 51, 52, 53, 54, 55, 56, 57, 65, 66, 67, 68, 69, 70] : List UInt8) (Int.tmod x.1 16) (w64 ((Int.tmod x.1 16) + 1))) ++ x.2.2.1, w64 (x.2.2.2 + 1))))
   (some (.inr (x.1, x.2.2.1)))
def F53 (K : Nat) (x : Int × Int) : Option (List UInt8) :=
  bindO (α := (List UInt8) ⊕ (Int × Int)) (bindO (α := Int × Int × Bool) (bindO (F38 K (x.2, 1, 4)) fun v0 =>
      branch (!v0)
       (some (x.1, x.2, true))
       (bindO (F38 K (x.1, 0, 65535)) fun v1 =>
       some (x.1, x.2, !v1))) fun v2 =>
    branch v2.2.2
     (some (.inl []))
     (some (.inr (v2.1, v2.2.1)))) fun v3 =>
  csO v3
   (fun v4 => some v4)
   (fun v5 => bindO (iter K (F53_b0 K) (v5.1, v5.2, [], 0)) fun v6 =>
   branch (decide (0 < v6.1))
    (some [])
    (guard (decide ((1 + v6.2.length) ≤ 9223372036854775807)) <|
    some (([36] : List UInt8) ++ v6.2)))
def ct53 (K : Nat) : Ct := ⟨[.l (.v (.i .i64)), .l (.v (.i .i64))], [], [.l (.v .s)], [], [], F53 K⟩
theorem c53 (K : Nat) : CtOk prog 53 (ct53 K) :=
  con_mk (Y := Y) (L := [(38, ct38 K)]) (K := K) (an := (.seq .no (.seqJ [(1000000, ⟨(.l (.v (.i .i64)) :: .l (.v (.i .i64)) :: ru 32 []), []⟩)] true (.seqJ [(1000000, ⟨(.l (.v (.i .i64)) :: .l (.v (.i .i64)) :: ru 12 (.l (.v .b) :: ru 19 [])), []⟩)] false .no (.cond .no .no)) (.seq .no (.seq (.seq .no (.blk (.loop [] ⟨(.l (.v (.i .i64)) :: .l (.v (.i .i64)) :: ru 3 (.l (.v .s) :: .l (.v (.i .i64)) :: ru 27 [])), []⟩ [(0, ⟨(.l (.v (.i .i64)) :: ru 4 (.l (.v .s) :: ru 28 [])), []⟩)] false (.seq (.seq .no .no) (.seq (.blk .no) .no))))) (.seq (.seq .no (.cond .no .no)) .no)))))) func53 mixed (ctabOk_cons (c38 K) ctabOk_nil) (by kernel_rfl) fun x => by kernel_rfl
-- loop.example/g00460/spec.l3Top
def F44 (K : Nat) (x : Int × Int) : Option (List UInt8) :=
  branch (decide (x.2 = 0))
   (branch (decide (x.1 < 4))
    (bindO (F78 K ()) fun v0 =>
    nth v0 x.1 fun v1 =>
    guard (decide ((4 + v1.length) ≤ 9223372036854775807)) <|
    some (([114, 101, 116, 32] : List UInt8) ++ v1))
    (guard (decide (0 ≤ (w64 (x.1 - 4)) ∧ (w64 (x.1 - 4)) < (4 : Int))) <|
    nthN [([108, 100, 104, 32, 91, 110, 56, 93, 44, 97] : List UInt8), ([97, 100, 100, 32, 115, 112, 44, 101, 56] : List UInt8), ([108, 100, 104, 32, 97, 44, 91, 110, 56, 93] : List UInt8), ([108, 100, 32, 104, 108, 44, 115, 112, 43, 101, 56] : List UInt8)] ((w64 (x.1 - 4)).toNat) fun v2 =>
    some v2))
   (branch (decide (x.2 = 1))
    (branch (decide ((Int.tmod x.1 2) = 0))
     (guard (decide (0 ≤ (w64 (Int.tdiv x.1 2)) ∧ (w64 (Int.tdiv x.1 2)) < (4 : Int))) <|
     nthN [([98, 99] : List UInt8), ([100, 101] : List UInt8), ([104, 108] : List UInt8), ([97, 102] : List UInt8)] ((w64 (Int.tdiv x.1 2)).toNat) fun v3 =>
     guard (decide ((4 + v3.length) ≤ 9223372036854775807)) <|
     some (([112, 111, 112, 32] : List UInt8) ++ v3))
     (guard (decide (0 ≤ (w64 (Int.tdiv x.1 2)) ∧ (w64 (Int.tdiv x.1 2)) < (4 : Int))) <|
     nthN [([114, 101, 116] : List UInt8), ([114, 101, 116, 105] : List UInt8), ([106, 112, 32, 104, 108] : List UInt8), ([108, 100, 32, 115, 112, 44, 104, 108] : List UInt8)] ((w64 (Int.tdiv x.1 2)).toNat) fun v4 =>
     some v4))
    (branch (decide (x.2 = 2))
     (branch (decide (x.1 < 4))
      (bindO (F78 K ()) fun v5 =>
      nth v5 x.1 fun v6 =>
      guard (decide ((3 + v6.length) ≤ 9223372036854775807)) <|
      guard (decide ((((([106, 112, 32] : List UInt8) ++ v6).length) + 4) ≤ 9223372036854775807)) <|
      some ((([106, 112, 32] : List UInt8) ++ v6) ++ ([44, 110, 49, 54] : List UInt8)))
      (guard (decide (0 ≤ (w64 (x.1 - 4)) ∧ (w64 (x.1 - 4)) < (4 : Int))) <|
      nthN [([108, 100, 104, 32, 91, 99, 93, 44, 97] : List UInt8), ([108, 100, 32, 91, 110, 49, 54, 93, 44, 97] : List UInt8), ([108, 100, 104, 32, 97, 44, 91, 99, 93] : List UInt8), ([108, 100, 32, 97, 44, 91, 110, 49, 54, 93] : List UInt8)] ((w64 (x.1 - 4)).toNat) fun v7 =>
      some v7))
     (branch (decide (x.2 = 3))
      (guard (decide (0 ≤ x.1 ∧ x.1 < (8 : Int))) <|
      nthN [([106, 112, 32, 110, 49, 54] : List UInt8), [], [], [], [], [], ([100, 105] : List UInt8), ([101, 105] : List UInt8)] x.1.toNat fun v8 =>
      some v8)
      (branch (decide (x.2 = 4))
       (branch (decide (x.1 < 4))
        (bindO (F78 K ()) fun v9 =>
        nth v9 x.1 fun v10 =>
        guard (decide ((5 + v10.length) ≤ 9223372036854775807)) <|
        guard (decide ((((([99, 97, 108, 108, 32] : List UInt8) ++ v10).length) + 4) ≤ 9223372036854775807)) <|
        some ((([99, 97, 108, 108, 32] : List UInt8) ++ v10) ++ ([44, 110, 49, 54] : List UInt8)))
        (some []))
       (branch (decide (x.2 = 5))
        (branch (decide ((Int.tmod x.1 2) = 0))
         (guard (decide (0 ≤ (w64 (Int.tdiv x.1 2)) ∧ (w64 (Int.tdiv x.1 2)) < (4 : Int))) <|
         nthN [([98, 99] : List UInt8), ([100, 101] : List UInt8), ([104, 108] : List UInt8), ([97, 102] : List UInt8)] ((w64 (Int.tdiv x.1 2)).toNat) fun v11 =>
         guard (decide ((5 + v11.length) ≤ 9223372036854775807)) <|
         some (([112, 117, 115, 104, 32] : List UInt8) ++ v11))
         (guard (decide (0 ≤ (w64 (Int.tdiv x.1 2)) ∧ (w64 (Int.tdiv x.1 2)) < (4 : Int))) <|
         nthN [([99, 97, 108, 108, 32, 110, 49, 54] : List UInt8), [], [], []] ((w64 (Int.tdiv x.1 2)).toNat) fun v12 =>
         some v12))
        (branch (decide (x.2 = 6))
         (bindO (F43 K ()) fun v13 =>
         nth v13 x.1 fun v14 =>
         guard (decide ((v14.length + 5) ≤ 9223372036854775807)) <|
         some (v14 ++ ([32, 97, 44, 110, 56] : List UInt8)))
         (bindO (F53 K (w64 (8 * x.1), 2)) fun v15 =>
         guard (decide ((4 + v15.length) ≤ 9223372036854775807)) <|
         some (([114, 115, 116, 32] : List UInt8) ++ v15))))))))
def ct44 (K : Nat) : Ct := ⟨[.l (.v (.i .i64)), .l (.v (.i .i64))], [], [.l (.v .s)], [], [], F44 K⟩
theorem c44 (K : Nat) : CtOk prog 44 (ct44 K) :=
  con_mk (Y := Y) (L := [(78, ct78 K), (43, ct43 K), (53, ct53 K)]) (K := K) (an := (.seq .no (.seq .no (.seq .no (.seq .no (.seq (.seq .no (.blk (.seq .no (.cond (.seq (.seq .no (.cond .no .no)) .no) (.seq .no (.cond (.seq (.seq .no (.cond .no .no)) .no) (.seq .no (.cond (.seq (.seq .no (.cond .no .no)) .no) (.seq .no (.cond .no (.seq .no (.cond (.seq (.seq .no (.cond .no .no)) .no) (.seq .no (.cond (.seq (.seq .no (.cond .no .no)) .no) (.seq .no (.cond .no .no)))))))))))))))) .no)))))) func44 mixed (ctabOk_cons (c78 K) (ctabOk_cons (c43 K) (ctabOk_cons (c53 K) ctabOk_nil))) (by kernel_rfl) fun x => by kernel_rfl
-- loop.example/g00460/spec.l3Template
def F18 (K : Nat) (x : Int × Bool) : Option (List UInt8) :=
  bindO (α := Int × Bool × Int × Int × Int × Bool) (branch x.2
     (some (x.1, x.2, w64 (Int.tdiv x.1 64), Int.tmod (w64 (Int.tdiv x.1 8)) 8, Int.tmod x.1 8, decide ((w64 (Int.tdiv x.1 64)) = 0)))
     (some (x.1, x.2, w64 (Int.tdiv x.1 64), Int.tmod (w64 (Int.tdiv x.1 8)) 8, Int.tmod x.1 8, false))) fun v0 =>
  branch v0.2.2.2.2.2
   (bindO (F39 K ()) fun v1 =>
   nth v1 v0.2.2.2.1 fun v2 =>
   guard (decide ((v2.length + 1) ≤ 9223372036854775807)) <|
   bindO (F40 K ()) fun v3 =>
   nth v3 v0.2.2.2.2.1 fun v4 =>
   guard (decide ((((v2 ++ ([32] : List UInt8)).length) + v4.length) ≤ 9223372036854775807)) <|
   some ((v2 ++ ([32] : List UInt8)) ++ v4))
   (branch v0.2.1
    (nth [[], ([98, 105, 116, 32] : List UInt8), ([114, 101, 115, 32] : List UInt8), ([115, 101, 116, 32] : List UInt8)] v0.2.2.1 fun v5 =>
    bindO (F41b K v0.2.2.2.1) fun v6 =>
    guard (decide ((v5.length + v6.length) ≤ 9223372036854775807)) <|
    guard (decide ((((v5 ++ v6).length) + 1) ≤ 9223372036854775807)) <|
    bindO (F40 K ()) fun v7 =>
    nth v7 v0.2.2.2.2.1 fun v8 =>
    guard (decide (((((v5 ++ v6) ++ ([44] : List UInt8)).length) + v8.length) ≤ 9223372036854775807)) <|
    some (((v5 ++ v6) ++ ([44] : List UInt8)) ++ v8))
    (branch (decide (v0.2.2.1 = 0))
     (bindO (F42 K (v0.2.2.2.1, v0.2.2.2.2.1)) fun v9 =>
     some v9)
     (branch (decide (v0.1 = 118))
      (some ([104, 97, 108, 116] : List UInt8))
      (branch (decide (v0.2.2.1 = 1))
       (bindO (F40 K ()) fun v10 =>
       nth v10 v0.2.2.2.1 fun v11 =>
       guard (decide ((3 + v11.length) ≤ 9223372036854775807)) <|
       guard (decide ((((([108, 100, 32] : List UInt8) ++ v11).length) + 1) ≤ 9223372036854775807)) <|
       bindO (F40 K ()) fun v12 =>
       nth v12 v0.2.2.2.2.1 fun v13 =>
       guard (decide (((((([108, 100, 32] : List UInt8) ++ v11) ++ ([44] : List UInt8)).length) + v13.length) ≤ 9223372036854775807)) <|
       some (((([108, 100, 32] : List UInt8) ++ v11) ++ ([44] : List UInt8)) ++ v13))
       (branch (decide (v0.2.2.1 = 2))
        (bindO (F43 K ()) fun v14 =>
        nth v14 v0.2.2.2.1 fun v15 =>
        guard (decide ((v15.length + 3) ≤ 9223372036854775807)) <|
        bindO (F40 K ()) fun v16 =>
        nth v16 v0.2.2.2.2.1 fun v17 =>
        guard (decide ((((v15 ++ ([32, 97, 44] : List UInt8)).length) + v17.length) ≤ 9223372036854775807)) <|
        some ((v15 ++ ([32, 97, 44] : List UInt8)) ++ v17))
        (bindO (F44 K (v0.2.2.2.1, v0.2.2.2.2.1)) fun v18 =>
        some v18))))))
def ct18 (K : Nat) : Ct := ⟨[.l (.v (.i .i64)), .l (.v .b)], [], [.l (.v .s)], [], [], F18 K⟩
theorem c18 (K : Nat) : CtOk prog 18 (ct18 K) :=
  con_mk (Y := Y) (L := [(41, ct41b K), (39, ct39 K), (40, ct40 K), (42, ct42 K), (43, ct43 K), (44, ct44 K)]) (K := K) (an := (.seq .no (.seq .no (.seq .no (.seq .no (.seq (.blk (.seqJ [(1000000, ⟨(.l (.v (.i .i64)) :: .l (.v .b) :: ru 3 (.l (.v (.i .i64)) :: .l (.v (.i .i64)) :: .l (.v (.i .i64)) :: ru 7 (.l (.v .b) :: ru 69 []))), []⟩)] false .no (.cond .no (.seq .no (.cond (.seq (.reg [0] []) .no) (.seq .no (.cond .no (.seq .no (.cond .no (.seq .no (.cond .no (.seq .no (.cond .no .no))))))))))))) .no)))))) func18 mixed (ctabOk_cons (c41b K) (ctabOk_cons (c39 K) (ctabOk_cons (c40 K) (ctabOk_cons (c42 K) (ctabOk_cons (c43 K) (ctabOk_cons (c44 K) ctabOk_nil)))))) (by kernel_rfl) fun x => by kernel_rfl
-- loop.example/g00460/spec.l3Hole
def F19_b1 (K : Nat) (x : (List UInt8) × Int × Int × List (List UInt8)) : Option (((List UInt8) × Int × Int × List (List UInt8)) ⊕ ((Int × List UInt8) ⊕ ((List UInt8) × Int × List (List UInt8)))) :=
  guard (decide (0 ≤ x.2.1 ∧ x.2.1 < (x.2.2.2.length : Int))) <|
  nthN x.2.2.2 x.2.1.toNat fun v0 =>
  branch (decide ((w64 (x.2.2.1 + (v0.length : Int))) ≤ (x.1.length : Int)))
   (guard (decide (0 ≤ x.2.1 ∧ x.2.1 < (x.2.2.2.length : Int))) <|
   nthN x.2.2.2 x.2.1.toNat fun v1 =>
   guard (decide (0 ≤ x.2.2.1 ∧ x.2.2.1 ≤ (w64 (x.2.2.1 + (v1.length : Int))) ∧ (w64 (x.2.2.1 + (v1.length : Int))) ≤ (x.1.length : Int))) <|
   guard (decide (0 ≤ x.2.1 ∧ x.2.1 < (x.2.2.2.length : Int))) <|
   nthN x.2.2.2 x.2.1.toNat fun v2 =>
   branch (decide ((subL x.1 x.2.2.1 (w64 (x.2.2.1 + (v1.length : Int)))) = v2))
    (guard (decide (0 ≤ x.2.1 ∧ x.2.1 < (x.2.2.2.length : Int))) <|
    nthN x.2.2.2 x.2.1.toNat fun v3 =>
    some (.inr (.inl (x.2.2.1, v3))))
    (some (.inl (x.1, x.2.1, w64 (x.2.2.1 + 1), x.2.2.2))))
   (some (.inr (.inr (x.1, x.2.1, x.2.2.2))))
def F19_b0 (K : Nat) (x : (List UInt8) × Int × List (List UInt8)) : Option (((List UInt8) × Int × List (List UInt8)) ⊕ ((Int × List UInt8) ⊕ Unit)) :=
  branch (decide (x.2.1 < (x.2.2.length : Int)))
   (bindO (iter K (F19_b1 K) (x.1, x.2.1, 0, x.2.2)) fun v0 =>
   csO v0
    (fun v1 => some (.inr (.inl v1)))
    (fun v2 => some (.inl (v2.1, w64 (v2.2.1 + 1), v2.2.2))))
   (some (.inr (.inr ())))
def F19 (K : Nat) (x : List UInt8) : Option (Int × List UInt8) :=
  bindO (iter K (F19_b0 K) (x, 0, [([110, 49, 54] : List UInt8), ([110, 56] : List UInt8), ([101, 56] : List UInt8)])) fun v0 =>
  csO v0
   (fun v1 => some v1)
   (fun v2 => some ((-1), []))
def ct19 (K : Nat) : Ct := ⟨[.l (.v .s)], [], [.l (.v (.i .i64)), .l (.v .s)], [], [], F19 K⟩
theorem c19 (K : Nat) : CtOk prog 19 (ct19 K) :=
  con_mk (Y := Y) (L := []) (K := K) (an := (.seq .no (.seq .no (.seq (.seq .no (.blk (.loop [] ⟨(.l (.v .s) :: ru 3 (.l (.all 8000) :: .l (.v (.i .i64)) :: ru 40 [])), [(8000, ⟨1, true, .row .s⟩)]⟩ [(0, ⟨(ru 46 []), []⟩)] true (.seq (.seq .no .no) (.seq (.blk (.seq .no (.blk (.loop [] ⟨(.l (.v .s) :: ru 3 (.l (.all 8000) :: .l (.v (.i .i64)) :: .l (.v (.i .i64)) :: ru 39 [])), [(8000, ⟨1, true, .row .s⟩)]⟩ [(2, ⟨(.l (.v .s) :: ru 3 (.l (.all 8000) :: .l (.v (.i .i64)) :: ru 40 [])), [(8000, ⟨1, true, .row .s⟩)]⟩)] true (.seq (.seq .no .no) (.seq (.blk (.seq .no (.cond .no .no))) .no)))))) .no))))) .no)))) func19 mixed ctabOk_nil (by kernel_rfl) fun x => by kernel_rfl
-- loop.example/g00460/spec.l3Fits
def F20 (K : Nat) (x : (List UInt8) × List UInt8) : Option ((List UInt8) × Bool) :=
  bindO (F19 K x.2) fun v0 =>
  branch (decide (v0.1 < 0))
   (some ([], decide (x.1 = x.2)))
   (guard (decide (0 ≤ (w64 (v0.1 + (v0.2.length : Int))) ∧ (w64 (v0.1 + (v0.2.length : Int))) ≤ (x.2.length : Int))) <|
   bindO (α := ((List UInt8) × Bool) ⊕ ((List UInt8) × Int × List UInt8)) (bindO (α := (List UInt8) × Int × (List UInt8) × Bool) (branch (decide ((x.1.length : Int) ≤ (w64 (v0.1 + ((dpL x.2 (w64 (v0.1 + (v0.2.length : Int)))).length : Int)))))
        (some (x.1, v0.1, dpL x.2 (w64 (v0.1 + (v0.2.length : Int))), true))
        (guard (decide (0 ≤ v0.1 ∧ v0.1 ≤ (x.1.length : Int))) <|
        guard (decide (0 ≤ v0.1 ∧ v0.1 ≤ (x.2.length : Int))) <|
        branch (!(decide ((tkL x.1 v0.1) = (tkL x.2 v0.1))))
         (some (x.1, v0.1, dpL x.2 (w64 (v0.1 + (v0.2.length : Int))), true))
         (guard (decide (0 ≤ (w64 ((x.1.length : Int) - ((dpL x.2 (w64 (v0.1 + (v0.2.length : Int)))).length : Int))) ∧ (w64 ((x.1.length : Int) - ((dpL x.2 (w64 (v0.1 + (v0.2.length : Int)))).length : Int))) ≤ (x.1.length : Int))) <|
         some (x.1, v0.1, dpL x.2 (w64 (v0.1 + (v0.2.length : Int))), !(decide ((dpL x.1 (w64 ((x.1.length : Int) - ((dpL x.2 (w64 (v0.1 + (v0.2.length : Int)))).length : Int)))) = (dpL x.2 (w64 (v0.1 + (v0.2.length : Int)))))))))) fun v1 =>
     branch v1.2.2.2
      (some (.inl ([], false)))
      (some (.inr (v1.1, v1.2.1, v1.2.2.1)))) fun v2 =>
   csO v2
    (fun v3 => some v3)
    (fun v4 => guard (decide (0 ≤ v4.2.1 ∧ v4.2.1 ≤ (w64 ((v4.1.length : Int) - (v4.2.2.length : Int))) ∧ (w64 ((v4.1.length : Int) - (v4.2.2.length : Int))) ≤ (v4.1.length : Int))) <|
    some (subL v4.1 v4.2.1 (w64 ((v4.1.length : Int) - (v4.2.2.length : Int))), true)))
def ct20 (K : Nat) : Ct := ⟨[.l (.v .s), .l (.v .s)], [], [.l (.v .s), .l (.v .b)], [], [], F20 K⟩
theorem c20 (K : Nat) : CtOk prog 20 (ct20 K) :=
  con_mk (Y := Y) (L := [(19, ct19 K)]) (K := K) (an := (.seq .no (.seq .no (.seq (.seq .no (.cond .no .no)) (.seq .no (.seqJ [(1000000, ⟨(.l (.v .s) :: ru 5 (.l (.v (.i .i64)) :: ru 1 (.l (.v .s) :: ru 51 []))), []⟩)] true (.seqJ [(1000000, ⟨(.l (.v .s) :: ru 5 (.l (.v (.i .i64)) :: ru 1 (.l (.v .s) :: ru 42 (.l (.v .b) :: ru 8 [])))), []⟩)] false .no (.cond .no .no)) .no)))))) func20 mixed (ctabOk_cons (c19 K) ctabOk_nil) (by kernel_rfl) fun x => by kernel_rfl
-- loop.example/g00460/spec.l1Letter
def F160 (K : Nat) (x : Int) : Option (Bool) :=
  branch (decide (97 ≤ x))
   (branch (decide (x ≤ 122))
    (some true)
    (branch (decide (x = 95))
     (some true)
     (some (decide (x = 46)))))
   (branch (decide (x = 95))
    (some true)
    (some (decide (x = 46))))
def ct160 (K : Nat) : Ct := ⟨[.l (.v (.i .u8))], [], [.l (.v .b)], [], [], F160 K⟩
theorem c160 (K : Nat) : CtOk prog 160 (ct160 K) :=
  con_mk (Y := Y) (L := []) (K := K) (an := (.seq .no .no)) func160 mixed ctabOk_nil (by kernel_rfl) fun x => by kernel_rfl
-- loop.example/g00460/spec.NameOk
def F137_b0 (K : Nat) (x : (List UInt8) × Int) : Option (((List UInt8) × Int) ⊕ (Bool ⊕ Unit)) :=
  branch (decide (x.2 < (x.1.length : Int)))
   (bindO (α := (List UInt8) × Int × Bool) (nth x.1 x.2 fun v0 =>
     bindO (F160 K (v0.toNat : Int)) fun v1 =>
     branch (!v1)
      (nth x.1 x.2 fun v2 =>
      branch (decide (48 ≤ (v2.toNat : Int)))
       (nth x.1 x.2 fun v3 =>
       some (x.1, x.2, !(decide ((v3.toNat : Int) ≤ 57))))
       (some (x.1, x.2, true)))
      (some (x.1, x.2, false))) fun v4 =>
   branch v4.2.2
    (some (.inr (.inl false)))
    (some (.inl (v4.1, w64 (v4.2.1 + 1)))))
   (some (.inr (.inr ())))
def F137 (K : Nat) (x : List UInt8) : Option (Bool) :=
  bindO (α := Bool ⊕ (List UInt8)) (bindO (α := (List UInt8) × Bool) (branch (decide ((x.length : Int) < 1))
       (some (x, true))
       (branch (decide (16 < (x.length : Int)))
        (some (x, true))
        (nth x 0 fun v0 =>
        bindO (F160 K (v0.toNat : Int)) fun v1 =>
        some (x, !v1)))) fun v2 =>
    branch v2.2
     (some (.inl false))
     (some (.inr v2.1))) fun v3 =>
  csO v3
   (fun v4 => some v4)
   (fun v5 => bindO (iter K (F137_b0 K) (v5, 0)) fun v6 =>
   csO v6
    (fun v7 => some v7)
    (fun v8 => some true))
def ct137 (K : Nat) : Ct := ⟨[.l (.v .s)], [], [.l (.v .b)], [], [], F137 K⟩
theorem c137 (K : Nat) : CtOk prog 137 (ct137 K) :=
  con_mk (Y := Y) (L := [(160, ct160 K)]) (K := K) (an := (.seq .no (.seqJ [(1000000, ⟨(.l (.v .s) :: ru 41 []), []⟩)] true (.seqJ [(1000000, ⟨(.l (.v .s) :: ru 16 (.l (.v .b) :: ru 24 [])), []⟩)] false .no (.cond .no .no)) (.seq (.seq .no (.blk (.loop [] ⟨(.l (.v .s) :: ru 2 (.l (.v (.i .i64)) :: ru 38 [])), []⟩ [(0, ⟨(ru 42 []), []⟩)] true (.seq (.seq .no .no) (.seq (.blk (.seqJ [(1000000, ⟨(.l (.v .s) :: ru 2 (.l (.v (.i .i64)) :: ru 37 (.l (.v .b) :: []))), []⟩)] false .no (.cond .no .no))) .no))))) .no)))) func137 mixed (ctabOk_cons (c160 K) ctabOk_nil) (by kernel_rfl) fun x => by kernel_rfl
-- loop.example/g00460/spec.l1Digit
def F186 (K : Nat) (x : Int) : Option (Int) :=
  bindO (α := Int × Bool) (branch (decide (48 ≤ x))
     (some (x, decide (x ≤ 57)))
     (some (x, false))) fun v0 =>
  branch v0.2
   (some (w64 (w8 (v0.1 - 48))))
   (bindO (α := Int × Bool) (branch (decide (65 ≤ v0.1))
      (some (v0.1, decide (v0.1 ≤ 70)))
      (some (v0.1, false))) fun v1 =>
   branch v1.2
    (some (w64 ((w64 (w8 (v1.1 - 65))) + 10)))
    (some 99))
def ct186 (K : Nat) : Ct := ⟨[.l (.v (.i .u8))], [], [.l (.v (.i .i64))], [], [], F186 K⟩
theorem c186 (K : Nat) : CtOk prog 186 (ct186 K) :=
  con_mk (Y := Y) (L := []) (K := K) (an := (.seq .no (.seq (.blk (.seqJ [(1000000, ⟨(.l (.v (.i .u8)) :: ru 2 (.l (.v .b) :: ru 20 [])), []⟩)] false .no (.cond .no (.seqJ [(1000000, ⟨(.l (.v (.i .u8)) :: ru 12 (.l (.v .b) :: ru 10 [])), []⟩)] false .no (.cond .no .no))))) .no))) func186 mixed ctabOk_nil (by kernel_rfl) fun x => by kernel_rfl
-- loop.example/g00460/spec.l1Base
def F161_b0 (K : Nat) (x : (List UInt8) × Int × Int × Int) : Option (((List UInt8) × Int × Int × Int) ⊕ ((Int × Bool) ⊕ ((List UInt8) × Int))) :=
  branch (decide (x.2.2.2 < (x.1.length : Int)))
   (nth x.1 x.2.2.2 fun v0 =>
   bindO (F186 K (v0.toNat : Int)) fun v1 =>
   branch (decide (x.2.1 ≤ v1))
    (some (.inr (.inl (0, false))))
    (branch (decide (65535 < (w64 ((w64 (x.2.2.1 * x.2.1)) + v1))))
     (some (.inr (.inl (0, false))))
     (some (.inl (x.1, x.2.1, w64 ((w64 (x.2.2.1 * x.2.1)) + v1), w64 (x.2.2.2 + 1))))))
   (some (.inr (.inr (x.1, x.2.2.1))))
def F161 (K : Nat) (x : (List UInt8) × Int) : Option (Int × Bool) :=
  bindO (iter K (F161_b0 K) (x.1, x.2, 0, 0)) fun v0 =>
  csO v0
   (fun v1 => some v1)
   (fun v2 => some (v2.2, !(decide (v2.1 = []))))
def ct161 (K : Nat) : Ct := ⟨[.l (.v .s), .l (.v (.i .i64))], [], [.l (.v (.i .i64)), .l (.v .b)], [], [], F161 K⟩
theorem c161 (K : Nat) : CtOk prog 161 (ct161 K) :=
  con_mk (Y := Y) (L := [(186, ct186 K)]) (K := K) (an := (.seq .no (.seq .no (.seq (.seq .no (.blk (.loop [] ⟨(.l (.v .s) :: .l (.v (.i .i64)) :: ru 4 (.l (.v (.i .i64)) :: .l (.v (.i .i64)) :: ru 24 [])), []⟩ [(0, ⟨(.l (.v .s) :: ru 5 (.l (.v (.i .i64)) :: ru 25 [])), []⟩)] true (.seq (.seq .no .no) (.seq (.blk (.seq .no (.seq (.seq .no (.cond .no .no)) (.seq .no (.seq .no (.cond .no .no)))))) .no))))) .no)))) func161 mixed (ctabOk_cons (c186 K) ctabOk_nil) (by kernel_rfl) fun x => by kernel_rfl
-- loop.example/g00460/spec.ReadNum
def F138 (K : Nat) (x : List UInt8) : Option (Int × Bool) :=
  bindO (α := (Int × Bool) ⊕ (List UInt8)) (bindO (α := (List UInt8) × Bool) (branch (decide (18 < (x.length : Int)))
       (some (x, true))
       (some (x, decide (x = [])))) fun v0 =>
    branch v0.2
     (some (.inl (0, false)))
     (some (.inr v0.1))) fun v1 =>
  csO v1
   (fun v2 => some v2)
   (fun v3 => nth v3 0 fun v4 =>
   branch (decide ((v4.toNat : Int) = 36))
    (guard (decide ((0 : Int) ≤ 1 ∧ 1 ≤ (v3.length : Int))) <|
    bindO (F161 K (dpL v3 1, 16)) fun v5 =>
    some v5)
    (branch (decide ((v4.toNat : Int) = 37))
     (guard (decide ((0 : Int) ≤ 1 ∧ 1 ≤ (v3.length : Int))) <|
     bindO (F161 K (dpL v3 1, 2)) fun v6 =>
     some v6)
     (bindO (F161 K (v3, 10)) fun v7 =>
     some v7)))
def ct138 (K : Nat) : Ct := ⟨[.l (.v .s)], [], [.l (.v (.i .i64)), .l (.v .b)], [], [], F138 K⟩
theorem c138 (K : Nat) : CtOk prog 138 (ct138 K) :=
  con_mk (Y := Y) (L := [(161, ct161 K)]) (K := K) (an := (.seq .no (.seqJ [(1000000, ⟨(.l (.v .s) :: ru 30 []), []⟩)] true (.seqJ [(1000000, ⟨(.l (.v .s) :: ru 9 (.l (.v .b) :: ru 20 [])), []⟩)] false .no (.cond .no .no)) (.seq (.seq .no (.blk (.seq .no (.cond .no (.seq .no (.cond .no .no)))))) .no)))) func138 mixed (ctabOk_cons (c161 K) ctabOk_nil) (by kernel_rfl) fun x => by kernel_rfl
-- loop.example/g00460/spec.l2Takes
def F110 (K : Nat) (x : Int) : Option (Int) :=
  bindO (F38 K (x, 1, 3)) fun v0 =>
  branch v0
   (some 0)
   (bindO (F38 K (x, 4, 7)) fun v1 =>
   branch v1
    (some 1)
    (bindO (F38 K (x, 8, 17)) fun v2 =>
    branch v2
     (some 2)
     (some (-1))))
def ct110 (K : Nat) : Ct := ⟨[.l (.v (.i .i64))], [], [.l (.v (.i .i64))], [], [], F110 K⟩
theorem c110 (K : Nat) : CtOk prog 110 (ct110 K) :=
  con_mk (Y := Y) (L := [(38, ct38 K)]) (K := K) (an := (.seq .no (.seq (.blk (.seq .no (.cond .no (.seq .no (.cond .no (.seq .no (.cond .no .no))))))) .no))) func110 mixed (ctabOk_cons (c38 K) ctabOk_nil) (by kernel_rfl) fun x => by kernel_rfl
-- loop.example/g00460/spec.l2Node
def F109 (K : Nat) (x : Int × Int × List UInt8) : Option (Bool) :=
  bindO (α := Bool ⊕ (Int × Int × List UInt8)) (branch (decide (x.1 = 1))
     (bindO (F38 K (x.2.1, 0, 65535)) fun v0 =>
     branch v0
      (some (.inl (decide (x.2.2 = []))))
      (some (.inl false)))
     (bindO (α := Bool × Int × Int × List UInt8) (branch (decide (x.1 = 2))
        (some (true, x))
        (some (decide (x.1 = 3), x))) fun v1 =>
     branch v1.1
      (branch (decide (v1.2.2.1 = 0))
       (bindO (F137 K v1.2.2.2) fun v2 =>
       some (.inl v2))
       (some (.inl false)))
      (some (.inr v1.2)))) fun v3 =>
  csO v3
   (fun v4 => some v4)
   (fun v5 => branch (decide (v5.2.1 = 0))
    (branch (decide (v5.2.2 = []))
     (bindO (F110 K v5.1) fun v6 =>
     some (decide (0 < v6)))
     (some false))
    (some false))
def ct109 (K : Nat) : Ct := ⟨[.agg [(.v (.i .i64)), (.v (.i .i64)), (.v .s)]], [], [.l (.v .b)], [], [], F109 K⟩
theorem c109 (K : Nat) : CtOk prog 109 (ct109 K) :=
  con_mk (Y := Y) (L := [(38, ct38 K), (137, ct137 K), (110, ct110 K)]) (K := K) (an := (.seq .no (.seqJ [(1000000, ⟨(ru 1 (.l (.ptr 2000 0 0) :: ru 38 [])), [(2000, ⟨3, false, .mix (some 47) [[.l (.v (.i .i64)), .l (.v (.i .i64)), .l (.v .s)]]⟩)]⟩)] true (.seq .no (.blk (.seq .no (.cond .no (.seqJ [(1000000, ⟨(ru 1 (.l (.ptr 2000 0 0) :: ru 13 (.l (.v .b) :: ru 24 []))), [(2000, ⟨3, false, .mix (some 47) [[.l (.v (.i .i64)), .l (.v (.i .i64)), .l (.v .s)]]⟩)]⟩)] false (.seq .no .no) (.cond .no .no)))))) .no))) func109 mixed (ctabOk_cons (c38 K) (ctabOk_cons (c137 K) (ctabOk_cons (c110 K) ctabOk_nil))) (by kernel_rfl) fun x => by kernel_rfl
-- loop.example/g00460/spec.l2Put
def F82_b0 (K : Nat) (x : (List (List UInt8)) × (List UInt8) × Int) : Option (((List (List UInt8)) × (List UInt8) × Int) ⊕ ((List (List UInt8)) × (List UInt8) × Int)) :=
  branch (decide (x.2.2 < (x.1.length : Int)))
   (nth x.1 x.2.2 fun v0 =>
   branch (Go.Op.bytesLess v0 x.2.1)
    (some (.inl (x.1, x.2.1, w64 (x.2.2 + 1))))
    (some (.inr x)))
   (some (.inr x))
def F82 (K : Nat) (x : (List (List UInt8)) × List UInt8) : Option (List (List UInt8)) :=
  bindO (iter K (F82_b0 K) (x.1, x.2, 0)) fun v0 =>
  bindO (α := (List (List UInt8)) ⊕ ((List (List UInt8)) × (List UInt8) × Int)) (bindO (α := (List (List UInt8)) × (List UInt8) × Int × Bool) (branch (decide (v0.2.2 < (v0.1.length : Int)))
       (nth v0.1 v0.2.2 fun v1 =>
       some (v0.1, v0.2.1, v0.2.2, decide (v1 = v0.2.1)))
       (some (v0.1, v0.2.1, v0.2.2, false))) fun v2 =>
    branch v2.2.2.2
     (some (.inl v2.1))
     (some (.inr (v2.1, v2.2.1, v2.2.2.1)))) fun v3 =>
  csO v3
   (fun v4 => some v4)
   (fun v5 => guard (decide (0 ≤ v5.2.2 ∧ v5.2.2 ≤ (v5.1.length : Int))) <|
   guard (fitN (0 + ((tkL v5.1 v5.2.2).length)) 16) <|
   guard (fitN ((([] ++ (tkL v5.1 v5.2.2)).length) + [v5.2.1].length) 16) <|
   guard (decide (0 ≤ v5.2.2 ∧ v5.2.2 ≤ (v5.1.length : Int))) <|
   guard (fitN (((([] ++ (tkL v5.1 v5.2.2)) ++ [v5.2.1]).length) + ((dpL v5.1 v5.2.2).length)) 16) <|
   some ((([] ++ (tkL v5.1 v5.2.2)) ++ [v5.2.1]) ++ (dpL v5.1 v5.2.2)))
def ct82 (K : Nat) : Ct := ⟨[.l (.v (.l .s)), .l (.v .s)], [], [.l (.v (.l .s))], [], [], F82 K⟩
theorem c82 (K : Nat) : CtOk prog 82 (ct82 K) :=
  con_mk (Y := Y) (L := []) (K := K) (an := (.seq .no (.seq .no (.seq (.blk (.loop [] ⟨(.l (.v (.l .s)) :: .l (.v .s) :: ru 3 (.l (.v (.i .i64)) :: ru 42 [])), []⟩ [(0, ⟨(.l (.v (.l .s)) :: .l (.v .s) :: ru 3 (.l (.v (.i .i64)) :: ru 42 [])), []⟩)] false (.seq (.seq .no .no) .no))) (.seqJ [(1000000, ⟨(.l (.v (.l .s)) :: .l (.v .s) :: ru 3 (.l (.v (.i .i64)) :: ru 42 [])), []⟩)] true (.seqJ [(1000000, ⟨(.l (.v (.l .s)) :: .l (.v .s) :: ru 3 (.l (.v (.i .i64)) :: ru 26 (.l (.v .b) :: ru 15 []))), []⟩)] false .no (.cond .no .no)) (.seq .no (.seq .no .no))))))) func82 mixed ctabOk_nil (by kernel_rfl) fun x => by kernel_rfl
-- loop.example/g00460/spec.l10Held
def F47_b0 (K : Nat) (x : (List UInt8) × Int × List (List UInt8)) : Option (((List UInt8) × Int × List (List UInt8)) ⊕ (Bool ⊕ Unit)) :=
  branch (decide (x.2.1 < (x.2.2.length : Int)))
   (guard (decide (0 ≤ x.2.1 ∧ x.2.1 < (x.2.2.length : Int))) <|
   nthN x.2.2 x.2.1.toNat fun v0 =>
   branch (decide (v0 = x.1))
    (some (.inr (.inl true)))
    (some (.inl (x.1, w64 (x.2.1 + 1), x.2.2))))
   (some (.inr (.inr ())))
def F47 (K : Nat) (x : List UInt8) : Option (Bool) :=
  bindO (F40 K ()) fun v0 =>
  guard (fitN (2 + v0.length) 16) <|
  bindO (F79 K ()) fun v1 =>
  guard (fitN ((([([97, 102] : List UInt8), ([97] : List UInt8)] ++ v0).length) + v1.length) 16) <|
  bindO (F78 K ()) fun v2 =>
  guard (fitN (((([([97, 102] : List UInt8), ([97] : List UInt8)] ++ v0) ++ v1).length) + v2.length) 16) <|
  bindO (iter K (F47_b0 K) (x, 0, (([([97, 102] : List UInt8), ([97] : List UInt8)] ++ v0) ++ v1) ++ v2)) fun v3 =>
  csO v3
   (fun v4 => some v4)
   (fun v5 => some false)
def ct47 (K : Nat) : Ct := ⟨[.l (.v .s)], [], [.l (.v .b)], [], [], F47 K⟩
theorem c47 (K : Nat) : CtOk prog 47 (ct47 K) :=
  con_mk (Y := Y) (L := [(40, ct40 K), (78, ct78 K), (79, ct79 K)]) (K := K) (an := (.seq .no (.seq .no (.seq (.seq .no (.blk (.loop [] ⟨(.l (.v .s) :: ru 2 (.l (.all 6000) :: .l (.v (.i .i64)) :: ru 19 [])), [(6000, ⟨1, true, .row .s⟩)]⟩ [(0, ⟨(ru 24 []), []⟩)] true (.seq (.seq .no .no) (.seq (.blk (.seq .no (.cond .no .no))) .no))))) .no)))) func47 mixed (ctabOk_cons (c40 K) (ctabOk_cons (c78 K) (ctabOk_cons (c79 K) ctabOk_nil))) (by kernel_rfl) fun x => by kernel_rfl
-- loop.example/g00460/impl.within
def F91 (K : Nat) (x : Int × Int × Int) : Option (Bool) :=
  branch (decide (x.2.1 ≤ x.1))
   (some (decide (x.1 ≤ x.2.2)))
   (some false)
def ct91 (K : Nat) : Ct := ⟨[.l (.v (.i .i64)), .l (.v (.i .i64)), .l (.v (.i .i64))], [], [.l (.v .b)], [], [], F91 K⟩
theorem c91 (K : Nat) : CtOk prog 91 (ct91 K) :=
  con_mk (Y := Y) (L := []) (K := K) (an := (.seq .no .no)) func91 mixed ctabOk_nil (by kernel_rfl) fun x => by kernel_rfl
-- loop.example/g00460/impl.isByte
def F59 (K : Nat) (x : Int) : Option (Bool) :=
  bindO (F91 K (x, 0, 255)) fun v0 =>
  some v0
def ct59 (K : Nat) : Ct := ⟨[.l (.v (.i .i64))], [], [.l (.v .b)], [], [], F59 K⟩
theorem c59 (K : Nat) : CtOk prog 59 (ct59 K) :=
  con_mk (Y := Y) (L := [(91, ct91 K)]) (K := K) (an := (.seq .no .no)) func59 mixed (ctabOk_cons (c91 K) ctabOk_nil) (by kernel_rfl) fun x => by kernel_rfl
-- loop.example/g00460/impl.names
def F65 (K : Nat) (x : List UInt8) : Option (List (List UInt8)) :=
  bindO (F95 K (x, ([32] : List UInt8))) fun v0 =>
  some v0
def ct65 (K : Nat) : Ct := ⟨[.l (.v .s)], [], [.l (.v (.l .s))], [], [], F65 K⟩
theorem c65 (K : Nat) : CtOk prog 65 (ct65 K) :=
  con_mk (Y := Y) (L := [(95, ct95 K)]) (K := K) (an := (.seq .no .no)) func65 mixed (ctabOk_cons (c95 K) ctabOk_nil) (by kernel_rfl) fun x => by kernel_rfl
-- loop.example/g00460/impl.turns
def F92 (K : Nat) (x : Unit) : Option (List (List UInt8)) :=
  bindO (F65 K ([114, 108, 99, 32, 114, 114, 99, 32, 114, 108, 32, 114, 114, 32, 115, 108, 97, 32, 115, 114, 97, 32, 115, 119, 97, 112, 32, 115, 114, 108] : List UInt8)) fun v0 =>
  some v0
def ct92 (K : Nat) : Ct := ⟨[], [], [.l (.v (.l .s))], [], [], F92 K⟩
theorem c92 (K : Nat) : CtOk prog 92 (ct92 K) :=
  con_mk (Y := Y) (L := [(65, ct65 K)]) (K := K) (an := (.seq .no .no)) func92 mixed (ctabOk_cons (c65 K) ctabOk_nil) (by kernel_rfl) fun x => by kernel_rfl
-- loop.example/g00460/impl.regs
def F64 (K : Nat) (x : Unit) : Option (List (List UInt8)) :=
  bindO (F65 K ([98, 32, 99, 32, 100, 32, 101, 32, 104, 32, 108, 32, 91, 104, 108, 93, 32, 97] : List UInt8)) fun v0 =>
  some v0
def ct64 (K : Nat) : Ct := ⟨[], [], [.l (.v (.l .s))], [], [], F64 K⟩
theorem c64 (K : Nat) : CtOk prog 64 (ct64 K) :=
  con_mk (Y := Y) (L := [(65, ct65 K)]) (K := K) (an := (.seq .no .no)) func64 mixed (ctabOk_cons (c65 K) ctabOk_nil) (by kernel_rfl) fun x => by kernel_rfl
-- loop.example/g00460/impl.decimal
def F75 (K : Nat) (x : Int) : Option (List UInt8) :=
  bindO (F103 K (x, 10)) fun v0 =>
  some v0
def ct75 (K : Nat) : Ct := ⟨[.l (.v (.i .i64))], [], [.l (.v .s)], [], [], F75 K⟩
theorem c75 (K : Nat) : CtOk prog 75 (ct75 K) :=
  con_mk (Y := Y) (L := [(103, ct103h K), (103, ct103 K)]) (K := K) (an := (.seq .no .no)) func75 mixed (ctabOk_cons (c103h K) (ctabOk_cons (c103 K) ctabOk_nil)) (by kernel_rfl) fun x => by kernel_rfl
-- loop.example/g00460/impl.prefixed
def F60 (K : Nat) (x : Int × Int × Int) : Option (List UInt8) :=
  branch (decide (x.1 = 0))
   (bindO (F92 K ()) fun v0 =>
   nth v0 x.2.1 fun v1 =>
   guard (decide ((v1.length + 1) ≤ 9223372036854775807)) <|
   bindO (F64 K ()) fun v2 =>
   nth v2 x.2.2 fun v3 =>
   guard (decide ((((v1 ++ ([32] : List UInt8)).length) + v3.length) ≤ 9223372036854775807)) <|
   some ((v1 ++ ([32] : List UInt8)) ++ v3))
   (bindO (F65 K ([98, 105, 116, 32, 114, 101, 115, 32, 115, 101, 116] : List UInt8)) fun v4 =>
   nth v4 (w64 (x.1 - 1)) fun v5 =>
   guard (decide ((v5.length + 1) ≤ 9223372036854775807)) <|
   bindO (F75 K x.2.1) fun v6 =>
   guard (decide ((((v5 ++ ([32] : List UInt8)).length) + v6.length) ≤ 9223372036854775807)) <|
   guard (decide (((((v5 ++ ([32] : List UInt8)) ++ v6).length) + 1) ≤ 9223372036854775807)) <|
   bindO (F64 K ()) fun v7 =>
   nth v7 x.2.2 fun v8 =>
   guard (decide ((((((v5 ++ ([32] : List UInt8)) ++ v6) ++ ([44] : List UInt8)).length) + v8.length) ≤ 9223372036854775807)) <|
   some ((((v5 ++ ([32] : List UInt8)) ++ v6) ++ ([44] : List UInt8)) ++ v8))
def ct60 (K : Nat) : Ct := ⟨[.l (.v (.i .i64)), .l (.v (.i .i64)), .l (.v (.i .i64))], [], [.l (.v .s)], [], [], F60 K⟩
theorem c60 (K : Nat) : CtOk prog 60 (ct60 K) :=
  con_mk (Y := Y) (L := [(65, ct65 K), (92, ct92 K), (64, ct64 K), (75, ct75 K)]) (K := K) (an := (.seq .no (.seq (.seq .no (.cond .no .no)) .no))) func60 mixed (ctabOk_cons (c65 K) (ctabOk_cons (c92 K) (ctabOk_cons (c64 K) (ctabOk_cons (c75 K) ctabOk_nil)))) (by kernel_rfl) fun x => by kernel_rfl
-- loop.example/g00460/impl.conds
def F93 (K : Nat) (x : Unit) : Option (List (List UInt8)) :=
  bindO (F65 K ([110, 122, 32, 122, 32, 110, 99, 32, 99] : List UInt8)) fun v0 =>
  some v0
def ct93 (K : Nat) : Ct := ⟨[], [], [.l (.v (.l .s))], [], [], F93 K⟩
theorem c93 (K : Nat) : CtOk prog 93 (ct93 K) :=
  con_mk (Y := Y) (L := [(65, ct65 K)]) (K := K) (an := (.seq .no .no)) func93 mixed (ctabOk_cons (c65 K) ctabOk_nil) (by kernel_rfl) fun x => by kernel_rfl
-- loop.example/g00460/impl.pairs
def F94 (K : Nat) (x : Unit) : Option (List (List UInt8)) :=
  bindO (F65 K ([98, 99, 32, 100, 101, 32, 104, 108, 32, 115, 112] : List UInt8)) fun v0 =>
  some v0
def ct94 (K : Nat) : Ct := ⟨[], [], [.l (.v (.l .s))], [], [], F94 K⟩
theorem c94 (K : Nat) : CtOk prog 94 (ct94 K) :=
  con_mk (Y := Y) (L := [(65, ct65 K)]) (K := K) (an := (.seq .no .no)) func94 mixed (ctabOk_cons (c65 K) ctabOk_nil) (by kernel_rfl) fun x => by kernel_rfl
-- loop.example/g00460/impl.low
def F61 (K : Nat) (x : Int × Int) : Option (List UInt8) :=
  bindO (α := (List UInt8) ⊕ Int) (branch (decide (x.2 = 0))
     (branch (decide (4 ≤ x.1))
      (bindO (F93 K ()) fun v0 =>
      nth v0 (w64 (x.1 - 4)) fun v1 =>
      guard (decide ((3 + v1.length) ≤ 9223372036854775807)) <|
      guard (decide ((((([106, 114, 32] : List UInt8) ++ v1).length) + 3) ≤ 9223372036854775807)) <|
      some (.inl ((([106, 114, 32] : List UInt8) ++ v1) ++ ([44, 101, 56] : List UInt8))))
      (guard (decide (0 ≤ x.1 ∧ x.1 < (4 : Int))) <|
      nthN [([110, 111, 112] : List UInt8), ([108, 100, 32, 91, 110, 49, 54, 93, 44, 115, 112] : List UInt8), ([115, 116, 111, 112, 32, 110, 56] : List UInt8), ([106, 114, 32, 101, 56] : List UInt8)] x.1.toNat fun v2 =>
      some (.inl v2)))
     (branch (decide (x.2 = 1))
      (branch (decide ((Int.tmod x.1 2) = 0))
       (bindO (F94 K ()) fun v3 =>
       nth v3 (w64 (Int.tdiv x.1 2)) fun v4 =>
       guard (decide ((3 + v4.length) ≤ 9223372036854775807)) <|
       guard (decide ((((([108, 100, 32] : List UInt8) ++ v4).length) + 4) ≤ 9223372036854775807)) <|
       some (.inl ((([108, 100, 32] : List UInt8) ++ v4) ++ ([44, 110, 49, 54] : List UInt8))))
       (bindO (F94 K ()) fun v5 =>
       nth v5 (w64 (Int.tdiv x.1 2)) fun v6 =>
       guard (decide ((7 + v6.length) ≤ 9223372036854775807)) <|
       some (.inl (([97, 100, 100, 32, 104, 108, 44] : List UInt8) ++ v6))))
      (branch (decide (x.2 = 2))
       (bindO (F65 K ([91, 98, 99, 93, 32, 91, 100, 101, 93, 32, 91, 104, 108, 43, 93, 32, 91, 104, 108, 45, 93] : List UInt8)) fun v7 =>
       nth v7 (w64 (Int.tdiv x.1 2)) fun v8 =>
       branch (decide ((Int.tmod x.1 2) = 0))
        (guard (decide ((3 + v8.length) ≤ 9223372036854775807)) <|
        guard (decide ((((([108, 100, 32] : List UInt8) ++ v8).length) + 2) ≤ 9223372036854775807)) <|
        some (.inl ((([108, 100, 32] : List UInt8) ++ v8) ++ ([44, 97] : List UInt8))))
        (guard (decide ((5 + v8.length) ≤ 9223372036854775807)) <|
        some (.inl (([108, 100, 32, 97, 44] : List UInt8) ++ v8))))
       (branch (decide (x.2 = 3))
        (bindO (F65 K ([105, 110, 99, 32, 100, 101, 99] : List UInt8)) fun v9 =>
        nth v9 (Int.tmod x.1 2) fun v10 =>
        guard (decide ((v10.length + 1) ≤ 9223372036854775807)) <|
        bindO (F94 K ()) fun v11 =>
        nth v11 (w64 (Int.tdiv x.1 2)) fun v12 =>
        guard (decide ((((v10 ++ ([32] : List UInt8)).length) + v12.length) ≤ 9223372036854775807)) <|
        some (.inl ((v10 ++ ([32] : List UInt8)) ++ v12)))
        (bindO (α := Int × Int × Int × Bool) (branch (decide (x.2 = 4))
           (some (x.1, x.2, x.2, true))
           (some (x.1, x.2, x.2, decide (x.2 = 5)))) fun v13 =>
        branch v13.2.2.2
         (bindO (F65 K ([105, 110, 99, 32, 100, 101, 99] : List UInt8)) fun v14 =>
         nth v14 (w64 (v13.2.1 - 4)) fun v15 =>
         guard (decide ((v15.length + 1) ≤ 9223372036854775807)) <|
         bindO (F64 K ()) fun v16 =>
         nth v16 v13.1 fun v17 =>
         guard (decide ((((v15 ++ ([32] : List UInt8)).length) + v17.length) ≤ 9223372036854775807)) <|
         some (.inl ((v15 ++ ([32] : List UInt8)) ++ v17)))
         (branch (decide (v13.2.2.1 = 6))
          (bindO (F64 K ()) fun v18 =>
          nth v18 v13.1 fun v19 =>
          guard (decide ((3 + v19.length) ≤ 9223372036854775807)) <|
          guard (decide ((((([108, 100, 32] : List UInt8) ++ v19).length) + 3) ≤ 9223372036854775807)) <|
          some (.inl ((([108, 100, 32] : List UInt8) ++ v19) ++ ([44, 110, 56] : List UInt8))))
          (some (.inr v13.1)))))))) fun v20 =>
  csO v20
   (fun v21 => some v21)
   (fun v22 => bindO (F65 K ([114, 108, 99, 97, 32, 114, 114, 99, 97, 32, 114, 108, 97, 32, 114, 114, 97, 32, 100, 97, 97, 32, 99, 112, 108, 32, 115, 99, 102, 32, 99, 99, 102] : List UInt8)) fun v23 =>
   nth v23 v22 fun v24 =>
   some v24)
def ct61 (K : Nat) : Ct := ⟨[.l (.v (.i .i64)), .l (.v (.i .i64))], [], [.l (.v .s)], [], [], F61 K⟩
theorem c61 (K : Nat) : CtOk prog 61 (ct61 K) :=
  con_mk (Y := Y) (L := [(65, ct65 K), (64, ct64 K), (93, ct93 K), (94, ct94 K)]) (K := K) (an := (.seq .no (.seq .no (.seqJ [(1000000, ⟨(.l (.v (.i .i64)) :: ru 93 []), []⟩)] true (.seq .no (.blk (.seq .no (.cond (.seq (.seq .no (.cond .no .no)) .no) (.seq .no (.cond (.seq (.seq .no (.cond .no .no)) .no) (.seq .no (.cond (.seq .no (.seq (.seq .no (.cond .no .no)) .no)) (.seq .no (.cond .no (.seqJ [(1000000, ⟨(.l (.v (.i .i64)) :: .l (.v (.i .i64)) :: ru 10 (.l (.v (.i .i64)) :: ru 55 (.l (.v .b) :: ru 25 []))), []⟩)] false (.seq .no .no) (.cond .no (.seq .no (.cond .no .no)))))))))))))) .no)))) func61 mixed (ctabOk_cons (c65 K) (ctabOk_cons (c64 K) (ctabOk_cons (c93 K) (ctabOk_cons (c94 K) ctabOk_nil)))) (by kernel_rfl) fun x => by kernel_rfl
-- loop.example/g00460/impl.alus
def F63 (K : Nat) (x : Unit) : Option (List (List UInt8)) :=
  bindO (F65 K ([97, 100, 100, 32, 97, 100, 99, 32, 115, 117, 98, 32, 115, 98, 99, 32, 97, 110, 100, 32, 120, 111, 114, 32, 111, 114, 32, 99, 112] : List UInt8)) fun v0 =>
  some v0
def ct63 (K : Nat) : Ct := ⟨[], [], [.l (.v (.l .s))], [], [], F63 K⟩
theorem c63 (K : Nat) : CtOk prog 63 (ct63 K) :=
  con_mk (Y := Y) (L := [(65, ct65 K)]) (K := K) (an := (.seq .no .no)) func63 mixed (ctabOk_cons (c65 K) ctabOk_nil) (by kernel_rfl) fun x => by kernel_rfl
-- loop.example/g00460/impl.isWord
def F67 (K : Nat) (x : Int) : Option (Bool) :=
  bindO (F91 K (x, 0, 65535)) fun v0 =>
  some v0
def ct67 (K : Nat) : Ct := ⟨[.l (.v (.i .i64))], [], [.l (.v .b)], [], [], F67 K⟩
theorem c67 (K : Nat) : CtOk prog 67 (ct67 K) :=
  con_mk (Y := Y) (L := [(91, ct91 K)]) (K := K) (an := (.seq .no .no)) func67 mixed (ctabOk_cons (c91 K) ctabOk_nil) (by kernel_rfl) fun x => by kernel_rfl
-- loop.example/g00460/impl.hexDigits
def F102 (K : Nat) (x : Int × Int) : Option (List UInt8) :=
  bindO (F103h K (x.1, 16)) fun v0 =>
  bindO (F132 K v0) fun v1 =>
  bindO (F133 K (([48] : List UInt8), mxI 0 (w64 (x.2 - (v1.length : Int))))) fun v2 =>
  guard (decide ((v2.length + v1.length) ≤ 9223372036854775807)) <|
  some (v2 ++ v1)
def ct102 (K : Nat) : Ct := ⟨[.l (.v (.i .i64)), .l (.v (.i .i64))], [], [.l (.v .s)], [], [], F102 K⟩
theorem c102 (K : Nat) : CtOk prog 102 (ct102 K) :=
  con_mk (Y := Y) (L := [(132, ct132 K), (133, ct133 K), (103, ct103h K), (103, ct103 K)]) (K := K) (an := (.seq .no (.seq .no .no))) func102 mixed (ctabOk_cons (c132 K) (ctabOk_cons (c133 K) (ctabOk_cons (c103h K) (ctabOk_cons (c103 K) ctabOk_nil)))) (by kernel_rfl) fun x => by kernel_rfl
-- loop.example/g00460/impl.HexOf
def F74 (K : Nat) (x : Int × Int) : Option (List UInt8) :=
  bindO (α := (List UInt8) ⊕ (Int × Int)) (bindO (α := Int × Int × Bool) (bindO (F91 K (x.2, 1, 4)) fun v0 =>
      branch (!v0)
       (some (x.1, x.2, true))
       (bindO (F67 K x.1) fun v1 =>
       branch (!v1)
        (some (x.1, x.2, true))
        (guard (decide (0 ≤ (w64 (4 * x.2)))) <|
        some (x.1, x.2, decide (0 < (shrI Go.IntKind.i64 x.1 (w64 (4 * x.2)))))))) fun v2 =>
    branch v2.2.2
     (some (.inl []))
     (some (.inr (v2.1, v2.2.1)))) fun v3 =>
  csO v3
   (fun v4 => some v4)
   (fun v5 => bindO (F102 K v5) fun v6 =>
   guard (decide ((1 + v6.length) ≤ 9223372036854775807)) <|
   some (([36] : List UInt8) ++ v6))
def ct74 (K : Nat) : Ct := ⟨[.l (.v (.i .i64)), .l (.v (.i .i64))], [], [.l (.v .s)], [], [], F74 K⟩
theorem c74 (K : Nat) : CtOk prog 74 (ct74 K) :=
  con_mk (Y := Y) (L := [(91, ct91 K), (67, ct67 K), (102, ct102 K)]) (K := K) (an := (.seq .no (.seqJ [(1000000, ⟨(.l (.v (.i .i64)) :: .l (.v (.i .i64)) :: ru 22 []), []⟩)] true (.seqJ [(1000000, ⟨(.l (.v (.i .i64)) :: .l (.v (.i .i64)) :: ru 17 (.l (.v .b) :: ru 4 [])), []⟩)] false .no (.cond .no .no)) .no))) func74 mixed (ctabOk_cons (c91 K) (ctabOk_cons (c67 K) (ctabOk_cons (c102 K) ctabOk_nil))) (by kernel_rfl) fun x => by kernel_rfl
-- loop.example/g00460/impl.high
def F62 (K : Nat) (x : Int × Int) : Option (List UInt8) :=
  bindO (F65 K ([98, 99, 32, 100, 101, 32, 104, 108, 32, 97, 102] : List UInt8)) fun v0 =>
  nth v0 (w64 (Int.tdiv x.1 2)) fun v1 =>
  bindO (α := Int × Int × Int × Int × (List UInt8) × Bool) (branch (decide (x.2 = 0))
     (some (x.1, x.2, w64 (Int.tdiv x.1 2), Int.tmod x.1 2, v1, decide (x.1 < 4)))
     (some (x.1, x.2, w64 (Int.tdiv x.1 2), Int.tmod x.1 2, v1, false))) fun v2 =>
  branch v2.2.2.2.2.2
   (bindO (F93 K ()) fun v3 =>
   nth v3 v2.1 fun v4 =>
   guard (decide ((4 + v4.length) ≤ 9223372036854775807)) <|
   some (([114, 101, 116, 32] : List UInt8) ++ v4))
   (branch (decide (v2.2.1 = 0))
    (guard (decide (0 ≤ (w64 (v2.1 - 4)) ∧ (w64 (v2.1 - 4)) < (4 : Int))) <|
    nthN [([108, 100, 104, 32, 91, 110, 56, 93, 44, 97] : List UInt8), ([97, 100, 100, 32, 115, 112, 44, 101, 56] : List UInt8), ([108, 100, 104, 32, 97, 44, 91, 110, 56, 93] : List UInt8), ([108, 100, 32, 104, 108, 44, 115, 112, 43, 101, 56] : List UInt8)] ((w64 (v2.1 - 4)).toNat) fun v5 =>
    some v5)
    (bindO (α := Int × Int × Int × Int × (List UInt8) × Bool) (branch (decide (v2.2.1 = 1))
       (some (v2.1, v2.2.1, v2.2.2.1, v2.2.2.2.1, v2.2.2.2.2.1, decide (v2.2.2.2.1 = 0)))
       (some (v2.1, v2.2.1, v2.2.2.1, v2.2.2.2.1, v2.2.2.2.2.1, false))) fun v6 =>
    branch v6.2.2.2.2.2
     (guard (decide ((4 + v6.2.2.2.2.1.length) ≤ 9223372036854775807)) <|
     some (([112, 111, 112, 32] : List UInt8) ++ v6.2.2.2.2.1))
     (branch (decide (v6.2.1 = 1))
      (guard (decide (0 ≤ v6.2.2.1 ∧ v6.2.2.1 < (4 : Int))) <|
      nthN [([114, 101, 116] : List UInt8), ([114, 101, 116, 105] : List UInt8), ([106, 112, 32, 104, 108] : List UInt8), ([108, 100, 32, 115, 112, 44, 104, 108] : List UInt8)] v6.2.2.1.toNat fun v7 =>
      some v7)
      (bindO (α := Int × Int × Int × (List UInt8) × Bool) (branch (decide (v6.2.1 = 2))
         (some (v6.1, v6.2.1, v6.2.2.2.1, v6.2.2.2.2.1, decide (v6.1 < 4)))
         (some (v6.1, v6.2.1, v6.2.2.2.1, v6.2.2.2.2.1, false))) fun v8 =>
      branch v8.2.2.2.2
       (bindO (F93 K ()) fun v9 =>
       nth v9 v8.1 fun v10 =>
       guard (decide ((3 + v10.length) ≤ 9223372036854775807)) <|
       guard (decide ((((([106, 112, 32] : List UInt8) ++ v10).length) + 4) ≤ 9223372036854775807)) <|
       some ((([106, 112, 32] : List UInt8) ++ v10) ++ ([44, 110, 49, 54] : List UInt8)))
       (branch (decide (v8.2.1 = 2))
        (guard (decide (0 ≤ (w64 (v8.1 - 4)) ∧ (w64 (v8.1 - 4)) < (4 : Int))) <|
        nthN [([108, 100, 104, 32, 91, 99, 93, 44, 97] : List UInt8), ([108, 100, 32, 91, 110, 49, 54, 93, 44, 97] : List UInt8), ([108, 100, 104, 32, 97, 44, 91, 99, 93] : List UInt8), ([108, 100, 32, 97, 44, 91, 110, 49, 54, 93] : List UInt8)] ((w64 (v8.1 - 4)).toNat) fun v11 =>
        some v11)
        (bindO (α := Int × Int × Int × (List UInt8) × Bool) (branch (decide (v8.2.1 = 3))
           (some (v8.1, v8.2.1, v8.2.2.1, v8.2.2.2.1, decide (v8.1 = 0)))
           (some (v8.1, v8.2.1, v8.2.2.1, v8.2.2.2.1, false))) fun v12 =>
        branch v12.2.2.2.2
         (some ([106, 112, 32, 110, 49, 54] : List UInt8))
         (bindO (α := Int × Int × Int × (List UInt8) × Bool) (branch (decide (v12.2.1 = 3))
            (some (v12.1, v12.2.1, v12.2.2.1, v12.2.2.2.1, decide (v12.1 = 6)))
            (some (v12.1, v12.2.1, v12.2.2.1, v12.2.2.2.1, false))) fun v13 =>
         branch v13.2.2.2.2
          (some ([100, 105] : List UInt8))
          (bindO (α := Int × Int × Int × (List UInt8) × Bool) (branch (decide (v13.2.1 = 3))
             (some (v13.1, v13.2.1, v13.2.2.1, v13.2.2.2.1, decide (v13.1 = 7)))
             (some (v13.1, v13.2.1, v13.2.2.1, v13.2.2.2.1, false))) fun v14 =>
          branch v14.2.2.2.2
           (some ([101, 105] : List UInt8))
           (bindO (α := Int × Int × Int × (List UInt8) × Bool) (branch (decide (v14.2.1 = 4))
              (some (v14.1, v14.2.1, v14.2.2.1, v14.2.2.2.1, decide (v14.1 < 4)))
              (some (v14.1, v14.2.1, v14.2.2.1, v14.2.2.2.1, false))) fun v15 =>
           branch v15.2.2.2.2
            (bindO (F93 K ()) fun v16 =>
            nth v16 v15.1 fun v17 =>
            guard (decide ((5 + v17.length) ≤ 9223372036854775807)) <|
            guard (decide ((((([99, 97, 108, 108, 32] : List UInt8) ++ v17).length) + 4) ≤ 9223372036854775807)) <|
            some ((([99, 97, 108, 108, 32] : List UInt8) ++ v17) ++ ([44, 110, 49, 54] : List UInt8)))
            (bindO (α := Int × Int × (List UInt8) × Bool) (branch (decide (v15.2.1 = 5))
               (some (v15.1, v15.2.1, v15.2.2.2.1, decide (v15.2.2.1 = 0)))
               (some (v15.1, v15.2.1, v15.2.2.2.1, false))) fun v18 =>
            branch v18.2.2.2
             (guard (decide ((5 + v18.2.2.1.length) ≤ 9223372036854775807)) <|
             some (([112, 117, 115, 104, 32] : List UInt8) ++ v18.2.2.1))
             (bindO (α := Int × Int × Bool) (branch (decide (v18.2.1 = 5))
                (some (v18.1, v18.2.1, decide (v18.1 = 1)))
                (some (v18.1, v18.2.1, false))) fun v19 =>
             branch v19.2.2
              (some ([99, 97, 108, 108, 32, 110, 49, 54] : List UInt8))
              (branch (decide (v19.2.1 = 6))
               (bindO (F63 K ()) fun v20 =>
               nth v20 v19.1 fun v21 =>
               guard (decide ((v21.length + 5) ≤ 9223372036854775807)) <|
               some (v21 ++ ([32, 97, 44, 110, 56] : List UInt8)))
               (branch (decide (v19.2.1 = 7))
                (bindO (F74 K (w64 (8 * v19.1), 2)) fun v22 =>
                guard (decide ((4 + v22.length) ≤ 9223372036854775807)) <|
                some (([114, 115, 116, 32] : List UInt8) ++ v22))
                (some []))))))))))))))
def ct62 (K : Nat) : Ct := ⟨[.l (.v (.i .i64)), .l (.v (.i .i64))], [], [.l (.v .s)], [], [], F62 K⟩
theorem c62 (K : Nat) : CtOk prog 62 (ct62 K) :=
  con_mk (Y := Y) (L := [(65, ct65 K), (93, ct93 K), (63, ct63 K), (74, ct74 K)]) (K := K) (an := (.seq .no (.seq .no (.seq .no (.seq (.blk (.seqJ [(1000000, ⟨(.l (.v (.i .i64)) :: .l (.v (.i .i64)) :: ru 3 (.l (.v (.i .i64)) :: .l (.v (.i .i64)) :: .l (.v .s) :: ru 8 (.l (.v .b) :: ru 121 []))), []⟩)] false .no (.cond .no (.seq .no (.cond .no (.seqJ [(1000000, ⟨(.l (.v (.i .i64)) :: .l (.v (.i .i64)) :: ru 3 (.l (.v (.i .i64)) :: .l (.v (.i .i64)) :: .l (.v .s) :: ru 28 (.l (.v .b) :: ru 101 []))), []⟩)] false .no (.cond .no (.seq .no (.cond .no (.seqJ [(1000000, ⟨(.l (.v (.i .i64)) :: .l (.v (.i .i64)) :: ru 4 (.l (.v (.i .i64)) :: .l (.v .s) :: ru 44 (.l (.v .b) :: ru 85 []))), []⟩)] false .no (.cond .no (.seq .no (.cond .no (.seqJ [(1000000, ⟨(.l (.v (.i .i64)) :: .l (.v (.i .i64)) :: ru 4 (.l (.v (.i .i64)) :: .l (.v .s) :: ru 65 (.l (.v .b) :: ru 64 []))), []⟩)] false .no (.cond .no (.seqJ [(1000000, ⟨(.l (.v (.i .i64)) :: .l (.v (.i .i64)) :: ru 4 (.l (.v (.i .i64)) :: .l (.v .s) :: ru 72 (.l (.v .b) :: ru 57 []))), []⟩)] false .no (.cond .no (.seqJ [(1000000, ⟨(.l (.v (.i .i64)) :: .l (.v (.i .i64)) :: ru 4 (.l (.v (.i .i64)) :: .l (.v .s) :: ru 79 (.l (.v .b) :: ru 50 []))), []⟩)] false .no (.cond .no (.seqJ [(1000000, ⟨(.l (.v (.i .i64)) :: .l (.v (.i .i64)) :: ru 4 (.l (.v (.i .i64)) :: .l (.v .s) :: ru 86 (.l (.v .b) :: ru 43 []))), []⟩)] false .no (.cond .no (.seqJ [(1000000, ⟨(.l (.v (.i .i64)) :: .l (.v (.i .i64)) :: ru 5 (.l (.v .s) :: ru 99 (.l (.v .b) :: ru 30 []))), []⟩)] false .no (.cond .no (.seqJ [(1000000, ⟨(.l (.v (.i .i64)) :: .l (.v (.i .i64)) :: ru 114 (.l (.v .b) :: ru 21 [])), []⟩)] false .no (.cond .no (.seq .no (.cond .no (.seq .no (.cond .no .no))))))))))))))))))))))))))))) .no))))) func62 mixed (ctabOk_cons (c65 K) (ctabOk_cons (c93 K) (ctabOk_cons (c63 K) (ctabOk_cons (c74 K) ctabOk_nil)))) (by kernel_rfl) fun x => by kernel_rfl
-- loop.example/g00460/impl.TemplateOf
def F31 (K : Nat) (x : Int × Bool) : Option (List UInt8) :=
  bindO (F59 K x.1) fun v0 =>
  branch (!v0)
   (some [])
   (branch x.2
    (bindO (F60 K (w64 (Int.tdiv x.1 64), Int.tmod (w64 (Int.tdiv x.1 8)) 8, Int.tmod x.1 8)) fun v1 =>
    some v1)
    (branch (decide ((w64 (Int.tdiv x.1 64)) = 0))
     (bindO (F61 K (Int.tmod (w64 (Int.tdiv x.1 8)) 8, Int.tmod x.1 8)) fun v2 =>
     some v2)
     (branch (decide ((w64 (Int.tdiv x.1 64)) = 3))
      (bindO (F62 K (Int.tmod (w64 (Int.tdiv x.1 8)) 8, Int.tmod x.1 8)) fun v3 =>
      some v3)
      (branch (decide ((w64 (Int.tdiv x.1 64)) = 2))
       (bindO (F63 K ()) fun v4 =>
       nth v4 (Int.tmod (w64 (Int.tdiv x.1 8)) 8) fun v5 =>
       guard (decide ((v5.length + 3) ≤ 9223372036854775807)) <|
       bindO (F64 K ()) fun v6 =>
       nth v6 (Int.tmod x.1 8) fun v7 =>
       guard (decide ((((v5 ++ ([32, 97, 44] : List UInt8)).length) + v7.length) ≤ 9223372036854775807)) <|
       some ((v5 ++ ([32, 97, 44] : List UInt8)) ++ v7))
       (branch (decide (x.1 = 118))
        (some ([104, 97, 108, 116] : List UInt8))
        (bindO (F64 K ()) fun v8 =>
        nth v8 (Int.tmod (w64 (Int.tdiv x.1 8)) 8) fun v9 =>
        guard (decide ((3 + v9.length) ≤ 9223372036854775807)) <|
        guard (decide ((((([108, 100, 32] : List UInt8) ++ v9).length) + 1) ≤ 9223372036854775807)) <|
        bindO (F64 K ()) fun v10 =>
        nth v10 (Int.tmod x.1 8) fun v11 =>
        guard (decide (((((([108, 100, 32] : List UInt8) ++ v9) ++ ([44] : List UInt8)).length) + v11.length) ≤ 9223372036854775807)) <|
        some (((([108, 100, 32] : List UInt8) ++ v9) ++ ([44] : List UInt8)) ++ v11)))))))
def ct31 (K : Nat) : Ct := ⟨[.l (.v (.i .i64)), .l (.v .b)], [], [.l (.v .s)], [], [], F31 K⟩
theorem c31 (K : Nat) : CtOk prog 31 (ct31 K) :=
  con_mk (Y := Y) (L := [(59, ct59 K), (64, ct64 K), (60, ct60 K), (61, ct61 K), (63, ct63 K), (62, ct62 K)]) (K := K) (an := (.seq .no (.seq (.seq .no (.cond .no .no)) (.seq .no (.seq (.blk (.seq .no (.cond .no (.seq .no (.cond .no (.seq .no (.cond .no (.seq .no (.cond .no (.seq .no (.cond .no .no))))))))))) .no))))) func31 mixed (ctabOk_cons (c59 K) (ctabOk_cons (c64 K) (ctabOk_cons (c60 K) (ctabOk_cons (c61 K) (ctabOk_cons (c63 K) (ctabOk_cons (c62 K) ctabOk_nil)))))) (by kernel_rfl) fun x => by kernel_rfl
-- loop.example/g00460/impl.holeOf
def F32_b0 (K : Nat) (x : (List UInt8) × (List (List UInt8)) × Int × Int) : Option (((List UInt8) × (List (List UInt8)) × Int × Int) ⊕ ((List UInt8) ⊕ Unit)) :=
  branch (decide (x.2.2.2 < x.2.2.1))
   (nth x.2.1 x.2.2.2 fun v0 =>
   bindO (F66 K (x.1, v0)) fun v1 =>
   branch v1
    (some (.inr (.inl v0)))
    (some (.inl (x.1, x.2.1, x.2.2.1, w64 (x.2.2.2 + 1)))))
   (some (.inr (.inr ())))
def F32 (K : Nat) (x : List UInt8) : Option (List UInt8) :=
  bindO (F65 K ([110, 49, 54, 32, 110, 56, 32, 101, 56] : List UInt8)) fun v0 =>
  bindO (iter K (F32_b0 K) (x, v0, (v0.length : Int), 0)) fun v1 =>
  csO v1
   (fun v2 => some v2)
   (fun v3 => some [])
def ct32 (K : Nat) : Ct := ⟨[.l (.v .s)], [], [.l (.v .s)], [], [], F32 K⟩
theorem c32 (K : Nat) : CtOk prog 32 (ct32 K) :=
  con_mk (Y := Y) (L := [(66, ct66 K), (65, ct65 K)]) (K := K) (an := (.seq .no (.seq (.seq .no (.blk (.loop [] ⟨(.l (.v .s) :: ru 4 (.l (.v (.l .s)) :: .l (.v (.i .i64)) :: .l (.v (.i .i64)) :: ru 8 [])), []⟩ [(0, ⟨(ru 16 []), []⟩)] true (.seq .no (.seq .no (.seq (.blk (.seq .no (.seq .no (.cond .no .no)))) .no)))))) .no))) func32 mixed (ctabOk_cons (c66 K) (ctabOk_cons (c65 K) ctabOk_nil)) (by kernel_rfl) fun x => by kernel_rfl
-- internal/stringslite.HasPrefix
def F139 (K : Nat) (x : (List UInt8) × List UInt8) : Option (Bool) :=
  branch (decide ((x.2.length : Int) ≤ (x.1.length : Int)))
   (guard (decide (0 ≤ (x.2.length : Int) ∧ (x.2.length : Int) ≤ (x.1.length : Int))) <|
   some (decide ((tkL x.1 (x.2.length : Int)) = x.2)))
   (some false)
def ct139 (K : Nat) : Ct := ⟨[.l (.v .s), .l (.v .s)], [], [.l (.v .b)], [], [], F139 K⟩
theorem c139 (K : Nat) : CtOk prog 139 (ct139 K) :=
  con_mk (Y := Y) (L := []) (K := K) (an := (.seq .no .no)) func139 mixed ctabOk_nil (by kernel_rfl) fun x => by kernel_rfl
-- strings.HasPrefix
def F143 (K : Nat) (x : (List UInt8) × List UInt8) : Option (Bool) :=
  bindO (F139 K x) fun v0 =>
  some v0
def ct143 (K : Nat) : Ct := ⟨[.l (.v .s), .l (.v .s)], [], [.l (.v .b)], [], [], F143 K⟩
theorem c143 (K : Nat) : CtOk prog 143 (ct143 K) :=
  con_mk (Y := Y) (L := [(139, ct139 K)]) (K := K) (an := (.seq .no .no)) func143 mixed (ctabOk_cons (c139 K) ctabOk_nil) (by kernel_rfl) fun x => by kernel_rfl
-- loop.example/g00460/impl.isSmall
def F187 (K : Nat) (x : Int) : Option (Bool) :=
  branch (decide (97 ≤ x))
   (some (decide (x ≤ 122)))
   (some false)
def ct187 (K : Nat) : Ct := ⟨[.l (.v (.i .u8))], [], [.l (.v .b)], [], [], F187 K⟩
theorem c187 (K : Nat) : CtOk prog 187 (ct187 K) :=
  con_mk (Y := Y) (L := []) (K := K) (an := (.seq .no .no)) func187 mixed ctabOk_nil (by kernel_rfl) fun x => by kernel_rfl
-- loop.example/g00460/impl.isDigit
def F188 (K : Nat) (x : Int) : Option (Bool) :=
  branch (decide (48 ≤ x))
   (some (decide (x ≤ 57)))
   (some false)
def ct188 (K : Nat) : Ct := ⟨[.l (.v (.i .u8))], [], [.l (.v .b)], [], [], F188 K⟩
theorem c188 (K : Nat) : CtOk prog 188 (ct188 K) :=
  con_mk (Y := Y) (L := []) (K := K) (an := (.seq .no .no)) func188 mixed ctabOk_nil (by kernel_rfl) fun x => by kernel_rfl
-- loop.example/g00460/impl.valueOf
def F189_b0 (K : Nat) (x : (List UInt8) × (List UInt8) × Int × Int × Int) : Option (((List UInt8) × (List UInt8) × Int × Int × Int) ⊕ ((Int × Bool) ⊕ ((List UInt8) × Int))) :=
  branch (decide (x.2.2.2.2 < x.2.2.2.1))
   (nth x.1 x.2.2.2.2 fun v0 =>
   bindO (F200 K (x.2.1, (v0.toNat : Int))) fun v1 =>
   bindO (α := (Int × Bool) ⊕ ((List UInt8) × (List UInt8) × Int × Int × Int × Int)) (bindO (α := (List UInt8) × (List UInt8) × Int × Int × Int × Int × Bool) (branch (decide (v1 < 0))
        (some (x.1, x.2.1, x.2.2.1, v1, x.2.2.2.1, x.2.2.2.2, true))
        (some (x.1, x.2.1, x.2.2.1, v1, x.2.2.2.1, x.2.2.2.2, decide (65535 < x.2.2.1)))) fun v2 =>
     branch v2.2.2.2.2.2.2
      (some (.inl (0, false)))
      (some (.inr (v2.1, v2.2.1, v2.2.2.1, v2.2.2.2.1, v2.2.2.2.2.1, v2.2.2.2.2.2.1)))) fun v3 =>
   csO v3
    (fun v4 => some (.inr (.inl v4)))
    (fun v5 => some (.inl (v5.1, v5.2.1, w64 ((w64 (v5.2.2.1 * (v5.2.1.length : Int))) + v5.2.2.2.1), v5.2.2.2.2.1, w64 (v5.2.2.2.2.2 + 1)))))
   (some (.inr (.inr (x.1, x.2.2.1))))
def F189 (K : Nat) (x : (List UInt8) × List UInt8) : Option (Int × Bool) :=
  bindO (iter K (F189_b0 K) (x.1, x.2, 0, (x.1.length : Int), 0)) fun v0 =>
  csO v0
   (fun v1 => some v1)
   (fun v2 => branch (!(decide (v2.1 = [])))
    (some (v2.2, decide (v2.2 ≤ 65535)))
    (some (v2.2, false)))
def ct189 (K : Nat) : Ct := ⟨[.l (.v .s), .l (.v .s)], [], [.l (.v (.i .i64)), .l (.v .b)], [], [], F189 K⟩
theorem c189 (K : Nat) : CtOk prog 189 (ct189 K) :=
  con_mk (Y := Y) (L := [(200, ct200 K)]) (K := K) (an := (.seq .no (.seq .no (.seq (.seq .no (.blk (.loop [] ⟨(.l (.v .s) :: .l (.v .s) :: ru 4 (.l (.v (.i .i64)) :: ru 3 (.l (.v (.i .i64)) :: .l (.v (.i .i64)) :: ru 27 []))), []⟩ [(0, ⟨(.l (.v .s) :: ru 5 (.l (.v (.i .i64)) :: ru 32 [])), []⟩)] true (.seq .no (.seq .no (.seq (.blk (.seq .no (.seq .no (.seqJ [(1000000, ⟨(.l (.v .s) :: .l (.v .s) :: ru 4 (.l (.v (.i .i64)) :: ru 1 (.l (.v (.i .i64)) :: ru 1 (.l (.v (.i .i64)) :: .l (.v (.i .i64)) :: ru 27 [])))), []⟩)] true (.seqJ [(1000000, ⟨(.l (.v .s) :: .l (.v .s) :: ru 4 (.l (.v (.i .i64)) :: ru 1 (.l (.v (.i .i64)) :: ru 1 (.l (.v (.i .i64)) :: .l (.v (.i .i64)) :: ru 12 (.l (.v .b) :: ru 14 []))))), []⟩)] false .no (.cond .no .no)) .no)))) .no)))))) .no)))) func189 mixed (ctabOk_cons (c200 K) ctabOk_nil) (by kernel_rfl) fun x => by kernel_rfl
-- loop.example/g00460/impl.ReadNum
def F163 (K : Nat) (x : List UInt8) : Option (Int × Bool) :=
  bindO (α := Int × Bool) (branch (decide (18 < (x.length : Int)))
     (some (0, false))
     (bindO (F143 K (x, ([36] : List UInt8))) fun v0 =>
     branch v0
      (guard (decide ((0 : Int) ≤ 1 ∧ 1 ≤ (x.length : Int))) <|
      bindO (F189 K (dpL x 1, ([48, 49, 50, 51, 52, 53, 54, 55, 56, 57, 65, 66, 67, 68, 69, 70] : List UInt8))) fun v1 =>
      some v1)
      (bindO (F143 K (x, ([37] : List UInt8))) fun v2 =>
      branch v2
       (guard (decide ((0 : Int) ≤ 1 ∧ 1 ≤ (x.length : Int))) <|
       bindO (F189 K (dpL x 1, ([48, 49] : List UInt8))) fun v3 =>
       some v3)
       (bindO (F189 K (x, ([48, 49, 50, 51, 52, 53, 54, 55, 56, 57] : List UInt8))) fun v4 =>
       some v4)))) fun v5 =>
  branch (!v5.2)
   (some (0, false))
   (some (v5.1, true))
def ct163 (K : Nat) : Ct := ⟨[.l (.v .s)], [], [.l (.v (.i .i64)), .l (.v .b)], [], [], F163 K⟩
theorem c163 (K : Nat) : CtOk prog 163 (ct163 K) :=
  con_mk (Y := Y) (L := [(143, ct143 K), (189, ct189 K)]) (K := K) (an := (.seq .no (.seq .no (.seqJ [(1000000, ⟨(ru 4 (.l (.v (.i .i64)) :: .l (.v .b) :: ru 30 [])), []⟩)] false (.blk (.seq .no (.cond .no (.seq .no (.cond .no (.seq .no .no)))))) (.seq (.seq .no (.cond .no .no)) .no))))) func163 mixed (ctabOk_cons (c143 K) (ctabOk_cons (c189 K) ctabOk_nil)) (by kernel_rfl) fun x => by kernel_rfl
-- loop.example/g00460/impl.NameOk
def F164_b0 (K : Nat) (x : (List UInt8) × Int × Int) : Option (((List UInt8) × Int × Int) ⊕ (Bool ⊕ Unit)) :=
  branch (decide (x.2.2 < x.2.1))
   (bindO (α := (List UInt8) × Int × Int × Bool) (nth x.1 x.2.2 fun v0 =>
     bindO (F187 K (v0.toNat : Int)) fun v1 =>
     branch (!v1)
      (nth x.1 x.2.2 fun v2 =>
      bindO (F188 K (v2.toNat : Int)) fun v3 =>
      branch (!v3)
       (nth x.1 x.2.2 fun v4 =>
       branch (!(decide ((v4.toNat : Int) = 95)))
        (nth x.1 x.2.2 fun v5 =>
        some (x.1, x.2.1, x.2.2, !(decide ((v5.toNat : Int) = 46))))
        (some (x.1, x.2.1, x.2.2, false)))
       (some (x.1, x.2.1, x.2.2, false)))
      (some (x.1, x.2.1, x.2.2, false))) fun v6 =>
   branch v6.2.2.2
    (some (.inr (.inl false)))
    (some (.inl (v6.1, v6.2.1, w64 (v6.2.2.1 + 1)))))
   (some (.inr (.inr ())))
def F164 (K : Nat) (x : List UInt8) : Option (Bool) :=
  bindO (α := Bool ⊕ (List UInt8)) (bindO (α := (List UInt8) × Bool) (bindO (F91 K ((x.length : Int), 1, 16)) fun v0 =>
      branch (!v0)
       (some (x, true))
       (nth x 0 fun v1 =>
       bindO (F188 K (v1.toNat : Int)) fun v2 =>
       some (x, v2))) fun v3 =>
    branch v3.2
     (some (.inl false))
     (some (.inr v3.1))) fun v4 =>
  csO v4
   (fun v5 => some v5)
   (fun v6 => bindO (iter K (F164_b0 K) (v6, (v6.length : Int), 0)) fun v7 =>
   csO v7
    (fun v8 => some v8)
    (fun v9 => some true))
def ct164 (K : Nat) : Ct := ⟨[.l (.v .s)], [], [.l (.v .b)], [], [], F164 K⟩
theorem c164 (K : Nat) : CtOk prog 164 (ct164 K) :=
  con_mk (Y := Y) (L := [(91, ct91 K), (187, ct187 K), (188, ct188 K)]) (K := K) (an := (.seq .no (.seqJ [(1000000, ⟨(.l (.v .s) :: ru 42 []), []⟩)] true (.seqJ [(1000000, ⟨(.l (.v .s) :: ru 11 (.l (.v .b) :: ru 30 [])), []⟩)] false .no (.cond .no .no)) (.seq (.seq .no (.blk (.loop [] ⟨(.l (.v .s) :: ru 13 (.l (.v (.i .i64)) :: .l (.v (.i .i64)) :: ru 27 [])), []⟩ [(0, ⟨(ru 43 []), []⟩)] true (.seq .no (.seq .no (.seq (.blk (.seq .no (.seqJ [(1000000, ⟨(.l (.v .s) :: ru 13 (.l (.v (.i .i64)) :: .l (.v (.i .i64)) :: ru 25 (.l (.v .b) :: ru 1 []))), []⟩)] false .no (.cond .no .no)))) .no)))))) .no)))) func164 mixed (ctabOk_cons (c91 K) (ctabOk_cons (c187 K) (ctabOk_cons (c188 K) ctabOk_nil))) (by kernel_rfl) fun x => by kernel_rfl
-- loop.example/g00460/laws.eqIns
def F7 (K : Nat) (x : Int × Bool × Int × Int × Bool × Int) : Option (Bool) :=
  branch (!(decide (x.1 = x.2.2.2.1)))
   (some false)
   (branch (!(decide (x.2.1 = x.2.2.2.2.1)))
    (some false)
    (branch (!(decide (x.2.2.1 = x.2.2.2.2.2)))
     (some false)
     (some true)))
def ct7 (K : Nat) : Ct := ⟨[.agg [(.v (.i .i64)), (.v .b), (.v (.i .i64))], .agg [(.v (.i .i64)), (.v .b), (.v (.i .i64))]], [], [.l (.v .b)], [], [], F7 K⟩
theorem c7 (K : Nat) : CtOk prog 7 (ct7 K) :=
  con_mk (Y := Y) (L := []) (K := K) (an := (.seq .no (.seq (.seq .no (.cond .no .no)) (.seq (.seq .no (.cond .no .no)) (.seq (.seq .no (.cond .no .no)) .no))))) func7 mixed ctabOk_nil (by kernel_rfl) fun x => by kernel_rfl
-- loop.example/g00460/laws.eqENode
def F23 (K : Nat) (x : Int × Int × (List UInt8) × Int × Int × List UInt8) : Option (Bool) :=
  branch (!(decide (x.1 = x.2.2.2.1)))
   (some false)
   (branch (!(decide (x.2.1 = x.2.2.2.2.1)))
    (some false)
    (branch (!(decide (x.2.2.1 = x.2.2.2.2.2)))
     (some false)
     (some true)))
def ct23 (K : Nat) : Ct := ⟨[.agg [(.v (.i .i64)), (.v (.i .i64)), (.v .s)], .agg [(.v (.i .i64)), (.v (.i .i64)), (.v .s)]], [], [.l (.v .b)], [], [], F23 K⟩
theorem c23 (K : Nat) : CtOk prog 23 (ct23 K) :=
  con_mk (Y := Y) (L := []) (K := K) (an := (.seq .no (.seq (.seq .no (.cond .no .no)) (.seq (.seq .no (.cond .no .no)) (.seq (.seq .no (.cond .no .no)) .no))))) func23 mixed ctabOk_nil (by kernel_rfl) fun x => by kernel_rfl
-- loop.example/g00460/laws.eqENodeS
def F8_b0 (K : Nat) (x : (List (Int × Int × List UInt8)) × (List (Int × Int × List UInt8)) × Int) : Option (((List (Int × Int × List UInt8)) × (List (Int × Int × List UInt8)) × Int) ⊕ (Bool ⊕ Unit)) :=
  branch (decide (x.2.2 < (x.1.length : Int)))
   (nth x.1 x.2.2 fun v0 =>
   nth x.2.1 x.2.2 fun v1 =>
   bindO (F23 K (v0.1, v0.2.1, v0.2.2, v1)) fun v2 =>
   branch (!v2)
    (some (.inr (.inl false)))
    (some (.inl (x.1, x.2.1, w64 (x.2.2 + 1)))))
   (some (.inr (.inr ())))
def F8 (K : Nat) (x : (List (Int × Int × List UInt8)) × List (Int × Int × List UInt8)) : Option (Bool) :=
  branch (!(decide ((x.1.length : Int) = (x.2.length : Int))))
   (some false)
   (bindO (iter K (F8_b0 K) (x.1, x.2, 0)) fun v0 =>
   csO v0
    (fun v1 => some v1)
    (fun v2 => some true))
def ct8 (K : Nat) : Ct := ⟨[.l (.v (.l (.c (.i .i64) (.c (.i .i64) .s)))), .l (.v (.l (.c (.i .i64) (.c (.i .i64) .s))))], [], [.l (.v .b)], [], [], F8 K⟩
theorem c8 (K : Nat) : CtOk prog 8 (ct8 K) :=
  con_mk (Y := Y) (L := [(23, ct23 K)]) (K := K) (an := (.seq .no (.seq (.seq .no (.cond .no .no)) (.seq (.seq .no (.blk (.loop [] ⟨(.l (.v (.l (.c (.i .i64) (.c (.i .i64) .s)))) :: .l (.v (.l (.c (.i .i64) (.c (.i .i64) .s)))) :: ru 3 (.l (.v (.i .i64)) :: ru 21 [])), []⟩ [(0, ⟨(ru 27 []), []⟩)] true (.seq (.seq .no .no) (.seq (.blk (.seq .no (.cond .no .no))) .no))))) .no)))) func8 mixed (ctabOk_cons (c23 K) ctabOk_nil) (by kernel_rfl) fun x => by kernel_rfl
-- loop.example/g00460/laws.markText
def F24_b0 (K : Nat) (x : Int × List UInt8) : Option ((Int × List UInt8) ⊕ (List UInt8)) :=
  branch (decide (0 < x.1))
   (guard (decide ((((toB [w8 (w64 (48 + (Int.tmod x.1 10)))]).length) + x.2.length) ≤ 9223372036854775807)) <|
   some (.inl (w64 (Int.tdiv x.1 10), (toB [w8 (w64 (48 + (Int.tmod x.1 10)))]) ++ x.2)))
   (some (.inr x.2))
def F24 (K : Nat) (x : Int) : Option (List UInt8) :=
  branch (decide (x ≤ 0))
   (some ([109, 48] : List UInt8))
   (bindO (iter K (F24_b0 K) (x, [])) fun v0 =>
   guard (decide ((1 + v0.length) ≤ 9223372036854775807)) <|
   some (([109] : List UInt8) ++ v0))
def ct24 (K : Nat) : Ct := ⟨[.l (.v (.i .i64))], [], [.l (.v .s)], [], [], F24 K⟩
theorem c24 (K : Nat) : CtOk prog 24 (ct24 K) :=
  con_mk (Y := Y) (L := []) (K := K) (an := (.seq .no (.seq (.seq .no (.cond .no .no)) (.seq .no (.seq (.blk (.loop [] ⟨(.l (.v (.i .i64)) :: ru 2 (.l (.v .s) :: ru 16 [])), []⟩ [(0, ⟨(ru 3 (.l (.v .s) :: ru 16 [])), []⟩)] false (.seq (.seq .no .no) (.blk .no)))) .no))))) func24 mixed ctabOk_nil (by kernel_rfl) fun x => by kernel_rfl
-- loop.example/g00460/laws.heldENodeS
def F10_b0 (K : Nat) (x : (List (Int × Int × List UInt8)) × Int × Int) : Option (((List (Int × Int × List UInt8)) × Int × Int) ⊕ (Int ⊕ Int)) :=
  branch (decide (x.2.2 < (x.1.length : Int)))
   (nth x.1 x.2.2 fun v0 =>
   branch (!(decide (v0.1 = x.2.1)))
    (some (.inr (.inl (-1))))
    (nth x.1 x.2.2 fun v1 =>
    branch (!(decide (v1.2.1 = (w64 (x.2.1 + 1)))))
     (some (.inr (.inl (-1))))
     (nth x.1 x.2.2 fun v2 =>
     bindO (F24 K (w64 ((w64 (x.2.1 + 1)) + 1))) fun v3 =>
     branch (!(decide (v2.2.2 = v3)))
      (some (.inr (.inl (-1))))
      (some (.inl (x.1, w64 ((w64 ((w64 (x.2.1 + 1)) + 1)) + 1), w64 (x.2.2 + 1)))))))
   (some (.inr (.inr x.2.1)))
def F10 (K : Nat) (x : (List (Int × Int × List UInt8)) × Int) : Option (Int) :=
  bindO (iter K (F10_b0 K) (x.1, x.2, 0)) fun v0 =>
  csO v0
   (fun v1 => some v1)
   (fun v2 => some v2)
def ct10 (K : Nat) : Ct := ⟨[.l (.v (.l (.c (.i .i64) (.c (.i .i64) .s)))), .l (.v (.i .i64))], [], [.l (.v (.i .i64))], [], [], F10 K⟩
theorem c10 (K : Nat) : CtOk prog 10 (ct10 K) :=
  con_mk (Y := Y) (L := [(24, ct24 K)]) (K := K) (an := (.seq .no (.seq (.seq .no (.blk (.loop [] ⟨(.l (.v (.l (.c (.i .i64) (.c (.i .i64) .s)))) :: .l (.v (.i .i64)) :: ru 3 (.l (.v (.i .i64)) :: ru 35 [])), []⟩ [(0, ⟨(ru 1 (.l (.v (.i .i64)) :: ru 39 [])), []⟩)] true (.seq (.seq .no .no) (.seq (.blk (.seq (.seq .no (.cond .no .no)) (.seq .no (.seq (.seq .no (.cond .no .no)) (.seq .no (.seq (.seq .no (.cond .no .no)) .no)))))) .no))))) .no))) func10 mixed (ctabOk_cons (c24 K) ctabOk_nil) (by kernel_rfl) fun x => by kernel_rfl
-- loop.example/g00460/spec.l2Words
def F107 (K : Nat) (x : Unit) : Option (List (List UInt8)) :=
  some [[], [], [], [], ([110, 101, 103] : List UInt8), ([110, 111, 116] : List UInt8), ([104, 105, 103, 104] : List UInt8), ([108, 111, 119] : List UInt8), ([43] : List UInt8), ([45] : List UInt8), ([42] : List UInt8), ([47] : List UInt8), ([37] : List UInt8), ([38] : List UInt8), ([94] : List UInt8), ([124] : List UInt8), ([60, 60] : List UInt8), ([62, 62] : List UInt8)]
def ct107 (K : Nat) : Ct := ⟨[], [], [.l (.v (.l .s))], [], [], F107 K⟩
theorem c107 (K : Nat) : CtOk prog 107 (ct107 K) :=
  con_mk (Y := Y) (L := []) (K := K) (an := (.seq .no .no)) func107 mixed ctabOk_nil (by kernel_rfl) fun x => by kernel_rfl
-- loop.example/g00460/spec.l2Level
def F106 (K : Nat) (x : Int) : Option (Int) :=
  bindO (α := Int × Bool) (branch (decide (x = 10))
     (some (x, true))
     (branch (decide (x = 11))
      (some (x, true))
      (some (x, decide (x = 12))))) fun v0 =>
  branch v0.2
   (some 6)
   (bindO (α := Int × Bool) (branch (decide (v0.1 = 8))
      (some (v0.1, true))
      (some (v0.1, decide (v0.1 = 9)))) fun v1 =>
   branch v1.2
    (some 5)
    (bindO (α := Int × Bool) (branch (decide (v1.1 = 16))
       (some (v1.1, true))
       (some (v1.1, decide (v1.1 = 17)))) fun v2 =>
    branch v2.2
     (some 4)
     (branch (decide (v2.1 = 13))
      (some 3)
      (branch (decide (v2.1 = 14))
       (some 2)
       (some 1)))))
def ct106 (K : Nat) : Ct := ⟨[.l (.v (.i .i64))], [], [.l (.v (.i .i64))], [], [], F106 K⟩
theorem c106 (K : Nat) : CtOk prog 106 (ct106 K) :=
  con_mk (Y := Y) (L := []) (K := K) (an := (.seq .no (.seq (.seq .no (.blk (.seqJ [(1000000, ⟨(ru 3 (.l (.v (.i .i64)) :: .l (.v .b) :: ru 13 [])), []⟩)] false (.seq .no (.cond .no (.seq .no .no))) (.cond .no (.seqJ [(1000000, ⟨(ru 3 (.l (.v (.i .i64)) :: ru 4 (.l (.v .b) :: ru 9 []))), []⟩)] false (.seq .no .no) (.cond .no (.seqJ [(1000000, ⟨(ru 3 (.l (.v (.i .i64)) :: ru 7 (.l (.v .b) :: ru 6 []))), []⟩)] false (.seq .no .no) (.cond .no (.seq .no (.cond .no (.seq .no (.cond .no .no)))))))))))) .no))) func106 mixed ctabOk_nil (by kernel_rfl) fun x => by kernel_rfl
-- loop.example/g00460/spec.ExprOk
def F81_b0 (K : Nat) (x : (List (Int × Int × List UInt8)) × Int × Int) : Option (((List (Int × Int × List UInt8)) × Int × Int) ⊕ (Bool ⊕ ((List (Int × Int × List UInt8)) × Int))) :=
  branch (decide (x.2.2 < (x.1.length : Int)))
   (bindO (α := Bool ⊕ ((List (Int × Int × List UInt8)) × Int × Int)) (bindO (α := (List (Int × Int × List UInt8)) × Int × Int × Bool) (nth x.1 x.2.2 fun v0 =>
       bindO (F109 K v0) fun v1 =>
       branch (!v1)
        (some (x.1, x.2.1, x.2.2, true))
        (nth x.1 x.2.2 fun v2 =>
        bindO (F110 K v2.1) fun v3 =>
        some (x.1, x.2.1, x.2.2, decide (x.2.1 < v3)))) fun v4 =>
     branch v4.2.2.2
      (some (.inl false))
      (some (.inr (v4.1, v4.2.1, v4.2.2.1)))) fun v5 =>
   csO v5
    (fun v6 => some (.inr (.inl v6)))
    (fun v7 => nth v7.1 v7.2.2 fun v8 =>
    bindO (F110 K v8.1) fun v9 =>
    some (.inl (v7.1, w64 ((w64 (v7.2.1 - v9)) + 1), w64 (v7.2.2 + 1)))))
   (some (.inr (.inr (x.1, x.2.1))))
def F81 (K : Nat) (x : List (Int × Int × List UInt8)) : Option (Bool) :=
  bindO (iter K (F81_b0 K) (x, 0, 0)) fun v0 =>
  csO v0
   (fun v1 => some v1)
   (fun v2 => branch (decide ((v2.1.length : Int) ≤ 30))
    (some (decide (v2.2 = 1)))
    (some false))
def ct81 (K : Nat) : Ct := ⟨[.l (.v (.l (.c (.i .i64) (.c (.i .i64) .s))))], [], [.l (.v .b)], [], [], F81 K⟩
theorem c81 (K : Nat) : CtOk prog 81 (ct81 K) :=
  con_mk (Y := Y) (L := [(110, ct110 K), (109, ct109 K)]) (K := K) (an := (.seq .no (.seq .no (.seq (.seq .no (.blk (.loop [] ⟨(.l (.v (.l (.c (.i .i64) (.c (.i .i64) .s)))) :: ru 2 (.l (.v (.i .i64)) :: .l (.v (.i .i64)) :: ru 38 [])), []⟩ [(0, ⟨(.l (.v (.l (.c (.i .i64) (.c (.i .i64) .s)))) :: ru 2 (.l (.v (.i .i64)) :: ru 39 [])), []⟩)] true (.seq (.seq .no .no) (.seq (.blk (.seqJ [(1000000, ⟨(.l (.v (.l (.c (.i .i64) (.c (.i .i64) .s)))) :: ru 2 (.l (.v (.i .i64)) :: .l (.v (.i .i64)) :: ru 38 [])), []⟩)] true (.seqJ [(1000000, ⟨(.l (.v (.l (.c (.i .i64) (.c (.i .i64) .s)))) :: ru 2 (.l (.v (.i .i64)) :: .l (.v (.i .i64)) :: ru 21 (.l (.v .b) :: ru 16 []))), []⟩)] false .no (.cond .no .no)) .no)) .no))))) .no)))) func81 mixed (ctabOk_cons (c110 K) (ctabOk_cons (c109 K) ctabOk_nil)) (by kernel_rfl) fun x => by kernel_rfl
-- loop.example/g00460/impl.opWords
def F117 (K : Nat) (x : Unit) : Option (List (List UInt8)) :=
  bindO (F95 K (([110, 101, 103, 32, 110, 111, 116, 32, 104, 105, 103, 104, 32, 108, 111, 119, 32, 43, 32, 45, 32, 42, 32, 47, 32, 37, 32, 38, 32, 94, 32, 124, 32, 60, 60, 32, 62, 62] : List UInt8), ([32] : List UInt8))) fun v0 =>
  some v0
def ct117 (K : Nat) : Ct := ⟨[], [], [.l (.v (.l .s))], [], [], F117 K⟩
theorem c117 (K : Nat) : CtOk prog 117 (ct117 K) :=
  con_mk (Y := Y) (L := [(95, ct95 K)]) (K := K) (an := (.seq .no .no)) func117 mixed (ctabOk_cons (c95 K) ctabOk_nil) (by kernel_rfl) fun x => by kernel_rfl
-- loop.example/g00460/impl.levels
def F114 (K : Nat) (x : Unit) : Option (List (List Int)) :=
  some [[15], [14], [13], [16, 17], [8, 9], [10, 11, 12]]
def ct114 (K : Nat) : Ct := ⟨[], [], [.l (.v (.l (.l (.i .i64))))], [], [], F114 K⟩
theorem c114 (K : Nat) : CtOk prog 114 (ct114 K) :=
  con_mk (Y := Y) (L := []) (K := K) (an := (.seq .no (.seq (.reg [0, 1, 2, 3, 4, 5, 6] []) .no))) func114 mixed ctabOk_nil (by kernel_rfl) fun x => by kernel_rfl
-- (*loop.example/g00460/spec.l2P).is
def F135 (K : Nat) (x : (List UInt8) × (List UInt8) × Int × Bool × List (Int × Int × List UInt8)) : Option (Bool × (List UInt8) × Int × Bool × List (Int × Int × List UInt8)) :=
  bindO (α := (Bool × (List UInt8) × Int × Bool × List (Int × Int × List UInt8)) ⊕ ((List UInt8) × (List UInt8) × Int × Bool × List (Int × Int × List UInt8))) (bindO (α := (List UInt8) × Bool × (List UInt8) × Int × Bool × List (Int × Int × List UInt8)) (branch (decide ((w64 ((x.2.1.length : Int) - x.2.2.1)) < (x.1.length : Int)))
       (some (x.1, true, x.2))
       (guard (decide (0 ≤ x.2.2.1 ∧ x.2.2.1 ≤ (w64 (x.2.2.1 + (x.1.length : Int))) ∧ (w64 (x.2.2.1 + (x.1.length : Int))) ≤ (x.2.1.length : Int))) <|
       some (x.1, !(decide ((subL x.2.1 x.2.2.1 (w64 (x.2.2.1 + (x.1.length : Int)))) = x.1)), x.2))) fun v0 =>
    branch v0.2.1
     (some (.inl (false, v0.2.2)))
     (some (.inr (v0.1, v0.2.2)))) fun v1 =>
  csO v1
   (fun v2 => some v2)
   (fun v3 => some (true, v3.2.1, w64 (v3.2.2.1 + (v3.1.length : Int)), v3.2.2.2))
def ct135 (K : Nat) : Ct := ⟨[.l (.ptr 0 0 0), .l (.v .s)], [⟨4, false, .mix (some 91) [[.l (.v .s), .l (.v (.i .i64)), .l (.all 1), .l (.v .b)]]⟩, ⟨3, true, .row (.c (.i .i64) (.c (.i .i64) .s))⟩], [.l (.v .b)], [⟨4, false, .mix (some 91) [[.l (.v .s), .l (.v (.i .i64)), .l (.all 1), .l (.v .b)]]⟩, ⟨3, true, .row (.c (.i .i64) (.c (.i .i64) .s))⟩], [], F135 K⟩
theorem c135 (K : Nat) : CtOk prog 135 (ct135 K) :=
  con_mk (Y := Y) (L := []) (K := K) (an := (.seq .no (.seqJ [(1000000, ⟨(.l (.ptr 0 0 0) :: .l (.v .s) :: ru 46 []), [(0, ⟨4, false, .mix (some 91) [[.l (.v .s), .l (.v (.i .i64)), .l (.all 1), .l (.v .b)]]⟩), (1, ⟨3, true, .row (.c (.i .i64) (.c (.i .i64) .s))⟩)]⟩)] true (.seqJ [(1000000, ⟨(.l (.ptr 0 0 0) :: .l (.v .s) :: ru 35 (.l (.v .b) :: ru 10 [])), [(0, ⟨4, false, .mix (some 91) [[.l (.v .s), .l (.v (.i .i64)), .l (.all 1), .l (.v .b)]]⟩), (1, ⟨3, true, .row (.c (.i .i64) (.c (.i .i64) .s))⟩)]⟩)] false .no (.cond .no .no)) (.seq .no .no)))) func135 mixed ctabOk_nil (by kernel_rfl) fun x => by kernel_rfl
-- (*loop.example/g00460/spec.l2P).op
def F105_b0 (K : Nat) (x : (List (List UInt8)) × Int × (List UInt8) × Int × Bool × List (Int × Int × List UInt8)) : Option (((List (List UInt8)) × Int × (List UInt8) × Int × Bool × List (Int × Int × List UInt8)) ⊕ ((Int × (List UInt8) × Int × Bool × List (Int × Int × List UInt8)) ⊕ ((List UInt8) × Int × Bool × List (Int × Int × List UInt8)))) :=
  branch (decide (8 ≤ x.2.1))
   (nth x.1 x.2.1 fun v0 =>
   bindO (α := (List (List UInt8)) × Int × Bool × (List UInt8) × Int × Bool × List (Int × Int × List UInt8)) (branch (decide ((v0.length : Int) ≤ (w64 ((x.2.2.1.length : Int) - x.2.2.2.1))))
      (guard (decide (0 ≤ x.2.2.2.1 ∧ x.2.2.2.1 ≤ (w64 (x.2.2.2.1 + (v0.length : Int))) ∧ (w64 (x.2.2.2.1 + (v0.length : Int))) ≤ (x.2.2.1.length : Int))) <|
      nth x.1 x.2.1 fun v1 =>
      some (x.1, x.2.1, decide ((subL x.2.2.1 x.2.2.2.1 (w64 (x.2.2.2.1 + (v0.length : Int)))) = v1), x.2.2))
      (some (x.1, x.2.1, false, x.2.2))) fun v2 =>
   branch v2.2.2.1
    (some (.inr (.inl (v2.2.1, v2.2.2.2))))
    (some (.inl (v2.1, w64 (v2.2.1 - 1), v2.2.2.2))))
   (some (.inr (.inr x.2.2)))
def F105 (K : Nat) (x : (List UInt8) × Int × Bool × List (Int × Int × List UInt8)) : Option (Int × (List UInt8) × Int × Bool × List (Int × Int × List UInt8)) :=
  bindO (F107 K ()) fun v0 =>
  bindO (iter K (F105_b0 K) (v0, 17, x)) fun v1 =>
  csO v1
   (fun v2 => some v2)
   (fun v3 => some (0, v3))
def ct105 (K : Nat) : Ct := ⟨[.l (.ptr 0 0 0)], [⟨4, false, .mix (some 91) [[.l (.v .s), .l (.v (.i .i64)), .l (.all 1), .l (.v .b)]]⟩, ⟨3, true, .row (.c (.i .i64) (.c (.i .i64) .s))⟩], [.l (.v (.i .i64))], [⟨4, false, .mix (some 91) [[.l (.v .s), .l (.v (.i .i64)), .l (.all 1), .l (.v .b)]]⟩, ⟨3, true, .row (.c (.i .i64) (.c (.i .i64) .s))⟩], [], F105 K⟩
theorem c105 (K : Nat) : CtOk prog 105 (ct105 K) :=
  con_mk (Y := Y) (L := [(107, ct107 K)]) (K := K) (an := (.seq .no (.seq .no (.seq (.seq .no (.blk (.loop [] ⟨(.l (.ptr 0 0 0) :: ru 2 (.l (.v (.l .s)) :: .l (.v (.i .i64)) :: ru 46 [])), [(0, ⟨4, false, .mix (some 91) [[.l (.v .s), .l (.v (.i .i64)), .l (.all 1), .l (.v .b)]]⟩), (1, ⟨3, true, .row (.c (.i .i64) (.c (.i .i64) .s))⟩)]⟩ [(0, ⟨(ru 51 []), [(0, ⟨4, false, .mix (some 91) [[.l (.v .s), .l (.v (.i .i64)), .l (.all 1), .l (.v .b)]]⟩), (1, ⟨3, true, .row (.c (.i .i64) (.c (.i .i64) .s))⟩)]⟩)] true (.seq (.seq .no .no) (.seq (.blk (.seq .no (.seqJ [(1000000, ⟨(.l (.ptr 0 0 0) :: ru 2 (.l (.v (.l .s)) :: .l (.v (.i .i64)) :: ru 44 (.l (.v .b) :: ru 1 []))), [(0, ⟨4, false, .mix (some 91) [[.l (.v .s), .l (.v (.i .i64)), .l (.all 1), .l (.v .b)]]⟩), (1, ⟨3, true, .row (.c (.i .i64) (.c (.i .i64) .s))⟩)]⟩)] false .no (.cond .no .no)))) .no))))) .no)))) func105 mixed (ctabOk_cons (c107 K) ctabOk_nil) (by kernel_rfl) fun x => by kernel_rfl
-- (*loop.example/g00460/spec.l2P).put
def F108 (K : Nat) (x : Int × Int × (List UInt8) × (List UInt8) × Int × Bool × List (Int × Int × List UInt8)) : Option ((List UInt8) × Int × Bool × List (Int × Int × List UInt8)) :=
  branch (decide (30 ≤ (x.2.2.2.2.2.2.length : Int)))
   (some (x.2.2.2.1, x.2.2.2.2.1, true, x.2.2.2.2.2.2))
   (guard (fitN (x.2.2.2.2.2.2.length + ([(x.1, x.2.1, x.2.2.1)].length)) 32) <|
   some (x.2.2.2.1, x.2.2.2.2.1, x.2.2.2.2.2.1, x.2.2.2.2.2.2 ++ [(x.1, x.2.1, x.2.2.1)]))
def ct108 (K : Nat) : Ct := ⟨[.l (.ptr 0 0 0), .l (.v (.i .i64)), .l (.v (.i .i64)), .l (.v .s)], [⟨4, false, .mix (some 91) [[.l (.v .s), .l (.v (.i .i64)), .l (.all 1), .l (.v .b)]]⟩, ⟨3, true, .row (.c (.i .i64) (.c (.i .i64) .s))⟩], [], [⟨4, false, .mix (some 91) [[.l (.v .s), .l (.v (.i .i64)), .l (.all 1), .l (.v .b)]]⟩, ⟨3, true, .row (.c (.i .i64) (.c (.i .i64) .s))⟩], [], F108 K⟩
theorem c108 (K : Nat) : CtOk prog 108 (ct108 K) :=
  con_mk (Y := Y) (L := []) (K := K) (an := (.seq (.seq .no (.cond .no .no)) .no)) func108 mixed ctabOk_nil (by kernel_rfl) fun x => by kernel_rfl
-- (*loop.example/g00460/spec.l2P).word
def F136_b0 (K : Nat) (x : Int × (List UInt8) × Int × Bool × List (Int × Int × List UInt8)) : Option ((Int × (List UInt8) × Int × Bool × List (Int × Int × List UInt8)) ⊕ (Int × (List UInt8) × Int × Bool × List (Int × Int × List UInt8))) :=
  bindO (α := (Int × (List UInt8) × Int × Bool × List (Int × Int × List UInt8)) ⊕ (Int × (List UInt8) × Int × Bool × List (Int × Int × List UInt8))) (branch (decide (x.2.2.1 < (x.2.1.length : Int)))
     (nth x.2.1 x.2.2.1 fun v0 =>
     bindO (F160 K (v0.toNat : Int)) fun v1 =>
     branch v1
      (some (.inl x))
      (nth x.2.1 x.2.2.1 fun v2 =>
      branch (decide (48 ≤ (v2.toNat : Int)))
       (nth x.2.1 x.2.2.1 fun v3 =>
       branch (decide ((v3.toNat : Int) ≤ 57))
        (some (.inl x))
        (nth x.2.1 x.2.2.1 fun v4 =>
        branch (decide (65 ≤ (v4.toNat : Int)))
         (nth x.2.1 x.2.2.1 fun v5 =>
         branch (decide ((v5.toNat : Int) ≤ 70))
          (some (.inl x))
          (some (.inr x)))
         (some (.inr x))))
       (nth x.2.1 x.2.2.1 fun v6 =>
       branch (decide (65 ≤ (v6.toNat : Int)))
        (nth x.2.1 x.2.2.1 fun v7 =>
        branch (decide ((v7.toNat : Int) ≤ 70))
         (some (.inl x))
         (some (.inr x)))
        (some (.inr x)))))
     (some (.inr x))) fun v8 =>
  csO v8
   (fun v9 => some (.inl (v9.1, v9.2.1, w64 (v9.2.2.1 + 1), v9.2.2.2)))
   (fun v10 => some (.inr v10))
def F136 (K : Nat) (x : (List UInt8) × Int × Bool × List (Int × Int × List UInt8)) : Option ((List UInt8) × (List UInt8) × Int × Bool × List (Int × Int × List UInt8)) :=
  bindO (iter K (F136_b0 K) (x.2.1, x)) fun v0 =>
  guard (decide (0 ≤ v0.1 ∧ v0.1 ≤ v0.2.2.1 ∧ v0.2.2.1 ≤ (v0.2.1.length : Int))) <|
  some (subL v0.2.1 v0.1 v0.2.2.1, v0.2)
def ct136 (K : Nat) : Ct := ⟨[.l (.ptr 0 0 0)], [⟨4, false, .mix (some 91) [[.l (.v .s), .l (.v (.i .i64)), .l (.all 1), .l (.v .b)]]⟩, ⟨3, true, .row (.c (.i .i64) (.c (.i .i64) .s))⟩], [.l (.v .s)], [⟨4, false, .mix (some 91) [[.l (.v .s), .l (.v (.i .i64)), .l (.all 1), .l (.v .b)]]⟩, ⟨3, true, .row (.c (.i .i64) (.c (.i .i64) .s))⟩], [], F136 K⟩
theorem c136 (K : Nat) : CtOk prog 136 (ct136 K) :=
  con_mk (Y := Y) (L := [(160, ct160 K)]) (K := K) (an := (.seq .no (.seq .no (.seq (.blk (.loop [] ⟨(.l (.ptr 0 0 0) :: ru 2 (.l (.v (.i .i64)) :: ru 91 [])), [(0, ⟨4, false, .mix (some 91) [[.l (.v .s), .l (.v (.i .i64)), .l (.all 1), .l (.v .b)]]⟩), (1, ⟨3, true, .row (.c (.i .i64) (.c (.i .i64) .s))⟩)]⟩ [(0, ⟨(.l (.ptr 0 0 0) :: ru 2 (.l (.v (.i .i64)) :: ru 91 [])), [(0, ⟨4, false, .mix (some 91) [[.l (.v .s), .l (.v (.i .i64)), .l (.all 1), .l (.v .b)]]⟩), (1, ⟨3, true, .row (.c (.i .i64) (.c (.i .i64) .s))⟩)]⟩)] false (.seqJ [(1000000, ⟨(.l (.ptr 0 0 0) :: ru 2 (.l (.v (.i .i64)) :: ru 91 [])), [(0, ⟨4, false, .mix (some 91) [[.l (.v .s), .l (.v (.i .i64)), .l (.all 1), .l (.v .b)]]⟩), (1, ⟨3, true, .row (.c (.i .i64) (.c (.i .i64) .s))⟩)]⟩), (0, ⟨(.l (.ptr 0 0 0) :: ru 2 (.l (.v (.i .i64)) :: ru 91 [])), [(0, ⟨4, false, .mix (some 91) [[.l (.v .s), .l (.v (.i .i64)), .l (.all 1), .l (.v .b)]]⟩), (1, ⟨3, true, .row (.c (.i .i64) (.c (.i .i64) .s))⟩)]⟩)] false (.seq .no .no) .no))) .no)))) func136 mixed (ctabOk_cons (c160 K) ctabOk_nil) (by kernel_rfl) fun x => by kernel_rfl
-- (*loop.example/g00460/impl.formula).sign
def F116 (K : Nat) (x : (List UInt8) × (List UInt8) × Int × Bool × List (Int × Int × List UInt8)) : Option (Bool × (List UInt8) × Int × Bool × List (Int × Int × List UInt8)) :=
  bindO (α := (Bool × (List UInt8) × Int × Bool × List (Int × Int × List UInt8)) ⊕ ((List UInt8) × (List UInt8) × Int × Bool × List (Int × Int × List UInt8))) (bindO (α := (List UInt8) × Bool × (List UInt8) × Int × Bool × List (Int × Int × List UInt8)) (branch x.2.2.2.1
       (some (x.1, true, x.2))
       (guard (decide (0 ≤ x.2.2.1 ∧ x.2.2.1 ≤ (x.2.1.length : Int))) <|
       bindO (F143 K (dpL x.2.1 x.2.2.1, x.1)) fun v0 =>
       some (x.1, !v0, x.2))) fun v1 =>
    branch v1.2.1
     (some (.inl (false, v1.2.2)))
     (some (.inr (v1.1, v1.2.2)))) fun v2 =>
  csO v2
   (fun v3 => some v3)
   (fun v4 => some (true, v4.2.1, w64 (v4.2.2.1 + (v4.1.length : Int)), v4.2.2.2))
def ct116 (K : Nat) : Ct := ⟨[.l (.ptr 0 0 0), .l (.v .s)], [⟨4, false, .mix (some 99) [[.l (.v .s), .l (.v (.i .i64)), .l (.all 1), .l (.v .b)]]⟩, ⟨3, true, .row (.c (.i .i64) (.c (.i .i64) .s))⟩], [.l (.v .b)], [⟨4, false, .mix (some 99) [[.l (.v .s), .l (.v (.i .i64)), .l (.all 1), .l (.v .b)]]⟩, ⟨3, true, .row (.c (.i .i64) (.c (.i .i64) .s))⟩], [], F116 K⟩
theorem c116 (K : Nat) : CtOk prog 116 (ct116 K) :=
  con_mk (Y := Y) (L := [(143, ct143 K)]) (K := K) (an := (.seq .no (.seqJ [(1000000, ⟨(.l (.ptr 0 0 0) :: .l (.v .s) :: ru 30 []), [(0, ⟨4, false, .mix (some 99) [[.l (.v .s), .l (.v (.i .i64)), .l (.all 1), .l (.v .b)]]⟩), (1, ⟨3, true, .row (.c (.i .i64) (.c (.i .i64) .s))⟩)]⟩)] true (.seqJ [(1000000, ⟨(.l (.ptr 0 0 0) :: .l (.v .s) :: ru 20 (.l (.v .b) :: ru 9 [])), [(0, ⟨4, false, .mix (some 99) [[.l (.v .s), .l (.v (.i .i64)), .l (.all 1), .l (.v .b)]]⟩), (1, ⟨3, true, .row (.c (.i .i64) (.c (.i .i64) .s))⟩)]⟩)] false .no (.cond .no .no)) (.seq .no .no)))) func116 mixed (ctabOk_cons (c143 K) ctabOk_nil) (by kernel_rfl) fun x => by kernel_rfl
-- (*loop.example/g00460/impl.formula).run
def F162_b0 (K : Nat) (x : Int × (List UInt8) × Int × Bool × List (Int × Int × List UInt8)) : Option ((Int × (List UInt8) × Int × Bool × List (Int × Int × List UInt8)) ⊕ (Int × (List UInt8) × Int × Bool × List (Int × Int × List UInt8))) :=
  branch (decide (x.2.2.1 < (x.2.1.length : Int)))
   (nth x.2.1 x.2.2.1 fun v0 =>
   bindO (α := (Int × (List UInt8) × Int × Bool × List (Int × Int × List UInt8)) ⊕ (Int × (List UInt8) × Int × Bool × List (Int × Int × List UInt8))) (bindO (F187 K (v0.toNat : Int)) fun v1 =>
     branch (!v1)
      (bindO (F188 K (v0.toNat : Int)) fun v2 =>
      branch (!v2)
       (branch (!(decide ((v0.toNat : Int) = 95)))
        (branch (!(decide ((v0.toNat : Int) = 46)))
         (branch (decide (65 ≤ (v0.toNat : Int)))
          (branch (!(decide ((v0.toNat : Int) ≤ 70)))
           (some (.inr x))
           (some (.inl x)))
          (some (.inr x)))
         (some (.inl x)))
        (some (.inl x)))
       (some (.inl x)))
      (some (.inl x))) fun v3 =>
   csO v3
    (fun v4 => some (.inl (v4.1, v4.2.1, w64 (v4.2.2.1 + 1), v4.2.2.2)))
    (fun v5 => some (.inr v5)))
   (some (.inr x))
def F162 (K : Nat) (x : (List UInt8) × Int × Bool × List (Int × Int × List UInt8)) : Option ((List UInt8) × (List UInt8) × Int × Bool × List (Int × Int × List UInt8)) :=
  bindO (iter K (F162_b0 K) (x.2.1, x)) fun v0 =>
  guard (decide (0 ≤ v0.1 ∧ v0.1 ≤ v0.2.2.1 ∧ v0.2.2.1 ≤ (v0.2.1.length : Int))) <|
  some (subL v0.2.1 v0.1 v0.2.2.1, v0.2)
def ct162 (K : Nat) : Ct := ⟨[.l (.ptr 0 0 0)], [⟨4, false, .mix (some 99) [[.l (.v .s), .l (.v (.i .i64)), .l (.all 1), .l (.v .b)]]⟩, ⟨3, true, .row (.c (.i .i64) (.c (.i .i64) .s))⟩], [.l (.v .s)], [⟨4, false, .mix (some 99) [[.l (.v .s), .l (.v (.i .i64)), .l (.all 1), .l (.v .b)]]⟩, ⟨3, true, .row (.c (.i .i64) (.c (.i .i64) .s))⟩], [], F162 K⟩
theorem c162 (K : Nat) : CtOk prog 162 (ct162 K) :=
  con_mk (Y := Y) (L := [(187, ct187 K), (188, ct188 K)]) (K := K) (an := (.seq .no (.seq .no (.seq (.blk (.loop [] ⟨(.l (.ptr 0 0 0) :: ru 2 (.l (.v (.i .i64)) :: ru 66 [])), [(0, ⟨4, false, .mix (some 99) [[.l (.v .s), .l (.v (.i .i64)), .l (.all 1), .l (.v .b)]]⟩), (1, ⟨3, true, .row (.c (.i .i64) (.c (.i .i64) .s))⟩)]⟩ [(0, ⟨(.l (.ptr 0 0 0) :: ru 2 (.l (.v (.i .i64)) :: ru 66 [])), [(0, ⟨4, false, .mix (some 99) [[.l (.v .s), .l (.v (.i .i64)), .l (.all 1), .l (.v .b)]]⟩), (1, ⟨3, true, .row (.c (.i .i64) (.c (.i .i64) .s))⟩)]⟩)] false (.seq (.seq .no .no) (.blk (.seq .no (.seqJ [(1000000, ⟨(.l (.ptr 0 0 0) :: ru 2 (.l (.v (.i .i64)) :: ru 66 [])), [(0, ⟨4, false, .mix (some 99) [[.l (.v .s), .l (.v (.i .i64)), .l (.all 1), .l (.v .b)]]⟩), (1, ⟨3, true, .row (.c (.i .i64) (.c (.i .i64) .s))⟩)]⟩), (0, ⟨(.l (.ptr 0 0 0) :: ru 2 (.l (.v (.i .i64)) :: ru 66 [])), [(0, ⟨4, false, .mix (some 99) [[.l (.v .s), .l (.v (.i .i64)), .l (.all 1), .l (.v .b)]]⟩), (1, ⟨3, true, .row (.c (.i .i64) (.c (.i .i64) .s))⟩)]⟩)] false (.seq .no .no) .no)))))) .no)))) func162 mixed (ctabOk_cons (c187 K) (ctabOk_cons (c188 K) ctabOk_nil)) (by kernel_rfl) fun x => by kernel_rfl
-- (*loop.example/g00460/impl.formula).need
def F141 (K : Nat) (x : (List UInt8) × (List UInt8) × Int × Bool × List (Int × Int × List UInt8)) : Option ((List UInt8) × Int × Bool × List (Int × Int × List UInt8)) :=
  bindO (F116 K x) fun v0 =>
  branch (!v0.1)
   (some (v0.2.1, v0.2.2.1, true, v0.2.2.2.2))
   (some v0.2)
def ct141 (K : Nat) : Ct := ⟨[.l (.ptr 0 0 0), .l (.v .s)], [⟨4, false, .mix (some 99) [[.l (.v .s), .l (.v (.i .i64)), .l (.all 1), .l (.v .b)]]⟩, ⟨3, true, .row (.c (.i .i64) (.c (.i .i64) .s))⟩], [], [⟨4, false, .mix (some 99) [[.l (.v .s), .l (.v (.i .i64)), .l (.all 1), .l (.v .b)]]⟩, ⟨3, true, .row (.c (.i .i64) (.c (.i .i64) .s))⟩], [], F141 K⟩
theorem c141 (K : Nat) : CtOk prog 141 (ct141 K) :=
  con_mk (Y := Y) (L := [(116, ct116 K)]) (K := K) (an := .no) func141 mixed (ctabOk_cons (c116 K) ctabOk_nil) (by kernel_rfl) fun x => by kernel_rfl
-- (*loop.example/g00460/impl.formula).put
def F118 (K : Nat) (x : Int × Int × (List UInt8) × (List UInt8) × Int × Bool × List (Int × Int × List UInt8)) : Option ((List UInt8) × Int × Bool × List (Int × Int × List UInt8)) :=
  guard (fitN (x.2.2.2.2.2.2.length + ([(x.1, x.2.1, x.2.2.1)].length)) 32) <|
  branch x.2.2.2.2.2.1
   (some (x.2.2.2.1, x.2.2.2.2.1, true, x.2.2.2.2.2.2 ++ [(x.1, x.2.1, x.2.2.1)]))
   (some (x.2.2.2.1, x.2.2.2.2.1, decide (30 < ((x.2.2.2.2.2.2 ++ [(x.1, x.2.1, x.2.2.1)]).length : Int)), x.2.2.2.2.2.2 ++ [(x.1, x.2.1, x.2.2.1)]))
def ct118 (K : Nat) : Ct := ⟨[.l (.ptr 0 0 0), .agg [(.v (.i .i64)), (.v (.i .i64)), (.v .s)]], [⟨4, false, .mix (some 99) [[.l (.v .s), .l (.v (.i .i64)), .l (.all 1), .l (.v .b)]]⟩, ⟨3, true, .row (.c (.i .i64) (.c (.i .i64) .s))⟩], [], [⟨4, false, .mix (some 99) [[.l (.v .s), .l (.v (.i .i64)), .l (.all 1), .l (.v .b)]]⟩, ⟨3, true, .row (.c (.i .i64) (.c (.i .i64) .s))⟩], [], F118 K⟩
theorem c118 (K : Nat) : CtOk prog 118 (ct118 K) :=
  con_mk (Y := Y) (L := []) (K := K) (an := (.seq .no (.seq (.reg [6] []) .no))) func118 mixed ctabOk_nil (by kernel_rfl) fun x => by kernel_rfl
-- loop.example/g00460/laws.markENodeS
def F9_b0 (K : Nat) (x : Int × Int × List (Int × Int × List UInt8)) : Option ((Int × Int × List (Int × Int × List UInt8)) ⊕ (Int × List (Int × Int × List UInt8))) :=
  branch (decide (x.2.1 < (x.2.2.length : Int)))
   (guard (decide (0 ≤ x.2.1 ∧ x.2.1 < (x.2.2.length : Int))) <|
   nthN x.2.2 x.2.1.toNat fun v0 =>
   guard (decide (0 ≤ x.2.1 ∧ x.2.1 < ((List.set x.2.2 x.2.1.toNat (x.1, v0.2)).length : Int))) <|
   nthN (List.set x.2.2 x.2.1.toNat (x.1, v0.2)) x.2.1.toNat fun v1 =>
   bindO (F24 K (w64 ((w64 (x.1 + 1)) + 1))) fun v2 =>
   guard (decide (0 ≤ x.2.1 ∧ x.2.1 < ((List.set (List.set x.2.2 x.2.1.toNat (x.1, v0.2)) x.2.1.toNat (v1.1, w64 (x.1 + 1), v1.2.2)).length : Int))) <|
   nthN (List.set (List.set x.2.2 x.2.1.toNat (x.1, v0.2)) x.2.1.toNat (v1.1, w64 (x.1 + 1), v1.2.2)) x.2.1.toNat fun v3 =>
   some (.inl (w64 ((w64 ((w64 (x.1 + 1)) + 1)) + 1), w64 (x.2.1 + 1), List.set (List.set (List.set x.2.2 x.2.1.toNat (x.1, v0.2)) x.2.1.toNat (v1.1, w64 (x.1 + 1), v1.2.2)) x.2.1.toNat (v3.1, v3.2.1, v2))))
   (some (.inr (x.1, x.2.2)))
def F9 (K : Nat) (x : Int × List (Int × Int × List UInt8)) : Option (Int × List (Int × Int × List UInt8)) :=
  bindO (iter K (F9_b0 K) (x.1, 0, x.2)) fun v0 =>
  some v0
def ct9 (K : Nat) : Ct := ⟨[.l (.all 0), .l (.v (.i .i64))], [⟨3, true, .row (.c (.i .i64) (.c (.i .i64) .s))⟩], [.l (.v (.i .i64))], [⟨3, true, .row (.c (.i .i64) (.c (.i .i64) .s))⟩], [true], F9 K⟩
theorem c9 (K : Nat) : CtOk prog 9 (ct9 K) :=
  con_mk (Y := Y) (L := [(24, ct24 K)]) (K := K) (an := (.seq .no (.seq (.seq .no (.blk (.loop [] ⟨(.l (.all 0) :: .l (.v (.i .i64)) :: ru 3 (.l (.v (.i .i64)) :: ru 29 [])), [(0, ⟨3, true, .row (.c (.i .i64) (.c (.i .i64) .s))⟩)]⟩ [(0, ⟨(ru 1 (.l (.v (.i .i64)) :: ru 33 [])), [(0, ⟨3, true, .row (.c (.i .i64) (.c (.i .i64) .s))⟩)]⟩)] false (.seq (.seq .no .no) (.seq (.blk (.seq .no (.seq .no (.seq .no (.seq .no .no))))) .no))))) .no))) func9 mixed (ctabOk_cons (c24 K) ctabOk_nil) (by kernel_rfl) fun x => by kernel_rfl
end Go.U.Tryz
