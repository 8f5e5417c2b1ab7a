/- A part of the proof. No condition. -/
import Derived.Test.YtncclmpabjglmaaGreatDoorVMc
set_option linter.unusedVariables false
set_option linter.unusedSimpArgs false
set_option linter.unusedSectionVars false
namespace Go.U.Tryz
open Go Go.U Go.Proofs Go.Proofs.Tryz
set_option maxRecDepth 100000
theorem ty2 : tyOf prog 2 = some ⟨.int .i64, 1, 8, [.i .i64 0], some (.i .i64)⟩ := by kernel_rfl
theorem ty9 : tyOf prog 9 = some ⟨.str, 1, 16, [.str []], some .s⟩ := by kernel_rfl
theorem ty4 : tyOf prog 4 = some ⟨.bool, 1, 1, [.b false], some .b⟩ := by kernel_rfl
theorem ty25 : tyOf prog 25 = some ⟨.st [(0, (2, 1)), (1, (2, 1)), (2, (2, 1)), (3, (2, 1)), (4, (2, 1)), (5, (2, 1)), (6, (2, 1)), (7, (2, 1)), (8, (2, 1)), (9, (2, 1)), (10, (4, 1)), (11, (4, 1))], 12, 88, [.i .i64 0, .i .i64 0, .i .i64 0, .i .i64 0, .i .i64 0, .i .i64 0, .i .i64 0, .i .i64 0, .i .i64 0, .i .i64 0, .b false, .b false], some (.c (.i .i64) (.c (.i .i64) (.c (.i .i64) (.c (.i .i64) (.c (.i .i64) (.c (.i .i64) (.c (.i .i64) (.c (.i .i64) (.c (.i .i64) (.c (.i .i64) (.c .b .b)))))))))))⟩ := by kernel_rfl
theorem ty27 : tyOf prog 27 = some ⟨.st [(0, (9, 1)), (1, (2, 1)), (2, (2, 1)), (3, (9, 1)), (4, (2, 1)), (5, (4, 1)), (6, (2, 1))], 7, 72, [.str [], .i .i64 0, .i .i64 0, .str [], .i .i64 0, .b false, .i .i64 0], some (.c .s (.c (.i .i64) (.c (.i .i64) (.c .s (.c (.i .i64) (.c .b (.i .i64)))))))⟩ := by kernel_rfl
theorem ty28 : tyOf prog 28 = some ⟨.sl 2, 1, 24, [.emp], some (.l (.i .i64))⟩ := by kernel_rfl
theorem ty30 : tyOf prog 30 = some ⟨.st [(0, (25, 12)), (12, (27, 7)), (19, (9, 1)), (20, (9, 1)), (21, (28, 1)), (22, (2, 1))], 23, 224, [.i .i64 0, .i .i64 0, .i .i64 0, .i .i64 0, .i .i64 0, .i .i64 0, .i .i64 0, .i .i64 0, .i .i64 0, .i .i64 0, .b false, .b false, .str [], .i .i64 0, .i .i64 0, .str [], .i .i64 0, .b false, .i .i64 0, .str [], .str [], .emp, .i .i64 0], some (.c (.c (.i .i64) (.c (.i .i64) (.c (.i .i64) (.c (.i .i64) (.c (.i .i64) (.c (.i .i64) (.c (.i .i64) (.c (.i .i64) (.c (.i .i64) (.c (.i .i64) (.c .b .b))))))))))) (.c (.c .s (.c (.i .i64) (.c (.i .i64) (.c .s (.c (.i .i64) (.c .b (.i .i64))))))) (.c .s (.c .s (.c (.l (.i .i64)) (.i .i64))))))⟩ := by kernel_rfl
theorem ty3 : tyOf prog 3 = some ⟨.int .i64, 1, 8, [.i .i64 0], some (.i .i64)⟩ := by kernel_rfl
theorem ty42 : tyOf prog 42 = some ⟨.st [(0, (2, 1)), (1, (4, 1)), (2, (2, 1))], 3, 24, [.i .i64 0, .b false, .i .i64 0], some (.c (.i .i64) (.c .b (.i .i64)))⟩ := by kernel_rfl
theorem ty5 : tyOf prog 5 = some ⟨.int .u8, 1, 1, [.i .u8 0], some (.i .u8)⟩ := by kernel_rfl
theorem ty70 : tyOf prog 70 = some ⟨.sl 9, 1, 24, [.emp], some (.l .s)⟩ := by kernel_rfl
theorem ty22 : tyOf prog 22 = some ⟨.sl 5, 1, 24, [.emp], some (.l (.i .u8))⟩ := by kernel_rfl
theorem ty62 : tyOf prog 62 = some ⟨.st [(0, (2, 1)), (1, (2, 1))], 2, 16, [.i .i64 0, .i .i64 0], some (.c (.i .i64) (.i .i64))⟩ := by kernel_rfl
theorem ty116 : tyOf prog 116 = some ⟨.ptr 30, 1, 8, [.nilp], none⟩ := by kernel_rfl
theorem ty122 : tyOf prog 122 = some ⟨.st [(0, (30, 23)), (23, (4, 1))], 24, 232, [.i .i64 0, .i .i64 0, .i .i64 0, .i .i64 0, .i .i64 0, .i .i64 0, .i .i64 0, .i .i64 0, .i .i64 0, .i .i64 0, .b false, .b false, .str [], .i .i64 0, .i .i64 0, .str [], .i .i64 0, .b false, .i .i64 0, .str [], .str [], .emp, .i .i64 0, .b false], some (.c (.c (.c (.i .i64) (.c (.i .i64) (.c (.i .i64) (.c (.i .i64) (.c (.i .i64) (.c (.i .i64) (.c (.i .i64) (.c (.i .i64) (.c (.i .i64) (.c (.i .i64) (.c .b .b))))))))))) (.c (.c .s (.c (.i .i64) (.c (.i .i64) (.c .s (.c (.i .i64) (.c .b (.i .i64))))))) (.c .s (.c .s (.c (.l (.i .i64)) (.i .i64)))))) .b)⟩ := by kernel_rfl
theorem ty47 : tyOf prog 47 = some ⟨.st [(0, (9, 1)), (1, (2, 1)), (2, (2, 1)), (3, (9, 1)), (4, (2, 1)), (5, (4, 1)), (6, (2, 1))], 7, 72, [.str [], .i .i64 0, .i .i64 0, .str [], .i .i64 0, .b false, .i .i64 0], some (.c .s (.c (.i .i64) (.c (.i .i64) (.c .s (.c (.i .i64) (.c .b (.i .i64)))))))⟩ := by kernel_rfl
theorem ty46 : tyOf prog 46 = some ⟨.st [(0, (2, 1)), (1, (2, 1)), (2, (2, 1)), (3, (2, 1)), (4, (2, 1)), (5, (2, 1)), (6, (2, 1)), (7, (2, 1)), (8, (2, 1)), (9, (2, 1)), (10, (4, 1)), (11, (4, 1))], 12, 88, [.i .i64 0, .i .i64 0, .i .i64 0, .i .i64 0, .i .i64 0, .i .i64 0, .i .i64 0, .i .i64 0, .i .i64 0, .i .i64 0, .b false, .b false], some (.c (.i .i64) (.c (.i .i64) (.c (.i .i64) (.c (.i .i64) (.c (.i .i64) (.c (.i .i64) (.c (.i .i64) (.c (.i .i64) (.c (.i .i64) (.c (.i .i64) (.c .b .b)))))))))))⟩ := by kernel_rfl
theorem ty115 : tyOf prog 115 = some ⟨.ptr 118, 1, 8, [.nilp], none⟩ := by kernel_rfl
theorem ty118 : tyOf prog 118 = some ⟨.st [(0, (116, 1)), (1, (42, 3)), (4, (4, 1))], 5, 40, [.nilp, .i .i64 0, .b false, .i .i64 0, .b false], none⟩ := by kernel_rfl
theorem ty49 : tyOf prog 49 = some ⟨.st [(0, (46, 12)), (12, (47, 7)), (19, (9, 1)), (20, (9, 1)), (21, (28, 1)), (22, (2, 1))], 23, 224, [.i .i64 0, .i .i64 0, .i .i64 0, .i .i64 0, .i .i64 0, .i .i64 0, .i .i64 0, .i .i64 0, .i .i64 0, .i .i64 0, .b false, .b false, .str [], .i .i64 0, .i .i64 0, .str [], .i .i64 0, .b false, .i .i64 0, .str [], .str [], .emp, .i .i64 0], some (.c (.c (.i .i64) (.c (.i .i64) (.c (.i .i64) (.c (.i .i64) (.c (.i .i64) (.c (.i .i64) (.c (.i .i64) (.c (.i .i64) (.c (.i .i64) (.c (.i .i64) (.c .b .b))))))))))) (.c (.c .s (.c (.i .i64) (.c (.i .i64) (.c .s (.c (.i .i64) (.c .b (.i .i64))))))) (.c .s (.c .s (.c (.l (.i .i64)) (.i .i64))))))⟩ := by kernel_rfl
theorem ty80 : tyOf prog 80 = some ⟨.ptr 110, 1, 8, [.nilp], none⟩ := by kernel_rfl
theorem ty120 : tyOf prog 120 = some ⟨.ptr 122, 1, 8, [.nilp], none⟩ := by kernel_rfl
theorem ty57 : tyOf prog 57 = some ⟨.sl 62, 1, 24, [.emp], some (.l (.c (.i .i64) (.i .i64)))⟩ := by kernel_rfl
theorem ty175 : tyOf prog 175 = some ⟨.int .u64, 1, 8, [.i .u64 0], some (.i .u64)⟩ := by kernel_rfl
theorem ty102 : tyOf prog 102 = some ⟨.st [(0, (2, 1)), (1, (2, 1))], 2, 16, [.i .i64 0, .i .i64 0], some (.c (.i .i64) (.i .i64))⟩ := by kernel_rfl
theorem ty64 : tyOf prog 64 = some ⟨.sl 102, 1, 24, [.emp], some (.l (.c (.i .i64) (.i .i64)))⟩ := by kernel_rfl
theorem ty210 : tyOf prog 210 = some ⟨.arr 65 5, 65, 65, [.i .u8 0, .i .u8 0, .i .u8 0, .i .u8 0, .i .u8 0, .i .u8 0, .i .u8 0, .i .u8 0, .i .u8 0, .i .u8 0, .i .u8 0, .i .u8 0, .i .u8 0, .i .u8 0, .i .u8 0, .i .u8 0, .i .u8 0, .i .u8 0, .i .u8 0, .i .u8 0, .i .u8 0, .i .u8 0, .i .u8 0, .i .u8 0, .i .u8 0, .i .u8 0, .i .u8 0, .i .u8 0, .i .u8 0, .i .u8 0, .i .u8 0, .i .u8 0, .i .u8 0, .i .u8 0, .i .u8 0, .i .u8 0, .i .u8 0, .i .u8 0, .i .u8 0, .i .u8 0, .i .u8 0, .i .u8 0, .i .u8 0, .i .u8 0, .i .u8 0, .i .u8 0, .i .u8 0, .i .u8 0, .i .u8 0, .i .u8 0, .i .u8 0, .i .u8 0, .i .u8 0, .i .u8 0, .i .u8 0, .i .u8 0, .i .u8 0, .i .u8 0, .i .u8 0, .i .u8 0, .i .u8 0, .i .u8 0, .i .u8 0, .i .u8 0, .i .u8 0], none⟩ := by kernel_rfl
theorem ty110 : tyOf prog 110 = some ⟨.st [(0, (22, 1)), (1, (3, 1))], 2, 32, [.emp, .i .i64 0], some (.c (.l (.i .u8)) (.i .i64))⟩ := by kernel_rfl
theorem ty87 : tyOf prog 87 = some ⟨.int .u64, 1, 8, [.i .u64 0], some (.i .u64)⟩ := by kernel_rfl
theorem ty190 : tyOf prog 190 = some ⟨.arr 24 5, 24, 24, [.i .u8 0, .i .u8 0, .i .u8 0, .i .u8 0, .i .u8 0, .i .u8 0, .i .u8 0, .i .u8 0, .i .u8 0, .i .u8 0, .i .u8 0, .i .u8 0, .i .u8 0, .i .u8 0, .i .u8 0, .i .u8 0, .i .u8 0, .i .u8 0, .i .u8 0, .i .u8 0, .i .u8 0, .i .u8 0, .i .u8 0, .i .u8 0], none⟩ := by kernel_rfl
theorem ty181 : tyOf prog 181 = some ⟨.ptr 2, 1, 8, [.nilp], none⟩ := by kernel_rfl
theorem ty200 : tyOf prog 200 = some ⟨.sl 181, 1, 24, [.emp], none⟩ := by kernel_rfl
def Y : TT prog := mkTT _ (tys_cons ty2 (tys_cons ty9 (tys_cons ty4 (tys_cons ty25 (tys_cons ty27 (tys_cons ty28 (tys_cons ty30 (tys_cons ty3 (tys_cons ty42 (tys_cons ty5 (tys_cons ty70 (tys_cons ty22 (tys_cons ty62 (tys_cons ty116 (tys_cons ty122 (tys_cons ty47 (tys_cons ty46 (tys_cons ty115 (tys_cons ty118 (tys_cons ty49 (tys_cons ty80 (tys_cons ty120 (tys_cons ty57 (tys_cons ty175 (tys_cons ty102 (tys_cons ty64 (tys_cons ty210 (tys_cons ty110 (tys_cons ty87 (tys_cons ty190 (tys_cons ty181 (tys_cons ty200 tys_nil)))))))))))))))))))))))))))))))) [25, 27, 30, 42, 62, 122, 47, 46, 118, 49, 102, 110] (by kernel_rfl)
theorem mixed : prog.follows .mixedOrders = true := by kernel_rfl
theorem kN : CTabOk prog [] := ctabOk_nil
theorem kX {f : Nat} {c : Ct} {L : CTab} (h : CtOk prog f c) (hl : CTabOk prog L) (hk : keptR c.refs = false := by rfl) : CTabOk prog ((f, c) :: L) := ctabOk_cons h hl hk
theorem cmk {L : CTab} {K : Nat} {c : Ct} {f : FuncId} {fn : Func} {an : An} (hf : prog.funcs[f]? = some fn) (hL : CTabOk prog L) (h : ∀ x, walk std Y L K c fn.results.toList fn.ntmps (fn.body.getD .skip) an x = c.F x := by intro x; kernel_rfl)
    (hok : (!(fn.name == "runtime.NumGoroutine") && fn.body.isSome && decide (c.hs.length ≤ 1000)) = true := by kernel_rfl) : CtOk prog f c := con_mk (Y := Y) hf mixed hL hok h
def F263 (K : Nat) (x : Int) : Option (Bool) :=
  some (decide ((Go.bits Go.BinOp.and Go.IntKind.i64 x (w64 (x - 1))) = 0))
def ct263 (K : Nat) : Ct := ⟨[.l i6], [], [.l (.v .b)], [], [], F263 K⟩
theorem c263 (K : Nat) : CtOk prog 263 (ct263 K) :=
  cmk (K := K) (an := (sN .no)) func263 kN
def F241h_b0 (K : Nat) (x : (List Int) × Int × Bool × Bool × (List Int) × (List UInt8) × Int × Int × Int × Int × List Int) : Option (((List Int) × Int × Bool × Bool × (List Int) × (List UInt8) × Int × Int × Int × Int × List Int) ⊕ ((List Int) × Int × Bool × Bool × (List Int) × (List UInt8) × Int × List Int)) :=
  branch (decide (x.2.2.2.2.2.2.2.2.1 ≤ x.2.1))
   (nth ([48, 49, 50, 51, 52, 53, 54, 55, 56, 57, 97, 98, 99, 100, 101, 102, 103, 104, 105, 106, 107, 108, 109, 110, 111, 112, 113, 114, 115, 116, 117, 118, 119, 120, 121, 122] : List UInt8) (Go.bits Go.BinOp.and Go.IntKind.u64 x.2.1 x.2.2.2.2.2.2.2.2.2.1) fun v0 =>
   guard (decide (0 ≤ (w64 (x.2.2.2.2.2.2.1 - 1)) ∧ (w64 (x.2.2.2.2.2.2.1 - 1)) < 65)) <|
   nthN x.2.2.2.2.2.2.2.2.2.2 (0 + ((w64 (x.2.2.2.2.2.2.1 - 1)).toNat)) fun v1 =>
   guard (decide (0 ≤ x.2.2.2.2.2.2.2.1)) <|
   some (.inl (x.1, shrI Go.IntKind.u64 x.2.1 x.2.2.2.2.2.2.2.1, x.2.2.1, x.2.2.2.1, x.2.2.2.2.1, x.2.2.2.2.2.1, w64 (x.2.2.2.2.2.2.1 - 1), x.2.2.2.2.2.2.2.1, x.2.2.2.2.2.2.2.2.1, x.2.2.2.2.2.2.2.2.2.1, List.set x.2.2.2.2.2.2.2.2.2.2 (0 + ((w64 (x.2.2.2.2.2.2.1 - 1)).toNat)) (v0.toNat : Int))))
   (some (.inr (x.1, x.2.1, x.2.2.1, x.2.2.2.1, x.2.2.2.2.1, x.2.2.2.2.2.1, x.2.2.2.2.2.2.1, x.2.2.2.2.2.2.2.2.2.2)))
def F241h_b1 (K : Nat) (x : (List Int) × Int × Bool × Bool × (List Int) × (List UInt8) × Int × Int × List Int) : Option (((List Int) × Int × Bool × Bool × (List Int) × (List UInt8) × Int × Int × List Int) ⊕ ((List Int) × Int × Bool × Bool × (List Int) × (List UInt8) × Int × List Int)) :=
  branch (decide (x.2.2.2.2.2.2.2.1 ≤ x.2.1))
   (guard (!(decide (x.2.2.2.2.2.2.2.1 = 0))) <|
   nth ([48, 49, 50, 51, 52, 53, 54, 55, 56, 57, 97, 98, 99, 100, 101, 102, 103, 104, 105, 106, 107, 108, 109, 110, 111, 112, 113, 114, 115, 116, 117, 118, 119, 120, 121, 122] : List UInt8) (w64u (x.2.1 - (w64u ((w64u (Int.tdiv x.2.1 x.2.2.2.2.2.2.2.1)) * x.2.2.2.2.2.2.2.1)))) fun v0 =>
   guard (decide (0 ≤ (w64 (x.2.2.2.2.2.2.1 - 1)) ∧ (w64 (x.2.2.2.2.2.2.1 - 1)) < 65)) <|
   nthN x.2.2.2.2.2.2.2.2 (0 + ((w64 (x.2.2.2.2.2.2.1 - 1)).toNat)) fun v1 =>
   some (.inl (x.1, w64u (Int.tdiv x.2.1 x.2.2.2.2.2.2.2.1), x.2.2.1, x.2.2.2.1, x.2.2.2.2.1, x.2.2.2.2.2.1, w64 (x.2.2.2.2.2.2.1 - 1), x.2.2.2.2.2.2.2.1, List.set x.2.2.2.2.2.2.2.2 (0 + ((w64 (x.2.2.2.2.2.2.1 - 1)).toNat)) (v0.toNat : Int))))
   (some (.inr (x.1, x.2.1, x.2.2.1, x.2.2.2.1, x.2.2.2.2.1, x.2.2.2.2.2.1, x.2.2.2.2.2.2.1, x.2.2.2.2.2.2.2.2)))
def F241h_b2 (K : Nat) (x : (List Int) × Int × Bool × Bool × (List Int) × (List UInt8) × Int × Int × Int × Int × List Int) : Option (((List Int) × Int × Bool × Bool × (List Int) × (List UInt8) × Int × Int × Int × Int × List Int) ⊕ ((List Int) × Int × Bool × Bool × (List Int) × (List UInt8) × Int × List Int)) :=
  branch (decide (x.2.2.2.2.2.2.2.2.1 ≤ x.2.1))
   (nth ([48, 49, 50, 51, 52, 53, 54, 55, 56, 57, 97, 98, 99, 100, 101, 102, 103, 104, 105, 106, 107, 108, 109, 110, 111, 112, 113, 114, 115, 116, 117, 118, 119, 120, 121, 122] : List UInt8) (Go.bits Go.BinOp.and Go.IntKind.u64 x.2.1 x.2.2.2.2.2.2.2.2.2.1) fun v0 =>
   guard (decide (0 ≤ (w64 (x.2.2.2.2.2.2.1 - 1)) ∧ (w64 (x.2.2.2.2.2.2.1 - 1)) < 65)) <|
   nthN x.2.2.2.2.2.2.2.2.2.2 (0 + ((w64 (x.2.2.2.2.2.2.1 - 1)).toNat)) fun v1 =>
   guard (decide (0 ≤ x.2.2.2.2.2.2.2.1)) <|
   some (.inl (x.1, shrI Go.IntKind.u64 x.2.1 x.2.2.2.2.2.2.2.1, x.2.2.1, x.2.2.2.1, x.2.2.2.2.1, x.2.2.2.2.2.1, w64 (x.2.2.2.2.2.2.1 - 1), x.2.2.2.2.2.2.2.1, x.2.2.2.2.2.2.2.2.1, x.2.2.2.2.2.2.2.2.2.1, List.set x.2.2.2.2.2.2.2.2.2.2 (0 + ((w64 (x.2.2.2.2.2.2.1 - 1)).toNat)) (v0.toNat : Int))))
   (some (.inr (x.1, x.2.1, x.2.2.1, x.2.2.2.1, x.2.2.2.2.1, x.2.2.2.2.2.1, x.2.2.2.2.2.2.1, x.2.2.2.2.2.2.2.2.2.2)))
def F241h_b3 (K : Nat) (x : (List Int) × Int × Bool × Bool × (List Int) × (List UInt8) × Int × Int × List Int) : Option (((List Int) × Int × Bool × Bool × (List Int) × (List UInt8) × Int × Int × List Int) ⊕ ((List Int) × Int × Bool × Bool × (List Int) × (List UInt8) × Int × List Int)) :=
  branch (decide (x.2.2.2.2.2.2.2.1 ≤ x.2.1))
   (guard (!(decide (x.2.2.2.2.2.2.2.1 = 0))) <|
   nth ([48, 49, 50, 51, 52, 53, 54, 55, 56, 57, 97, 98, 99, 100, 101, 102, 103, 104, 105, 106, 107, 108, 109, 110, 111, 112, 113, 114, 115, 116, 117, 118, 119, 120, 121, 122] : List UInt8) (w64u (x.2.1 - (w64u ((w64u (Int.tdiv x.2.1 x.2.2.2.2.2.2.2.1)) * x.2.2.2.2.2.2.2.1)))) fun v0 =>
   guard (decide (0 ≤ (w64 (x.2.2.2.2.2.2.1 - 1)) ∧ (w64 (x.2.2.2.2.2.2.1 - 1)) < 65)) <|
   nthN x.2.2.2.2.2.2.2.2 (0 + ((w64 (x.2.2.2.2.2.2.1 - 1)).toNat)) fun v1 =>
   some (.inl (x.1, w64u (Int.tdiv x.2.1 x.2.2.2.2.2.2.2.1), x.2.2.1, x.2.2.2.1, x.2.2.2.2.1, x.2.2.2.2.2.1, w64 (x.2.2.2.2.2.2.1 - 1), x.2.2.2.2.2.2.2.1, List.set x.2.2.2.2.2.2.2.2 (0 + ((w64 (x.2.2.2.2.2.2.1 - 1)).toNat)) (v0.toNat : Int))))
   (some (.inr (x.1, x.2.1, x.2.2.1, x.2.2.2.1, x.2.2.2.2.1, x.2.2.2.2.2.1, x.2.2.2.2.2.2.1, x.2.2.2.2.2.2.2.2)))
def F241h (K : Nat) (x : (List Int) × Int × Int × Bool × Bool) : Option ((List Int) × List UInt8) :=
  branch x.2.2.2.1
   (bindO (F263 K 16) fun v0 =>
   branch v0
    (bindO (F264 K 16) fun v1 =>
    bindO (iter K (F241h_b0 K) (x.1, w64u (0 - x.2.1), x.2.2.2.1, x.2.2.2.2, [], [], 65, w64u v1, 16, 15, [0, 0, 0, 0, 0, 0, 0, 0, 0, 0, 0, 0, 0, 0, 0, 0, 0, 0, 0, 0, 0, 0, 0, 0, 0, 0, 0, 0, 0, 0, 0, 0, 0, 0, 0, 0, 0, 0, 0, 0, 0, 0, 0, 0, 0, 0, 0, 0, 0, 0, 0, 0, 0, 0, 0, 0, 0, 0, 0, 0, 0, 0, 0, 0, 0])) fun v2 =>
    nth ([48, 49, 50, 51, 52, 53, 54, 55, 56, 57, 97, 98, 99, 100, 101, 102, 103, 104, 105, 106, 107, 108, 109, 110, 111, 112, 113, 114, 115, 116, 117, 118, 119, 120, 121, 122] : List UInt8) v2.2.1 fun v3 =>
    guard (decide (0 ≤ (w64 (v2.2.2.2.2.2.2.1 - 1)) ∧ (w64 (v2.2.2.2.2.2.2.1 - 1)) < 65)) <|
    nthN v2.2.2.2.2.2.2.2 (0 + ((w64 (v2.2.2.2.2.2.2.1 - 1)).toNat)) fun v4 =>
    branch v2.2.2.1
     (guard (decide (0 ≤ (w64 ((w64 (v2.2.2.2.2.2.2.1 - 1)) - 1)) ∧ (w64 ((w64 (v2.2.2.2.2.2.2.1 - 1)) - 1)) < 65)) <|
     nthN (List.set v2.2.2.2.2.2.2.2 (0 + ((w64 (v2.2.2.2.2.2.2.1 - 1)).toNat)) (v3.toNat : Int)) (0 + ((w64 ((w64 (v2.2.2.2.2.2.2.1 - 1)) - 1)).toNat)) fun v5 =>
     branch v2.2.2.2.1
      (guard (decide (65 = ((List.set (List.set v2.2.2.2.2.2.2.2 (0 + ((w64 (v2.2.2.2.2.2.2.1 - 1)).toNat)) (v3.toNat : Int)) (0 + ((w64 ((w64 (v2.2.2.2.2.2.2.1 - 1)) - 1)).toNat)) 45).length))) <|
      guard (decide (0 ≤ (w64 ((w64 (v2.2.2.2.2.2.2.1 - 1)) - 1)) ∧ (w64 ((w64 (v2.2.2.2.2.2.2.1 - 1)) - 1)) ≤ 65)) <|
      guard (decide ((((w64 ((w64 (v2.2.2.2.2.2.2.1 - 1)) - 1)).toNat) + (65 - ((w64 ((w64 (v2.2.2.2.2.2.2.1 - 1)) - 1)).toNat))) ≤ ((List.set (List.set v2.2.2.2.2.2.2.2 (0 + ((w64 (v2.2.2.2.2.2.2.1 - 1)).toNat)) (v3.toNat : Int)) (0 + ((w64 ((w64 (v2.2.2.2.2.2.2.1 - 1)) - 1)).toNat)) 45).length))) <|
      none)
      (guard (decide (65 = ((List.set (List.set v2.2.2.2.2.2.2.2 (0 + ((w64 (v2.2.2.2.2.2.2.1 - 1)).toNat)) (v3.toNat : Int)) (0 + ((w64 ((w64 (v2.2.2.2.2.2.2.1 - 1)) - 1)).toNat)) 45).length))) <|
      guard (decide (0 ≤ (w64 ((w64 (v2.2.2.2.2.2.2.1 - 1)) - 1)) ∧ (w64 ((w64 (v2.2.2.2.2.2.2.1 - 1)) - 1)) ≤ 65)) <|
      guard (decide ((((w64 ((w64 (v2.2.2.2.2.2.2.1 - 1)) - 1)).toNat) + (65 - ((w64 ((w64 (v2.2.2.2.2.2.2.1 - 1)) - 1)).toNat))) ≤ ((List.set (List.set v2.2.2.2.2.2.2.2 (0 + ((w64 (v2.2.2.2.2.2.2.1 - 1)).toNat)) (v3.toNat : Int)) (0 + ((w64 ((w64 (v2.2.2.2.2.2.2.1 - 1)) - 1)).toNat)) 45).length))) <|
      some (v2.2.2.2.2.1, toB (List.take (65 - ((w64 ((w64 (v2.2.2.2.2.2.2.1 - 1)) - 1)).toNat)) (List.drop ((w64 ((w64 (v2.2.2.2.2.2.2.1 - 1)) - 1)).toNat) (List.set (List.set v2.2.2.2.2.2.2.2 (0 + ((w64 (v2.2.2.2.2.2.2.1 - 1)).toNat)) (v3.toNat : Int)) (0 + ((w64 ((w64 (v2.2.2.2.2.2.2.1 - 1)) - 1)).toNat)) 45))))))
     (branch v2.2.2.2.1
      (guard (decide (65 = ((List.set v2.2.2.2.2.2.2.2 (0 + ((w64 (v2.2.2.2.2.2.2.1 - 1)).toNat)) (v3.toNat : Int)).length))) <|
      guard (decide (0 ≤ (w64 (v2.2.2.2.2.2.2.1 - 1)) ∧ (w64 (v2.2.2.2.2.2.2.1 - 1)) ≤ 65)) <|
      guard (decide ((((w64 (v2.2.2.2.2.2.2.1 - 1)).toNat) + (65 - ((w64 (v2.2.2.2.2.2.2.1 - 1)).toNat))) ≤ ((List.set v2.2.2.2.2.2.2.2 (0 + ((w64 (v2.2.2.2.2.2.2.1 - 1)).toNat)) (v3.toNat : Int)).length))) <|
      none)
      (guard (decide (65 = ((List.set v2.2.2.2.2.2.2.2 (0 + ((w64 (v2.2.2.2.2.2.2.1 - 1)).toNat)) (v3.toNat : Int)).length))) <|
      guard (decide (0 ≤ (w64 (v2.2.2.2.2.2.2.1 - 1)) ∧ (w64 (v2.2.2.2.2.2.2.1 - 1)) ≤ 65)) <|
      guard (decide ((((w64 (v2.2.2.2.2.2.2.1 - 1)).toNat) + (65 - ((w64 (v2.2.2.2.2.2.2.1 - 1)).toNat))) ≤ ((List.set v2.2.2.2.2.2.2.2 (0 + ((w64 (v2.2.2.2.2.2.2.1 - 1)).toNat)) (v3.toNat : Int)).length))) <|
      some (v2.2.2.2.2.1, toB (List.take (65 - ((w64 (v2.2.2.2.2.2.2.1 - 1)).toNat)) (List.drop ((w64 (v2.2.2.2.2.2.2.1 - 1)).toNat) (List.set v2.2.2.2.2.2.2.2 (0 + ((w64 (v2.2.2.2.2.2.2.1 - 1)).toNat)) (v3.toNat : Int))))))))
    (bindO (iter K (F241h_b1 K) (x.1, w64u (0 - x.2.1), x.2.2.2.1, x.2.2.2.2, [], [], 65, 16, [0, 0, 0, 0, 0, 0, 0, 0, 0, 0, 0, 0, 0, 0, 0, 0, 0, 0, 0, 0, 0, 0, 0, 0, 0, 0, 0, 0, 0, 0, 0, 0, 0, 0, 0, 0, 0, 0, 0, 0, 0, 0, 0, 0, 0, 0, 0, 0, 0, 0, 0, 0, 0, 0, 0, 0, 0, 0, 0, 0, 0, 0, 0, 0, 0])) fun v6 =>
    nth ([48, 49, 50, 51, 52, 53, 54, 55, 56, 57, 97, 98, 99, 100, 101, 102, 103, 104, 105, 106, 107, 108, 109, 110, 111, 112, 113, 114, 115, 116, 117, 118, 119, 120, 121, 122] : List UInt8) v6.2.1 fun v7 =>
    guard (decide (0 ≤ (w64 (v6.2.2.2.2.2.2.1 - 1)) ∧ (w64 (v6.2.2.2.2.2.2.1 - 1)) < 65)) <|
    nthN v6.2.2.2.2.2.2.2 (0 + ((w64 (v6.2.2.2.2.2.2.1 - 1)).toNat)) fun v8 =>
    branch v6.2.2.1
     (guard (decide (0 ≤ (w64 ((w64 (v6.2.2.2.2.2.2.1 - 1)) - 1)) ∧ (w64 ((w64 (v6.2.2.2.2.2.2.1 - 1)) - 1)) < 65)) <|
     nthN (List.set v6.2.2.2.2.2.2.2 (0 + ((w64 (v6.2.2.2.2.2.2.1 - 1)).toNat)) (v7.toNat : Int)) (0 + ((w64 ((w64 (v6.2.2.2.2.2.2.1 - 1)) - 1)).toNat)) fun v9 =>
     branch v6.2.2.2.1
      (guard (decide (65 = ((List.set (List.set v6.2.2.2.2.2.2.2 (0 + ((w64 (v6.2.2.2.2.2.2.1 - 1)).toNat)) (v7.toNat : Int)) (0 + ((w64 ((w64 (v6.2.2.2.2.2.2.1 - 1)) - 1)).toNat)) 45).length))) <|
      guard (decide (0 ≤ (w64 ((w64 (v6.2.2.2.2.2.2.1 - 1)) - 1)) ∧ (w64 ((w64 (v6.2.2.2.2.2.2.1 - 1)) - 1)) ≤ 65)) <|
      guard (decide ((((w64 ((w64 (v6.2.2.2.2.2.2.1 - 1)) - 1)).toNat) + (65 - ((w64 ((w64 (v6.2.2.2.2.2.2.1 - 1)) - 1)).toNat))) ≤ ((List.set (List.set v6.2.2.2.2.2.2.2 (0 + ((w64 (v6.2.2.2.2.2.2.1 - 1)).toNat)) (v7.toNat : Int)) (0 + ((w64 ((w64 (v6.2.2.2.2.2.2.1 - 1)) - 1)).toNat)) 45).length))) <|
      none)
      (guard (decide (65 = ((List.set (List.set v6.2.2.2.2.2.2.2 (0 + ((w64 (v6.2.2.2.2.2.2.1 - 1)).toNat)) (v7.toNat : Int)) (0 + ((w64 ((w64 (v6.2.2.2.2.2.2.1 - 1)) - 1)).toNat)) 45).length))) <|
      guard (decide (0 ≤ (w64 ((w64 (v6.2.2.2.2.2.2.1 - 1)) - 1)) ∧ (w64 ((w64 (v6.2.2.2.2.2.2.1 - 1)) - 1)) ≤ 65)) <|
      guard (decide ((((w64 ((w64 (v6.2.2.2.2.2.2.1 - 1)) - 1)).toNat) + (65 - ((w64 ((w64 (v6.2.2.2.2.2.2.1 - 1)) - 1)).toNat))) ≤ ((List.set (List.set v6.2.2.2.2.2.2.2 (0 + ((w64 (v6.2.2.2.2.2.2.1 - 1)).toNat)) (v7.toNat : Int)) (0 + ((w64 ((w64 (v6.2.2.2.2.2.2.1 - 1)) - 1)).toNat)) 45).length))) <|
      some (v6.2.2.2.2.1, toB (List.take (65 - ((w64 ((w64 (v6.2.2.2.2.2.2.1 - 1)) - 1)).toNat)) (List.drop ((w64 ((w64 (v6.2.2.2.2.2.2.1 - 1)) - 1)).toNat) (List.set (List.set v6.2.2.2.2.2.2.2 (0 + ((w64 (v6.2.2.2.2.2.2.1 - 1)).toNat)) (v7.toNat : Int)) (0 + ((w64 ((w64 (v6.2.2.2.2.2.2.1 - 1)) - 1)).toNat)) 45))))))
     (branch v6.2.2.2.1
      (guard (decide (65 = ((List.set v6.2.2.2.2.2.2.2 (0 + ((w64 (v6.2.2.2.2.2.2.1 - 1)).toNat)) (v7.toNat : Int)).length))) <|
      guard (decide (0 ≤ (w64 (v6.2.2.2.2.2.2.1 - 1)) ∧ (w64 (v6.2.2.2.2.2.2.1 - 1)) ≤ 65)) <|
      guard (decide ((((w64 (v6.2.2.2.2.2.2.1 - 1)).toNat) + (65 - ((w64 (v6.2.2.2.2.2.2.1 - 1)).toNat))) ≤ ((List.set v6.2.2.2.2.2.2.2 (0 + ((w64 (v6.2.2.2.2.2.2.1 - 1)).toNat)) (v7.toNat : Int)).length))) <|
      none)
      (guard (decide (65 = ((List.set v6.2.2.2.2.2.2.2 (0 + ((w64 (v6.2.2.2.2.2.2.1 - 1)).toNat)) (v7.toNat : Int)).length))) <|
      guard (decide (0 ≤ (w64 (v6.2.2.2.2.2.2.1 - 1)) ∧ (w64 (v6.2.2.2.2.2.2.1 - 1)) ≤ 65)) <|
      guard (decide ((((w64 (v6.2.2.2.2.2.2.1 - 1)).toNat) + (65 - ((w64 (v6.2.2.2.2.2.2.1 - 1)).toNat))) ≤ ((List.set v6.2.2.2.2.2.2.2 (0 + ((w64 (v6.2.2.2.2.2.2.1 - 1)).toNat)) (v7.toNat : Int)).length))) <|
      some (v6.2.2.2.2.1, toB (List.take (65 - ((w64 (v6.2.2.2.2.2.2.1 - 1)).toNat)) (List.drop ((w64 (v6.2.2.2.2.2.2.1 - 1)).toNat) (List.set v6.2.2.2.2.2.2.2 (0 + ((w64 (v6.2.2.2.2.2.2.1 - 1)).toNat)) (v7.toNat : Int)))))))))
   (bindO (F263 K 16) fun v10 =>
   branch v10
    (bindO (F264 K 16) fun v11 =>
    bindO (iter K (F241h_b2 K) (x.1, x.2.1, x.2.2.2.1, x.2.2.2.2, [], [], 65, w64u v11, 16, 15, [0, 0, 0, 0, 0, 0, 0, 0, 0, 0, 0, 0, 0, 0, 0, 0, 0, 0, 0, 0, 0, 0, 0, 0, 0, 0, 0, 0, 0, 0, 0, 0, 0, 0, 0, 0, 0, 0, 0, 0, 0, 0, 0, 0, 0, 0, 0, 0, 0, 0, 0, 0, 0, 0, 0, 0, 0, 0, 0, 0, 0, 0, 0, 0, 0])) fun v12 =>
    nth ([48, 49, 50, 51, 52, 53, 54, 55, 56, 57, 97, 98, 99, 100, 101, 102, 103, 104, 105, 106, 107, 108, 109, 110, 111, 112, 113, 114, 115, 116, 117, 118, 119, 120, 121, 122] : List UInt8) v12.2.1 fun v13 =>
    guard (decide (0 ≤ (w64 (v12.2.2.2.2.2.2.1 - 1)) ∧ (w64 (v12.2.2.2.2.2.2.1 - 1)) < 65)) <|
    nthN v12.2.2.2.2.2.2.2 (0 + ((w64 (v12.2.2.2.2.2.2.1 - 1)).toNat)) fun v14 =>
    branch v12.2.2.1
     (guard (decide (0 ≤ (w64 ((w64 (v12.2.2.2.2.2.2.1 - 1)) - 1)) ∧ (w64 ((w64 (v12.2.2.2.2.2.2.1 - 1)) - 1)) < 65)) <|
     nthN (List.set v12.2.2.2.2.2.2.2 (0 + ((w64 (v12.2.2.2.2.2.2.1 - 1)).toNat)) (v13.toNat : Int)) (0 + ((w64 ((w64 (v12.2.2.2.2.2.2.1 - 1)) - 1)).toNat)) fun v15 =>
     branch v12.2.2.2.1
      (guard (decide (65 = ((List.set (List.set v12.2.2.2.2.2.2.2 (0 + ((w64 (v12.2.2.2.2.2.2.1 - 1)).toNat)) (v13.toNat : Int)) (0 + ((w64 ((w64 (v12.2.2.2.2.2.2.1 - 1)) - 1)).toNat)) 45).length))) <|
      guard (decide (0 ≤ (w64 ((w64 (v12.2.2.2.2.2.2.1 - 1)) - 1)) ∧ (w64 ((w64 (v12.2.2.2.2.2.2.1 - 1)) - 1)) ≤ 65)) <|
      guard (decide ((((w64 ((w64 (v12.2.2.2.2.2.2.1 - 1)) - 1)).toNat) + (65 - ((w64 ((w64 (v12.2.2.2.2.2.2.1 - 1)) - 1)).toNat))) ≤ ((List.set (List.set v12.2.2.2.2.2.2.2 (0 + ((w64 (v12.2.2.2.2.2.2.1 - 1)).toNat)) (v13.toNat : Int)) (0 + ((w64 ((w64 (v12.2.2.2.2.2.2.1 - 1)) - 1)).toNat)) 45).length))) <|
      none)
      (guard (decide (65 = ((List.set (List.set v12.2.2.2.2.2.2.2 (0 + ((w64 (v12.2.2.2.2.2.2.1 - 1)).toNat)) (v13.toNat : Int)) (0 + ((w64 ((w64 (v12.2.2.2.2.2.2.1 - 1)) - 1)).toNat)) 45).length))) <|
      guard (decide (0 ≤ (w64 ((w64 (v12.2.2.2.2.2.2.1 - 1)) - 1)) ∧ (w64 ((w64 (v12.2.2.2.2.2.2.1 - 1)) - 1)) ≤ 65)) <|
      guard (decide ((((w64 ((w64 (v12.2.2.2.2.2.2.1 - 1)) - 1)).toNat) + (65 - ((w64 ((w64 (v12.2.2.2.2.2.2.1 - 1)) - 1)).toNat))) ≤ ((List.set (List.set v12.2.2.2.2.2.2.2 (0 + ((w64 (v12.2.2.2.2.2.2.1 - 1)).toNat)) (v13.toNat : Int)) (0 + ((w64 ((w64 (v12.2.2.2.2.2.2.1 - 1)) - 1)).toNat)) 45).length))) <|
      some (v12.2.2.2.2.1, toB (List.take (65 - ((w64 ((w64 (v12.2.2.2.2.2.2.1 - 1)) - 1)).toNat)) (List.drop ((w64 ((w64 (v12.2.2.2.2.2.2.1 - 1)) - 1)).toNat) (List.set (List.set v12.2.2.2.2.2.2.2 (0 + ((w64 (v12.2.2.2.2.2.2.1 - 1)).toNat)) (v13.toNat : Int)) (0 + ((w64 ((w64 (v12.2.2.2.2.2.2.1 - 1)) - 1)).toNat)) 45))))))
     (branch v12.2.2.2.1
      (guard (decide (65 = ((List.set v12.2.2.2.2.2.2.2 (0 + ((w64 (v12.2.2.2.2.2.2.1 - 1)).toNat)) (v13.toNat : Int)).length))) <|
      guard (decide (0 ≤ (w64 (v12.2.2.2.2.2.2.1 - 1)) ∧ (w64 (v12.2.2.2.2.2.2.1 - 1)) ≤ 65)) <|
      guard (decide ((((w64 (v12.2.2.2.2.2.2.1 - 1)).toNat) + (65 - ((w64 (v12.2.2.2.2.2.2.1 - 1)).toNat))) ≤ ((List.set v12.2.2.2.2.2.2.2 (0 + ((w64 (v12.2.2.2.2.2.2.1 - 1)).toNat)) (v13.toNat : Int)).length))) <|
      none)
      (guard (decide (65 = ((List.set v12.2.2.2.2.2.2.2 (0 + ((w64 (v12.2.2.2.2.2.2.1 - 1)).toNat)) (v13.toNat : Int)).length))) <|
      guard (decide (0 ≤ (w64 (v12.2.2.2.2.2.2.1 - 1)) ∧ (w64 (v12.2.2.2.2.2.2.1 - 1)) ≤ 65)) <|
      guard (decide ((((w64 (v12.2.2.2.2.2.2.1 - 1)).toNat) + (65 - ((w64 (v12.2.2.2.2.2.2.1 - 1)).toNat))) ≤ ((List.set v12.2.2.2.2.2.2.2 (0 + ((w64 (v12.2.2.2.2.2.2.1 - 1)).toNat)) (v13.toNat : Int)).length))) <|
      some (v12.2.2.2.2.1, toB (List.take (65 - ((w64 (v12.2.2.2.2.2.2.1 - 1)).toNat)) (List.drop ((w64 (v12.2.2.2.2.2.2.1 - 1)).toNat) (List.set v12.2.2.2.2.2.2.2 (0 + ((w64 (v12.2.2.2.2.2.2.1 - 1)).toNat)) (v13.toNat : Int))))))))
    (bindO (iter K (F241h_b3 K) (x.1, x.2.1, x.2.2.2.1, x.2.2.2.2, [], [], 65, 16, [0, 0, 0, 0, 0, 0, 0, 0, 0, 0, 0, 0, 0, 0, 0, 0, 0, 0, 0, 0, 0, 0, 0, 0, 0, 0, 0, 0, 0, 0, 0, 0, 0, 0, 0, 0, 0, 0, 0, 0, 0, 0, 0, 0, 0, 0, 0, 0, 0, 0, 0, 0, 0, 0, 0, 0, 0, 0, 0, 0, 0, 0, 0, 0, 0])) fun v16 =>
    nth ([48, 49, 50, 51, 52, 53, 54, 55, 56, 57, 97, 98, 99, 100, 101, 102, 103, 104, 105, 106, 107, 108, 109, 110, 111, 112, 113, 114, 115, 116, 117, 118, 119, 120, 121, 122] : List UInt8) v16.2.1 fun v17 =>
    guard (decide (0 ≤ (w64 (v16.2.2.2.2.2.2.1 - 1)) ∧ (w64 (v16.2.2.2.2.2.2.1 - 1)) < 65)) <|
    nthN v16.2.2.2.2.2.2.2 (0 + ((w64 (v16.2.2.2.2.2.2.1 - 1)).toNat)) fun v18 =>
    branch v16.2.2.1
     (guard (decide (0 ≤ (w64 ((w64 (v16.2.2.2.2.2.2.1 - 1)) - 1)) ∧ (w64 ((w64 (v16.2.2.2.2.2.2.1 - 1)) - 1)) < 65)) <|
     nthN (List.set v16.2.2.2.2.2.2.2 (0 + ((w64 (v16.2.2.2.2.2.2.1 - 1)).toNat)) (v17.toNat : Int)) (0 + ((w64 ((w64 (v16.2.2.2.2.2.2.1 - 1)) - 1)).toNat)) fun v19 =>
     branch v16.2.2.2.1
      (guard (decide (65 = ((List.set (List.set v16.2.2.2.2.2.2.2 (0 + ((w64 (v16.2.2.2.2.2.2.1 - 1)).toNat)) (v17.toNat : Int)) (0 + ((w64 ((w64 (v16.2.2.2.2.2.2.1 - 1)) - 1)).toNat)) 45).length))) <|
      guard (decide (0 ≤ (w64 ((w64 (v16.2.2.2.2.2.2.1 - 1)) - 1)) ∧ (w64 ((w64 (v16.2.2.2.2.2.2.1 - 1)) - 1)) ≤ 65)) <|
      guard (decide ((((w64 ((w64 (v16.2.2.2.2.2.2.1 - 1)) - 1)).toNat) + (65 - ((w64 ((w64 (v16.2.2.2.2.2.2.1 - 1)) - 1)).toNat))) ≤ ((List.set (List.set v16.2.2.2.2.2.2.2 (0 + ((w64 (v16.2.2.2.2.2.2.1 - 1)).toNat)) (v17.toNat : Int)) (0 + ((w64 ((w64 (v16.2.2.2.2.2.2.1 - 1)) - 1)).toNat)) 45).length))) <|
      none)
      (guard (decide (65 = ((List.set (List.set v16.2.2.2.2.2.2.2 (0 + ((w64 (v16.2.2.2.2.2.2.1 - 1)).toNat)) (v17.toNat : Int)) (0 + ((w64 ((w64 (v16.2.2.2.2.2.2.1 - 1)) - 1)).toNat)) 45).length))) <|
      guard (decide (0 ≤ (w64 ((w64 (v16.2.2.2.2.2.2.1 - 1)) - 1)) ∧ (w64 ((w64 (v16.2.2.2.2.2.2.1 - 1)) - 1)) ≤ 65)) <|
      guard (decide ((((w64 ((w64 (v16.2.2.2.2.2.2.1 - 1)) - 1)).toNat) + (65 - ((w64 ((w64 (v16.2.2.2.2.2.2.1 - 1)) - 1)).toNat))) ≤ ((List.set (List.set v16.2.2.2.2.2.2.2 (0 + ((w64 (v16.2.2.2.2.2.2.1 - 1)).toNat)) (v17.toNat : Int)) (0 + ((w64 ((w64 (v16.2.2.2.2.2.2.1 - 1)) - 1)).toNat)) 45).length))) <|
      some (v16.2.2.2.2.1, toB (List.take (65 - ((w64 ((w64 (v16.2.2.2.2.2.2.1 - 1)) - 1)).toNat)) (List.drop ((w64 ((w64 (v16.2.2.2.2.2.2.1 - 1)) - 1)).toNat) (List.set (List.set v16.2.2.2.2.2.2.2 (0 + ((w64 (v16.2.2.2.2.2.2.1 - 1)).toNat)) (v17.toNat : Int)) (0 + ((w64 ((w64 (v16.2.2.2.2.2.2.1 - 1)) - 1)).toNat)) 45))))))
     (branch v16.2.2.2.1
      (guard (decide (65 = ((List.set v16.2.2.2.2.2.2.2 (0 + ((w64 (v16.2.2.2.2.2.2.1 - 1)).toNat)) (v17.toNat : Int)).length))) <|
      guard (decide (0 ≤ (w64 (v16.2.2.2.2.2.2.1 - 1)) ∧ (w64 (v16.2.2.2.2.2.2.1 - 1)) ≤ 65)) <|
      guard (decide ((((w64 (v16.2.2.2.2.2.2.1 - 1)).toNat) + (65 - ((w64 (v16.2.2.2.2.2.2.1 - 1)).toNat))) ≤ ((List.set v16.2.2.2.2.2.2.2 (0 + ((w64 (v16.2.2.2.2.2.2.1 - 1)).toNat)) (v17.toNat : Int)).length))) <|
      none)
      (guard (decide (65 = ((List.set v16.2.2.2.2.2.2.2 (0 + ((w64 (v16.2.2.2.2.2.2.1 - 1)).toNat)) (v17.toNat : Int)).length))) <|
      guard (decide (0 ≤ (w64 (v16.2.2.2.2.2.2.1 - 1)) ∧ (w64 (v16.2.2.2.2.2.2.1 - 1)) ≤ 65)) <|
      guard (decide ((((w64 (v16.2.2.2.2.2.2.1 - 1)).toNat) + (65 - ((w64 (v16.2.2.2.2.2.2.1 - 1)).toNat))) ≤ ((List.set v16.2.2.2.2.2.2.2 (0 + ((w64 (v16.2.2.2.2.2.2.1 - 1)).toNat)) (v17.toNat : Int)).length))) <|
      some (v16.2.2.2.2.1, toB (List.take (65 - ((w64 (v16.2.2.2.2.2.2.1 - 1)).toNat)) (List.drop ((w64 (v16.2.2.2.2.2.2.1 - 1)).toNat) (List.set v16.2.2.2.2.2.2.2 (0 + ((w64 (v16.2.2.2.2.2.2.1 - 1)).toNat)) (v17.toNat : Int)))))))))
def ct241h (K : Nat) : Ct := ⟨[.l (.v (.l (.i .u8))), .l (.v (.i .u64)), .l (.k .i64 (16)), .l (.v .b), .l (.v .b)], [], [.l (.v (.l (.i .u8))), .l (.v .s)], [], [], F241h K⟩
theorem c241h (K : Nat) : CtOk prog 241 (ct241h K) :=
  cmk (K := K) (an := (sN (.seq (sN .no) (sN (sN (.seq (sN .no) (.seq (sN (.cond (sN (sN (sN (.seq (.blk (.loop [] ⟨(.l (.v (.l (.i .u8))) :: .l (.v (.i .u64)) :: ru 1 (.l (.v .b) :: .l (.v .b) :: ru 5 (.l (.v (.l (.i .u8))) :: .l (.v .s) :: .l (.ptr 13000 0 0) :: .l i6 :: .l (.v (.i .u64)) :: .l (.v (.i .u64)) :: .l (.v (.i .u64)) :: ru 85 []))), [(13000, ⟨1, true, .row (.i .u8)⟩)]⟩ [(0, ⟨(.l (.v (.l (.i .u8))) :: .l (.v (.i .u64)) :: ru 1 (.l (.v .b) :: .l (.v .b) :: ru 5 (.l (.v (.l (.i .u8))) :: .l (.v .s) :: .l (.ptr 13000 0 0) :: .l i6 :: ru 88 []))), [(13000, ⟨1, true, .row (.i .u8)⟩)]⟩)] false (.seq (sN .no) (.blk (sN .no))))) .no)))) (sN (.seq (.blk (.loop [] ⟨(.l (.v (.l (.i .u8))) :: .l (.v (.i .u64)) :: ru 1 (.l (.v .b) :: .l (.v .b) :: ru 5 (.l (.v (.l (.i .u8))) :: .l (.v .s) :: .l (.ptr 13000 0 0) :: .l i6 :: ru 3 (.l (.v (.i .u64)) :: ru 84 [])))), [(13000, ⟨1, true, .row (.i .u8)⟩)]⟩ [(2, ⟨(.l (.v (.l (.i .u8))) :: .l (.v (.i .u64)) :: ru 1 (.l (.v .b) :: .l (.v .b) :: ru 5 (.l (.v (.l (.i .u8))) :: .l (.v .s) :: .l (.ptr 13000 0 0) :: .l i6 :: ru 88 []))), [(13000, ⟨1, true, .row (.i .u8)⟩)]⟩)] false (.seq (sN .no) (.blk (sN (sN .no)))))) .no)))) (.seq (sN (.cond .no .no)) (.seq (sN (.cond .no .no)) .no))))))))) func241 (kX (c264 K) (kX (c263 K) kN))
def F189h (K : Nat) (x : Int × Int) : Option (List UInt8) :=
  bindO (F241h K ([], w64u x.1, 16, decide (x.1 < 0), false)) fun v0 =>
  some v0.2
def ct189h (K : Nat) : Ct := ⟨[.l i6, .l (.k .i64 (16))], [], [.l (.v .s)], [], [], F189h K⟩
theorem c189h (K : Nat) : CtOk prog 189 (ct189h K) :=
  cmk (K := K) (an := (sN (.seq (sN (.cond (.seq (sN (.cond .no .no)) (sN (sN (.seq (sN .no) (sN (sN (.seq (sN (.cond (sN .no) .no)) .no))))))) .no)) (sN .no)))) func189 (kX (c241h K) kN)
def F133h (K : Nat) (x : Int × Int) : Option (List UInt8) :=
  bindO (F189h K (x.1, 16)) fun v0 =>
  some v0
def ct133h (K : Nat) : Ct := ⟨[.l i6, .l (.k .i64 (16))], [], [.l (.v .s)], [], [], F133h K⟩
theorem c133h (K : Nat) : CtOk prog 133 (ct133h K) :=
  cmk (K := K) (an := (sN .no)) func133 (kX (c189h K) kN)
def F54 (K : Nat) (x : Int × Int × Int) : Option (Bool) :=
  branch (decide (x.2.1 ≤ x.1))
   (some (decide (x.1 ≤ x.2.2)))
   (some false)
def ct54 (K : Nat) : Ct := ⟨[.l i6, .l i6, .l i6], [], [.l (.v .b)], [], [], F54 K⟩
theorem c54 (K : Nat) : CtOk prog 54 (ct54 K) :=
  cmk (K := K) (an := (sN .no)) func54 kN
def F80 (K : Nat) (x : Int) : Option (Bool) :=
  bindO (F54 K (x, 0, 255)) fun v0 =>
  some v0
def ct80 (K : Nat) : Ct := ⟨[.l i6], [], [.l (.v .b)], [], [], F80 K⟩
theorem c80 (K : Nat) : CtOk prog 80 (ct80 K) :=
  cmk (K := K) (an := (sN .no)) func80 (kX (c54 K) kN)
def F179 (K : Nat) (x : List UInt8) : Option (List (List UInt8)) :=
  bindO (F233 K (x, ([32] : List UInt8))) fun v0 =>
  some v0
def ct179 (K : Nat) : Ct := ⟨[.l (.v .s)], [], [.l (.v (.l .s))], [], [], F179 K⟩
theorem c179 (K : Nat) : CtOk prog 179 (ct179 K) :=
  cmk (K := K) (an := (sN .no)) func179 (kX (c233 K) kN)
def F181 (K : Nat) (x : Unit) : Option (List (List UInt8)) :=
  bindO (F179 K ([114, 108, 99, 32, 114, 114, 99, 32, 114, 108, 32, 114, 114, 32, 115, 108, 97, 32, 115, 114, 97, 32, 115, 119, 97, 112, 32, 115, 114, 108] : List UInt8)) fun v0 =>
  some v0
def ct181 (K : Nat) : Ct := ⟨[], [], [.l (.v (.l .s))], [], [], F181 K⟩
theorem c181 (K : Nat) : CtOk prog 181 (ct181 K) :=
  cmk (K := K) (an := (sN .no)) func181 (kX (c179 K) kN)
def F125 (K : Nat) (x : Unit) : Option (List (List UInt8)) :=
  bindO (F179 K ([98, 32, 99, 32, 100, 32, 101, 32, 104, 32, 108, 32, 91, 104, 108, 93, 32, 97] : List UInt8)) fun v0 =>
  some v0
def ct125 (K : Nat) : Ct := ⟨[], [], [.l (.v (.l .s))], [], [], F125 K⟩
theorem c125 (K : Nat) : CtOk prog 125 (ct125 K) :=
  cmk (K := K) (an := (sN .no)) func125 (kX (c179 K) kN)
def F182 (K : Nat) (x : Int) : Option (List UInt8) :=
  bindO (F133d K (x, 10)) fun v0 =>
  some v0
def ct182 (K : Nat) : Ct := ⟨[.l i6], [], [.l (.v .s)], [], [], F182 K⟩
theorem c182 (K : Nat) : CtOk prog 182 (ct182 K) :=
  cmk (K := K) (an := (sN .no)) func182 (kX (c133h K) (kX (c133d K) kN))
def F121 (K : Nat) (x : Int × Int × Int) : Option (List UInt8) :=
  branch (decide (x.1 = 0))
   (bindO (F181 K ()) fun v0 =>
   nth v0 x.2.1 fun v1 =>
   guard (decide ((v1.length + 1) ≤ 9223372036854775807)) <|
   bindO (F125 K ()) fun v2 =>
   nth v2 x.2.2 fun v3 =>
   guard (decide ((((v1 ++ ([32] : List UInt8)).length) + v3.length) ≤ 9223372036854775807)) <|
   some ((v1 ++ ([32] : List UInt8)) ++ v3))
   (bindO (F179 K ([98, 105, 116, 32, 114, 101, 115, 32, 115, 101, 116] : List UInt8)) fun v4 =>
   nth v4 (w64 (x.1 - 1)) fun v5 =>
   guard (decide ((v5.length + 1) ≤ 9223372036854775807)) <|
   bindO (F182 K x.2.1) fun v6 =>
   guard (decide ((((v5 ++ ([32] : List UInt8)).length) + v6.length) ≤ 9223372036854775807)) <|
   guard (decide (((((v5 ++ ([32] : List UInt8)) ++ v6).length) + 1) ≤ 9223372036854775807)) <|
   bindO (F125 K ()) fun v7 =>
   nth v7 x.2.2 fun v8 =>
   guard (decide ((((((v5 ++ ([32] : List UInt8)) ++ v6) ++ ([44] : List UInt8)).length) + v8.length) ≤ 9223372036854775807)) <|
   some ((((v5 ++ ([32] : List UInt8)) ++ v6) ++ ([44] : List UInt8)) ++ v8))
def ct121 (K : Nat) : Ct := ⟨[.l i6, .l i6, .l i6], [], [.l (.v .s)], [], [], F121 K⟩
theorem c121 (K : Nat) : CtOk prog 121 (ct121 K) :=
  cmk (K := K) (an := (sN (.seq (sN (.cond .no .no)) .no))) func121 (kX (c179 K) (kX (c181 K) (kX (c125 K) (kX (c182 K) kN))))
def F183 (K : Nat) (x : Unit) : Option (List (List UInt8)) :=
  bindO (F179 K ([110, 122, 32, 122, 32, 110, 99, 32, 99] : List UInt8)) fun v0 =>
  some v0
def ct183 (K : Nat) : Ct := ⟨[], [], [.l (.v (.l .s))], [], [], F183 K⟩
theorem c183 (K : Nat) : CtOk prog 183 (ct183 K) :=
  cmk (K := K) (an := (sN .no)) func183 (kX (c179 K) kN)
def F184 (K : Nat) (x : Unit) : Option (List (List UInt8)) :=
  bindO (F179 K ([98, 99, 32, 100, 101, 32, 104, 108, 32, 115, 112] : List UInt8)) fun v0 =>
  some v0
def ct184 (K : Nat) : Ct := ⟨[], [], [.l (.v (.l .s))], [], [], F184 K⟩
theorem c184 (K : Nat) : CtOk prog 184 (ct184 K) :=
  cmk (K := K) (an := (sN .no)) func184 (kX (c179 K) kN)
def F122 (K : Nat) (x : Int × Int) : Option (List UInt8) :=
  bindO (α := (List UInt8) ⊕ Int) (branch (decide (x.2 = 0))
     (branch (decide (4 ≤ x.1))
      (bindO (F183 K ()) fun v0 =>
      nth v0 (w64 (x.1 - 4)) fun v1 =>
      guard (decide ((3 + v1.length) ≤ 9223372036854775807)) <|
      guard (decide ((((([106, 114, 32] : List UInt8) ++ v1).length) + 3) ≤ 9223372036854775807)) <|
      some (.inl ((([106, 114, 32] : List UInt8) ++ v1) ++ ([44, 101, 56] : List UInt8))))
      (guard (decide (0 ≤ x.1 ∧ x.1 < (4 : Int))) <|
      nthN [([110, 111, 112] : List UInt8), ([108, 100, 32, 91, 110, 49, 54, 93, 44, 115, 112] : List UInt8), ([115, 116, 111, 112, 32, 110, 56] : List UInt8), ([106, 114, 32, 101, 56] : List UInt8)] x.1.toNat fun v2 =>
      some (.inl v2)))
     (branch (decide (x.2 = 1))
      (branch (decide ((Int.tmod x.1 2) = 0))
       (bindO (F184 K ()) fun v3 =>
       nth v3 (w64 (Int.tdiv x.1 2)) fun v4 =>
       guard (decide ((3 + v4.length) ≤ 9223372036854775807)) <|
       guard (decide ((((([108, 100, 32] : List UInt8) ++ v4).length) + 4) ≤ 9223372036854775807)) <|
       some (.inl ((([108, 100, 32] : List UInt8) ++ v4) ++ ([44, 110, 49, 54] : List UInt8))))
       (bindO (F184 K ()) fun v5 =>
       nth v5 (w64 (Int.tdiv x.1 2)) fun v6 =>
       guard (decide ((7 + v6.length) ≤ 9223372036854775807)) <|
       some (.inl (([97, 100, 100, 32, 104, 108, 44] : List UInt8) ++ v6))))
      (branch (decide (x.2 = 2))
       (bindO (F179 K ([91, 98, 99, 93, 32, 91, 100, 101, 93, 32, 91, 104, 108, 43, 93, 32, 91, 104, 108, 45, 93] : List UInt8)) fun v7 =>
       nth v7 (w64 (Int.tdiv x.1 2)) fun v8 =>
       branch (decide ((Int.tmod x.1 2) = 0))
        (guard (decide ((3 + v8.length) ≤ 9223372036854775807)) <|
        guard (decide ((((([108, 100, 32] : List UInt8) ++ v8).length) + 2) ≤ 9223372036854775807)) <|
        some (.inl ((([108, 100, 32] : List UInt8) ++ v8) ++ ([44, 97] : List UInt8))))
        (guard (decide ((5 + v8.length) ≤ 9223372036854775807)) <|
        some (.inl (([108, 100, 32, 97, 44] : List UInt8) ++ v8))))
       (branch (decide (x.2 = 3))
        (bindO (F179 K ([105, 110, 99, 32, 100, 101, 99] : List UInt8)) fun v9 =>
        nth v9 (Int.tmod x.1 2) fun v10 =>
        guard (decide ((v10.length + 1) ≤ 9223372036854775807)) <|
        bindO (F184 K ()) fun v11 =>
        nth v11 (w64 (Int.tdiv x.1 2)) fun v12 =>
        guard (decide ((((v10 ++ ([32] : List UInt8)).length) + v12.length) ≤ 9223372036854775807)) <|
        some (.inl ((v10 ++ ([32] : List UInt8)) ++ v12)))
        (bindO (α := Int × Int × Int × Bool) (branch (decide (x.2 = 4))
           (some (x.1, x.2, x.2, true))
           (some (x.1, x.2, x.2, decide (x.2 = 5)))) fun v13 =>
        branch v13.2.2.2
         (bindO (F179 K ([105, 110, 99, 32, 100, 101, 99] : List UInt8)) fun v14 =>
         nth v14 (w64 (v13.2.1 - 4)) fun v15 =>
         guard (decide ((v15.length + 1) ≤ 9223372036854775807)) <|
         bindO (F125 K ()) fun v16 =>
         nth v16 v13.1 fun v17 =>
         guard (decide ((((v15 ++ ([32] : List UInt8)).length) + v17.length) ≤ 9223372036854775807)) <|
         some (.inl ((v15 ++ ([32] : List UInt8)) ++ v17)))
         (branch (decide (v13.2.2.1 = 6))
          (bindO (F125 K ()) fun v18 =>
          nth v18 v13.1 fun v19 =>
          guard (decide ((3 + v19.length) ≤ 9223372036854775807)) <|
          guard (decide ((((([108, 100, 32] : List UInt8) ++ v19).length) + 3) ≤ 9223372036854775807)) <|
          some (.inl ((([108, 100, 32] : List UInt8) ++ v19) ++ ([44, 110, 56] : List UInt8))))
          (some (.inr v13.1)))))))) fun v20 =>
  csO v20
   (fun v21 => some v21)
   (fun v22 => bindO (F179 K ([114, 108, 99, 97, 32, 114, 114, 99, 97, 32, 114, 108, 97, 32, 114, 114, 97, 32, 100, 97, 97, 32, 99, 112, 108, 32, 115, 99, 102, 32, 99, 99, 102] : List UInt8)) fun v23 =>
   nth v23 v22 fun v24 =>
   some v24)
def ct122 (K : Nat) : Ct := ⟨[.l i6, .l i6], [], [.l (.v .s)], [], [], F122 K⟩
theorem c122 (K : Nat) : CtOk prog 122 (ct122 K) :=
  cmk (K := K) (an := (sN (sN (.seqJ [(1000000, ⟨(.l i6 :: ru 93 []), []⟩)] true (sN (.blk (sN (.cond (.seq (sN (.cond .no .no)) .no) (sN (.cond (.seq (sN (.cond .no .no)) .no) (sN (.cond (sN (.seq (sN (.cond .no .no)) .no)) (sN (.cond .no (.seqJ [(1000000, ⟨(.l i6 :: .l i6 :: ru 10 (.l i6 :: ru 55 (.l (.v .b) :: ru 25 []))), []⟩)] false (sN .no) (.cond .no (sN (.cond .no .no)))))))))))))) .no)))) func122 (kX (c179 K) (kX (c125 K) (kX (c183 K) (kX (c184 K) kN))))
def F124 (K : Nat) (x : Unit) : Option (List (List UInt8)) :=
  bindO (F179 K ([97, 100, 100, 32, 97, 100, 99, 32, 115, 117, 98, 32, 115, 98, 99, 32, 97, 110, 100, 32, 120, 111, 114, 32, 111, 114, 32, 99, 112] : List UInt8)) fun v0 =>
  some v0
def ct124 (K : Nat) : Ct := ⟨[], [], [.l (.v (.l .s))], [], [], F124 K⟩
theorem c124 (K : Nat) : CtOk prog 124 (ct124 K) :=
  cmk (K := K) (an := (sN .no)) func124 (kX (c179 K) kN)
def F63 (K : Nat) (x : Int) : Option (Bool) :=
  bindO (F54 K (x, 0, 65535)) fun v0 =>
  some v0
def ct63 (K : Nat) : Ct := ⟨[.l i6], [], [.l (.v .b)], [], [], F63 K⟩
theorem c63 (K : Nat) : CtOk prog 63 (ct63 K) :=
  cmk (K := K) (an := (sN .no)) func63 (kX (c54 K) kN)
def F97 (K : Nat) (x : Int × Int) : Option (List UInt8) :=
  bindO (F133h K (x.1, 16)) fun v0 =>
  bindO (F132 K v0) fun v1 =>
  bindO (F104 K (([48] : List UInt8), mxI 0 (w64 (x.2 - (v1.length : Int))))) fun v2 =>
  guard (decide ((v2.length + v1.length) ≤ 9223372036854775807)) <|
  some (v2 ++ v1)
def ct97 (K : Nat) : Ct := ⟨[.l i6, .l i6], [], [.l (.v .s)], [], [], F97 K⟩
theorem c97 (K : Nat) : CtOk prog 97 (ct97 K) :=
  cmk (K := K) (an := (sN (sN .no))) func97 (kX (c132 K) (kX (c104 K) (kX (c133h K) (kX (c133d K) kN))))
def F185 (K : Nat) (x : Int × Int) : Option (List UInt8) :=
  bindO (α := (List UInt8) ⊕ (Int × Int)) (bindO (α := Int × Int × Bool) (bindO (F54 K (x.2, 1, 4)) fun v0 =>
      branch (!v0)
       (some (x.1, x.2, true))
       (bindO (F63 K x.1) fun v1 =>
       branch (!v1)
        (some (x.1, x.2, true))
        (guard (decide (0 ≤ (w64 (4 * x.2)))) <|
        some (x.1, x.2, decide (0 < (shrI Go.IntKind.i64 x.1 (w64 (4 * x.2)))))))) fun v2 =>
    branch v2.2.2
     (some (.inl []))
     (some (.inr (v2.1, v2.2.1)))) fun v3 =>
  csO v3
   (fun v4 => some v4)
   (fun v5 => bindO (F97 K v5) fun v6 =>
   guard (decide ((1 + v6.length) ≤ 9223372036854775807)) <|
   some (([36] : List UInt8) ++ v6))
def ct185 (K : Nat) : Ct := ⟨[.l i6, .l i6], [], [.l (.v .s)], [], [], F185 K⟩
theorem c185 (K : Nat) : CtOk prog 185 (ct185 K) :=
  cmk (K := K) (an := (sN (.seqJ [(1000000, ⟨(.l i6 :: .l i6 :: ru 22 []), []⟩)] true (.seqJ [(1000000, ⟨(.l i6 :: .l i6 :: ru 17 (.l (.v .b) :: ru 4 [])), []⟩)] false .no (.cond .no .no)) .no))) func185 (kX (c54 K) (kX (c63 K) (kX (c97 K) kN)))
def F123 (K : Nat) (x : Int × Int) : Option (List UInt8) :=
  bindO (F179 K ([98, 99, 32, 100, 101, 32, 104, 108, 32, 97, 102] : List UInt8)) fun v0 =>
  nth v0 (w64 (Int.tdiv x.1 2)) fun v1 =>
  bindO (α := Int × Int × Int × Int × (List UInt8) × Bool) (branch (decide (x.2 = 0))
     (some (x.1, x.2, w64 (Int.tdiv x.1 2), Int.tmod x.1 2, v1, decide (x.1 < 4)))
     (some (x.1, x.2, w64 (Int.tdiv x.1 2), Int.tmod x.1 2, v1, false))) fun v2 =>
  branch v2.2.2.2.2.2
   (bindO (F183 K ()) fun v3 =>
   nth v3 v2.1 fun v4 =>
   guard (decide ((4 + v4.length) ≤ 9223372036854775807)) <|
   some (([114, 101, 116, 32] : List UInt8) ++ v4))
   (branch (decide (v2.2.1 = 0))
    (guard (decide (0 ≤ (w64 (v2.1 - 4)) ∧ (w64 (v2.1 - 4)) < (4 : Int))) <|
    nthN [([108, 100, 104, 32, 91, 110, 56, 93, 44, 97] : List UInt8), ([97, 100, 100, 32, 115, 112, 44, 101, 56] : List UInt8), ([108, 100, 104, 32, 97, 44, 91, 110, 56, 93] : List UInt8), ([108, 100, 32, 104, 108, 44, 115, 112, 43, 101, 56] : List UInt8)] ((w64 (v2.1 - 4)).toNat) fun v5 =>
    some v5)
    (bindO (α := Int × Int × Int × Int × (List UInt8) × Bool) (branch (decide (v2.2.1 = 1))
       (some (v2.1, v2.2.1, v2.2.2.1, v2.2.2.2.1, v2.2.2.2.2.1, decide (v2.2.2.2.1 = 0)))
       (some (v2.1, v2.2.1, v2.2.2.1, v2.2.2.2.1, v2.2.2.2.2.1, false))) fun v6 =>
    branch v6.2.2.2.2.2
     (guard (decide ((4 + v6.2.2.2.2.1.length) ≤ 9223372036854775807)) <|
     some (([112, 111, 112, 32] : List UInt8) ++ v6.2.2.2.2.1))
     (branch (decide (v6.2.1 = 1))
      (guard (decide (0 ≤ v6.2.2.1 ∧ v6.2.2.1 < (4 : Int))) <|
      nthN [([114, 101, 116] : List UInt8), ([114, 101, 116, 105] : List UInt8), ([106, 112, 32, 104, 108] : List UInt8), ([108, 100, 32, 115, 112, 44, 104, 108] : List UInt8)] v6.2.2.1.toNat fun v7 =>
      some v7)
      (bindO (α := Int × Int × Int × (List UInt8) × Bool) (branch (decide (v6.2.1 = 2))
         (some (v6.1, v6.2.1, v6.2.2.2.1, v6.2.2.2.2.1, decide (v6.1 < 4)))
         (some (v6.1, v6.2.1, v6.2.2.2.1, v6.2.2.2.2.1, false))) fun v8 =>
      branch v8.2.2.2.2
       (bindO (F183 K ()) fun v9 =>
       nth v9 v8.1 fun v10 =>
       guard (decide ((3 + v10.length) ≤ 9223372036854775807)) <|
       guard (decide ((((([106, 112, 32] : List UInt8) ++ v10).length) + 4) ≤ 9223372036854775807)) <|
       some ((([106, 112, 32] : List UInt8) ++ v10) ++ ([44, 110, 49, 54] : List UInt8)))
       (branch (decide (v8.2.1 = 2))
        (guard (decide (0 ≤ (w64 (v8.1 - 4)) ∧ (w64 (v8.1 - 4)) < (4 : Int))) <|
        nthN [([108, 100, 104, 32, 91, 99, 93, 44, 97] : List UInt8), ([108, 100, 32, 91, 110, 49, 54, 93, 44, 97] : List UInt8), ([108, 100, 104, 32, 97, 44, 91, 99, 93] : List UInt8), ([108, 100, 32, 97, 44, 91, 110, 49, 54, 93] : List UInt8)] ((w64 (v8.1 - 4)).toNat) fun v11 =>
        some v11)
        (bindO (α := Int × Int × Int × (List UInt8) × Bool) (branch (decide (v8.2.1 = 3))
           (some (v8.1, v8.2.1, v8.2.2.1, v8.2.2.2.1, decide (v8.1 = 0)))
           (some (v8.1, v8.2.1, v8.2.2.1, v8.2.2.2.1, false))) fun v12 =>
        branch v12.2.2.2.2
         (some ([106, 112, 32, 110, 49, 54] : List UInt8))
         (bindO (α := Int × Int × Int × (List UInt8) × Bool) (branch (decide (v12.2.1 = 3))
            (some (v12.1, v12.2.1, v12.2.2.1, v12.2.2.2.1, decide (v12.1 = 6)))
            (some (v12.1, v12.2.1, v12.2.2.1, v12.2.2.2.1, false))) fun v13 =>
         branch v13.2.2.2.2
          (some ([100, 105] : List UInt8))
          (bindO (α := Int × Int × Int × (List UInt8) × Bool) (branch (decide (v13.2.1 = 3))
             (some (v13.1, v13.2.1, v13.2.2.1, v13.2.2.2.1, decide (v13.1 = 7)))
             (some (v13.1, v13.2.1, v13.2.2.1, v13.2.2.2.1, false))) fun v14 =>
          branch v14.2.2.2.2
           (some ([101, 105] : List UInt8))
           (bindO (α := Int × Int × Int × (List UInt8) × Bool) (branch (decide (v14.2.1 = 4))
              (some (v14.1, v14.2.1, v14.2.2.1, v14.2.2.2.1, decide (v14.1 < 4)))
              (some (v14.1, v14.2.1, v14.2.2.1, v14.2.2.2.1, false))) fun v15 =>
           branch v15.2.2.2.2
            (bindO (F183 K ()) fun v16 =>
            nth v16 v15.1 fun v17 =>
            guard (decide ((5 + v17.length) ≤ 9223372036854775807)) <|
            guard (decide ((((([99, 97, 108, 108, 32] : List UInt8) ++ v17).length) + 4) ≤ 9223372036854775807)) <|
            some ((([99, 97, 108, 108, 32] : List UInt8) ++ v17) ++ ([44, 110, 49, 54] : List UInt8)))
            (bindO (α := Int × Int × (List UInt8) × Bool) (branch (decide (v15.2.1 = 5))
               (some (v15.1, v15.2.1, v15.2.2.2.1, decide (v15.2.2.1 = 0)))
               (some (v15.1, v15.2.1, v15.2.2.2.1, false))) fun v18 =>
            branch v18.2.2.2
             (guard (decide ((5 + v18.2.2.1.length) ≤ 9223372036854775807)) <|
             some (([112, 117, 115, 104, 32] : List UInt8) ++ v18.2.2.1))
             (bindO (α := Int × Int × Bool) (branch (decide (v18.2.1 = 5))
                (some (v18.1, v18.2.1, decide (v18.1 = 1)))
                (some (v18.1, v18.2.1, false))) fun v19 =>
             branch v19.2.2
              (some ([99, 97, 108, 108, 32, 110, 49, 54] : List UInt8))
              (branch (decide (v19.2.1 = 6))
               (bindO (F124 K ()) fun v20 =>
               nth v20 v19.1 fun v21 =>
               guard (decide ((v21.length + 5) ≤ 9223372036854775807)) <|
               some (v21 ++ ([32, 97, 44, 110, 56] : List UInt8)))
               (branch (decide (v19.2.1 = 7))
                (bindO (F185 K (w64 (8 * v19.1), 2)) fun v22 =>
                guard (decide ((4 + v22.length) ≤ 9223372036854775807)) <|
                some (([114, 115, 116, 32] : List UInt8) ++ v22))
                (some []))))))))))))))
def ct123 (K : Nat) : Ct := ⟨[.l i6, .l i6], [], [.l (.v .s)], [], [], F123 K⟩
theorem c123 (K : Nat) : CtOk prog 123 (ct123 K) :=
  cmk (K := K) (an := (sN (sN (sN (.seq (.blk (.seqJ [(1000000, ⟨(.l i6 :: .l i6 :: ru 3 (.l i6 :: .l i6 :: .l (.v .s) :: ru 8 (.l (.v .b) :: ru 121 []))), []⟩)] false .no (.cond .no (sN (.cond .no (.seqJ [(1000000, ⟨(.l i6 :: .l i6 :: ru 3 (.l i6 :: .l i6 :: .l (.v .s) :: ru 28 (.l (.v .b) :: ru 101 []))), []⟩)] false .no (.cond .no (sN (.cond .no (.seqJ [(1000000, ⟨(.l i6 :: .l i6 :: ru 4 (.l i6 :: .l (.v .s) :: ru 44 (.l (.v .b) :: ru 85 []))), []⟩)] false .no (.cond .no (sN (.cond .no (.seqJ [(1000000, ⟨(.l i6 :: .l i6 :: ru 4 (.l i6 :: .l (.v .s) :: ru 65 (.l (.v .b) :: ru 64 []))), []⟩)] false .no (.cond .no (.seqJ [(1000000, ⟨(.l i6 :: .l i6 :: ru 4 (.l i6 :: .l (.v .s) :: ru 72 (.l (.v .b) :: ru 57 []))), []⟩)] false .no (.cond .no (.seqJ [(1000000, ⟨(.l i6 :: .l i6 :: ru 4 (.l i6 :: .l (.v .s) :: ru 79 (.l (.v .b) :: ru 50 []))), []⟩)] false .no (.cond .no (.seqJ [(1000000, ⟨(.l i6 :: .l i6 :: ru 4 (.l i6 :: .l (.v .s) :: ru 86 (.l (.v .b) :: ru 43 []))), []⟩)] false .no (.cond .no (.seqJ [(1000000, ⟨(.l i6 :: .l i6 :: ru 5 (.l (.v .s) :: ru 99 (.l (.v .b) :: ru 30 []))), []⟩)] false .no (.cond .no (.seqJ [(1000000, ⟨(.l i6 :: .l i6 :: ru 114 (.l (.v .b) :: ru 21 [])), []⟩)] false .no (.cond .no (sN (.cond .no (sN (.cond .no .no))))))))))))))))))))))))))))) .no))))) func123 (kX (c179 K) (kX (c183 K) (kX (c124 K) (kX (c185 K) kN))))
def F66 (K : Nat) (x : Int × Bool) : Option (List UInt8) :=
  bindO (F80 K x.1) fun v0 =>
  branch (!v0)
   (some [])
   (branch x.2
    (bindO (F121 K (w64 (Int.tdiv x.1 64), Int.tmod (w64 (Int.tdiv x.1 8)) 8, Int.tmod x.1 8)) fun v1 =>
    some v1)
    (branch (decide ((w64 (Int.tdiv x.1 64)) = 0))
     (bindO (F122 K (Int.tmod (w64 (Int.tdiv x.1 8)) 8, Int.tmod x.1 8)) fun v2 =>
     some v2)
     (branch (decide ((w64 (Int.tdiv x.1 64)) = 3))
      (bindO (F123 K (Int.tmod (w64 (Int.tdiv x.1 8)) 8, Int.tmod x.1 8)) fun v3 =>
      some v3)
      (branch (decide ((w64 (Int.tdiv x.1 64)) = 2))
       (bindO (F124 K ()) fun v4 =>
       nth v4 (Int.tmod (w64 (Int.tdiv x.1 8)) 8) fun v5 =>
       guard (decide ((v5.length + 3) ≤ 9223372036854775807)) <|
       bindO (F125 K ()) fun v6 =>
       nth v6 (Int.tmod x.1 8) fun v7 =>
       guard (decide ((((v5 ++ ([32, 97, 44] : List UInt8)).length) + v7.length) ≤ 9223372036854775807)) <|
       some ((v5 ++ ([32, 97, 44] : List UInt8)) ++ v7))
       (branch (decide (x.1 = 118))
        (some ([104, 97, 108, 116] : List UInt8))
        (bindO (F125 K ()) fun v8 =>
        nth v8 (Int.tmod (w64 (Int.tdiv x.1 8)) 8) fun v9 =>
        guard (decide ((3 + v9.length) ≤ 9223372036854775807)) <|
        guard (decide ((((([108, 100, 32] : List UInt8) ++ v9).length) + 1) ≤ 9223372036854775807)) <|
        bindO (F125 K ()) fun v10 =>
        nth v10 (Int.tmod x.1 8) fun v11 =>
        guard (decide (((((([108, 100, 32] : List UInt8) ++ v9) ++ ([44] : List UInt8)).length) + v11.length) ≤ 9223372036854775807)) <|
        some (((([108, 100, 32] : List UInt8) ++ v9) ++ ([44] : List UInt8)) ++ v11)))))))
def ct66 (K : Nat) : Ct := ⟨[.l i6, .l (.v .b)], [], [.l (.v .s)], [], [], F66 K⟩
theorem c66 (K : Nat) : CtOk prog 66 (ct66 K) :=
  cmk (K := K) (an := (sN (.seq (sN (.cond .no .no)) (sN (.seq (.blk (sN (.cond .no (sN (.cond .no (sN (.cond .no (sN (.cond .no (sN (.cond .no .no))))))))))) .no))))) func66 (kX (c80 K) (kX (c125 K) (kX (c121 K) (kX (c122 K) (kX (c124 K) (kX (c123 K) kN))))))
def F120_b0 (K : Nat) (x : (List UInt8) × (List (List UInt8)) × Int × Int) : Option (((List UInt8) × (List (List UInt8)) × Int × Int) ⊕ ((List UInt8) ⊕ Unit)) :=
  branch (decide (x.2.2.2 < x.2.2.1))
   (nth x.2.1 x.2.2.2 fun v0 =>
   bindO (F180 K (x.1, v0)) fun v1 =>
   branch v1
    (some (.inr (.inl v0)))
    (some (.inl (x.1, x.2.1, x.2.2.1, w64 (x.2.2.2 + 1)))))
   (some (.inr (.inr ())))
def F120 (K : Nat) (x : List UInt8) : Option (List UInt8) :=
  bindO (F179 K ([110, 49, 54, 32, 110, 56, 32, 101, 56] : List UInt8)) fun v0 =>
  bindO (iter K (F120_b0 K) (x, v0, (v0.length : Int), 0)) fun v1 =>
  csO v1
   (fun v2 => some v2)
   (fun v3 => some [])
def ct120 (K : Nat) : Ct := ⟨[.l (.v .s)], [], [.l (.v .s)], [], [], F120 K⟩
theorem c120 (K : Nat) : CtOk prog 120 (ct120 K) :=
  cmk (K := K) (an := (sN (.seq (sN (.blk (.loop [] ⟨(.l (.v .s) :: ru 4 (.l (.v (.l .s)) :: .l i6 :: .l i6 :: ru 8 [])), []⟩ [(0, ⟨(ru 16 []), []⟩)] true (sN (sN (.seq (.blk (sN (sN (.cond .no .no)))) .no)))))) .no))) func120 (kX (c180 K) (kX (c179 K) kN))
def F65 (K : Nat) (x : Int × Bool) : Option (Int) :=
  bindO (F66 K x) fun v0 =>
  bindO (F120 K v0) fun v1 =>
  branch (decide (v0 = []))
   (some 0)
   (bindO (α := (List UInt8) × Bool) (branch x.2
      (some (v1, true))
      (branch (decide (v1 = ([110, 56] : List UInt8)))
       (some (v1, true))
       (some (v1, decide (v1 = ([101, 56] : List UInt8)))))) fun v2 =>
   branch v2.2
    (some 2)
    (branch (decide (v2.1 = ([110, 49, 54] : List UInt8)))
     (some 3)
     (some 1)))
def ct65 (K : Nat) : Ct := ⟨[.l i6, .l (.v .b)], [], [.l i6], [], [], F65 K⟩
theorem c65 (K : Nat) : CtOk prog 65 (ct65 K) :=
  cmk (K := K) (an := (sN (sN (.seq (sN (.blk (sN (.cond .no (.seqJ [(1000000, ⟨(ru 6 (.l (.v .s) :: ru 8 (.l (.v .b) :: ru 12 []))), []⟩)] false .no (.cond .no (sN (.cond .no .no)))))))) .no)))) func65 (kX (c66 K) (kX (c120 K) kN))
def F67 (K : Nat) (x : Bool × Int × Int) : Option (Int) :=
  branch x.1
   (some x.2.1)
   (some x.2.2)
def ct67 (K : Nat) : Ct := ⟨[.l (.v .b), .l i6, .l i6], [], [.l i6], [], [], F67 K⟩
theorem c67 (K : Nat) : CtOk prog 67 (ct67 K) :=
  cmk (K := K) (an := (sN (.seq (sN (.cond .no .no)) .no))) func67 kN
def F68 (K : Nat) (x : Int × Int × Bool) : Option (Int) :=
  branch (decide (x.2.1 = 0))
   (branch (decide (4 ≤ x.1))
    (bindO (F67 K (x.2.2, 3, 2)) fun v0 =>
    some v0)
    (guard (decide (0 ≤ x.1 ∧ x.1 < (4 : Int))) <|
    nthN [1, 5, 1, 3] x.1.toNat fun v1 =>
    some v1))
   (branch (decide (x.2.1 = 1))
    (bindO (F67 K (decide ((Int.tmod x.1 2) = 0), 3, 2)) fun v2 =>
    some v2)
    (bindO (α := Int × Int × Bool) (branch (decide (x.2.1 = 2))
       (some (x.1, x.2.1, true))
       (some (x.1, x.2.1, decide (x.2.1 = 3)))) fun v3 =>
    branch v3.2.2
     (some 2)
     (bindO (α := Int × Int × Bool) (branch (decide (v3.2.1 = 4))
        (some (v3.1, v3.2.1, true))
        (some (v3.1, v3.2.1, decide (v3.2.1 = 5)))) fun v4 =>
     branch v4.2.2
      (bindO (F67 K (decide (v4.1 = 6), 3, 1)) fun v5 =>
      some v5)
      (branch (decide (v4.2.1 = 6))
       (bindO (F67 K (decide (v4.1 = 6), 3, 2)) fun v6 =>
       some v6)
       (some 1)))))
def ct68 (K : Nat) : Ct := ⟨[.l i6, .l i6, .l (.v .b)], [], [.l i6], [], [], F68 K⟩
theorem c68 (K : Nat) : CtOk prog 68 (ct68 K) :=
  cmk (K := K) (an := (sN (.seq (sN (.blk (sN (.cond (.seq (sN (.cond .no .no)) .no) (sN (.cond .no (.seqJ [(1000000, ⟨(.l i6 :: ru 6 (.l i6 :: ru 16 (.l (.v .b) :: ru 13 []))), []⟩)] false (sN .no) (.cond .no (.seqJ [(1000000, ⟨(.l i6 :: ru 6 (.l i6 :: ru 19 (.l (.v .b) :: ru 10 []))), []⟩)] false (sN .no) (.cond .no (sN (.cond .no .no)))))))))))) .no))) func68 (kX (c67 K) kN)
def F69 (K : Nat) (x : Int × Int × Bool) : Option (Int) :=
  bindO (α := Int × Int × Bool × Bool) (branch (decide (x.2.1 = 0))
     (some (x.1, x.2.1, x.2.2, decide (x.1 < 4)))
     (some (x.1, x.2.1, x.2.2, false))) fun v0 =>
  branch v0.2.2.2
   (bindO (F67 K (v0.2.2.1, 5, 2)) fun v1 =>
   some v1)
   (branch (decide (v0.2.1 = 0))
    (guard (decide (0 ≤ (w64 (v0.1 - 4)) ∧ (w64 (v0.1 - 4)) < (4 : Int))) <|
    nthN [3, 4, 3, 3] ((w64 (v0.1 - 4)).toNat) fun v2 =>
    some v2)
    (bindO (α := Int × Int × Bool × Bool) (branch (decide (v0.2.1 = 1))
       (some (v0.1, v0.2.1, v0.2.2.1, decide ((Int.tmod v0.1 2) = 0)))
       (some (v0.1, v0.2.1, v0.2.2.1, false))) fun v3 =>
    branch v3.2.2.2
     (some 3)
     (branch (decide (v3.2.1 = 1))
      (guard (decide (0 ≤ (w64 (Int.tdiv v3.1 2)) ∧ (w64 (Int.tdiv v3.1 2)) < (4 : Int))) <|
      nthN [4, 4, 1, 2] ((w64 (Int.tdiv v3.1 2)).toNat) fun v4 =>
      some v4)
      (bindO (α := Int × Int × Bool × Bool) (branch (decide (v3.2.1 = 2))
         (some (v3.1, v3.2.1, v3.2.2.1, decide (v3.1 < 4)))
         (some (v3.1, v3.2.1, v3.2.2.1, false))) fun v5 =>
      branch v5.2.2.2
       (bindO (F67 K (v5.2.2.1, 4, 3)) fun v6 =>
       some v6)
       (branch (decide (v5.2.1 = 2))
        (guard (decide (0 ≤ (w64 (v5.1 - 4)) ∧ (w64 (v5.1 - 4)) < (4 : Int))) <|
        nthN [2, 4, 2, 4] ((w64 (v5.1 - 4)).toNat) fun v7 =>
        some v7)
        (branch (decide (v5.2.1 = 3))
         (bindO (F67 K (decide (v5.1 = 0), 4, 1)) fun v8 =>
         some v8)
         (branch (decide (v5.2.1 = 4))
          (bindO (F67 K (v5.2.2.1, 6, 3)) fun v9 =>
          some v9)
          (branch (decide (v5.2.1 = 5))
           (bindO (F67 K (decide ((Int.tmod v5.1 2) = 0), 4, 6)) fun v10 =>
           some v10)
           (branch (decide (v5.2.1 = 6))
            (some 2)
            (some 4))))))))))
def ct69 (K : Nat) : Ct := ⟨[.l i6, .l i6, .l (.v .b)], [], [.l i6], [], [], F69 K⟩
theorem c69 (K : Nat) : CtOk prog 69 (ct69 K) :=
  cmk (K := K) (an := (sN (.seq (.blk (.seqJ [(1000000, ⟨(.l i6 :: .l i6 :: .l (.v .b) :: ru 4 (.l (.v .b) :: ru 70 [])), []⟩)] false .no (.cond .no (sN (.cond .no (.seqJ [(1000000, ⟨(.l i6 :: .l i6 :: .l (.v .b) :: ru 21 (.l (.v .b) :: ru 53 [])), []⟩)] false .no (.cond .no (sN (.cond .no (.seqJ [(1000000, ⟨(.l i6 :: .l i6 :: .l (.v .b) :: ru 37 (.l (.v .b) :: ru 37 [])), []⟩)] false .no (.cond .no (sN (.cond .no (sN (.cond .no (sN (.cond .no (sN (.cond .no (sN (.cond .no .no))))))))))))))))))))) .no))) func69 (kX (c67 K) kN)
def F26 (K : Nat) (x : Int × Bool × Bool) : Option (Int) :=
  bindO (F66 K (x.1, x.2.1)) fun v0 =>
  branch (decide (v0 = []))
   (some 0)
   (bindO (α := Int ⊕ (Int × Int)) (bindO (α := Int × Bool × Bool × Int × Int × Int × Bool) (branch x.2.1
        (some (x.1, x.2.1, x.2.2, w64 (Int.tdiv x.1 64), Int.tmod (w64 (Int.tdiv x.1 8)) 8, Int.tmod x.1 8, !(decide ((Int.tmod x.1 8) = 6))))
        (some (x.1, x.2.1, x.2.2, w64 (Int.tdiv x.1 64), Int.tmod (w64 (Int.tdiv x.1 8)) 8, Int.tmod x.1 8, false))) fun v1 =>
     branch v1.2.2.2.2.2.2
      (some (.inl 2))
      (branch v1.2.1
       (bindO (F67 K (decide (v1.2.2.2.1 = 1), 3, 4)) fun v2 =>
       some (.inl v2))
       (branch (decide (v1.2.2.2.1 = 0))
        (bindO (F68 K (v1.2.2.2.2.1, v1.2.2.2.2.2.1, v1.2.2.1)) fun v3 =>
        some (.inl v3))
        (branch (decide (v1.2.2.2.1 = 3))
         (bindO (F69 K (v1.2.2.2.2.1, v1.2.2.2.2.2.1, v1.2.2.1)) fun v4 =>
         some (.inl v4))
         (branch (decide (v1.1 = 118))
          (some (.inl 1))
          (branch (decide (v1.2.2.2.1 = 2))
           (bindO (F67 K (decide (v1.2.2.2.2.2.1 = 6), 2, 1)) fun v5 =>
           some (.inl v5))
           (some (.inr (v1.2.2.2.2.1, v1.2.2.2.2.2.1))))))))) fun v6 =>
   csO v6
    (fun v7 => some v7)
    (fun v8 => branch (decide (v8.1 = 6))
     (bindO (F67 K (true, 2, 1)) fun v9 =>
     some v9)
     (bindO (F67 K (decide (v8.2 = 6), 2, 1)) fun v10 =>
     some v10)))
def ct26 (K : Nat) : Ct := ⟨[.l i6, .l (.v .b), .l (.v .b)], [], [.l i6], [], [], F26 K⟩
theorem c26 (K : Nat) : CtOk prog 26 (ct26 K) :=
  cmk (K := K) (an := (sN (.seq (sN (.cond .no .no)) (sN (.seqJ [(1000000, ⟨(ru 8 (.l i6 :: .l i6 :: ru 52 [])), []⟩)] true (.blk (.seqJ [(1000000, ⟨(.l i6 :: .l (.v .b) :: .l (.v .b) :: ru 4 (.l i6 :: .l i6 :: .l i6 :: ru 11 (.l (.v .b) :: ru 40 []))), []⟩)] false .no (.cond .no (sN (.cond .no (sN (.cond .no (sN (.cond .no (sN (.cond .no (sN (.cond .no .no))))))))))))) .no))))) func26 (kX (c66 K) (kX (c67 K) (kX (c68 K) (kX (c69 K) kN))))
end Go.U.Tryz
