/- The functions that the law of At reaches, told. No condition. -/
import Derived.Test.YthiglohhocelfaaUYc
import Derived.Test.YthiglohhocelfaaProg
set_option linter.unusedVariables false
set_option linter.unusedSimpArgs false
namespace Go.U.Try
open Go Go.U Go.Proofs Go.Proofs.Try
set_option maxRecDepth 100000
set_option linter.unusedVariables false
theorem ty2 : tyOf prog 2 = some ⟨.int .i64, 1, 8, [.i .i64 0], some (.i .i64)⟩ := by kernel_rfl
theorem ty9 : tyOf prog 9 = some ⟨.str, 1, 16, [.str []], some .s⟩ := by kernel_rfl
theorem ty4 : tyOf prog 4 = some ⟨.bool, 1, 1, [.b false], some .b⟩ := by kernel_rfl
theorem ty52 : tyOf prog 52 = some ⟨.st [(0, (2, 1)), (1, (2, 1)), (2, (2, 1)), (3, (2, 1)), (4, (2, 1)), (5, (2, 1)), (6, (2, 1)), (7, (2, 1)), (8, (2, 1)), (9, (2, 1)), (10, (4, 1)), (11, (4, 1))], 12, 88, [.i .i64 0, .i .i64 0, .i .i64 0, .i .i64 0, .i .i64 0, .i .i64 0, .i .i64 0, .i .i64 0, .i .i64 0, .i .i64 0, .b false, .b false], some (.c (.i .i64) (.c (.i .i64) (.c (.i .i64) (.c (.i .i64) (.c (.i .i64) (.c (.i .i64) (.c (.i .i64) (.c (.i .i64) (.c (.i .i64) (.c (.i .i64) (.c .b .b)))))))))))⟩ := by kernel_rfl
theorem ty53 : tyOf prog 53 = some ⟨.st [(0, (9, 1)), (1, (2, 1)), (2, (2, 1)), (3, (9, 1)), (4, (2, 1)), (5, (4, 1)), (6, (2, 1))], 7, 72, [.str [], .i .i64 0, .i .i64 0, .str [], .i .i64 0, .b false, .i .i64 0], some (.c .s (.c (.i .i64) (.c (.i .i64) (.c .s (.c (.i .i64) (.c .b (.i .i64)))))))⟩ := by kernel_rfl
theorem ty45 : tyOf prog 45 = some ⟨.sl 2, 1, 24, [.emp], some (.l (.i .i64))⟩ := by kernel_rfl
theorem ty55 : tyOf prog 55 = some ⟨.st [(0, (52, 12)), (12, (53, 7)), (19, (9, 1)), (20, (9, 1)), (21, (45, 1)), (22, (2, 1))], 23, 224, [.i .i64 0, .i .i64 0, .i .i64 0, .i .i64 0, .i .i64 0, .i .i64 0, .i .i64 0, .i .i64 0, .i .i64 0, .i .i64 0, .b false, .b false, .str [], .i .i64 0, .i .i64 0, .str [], .i .i64 0, .b false, .i .i64 0, .str [], .str [], .emp, .i .i64 0], some (.c (.c (.i .i64) (.c (.i .i64) (.c (.i .i64) (.c (.i .i64) (.c (.i .i64) (.c (.i .i64) (.c (.i .i64) (.c (.i .i64) (.c (.i .i64) (.c (.i .i64) (.c .b .b))))))))))) (.c (.c .s (.c (.i .i64) (.c (.i .i64) (.c .s (.c (.i .i64) (.c .b (.i .i64))))))) (.c .s (.c .s (.c (.l (.i .i64)) (.i .i64))))))⟩ := by kernel_rfl
theorem ty50 : tyOf prog 50 = some ⟨.st [(0, (2, 1)), (1, (2, 1))], 2, 16, [.i .i64 0, .i .i64 0], some (.c (.i .i64) (.i .i64))⟩ := by kernel_rfl
theorem ty3 : tyOf prog 3 = some ⟨.int .i64, 1, 8, [.i .i64 0], some (.i .i64)⟩ := by kernel_rfl
theorem ty44 : tyOf prog 44 = some ⟨.st [(0, (9, 1)), (1, (2, 1)), (2, (2, 1)), (3, (9, 1)), (4, (2, 1)), (5, (4, 1)), (6, (2, 1))], 7, 72, [.str [], .i .i64 0, .i .i64 0, .str [], .i .i64 0, .b false, .i .i64 0], some (.c .s (.c (.i .i64) (.c (.i .i64) (.c .s (.c (.i .i64) (.c .b (.i .i64)))))))⟩ := by kernel_rfl
theorem ty42 : tyOf prog 42 = some ⟨.st [(0, (2, 1)), (1, (2, 1)), (2, (2, 1)), (3, (2, 1)), (4, (2, 1)), (5, (2, 1)), (6, (2, 1)), (7, (2, 1)), (8, (2, 1)), (9, (2, 1)), (10, (4, 1)), (11, (4, 1))], 12, 88, [.i .i64 0, .i .i64 0, .i .i64 0, .i .i64 0, .i .i64 0, .i .i64 0, .i .i64 0, .i .i64 0, .i .i64 0, .i .i64 0, .b false, .b false], some (.c (.i .i64) (.c (.i .i64) (.c (.i .i64) (.c (.i .i64) (.c (.i .i64) (.c (.i .i64) (.c (.i .i64) (.c (.i .i64) (.c (.i .i64) (.c (.i .i64) (.c .b .b)))))))))))⟩ := by kernel_rfl
theorem ty47 : tyOf prog 47 = some ⟨.st [(0, (42, 12)), (12, (44, 7)), (19, (9, 1)), (20, (9, 1)), (21, (45, 1)), (22, (2, 1))], 23, 224, [.i .i64 0, .i .i64 0, .i .i64 0, .i .i64 0, .i .i64 0, .i .i64 0, .i .i64 0, .i .i64 0, .i .i64 0, .i .i64 0, .b false, .b false, .str [], .i .i64 0, .i .i64 0, .str [], .i .i64 0, .b false, .i .i64 0, .str [], .str [], .emp, .i .i64 0], some (.c (.c (.i .i64) (.c (.i .i64) (.c (.i .i64) (.c (.i .i64) (.c (.i .i64) (.c (.i .i64) (.c (.i .i64) (.c (.i .i64) (.c (.i .i64) (.c (.i .i64) (.c .b .b))))))))))) (.c (.c .s (.c (.i .i64) (.c (.i .i64) (.c .s (.c (.i .i64) (.c .b (.i .i64))))))) (.c .s (.c .s (.c (.l (.i .i64)) (.i .i64))))))⟩ := by kernel_rfl
def Y : TT prog := mkTT _ (tys_cons ty2 (tys_cons ty9 (tys_cons ty4 (tys_cons ty52 (tys_cons ty53 (tys_cons ty45 (tys_cons ty55 (tys_cons ty50 (tys_cons ty3 (tys_cons ty44 (tys_cons ty42 (tys_cons ty47 tys_nil))))))))))))
theorem mixed : prog.follows .mixedOrders = true := by kernel_rfl
-- loop.example/g00460/spec.l1In
def F71 (K : Nat) (x : Int × Int × Int) : Option (Bool) :=
  branch (decide (x.2.1 ≤ x.1))
   (some (decide (x.1 ≤ x.2.2)))
   (some false)
def ct71 (K : Nat) : Ct := ⟨[.l (.v (.i .i64)), .l (.v (.i .i64)), .l (.v (.i .i64))], [], [.l (.v .b)], [], [], F71 K⟩
theorem c71 (K : Nat) : CtOk prog 71 (ct71 K) :=
  con_mk (Y := Y) (L := []) (K := K) (an := (.seq .no .no)) func71 mixed ctabOk_nil (by kernel_rfl) fun x => by kernel_rfl

-- loop.example/g00460/spec.l4Byte
def F38 (K : Nat) (x : Int) : Option (Bool) :=
  bindO (F71 K (x, 0, 255)) fun v0 =>
  some v0
def ct38 (K : Nat) : Ct := ⟨[.l (.v (.i .i64))], [], [.l (.v .b)], [], [], F38 K⟩
theorem c38 (K : Nat) : CtOk prog 38 (ct38 K) :=
  con_mk (Y := Y) (L := [(71, ct71 K)]) (K := K) (an := (.seq .no .no)) func38 mixed (ctabOk_cons (c71 K) ctabOk_nil) (by kernel_rfl) fun x => by kernel_rfl

-- loop.example/g00460/impl.within
def F40 (K : Nat) (x : Int × Int × Int) : Option (Bool) :=
  branch (decide (x.2.1 ≤ x.1))
   (some (decide (x.1 ≤ x.2.2)))
   (some false)
def ct40 (K : Nat) : Ct := ⟨[.l (.v (.i .i64)), .l (.v (.i .i64)), .l (.v (.i .i64))], [], [.l (.v .b)], [], [], F40 K⟩
theorem c40 (K : Nat) : CtOk prog 40 (ct40 K) :=
  con_mk (Y := Y) (L := []) (K := K) (an := (.seq .no .no)) func40 mixed ctabOk_nil (by kernel_rfl) fun x => by kernel_rfl

-- loop.example/g00460/impl.isByte
def F41 (K : Nat) (x : Int) : Option (Bool) :=
  bindO (F40 K (x, 0, 255)) fun v0 =>
  some v0
def ct41 (K : Nat) : Ct := ⟨[.l (.v (.i .i64))], [], [.l (.v .b)], [], [], F41 K⟩
theorem c41 (K : Nat) : CtOk prog 41 (ct41 K) :=
  con_mk (Y := Y) (L := [(40, ct40 K)]) (K := K) (an := (.seq .no .no)) func41 mixed (ctabOk_cons (c40 K) ctabOk_nil) (by kernel_rfl) fun x => by kernel_rfl

-- loop.example/g00460/laws.szCart
def F58 (K : Nat) (x : (List UInt8) × Int × Int × (List UInt8) × Int × Bool × Int × Int) : Option (Int) :=
  branch (decide ((w64 (x.2.2.2.2.2.2.2 - (x.1.length : Int))) < 0))
   (some (-1))
   (branch (decide ((w64 ((w64 (x.2.2.2.2.2.2.2 - (x.1.length : Int))) - (x.2.2.2.1.length : Int))) < 0))
    (some (-1))
    (some (w64 ((w64 (x.2.2.2.2.2.2.2 - (x.1.length : Int))) - (x.2.2.2.1.length : Int)))))
def ct58 (K : Nat) : Ct := ⟨[.agg [(.v .s), (.v (.i .i64)), (.v (.i .i64)), (.v .s), (.v (.i .i64)), (.v .b), (.v (.i .i64))], .l (.v (.i .i64))], [], [.l (.v (.i .i64))], [], [], F58 K⟩
theorem c58 (K : Nat) : CtOk prog 58 (ct58 K) :=
  con_mk (Y := Y) (L := []) (K := K) (an := (.seq .no (.seq .no (.seq (.seq .no (.cond .no .no)) (.seq .no (.seq (.seq .no (.cond .no .no)) .no)))))) func58 mixed ctabOk_nil (by kernel_rfl) fun x => by kernel_rfl

-- loop.example/g00460/laws.szInt64S
def F59 (K : Nat) (x : (List Int) × Int) : Option (Int) :=
  branch (decide ((w64 (x.2 - (x.1.length : Int))) < 0))
   (some (-1))
   (some (w64 (x.2 - (x.1.length : Int))))
def ct59 (K : Nat) : Ct := ⟨[.l (.v (.l (.i .i64))), .l (.v (.i .i64))], [], [.l (.v (.i .i64))], [], [], F59 K⟩
theorem c59 (K : Nat) : CtOk prog 59 (ct59 K) :=
  con_mk (Y := Y) (L := []) (K := K) (an := (.seq .no (.seq .no (.seq (.seq .no (.cond .no .no)) .no)))) func59 mixed ctabOk_nil (by kernel_rfl) fun x => by kernel_rfl

-- loop.example/g00460/laws.szMachine
def F30 (K : Nat) (x : Int × Int × Int × Int × Int × Int × Int × Int × Int × Int × Bool × Bool × (List UInt8) × Int × Int × (List UInt8) × Int × Bool × Int × (List UInt8) × (List UInt8) × (List Int) × Int × Int) : Option (Int) :=
  bindO (F58 K (x.2.2.2.2.2.2.2.2.2.2.2.2.1, x.2.2.2.2.2.2.2.2.2.2.2.2.2.1, x.2.2.2.2.2.2.2.2.2.2.2.2.2.2.1, x.2.2.2.2.2.2.2.2.2.2.2.2.2.2.2.1, x.2.2.2.2.2.2.2.2.2.2.2.2.2.2.2.2.1, x.2.2.2.2.2.2.2.2.2.2.2.2.2.2.2.2.2.1, x.2.2.2.2.2.2.2.2.2.2.2.2.2.2.2.2.2.2.1, x.2.2.2.2.2.2.2.2.2.2.2.2.2.2.2.2.2.2.2.2.2.2.2)) fun v0 =>
  branch (decide (v0 < 0))
   (some (-1))
   (branch (decide ((w64 (v0 - (x.2.2.2.2.2.2.2.2.2.2.2.2.2.2.2.2.2.2.2.1.length : Int))) < 0))
    (some (-1))
    (branch (decide ((w64 ((w64 (v0 - (x.2.2.2.2.2.2.2.2.2.2.2.2.2.2.2.2.2.2.2.1.length : Int))) - (x.2.2.2.2.2.2.2.2.2.2.2.2.2.2.2.2.2.2.2.2.1.length : Int))) < 0))
     (some (-1))
     (bindO (F59 K (x.2.2.2.2.2.2.2.2.2.2.2.2.2.2.2.2.2.2.2.2.2.1, w64 ((w64 (v0 - (x.2.2.2.2.2.2.2.2.2.2.2.2.2.2.2.2.2.2.2.1.length : Int))) - (x.2.2.2.2.2.2.2.2.2.2.2.2.2.2.2.2.2.2.2.2.1.length : Int)))) fun v1 =>
     branch (decide (v1 < 0))
      (some (-1))
      (some v1))))
def ct30 (K : Nat) : Ct := ⟨[.agg [(.v (.i .i64)), (.v (.i .i64)), (.v (.i .i64)), (.v (.i .i64)), (.v (.i .i64)), (.v (.i .i64)), (.v (.i .i64)), (.v (.i .i64)), (.v (.i .i64)), (.v (.i .i64)), (.v .b), (.v .b), (.v .s), (.v (.i .i64)), (.v (.i .i64)), (.v .s), (.v (.i .i64)), (.v .b), (.v (.i .i64)), (.v .s), (.v .s), (.v (.l (.i .i64))), (.v (.i .i64))], .l (.v (.i .i64))], [], [.l (.v (.i .i64))], [], [], F30 K⟩
theorem c30 (K : Nat) : CtOk prog 30 (ct30 K) :=
  con_mk (Y := Y) (L := [(58, ct58 K), (59, ct59 K)]) (K := K) (an := (.seq .no (.seq .no (.seq (.seq .no (.cond .no .no)) (.seq .no (.seq (.seq .no (.cond .no .no)) (.seq .no (.seq (.seq .no (.cond .no .no)) (.seq .no (.seq (.seq .no (.cond .no .no)) .no)))))))))) func30 mixed (ctabOk_cons (c58 K) (ctabOk_cons (c59 K) ctabOk_nil)) (by kernel_rfl) fun x => by kernel_rfl

-- loop.example/g00460/laws.toCpu
def F62 (K : Nat) (x : Int × Int × Int × Int × Int × Int × Int × Int × Int × Int × Bool × Bool) : Option (Int × Int × Int × Int × Int × Int × Int × Int × Int × Int × Bool × Bool) :=
  some x
def ct62 (K : Nat) : Ct := ⟨[.agg [(.v (.i .i64)), (.v (.i .i64)), (.v (.i .i64)), (.v (.i .i64)), (.v (.i .i64)), (.v (.i .i64)), (.v (.i .i64)), (.v (.i .i64)), (.v (.i .i64)), (.v (.i .i64)), (.v .b), (.v .b)]], [], [.agg [(.v (.i .i64)), (.v (.i .i64)), (.v (.i .i64)), (.v (.i .i64)), (.v (.i .i64)), (.v (.i .i64)), (.v (.i .i64)), (.v (.i .i64)), (.v (.i .i64)), (.v (.i .i64)), (.v .b), (.v .b)]], [], [], F62 K⟩
theorem c62 (K : Nat) : CtOk prog 62 (ct62 K) :=
  con_mk (Y := Y) (L := []) (K := K) (an := (.seq .no (.seq .no (.seq .no (.seq .no (.seq .no (.seq .no (.seq .no (.seq .no (.seq .no (.seq .no (.seq .no (.seq .no (.seq .no (.seq .no .no))))))))))))))) func62 mixed ctabOk_nil (by kernel_rfl) fun x => by kernel_rfl

-- loop.example/g00460/laws.toCart
def F63 (K : Nat) (x : (List UInt8) × Int × Int × (List UInt8) × Int × Bool × Int) : Option ((List UInt8) × Int × Int × (List UInt8) × Int × Bool × Int) :=
  some x
def ct63 (K : Nat) : Ct := ⟨[.agg [(.v .s), (.v (.i .i64)), (.v (.i .i64)), (.v .s), (.v (.i .i64)), (.v .b), (.v (.i .i64))]], [], [.agg [(.v .s), (.v (.i .i64)), (.v (.i .i64)), (.v .s), (.v (.i .i64)), (.v .b), (.v (.i .i64))]], [], [], F63 K⟩
theorem c63 (K : Nat) : CtOk prog 63 (ct63 K) :=
  con_mk (Y := Y) (L := []) (K := K) (an := (.seq .no (.seq .no (.seq .no (.seq .no (.seq .no (.seq .no (.seq .no (.seq .no (.seq .no .no)))))))))) func63 mixed ctabOk_nil (by kernel_rfl) fun x => by kernel_rfl

-- loop.example/g00460/laws.toInt64S
def F64_b0 (K : Nat) (x : (List Int) × Int × List Int) : Option (((List Int) × Int × List Int) ⊕ (List Int)) :=
  branch (decide (x.2.1 < (x.1.length : Int)))
   (nth x.1 x.2.1 fun v0 =>
   guard (decide (0 ≤ x.2.1 ∧ x.2.1 < (x.2.2.length : Int))) <|
   nthN x.2.2 x.2.1.toNat fun v1 =>
   some (.inl (x.1, w64 (x.2.1 + 1), List.set x.2.2 x.2.1.toNat v0)))
   (some (.inr x.2.2))
def F64 (K : Nat) (x : List Int) : Option (List Int) :=
  guard (decide ((x.length : Int) = (x.length : Int) ∧ 0 ≤ (x.length : Int) ∧ (8 * ((x.length : Int).toNat)) ≤ 281474976710656)) <|
  bindO (iter K (F64_b0 K) (x, 0, List.replicate ((x.length : Int).toNat) 0)) fun v0 =>
  some v0
def ct64 (K : Nat) : Ct := ⟨[.l (.v (.l (.i .i64)))], [], [.l (.v (.l (.i .i64)))], [], [], F64 K⟩
theorem c64 (K : Nat) : CtOk prog 64 (ct64 K) :=
  con_mk (Y := Y) (L := []) (K := K) (an := (.seq .no (.seq .no (.seq (.seq .no (.blk (.loop [] ⟨(.l (.v (.l (.i .i64))) :: ru 2 (.l (.all 8000) :: .l (.v (.i .i64)) :: ru 17 [])), [(8000, ⟨1, true, .row (.i .i64)⟩)]⟩ [(0, ⟨(ru 3 (.l (.all 8000) :: ru 18 [])), [(8000, ⟨1, true, .row (.i .i64)⟩)]⟩)] false (.seq (.seq .no .no) (.seq .no .no))))) .no)))) func64 mixed ctabOk_nil (by kernel_rfl) fun x => by kernel_rfl

-- loop.example/g00460/laws.toMachine
def F32 (K : Nat) (x : Int × Int × Int × Int × Int × Int × Int × Int × Int × Int × Bool × Bool × (List UInt8) × Int × Int × (List UInt8) × Int × Bool × Int × (List UInt8) × (List UInt8) × (List Int) × Int) : Option (Int × Int × Int × Int × Int × Int × Int × Int × Int × Int × Bool × Bool × (List UInt8) × Int × Int × (List UInt8) × Int × Bool × Int × (List UInt8) × (List UInt8) × (List Int) × Int) :=
  bindO (F62 K (x.1, x.2.1, x.2.2.1, x.2.2.2.1, x.2.2.2.2.1, x.2.2.2.2.2.1, x.2.2.2.2.2.2.1, x.2.2.2.2.2.2.2.1, x.2.2.2.2.2.2.2.2.1, x.2.2.2.2.2.2.2.2.2.1, x.2.2.2.2.2.2.2.2.2.2.1, x.2.2.2.2.2.2.2.2.2.2.2.1)) fun v0 =>
  bindO (F63 K (x.2.2.2.2.2.2.2.2.2.2.2.2.1, x.2.2.2.2.2.2.2.2.2.2.2.2.2.1, x.2.2.2.2.2.2.2.2.2.2.2.2.2.2.1, x.2.2.2.2.2.2.2.2.2.2.2.2.2.2.2.1, x.2.2.2.2.2.2.2.2.2.2.2.2.2.2.2.2.1, x.2.2.2.2.2.2.2.2.2.2.2.2.2.2.2.2.2.1, x.2.2.2.2.2.2.2.2.2.2.2.2.2.2.2.2.2.2.1)) fun v1 =>
  bindO (F64 K x.2.2.2.2.2.2.2.2.2.2.2.2.2.2.2.2.2.2.2.2.2.1) fun v2 =>
  some (v0.1, v0.2.1, v0.2.2.1, v0.2.2.2.1, v0.2.2.2.2.1, v0.2.2.2.2.2.1, v0.2.2.2.2.2.2.1, v0.2.2.2.2.2.2.2.1, v0.2.2.2.2.2.2.2.2.1, v0.2.2.2.2.2.2.2.2.2.1, v0.2.2.2.2.2.2.2.2.2.2.1, v0.2.2.2.2.2.2.2.2.2.2.2, v1.1, v1.2.1, v1.2.2.1, v1.2.2.2.1, v1.2.2.2.2.1, v1.2.2.2.2.2.1, v1.2.2.2.2.2.2, x.2.2.2.2.2.2.2.2.2.2.2.2.2.2.2.2.2.2.2.1, x.2.2.2.2.2.2.2.2.2.2.2.2.2.2.2.2.2.2.2.2.1, v2, x.2.2.2.2.2.2.2.2.2.2.2.2.2.2.2.2.2.2.2.2.2.2)
def ct32 (K : Nat) : Ct := ⟨[.agg [(.v (.i .i64)), (.v (.i .i64)), (.v (.i .i64)), (.v (.i .i64)), (.v (.i .i64)), (.v (.i .i64)), (.v (.i .i64)), (.v (.i .i64)), (.v (.i .i64)), (.v (.i .i64)), (.v .b), (.v .b), (.v .s), (.v (.i .i64)), (.v (.i .i64)), (.v .s), (.v (.i .i64)), (.v .b), (.v (.i .i64)), (.v .s), (.v .s), (.v (.l (.i .i64))), (.v (.i .i64))]], [], [.agg [(.v (.i .i64)), (.v (.i .i64)), (.v (.i .i64)), (.v (.i .i64)), (.v (.i .i64)), (.v (.i .i64)), (.v (.i .i64)), (.v (.i .i64)), (.v (.i .i64)), (.v (.i .i64)), (.v .b), (.v .b), (.v .s), (.v (.i .i64)), (.v (.i .i64)), (.v .s), (.v (.i .i64)), (.v .b), (.v (.i .i64)), (.v .s), (.v .s), (.v (.l (.i .i64))), (.v (.i .i64))]], [], [], F32 K⟩
theorem c32 (K : Nat) : CtOk prog 32 (ct32 K) :=
  con_mk (Y := Y) (L := [(62, ct62 K), (63, ct63 K), (64, ct64 K)]) (K := K) (an := (.seq .no (.seq .no (.seq .no (.seq .no (.seq .no (.seq .no (.seq .no (.seq .no .no))))))))) func32 mixed (ctabOk_cons (c62 K) (ctabOk_cons (c63 K) (ctabOk_cons (c64 K) ctabOk_nil))) (by kernel_rfl) fun x => by kernel_rfl

-- loop.example/g00460/spec.l4Word
def F78 (K : Nat) (x : Int) : Option (Bool) :=
  bindO (F71 K (x, 0, 65535)) fun v0 =>
  some v0
def ct78 (K : Nat) : Ct := ⟨[.l (.v (.i .i64))], [], [.l (.v .b)], [], [], F78 K⟩
theorem c78 (K : Nat) : CtOk prog 78 (ct78 K) :=
  con_mk (Y := Y) (L := [(71, ct71 K)]) (K := K) (an := (.seq .no .no)) func78 mixed (ctabOk_cons (c71 K) ctabOk_nil) (by kernel_rfl) fun x => by kernel_rfl

-- loop.example/g00460/spec.l5Banks
def F91 (K : Nat) (x : List UInt8) : Option (Int) :=
  bindO (branch (!(decide ((Int.tmod (x.length : Int) 256) = 0)))
     (some (w64 (Int.tdiv (x.length : Int) 256), true))
     (bindO (F71 K (w64 (Int.tdiv (x.length : Int) 256), 2, 16)) fun v0 =>
     some (w64 (Int.tdiv (x.length : Int) 256), !v0))) fun v1 =>
  branch v1.2
   (some 0)
   (some v1.1)
def ct91 (K : Nat) : Ct := ⟨[.l (.v .s)], [], [.l (.v (.i .i64))], [], [], F91 K⟩
theorem c91 (K : Nat) : CtOk prog 91 (ct91 K) :=
  con_mk (Y := Y) (L := [(71, ct71 K)]) (K := K) (an := (.seq .no (.seq .no (.seq (.seqJ [(1000000, ⟨(ru 3 (.l (.v (.i .i64)) :: ru 11 (.l (.v .b) :: ru 1 []))), []⟩)] false .no (.cond .no .no)) .no)))) func91 mixed (ctabOk_cons (c71 K) ctabOk_nil) (by kernel_rfl) fun x => by kernel_rfl

-- loop.example/g00460/spec.CartOk
def F79 (K : Nat) (x : (List UInt8) × Int × Int × (List UInt8) × Int × Bool × Int) : Option (Bool) :=
  bindO (bindO (bindO (F91 K x.1) fun v0 =>
      branch (decide (v0 = 0))
       (some (true, x))
       (some (!(decide ((x.2.2.2.1.length : Int) = 256)), x))) fun v1 =>
    branch v1.1
     (some (.inl false))
     (some (.inr v1.2))) fun v2 =>
  csO v2
   (fun v3 => some v3)
   (fun v4 => branch (decide (v4.2.1 = 0))
    (branch (decide (v4.2.2.1 = 1))
     (branch (decide (v4.2.2.2.2.1 = 0))
      (branch (!v4.2.2.2.2.2.1)
       (some (decide (v4.2.2.2.2.2.2 = 0)))
       (some false))
      (some false))
     (some false))
    (branch (decide (v4.2.1 = 1))
     (bindO (F71 K (v4.2.2.1, 1, 31)) fun v5 =>
     branch v5
      (bindO (F71 K (v4.2.2.2.2.1, 0, 3)) fun v6 =>
      branch v6
       (bindO (F71 K (v4.2.2.2.2.2.2, 0, 1)) fun v7 =>
       some v7)
       (some false))
      (some false))
     (branch (decide (v4.2.1 = 2))
      (bindO (F71 K (v4.2.2.1, 0, 255)) fun v8 =>
      branch v8
       (bindO (F71 K (v4.2.2.2.2.1, 0, 3)) fun v9 =>
       branch v9
        (some (decide (v4.2.2.2.2.2.2 = 0)))
        (some false))
       (some false))
      (some false))))
def ct79 (K : Nat) : Ct := ⟨[.agg [(.v .s), (.v (.i .i64)), (.v (.i .i64)), (.v .s), (.v (.i .i64)), (.v .b), (.v (.i .i64))]], [], [.l (.v .b)], [], [], F79 K⟩
theorem c79 (K : Nat) : CtOk prog 79 (ct79 K) :=
  con_mk (Y := Y) (L := [(71, ct71 K), (91, ct91 K)]) (K := K) (an := (.seq .no (.seqJ [(1000000, ⟨(ru 1 (.l (.ptr 2000 0 0) :: ru 63 [])), [(2000, ⟨7, false, .mix (some 53) [[.l (.v .s), .l (.v (.i .i64)), .l (.v (.i .i64)), .l (.v .s), .l (.v (.i .i64)), .l (.v .b), .l (.v (.i .i64))]]⟩)]⟩)] true (.seqJ [(1000000, ⟨(ru 1 (.l (.ptr 2000 0 0) :: ru 10 (.l (.v .b) :: ru 52 []))), [(2000, ⟨7, false, .mix (some 53) [[.l (.v .s), .l (.v (.i .i64)), .l (.v (.i .i64)), .l (.v .s), .l (.v (.i .i64)), .l (.v .b), .l (.v (.i .i64))]]⟩)]⟩)] false .no (.cond .no .no)) (.seq (.seq .no (.blk (.seq .no (.cond .no (.seq .no (.cond .no (.seq .no (.cond .no .no)))))))) .no)))) func79 mixed (ctabOk_cons (c71 K) (ctabOk_cons (c91 K) ctabOk_nil)) (by kernel_rfl) fun x => by kernel_rfl

-- loop.example/g00460/spec.MachineOk
def F60_b0 (K : Nat) (x : Int × (List Int) × Int × Int × Int × Int × Int × Int × Int × Int × Int × Int × Bool × Bool × Int × Int × Int × Int × Int × Int × Int × Int × Int × Int × Bool × Bool × (List UInt8) × Int × Int × (List UInt8) × Int × Bool × Int × (List UInt8) × (List UInt8) × (List Int) × Int) : Option ((Int × (List Int) × Int × Int × Int × Int × Int × Int × Int × Int × Int × Int × Bool × Bool × Int × Int × Int × Int × Int × Int × Int × Int × Int × Int × Bool × Bool × (List UInt8) × Int × Int × (List UInt8) × Int × Bool × Int × (List UInt8) × (List UInt8) × (List Int) × Int) ⊕ (Bool ⊕ (Int × Int × Int × Int × Int × Int × Int × Int × Int × Int × Bool × Bool × Int × Int × Int × Int × Int × Int × Int × Int × Int × Int × Bool × Bool × (List UInt8) × Int × Int × (List UInt8) × Int × Bool × Int × (List UInt8) × (List UInt8) × (List Int) × Int))) :=
  branch (decide (x.1 < (x.2.1.length : Int)))
   (guard (decide (0 ≤ x.1 ∧ x.1 < (x.2.1.length : Int))) <|
   nthN x.2.1 x.1.toNat fun v0 =>
   bindO (F38 K v0) fun v1 =>
   branch (!v1)
    (some (.inr (.inl false)))
    (some (.inl (w64 (x.1 + 1), x.2))))
   (some (.inr (.inr x.2.2)))
def F60_b1 (K : Nat) (x : Int × Int × Int × Int × Int × Int × Int × Int × Int × Int × Int × Bool × Bool × Int × Int × Int × Int × Int × Int × Int × Int × Int × Int × Bool × Bool × (List UInt8) × Int × Int × (List UInt8) × Int × Bool × Int × (List UInt8) × (List UInt8) × (List Int) × Int) : Option ((Int × Int × Int × Int × Int × Int × Int × Int × Int × Int × Int × Bool × Bool × Int × Int × Int × Int × Int × Int × Int × Int × Int × Int × Bool × Bool × (List UInt8) × Int × Int × (List UInt8) × Int × Bool × Int × (List UInt8) × (List UInt8) × (List Int) × Int) ⊕ (Bool ⊕ (Int × Int × Int × Int × Int × Int × Int × Int × Int × Int × Bool × Bool × Int × Int × Int × Int × Int × Int × Int × Int × Int × Int × Bool × Bool × (List UInt8) × Int × Int × (List UInt8) × Int × Bool × Int × (List UInt8) × (List UInt8) × (List Int) × Int))) :=
  branch (decide (x.1 < (x.2.2.2.2.2.2.2.2.2.2.2.2.2.2.2.2.2.2.2.2.2.2.2.2.2.2.2.2.2.2.2.2.2.2.1.length : Int)))
   (nth x.2.2.2.2.2.2.2.2.2.2.2.2.2.2.2.2.2.2.2.2.2.2.2.2.2.2.2.2.2.2.2.2.2.2.1 x.1 fun v0 =>
   bindO (F38 K v0) fun v1 =>
   branch (!v1)
    (some (.inr (.inl false)))
    (some (.inl (w64 (x.1 + 1), x.2))))
   (some (.inr (.inr x.2)))
def F60 (K : Nat) (x : Int × Int × Int × Int × Int × Int × Int × Int × Int × Int × Bool × Bool × (List UInt8) × Int × Int × (List UInt8) × Int × Bool × Int × (List UInt8) × (List UInt8) × (List Int) × Int) : Option (Bool) :=
  bindO (iter K (F60_b0 K) (0, [x.1, x.2.1, x.2.2.1, x.2.2.2.1, x.2.2.2.2.1, x.2.2.2.2.2.1, x.2.2.2.2.2.2.1, x.2.2.2.2.2.2.2.1], x.1, x.2.1, x.2.2.1, x.2.2.2.1, x.2.2.2.2.1, x.2.2.2.2.2.1, x.2.2.2.2.2.2.1, x.2.2.2.2.2.2.2.1, x.2.2.2.2.2.2.2.2.1, x.2.2.2.2.2.2.2.2.2.1, x.2.2.2.2.2.2.2.2.2.2.1, x.2.2.2.2.2.2.2.2.2.2.2.1, x)) fun v0 =>
  csO v0
   (fun v1 => some v1)
   (fun v2 => bindO (iter K (F60_b1 K) (0, v2)) fun v3 =>
   csO v3
    (fun v4 => some v4)
    (fun v5 => branch (decide ((Int.tmod v5.2.1 16) = 0))
     (bindO (F78 K v5.2.2.2.2.2.2.2.2.1) fun v6 =>
     branch v6
      (bindO (F78 K v5.2.2.2.2.2.2.2.2.2.1) fun v7 =>
      branch v7
       (bindO (F79 K (v5.2.2.2.2.2.2.2.2.2.2.2.2.2.2.2.2.2.2.2.2.2.2.2.2.1, v5.2.2.2.2.2.2.2.2.2.2.2.2.2.2.2.2.2.2.2.2.2.2.2.2.2.1, v5.2.2.2.2.2.2.2.2.2.2.2.2.2.2.2.2.2.2.2.2.2.2.2.2.2.2.1, v5.2.2.2.2.2.2.2.2.2.2.2.2.2.2.2.2.2.2.2.2.2.2.2.2.2.2.2.1, v5.2.2.2.2.2.2.2.2.2.2.2.2.2.2.2.2.2.2.2.2.2.2.2.2.2.2.2.2.1, v5.2.2.2.2.2.2.2.2.2.2.2.2.2.2.2.2.2.2.2.2.2.2.2.2.2.2.2.2.2.1, v5.2.2.2.2.2.2.2.2.2.2.2.2.2.2.2.2.2.2.2.2.2.2.2.2.2.2.2.2.2.2.1)) fun v8 =>
       branch v8
        (branch (decide ((v5.2.2.2.2.2.2.2.2.2.2.2.2.2.2.2.2.2.2.2.2.2.2.2.2.2.2.2.2.2.2.2.1.length : Int) = 256))
         (branch (decide ((v5.2.2.2.2.2.2.2.2.2.2.2.2.2.2.2.2.2.2.2.2.2.2.2.2.2.2.2.2.2.2.2.2.1.length : Int) = 127))
          (branch (decide ((v5.2.2.2.2.2.2.2.2.2.2.2.2.2.2.2.2.2.2.2.2.2.2.2.2.2.2.2.2.2.2.2.2.2.1.length : Int) ≤ 100))
           (bindO (F71 K (v5.2.2.2.2.2.2.2.2.2.2.2.2.2.2.2.2.2.2.2.2.2.2.2.2.2.2.2.2.2.2.2.2.2.2, 0, 1000000000)) fun v9 =>
           some v9)
           (some false))
          (some false))
         (some false))
        (some false))
       (some false))
      (some false))
     (some false)))
def ct60 (K : Nat) : Ct := ⟨[.agg [(.v (.i .i64)), (.v (.i .i64)), (.v (.i .i64)), (.v (.i .i64)), (.v (.i .i64)), (.v (.i .i64)), (.v (.i .i64)), (.v (.i .i64)), (.v (.i .i64)), (.v (.i .i64)), (.v .b), (.v .b), (.v .s), (.v (.i .i64)), (.v (.i .i64)), (.v .s), (.v (.i .i64)), (.v .b), (.v (.i .i64)), (.v .s), (.v .s), (.v (.l (.i .i64))), (.v (.i .i64))]], [], [.l (.v .b)], [], [], F60 K⟩
theorem c60 (K : Nat) : CtOk prog 60 (ct60 K) :=
  con_mk (Y := Y) (L := [(71, ct71 K), (38, ct38 K), (78, ct78 K), (79, ct79 K)]) (K := K) (an := (.seq .no (.seq .no (.seq .no (.seq (.seq .no (.blk (.loop [] ⟨(ru 1 (.l (.ptr 2000 0 0) :: ru 1 (.l (.ptr 4000 0 0) :: .l (.all 26000) :: .l (.v (.i .i64)) :: ru 88 []))), [(26000, ⟨1, true, .row (.i .i64)⟩), (4000, ⟨12, false, .mix (some 52) [[.l (.v (.i .i64)), .l (.v (.i .i64)), .l (.v (.i .i64)), .l (.v (.i .i64)), .l (.v (.i .i64)), .l (.v (.i .i64)), .l (.v (.i .i64)), .l (.v (.i .i64)), .l (.v (.i .i64)), .l (.v (.i .i64)), .l (.v .b), .l (.v .b)]]⟩), (2000, ⟨23, false, .mix (some 55) [[.l (.v (.i .i64)), .l (.v (.i .i64)), .l (.v (.i .i64)), .l (.v (.i .i64)), .l (.v (.i .i64)), .l (.v (.i .i64)), .l (.v (.i .i64)), .l (.v (.i .i64)), .l (.v (.i .i64)), .l (.v (.i .i64)), .l (.v .b), .l (.v .b), .l (.v .s), .l (.v (.i .i64)), .l (.v (.i .i64)), .l (.v .s), .l (.v (.i .i64)), .l (.v .b), .l (.v (.i .i64)), .l (.v .s), .l (.v .s), .l (.v (.l (.i .i64))), .l (.v (.i .i64))]]⟩)]⟩ [(0, ⟨(ru 1 (.l (.ptr 2000 0 0) :: ru 1 (.l (.ptr 4000 0 0) :: ru 90 []))), [(4000, ⟨12, false, .mix (some 52) [[.l (.v (.i .i64)), .l (.v (.i .i64)), .l (.v (.i .i64)), .l (.v (.i .i64)), .l (.v (.i .i64)), .l (.v (.i .i64)), .l (.v (.i .i64)), .l (.v (.i .i64)), .l (.v (.i .i64)), .l (.v (.i .i64)), .l (.v .b), .l (.v .b)]]⟩), (2000, ⟨23, false, .mix (some 55) [[.l (.v (.i .i64)), .l (.v (.i .i64)), .l (.v (.i .i64)), .l (.v (.i .i64)), .l (.v (.i .i64)), .l (.v (.i .i64)), .l (.v (.i .i64)), .l (.v (.i .i64)), .l (.v (.i .i64)), .l (.v (.i .i64)), .l (.v .b), .l (.v .b), .l (.v .s), .l (.v (.i .i64)), .l (.v (.i .i64)), .l (.v .s), .l (.v (.i .i64)), .l (.v .b), .l (.v (.i .i64)), .l (.v .s), .l (.v .s), .l (.v (.l (.i .i64))), .l (.v (.i .i64))]]⟩)]⟩)] true (.seq (.seq .no .no) (.seq (.blk (.seq .no (.cond .no .no))) .no))))) (.seq (.seq .no (.blk (.loop [] ⟨(ru 1 (.l (.ptr 2000 0 0) :: ru 1 (.l (.ptr 4000 0 0) :: ru 2 (.l (.v (.i .i64)) :: ru 87 [])))), [(4000, ⟨12, false, .mix (some 52) [[.l (.v (.i .i64)), .l (.v (.i .i64)), .l (.v (.i .i64)), .l (.v (.i .i64)), .l (.v (.i .i64)), .l (.v (.i .i64)), .l (.v (.i .i64)), .l (.v (.i .i64)), .l (.v (.i .i64)), .l (.v (.i .i64)), .l (.v .b), .l (.v .b)]]⟩), (2000, ⟨23, false, .mix (some 55) [[.l (.v (.i .i64)), .l (.v (.i .i64)), .l (.v (.i .i64)), .l (.v (.i .i64)), .l (.v (.i .i64)), .l (.v (.i .i64)), .l (.v (.i .i64)), .l (.v (.i .i64)), .l (.v (.i .i64)), .l (.v (.i .i64)), .l (.v .b), .l (.v .b), .l (.v .s), .l (.v (.i .i64)), .l (.v (.i .i64)), .l (.v .s), .l (.v (.i .i64)), .l (.v .b), .l (.v (.i .i64)), .l (.v .s), .l (.v .s), .l (.v (.l (.i .i64))), .l (.v (.i .i64))]]⟩)]⟩ [(2, ⟨(ru 1 (.l (.ptr 2000 0 0) :: ru 1 (.l (.ptr 4000 0 0) :: ru 90 []))), [(4000, ⟨12, false, .mix (some 52) [[.l (.v (.i .i64)), .l (.v (.i .i64)), .l (.v (.i .i64)), .l (.v (.i .i64)), .l (.v (.i .i64)), .l (.v (.i .i64)), .l (.v (.i .i64)), .l (.v (.i .i64)), .l (.v (.i .i64)), .l (.v (.i .i64)), .l (.v .b), .l (.v .b)]]⟩), (2000, ⟨23, false, .mix (some 55) [[.l (.v (.i .i64)), .l (.v (.i .i64)), .l (.v (.i .i64)), .l (.v (.i .i64)), .l (.v (.i .i64)), .l (.v (.i .i64)), .l (.v (.i .i64)), .l (.v (.i .i64)), .l (.v (.i .i64)), .l (.v (.i .i64)), .l (.v .b), .l (.v .b), .l (.v .s), .l (.v (.i .i64)), .l (.v (.i .i64)), .l (.v .s), .l (.v (.i .i64)), .l (.v .b), .l (.v (.i .i64)), .l (.v .s), .l (.v .s), .l (.v (.l (.i .i64))), .l (.v (.i .i64))]]⟩)]⟩)] true (.seq (.seq .no .no) (.seq (.blk (.seq .no (.cond .no .no))) .no))))) .no)))))) func60 mixed (ctabOk_cons (c71 K) (ctabOk_cons (c38 K) (ctabOk_cons (c78 K) (ctabOk_cons (c79 K) ctabOk_nil)))) (by kernel_rfl) fun x => by kernel_rfl

-- loop.example/g00460/spec.MappedBank
def F80 (K : Nat) (x : (List UInt8) × Int × Int × (List UInt8) × Int × Bool × Int) : Option (Int) :=
  bindO (F79 K x) fun v0 =>
  branch (!v0)
   (some (-1))
   (bindO (F91 K x.1) fun v1 =>
   guard (!(decide (v1 = 0))) <|
   some (Int.tmod x.2.2.1 v1))
def ct80 (K : Nat) : Ct := ⟨[.agg [(.v .s), (.v (.i .i64)), (.v (.i .i64)), (.v .s), (.v (.i .i64)), (.v .b), (.v (.i .i64))]], [], [.l (.v (.i .i64))], [], [], F80 K⟩
theorem c80 (K : Nat) : CtOk prog 80 (ct80 K) :=
  con_mk (Y := Y) (L := [(91, ct91 K), (79, ct79 K)]) (K := K) (an := (.seq .no (.seq (.seq .no (.cond .no .no)) .no))) func80 mixed (ctabOk_cons (c91 K) (ctabOk_cons (c79 K) ctabOk_nil)) (by kernel_rfl) fun x => by kernel_rfl

-- loop.example/g00460/spec.l17At
def F61 (K : Nat) (x : Int × Int × Int × Int × Int × Int × Int × Int × Int × Int × Bool × Bool × (List UInt8) × Int × Int × (List UInt8) × Int × Bool × Int × (List UInt8) × (List UInt8) × (List Int) × Int) : Option (Int × Int) :=
  branch (decide (x.2.2.2.2.2.2.2.2.2.1 < 256))
   (some (0, x.2.2.2.2.2.2.2.2.2.1))
   (branch (decide (x.2.2.2.2.2.2.2.2.2.1 < 512))
    (bindO (F80 K (x.2.2.2.2.2.2.2.2.2.2.2.2.1, x.2.2.2.2.2.2.2.2.2.2.2.2.2.1, x.2.2.2.2.2.2.2.2.2.2.2.2.2.2.1, x.2.2.2.2.2.2.2.2.2.2.2.2.2.2.2.1, x.2.2.2.2.2.2.2.2.2.2.2.2.2.2.2.2.1, x.2.2.2.2.2.2.2.2.2.2.2.2.2.2.2.2.2.1, x.2.2.2.2.2.2.2.2.2.2.2.2.2.2.2.2.2.2.1)) fun v0 =>
    some (v0, x.2.2.2.2.2.2.2.2.2.1))
    (some ((-1), x.2.2.2.2.2.2.2.2.2.1)))
def ct61 (K : Nat) : Ct := ⟨[.agg [(.v (.i .i64)), (.v (.i .i64)), (.v (.i .i64)), (.v (.i .i64)), (.v (.i .i64)), (.v (.i .i64)), (.v (.i .i64)), (.v (.i .i64)), (.v (.i .i64)), (.v (.i .i64)), (.v .b), (.v .b), (.v .s), (.v (.i .i64)), (.v (.i .i64)), (.v .s), (.v (.i .i64)), (.v .b), (.v (.i .i64)), (.v .s), (.v .s), (.v (.l (.i .i64))), (.v (.i .i64))]], [], [.agg [(.v (.i .i64)), (.v (.i .i64))]], [], [], F61 K⟩
theorem c61 (K : Nat) : CtOk prog 61 (ct61 K) :=
  con_mk (Y := Y) (L := [(80, ct80 K)]) (K := K) (an := (.seq .no (.seq .no (.seq (.blk (.seq .no (.cond .no (.seq .no (.cond .no .no))))) .no)))) func61 mixed (ctabOk_cons (c80 K) ctabOk_nil) (by kernel_rfl) fun x => by kernel_rfl

-- loop.example/g00460/spec.At
def F31 (K : Nat) (x : Int × Int × Int × Int × Int × Int × Int × Int × Int × Int × Bool × Bool × (List UInt8) × Int × Int × (List UInt8) × Int × Bool × Int × (List UInt8) × (List UInt8) × (List Int) × Int) : Option (Int × Int) :=
  bindO (F60 K x) fun v0 =>
  branch (!v0)
   (some ((-1), (-1)))
   (bindO (F61 K x) fun v1 =>
   some v1)
def ct31 (K : Nat) : Ct := ⟨[.agg [(.v (.i .i64)), (.v (.i .i64)), (.v (.i .i64)), (.v (.i .i64)), (.v (.i .i64)), (.v (.i .i64)), (.v (.i .i64)), (.v (.i .i64)), (.v (.i .i64)), (.v (.i .i64)), (.v .b), (.v .b), (.v .s), (.v (.i .i64)), (.v (.i .i64)), (.v .s), (.v (.i .i64)), (.v .b), (.v (.i .i64)), (.v .s), (.v .s), (.v (.l (.i .i64))), (.v (.i .i64))]], [], [.agg [(.v (.i .i64)), (.v (.i .i64))]], [], [], F31 K⟩
theorem c31 (K : Nat) : CtOk prog 31 (ct31 K) :=
  con_mk (Y := Y) (L := [(60, ct60 K), (61, ct61 K)]) (K := K) (an := (.seq .no (.seq (.seq .no (.cond .no .no)) .no))) func31 mixed (ctabOk_cons (c60 K) (ctabOk_cons (c61 K) ctabOk_nil)) (by kernel_rfl) fun x => by kernel_rfl

-- loop.example/g00460/impl.MachineOk$1
def F82 (K : Nat) (x : Int) : Option (Bool) :=
  bindO (F41 K x) fun v0 =>
  some (!v0)
def ct82 (K : Nat) : Ct := ⟨[.l (.v (.i .i64))], [], [.l (.v .b)], [], [], F82 K⟩
theorem c82 (K : Nat) : CtOk prog 82 (ct82 K) :=
  con_mk (Y := Y) (L := [(41, ct41 K)]) (K := K) (an := (.seq .no .no)) func82 mixed (ctabOk_cons (c41 K) ctabOk_nil) (by kernel_rfl) fun x => by kernel_rfl

-- slices.IndexFunc[[]int64,int64]
def F92_b0 (K : Nat) (x : (List Int) × Int × Int) : Option (((List Int) × Int × Int) ⊕ (Int ⊕ Unit)) :=
  branch (decide (x.2.2 < x.2.1))
   (nth x.1 x.2.2 fun v0 =>
   bindO (F82 K v0) fun v1 =>
   branch v1
    (some (.inr (.inl x.2.2)))
    (some (.inl (x.1, x.2.1, w64 (x.2.2 + 1)))))
   (some (.inr (.inr ())))
def F92 (K : Nat) (x : List Int) : Option (Int) :=
  bindO (iter K (F92_b0 K) (x, (x.length : Int), 0)) fun v0 =>
  csO v0
   (fun v1 => some v1)
   (fun v2 => some (-1))
def ct92 (K : Nat) : Ct := ⟨[.l (.v (.l (.i .i64))), .clo 82 []], [], [.l (.v (.i .i64))], [], [], F92 K⟩
theorem c92 (K : Nat) : CtOk prog 92 (ct92 K) :=
  con_mk (Y := Y) (L := [(82, ct82 K)]) (K := K) (an := (.seq .no (.seq (.seq .no (.blk (.loop [] ⟨(.l (.v (.l (.i .i64))) :: .clo 82 [] :: ru 5 (.l (.v (.i .i64)) :: .l (.v (.i .i64)) :: ru 10 [])), []⟩ [(0, ⟨(ru 19 []), []⟩)] true (.seq .no (.seq .no (.seq (.blk (.seq .no (.seq .no (.cond .no .no)))) .no)))))) .no))) func92 mixed (ctabOk_cons (c82 K) ctabOk_nil) (by kernel_rfl) fun x => by kernel_rfl

-- slices.ContainsFunc[[]int64,int64]
def F81 (K : Nat) (x : List Int) : Option (Bool) :=
  bindO (F92 K x) fun v0 =>
  some (decide (0 ≤ v0))
def ct81 (K : Nat) : Ct := ⟨[.l (.v (.l (.i .i64))), .clo 82 []], [], [.l (.v .b)], [], [], F81 K⟩
theorem c81 (K : Nat) : CtOk prog 81 (ct81 K) :=
  con_mk (Y := Y) (L := [(82, ct82 K), (92, ct92 K)]) (K := K) (an := (.seq .no .no)) func81 mixed (ctabOk_cons (c82 K) (ctabOk_cons (c92 K) ctabOk_nil)) (by kernel_rfl) fun x => by kernel_rfl

-- loop.example/g00460/impl.isWord
def F83 (K : Nat) (x : Int) : Option (Bool) :=
  bindO (F40 K (x, 0, 65535)) fun v0 =>
  some v0
def ct83 (K : Nat) : Ct := ⟨[.l (.v (.i .i64))], [], [.l (.v .b)], [], [], F83 K⟩
theorem c83 (K : Nat) : CtOk prog 83 (ct83 K) :=
  con_mk (Y := Y) (L := [(40, ct40 K)]) (K := K) (an := (.seq .no .no)) func83 mixed (ctabOk_cons (c40 K) ctabOk_nil) (by kernel_rfl) fun x => by kernel_rfl

-- loop.example/g00460/impl.CartOk
def F84 (K : Nat) (x : (List UInt8) × Int × Int × (List UInt8) × Int × Bool × Int) : Option (Bool) :=
  bindO (bindO (branch (!(decide ((Int.tmod (x.1.length : Int) 256) = 0)))
       (some (true, x))
       (bindO (F40 K (w64 (Int.tdiv (x.1.length : Int) 256), 2, 16)) fun v0 =>
       branch (!v0)
        (some (true, x))
        (some (!(decide ((x.2.2.2.1.length : Int) = 256)), x)))) fun v1 =>
    branch v1.1
     (some (.inl false))
     (some (.inr v1.2))) fun v2 =>
  csO v2
   (fun v3 => some v3)
   (fun v4 => branch (decide (v4.2.1 = 0))
    (branch (decide (v4.2.2.1 = 1))
     (branch (decide (v4.2.2.2.2.1 = 0))
      (branch (decide (v4.2.2.2.2.2.2 = 0))
       (some (!v4.2.2.2.2.2.1))
       (some false))
      (some false))
     (some false))
    (branch (decide (v4.2.1 = 1))
     (bindO (F40 K (v4.2.2.1, 1, 31)) fun v5 =>
     branch v5
      (bindO (F40 K (v4.2.2.2.2.1, 0, 3)) fun v6 =>
      branch v6
       (bindO (F40 K (v4.2.2.2.2.2.2, 0, 1)) fun v7 =>
       some v7)
       (some false))
      (some false))
     (branch (decide (v4.2.1 = 2))
      (bindO (F41 K v4.2.2.1) fun v8 =>
      branch v8
       (bindO (F40 K (v4.2.2.2.2.1, 0, 3)) fun v9 =>
       branch v9
        (some (decide (v4.2.2.2.2.2.2 = 0)))
        (some false))
       (some false))
      (some false))))
def ct84 (K : Nat) : Ct := ⟨[.agg [(.v .s), (.v (.i .i64)), (.v (.i .i64)), (.v .s), (.v (.i .i64)), (.v .b), (.v (.i .i64))]], [], [.l (.v .b)], [], [], F84 K⟩
theorem c84 (K : Nat) : CtOk prog 84 (ct84 K) :=
  con_mk (Y := Y) (L := [(40, ct40 K), (41, ct41 K)]) (K := K) (an := (.seq .no (.seqJ [(1000000, ⟨(ru 1 (.l (.ptr 2000 0 0) :: ru 72 [])), [(2000, ⟨7, false, .mix (some 53) [[.l (.v .s), .l (.v (.i .i64)), .l (.v (.i .i64)), .l (.v .s), .l (.v (.i .i64)), .l (.v .b), .l (.v (.i .i64))]]⟩)]⟩)] true (.seqJ [(1000000, ⟨(ru 1 (.l (.ptr 2000 0 0) :: ru 19 (.l (.v .b) :: ru 52 []))), [(2000, ⟨7, false, .mix (some 53) [[.l (.v .s), .l (.v (.i .i64)), .l (.v (.i .i64)), .l (.v .s), .l (.v (.i .i64)), .l (.v .b), .l (.v (.i .i64))]]⟩)]⟩)] false .no (.cond .no .no)) (.seq (.seq .no (.blk (.seq .no (.cond .no (.seq .no (.cond .no (.seq .no (.cond .no .no)))))))) .no)))) func84 mixed (ctabOk_cons (c40 K) (ctabOk_cons (c41 K) ctabOk_nil)) (by kernel_rfl) fun x => by kernel_rfl

-- loop.example/g00460/impl.MachineOk
def F65_b0 (K : Nat) (x : Int × Int × (List Int) × Int × Int × Int × Int × Int × Int × Int × Int × Int × Int × Bool × Bool × Int × Int × Int × Int × Int × Int × Int × Int × Int × Int × Bool × Bool × (List UInt8) × Int × Int × (List UInt8) × Int × Bool × Int × (List UInt8) × (List UInt8) × (List Int) × Int) : Option ((Int × Int × (List Int) × Int × Int × Int × Int × Int × Int × Int × Int × Int × Int × Bool × Bool × Int × Int × Int × Int × Int × Int × Int × Int × Int × Int × Bool × Bool × (List UInt8) × Int × Int × (List UInt8) × Int × Bool × Int × (List UInt8) × (List UInt8) × (List Int) × Int) ⊕ (Bool ⊕ (Int × Int × Int × Int × Int × Int × Int × Int × Int × Int × Bool × Bool × Int × Int × Int × Int × Int × Int × Int × Int × Int × Int × Bool × Bool × (List UInt8) × Int × Int × (List UInt8) × Int × Bool × Int × (List UInt8) × (List UInt8) × (List Int) × Int))) :=
  branch (decide (x.2.1 < x.1))
   (guard (decide (0 ≤ x.2.1 ∧ x.2.1 < (x.2.2.1.length : Int))) <|
   nthN x.2.2.1 x.2.1.toNat fun v0 =>
   bindO (F41 K v0) fun v1 =>
   branch (!v1)
    (some (.inr (.inl false)))
    (some (.inl (x.1, w64 (x.2.1 + 1), x.2.2))))
   (some (.inr (.inr x.2.2.2)))
def F65 (K : Nat) (x : Int × Int × Int × Int × Int × Int × Int × Int × Int × Int × Bool × Bool × (List UInt8) × Int × Int × (List UInt8) × Int × Bool × Int × (List UInt8) × (List UInt8) × (List Int) × Int) : Option (Bool) :=
  bindO (iter K (F65_b0 K) (([x.1, x.2.1, x.2.2.1, x.2.2.2.1, x.2.2.2.2.1, x.2.2.2.2.2.1, x.2.2.2.2.2.2.1, x.2.2.2.2.2.2.2.1].length : Int), 0, [x.1, x.2.1, x.2.2.1, x.2.2.2.1, x.2.2.2.2.1, x.2.2.2.2.2.1, x.2.2.2.2.2.2.1, x.2.2.2.2.2.2.2.1], x.1, x.2.1, x.2.2.1, x.2.2.2.1, x.2.2.2.2.1, x.2.2.2.2.2.1, x.2.2.2.2.2.2.1, x.2.2.2.2.2.2.2.1, x.2.2.2.2.2.2.2.2.1, x.2.2.2.2.2.2.2.2.2.1, x.2.2.2.2.2.2.2.2.2.2.1, x.2.2.2.2.2.2.2.2.2.2.2.1, x)) fun v0 =>
  csO v0
   (fun v1 => some v1)
   (fun v2 => bindO (F81 K v2.2.2.2.2.2.2.2.2.2.2.2.2.2.2.2.2.2.2.2.2.2.2.2.2.2.2.2.2.2.2.2.2.2.1) fun v3 =>
   branch v3
    (some false)
    (branch (decide ((Int.tmod v2.2.1 16) = 0))
     (bindO (F83 K v2.2.2.2.2.2.2.2.2.1) fun v4 =>
     branch v4
      (bindO (F83 K v2.2.2.2.2.2.2.2.2.2.1) fun v5 =>
      branch v5
       (bindO (F84 K (v2.2.2.2.2.2.2.2.2.2.2.2.2.2.2.2.2.2.2.2.2.2.2.2.2.1, v2.2.2.2.2.2.2.2.2.2.2.2.2.2.2.2.2.2.2.2.2.2.2.2.2.2.1, v2.2.2.2.2.2.2.2.2.2.2.2.2.2.2.2.2.2.2.2.2.2.2.2.2.2.2.1, v2.2.2.2.2.2.2.2.2.2.2.2.2.2.2.2.2.2.2.2.2.2.2.2.2.2.2.2.1, v2.2.2.2.2.2.2.2.2.2.2.2.2.2.2.2.2.2.2.2.2.2.2.2.2.2.2.2.2.1, v2.2.2.2.2.2.2.2.2.2.2.2.2.2.2.2.2.2.2.2.2.2.2.2.2.2.2.2.2.2.1, v2.2.2.2.2.2.2.2.2.2.2.2.2.2.2.2.2.2.2.2.2.2.2.2.2.2.2.2.2.2.2.1)) fun v6 =>
       branch v6
        (branch (decide ((v2.2.2.2.2.2.2.2.2.2.2.2.2.2.2.2.2.2.2.2.2.2.2.2.2.2.2.2.2.2.2.2.1.length : Int) = 256))
         (branch (decide ((v2.2.2.2.2.2.2.2.2.2.2.2.2.2.2.2.2.2.2.2.2.2.2.2.2.2.2.2.2.2.2.2.2.1.length : Int) = 127))
          (branch (decide ((v2.2.2.2.2.2.2.2.2.2.2.2.2.2.2.2.2.2.2.2.2.2.2.2.2.2.2.2.2.2.2.2.2.2.1.length : Int) ≤ 100))
           (bindO (F40 K (v2.2.2.2.2.2.2.2.2.2.2.2.2.2.2.2.2.2.2.2.2.2.2.2.2.2.2.2.2.2.2.2.2.2.2, 0, 1000000000)) fun v7 =>
           some v7)
           (some false))
          (some false))
         (some false))
        (some false))
       (some false))
      (some false))
     (some false)))
def ct65 (K : Nat) : Ct := ⟨[.agg [(.v (.i .i64)), (.v (.i .i64)), (.v (.i .i64)), (.v (.i .i64)), (.v (.i .i64)), (.v (.i .i64)), (.v (.i .i64)), (.v (.i .i64)), (.v (.i .i64)), (.v (.i .i64)), (.v .b), (.v .b), (.v .s), (.v (.i .i64)), (.v (.i .i64)), (.v .s), (.v (.i .i64)), (.v .b), (.v (.i .i64)), (.v .s), (.v .s), (.v (.l (.i .i64))), (.v (.i .i64))]], [], [.l (.v .b)], [], [], F65 K⟩
theorem c65 (K : Nat) : CtOk prog 65 (ct65 K) :=
  con_mk (Y := Y) (L := [(40, ct40 K), (41, ct41 K), (82, ct82 K), (81, ct81 K), (83, ct83 K), (84, ct84 K)]) (K := K) (an := (.seq .no (.seq .no (.seq (.seq .no (.blk (.loop [] ⟨(ru 1 (.l (.ptr 2000 0 0) :: ru 1 (.l (.ptr 4000 0 0) :: ru 20 (.l (.all 25000) :: .l (.v (.i .i64)) :: .l (.v (.i .i64)) :: ru 52 [])))), [(25000, ⟨1, true, .row (.i .i64)⟩), (4000, ⟨12, false, .mix (some 52) [[.l (.v (.i .i64)), .l (.v (.i .i64)), .l (.v (.i .i64)), .l (.v (.i .i64)), .l (.v (.i .i64)), .l (.v (.i .i64)), .l (.v (.i .i64)), .l (.v (.i .i64)), .l (.v (.i .i64)), .l (.v (.i .i64)), .l (.v .b), .l (.v .b)]]⟩), (2000, ⟨23, false, .mix (some 55) [[.l (.v (.i .i64)), .l (.v (.i .i64)), .l (.v (.i .i64)), .l (.v (.i .i64)), .l (.v (.i .i64)), .l (.v (.i .i64)), .l (.v (.i .i64)), .l (.v (.i .i64)), .l (.v (.i .i64)), .l (.v (.i .i64)), .l (.v .b), .l (.v .b), .l (.v .s), .l (.v (.i .i64)), .l (.v (.i .i64)), .l (.v .s), .l (.v (.i .i64)), .l (.v .b), .l (.v (.i .i64)), .l (.v .s), .l (.v .s), .l (.v (.l (.i .i64))), .l (.v (.i .i64))]]⟩)]⟩ [(0, ⟨(ru 1 (.l (.ptr 2000 0 0) :: ru 1 (.l (.ptr 4000 0 0) :: ru 75 []))), [(4000, ⟨12, false, .mix (some 52) [[.l (.v (.i .i64)), .l (.v (.i .i64)), .l (.v (.i .i64)), .l (.v (.i .i64)), .l (.v (.i .i64)), .l (.v (.i .i64)), .l (.v (.i .i64)), .l (.v (.i .i64)), .l (.v (.i .i64)), .l (.v (.i .i64)), .l (.v .b), .l (.v .b)]]⟩), (2000, ⟨23, false, .mix (some 55) [[.l (.v (.i .i64)), .l (.v (.i .i64)), .l (.v (.i .i64)), .l (.v (.i .i64)), .l (.v (.i .i64)), .l (.v (.i .i64)), .l (.v (.i .i64)), .l (.v (.i .i64)), .l (.v (.i .i64)), .l (.v (.i .i64)), .l (.v .b), .l (.v .b), .l (.v .s), .l (.v (.i .i64)), .l (.v (.i .i64)), .l (.v .s), .l (.v (.i .i64)), .l (.v .b), .l (.v (.i .i64)), .l (.v .s), .l (.v .s), .l (.v (.l (.i .i64))), .l (.v (.i .i64))]]⟩)]⟩)] true (.seq .no (.seq .no (.seq (.blk (.seq .no (.seq .no (.cond .no .no)))) .no)))))) (.seq (.seq .no (.cond .no .no)) .no))))) func65 mixed (ctabOk_cons (c40 K) (ctabOk_cons (c41 K) (ctabOk_cons (c82 K) (ctabOk_cons (c81 K) (ctabOk_cons (c83 K) (ctabOk_cons (c84 K) ctabOk_nil)))))) (by kernel_rfl) fun x => by kernel_rfl

-- (loop.example/g00460/impl.Cart).mapped
def F85 (K : Nat) (x : (List UInt8) × Int × Int × (List UInt8) × Int × Bool × Int) : Option (Int) :=
  guard (!(decide ((w64 (Int.tdiv (x.1.length : Int) 256)) = 0))) <|
  some (Int.tmod x.2.2.1 (w64 (Int.tdiv (x.1.length : Int) 256)))
def ct85 (K : Nat) : Ct := ⟨[.agg [(.v .s), (.v (.i .i64)), (.v (.i .i64)), (.v .s), (.v (.i .i64)), (.v .b), (.v (.i .i64))]], [], [.l (.v (.i .i64))], [], [], F85 K⟩
theorem c85 (K : Nat) : CtOk prog 85 (ct85 K) :=
  con_mk (Y := Y) (L := []) (K := K) (an := (.seq .no .no)) func85 mixed ctabOk_nil (by kernel_rfl) fun x => by kernel_rfl

-- loop.example/g00460/impl.at
def F66 (K : Nat) (x : Int × Int × Int × Int × Int × Int × Int × Int × Int × Int × Bool × Bool × (List UInt8) × Int × Int × (List UInt8) × Int × Bool × Int × (List UInt8) × (List UInt8) × (List Int) × Int) : Option (Int × Int) :=
  branch (decide (x.2.2.2.2.2.2.2.2.2.1 < 256))
   (some (0, x.2.2.2.2.2.2.2.2.2.1))
   (branch (decide (x.2.2.2.2.2.2.2.2.2.1 < 512))
    (bindO (F85 K (x.2.2.2.2.2.2.2.2.2.2.2.2.1, x.2.2.2.2.2.2.2.2.2.2.2.2.2.1, x.2.2.2.2.2.2.2.2.2.2.2.2.2.2.1, x.2.2.2.2.2.2.2.2.2.2.2.2.2.2.2.1, x.2.2.2.2.2.2.2.2.2.2.2.2.2.2.2.2.1, x.2.2.2.2.2.2.2.2.2.2.2.2.2.2.2.2.2.1, x.2.2.2.2.2.2.2.2.2.2.2.2.2.2.2.2.2.2.1)) fun v0 =>
    some (v0, x.2.2.2.2.2.2.2.2.2.1))
    (some ((-1), x.2.2.2.2.2.2.2.2.2.1)))
def ct66 (K : Nat) : Ct := ⟨[.agg [(.v (.i .i64)), (.v (.i .i64)), (.v (.i .i64)), (.v (.i .i64)), (.v (.i .i64)), (.v (.i .i64)), (.v (.i .i64)), (.v (.i .i64)), (.v (.i .i64)), (.v (.i .i64)), (.v .b), (.v .b), (.v .s), (.v (.i .i64)), (.v (.i .i64)), (.v .s), (.v (.i .i64)), (.v .b), (.v (.i .i64)), (.v .s), (.v .s), (.v (.l (.i .i64))), (.v (.i .i64))]], [], [.agg [(.v (.i .i64)), (.v (.i .i64))]], [], [], F66 K⟩
theorem c66 (K : Nat) : CtOk prog 66 (ct66 K) :=
  con_mk (Y := Y) (L := [(85, ct85 K)]) (K := K) (an := (.seq .no (.seq .no (.seq (.blk (.seq .no (.cond .no (.seq .no .no)))) .no)))) func66 mixed (ctabOk_cons (c85 K) ctabOk_nil) (by kernel_rfl) fun x => by kernel_rfl

-- loop.example/g00460/impl.At
def F33 (K : Nat) (x : Int × Int × Int × Int × Int × Int × Int × Int × Int × Int × Bool × Bool × (List UInt8) × Int × Int × (List UInt8) × Int × Bool × Int × (List UInt8) × (List UInt8) × (List Int) × Int) : Option (Int × Int) :=
  bindO (F65 K x) fun v0 =>
  branch (!v0)
   (some ((-1), (-1)))
   (bindO (F66 K x) fun v1 =>
   some v1)
def ct33 (K : Nat) : Ct := ⟨[.agg [(.v (.i .i64)), (.v (.i .i64)), (.v (.i .i64)), (.v (.i .i64)), (.v (.i .i64)), (.v (.i .i64)), (.v (.i .i64)), (.v (.i .i64)), (.v (.i .i64)), (.v (.i .i64)), (.v .b), (.v .b), (.v .s), (.v (.i .i64)), (.v (.i .i64)), (.v .s), (.v (.i .i64)), (.v .b), (.v (.i .i64)), (.v .s), (.v .s), (.v (.l (.i .i64))), (.v (.i .i64))]], [], [.agg [(.v (.i .i64)), (.v (.i .i64))]], [], [], F33 K⟩
theorem c33 (K : Nat) : CtOk prog 33 (ct33 K) :=
  con_mk (Y := Y) (L := [(65, ct65 K), (66, ct66 K)]) (K := K) (an := (.seq .no (.seq (.seq .no (.cond .no .no)) .no))) func33 mixed (ctabOk_cons (c65 K) (ctabOk_cons (c66 K) ctabOk_nil)) (by kernel_rfl) fun x => by kernel_rfl

-- loop.example/g00460/laws.eqStop
def F34 (K : Nat) (x : Int × Int × Int × Int) : Option (Bool) :=
  branch (!(decide (x.1 = x.2.2.1)))
   (some false)
   (branch (!(decide (x.2.1 = x.2.2.2)))
    (some false)
    (some true))
def ct34 (K : Nat) : Ct := ⟨[.agg [(.v (.i .i64)), (.v (.i .i64))], .agg [(.v (.i .i64)), (.v (.i .i64))]], [], [.l (.v .b)], [], [], F34 K⟩
theorem c34 (K : Nat) : CtOk prog 34 (ct34 K) :=
  con_mk (Y := Y) (L := []) (K := K) (an := (.seq .no (.seq (.seq .no (.cond .no .no)) (.seq (.seq .no (.cond .no .no)) .no)))) func34 mixed ctabOk_nil (by kernel_rfl) fun x => by kernel_rfl

-- loop.example/g00460/laws.eqCpu
def F67 (K : Nat) (x : Int × Int × Int × Int × Int × Int × Int × Int × Int × Int × Bool × Bool × Int × Int × Int × Int × Int × Int × Int × Int × Int × Int × Bool × Bool) : Option (Bool) :=
  branch (!(decide (x.1 = x.2.2.2.2.2.2.2.2.2.2.2.2.1)))
   (some false)
   (branch (!(decide (x.2.1 = x.2.2.2.2.2.2.2.2.2.2.2.2.2.1)))
    (some false)
    (branch (!(decide (x.2.2.1 = x.2.2.2.2.2.2.2.2.2.2.2.2.2.2.1)))
     (some false)
     (branch (!(decide (x.2.2.2.1 = x.2.2.2.2.2.2.2.2.2.2.2.2.2.2.2.1)))
      (some false)
      (branch (!(decide (x.2.2.2.2.1 = x.2.2.2.2.2.2.2.2.2.2.2.2.2.2.2.2.1)))
       (some false)
       (branch (!(decide (x.2.2.2.2.2.1 = x.2.2.2.2.2.2.2.2.2.2.2.2.2.2.2.2.2.1)))
        (some false)
        (branch (!(decide (x.2.2.2.2.2.2.1 = x.2.2.2.2.2.2.2.2.2.2.2.2.2.2.2.2.2.2.1)))
         (some false)
         (branch (!(decide (x.2.2.2.2.2.2.2.1 = x.2.2.2.2.2.2.2.2.2.2.2.2.2.2.2.2.2.2.2.1)))
          (some false)
          (branch (!(decide (x.2.2.2.2.2.2.2.2.1 = x.2.2.2.2.2.2.2.2.2.2.2.2.2.2.2.2.2.2.2.2.1)))
           (some false)
           (branch (!(decide (x.2.2.2.2.2.2.2.2.2.1 = x.2.2.2.2.2.2.2.2.2.2.2.2.2.2.2.2.2.2.2.2.2.1)))
            (some false)
            (branch (!(decide (x.2.2.2.2.2.2.2.2.2.2.1 = x.2.2.2.2.2.2.2.2.2.2.2.2.2.2.2.2.2.2.2.2.2.2.1)))
             (some false)
             (branch (!(decide (x.2.2.2.2.2.2.2.2.2.2.2.1 = x.2.2.2.2.2.2.2.2.2.2.2.2.2.2.2.2.2.2.2.2.2.2.2)))
              (some false)
              (some true))))))))))))
def ct67 (K : Nat) : Ct := ⟨[.agg [(.v (.i .i64)), (.v (.i .i64)), (.v (.i .i64)), (.v (.i .i64)), (.v (.i .i64)), (.v (.i .i64)), (.v (.i .i64)), (.v (.i .i64)), (.v (.i .i64)), (.v (.i .i64)), (.v .b), (.v .b)], .agg [(.v (.i .i64)), (.v (.i .i64)), (.v (.i .i64)), (.v (.i .i64)), (.v (.i .i64)), (.v (.i .i64)), (.v (.i .i64)), (.v (.i .i64)), (.v (.i .i64)), (.v (.i .i64)), (.v .b), (.v .b)]], [], [.l (.v .b)], [], [], F67 K⟩
theorem c67 (K : Nat) : CtOk prog 67 (ct67 K) :=
  con_mk (Y := Y) (L := []) (K := K) (an := (.seq .no (.seq (.seq .no (.cond .no .no)) (.seq (.seq .no (.cond .no .no)) (.seq (.seq .no (.cond .no .no)) (.seq (.seq .no (.cond .no .no)) (.seq (.seq .no (.cond .no .no)) (.seq (.seq .no (.cond .no .no)) (.seq (.seq .no (.cond .no .no)) (.seq (.seq .no (.cond .no .no)) (.seq (.seq .no (.cond .no .no)) (.seq (.seq .no (.cond .no .no)) (.seq (.seq .no (.cond .no .no)) (.seq (.seq .no (.cond .no .no)) .no)))))))))))))) func67 mixed ctabOk_nil (by kernel_rfl) fun x => by kernel_rfl

-- loop.example/g00460/laws.eqCart
def F68 (K : Nat) (x : (List UInt8) × Int × Int × (List UInt8) × Int × Bool × Int × (List UInt8) × Int × Int × (List UInt8) × Int × Bool × Int) : Option (Bool) :=
  branch (!(decide (x.1 = x.2.2.2.2.2.2.2.1)))
   (some false)
   (branch (!(decide (x.2.1 = x.2.2.2.2.2.2.2.2.1)))
    (some false)
    (branch (!(decide (x.2.2.1 = x.2.2.2.2.2.2.2.2.2.1)))
     (some false)
     (branch (!(decide (x.2.2.2.1 = x.2.2.2.2.2.2.2.2.2.2.1)))
      (some false)
      (branch (!(decide (x.2.2.2.2.1 = x.2.2.2.2.2.2.2.2.2.2.2.1)))
       (some false)
       (branch (!(decide (x.2.2.2.2.2.1 = x.2.2.2.2.2.2.2.2.2.2.2.2.1)))
        (some false)
        (branch (!(decide (x.2.2.2.2.2.2.1 = x.2.2.2.2.2.2.2.2.2.2.2.2.2)))
         (some false)
         (some true)))))))
def ct68 (K : Nat) : Ct := ⟨[.agg [(.v .s), (.v (.i .i64)), (.v (.i .i64)), (.v .s), (.v (.i .i64)), (.v .b), (.v (.i .i64))], .agg [(.v .s), (.v (.i .i64)), (.v (.i .i64)), (.v .s), (.v (.i .i64)), (.v .b), (.v (.i .i64))]], [], [.l (.v .b)], [], [], F68 K⟩
theorem c68 (K : Nat) : CtOk prog 68 (ct68 K) :=
  con_mk (Y := Y) (L := []) (K := K) (an := (.seq .no (.seq (.seq .no (.cond .no .no)) (.seq (.seq .no (.cond .no .no)) (.seq (.seq .no (.cond .no .no)) (.seq (.seq .no (.cond .no .no)) (.seq (.seq .no (.cond .no .no)) (.seq (.seq .no (.cond .no .no)) (.seq (.seq .no (.cond .no .no)) .no))))))))) func68 mixed ctabOk_nil (by kernel_rfl) fun x => by kernel_rfl

-- loop.example/g00460/laws.eqInt64S
def F69_b0 (K : Nat) (x : (List Int) × (List Int) × Int) : Option (((List Int) × (List Int) × Int) ⊕ (Bool ⊕ Unit)) :=
  branch (decide (x.2.2 < (x.1.length : Int)))
   (nth x.1 x.2.2 fun v0 =>
   nth x.2.1 x.2.2 fun v1 =>
   branch (!(decide (v0 = v1)))
    (some (.inr (.inl false)))
    (some (.inl (x.1, x.2.1, w64 (x.2.2 + 1)))))
   (some (.inr (.inr ())))
def F69 (K : Nat) (x : (List Int) × List Int) : Option (Bool) :=
  branch (!(decide ((x.1.length : Int) = (x.2.length : Int))))
   (some false)
   (bindO (iter K (F69_b0 K) (x.1, x.2, 0)) fun v0 =>
   csO v0
    (fun v1 => some v1)
    (fun v2 => some true))
def ct69 (K : Nat) : Ct := ⟨[.l (.v (.l (.i .i64))), .l (.v (.l (.i .i64)))], [], [.l (.v .b)], [], [], F69 K⟩
theorem c69 (K : Nat) : CtOk prog 69 (ct69 K) :=
  con_mk (Y := Y) (L := []) (K := K) (an := (.seq .no (.seq (.seq .no (.cond .no .no)) (.seq (.seq .no (.blk (.loop [] ⟨(.l (.v (.l (.i .i64))) :: .l (.v (.l (.i .i64))) :: ru 3 (.l (.v (.i .i64)) :: ru 20 [])), []⟩ [(0, ⟨(ru 26 []), []⟩)] true (.seq (.seq .no .no) (.seq (.blk (.seq .no (.cond .no .no))) .no))))) .no)))) func69 mixed ctabOk_nil (by kernel_rfl) fun x => by kernel_rfl

-- loop.example/g00460/laws.eqMachine
def F35 (K : Nat) (x : Int × Int × Int × Int × Int × Int × Int × Int × Int × Int × Bool × Bool × (List UInt8) × Int × Int × (List UInt8) × Int × Bool × Int × (List UInt8) × (List UInt8) × (List Int) × Int × Int × Int × Int × Int × Int × Int × Int × Int × Int × Int × Bool × Bool × (List UInt8) × Int × Int × (List UInt8) × Int × Bool × Int × (List UInt8) × (List UInt8) × (List Int) × Int) : Option (Bool) :=
  bindO (F67 K (x.1, x.2.1, x.2.2.1, x.2.2.2.1, x.2.2.2.2.1, x.2.2.2.2.2.1, x.2.2.2.2.2.2.1, x.2.2.2.2.2.2.2.1, x.2.2.2.2.2.2.2.2.1, x.2.2.2.2.2.2.2.2.2.1, x.2.2.2.2.2.2.2.2.2.2.1, x.2.2.2.2.2.2.2.2.2.2.2.1, x.2.2.2.2.2.2.2.2.2.2.2.2.2.2.2.2.2.2.2.2.2.2.2.1, x.2.2.2.2.2.2.2.2.2.2.2.2.2.2.2.2.2.2.2.2.2.2.2.2.1, x.2.2.2.2.2.2.2.2.2.2.2.2.2.2.2.2.2.2.2.2.2.2.2.2.2.1, x.2.2.2.2.2.2.2.2.2.2.2.2.2.2.2.2.2.2.2.2.2.2.2.2.2.2.1, x.2.2.2.2.2.2.2.2.2.2.2.2.2.2.2.2.2.2.2.2.2.2.2.2.2.2.2.1, x.2.2.2.2.2.2.2.2.2.2.2.2.2.2.2.2.2.2.2.2.2.2.2.2.2.2.2.2.1, x.2.2.2.2.2.2.2.2.2.2.2.2.2.2.2.2.2.2.2.2.2.2.2.2.2.2.2.2.2.1, x.2.2.2.2.2.2.2.2.2.2.2.2.2.2.2.2.2.2.2.2.2.2.2.2.2.2.2.2.2.2.1, x.2.2.2.2.2.2.2.2.2.2.2.2.2.2.2.2.2.2.2.2.2.2.2.2.2.2.2.2.2.2.2.1, x.2.2.2.2.2.2.2.2.2.2.2.2.2.2.2.2.2.2.2.2.2.2.2.2.2.2.2.2.2.2.2.2.1, x.2.2.2.2.2.2.2.2.2.2.2.2.2.2.2.2.2.2.2.2.2.2.2.2.2.2.2.2.2.2.2.2.2.1, x.2.2.2.2.2.2.2.2.2.2.2.2.2.2.2.2.2.2.2.2.2.2.2.2.2.2.2.2.2.2.2.2.2.2.1)) fun v0 =>
  branch (!v0)
   (some false)
   (bindO (F68 K (x.2.2.2.2.2.2.2.2.2.2.2.2.1, x.2.2.2.2.2.2.2.2.2.2.2.2.2.1, x.2.2.2.2.2.2.2.2.2.2.2.2.2.2.1, x.2.2.2.2.2.2.2.2.2.2.2.2.2.2.2.1, x.2.2.2.2.2.2.2.2.2.2.2.2.2.2.2.2.1, x.2.2.2.2.2.2.2.2.2.2.2.2.2.2.2.2.2.1, x.2.2.2.2.2.2.2.2.2.2.2.2.2.2.2.2.2.2.1, x.2.2.2.2.2.2.2.2.2.2.2.2.2.2.2.2.2.2.2.2.2.2.2.2.2.2.2.2.2.2.2.2.2.2.2.1, x.2.2.2.2.2.2.2.2.2.2.2.2.2.2.2.2.2.2.2.2.2.2.2.2.2.2.2.2.2.2.2.2.2.2.2.2.1, x.2.2.2.2.2.2.2.2.2.2.2.2.2.2.2.2.2.2.2.2.2.2.2.2.2.2.2.2.2.2.2.2.2.2.2.2.2.1, x.2.2.2.2.2.2.2.2.2.2.2.2.2.2.2.2.2.2.2.2.2.2.2.2.2.2.2.2.2.2.2.2.2.2.2.2.2.2.1, x.2.2.2.2.2.2.2.2.2.2.2.2.2.2.2.2.2.2.2.2.2.2.2.2.2.2.2.2.2.2.2.2.2.2.2.2.2.2.2.1, x.2.2.2.2.2.2.2.2.2.2.2.2.2.2.2.2.2.2.2.2.2.2.2.2.2.2.2.2.2.2.2.2.2.2.2.2.2.2.2.2.1, x.2.2.2.2.2.2.2.2.2.2.2.2.2.2.2.2.2.2.2.2.2.2.2.2.2.2.2.2.2.2.2.2.2.2.2.2.2.2.2.2.2.1)) fun v1 =>
   branch (!v1)
    (some false)
    (branch (!(decide (x.2.2.2.2.2.2.2.2.2.2.2.2.2.2.2.2.2.2.2.1 = x.2.2.2.2.2.2.2.2.2.2.2.2.2.2.2.2.2.2.2.2.2.2.2.2.2.2.2.2.2.2.2.2.2.2.2.2.2.2.2.2.2.2.1)))
     (some false)
     (branch (!(decide (x.2.2.2.2.2.2.2.2.2.2.2.2.2.2.2.2.2.2.2.2.1 = x.2.2.2.2.2.2.2.2.2.2.2.2.2.2.2.2.2.2.2.2.2.2.2.2.2.2.2.2.2.2.2.2.2.2.2.2.2.2.2.2.2.2.2.1)))
      (some false)
      (bindO (F69 K (x.2.2.2.2.2.2.2.2.2.2.2.2.2.2.2.2.2.2.2.2.2.1, x.2.2.2.2.2.2.2.2.2.2.2.2.2.2.2.2.2.2.2.2.2.2.2.2.2.2.2.2.2.2.2.2.2.2.2.2.2.2.2.2.2.2.2.2.1)) fun v2 =>
      branch (!v2)
       (some false)
       (branch (!(decide (x.2.2.2.2.2.2.2.2.2.2.2.2.2.2.2.2.2.2.2.2.2.2.1 = x.2.2.2.2.2.2.2.2.2.2.2.2.2.2.2.2.2.2.2.2.2.2.2.2.2.2.2.2.2.2.2.2.2.2.2.2.2.2.2.2.2.2.2.2.2)))
        (some false)
        (some true))))))
def ct35 (K : Nat) : Ct := ⟨[.agg [(.v (.i .i64)), (.v (.i .i64)), (.v (.i .i64)), (.v (.i .i64)), (.v (.i .i64)), (.v (.i .i64)), (.v (.i .i64)), (.v (.i .i64)), (.v (.i .i64)), (.v (.i .i64)), (.v .b), (.v .b), (.v .s), (.v (.i .i64)), (.v (.i .i64)), (.v .s), (.v (.i .i64)), (.v .b), (.v (.i .i64)), (.v .s), (.v .s), (.v (.l (.i .i64))), (.v (.i .i64))], .agg [(.v (.i .i64)), (.v (.i .i64)), (.v (.i .i64)), (.v (.i .i64)), (.v (.i .i64)), (.v (.i .i64)), (.v (.i .i64)), (.v (.i .i64)), (.v (.i .i64)), (.v (.i .i64)), (.v .b), (.v .b), (.v .s), (.v (.i .i64)), (.v (.i .i64)), (.v .s), (.v (.i .i64)), (.v .b), (.v (.i .i64)), (.v .s), (.v .s), (.v (.l (.i .i64))), (.v (.i .i64))]], [], [.l (.v .b)], [], [], F35 K⟩
theorem c35 (K : Nat) : CtOk prog 35 (ct35 K) :=
  con_mk (Y := Y) (L := [(67, ct67 K), (68, ct68 K), (69, ct69 K)]) (K := K) (an := (.seq .no (.seq (.seq .no (.cond .no .no)) (.seq (.seq .no (.cond .no .no)) (.seq (.seq .no (.cond .no .no)) (.seq (.seq .no (.cond .no .no)) (.seq (.seq .no (.cond .no .no)) (.seq (.seq .no (.cond .no .no)) .no)))))))) func35 mixed (ctabOk_cons (c67 K) (ctabOk_cons (c68 K) (ctabOk_cons (c69 K) ctabOk_nil))) (by kernel_rfl) fun x => by kernel_rfl

-- loop.example/g00460/laws.FnExactAt
def F11 (K : Nat) (x : Int × Int × Int × Int × Int × Int × Int × Int × Int × Int × Bool × Bool × (List UInt8) × Int × Int × (List UInt8) × Int × Bool × Int × (List UInt8) × (List UInt8) × (List Int) × Int) : Option (Bool) :=
  bindO (F30 K (x.1, x.2.1, x.2.2.1, x.2.2.2.1, x.2.2.2.2.1, x.2.2.2.2.2.1, x.2.2.2.2.2.2.1, x.2.2.2.2.2.2.2.1, x.2.2.2.2.2.2.2.2.1, x.2.2.2.2.2.2.2.2.2.1, x.2.2.2.2.2.2.2.2.2.2.1, x.2.2.2.2.2.2.2.2.2.2.2.1, x.2.2.2.2.2.2.2.2.2.2.2.2.1, x.2.2.2.2.2.2.2.2.2.2.2.2.2.1, x.2.2.2.2.2.2.2.2.2.2.2.2.2.2.1, x.2.2.2.2.2.2.2.2.2.2.2.2.2.2.2.1, x.2.2.2.2.2.2.2.2.2.2.2.2.2.2.2.2.1, x.2.2.2.2.2.2.2.2.2.2.2.2.2.2.2.2.2.1, x.2.2.2.2.2.2.2.2.2.2.2.2.2.2.2.2.2.2.1, x.2.2.2.2.2.2.2.2.2.2.2.2.2.2.2.2.2.2.2.1, x.2.2.2.2.2.2.2.2.2.2.2.2.2.2.2.2.2.2.2.2.1, x.2.2.2.2.2.2.2.2.2.2.2.2.2.2.2.2.2.2.2.2.2.1, x.2.2.2.2.2.2.2.2.2.2.2.2.2.2.2.2.2.2.2.2.2.2, 1048576)) fun v0 =>
  branch (decide (v0 < 0))
   (some true)
   (bindO (F32 K x) fun v1 =>
   bindO (F31 K v1) fun v2 =>
   bindO (F32 K x) fun v3 =>
   bindO (F33 K v3) fun v4 =>
   bindO (F34 K (v4.1, v4.2, v2)) fun v5 =>
   branch (!v5)
    (some false)
    (bindO (F32 K x) fun v6 =>
    bindO (F35 K (v3.1, v3.2.1, v3.2.2.1, v3.2.2.2.1, v3.2.2.2.2.1, v3.2.2.2.2.2.1, v3.2.2.2.2.2.2.1, v3.2.2.2.2.2.2.2.1, v3.2.2.2.2.2.2.2.2.1, v3.2.2.2.2.2.2.2.2.2.1, v3.2.2.2.2.2.2.2.2.2.2.1, v3.2.2.2.2.2.2.2.2.2.2.2.1, v3.2.2.2.2.2.2.2.2.2.2.2.2.1, v3.2.2.2.2.2.2.2.2.2.2.2.2.2.1, v3.2.2.2.2.2.2.2.2.2.2.2.2.2.2.1, v3.2.2.2.2.2.2.2.2.2.2.2.2.2.2.2.1, v3.2.2.2.2.2.2.2.2.2.2.2.2.2.2.2.2.1, v3.2.2.2.2.2.2.2.2.2.2.2.2.2.2.2.2.2.1, v3.2.2.2.2.2.2.2.2.2.2.2.2.2.2.2.2.2.2.1, v3.2.2.2.2.2.2.2.2.2.2.2.2.2.2.2.2.2.2.2.1, v3.2.2.2.2.2.2.2.2.2.2.2.2.2.2.2.2.2.2.2.2.1, v3.2.2.2.2.2.2.2.2.2.2.2.2.2.2.2.2.2.2.2.2.2.1, v3.2.2.2.2.2.2.2.2.2.2.2.2.2.2.2.2.2.2.2.2.2.2, v6)) fun v7 =>
    branch (!v7)
     (some false)
     (some true)))
def ct11 (K : Nat) : Ct := ⟨[.agg [(.v (.i .i64)), (.v (.i .i64)), (.v (.i .i64)), (.v (.i .i64)), (.v (.i .i64)), (.v (.i .i64)), (.v (.i .i64)), (.v (.i .i64)), (.v (.i .i64)), (.v (.i .i64)), (.v .b), (.v .b), (.v .s), (.v (.i .i64)), (.v (.i .i64)), (.v .s), (.v (.i .i64)), (.v .b), (.v (.i .i64)), (.v .s), (.v .s), (.v (.l (.i .i64))), (.v (.i .i64))]], [], [.l (.v .b)], [], [], F11 K⟩
theorem c11 (K : Nat) : CtOk prog 11 (ct11 K) :=
  con_mk (Y := Y) (L := [(30, ct30 K), (32, ct32 K), (31, ct31 K), (33, ct33 K), (34, ct34 K), (35, ct35 K)]) (K := K) (an := (.seq .no (.seq .no (.seq .no (.seq (.seq .no (.cond .no .no)) (.seq .no (.seq .no (.seq .no (.seq (.seq .no (.cond .no .no)) (.seq (.seq .no (.cond .no .no)) .no)))))))))) func11 mixed (ctabOk_cons (c30 K) (ctabOk_cons (c32 K) (ctabOk_cons (c31 K) (ctabOk_cons (c33 K) (ctabOk_cons (c34 K) (ctabOk_cons (c35 K) ctabOk_nil)))))) (by kernel_rfl) fun x => by kernel_rfl

def T47 : Ty := (.c (.c (.i .i64) (.c (.i .i64) (.c (.i .i64) (.c (.i .i64) (.c (.i .i64) (.c (.i .i64) (.c (.i .i64) (.c (.i .i64) (.c (.i .i64) (.c (.i .i64) (.c .b .b))))))))))) (.c (.c .s (.c (.i .i64) (.c (.i .i64) (.c .s (.c (.i .i64) (.c .b (.i .i64))))))) (.c .s (.c .s (.c (.l (.i .i64)) (.i .i64))))))
theorem tl47 : tyL prog 64 47 = some T47 := by kernel_rfl
def A11 (K : Nat) (a0 : T47.den) : Option Bool := F11 K (a0.1.1, a0.1.2.1, a0.1.2.2.1, a0.1.2.2.2.1, a0.1.2.2.2.2.1, a0.1.2.2.2.2.2.1, a0.1.2.2.2.2.2.2.1, a0.1.2.2.2.2.2.2.2.1, a0.1.2.2.2.2.2.2.2.2.1, a0.1.2.2.2.2.2.2.2.2.2.1, a0.1.2.2.2.2.2.2.2.2.2.2.1, a0.1.2.2.2.2.2.2.2.2.2.2.2, a0.2.1.1, a0.2.1.2.1, a0.2.1.2.2.1, a0.2.1.2.2.2.1, a0.2.1.2.2.2.2.1, a0.2.1.2.2.2.2.2.1, a0.2.1.2.2.2.2.2.2, a0.2.2.1, a0.2.2.2.1, a0.2.2.2.2.1, a0.2.2.2.2.2)
theorem fun11 (K : Nat) (a0 : T47.den) : funOf (ct11 K) [.agg ((Ty.enc T47 a0).map SV.d)] [] = bindO (A11 K a0) fun r => some ([.d (.b r)], []) := by kernel_rfl
end Go.U.Try
