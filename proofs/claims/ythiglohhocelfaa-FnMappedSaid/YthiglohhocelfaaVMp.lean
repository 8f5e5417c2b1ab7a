/- The functions that the laws of Unmapped and Mapped reach, told. No condition. -/
import Derived.Test.YthiglohhocelfaaUYe
import Derived.Laws.Externs
import Derived.Test.YthiglohhocelfaaProg
set_option linter.unusedVariables false
set_option linter.unusedSimpArgs false
namespace Go.U.Try
open Go Go.U Go.Proofs Go.Proofs.Try
set_option maxRecDepth 100000
set_option linter.unusedVariables false
theorem ty9 : tyOf prog 9 = some ⟨.str, 1, 16, [.str []], some .s⟩ := by kernel_rfl
theorem ty39 : tyOf prog 39 = some ⟨.st [(0, (9, 1)), (1, (2, 1))], 2, 24, [.str [], .i .i64 0], some (.c .s (.i .i64))⟩ := by kernel_rfl
theorem ty2 : tyOf prog 2 = some ⟨.int .i64, 1, 8, [.i .i64 0], some (.i .i64)⟩ := by kernel_rfl
theorem ty3 : tyOf prog 3 = some ⟨.int .i64, 1, 8, [.i .i64 0], some (.i .i64)⟩ := by kernel_rfl
theorem ty25 : tyOf prog 25 = some ⟨.sl 39, 1, 24, [.emp], some (.l (.c .s (.i .i64)))⟩ := by kernel_rfl
theorem ty34 : tyOf prog 34 = some ⟨.sl 5, 1, 24, [.emp], some (.l (.i .u8))⟩ := by kernel_rfl
theorem ty5 : tyOf prog 5 = some ⟨.int .u8, 1, 1, [.i .u8 0], some (.i .u8)⟩ := by kernel_rfl
theorem ty61 : tyOf prog 61 = some ⟨.st [(0, (9, 1)), (1, (2, 1))], 2, 24, [.str [], .i .i64 0], some (.c .s (.i .i64))⟩ := by kernel_rfl
theorem ty4 : tyOf prog 4 = some ⟨.bool, 1, 1, [.b false], some .b⟩ := by kernel_rfl
theorem ty67 : tyOf prog 67 = some ⟨.ptr 69, 1, 8, [.nilp], none⟩ := by kernel_rfl
theorem ty78 : tyOf prog 78 = some ⟨.ptr 102, 1, 8, [.nilp], none⟩ := by kernel_rfl
theorem ty69 : tyOf prog 69 = some ⟨.st [(0, (67, 1)), (1, (34, 1))], 2, 32, [.nilp, .emp], none⟩ := by kernel_rfl
theorem ty22 : tyOf prog 22 = some ⟨.sl 61, 1, 24, [.emp], some (.l (.c .s (.i .i64)))⟩ := by kernel_rfl
theorem ty102 : tyOf prog 102 = some ⟨.st [(0, (34, 1)), (1, (3, 1))], 2, 32, [.emp, .i .i64 0], some (.c (.l (.i .u8)) (.i .i64))⟩ := by kernel_rfl
theorem ty116 : tyOf prog 116 = some ⟨.int .u64, 1, 8, [.i .u64 0], some (.i .u64)⟩ := by kernel_rfl
theorem ty84 : tyOf prog 84 = some ⟨.sl 9, 1, 24, [.emp], some (.l .s)⟩ := by kernel_rfl
theorem ty111 : tyOf prog 111 = some ⟨.up, 1, 8, [.nilp], none⟩ := by kernel_rfl
theorem ty45 : tyOf prog 45 = some ⟨.sl 2, 1, 24, [.emp], some (.l (.i .i64))⟩ := by kernel_rfl
theorem ty100 : tyOf prog 100 = some ⟨.ptr 5, 1, 8, [.nilp], none⟩ := by kernel_rfl
def Y : TT prog := mkTT _ (tys_cons ty9 (tys_cons ty39 (tys_cons ty2 (tys_cons ty3 (tys_cons ty25 (tys_cons ty34 (tys_cons ty5 (tys_cons ty61 (tys_cons ty4 (tys_cons ty67 (tys_cons ty78 (tys_cons ty69 (tys_cons ty22 (tys_cons ty102 (tys_cons ty116 (tys_cons ty84 (tys_cons ty111 (tys_cons ty45 (tys_cons ty100 tys_nil)))))))))))))))))))
theorem mixed : prog.follows .mixedOrders = true := by kernel_rfl
def F86 (K : Nat) (x : List Int) : Option (List Int) := some x
def ct86 (K : Nat) : Ct := ⟨[.l (.ptr 0 0 0)], bldH 69 5 .nilp, [.l (.ptr 0 0 0)], bldH 69 5 .nilp, [], F86 K⟩
theorem c86 (K : Nat) : CtOk prog 86 (ct86 K) := ct_noEscape fun v w => by rw [run_callFunc_extern func86 (by kernel_rfl) (by kernel_rfl) (by kernel_rfl) (e := Extern.AbiNoEscape.same) (by kernel_rfl)]; rfl

-- (*strings.Builder).copyCheck
def F72A (K : Nat) (x : List Int) : Option (List Int) :=
  bindO (F86 K x) fun v0 =>
  some v0
def ct72A (K : Nat) : Ct := ⟨[.l (.ptr 0 0 0)], [⟨2, false, .mix (some 69) [[.l .nilp, .l (.bb 1)]]⟩, ⟨1, true, .row (.y 5)⟩], [], [⟨2, false, .mix (some 69) [[.l (.pon 0 0 0), .l (.bb 1)]]⟩, ⟨1, true, .row (.y 5)⟩], [], F72A K⟩
theorem c72A (K : Nat) : CtOk prog 72 (ct72A K) :=
  con_mk (Y := Y) (L := [(86, ct86 K)]) (K := K) (an := (.seq .no (.cond .no (.seq .no .no)))) func72 mixed (ctabOk_cons (c86 K) ctabOk_nil) (by kernel_rfl) fun x => by kernel_rfl

-- (*strings.Builder).copyCheck
def F72B (K : Nat) (x : List Int) : Option (List Int) :=
  some x
def ct72B (K : Nat) : Ct := ⟨[.l (.ptr 0 0 0)], [⟨2, false, .mix (some 69) [[.l (.ptr 0 0 0), .l (.bb 1)]]⟩, ⟨1, true, .row (.y 5)⟩], [], [⟨2, false, .mix (some 69) [[.l (.pon 0 0 0), .l (.bb 1)]]⟩, ⟨1, true, .row (.y 5)⟩], [], F72B K⟩
theorem c72B (K : Nat) : CtOk prog 72 (ct72B K) :=
  con_mk (Y := Y) (L := [(86, ct86 K)]) (K := K) (an := (.seq .no (.cond .no (.seq .no .no)))) func72 mixed (ctabOk_cons (c86 K) ctabOk_nil) (by kernel_rfl) fun x => by kernel_rfl

def F72 (K : Nat) (x : List Int) : Option (List Int) := some x
def ct72 (K : Nat) : Ct := ⟨[.l (.ptr 0 0 0)], bldH 69 5 (.pon 0 0 0), [], bldH 69 5 (.pon 0 0 0), [], F72 K⟩
theorem c72 (K : Nat) : CtOk prog 72 (ct72 K) := ct_bld (ps := [.l (.ptr 0 0 0)]) (T := 69) (e := 5) (rs := []) (hr := bldH 69 5 (.pon 0 0 0)) (refs := []) (F := F72 K) (c72A K) (c72B K)

-- loop.example/g00460/impl.Unmapped$1
def F49 (K : Nat) (x : (List UInt8) × Int × Int) : Option (Bool × Int) :=
  some (decide (x.2.1 = (w64 x.2.2)), x.2.2)
def ct49 (K : Nat) : Ct := ⟨[.agg [(.v .s), (.v (.i .i64))], .l (.ptr 0 0 0)], [⟨1, false, .mix (some 5) [[.l (.v (.i .u8))]]⟩], [.l (.v .b)], [⟨1, false, .mix (some 5) [[.l (.v (.i .u8))]]⟩], [], F49 K⟩
theorem c49 (K : Nat) : CtOk prog 49 (ct49 K) :=
  con_mk (Y := Y) (L := []) (K := K) (an := (.seq .no .no)) func49 mixed ctabOk_nil (by kernel_rfl) fun x => by kernel_rfl

-- slices.IndexFunc[[]loop.example/g00460/impl.Pair,loop.example/g00460/impl.Pair]
def F48_b0 (K : Nat) (x : (List ((List UInt8) × Int)) × Int × Int × Int) : Option (((List ((List UInt8) × Int)) × Int × Int × Int) ⊕ ((Int × Int) ⊕ Int)) :=
  branch (decide (x.2.2.1 < x.2.1))
   (nth x.1 x.2.2.1 fun v0 =>
   bindO (F49 K (v0.1, v0.2, x.2.2.2)) fun v1 =>
   branch v1.1
    (some (.inr (.inl (x.2.2.1, v1.2))))
    (some (.inl (x.1, x.2.1, w64 (x.2.2.1 + 1), v1.2))))
   (some (.inr (.inr x.2.2.2)))
def F48 (K : Nat) (x : (List ((List UInt8) × Int)) × Int) : Option (Int × Int) :=
  bindO (iter K (F48_b0 K) (x.1, (x.1.length : Int), 0, x.2)) fun v0 =>
  csO v0
   (fun v1 => some v1)
   (fun v2 => some ((-1), v2))
def ct48 (K : Nat) : Ct := ⟨[.l (.v (.l (.c .s (.i .i64)))), .clo 49 [(.ptr 0 0 0)]], [⟨1, false, .mix (some 5) [[.l (.v (.i .u8))]]⟩], [.l (.v (.i .i64))], [⟨1, false, .mix (some 5) [[.l (.v (.i .u8))]]⟩], [], F48 K⟩
theorem c48 (K : Nat) : CtOk prog 48 (ct48 K) :=
  con_mk (Y := Y) (L := [(49, ct49 K)]) (K := K) (an := (.seq .no (.seq (.seq .no (.blk (.loop [] ⟨(.l (.v (.l (.c .s (.i .i64)))) :: .clo 49 [(.ptr 0 0 0)] :: ru 5 (.l (.v (.i .i64)) :: .l (.v (.i .i64)) :: ru 10 [])), [(0, ⟨1, false, .mix (some 5) [[.l (.v (.i .u8))]]⟩)]⟩ [(0, ⟨(ru 19 []), [(0, ⟨1, false, .mix (some 5) [[.l (.v (.i .u8))]]⟩)]⟩)] true (.seq .no (.seq .no (.seq (.blk (.seq .no (.seq .no (.cond .no .no)))) .no)))))) .no))) func48 mixed (ctabOk_cons (c49 K) ctabOk_nil) (by kernel_rfl) fun x => by kernel_rfl

-- (*strings.Builder).WriteString
def F45 (K : Nat) (x : (List UInt8) × List Int) : Option (Int × Bool × List Int) :=
  bindO (F72 K x.2) fun v0 =>
  guard (fitN (v0.length + ((ofB x.1).length)) 1) <|
  some ((x.1.length : Int), false, v0 ++ (ofB x.1))
def ct45 (K : Nat) : Ct := ⟨[.l (.ptr 0 0 0), .l (.v .s)], [⟨2, false, .mix (some 69) [[.l (.pon 0 0 0), .l (.bb 1)]]⟩, ⟨1, true, .row (.y 5)⟩], [.l (.v (.i .i64)), .l (.v .e)], [⟨2, false, .mix (some 69) [[.l (.pon 0 0 0), .l (.bb 1)]]⟩, ⟨1, true, .row (.y 5)⟩], [], F45 K⟩
theorem c45 (K : Nat) : CtOk prog 45 (ct45 K) :=
  con_mk (Y := Y) (L := [(72, ct72 K)]) (K := K) (an := (.seq .no (.seq .no (.seq .no .no)))) func45 mixed (ctabOk_cons (c72 K) ctabOk_nil) (by kernel_rfl) fun x => by kernel_rfl

-- (*strings.Builder).String
def F47 (K : Nat) (x : List Int) : Option ((List UInt8) × List Int) :=
  branch (decide (0 < x.length))
   (guard (decide ((x.length : Int) = (x.length : Int) ∧ 0 < x.length ∧ x.length ≤ 9223372036854775807)) <|
   some (toB x, x))
   (guard (decide ((x.length : Int) = 0)) <|
   some ([], x))
def ct47 (K : Nat) : Ct := ⟨[.l (.ptr 0 0 0)], [⟨2, false, .mix (some 69) [[.l (.pon 0 0 0), .l (.bb 1)]]⟩, ⟨1, true, .row (.y 5)⟩], [.l (.v .s)], [⟨2, false, .mix (some 69) [[.l (.pon 0 0 0), .l (.bb 1)]]⟩, ⟨1, true, .row (.y 5)⟩], [], F47 K⟩
theorem c47 (K : Nat) : CtOk prog 47 (ct47 K) :=
  con_mk (Y := Y) (L := []) (K := K) (an := (.seq .no (.seq (.reg [4, 10] []) .no))) func47 mixed ctabOk_nil (by kernel_rfl) fun x => by kernel_rfl

-- (*strings.Builder).Len
def F56 (K : Nat) (x : List Int) : Option (Int × List Int) :=
  some ((x.length : Int), x)
def ct56 (K : Nat) : Ct := ⟨[.l (.ptr 0 0 0)], [⟨2, false, .mix (some 69) [[.l (.pon 0 0 0), .l (.bb 1)]]⟩, ⟨1, true, .row (.y 5)⟩], [.l (.v (.i .i64))], [⟨2, false, .mix (some 69) [[.l (.pon 0 0 0), .l (.bb 1)]]⟩, ⟨1, true, .row (.y 5)⟩], [], F56 K⟩
theorem c56 (K : Nat) : CtOk prog 56 (ct56 K) :=
  con_mk (Y := Y) (L := []) (K := K) (an := (.seq .no .no)) func56 mixed ctabOk_nil (by kernel_rfl) fun x => by kernel_rfl

-- loop.example/g00460/spec.l1In
def F71 (K : Nat) (x : Int × Int × Int) : Option (Bool) :=
  branch (decide (x.2.1 ≤ x.1))
   (some (decide (x.1 ≤ x.2.2)))
   (some false)
def ct71 (K : Nat) : Ct := ⟨[.l (.v (.i .i64)), .l (.v (.i .i64)), .l (.v (.i .i64))], [], [.l (.v .b)], [], [], F71 K⟩
theorem c71 (K : Nat) : CtOk prog 71 (ct71 K) :=
  con_mk (Y := Y) (L := []) (K := K) (an := (.seq .no .no)) func71 mixed ctabOk_nil (by kernel_rfl) fun x => by kernel_rfl

-- loop.example/g00460/spec.l4Byte
def F38 (K : Nat) (x : Int) : Option (Bool) :=
  bindO (F71 K (x, 0, 255)) fun v0 =>
  some v0
def ct38 (K : Nat) : Ct := ⟨[.l (.v (.i .i64))], [], [.l (.v .b)], [], [], F38 K⟩
theorem c38 (K : Nat) : CtOk prog 38 (ct38 K) :=
  con_mk (Y := Y) (L := [(71, ct71 K)]) (K := K) (an := (.seq .no .no)) func38 mixed (ctabOk_cons (c71 K) ctabOk_nil) (by kernel_rfl) fun x => by kernel_rfl

-- loop.example/g00460/impl.within
def F40 (K : Nat) (x : Int × Int × Int) : Option (Bool) :=
  branch (decide (x.2.1 ≤ x.1))
   (some (decide (x.1 ≤ x.2.2)))
   (some false)
def ct40 (K : Nat) : Ct := ⟨[.l (.v (.i .i64)), .l (.v (.i .i64)), .l (.v (.i .i64))], [], [.l (.v .b)], [], [], F40 K⟩
theorem c40 (K : Nat) : CtOk prog 40 (ct40 K) :=
  con_mk (Y := Y) (L := []) (K := K) (an := (.seq .no .no)) func40 mixed ctabOk_nil (by kernel_rfl) fun x => by kernel_rfl

-- loop.example/g00460/impl.isByte
def F41 (K : Nat) (x : Int) : Option (Bool) :=
  bindO (F40 K (x, 0, 255)) fun v0 =>
  some v0
def ct41 (K : Nat) : Ct := ⟨[.l (.v (.i .i64))], [], [.l (.v .b)], [], [], F41 K⟩
theorem c41 (K : Nat) : CtOk prog 41 (ct41 K) :=
  con_mk (Y := Y) (L := [(40, ct40 K)]) (K := K) (an := (.seq .no .no)) func41 mixed (ctabOk_cons (c40 K) ctabOk_nil) (by kernel_rfl) fun x => by kernel_rfl

-- loop.example/g00460/spec.CharsOk
def F14_b0 (K : Nat) (x : (List ((List UInt8) × Int)) × Int) : Option (((List ((List UInt8) × Int)) × Int) ⊕ (Bool ⊕ (List ((List UInt8) × Int)))) :=
  branch (decide (x.2 < (x.1.length : Int)))
   (bindO (nth x.1 x.2 fun v0 =>
     branch (decide ((v0.1.length : Int) < 1))
      (some (x.1, x.2, true))
      (nth x.1 x.2 fun v1 =>
      branch (decide (4 < (v1.1.length : Int)))
       (some (x.1, x.2, true))
       (nth x.1 x.2 fun v2 =>
       bindO (F38 K v2.2) fun v3 =>
       branch (!v3)
        (some (x.1, x.2, true))
        (branch (decide (0 < x.2))
         (nth x.1 (w64 (x.2 - 1)) fun v4 =>
         nth x.1 x.2 fun v5 =>
         some (x.1, x.2, !(Go.Op.bytesLess v4.1 v5.1)))
         (some (x.1, x.2, false)))))) fun v6 =>
   branch v6.2.2
    (some (.inr (.inl false)))
    (some (.inl (v6.1, w64 (v6.2.1 + 1)))))
   (some (.inr (.inr x.1)))
def F14 (K : Nat) (x : List ((List UInt8) × Int)) : Option (Bool) :=
  bindO (iter K (F14_b0 K) (x, 0)) fun v0 =>
  csO v0
   (fun v1 => some v1)
   (fun v2 => some (decide ((v2.length : Int) ≤ 16)))
def ct14 (K : Nat) : Ct := ⟨[.l (.v (.l (.c .s (.i .i64))))], [], [.l (.v .b)], [], [], F14 K⟩
theorem c14 (K : Nat) : CtOk prog 14 (ct14 K) :=
  con_mk (Y := Y) (L := [(38, ct38 K)]) (K := K) (an := (.seq .no (.seq (.seq .no (.blk (.loop [] ⟨(.l (.v (.l (.c .s (.i .i64)))) :: ru 2 (.l (.v (.i .i64)) :: ru 52 [])), []⟩ [(0, ⟨(.l (.v (.l (.c .s (.i .i64)))) :: ru 55 []), []⟩)] true (.seq (.seq .no .no) (.seq (.blk (.seqJ [(1000000, ⟨(.l (.v (.l (.c .s (.i .i64)))) :: ru 2 (.l (.v (.i .i64)) :: ru 48 (.l (.v .b) :: ru 3 []))), []⟩)] false .no (.cond .no .no))) .no))))) .no))) func14 mixed (ctabOk_cons (c38 K) ctabOk_nil) (by kernel_rfl) fun x => by kernel_rfl

-- loop.example/g00460/impl.CharsOk
def F16_b0 (K : Nat) (x : (List ((List UInt8) × Int)) × (List ((List UInt8) × Int)) × Int × Int) : Option (((List ((List UInt8) × Int)) × (List ((List UInt8) × Int)) × Int × Int) ⊕ (Bool ⊕ (List ((List UInt8) × Int)))) :=
  branch (decide (x.2.2.2 < x.2.2.1))
   (nth x.2.1 x.2.2.2 fun v0 =>
   bindO (bindO (F40 K ((v0.1.length : Int), 1, 4)) fun v1 =>
     branch (!v1)
      (some (x.1, x.2.1, x.2.2.1, x.2.2.2, true))
      (bindO (F41 K v0.2) fun v2 =>
      branch (!v2)
       (some (x.1, x.2.1, x.2.2.1, x.2.2.2, true))
       (branch (decide (0 < x.2.2.2))
        (nth x.1 (w64 (x.2.2.2 - 1)) fun v3 =>
        some (x.1, x.2.1, x.2.2.1, x.2.2.2, (Go.Op.bytesLess v0.1 v3.1) || (decide (v0.1 = v3.1))))
        (some (x.1, x.2.1, x.2.2.1, x.2.2.2, false))))) fun v4 =>
   branch v4.2.2.2.2
    (some (.inr (.inl false)))
    (some (.inl (v4.1, v4.2.1, v4.2.2.1, w64 (v4.2.2.2.1 + 1)))))
   (some (.inr (.inr x.1)))
def F16 (K : Nat) (x : List ((List UInt8) × Int)) : Option (Bool) :=
  bindO (iter K (F16_b0 K) (x, x, (x.length : Int), 0)) fun v0 =>
  csO v0
   (fun v1 => some v1)
   (fun v2 => some (decide ((v2.length : Int) ≤ 16)))
def ct16 (K : Nat) : Ct := ⟨[.l (.v (.l (.c .s (.i .i64))))], [], [.l (.v .b)], [], [], F16 K⟩
theorem c16 (K : Nat) : CtOk prog 16 (ct16 K) :=
  con_mk (Y := Y) (L := [(40, ct40 K), (41, ct41 K)]) (K := K) (an := (.seq .no (.seq (.seq .no (.blk (.loop [] ⟨(.l (.v (.l (.c .s (.i .i64)))) :: ru 4 (.l (.v (.l (.c .s (.i .i64)))) :: .l (.v (.i .i64)) :: .l (.v (.i .i64)) :: ru 34 [])), []⟩ [(0, ⟨(.l (.v (.l (.c .s (.i .i64)))) :: ru 41 []), []⟩)] true (.seq .no (.seq .no (.seq (.blk (.seq .no (.seqJ [(1000000, ⟨(.l (.v (.l (.c .s (.i .i64)))) :: ru 4 (.l (.v (.l (.c .s (.i .i64)))) :: .l (.v (.i .i64)) :: .l (.v (.i .i64)) :: ru 29 (.l (.v .b) :: ru 4 []))), []⟩)] false .no (.cond .no .no)))) .no)))))) .no))) func16 mixed (ctabOk_cons (c40 K) (ctabOk_cons (c41 K) ctabOk_nil)) (by kernel_rfl) fun x => by kernel_rfl

-- loop.example/g00460/spec.Unmapped
def F20_b1 (K : Nat) (x : (List ((List UInt8) × Int)) × (List UInt8) × (List UInt8) × Int × Int × Int) : Option (((List ((List UInt8) × Int)) × (List UInt8) × (List UInt8) × Int × Int × Int) ⊕ ((List ((List UInt8) × Int)) × (List UInt8) × (List UInt8) × Int × Int)) :=
  branch (decide (x.2.2.2.2.2 < (x.1.length : Int)))
   (bindO (branch (decide (x.2.2.2.2.1 < 0))
      (nth x.1 x.2.2.2.2.2 fun v0 =>
      nth x.2.1 x.2.2.2.1 fun v1 =>
      some (x.1, x.2.1, x.2.2.1, x.2.2.2.1, x.2.2.2.2.1, x.2.2.2.2.2, decide (v0.2 = (w64 (v1.toNat : Int)))))
      (some (x.1, x.2.1, x.2.2.1, x.2.2.2.1, x.2.2.2.2.1, x.2.2.2.2.2, false))) fun v2 =>
   branch v2.2.2.2.2.2.2
    (some (.inl (v2.1, v2.2.1, v2.2.2.1, v2.2.2.2.1, v2.2.2.2.2.2.1, w64 (v2.2.2.2.2.2.1 + 1))))
    (some (.inl (v2.1, v2.2.1, v2.2.2.1, v2.2.2.2.1, v2.2.2.2.2.1, w64 (v2.2.2.2.2.2.1 + 1)))))
   (some (.inr (x.1, x.2.1, x.2.2.1, x.2.2.2.1, x.2.2.2.2.1)))
def F20_b0 (K : Nat) (x : (List ((List UInt8) × Int)) × (List UInt8) × (List UInt8) × Int) : Option (((List ((List UInt8) × Int)) × (List UInt8) × (List UInt8) × Int) ⊕ (((List UInt8) × Bool) ⊕ (List UInt8))) :=
  branch (decide (x.2.2.2 < (x.2.1.length : Int)))
   (bindO (iter K (F20_b1 K) (x.1, x.2.1, x.2.2.1, x.2.2.2, (-1), 0)) fun v0 =>
   branch (decide (v0.2.2.2.2 < 0))
    (some (.inr (.inl ([], false))))
    (nth v0.1 v0.2.2.2.2 fun v1 =>
    guard (decide ((v0.2.2.1.length + v1.1.length) ≤ 9223372036854775807)) <|
    some (.inl (v0.1, v0.2.1, v0.2.2.1 ++ v1.1, w64 (v0.2.2.2.1 + 1)))))
   (some (.inr (.inr x.2.2.1)))
def F20 (K : Nat) (x : (List ((List UInt8) × Int)) × List UInt8) : Option ((List UInt8) × Bool) :=
  bindO (bindO (bindO (F14 K x.1) fun v0 =>
      branch (!v0)
       (some (x.1, x.2, true))
       (some (x.1, x.2, decide (20000 < (x.2.length : Int))))) fun v1 =>
    branch v1.2.2
     (some (.inl ([], false)))
     (some (.inr (v1.1, v1.2.1)))) fun v2 =>
  csO v2
   (fun v3 => some v3)
   (fun v4 => bindO (iter K (F20_b0 K) (v4.1, v4.2, [], 0)) fun v5 =>
   csO v5
    (fun v6 => some v6)
    (fun v7 => some (v7, true)))
def ct20 (K : Nat) : Ct := ⟨[.l (.v (.l (.c .s (.i .i64)))), .l (.v .s)], [], [.l (.v .s), .l (.v .b)], [], [], F20 K⟩
theorem c20 (K : Nat) : CtOk prog 20 (ct20 K) :=
  con_mk (Y := Y) (L := [(14, ct14 K)]) (K := K) (an := (.seq .no (.seqJ [(1000000, ⟨(.l (.v (.l (.c .s (.i .i64)))) :: .l (.v .s) :: ru 53 []), []⟩)] true (.seqJ [(1000000, ⟨(.l (.v (.l (.c .s (.i .i64)))) :: .l (.v .s) :: ru 15 (.l (.v .b) :: ru 37 [])), []⟩)] false .no (.cond .no .no)) (.seq .no (.seq (.seq .no (.blk (.loop [] ⟨(.l (.v (.l (.c .s (.i .i64)))) :: .l (.v .s) :: ru 4 (.l (.v .s) :: .l (.v (.i .i64)) :: ru 47 [])), []⟩ [(0, ⟨(ru 6 (.l (.v .s) :: ru 48 [])), []⟩)] true (.seq (.seq .no .no) (.seq (.blk (.seq .no (.seq (.seq .no (.blk (.loop [] ⟨(.l (.v (.l (.c .s (.i .i64)))) :: .l (.v .s) :: ru 4 (.l (.v .s) :: .l (.v (.i .i64)) :: .l (.v (.i .i64)) :: .l (.v (.i .i64)) :: ru 45 [])), []⟩ [(2, ⟨(.l (.v (.l (.c .s (.i .i64)))) :: .l (.v .s) :: ru 4 (.l (.v .s) :: .l (.v (.i .i64)) :: .l (.v (.i .i64)) :: ru 46 [])), []⟩)] false (.seq (.seq .no .no) (.seq (.blk (.seqJ [(1000000, ⟨(.l (.v (.l (.c .s (.i .i64)))) :: .l (.v .s) :: ru 4 (.l (.v .s) :: .l (.v (.i .i64)) :: .l (.v (.i .i64)) :: .l (.v (.i .i64)) :: ru 33 (.l (.v .b) :: ru 11 []))), []⟩)] false .no .no)) .no))))) (.seq (.seq .no (.cond .no .no)) .no)))) .no))))) .no))))) func20 mixed (ctabOk_cons (c14 K) ctabOk_nil) (by kernel_rfl) fun x => by kernel_rfl

-- loop.example/g00460/impl.Unmapped
def F21_b0 (K : Nat) (x : (List ((List UInt8) × Int)) × Int × Int × (List Int) × List Int) : Option (((List ((List UInt8) × Int)) × Int × Int × (List Int) × List Int) ⊕ (((List UInt8) × Bool) ⊕ (List Int))) :=
  branch (decide (x.2.2.1 < x.2.1))
   (guard (decide (0 ≤ x.2.2.1 ∧ x.2.2.1 < (x.2.2.2.1.length : Int))) <|
   nthN x.2.2.2.1 x.2.2.1.toNat fun v0 =>
   bindO (F48 K (x.1, v0)) fun v1 =>
   branch (decide (v1.1 < 0))
    (some (.inr (.inl ([], false))))
    (nth x.1 v1.1 fun v2 =>
    bindO (F45 K (v2.1, x.2.2.2.2)) fun v3 =>
    some (.inl (x.1, x.2.1, w64 (x.2.2.1 + 1), x.2.2.2.1, v3.2.2))))
   (some (.inr (.inr x.2.2.2.2)))
def F21 (K : Nat) (x : (List ((List UInt8) × Int)) × List UInt8) : Option ((List UInt8) × Bool) :=
  bindO (bindO (bindO (F16 K x.1) fun v0 =>
      branch (!v0)
       (some (x.1, x.2, true))
       (some (x.1, x.2, decide (20000 < (x.2.length : Int))))) fun v1 =>
    branch v1.2.2
     (some (.inl ([], false)))
     (some (.inr (v1.1, v1.2.1)))) fun v2 =>
  csO v2
   (fun v3 => some v3)
   (fun v4 => bindO (iter K (F21_b0 K) (v4.1, ((ofB v4.2).length : Int), 0, ofB v4.2, [])) fun v5 =>
   csO v5
    (fun v6 => some v6)
    (fun v7 => bindO (F47 K v7) fun v8 =>
    some (v8.1, true)))
def ct21 (K : Nat) : Ct := ⟨[.l (.v (.l (.c .s (.i .i64)))), .l (.v .s)], [], [.l (.v .s), .l (.v .b)], [], [], F21 K⟩
theorem c21 (K : Nat) : CtOk prog 21 (ct21 K) :=
  con_mk (Y := Y) (L := [(49, ct49 K), (48, ct48 K), (45, ct45 K), (47, ct47 K), (16, ct16 K)]) (K := K) (an := (.seq .no (.seqJ [(1000000, ⟨(.l (.v (.l (.c .s (.i .i64)))) :: .l (.v .s) :: ru 36 []), []⟩)] true (.seqJ [(1000000, ⟨(.l (.v (.l (.c .s (.i .i64)))) :: .l (.v .s) :: ru 15 (.l (.v .b) :: ru 20 [])), []⟩)] false .no (.cond .no .no)) (.seq .no (.seq (.seq (.reg [] [(0, .vcell 7000 1 7050 1 (.y 5))]) (.blk (.loop [] ⟨(.l (.v (.l (.c .s (.i .i64)))) :: ru 5 (.l (.ptr 7000 0 0) :: ru 12 (.l (.all 20000) :: .l (.v (.i .i64)) :: .l (.v (.i .i64)) :: ru 16 []))), [(20000, ⟨1, true, .row (.i .u8)⟩), (7050, ⟨1, true, .row (.y 5)⟩), (7000, ⟨2, false, .mix (some 69) [[.l (.pon 7000 0 0), .l (.bb 7050)]]⟩)]⟩ [(0, ⟨(ru 6 (.l (.ptr 7000 0 0) :: ru 31 [])), [(7050, ⟨1, true, .row (.y 5)⟩), (7000, ⟨2, false, .mix (some 69) [[.l (.pon 7000 0 0), .l (.bb 7050)]]⟩)]⟩)] true (.seq .no (.seq .no (.seq (.blk (.seq .no (.seq .no (.seq (.seq .no (.cond .no .no)) .no)))) .no)))))) .no))))) func21 mixed (ctabOk_cons (c49 K) (ctabOk_cons (c48 K) (ctabOk_cons (c45 K) (ctabOk_cons (c47 K) (ctabOk_cons (c16 K) ctabOk_nil))))) (by kernel_rfl) fun x => by kernel_rfl

-- loop.example/g00460/laws.szPair
def F37 (K : Nat) (x : (List UInt8) × Int × Int) : Option (Int) :=
  branch (decide ((w64 (x.2.2 - (x.1.length : Int))) < 0))
   (some (-1))
   (some (w64 (x.2.2 - (x.1.length : Int))))
def ct37 (K : Nat) : Ct := ⟨[.agg [(.v .s), (.v (.i .i64))], .l (.v (.i .i64))], [], [.l (.v (.i .i64))], [], [], F37 K⟩
theorem c37 (K : Nat) : CtOk prog 37 (ct37 K) :=
  con_mk (Y := Y) (L := []) (K := K) (an := (.seq .no (.seq .no (.seq (.seq .no (.cond .no .no)) .no)))) func37 mixed ctabOk_nil (by kernel_rfl) fun x => by kernel_rfl

-- loop.example/g00460/laws.szPairS
def F13_b0 (K : Nat) (x : (List ((List UInt8) × Int)) × Int × Int) : Option (((List ((List UInt8) × Int)) × Int × Int) ⊕ (Int ⊕ Int)) :=
  branch (decide (x.2.2 < (x.1.length : Int)))
   (nth x.1 x.2.2 fun v0 =>
   bindO (F37 K (v0.1, v0.2, x.2.1)) fun v1 =>
   branch (decide (v1 < 0))
    (some (.inr (.inl (-1))))
    (some (.inl (x.1, v1, w64 (x.2.2 + 1)))))
   (some (.inr (.inr x.2.1)))
def F13 (K : Nat) (x : (List ((List UInt8) × Int)) × Int) : Option (Int) :=
  branch (decide ((w64 (x.2 - (x.1.length : Int))) < 0))
   (some (-1))
   (bindO (iter K (F13_b0 K) (x.1, w64 (x.2 - (x.1.length : Int)), 0)) fun v0 =>
   csO v0
    (fun v1 => some v1)
    (fun v2 => some v2))
def ct13 (K : Nat) : Ct := ⟨[.l (.v (.l (.c .s (.i .i64)))), .l (.v (.i .i64))], [], [.l (.v (.i .i64))], [], [], F13 K⟩
theorem c13 (K : Nat) : CtOk prog 13 (ct13 K) :=
  con_mk (Y := Y) (L := [(37, ct37 K)]) (K := K) (an := (.seq .no (.seq .no (.seq (.seq .no (.cond .no .no)) (.seq (.seq .no (.blk (.loop [] ⟨(.l (.v (.l (.c .s (.i .i64)))) :: .l (.v (.i .i64)) :: ru 3 (.l (.v (.i .i64)) :: ru 21 [])), []⟩ [(0, ⟨(ru 1 (.l (.v (.i .i64)) :: ru 25 [])), []⟩)] true (.seq (.seq .no .no) (.seq (.blk (.seq .no (.seq .no (.cond .no .no)))) .no))))) .no))))) func13 mixed (ctabOk_cons (c37 K) ctabOk_nil) (by kernel_rfl) fun x => by kernel_rfl

-- loop.example/g00460/laws.toPair
def F39 (K : Nat) (x : (List UInt8) × Int) : Option ((List UInt8) × Int) :=
  some x
def ct39 (K : Nat) : Ct := ⟨[.agg [(.v .s), (.v (.i .i64))]], [], [.agg [(.v .s), (.v (.i .i64))]], [], [], F39 K⟩
theorem c39 (K : Nat) : CtOk prog 39 (ct39 K) :=
  con_mk (Y := Y) (L := []) (K := K) (an := (.seq .no (.seq .no (.seq .no (.seq .no .no))))) func39 mixed ctabOk_nil (by kernel_rfl) fun x => by kernel_rfl

-- loop.example/g00460/laws.toPairS
def F15_b0 (K : Nat) (x : (List ((List UInt8) × Int)) × Int × List ((List UInt8) × Int)) : Option (((List ((List UInt8) × Int)) × Int × List ((List UInt8) × Int)) ⊕ (List ((List UInt8) × Int))) :=
  branch (decide (x.2.1 < (x.1.length : Int)))
   (nth x.1 x.2.1 fun v0 =>
   bindO (F39 K v0) fun v1 =>
   guard (decide (0 ≤ x.2.1 ∧ x.2.1 < (x.2.2.length : Int))) <|
   nthN x.2.2 x.2.1.toNat fun v2 =>
   some (.inl (x.1, w64 (x.2.1 + 1), List.set x.2.2 x.2.1.toNat v1)))
   (some (.inr x.2.2))
def F15 (K : Nat) (x : List ((List UInt8) × Int)) : Option (List ((List UInt8) × Int)) :=
  guard (decide ((x.length : Int) = (x.length : Int) ∧ 0 ≤ (x.length : Int) ∧ (24 * ((x.length : Int).toNat)) ≤ 281474976710656)) <|
  bindO (iter K (F15_b0 K) (x, 0, List.replicate ((x.length : Int).toNat) ([], 0))) fun v0 =>
  some v0
def ct15 (K : Nat) : Ct := ⟨[.l (.v (.l (.c .s (.i .i64))))], [], [.l (.v (.l (.c .s (.i .i64))))], [], [], F15 K⟩
theorem c15 (K : Nat) : CtOk prog 15 (ct15 K) :=
  con_mk (Y := Y) (L := [(39, ct39 K)]) (K := K) (an := (.seq .no (.seq .no (.seq (.seq .no (.blk (.loop [] ⟨(.l (.v (.l (.c .s (.i .i64)))) :: ru 2 (.l (.all 8000) :: .l (.v (.i .i64)) :: ru 18 [])), [(8000, ⟨2, true, .row (.c .s (.i .i64))⟩)]⟩ [(0, ⟨(ru 3 (.l (.all 8000) :: ru 19 [])), [(8000, ⟨2, true, .row (.c .s (.i .i64))⟩)]⟩)] false (.seq (.seq .no .no) (.seq .no .no))))) .no)))) func15 mixed (ctabOk_cons (c39 K) ctabOk_nil) (by kernel_rfl) fun x => by kernel_rfl

-- loop.example/g00460/laws.eqPair
def F42 (K : Nat) (x : (List UInt8) × Int × (List UInt8) × Int) : Option (Bool) :=
  branch (!(decide (x.1 = x.2.2.1)))
   (some false)
   (branch (!(decide (x.2.1 = x.2.2.2)))
    (some false)
    (some true))
def ct42 (K : Nat) : Ct := ⟨[.agg [(.v .s), (.v (.i .i64))], .agg [(.v .s), (.v (.i .i64))]], [], [.l (.v .b)], [], [], F42 K⟩
theorem c42 (K : Nat) : CtOk prog 42 (ct42 K) :=
  con_mk (Y := Y) (L := []) (K := K) (an := (.seq .no (.seq (.seq .no (.cond .no .no)) (.seq (.seq .no (.cond .no .no)) .no)))) func42 mixed ctabOk_nil (by kernel_rfl) fun x => by kernel_rfl

-- loop.example/g00460/laws.eqPairS
def F17_b0 (K : Nat) (x : (List ((List UInt8) × Int)) × (List ((List UInt8) × Int)) × Int) : Option (((List ((List UInt8) × Int)) × (List ((List UInt8) × Int)) × Int) ⊕ (Bool ⊕ Unit)) :=
  branch (decide (x.2.2 < (x.1.length : Int)))
   (nth x.1 x.2.2 fun v0 =>
   nth x.2.1 x.2.2 fun v1 =>
   bindO (F42 K (v0.1, v0.2, v1)) fun v2 =>
   branch (!v2)
    (some (.inr (.inl false)))
    (some (.inl (x.1, x.2.1, w64 (x.2.2 + 1)))))
   (some (.inr (.inr ())))
def F17 (K : Nat) (x : (List ((List UInt8) × Int)) × List ((List UInt8) × Int)) : Option (Bool) :=
  branch (!(decide ((x.1.length : Int) = (x.2.length : Int))))
   (some false)
   (bindO (iter K (F17_b0 K) (x.1, x.2, 0)) fun v0 =>
   csO v0
    (fun v1 => some v1)
    (fun v2 => some true))
def ct17 (K : Nat) : Ct := ⟨[.l (.v (.l (.c .s (.i .i64)))), .l (.v (.l (.c .s (.i .i64))))], [], [.l (.v .b)], [], [], F17 K⟩
theorem c17 (K : Nat) : CtOk prog 17 (ct17 K) :=
  con_mk (Y := Y) (L := [(42, ct42 K)]) (K := K) (an := (.seq .no (.seq (.seq .no (.cond .no .no)) (.seq (.seq .no (.blk (.loop [] ⟨(.l (.v (.l (.c .s (.i .i64)))) :: .l (.v (.l (.c .s (.i .i64)))) :: ru 3 (.l (.v (.i .i64)) :: ru 21 [])), []⟩ [(0, ⟨(ru 27 []), []⟩)] true (.seq (.seq .no .no) (.seq (.blk (.seq .no (.cond .no .no))) .no))))) .no)))) func17 mixed (ctabOk_cons (c42 K) ctabOk_nil) (by kernel_rfl) fun x => by kernel_rfl

-- loop.example/g00460/laws.FnExactUnmapped
def F5 (K : Nat) (x : (List ((List UInt8) × Int)) × List UInt8) : Option (Bool) :=
  branch (decide (1048576 < (x.2.length : Int)))
   (some true)
   (bindO (F13 K (x.1, 1048576)) fun v0 =>
   branch (decide (v0 < 0))
    (some true)
    (bindO (F15 K x.1) fun v1 =>
    bindO (F20 K (v1, x.2)) fun v2 =>
    bindO (F15 K x.1) fun v3 =>
    bindO (F21 K (v3, x.2)) fun v4 =>
    bindO (bindO (branch (!(decide (v4.1 = v2.1)))
         (some (x.1, v3, true))
         (some (x.1, v3, !(decide (v4.2 = v2.2))))) fun v5 =>
      branch v5.2.2
       (some (.inl false))
       (some (.inr (v5.1, v5.2.1)))) fun v6 =>
    csO v6
     (fun v7 => some v7)
     (fun v8 => bindO (F15 K v8.1) fun v9 =>
     bindO (F17 K (v8.2, v9)) fun v10 =>
     branch (!v10)
      (some false)
      (some true))))
def ct5 (K : Nat) : Ct := ⟨[.l (.v (.l (.c .s (.i .i64)))), .l (.v .s)], [], [.l (.v .b)], [], [], F5 K⟩
theorem c5 (K : Nat) : CtOk prog 5 (ct5 K) :=
  con_mk (Y := Y) (L := [(20, ct20 K), (21, ct21 K), (13, ct13 K), (15, ct15 K), (17, ct17 K)]) (K := K) (an := (.seq .no (.seq (.seq .no (.cond .no .no)) (.seq .no (.seq .no (.seq (.seq .no (.cond .no .no)) (.seq .no (.seq .no (.seq .no (.seqJ [(1000000, ⟨(.l (.v (.l (.c .s (.i .i64)))) :: ru 7 (.l (.v (.l (.c .s (.i .i64)))) :: ru 38 [])), []⟩)] true (.seqJ [(1000000, ⟨(.l (.v (.l (.c .s (.i .i64)))) :: ru 7 (.l (.v (.l (.c .s (.i .i64)))) :: ru 32 (.l (.v .b) :: ru 5 []))), []⟩)] false .no (.cond .no .no)) (.seq (.seq .no (.cond .no .no)) .no))))))))))) func5 mixed (ctabOk_cons (c20 K) (ctabOk_cons (c21 K) (ctabOk_cons (c13 K) (ctabOk_cons (c15 K) (ctabOk_cons (c17 K) ctabOk_nil))))) (by kernel_rfl) fun x => by kernel_rfl

-- loop.example/g00460/impl.bytesOf
def F46_b0 (K : Nat) (x : Int × Int × List Int) : Option ((Int × Int × List Int) ⊕ (List Int)) :=
  branch (decide (0 < x.2.1))
   (guard (fitN (x.2.2.length + [w8 x.1].length) 1) <|
   some (.inl (shrI Go.IntKind.i64 x.1 8, w64 (x.2.1 - 1), x.2.2 ++ [w8 x.1])))
   (some (.inr x.2.2))
def F46 (K : Nat) (x : Int × Int) : Option (List UInt8) :=
  bindO (iter K (F46_b0 K) (x.1, x.2, [])) fun v0 =>
  some (toB v0)
def ct46 (K : Nat) : Ct := ⟨[.l (.v (.i .i64)), .l (.v (.i .i64))], [], [.l (.v .s)], [], [], F46 K⟩
theorem c46 (K : Nat) : CtOk prog 46 (ct46 K) :=
  con_mk (Y := Y) (L := []) (K := K) (an := (.seq .no (.seq .no (.seq (.blk (.loop [] ⟨(.l (.v (.i .i64)) :: .l (.v (.i .i64)) :: ru 3 (.l (.all 7000) :: ru 14 [])), [(7000, ⟨1, true, .row (.i .u8)⟩)]⟩ [(0, ⟨(ru 5 (.l (.all 7000) :: ru 14 [])), [(7000, ⟨1, true, .row (.i .u8)⟩)]⟩)] false (.seq (.seq .no .no) (.seq (.blk .no) .no)))) .no)))) func46 mixed ctabOk_nil (by kernel_rfl) fun x => by kernel_rfl

-- loop.example/g00460/laws.big
def F22 (K : Nat) (x : List Int) : Option (Bool) :=
  some (decide (1048576 < (x.length : Int)))
def ct22 (K : Nat) : Ct := ⟨[.l (.v (.l (.i .u8)))], [], [.l (.v .b)], [], [], F22 K⟩
theorem c22 (K : Nat) : CtOk prog 22 (ct22 K) :=
  con_mk (Y := Y) (L := []) (K := K) (an := (.seq .no .no)) func22 mixed ctabOk_nil (by kernel_rfl) fun x => by kernel_rfl

-- loop.example/g00460/spec.l1Open
def F50 (K : Nat) (x : List Int) : Option ((List Int) × Int) :=
  some (x, 0)
def ct50 (K : Nat) : Ct := ⟨[.l (.v (.l (.i .u8)))], [], [.l (.ptr 0 0 0)], [⟨2, false, .mix (some 102) [[.l (.v (.l (.i .u8))), .l (.v (.i .i64))]]⟩], [], F50 K⟩
theorem c50 (K : Nat) : CtOk prog 50 (ct50 K) :=
  con_mk (Y := Y) (L := []) (K := K) (an := (.seq .no .no)) func50 mixed ctabOk_nil (by kernel_rfl) fun x => by kernel_rfl

-- (*loop.example/g00460/spec.l1Rd).next
def F74 (K : Nat) (x : (List Int) × Int) : Option (Int × (List Int) × Int) :=
  branch (decide ((x.1.length : Int) ≤ x.2))
   (some (0, x))
   (nth x.1 (w64 ((w64 (x.2 + 1)) - 1)) fun v0 =>
   some (w64 v0, x.1, w64 (x.2 + 1)))
def ct74 (K : Nat) : Ct := ⟨[.l (.ptr 0 0 0)], [⟨2, false, .mix (some 102) [[.l (.v (.l (.i .u8))), .l (.v (.i .i64))]]⟩], [.l (.v (.i .i64))], [⟨2, false, .mix (some 102) [[.l (.v (.l (.i .u8))), .l (.v (.i .i64))]]⟩], [], F74 K⟩
theorem c74 (K : Nat) : CtOk prog 74 (ct74 K) :=
  con_mk (Y := Y) (L := []) (K := K) (an := (.seq .no (.seq (.seq .no (.cond .no .no)) (.seq .no .no)))) func74 mixed ctabOk_nil (by kernel_rfl) fun x => by kernel_rfl

-- (*loop.example/g00460/spec.l1Rd).below
def F52 (K : Nat) (x : Int × (List Int) × Int) : Option (Int × (List Int) × Int) :=
  branch (decide (x.1 ≤ 1))
   (some (0, x.2))
   (branch (decide (x.1 ≤ 256))
    (bindO (F74 K x.2) fun v0 =>
    guard (!(decide (x.1 = 0))) <|
    some (Int.tmod v0.1 x.1, v0.2))
    (bindO (F74 K x.2) fun v1 =>
    bindO (F74 K v1.2) fun v2 =>
    guard (!(decide (x.1 = 0))) <|
    some (Int.tmod (w64 ((w64 (v1.1 * 256)) + v2.1)) x.1, v2.2)))
def ct52 (K : Nat) : Ct := ⟨[.l (.ptr 0 0 0), .l (.v (.i .i64))], [⟨2, false, .mix (some 102) [[.l (.v (.l (.i .u8))), .l (.v (.i .i64))]]⟩], [.l (.v (.i .i64))], [⟨2, false, .mix (some 102) [[.l (.v (.l (.i .u8))), .l (.v (.i .i64))]]⟩], [], F52 K⟩
theorem c52 (K : Nat) : CtOk prog 52 (ct52 K) :=
  con_mk (Y := Y) (L := [(74, ct74 K)]) (K := K) (an := (.seq .no (.seq (.seq .no (.cond .no .no)) (.seq (.seq .no (.cond .no .no)) (.seq .no (.seq .no .no)))))) func52 mixed (ctabOk_cons (c74 K) ctabOk_nil) (by kernel_rfl) fun x => by kernel_rfl

-- (*loop.example/g00460/spec.l1Rd).once
def F57 (K : Nat) (x : Int × (List Int) × Int) : Option (Bool × (List Int) × Int) :=
  bindO (F52 K x) fun v0 =>
  some (decide (v0.1 = (w64 (x.1 - 1))), v0.2)
def ct57 (K : Nat) : Ct := ⟨[.l (.ptr 0 0 0), .l (.v (.i .i64))], [⟨2, false, .mix (some 102) [[.l (.v (.l (.i .u8))), .l (.v (.i .i64))]]⟩], [.l (.v .b)], [⟨2, false, .mix (some 102) [[.l (.v (.l (.i .u8))), .l (.v (.i .i64))]]⟩], [], F57 K⟩
theorem c57 (K : Nat) : CtOk prog 57 (ct57 K) :=
  con_mk (Y := Y) (L := [(52, ct52 K)]) (K := K) (an := (.seq .no .no)) func57 mixed (ctabOk_cons (c52 K) ctabOk_nil) (by kernel_rfl) fun x => by kernel_rfl

-- (*loop.example/g00460/spec.l1Rd).word
def F93_b0 (K : Nat) (x : Int × Int × (List Int) × Int) : Option ((Int × Int × (List Int) × Int) ⊕ (Int × (List Int) × Int)) :=
  branch (decide (x.2.1 < 8))
   (bindO (F74 K x.2.2) fun v0 =>
   some (.inl (Go.bits Go.BinOp.or Go.IntKind.u64 (shlI Go.IntKind.u64 x.1 8) (w64u v0.1), w64 (x.2.1 + 1), v0.2)))
   (some (.inr (x.1, x.2.2)))
def F93 (K : Nat) (x : (List Int) × Int) : Option (Int × (List Int) × Int) :=
  bindO (iter K (F93_b0 K) (0, 0, x)) fun v0 =>
  some v0
def ct93 (K : Nat) : Ct := ⟨[.l (.ptr 0 0 0)], [⟨2, false, .mix (some 102) [[.l (.v (.l (.i .u8))), .l (.v (.i .i64))]]⟩], [.l (.v (.i .u64))], [⟨2, false, .mix (some 102) [[.l (.v (.l (.i .u8))), .l (.v (.i .i64))]]⟩], [], F93 K⟩
theorem c93 (K : Nat) : CtOk prog 93 (ct93 K) :=
  con_mk (Y := Y) (L := [(74, ct74 K)]) (K := K) (an := (.seq .no (.seq .no (.seq (.seq .no (.blk (.loop [] ⟨(.l (.ptr 0 0 0) :: ru 2 (.l (.v (.i .u64)) :: .l (.v (.i .i64)) :: ru 11 [])), [(0, ⟨2, false, .mix (some 102) [[.l (.v (.l (.i .u8))), .l (.v (.i .i64))]]⟩)]⟩ [(0, ⟨(ru 3 (.l (.v (.i .u64)) :: ru 12 [])), [(0, ⟨2, false, .mix (some 102) [[.l (.v (.l (.i .u8))), .l (.v (.i .i64))]]⟩)]⟩)] false (.seq (.seq .no .no) (.seq .no .no))))) .no)))) func93 mixed (ctabOk_cons (c74 K) ctabOk_nil) (by kernel_rfl) fun x => by kernel_rfl

-- (*loop.example/g00460/spec.l1Rd).near
def F87 (K : Nat) (x : Int × Int × (List Int) × Int) : Option (Int × (List Int) × Int) :=
  bindO (F52 K (8, x.2.2)) fun v0 =>
  branch (decide (v0.1 = 0))
   (some (x.1, v0.2))
   (branch (decide (v0.1 = 1))
    (some (x.2.1, v0.2))
    (branch (decide (x.2.1 < x.1))
     (some (x.1, v0.2))
     (bindO (F93 K v0.2) fun v1 =>
     guard (!(decide ((w64u (w64 ((w64 (x.2.1 - x.1)) + 1))) = 0))) <|
     some (w64 (x.1 + (w64 (Int.tmod (shrI Go.IntKind.u64 v1.1 1) (w64u (w64 ((w64 (x.2.1 - x.1)) + 1)))))), v1.2))))
def ct87 (K : Nat) : Ct := ⟨[.l (.ptr 0 0 0), .l (.v (.i .i64)), .l (.v (.i .i64))], [⟨2, false, .mix (some 102) [[.l (.v (.l (.i .u8))), .l (.v (.i .i64))]]⟩], [.l (.v (.i .i64))], [⟨2, false, .mix (some 102) [[.l (.v (.l (.i .u8))), .l (.v (.i .i64))]]⟩], [], F87 K⟩
theorem c87 (K : Nat) : CtOk prog 87 (ct87 K) :=
  con_mk (Y := Y) (L := [(52, ct52 K), (93, ct93 K)]) (K := K) (an := (.seq .no (.seq (.seq .no (.blk (.seq .no (.cond .no (.seq .no (.cond .no .no)))))) (.seq (.seq .no (.cond .no .no)) .no)))) func87 mixed (ctabOk_cons (c52 K) (ctabOk_cons (c93 K) ctabOk_nil)) (by kernel_rfl) fun x => by kernel_rfl

-- (*loop.example/g00460/spec.l1Rd).off
def F73 (K : Nat) (x : Int × Int × (List Int) × Int) : Option (Int × (List Int) × Int) :=
  bindO (F57 K (24, x.2.2)) fun v0 =>
  branch v0.1
   (bindO (F52 K (4, v0.2)) fun v1 =>
   guard (decide (0 ≤ v1.1 ∧ v1.1 < ([w64 (x.1 - 1), w64 (x.2.1 + 1), (-9223372036854775808), 9223372036854775807].length : Int))) <|
   nthN [w64 (x.1 - 1), w64 (x.2.1 + 1), (-9223372036854775808), 9223372036854775807] v1.1.toNat fun v2 =>
   some (v2, v1.2))
   (bindO (F87 K (x.1, x.2.1, v0.2)) fun v3 =>
   some v3)
def ct73 (K : Nat) : Ct := ⟨[.l (.ptr 0 0 0), .l (.v (.i .i64)), .l (.v (.i .i64))], [⟨2, false, .mix (some 102) [[.l (.v (.l (.i .u8))), .l (.v (.i .i64))]]⟩], [.l (.v (.i .i64))], [⟨2, false, .mix (some 102) [[.l (.v (.l (.i .u8))), .l (.v (.i .i64))]]⟩], [], F73 K⟩
theorem c73 (K : Nat) : CtOk prog 73 (ct73 K) :=
  con_mk (Y := Y) (L := [(52, ct52 K), (57, ct57 K), (87, ct87 K)]) (K := K) (an := (.seq .no (.seq (.seq .no (.cond .no .no)) .no))) func73 mixed (ctabOk_cons (c52 K) (ctabOk_cons (c57 K) (ctabOk_cons (c87 K) ctabOk_nil))) (by kernel_rfl) fun x => by kernel_rfl

-- (*loop.example/g00460/spec.l1Rd).pairs
def F51_b0 (K : Nat) (x : Int × (List ((List UInt8) × Int)) × (List (List UInt8)) × (List Int) × Int) : Option ((Int × (List ((List UInt8) × Int)) × (List (List UInt8)) × (List Int) × Int) ⊕ ((List ((List UInt8) × Int)) × (List Int) × Int)) :=
  branch (decide (x.1 < (x.2.2.1.length : Int)))
   (bindO (F57 K (4, x.2.2.2)) fun v0 =>
   branch (!v0.1)
    (guard (decide (0 ≤ x.1 ∧ x.1 < (x.2.2.1.length : Int))) <|
    nthN x.2.2.1 x.1.toNat fun v1 =>
    bindO (F52 K (8, v0.2)) fun v2 =>
    guard (fitN (x.2.1.length + [(v1, v2.1)].length) 24) <|
    some (.inl (w64 (x.1 + 1), x.2.1 ++ [(v1, v2.1)], x.2.2.1, v2.2)))
    (some (.inl (w64 (x.1 + 1), x.2.1, x.2.2.1, v0.2))))
   (some (.inr (x.2.1, x.2.2.2)))
def F51 (K : Nat) (x : (List Int) × Int) : Option ((List ((List UInt8) × Int)) × (List Int) × Int) :=
  bindO (iter K (F51_b0 K) (0, [], [[97], [97, 98], [97, 98, 99], [98], [99], [120]], x)) fun v0 =>
  bindO (bindO (F57 K (30, v0.2)) fun v1 =>
    branch v1.1
     (some (decide (0 < (v0.1.length : Int)), v0.1, v1.2))
     (some (false, v0.1, v1.2))) fun v2 =>
  branch v2.1
   (bindO (F73 K (0, 255, v2.2.2)) fun v3 =>
   guard (decide ((0 : Int) ≤ 0 ∧ 0 < (v2.2.1.length : Int))) <|
   nthN v2.2.1 0 fun v4 =>
   some (List.set v2.2.1 0 (v4.1, v3.1), v3.2))
   (some v2.2)
def ct51 (K : Nat) : Ct := ⟨[.l (.ptr 0 0 0)], [⟨2, false, .mix (some 102) [[.l (.v (.l (.i .u8))), .l (.v (.i .i64))]]⟩], [.l (.v (.l (.c .s (.i .i64))))], [⟨2, false, .mix (some 102) [[.l (.v (.l (.i .u8))), .l (.v (.i .i64))]]⟩], [], F51 K⟩
theorem c51 (K : Nat) : CtOk prog 51 (ct51 K) :=
  con_mk (Y := Y) (L := [(52, ct52 K), (57, ct57 K), (73, ct73 K)]) (K := K) (an := (.seq .no (.seq .no (.seq .no (.seq (.seq .no (.blk (.loop [] ⟨(.l (.ptr 0 0 0) :: ru 2 (.l (.all 7000) :: .l (.all 8000) :: .l (.v (.i .i64)) :: ru 34 [])), [(8000, ⟨2, true, .row (.c .s (.i .i64))⟩), (7000, ⟨1, true, .row .s⟩), (0, ⟨2, false, .mix (some 102) [[.l (.v (.l (.i .u8))), .l (.v (.i .i64))]]⟩)]⟩ [(0, ⟨(.l (.ptr 0 0 0) :: ru 3 (.l (.all 8000) :: ru 35 [])), [(8000, ⟨2, true, .row (.c .s (.i .i64))⟩), (0, ⟨2, false, .mix (some 102) [[.l (.v (.l (.i .u8))), .l (.v (.i .i64))]]⟩)]⟩)] false (.seq (.seq .no .no) (.seq (.blk (.seq .no (.cond (.reg [8] []) .no))) .no))))) (.seq (.seqJ [(1000000, ⟨(.l (.ptr 0 0 0) :: ru 3 (.l (.all 8000) :: ru 28 (.l (.v .b) :: ru 6 []))), [(8000, ⟨2, true, .row (.c .s (.i .i64))⟩), (0, ⟨2, false, .mix (some 102) [[.l (.v (.l (.i .u8))), .l (.v (.i .i64))]]⟩)]⟩)] false .no .no) .no)))))) func51 mixed (ctabOk_cons (c52 K) (ctabOk_cons (c57 K) (ctabOk_cons (c73 K) ctabOk_nil))) (by kernel_rfl) fun x => by kernel_rfl

-- loop.example/g00460/spec.DrawUnmapped
def F23_b0 (K : Nat) (x : (List ((List UInt8) × Int)) × (List UInt8) × Int × (List Int) × Int) : Option (((List ((List UInt8) × Int)) × (List UInt8) × Int × (List Int) × Int) ⊕ ((List ((List UInt8) × Int)) × List UInt8)) :=
  branch (decide (0 < x.2.2.1))
   (bindO (F52 K (8, x.2.2.2)) fun v0 =>
   guard (decide ((x.2.1.length + ((toB [w8 v0.1]).length)) ≤ 9223372036854775807)) <|
   some (.inl (x.1, x.2.1 ++ (toB [w8 v0.1]), w64 (x.2.2.1 - 1), v0.2)))
   (some (.inr (x.1, x.2.1)))
def F23 (K : Nat) (x : List Int) : Option ((List ((List UInt8) × Int)) × List UInt8) :=
  bindO (F50 K x) fun v0 =>
  bindO (F51 K v0) fun v1 =>
  bindO (F52 K (8, v1.2)) fun v2 =>
  bindO (iter K (F23_b0 K) (v1.1, [], v2)) fun v3 =>
  some v3
def ct23 (K : Nat) : Ct := ⟨[.l (.v (.l (.i .u8)))], [], [.l (.v (.l (.c .s (.i .i64)))), .l (.v .s)], [], [], F23 K⟩
theorem c23 (K : Nat) : CtOk prog 23 (ct23 K) :=
  con_mk (Y := Y) (L := [(50, ct50 K), (52, ct52 K), (51, ct51 K)]) (K := K) (an := (.seq .no (.seq .no (.seq .no (.seq .no (.seq (.seq .no (.blk (.loop [] ⟨(ru 4 (.l (.ptr 10000 0 0) :: .l (.v (.l (.c .s (.i .i64)))) :: .l (.v .s) :: .l (.v (.i .i64)) :: ru 19 [])), [(10000, ⟨2, false, .mix (some 102) [[.l (.v (.l (.i .u8))), .l (.v (.i .i64))]]⟩)]⟩ [(0, ⟨(ru 5 (.l (.v (.l (.c .s (.i .i64)))) :: .l (.v .s) :: ru 20 [])), []⟩)] false (.seq (.seq .no .no) (.seq .no .no))))) .no)))))) func23 mixed (ctabOk_cons (c50 K) (ctabOk_cons (c52 K) (ctabOk_cons (c51 K) ctabOk_nil))) (by kernel_rfl) fun x => by kernel_rfl

-- loop.example/g00460/laws.FnUnmapped
def F6 (K : Nat) (x : List Int) : Option (Bool) :=
  bindO (F22 K x) fun v0 =>
  branch v0
   (some true)
   (bindO (F23 K x) fun v1 =>
   bindO (F21 K v1) fun v2 =>
   bindO (F20 K v1) fun v3 =>
   bindO (bindO (branch (!(decide (v2.2 = v3.2)))
        (some (x, v1.1, v1.2, v2.1, v2.2, v3.1, v3.2, true))
        (branch (!(decide (v2.1 = v3.1)))
         (some (x, v1.1, v1.2, v2.1, v2.2, v3.1, v3.2, true))
         (some (x, v1.1, v1.2, v2.1, v2.2, v3.1, v3.2, !v2.2)))) fun v4 =>
     branch v4.2.2.2.2.2.2.2
      (branch (decide (v4.2.2.2.2.1 = v4.2.2.2.2.2.2.1))
       (some (.inl (decide (v4.2.2.2.1 = v4.2.2.2.2.2.1))))
       (some (.inl false)))
      (some (.inr (v4.1, v4.2.1, v4.2.2.1, v4.2.2.2.1)))) fun v5 =>
   csO v5
    (fun v6 => some v6)
    (fun v7 => guard (!(decide ((w64 ((v7.2.2.1.length : Int) + 1)) = 0))) <|
    guard (decide (0 ≤ (Int.tmod (v7.1.length : Int) (w64 ((v7.2.2.1.length : Int) + 1))) ∧ (Int.tmod (v7.1.length : Int) (w64 ((v7.2.2.1.length : Int) + 1))) ≤ (v7.2.2.1.length : Int))) <|
    bindO (F21 K (v7.2.1, tkL v7.2.2.1 (Int.tmod (v7.1.length : Int) (w64 ((v7.2.2.1.length : Int) + 1))))) fun v8 =>
    guard (decide (0 ≤ (Int.tmod (v7.1.length : Int) (w64 ((v7.2.2.1.length : Int) + 1))) ∧ (Int.tmod (v7.1.length : Int) (w64 ((v7.2.2.1.length : Int) + 1))) ≤ (v7.2.2.1.length : Int))) <|
    bindO (F21 K (v7.2.1, dpL v7.2.2.1 (Int.tmod (v7.1.length : Int) (w64 ((v7.2.2.1.length : Int) + 1))))) fun v9 =>
    branch v8.2
     (branch v9.2
      (guard (decide ((v8.1.length + v9.1.length) ≤ 9223372036854775807)) <|
      branch (decide ((v8.1 ++ v9.1) = v7.2.2.2))
       (some (decide ((v7.2.2.1.length : Int) ≤ (v7.2.2.2.length : Int))))
       (some false))
      (some false))
     (some false)))
def ct6 (K : Nat) : Ct := ⟨[.l (.v (.l (.i .u8)))], [], [.l (.v .b)], [], [], F6 K⟩
theorem c6 (K : Nat) : CtOk prog 6 (ct6 K) :=
  con_mk (Y := Y) (L := [(20, ct20 K), (21, ct21 K), (22, ct22 K), (23, ct23 K)]) (K := K) (an := (.seq .no (.seq (.seq .no (.cond .no .no)) (.seq .no (.seq .no (.seq .no (.seqJ [(1000000, ⟨(.l (.v (.l (.i .u8))) :: ru 2 (.l (.v (.l (.c .s (.i .i64)))) :: .l (.v .s) :: .l (.v .s) :: ru 87 [])), []⟩)] true (.seqJ [(1000000, ⟨(.l (.v (.l (.i .u8))) :: ru 2 (.l (.v (.l (.c .s (.i .i64)))) :: .l (.v .s) :: .l (.v .s) :: .l (.v .b) :: .l (.v .s) :: .l (.v .b) :: ru 35 (.l (.v .b) :: ru 48 []))), []⟩)] false .no (.cond .no .no)) (.seq .no (.seq .no (.seq .no .no)))))))))) func6 mixed (ctabOk_cons (c20 K) (ctabOk_cons (c21 K) (ctabOk_cons (c22 K) (ctabOk_cons (c23 K) ctabOk_nil)))) (by kernel_rfl) fun x => by kernel_rfl

-- loop.example/g00460/spec.l16Longest
def F53_b0 (K : Nat) (x : (List ((List UInt8) × Int)) × (List UInt8) × Int × Int × Int) : Option (((List ((List UInt8) × Int)) × (List UInt8) × Int × Int × Int) ⊕ Int) :=
  branch (decide (x.2.2.2.2 < (x.1.length : Int)))
   (nth x.1 x.2.2.2.2 fun v0 =>
   bindO (branch (decide ((w64 (x.2.2.1 + (v0.1.length : Int))) ≤ (x.2.1.length : Int)))
      (guard (decide (0 ≤ x.2.2.1 ∧ x.2.2.1 ≤ (w64 (x.2.2.1 + (v0.1.length : Int))) ∧ (w64 (x.2.2.1 + (v0.1.length : Int))) ≤ (x.2.1.length : Int))) <|
      nth x.1 x.2.2.2.2 fun v1 =>
      branch (decide ((subL x.2.1 x.2.2.1 (w64 (x.2.2.1 + (v0.1.length : Int)))) = v1.1))
       (branch (decide (x.2.2.2.1 < 0))
        (some (x.1, x.2.1, x.2.2.1, x.2.2.2.1, x.2.2.2.2, true))
        (nth x.1 x.2.2.2.1 fun v2 =>
        some (x.1, x.2.1, x.2.2.1, x.2.2.2.1, x.2.2.2.2, decide ((v2.1.length : Int) < (v0.1.length : Int)))))
       (some (x.1, x.2.1, x.2.2.1, x.2.2.2.1, x.2.2.2.2, false)))
      (some (x.1, x.2.1, x.2.2.1, x.2.2.2.1, x.2.2.2.2, false))) fun v3 =>
   branch v3.2.2.2.2.2
    (some (.inl (v3.1, v3.2.1, v3.2.2.1, v3.2.2.2.2.1, w64 (v3.2.2.2.2.1 + 1))))
    (some (.inl (v3.1, v3.2.1, v3.2.2.1, v3.2.2.2.1, w64 (v3.2.2.2.2.1 + 1)))))
   (some (.inr x.2.2.2.1))
def F53 (K : Nat) (x : (List ((List UInt8) × Int)) × (List UInt8) × Int) : Option (Int) :=
  bindO (iter K (F53_b0 K) (x.1, x.2.1, x.2.2, (-1), 0)) fun v0 =>
  some v0
def ct53 (K : Nat) : Ct := ⟨[.l (.v (.l (.c .s (.i .i64)))), .l (.v .s), .l (.v (.i .i64))], [], [.l (.v (.i .i64))], [], [], F53 K⟩
theorem c53 (K : Nat) : CtOk prog 53 (ct53 K) :=
  con_mk (Y := Y) (L := []) (K := K) (an := (.seq .no (.seq .no (.seq (.seq .no (.blk (.loop [] ⟨(.l (.v (.l (.c .s (.i .i64)))) :: .l (.v .s) :: .l (.v (.i .i64)) :: ru 4 (.l (.v (.i .i64)) :: .l (.v (.i .i64)) :: ru 49 [])), []⟩ [(0, ⟨(ru 7 (.l (.v (.i .i64)) :: ru 50 [])), []⟩)] false (.seq (.seq .no .no) (.seq (.blk (.seq .no (.seqJ [(1000000, ⟨(.l (.v (.l (.c .s (.i .i64)))) :: .l (.v .s) :: .l (.v (.i .i64)) :: ru 4 (.l (.v (.i .i64)) :: .l (.v (.i .i64)) :: ru 46 (.l (.v .b) :: ru 2 []))), []⟩)] false .no .no))) .no))))) .no)))) func53 mixed ctabOk_nil (by kernel_rfl) fun x => by kernel_rfl

-- loop.example/g00460/spec.Mapped
def F24_b0 (K : Nat) (x : (List ((List UInt8) × Int)) × (List UInt8) × Int × List Int) : Option (((List ((List UInt8) × Int)) × (List UInt8) × Int × List Int) ⊕ (((List UInt8) × Bool) ⊕ (List Int))) :=
  branch (decide (x.2.2.1 < (x.2.1.length : Int)))
   (bindO (F53 K (x.1, x.2.1, x.2.2.1)) fun v0 =>
   branch (decide (v0 < 0))
    (some (.inr (.inl ([], false))))
    (nth x.1 v0 fun v1 =>
    guard (fitN (x.2.2.2.length + [w8 v1.2].length) 1) <|
    nth x.1 v0 fun v2 =>
    some (.inl (x.1, x.2.1, w64 (x.2.2.1 + (v2.1.length : Int)), x.2.2.2 ++ [w8 v1.2]))))
   (some (.inr (.inr x.2.2.2)))
def F24 (K : Nat) (x : (List ((List UInt8) × Int)) × List UInt8) : Option ((List UInt8) × Bool) :=
  bindO (bindO (bindO (F14 K x.1) fun v0 =>
      branch (!v0)
       (some (x.1, x.2, true))
       (some (x.1, x.2, decide (20000 < (x.2.length : Int))))) fun v1 =>
    branch v1.2.2
     (some (.inl ([], false)))
     (some (.inr (v1.1, v1.2.1)))) fun v2 =>
  csO v2
   (fun v3 => some v3)
   (fun v4 => bindO (iter K (F24_b0 K) (v4.1, v4.2, 0, [])) fun v5 =>
   csO v5
    (fun v6 => some v6)
    (fun v7 => some (toB v7, true)))
def ct24 (K : Nat) : Ct := ⟨[.l (.v (.l (.c .s (.i .i64)))), .l (.v .s)], [], [.l (.v .s), .l (.v .b)], [], [], F24 K⟩
theorem c24 (K : Nat) : CtOk prog 24 (ct24 K) :=
  con_mk (Y := Y) (L := [(14, ct14 K), (53, ct53 K)]) (K := K) (an := (.seq .no (.seqJ [(1000000, ⟨(.l (.v (.l (.c .s (.i .i64)))) :: .l (.v .s) :: ru 45 []), []⟩)] true (.seqJ [(1000000, ⟨(.l (.v (.l (.c .s (.i .i64)))) :: .l (.v .s) :: ru 14 (.l (.v .b) :: ru 30 [])), []⟩)] false .no (.cond .no .no)) (.seq .no (.seq (.seq .no (.blk (.loop [] ⟨(.l (.v (.l (.c .s (.i .i64)))) :: .l (.v .s) :: ru 4 (.l (.all 18000) :: .l (.v (.i .i64)) :: ru 39 [])), [(18000, ⟨1, true, .row (.i .u8)⟩)]⟩ [(0, ⟨(ru 6 (.l (.all 18000) :: ru 40 [])), [(18000, ⟨1, true, .row (.i .u8)⟩)]⟩)] true (.seq (.seq .no .no) (.blk (.seq .no (.seq (.seq .no (.cond .no .no)) .no))))))) .no))))) func24 mixed (ctabOk_cons (c14 K) (ctabOk_cons (c53 K) ctabOk_nil)) (by kernel_rfl) fun x => by kernel_rfl

-- internal/stringslite.HasPrefix
def F75 (K : Nat) (x : (List UInt8) × List UInt8) : Option (Bool) :=
  branch (decide ((x.2.length : Int) ≤ (x.1.length : Int)))
   (guard (decide (0 ≤ (x.2.length : Int) ∧ (x.2.length : Int) ≤ (x.1.length : Int))) <|
   some (decide ((tkL x.1 (x.2.length : Int)) = x.2)))
   (some false)
def ct75 (K : Nat) : Ct := ⟨[.l (.v .s), .l (.v .s)], [], [.l (.v .b)], [], [], F75 K⟩
theorem c75 (K : Nat) : CtOk prog 75 (ct75 K) :=
  con_mk (Y := Y) (L := []) (K := K) (an := (.seq .no .no)) func75 mixed ctabOk_nil (by kernel_rfl) fun x => by kernel_rfl

-- strings.HasPrefix
def F54 (K : Nat) (x : (List UInt8) × List UInt8) : Option (Bool) :=
  bindO (F75 K x) fun v0 =>
  some v0
def ct54 (K : Nat) : Ct := ⟨[.l (.v .s), .l (.v .s)], [], [.l (.v .b)], [], [], F54 K⟩
theorem c54 (K : Nat) : CtOk prog 54 (ct54 K) :=
  con_mk (Y := Y) (L := [(75, ct75 K)]) (K := K) (an := (.seq .no .no)) func54 mixed (ctabOk_cons (c75 K) ctabOk_nil) (by kernel_rfl) fun x => by kernel_rfl

-- loop.example/g00460/impl.Mapped
def F25_b1 (K : Nat) (x : (List ((List UInt8) × Int)) × (List UInt8) × (List ((List UInt8) × Int)) × Int × Int × (List UInt8) × Int × List Int) : Option (((List ((List UInt8) × Int)) × (List UInt8) × (List ((List UInt8) × Int)) × Int × Int × (List UInt8) × Int × List Int) ⊕ ((List ((List UInt8) × Int)) × (List UInt8) × (List UInt8) × Int × List Int)) :=
  branch (decide (x.2.2.2.2.1 < x.2.2.2.1))
   (nth x.2.2.1 x.2.2.2.2.1 fun v0 =>
   bindO (bindO (F54 K (x.2.1, v0.1)) fun v1 =>
     branch v1
      (some (x.1, x.2.1, x.2.2.1, x.2.2.2.1, x.2.2.2.2.1, decide ((x.2.2.2.2.2.1.length : Int) < (v0.1.length : Int)), v0.1, v0.2, x.2.2.2.2.2))
      (some (x.1, x.2.1, x.2.2.1, x.2.2.2.1, x.2.2.2.2.1, false, v0.1, v0.2, x.2.2.2.2.2))) fun v2 =>
   branch v2.2.2.2.2.2.1
    (some (.inl (v2.1, v2.2.1, v2.2.2.1, v2.2.2.2.1, w64 (v2.2.2.2.2.1 + 1), v2.2.2.2.2.2.2.1, v2.2.2.2.2.2.2.2.1, v2.2.2.2.2.2.2.2.2.2.2)))
    (some (.inl (v2.1, v2.2.1, v2.2.2.1, v2.2.2.2.1, w64 (v2.2.2.2.2.1 + 1), v2.2.2.2.2.2.2.2.2))))
   (some (.inr (x.1, x.2.1, x.2.2.2.2.2)))
def F25_b0 (K : Nat) (x : (List ((List UInt8) × Int)) × (List UInt8) × List Int) : Option (((List ((List UInt8) × Int)) × (List UInt8) × List Int) ⊕ (((List UInt8) × Bool) ⊕ (List Int))) :=
  branch (!(decide (x.2.1 = [])))
   (bindO (iter K (F25_b1 K) (x.1, x.2.1, x.1, (x.1.length : Int), 0, [], 0, x.2.2)) fun v0 =>
   branch (decide (v0.2.2.1 = []))
    (some (.inr (.inl ([], false))))
    (bindO (F46 K (v0.2.2.2.1, 1)) fun v1 =>
    bindO (F45 K (v1, v0.2.2.2.2)) fun v2 =>
    guard (decide (0 ≤ (v0.2.2.1.length : Int) ∧ (v0.2.2.1.length : Int) ≤ (v0.2.1.length : Int))) <|
    some (.inl (v0.1, dpL v0.2.1 (v0.2.2.1.length : Int), v2.2.2))))
   (some (.inr (.inr x.2.2)))
def F25 (K : Nat) (x : (List ((List UInt8) × Int)) × List UInt8) : Option ((List UInt8) × Bool) :=
  bindO (bindO (bindO (F16 K x.1) fun v0 =>
      branch (!v0)
       (some (x.1, x.2, true))
       (some (x.1, x.2, decide (20000 < (x.2.length : Int))))) fun v1 =>
    branch v1.2.2
     (some (.inl ([], false)))
     (some (.inr (v1.1, v1.2.1)))) fun v2 =>
  csO v2
   (fun v3 => some v3)
   (fun v4 => bindO (iter K (F25_b0 K) (v4.1, v4.2, [])) fun v5 =>
   csO v5
    (fun v6 => some v6)
    (fun v7 => bindO (F47 K v7) fun v8 =>
    some (v8.1, true)))
def ct25 (K : Nat) : Ct := ⟨[.l (.v (.l (.c .s (.i .i64)))), .l (.v .s)], [], [.l (.v .s), .l (.v .b)], [], [], F25 K⟩
theorem c25 (K : Nat) : CtOk prog 25 (ct25 K) :=
  con_mk (Y := Y) (L := [(45, ct45 K), (47, ct47 K), (16, ct16 K), (46, ct46 K), (54, ct54 K)]) (K := K) (an := (.seq .no (.seqJ [(1000000, ⟨(.l (.v (.l (.c .s (.i .i64)))) :: .l (.v .s) :: ru 53 []), []⟩)] true (.seqJ [(1000000, ⟨(.l (.v (.l (.c .s (.i .i64)))) :: .l (.v .s) :: ru 15 (.l (.v .b) :: ru 37 [])), []⟩)] false .no (.cond .no .no)) (.seq .no (.seq (.blk (.loop [.vcell 7000 1 7050 1 (.y 5)] ⟨(.l (.v (.l (.c .s (.i .i64)))) :: .l (.v .s) :: ru 4 (.l (.ptr 7000 0 0) :: ru 48 [])), [(7050, ⟨1, true, .row (.y 5)⟩), (7000, ⟨2, false, .mix (some 69) [[.l (.pon 7000 0 0), .l (.bb 7050)]]⟩)]⟩ [(0, ⟨(ru 6 (.l (.ptr 7000 0 0) :: ru 48 [])), [(7050, ⟨1, true, .row (.y 5)⟩), (7000, ⟨2, false, .mix (some 69) [[.l (.pon 7000 0 0), .l (.bb 7050)]]⟩)]⟩)] true (.seq (.seq .no .no) (.blk (.seq .no (.seq (.seq .no (.blk (.loop [] ⟨(.l (.v (.l (.c .s (.i .i64)))) :: .l (.v .s) :: ru 4 (.l (.ptr 7000 0 0) :: .l (.ptr 8000 0 0) :: ru 13 (.l (.v (.l (.c .s (.i .i64)))) :: .l (.v (.i .i64)) :: .l (.v (.i .i64)) :: ru 31 []))), [(8000, ⟨2, false, .mix (some 39) [[.l (.v .s), .l (.v (.i .i64))]]⟩), (7050, ⟨1, true, .row (.y 5)⟩), (7000, ⟨2, false, .mix (some 69) [[.l (.pon 7000 0 0), .l (.bb 7050)]]⟩)]⟩ [(2, ⟨(.l (.v (.l (.c .s (.i .i64)))) :: .l (.v .s) :: ru 4 (.l (.ptr 7000 0 0) :: .l (.ptr 8000 0 0) :: ru 47 [])), [(8000, ⟨2, false, .mix (some 39) [[.l (.v .s), .l (.v (.i .i64))]]⟩), (7050, ⟨1, true, .row (.y 5)⟩), (7000, ⟨2, false, .mix (some 69) [[.l (.pon 7000 0 0), .l (.bb 7050)]]⟩)]⟩)] false (.seq .no (.seq .no (.seq (.blk (.seq .no (.seqJ [(1000000, ⟨(.l (.v (.l (.c .s (.i .i64)))) :: .l (.v .s) :: ru 4 (.l (.ptr 7000 0 0) :: .l (.ptr 8000 0 0) :: ru 1 (.l (.ptr 10000 0 0) :: ru 11 (.l (.v (.l (.c .s (.i .i64)))) :: .l (.v (.i .i64)) :: .l (.v (.i .i64)) :: ru 15 (.l (.v .b) :: ru 15 []))))), [(10000, ⟨2, false, .mix (some 39) [[.l (.v .s), .l (.v (.i .i64))]]⟩), (8000, ⟨2, false, .mix (some 39) [[.l (.v .s), .l (.v (.i .i64))]]⟩), (7050, ⟨1, true, .row (.y 5)⟩), (7000, ⟨2, false, .mix (some 69) [[.l (.pon 7000 0 0), .l (.bb 7050)]]⟩)]⟩)] false .no .no))) .no)))))) (.seq (.seq .no (.cond .no .no)) .no))))))) .no))))) func25 mixed (ctabOk_cons (c45 K) (ctabOk_cons (c47 K) (ctabOk_cons (c16 K) (ctabOk_cons (c46 K) (ctabOk_cons (c54 K) ctabOk_nil))))) (by kernel_rfl) fun x => by kernel_rfl

-- loop.example/g00460/laws.FnExactMapped
def F7 (K : Nat) (x : (List ((List UInt8) × Int)) × List UInt8) : Option (Bool) :=
  branch (decide (1048576 < (x.2.length : Int)))
   (some true)
   (bindO (F13 K (x.1, 1048576)) fun v0 =>
   branch (decide (v0 < 0))
    (some true)
    (bindO (F15 K x.1) fun v1 =>
    bindO (F24 K (v1, x.2)) fun v2 =>
    bindO (F15 K x.1) fun v3 =>
    bindO (F25 K (v3, x.2)) fun v4 =>
    bindO (bindO (branch (!(decide (v4.1 = v2.1)))
         (some (x.1, v3, true))
         (some (x.1, v3, !(decide (v4.2 = v2.2))))) fun v5 =>
      branch v5.2.2
       (some (.inl false))
       (some (.inr (v5.1, v5.2.1)))) fun v6 =>
    csO v6
     (fun v7 => some v7)
     (fun v8 => bindO (F15 K v8.1) fun v9 =>
     bindO (F17 K (v8.2, v9)) fun v10 =>
     branch (!v10)
      (some false)
      (some true))))
def ct7 (K : Nat) : Ct := ⟨[.l (.v (.l (.c .s (.i .i64)))), .l (.v .s)], [], [.l (.v .b)], [], [], F7 K⟩
theorem c7 (K : Nat) : CtOk prog 7 (ct7 K) :=
  con_mk (Y := Y) (L := [(13, ct13 K), (15, ct15 K), (17, ct17 K), (24, ct24 K), (25, ct25 K)]) (K := K) (an := (.seq .no (.seq (.seq .no (.cond .no .no)) (.seq .no (.seq .no (.seq (.seq .no (.cond .no .no)) (.seq .no (.seq .no (.seq .no (.seqJ [(1000000, ⟨(.l (.v (.l (.c .s (.i .i64)))) :: ru 7 (.l (.v (.l (.c .s (.i .i64)))) :: ru 38 [])), []⟩)] true (.seqJ [(1000000, ⟨(.l (.v (.l (.c .s (.i .i64)))) :: ru 7 (.l (.v (.l (.c .s (.i .i64)))) :: ru 32 (.l (.v .b) :: ru 5 []))), []⟩)] false .no (.cond .no .no)) (.seq (.seq .no (.cond .no .no)) .no))))))))))) func7 mixed (ctabOk_cons (c13 K) (ctabOk_cons (c15 K) (ctabOk_cons (c17 K) (ctabOk_cons (c24 K) (ctabOk_cons (c25 K) ctabOk_nil))))) (by kernel_rfl) fun x => by kernel_rfl

-- loop.example/g00460/spec.DrawMapped
def F26_b0 (K : Nat) (x : (List ((List UInt8) × Int)) × (List UInt8) × Int × (List Int) × Int) : Option (((List ((List UInt8) × Int)) × (List UInt8) × Int × (List Int) × Int) ⊕ ((List ((List UInt8) × Int)) × List UInt8)) :=
  branch (decide (0 < x.2.2.1))
   (bindO (F52 K (7, x.2.2.2)) fun v0 =>
   guard (decide (0 ≤ v0.1 ∧ v0.1 < (7 : Int))) <|
   nthN [[97], [97, 98], [97, 98, 99], [98], [99], [120], [122]] v0.1.toNat fun v1 =>
   guard (decide ((x.2.1.length + v1.length) ≤ 9223372036854775807)) <|
   some (.inl (x.1, x.2.1 ++ v1, w64 (x.2.2.1 - 1), v0.2)))
   (some (.inr (x.1, x.2.1)))
def F26 (K : Nat) (x : List Int) : Option ((List ((List UInt8) × Int)) × List UInt8) :=
  bindO (F50 K x) fun v0 =>
  bindO (F51 K v0) fun v1 =>
  bindO (F52 K (8, v1.2)) fun v2 =>
  bindO (iter K (F26_b0 K) (v1.1, [], v2)) fun v3 =>
  some v3
def ct26 (K : Nat) : Ct := ⟨[.l (.v (.l (.i .u8)))], [], [.l (.v (.l (.c .s (.i .i64)))), .l (.v .s)], [], [], F26 K⟩
theorem c26 (K : Nat) : CtOk prog 26 (ct26 K) :=
  con_mk (Y := Y) (L := [(50, ct50 K), (52, ct52 K), (51, ct51 K)]) (K := K) (an := (.seq .no (.seq .no (.seq .no (.seq .no (.seq (.seq .no (.blk (.loop [] ⟨(ru 4 (.l (.ptr 10000 0 0) :: .l (.v (.l (.c .s (.i .i64)))) :: .l (.v .s) :: .l (.v (.i .i64)) :: ru 19 [])), [(10000, ⟨2, false, .mix (some 102) [[.l (.v (.l (.i .u8))), .l (.v (.i .i64))]]⟩)]⟩ [(0, ⟨(ru 5 (.l (.v (.l (.c .s (.i .i64)))) :: .l (.v .s) :: ru 20 [])), []⟩)] false (.seq (.seq .no .no) (.seq .no .no))))) .no)))))) func26 mixed (ctabOk_cons (c50 K) (ctabOk_cons (c52 K) (ctabOk_cons (c51 K) ctabOk_nil))) (by kernel_rfl) fun x => by kernel_rfl

-- loop.example/g00460/laws.FnMapped
def F8_b1 (K : Nat) (x : (List ((List UInt8) × Int)) × (List UInt8) × (List UInt8) × Int × Bool × Int) : Option (((List ((List UInt8) × Int)) × (List UInt8) × (List UInt8) × Int × Bool × Int) ⊕ ((List ((List UInt8) × Int)) × (List UInt8) × (List UInt8) × Int × Bool)) :=
  branch (decide (x.2.2.2.2.2 < (x.1.length : Int)))
   (branch x.2.2.2.2.1
    (some (.inl (x.1, x.2.1, x.2.2.1, x.2.2.2.1, true, w64 (x.2.2.2.2.2 + 1))))
    (nth x.1 x.2.2.2.2.2 fun v0 =>
    nth x.2.2.1 x.2.2.2.1 fun v1 =>
    some (.inl (x.1, x.2.1, x.2.2.1, x.2.2.2.1, decide (v0.2 = (w64 (v1.toNat : Int))), w64 (x.2.2.2.2.2 + 1)))))
   (some (.inr (x.1, x.2.1, x.2.2.1, x.2.2.2.1, x.2.2.2.2.1)))
def F8_b0 (K : Nat) (x : (List ((List UInt8) × Int)) × (List UInt8) × (List UInt8) × Int) : Option (((List ((List UInt8) × Int)) × (List UInt8) × (List UInt8) × Int) ⊕ (Bool ⊕ ((List ((List UInt8) × Int)) × (List UInt8) × List UInt8))) :=
  branch (decide (x.2.2.2 < (x.2.2.1.length : Int)))
   (bindO (iter K (F8_b1 K) (x.1, x.2.1, x.2.2.1, x.2.2.2, false, 0)) fun v0 =>
   branch (!v0.2.2.2.2)
    (some (.inr (.inl false)))
    (some (.inl (v0.1, v0.2.1, v0.2.2.1, w64 (v0.2.2.2.1 + 1)))))
   (some (.inr (.inr (x.1, x.2.1, x.2.2.1))))
def F8 (K : Nat) (x : List Int) : Option (Bool) :=
  bindO (F22 K x) fun v0 =>
  branch v0
   (some true)
   (bindO (F26 K x) fun v1 =>
   bindO (F25 K v1) fun v2 =>
   bindO (F24 K v1) fun v3 =>
   bindO (bindO (branch (!(decide (v2.2 = v3.2)))
        (some (v1.1, v1.2, v2.1, v2.2, v3.1, v3.2, true))
        (branch (!(decide (v2.1 = v3.1)))
         (some (v1.1, v1.2, v2.1, v2.2, v3.1, v3.2, true))
         (bindO (F16 K v1.1) fun v4 =>
         bindO (F14 K v1.1) fun v5 =>
         branch (!(decide (v4 = v5)))
          (some (v1.1, v1.2, v2.1, v2.2, v3.1, v3.2, true))
          (some (v1.1, v1.2, v2.1, v2.2, v3.1, v3.2, !v2.2))))) fun v6 =>
     branch v6.2.2.2.2.2.2
      (branch (decide (v6.2.2.2.1 = v6.2.2.2.2.2.1))
       (branch (decide (v6.2.2.1 = v6.2.2.2.2.1))
        (bindO (F16 K v6.1) fun v7 =>
        bindO (F14 K v6.1) fun v8 =>
        some (.inl (decide (v7 = v8))))
        (some (.inl false)))
       (some (.inl false)))
      (some (.inr (v6.1, v6.2.1, v6.2.2.1)))) fun v9 =>
   csO v9
    (fun v10 => some v10)
    (fun v11 => bindO (iter K (F8_b0 K) (v11.1, v11.2.1, v11.2.2, 0)) fun v12 =>
    csO v12
     (fun v13 => some v13)
     (fun v14 => bindO (F25 K (v14.1, [])) fun v15 =>
     branch (decide ((v14.2.2.length : Int) ≤ (v14.2.1.length : Int)))
      (branch (decide ((decide (v14.2.1 = [])) = (decide (v14.2.2 = []))))
       (branch v15.2
        (some (decide (v15.1 = [])))
        (some false))
       (some false))
      (some false))))
def ct8 (K : Nat) : Ct := ⟨[.l (.v (.l (.i .u8)))], [], [.l (.v .b)], [], [], F8 K⟩
theorem c8 (K : Nat) : CtOk prog 8 (ct8 K) :=
  con_mk (Y := Y) (L := [(14, ct14 K), (16, ct16 K), (22, ct22 K), (24, ct24 K), (25, ct25 K), (26, ct26 K)]) (K := K) (an := (.seq .no (.seq (.seq .no (.cond .no .no)) (.seq .no (.seq .no (.seq .no (.seqJ [(1000000, ⟨(ru 3 (.l (.v (.l (.c .s (.i .i64)))) :: .l (.v .s) :: .l (.v .s) :: ru 112 [])), []⟩)] true (.seqJ [(1000000, ⟨(ru 3 (.l (.v (.l (.c .s (.i .i64)))) :: .l (.v .s) :: .l (.v .s) :: .l (.v .b) :: .l (.v .s) :: .l (.v .b) :: ru 42 (.l (.v .b) :: ru 66 []))), []⟩)] false .no (.cond .no .no)) (.seq (.seq .no (.blk (.loop [] ⟨(ru 3 (.l (.v (.l (.c .s (.i .i64)))) :: .l (.v .s) :: .l (.v .s) :: ru 3 (.l (.v (.i .i64)) :: ru 108 []))), []⟩ [(0, ⟨(ru 3 (.l (.v (.l (.c .s (.i .i64)))) :: .l (.v .s) :: .l (.v .s) :: ru 112 [])), []⟩)] true (.seq (.seq .no .no) (.seq (.blk (.seq .no (.seq (.seq .no (.blk (.loop [] ⟨(ru 3 (.l (.v (.l (.c .s (.i .i64)))) :: .l (.v .s) :: .l (.v .s) :: ru 3 (.l (.v (.i .i64)) :: .l (.v .b) :: .l (.v (.i .i64)) :: ru 106 []))), []⟩ [(2, ⟨(ru 3 (.l (.v (.l (.c .s (.i .i64)))) :: .l (.v .s) :: .l (.v .s) :: ru 3 (.l (.v (.i .i64)) :: .l (.v .b) :: ru 107 []))), []⟩)] false (.seq (.seq .no .no) (.seq .no .no))))) (.seq .no (.cond .no .no))))) .no))))) (.seq .no .no))))))))) func8 mixed (ctabOk_cons (c14 K) (ctabOk_cons (c16 K) (ctabOk_cons (c22 K) (ctabOk_cons (c24 K) (ctabOk_cons (c25 K) (ctabOk_cons (c26 K) ctabOk_nil)))))) (by kernel_rfl) fun x => by kernel_rfl

def T22 : Ty := (.l (.c .s (.i .i64)))
theorem tl22 : tyL prog 64 22 = some T22 := by kernel_rfl
def T9 : Ty := .s
theorem tl9 : tyL prog 64 9 = some T9 := by kernel_rfl
def A5 (K : Nat) (a0 : T22.den) (a1 : T9.den) : Option Bool := F5 K (a0, a1)
theorem fun5 (K : Nat) (a0 : T22.den) (a1 : T9.den) : funOf (ct5 K) [.d (.rov (.c .s (.i .i64)) a0), .d (.str a1)] [] = bindO (A5 K a0 a1) fun r => some ([.d (.b r)], []) := by kernel_rfl
def T34 : Ty := (.l (.i .u8))
theorem tl34 : tyL prog 64 34 = some T34 := by kernel_rfl
def A6 (K : Nat) (a0 : T34.den) : Option Bool := F6 K a0
theorem fun6 (K : Nat) (a0 : T34.den) : funOf (ct6 K) [.d (.rov (.i .u8) a0)] [] = bindO (A6 K a0) fun r => some ([.d (.b r)], []) := by kernel_rfl
def A7 (K : Nat) (a0 : T22.den) (a1 : T9.den) : Option Bool := F7 K (a0, a1)
theorem fun7 (K : Nat) (a0 : T22.den) (a1 : T9.den) : funOf (ct7 K) [.d (.rov (.c .s (.i .i64)) a0), .d (.str a1)] [] = bindO (A7 K a0 a1) fun r => some ([.d (.b r)], []) := by kernel_rfl
def A8 (K : Nat) (a0 : T34.den) : Option Bool := F8 K a0
theorem fun8 (K : Nat) (a0 : T34.den) : funOf (ct8 K) [.d (.rov (.i .u8) a0)] [] = bindO (A8 K a0) fun r => some ([.d (.b r)], []) := by kernel_rfl

end Go.U.Try
