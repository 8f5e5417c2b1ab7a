/- The functions that the law of Unmapped reaches, told. No condition. -/
import Derived.Test.YthiglohhocelfaaUYe
import Derived.Laws.Externs
import Derived.Test.YthiglohhocelfaaProg
set_option linter.unusedVariables false
set_option linter.unusedSimpArgs false
namespace Go.U.Try
open Go Go.U Go.Proofs Go.Proofs.Try
set_option maxRecDepth 100000
set_option linter.unusedVariables false
theorem ty9 : tyOf prog 9 = some ⟨.str, 1, 16, [.str []], some .s⟩ := by kernel_rfl
theorem ty2 : tyOf prog 2 = some ⟨.int .i64, 1, 8, [.i .i64 0], some (.i .i64)⟩ := by kernel_rfl
theorem ty39 : tyOf prog 39 = some ⟨.st [(0, (9, 1)), (1, (2, 1))], 2, 24, [.str [], .i .i64 0], some (.c .s (.i .i64))⟩ := by kernel_rfl
theorem ty3 : tyOf prog 3 = some ⟨.int .i64, 1, 8, [.i .i64 0], some (.i .i64)⟩ := by kernel_rfl
theorem ty25 : tyOf prog 25 = some ⟨.sl 39, 1, 24, [.emp], some (.l (.c .s (.i .i64)))⟩ := by kernel_rfl
theorem ty34 : tyOf prog 34 = some ⟨.sl 5, 1, 24, [.emp], some (.l (.i .u8))⟩ := by kernel_rfl
theorem ty61 : tyOf prog 61 = some ⟨.st [(0, (9, 1)), (1, (2, 1))], 2, 24, [.str [], .i .i64 0], some (.c .s (.i .i64))⟩ := by kernel_rfl
theorem ty67 : tyOf prog 67 = some ⟨.ptr 69, 1, 8, [.nilp], none⟩ := by kernel_rfl
theorem ty5 : tyOf prog 5 = some ⟨.int .u8, 1, 1, [.i .u8 0], some (.i .u8)⟩ := by kernel_rfl
theorem ty69 : tyOf prog 69 = some ⟨.st [(0, (67, 1)), (1, (34, 1))], 2, 32, [.nilp, .emp], none⟩ := by kernel_rfl
theorem ty22 : tyOf prog 22 = some ⟨.sl 61, 1, 24, [.emp], some (.l (.c .s (.i .i64)))⟩ := by kernel_rfl
theorem ty4 : tyOf prog 4 = some ⟨.bool, 1, 1, [.b false], some .b⟩ := by kernel_rfl
theorem ty111 : tyOf prog 111 = some ⟨.up, 1, 8, [.nilp], none⟩ := by kernel_rfl
theorem ty100 : tyOf prog 100 = some ⟨.ptr 5, 1, 8, [.nilp], none⟩ := by kernel_rfl
def Y : TT prog := mkTT _ (tys_cons ty9 (tys_cons ty2 (tys_cons ty39 (tys_cons ty3 (tys_cons ty25 (tys_cons ty34 (tys_cons ty61 (tys_cons ty67 (tys_cons ty5 (tys_cons ty69 (tys_cons ty22 (tys_cons ty4 (tys_cons ty111 (tys_cons ty100 tys_nil))))))))))))))
theorem mixed : prog.follows .mixedOrders = true := by kernel_rfl
def F86 (K : Nat) (x : List Int) : Option (List Int) := some x
def ct86 (K : Nat) : Ct := ⟨[.l (.ptr 0 0 0)], bldH 69 5 .nilp, [.l (.ptr 0 0 0)], bldH 69 5 .nilp, [], F86 K⟩
theorem c86 (K : Nat) : CtOk prog 86 (ct86 K) := ct_noEscape fun v w => by rw [run_callFunc_extern func86 (by kernel_rfl) (by kernel_rfl) (by kernel_rfl) (e := Extern.AbiNoEscape.same) (by kernel_rfl)]; rfl

-- (*strings.Builder).copyCheck
def F72A (K : Nat) (x : List Int) : Option (List Int) :=
  bindO (F86 K x) fun v0 =>
  some v0
def ct72A (K : Nat) : Ct := ⟨[.l (.ptr 0 0 0)], [⟨2, false, .mix (some 69) [[.l .nilp, .l (.bb 1)]]⟩, ⟨1, true, .row (.y 5)⟩], [], [⟨2, false, .mix (some 69) [[.l (.pon 0 0 0), .l (.bb 1)]]⟩, ⟨1, true, .row (.y 5)⟩], [], F72A K⟩
theorem c72A (K : Nat) : CtOk prog 72 (ct72A K) :=
  con_mk (Y := Y) (L := [(86, ct86 K)]) (K := K) (an := (.seq .no (.cond .no (.seq .no .no)))) func72 mixed (ctabOk_cons (c86 K) ctabOk_nil) (by kernel_rfl) fun x => by kernel_rfl

-- (*strings.Builder).copyCheck
def F72B (K : Nat) (x : List Int) : Option (List Int) :=
  some x
def ct72B (K : Nat) : Ct := ⟨[.l (.ptr 0 0 0)], [⟨2, false, .mix (some 69) [[.l (.ptr 0 0 0), .l (.bb 1)]]⟩, ⟨1, true, .row (.y 5)⟩], [], [⟨2, false, .mix (some 69) [[.l (.pon 0 0 0), .l (.bb 1)]]⟩, ⟨1, true, .row (.y 5)⟩], [], F72B K⟩
theorem c72B (K : Nat) : CtOk prog 72 (ct72B K) :=
  con_mk (Y := Y) (L := [(86, ct86 K)]) (K := K) (an := (.seq .no (.cond .no (.seq .no .no)))) func72 mixed (ctabOk_cons (c86 K) ctabOk_nil) (by kernel_rfl) fun x => by kernel_rfl

def F72 (K : Nat) (x : List Int) : Option (List Int) := some x
def ct72 (K : Nat) : Ct := ⟨[.l (.ptr 0 0 0)], bldH 69 5 (.pon 0 0 0), [], bldH 69 5 (.pon 0 0 0), [], F72 K⟩
theorem c72 (K : Nat) : CtOk prog 72 (ct72 K) := ct_bld (ps := [.l (.ptr 0 0 0)]) (T := 69) (e := 5) (rs := []) (hr := bldH 69 5 (.pon 0 0 0)) (refs := []) (F := F72 K) (c72A K) (c72B K)

-- loop.example/g00460/impl.Unmapped$1
def F49 (K : Nat) (x : (List UInt8) × Int × Int) : Option (Bool × Int) :=
  some (decide (x.2.1 = (w64 x.2.2)), x.2.2)
def ct49 (K : Nat) : Ct := ⟨[.agg [(.v .s), (.v (.i .i64))], .l (.ptr 0 0 0)], [⟨1, false, .mix (some 5) [[.l (.v (.i .u8))]]⟩], [.l (.v .b)], [⟨1, false, .mix (some 5) [[.l (.v (.i .u8))]]⟩], [], F49 K⟩
theorem c49 (K : Nat) : CtOk prog 49 (ct49 K) :=
  con_mk (Y := Y) (L := []) (K := K) (an := (.seq .no .no)) func49 mixed ctabOk_nil (by kernel_rfl) fun x => by kernel_rfl

-- slices.IndexFunc[[]loop.example/g00460/impl.Pair,loop.example/g00460/impl.Pair]
def F48_b0 (K : Nat) (x : (List ((List UInt8) × Int)) × Int × Int × Int) : Option (((List ((List UInt8) × Int)) × Int × Int × Int) ⊕ ((Int × Int) ⊕ Int)) :=
  branch (decide (x.2.2.1 < x.2.1))
   (nth x.1 x.2.2.1 fun v0 =>
   bindO (F49 K (v0.1, v0.2, x.2.2.2)) fun v1 =>
   branch v1.1
    (some (.inr (.inl (x.2.2.1, v1.2))))
    (some (.inl (x.1, x.2.1, w64 (x.2.2.1 + 1), v1.2))))
   (some (.inr (.inr x.2.2.2)))
def F48 (K : Nat) (x : (List ((List UInt8) × Int)) × Int) : Option (Int × Int) :=
  bindO (iter K (F48_b0 K) (x.1, (x.1.length : Int), 0, x.2)) fun v0 =>
  csO v0
   (fun v1 => some v1)
   (fun v2 => some ((-1), v2))
def ct48 (K : Nat) : Ct := ⟨[.l (.v (.l (.c .s (.i .i64)))), .clo 49 [(.ptr 0 0 0)]], [⟨1, false, .mix (some 5) [[.l (.v (.i .u8))]]⟩], [.l (.v (.i .i64))], [⟨1, false, .mix (some 5) [[.l (.v (.i .u8))]]⟩], [], F48 K⟩
theorem c48 (K : Nat) : CtOk prog 48 (ct48 K) :=
  con_mk (Y := Y) (L := [(49, ct49 K)]) (K := K) (an := (.seq .no (.seq (.seq .no (.blk (.loop [] ⟨(.l (.v (.l (.c .s (.i .i64)))) :: .clo 49 [(.ptr 0 0 0)] :: ru 5 (.l (.v (.i .i64)) :: .l (.v (.i .i64)) :: ru 10 [])), [(0, ⟨1, false, .mix (some 5) [[.l (.v (.i .u8))]]⟩)]⟩ [(0, ⟨(ru 19 []), [(0, ⟨1, false, .mix (some 5) [[.l (.v (.i .u8))]]⟩)]⟩)] true (.seq .no (.seq .no (.seq (.blk (.seq .no (.seq .no (.cond .no .no)))) .no)))))) .no))) func48 mixed (ctabOk_cons (c49 K) ctabOk_nil) (by kernel_rfl) fun x => by kernel_rfl

-- (*strings.Builder).WriteString
def F45 (K : Nat) (x : (List UInt8) × List Int) : Option (Int × Bool × List Int) :=
  bindO (F72 K x.2) fun v0 =>
  guard (fitN (v0.length + ((ofB x.1).length)) 1) <|
  some ((x.1.length : Int), false, v0 ++ (ofB x.1))
def ct45 (K : Nat) : Ct := ⟨[.l (.ptr 0 0 0), .l (.v .s)], [⟨2, false, .mix (some 69) [[.l (.pon 0 0 0), .l (.bb 1)]]⟩, ⟨1, true, .row (.y 5)⟩], [.l (.v (.i .i64)), .l (.v .e)], [⟨2, false, .mix (some 69) [[.l (.pon 0 0 0), .l (.bb 1)]]⟩, ⟨1, true, .row (.y 5)⟩], [], F45 K⟩
theorem c45 (K : Nat) : CtOk prog 45 (ct45 K) :=
  con_mk (Y := Y) (L := [(72, ct72 K)]) (K := K) (an := (.seq .no (.seq .no (.seq .no .no)))) func45 mixed (ctabOk_cons (c72 K) ctabOk_nil) (by kernel_rfl) fun x => by kernel_rfl

-- (*strings.Builder).String
def F47 (K : Nat) (x : List Int) : Option ((List UInt8) × List Int) :=
  branch (decide (0 < x.length))
   (guard (decide ((x.length : Int) = (x.length : Int) ∧ 0 < x.length ∧ x.length ≤ 9223372036854775807)) <|
   some (toB x, x))
   (guard (decide ((x.length : Int) = 0)) <|
   some ([], x))
def ct47 (K : Nat) : Ct := ⟨[.l (.ptr 0 0 0)], [⟨2, false, .mix (some 69) [[.l (.pon 0 0 0), .l (.bb 1)]]⟩, ⟨1, true, .row (.y 5)⟩], [.l (.v .s)], [⟨2, false, .mix (some 69) [[.l (.pon 0 0 0), .l (.bb 1)]]⟩, ⟨1, true, .row (.y 5)⟩], [], F47 K⟩
theorem c47 (K : Nat) : CtOk prog 47 (ct47 K) :=
  con_mk (Y := Y) (L := []) (K := K) (an := (.seq .no (.seq (.reg [4, 10] []) .no))) func47 mixed ctabOk_nil (by kernel_rfl) fun x => by kernel_rfl

-- (*strings.Builder).Len
def F56 (K : Nat) (x : List Int) : Option (Int × List Int) :=
  some ((x.length : Int), x)
def ct56 (K : Nat) : Ct := ⟨[.l (.ptr 0 0 0)], [⟨2, false, .mix (some 69) [[.l (.pon 0 0 0), .l (.bb 1)]]⟩, ⟨1, true, .row (.y 5)⟩], [.l (.v (.i .i64))], [⟨2, false, .mix (some 69) [[.l (.pon 0 0 0), .l (.bb 1)]]⟩, ⟨1, true, .row (.y 5)⟩], [], F56 K⟩
theorem c56 (K : Nat) : CtOk prog 56 (ct56 K) :=
  con_mk (Y := Y) (L := []) (K := K) (an := (.seq .no .no)) func56 mixed ctabOk_nil (by kernel_rfl) fun x => by kernel_rfl

-- loop.example/g00460/spec.l1In
def F71 (K : Nat) (x : Int × Int × Int) : Option (Bool) :=
  branch (decide (x.2.1 ≤ x.1))
   (some (decide (x.1 ≤ x.2.2)))
   (some false)
def ct71 (K : Nat) : Ct := ⟨[.l (.v (.i .i64)), .l (.v (.i .i64)), .l (.v (.i .i64))], [], [.l (.v .b)], [], [], F71 K⟩
theorem c71 (K : Nat) : CtOk prog 71 (ct71 K) :=
  con_mk (Y := Y) (L := []) (K := K) (an := (.seq .no .no)) func71 mixed ctabOk_nil (by kernel_rfl) fun x => by kernel_rfl

-- loop.example/g00460/spec.l4Byte
def F38 (K : Nat) (x : Int) : Option (Bool) :=
  bindO (F71 K (x, 0, 255)) fun v0 =>
  some v0
def ct38 (K : Nat) : Ct := ⟨[.l (.v (.i .i64))], [], [.l (.v .b)], [], [], F38 K⟩
theorem c38 (K : Nat) : CtOk prog 38 (ct38 K) :=
  con_mk (Y := Y) (L := [(71, ct71 K)]) (K := K) (an := (.seq .no .no)) func38 mixed (ctabOk_cons (c71 K) ctabOk_nil) (by kernel_rfl) fun x => by kernel_rfl

-- loop.example/g00460/impl.within
def F40 (K : Nat) (x : Int × Int × Int) : Option (Bool) :=
  branch (decide (x.2.1 ≤ x.1))
   (some (decide (x.1 ≤ x.2.2)))
   (some false)
def ct40 (K : Nat) : Ct := ⟨[.l (.v (.i .i64)), .l (.v (.i .i64)), .l (.v (.i .i64))], [], [.l (.v .b)], [], [], F40 K⟩
theorem c40 (K : Nat) : CtOk prog 40 (ct40 K) :=
  con_mk (Y := Y) (L := []) (K := K) (an := (.seq .no .no)) func40 mixed ctabOk_nil (by kernel_rfl) fun x => by kernel_rfl

-- loop.example/g00460/impl.isByte
def F41 (K : Nat) (x : Int) : Option (Bool) :=
  bindO (F40 K (x, 0, 255)) fun v0 =>
  some v0
def ct41 (K : Nat) : Ct := ⟨[.l (.v (.i .i64))], [], [.l (.v .b)], [], [], F41 K⟩
theorem c41 (K : Nat) : CtOk prog 41 (ct41 K) :=
  con_mk (Y := Y) (L := [(40, ct40 K)]) (K := K) (an := (.seq .no .no)) func41 mixed (ctabOk_cons (c40 K) ctabOk_nil) (by kernel_rfl) fun x => by kernel_rfl

-- loop.example/g00460/spec.CharsOk
def F14_b0 (K : Nat) (x : (List ((List UInt8) × Int)) × Int) : Option (((List ((List UInt8) × Int)) × Int) ⊕ (Bool ⊕ (List ((List UInt8) × Int)))) :=
  branch (decide (x.2 < (x.1.length : Int)))
   (bindO (nth x.1 x.2 fun v0 =>
     branch (decide ((v0.1.length : Int) < 1))
      (some (x.1, x.2, true))
      (nth x.1 x.2 fun v1 =>
      branch (decide (4 < (v1.1.length : Int)))
       (some (x.1, x.2, true))
       (nth x.1 x.2 fun v2 =>
       bindO (F38 K v2.2) fun v3 =>
       branch (!v3)
        (some (x.1, x.2, true))
        (branch (decide (0 < x.2))
         (nth x.1 (w64 (x.2 - 1)) fun v4 =>
         nth x.1 x.2 fun v5 =>
         some (x.1, x.2, !(Go.Op.bytesLess v4.1 v5.1)))
         (some (x.1, x.2, false)))))) fun v6 =>
   branch v6.2.2
    (some (.inr (.inl false)))
    (some (.inl (v6.1, w64 (v6.2.1 + 1)))))
   (some (.inr (.inr x.1)))
def F14 (K : Nat) (x : List ((List UInt8) × Int)) : Option (Bool) :=
  bindO (iter K (F14_b0 K) (x, 0)) fun v0 =>
  csO v0
   (fun v1 => some v1)
   (fun v2 => some (decide ((v2.length : Int) ≤ 16)))
def ct14 (K : Nat) : Ct := ⟨[.l (.v (.l (.c .s (.i .i64))))], [], [.l (.v .b)], [], [], F14 K⟩
theorem c14 (K : Nat) : CtOk prog 14 (ct14 K) :=
  con_mk (Y := Y) (L := [(38, ct38 K)]) (K := K) (an := (.seq .no (.seq (.seq .no (.blk (.loop [] ⟨(.l (.v (.l (.c .s (.i .i64)))) :: ru 2 (.l (.v (.i .i64)) :: ru 52 [])), []⟩ [(0, ⟨(.l (.v (.l (.c .s (.i .i64)))) :: ru 55 []), []⟩)] true (.seq (.seq .no .no) (.seq (.blk (.seqJ [(1000000, ⟨(.l (.v (.l (.c .s (.i .i64)))) :: ru 2 (.l (.v (.i .i64)) :: ru 48 (.l (.v .b) :: ru 3 []))), []⟩)] false .no (.cond .no .no))) .no))))) .no))) func14 mixed (ctabOk_cons (c38 K) ctabOk_nil) (by kernel_rfl) fun x => by kernel_rfl

-- loop.example/g00460/impl.CharsOk
def F16_b0 (K : Nat) (x : (List ((List UInt8) × Int)) × (List ((List UInt8) × Int)) × Int × Int) : Option (((List ((List UInt8) × Int)) × (List ((List UInt8) × Int)) × Int × Int) ⊕ (Bool ⊕ (List ((List UInt8) × Int)))) :=
  branch (decide (x.2.2.2 < x.2.2.1))
   (nth x.2.1 x.2.2.2 fun v0 =>
   bindO (bindO (F40 K ((v0.1.length : Int), 1, 4)) fun v1 =>
     branch (!v1)
      (some (x.1, x.2.1, x.2.2.1, x.2.2.2, true))
      (bindO (F41 K v0.2) fun v2 =>
      branch (!v2)
       (some (x.1, x.2.1, x.2.2.1, x.2.2.2, true))
       (branch (decide (0 < x.2.2.2))
        (nth x.1 (w64 (x.2.2.2 - 1)) fun v3 =>
        some (x.1, x.2.1, x.2.2.1, x.2.2.2, (Go.Op.bytesLess v0.1 v3.1) || (decide (v0.1 = v3.1))))
        (some (x.1, x.2.1, x.2.2.1, x.2.2.2, false))))) fun v4 =>
   branch v4.2.2.2.2
    (some (.inr (.inl false)))
    (some (.inl (v4.1, v4.2.1, v4.2.2.1, w64 (v4.2.2.2.1 + 1)))))
   (some (.inr (.inr x.1)))
def F16 (K : Nat) (x : List ((List UInt8) × Int)) : Option (Bool) :=
  bindO (iter K (F16_b0 K) (x, x, (x.length : Int), 0)) fun v0 =>
  csO v0
   (fun v1 => some v1)
   (fun v2 => some (decide ((v2.length : Int) ≤ 16)))
def ct16 (K : Nat) : Ct := ⟨[.l (.v (.l (.c .s (.i .i64))))], [], [.l (.v .b)], [], [], F16 K⟩
theorem c16 (K : Nat) : CtOk prog 16 (ct16 K) :=
  con_mk (Y := Y) (L := [(40, ct40 K), (41, ct41 K)]) (K := K) (an := (.seq .no (.seq (.seq .no (.blk (.loop [] ⟨(.l (.v (.l (.c .s (.i .i64)))) :: ru 4 (.l (.v (.l (.c .s (.i .i64)))) :: .l (.v (.i .i64)) :: .l (.v (.i .i64)) :: ru 34 [])), []⟩ [(0, ⟨(.l (.v (.l (.c .s (.i .i64)))) :: ru 41 []), []⟩)] true (.seq .no (.seq .no (.seq (.blk (.seq .no (.seqJ [(1000000, ⟨(.l (.v (.l (.c .s (.i .i64)))) :: ru 4 (.l (.v (.l (.c .s (.i .i64)))) :: .l (.v (.i .i64)) :: .l (.v (.i .i64)) :: ru 29 (.l (.v .b) :: ru 4 []))), []⟩)] false .no (.cond .no .no)))) .no)))))) .no))) func16 mixed (ctabOk_cons (c40 K) (ctabOk_cons (c41 K) ctabOk_nil)) (by kernel_rfl) fun x => by kernel_rfl

-- loop.example/g00460/spec.Unmapped
def F20_b1 (K : Nat) (x : (List ((List UInt8) × Int)) × (List UInt8) × (List UInt8) × Int × Int × Int) : Option (((List ((List UInt8) × Int)) × (List UInt8) × (List UInt8) × Int × Int × Int) ⊕ ((List ((List UInt8) × Int)) × (List UInt8) × (List UInt8) × Int × Int)) :=
  branch (decide (x.2.2.2.2.2 < (x.1.length : Int)))
   (bindO (branch (decide (x.2.2.2.2.1 < 0))
      (nth x.1 x.2.2.2.2.2 fun v0 =>
      nth x.2.1 x.2.2.2.1 fun v1 =>
      some (x.1, x.2.1, x.2.2.1, x.2.2.2.1, x.2.2.2.2.1, x.2.2.2.2.2, decide (v0.2 = (w64 (v1.toNat : Int)))))
      (some (x.1, x.2.1, x.2.2.1, x.2.2.2.1, x.2.2.2.2.1, x.2.2.2.2.2, false))) fun v2 =>
   branch v2.2.2.2.2.2.2
    (some (.inl (v2.1, v2.2.1, v2.2.2.1, v2.2.2.2.1, v2.2.2.2.2.2.1, w64 (v2.2.2.2.2.2.1 + 1))))
    (some (.inl (v2.1, v2.2.1, v2.2.2.1, v2.2.2.2.1, v2.2.2.2.2.1, w64 (v2.2.2.2.2.2.1 + 1)))))
   (some (.inr (x.1, x.2.1, x.2.2.1, x.2.2.2.1, x.2.2.2.2.1)))
def F20_b0 (K : Nat) (x : (List ((List UInt8) × Int)) × (List UInt8) × (List UInt8) × Int) : Option (((List ((List UInt8) × Int)) × (List UInt8) × (List UInt8) × Int) ⊕ (((List UInt8) × Bool) ⊕ (List UInt8))) :=
  branch (decide (x.2.2.2 < (x.2.1.length : Int)))
   (bindO (iter K (F20_b1 K) (x.1, x.2.1, x.2.2.1, x.2.2.2, (-1), 0)) fun v0 =>
   branch (decide (v0.2.2.2.2 < 0))
    (some (.inr (.inl ([], false))))
    (nth v0.1 v0.2.2.2.2 fun v1 =>
    guard (decide ((v0.2.2.1.length + v1.1.length) ≤ 9223372036854775807)) <|
    some (.inl (v0.1, v0.2.1, v0.2.2.1 ++ v1.1, w64 (v0.2.2.2.1 + 1)))))
   (some (.inr (.inr x.2.2.1)))
def F20 (K : Nat) (x : (List ((List UInt8) × Int)) × List UInt8) : Option ((List UInt8) × Bool) :=
  bindO (bindO (bindO (F14 K x.1) fun v0 =>
      branch (!v0)
       (some (x.1, x.2, true))
       (some (x.1, x.2, decide (20000 < (x.2.length : Int))))) fun v1 =>
    branch v1.2.2
     (some (.inl ([], false)))
     (some (.inr (v1.1, v1.2.1)))) fun v2 =>
  csO v2
   (fun v3 => some v3)
   (fun v4 => bindO (iter K (F20_b0 K) (v4.1, v4.2, [], 0)) fun v5 =>
   csO v5
    (fun v6 => some v6)
    (fun v7 => some (v7, true)))
def ct20 (K : Nat) : Ct := ⟨[.l (.v (.l (.c .s (.i .i64)))), .l (.v .s)], [], [.l (.v .s), .l (.v .b)], [], [], F20 K⟩
theorem c20 (K : Nat) : CtOk prog 20 (ct20 K) :=
  con_mk (Y := Y) (L := [(14, ct14 K)]) (K := K) (an := (.seq .no (.seqJ [(1000000, ⟨(.l (.v (.l (.c .s (.i .i64)))) :: .l (.v .s) :: ru 53 []), []⟩)] true (.seqJ [(1000000, ⟨(.l (.v (.l (.c .s (.i .i64)))) :: .l (.v .s) :: ru 15 (.l (.v .b) :: ru 37 [])), []⟩)] false .no (.cond .no .no)) (.seq .no (.seq (.seq .no (.blk (.loop [] ⟨(.l (.v (.l (.c .s (.i .i64)))) :: .l (.v .s) :: ru 4 (.l (.v .s) :: .l (.v (.i .i64)) :: ru 47 [])), []⟩ [(0, ⟨(ru 6 (.l (.v .s) :: ru 48 [])), []⟩)] true (.seq (.seq .no .no) (.seq (.blk (.seq .no (.seq (.seq .no (.blk (.loop [] ⟨(.l (.v (.l (.c .s (.i .i64)))) :: .l (.v .s) :: ru 4 (.l (.v .s) :: .l (.v (.i .i64)) :: .l (.v (.i .i64)) :: .l (.v (.i .i64)) :: ru 45 [])), []⟩ [(2, ⟨(.l (.v (.l (.c .s (.i .i64)))) :: .l (.v .s) :: ru 4 (.l (.v .s) :: .l (.v (.i .i64)) :: .l (.v (.i .i64)) :: ru 46 [])), []⟩)] false (.seq (.seq .no .no) (.seq (.blk (.seqJ [(1000000, ⟨(.l (.v (.l (.c .s (.i .i64)))) :: .l (.v .s) :: ru 4 (.l (.v .s) :: .l (.v (.i .i64)) :: .l (.v (.i .i64)) :: .l (.v (.i .i64)) :: ru 33 (.l (.v .b) :: ru 11 []))), []⟩)] false .no .no)) .no))))) (.seq (.seq .no (.cond .no .no)) .no)))) .no))))) .no))))) func20 mixed (ctabOk_cons (c14 K) ctabOk_nil) (by kernel_rfl) fun x => by kernel_rfl

-- loop.example/g00460/impl.Unmapped
def F21_b0 (K : Nat) (x : (List ((List UInt8) × Int)) × Int × Int × (List Int) × List Int) : Option (((List ((List UInt8) × Int)) × Int × Int × (List Int) × List Int) ⊕ (((List UInt8) × Bool) ⊕ (List Int))) :=
  branch (decide (x.2.2.1 < x.2.1))
   (guard (decide (0 ≤ x.2.2.1 ∧ x.2.2.1 < (x.2.2.2.1.length : Int))) <|
   nthN x.2.2.2.1 x.2.2.1.toNat fun v0 =>
   bindO (F48 K (x.1, v0)) fun v1 =>
   branch (decide (v1.1 < 0))
    (some (.inr (.inl ([], false))))
    (nth x.1 v1.1 fun v2 =>
    bindO (F45 K (v2.1, x.2.2.2.2)) fun v3 =>
    some (.inl (x.1, x.2.1, w64 (x.2.2.1 + 1), x.2.2.2.1, v3.2.2))))
   (some (.inr (.inr x.2.2.2.2)))
def F21 (K : Nat) (x : (List ((List UInt8) × Int)) × List UInt8) : Option ((List UInt8) × Bool) :=
  bindO (bindO (bindO (F16 K x.1) fun v0 =>
      branch (!v0)
       (some (x.1, x.2, true))
       (some (x.1, x.2, decide (20000 < (x.2.length : Int))))) fun v1 =>
    branch v1.2.2
     (some (.inl ([], false)))
     (some (.inr (v1.1, v1.2.1)))) fun v2 =>
  csO v2
   (fun v3 => some v3)
   (fun v4 => bindO (iter K (F21_b0 K) (v4.1, ((ofB v4.2).length : Int), 0, ofB v4.2, [])) fun v5 =>
   csO v5
    (fun v6 => some v6)
    (fun v7 => bindO (F47 K v7) fun v8 =>
    some (v8.1, true)))
def ct21 (K : Nat) : Ct := ⟨[.l (.v (.l (.c .s (.i .i64)))), .l (.v .s)], [], [.l (.v .s), .l (.v .b)], [], [], F21 K⟩
theorem c21 (K : Nat) : CtOk prog 21 (ct21 K) :=
  con_mk (Y := Y) (L := [(49, ct49 K), (48, ct48 K), (45, ct45 K), (47, ct47 K), (16, ct16 K)]) (K := K) (an := (.seq .no (.seqJ [(1000000, ⟨(.l (.v (.l (.c .s (.i .i64)))) :: .l (.v .s) :: ru 36 []), []⟩)] true (.seqJ [(1000000, ⟨(.l (.v (.l (.c .s (.i .i64)))) :: .l (.v .s) :: ru 15 (.l (.v .b) :: ru 20 [])), []⟩)] false .no (.cond .no .no)) (.seq .no (.seq (.seq (.reg [] [(0, .vcell 7000 1 7050 1 (.y 5))]) (.blk (.loop [] ⟨(.l (.v (.l (.c .s (.i .i64)))) :: ru 5 (.l (.ptr 7000 0 0) :: ru 12 (.l (.all 20000) :: .l (.v (.i .i64)) :: .l (.v (.i .i64)) :: ru 16 []))), [(20000, ⟨1, true, .row (.i .u8)⟩), (7050, ⟨1, true, .row (.y 5)⟩), (7000, ⟨2, false, .mix (some 69) [[.l (.pon 7000 0 0), .l (.bb 7050)]]⟩)]⟩ [(0, ⟨(ru 6 (.l (.ptr 7000 0 0) :: ru 31 [])), [(7050, ⟨1, true, .row (.y 5)⟩), (7000, ⟨2, false, .mix (some 69) [[.l (.pon 7000 0 0), .l (.bb 7050)]]⟩)]⟩)] true (.seq .no (.seq .no (.seq (.blk (.seq .no (.seq .no (.seq (.seq .no (.cond .no .no)) .no)))) .no)))))) .no))))) func21 mixed (ctabOk_cons (c49 K) (ctabOk_cons (c48 K) (ctabOk_cons (c45 K) (ctabOk_cons (c47 K) (ctabOk_cons (c16 K) ctabOk_nil))))) (by kernel_rfl) fun x => by kernel_rfl

-- loop.example/g00460/laws.szPair
def F37 (K : Nat) (x : (List UInt8) × Int × Int) : Option (Int) :=
  branch (decide ((w64 (x.2.2 - (x.1.length : Int))) < 0))
   (some (-1))
   (some (w64 (x.2.2 - (x.1.length : Int))))
def ct37 (K : Nat) : Ct := ⟨[.agg [(.v .s), (.v (.i .i64))], .l (.v (.i .i64))], [], [.l (.v (.i .i64))], [], [], F37 K⟩
theorem c37 (K : Nat) : CtOk prog 37 (ct37 K) :=
  con_mk (Y := Y) (L := []) (K := K) (an := (.seq .no (.seq .no (.seq (.seq .no (.cond .no .no)) .no)))) func37 mixed ctabOk_nil (by kernel_rfl) fun x => by kernel_rfl

-- loop.example/g00460/laws.szPairS
def F13_b0 (K : Nat) (x : (List ((List UInt8) × Int)) × Int × Int) : Option (((List ((List UInt8) × Int)) × Int × Int) ⊕ (Int ⊕ Int)) :=
  branch (decide (x.2.2 < (x.1.length : Int)))
   (nth x.1 x.2.2 fun v0 =>
   bindO (F37 K (v0.1, v0.2, x.2.1)) fun v1 =>
   branch (decide (v1 < 0))
    (some (.inr (.inl (-1))))
    (some (.inl (x.1, v1, w64 (x.2.2 + 1)))))
   (some (.inr (.inr x.2.1)))
def F13 (K : Nat) (x : (List ((List UInt8) × Int)) × Int) : Option (Int) :=
  branch (decide ((w64 (x.2 - (x.1.length : Int))) < 0))
   (some (-1))
   (bindO (iter K (F13_b0 K) (x.1, w64 (x.2 - (x.1.length : Int)), 0)) fun v0 =>
   csO v0
    (fun v1 => some v1)
    (fun v2 => some v2))
def ct13 (K : Nat) : Ct := ⟨[.l (.v (.l (.c .s (.i .i64)))), .l (.v (.i .i64))], [], [.l (.v (.i .i64))], [], [], F13 K⟩
theorem c13 (K : Nat) : CtOk prog 13 (ct13 K) :=
  con_mk (Y := Y) (L := [(37, ct37 K)]) (K := K) (an := (.seq .no (.seq .no (.seq (.seq .no (.cond .no .no)) (.seq (.seq .no (.blk (.loop [] ⟨(.l (.v (.l (.c .s (.i .i64)))) :: .l (.v (.i .i64)) :: ru 3 (.l (.v (.i .i64)) :: ru 21 [])), []⟩ [(0, ⟨(ru 1 (.l (.v (.i .i64)) :: ru 25 [])), []⟩)] true (.seq (.seq .no .no) (.seq (.blk (.seq .no (.seq .no (.cond .no .no)))) .no))))) .no))))) func13 mixed (ctabOk_cons (c37 K) ctabOk_nil) (by kernel_rfl) fun x => by kernel_rfl

-- loop.example/g00460/laws.toPair
def F39 (K : Nat) (x : (List UInt8) × Int) : Option ((List UInt8) × Int) :=
  some x
def ct39 (K : Nat) : Ct := ⟨[.agg [(.v .s), (.v (.i .i64))]], [], [.agg [(.v .s), (.v (.i .i64))]], [], [], F39 K⟩
theorem c39 (K : Nat) : CtOk prog 39 (ct39 K) :=
  con_mk (Y := Y) (L := []) (K := K) (an := (.seq .no (.seq .no (.seq .no (.seq .no .no))))) func39 mixed ctabOk_nil (by kernel_rfl) fun x => by kernel_rfl

-- loop.example/g00460/laws.toPairS
def F15_b0 (K : Nat) (x : (List ((List UInt8) × Int)) × Int × List ((List UInt8) × Int)) : Option (((List ((List UInt8) × Int)) × Int × List ((List UInt8) × Int)) ⊕ (List ((List UInt8) × Int))) :=
  branch (decide (x.2.1 < (x.1.length : Int)))
   (nth x.1 x.2.1 fun v0 =>
   bindO (F39 K v0) fun v1 =>
   guard (decide (0 ≤ x.2.1 ∧ x.2.1 < (x.2.2.length : Int))) <|
   nthN x.2.2 x.2.1.toNat fun v2 =>
   some (.inl (x.1, w64 (x.2.1 + 1), List.set x.2.2 x.2.1.toNat v1)))
   (some (.inr x.2.2))
def F15 (K : Nat) (x : List ((List UInt8) × Int)) : Option (List ((List UInt8) × Int)) :=
  guard (decide ((x.length : Int) = (x.length : Int) ∧ 0 ≤ (x.length : Int) ∧ (24 * ((x.length : Int).toNat)) ≤ 281474976710656)) <|
  bindO (iter K (F15_b0 K) (x, 0, List.replicate ((x.length : Int).toNat) ([], 0))) fun v0 =>
  some v0
def ct15 (K : Nat) : Ct := ⟨[.l (.v (.l (.c .s (.i .i64))))], [], [.l (.v (.l (.c .s (.i .i64))))], [], [], F15 K⟩
theorem c15 (K : Nat) : CtOk prog 15 (ct15 K) :=
  con_mk (Y := Y) (L := [(39, ct39 K)]) (K := K) (an := (.seq .no (.seq .no (.seq (.seq .no (.blk (.loop [] ⟨(.l (.v (.l (.c .s (.i .i64)))) :: ru 2 (.l (.all 8000) :: .l (.v (.i .i64)) :: ru 18 [])), [(8000, ⟨2, true, .row (.c .s (.i .i64))⟩)]⟩ [(0, ⟨(ru 3 (.l (.all 8000) :: ru 19 [])), [(8000, ⟨2, true, .row (.c .s (.i .i64))⟩)]⟩)] false (.seq (.seq .no .no) (.seq .no .no))))) .no)))) func15 mixed (ctabOk_cons (c39 K) ctabOk_nil) (by kernel_rfl) fun x => by kernel_rfl

-- loop.example/g00460/laws.eqPair
def F42 (K : Nat) (x : (List UInt8) × Int × (List UInt8) × Int) : Option (Bool) :=
  branch (!(decide (x.1 = x.2.2.1)))
   (some false)
   (branch (!(decide (x.2.1 = x.2.2.2)))
    (some false)
    (some true))
def ct42 (K : Nat) : Ct := ⟨[.agg [(.v .s), (.v (.i .i64))], .agg [(.v .s), (.v (.i .i64))]], [], [.l (.v .b)], [], [], F42 K⟩
theorem c42 (K : Nat) : CtOk prog 42 (ct42 K) :=
  con_mk (Y := Y) (L := []) (K := K) (an := (.seq .no (.seq (.seq .no (.cond .no .no)) (.seq (.seq .no (.cond .no .no)) .no)))) func42 mixed ctabOk_nil (by kernel_rfl) fun x => by kernel_rfl

-- loop.example/g00460/laws.eqPairS
def F17_b0 (K : Nat) (x : (List ((List UInt8) × Int)) × (List ((List UInt8) × Int)) × Int) : Option (((List ((List UInt8) × Int)) × (List ((List UInt8) × Int)) × Int) ⊕ (Bool ⊕ Unit)) :=
  branch (decide (x.2.2 < (x.1.length : Int)))
   (nth x.1 x.2.2 fun v0 =>
   nth x.2.1 x.2.2 fun v1 =>
   bindO (F42 K (v0.1, v0.2, v1)) fun v2 =>
   branch (!v2)
    (some (.inr (.inl false)))
    (some (.inl (x.1, x.2.1, w64 (x.2.2 + 1)))))
   (some (.inr (.inr ())))
def F17 (K : Nat) (x : (List ((List UInt8) × Int)) × List ((List UInt8) × Int)) : Option (Bool) :=
  branch (!(decide ((x.1.length : Int) = (x.2.length : Int))))
   (some false)
   (bindO (iter K (F17_b0 K) (x.1, x.2, 0)) fun v0 =>
   csO v0
    (fun v1 => some v1)
    (fun v2 => some true))
def ct17 (K : Nat) : Ct := ⟨[.l (.v (.l (.c .s (.i .i64)))), .l (.v (.l (.c .s (.i .i64))))], [], [.l (.v .b)], [], [], F17 K⟩
theorem c17 (K : Nat) : CtOk prog 17 (ct17 K) :=
  con_mk (Y := Y) (L := [(42, ct42 K)]) (K := K) (an := (.seq .no (.seq (.seq .no (.cond .no .no)) (.seq (.seq .no (.blk (.loop [] ⟨(.l (.v (.l (.c .s (.i .i64)))) :: .l (.v (.l (.c .s (.i .i64)))) :: ru 3 (.l (.v (.i .i64)) :: ru 21 [])), []⟩ [(0, ⟨(ru 27 []), []⟩)] true (.seq (.seq .no .no) (.seq (.blk (.seq .no (.cond .no .no))) .no))))) .no)))) func17 mixed (ctabOk_cons (c42 K) ctabOk_nil) (by kernel_rfl) fun x => by kernel_rfl

-- loop.example/g00460/laws.FnExactUnmapped
def F5 (K : Nat) (x : (List ((List UInt8) × Int)) × List UInt8) : Option (Bool) :=
  branch (decide (1048576 < (x.2.length : Int)))
   (some true)
   (bindO (F13 K (x.1, 1048576)) fun v0 =>
   branch (decide (v0 < 0))
    (some true)
    (bindO (F15 K x.1) fun v1 =>
    bindO (F20 K (v1, x.2)) fun v2 =>
    bindO (F15 K x.1) fun v3 =>
    bindO (F21 K (v3, x.2)) fun v4 =>
    bindO (bindO (branch (!(decide (v4.1 = v2.1)))
         (some (x.1, v3, true))
         (some (x.1, v3, !(decide (v4.2 = v2.2))))) fun v5 =>
      branch v5.2.2
       (some (.inl false))
       (some (.inr (v5.1, v5.2.1)))) fun v6 =>
    csO v6
     (fun v7 => some v7)
     (fun v8 => bindO (F15 K v8.1) fun v9 =>
     bindO (F17 K (v8.2, v9)) fun v10 =>
     branch (!v10)
      (some false)
      (some true))))
def ct5 (K : Nat) : Ct := ⟨[.l (.v (.l (.c .s (.i .i64)))), .l (.v .s)], [], [.l (.v .b)], [], [], F5 K⟩
theorem c5 (K : Nat) : CtOk prog 5 (ct5 K) :=
  con_mk (Y := Y) (L := [(20, ct20 K), (21, ct21 K), (13, ct13 K), (15, ct15 K), (17, ct17 K)]) (K := K) (an := (.seq .no (.seq (.seq .no (.cond .no .no)) (.seq .no (.seq .no (.seq (.seq .no (.cond .no .no)) (.seq .no (.seq .no (.seq .no (.seqJ [(1000000, ⟨(.l (.v (.l (.c .s (.i .i64)))) :: ru 7 (.l (.v (.l (.c .s (.i .i64)))) :: ru 38 [])), []⟩)] true (.seqJ [(1000000, ⟨(.l (.v (.l (.c .s (.i .i64)))) :: ru 7 (.l (.v (.l (.c .s (.i .i64)))) :: ru 32 (.l (.v .b) :: ru 5 []))), []⟩)] false .no (.cond .no .no)) (.seq (.seq .no (.cond .no .no)) .no))))))))))) func5 mixed (ctabOk_cons (c20 K) (ctabOk_cons (c21 K) (ctabOk_cons (c13 K) (ctabOk_cons (c15 K) (ctabOk_cons (c17 K) ctabOk_nil))))) (by kernel_rfl) fun x => by kernel_rfl

def T22 : Ty := (.l (.c .s (.i .i64)))
theorem tl22 : tyL prog 64 22 = some T22 := by kernel_rfl
def T9 : Ty := .s
theorem tl9 : tyL prog 64 9 = some T9 := by kernel_rfl
def A5 (K : Nat) (a0 : T22.den) (a1 : T9.den) : Option Bool := F5 K (a0, a1)
theorem fun5 (K : Nat) (a0 : T22.den) (a1 : T9.den) : funOf (ct5 K) [.d (.rov (.c .s (.i .i64)) a0), .d (.str a1)] [] = bindO (A5 K a0 a1) fun r => some ([.d (.b r)], []) := by kernel_rfl
end Go.U.Try
