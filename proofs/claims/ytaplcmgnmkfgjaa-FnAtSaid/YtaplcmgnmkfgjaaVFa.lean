/- The functions that the law FnAt reaches, told. No condition. -/
import Derived.Test.YtaplcmgnmkfgjaaUYh
import Derived.Test.YtaplcmgnmkfgjaaProg
set_option linter.unusedVariables false
set_option linter.unusedSimpArgs false
set_option linter.unusedSectionVars false
namespace Go.U.Try
open Go Go.U Go.Proofs Go.Proofs.Try
set_option maxRecDepth 100000
set_option linter.unusedVariables false
instance : Gl prog := ⟨[], fun _ _ => True⟩
theorem ty2 : tyOf prog 2 = some ⟨.int .i64, 1, 8, [.i .i64 0], some (.i .i64)⟩ := by kernel_rfl
theorem ty9 : tyOf prog 9 = some ⟨.str, 1, 16, [.str []], some .s⟩ := by kernel_rfl
theorem ty4 : tyOf prog 4 = some ⟨.bool, 1, 1, [.b false], some .b⟩ := by kernel_rfl
theorem ty25 : tyOf prog 25 = some ⟨.st [(0, (2, 1)), (1, (2, 1)), (2, (2, 1)), (3, (2, 1)), (4, (2, 1)), (5, (2, 1)), (6, (2, 1)), (7, (2, 1)), (8, (2, 1)), (9, (2, 1)), (10, (4, 1)), (11, (4, 1))], 12, 88, [.i .i64 0, .i .i64 0, .i .i64 0, .i .i64 0, .i .i64 0, .i .i64 0, .i .i64 0, .i .i64 0, .i .i64 0, .i .i64 0, .b false, .b false], some (.c (.i .i64) (.c (.i .i64) (.c (.i .i64) (.c (.i .i64) (.c (.i .i64) (.c (.i .i64) (.c (.i .i64) (.c (.i .i64) (.c (.i .i64) (.c (.i .i64) (.c .b .b)))))))))))⟩ := by kernel_rfl
theorem ty27 : tyOf prog 27 = some ⟨.st [(0, (9, 1)), (1, (2, 1)), (2, (2, 1)), (3, (9, 1)), (4, (2, 1)), (5, (4, 1)), (6, (2, 1))], 7, 72, [.str [], .i .i64 0, .i .i64 0, .str [], .i .i64 0, .b false, .i .i64 0], some (.c .s (.c (.i .i64) (.c (.i .i64) (.c .s (.c (.i .i64) (.c .b (.i .i64)))))))⟩ := by kernel_rfl
theorem ty30 : tyOf prog 30 = some ⟨.st [(0, (25, 12)), (12, (27, 7)), (19, (9, 1)), (20, (9, 1)), (21, (28, 1)), (22, (2, 1))], 23, 224, [.i .i64 0, .i .i64 0, .i .i64 0, .i .i64 0, .i .i64 0, .i .i64 0, .i .i64 0, .i .i64 0, .i .i64 0, .i .i64 0, .b false, .b false, .str [], .i .i64 0, .i .i64 0, .str [], .i .i64 0, .b false, .i .i64 0, .str [], .str [], .emp, .i .i64 0], some (.c (.c (.i .i64) (.c (.i .i64) (.c (.i .i64) (.c (.i .i64) (.c (.i .i64) (.c (.i .i64) (.c (.i .i64) (.c (.i .i64) (.c (.i .i64) (.c (.i .i64) (.c .b .b))))))))))) (.c (.c .s (.c (.i .i64) (.c (.i .i64) (.c .s (.c (.i .i64) (.c .b (.i .i64))))))) (.c .s (.c .s (.c (.l (.i .i64)) (.i .i64))))))⟩ := by kernel_rfl
theorem ty28 : tyOf prog 28 = some ⟨.sl 2, 1, 24, [.emp], some (.l (.i .i64))⟩ := by kernel_rfl
theorem ty60 : tyOf prog 60 = some ⟨.st [(0, (2, 1)), (1, (4, 1)), (2, (2, 1))], 3, 24, [.i .i64 0, .b false, .i .i64 0], some (.c (.i .i64) (.c .b (.i .i64)))⟩ := by kernel_rfl
theorem ty3 : tyOf prog 3 = some ⟨.int .i64, 1, 8, [.i .i64 0], some (.i .i64)⟩ := by kernel_rfl
theorem ty74 : tyOf prog 74 = some ⟨.st [(0, (30, 23)), (23, (4, 1))], 24, 232, [.i .i64 0, .i .i64 0, .i .i64 0, .i .i64 0, .i .i64 0, .i .i64 0, .i .i64 0, .i .i64 0, .i .i64 0, .i .i64 0, .b false, .b false, .str [], .i .i64 0, .i .i64 0, .str [], .i .i64 0, .b false, .i .i64 0, .str [], .str [], .emp, .i .i64 0, .b false], some (.c (.c (.c (.i .i64) (.c (.i .i64) (.c (.i .i64) (.c (.i .i64) (.c (.i .i64) (.c (.i .i64) (.c (.i .i64) (.c (.i .i64) (.c (.i .i64) (.c (.i .i64) (.c .b .b))))))))))) (.c (.c .s (.c (.i .i64) (.c (.i .i64) (.c .s (.c (.i .i64) (.c .b (.i .i64))))))) (.c .s (.c .s (.c (.l (.i .i64)) (.i .i64)))))) .b)⟩ := by kernel_rfl
theorem ty5 : tyOf prog 5 = some ⟨.int .u8, 1, 1, [.i .u8 0], some (.i .u8)⟩ := by kernel_rfl
theorem ty96 : tyOf prog 96 = some ⟨.sl 9, 1, 24, [.emp], some (.l .s)⟩ := by kernel_rfl
theorem ty72 : tyOf prog 72 = some ⟨.ptr 74, 1, 8, [.nilp], none⟩ := by kernel_rfl
theorem ty22 : tyOf prog 22 = some ⟨.sl 5, 1, 24, [.emp], some (.l (.i .u8))⟩ := by kernel_rfl
theorem ty37 : tyOf prog 37 = some ⟨.ptr 45, 1, 8, [.nilp], none⟩ := by kernel_rfl
theorem ty33 : tyOf prog 33 = some ⟨.st [(0, (2, 1)), (1, (2, 1))], 2, 16, [.i .i64 0, .i .i64 0], some (.c (.i .i64) (.i .i64))⟩ := by kernel_rfl
theorem ty45 : tyOf prog 45 = some ⟨.st [(0, (22, 1)), (1, (3, 1))], 2, 32, [.emp, .i .i64 0], some (.c (.l (.i .u8)) (.i .i64))⟩ := by kernel_rfl
theorem ty81 : tyOf prog 81 = some ⟨.int .u64, 1, 8, [.i .u64 0], some (.i .u64)⟩ := by kernel_rfl
theorem ty69 : tyOf prog 69 = some ⟨.int .u64, 1, 8, [.i .u64 0], some (.i .u64)⟩ := by kernel_rfl
def Y : TT prog := mkTT _ (tys_cons ty2 (tys_cons ty9 (tys_cons ty4 (tys_cons ty25 (tys_cons ty27 (tys_cons ty30 (tys_cons ty28 (tys_cons ty60 (tys_cons ty3 (tys_cons ty74 (tys_cons ty5 (tys_cons ty96 (tys_cons ty72 (tys_cons ty22 (tys_cons ty37 (tys_cons ty33 (tys_cons ty45 (tys_cons ty81 (tys_cons ty69 tys_nil))))))))))))))))))) [25, 27, 30, 60, 74, 33, 45] (by kernel_rfl)
theorem mixed : prog.follows .mixedOrders = true := by kernel_rfl
def F81r (K : Nat) (x : Int) : Option (List UInt8) := none
def ct81r (K : Nat) : Ct := ⟨[.l (.v (.i .i64))], [], [.l (.v .s)], [], [], F81r K⟩
theorem c81r (K : Nat) : CtOk prog 81 (ct81r K) := ct_none

-- loop.example/g00460/impl.within
def F33 (K : Nat) (x : Int × Int × Int) : Option (Bool) :=
  branch (decide (x.2.1 ≤ x.1))
   (some (decide (x.1 ≤ x.2.2)))
   (some false)
def ct33 (K : Nat) : Ct := ⟨[.l (.v (.i .i64)), .l (.v (.i .i64)), .l (.v (.i .i64))], [], [.l (.v .b)], [], [], F33 K⟩
theorem c33 (K : Nat) : CtOk prog 33 (ct33 K) :=
  con_mk (Y := Y) (L := []) (K := K) (an := (.seq .no .no)) func33 mixed ctabOk_nil (by kernel_rfl) fun x => by kernel_rfl

-- loop.example/g00460/impl.isByte
def F29 (K : Nat) (x : Int) : Option (Bool) :=
  bindO (F33 K (x, 0, 255)) fun v0 =>
  some v0
def ct29 (K : Nat) : Ct := ⟨[.l (.v (.i .i64))], [], [.l (.v .b)], [], [], F29 K⟩
theorem c29 (K : Nat) : CtOk prog 29 (ct29 K) :=
  con_mk (Y := Y) (L := [(33, ct33 K)]) (K := K) (an := (.seq .no .no)) func29 mixed (ctabOk_cons (c33 K) ctabOk_nil) (by kernel_rfl) fun x => by kernel_rfl

-- loop.example/g00460/impl.MachineOk$1
def F31 (K : Nat) (x : Int) : Option (Bool) :=
  bindO (F29 K x) fun v0 =>
  some (!v0)
def ct31 (K : Nat) : Ct := ⟨[.l (.v (.i .i64))], [], [.l (.v .b)], [], [], F31 K⟩
theorem c31 (K : Nat) : CtOk prog 31 (ct31 K) :=
  con_mk (Y := Y) (L := [(29, ct29 K)]) (K := K) (an := (.seq .no .no)) func31 mixed (ctabOk_cons (c29 K) ctabOk_nil) (by kernel_rfl) fun x => by kernel_rfl

-- slices.IndexFunc[[]int64,int64]
def F43_b0 (K : Nat) (x : (List Int) × Int × Int) : Option (((List Int) × Int × Int) ⊕ (Int ⊕ Unit)) :=
  branch (decide (x.2.2 < x.2.1))
   (nth x.1 x.2.2 fun v0 =>
   bindO (F31 K v0) fun v1 =>
   branch v1
    (some (.inr (.inl x.2.2)))
    (some (.inl (x.1, x.2.1, w64 (x.2.2 + 1)))))
   (some (.inr (.inr ())))
def F43 (K : Nat) (x : List Int) : Option (Int) :=
  bindO (iter K (F43_b0 K) (x, (x.length : Int), 0)) fun v0 =>
  csO v0
   (fun v1 => some v1)
   (fun v2 => some (-1))
def ct43 (K : Nat) : Ct := ⟨[.l (.v (.l (.i .i64))), .clo 31 []], [], [.l (.v (.i .i64))], [], [], F43 K⟩
theorem c43 (K : Nat) : CtOk prog 43 (ct43 K) :=
  con_mk (Y := Y) (L := [(31, ct31 K)]) (K := K) (an := (.seq .no (.seq (.seq .no (.blk (.loop [] ⟨(.l (.v (.l (.i .i64))) :: .clo 31 [] :: ru 5 (.l (.v (.i .i64)) :: .l (.v (.i .i64)) :: ru 10 [])), []⟩ [(0, ⟨(ru 19 []), []⟩)] true (.seq .no (.seq .no (.seq (.blk (.seq .no (.seq .no (.cond .no .no)))) .no)))))) .no))) func43 mixed (ctabOk_cons (c31 K) ctabOk_nil) (by kernel_rfl) fun x => by kernel_rfl

-- slices.ContainsFunc[[]int64,int64]
def F30 (K : Nat) (x : List Int) : Option (Bool) :=
  bindO (F43 K x) fun v0 =>
  some (decide (0 ≤ v0))
def ct30 (K : Nat) : Ct := ⟨[.l (.v (.l (.i .i64))), .clo 31 []], [], [.l (.v .b)], [], [], F30 K⟩
theorem c30 (K : Nat) : CtOk prog 30 (ct30 K) :=
  con_mk (Y := Y) (L := [(31, ct31 K), (43, ct43 K)]) (K := K) (an := (.seq .no .no)) func30 mixed (ctabOk_cons (c31 K) (ctabOk_cons (c43 K) ctabOk_nil)) (by kernel_rfl) fun x => by kernel_rfl

-- loop.example/g00460/laws.big
def F4 (K : Nat) (x : List Int) : Option (Bool) :=
  some (decide (1048576 < (x.length : Int)))
def ct4 (K : Nat) : Ct := ⟨[.l (.v (.l (.i .u8)))], [], [.l (.v .b)], [], [], F4 K⟩
theorem c4 (K : Nat) : CtOk prog 4 (ct4 K) :=
  con_mk (Y := Y) (L := []) (K := K) (an := (.seq .no .no)) func4 mixed ctabOk_nil (by kernel_rfl) fun x => by kernel_rfl

-- loop.example/g00460/spec.l1Open
def F10 (K : Nat) (x : List Int) : Option ((List Int) × Int) :=
  some (x, 0)
def ct10 (K : Nat) : Ct := ⟨[.l (.v (.l (.i .u8)))], [], [.l (.ptr 0 0 0)], [⟨2, false, .mix (some 45) [[.l (.v (.l (.i .u8))), .l (.v (.i .i64))]]⟩], [], F10 K⟩
theorem c10 (K : Nat) : CtOk prog 10 (ct10 K) :=
  con_mk (Y := Y) (L := []) (K := K) (an := (.seq .no .no)) func10 mixed ctabOk_nil (by kernel_rfl) fun x => by kernel_rfl

-- (*loop.example/g00460/spec.l1Rd).next
def F39 (K : Nat) (x : (List Int) × Int) : Option (Int × (List Int) × Int) :=
  branch (decide ((x.1.length : Int) ≤ x.2))
   (some (0, x))
   (nth x.1 (w64 ((w64 (x.2 + 1)) - 1)) fun v0 =>
   some (w64 v0, x.1, w64 (x.2 + 1)))
def ct39 (K : Nat) : Ct := ⟨[.l (.ptr 0 0 0)], [⟨2, false, .mix (some 45) [[.l (.v (.l (.i .u8))), .l (.v (.i .i64))]]⟩], [.l (.v (.i .i64))], [⟨2, false, .mix (some 45) [[.l (.v (.l (.i .u8))), .l (.v (.i .i64))]]⟩], [], F39 K⟩
theorem c39 (K : Nat) : CtOk prog 39 (ct39 K) :=
  con_mk (Y := Y) (L := []) (K := K) (an := (.seq .no (.seq (.seq .no (.cond .no .no)) (.seq .no .no)))) func39 mixed ctabOk_nil (by kernel_rfl) fun x => by kernel_rfl

-- (*loop.example/g00460/spec.l1Rd).below
def F23 (K : Nat) (x : Int × (List Int) × Int) : Option (Int × (List Int) × Int) :=
  branch (decide (x.1 ≤ 1))
   (some (0, x.2))
   (branch (decide (x.1 ≤ 256))
    (bindO (F39 K x.2) fun v0 =>
    guard (!(decide (x.1 = 0))) <|
    some (Int.tmod v0.1 x.1, v0.2))
    (bindO (F39 K x.2) fun v1 =>
    bindO (F39 K v1.2) fun v2 =>
    guard (!(decide (x.1 = 0))) <|
    some (Int.tmod (w64 ((w64 (v1.1 * 256)) + v2.1)) x.1, v2.2)))
def ct23 (K : Nat) : Ct := ⟨[.l (.ptr 0 0 0), .l (.v (.i .i64))], [⟨2, false, .mix (some 45) [[.l (.v (.l (.i .u8))), .l (.v (.i .i64))]]⟩], [.l (.v (.i .i64))], [⟨2, false, .mix (some 45) [[.l (.v (.l (.i .u8))), .l (.v (.i .i64))]]⟩], [], F23 K⟩
theorem c23 (K : Nat) : CtOk prog 23 (ct23 K) :=
  con_mk (Y := Y) (L := [(39, ct39 K)]) (K := K) (an := (.seq .no (.seq (.seq .no (.cond .no .no)) (.seq (.seq .no (.cond .no .no)) (.seq .no (.seq .no .no)))))) func23 mixed (ctabOk_cons (c39 K) ctabOk_nil) (by kernel_rfl) fun x => by kernel_rfl

-- (*loop.example/g00460/spec.l1Rd).once
def F27 (K : Nat) (x : Int × (List Int) × Int) : Option (Bool × (List Int) × Int) :=
  bindO (F23 K x) fun v0 =>
  some (decide (v0.1 = (w64 (x.1 - 1))), v0.2)
def ct27 (K : Nat) : Ct := ⟨[.l (.ptr 0 0 0), .l (.v (.i .i64))], [⟨2, false, .mix (some 45) [[.l (.v (.l (.i .u8))), .l (.v (.i .i64))]]⟩], [.l (.v .b)], [⟨2, false, .mix (some 45) [[.l (.v (.l (.i .u8))), .l (.v (.i .i64))]]⟩], [], F27 K⟩
theorem c27 (K : Nat) : CtOk prog 27 (ct27 K) :=
  con_mk (Y := Y) (L := [(23, ct23 K)]) (K := K) (an := (.seq .no .no)) func27 mixed (ctabOk_cons (c23 K) ctabOk_nil) (by kernel_rfl) fun x => by kernel_rfl

-- loop.example/g00460/spec.l3Turns
def F79 (K : Nat) (x : Unit) : Option (List (List UInt8)) :=
  some [([114, 108, 99] : List UInt8), ([114, 114, 99] : List UInt8), ([114, 108] : List UInt8), ([114, 114] : List UInt8), ([115, 108, 97] : List UInt8), ([115, 114, 97] : List UInt8), ([115, 119, 97, 112] : List UInt8), ([115, 114, 108] : List UInt8)]
def ct79 (K : Nat) : Ct := ⟨[], [], [.l (.v (.l .s))], [], [], F79 K⟩
theorem c79 (K : Nat) : CtOk prog 79 (ct79 K) :=
  con_mk (Y := Y) (L := []) (K := K) (an := (.seq .no .no)) func79 mixed ctabOk_nil (by kernel_rfl) fun x => by kernel_rfl

-- loop.example/g00460/spec.l3Regs
def F80 (K : Nat) (x : Unit) : Option (List (List UInt8)) :=
  some [([98] : List UInt8), ([99] : List UInt8), ([100] : List UInt8), ([101] : List UInt8), ([104] : List UInt8), ([108] : List UInt8), ([91, 104, 108, 93] : List UInt8), ([97] : List UInt8)]
def ct80 (K : Nat) : Ct := ⟨[], [], [.l (.v (.l .s))], [], [], F80 K⟩
theorem c80 (K : Nat) : CtOk prog 80 (ct80 K) :=
  con_mk (Y := Y) (L := []) (K := K) (an := (.seq .no .no)) func80 mixed ctabOk_nil (by kernel_rfl) fun x => by kernel_rfl

-- loop.example/g00460/spec.l1Dec
def F81_b0 (K : Nat) (x : Int × List UInt8) : Option ((Int × List UInt8) ⊕ (Int × List UInt8)) :=
  branch (decide (10 ≤ x.1))
   (guard (decide ((((toB [w8 (w64 (48 + (Int.tmod x.1 10)))]).length) + x.2.length) ≤ 9223372036854775807)) <|
   some (.inl (w64 (Int.tdiv x.1 10), (toB [w8 (w64 (48 + (Int.tmod x.1 10)))]) ++ x.2)))
   (some (.inr x))
def F81 (K : Nat) (x : Int) : Option (List UInt8) :=
  branch (decide (x < 0))
   (bindO (F81r K (w64 (0 - x))) fun v0 =>
   guard (decide ((1 + v0.length) ≤ 9223372036854775807)) <|
   some (([45] : List UInt8) ++ v0))
   (bindO (iter K (F81_b0 K) (x, [])) fun v1 =>
   guard (decide ((((toB [w8 (w64 (48 + v1.1))]).length) + v1.2.length) ≤ 9223372036854775807)) <|
   some ((toB [w8 (w64 (48 + v1.1))]) ++ v1.2))
def ct81 (K : Nat) : Ct := ⟨[.l (.v (.i .i64))], [], [.l (.v .s)], [], [], F81 K⟩
theorem c81 (K : Nat) : CtOk prog 81 (ct81 K) :=
  con_mk (Y := Y) (L := [(81, ct81r K)]) (K := K) (an := (.seq .no (.seq (.seq .no (.cond .no .no)) (.seq .no (.seq (.blk (.loop [] ⟨(.l (.v (.i .i64)) :: ru 2 (.l (.v .s) :: ru 25 [])), []⟩ [(0, ⟨(.l (.v (.i .i64)) :: ru 2 (.l (.v .s) :: ru 25 [])), []⟩)] false (.seq (.seq .no .no) (.blk .no)))) .no))))) func81 mixed (ctabOk_cons (c81r K) ctabOk_nil) (by kernel_rfl) fun x => by kernel_rfl

-- loop.example/g00460/spec.l3Conds
def F89 (K : Nat) (x : Unit) : Option (List (List UInt8)) :=
  some [([110, 122] : List UInt8), ([122] : List UInt8), ([110, 99] : List UInt8), ([99] : List UInt8)]
def ct89 (K : Nat) : Ct := ⟨[], [], [.l (.v (.l .s))], [], [], F89 K⟩
theorem c89 (K : Nat) : CtOk prog 89 (ct89 K) :=
  con_mk (Y := Y) (L := []) (K := K) (an := (.seq .no .no)) func89 mixed ctabOk_nil (by kernel_rfl) fun x => by kernel_rfl

-- loop.example/g00460/spec.l3Pairs
def F90 (K : Nat) (x : Unit) : Option (List (List UInt8)) :=
  some [([98, 99] : List UInt8), ([100, 101] : List UInt8), ([104, 108] : List UInt8), ([115, 112] : List UInt8)]
def ct90 (K : Nat) : Ct := ⟨[], [], [.l (.v (.l .s))], [], [], F90 K⟩
theorem c90 (K : Nat) : CtOk prog 90 (ct90 K) :=
  con_mk (Y := Y) (L := []) (K := K) (an := (.seq .no .no)) func90 mixed ctabOk_nil (by kernel_rfl) fun x => by kernel_rfl

-- loop.example/g00460/spec.l3Low
def F82 (K : Nat) (x : Int × Int) : Option (List UInt8) :=
  branch (decide (x.2 = 0))
   (branch (decide (x.1 < 4))
    (guard (decide (0 ≤ x.1 ∧ x.1 < (4 : Int))) <|
    nthN [([110, 111, 112] : List UInt8), ([108, 100, 32, 91, 110, 49, 54, 93, 44, 115, 112] : List UInt8), ([115, 116, 111, 112, 32, 110, 56] : List UInt8), ([106, 114, 32, 101, 56] : List UInt8)] x.1.toNat fun v0 =>
    some v0)
    (bindO (F89 K ()) fun v1 =>
    nth v1 (w64 (x.1 - 4)) fun v2 =>
    guard (decide ((3 + v2.length) ≤ 9223372036854775807)) <|
    guard (decide ((((([106, 114, 32] : List UInt8) ++ v2).length) + 3) ≤ 9223372036854775807)) <|
    some ((([106, 114, 32] : List UInt8) ++ v2) ++ ([44, 101, 56] : List UInt8))))
   (branch (decide (x.2 = 1))
    (branch (decide ((Int.tmod x.1 2) = 0))
     (bindO (F90 K ()) fun v3 =>
     nth v3 (w64 (Int.tdiv x.1 2)) fun v4 =>
     guard (decide ((3 + v4.length) ≤ 9223372036854775807)) <|
     guard (decide ((((([108, 100, 32] : List UInt8) ++ v4).length) + 4) ≤ 9223372036854775807)) <|
     some ((([108, 100, 32] : List UInt8) ++ v4) ++ ([44, 110, 49, 54] : List UInt8)))
     (bindO (F90 K ()) fun v5 =>
     nth v5 (w64 (Int.tdiv x.1 2)) fun v6 =>
     guard (decide ((7 + v6.length) ≤ 9223372036854775807)) <|
     some (([97, 100, 100, 32, 104, 108, 44] : List UInt8) ++ v6)))
    (branch (decide (x.2 = 2))
     (guard (decide (0 ≤ (w64 (Int.tdiv x.1 2)) ∧ (w64 (Int.tdiv x.1 2)) < (4 : Int))) <|
     nthN [([91, 98, 99, 93] : List UInt8), ([91, 100, 101, 93] : List UInt8), ([91, 104, 108, 43, 93] : List UInt8), ([91, 104, 108, 45, 93] : List UInt8)] ((w64 (Int.tdiv x.1 2)).toNat) fun v7 =>
     branch (decide ((Int.tmod x.1 2) = 0))
      (guard (decide ((3 + v7.length) ≤ 9223372036854775807)) <|
      guard (decide ((((([108, 100, 32] : List UInt8) ++ v7).length) + 2) ≤ 9223372036854775807)) <|
      some ((([108, 100, 32] : List UInt8) ++ v7) ++ ([44, 97] : List UInt8)))
      (guard (decide ((5 + v7.length) ≤ 9223372036854775807)) <|
      some (([108, 100, 32, 97, 44] : List UInt8) ++ v7)))
     (branch (decide (x.2 = 3))
      (nth [([105, 110, 99, 32] : List UInt8), ([100, 101, 99, 32] : List UInt8)] (Int.tmod x.1 2) fun v8 =>
      bindO (F90 K ()) fun v9 =>
      nth v9 (w64 (Int.tdiv x.1 2)) fun v10 =>
      guard (decide ((v8.length + v10.length) ≤ 9223372036854775807)) <|
      some (v8 ++ v10))
      (branch (decide (x.2 = 4))
       (bindO (F80 K ()) fun v11 =>
       nth v11 x.1 fun v12 =>
       guard (decide ((4 + v12.length) ≤ 9223372036854775807)) <|
       some (([105, 110, 99, 32] : List UInt8) ++ v12))
       (branch (decide (x.2 = 5))
        (bindO (F80 K ()) fun v13 =>
        nth v13 x.1 fun v14 =>
        guard (decide ((4 + v14.length) ≤ 9223372036854775807)) <|
        some (([100, 101, 99, 32] : List UInt8) ++ v14))
        (branch (decide (x.2 = 6))
         (bindO (F80 K ()) fun v15 =>
         nth v15 x.1 fun v16 =>
         guard (decide ((3 + v16.length) ≤ 9223372036854775807)) <|
         guard (decide ((((([108, 100, 32] : List UInt8) ++ v16).length) + 3) ≤ 9223372036854775807)) <|
         some ((([108, 100, 32] : List UInt8) ++ v16) ++ ([44, 110, 56] : List UInt8)))
         (guard (decide (0 ≤ x.1 ∧ x.1 < (8 : Int))) <|
         nthN [([114, 108, 99, 97] : List UInt8), ([114, 114, 99, 97] : List UInt8), ([114, 108, 97] : List UInt8), ([114, 114, 97] : List UInt8), ([100, 97, 97] : List UInt8), ([99, 112, 108] : List UInt8), ([115, 99, 102] : List UInt8), ([99, 99, 102] : List UInt8)] x.1.toNat fun v17 =>
         some v17)))))))
def ct82 (K : Nat) : Ct := ⟨[.l (.v (.i .i64)), .l (.v (.i .i64))], [], [.l (.v .s)], [], [], F82 K⟩
theorem c82 (K : Nat) : CtOk prog 82 (ct82 K) :=
  con_mk (Y := Y) (L := [(80, ct80 K), (89, ct89 K), (90, ct90 K)]) (K := K) (an := (.seq .no (.seq .no (.seq .no (.seq (.seq .no (.blk (.seq .no (.cond (.seq (.seq .no (.cond .no .no)) .no) (.seq .no (.cond (.seq (.seq .no (.cond .no .no)) .no) (.seq .no (.cond (.seq .no (.seq (.seq .no (.cond .no .no)) .no)) (.seq .no (.cond (.seq (.reg [0] []) .no) (.seq .no (.cond .no (.seq .no (.cond .no (.seq .no (.cond .no .no)))))))))))))))) .no))))) func82 mixed (ctabOk_cons (c80 K) (ctabOk_cons (c89 K) (ctabOk_cons (c90 K) ctabOk_nil))) (by kernel_rfl) fun x => by kernel_rfl

-- loop.example/g00460/spec.l3Alus
def F83 (K : Nat) (x : Unit) : Option (List (List UInt8)) :=
  some [([97, 100, 100] : List UInt8), ([97, 100, 99] : List UInt8), ([115, 117, 98] : List UInt8), ([115, 98, 99] : List UInt8), ([97, 110, 100] : List UInt8), ([120, 111, 114] : List UInt8), ([111, 114] : List UInt8), ([99, 112] : List UInt8)]
def ct83 (K : Nat) : Ct := ⟨[], [], [.l (.v (.l .s))], [], [], F83 K⟩
theorem c83 (K : Nat) : CtOk prog 83 (ct83 K) :=
  con_mk (Y := Y) (L := []) (K := K) (an := (.seq .no .no)) func83 mixed ctabOk_nil (by kernel_rfl) fun x => by kernel_rfl

-- loop.example/g00460/spec.l1In
def F18 (K : Nat) (x : Int × Int × Int) : Option (Bool) :=
  branch (decide (x.2.1 ≤ x.1))
   (some (decide (x.1 ≤ x.2.2)))
   (some false)
def ct18 (K : Nat) : Ct := ⟨[.l (.v (.i .i64)), .l (.v (.i .i64)), .l (.v (.i .i64))], [], [.l (.v .b)], [], [], F18 K⟩
theorem c18 (K : Nat) : CtOk prog 18 (ct18 K) :=
  con_mk (Y := Y) (L := []) (K := K) (an := (.seq .no .no)) func18 mixed ctabOk_nil (by kernel_rfl) fun x => by kernel_rfl

-- loop.example/g00460/spec.HexOf
def F91_b0 (K : Nat) (x : Int × Int × (List UInt8) × Int) : Option ((Int × Int × (List UInt8) × Int) ⊕ (Int × List UInt8)) :=
  branch (decide (x.2.2.2 < x.2.1))
   (guard (decide (0 ≤ (Int.tmod x.1 16) ∧ (Int.tmod x.1 16) ≤ (w64 ((Int.tmod x.1 16) + 1)) ∧ (w64 ((Int.tmod x.1 16) + 1)) ≤ 16)) <|
   guard (decide ((((subL ([48, 49, 50, 51, 52, 53, 54, 55, 56, 57, 65, 66, 67, 68, 69, 70] : List UInt8) (Int.tmod x.1 16) (w64 ((Int.tmod x.1 16) + 1))).length) + x.2.2.1.length) ≤ 9223372036854775807)) <|
   some (.inl (w64 (Int.tdiv x.1 16), x.2.1, (subL ([48, 49, 50, 51, 52, 53, 54, 55, 56, 57, 65, 66, 67, 68, 69, 70] : List UInt8) (Int.tmod x.1 16) (w64 ((Int.tmod x.1 16) + 1))) ++ x.2.2.1, w64 (x.2.2.2 + 1))))
   (some (.inr (x.1, x.2.2.1)))
def F91 (K : Nat) (x : Int × Int) : Option (List UInt8) :=
  bindO (α := (List UInt8) ⊕ (Int × Int)) (bindO (α := Int × Int × Bool) (bindO (F18 K (x.2, 1, 4)) fun v0 =>
      branch (!v0)
       (some (x.1, x.2, true))
       (bindO (F18 K (x.1, 0, 65535)) fun v1 =>
       some (x.1, x.2, !v1))) fun v2 =>
    branch v2.2.2
     (some (.inl []))
     (some (.inr (v2.1, v2.2.1)))) fun v3 =>
  csO v3
   (fun v4 => some v4)
   (fun v5 => bindO (iter K (F91_b0 K) (v5.1, v5.2, [], 0)) fun v6 =>
   branch (decide (0 < v6.1))
    (some [])
    (guard (decide ((1 + v6.2.length) ≤ 9223372036854775807)) <|
    some (([36] : List UInt8) ++ v6.2)))
def ct91 (K : Nat) : Ct := ⟨[.l (.v (.i .i64)), .l (.v (.i .i64))], [], [.l (.v .s)], [], [], F91 K⟩
theorem c91 (K : Nat) : CtOk prog 91 (ct91 K) :=
  con_mk (Y := Y) (L := [(18, ct18 K)]) (K := K) (an := (.seq .no (.seqJ [(1000000, ⟨(.l (.v (.i .i64)) :: .l (.v (.i .i64)) :: ru 32 []), []⟩)] true (.seqJ [(1000000, ⟨(.l (.v (.i .i64)) :: .l (.v (.i .i64)) :: ru 12 (.l (.v .b) :: ru 19 [])), []⟩)] false .no (.cond .no .no)) (.seq .no (.seq (.seq .no (.blk (.loop [] ⟨(.l (.v (.i .i64)) :: .l (.v (.i .i64)) :: ru 3 (.l (.v .s) :: .l (.v (.i .i64)) :: ru 27 [])), []⟩ [(0, ⟨(.l (.v (.i .i64)) :: ru 4 (.l (.v .s) :: ru 28 [])), []⟩)] false (.seq (.seq .no .no) (.seq (.blk .no) .no))))) (.seq (.seq .no (.cond .no .no)) .no)))))) func91 mixed (ctabOk_cons (c18 K) ctabOk_nil) (by kernel_rfl) fun x => by kernel_rfl

-- loop.example/g00460/spec.l3Top
def F84 (K : Nat) (x : Int × Int) : Option (List UInt8) :=
  branch (decide (x.2 = 0))
   (branch (decide (x.1 < 4))
    (bindO (F89 K ()) fun v0 =>
    nth v0 x.1 fun v1 =>
    guard (decide ((4 + v1.length) ≤ 9223372036854775807)) <|
    some (([114, 101, 116, 32] : List UInt8) ++ v1))
    (guard (decide (0 ≤ (w64 (x.1 - 4)) ∧ (w64 (x.1 - 4)) < (4 : Int))) <|
    nthN [([108, 100, 104, 32, 91, 110, 56, 93, 44, 97] : List UInt8), ([97, 100, 100, 32, 115, 112, 44, 101, 56] : List UInt8), ([108, 100, 104, 32, 97, 44, 91, 110, 56, 93] : List UInt8), ([108, 100, 32, 104, 108, 44, 115, 112, 43, 101, 56] : List UInt8)] ((w64 (x.1 - 4)).toNat) fun v2 =>
    some v2))
   (branch (decide (x.2 = 1))
    (branch (decide ((Int.tmod x.1 2) = 0))
     (guard (decide (0 ≤ (w64 (Int.tdiv x.1 2)) ∧ (w64 (Int.tdiv x.1 2)) < (4 : Int))) <|
     nthN [([98, 99] : List UInt8), ([100, 101] : List UInt8), ([104, 108] : List UInt8), ([97, 102] : List UInt8)] ((w64 (Int.tdiv x.1 2)).toNat) fun v3 =>
     guard (decide ((4 + v3.length) ≤ 9223372036854775807)) <|
     some (([112, 111, 112, 32] : List UInt8) ++ v3))
     (guard (decide (0 ≤ (w64 (Int.tdiv x.1 2)) ∧ (w64 (Int.tdiv x.1 2)) < (4 : Int))) <|
     nthN [([114, 101, 116] : List UInt8), ([114, 101, 116, 105] : List UInt8), ([106, 112, 32, 104, 108] : List UInt8), ([108, 100, 32, 115, 112, 44, 104, 108] : List UInt8)] ((w64 (Int.tdiv x.1 2)).toNat) fun v4 =>
     some v4))
    (branch (decide (x.2 = 2))
     (branch (decide (x.1 < 4))
      (bindO (F89 K ()) fun v5 =>
      nth v5 x.1 fun v6 =>
      guard (decide ((3 + v6.length) ≤ 9223372036854775807)) <|
      guard (decide ((((([106, 112, 32] : List UInt8) ++ v6).length) + 4) ≤ 9223372036854775807)) <|
      some ((([106, 112, 32] : List UInt8) ++ v6) ++ ([44, 110, 49, 54] : List UInt8)))
      (guard (decide (0 ≤ (w64 (x.1 - 4)) ∧ (w64 (x.1 - 4)) < (4 : Int))) <|
      nthN [([108, 100, 104, 32, 91, 99, 93, 44, 97] : List UInt8), ([108, 100, 32, 91, 110, 49, 54, 93, 44, 97] : List UInt8), ([108, 100, 104, 32, 97, 44, 91, 99, 93] : List UInt8), ([108, 100, 32, 97, 44, 91, 110, 49, 54, 93] : List UInt8)] ((w64 (x.1 - 4)).toNat) fun v7 =>
      some v7))
     (branch (decide (x.2 = 3))
      (guard (decide (0 ≤ x.1 ∧ x.1 < (8 : Int))) <|
      nthN [([106, 112, 32, 110, 49, 54] : List UInt8), [], [], [], [], [], ([100, 105] : List UInt8), ([101, 105] : List UInt8)] x.1.toNat fun v8 =>
      some v8)
      (branch (decide (x.2 = 4))
       (branch (decide (x.1 < 4))
        (bindO (F89 K ()) fun v9 =>
        nth v9 x.1 fun v10 =>
        guard (decide ((5 + v10.length) ≤ 9223372036854775807)) <|
        guard (decide ((((([99, 97, 108, 108, 32] : List UInt8) ++ v10).length) + 4) ≤ 9223372036854775807)) <|
        some ((([99, 97, 108, 108, 32] : List UInt8) ++ v10) ++ ([44, 110, 49, 54] : List UInt8)))
        (some []))
       (branch (decide (x.2 = 5))
        (branch (decide ((Int.tmod x.1 2) = 0))
         (guard (decide (0 ≤ (w64 (Int.tdiv x.1 2)) ∧ (w64 (Int.tdiv x.1 2)) < (4 : Int))) <|
         nthN [([98, 99] : List UInt8), ([100, 101] : List UInt8), ([104, 108] : List UInt8), ([97, 102] : List UInt8)] ((w64 (Int.tdiv x.1 2)).toNat) fun v11 =>
         guard (decide ((5 + v11.length) ≤ 9223372036854775807)) <|
         some (([112, 117, 115, 104, 32] : List UInt8) ++ v11))
         (guard (decide (0 ≤ (w64 (Int.tdiv x.1 2)) ∧ (w64 (Int.tdiv x.1 2)) < (4 : Int))) <|
         nthN [([99, 97, 108, 108, 32, 110, 49, 54] : List UInt8), [], [], []] ((w64 (Int.tdiv x.1 2)).toNat) fun v12 =>
         some v12))
        (branch (decide (x.2 = 6))
         (bindO (F83 K ()) fun v13 =>
         nth v13 x.1 fun v14 =>
         guard (decide ((v14.length + 5) ≤ 9223372036854775807)) <|
         some (v14 ++ ([32, 97, 44, 110, 56] : List UInt8)))
         (bindO (F91 K (w64 (8 * x.1), 2)) fun v15 =>
         guard (decide ((4 + v15.length) ≤ 9223372036854775807)) <|
         some (([114, 115, 116, 32] : List UInt8) ++ v15))))))))
def ct84 (K : Nat) : Ct := ⟨[.l (.v (.i .i64)), .l (.v (.i .i64))], [], [.l (.v .s)], [], [], F84 K⟩
theorem c84 (K : Nat) : CtOk prog 84 (ct84 K) :=
  con_mk (Y := Y) (L := [(89, ct89 K), (83, ct83 K), (91, ct91 K)]) (K := K) (an := (.seq .no (.seq .no (.seq .no (.seq .no (.seq (.seq .no (.blk (.seq .no (.cond (.seq (.seq .no (.cond .no .no)) .no) (.seq .no (.cond (.seq (.seq .no (.cond .no .no)) .no) (.seq .no (.cond (.seq (.seq .no (.cond .no .no)) .no) (.seq .no (.cond .no (.seq .no (.cond (.seq (.seq .no (.cond .no .no)) .no) (.seq .no (.cond (.seq (.seq .no (.cond .no .no)) .no) (.seq .no (.cond .no .no)))))))))))))))) .no)))))) func84 mixed (ctabOk_cons (c89 K) (ctabOk_cons (c83 K) (ctabOk_cons (c91 K) ctabOk_nil))) (by kernel_rfl) fun x => by kernel_rfl

-- loop.example/g00460/spec.l3Template
def F58 (K : Nat) (x : Int × Bool) : Option (List UInt8) :=
  bindO (α := Int × Bool × Int × Int × Int × Bool) (branch x.2
     (some (x.1, x.2, w64 (Int.tdiv x.1 64), Int.tmod (w64 (Int.tdiv x.1 8)) 8, Int.tmod x.1 8, decide ((w64 (Int.tdiv x.1 64)) = 0)))
     (some (x.1, x.2, w64 (Int.tdiv x.1 64), Int.tmod (w64 (Int.tdiv x.1 8)) 8, Int.tmod x.1 8, false))) fun v0 =>
  branch v0.2.2.2.2.2
   (bindO (F79 K ()) fun v1 =>
   nth v1 v0.2.2.2.1 fun v2 =>
   guard (decide ((v2.length + 1) ≤ 9223372036854775807)) <|
   bindO (F80 K ()) fun v3 =>
   nth v3 v0.2.2.2.2.1 fun v4 =>
   guard (decide ((((v2 ++ ([32] : List UInt8)).length) + v4.length) ≤ 9223372036854775807)) <|
   some ((v2 ++ ([32] : List UInt8)) ++ v4))
   (branch v0.2.1
    (nth [[], ([98, 105, 116, 32] : List UInt8), ([114, 101, 115, 32] : List UInt8), ([115, 101, 116, 32] : List UInt8)] v0.2.2.1 fun v5 =>
    bindO (F81 K v0.2.2.2.1) fun v6 =>
    guard (decide ((v5.length + v6.length) ≤ 9223372036854775807)) <|
    guard (decide ((((v5 ++ v6).length) + 1) ≤ 9223372036854775807)) <|
    bindO (F80 K ()) fun v7 =>
    nth v7 v0.2.2.2.2.1 fun v8 =>
    guard (decide (((((v5 ++ v6) ++ ([44] : List UInt8)).length) + v8.length) ≤ 9223372036854775807)) <|
    some (((v5 ++ v6) ++ ([44] : List UInt8)) ++ v8))
    (branch (decide (v0.2.2.1 = 0))
     (bindO (F82 K (v0.2.2.2.1, v0.2.2.2.2.1)) fun v9 =>
     some v9)
     (branch (decide (v0.1 = 118))
      (some ([104, 97, 108, 116] : List UInt8))
      (branch (decide (v0.2.2.1 = 1))
       (bindO (F80 K ()) fun v10 =>
       nth v10 v0.2.2.2.1 fun v11 =>
       guard (decide ((3 + v11.length) ≤ 9223372036854775807)) <|
       guard (decide ((((([108, 100, 32] : List UInt8) ++ v11).length) + 1) ≤ 9223372036854775807)) <|
       bindO (F80 K ()) fun v12 =>
       nth v12 v0.2.2.2.2.1 fun v13 =>
       guard (decide (((((([108, 100, 32] : List UInt8) ++ v11) ++ ([44] : List UInt8)).length) + v13.length) ≤ 9223372036854775807)) <|
       some (((([108, 100, 32] : List UInt8) ++ v11) ++ ([44] : List UInt8)) ++ v13))
       (branch (decide (v0.2.2.1 = 2))
        (bindO (F83 K ()) fun v14 =>
        nth v14 v0.2.2.2.1 fun v15 =>
        guard (decide ((v15.length + 3) ≤ 9223372036854775807)) <|
        bindO (F80 K ()) fun v16 =>
        nth v16 v0.2.2.2.2.1 fun v17 =>
        guard (decide ((((v15 ++ ([32, 97, 44] : List UInt8)).length) + v17.length) ≤ 9223372036854775807)) <|
        some ((v15 ++ ([32, 97, 44] : List UInt8)) ++ v17))
        (bindO (F84 K (v0.2.2.2.1, v0.2.2.2.2.1)) fun v18 =>
        some v18))))))
def ct58 (K : Nat) : Ct := ⟨[.l (.v (.i .i64)), .l (.v .b)], [], [.l (.v .s)], [], [], F58 K⟩
theorem c58 (K : Nat) : CtOk prog 58 (ct58 K) :=
  con_mk (Y := Y) (L := [(81, ct81 K), (79, ct79 K), (80, ct80 K), (81, ct81 K), (82, ct82 K), (83, ct83 K), (84, ct84 K)]) (K := K) (an := (.seq .no (.seq .no (.seq .no (.seq .no (.seq (.blk (.seqJ [(1000000, ⟨(.l (.v (.i .i64)) :: .l (.v .b) :: ru 3 (.l (.v (.i .i64)) :: .l (.v (.i .i64)) :: .l (.v (.i .i64)) :: ru 7 (.l (.v .b) :: ru 69 []))), []⟩)] false .no (.cond .no (.seq .no (.cond (.seq (.reg [0] []) .no) (.seq .no (.cond .no (.seq .no (.cond .no (.seq .no (.cond .no (.seq .no (.cond .no .no))))))))))))) .no)))))) func58 mixed (ctabOk_cons (c81 K) (ctabOk_cons (c79 K) (ctabOk_cons (c80 K) (ctabOk_cons (c81 K) (ctabOk_cons (c82 K) (ctabOk_cons (c83 K) (ctabOk_cons (c84 K) ctabOk_nil))))))) (by kernel_rfl) fun x => by kernel_rfl

-- loop.example/g00460/spec.l3Hole
def F57_b1 (K : Nat) (x : (List UInt8) × Int × Int × List (List UInt8)) : Option (((List UInt8) × Int × Int × List (List UInt8)) ⊕ ((Int × List UInt8) ⊕ ((List UInt8) × Int × List (List UInt8)))) :=
  guard (decide (0 ≤ x.2.1 ∧ x.2.1 < (x.2.2.2.length : Int))) <|
  nthN x.2.2.2 x.2.1.toNat fun v0 =>
  branch (decide ((w64 (x.2.2.1 + (v0.length : Int))) ≤ (x.1.length : Int)))
   (guard (decide (0 ≤ x.2.1 ∧ x.2.1 < (x.2.2.2.length : Int))) <|
   nthN x.2.2.2 x.2.1.toNat fun v1 =>
   guard (decide (0 ≤ x.2.2.1 ∧ x.2.2.1 ≤ (w64 (x.2.2.1 + (v1.length : Int))) ∧ (w64 (x.2.2.1 + (v1.length : Int))) ≤ (x.1.length : Int))) <|
   guard (decide (0 ≤ x.2.1 ∧ x.2.1 < (x.2.2.2.length : Int))) <|
   nthN x.2.2.2 x.2.1.toNat fun v2 =>
   branch (decide ((subL x.1 x.2.2.1 (w64 (x.2.2.1 + (v1.length : Int)))) = v2))
    (guard (decide (0 ≤ x.2.1 ∧ x.2.1 < (x.2.2.2.length : Int))) <|
    nthN x.2.2.2 x.2.1.toNat fun v3 =>
    some (.inr (.inl (x.2.2.1, v3))))
    (some (.inl (x.1, x.2.1, w64 (x.2.2.1 + 1), x.2.2.2))))
   (some (.inr (.inr (x.1, x.2.1, x.2.2.2))))
def F57_b0 (K : Nat) (x : (List UInt8) × Int × List (List UInt8)) : Option (((List UInt8) × Int × List (List UInt8)) ⊕ ((Int × List UInt8) ⊕ Unit)) :=
  branch (decide (x.2.1 < (x.2.2.length : Int)))
   (bindO (iter K (F57_b1 K) (x.1, x.2.1, 0, x.2.2)) fun v0 =>
   csO v0
    (fun v1 => some (.inr (.inl v1)))
    (fun v2 => some (.inl (v2.1, w64 (v2.2.1 + 1), v2.2.2))))
   (some (.inr (.inr ())))
def F57 (K : Nat) (x : List UInt8) : Option (Int × List UInt8) :=
  bindO (iter K (F57_b0 K) (x, 0, [([110, 49, 54] : List UInt8), ([110, 56] : List UInt8), ([101, 56] : List UInt8)])) fun v0 =>
  csO v0
   (fun v1 => some v1)
   (fun v2 => some ((-1), []))
def ct57 (K : Nat) : Ct := ⟨[.l (.v .s)], [], [.l (.v (.i .i64)), .l (.v .s)], [], [], F57 K⟩
theorem c57 (K : Nat) : CtOk prog 57 (ct57 K) :=
  con_mk (Y := Y) (L := []) (K := K) (an := (.seq .no (.seq .no (.seq (.seq .no (.blk (.loop [] ⟨(.l (.v .s) :: ru 3 (.l (.all 8000) :: .l (.v (.i .i64)) :: ru 40 [])), [(8000, ⟨1, true, .row .s⟩)]⟩ [(0, ⟨(ru 46 []), []⟩)] true (.seq (.seq .no .no) (.seq (.blk (.seq .no (.blk (.loop [] ⟨(.l (.v .s) :: ru 3 (.l (.all 8000) :: .l (.v (.i .i64)) :: .l (.v (.i .i64)) :: ru 39 [])), [(8000, ⟨1, true, .row .s⟩)]⟩ [(2, ⟨(.l (.v .s) :: ru 3 (.l (.all 8000) :: .l (.v (.i .i64)) :: ru 40 [])), [(8000, ⟨1, true, .row .s⟩)]⟩)] true (.seq (.seq .no .no) (.seq (.blk (.seq .no (.cond .no .no))) .no)))))) .no))))) .no)))) func57 mixed ctabOk_nil (by kernel_rfl) fun x => by kernel_rfl

-- (*loop.example/g00460/spec.l1Rd).byte
def F24 (K : Nat) (x : (List Int) × Int) : Option (Int × (List Int) × Int) :=
  bindO (F27 K (2, x)) fun v0 =>
  branch v0.1
   (bindO (F23 K (8, v0.2)) fun v1 =>
   guard (decide (0 ≤ v1.1 ∧ v1.1 < (8 : Int))) <|
   nthN [0, 1, 127, 128, 255, 15, 16, 240] v1.1.toNat fun v2 =>
   some (v2, v1.2))
   (bindO (F23 K (256, v0.2)) fun v3 =>
   some v3)
def ct24 (K : Nat) : Ct := ⟨[.l (.ptr 0 0 0)], [⟨2, false, .mix (some 45) [[.l (.v (.l (.i .u8))), .l (.v (.i .i64))]]⟩], [.l (.v (.i .i64))], [⟨2, false, .mix (some 45) [[.l (.v (.l (.i .u8))), .l (.v (.i .i64))]]⟩], [], F24 K⟩
theorem c24 (K : Nat) : CtOk prog 24 (ct24 K) :=
  con_mk (Y := Y) (L := [(23, ct23 K), (27, ct27 K)]) (K := K) (an := (.seq .no (.seq (.seq .no (.cond .no .no)) .no))) func24 mixed (ctabOk_cons (c23 K) (ctabOk_cons (c27 K) ctabOk_nil)) (by kernel_rfl) fun x => by kernel_rfl

-- (*loop.example/g00460/spec.l1Rd).word
def F55_b0 (K : Nat) (x : Int × Int × (List Int) × Int) : Option ((Int × Int × (List Int) × Int) ⊕ (Int × (List Int) × Int)) :=
  branch (decide (x.2.1 < 8))
   (bindO (F39 K x.2.2) fun v0 =>
   some (.inl (Go.bits Go.BinOp.or Go.IntKind.u64 (shlI Go.IntKind.u64 x.1 8) (w64u v0.1), w64 (x.2.1 + 1), v0.2)))
   (some (.inr (x.1, x.2.2)))
def F55 (K : Nat) (x : (List Int) × Int) : Option (Int × (List Int) × Int) :=
  bindO (iter K (F55_b0 K) (0, 0, x)) fun v0 =>
  some v0
def ct55 (K : Nat) : Ct := ⟨[.l (.ptr 0 0 0)], [⟨2, false, .mix (some 45) [[.l (.v (.l (.i .u8))), .l (.v (.i .i64))]]⟩], [.l (.v (.i .u64))], [⟨2, false, .mix (some 45) [[.l (.v (.l (.i .u8))), .l (.v (.i .i64))]]⟩], [], F55 K⟩
theorem c55 (K : Nat) : CtOk prog 55 (ct55 K) :=
  con_mk (Y := Y) (L := [(39, ct39 K)]) (K := K) (an := (.seq .no (.seq .no (.seq (.seq .no (.blk (.loop [] ⟨(.l (.ptr 0 0 0) :: ru 2 (.l (.v (.i .u64)) :: .l (.v (.i .i64)) :: ru 11 [])), [(0, ⟨2, false, .mix (some 45) [[.l (.v (.l (.i .u8))), .l (.v (.i .i64))]]⟩)]⟩ [(0, ⟨(ru 3 (.l (.v (.i .u64)) :: ru 12 [])), [(0, ⟨2, false, .mix (some 45) [[.l (.v (.l (.i .u8))), .l (.v (.i .i64))]]⟩)]⟩)] false (.seq (.seq .no .no) (.seq .no .no))))) .no)))) func55 mixed (ctabOk_cons (c39 K) ctabOk_nil) (by kernel_rfl) fun x => by kernel_rfl

-- (*loop.example/g00460/spec.l1Rd).near
def F42 (K : Nat) (x : Int × Int × (List Int) × Int) : Option (Int × (List Int) × Int) :=
  bindO (F23 K (8, x.2.2)) fun v0 =>
  branch (decide (v0.1 = 0))
   (some (x.1, v0.2))
   (branch (decide (v0.1 = 1))
    (some (x.2.1, v0.2))
    (branch (decide (x.2.1 < x.1))
     (some (x.1, v0.2))
     (bindO (F55 K v0.2) fun v1 =>
     guard (!(decide ((w64u (w64 ((w64 (x.2.1 - x.1)) + 1))) = 0))) <|
     some (w64 (x.1 + (w64 (Int.tmod (shrI Go.IntKind.u64 v1.1 1) (w64u (w64 ((w64 (x.2.1 - x.1)) + 1)))))), v1.2))))
def ct42 (K : Nat) : Ct := ⟨[.l (.ptr 0 0 0), .l (.v (.i .i64)), .l (.v (.i .i64))], [⟨2, false, .mix (some 45) [[.l (.v (.l (.i .u8))), .l (.v (.i .i64))]]⟩], [.l (.v (.i .i64))], [⟨2, false, .mix (some 45) [[.l (.v (.l (.i .u8))), .l (.v (.i .i64))]]⟩], [], F42 K⟩
theorem c42 (K : Nat) : CtOk prog 42 (ct42 K) :=
  con_mk (Y := Y) (L := [(23, ct23 K), (55, ct55 K)]) (K := K) (an := (.seq .no (.seq (.seq .no (.blk (.seq .no (.cond .no (.seq .no (.cond .no .no)))))) (.seq (.seq .no (.cond .no .no)) .no)))) func42 mixed (ctabOk_cons (c23 K) (ctabOk_cons (c55 K) ctabOk_nil)) (by kernel_rfl) fun x => by kernel_rfl

-- (*loop.example/g00460/spec.l1Rd).off
def F28 (K : Nat) (x : Int × Int × (List Int) × Int) : Option (Int × (List Int) × Int) :=
  bindO (F27 K (24, x.2.2)) fun v0 =>
  branch v0.1
   (bindO (F23 K (4, v0.2)) fun v1 =>
   guard (decide (0 ≤ v1.1 ∧ v1.1 < ([w64 (x.1 - 1), w64 (x.2.1 + 1), (-9223372036854775808), 9223372036854775807].length : Int))) <|
   nthN [w64 (x.1 - 1), w64 (x.2.1 + 1), (-9223372036854775808), 9223372036854775807] v1.1.toNat fun v2 =>
   some (v2, v1.2))
   (bindO (F42 K (x.1, x.2.1, v0.2)) fun v3 =>
   some v3)
def ct28 (K : Nat) : Ct := ⟨[.l (.ptr 0 0 0), .l (.v (.i .i64)), .l (.v (.i .i64))], [⟨2, false, .mix (some 45) [[.l (.v (.l (.i .u8))), .l (.v (.i .i64))]]⟩], [.l (.v (.i .i64))], [⟨2, false, .mix (some 45) [[.l (.v (.l (.i .u8))), .l (.v (.i .i64))]]⟩], [], F28 K⟩
theorem c28 (K : Nat) : CtOk prog 28 (ct28 K) :=
  con_mk (Y := Y) (L := [(23, ct23 K), (27, ct27 K), (42, ct42 K)]) (K := K) (an := (.seq .no (.seq (.seq .no (.cond .no .no)) .no))) func28 mixed (ctabOk_cons (c23 K) (ctabOk_cons (c27 K) (ctabOk_cons (c42 K) ctabOk_nil))) (by kernel_rfl) fun x => by kernel_rfl

-- (*loop.example/g00460/spec.l1Rd).ins
def F46 (K : Nat) (x : (List Int) × Int) : Option (Int × Bool × Int × (List Int) × Int) :=
  bindO (F23 K (256, x)) fun v0 =>
  bindO (F27 K (4, v0.2)) fun v1 =>
  bindO (F58 K (v0.1, v1.1)) fun v2 =>
  bindO (F57 K v2) fun v3 =>
  bindO (α := Int × Bool × Int × Int × Bool × Int × (List Int) × Int) (branch (decide (v3.2 = ([110, 49, 54] : List UInt8)))
     (bindO (F23 K (65536, v1.2)) fun v4 =>
     some (v0.1, v1.1, v4.1, 0, false, 0, v4.2))
     (bindO (α := Bool × Int × Bool × Int × Int × Bool × Int × (List Int) × Int) (branch (decide (v3.2 = ([110, 56] : List UInt8)))
        (some (true, v0.1, v1.1, 0, 0, false, 0, v1.2))
        (some (decide (v3.2 = ([101, 56] : List UInt8)), v0.1, v1.1, 0, 0, false, 0, v1.2))) fun v5 =>
     branch v5.1
      (bindO (F24 K v5.2.2.2.2.2.2.2) fun v6 =>
      some (v5.2.1, v5.2.2.1, v6.1, v5.2.2.2.2.1, v5.2.2.2.2.2.1, v5.2.2.2.2.2.2.1, v6.2))
      (some v5.2))) fun v7 =>
  bindO (F27 K (40, v7.2.2.2.2.2.2)) fun v8 =>
  branch v8.1
   (bindO (F28 K (0, 255, v8.2)) fun v9 =>
   some (v7.1, v7.2.1, v9))
   (some (v7.1, v7.2.1, v7.2.2.1, v8.2))
def ct46 (K : Nat) : Ct := ⟨[.l (.ptr 0 0 0)], [⟨2, false, .mix (some 45) [[.l (.v (.l (.i .u8))), .l (.v (.i .i64))]]⟩], [.agg [(.v (.i .i64)), (.v .b), (.v (.i .i64))]], [⟨2, false, .mix (some 45) [[.l (.v (.l (.i .u8))), .l (.v (.i .i64))]]⟩], [], F46 K⟩
theorem c46 (K : Nat) : CtOk prog 46 (ct46 K) :=
  con_mk (Y := Y) (L := [(23, ct23 K), (27, ct27 K), (58, ct58 K), (57, ct57 K), (24, ct24 K), (28, ct28 K)]) (K := K) (an := (.seq .no (.seq .no (.seq .no (.seqJ [(1000000, ⟨(.l (.ptr 0 0 0) :: ru 1 (.l (.ptr 3000 0 0) :: .l (.ptr 4000 0 0) :: ru 34 [])), [(4000, ⟨3, false, .mix (some 60) [[.l (.v (.i .i64)), .l (.v .b), .l (.v (.i .i64))]]⟩), (3000, ⟨3, false, .mix (some 60) [[.l (.v (.i .i64)), .l (.v .b), .l (.v (.i .i64))]]⟩), (0, ⟨2, false, .mix (some 45) [[.l (.v (.l (.i .u8))), .l (.v (.i .i64))]]⟩)]⟩)] false (.seq .no (.blk (.seq .no (.cond .no (.seqJ [(1000000, ⟨(.l (.ptr 0 0 0) :: ru 1 (.l (.ptr 3000 0 0) :: .l (.ptr 4000 0 0) :: ru 22 (.l (.v .b) :: ru 11 []))), [(4000, ⟨3, false, .mix (some 60) [[.l (.v (.i .i64)), .l (.v .b), .l (.v (.i .i64))]]⟩), (3000, ⟨3, false, .mix (some 60) [[.l (.v (.i .i64)), .l (.v .b), .l (.v (.i .i64))]]⟩), (0, ⟨2, false, .mix (some 45) [[.l (.v (.l (.i .u8))), .l (.v (.i .i64))]]⟩)]⟩)] false (.seq .no .no) .no))))) (.seq (.seq .no .no) .no)))))) func46 mixed (ctabOk_cons (c23 K) (ctabOk_cons (c27 K) (ctabOk_cons (c58 K) (ctabOk_cons (c57 K) (ctabOk_cons (c24 K) (ctabOk_cons (c28 K) ctabOk_nil)))))) (by kernel_rfl) fun x => by kernel_rfl

-- (*loop.example/g00460/spec.l1Rd).plain
def F38 (K : Nat) (x : (List Int) × Int) : Option (Int × Bool × Int × (List Int) × Int) :=
  bindO (F46 K x) fun v0 =>
  bindO (α := (Int × Bool × Int × (List Int) × Int) ⊕ (Int × Bool × Int × Int × Bool × Int × (List Int) × Int)) (bindO (α := Bool × Int × Bool × Int × Int × Bool × Int × (List Int) × Int) (branch v0.2.1
       (some (true, v0.1, v0.2.1, v0.2.2.1, 0, false, 0, v0.2.2.2))
       (bindO (F27 K (6, v0.2.2.2)) fun v1 =>
       some (v1.1, v0.1, v0.2.1, v0.2.2.1, 0, false, 0, v1.2))) fun v2 =>
    branch v2.1
     (some (.inl (v2.2.1, v2.2.2.1, v2.2.2.2.1, v2.2.2.2.2.2.2.2)))
     (some (.inr v2.2))) fun v3 =>
  csO v3
   (fun v4 => some v4)
   (fun v5 => bindO (F23 K (10, v5.2.2.2.2.2.2)) fun v6 =>
   branch (decide (v6.1 = 0))
    (bindO (F24 K v6.2) fun v7 =>
    some (62, false, v7))
    (branch (decide (v6.1 = 1))
     (bindO (F23 K (5, v6.2)) fun v8 =>
     guard (decide (0 ≤ v8.1 ∧ v8.1 < (5 : Int))) <|
     nthN [49152, 65408, 256, 128, 40960] v8.1.toNat fun v9 =>
     some (33, false, v9, v8.2))
     (branch (decide (v6.1 = 2))
      (some (119, false, 0, v6.2))
      (branch (decide (v6.1 = 3))
       (some (224, false, 1, v6.2))
       (branch (decide (v6.1 = 4))
        (bindO (F23 K (6, v6.2)) fun v10 =>
        guard (decide (0 ≤ v10.1 ∧ v10.1 < (6 : Int))) <|
        nthN [49152, 65281, 130, 10, 300, 40961] v10.1.toNat fun v11 =>
        some (234, false, v11, v10.2))
        (bindO (α := Bool × Int × Bool × Int × Int × Bool × Int × (List Int) × Int) (branch (decide (192 ≤ v5.1))
           (some (decide (511 < v5.2.2.1), v5.1, v5.2.1, v5.2.2.1, v5.2.2.2.1, v5.2.2.2.2.1, v5.2.2.2.2.2.1, v6.2))
           (some (false, v5.1, v5.2.1, v5.2.2.1, v5.2.2.2.1, v5.2.2.2.2.1, v5.2.2.2.2.2.1, v6.2))) fun v12 =>
        branch v12.1
         (some (v12.2.1, v12.2.2.1, Int.tmod v12.2.2.2.1 40, v12.2.2.2.2.2.2.2))
         (some (v12.2.1, v12.2.2.1, v12.2.2.2.1, v12.2.2.2.2.2.2.2))))))))
def ct38 (K : Nat) : Ct := ⟨[.l (.ptr 0 0 0)], [⟨2, false, .mix (some 45) [[.l (.v (.l (.i .u8))), .l (.v (.i .i64))]]⟩], [.agg [(.v (.i .i64)), (.v .b), (.v (.i .i64))]], [⟨2, false, .mix (some 45) [[.l (.v (.l (.i .u8))), .l (.v (.i .i64))]]⟩], [], F38 K⟩
theorem c38 (K : Nat) : CtOk prog 38 (ct38 K) :=
  con_mk (Y := Y) (L := [(23, ct23 K), (27, ct27 K), (24, ct24 K), (46, ct46 K)]) (K := K) (an := (.seq .no (.seq .no (.seqJ [(1000000, ⟨(.l (.ptr 0 0 0) :: ru 1 (.l (.ptr 3000 0 0) :: .l (.ptr 4000 0 0) :: ru 51 [])), [(4000, ⟨3, false, .mix (some 60) [[.l (.v (.i .i64)), .l (.v .b), .l (.v (.i .i64))]]⟩), (3000, ⟨3, false, .mix (some 60) [[.l (.v (.i .i64)), .l (.v .b), .l (.v (.i .i64))]]⟩), (0, ⟨2, false, .mix (some 45) [[.l (.v (.l (.i .u8))), .l (.v (.i .i64))]]⟩)]⟩)] true (.seqJ [(1000000, ⟨(.l (.ptr 0 0 0) :: ru 1 (.l (.ptr 3000 0 0) :: .l (.ptr 4000 0 0) :: ru 7 (.l (.v .b) :: ru 43 []))), [(4000, ⟨3, false, .mix (some 60) [[.l (.v (.i .i64)), .l (.v .b), .l (.v (.i .i64))]]⟩), (3000, ⟨3, false, .mix (some 60) [[.l (.v (.i .i64)), .l (.v .b), .l (.v (.i .i64))]]⟩), (0, ⟨2, false, .mix (some 45) [[.l (.v (.l (.i .u8))), .l (.v (.i .i64))]]⟩)]⟩)] false .no (.cond .no .no)) (.seq (.seq .no (.blk (.seq .no (.cond .no (.seq .no (.cond .no (.seq .no (.cond .no (.seq .no (.cond .no (.seq .no (.cond .no .no)))))))))))) (.seq (.seqJ [(1000000, ⟨(ru 2 (.l (.ptr 3000 0 0) :: .l (.ptr 4000 0 0) :: ru 45 (.l (.v .b) :: ru 5 []))), [(4000, ⟨3, false, .mix (some 60) [[.l (.v (.i .i64)), .l (.v .b), .l (.v (.i .i64))]]⟩), (3000, ⟨3, false, .mix (some 60) [[.l (.v (.i .i64)), .l (.v .b), .l (.v (.i .i64))]]⟩), (0, ⟨2, false, .mix (some 45) [[.l (.v (.l (.i .u8))), .l (.v (.i .i64))]]⟩)]⟩)] false .no .no) .no)))))) func38 mixed (ctabOk_cons (c23 K) (ctabOk_cons (c27 K) (ctabOk_cons (c24 K) (ctabOk_cons (c46 K) ctabOk_nil)))) (by kernel_rfl) fun x => by kernel_rfl

-- loop.example/g00460/spec.l3Length
def F45 (K : Nat) (x : Int × Bool) : Option (Int) :=
  bindO (F58 K x) fun v0 =>
  branch (decide (v0 = []))
   (some 0)
   (branch x.2
    (some 2)
    (bindO (F57 K v0) fun v1 =>
    branch (decide (v1.2 = []))
     (some 1)
     (branch (decide (v1.2 = ([110, 49, 54] : List UInt8)))
      (some 3)
      (some 2))))
def ct45 (K : Nat) : Ct := ⟨[.l (.v (.i .i64)), .l (.v .b)], [], [.l (.v (.i .i64))], [], [], F45 K⟩
theorem c45 (K : Nat) : CtOk prog 45 (ct45 K) :=
  con_mk (Y := Y) (L := [(58, ct58 K), (57, ct57 K)]) (K := K) (an := (.seq .no (.seq .no (.seq (.seq .no (.cond .no .no)) (.seq (.seq .no (.cond .no .no)) (.seq .no (.seq (.seq .no (.blk (.seq .no (.cond .no (.seq .no (.cond .no .no)))))) .no))))))) func45 mixed (ctabOk_cons (c58 K) (ctabOk_cons (c57 K) ctabOk_nil)) (by kernel_rfl) fun x => by kernel_rfl

-- loop.example/g00460/spec.LengthOf
def F56 (K : Nat) (x : Int × Bool) : Option (Int) :=
  bindO (F18 K (x.1, 0, 255)) fun v0 =>
  branch (!v0)
   (some 0)
   (bindO (F45 K x) fun v1 =>
   some v1)
def ct56 (K : Nat) : Ct := ⟨[.l (.v (.i .i64)), .l (.v .b)], [], [.l (.v (.i .i64))], [], [], F56 K⟩
theorem c56 (K : Nat) : CtOk prog 56 (ct56 K) :=
  con_mk (Y := Y) (L := [(18, ct18 K), (45, ct45 K)]) (K := K) (an := (.seq .no (.seq (.seq .no (.cond .no .no)) .no))) func56 mixed (ctabOk_cons (c18 K) (ctabOk_cons (c45 K) ctabOk_nil)) (by kernel_rfl) fun x => by kernel_rfl

-- loop.example/g00460/spec.InsOk
def F44 (K : Nat) (x : Int × Bool × Int) : Option (Bool) :=
  bindO (F56 K (x.1, x.2.1)) fun v0 =>
  branch (decide (v0 = 0))
   (some false)
   (bindO (F58 K (x.1, x.2.1)) fun v1 =>
   bindO (F57 K v1) fun v2 =>
   branch (decide (v2.2 = ([110, 49, 54] : List UInt8)))
    (bindO (F18 K (x.2.2, 0, 65535)) fun v3 =>
    some v3)
    (bindO (α := Bool × Int × Bool × Int) (branch (decide (v2.2 = ([110, 56] : List UInt8)))
       (some (true, x))
       (some (decide (v2.2 = ([101, 56] : List UInt8)), x))) fun v4 =>
    branch v4.1
     (bindO (F18 K (v4.2.2.2, 0, 255)) fun v5 =>
     some v5)
     (some (decide (v4.2.2.2 = 0)))))
def ct44 (K : Nat) : Ct := ⟨[.agg [(.v (.i .i64)), (.v .b), (.v (.i .i64))]], [], [.l (.v .b)], [], [], F44 K⟩
theorem c44 (K : Nat) : CtOk prog 44 (ct44 K) :=
  con_mk (Y := Y) (L := [(18, ct18 K), (58, ct58 K), (57, ct57 K), (56, ct56 K)]) (K := K) (an := (.seq .no (.seq (.seq .no (.cond .no .no)) (.seq .no (.seq (.seq .no (.blk (.seq .no (.cond .no (.seqJ [(1000000, ⟨(ru 1 (.l (.ptr 2000 0 0) :: ru 24 (.l (.v .b) :: ru 8 []))), [(2000, ⟨3, false, .mix (some 60) [[.l (.v (.i .i64)), .l (.v .b), .l (.v (.i .i64))]]⟩)]⟩)] false (.seq .no .no) (.cond .no .no)))))) .no))))) func44 mixed (ctabOk_cons (c18 K) (ctabOk_cons (c58 K) (ctabOk_cons (c57 K) (ctabOk_cons (c56 K) ctabOk_nil)))) (by kernel_rfl) fun x => by kernel_rfl

-- loop.example/g00460/spec.InsBytes
def F37 (K : Nat) (x : Int × Bool × Int) : Option (List UInt8) :=
  bindO (F44 K x) fun v0 =>
  branch (!v0)
   (some [])
   (branch x.2.1
    (some (toB [203, w8 x.1]))
    (bindO (F45 K (x.1, false)) fun v1 =>
    branch (decide (v1 = 2))
     (some (toB [w8 x.1, w8 x.2.2]))
     (branch (decide (v1 = 3))
      (some (toB [w8 x.1, w8 x.2.2, w8 (shrI Go.IntKind.i64 x.2.2 8)]))
      (some (toB [w8 x.1])))))
def ct37 (K : Nat) : Ct := ⟨[.agg [(.v (.i .i64)), (.v .b), (.v (.i .i64))]], [], [.l (.v .s)], [], [], F37 K⟩
theorem c37 (K : Nat) : CtOk prog 37 (ct37 K) :=
  con_mk (Y := Y) (L := [(45, ct45 K), (44, ct44 K)]) (K := K) (an := (.seq .no (.seq (.seq .no (.cond .no .no)) (.seq (.seq .no (.cond .no .no)) (.seq (.seq .no (.blk (.seq .no (.cond .no (.seq .no (.cond .no .no)))))) .no))))) func37 mixed (ctabOk_cons (c45 K) (ctabOk_cons (c44 K) ctabOk_nil)) (by kernel_rfl) fun x => by kernel_rfl

-- (*loop.example/g00460/spec.l1Rd).rom
def F22_b1 (K : Nat) (x : Int × Int × Int × Int × (List Int) × (List Int) × Int) : Option ((Int × Int × Int × Int × (List Int) × (List Int) × Int) ⊕ (Int × Int × (List Int) × (List Int) × Int)) :=
  branch (decide (0 < x.2.2.2.1))
   (bindO (F38 K x.2.2.2.2.2) fun v0 =>
   bindO (F37 K (v0.1, v0.2.1, v0.2.2.1)) fun v1 =>
   guard (decide (0 ≤ x.2.2.1 ∧ x.2.2.1 ≤ (w64 ((w64 (x.2.1 + 1)) * 256)) ∧ (w64 ((w64 (x.2.1 + 1)) * 256)) ≤ (x.2.2.2.2.1.length : Int))) <|
   guard (decide ((x.2.2.1.toNat + (((w64 ((w64 (x.2.1 + 1)) * 256)).toNat) - x.2.2.1.toNat)) ≤ x.2.2.2.2.1.length)) <|
   some (.inl (x.1, x.2.1, w64 (x.2.2.1 + (v1.length : Int)), w64 (x.2.2.2.1 - 1), ((List.take x.2.2.1.toNat x.2.2.2.2.1) ++ (List.take (min ((ofB v1).length) (((w64 ((w64 (x.2.1 + 1)) * 256)).toNat) - x.2.2.1.toNat)) (ofB v1))) ++ (List.drop (x.2.2.1.toNat + (min ((ofB v1).length) (((w64 ((w64 (x.2.1 + 1)) * 256)).toNat) - x.2.2.1.toNat))) x.2.2.2.2.1), v0.2.2.2)))
   (some (.inr (x.1, x.2.1, x.2.2.2.2)))
def F22_b0 (K : Nat) (x : Int × Int × (List Int) × (List Int) × Int) : Option ((Int × Int × (List Int) × (List Int) × Int) ⊕ ((List Int) × (List Int) × Int)) :=
  branch (decide (x.2.1 < x.1))
   (bindO (F23 K (16, x.2.2.2)) fun v0 =>
   bindO (iter K (F22_b1 K) (x.1, x.2.1, w64 (x.2.1 * 256), w64 (1 + v0.1), x.2.2.1, v0.2)) fun v1 =>
   some (.inl (v1.1, w64 (v1.2.1 + 1), v1.2.2)))
   (some (.inr x.2.2))
def F22 (K : Nat) (x : (List Int) × Int) : Option ((List UInt8) × (List Int) × Int) :=
  bindO (F23 K (3, x)) fun v0 =>
  guard (decide ((w64 ((w64 (2 + v0.1)) * 256)) = (w64 ((w64 (2 + v0.1)) * 256)) ∧ 0 ≤ (w64 ((w64 (2 + v0.1)) * 256)) ∧ (1 * ((w64 ((w64 (2 + v0.1)) * 256)).toNat)) ≤ 281474976710656)) <|
  bindO (iter K (F22_b0 K) (w64 (2 + v0.1), 0, List.replicate ((w64 ((w64 (2 + v0.1)) * 256)).toNat) 0, v0.2)) fun v1 =>
  bindO (F27 K (30, v1.2)) fun v2 =>
  branch v2.1
   (guard (decide ((0 : Int) ≤ 1 ∧ 1 ≤ (v1.1.length : Int))) <|
   guard (decide ((1 + (v1.1.length - 1)) ≤ v1.1.length)) <|
   some (toB (List.take (v1.1.length - 1) (List.drop 1 v1.1)), v2.2))
   (some (toB v1.1, v2.2))
def ct22 (K : Nat) : Ct := ⟨[.l (.ptr 0 0 0)], [⟨2, false, .mix (some 45) [[.l (.v (.l (.i .u8))), .l (.v (.i .i64))]]⟩], [.l (.v .s)], [⟨2, false, .mix (some 45) [[.l (.v (.l (.i .u8))), .l (.v (.i .i64))]]⟩], [], F22 K⟩
theorem c22 (K : Nat) : CtOk prog 22 (ct22 K) :=
  con_mk (Y := Y) (L := [(23, ct23 K), (27, ct27 K), (38, ct38 K), (37, ct37 K)]) (K := K) (an := (.seq .no (.seq .no (.seq .no (.seq (.seq .no (.blk (.loop [] ⟨(.l (.ptr 0 0 0) :: ru 2 (.l (.v (.i .i64)) :: .l (.all 15000) :: .l (.v (.i .i64)) :: ru 45 [])), [(15000, ⟨1, true, .row (.i .u8)⟩), (0, ⟨2, false, .mix (some 45) [[.l (.v (.l (.i .u8))), .l (.v (.i .i64))]]⟩)]⟩ [(0, ⟨(.l (.ptr 0 0 0) :: ru 3 (.l (.all 15000) :: ru 46 [])), [(15000, ⟨1, true, .row (.i .u8)⟩), (0, ⟨2, false, .mix (some 45) [[.l (.v (.l (.i .u8))), .l (.v (.i .i64))]]⟩)]⟩)] false (.seq (.seq .no .no) (.seq (.blk (.seq .no (.seq .no (.blk (.loop [] ⟨(.l (.ptr 0 0 0) :: ru 2 (.l (.v (.i .i64)) :: .l (.all 15000) :: .l (.v (.i .i64)) :: .l (.v (.i .i64)) :: .l (.v (.i .i64)) :: ru 43 [])), [(15000, ⟨1, true, .row (.i .u8)⟩), (0, ⟨2, false, .mix (some 45) [[.l (.v (.l (.i .u8))), .l (.v (.i .i64))]]⟩)]⟩ [(2, ⟨(.l (.ptr 0 0 0) :: ru 2 (.l (.v (.i .i64)) :: .l (.all 15000) :: .l (.v (.i .i64)) :: ru 45 [])), [(15000, ⟨1, true, .row (.i .u8)⟩), (0, ⟨2, false, .mix (some 45) [[.l (.v (.l (.i .u8))), .l (.v (.i .i64))]]⟩)]⟩)] false (.seq (.seq .no .no) (.seq (.blk (.seq .no .no)) .no))))))) .no))))) (.seq (.seq .no (.cond .no .no)) .no)))))) func22 mixed (ctabOk_cons (c23 K) (ctabOk_cons (c27 K) (ctabOk_cons (c38 K) (ctabOk_cons (c37 K) ctabOk_nil)))) (by kernel_rfl) fun x => by kernel_rfl

-- loop.example/g00460/spec.l5Banks
def F35 (K : Nat) (x : List UInt8) : Option (Int) :=
  bindO (α := Int × Bool) (branch (!(decide ((Int.tmod (x.length : Int) 256) = 0)))
     (some (w64 (Int.tdiv (x.length : Int) 256), true))
     (bindO (F18 K (w64 (Int.tdiv (x.length : Int) 256), 2, 16)) fun v0 =>
     some (w64 (Int.tdiv (x.length : Int) 256), !v0))) fun v1 =>
  branch v1.2
   (some 0)
   (some v1.1)
def ct35 (K : Nat) : Ct := ⟨[.l (.v .s)], [], [.l (.v (.i .i64))], [], [], F35 K⟩
theorem c35 (K : Nat) : CtOk prog 35 (ct35 K) :=
  con_mk (Y := Y) (L := [(18, ct18 K)]) (K := K) (an := (.seq .no (.seq .no (.seq (.seqJ [(1000000, ⟨(ru 3 (.l (.v (.i .i64)) :: ru 11 (.l (.v .b) :: ru 1 []))), []⟩)] false .no (.cond .no .no)) .no)))) func35 mixed (ctabOk_cons (c18 K) ctabOk_nil) (by kernel_rfl) fun x => by kernel_rfl

-- loop.example/g00460/spec.CartOk
def F17 (K : Nat) (x : (List UInt8) × Int × Int × (List UInt8) × Int × Bool × Int) : Option (Bool) :=
  bindO (α := Bool ⊕ ((List UInt8) × Int × Int × (List UInt8) × Int × Bool × Int)) (bindO (α := Bool × (List UInt8) × Int × Int × (List UInt8) × Int × Bool × Int) (bindO (F35 K x.1) fun v0 =>
      branch (decide (v0 = 0))
       (some (true, x))
       (some (!(decide ((x.2.2.2.1.length : Int) = 256)), x))) fun v1 =>
    branch v1.1
     (some (.inl false))
     (some (.inr v1.2))) fun v2 =>
  csO v2
   (fun v3 => some v3)
   (fun v4 => branch (decide (v4.2.1 = 0))
    (branch (decide (v4.2.2.1 = 1))
     (branch (decide (v4.2.2.2.2.1 = 0))
      (branch (!v4.2.2.2.2.2.1)
       (some (decide (v4.2.2.2.2.2.2 = 0)))
       (some false))
      (some false))
     (some false))
    (branch (decide (v4.2.1 = 1))
     (bindO (F18 K (v4.2.2.1, 1, 31)) fun v5 =>
     branch v5
      (bindO (F18 K (v4.2.2.2.2.1, 0, 3)) fun v6 =>
      branch v6
       (bindO (F18 K (v4.2.2.2.2.2.2, 0, 1)) fun v7 =>
       some v7)
       (some false))
      (some false))
     (branch (decide (v4.2.1 = 2))
      (bindO (F18 K (v4.2.2.1, 0, 255)) fun v8 =>
      branch v8
       (bindO (F18 K (v4.2.2.2.2.1, 0, 3)) fun v9 =>
       branch v9
        (some (decide (v4.2.2.2.2.2.2 = 0)))
        (some false))
       (some false))
      (some false))))
def ct17 (K : Nat) : Ct := ⟨[.agg [(.v .s), (.v (.i .i64)), (.v (.i .i64)), (.v .s), (.v (.i .i64)), (.v .b), (.v (.i .i64))]], [], [.l (.v .b)], [], [], F17 K⟩
theorem c17 (K : Nat) : CtOk prog 17 (ct17 K) :=
  con_mk (Y := Y) (L := [(18, ct18 K), (35, ct35 K)]) (K := K) (an := (.seq .no (.seqJ [(1000000, ⟨(ru 1 (.l (.ptr 2000 0 0) :: ru 63 [])), [(2000, ⟨7, false, .mix (some 27) [[.l (.v .s), .l (.v (.i .i64)), .l (.v (.i .i64)), .l (.v .s), .l (.v (.i .i64)), .l (.v .b), .l (.v (.i .i64))]]⟩)]⟩)] true (.seqJ [(1000000, ⟨(ru 1 (.l (.ptr 2000 0 0) :: ru 10 (.l (.v .b) :: ru 52 []))), [(2000, ⟨7, false, .mix (some 27) [[.l (.v .s), .l (.v (.i .i64)), .l (.v (.i .i64)), .l (.v .s), .l (.v (.i .i64)), .l (.v .b), .l (.v (.i .i64))]]⟩)]⟩)] false .no (.cond .no .no)) (.seq (.seq .no (.blk (.seq .no (.cond .no (.seq .no (.cond .no (.seq .no (.cond .no .no)))))))) .no)))) func17 mixed (ctabOk_cons (c18 K) (ctabOk_cons (c35 K) ctabOk_nil)) (by kernel_rfl) fun x => by kernel_rfl

-- loop.example/g00460/spec.CartNew
def F36 (K : Nat) (x : (List UInt8) × Int) : Option ((List UInt8) × Int × Int × (List UInt8) × Int × Bool × Int × Bool) :=
  bindO (F17 K (x.1, x.2, 1, ([0, 0, 0, 0, 0, 0, 0, 0, 0, 0, 0, 0, 0, 0, 0, 0, 0, 0, 0, 0, 0, 0, 0, 0, 0, 0, 0, 0, 0, 0, 0, 0, 0, 0, 0, 0, 0, 0, 0, 0, 0, 0, 0, 0, 0, 0, 0, 0, 0, 0, 0, 0, 0, 0, 0, 0, 0, 0, 0, 0, 0, 0, 0, 0, 0, 0, 0, 0, 0, 0, 0, 0, 0, 0, 0, 0, 0, 0, 0, 0, 0, 0, 0, 0, 0, 0, 0, 0, 0, 0, 0, 0, 0, 0, 0, 0, 0, 0, 0, 0, 0, 0, 0, 0, 0, 0, 0, 0, 0, 0, 0, 0, 0, 0, 0, 0, 0, 0, 0, 0, 0, 0, 0, 0, 0, 0, 0, 0, 0, 0, 0, 0, 0, 0, 0, 0, 0, 0, 0, 0, 0, 0, 0, 0, 0, 0, 0, 0, 0, 0, 0, 0, 0, 0, 0, 0, 0, 0, 0, 0, 0, 0, 0, 0, 0, 0, 0, 0, 0, 0, 0, 0, 0, 0, 0, 0, 0, 0, 0, 0, 0, 0, 0, 0, 0, 0, 0, 0, 0, 0, 0, 0, 0, 0, 0, 0, 0, 0, 0, 0, 0, 0, 0, 0, 0, 0, 0, 0, 0, 0, 0, 0, 0, 0, 0, 0, 0, 0, 0, 0, 0, 0, 0, 0, 0, 0, 0, 0, 0, 0, 0, 0, 0, 0, 0, 0, 0, 0, 0, 0, 0, 0, 0, 0, 0, 0, 0, 0, 0, 0, 0, 0, 0, 0, 0, 0] : List UInt8), 0, false, 0)) fun v0 =>
  branch (!v0)
   (some ([], 0, 0, [], 0, false, 0, false))
   (some (x.1, x.2, 1, ([0, 0, 0, 0, 0, 0, 0, 0, 0, 0, 0, 0, 0, 0, 0, 0, 0, 0, 0, 0, 0, 0, 0, 0, 0, 0, 0, 0, 0, 0, 0, 0, 0, 0, 0, 0, 0, 0, 0, 0, 0, 0, 0, 0, 0, 0, 0, 0, 0, 0, 0, 0, 0, 0, 0, 0, 0, 0, 0, 0, 0, 0, 0, 0, 0, 0, 0, 0, 0, 0, 0, 0, 0, 0, 0, 0, 0, 0, 0, 0, 0, 0, 0, 0, 0, 0, 0, 0, 0, 0, 0, 0, 0, 0, 0, 0, 0, 0, 0, 0, 0, 0, 0, 0, 0, 0, 0, 0, 0, 0, 0, 0, 0, 0, 0, 0, 0, 0, 0, 0, 0, 0, 0, 0, 0, 0, 0, 0, 0, 0, 0, 0, 0, 0, 0, 0, 0, 0, 0, 0, 0, 0, 0, 0, 0, 0, 0, 0, 0, 0, 0, 0, 0, 0, 0, 0, 0, 0, 0, 0, 0, 0, 0, 0, 0, 0, 0, 0, 0, 0, 0, 0, 0, 0, 0, 0, 0, 0, 0, 0, 0, 0, 0, 0, 0, 0, 0, 0, 0, 0, 0, 0, 0, 0, 0, 0, 0, 0, 0, 0, 0, 0, 0, 0, 0, 0, 0, 0, 0, 0, 0, 0, 0, 0, 0, 0, 0, 0, 0, 0, 0, 0, 0, 0, 0, 0, 0, 0, 0, 0, 0, 0, 0, 0, 0, 0, 0, 0, 0, 0, 0, 0, 0, 0, 0, 0, 0, 0, 0, 0, 0, 0, 0, 0, 0, 0] : List UInt8), 0, false, 0, true))
def ct36 (K : Nat) : Ct := ⟨[.l (.v .s), .l (.v (.i .i64))], [], [.agg [(.v .s), (.v (.i .i64)), (.v (.i .i64)), (.v .s), (.v (.i .i64)), (.v .b), (.v (.i .i64))], .l (.v .b)], [], [], F36 K⟩
theorem c36 (K : Nat) : CtOk prog 36 (ct36 K) :=
  con_mk (Y := Y) (L := [(17, ct17 K)]) (K := K) (an := (.seq .no (.seq .no (.seq (.seq .no (.cond .no .no)) .no)))) func36 mixed (ctabOk_cons (c17 K) ctabOk_nil) (by kernel_rfl) fun x => by kernel_rfl

-- loop.example/g00460/spec.MachineNew
def F21 (K : Nat) (x : (List UInt8) × Int) : Option (Int × Int × Int × Int × Int × Int × Int × Int × Int × Int × Bool × Bool × (List UInt8) × Int × Int × (List UInt8) × Int × Bool × Int × (List UInt8) × (List UInt8) × (List Int) × Int × Bool) :=
  bindO (F36 K x) fun v0 =>
  branch (!v0.2.2.2.2.2.2.2)
   (some (0, 0, 0, 0, 0, 0, 0, 0, 0, 0, false, false, [], 0, 0, [], 0, false, 0, [], [], [], 0, false))
   (some (0, 0, 0, 0, 0, 0, 0, 0, 65534, 0, false, false, v0.1, v0.2.1, v0.2.2.1, v0.2.2.2.1, v0.2.2.2.2.1, v0.2.2.2.2.2.1, v0.2.2.2.2.2.2.1, ([0, 0, 0, 0, 0, 0, 0, 0, 0, 0, 0, 0, 0, 0, 0, 0, 0, 0, 0, 0, 0, 0, 0, 0, 0, 0, 0, 0, 0, 0, 0, 0, 0, 0, 0, 0, 0, 0, 0, 0, 0, 0, 0, 0, 0, 0, 0, 0, 0, 0, 0, 0, 0, 0, 0, 0, 0, 0, 0, 0, 0, 0, 0, 0, 0, 0, 0, 0, 0, 0, 0, 0, 0, 0, 0, 0, 0, 0, 0, 0, 0, 0, 0, 0, 0, 0, 0, 0, 0, 0, 0, 0, 0, 0, 0, 0, 0, 0, 0, 0, 0, 0, 0, 0, 0, 0, 0, 0, 0, 0, 0, 0, 0, 0, 0, 0, 0, 0, 0, 0, 0, 0, 0, 0, 0, 0, 0, 0, 0, 0, 0, 0, 0, 0, 0, 0, 0, 0, 0, 0, 0, 0, 0, 0, 0, 0, 0, 0, 0, 0, 0, 0, 0, 0, 0, 0, 0, 0, 0, 0, 0, 0, 0, 0, 0, 0, 0, 0, 0, 0, 0, 0, 0, 0, 0, 0, 0, 0, 0, 0, 0, 0, 0, 0, 0, 0, 0, 0, 0, 0, 0, 0, 0, 0, 0, 0, 0, 0, 0, 0, 0, 0, 0, 0, 0, 0, 0, 0, 0, 0, 0, 0, 0, 0, 0, 0, 0, 0, 0, 0, 0, 0, 0, 0, 0, 0, 0, 0, 0, 0, 0, 0, 0, 0, 0, 0, 0, 0, 0, 0, 0, 0, 0, 0, 0, 0, 0, 0, 0, 0, 0, 0, 0, 0, 0, 0] : List UInt8), ([0, 0, 0, 0, 0, 0, 0, 0, 0, 0, 0, 0, 0, 0, 0, 0, 0, 0, 0, 0, 0, 0, 0, 0, 0, 0, 0, 0, 0, 0, 0, 0, 0, 0, 0, 0, 0, 0, 0, 0, 0, 0, 0, 0, 0, 0, 0, 0, 0, 0, 0, 0, 0, 0, 0, 0, 0, 0, 0, 0, 0, 0, 0, 0, 0, 0, 0, 0, 0, 0, 0, 0, 0, 0, 0, 0, 0, 0, 0, 0, 0, 0, 0, 0, 0, 0, 0, 0, 0, 0, 0, 0, 0, 0, 0, 0, 0, 0, 0, 0, 0, 0, 0, 0, 0, 0, 0, 0, 0, 0, 0, 0, 0, 0, 0, 0, 0, 0, 0, 0, 0, 0, 0, 0, 0, 0, 0] : List UInt8), [], 0, true))
def ct21 (K : Nat) : Ct := ⟨[.l (.v .s), .l (.v (.i .i64))], [], [.agg [(.v (.i .i64)), (.v (.i .i64)), (.v (.i .i64)), (.v (.i .i64)), (.v (.i .i64)), (.v (.i .i64)), (.v (.i .i64)), (.v (.i .i64)), (.v (.i .i64)), (.v (.i .i64)), (.v .b), (.v .b), (.v .s), (.v (.i .i64)), (.v (.i .i64)), (.v .s), (.v (.i .i64)), (.v .b), (.v (.i .i64)), (.v .s), (.v .s), (.v (.l (.i .i64))), (.v (.i .i64))], .l (.v .b)], [], [], F21 K⟩
theorem c21 (K : Nat) : CtOk prog 21 (ct21 K) :=
  con_mk (Y := Y) (L := [(36, ct36 K)]) (K := K) (an := (.seq .no (.seq .no (.seq (.seq .no (.cond .no .no)) (.seq (.reg [2, 4] []) .no))))) func21 mixed (ctabOk_cons (c36 K) ctabOk_nil) (by kernel_rfl) fun x => by kernel_rfl

-- (*loop.example/g00460/spec.l1Rd).flags
def F25 (K : Nat) (x : (List Int) × Int) : Option (Int × (List Int) × Int) :=
  bindO (F23 K (16, x)) fun v0 =>
  some (w64 (16 * v0.1), v0.2)
def ct25 (K : Nat) : Ct := ⟨[.l (.ptr 0 0 0)], [⟨2, false, .mix (some 45) [[.l (.v (.l (.i .u8))), .l (.v (.i .i64))]]⟩], [.l (.v (.i .i64))], [⟨2, false, .mix (some 45) [[.l (.v (.l (.i .u8))), .l (.v (.i .i64))]]⟩], [], F25 K⟩
theorem c25 (K : Nat) : CtOk prog 25 (ct25 K) :=
  con_mk (Y := Y) (L := [(23, ct23 K)]) (K := K) (an := (.seq .no .no)) func25 mixed (ctabOk_cons (c23 K) ctabOk_nil) (by kernel_rfl) fun x => by kernel_rfl

-- loop.example/g00460/spec.l4Byte
def F15 (K : Nat) (x : Int) : Option (Bool) :=
  bindO (F18 K (x, 0, 255)) fun v0 =>
  some v0
def ct15 (K : Nat) : Ct := ⟨[.l (.v (.i .i64))], [], [.l (.v .b)], [], [], F15 K⟩
theorem c15 (K : Nat) : CtOk prog 15 (ct15 K) :=
  con_mk (Y := Y) (L := [(18, ct18 K)]) (K := K) (an := (.seq .no .no)) func15 mixed (ctabOk_cons (c18 K) ctabOk_nil) (by kernel_rfl) fun x => by kernel_rfl

-- loop.example/g00460/spec.l4Word
def F16 (K : Nat) (x : Int) : Option (Bool) :=
  bindO (F18 K (x, 0, 65535)) fun v0 =>
  some v0
def ct16 (K : Nat) : Ct := ⟨[.l (.v (.i .i64))], [], [.l (.v .b)], [], [], F16 K⟩
theorem c16 (K : Nat) : CtOk prog 16 (ct16 K) :=
  con_mk (Y := Y) (L := [(18, ct18 K)]) (K := K) (an := (.seq .no .no)) func16 mixed (ctabOk_cons (c18 K) ctabOk_nil) (by kernel_rfl) fun x => by kernel_rfl

-- loop.example/g00460/spec.MachineOk
def F8_b0 (K : Nat) (x : Int × (List Int) × Int × Int × Int × Int × Int × Int × Int × Int × Int × Int × Bool × Bool × Int × Int × Int × Int × Int × Int × Int × Int × Int × Int × Bool × Bool × (List UInt8) × Int × Int × (List UInt8) × Int × Bool × Int × (List UInt8) × (List UInt8) × (List Int) × Int) : Option ((Int × (List Int) × Int × Int × Int × Int × Int × Int × Int × Int × Int × Int × Bool × Bool × Int × Int × Int × Int × Int × Int × Int × Int × Int × Int × Bool × Bool × (List UInt8) × Int × Int × (List UInt8) × Int × Bool × Int × (List UInt8) × (List UInt8) × (List Int) × Int) ⊕ (Bool ⊕ (Int × Int × Int × Int × Int × Int × Int × Int × Int × Int × Bool × Bool × Int × Int × Int × Int × Int × Int × Int × Int × Int × Int × Bool × Bool × (List UInt8) × Int × Int × (List UInt8) × Int × Bool × Int × (List UInt8) × (List UInt8) × (List Int) × Int))) :=
  branch (decide (x.1 < (x.2.1.length : Int)))
   (guard (decide (0 ≤ x.1 ∧ x.1 < (x.2.1.length : Int))) <|
   nthN x.2.1 x.1.toNat fun v0 =>
   bindO (F15 K v0) fun v1 =>
   branch (!v1)
    (some (.inr (.inl false)))
    (some (.inl (w64 (x.1 + 1), x.2))))
   (some (.inr (.inr x.2.2)))
def F8_b1 (K : Nat) (x : Int × Int × Int × Int × Int × Int × Int × Int × Int × Int × Int × Bool × Bool × Int × Int × Int × Int × Int × Int × Int × Int × Int × Int × Bool × Bool × (List UInt8) × Int × Int × (List UInt8) × Int × Bool × Int × (List UInt8) × (List UInt8) × (List Int) × Int) : Option ((Int × Int × Int × Int × Int × Int × Int × Int × Int × Int × Int × Bool × Bool × Int × Int × Int × Int × Int × Int × Int × Int × Int × Int × Bool × Bool × (List UInt8) × Int × Int × (List UInt8) × Int × Bool × Int × (List UInt8) × (List UInt8) × (List Int) × Int) ⊕ (Bool ⊕ (Int × Int × Int × Int × Int × Int × Int × Int × Int × Int × Bool × Bool × Int × Int × Int × Int × Int × Int × Int × Int × Int × Int × Bool × Bool × (List UInt8) × Int × Int × (List UInt8) × Int × Bool × Int × (List UInt8) × (List UInt8) × (List Int) × Int))) :=
  branch (decide (x.1 < (x.2.2.2.2.2.2.2.2.2.2.2.2.2.2.2.2.2.2.2.2.2.2.2.2.2.2.2.2.2.2.2.2.2.2.1.length : Int)))
   (nth x.2.2.2.2.2.2.2.2.2.2.2.2.2.2.2.2.2.2.2.2.2.2.2.2.2.2.2.2.2.2.2.2.2.2.1 x.1 fun v0 =>
   bindO (F15 K v0) fun v1 =>
   branch (!v1)
    (some (.inr (.inl false)))
    (some (.inl (w64 (x.1 + 1), x.2))))
   (some (.inr (.inr x.2)))
def F8 (K : Nat) (x : Int × Int × Int × Int × Int × Int × Int × Int × Int × Int × Bool × Bool × (List UInt8) × Int × Int × (List UInt8) × Int × Bool × Int × (List UInt8) × (List UInt8) × (List Int) × Int) : Option (Bool) :=
  bindO (iter K (F8_b0 K) (0, [x.1, x.2.1, x.2.2.1, x.2.2.2.1, x.2.2.2.2.1, x.2.2.2.2.2.1, x.2.2.2.2.2.2.1, x.2.2.2.2.2.2.2.1], x.1, x.2.1, x.2.2.1, x.2.2.2.1, x.2.2.2.2.1, x.2.2.2.2.2.1, x.2.2.2.2.2.2.1, x.2.2.2.2.2.2.2.1, x.2.2.2.2.2.2.2.2.1, x.2.2.2.2.2.2.2.2.2.1, x.2.2.2.2.2.2.2.2.2.2.1, x.2.2.2.2.2.2.2.2.2.2.2.1, x)) fun v0 =>
  csO v0
   (fun v1 => some v1)
   (fun v2 => bindO (iter K (F8_b1 K) (0, v2)) fun v3 =>
   csO v3
    (fun v4 => some v4)
    (fun v5 => branch (decide ((Int.tmod v5.2.1 16) = 0))
     (bindO (F16 K v5.2.2.2.2.2.2.2.2.1) fun v6 =>
     branch v6
      (bindO (F16 K v5.2.2.2.2.2.2.2.2.2.1) fun v7 =>
      branch v7
       (bindO (F17 K (v5.2.2.2.2.2.2.2.2.2.2.2.2.2.2.2.2.2.2.2.2.2.2.2.2.1, v5.2.2.2.2.2.2.2.2.2.2.2.2.2.2.2.2.2.2.2.2.2.2.2.2.2.1, v5.2.2.2.2.2.2.2.2.2.2.2.2.2.2.2.2.2.2.2.2.2.2.2.2.2.2.1, v5.2.2.2.2.2.2.2.2.2.2.2.2.2.2.2.2.2.2.2.2.2.2.2.2.2.2.2.1, v5.2.2.2.2.2.2.2.2.2.2.2.2.2.2.2.2.2.2.2.2.2.2.2.2.2.2.2.2.1, v5.2.2.2.2.2.2.2.2.2.2.2.2.2.2.2.2.2.2.2.2.2.2.2.2.2.2.2.2.2.1, v5.2.2.2.2.2.2.2.2.2.2.2.2.2.2.2.2.2.2.2.2.2.2.2.2.2.2.2.2.2.2.1)) fun v8 =>
       branch v8
        (branch (decide ((v5.2.2.2.2.2.2.2.2.2.2.2.2.2.2.2.2.2.2.2.2.2.2.2.2.2.2.2.2.2.2.2.1.length : Int) = 256))
         (branch (decide ((v5.2.2.2.2.2.2.2.2.2.2.2.2.2.2.2.2.2.2.2.2.2.2.2.2.2.2.2.2.2.2.2.2.1.length : Int) = 127))
          (branch (decide ((v5.2.2.2.2.2.2.2.2.2.2.2.2.2.2.2.2.2.2.2.2.2.2.2.2.2.2.2.2.2.2.2.2.2.1.length : Int) ≤ 100))
           (bindO (F18 K (v5.2.2.2.2.2.2.2.2.2.2.2.2.2.2.2.2.2.2.2.2.2.2.2.2.2.2.2.2.2.2.2.2.2.2, 0, 1000000000)) fun v9 =>
           some v9)
           (some false))
          (some false))
         (some false))
        (some false))
       (some false))
      (some false))
     (some false)))
def ct8 (K : Nat) : Ct := ⟨[.agg [(.v (.i .i64)), (.v (.i .i64)), (.v (.i .i64)), (.v (.i .i64)), (.v (.i .i64)), (.v (.i .i64)), (.v (.i .i64)), (.v (.i .i64)), (.v (.i .i64)), (.v (.i .i64)), (.v .b), (.v .b), (.v .s), (.v (.i .i64)), (.v (.i .i64)), (.v .s), (.v (.i .i64)), (.v .b), (.v (.i .i64)), (.v .s), (.v .s), (.v (.l (.i .i64))), (.v (.i .i64))]], [], [.l (.v .b)], [], [], F8 K⟩
theorem c8 (K : Nat) : CtOk prog 8 (ct8 K) :=
  con_mk (Y := Y) (L := [(18, ct18 K), (17, ct17 K), (15, ct15 K), (16, ct16 K)]) (K := K) (an := (.seq .no (.seq .no (.seq .no (.seq (.seq .no (.blk (.loop [] ⟨(ru 1 (.l (.ptr 2000 0 0) :: ru 1 (.l (.ptr 4000 0 0) :: .l (.all 26000) :: .l (.v (.i .i64)) :: ru 88 []))), [(26000, ⟨1, true, .row (.i .i64)⟩), (4000, ⟨12, false, .mix (some 25) [[.l (.v (.i .i64)), .l (.v (.i .i64)), .l (.v (.i .i64)), .l (.v (.i .i64)), .l (.v (.i .i64)), .l (.v (.i .i64)), .l (.v (.i .i64)), .l (.v (.i .i64)), .l (.v (.i .i64)), .l (.v (.i .i64)), .l (.v .b), .l (.v .b)]]⟩), (2000, ⟨23, false, .mix (some 30) [[.l (.v (.i .i64)), .l (.v (.i .i64)), .l (.v (.i .i64)), .l (.v (.i .i64)), .l (.v (.i .i64)), .l (.v (.i .i64)), .l (.v (.i .i64)), .l (.v (.i .i64)), .l (.v (.i .i64)), .l (.v (.i .i64)), .l (.v .b), .l (.v .b), .l (.v .s), .l (.v (.i .i64)), .l (.v (.i .i64)), .l (.v .s), .l (.v (.i .i64)), .l (.v .b), .l (.v (.i .i64)), .l (.v .s), .l (.v .s), .l (.v (.l (.i .i64))), .l (.v (.i .i64))]]⟩)]⟩ [(0, ⟨(ru 1 (.l (.ptr 2000 0 0) :: ru 1 (.l (.ptr 4000 0 0) :: ru 90 []))), [(4000, ⟨12, false, .mix (some 25) [[.l (.v (.i .i64)), .l (.v (.i .i64)), .l (.v (.i .i64)), .l (.v (.i .i64)), .l (.v (.i .i64)), .l (.v (.i .i64)), .l (.v (.i .i64)), .l (.v (.i .i64)), .l (.v (.i .i64)), .l (.v (.i .i64)), .l (.v .b), .l (.v .b)]]⟩), (2000, ⟨23, false, .mix (some 30) [[.l (.v (.i .i64)), .l (.v (.i .i64)), .l (.v (.i .i64)), .l (.v (.i .i64)), .l (.v (.i .i64)), .l (.v (.i .i64)), .l (.v (.i .i64)), .l (.v (.i .i64)), .l (.v (.i .i64)), .l (.v (.i .i64)), .l (.v .b), .l (.v .b), .l (.v .s), .l (.v (.i .i64)), .l (.v (.i .i64)), .l (.v .s), .l (.v (.i .i64)), .l (.v .b), .l (.v (.i .i64)), .l (.v .s), .l (.v .s), .l (.v (.l (.i .i64))), .l (.v (.i .i64))]]⟩)]⟩)] true (.seq (.seq .no .no) (.seq (.blk (.seq .no (.cond .no .no))) .no))))) (.seq (.seq .no (.blk (.loop [] ⟨(ru 1 (.l (.ptr 2000 0 0) :: ru 1 (.l (.ptr 4000 0 0) :: ru 2 (.l (.v (.i .i64)) :: ru 87 [])))), [(4000, ⟨12, false, .mix (some 25) [[.l (.v (.i .i64)), .l (.v (.i .i64)), .l (.v (.i .i64)), .l (.v (.i .i64)), .l (.v (.i .i64)), .l (.v (.i .i64)), .l (.v (.i .i64)), .l (.v (.i .i64)), .l (.v (.i .i64)), .l (.v (.i .i64)), .l (.v .b), .l (.v .b)]]⟩), (2000, ⟨23, false, .mix (some 30) [[.l (.v (.i .i64)), .l (.v (.i .i64)), .l (.v (.i .i64)), .l (.v (.i .i64)), .l (.v (.i .i64)), .l (.v (.i .i64)), .l (.v (.i .i64)), .l (.v (.i .i64)), .l (.v (.i .i64)), .l (.v (.i .i64)), .l (.v .b), .l (.v .b), .l (.v .s), .l (.v (.i .i64)), .l (.v (.i .i64)), .l (.v .s), .l (.v (.i .i64)), .l (.v .b), .l (.v (.i .i64)), .l (.v .s), .l (.v .s), .l (.v (.l (.i .i64))), .l (.v (.i .i64))]]⟩)]⟩ [(2, ⟨(ru 1 (.l (.ptr 2000 0 0) :: ru 1 (.l (.ptr 4000 0 0) :: ru 90 []))), [(4000, ⟨12, false, .mix (some 25) [[.l (.v (.i .i64)), .l (.v (.i .i64)), .l (.v (.i .i64)), .l (.v (.i .i64)), .l (.v (.i .i64)), .l (.v (.i .i64)), .l (.v (.i .i64)), .l (.v (.i .i64)), .l (.v (.i .i64)), .l (.v (.i .i64)), .l (.v .b), .l (.v .b)]]⟩), (2000, ⟨23, false, .mix (some 30) [[.l (.v (.i .i64)), .l (.v (.i .i64)), .l (.v (.i .i64)), .l (.v (.i .i64)), .l (.v (.i .i64)), .l (.v (.i .i64)), .l (.v (.i .i64)), .l (.v (.i .i64)), .l (.v (.i .i64)), .l (.v (.i .i64)), .l (.v .b), .l (.v .b), .l (.v .s), .l (.v (.i .i64)), .l (.v (.i .i64)), .l (.v .s), .l (.v (.i .i64)), .l (.v .b), .l (.v (.i .i64)), .l (.v .s), .l (.v .s), .l (.v (.l (.i .i64))), .l (.v (.i .i64))]]⟩)]⟩)] true (.seq (.seq .no .no) (.seq (.blk (.seq .no (.cond .no .no))) .no))))) .no)))))) func8 mixed (ctabOk_cons (c18 K) (ctabOk_cons (c17 K) (ctabOk_cons (c15 K) (ctabOk_cons (c16 K) ctabOk_nil)))) (by kernel_rfl) fun x => by kernel_rfl

-- loop.example/g00460/spec.l6Copy
def F40 (K : Nat) (x : Int × Int × Int × Int × Int × Int × Int × Int × Int × Int × Bool × Bool × (List UInt8) × Int × Int × (List UInt8) × Int × Bool × Int × (List UInt8) × (List UInt8) × (List Int) × Int) : Option (Int × Int × Int × Int × Int × Int × Int × Int × Int × Int × Bool × Bool × (List UInt8) × Int × Int × (List UInt8) × Int × Bool × Int × (List UInt8) × (List UInt8) × (List Int) × Int) :=
  guard (fitN (0 + x.2.2.2.2.2.2.2.2.2.2.2.2.2.2.2.2.2.2.2.2.2.1.length) 8) <|
  some (x.1, x.2.1, x.2.2.1, x.2.2.2.1, x.2.2.2.2.1, x.2.2.2.2.2.1, x.2.2.2.2.2.2.1, x.2.2.2.2.2.2.2.1, x.2.2.2.2.2.2.2.2.1, x.2.2.2.2.2.2.2.2.2.1, x.2.2.2.2.2.2.2.2.2.2.1, x.2.2.2.2.2.2.2.2.2.2.2.1, x.2.2.2.2.2.2.2.2.2.2.2.2.1, x.2.2.2.2.2.2.2.2.2.2.2.2.2.1, x.2.2.2.2.2.2.2.2.2.2.2.2.2.2.1, x.2.2.2.2.2.2.2.2.2.2.2.2.2.2.2.1, x.2.2.2.2.2.2.2.2.2.2.2.2.2.2.2.2.1, x.2.2.2.2.2.2.2.2.2.2.2.2.2.2.2.2.2.1, x.2.2.2.2.2.2.2.2.2.2.2.2.2.2.2.2.2.2.1, x.2.2.2.2.2.2.2.2.2.2.2.2.2.2.2.2.2.2.2.1, x.2.2.2.2.2.2.2.2.2.2.2.2.2.2.2.2.2.2.2.2.1, [] ++ x.2.2.2.2.2.2.2.2.2.2.2.2.2.2.2.2.2.2.2.2.2.1, x.2.2.2.2.2.2.2.2.2.2.2.2.2.2.2.2.2.2.2.2.2.2)
def ct40 (K : Nat) : Ct := ⟨[.agg [(.v (.i .i64)), (.v (.i .i64)), (.v (.i .i64)), (.v (.i .i64)), (.v (.i .i64)), (.v (.i .i64)), (.v (.i .i64)), (.v (.i .i64)), (.v (.i .i64)), (.v (.i .i64)), (.v .b), (.v .b), (.v .s), (.v (.i .i64)), (.v (.i .i64)), (.v .s), (.v (.i .i64)), (.v .b), (.v (.i .i64)), (.v .s), (.v .s), (.v (.l (.i .i64))), (.v (.i .i64))]], [], [.agg [(.v (.i .i64)), (.v (.i .i64)), (.v (.i .i64)), (.v (.i .i64)), (.v (.i .i64)), (.v (.i .i64)), (.v (.i .i64)), (.v (.i .i64)), (.v (.i .i64)), (.v (.i .i64)), (.v .b), (.v .b), (.v .s), (.v (.i .i64)), (.v (.i .i64)), (.v .s), (.v (.i .i64)), (.v .b), (.v (.i .i64)), (.v .s), (.v .s), (.v (.l (.i .i64))), (.v (.i .i64))]], [], [], F40 K⟩
theorem c40 (K : Nat) : CtOk prog 40 (ct40 K) :=
  con_mk (Y := Y) (L := []) (K := K) (an := (.seq .no (.seq .no .no))) func40 mixed ctabOk_nil (by kernel_rfl) fun x => by kernel_rfl

-- loop.example/g00460/spec.l5RamBank
def F92 (K : Nat) (x : (List UInt8) × Int × Int × (List UInt8) × Int × Bool × Int) : Option (Int) :=
  bindO (α := Bool × (List UInt8) × Int × Int × (List UInt8) × Int × Bool × Int) (branch (decide (x.2.1 = 1))
     (some (decide (x.2.2.2.2.2.2 = 0), x))
     (some (false, x))) fun v0 =>
  branch v0.1
   (some 0)
   (some v0.2.2.2.2.2.1)
def ct92 (K : Nat) : Ct := ⟨[.agg [(.v .s), (.v (.i .i64)), (.v (.i .i64)), (.v .s), (.v (.i .i64)), (.v .b), (.v (.i .i64))]], [], [.l (.v (.i .i64))], [], [], F92 K⟩
theorem c92 (K : Nat) : CtOk prog 92 (ct92 K) :=
  con_mk (Y := Y) (L := []) (K := K) (an := (.seq .no (.seq (.seqJ [(1000000, ⟨(ru 1 (.l (.ptr 2000 0 0) :: ru 8 (.l (.v .b) :: ru 2 []))), [(2000, ⟨7, false, .mix (some 27) [[.l (.v .s), .l (.v (.i .i64)), .l (.v (.i .i64)), .l (.v .s), .l (.v (.i .i64)), .l (.v .b), .l (.v (.i .i64))]]⟩)]⟩)] false .no (.cond .no .no)) .no))) func92 mixed ctabOk_nil (by kernel_rfl) fun x => by kernel_rfl

-- loop.example/g00460/spec.l5Read
def F85 (K : Nat) (x : (List UInt8) × Int × Int × (List UInt8) × Int × Bool × Int × Int) : Option (Int) :=
  bindO (F18 K (x.2.2.2.2.2.2.2, 0, 255)) fun v0 =>
  branch v0
   (nth x.1 x.2.2.2.2.2.2.2 fun v1 =>
   some (w64 (v1.toNat : Int)))
   (bindO (F18 K (x.2.2.2.2.2.2.2, 256, 511)) fun v2 =>
   branch v2
    (bindO (F35 K x.1) fun v3 =>
    guard (!(decide (v3 = 0))) <|
    nth x.1 (w64 ((w64 ((w64 ((Int.tmod x.2.2.1 v3) * 256)) + x.2.2.2.2.2.2.2)) - 256)) fun v4 =>
    some (w64 (v4.toNat : Int)))
    (bindO (α := Int × Bool × (List UInt8) × Int × Int × (List UInt8) × Int × Bool × Int) (branch x.2.2.2.2.2.1
       (bindO (F18 K (x.2.2.2.2.2.2.2, 40960, 41023)) fun v5 =>
       some (x.2.2.2.2.2.2.2, v5, x.1, x.2.1, x.2.2.1, x.2.2.2.1, x.2.2.2.2.1, x.2.2.2.2.2.1, x.2.2.2.2.2.2.1))
       (some (x.2.2.2.2.2.2.2, false, x.1, x.2.1, x.2.2.1, x.2.2.2.1, x.2.2.2.2.1, x.2.2.2.2.2.1, x.2.2.2.2.2.2.1))) fun v6 =>
    branch v6.2.1
     (bindO (F92 K v6.2.2) fun v7 =>
     nth v6.2.2.2.2.2.1 (w64 ((w64 ((w64 (v7 * 64)) + v6.1)) - 40960)) fun v8 =>
     some (w64 (v8.toNat : Int)))
     (some 255)))
def ct85 (K : Nat) : Ct := ⟨[.agg [(.v .s), (.v (.i .i64)), (.v (.i .i64)), (.v .s), (.v (.i .i64)), (.v .b), (.v (.i .i64))], .l (.v (.i .i64))], [], [.l (.v (.i .i64))], [], [], F85 K⟩
theorem c85 (K : Nat) : CtOk prog 85 (ct85 K) :=
  con_mk (Y := Y) (L := [(18, ct18 K), (35, ct35 K), (92, ct92 K)]) (K := K) (an := (.seq .no (.seq (.blk (.seq .no (.cond .no (.seq .no (.cond .no (.seqJ [(1000000, ⟨(ru 1 (.l (.v (.i .i64)) :: .l (.ptr 3000 0 0) :: ru 27 (.l (.v .b) :: ru 16 []))), [(3000, ⟨7, false, .mix (some 27) [[.l (.v .s), .l (.v (.i .i64)), .l (.v (.i .i64)), .l (.v .s), .l (.v (.i .i64)), .l (.v .b), .l (.v (.i .i64))]]⟩)]⟩)] false .no (.cond .no .no))))))) .no))) func85 mixed (ctabOk_cons (c18 K) (ctabOk_cons (c35 K) (ctabOk_cons (c92 K) ctabOk_nil))) (by kernel_rfl) fun x => by kernel_rfl

-- loop.example/g00460/spec.l6Read
def F59 (K : Nat) (x : Int × Int × Int × Int × Int × Int × Int × Int × Int × Int × Bool × Bool × (List UInt8) × Int × Int × (List UInt8) × Int × Bool × Int × (List UInt8) × (List UInt8) × (List Int) × Int × Int) : Option (Int) :=
  bindO (F18 K (x.2.2.2.2.2.2.2.2.2.2.2.2.2.2.2.2.2.2.2.2.2.2.2, 49152, 49407)) fun v0 =>
  branch v0
   (nth x.2.2.2.2.2.2.2.2.2.2.2.2.2.2.2.2.2.2.2.1 (w64 (x.2.2.2.2.2.2.2.2.2.2.2.2.2.2.2.2.2.2.2.2.2.2.2 - 49152)) fun v1 =>
   some (w64 (v1.toNat : Int)))
   (bindO (F18 K (x.2.2.2.2.2.2.2.2.2.2.2.2.2.2.2.2.2.2.2.2.2.2.2, 65408, 65534)) fun v2 =>
   branch v2
    (nth x.2.2.2.2.2.2.2.2.2.2.2.2.2.2.2.2.2.2.2.2.1 (w64 (x.2.2.2.2.2.2.2.2.2.2.2.2.2.2.2.2.2.2.2.2.2.2.2 - 65408)) fun v3 =>
    some (w64 (v3.toNat : Int)))
    (bindO (F85 K (x.2.2.2.2.2.2.2.2.2.2.2.2.1, x.2.2.2.2.2.2.2.2.2.2.2.2.2.1, x.2.2.2.2.2.2.2.2.2.2.2.2.2.2.1, x.2.2.2.2.2.2.2.2.2.2.2.2.2.2.2.1, x.2.2.2.2.2.2.2.2.2.2.2.2.2.2.2.2.1, x.2.2.2.2.2.2.2.2.2.2.2.2.2.2.2.2.2.1, x.2.2.2.2.2.2.2.2.2.2.2.2.2.2.2.2.2.2.1, x.2.2.2.2.2.2.2.2.2.2.2.2.2.2.2.2.2.2.2.2.2.2.2)) fun v4 =>
    some v4))
def ct59 (K : Nat) : Ct := ⟨[.agg [(.v (.i .i64)), (.v (.i .i64)), (.v (.i .i64)), (.v (.i .i64)), (.v (.i .i64)), (.v (.i .i64)), (.v (.i .i64)), (.v (.i .i64)), (.v (.i .i64)), (.v (.i .i64)), (.v .b), (.v .b), (.v .s), (.v (.i .i64)), (.v (.i .i64)), (.v .s), (.v (.i .i64)), (.v .b), (.v (.i .i64)), (.v .s), (.v .s), (.v (.l (.i .i64))), (.v (.i .i64))], .l (.v (.i .i64))], [], [.l (.v (.i .i64))], [], [], F59 K⟩
theorem c59 (K : Nat) : CtOk prog 59 (ct59 K) :=
  con_mk (Y := Y) (L := [(18, ct18 K), (85, ct85 K)]) (K := K) (an := (.seq .no (.seq (.blk (.seq .no (.cond .no (.seq .no (.cond .no .no))))) .no))) func59 mixed (ctabOk_cons (c18 K) (ctabOk_cons (c85 K) ctabOk_nil)) (by kernel_rfl) fun x => by kernel_rfl

-- loop.example/g00460/spec.l3At
def F86 (K : Nat) (x : (List UInt8) × Int) : Option (Int) :=
  nth x.1 x.2 fun v0 =>
  some (w64 (v0.toNat : Int))
def ct86 (K : Nat) : Ct := ⟨[.l (.v .s), .l (.v (.i .i64))], [], [.l (.v (.i .i64))], [], [], F86 K⟩
theorem c86 (K : Nat) : CtOk prog 86 (ct86 K) :=
  con_mk (Y := Y) (L := []) (K := K) (an := (.seq .no .no)) func86 mixed ctabOk_nil (by kernel_rfl) fun x => by kernel_rfl

-- loop.example/g00460/spec.ReadIns
def F60 (K : Nat) (x : (List UInt8) × Int) : Option (Int × Bool × Int × Int) :=
  bindO (α := (Int × Bool × Int × Int) ⊕ ((List UInt8) × Int × Int × Int × Bool × Int)) (bindO (α := (List UInt8) × Int × Int × Bool × Int × Bool × Int) (branch (decide (x.2 < 0))
       (some (x.1, x.2, w64 ((x.1.length : Int) - x.2), true, 0, false, 0))
       (some (x.1, x.2, w64 ((x.1.length : Int) - x.2), decide ((w64 ((x.1.length : Int) - x.2)) < 1), 0, false, 0))) fun v0 =>
    branch v0.2.2.2.1
     (some (.inl (0, false, 0, 0)))
     (some (.inr (v0.1, v0.2.1, v0.2.2.1, v0.2.2.2.2)))) fun v1 =>
  csO v1
   (fun v2 => some v2)
   (fun v3 => bindO (F86 K (v3.1, v3.2.1)) fun v4 =>
   branch (decide (v4 = 203))
    (branch (decide (v3.2.2.1 < 2))
     (some (0, false, 0, 0))
     (bindO (F86 K (v3.1, w64 (v3.2.1 + 1))) fun v5 =>
     some (v5, true, 0, 2)))
    (bindO (F45 K (v4, false)) fun v6 =>
    bindO (α := (Int × Bool × Int × Int) ⊕ ((List UInt8) × Int × Int × Int × Bool × Int × Int × Bool × Int)) (bindO (α := (List UInt8) × Int × Int × Bool × Int × Bool × Int × Int × Bool × Int) (branch (decide (v6 = 0))
         (some (v3.1, v3.2.1, v6, true, v4, false, 0, v3.2.2.2))
         (some (v3.1, v3.2.1, v6, decide (v3.2.2.1 < v6), v4, false, 0, v3.2.2.2))) fun v7 =>
      branch v7.2.2.2.1
       (some (.inl (0, false, 0, 0)))
       (some (.inr (v7.1, v7.2.1, v7.2.2.1, v7.2.2.2.2)))) fun v8 =>
    csO v8
     (fun v9 => some v9)
     (fun v10 => bindO (α := (List UInt8) × Int × Int × Int × Bool × Int × Int × Bool × Int) (branch (decide (1 < v10.2.2.1))
        (bindO (F86 K (v10.1, w64 (v10.2.1 + 1))) fun v11 =>
        some (v10.1, v10.2.1, v10.2.2.1, v10.2.2.2.1, v10.2.2.2.2.1, v11, v10.2.2.2.2.2.2))
        (some v10)) fun v12 =>
     branch (decide (2 < v12.2.2.1))
      (bindO (F86 K (v12.1, w64 (v12.2.1 + 2))) fun v13 =>
      some (v12.2.2.2.1, v12.2.2.2.2.1, w64 (v12.2.2.2.2.2.1 + (w64 (256 * v13))), v12.2.2.1))
      (some (v12.2.2.2.1, v12.2.2.2.2.1, v12.2.2.2.2.2.1, v12.2.2.1)))))
def ct60 (K : Nat) : Ct := ⟨[.l (.v .s), .l (.v (.i .i64))], [], [.agg [(.v (.i .i64)), (.v .b), (.v (.i .i64))], .l (.v (.i .i64))], [], [], F60 K⟩
theorem c60 (K : Nat) : CtOk prog 60 (ct60 K) :=
  con_mk (Y := Y) (L := [(45, ct45 K), (86, ct86 K)]) (K := K) (an := (.seq .no (.seq .no (.seqJ [(1000000, ⟨(.l (.v .s) :: .l (.v (.i .i64)) :: ru 2 (.l (.ptr 5000 0 0) :: ru 1 (.l (.v (.i .i64)) :: ru 59 []))), [(5000, ⟨3, false, .mix (some 60) [[.l (.v (.i .i64)), .l (.v .b), .l (.v (.i .i64))]]⟩)]⟩)] true (.seqJ [(1000000, ⟨(.l (.v .s) :: .l (.v (.i .i64)) :: ru 2 (.l (.ptr 5000 0 0) :: ru 1 (.l (.v (.i .i64)) :: ru 11 (.l (.v .b) :: ru 47 [])))), [(5000, ⟨3, false, .mix (some 60) [[.l (.v (.i .i64)), .l (.v .b), .l (.v (.i .i64))]]⟩)]⟩)] false .no (.cond .no .no)) (.seq .no (.seq (.seq .no (.cond (.seq (.seq .no (.cond .no .no)) .no) .no)) (.seq .no (.seqJ [(1000000, ⟨(.l (.v .s) :: .l (.v (.i .i64)) :: ru 2 (.l (.ptr 5000 0 0) :: ru 2 (.l (.ptr 8000 0 0) :: .l (.v (.i .i64)) :: ru 57 []))), [(8000, ⟨3, false, .mix (some 60) [[.l (.v (.i .i64)), .l (.v .b), .l (.v (.i .i64))]]⟩), (5000, ⟨3, false, .mix (some 60) [[.l (.v (.i .i64)), .l (.v .b), .l (.v (.i .i64))]]⟩)]⟩)] true (.seqJ [(1000000, ⟨(.l (.v .s) :: .l (.v (.i .i64)) :: ru 2 (.l (.ptr 5000 0 0) :: ru 2 (.l (.ptr 8000 0 0) :: .l (.v (.i .i64)) :: ru 35 (.l (.v .b) :: ru 21 [])))), [(8000, ⟨3, false, .mix (some 60) [[.l (.v (.i .i64)), .l (.v .b), .l (.v (.i .i64))]]⟩), (5000, ⟨3, false, .mix (some 60) [[.l (.v (.i .i64)), .l (.v .b), .l (.v (.i .i64))]]⟩)]⟩)] false .no (.cond .no .no)) (.seqJ [(1000000, ⟨(.l (.v .s) :: .l (.v (.i .i64)) :: ru 2 (.l (.ptr 5000 0 0) :: ru 2 (.l (.ptr 8000 0 0) :: .l (.v (.i .i64)) :: ru 57 []))), [(8000, ⟨3, false, .mix (some 60) [[.l (.v (.i .i64)), .l (.v .b), .l (.v (.i .i64))]]⟩), (5000, ⟨3, false, .mix (some 60) [[.l (.v (.i .i64)), .l (.v .b), .l (.v (.i .i64))]]⟩)]⟩)] false (.seq .no .no) (.seq (.seq .no .no) .no)))))))))) func60 mixed (ctabOk_cons (c45 K) (ctabOk_cons (c86 K) ctabOk_nil)) (by kernel_rfl) fun x => by kernel_rfl

-- loop.example/g00460/spec.l6Fetch
def F47_b0 (K : Nat) (x : Int × (List Int) × Int × Bool × Int × Int × Int × Int × Int × Int × Int × Int × Int × Int × Int × Bool × Bool × (List UInt8) × Int × Int × (List UInt8) × Int × Bool × Int × (List UInt8) × (List UInt8) × (List Int) × Int) : Option ((Int × (List Int) × Int × Bool × Int × Int × Int × Int × Int × Int × Int × Int × Int × Int × Int × Bool × Bool × (List UInt8) × Int × Int × (List UInt8) × Int × Bool × Int × (List UInt8) × (List UInt8) × (List Int) × Int) ⊕ ((List Int) × Int × Bool × Int)) :=
  branch (decide (x.1 < 3))
   (bindO (F59 K (x.2.2.2.2.2.1, x.2.2.2.2.2.2.1, x.2.2.2.2.2.2.2.1, x.2.2.2.2.2.2.2.2.1, x.2.2.2.2.2.2.2.2.2.1, x.2.2.2.2.2.2.2.2.2.2.1, x.2.2.2.2.2.2.2.2.2.2.2.1, x.2.2.2.2.2.2.2.2.2.2.2.2.1, x.2.2.2.2.2.2.2.2.2.2.2.2.2.1, x.2.2.2.2.2.2.2.2.2.2.2.2.2.2.1, x.2.2.2.2.2.2.2.2.2.2.2.2.2.2.2.1, x.2.2.2.2.2.2.2.2.2.2.2.2.2.2.2.2.1, x.2.2.2.2.2.2.2.2.2.2.2.2.2.2.2.2.2.1, x.2.2.2.2.2.2.2.2.2.2.2.2.2.2.2.2.2.2.1, x.2.2.2.2.2.2.2.2.2.2.2.2.2.2.2.2.2.2.2.1, x.2.2.2.2.2.2.2.2.2.2.2.2.2.2.2.2.2.2.2.2.1, x.2.2.2.2.2.2.2.2.2.2.2.2.2.2.2.2.2.2.2.2.2.1, x.2.2.2.2.2.2.2.2.2.2.2.2.2.2.2.2.2.2.2.2.2.2.1, x.2.2.2.2.2.2.2.2.2.2.2.2.2.2.2.2.2.2.2.2.2.2.2.1, x.2.2.2.2.2.2.2.2.2.2.2.2.2.2.2.2.2.2.2.2.2.2.2.2.1, x.2.2.2.2.2.2.2.2.2.2.2.2.2.2.2.2.2.2.2.2.2.2.2.2.2.1, x.2.2.2.2.2.2.2.2.2.2.2.2.2.2.2.2.2.2.2.2.2.2.2.2.2.2.1, x.2.2.2.2.2.2.2.2.2.2.2.2.2.2.2.2.2.2.2.2.2.2.2.2.2.2.2, Int.tmod (w64 (x.2.2.2.2.2.2.2.2.2.2.2.2.2.2.1 + x.1)) 65536)) fun v0 =>
   guard (fitN (x.2.1.length + ([w8 v0].length)) 1) <|
   some (.inl (w64 (x.1 + 1), x.2.1 ++ [w8 v0], x.2.2)))
   (some (.inr (x.2.1, x.2.2.1, x.2.2.2.1, x.2.2.2.2.1)))
def F47 (K : Nat) (x : Int × Int × Int × Int × Int × Int × Int × Int × Int × Int × Bool × Bool × (List UInt8) × Int × Int × (List UInt8) × Int × Bool × Int × (List UInt8) × (List UInt8) × (List Int) × Int) : Option (Int × Bool × Int × Int) :=
  bindO (iter K (F47_b0 K) (0, [], 0, false, 0, x)) fun v0 =>
  bindO (F60 K (toB v0.1, 0)) fun v1 =>
  some v1
def ct47 (K : Nat) : Ct := ⟨[.agg [(.v (.i .i64)), (.v (.i .i64)), (.v (.i .i64)), (.v (.i .i64)), (.v (.i .i64)), (.v (.i .i64)), (.v (.i .i64)), (.v (.i .i64)), (.v (.i .i64)), (.v (.i .i64)), (.v .b), (.v .b), (.v .s), (.v (.i .i64)), (.v (.i .i64)), (.v .s), (.v (.i .i64)), (.v .b), (.v (.i .i64)), (.v .s), (.v .s), (.v (.l (.i .i64))), (.v (.i .i64))]], [], [.agg [(.v (.i .i64)), (.v .b), (.v (.i .i64))], .l (.v (.i .i64))], [], [], F47 K⟩
theorem c47 (K : Nat) : CtOk prog 47 (ct47 K) :=
  con_mk (Y := Y) (L := [(59, ct59 K), (60, ct60 K)]) (K := K) (an := (.seq .no (.seq .no (.seq (.seq .no (.blk (.loop [] ⟨(ru 1 (.l (.ptr 2000 0 0) :: .l (.ptr 3000 0 0) :: ru 1 (.l (.all 7000) :: .l (.v (.i .i64)) :: ru 22 []))), [(7000, ⟨1, true, .row (.i .u8)⟩), (3000, ⟨3, false, .mix (some 60) [[.l (.v (.i .i64)), .l (.v .b), .l (.v (.i .i64))]]⟩), (2000, ⟨23, false, .mix (some 30) [[.l (.v (.i .i64)), .l (.v (.i .i64)), .l (.v (.i .i64)), .l (.v (.i .i64)), .l (.v (.i .i64)), .l (.v (.i .i64)), .l (.v (.i .i64)), .l (.v (.i .i64)), .l (.v (.i .i64)), .l (.v (.i .i64)), .l (.v .b), .l (.v .b), .l (.v .s), .l (.v (.i .i64)), .l (.v (.i .i64)), .l (.v .s), .l (.v (.i .i64)), .l (.v .b), .l (.v (.i .i64)), .l (.v .s), .l (.v .s), .l (.v (.l (.i .i64))), .l (.v (.i .i64))]]⟩)]⟩ [(0, ⟨(ru 2 (.l (.ptr 3000 0 0) :: ru 1 (.l (.all 7000) :: ru 23 []))), [(7000, ⟨1, true, .row (.i .u8)⟩), (3000, ⟨3, false, .mix (some 60) [[.l (.v (.i .i64)), .l (.v .b), .l (.v (.i .i64))]]⟩)]⟩)] false (.seq (.seq .no .no) (.seq .no .no))))) .no)))) func47 mixed (ctabOk_cons (c59 K) (ctabOk_cons (c60 K) ctabOk_nil)) (by kernel_rfl) fun x => by kernel_rfl

-- (*loop.example/g00460/spec.l6W).hl
def F69 (K : Nat) (x : Int × Int × Int × Int × Int × Int × Int × Int × Int × Int × Bool × Bool × (List UInt8) × Int × Int × (List UInt8) × Int × Bool × Int × (List UInt8) × (List UInt8) × (List Int) × Int × Bool) : Option (Int × Int × Int × Int × Int × Int × Int × Int × Int × Int × Int × Bool × Bool × (List UInt8) × Int × Int × (List UInt8) × Int × Bool × Int × (List UInt8) × (List UInt8) × (List Int) × Int × Bool) :=
  some (w64 ((w64 (256 * x.2.2.2.2.2.2.1)) + x.2.2.2.2.2.2.2.1), x)
def ct69 (K : Nat) : Ct := ⟨[.l (.ptr 0 0 0)], [⟨24, false, .mix (some 74) [[.l (.v (.i .i64)), .l (.v (.i .i64)), .l (.v (.i .i64)), .l (.v (.i .i64)), .l (.v (.i .i64)), .l (.v (.i .i64)), .l (.v (.i .i64)), .l (.v (.i .i64)), .l (.v (.i .i64)), .l (.v (.i .i64)), .l (.v .b), .l (.v .b), .l (.v .s), .l (.v (.i .i64)), .l (.v (.i .i64)), .l (.v .s), .l (.v (.i .i64)), .l (.v .b), .l (.v (.i .i64)), .l (.v .s), .l (.v .s), .l (.v (.l (.i .i64))), .l (.v (.i .i64)), .l (.v .b)]]⟩], [.l (.v (.i .i64))], [⟨24, false, .mix (some 74) [[.l (.v (.i .i64)), .l (.v (.i .i64)), .l (.v (.i .i64)), .l (.v (.i .i64)), .l (.v (.i .i64)), .l (.v (.i .i64)), .l (.v (.i .i64)), .l (.v (.i .i64)), .l (.v (.i .i64)), .l (.v (.i .i64)), .l (.v .b), .l (.v .b), .l (.v .s), .l (.v (.i .i64)), .l (.v (.i .i64)), .l (.v .s), .l (.v (.i .i64)), .l (.v .b), .l (.v (.i .i64)), .l (.v .s), .l (.v .s), .l (.v (.l (.i .i64))), .l (.v (.i .i64)), .l (.v .b)]]⟩], [], F69 K⟩
theorem c69 (K : Nat) : CtOk prog 69 (ct69 K) :=
  con_mk (Y := Y) (L := []) (K := K) (an := (.seq .no .no)) func69 mixed ctabOk_nil (by kernel_rfl) fun x => by kernel_rfl

def ct69k (K : Nat) : Ct := ⟨[.l (.ptr 0 0 0)], [⟨24, false, .mix (some 74) [[.l (.v (.i .i64)), .l (.v (.i .i64)), .l (.v (.i .i64)), .l (.v (.i .i64)), .l (.v (.i .i64)), .l (.v (.i .i64)), .l (.v (.i .i64)), .l (.v (.i .i64)), .l (.v (.i .i64)), .l (.v (.i .i64)), .l (.v .b), .l (.v .b), .l (.v .s), .l (.v (.i .i64)), .l (.v (.i .i64)), .l (.v .s), .l (.v (.i .i64)), .l (.v .b), .l (.v (.i .i64)), .l (.v .s), .l (.v .s), .l (.v (.l (.i .i64))), .l (.v (.i .i64)), .l (.v .b)]]⟩], [.l (.v (.i .i64))], [⟨24, false, .mix (some 74) [[.l (.v (.i .i64)), .l (.v (.i .i64)), .l (.v (.i .i64)), .l (.v (.i .i64)), .l (.v (.i .i64)), .l (.v (.i .i64)), .l (.v (.i .i64)), .l (.v (.i .i64)), .l (.v (.i .i64)), .l (.v (.i .i64)), .l (.v .b), .l (.v .b), .l (.v .s), .l (.v (.i .i64)), .l (.v (.i .i64)), .l (.v .s), .l (.v (.i .i64)), .l (.v .b), .l (.v (.i .i64)), .l (.v .s), .l (.v .s), .l (.v (.l (.i .i64))), .l (.v (.i .i64)), .l (.v .b)]]⟩], keepRefs, F69 K⟩
theorem keep69 (K : Nat) (x : Int × Int × Int × Int × Int × Int × Int × Int × Int × Int × Bool × Bool × (List UInt8) × Int × Int × (List UInt8) × Int × Bool × Int × (List UInt8) × (List UInt8) × (List Int) × Int × Bool) (y : Int × Int × Int × Int × Int × Int × Int × Int × Int × Int × Int × Bool × Bool × (List UInt8) × Int × Int × (List UInt8) × Int × Bool × Int × (List UInt8) × (List UInt8) × (List Int) × Int × Bool) (h : F69 K x = some y) : y.2 = x := by
  unfold F69 at h
  cases h; rfl
theorem c69k (K : Nat) : CtKeep prog 69 (ct69k K) := ct_keep3 (Eq.mpr (by kernel_rfl : CtOk prog 69 (ct69k K) = CtOk prog 69 (ct69 K)) (c69 K)) (by kernel_rfl) (Eq.mpr (by kernel_rfl : KeepsF [.l (.ptr 0 0 0)] [⟨24, false, .mix (some 74) [[.l (.v (.i .i64)), .l (.v (.i .i64)), .l (.v (.i .i64)), .l (.v (.i .i64)), .l (.v (.i .i64)), .l (.v (.i .i64)), .l (.v (.i .i64)), .l (.v (.i .i64)), .l (.v (.i .i64)), .l (.v (.i .i64)), .l (.v .b), .l (.v .b), .l (.v .s), .l (.v (.i .i64)), .l (.v (.i .i64)), .l (.v .s), .l (.v (.i .i64)), .l (.v .b), .l (.v (.i .i64)), .l (.v .s), .l (.v .s), .l (.v (.l (.i .i64))), .l (.v (.i .i64)), .l (.v .b)]]⟩] [.l (.v (.i .i64))] (F69 K) = ∀ (x : Int × Int × Int × Int × Int × Int × Int × Int × Int × Int × Bool × Bool × (List UInt8) × Int × Int × (List UInt8) × Int × Bool × Int × (List UInt8) × (List UInt8) × (List Int) × Int × Bool) (y : Int × Int × Int × Int × Int × Int × Int × Int × Int × Int × Int × Bool × Bool × (List UInt8) × Int × Int × (List UInt8) × Int × Bool × Int × (List UInt8) × (List UInt8) × (List Int) × Int × Bool), F69 K x = some y → y.2 = x) (keep69 K))

-- (*loop.example/g00460/spec.l6W).reg
def F51 (K : Nat) (x : Int × Int × Int × Int × Int × Int × Int × Int × Int × Int × Int × Bool × Bool × (List UInt8) × Int × Int × (List UInt8) × Int × Bool × Int × (List UInt8) × (List UInt8) × (List Int) × Int × Bool) : Option (Int × Int × Int × Int × Int × Int × Int × Int × Int × Int × Int × Bool × Bool × (List UInt8) × Int × Int × (List UInt8) × Int × Bool × Int × (List UInt8) × (List UInt8) × (List Int) × Int × Bool) :=
  branch (decide (x.1 = 6))
   (bindO (F69 K x.2) fun v0 =>
   bindO (F59 K (x.2.1, x.2.2.1, x.2.2.2.1, x.2.2.2.2.1, x.2.2.2.2.2.1, x.2.2.2.2.2.2.1, x.2.2.2.2.2.2.2.1, x.2.2.2.2.2.2.2.2.1, x.2.2.2.2.2.2.2.2.2.1, x.2.2.2.2.2.2.2.2.2.2.1, x.2.2.2.2.2.2.2.2.2.2.2.1, x.2.2.2.2.2.2.2.2.2.2.2.2.1, x.2.2.2.2.2.2.2.2.2.2.2.2.2.1, x.2.2.2.2.2.2.2.2.2.2.2.2.2.2.1, x.2.2.2.2.2.2.2.2.2.2.2.2.2.2.2.1, x.2.2.2.2.2.2.2.2.2.2.2.2.2.2.2.2.1, x.2.2.2.2.2.2.2.2.2.2.2.2.2.2.2.2.2.1, x.2.2.2.2.2.2.2.2.2.2.2.2.2.2.2.2.2.2.1, x.2.2.2.2.2.2.2.2.2.2.2.2.2.2.2.2.2.2.2.1, x.2.2.2.2.2.2.2.2.2.2.2.2.2.2.2.2.2.2.2.2.1, x.2.2.2.2.2.2.2.2.2.2.2.2.2.2.2.2.2.2.2.2.2.1, x.2.2.2.2.2.2.2.2.2.2.2.2.2.2.2.2.2.2.2.2.2.2.1, x.2.2.2.2.2.2.2.2.2.2.2.2.2.2.2.2.2.2.2.2.2.2.2.1, v0.1)) fun v1 =>
   some (v1, x.2))
   (guard (decide (0 ≤ x.1 ∧ x.1 < ([x.2.2.2.1, x.2.2.2.2.1, x.2.2.2.2.2.1, x.2.2.2.2.2.2.1, x.2.2.2.2.2.2.2.1, x.2.2.2.2.2.2.2.2.1, 0, x.2.1].length : Int))) <|
   nthN [x.2.2.2.1, x.2.2.2.2.1, x.2.2.2.2.2.1, x.2.2.2.2.2.2.1, x.2.2.2.2.2.2.2.1, x.2.2.2.2.2.2.2.2.1, 0, x.2.1] x.1.toNat fun v2 =>
   some (v2, x.2))
def ct51 (K : Nat) : Ct := ⟨[.l (.ptr 0 0 0), .l (.v (.i .i64))], [⟨24, false, .mix (some 74) [[.l (.v (.i .i64)), .l (.v (.i .i64)), .l (.v (.i .i64)), .l (.v (.i .i64)), .l (.v (.i .i64)), .l (.v (.i .i64)), .l (.v (.i .i64)), .l (.v (.i .i64)), .l (.v (.i .i64)), .l (.v (.i .i64)), .l (.v .b), .l (.v .b), .l (.v .s), .l (.v (.i .i64)), .l (.v (.i .i64)), .l (.v .s), .l (.v (.i .i64)), .l (.v .b), .l (.v (.i .i64)), .l (.v .s), .l (.v .s), .l (.v (.l (.i .i64))), .l (.v (.i .i64)), .l (.v .b)]]⟩], [.l (.v (.i .i64))], [⟨24, false, .mix (some 74) [[.l (.v (.i .i64)), .l (.v (.i .i64)), .l (.v (.i .i64)), .l (.v (.i .i64)), .l (.v (.i .i64)), .l (.v (.i .i64)), .l (.v (.i .i64)), .l (.v (.i .i64)), .l (.v (.i .i64)), .l (.v (.i .i64)), .l (.v .b), .l (.v .b), .l (.v .s), .l (.v (.i .i64)), .l (.v (.i .i64)), .l (.v .s), .l (.v (.i .i64)), .l (.v .b), .l (.v (.i .i64)), .l (.v .s), .l (.v .s), .l (.v (.l (.i .i64))), .l (.v (.i .i64)), .l (.v .b)]]⟩], [], F51 K⟩
theorem c51 (K : Nat) : CtOk prog 51 (ct51 K) :=
  con_mk (Y := Y) (L := [(59, ct59 K), (69, ct69k K)]) (K := K) (an := (.seq .no (.seq .no (.seq (.seq .no (.cond .no .no)) .no)))) func51 mixed (ctabOk_cons (c59 K) (ctabOk_keep (c69k K) ctabOk_nil)) (by kernel_rfl) fun x => by kernel_rfl

def ct51k (K : Nat) : Ct := ⟨[.l (.ptr 0 0 0), .l (.v (.i .i64))], [⟨24, false, .mix (some 74) [[.l (.v (.i .i64)), .l (.v (.i .i64)), .l (.v (.i .i64)), .l (.v (.i .i64)), .l (.v (.i .i64)), .l (.v (.i .i64)), .l (.v (.i .i64)), .l (.v (.i .i64)), .l (.v (.i .i64)), .l (.v (.i .i64)), .l (.v .b), .l (.v .b), .l (.v .s), .l (.v (.i .i64)), .l (.v (.i .i64)), .l (.v .s), .l (.v (.i .i64)), .l (.v .b), .l (.v (.i .i64)), .l (.v .s), .l (.v .s), .l (.v (.l (.i .i64))), .l (.v (.i .i64)), .l (.v .b)]]⟩], [.l (.v (.i .i64))], [⟨24, false, .mix (some 74) [[.l (.v (.i .i64)), .l (.v (.i .i64)), .l (.v (.i .i64)), .l (.v (.i .i64)), .l (.v (.i .i64)), .l (.v (.i .i64)), .l (.v (.i .i64)), .l (.v (.i .i64)), .l (.v (.i .i64)), .l (.v (.i .i64)), .l (.v .b), .l (.v .b), .l (.v .s), .l (.v (.i .i64)), .l (.v (.i .i64)), .l (.v .s), .l (.v (.i .i64)), .l (.v .b), .l (.v (.i .i64)), .l (.v .s), .l (.v .s), .l (.v (.l (.i .i64))), .l (.v (.i .i64)), .l (.v .b)]]⟩], keepRefs, F51 K⟩
theorem keep51 (K : Nat) (x : Int × Int × Int × Int × Int × Int × Int × Int × Int × Int × Int × Bool × Bool × (List UInt8) × Int × Int × (List UInt8) × Int × Bool × Int × (List UInt8) × (List UInt8) × (List Int) × Int × Bool) (y : Int × Int × Int × Int × Int × Int × Int × Int × Int × Int × Int × Bool × Bool × (List UInt8) × Int × Int × (List UInt8) × Int × Bool × Int × (List UInt8) × (List UInt8) × (List Int) × Int × Bool) (h : F51 K x = some y) : y.2 = x.2 := by
  unfold F51 at h
  rcases branch_some h with ⟨_, h⟩ | ⟨_, h⟩
  ·
    obtain ⟨_, hb, h⟩ := bindO_some h
    obtain ⟨_, hb, h⟩ := bindO_some h
    cases h; rfl
  ·
    replace h := (guard_some h).2
    obtain ⟨_, _, h⟩ := nthN_some h
    cases h; rfl
theorem c51k (K : Nat) : CtKeep prog 51 (ct51k K) := ct_keep3 (Eq.mpr (by kernel_rfl : CtOk prog 51 (ct51k K) = CtOk prog 51 (ct51 K)) (c51 K)) (by kernel_rfl) (Eq.mpr (by kernel_rfl : KeepsF [.l (.ptr 0 0 0), .l (.v (.i .i64))] [⟨24, false, .mix (some 74) [[.l (.v (.i .i64)), .l (.v (.i .i64)), .l (.v (.i .i64)), .l (.v (.i .i64)), .l (.v (.i .i64)), .l (.v (.i .i64)), .l (.v (.i .i64)), .l (.v (.i .i64)), .l (.v (.i .i64)), .l (.v (.i .i64)), .l (.v .b), .l (.v .b), .l (.v .s), .l (.v (.i .i64)), .l (.v (.i .i64)), .l (.v .s), .l (.v (.i .i64)), .l (.v .b), .l (.v (.i .i64)), .l (.v .s), .l (.v .s), .l (.v (.l (.i .i64))), .l (.v (.i .i64)), .l (.v .b)]]⟩] [.l (.v (.i .i64))] (F51 K) = ∀ (x : Int × Int × Int × Int × Int × Int × Int × Int × Int × Int × Int × Bool × Bool × (List UInt8) × Int × Int × (List UInt8) × Int × Bool × Int × (List UInt8) × (List UInt8) × (List Int) × Int × Bool) (y : Int × Int × Int × Int × Int × Int × Int × Int × Int × Int × Int × Bool × Bool × (List UInt8) × Int × Int × (List UInt8) × Int × Bool × Int × (List UInt8) × (List UInt8) × (List Int) × Int × Bool), F51 K x = some y → y.2 = x.2) (keep51 K))

-- loop.example/g00460/spec.l4Carry
def F63 (K : Nat) (x : Int) : Option (Int) :=
  some (Int.tmod (w64 (Int.tdiv x 16)) 2)
def ct63 (K : Nat) : Ct := ⟨[.l (.v (.i .i64))], [], [.l (.v (.i .i64))], [], [], F63 K⟩
theorem c63 (K : Nat) : CtOk prog 63 (ct63 K) :=
  con_mk (Y := Y) (L := []) (K := K) (an := (.seq .no .no)) func63 mixed ctabOk_nil (by kernel_rfl) fun x => by kernel_rfl

-- loop.example/g00460/spec.l3One
def F77 (K : Nat) (x : Bool) : Option (Int) :=
  branch x
   (some 1)
   (some 0)
def ct77 (K : Nat) : Ct := ⟨[.l (.v .b)], [], [.l (.v (.i .i64))], [], [], F77 K⟩
theorem c77 (K : Nat) : CtOk prog 77 (ct77 K) :=
  con_mk (Y := Y) (L := []) (K := K) (an := (.seq .no (.seq (.seq .no (.cond .no .no)) .no))) func77 mixed ctabOk_nil (by kernel_rfl) fun x => by kernel_rfl

-- loop.example/g00460/spec.l4Flags
def F62 (K : Nat) (x : Bool × Bool × Bool × Bool) : Option (Int) :=
  bindO (F77 K x.1) fun v0 =>
  bindO (F77 K x.2.1) fun v1 =>
  bindO (F77 K x.2.2.1) fun v2 =>
  bindO (F77 K x.2.2.2) fun v3 =>
  some (w64 ((w64 ((w64 ((w64 (128 * v0)) + (w64 (64 * v1)))) + (w64 (32 * v2)))) + (w64 (16 * v3))))
def ct62 (K : Nat) : Ct := ⟨[.l (.v .b), .l (.v .b), .l (.v .b), .l (.v .b)], [], [.l (.v (.i .i64))], [], [], F62 K⟩
theorem c62 (K : Nat) : CtOk prog 62 (ct62 K) :=
  con_mk (Y := Y) (L := [(77, ct77 K)]) (K := K) (an := (.seq .no .no)) func62 mixed (ctabOk_cons (c77 K) ctabOk_nil) (by kernel_rfl) fun x => by kernel_rfl

-- loop.example/g00460/spec.l4Turned
def F61 (K : Nat) (x : Int × Int × Int) : Option (Int × Int) :=
  bindO (α := Int × Int) (branch (decide (x.1 = 0))
     (some (w64 ((Int.tmod (w64 (2 * x.2.1)) 256) + (w64 (Int.tdiv x.2.1 128))), w64 (Int.tdiv x.2.1 128)))
     (branch (decide (x.1 = 1))
      (some (w64 ((w64 (Int.tdiv x.2.1 2)) + (w64 (128 * (Int.tmod x.2.1 2)))), Int.tmod x.2.1 2))
      (branch (decide (x.1 = 2))
       (bindO (F63 K x.2.2) fun v0 =>
       some (w64 ((Int.tmod (w64 (2 * x.2.1)) 256) + v0), w64 (Int.tdiv x.2.1 128)))
       (branch (decide (x.1 = 3))
        (bindO (F63 K x.2.2) fun v1 =>
        some (w64 ((w64 (Int.tdiv x.2.1 2)) + (w64 (128 * v1))), Int.tmod x.2.1 2))
        (branch (decide (x.1 = 4))
         (some (Int.tmod (w64 (2 * x.2.1)) 256, w64 (Int.tdiv x.2.1 128)))
         (branch (decide (x.1 = 5))
          (some (w64 ((w64 (Int.tdiv x.2.1 2)) + (w64 ((w64 (Int.tdiv x.2.1 128)) * 128))), Int.tmod x.2.1 2))
          (branch (decide (x.1 = 6))
           (some (w64 ((w64 ((Int.tmod x.2.1 16) * 16)) + (w64 (Int.tdiv x.2.1 16))), 0))
           (some (w64 (Int.tdiv x.2.1 2), Int.tmod x.2.1 2))))))))) fun v2 =>
  bindO (F62 K (decide (v2.1 = 0), false, false, decide (v2.2 = 1))) fun v3 =>
  some (v2.1, v3)
def ct61 (K : Nat) : Ct := ⟨[.l (.v (.i .i64)), .l (.v (.i .i64)), .l (.v (.i .i64))], [], [.l (.v (.i .i64)), .l (.v (.i .i64))], [], [], F61 K⟩
theorem c61 (K : Nat) : CtOk prog 61 (ct61 K) :=
  con_mk (Y := Y) (L := [(63, ct63 K), (62, ct62 K)]) (K := K) (an := (.seq .no (.seq .no (.seq .no (.seqJ [(1000000, ⟨(ru 8 (.l (.v (.i .i64)) :: .l (.v (.i .i64)) :: ru 70 [])), []⟩)] false (.seq .no (.blk (.seq .no (.cond .no (.seq .no (.cond .no (.seq .no (.cond .no (.seq .no (.cond .no (.seq .no (.cond .no (.seq .no (.cond .no (.seq .no (.cond .no .no)))))))))))))))) .no))))) func61 mixed (ctabOk_cons (c63 K) (ctabOk_cons (c62 K) ctabOk_nil)) (by kernel_rfl) fun x => by kernel_rfl

-- loop.example/g00460/spec.l5Put
def F93 (K : Nat) (x : (List UInt8) × Int × Int) : Option (List UInt8) :=
  guard (decide (0 ≤ x.2.1 ∧ x.2.1 < ((ofB x.1).length : Int))) <|
  nthN (ofB x.1) x.2.1.toNat fun v0 =>
  some (toB (List.set (ofB x.1) x.2.1.toNat (w8 x.2.2)))
def ct93 (K : Nat) : Ct := ⟨[.l (.v .s), .l (.v (.i .i64)), .l (.v (.i .i64))], [], [.l (.v .s)], [], [], F93 K⟩
theorem c93 (K : Nat) : CtOk prog 93 (ct93 K) :=
  con_mk (Y := Y) (L := []) (K := K) (an := (.seq .no (.seq .no (.seq .no .no)))) func93 mixed ctabOk_nil (by kernel_rfl) fun x => by kernel_rfl

-- loop.example/g00460/spec.l5Write
def F94 (K : Nat) (x : (List UInt8) × Int × Int × (List UInt8) × Int × Bool × Int × Int × Int) : Option ((List UInt8) × Int × Int × (List UInt8) × Int × Bool × Int) :=
  branch (decide (x.2.1 = 0))
   (some (x.1, x.2.1, x.2.2.1, x.2.2.2.1, x.2.2.2.2.1, x.2.2.2.2.2.1, x.2.2.2.2.2.2.1))
   (branch (decide (x.2.2.2.2.2.2.2.1 < 128))
    (some (x.1, x.2.1, x.2.2.1, x.2.2.2.1, x.2.2.2.2.1, decide ((Int.tmod x.2.2.2.2.2.2.2.2 16) = 10), x.2.2.2.2.2.2.1))
    (bindO (α := Int × Int × Bool × (List UInt8) × Int × Int × (List UInt8) × Int × Bool × Int × (List UInt8) × Int × Int × (List UInt8) × Int × Bool × Int) (branch (decide (x.2.2.2.2.2.2.2.1 < 256))
       (some (x.2.2.2.2.2.2.2.1, x.2.2.2.2.2.2.2.2, decide (x.2.1 = 2), [], 0, 0, [], 0, false, 0, x.1, x.2.1, x.2.2.1, x.2.2.2.1, x.2.2.2.2.1, x.2.2.2.2.2.1, x.2.2.2.2.2.2.1))
       (some (x.2.2.2.2.2.2.2.1, x.2.2.2.2.2.2.2.2, false, [], 0, 0, [], 0, false, 0, x.1, x.2.1, x.2.2.1, x.2.2.2.1, x.2.2.2.2.1, x.2.2.2.2.2.1, x.2.2.2.2.2.2.1))) fun v0 =>
    branch v0.2.2.1
     (some (v0.2.2.2.2.2.2.2.2.2.2.1, v0.2.2.2.2.2.2.2.2.2.2.2.1, v0.2.1, v0.2.2.2.2.2.2.2.2.2.2.2.2.2))
     (branch (decide (v0.1 < 256))
      (some (v0.2.2.2.2.2.2.2.2.2.2.1, v0.2.2.2.2.2.2.2.2.2.2.2.1, mxI 1 (Int.tmod v0.2.1 32), v0.2.2.2.2.2.2.2.2.2.2.2.2.2))
      (branch (decide (v0.1 < 384))
       (some (v0.2.2.2.2.2.2.2.2.2.2.1, v0.2.2.2.2.2.2.2.2.2.2.2.1, v0.2.2.2.2.2.2.2.2.2.2.2.2.1, v0.2.2.2.2.2.2.2.2.2.2.2.2.2.1, Int.tmod v0.2.1 4, v0.2.2.2.2.2.2.2.2.2.2.2.2.2.2.2))
       (branch (decide (v0.1 < 512))
        (branch (decide (v0.2.2.2.2.2.2.2.2.2.2.2.1 = 1))
         (some (v0.2.2.2.2.2.2.2.2.2.2.1, v0.2.2.2.2.2.2.2.2.2.2.2.1, v0.2.2.2.2.2.2.2.2.2.2.2.2.1, v0.2.2.2.2.2.2.2.2.2.2.2.2.2.1, v0.2.2.2.2.2.2.2.2.2.2.2.2.2.2.1, v0.2.2.2.2.2.2.2.2.2.2.2.2.2.2.2.1, Int.tmod v0.2.1 2))
         (some v0.2.2.2.2.2.2.2.2.2.2))
        (bindO (α := Int × Int × Bool × (List UInt8) × Int × Int × (List UInt8) × Int × Bool × Int × (List UInt8) × Int × Int × (List UInt8) × Int × Bool × Int) (branch v0.2.2.2.2.2.2.2.2.2.2.2.2.2.2.2.1
           (bindO (F18 K (v0.1, 40960, 41023)) fun v1 =>
           some (v0.1, v0.2.1, v1, v0.2.2.2))
           (some (v0.1, v0.2.1, false, v0.2.2.2))) fun v2 =>
        branch v2.2.2.1
         (bindO (F92 K v2.2.2.2.2.2.2.2.2.2.2) fun v3 =>
         bindO (F93 K (v2.2.2.2.2.2.2.2.2.2.2.2.2.2.1, w64 ((w64 ((w64 (v3 * 64)) + v2.1)) - 40960), v2.2.1)) fun v4 =>
         some (v2.2.2.2.2.2.2.2.2.2.2.1, v2.2.2.2.2.2.2.2.2.2.2.2.1, v2.2.2.2.2.2.2.2.2.2.2.2.2.1, v4, v2.2.2.2.2.2.2.2.2.2.2.2.2.2.2))
         (some v2.2.2.2.2.2.2.2.2.2.2)))))))
def ct94 (K : Nat) : Ct := ⟨[.agg [(.v .s), (.v (.i .i64)), (.v (.i .i64)), (.v .s), (.v (.i .i64)), (.v .b), (.v (.i .i64))], .l (.v (.i .i64)), .l (.v (.i .i64))], [], [.agg [(.v .s), (.v (.i .i64)), (.v (.i .i64)), (.v .s), (.v (.i .i64)), (.v .b), (.v (.i .i64))]], [], [], F94 K⟩
theorem c94 (K : Nat) : CtOk prog 94 (ct94 K) :=
  con_mk (Y := Y) (L := [(18, ct18 K), (92, ct92 K), (93, ct93 K)]) (K := K) (an := (.seq .no (.seq (.seq .no (.cond .no .no)) (.seq (.blk (.seq .no (.cond .no (.seqJ [(1000000, ⟨(ru 1 (.l (.v (.i .i64)) :: .l (.v (.i .i64)) :: .l (.ptr 4000 0 0) :: ru 2 (.l (.ptr 7000 0 0) :: ru 11 (.l (.v .b) :: ru 50 [])))), [(7000, ⟨7, false, .mix (some 27) [[.l (.v .s), .l (.v (.i .i64)), .l (.v (.i .i64)), .l (.v .s), .l (.v (.i .i64)), .l (.v .b), .l (.v (.i .i64))]]⟩), (4000, ⟨7, false, .mix (some 27) [[.l (.v .s), .l (.v (.i .i64)), .l (.v (.i .i64)), .l (.v .s), .l (.v (.i .i64)), .l (.v .b), .l (.v (.i .i64))]]⟩)]⟩)] false .no (.cond .no (.seq .no (.cond .no (.seq .no (.cond .no (.seq .no (.cond (.seq .no .no) (.seqJ [(1000000, ⟨(ru 1 (.l (.v (.i .i64)) :: .l (.v (.i .i64)) :: .l (.ptr 4000 0 0) :: ru 2 (.l (.ptr 7000 0 0) :: ru 43 (.l (.v .b) :: ru 18 [])))), [(7000, ⟨7, false, .mix (some 27) [[.l (.v .s), .l (.v (.i .i64)), .l (.v (.i .i64)), .l (.v .s), .l (.v (.i .i64)), .l (.v .b), .l (.v (.i .i64))]]⟩), (4000, ⟨7, false, .mix (some 27) [[.l (.v .s), .l (.v (.i .i64)), .l (.v (.i .i64)), .l (.v .s), .l (.v (.i .i64)), .l (.v .b), .l (.v (.i .i64))]]⟩)]⟩)] false .no .no)))))))))))) .no)))) func94 mixed (ctabOk_cons (c18 K) (ctabOk_cons (c92 K) (ctabOk_cons (c93 K) ctabOk_nil))) (by kernel_rfl) fun x => by kernel_rfl

-- loop.example/g00460/spec.l6Write
def F87 (K : Nat) (x : Int × Int × Int × Int × Int × Int × Int × Int × Int × Int × Bool × Bool × (List UInt8) × Int × Int × (List UInt8) × Int × Bool × Int × (List UInt8) × (List UInt8) × (List Int) × Int × Int × Int) : Option (Int × Int × Int × Int × Int × Int × Int × Int × Int × Int × Bool × Bool × (List UInt8) × Int × Int × (List UInt8) × Int × Bool × Int × (List UInt8) × (List UInt8) × (List Int) × Int × Bool) :=
  bindO (F18 K (x.2.2.2.2.2.2.2.2.2.2.2.2.2.2.2.2.2.2.2.2.2.2.2.1, 49152, 49407)) fun v0 =>
  branch v0
   (bindO (F93 K (x.2.2.2.2.2.2.2.2.2.2.2.2.2.2.2.2.2.2.2.1, w64 (x.2.2.2.2.2.2.2.2.2.2.2.2.2.2.2.2.2.2.2.2.2.2.2.1 - 49152), x.2.2.2.2.2.2.2.2.2.2.2.2.2.2.2.2.2.2.2.2.2.2.2.2)) fun v1 =>
   some (x.1, x.2.1, x.2.2.1, x.2.2.2.1, x.2.2.2.2.1, x.2.2.2.2.2.1, x.2.2.2.2.2.2.1, x.2.2.2.2.2.2.2.1, x.2.2.2.2.2.2.2.2.1, x.2.2.2.2.2.2.2.2.2.1, x.2.2.2.2.2.2.2.2.2.2.1, x.2.2.2.2.2.2.2.2.2.2.2.1, x.2.2.2.2.2.2.2.2.2.2.2.2.1, x.2.2.2.2.2.2.2.2.2.2.2.2.2.1, x.2.2.2.2.2.2.2.2.2.2.2.2.2.2.1, x.2.2.2.2.2.2.2.2.2.2.2.2.2.2.2.1, x.2.2.2.2.2.2.2.2.2.2.2.2.2.2.2.2.1, x.2.2.2.2.2.2.2.2.2.2.2.2.2.2.2.2.2.1, x.2.2.2.2.2.2.2.2.2.2.2.2.2.2.2.2.2.2.1, v1, x.2.2.2.2.2.2.2.2.2.2.2.2.2.2.2.2.2.2.2.2.1, x.2.2.2.2.2.2.2.2.2.2.2.2.2.2.2.2.2.2.2.2.2.1, x.2.2.2.2.2.2.2.2.2.2.2.2.2.2.2.2.2.2.2.2.2.2.1, true))
   (bindO (F18 K (x.2.2.2.2.2.2.2.2.2.2.2.2.2.2.2.2.2.2.2.2.2.2.2.1, 65408, 65534)) fun v2 =>
   branch v2
    (bindO (F93 K (x.2.2.2.2.2.2.2.2.2.2.2.2.2.2.2.2.2.2.2.2.1, w64 (x.2.2.2.2.2.2.2.2.2.2.2.2.2.2.2.2.2.2.2.2.2.2.2.1 - 65408), x.2.2.2.2.2.2.2.2.2.2.2.2.2.2.2.2.2.2.2.2.2.2.2.2)) fun v3 =>
    some (x.1, x.2.1, x.2.2.1, x.2.2.2.1, x.2.2.2.2.1, x.2.2.2.2.2.1, x.2.2.2.2.2.2.1, x.2.2.2.2.2.2.2.1, x.2.2.2.2.2.2.2.2.1, x.2.2.2.2.2.2.2.2.2.1, x.2.2.2.2.2.2.2.2.2.2.1, x.2.2.2.2.2.2.2.2.2.2.2.1, x.2.2.2.2.2.2.2.2.2.2.2.2.1, x.2.2.2.2.2.2.2.2.2.2.2.2.2.1, x.2.2.2.2.2.2.2.2.2.2.2.2.2.2.1, x.2.2.2.2.2.2.2.2.2.2.2.2.2.2.2.1, x.2.2.2.2.2.2.2.2.2.2.2.2.2.2.2.2.1, x.2.2.2.2.2.2.2.2.2.2.2.2.2.2.2.2.2.1, x.2.2.2.2.2.2.2.2.2.2.2.2.2.2.2.2.2.2.1, x.2.2.2.2.2.2.2.2.2.2.2.2.2.2.2.2.2.2.2.1, v3, x.2.2.2.2.2.2.2.2.2.2.2.2.2.2.2.2.2.2.2.2.2.1, x.2.2.2.2.2.2.2.2.2.2.2.2.2.2.2.2.2.2.2.2.2.2.1, true))
    (branch (decide (x.2.2.2.2.2.2.2.2.2.2.2.2.2.2.2.2.2.2.2.2.2.2.2.1 = 65281))
     (branch (decide ((x.2.2.2.2.2.2.2.2.2.2.2.2.2.2.2.2.2.2.2.2.2.1.length : Int) = 100))
      (some (x.1, x.2.1, x.2.2.1, x.2.2.2.1, x.2.2.2.2.1, x.2.2.2.2.2.1, x.2.2.2.2.2.2.1, x.2.2.2.2.2.2.2.1, x.2.2.2.2.2.2.2.2.1, x.2.2.2.2.2.2.2.2.2.1, x.2.2.2.2.2.2.2.2.2.2.1, x.2.2.2.2.2.2.2.2.2.2.2.1, x.2.2.2.2.2.2.2.2.2.2.2.2.1, x.2.2.2.2.2.2.2.2.2.2.2.2.2.1, x.2.2.2.2.2.2.2.2.2.2.2.2.2.2.1, x.2.2.2.2.2.2.2.2.2.2.2.2.2.2.2.1, x.2.2.2.2.2.2.2.2.2.2.2.2.2.2.2.2.1, x.2.2.2.2.2.2.2.2.2.2.2.2.2.2.2.2.2.1, x.2.2.2.2.2.2.2.2.2.2.2.2.2.2.2.2.2.2.1, x.2.2.2.2.2.2.2.2.2.2.2.2.2.2.2.2.2.2.2.1, x.2.2.2.2.2.2.2.2.2.2.2.2.2.2.2.2.2.2.2.2.1, x.2.2.2.2.2.2.2.2.2.2.2.2.2.2.2.2.2.2.2.2.2.1, x.2.2.2.2.2.2.2.2.2.2.2.2.2.2.2.2.2.2.2.2.2.2.1, false))
      (guard (fitN (0 + x.2.2.2.2.2.2.2.2.2.2.2.2.2.2.2.2.2.2.2.2.2.1.length) 8) <|
      guard (fitN ((([] ++ x.2.2.2.2.2.2.2.2.2.2.2.2.2.2.2.2.2.2.2.2.2.1).length) + [x.2.2.2.2.2.2.2.2.2.2.2.2.2.2.2.2.2.2.2.2.2.2.2.2].length) 8) <|
      some (x.1, x.2.1, x.2.2.1, x.2.2.2.1, x.2.2.2.2.1, x.2.2.2.2.2.1, x.2.2.2.2.2.2.1, x.2.2.2.2.2.2.2.1, x.2.2.2.2.2.2.2.2.1, x.2.2.2.2.2.2.2.2.2.1, x.2.2.2.2.2.2.2.2.2.2.1, x.2.2.2.2.2.2.2.2.2.2.2.1, x.2.2.2.2.2.2.2.2.2.2.2.2.1, x.2.2.2.2.2.2.2.2.2.2.2.2.2.1, x.2.2.2.2.2.2.2.2.2.2.2.2.2.2.1, x.2.2.2.2.2.2.2.2.2.2.2.2.2.2.2.1, x.2.2.2.2.2.2.2.2.2.2.2.2.2.2.2.2.1, x.2.2.2.2.2.2.2.2.2.2.2.2.2.2.2.2.2.1, x.2.2.2.2.2.2.2.2.2.2.2.2.2.2.2.2.2.2.1, x.2.2.2.2.2.2.2.2.2.2.2.2.2.2.2.2.2.2.2.1, x.2.2.2.2.2.2.2.2.2.2.2.2.2.2.2.2.2.2.2.2.1, ([] ++ x.2.2.2.2.2.2.2.2.2.2.2.2.2.2.2.2.2.2.2.2.2.1) ++ [x.2.2.2.2.2.2.2.2.2.2.2.2.2.2.2.2.2.2.2.2.2.2.2.2], x.2.2.2.2.2.2.2.2.2.2.2.2.2.2.2.2.2.2.2.2.2.2.1, true)))
     (bindO (F94 K (x.2.2.2.2.2.2.2.2.2.2.2.2.1, x.2.2.2.2.2.2.2.2.2.2.2.2.2.1, x.2.2.2.2.2.2.2.2.2.2.2.2.2.2.1, x.2.2.2.2.2.2.2.2.2.2.2.2.2.2.2.1, x.2.2.2.2.2.2.2.2.2.2.2.2.2.2.2.2.1, x.2.2.2.2.2.2.2.2.2.2.2.2.2.2.2.2.2.1, x.2.2.2.2.2.2.2.2.2.2.2.2.2.2.2.2.2.2.1, x.2.2.2.2.2.2.2.2.2.2.2.2.2.2.2.2.2.2.2.2.2.2.2)) fun v4 =>
     some (x.1, x.2.1, x.2.2.1, x.2.2.2.1, x.2.2.2.2.1, x.2.2.2.2.2.1, x.2.2.2.2.2.2.1, x.2.2.2.2.2.2.2.1, x.2.2.2.2.2.2.2.2.1, x.2.2.2.2.2.2.2.2.2.1, x.2.2.2.2.2.2.2.2.2.2.1, x.2.2.2.2.2.2.2.2.2.2.2.1, v4.1, v4.2.1, v4.2.2.1, v4.2.2.2.1, v4.2.2.2.2.1, v4.2.2.2.2.2.1, v4.2.2.2.2.2.2, x.2.2.2.2.2.2.2.2.2.2.2.2.2.2.2.2.2.2.2.1, x.2.2.2.2.2.2.2.2.2.2.2.2.2.2.2.2.2.2.2.2.1, x.2.2.2.2.2.2.2.2.2.2.2.2.2.2.2.2.2.2.2.2.2.1, x.2.2.2.2.2.2.2.2.2.2.2.2.2.2.2.2.2.2.2.2.2.2.1, true))))
def ct87 (K : Nat) : Ct := ⟨[.agg [(.v (.i .i64)), (.v (.i .i64)), (.v (.i .i64)), (.v (.i .i64)), (.v (.i .i64)), (.v (.i .i64)), (.v (.i .i64)), (.v (.i .i64)), (.v (.i .i64)), (.v (.i .i64)), (.v .b), (.v .b), (.v .s), (.v (.i .i64)), (.v (.i .i64)), (.v .s), (.v (.i .i64)), (.v .b), (.v (.i .i64)), (.v .s), (.v .s), (.v (.l (.i .i64))), (.v (.i .i64))], .l (.v (.i .i64)), .l (.v (.i .i64))], [], [.agg [(.v (.i .i64)), (.v (.i .i64)), (.v (.i .i64)), (.v (.i .i64)), (.v (.i .i64)), (.v (.i .i64)), (.v (.i .i64)), (.v (.i .i64)), (.v (.i .i64)), (.v (.i .i64)), (.v .b), (.v .b), (.v .s), (.v (.i .i64)), (.v (.i .i64)), (.v .s), (.v (.i .i64)), (.v .b), (.v (.i .i64)), (.v .s), (.v .s), (.v (.l (.i .i64))), (.v (.i .i64))], .l (.v .b)], [], [], F87 K⟩
theorem c87 (K : Nat) : CtOk prog 87 (ct87 K) :=
  con_mk (Y := Y) (L := [(18, ct18 K), (93, ct93 K), (94, ct94 K)]) (K := K) (an := (.seq .no (.seq (.blk (.seq .no (.cond .no (.seq .no (.cond .no (.seq .no (.cond (.seq (.seq .no (.cond .no .no)) .no) .no))))))) .no))) func87 mixed (ctabOk_cons (c18 K) (ctabOk_cons (c93 K) (ctabOk_cons (c94 K) ctabOk_nil))) (by kernel_rfl) fun x => by kernel_rfl

-- (*loop.example/g00460/spec.l6W).write
def F64 (K : Nat) (x : Int × Int × Int × Int × Int × Int × Int × Int × Int × Int × Int × Int × Bool × Bool × (List UInt8) × Int × Int × (List UInt8) × Int × Bool × Int × (List UInt8) × (List UInt8) × (List Int) × Int × Bool) : Option (Int × Int × Int × Int × Int × Int × Int × Int × Int × Int × Bool × Bool × (List UInt8) × Int × Int × (List UInt8) × Int × Bool × Int × (List UInt8) × (List UInt8) × (List Int) × Int × Bool) :=
  bindO (F87 K (x.2.2.1, x.2.2.2.1, x.2.2.2.2.1, x.2.2.2.2.2.1, x.2.2.2.2.2.2.1, x.2.2.2.2.2.2.2.1, x.2.2.2.2.2.2.2.2.1, x.2.2.2.2.2.2.2.2.2.1, x.2.2.2.2.2.2.2.2.2.2.1, x.2.2.2.2.2.2.2.2.2.2.2.1, x.2.2.2.2.2.2.2.2.2.2.2.2.1, x.2.2.2.2.2.2.2.2.2.2.2.2.2.1, x.2.2.2.2.2.2.2.2.2.2.2.2.2.2.1, x.2.2.2.2.2.2.2.2.2.2.2.2.2.2.2.1, x.2.2.2.2.2.2.2.2.2.2.2.2.2.2.2.2.1, x.2.2.2.2.2.2.2.2.2.2.2.2.2.2.2.2.2.1, x.2.2.2.2.2.2.2.2.2.2.2.2.2.2.2.2.2.2.1, x.2.2.2.2.2.2.2.2.2.2.2.2.2.2.2.2.2.2.2.1, x.2.2.2.2.2.2.2.2.2.2.2.2.2.2.2.2.2.2.2.2.1, x.2.2.2.2.2.2.2.2.2.2.2.2.2.2.2.2.2.2.2.2.2.1, x.2.2.2.2.2.2.2.2.2.2.2.2.2.2.2.2.2.2.2.2.2.2.1, x.2.2.2.2.2.2.2.2.2.2.2.2.2.2.2.2.2.2.2.2.2.2.2.1, x.2.2.2.2.2.2.2.2.2.2.2.2.2.2.2.2.2.2.2.2.2.2.2.2.1, Int.tmod x.1 65536, x.2.1)) fun v0 =>
  branch x.2.2.2.2.2.2.2.2.2.2.2.2.2.2.2.2.2.2.2.2.2.2.2.2.2
   (some (v0.1, v0.2.1, v0.2.2.1, v0.2.2.2.1, v0.2.2.2.2.1, v0.2.2.2.2.2.1, v0.2.2.2.2.2.2.1, v0.2.2.2.2.2.2.2.1, v0.2.2.2.2.2.2.2.2.1, v0.2.2.2.2.2.2.2.2.2.1, v0.2.2.2.2.2.2.2.2.2.2.1, v0.2.2.2.2.2.2.2.2.2.2.2.1, v0.2.2.2.2.2.2.2.2.2.2.2.2.1, v0.2.2.2.2.2.2.2.2.2.2.2.2.2.1, v0.2.2.2.2.2.2.2.2.2.2.2.2.2.2.1, v0.2.2.2.2.2.2.2.2.2.2.2.2.2.2.2.1, v0.2.2.2.2.2.2.2.2.2.2.2.2.2.2.2.2.1, v0.2.2.2.2.2.2.2.2.2.2.2.2.2.2.2.2.2.1, v0.2.2.2.2.2.2.2.2.2.2.2.2.2.2.2.2.2.2.1, v0.2.2.2.2.2.2.2.2.2.2.2.2.2.2.2.2.2.2.2.1, v0.2.2.2.2.2.2.2.2.2.2.2.2.2.2.2.2.2.2.2.2.1, v0.2.2.2.2.2.2.2.2.2.2.2.2.2.2.2.2.2.2.2.2.2.1, v0.2.2.2.2.2.2.2.2.2.2.2.2.2.2.2.2.2.2.2.2.2.2.1, true))
   (some (v0.1, v0.2.1, v0.2.2.1, v0.2.2.2.1, v0.2.2.2.2.1, v0.2.2.2.2.2.1, v0.2.2.2.2.2.2.1, v0.2.2.2.2.2.2.2.1, v0.2.2.2.2.2.2.2.2.1, v0.2.2.2.2.2.2.2.2.2.1, v0.2.2.2.2.2.2.2.2.2.2.1, v0.2.2.2.2.2.2.2.2.2.2.2.1, v0.2.2.2.2.2.2.2.2.2.2.2.2.1, v0.2.2.2.2.2.2.2.2.2.2.2.2.2.1, v0.2.2.2.2.2.2.2.2.2.2.2.2.2.2.1, v0.2.2.2.2.2.2.2.2.2.2.2.2.2.2.2.1, v0.2.2.2.2.2.2.2.2.2.2.2.2.2.2.2.2.1, v0.2.2.2.2.2.2.2.2.2.2.2.2.2.2.2.2.2.1, v0.2.2.2.2.2.2.2.2.2.2.2.2.2.2.2.2.2.2.1, v0.2.2.2.2.2.2.2.2.2.2.2.2.2.2.2.2.2.2.2.1, v0.2.2.2.2.2.2.2.2.2.2.2.2.2.2.2.2.2.2.2.2.1, v0.2.2.2.2.2.2.2.2.2.2.2.2.2.2.2.2.2.2.2.2.2.1, v0.2.2.2.2.2.2.2.2.2.2.2.2.2.2.2.2.2.2.2.2.2.2.1, !v0.2.2.2.2.2.2.2.2.2.2.2.2.2.2.2.2.2.2.2.2.2.2.2))
def ct64 (K : Nat) : Ct := ⟨[.l (.ptr 0 0 0), .l (.v (.i .i64)), .l (.v (.i .i64))], [⟨24, false, .mix (some 74) [[.l (.v (.i .i64)), .l (.v (.i .i64)), .l (.v (.i .i64)), .l (.v (.i .i64)), .l (.v (.i .i64)), .l (.v (.i .i64)), .l (.v (.i .i64)), .l (.v (.i .i64)), .l (.v (.i .i64)), .l (.v (.i .i64)), .l (.v .b), .l (.v .b), .l (.v .s), .l (.v (.i .i64)), .l (.v (.i .i64)), .l (.v .s), .l (.v (.i .i64)), .l (.v .b), .l (.v (.i .i64)), .l (.v .s), .l (.v .s), .l (.v (.l (.i .i64))), .l (.v (.i .i64)), .l (.v .b)]]⟩], [], [⟨24, false, .mix (some 74) [[.l (.v (.i .i64)), .l (.v (.i .i64)), .l (.v (.i .i64)), .l (.v (.i .i64)), .l (.v (.i .i64)), .l (.v (.i .i64)), .l (.v (.i .i64)), .l (.v (.i .i64)), .l (.v (.i .i64)), .l (.v (.i .i64)), .l (.v .b), .l (.v .b), .l (.v .s), .l (.v (.i .i64)), .l (.v (.i .i64)), .l (.v .s), .l (.v (.i .i64)), .l (.v .b), .l (.v (.i .i64)), .l (.v .s), .l (.v .s), .l (.v (.l (.i .i64))), .l (.v (.i .i64)), .l (.v .b)]]⟩], [], F64 K⟩
theorem c64 (K : Nat) : CtOk prog 64 (ct64 K) :=
  con_mk (Y := Y) (L := [(87, ct87 K)]) (K := K) (an := (.seq .no .no)) func64 mixed (ctabOk_cons (c87 K) ctabOk_nil) (by kernel_rfl) fun x => by kernel_rfl

-- (*loop.example/g00460/spec.l6W).set
def F50 (K : Nat) (x : Int × Int × Int × Int × Int × Int × Int × Int × Int × Int × Int × Int × Bool × Bool × (List UInt8) × Int × Int × (List UInt8) × Int × Bool × Int × (List UInt8) × (List UInt8) × (List Int) × Int × Bool) : Option (Int × Int × Int × Int × Int × Int × Int × Int × Int × Int × Bool × Bool × (List UInt8) × Int × Int × (List UInt8) × Int × Bool × Int × (List UInt8) × (List UInt8) × (List Int) × Int × Bool) :=
  branch (decide (x.1 = 0))
   (some (x.2.2.1, x.2.2.2.1, x.2.1, x.2.2.2.2.2))
   (branch (decide (x.1 = 1))
    (some (x.2.2.1, x.2.2.2.1, x.2.2.2.2.1, x.2.1, x.2.2.2.2.2.2))
    (branch (decide (x.1 = 2))
     (some (x.2.2.1, x.2.2.2.1, x.2.2.2.2.1, x.2.2.2.2.2.1, x.2.1, x.2.2.2.2.2.2.2))
     (branch (decide (x.1 = 3))
      (some (x.2.2.1, x.2.2.2.1, x.2.2.2.2.1, x.2.2.2.2.2.1, x.2.2.2.2.2.2.1, x.2.1, x.2.2.2.2.2.2.2.2))
      (branch (decide (x.1 = 4))
       (some (x.2.2.1, x.2.2.2.1, x.2.2.2.2.1, x.2.2.2.2.2.1, x.2.2.2.2.2.2.1, x.2.2.2.2.2.2.2.1, x.2.1, x.2.2.2.2.2.2.2.2.2))
       (branch (decide (x.1 = 5))
        (some (x.2.2.1, x.2.2.2.1, x.2.2.2.2.1, x.2.2.2.2.2.1, x.2.2.2.2.2.2.1, x.2.2.2.2.2.2.2.1, x.2.2.2.2.2.2.2.2.1, x.2.1, x.2.2.2.2.2.2.2.2.2.2))
        (branch (decide (x.1 = 6))
         (bindO (F69 K x.2.2) fun v0 =>
         bindO (F64 K (v0.1, x.2)) fun v1 =>
         some v1)
         (some (x.2.1, x.2.2.2))))))))
def ct50 (K : Nat) : Ct := ⟨[.l (.ptr 0 0 0), .l (.v (.i .i64)), .l (.v (.i .i64))], [⟨24, false, .mix (some 74) [[.l (.v (.i .i64)), .l (.v (.i .i64)), .l (.v (.i .i64)), .l (.v (.i .i64)), .l (.v (.i .i64)), .l (.v (.i .i64)), .l (.v (.i .i64)), .l (.v (.i .i64)), .l (.v (.i .i64)), .l (.v (.i .i64)), .l (.v .b), .l (.v .b), .l (.v .s), .l (.v (.i .i64)), .l (.v (.i .i64)), .l (.v .s), .l (.v (.i .i64)), .l (.v .b), .l (.v (.i .i64)), .l (.v .s), .l (.v .s), .l (.v (.l (.i .i64))), .l (.v (.i .i64)), .l (.v .b)]]⟩], [], [⟨24, false, .mix (some 74) [[.l (.v (.i .i64)), .l (.v (.i .i64)), .l (.v (.i .i64)), .l (.v (.i .i64)), .l (.v (.i .i64)), .l (.v (.i .i64)), .l (.v (.i .i64)), .l (.v (.i .i64)), .l (.v (.i .i64)), .l (.v (.i .i64)), .l (.v .b), .l (.v .b), .l (.v .s), .l (.v (.i .i64)), .l (.v (.i .i64)), .l (.v .s), .l (.v (.i .i64)), .l (.v .b), .l (.v (.i .i64)), .l (.v .s), .l (.v .s), .l (.v (.l (.i .i64))), .l (.v (.i .i64)), .l (.v .b)]]⟩], [], F50 K⟩
theorem c50 (K : Nat) : CtOk prog 50 (ct50 K) :=
  con_mk (Y := Y) (L := [(69, ct69k K), (64, ct64 K)]) (K := K) (an := (.seq .no (.blk (.seq .no (.cond .no (.seq .no (.cond .no (.seq .no (.cond .no (.seq .no (.cond .no (.seq .no (.cond .no (.seq .no (.cond .no (.seq .no .no)))))))))))))))) func50 mixed (ctabOk_keep (c69k K) (ctabOk_cons (c64 K) ctabOk_nil)) (by kernel_rfl) fun x => by kernel_rfl

-- (*loop.example/g00460/spec.l6W).cb
def F48 (K : Nat) (x : Int × Bool × Int × Int × Int × Int × Int × Int × Int × Int × Int × Int × Int × Bool × Bool × (List UInt8) × Int × Int × (List UInt8) × Int × Bool × Int × (List UInt8) × (List UInt8) × (List Int) × Int × Bool) : Option (Int × Int × Int × Int × Int × Int × Int × Int × Int × Int × Bool × Bool × (List UInt8) × Int × Int × (List UInt8) × Int × Bool × Int × (List UInt8) × (List UInt8) × (List Int) × Int × Bool) :=
  bindO (F51 K (Int.tmod x.1 8, x.2.2.2)) fun v0 =>
  guard (decide (0 ≤ (w64u (Int.tmod (w64 (Int.tdiv x.1 8)) 8)))) <|
  branch (decide ((w64 (Int.tdiv x.1 64)) = 0))
   (bindO (F61 K (Int.tmod (w64 (Int.tdiv x.1 8)) 8, v0.1, x.2.2.2.2.1)) fun v1 =>
   bindO (F50 K (Int.tmod x.1 8, v1.1, x.2.2.2)) fun v2 =>
   some (v2.1, v1.2, v2.2.2))
   (branch (decide ((w64 (Int.tdiv x.1 64)) = 1))
    (bindO (F63 K x.2.2.2.2.1) fun v3 =>
    bindO (F62 K (decide ((Go.bits Go.BinOp.and Go.IntKind.i64 v0.1 (shlI Go.IntKind.i64 1 (w64u (Int.tmod (w64 (Int.tdiv x.1 8)) 8)))) = 0), false, true, decide (v3 = 1))) fun v4 =>
    some (x.2.2.2.1, v4, x.2.2.2.2.2))
    (branch (decide ((w64 (Int.tdiv x.1 64)) = 2))
     (bindO (F50 K (Int.tmod x.1 8, Go.bits Go.BinOp.andNot Go.IntKind.i64 v0.1 (shlI Go.IntKind.i64 1 (w64u (Int.tmod (w64 (Int.tdiv x.1 8)) 8))), x.2.2.2)) fun v5 =>
     some v5)
     (bindO (F50 K (Int.tmod x.1 8, Go.bits Go.BinOp.or Go.IntKind.i64 v0.1 (shlI Go.IntKind.i64 1 (w64u (Int.tmod (w64 (Int.tdiv x.1 8)) 8))), x.2.2.2)) fun v6 =>
     some v6)))
def ct48 (K : Nat) : Ct := ⟨[.l (.ptr 0 0 0), .agg [(.v (.i .i64)), (.v .b), (.v (.i .i64))]], [⟨24, false, .mix (some 74) [[.l (.v (.i .i64)), .l (.v (.i .i64)), .l (.v (.i .i64)), .l (.v (.i .i64)), .l (.v (.i .i64)), .l (.v (.i .i64)), .l (.v (.i .i64)), .l (.v (.i .i64)), .l (.v (.i .i64)), .l (.v (.i .i64)), .l (.v .b), .l (.v .b), .l (.v .s), .l (.v (.i .i64)), .l (.v (.i .i64)), .l (.v .s), .l (.v (.i .i64)), .l (.v .b), .l (.v (.i .i64)), .l (.v .s), .l (.v .s), .l (.v (.l (.i .i64))), .l (.v (.i .i64)), .l (.v .b)]]⟩], [], [⟨24, false, .mix (some 74) [[.l (.v (.i .i64)), .l (.v (.i .i64)), .l (.v (.i .i64)), .l (.v (.i .i64)), .l (.v (.i .i64)), .l (.v (.i .i64)), .l (.v (.i .i64)), .l (.v (.i .i64)), .l (.v (.i .i64)), .l (.v (.i .i64)), .l (.v .b), .l (.v .b), .l (.v .s), .l (.v (.i .i64)), .l (.v (.i .i64)), .l (.v .s), .l (.v (.i .i64)), .l (.v .b), .l (.v (.i .i64)), .l (.v .s), .l (.v .s), .l (.v (.l (.i .i64))), .l (.v (.i .i64)), .l (.v .b)]]⟩], [], F48 K⟩
theorem c48 (K : Nat) : CtOk prog 48 (ct48 K) :=
  con_mk (Y := Y) (L := [(51, ct51k K), (63, ct63 K), (62, ct62 K), (61, ct61 K), (50, ct50 K)]) (K := K) (an := (.seq .no (.seq .no (.seq .no (.seq .no (.seq .no (.seq .no (.blk (.seq .no (.cond (.seq .no .no) (.seq .no (.cond .no (.seq .no .no))))))))))))) func48 mixed (ctabOk_keep (c51k K) (ctabOk_cons (c63 K) (ctabOk_cons (c62 K) (ctabOk_cons (c61 K) (ctabOk_cons (c50 K) ctabOk_nil))))) (by kernel_rfl) fun x => by kernel_rfl

-- (*loop.example/g00460/spec.l6W).cond
def F65 (K : Nat) (x : Int × Int × Int × Int × Int × Int × Int × Int × Int × Int × Int × Bool × Bool × (List UInt8) × Int × Int × (List UInt8) × Int × Bool × Int × (List UInt8) × (List UInt8) × (List Int) × Int × Bool) : Option (Bool × Int × Int × Int × Int × Int × Int × Int × Int × Int × Int × Bool × Bool × (List UInt8) × Int × Int × (List UInt8) × Int × Bool × Int × (List UInt8) × (List UInt8) × (List Int) × Int × Bool) :=
  bindO (α := Int × Int × Int × Int × Int × Int × Int × Int × Int × Int × Int × Int × Bool × Bool × (List UInt8) × Int × Int × (List UInt8) × Int × Bool × Int × (List UInt8) × (List UInt8) × (List Int) × Int × Bool) (branch (decide (1 < x.1))
     (some (x.1, 16, x.2))
     (some (x.1, 128, x.2))) fun v0 =>
  guard (!(decide (v0.2.1 = 0))) <|
  some (decide ((Int.tmod (w64 (Int.tdiv v0.2.2.2.1 v0.2.1)) 2) = (Int.tmod v0.1 2)), v0.2.2)
def ct65 (K : Nat) : Ct := ⟨[.l (.ptr 0 0 0), .l (.v (.i .i64))], [⟨24, false, .mix (some 74) [[.l (.v (.i .i64)), .l (.v (.i .i64)), .l (.v (.i .i64)), .l (.v (.i .i64)), .l (.v (.i .i64)), .l (.v (.i .i64)), .l (.v (.i .i64)), .l (.v (.i .i64)), .l (.v (.i .i64)), .l (.v (.i .i64)), .l (.v .b), .l (.v .b), .l (.v .s), .l (.v (.i .i64)), .l (.v (.i .i64)), .l (.v .s), .l (.v (.i .i64)), .l (.v .b), .l (.v (.i .i64)), .l (.v .s), .l (.v .s), .l (.v (.l (.i .i64))), .l (.v (.i .i64)), .l (.v .b)]]⟩], [.l (.v .b)], [⟨24, false, .mix (some 74) [[.l (.v (.i .i64)), .l (.v (.i .i64)), .l (.v (.i .i64)), .l (.v (.i .i64)), .l (.v (.i .i64)), .l (.v (.i .i64)), .l (.v (.i .i64)), .l (.v (.i .i64)), .l (.v (.i .i64)), .l (.v (.i .i64)), .l (.v .b), .l (.v .b), .l (.v .s), .l (.v (.i .i64)), .l (.v (.i .i64)), .l (.v .s), .l (.v (.i .i64)), .l (.v .b), .l (.v (.i .i64)), .l (.v .s), .l (.v .s), .l (.v (.l (.i .i64))), .l (.v (.i .i64)), .l (.v .b)]]⟩], [], F65 K⟩
theorem c65 (K : Nat) : CtOk prog 65 (ct65 K) :=
  con_mk (Y := Y) (L := []) (K := K) (an := (.seq .no (.seq .no (.seqJ [(1000000, ⟨(.l (.ptr 0 0 0) :: .l (.v (.i .i64)) :: ru 3 (.l (.v (.i .i64)) :: ru 14 [])), [(0, ⟨24, false, .mix (some 74) [[.l (.v (.i .i64)), .l (.v (.i .i64)), .l (.v (.i .i64)), .l (.v (.i .i64)), .l (.v (.i .i64)), .l (.v (.i .i64)), .l (.v (.i .i64)), .l (.v (.i .i64)), .l (.v (.i .i64)), .l (.v (.i .i64)), .l (.v .b), .l (.v .b), .l (.v .s), .l (.v (.i .i64)), .l (.v (.i .i64)), .l (.v .s), .l (.v (.i .i64)), .l (.v .b), .l (.v (.i .i64)), .l (.v .s), .l (.v .s), .l (.v (.l (.i .i64))), .l (.v (.i .i64)), .l (.v .b)]]⟩)]⟩)] false (.seq .no .no) .no)))) func65 mixed ctabOk_nil (by kernel_rfl) fun x => by kernel_rfl

def ct65k (K : Nat) : Ct := ⟨[.l (.ptr 0 0 0), .l (.v (.i .i64))], [⟨24, false, .mix (some 74) [[.l (.v (.i .i64)), .l (.v (.i .i64)), .l (.v (.i .i64)), .l (.v (.i .i64)), .l (.v (.i .i64)), .l (.v (.i .i64)), .l (.v (.i .i64)), .l (.v (.i .i64)), .l (.v (.i .i64)), .l (.v (.i .i64)), .l (.v .b), .l (.v .b), .l (.v .s), .l (.v (.i .i64)), .l (.v (.i .i64)), .l (.v .s), .l (.v (.i .i64)), .l (.v .b), .l (.v (.i .i64)), .l (.v .s), .l (.v .s), .l (.v (.l (.i .i64))), .l (.v (.i .i64)), .l (.v .b)]]⟩], [.l (.v .b)], [⟨24, false, .mix (some 74) [[.l (.v (.i .i64)), .l (.v (.i .i64)), .l (.v (.i .i64)), .l (.v (.i .i64)), .l (.v (.i .i64)), .l (.v (.i .i64)), .l (.v (.i .i64)), .l (.v (.i .i64)), .l (.v (.i .i64)), .l (.v (.i .i64)), .l (.v .b), .l (.v .b), .l (.v .s), .l (.v (.i .i64)), .l (.v (.i .i64)), .l (.v .s), .l (.v (.i .i64)), .l (.v .b), .l (.v (.i .i64)), .l (.v .s), .l (.v .s), .l (.v (.l (.i .i64))), .l (.v (.i .i64)), .l (.v .b)]]⟩], keepRefs, F65 K⟩
theorem keep65 (K : Nat) (x : Int × Int × Int × Int × Int × Int × Int × Int × Int × Int × Int × Bool × Bool × (List UInt8) × Int × Int × (List UInt8) × Int × Bool × Int × (List UInt8) × (List UInt8) × (List Int) × Int × Bool) (y : Bool × Int × Int × Int × Int × Int × Int × Int × Int × Int × Int × Bool × Bool × (List UInt8) × Int × Int × (List UInt8) × Int × Bool × Int × (List UInt8) × (List UInt8) × (List Int) × Int × Bool) (h : F65 K x = some y) : y.2 = x.2 := by
  unfold F65 at h
  obtain ⟨_, hb, h⟩ := bindO_some h
  rcases branch_some hb with ⟨_, hb⟩ | ⟨_, hb⟩
  ·
    cases hb
    replace h := (guard_some h).2
    cases h; rfl
  ·
    cases hb
    replace h := (guard_some h).2
    cases h; rfl
theorem c65k (K : Nat) : CtKeep prog 65 (ct65k K) := ct_keep3 (Eq.mpr (by kernel_rfl : CtOk prog 65 (ct65k K) = CtOk prog 65 (ct65 K)) (c65 K)) (by kernel_rfl) (Eq.mpr (by kernel_rfl : KeepsF [.l (.ptr 0 0 0), .l (.v (.i .i64))] [⟨24, false, .mix (some 74) [[.l (.v (.i .i64)), .l (.v (.i .i64)), .l (.v (.i .i64)), .l (.v (.i .i64)), .l (.v (.i .i64)), .l (.v (.i .i64)), .l (.v (.i .i64)), .l (.v (.i .i64)), .l (.v (.i .i64)), .l (.v (.i .i64)), .l (.v .b), .l (.v .b), .l (.v .s), .l (.v (.i .i64)), .l (.v (.i .i64)), .l (.v .s), .l (.v (.i .i64)), .l (.v .b), .l (.v (.i .i64)), .l (.v .s), .l (.v .s), .l (.v (.l (.i .i64))), .l (.v (.i .i64)), .l (.v .b)]]⟩] [.l (.v .b)] (F65 K) = ∀ (x : Int × Int × Int × Int × Int × Int × Int × Int × Int × Int × Int × Bool × Bool × (List UInt8) × Int × Int × (List UInt8) × Int × Bool × Int × (List UInt8) × (List UInt8) × (List Int) × Int × Bool) (y : Bool × Int × Int × Int × Int × Int × Int × Int × Int × Int × Int × Bool × Bool × (List UInt8) × Int × Int × (List UInt8) × Int × Bool × Int × (List UInt8) × (List UInt8) × (List Int) × Int × Bool), F65 K x = some y → y.2 = x.2) (keep65 K))

-- loop.example/g00460/spec.SignedOf
def F66 (K : Nat) (x : Int) : Option (Int) :=
  bindO (F18 K (x, 0, 255)) fun v0 =>
  branch (!v0)
   (some 0)
   (branch (decide (127 < x))
    (some (w64 (x - 256)))
    (some x))
def ct66 (K : Nat) : Ct := ⟨[.l (.v (.i .i64))], [], [.l (.v (.i .i64))], [], [], F66 K⟩
theorem c66 (K : Nat) : CtOk prog 66 (ct66 K) :=
  con_mk (Y := Y) (L := [(18, ct18 K)]) (K := K) (an := (.seq .no (.seq (.seq .no (.cond .no .no)) (.seq (.seq .no (.cond .no .no)) .no)))) func66 mixed (ctabOk_cons (c18 K) ctabOk_nil) (by kernel_rfl) fun x => by kernel_rfl

-- (*loop.example/g00460/spec.l6W).setPair
def F67 (K : Nat) (x : Int × Int × Bool × Int × Int × Int × Int × Int × Int × Int × Int × Int × Int × Bool × Bool × (List UInt8) × Int × Int × (List UInt8) × Int × Bool × Int × (List UInt8) × (List UInt8) × (List Int) × Int × Bool) : Option (Int × Int × Int × Int × Int × Int × Int × Int × Int × Int × Bool × Bool × (List UInt8) × Int × Int × (List UInt8) × Int × Bool × Int × (List UInt8) × (List UInt8) × (List Int) × Int × Bool) :=
  branch (decide (x.1 < 3))
   (bindO (F50 K (w64 (2 * x.1), w64 (Int.tdiv x.2.1 256), x.2.2.2)) fun v0 =>
   bindO (F50 K (w64 ((w64 (2 * x.1)) + 1), Int.tmod x.2.1 256, v0)) fun v1 =>
   some v1)
   (branch x.2.2.1
    (some (w64 (Int.tdiv x.2.1 256), w64 ((w64 (Int.tdiv (Int.tmod x.2.1 256) 16)) * 16), x.2.2.2.2.2))
    (some (x.2.2.2.1, x.2.2.2.2.1, x.2.2.2.2.2.1, x.2.2.2.2.2.2.1, x.2.2.2.2.2.2.2.1, x.2.2.2.2.2.2.2.2.1, x.2.2.2.2.2.2.2.2.2.1, x.2.2.2.2.2.2.2.2.2.2.1, x.2.1, x.2.2.2.2.2.2.2.2.2.2.2.2)))
def ct67 (K : Nat) : Ct := ⟨[.l (.ptr 0 0 0), .l (.v (.i .i64)), .l (.v (.i .i64)), .l (.v .b)], [⟨24, false, .mix (some 74) [[.l (.v (.i .i64)), .l (.v (.i .i64)), .l (.v (.i .i64)), .l (.v (.i .i64)), .l (.v (.i .i64)), .l (.v (.i .i64)), .l (.v (.i .i64)), .l (.v (.i .i64)), .l (.v (.i .i64)), .l (.v (.i .i64)), .l (.v .b), .l (.v .b), .l (.v .s), .l (.v (.i .i64)), .l (.v (.i .i64)), .l (.v .s), .l (.v (.i .i64)), .l (.v .b), .l (.v (.i .i64)), .l (.v .s), .l (.v .s), .l (.v (.l (.i .i64))), .l (.v (.i .i64)), .l (.v .b)]]⟩], [], [⟨24, false, .mix (some 74) [[.l (.v (.i .i64)), .l (.v (.i .i64)), .l (.v (.i .i64)), .l (.v (.i .i64)), .l (.v (.i .i64)), .l (.v (.i .i64)), .l (.v (.i .i64)), .l (.v (.i .i64)), .l (.v (.i .i64)), .l (.v (.i .i64)), .l (.v .b), .l (.v .b), .l (.v .s), .l (.v (.i .i64)), .l (.v (.i .i64)), .l (.v .s), .l (.v (.i .i64)), .l (.v .b), .l (.v (.i .i64)), .l (.v .s), .l (.v .s), .l (.v (.l (.i .i64))), .l (.v (.i .i64)), .l (.v .b)]]⟩], [], F67 K⟩
theorem c67 (K : Nat) : CtOk prog 67 (ct67 K) :=
  con_mk (Y := Y) (L := [(50, ct50 K)]) (K := K) (an := (.blk (.seq .no (.cond .no (.seq .no (.cond .no .no)))))) func67 mixed (ctabOk_cons (c50 K) ctabOk_nil) (by kernel_rfl) fun x => by kernel_rfl

-- (*loop.example/g00460/spec.l6W).pair
def F70 (K : Nat) (x : Int × Bool × Int × Int × Int × Int × Int × Int × Int × Int × Int × Int × Bool × Bool × (List UInt8) × Int × Int × (List UInt8) × Int × Bool × Int × (List UInt8) × (List UInt8) × (List Int) × Int × Bool) : Option (Int × Int × Int × Int × Int × Int × Int × Int × Int × Int × Int × Bool × Bool × (List UInt8) × Int × Int × (List UInt8) × Int × Bool × Int × (List UInt8) × (List UInt8) × (List Int) × Int × Bool) :=
  branch (decide (x.1 < 3))
   (bindO (F51 K (w64 (2 * x.1), x.2.2)) fun v0 =>
   bindO (F51 K (w64 ((w64 (2 * x.1)) + 1), x.2.2)) fun v1 =>
   some (w64 ((w64 (256 * v0.1)) + v1.1), x.2.2))
   (branch x.2.1
    (some (w64 ((w64 (256 * x.2.2.1)) + x.2.2.2.1), x.2.2))
    (some (x.2.2.2.2.2.2.2.2.2.2.1, x.2.2)))
def ct70 (K : Nat) : Ct := ⟨[.l (.ptr 0 0 0), .l (.v (.i .i64)), .l (.v .b)], [⟨24, false, .mix (some 74) [[.l (.v (.i .i64)), .l (.v (.i .i64)), .l (.v (.i .i64)), .l (.v (.i .i64)), .l (.v (.i .i64)), .l (.v (.i .i64)), .l (.v (.i .i64)), .l (.v (.i .i64)), .l (.v (.i .i64)), .l (.v (.i .i64)), .l (.v .b), .l (.v .b), .l (.v .s), .l (.v (.i .i64)), .l (.v (.i .i64)), .l (.v .s), .l (.v (.i .i64)), .l (.v .b), .l (.v (.i .i64)), .l (.v .s), .l (.v .s), .l (.v (.l (.i .i64))), .l (.v (.i .i64)), .l (.v .b)]]⟩], [.l (.v (.i .i64))], [⟨24, false, .mix (some 74) [[.l (.v (.i .i64)), .l (.v (.i .i64)), .l (.v (.i .i64)), .l (.v (.i .i64)), .l (.v (.i .i64)), .l (.v (.i .i64)), .l (.v (.i .i64)), .l (.v (.i .i64)), .l (.v (.i .i64)), .l (.v (.i .i64)), .l (.v .b), .l (.v .b), .l (.v .s), .l (.v (.i .i64)), .l (.v (.i .i64)), .l (.v .s), .l (.v (.i .i64)), .l (.v .b), .l (.v (.i .i64)), .l (.v .s), .l (.v .s), .l (.v (.l (.i .i64))), .l (.v (.i .i64)), .l (.v .b)]]⟩], [], F70 K⟩
theorem c70 (K : Nat) : CtOk prog 70 (ct70 K) :=
  con_mk (Y := Y) (L := [(51, ct51k K)]) (K := K) (an := (.seq .no (.seq .no (.seq (.blk (.seq .no (.cond .no (.seq .no (.cond .no .no))))) .no)))) func70 mixed (ctabOk_keep (c51k K) ctabOk_nil) (by kernel_rfl) fun x => by kernel_rfl

def ct70k (K : Nat) : Ct := ⟨[.l (.ptr 0 0 0), .l (.v (.i .i64)), .l (.v .b)], [⟨24, false, .mix (some 74) [[.l (.v (.i .i64)), .l (.v (.i .i64)), .l (.v (.i .i64)), .l (.v (.i .i64)), .l (.v (.i .i64)), .l (.v (.i .i64)), .l (.v (.i .i64)), .l (.v (.i .i64)), .l (.v (.i .i64)), .l (.v (.i .i64)), .l (.v .b), .l (.v .b), .l (.v .s), .l (.v (.i .i64)), .l (.v (.i .i64)), .l (.v .s), .l (.v (.i .i64)), .l (.v .b), .l (.v (.i .i64)), .l (.v .s), .l (.v .s), .l (.v (.l (.i .i64))), .l (.v (.i .i64)), .l (.v .b)]]⟩], [.l (.v (.i .i64))], [⟨24, false, .mix (some 74) [[.l (.v (.i .i64)), .l (.v (.i .i64)), .l (.v (.i .i64)), .l (.v (.i .i64)), .l (.v (.i .i64)), .l (.v (.i .i64)), .l (.v (.i .i64)), .l (.v (.i .i64)), .l (.v (.i .i64)), .l (.v (.i .i64)), .l (.v .b), .l (.v .b), .l (.v .s), .l (.v (.i .i64)), .l (.v (.i .i64)), .l (.v .s), .l (.v (.i .i64)), .l (.v .b), .l (.v (.i .i64)), .l (.v .s), .l (.v .s), .l (.v (.l (.i .i64))), .l (.v (.i .i64)), .l (.v .b)]]⟩], keepRefs, F70 K⟩
theorem keep70 (K : Nat) (x : Int × Bool × Int × Int × Int × Int × Int × Int × Int × Int × Int × Int × Bool × Bool × (List UInt8) × Int × Int × (List UInt8) × Int × Bool × Int × (List UInt8) × (List UInt8) × (List Int) × Int × Bool) (y : Int × Int × Int × Int × Int × Int × Int × Int × Int × Int × Int × Bool × Bool × (List UInt8) × Int × Int × (List UInt8) × Int × Bool × Int × (List UInt8) × (List UInt8) × (List Int) × Int × Bool) (h : F70 K x = some y) : y.2 = x.2.2 := by
  unfold F70 at h
  rcases branch_some h with ⟨_, h⟩ | ⟨_, h⟩
  ·
    obtain ⟨_, hb, h⟩ := bindO_some h
    obtain ⟨_, hb, h⟩ := bindO_some h
    cases h; rfl
  ·
    rcases branch_some h with ⟨_, h⟩ | ⟨_, h⟩
    ·
      cases h; rfl
    ·
      cases h; rfl
theorem c70k (K : Nat) : CtKeep prog 70 (ct70k K) := ct_keep3 (Eq.mpr (by kernel_rfl : CtOk prog 70 (ct70k K) = CtOk prog 70 (ct70 K)) (c70 K)) (by kernel_rfl) (Eq.mpr (by kernel_rfl : KeepsF [.l (.ptr 0 0 0), .l (.v (.i .i64)), .l (.v .b)] [⟨24, false, .mix (some 74) [[.l (.v (.i .i64)), .l (.v (.i .i64)), .l (.v (.i .i64)), .l (.v (.i .i64)), .l (.v (.i .i64)), .l (.v (.i .i64)), .l (.v (.i .i64)), .l (.v (.i .i64)), .l (.v (.i .i64)), .l (.v (.i .i64)), .l (.v .b), .l (.v .b), .l (.v .s), .l (.v (.i .i64)), .l (.v (.i .i64)), .l (.v .s), .l (.v (.i .i64)), .l (.v .b), .l (.v (.i .i64)), .l (.v .s), .l (.v .s), .l (.v (.l (.i .i64))), .l (.v (.i .i64)), .l (.v .b)]]⟩] [.l (.v (.i .i64))] (F70 K) = ∀ (x : Int × Bool × Int × Int × Int × Int × Int × Int × Int × Int × Int × Int × Bool × Bool × (List UInt8) × Int × Int × (List UInt8) × Int × Bool × Int × (List UInt8) × (List UInt8) × (List Int) × Int × Bool) (y : Int × Int × Int × Int × Int × Int × Int × Int × Int × Int × Int × Bool × Bool × (List UInt8) × Int × Int × (List UInt8) × Int × Bool × Int × (List UInt8) × (List UInt8) × (List Int) × Int × Bool), F70 K x = some y → y.2 = x.2.2) (keep70 K))

-- loop.example/g00460/spec.AddWords
def F68 (K : Nat) (x : Int × Int × Int) : Option (Int × Int) :=
  bindO (α := (Int × Int) ⊕ (Int × Int × Int)) (bindO (α := Int × Int × Int × Bool) (bindO (F16 K x.1) fun v0 =>
      branch (!v0)
       (some (x.1, x.2.1, x.2.2, true))
       (bindO (F16 K x.2.1) fun v1 =>
       branch (!v1)
        (some (x.1, x.2.1, x.2.2, true))
        (bindO (F15 K x.2.2) fun v2 =>
        some (x.1, x.2.1, x.2.2, !v2)))) fun v3 =>
    branch v3.2.2.2
     (some (.inl (0, 0)))
     (some (.inr (v3.1, v3.2.1, v3.2.2.1)))) fun v4 =>
  csO v4
   (fun v5 => some v5)
   (fun v6 => bindO (F62 K (decide (128 ≤ v6.2.2), false, decide (4095 < (w64 ((Int.tmod v6.1 4096) + (Int.tmod v6.2.1 4096)))), decide (65535 < (w64 (v6.1 + v6.2.1))))) fun v7 =>
   some (Int.tmod (w64 (v6.1 + v6.2.1)) 65536, v7))
def ct68 (K : Nat) : Ct := ⟨[.l (.v (.i .i64)), .l (.v (.i .i64)), .l (.v (.i .i64))], [], [.l (.v (.i .i64)), .l (.v (.i .i64))], [], [], F68 K⟩
theorem c68 (K : Nat) : CtOk prog 68 (ct68 K) :=
  con_mk (Y := Y) (L := [(15, ct15 K), (16, ct16 K), (62, ct62 K)]) (K := K) (an := (.seq .no (.seqJ [(1000000, ⟨(.l (.v (.i .i64)) :: .l (.v (.i .i64)) :: .l (.v (.i .i64)) :: ru 35 []), []⟩)] true (.seqJ [(1000000, ⟨(.l (.v (.i .i64)) :: .l (.v (.i .i64)) :: .l (.v (.i .i64)) :: ru 17 (.l (.v .b) :: ru 17 [])), []⟩)] false .no (.cond .no .no)) .no))) func68 mixed (ctabOk_cons (c15 K) (ctabOk_cons (c16 K) (ctabOk_cons (c62 K) ctabOk_nil))) (by kernel_rfl) fun x => by kernel_rfl

-- loop.example/g00460/spec.Stepped8
def F71 (K : Nat) (x : Int × Int × Bool) : Option (Int × Int) :=
  bindO (α := (Int × Int) ⊕ (Int × Int × Bool)) (bindO (α := Int × Int × Bool × Bool) (bindO (F15 K x.1) fun v0 =>
      branch (!v0)
       (some (x.1, x.2.1, x.2.2, true))
       (bindO (F15 K x.2.1) fun v1 =>
       some (x.1, x.2.1, x.2.2, !v1))) fun v2 =>
    branch v2.2.2.2
     (some (.inl (0, 0)))
     (some (.inr (v2.1, v2.2.1, v2.2.2.1)))) fun v3 =>
  csO v3
   (fun v4 => some v4)
   (fun v5 => branch v5.2.2
    (bindO (F63 K v5.2.1) fun v6 =>
    bindO (F62 K (decide ((Int.tmod (w64 (v5.1 + 255)) 256) = 0), true, decide ((Int.tmod v5.1 16) = 0), decide (v6 = 1))) fun v7 =>
    some (Int.tmod (w64 (v5.1 + 255)) 256, v7))
    (bindO (F63 K v5.2.1) fun v8 =>
    bindO (F62 K (decide ((Int.tmod (w64 (v5.1 + 1)) 256) = 0), false, decide ((Int.tmod v5.1 16) = 15), decide (v8 = 1))) fun v9 =>
    some (Int.tmod (w64 (v5.1 + 1)) 256, v9)))
def ct71 (K : Nat) : Ct := ⟨[.l (.v (.i .i64)), .l (.v (.i .i64)), .l (.v .b)], [], [.l (.v (.i .i64)), .l (.v (.i .i64))], [], [], F71 K⟩
theorem c71 (K : Nat) : CtOk prog 71 (ct71 K) :=
  con_mk (Y := Y) (L := [(15, ct15 K), (63, ct63 K), (62, ct62 K)]) (K := K) (an := (.seq .no (.seqJ [(1000000, ⟨(.l (.v (.i .i64)) :: .l (.v (.i .i64)) :: .l (.v .b) :: ru 42 []), []⟩)] true (.seqJ [(1000000, ⟨(.l (.v (.i .i64)) :: .l (.v (.i .i64)) :: .l (.v .b) :: ru 14 (.l (.v .b) :: ru 27 [])), []⟩)] false .no (.cond .no .no)) (.seq (.seq .no (.cond (.seq .no .no) .no)) (.seq .no .no))))) func71 mixed (ctabOk_cons (c15 K) (ctabOk_cons (c63 K) (ctabOk_cons (c62 K) ctabOk_nil))) (by kernel_rfl) fun x => by kernel_rfl

-- loop.example/g00460/spec.Daa
def F88 (K : Nat) (x : Int × Int) : Option (Int × Int) :=
  bindO (α := (Int × Int) ⊕ (Int × Int)) (bindO (α := Int × Int × Bool) (bindO (F15 K x.1) fun v0 =>
      branch (!v0)
       (some (x.1, x.2, true))
       (bindO (F15 K x.2) fun v1 =>
       some (x.1, x.2, !v1))) fun v2 =>
    branch v2.2.2
     (some (.inl (0, 0)))
     (some (.inr (v2.1, v2.2.1)))) fun v3 =>
  csO v3
   (fun v4 => some v4)
   (fun v5 => bindO (F63 K v5.2) fun v6 =>
   bindO (α := Int × Bool × Bool × Int) (bindO (α := Int × Bool × Bool × Int × Bool) (branch (decide ((Int.tmod (w64 (Int.tdiv v5.2 32)) 2) = 1))
        (some (v5.1, decide ((Int.tmod (w64 (Int.tdiv v5.2 64)) 2) = 1), decide (v6 = 1), 0, true))
        (branch (!(decide ((Int.tmod (w64 (Int.tdiv v5.2 64)) 2) = 1)))
         (some (v5.1, decide ((Int.tmod (w64 (Int.tdiv v5.2 64)) 2) = 1), decide (v6 = 1), 0, decide (9 < (Int.tmod v5.1 16))))
         (some (v5.1, decide ((Int.tmod (w64 (Int.tdiv v5.2 64)) 2) = 1), decide (v6 = 1), 0, false)))) fun v7 =>
     branch v7.2.2.2.2
      (some (v7.1, v7.2.1, v7.2.2.1, 6))
      (some (v7.1, v7.2.1, v7.2.2.1, v7.2.2.2.1))) fun v8 =>
   bindO (α := Int × Bool × Bool × Int) (bindO (α := Int × Bool × Bool × Int × Bool) (branch v8.2.2.1
        (some (v8.1, v8.2.1, v8.2.2.1, v8.2.2.2, true))
        (branch (!v8.2.1)
         (some (v8.1, v8.2.1, v8.2.2.1, v8.2.2.2, decide (153 < v8.1)))
         (some (v8.1, v8.2.1, v8.2.2.1, v8.2.2.2, false)))) fun v9 =>
     branch v9.2.2.2.2
      (some (v9.1, v9.2.1, true, w64 (v9.2.2.2.1 + 96)))
      (some (v9.1, v9.2.1, v9.2.2.1, v9.2.2.2.1))) fun v10 =>
   bindO (α := Int × Bool × Bool × Int) (branch v10.2.1
      (some (v10.1, v10.2.1, v10.2.2.1, w64 (0 - v10.2.2.2)))
      (some v10)) fun v11 =>
   bindO (F62 K (decide ((Int.tmod (w64 ((w64 (v11.1 + v11.2.2.2)) + 256)) 256) = 0), v11.2.1, false, v11.2.2.1)) fun v12 =>
   some (Int.tmod (w64 ((w64 (v11.1 + v11.2.2.2)) + 256)) 256, v12))
def ct88 (K : Nat) : Ct := ⟨[.l (.v (.i .i64)), .l (.v (.i .i64))], [], [.l (.v (.i .i64)), .l (.v (.i .i64))], [], [], F88 K⟩
theorem c88 (K : Nat) : CtOk prog 88 (ct88 K) :=
  con_mk (Y := Y) (L := [(15, ct15 K), (63, ct63 K), (62, ct62 K)]) (K := K) (an := (.seq .no (.seqJ [(1000000, ⟨(.l (.v (.i .i64)) :: .l (.v (.i .i64)) :: ru 63 []), []⟩)] true (.seqJ [(1000000, ⟨(.l (.v (.i .i64)) :: .l (.v (.i .i64)) :: ru 16 (.l (.v .b) :: ru 46 [])), []⟩)] false .no (.cond .no .no)) (.seq .no (.seq .no (.seq .no (.seq .no (.seqJ [(1000000, ⟨(.l (.v (.i .i64)) :: ru 5 (.l (.v .b) :: ru 1 (.l (.v .b) :: .l (.v (.i .i64)) :: ru 55 []))), []⟩)] false (.seqJ [(1000000, ⟨(.l (.v (.i .i64)) :: ru 5 (.l (.v .b) :: ru 1 (.l (.v .b) :: .l (.v (.i .i64)) :: ru 29 (.l (.v .b) :: ru 25 [])))), []⟩)] false .no .no) (.seqJ [(1000000, ⟨(.l (.v (.i .i64)) :: ru 5 (.l (.v .b) :: ru 1 (.l (.v .b) :: .l (.v (.i .i64)) :: ru 55 []))), []⟩)] false (.seqJ [(1000000, ⟨(.l (.v (.i .i64)) :: ru 5 (.l (.v .b) :: ru 1 (.l (.v .b) :: .l (.v (.i .i64)) :: ru 38 (.l (.v .b) :: ru 16 [])))), []⟩)] false .no (.cond .no .no)) (.seqJ [(1000000, ⟨(.l (.v (.i .i64)) :: ru 5 (.l (.v .b) :: ru 1 (.l (.v .b) :: .l (.v (.i .i64)) :: ru 55 []))), []⟩)] false (.seq .no .no) (.seq .no .no))))))))))) func88 mixed (ctabOk_cons (c15 K) (ctabOk_cons (c63 K) (ctabOk_cons (c62 K) ctabOk_nil))) (by kernel_rfl) fun x => by kernel_rfl

-- (*loop.example/g00460/spec.l6W).odd
def F72 (K : Nat) (x : Int × Int × Int × Int × Int × Int × Int × Int × Int × Int × Int × Bool × Bool × (List UInt8) × Int × Int × (List UInt8) × Int × Bool × Int × (List UInt8) × (List UInt8) × (List Int) × Int × Bool) : Option (Int × Int × Int × Int × Int × Int × Int × Int × Int × Int × Bool × Bool × (List UInt8) × Int × Int × (List UInt8) × Int × Bool × Int × (List UInt8) × (List UInt8) × (List Int) × Int × Bool) :=
  bindO (F63 K x.2.2.1) fun v0 =>
  branch (decide (x.1 = 4))
   (bindO (F88 K (x.2.1, x.2.2.1)) fun v1 =>
   some (v1.1, v1.2, x.2.2.2))
   (branch (decide (x.1 = 5))
    (bindO (F62 K (decide (128 ≤ x.2.2.1), true, true, decide (v0 = 1))) fun v2 =>
    some (w64 (255 - x.2.1), v2, x.2.2.2))
    (branch (decide (x.1 = 6))
     (bindO (F62 K (decide (128 ≤ x.2.2.1), false, false, true)) fun v3 =>
     some (x.2.1, v3, x.2.2.2))
     (branch (decide (x.1 = 7))
      (bindO (F62 K (decide (128 ≤ x.2.2.1), false, false, !(decide (v0 = 1)))) fun v4 =>
      some (x.2.1, v4, x.2.2.2))
      (bindO (F61 K (x.1, x.2.1, x.2.2.1)) fun v5 =>
      bindO (F63 K v5.2) fun v6 =>
      bindO (F62 K (false, false, false, decide (v6 = 1))) fun v7 =>
      some (v5.1, v7, x.2.2.2)))))
def ct72 (K : Nat) : Ct := ⟨[.l (.ptr 0 0 0), .l (.v (.i .i64))], [⟨24, false, .mix (some 74) [[.l (.v (.i .i64)), .l (.v (.i .i64)), .l (.v (.i .i64)), .l (.v (.i .i64)), .l (.v (.i .i64)), .l (.v (.i .i64)), .l (.v (.i .i64)), .l (.v (.i .i64)), .l (.v (.i .i64)), .l (.v (.i .i64)), .l (.v .b), .l (.v .b), .l (.v .s), .l (.v (.i .i64)), .l (.v (.i .i64)), .l (.v .s), .l (.v (.i .i64)), .l (.v .b), .l (.v (.i .i64)), .l (.v .s), .l (.v .s), .l (.v (.l (.i .i64))), .l (.v (.i .i64)), .l (.v .b)]]⟩], [], [⟨24, false, .mix (some 74) [[.l (.v (.i .i64)), .l (.v (.i .i64)), .l (.v (.i .i64)), .l (.v (.i .i64)), .l (.v (.i .i64)), .l (.v (.i .i64)), .l (.v (.i .i64)), .l (.v (.i .i64)), .l (.v (.i .i64)), .l (.v (.i .i64)), .l (.v .b), .l (.v .b), .l (.v .s), .l (.v (.i .i64)), .l (.v (.i .i64)), .l (.v .s), .l (.v (.i .i64)), .l (.v .b), .l (.v (.i .i64)), .l (.v .s), .l (.v .s), .l (.v (.l (.i .i64))), .l (.v (.i .i64)), .l (.v .b)]]⟩], [], F72 K⟩
theorem c72 (K : Nat) : CtOk prog 72 (ct72 K) :=
  con_mk (Y := Y) (L := [(63, ct63 K), (62, ct62 K), (61, ct61 K), (88, ct88 K)]) (K := K) (an := (.seq .no (.seq .no (.seq .no (.seq .no (.blk (.seq .no (.cond (.seq .no .no) (.seq .no (.cond .no (.seq .no (.cond .no (.seq .no (.cond .no (.seq .no .no))))))))))))))) func72 mixed (ctabOk_cons (c63 K) (ctabOk_cons (c62 K) (ctabOk_cons (c61 K) (ctabOk_cons (c88 K) ctabOk_nil)))) (by kernel_rfl) fun x => by kernel_rfl

-- (*loop.example/g00460/spec.l6W).low
def F49 (K : Nat) (x : Int × Bool × Int × Int × Int × Int × Int × Int × Int × Int × Int × Int × Int × Bool × Bool × (List UInt8) × Int × Int × (List UInt8) × Int × Bool × Int × (List UInt8) × (List UInt8) × (List Int) × Int × Bool) : Option (Bool × Int × Int × Int × Int × Int × Int × Int × Int × Int × Int × Bool × Bool × (List UInt8) × Int × Int × (List UInt8) × Int × Bool × Int × (List UInt8) × (List UInt8) × (List Int) × Int × Bool) :=
  bindO (α := Int × Int × Int × Bool × Int × Bool × Int × Int × Int × Int × Int × Int × Int × Int × Int × Int × Int × Bool × Bool × (List UInt8) × Int × Int × (List UInt8) × Int × Bool × Int × (List UInt8) × (List UInt8) × (List Int) × Int × Bool) (branch (decide ((Int.tmod x.1 8) = 0))
     (some (w64 (Int.tdiv x.1 8), Int.tmod x.1 8, w64 (Int.tdiv (w64 (Int.tdiv x.1 8)) 2), decide ((w64 (Int.tdiv x.1 8)) = 1), x))
     (some (w64 (Int.tdiv x.1 8), Int.tmod x.1 8, w64 (Int.tdiv (w64 (Int.tdiv x.1 8)) 2), false, x))) fun v0 =>
  branch v0.2.2.2.1
   (bindO (F64 K (v0.2.2.2.2.2.2.1, Int.tmod v0.2.2.2.2.2.2.2.2.2.2.2.2.2.2.2.1 256, v0.2.2.2.2.2.2.2)) fun v1 =>
   bindO (F64 K (w64 (v0.2.2.2.2.2.2.1 + 1), w64 (Int.tdiv v1.2.2.2.2.2.2.2.2.1 256), v1)) fun v2 =>
   some (false, v2))
   (bindO (α := Int × Int × Int × Bool × Int × Bool × Int × Int × Int × Int × Int × Int × Int × Int × Int × Int × Int × Bool × Bool × (List UInt8) × Int × Int × (List UInt8) × Int × Bool × Int × (List UInt8) × (List UInt8) × (List Int) × Int × Bool) (bindO (α := Int × Int × Int × Bool × Int × Bool × Int × Int × Int × Int × Int × Int × Int × Int × Int × Int × Int × Bool × Bool × (List UInt8) × Int × Int × (List UInt8) × Int × Bool × Int × (List UInt8) × (List UInt8) × (List Int) × Int × Bool) (branch (decide (v0.2.1 = 0))
        (some (v0.1, v0.2.1, v0.2.2.1, decide (v0.1 = 3), v0.2.2.2.2))
        (some (v0.1, v0.2.1, v0.2.2.1, false, v0.2.2.2.2))) fun v3 =>
     branch v3.2.2.2.1
      (some (v3.1, v3.2.1, v3.2.2.1, true, v3.2.2.2.2))
      (branch (decide (v3.2.1 = 0))
       (branch (decide (3 < v3.1))
        (bindO (F65 K (w64 (v3.1 - 4), v3.2.2.2.2.2.2.2)) fun v4 =>
        some (v3.1, v3.2.1, v3.2.2.1, v4.1, v3.2.2.2.2))
        (some (v3.1, v3.2.1, v3.2.2.1, false, v3.2.2.2.2)))
       (some (v3.1, v3.2.1, v3.2.2.1, false, v3.2.2.2.2)))) fun v5 =>
   branch v5.2.2.2.1
    (bindO (F66 K v5.2.2.2.2.2.2.1) fun v6 =>
    some (true, v5.2.2.2.2.2.2.2.1, v5.2.2.2.2.2.2.2.2.1, v5.2.2.2.2.2.2.2.2.2.1, v5.2.2.2.2.2.2.2.2.2.2.1, v5.2.2.2.2.2.2.2.2.2.2.2.1, v5.2.2.2.2.2.2.2.2.2.2.2.2.1, v5.2.2.2.2.2.2.2.2.2.2.2.2.2.1, v5.2.2.2.2.2.2.2.2.2.2.2.2.2.2.1, v5.2.2.2.2.2.2.2.2.2.2.2.2.2.2.2.1, Int.tmod (w64 ((w64 (v5.2.2.2.2.2.2.2.2.2.2.2.2.2.2.2.2.1 + v6)) + 65536)) 65536, v5.2.2.2.2.2.2.2.2.2.2.2.2.2.2.2.2.2))
    (bindO (α := Int × Int × Int × Bool × Int × Bool × Int × Int × Int × Int × Int × Int × Int × Int × Int × Int × Int × Bool × Bool × (List UInt8) × Int × Int × (List UInt8) × Int × Bool × Int × (List UInt8) × (List UInt8) × (List Int) × Int × Bool) (branch (decide (v5.2.1 = 1))
       (some (v5.1, v5.2.1, v5.2.2.1, decide ((Int.tmod v5.1 2) = 0), v5.2.2.2.2))
       (some (v5.1, v5.2.1, v5.2.2.1, false, v5.2.2.2.2))) fun v7 =>
    branch v7.2.2.2.1
     (bindO (F67 K (v7.2.2.1, v7.2.2.2.2.2.2.1, false, v7.2.2.2.2.2.2.2)) fun v8 =>
     some (false, v8))
     (branch (decide (v7.2.1 = 1))
      (bindO (F69 K v7.2.2.2.2.2.2.2) fun v9 =>
      bindO (F70 K (v7.2.2.1, false, v7.2.2.2.2.2.2.2)) fun v10 =>
      bindO (F68 K (v9.1, v10.1, v7.2.2.2.2.2.2.2.2.1)) fun v11 =>
      bindO (F67 K (2, v11.1, false, v7.2.2.2.2.2.2.2)) fun v12 =>
      some (false, v12.1, v11.2, v12.2.2))
      (branch (decide (v7.2.1 = 2))
       (bindO (F70 K (mnI v7.2.2.1 2, false, v7.2.2.2.2.2.2.2)) fun v13 =>
       bindO (α := Int × Int × Int × Int × Int × Int × Int × Int × Int × Int × Int × Int × Bool × Bool × (List UInt8) × Int × Int × (List UInt8) × Int × Bool × Int × (List UInt8) × (List UInt8) × (List Int) × Int × Bool) (branch (decide ((Int.tmod v7.1 2) = 0))
          (bindO (F64 K (v13.1, v7.2.2.2.2.2.2.2.1, v7.2.2.2.2.2.2.2)) fun v14 =>
          some (v7.2.2.1, v13.1, v14))
          (bindO (F59 K (v7.2.2.2.2.2.2.2.1, v7.2.2.2.2.2.2.2.2.1, v7.2.2.2.2.2.2.2.2.2.1, v7.2.2.2.2.2.2.2.2.2.2.1, v7.2.2.2.2.2.2.2.2.2.2.2.1, v7.2.2.2.2.2.2.2.2.2.2.2.2.1, v7.2.2.2.2.2.2.2.2.2.2.2.2.2.1, v7.2.2.2.2.2.2.2.2.2.2.2.2.2.2.1, v7.2.2.2.2.2.2.2.2.2.2.2.2.2.2.2.1, v7.2.2.2.2.2.2.2.2.2.2.2.2.2.2.2.2.1, v7.2.2.2.2.2.2.2.2.2.2.2.2.2.2.2.2.2.1, v7.2.2.2.2.2.2.2.2.2.2.2.2.2.2.2.2.2.2.1, v7.2.2.2.2.2.2.2.2.2.2.2.2.2.2.2.2.2.2.2.1, v7.2.2.2.2.2.2.2.2.2.2.2.2.2.2.2.2.2.2.2.2.1, v7.2.2.2.2.2.2.2.2.2.2.2.2.2.2.2.2.2.2.2.2.2.1, v7.2.2.2.2.2.2.2.2.2.2.2.2.2.2.2.2.2.2.2.2.2.2.1, v7.2.2.2.2.2.2.2.2.2.2.2.2.2.2.2.2.2.2.2.2.2.2.2.1, v7.2.2.2.2.2.2.2.2.2.2.2.2.2.2.2.2.2.2.2.2.2.2.2.2.1, v7.2.2.2.2.2.2.2.2.2.2.2.2.2.2.2.2.2.2.2.2.2.2.2.2.2.1, v7.2.2.2.2.2.2.2.2.2.2.2.2.2.2.2.2.2.2.2.2.2.2.2.2.2.2.1, v7.2.2.2.2.2.2.2.2.2.2.2.2.2.2.2.2.2.2.2.2.2.2.2.2.2.2.2.1, v7.2.2.2.2.2.2.2.2.2.2.2.2.2.2.2.2.2.2.2.2.2.2.2.2.2.2.2.2.1, v7.2.2.2.2.2.2.2.2.2.2.2.2.2.2.2.2.2.2.2.2.2.2.2.2.2.2.2.2.2.1, v13.1)) fun v15 =>
          some (v7.2.2.1, v13.1, v15, v7.2.2.2.2.2.2.2.2))) fun v16 =>
       branch (decide (1 < v16.1))
        (guard (decide (0 ≤ (w64 (v16.1 - 2)) ∧ (w64 (v16.1 - 2)) < (2 : Int))) <|
        nthN [1, 65535] ((w64 (v16.1 - 2)).toNat) fun v17 =>
        bindO (F67 K (2, Int.tmod (w64 (v16.2.1 + v17)) 65536, false, v16.2.2)) fun v18 =>
        some (false, v18))
        (some (false, v16.2.2)))
       (branch (decide (v7.2.1 = 3))
        (bindO (F70 K (v7.2.2.1, false, v7.2.2.2.2.2.2.2)) fun v19 =>
        nth [1, 65535] (Int.tmod v7.1 2) fun v20 =>
        bindO (F67 K (v7.2.2.1, Int.tmod (w64 (v19.1 + v20)) 65536, false, v7.2.2.2.2.2.2.2)) fun v21 =>
        some (false, v21))
        (bindO (α := Int × Int × Bool × Int × Bool × Int × Int × Int × Int × Int × Int × Int × Int × Int × Int × Int × Bool × Bool × (List UInt8) × Int × Int × (List UInt8) × Int × Bool × Int × (List UInt8) × (List UInt8) × (List Int) × Int × Bool) (branch (decide (v7.2.1 = 4))
           (some (v7.1, v7.2.1, true, v7.2.2.2.2))
           (some (v7.1, v7.2.1, decide (v7.2.1 = 5), v7.2.2.2.2))) fun v22 =>
        branch v22.2.2.1
         (bindO (F51 K (v22.1, v22.2.2.2.2.2.2)) fun v23 =>
         bindO (F71 K (v23.1, v22.2.2.2.2.2.2.2.1, decide (v22.2.1 = 5))) fun v24 =>
         bindO (F50 K (v22.1, v24.1, v22.2.2.2.2.2.2)) fun v25 =>
         some (false, v25.1, v24.2, v25.2.2))
         (branch (decide (v22.2.1 = 6))
          (bindO (F50 K (v22.1, v22.2.2.2.2.2)) fun v26 =>
          some (false, v26))
          (branch (decide (v22.2.1 = 7))
           (bindO (F72 K (v22.1, v22.2.2.2.2.2.2)) fun v27 =>
           some (false, v27))
           (some (false, v22.2.2.2.2.2.2))))))))))
def ct49 (K : Nat) : Ct := ⟨[.l (.ptr 0 0 0), .agg [(.v (.i .i64)), (.v .b), (.v (.i .i64))]], [⟨24, false, .mix (some 74) [[.l (.v (.i .i64)), .l (.v (.i .i64)), .l (.v (.i .i64)), .l (.v (.i .i64)), .l (.v (.i .i64)), .l (.v (.i .i64)), .l (.v (.i .i64)), .l (.v (.i .i64)), .l (.v (.i .i64)), .l (.v (.i .i64)), .l (.v .b), .l (.v .b), .l (.v .s), .l (.v (.i .i64)), .l (.v (.i .i64)), .l (.v .s), .l (.v (.i .i64)), .l (.v .b), .l (.v (.i .i64)), .l (.v .s), .l (.v .s), .l (.v (.l (.i .i64))), .l (.v (.i .i64)), .l (.v .b)]]⟩], [.l (.v .b)], [⟨24, false, .mix (some 74) [[.l (.v (.i .i64)), .l (.v (.i .i64)), .l (.v (.i .i64)), .l (.v (.i .i64)), .l (.v (.i .i64)), .l (.v (.i .i64)), .l (.v (.i .i64)), .l (.v (.i .i64)), .l (.v (.i .i64)), .l (.v (.i .i64)), .l (.v .b), .l (.v .b), .l (.v .s), .l (.v (.i .i64)), .l (.v (.i .i64)), .l (.v .s), .l (.v (.i .i64)), .l (.v .b), .l (.v (.i .i64)), .l (.v .s), .l (.v .s), .l (.v (.l (.i .i64))), .l (.v (.i .i64)), .l (.v .b)]]⟩], [], F49 K⟩
theorem c49 (K : Nat) : CtOk prog 49 (ct49 K) :=
  con_mk (Y := Y) (L := [(59, ct59 K), (69, ct69k K), (51, ct51k K), (64, ct64 K), (50, ct50 K), (65, ct65k K), (66, ct66 K), (67, ct67 K), (70, ct70k K), (68, ct68 K), (71, ct71 K), (72, ct72 K)]) (K := K) (an := (.seq .no (.seq .no (.seq .no (.seq .no (.seq (.blk (.seqJ [(1000000, ⟨(.l (.ptr 0 0 0) :: ru 2 (.l (.ptr 4000 0 0) :: ru 1 (.l (.v (.i .i64)) :: .l (.v (.i .i64)) :: .l (.v (.i .i64)) :: ru 13 (.l (.v .b) :: ru 209 [])))), [(4000, ⟨3, false, .mix (some 60) [[.l (.v (.i .i64)), .l (.v .b), .l (.v (.i .i64))]]⟩), (0, ⟨24, false, .mix (some 74) [[.l (.v (.i .i64)), .l (.v (.i .i64)), .l (.v (.i .i64)), .l (.v (.i .i64)), .l (.v (.i .i64)), .l (.v (.i .i64)), .l (.v (.i .i64)), .l (.v (.i .i64)), .l (.v (.i .i64)), .l (.v (.i .i64)), .l (.v .b), .l (.v .b), .l (.v .s), .l (.v (.i .i64)), .l (.v (.i .i64)), .l (.v .s), .l (.v (.i .i64)), .l (.v .b), .l (.v (.i .i64)), .l (.v .s), .l (.v .s), .l (.v (.l (.i .i64))), .l (.v (.i .i64)), .l (.v .b)]]⟩)]⟩)] false .no (.cond .no (.seqJ [(1000000, ⟨(.l (.ptr 0 0 0) :: ru 2 (.l (.ptr 4000 0 0) :: ru 1 (.l (.v (.i .i64)) :: .l (.v (.i .i64)) :: .l (.v (.i .i64)) :: ru 43 (.l (.v .b) :: ru 179 [])))), [(4000, ⟨3, false, .mix (some 60) [[.l (.v (.i .i64)), .l (.v .b), .l (.v (.i .i64))]]⟩), (0, ⟨24, false, .mix (some 74) [[.l (.v (.i .i64)), .l (.v (.i .i64)), .l (.v (.i .i64)), .l (.v (.i .i64)), .l (.v (.i .i64)), .l (.v (.i .i64)), .l (.v (.i .i64)), .l (.v (.i .i64)), .l (.v (.i .i64)), .l (.v (.i .i64)), .l (.v .b), .l (.v .b), .l (.v .s), .l (.v (.i .i64)), .l (.v (.i .i64)), .l (.v .s), .l (.v (.i .i64)), .l (.v .b), .l (.v (.i .i64)), .l (.v .s), .l (.v .s), .l (.v (.l (.i .i64))), .l (.v (.i .i64)), .l (.v .b)]]⟩)]⟩)] false (.seqJ [(1000000, ⟨(.l (.ptr 0 0 0) :: ru 2 (.l (.ptr 4000 0 0) :: ru 1 (.l (.v (.i .i64)) :: .l (.v (.i .i64)) :: .l (.v (.i .i64)) :: ru 43 (.l (.v .b) :: ru 179 [])))), [(4000, ⟨3, false, .mix (some 60) [[.l (.v (.i .i64)), .l (.v .b), .l (.v (.i .i64))]]⟩), (0, ⟨24, false, .mix (some 74) [[.l (.v (.i .i64)), .l (.v (.i .i64)), .l (.v (.i .i64)), .l (.v (.i .i64)), .l (.v (.i .i64)), .l (.v (.i .i64)), .l (.v (.i .i64)), .l (.v (.i .i64)), .l (.v (.i .i64)), .l (.v (.i .i64)), .l (.v .b), .l (.v .b), .l (.v .s), .l (.v (.i .i64)), .l (.v (.i .i64)), .l (.v .s), .l (.v (.i .i64)), .l (.v .b), .l (.v (.i .i64)), .l (.v .s), .l (.v .s), .l (.v (.l (.i .i64))), .l (.v (.i .i64)), .l (.v .b)]]⟩)]⟩)] false .no .no) (.cond (.seq .no .no) (.seqJ [(1000000, ⟨(.l (.ptr 0 0 0) :: ru 2 (.l (.ptr 4000 0 0) :: ru 1 (.l (.v (.i .i64)) :: .l (.v (.i .i64)) :: .l (.v (.i .i64)) :: ru 79 (.l (.v .b) :: ru 143 [])))), [(4000, ⟨3, false, .mix (some 60) [[.l (.v (.i .i64)), .l (.v .b), .l (.v (.i .i64))]]⟩), (0, ⟨24, false, .mix (some 74) [[.l (.v (.i .i64)), .l (.v (.i .i64)), .l (.v (.i .i64)), .l (.v (.i .i64)), .l (.v (.i .i64)), .l (.v (.i .i64)), .l (.v (.i .i64)), .l (.v (.i .i64)), .l (.v (.i .i64)), .l (.v (.i .i64)), .l (.v .b), .l (.v .b), .l (.v .s), .l (.v (.i .i64)), .l (.v (.i .i64)), .l (.v .s), .l (.v (.i .i64)), .l (.v .b), .l (.v (.i .i64)), .l (.v .s), .l (.v .s), .l (.v (.l (.i .i64))), .l (.v (.i .i64)), .l (.v .b)]]⟩)]⟩)] false .no (.cond .no (.seq .no (.cond (.seq .no .no) (.seq .no (.cond (.seq .no (.seqJ [(1000000, ⟨(.l (.ptr 0 0 0) :: ru 6 (.l (.v (.i .i64)) :: ru 2 (.l (.v (.i .i64)) :: ru 220 []))), [(0, ⟨24, false, .mix (some 74) [[.l (.v (.i .i64)), .l (.v (.i .i64)), .l (.v (.i .i64)), .l (.v (.i .i64)), .l (.v (.i .i64)), .l (.v (.i .i64)), .l (.v (.i .i64)), .l (.v (.i .i64)), .l (.v (.i .i64)), .l (.v (.i .i64)), .l (.v .b), .l (.v .b), .l (.v .s), .l (.v (.i .i64)), .l (.v (.i .i64)), .l (.v .s), .l (.v (.i .i64)), .l (.v .b), .l (.v (.i .i64)), .l (.v .s), .l (.v .s), .l (.v (.l (.i .i64))), .l (.v (.i .i64)), .l (.v .b)]]⟩)]⟩)] false (.seq .no .no) (.seq .no .no))) (.seq .no (.cond (.reg [5] []) (.seqJ [(1000000, ⟨(.l (.ptr 0 0 0) :: ru 2 (.l (.ptr 4000 0 0) :: ru 1 (.l (.v (.i .i64)) :: .l (.v (.i .i64)) :: ru 178 (.l (.v .b) :: ru 45 [])))), [(4000, ⟨3, false, .mix (some 60) [[.l (.v (.i .i64)), .l (.v .b), .l (.v (.i .i64))]]⟩), (0, ⟨24, false, .mix (some 74) [[.l (.v (.i .i64)), .l (.v (.i .i64)), .l (.v (.i .i64)), .l (.v (.i .i64)), .l (.v (.i .i64)), .l (.v (.i .i64)), .l (.v (.i .i64)), .l (.v (.i .i64)), .l (.v (.i .i64)), .l (.v (.i .i64)), .l (.v .b), .l (.v .b), .l (.v .s), .l (.v (.i .i64)), .l (.v (.i .i64)), .l (.v .s), .l (.v (.i .i64)), .l (.v .b), .l (.v (.i .i64)), .l (.v .s), .l (.v .s), .l (.v (.l (.i .i64))), .l (.v (.i .i64)), .l (.v .b)]]⟩)]⟩)] false .no (.cond (.seq .no .no) (.seq .no (.cond .no (.seq .no .no)))))))))))))))))) .no)))))) func49 mixed (ctabOk_cons (c59 K) (ctabOk_keep (c69k K) (ctabOk_keep (c51k K) (ctabOk_cons (c64 K) (ctabOk_cons (c50 K) (ctabOk_keep (c65k K) (ctabOk_cons (c66 K) (ctabOk_cons (c67 K) (ctabOk_keep (c70k K) (ctabOk_cons (c68 K) (ctabOk_cons (c71 K) (ctabOk_cons (c72 K) ctabOk_nil)))))))))))) (by kernel_rfl) fun x => by kernel_rfl

-- loop.example/g00460/spec.l4Alu
def F52 (K : Nat) (x : Int × Int × Int × Int) : Option (Int × Int) :=
  bindO (α := Int × Int × Int × Int) (bindO (α := Int × Int × Int × Int × Int × Bool) (branch (decide (x.1 = 1))
       (some (x.1, x.2.1, x.2.2.1, x.2.2.2, 0, true))
       (some (x.1, x.2.1, x.2.2.1, x.2.2.2, 0, decide (x.1 = 3)))) fun v0 =>
    branch v0.2.2.2.2.2
     (bindO (F63 K v0.2.2.2.1) fun v1 =>
     some (v0.1, v0.2.1, v0.2.2.1, v1))
     (some (v0.1, v0.2.1, v0.2.2.1, v0.2.2.2.2.1))) fun v2 =>
  bindO (α := (Int × Int) ⊕ (Int × Int × Int × Int)) (bindO (α := Int × Int × Int × Int × Int × Bool) (branch (decide (v2.1 = 0))
       (some (v2.1, v2.2.1, v2.2.2.1, v2.2.2.2, v2.1, true))
       (some (v2.1, v2.2.1, v2.2.2.1, v2.2.2.2, v2.1, decide (v2.1 = 1)))) fun v3 =>
    branch v3.2.2.2.2.2
     (bindO (F62 K (decide ((Int.tmod (w64 ((w64 (v3.2.1 + v3.2.2.1)) + v3.2.2.2.1)) 256) = 0), false, decide (15 < (w64 ((w64 ((Int.tmod v3.2.1 16) + (Int.tmod v3.2.2.1 16))) + v3.2.2.2.1))), decide (255 < (w64 ((w64 (v3.2.1 + v3.2.2.1)) + v3.2.2.2.1))))) fun v4 =>
     some (.inl (Int.tmod (w64 ((w64 (v3.2.1 + v3.2.2.1)) + v3.2.2.2.1)) 256, v4)))
     (branch (decide (v3.2.2.2.2.1 = 4))
      (bindO (F62 K (decide ((Go.bits Go.BinOp.and Go.IntKind.i64 v3.2.1 v3.2.2.1) = 0), false, true, false)) fun v5 =>
      some (.inl (Go.bits Go.BinOp.and Go.IntKind.i64 v3.2.1 v3.2.2.1, v5)))
      (branch (decide (v3.2.2.2.2.1 = 5))
       (bindO (F62 K (decide (v3.2.1 = v3.2.2.1), false, false, false)) fun v6 =>
       some (.inl (Go.bits Go.BinOp.xor Go.IntKind.i64 v3.2.1 v3.2.2.1, v6)))
       (branch (decide (v3.2.2.2.2.1 = 6))
        (bindO (F62 K (decide ((Go.bits Go.BinOp.or Go.IntKind.i64 v3.2.1 v3.2.2.1) = 0), false, false, false)) fun v7 =>
        some (.inl (Go.bits Go.BinOp.or Go.IntKind.i64 v3.2.1 v3.2.2.1, v7)))
        (some (.inr (v3.1, v3.2.1, v3.2.2.1, v3.2.2.2.1))))))) fun v8 =>
  csO v8
   (fun v9 => some v9)
   (fun v10 => bindO (F62 K (decide ((Int.tmod (w64 ((w64 ((w64 (v10.2.1 - v10.2.2.1)) - v10.2.2.2)) + 512)) 256) = 0), true, decide ((Int.tmod v10.2.1 16) < (w64 ((Int.tmod v10.2.2.1 16) + v10.2.2.2))), decide ((w64 ((w64 (v10.2.1 - v10.2.2.1)) - v10.2.2.2)) < 0))) fun v11 =>
   branch (decide (v10.1 = 7))
    (some (v10.2.1, v11))
    (some (Int.tmod (w64 ((w64 ((w64 (v10.2.1 - v10.2.2.1)) - v10.2.2.2)) + 512)) 256, v11)))
def ct52 (K : Nat) : Ct := ⟨[.l (.v (.i .i64)), .l (.v (.i .i64)), .l (.v (.i .i64)), .l (.v (.i .i64))], [], [.l (.v (.i .i64)), .l (.v (.i .i64))], [], [], F52 K⟩
theorem c52 (K : Nat) : CtOk prog 52 (ct52 K) :=
  con_mk (Y := Y) (L := [(63, ct63 K), (62, ct62 K)]) (K := K) (an := (.seq .no (.seq .no (.seqJ [(1000000, ⟨(.l (.v (.i .i64)) :: .l (.v (.i .i64)) :: .l (.v (.i .i64)) :: ru 7 (.l (.v (.i .i64)) :: ru 92 [])), []⟩)] false (.seqJ [(1000000, ⟨(.l (.v (.i .i64)) :: .l (.v (.i .i64)) :: .l (.v (.i .i64)) :: .l (.v (.i .i64)) :: ru 6 (.l (.v (.i .i64)) :: ru 9 (.l (.v .b) :: ru 82 []))), []⟩)] false .no .no) (.seqJ [(1000000, ⟨(.l (.v (.i .i64)) :: .l (.v (.i .i64)) :: .l (.v (.i .i64)) :: ru 7 (.l (.v (.i .i64)) :: ru 92 [])), []⟩)] true (.seq .no (.blk (.seqJ [(1000000, ⟨(.l (.v (.i .i64)) :: .l (.v (.i .i64)) :: .l (.v (.i .i64)) :: ru 7 (.l (.v (.i .i64)) :: ru 12 (.l (.v (.i .i64)) :: .l (.v .b) :: ru 78 []))), []⟩)] false (.seq .no .no) (.cond (.seq .no .no) (.seq .no (.cond .no (.seq .no (.cond .no (.seq .no (.cond .no .no)))))))))) (.seq .no (.seq .no (.seq .no (.seq (.seq .no (.cond .no .no)) .no))))))))) func52 mixed (ctabOk_cons (c63 K) (ctabOk_cons (c62 K) ctabOk_nil)) (by kernel_rfl) fun x => by kernel_rfl

-- (*loop.example/g00460/spec.l6W).pop
def F73 (K : Nat) (x : Int × Int × Int × Int × Int × Int × Int × Int × Int × Int × Bool × Bool × (List UInt8) × Int × Int × (List UInt8) × Int × Bool × Int × (List UInt8) × (List UInt8) × (List Int) × Int × Bool) : Option (Int × Int × Int × Int × Int × Int × Int × Int × Int × Int × Int × Bool × Bool × (List UInt8) × Int × Int × (List UInt8) × Int × Bool × Int × (List UInt8) × (List UInt8) × (List Int) × Int × Bool) :=
  bindO (F59 K (x.1, x.2.1, x.2.2.1, x.2.2.2.1, x.2.2.2.2.1, x.2.2.2.2.2.1, x.2.2.2.2.2.2.1, x.2.2.2.2.2.2.2.1, Int.tmod (w64 (x.2.2.2.2.2.2.2.2.1 + 2)) 65536, x.2.2.2.2.2.2.2.2.2.1, x.2.2.2.2.2.2.2.2.2.2.1, x.2.2.2.2.2.2.2.2.2.2.2.1, x.2.2.2.2.2.2.2.2.2.2.2.2.1, x.2.2.2.2.2.2.2.2.2.2.2.2.2.1, x.2.2.2.2.2.2.2.2.2.2.2.2.2.2.1, x.2.2.2.2.2.2.2.2.2.2.2.2.2.2.2.1, x.2.2.2.2.2.2.2.2.2.2.2.2.2.2.2.2.1, x.2.2.2.2.2.2.2.2.2.2.2.2.2.2.2.2.2.1, x.2.2.2.2.2.2.2.2.2.2.2.2.2.2.2.2.2.2.1, x.2.2.2.2.2.2.2.2.2.2.2.2.2.2.2.2.2.2.2.1, x.2.2.2.2.2.2.2.2.2.2.2.2.2.2.2.2.2.2.2.2.1, x.2.2.2.2.2.2.2.2.2.2.2.2.2.2.2.2.2.2.2.2.2.1, x.2.2.2.2.2.2.2.2.2.2.2.2.2.2.2.2.2.2.2.2.2.2.1, x.2.2.2.2.2.2.2.2.1)) fun v0 =>
  bindO (F59 K (x.1, x.2.1, x.2.2.1, x.2.2.2.1, x.2.2.2.2.1, x.2.2.2.2.2.1, x.2.2.2.2.2.2.1, x.2.2.2.2.2.2.2.1, Int.tmod (w64 (x.2.2.2.2.2.2.2.2.1 + 2)) 65536, x.2.2.2.2.2.2.2.2.2.1, x.2.2.2.2.2.2.2.2.2.2.1, x.2.2.2.2.2.2.2.2.2.2.2.1, x.2.2.2.2.2.2.2.2.2.2.2.2.1, x.2.2.2.2.2.2.2.2.2.2.2.2.2.1, x.2.2.2.2.2.2.2.2.2.2.2.2.2.2.1, x.2.2.2.2.2.2.2.2.2.2.2.2.2.2.2.1, x.2.2.2.2.2.2.2.2.2.2.2.2.2.2.2.2.1, x.2.2.2.2.2.2.2.2.2.2.2.2.2.2.2.2.2.1, x.2.2.2.2.2.2.2.2.2.2.2.2.2.2.2.2.2.2.1, x.2.2.2.2.2.2.2.2.2.2.2.2.2.2.2.2.2.2.2.1, x.2.2.2.2.2.2.2.2.2.2.2.2.2.2.2.2.2.2.2.2.1, x.2.2.2.2.2.2.2.2.2.2.2.2.2.2.2.2.2.2.2.2.2.1, x.2.2.2.2.2.2.2.2.2.2.2.2.2.2.2.2.2.2.2.2.2.2.1, Int.tmod (w64 (x.2.2.2.2.2.2.2.2.1 + 1)) 65536)) fun v1 =>
  some (w64 (v0 + (w64 (256 * v1))), x.1, x.2.1, x.2.2.1, x.2.2.2.1, x.2.2.2.2.1, x.2.2.2.2.2.1, x.2.2.2.2.2.2.1, x.2.2.2.2.2.2.2.1, Int.tmod (w64 (x.2.2.2.2.2.2.2.2.1 + 2)) 65536, x.2.2.2.2.2.2.2.2.2)
def ct73 (K : Nat) : Ct := ⟨[.l (.ptr 0 0 0)], [⟨24, false, .mix (some 74) [[.l (.v (.i .i64)), .l (.v (.i .i64)), .l (.v (.i .i64)), .l (.v (.i .i64)), .l (.v (.i .i64)), .l (.v (.i .i64)), .l (.v (.i .i64)), .l (.v (.i .i64)), .l (.v (.i .i64)), .l (.v (.i .i64)), .l (.v .b), .l (.v .b), .l (.v .s), .l (.v (.i .i64)), .l (.v (.i .i64)), .l (.v .s), .l (.v (.i .i64)), .l (.v .b), .l (.v (.i .i64)), .l (.v .s), .l (.v .s), .l (.v (.l (.i .i64))), .l (.v (.i .i64)), .l (.v .b)]]⟩], [.l (.v (.i .i64))], [⟨24, false, .mix (some 74) [[.l (.v (.i .i64)), .l (.v (.i .i64)), .l (.v (.i .i64)), .l (.v (.i .i64)), .l (.v (.i .i64)), .l (.v (.i .i64)), .l (.v (.i .i64)), .l (.v (.i .i64)), .l (.v (.i .i64)), .l (.v (.i .i64)), .l (.v .b), .l (.v .b), .l (.v .s), .l (.v (.i .i64)), .l (.v (.i .i64)), .l (.v .s), .l (.v (.i .i64)), .l (.v .b), .l (.v (.i .i64)), .l (.v .s), .l (.v .s), .l (.v (.l (.i .i64))), .l (.v (.i .i64)), .l (.v .b)]]⟩], [], F73 K⟩
theorem c73 (K : Nat) : CtOk prog 73 (ct73 K) :=
  con_mk (Y := Y) (L := [(59, ct59 K)]) (K := K) (an := (.seq .no (.seq .no (.seq .no .no)))) func73 mixed (ctabOk_cons (c59 K) ctabOk_nil) (by kernel_rfl) fun x => by kernel_rfl

-- loop.example/g00460/spec.AddSigned
def F74 (K : Nat) (x : Int × Int) : Option (Int × Int) :=
  bindO (α := (Int × Int) ⊕ (Int × Int)) (bindO (α := Int × Int × Bool) (bindO (F16 K x.1) fun v0 =>
      branch (!v0)
       (some (x.1, x.2, true))
       (bindO (F15 K x.2) fun v1 =>
       some (x.1, x.2, !v1))) fun v2 =>
    branch v2.2.2
     (some (.inl (0, 0)))
     (some (.inr (v2.1, v2.2.1)))) fun v3 =>
  csO v3
   (fun v4 => some v4)
   (fun v5 => bindO (F66 K v5.2) fun v6 =>
   bindO (F62 K (false, false, decide (15 < (w64 ((Int.tmod v5.1 16) + (Int.tmod v5.2 16)))), decide (255 < (w64 ((Int.tmod v5.1 256) + v5.2))))) fun v7 =>
   some (Int.tmod (w64 ((w64 (v5.1 + v6)) + 65536)) 65536, v7))
def ct74 (K : Nat) : Ct := ⟨[.l (.v (.i .i64)), .l (.v (.i .i64))], [], [.l (.v (.i .i64)), .l (.v (.i .i64))], [], [], F74 K⟩
theorem c74 (K : Nat) : CtOk prog 74 (ct74 K) :=
  con_mk (Y := Y) (L := [(15, ct15 K), (16, ct16 K), (62, ct62 K), (66, ct66 K)]) (K := K) (an := (.seq .no (.seqJ [(1000000, ⟨(.l (.v (.i .i64)) :: .l (.v (.i .i64)) :: ru 30 []), []⟩)] true (.seqJ [(1000000, ⟨(.l (.v (.i .i64)) :: .l (.v (.i .i64)) :: ru 11 (.l (.v .b) :: ru 18 [])), []⟩)] false .no (.cond .no .no)) .no))) func74 mixed (ctabOk_cons (c15 K) (ctabOk_cons (c16 K) (ctabOk_cons (c62 K) (ctabOk_cons (c66 K) ctabOk_nil)))) (by kernel_rfl) fun x => by kernel_rfl

-- (*loop.example/g00460/spec.l6W).push
def F75 (K : Nat) (x : Int × Int × Int × Int × Int × Int × Int × Int × Int × Int × Int × Bool × Bool × (List UInt8) × Int × Int × (List UInt8) × Int × Bool × Int × (List UInt8) × (List UInt8) × (List Int) × Int × Bool) : Option (Int × Int × Int × Int × Int × Int × Int × Int × Int × Int × Bool × Bool × (List UInt8) × Int × Int × (List UInt8) × Int × Bool × Int × (List UInt8) × (List UInt8) × (List Int) × Int × Bool) :=
  bindO (F64 K (w64 (x.2.2.2.2.2.2.2.2.2.1 + 65535), w64 (Int.tdiv x.1 256), x.2)) fun v0 =>
  bindO (F64 K (w64 (x.2.2.2.2.2.2.2.2.2.1 + 65534), Int.tmod x.1 256, v0)) fun v1 =>
  some (v1.1, v1.2.1, v1.2.2.1, v1.2.2.2.1, v1.2.2.2.2.1, v1.2.2.2.2.2.1, v1.2.2.2.2.2.2.1, v1.2.2.2.2.2.2.2.1, Int.tmod (w64 (x.2.2.2.2.2.2.2.2.2.1 + 65534)) 65536, v1.2.2.2.2.2.2.2.2.2)
def ct75 (K : Nat) : Ct := ⟨[.l (.ptr 0 0 0), .l (.v (.i .i64))], [⟨24, false, .mix (some 74) [[.l (.v (.i .i64)), .l (.v (.i .i64)), .l (.v (.i .i64)), .l (.v (.i .i64)), .l (.v (.i .i64)), .l (.v (.i .i64)), .l (.v (.i .i64)), .l (.v (.i .i64)), .l (.v (.i .i64)), .l (.v (.i .i64)), .l (.v .b), .l (.v .b), .l (.v .s), .l (.v (.i .i64)), .l (.v (.i .i64)), .l (.v .s), .l (.v (.i .i64)), .l (.v .b), .l (.v (.i .i64)), .l (.v .s), .l (.v .s), .l (.v (.l (.i .i64))), .l (.v (.i .i64)), .l (.v .b)]]⟩], [], [⟨24, false, .mix (some 74) [[.l (.v (.i .i64)), .l (.v (.i .i64)), .l (.v (.i .i64)), .l (.v (.i .i64)), .l (.v (.i .i64)), .l (.v (.i .i64)), .l (.v (.i .i64)), .l (.v (.i .i64)), .l (.v (.i .i64)), .l (.v (.i .i64)), .l (.v .b), .l (.v .b), .l (.v .s), .l (.v (.i .i64)), .l (.v (.i .i64)), .l (.v .s), .l (.v (.i .i64)), .l (.v .b), .l (.v (.i .i64)), .l (.v .s), .l (.v .s), .l (.v (.l (.i .i64))), .l (.v (.i .i64)), .l (.v .b)]]⟩], [], F75 K⟩
theorem c75 (K : Nat) : CtOk prog 75 (ct75 K) :=
  con_mk (Y := Y) (L := [(64, ct64 K)]) (K := K) (an := (.seq .no (.seq .no .no))) func75 mixed (ctabOk_cons (c64 K) ctabOk_nil) (by kernel_rfl) fun x => by kernel_rfl

-- (*loop.example/g00460/spec.l6W).call
def F76 (K : Nat) (x : Int × Int × Int × Int × Int × Int × Int × Int × Int × Int × Int × Bool × Bool × (List UInt8) × Int × Int × (List UInt8) × Int × Bool × Int × (List UInt8) × (List UInt8) × (List Int) × Int × Bool) : Option (Int × Int × Int × Int × Int × Int × Int × Int × Int × Int × Bool × Bool × (List UInt8) × Int × Int × (List UInt8) × Int × Bool × Int × (List UInt8) × (List UInt8) × (List Int) × Int × Bool) :=
  bindO (F75 K (x.2.2.2.2.2.2.2.2.2.2.1, x.2)) fun v0 =>
  some (v0.1, v0.2.1, v0.2.2.1, v0.2.2.2.1, v0.2.2.2.2.1, v0.2.2.2.2.2.1, v0.2.2.2.2.2.2.1, v0.2.2.2.2.2.2.2.1, v0.2.2.2.2.2.2.2.2.1, x.1, v0.2.2.2.2.2.2.2.2.2.2)
def ct76 (K : Nat) : Ct := ⟨[.l (.ptr 0 0 0), .l (.v (.i .i64))], [⟨24, false, .mix (some 74) [[.l (.v (.i .i64)), .l (.v (.i .i64)), .l (.v (.i .i64)), .l (.v (.i .i64)), .l (.v (.i .i64)), .l (.v (.i .i64)), .l (.v (.i .i64)), .l (.v (.i .i64)), .l (.v (.i .i64)), .l (.v (.i .i64)), .l (.v .b), .l (.v .b), .l (.v .s), .l (.v (.i .i64)), .l (.v (.i .i64)), .l (.v .s), .l (.v (.i .i64)), .l (.v .b), .l (.v (.i .i64)), .l (.v .s), .l (.v .s), .l (.v (.l (.i .i64))), .l (.v (.i .i64)), .l (.v .b)]]⟩], [], [⟨24, false, .mix (some 74) [[.l (.v (.i .i64)), .l (.v (.i .i64)), .l (.v (.i .i64)), .l (.v (.i .i64)), .l (.v (.i .i64)), .l (.v (.i .i64)), .l (.v (.i .i64)), .l (.v (.i .i64)), .l (.v (.i .i64)), .l (.v (.i .i64)), .l (.v .b), .l (.v .b), .l (.v .s), .l (.v (.i .i64)), .l (.v (.i .i64)), .l (.v .s), .l (.v (.i .i64)), .l (.v .b), .l (.v (.i .i64)), .l (.v .s), .l (.v .s), .l (.v (.l (.i .i64))), .l (.v (.i .i64)), .l (.v .b)]]⟩], [], F76 K⟩
theorem c76 (K : Nat) : CtOk prog 76 (ct76 K) :=
  con_mk (Y := Y) (L := [(75, ct75 K)]) (K := K) (an := .no) func76 mixed (ctabOk_cons (c75 K) ctabOk_nil) (by kernel_rfl) fun x => by kernel_rfl

-- (*loop.example/g00460/spec.l6W).top
def F53 (K : Nat) (x : Int × Bool × Int × Int × Int × Int × Int × Int × Int × Int × Int × Int × Int × Bool × Bool × (List UInt8) × Int × Int × (List UInt8) × Int × Bool × Int × (List UInt8) × (List UInt8) × (List Int) × Int × Bool) : Option (Bool × Int × Int × Int × Int × Int × Int × Int × Int × Int × Int × Bool × Bool × (List UInt8) × Int × Int × (List UInt8) × Int × Bool × Int × (List UInt8) × (List UInt8) × (List Int) × Int × Bool) :=
  bindO (α := Int × Int × Int × Bool × Int × Bool × Int × Int × Int × Int × Int × Int × Int × Int × Int × Int × Int × Bool × Bool × (List UInt8) × Int × Int × (List UInt8) × Int × Bool × Int × (List UInt8) × (List UInt8) × (List Int) × Int × Bool) (bindO (α := Int × Int × Int × Bool × Int × Bool × Int × Int × Int × Int × Int × Int × Int × Int × Int × Int × Int × Bool × Bool × (List UInt8) × Int × Int × (List UInt8) × Int × Bool × Int × (List UInt8) × (List UInt8) × (List Int) × Int × Bool) (branch (decide ((Int.tmod x.1 8) = 0))
       (branch (decide ((Int.tmod (w64 (Int.tdiv x.1 8)) 8) < 4))
        (bindO (F65 K (Int.tmod (w64 (Int.tdiv x.1 8)) 8, x.2.2.2)) fun v0 =>
        some (Int.tmod (w64 (Int.tdiv x.1 8)) 8, Int.tmod x.1 8, 65280, v0.1, x))
        (some (Int.tmod (w64 (Int.tdiv x.1 8)) 8, Int.tmod x.1 8, 65280, false, x)))
       (some (Int.tmod (w64 (Int.tdiv x.1 8)) 8, Int.tmod x.1 8, 65280, false, x))) fun v1 =>
    branch v1.2.2.2.1
     (some (v1.1, v1.2.1, v1.2.2.1, true, v1.2.2.2.2))
     (branch (decide (v1.2.2.2.2.1 = 201))
      (some (v1.1, v1.2.1, v1.2.2.1, true, v1.2.2.2.2))
      (some (v1.1, v1.2.1, v1.2.2.1, decide (v1.2.2.2.2.1 = 217), v1.2.2.2.2)))) fun v2 =>
  branch v2.2.2.2.1
   (bindO (F73 K v2.2.2.2.2.2.2.2) fun v3 =>
   branch v3.2.2.2.2.2.2.2.2.2.2.2.1
    (some (true, v3.2.1, v3.2.2.1, v3.2.2.2.1, v3.2.2.2.2.1, v3.2.2.2.2.2.1, v3.2.2.2.2.2.2.1, v3.2.2.2.2.2.2.2.1, v3.2.2.2.2.2.2.2.2.1, v3.2.2.2.2.2.2.2.2.2.1, v3.1, true, v3.2.2.2.2.2.2.2.2.2.2.2.2))
    (some (true, v3.2.1, v3.2.2.1, v3.2.2.2.1, v3.2.2.2.2.1, v3.2.2.2.2.2.1, v3.2.2.2.2.2.2.1, v3.2.2.2.2.2.2.2.1, v3.2.2.2.2.2.2.2.2.1, v3.2.2.2.2.2.2.2.2.2.1, v3.1, decide (v2.2.2.2.2.1 = 217), v3.2.2.2.2.2.2.2.2.2.2.2.2)))
   (branch (decide (v2.2.2.2.2.1 = 224))
    (bindO (F64 K (w64 (v2.2.2.1 + v2.2.2.2.2.2.2.1), v2.2.2.2.2.2.2.2.1, v2.2.2.2.2.2.2.2)) fun v4 =>
    some (false, v4))
    (branch (decide (v2.2.2.2.2.1 = 226))
     (bindO (F64 K (w64 (v2.2.2.1 + v2.2.2.2.2.2.2.2.2.2.2.1), v2.2.2.2.2.2.2.2.1, v2.2.2.2.2.2.2.2)) fun v5 =>
     some (false, v5))
     (branch (decide (v2.2.2.2.2.1 = 240))
      (bindO (F59 K (v2.2.2.2.2.2.2.2.1, v2.2.2.2.2.2.2.2.2.1, v2.2.2.2.2.2.2.2.2.2.1, v2.2.2.2.2.2.2.2.2.2.2.1, v2.2.2.2.2.2.2.2.2.2.2.2.1, v2.2.2.2.2.2.2.2.2.2.2.2.2.1, v2.2.2.2.2.2.2.2.2.2.2.2.2.2.1, v2.2.2.2.2.2.2.2.2.2.2.2.2.2.2.1, v2.2.2.2.2.2.2.2.2.2.2.2.2.2.2.2.1, v2.2.2.2.2.2.2.2.2.2.2.2.2.2.2.2.2.1, v2.2.2.2.2.2.2.2.2.2.2.2.2.2.2.2.2.2.1, v2.2.2.2.2.2.2.2.2.2.2.2.2.2.2.2.2.2.2.1, v2.2.2.2.2.2.2.2.2.2.2.2.2.2.2.2.2.2.2.2.1, v2.2.2.2.2.2.2.2.2.2.2.2.2.2.2.2.2.2.2.2.2.1, v2.2.2.2.2.2.2.2.2.2.2.2.2.2.2.2.2.2.2.2.2.2.1, v2.2.2.2.2.2.2.2.2.2.2.2.2.2.2.2.2.2.2.2.2.2.2.1, v2.2.2.2.2.2.2.2.2.2.2.2.2.2.2.2.2.2.2.2.2.2.2.2.1, v2.2.2.2.2.2.2.2.2.2.2.2.2.2.2.2.2.2.2.2.2.2.2.2.2.1, v2.2.2.2.2.2.2.2.2.2.2.2.2.2.2.2.2.2.2.2.2.2.2.2.2.2.1, v2.2.2.2.2.2.2.2.2.2.2.2.2.2.2.2.2.2.2.2.2.2.2.2.2.2.2.1, v2.2.2.2.2.2.2.2.2.2.2.2.2.2.2.2.2.2.2.2.2.2.2.2.2.2.2.2.1, v2.2.2.2.2.2.2.2.2.2.2.2.2.2.2.2.2.2.2.2.2.2.2.2.2.2.2.2.2.1, v2.2.2.2.2.2.2.2.2.2.2.2.2.2.2.2.2.2.2.2.2.2.2.2.2.2.2.2.2.2.1, w64 (v2.2.2.1 + v2.2.2.2.2.2.2.1))) fun v6 =>
      some (false, v6, v2.2.2.2.2.2.2.2.2))
      (branch (decide (v2.2.2.2.2.1 = 242))
       (bindO (F59 K (v2.2.2.2.2.2.2.2.1, v2.2.2.2.2.2.2.2.2.1, v2.2.2.2.2.2.2.2.2.2.1, v2.2.2.2.2.2.2.2.2.2.2.1, v2.2.2.2.2.2.2.2.2.2.2.2.1, v2.2.2.2.2.2.2.2.2.2.2.2.2.1, v2.2.2.2.2.2.2.2.2.2.2.2.2.2.1, v2.2.2.2.2.2.2.2.2.2.2.2.2.2.2.1, v2.2.2.2.2.2.2.2.2.2.2.2.2.2.2.2.1, v2.2.2.2.2.2.2.2.2.2.2.2.2.2.2.2.2.1, v2.2.2.2.2.2.2.2.2.2.2.2.2.2.2.2.2.2.1, v2.2.2.2.2.2.2.2.2.2.2.2.2.2.2.2.2.2.2.1, v2.2.2.2.2.2.2.2.2.2.2.2.2.2.2.2.2.2.2.2.1, v2.2.2.2.2.2.2.2.2.2.2.2.2.2.2.2.2.2.2.2.2.1, v2.2.2.2.2.2.2.2.2.2.2.2.2.2.2.2.2.2.2.2.2.2.1, v2.2.2.2.2.2.2.2.2.2.2.2.2.2.2.2.2.2.2.2.2.2.2.1, v2.2.2.2.2.2.2.2.2.2.2.2.2.2.2.2.2.2.2.2.2.2.2.2.1, v2.2.2.2.2.2.2.2.2.2.2.2.2.2.2.2.2.2.2.2.2.2.2.2.2.1, v2.2.2.2.2.2.2.2.2.2.2.2.2.2.2.2.2.2.2.2.2.2.2.2.2.2.1, v2.2.2.2.2.2.2.2.2.2.2.2.2.2.2.2.2.2.2.2.2.2.2.2.2.2.2.1, v2.2.2.2.2.2.2.2.2.2.2.2.2.2.2.2.2.2.2.2.2.2.2.2.2.2.2.2.1, v2.2.2.2.2.2.2.2.2.2.2.2.2.2.2.2.2.2.2.2.2.2.2.2.2.2.2.2.2.1, v2.2.2.2.2.2.2.2.2.2.2.2.2.2.2.2.2.2.2.2.2.2.2.2.2.2.2.2.2.2.1, w64 (v2.2.2.1 + v2.2.2.2.2.2.2.2.2.2.2.1))) fun v7 =>
       some (false, v7, v2.2.2.2.2.2.2.2.2))
       (branch (decide (v2.2.2.2.2.1 = 234))
        (bindO (F64 K (v2.2.2.2.2.2.2.1, v2.2.2.2.2.2.2.2.1, v2.2.2.2.2.2.2.2)) fun v8 =>
        some (false, v8))
        (branch (decide (v2.2.2.2.2.1 = 250))
         (bindO (F59 K (v2.2.2.2.2.2.2.2.1, v2.2.2.2.2.2.2.2.2.1, v2.2.2.2.2.2.2.2.2.2.1, v2.2.2.2.2.2.2.2.2.2.2.1, v2.2.2.2.2.2.2.2.2.2.2.2.1, v2.2.2.2.2.2.2.2.2.2.2.2.2.1, v2.2.2.2.2.2.2.2.2.2.2.2.2.2.1, v2.2.2.2.2.2.2.2.2.2.2.2.2.2.2.1, v2.2.2.2.2.2.2.2.2.2.2.2.2.2.2.2.1, v2.2.2.2.2.2.2.2.2.2.2.2.2.2.2.2.2.1, v2.2.2.2.2.2.2.2.2.2.2.2.2.2.2.2.2.2.1, v2.2.2.2.2.2.2.2.2.2.2.2.2.2.2.2.2.2.2.1, v2.2.2.2.2.2.2.2.2.2.2.2.2.2.2.2.2.2.2.2.1, v2.2.2.2.2.2.2.2.2.2.2.2.2.2.2.2.2.2.2.2.2.1, v2.2.2.2.2.2.2.2.2.2.2.2.2.2.2.2.2.2.2.2.2.2.1, v2.2.2.2.2.2.2.2.2.2.2.2.2.2.2.2.2.2.2.2.2.2.2.1, v2.2.2.2.2.2.2.2.2.2.2.2.2.2.2.2.2.2.2.2.2.2.2.2.1, v2.2.2.2.2.2.2.2.2.2.2.2.2.2.2.2.2.2.2.2.2.2.2.2.2.1, v2.2.2.2.2.2.2.2.2.2.2.2.2.2.2.2.2.2.2.2.2.2.2.2.2.2.1, v2.2.2.2.2.2.2.2.2.2.2.2.2.2.2.2.2.2.2.2.2.2.2.2.2.2.2.1, v2.2.2.2.2.2.2.2.2.2.2.2.2.2.2.2.2.2.2.2.2.2.2.2.2.2.2.2.1, v2.2.2.2.2.2.2.2.2.2.2.2.2.2.2.2.2.2.2.2.2.2.2.2.2.2.2.2.2.1, v2.2.2.2.2.2.2.2.2.2.2.2.2.2.2.2.2.2.2.2.2.2.2.2.2.2.2.2.2.2.1, v2.2.2.2.2.2.2.1)) fun v9 =>
         some (false, v9, v2.2.2.2.2.2.2.2.2))
         (branch (decide (v2.2.2.2.2.1 = 232))
          (bindO (F74 K (v2.2.2.2.2.2.2.2.2.2.2.2.2.2.2.2.1, v2.2.2.2.2.2.2.1)) fun v10 =>
          some (false, v2.2.2.2.2.2.2.2.1, v10.2, v2.2.2.2.2.2.2.2.2.2.1, v2.2.2.2.2.2.2.2.2.2.2.1, v2.2.2.2.2.2.2.2.2.2.2.2.1, v2.2.2.2.2.2.2.2.2.2.2.2.2.1, v2.2.2.2.2.2.2.2.2.2.2.2.2.2.1, v2.2.2.2.2.2.2.2.2.2.2.2.2.2.2.1, v10.1, v2.2.2.2.2.2.2.2.2.2.2.2.2.2.2.2.2))
          (branch (decide (v2.2.2.2.2.1 = 248))
           (bindO (F74 K (v2.2.2.2.2.2.2.2.2.2.2.2.2.2.2.2.1, v2.2.2.2.2.2.2.1)) fun v11 =>
           bindO (F67 K (2, v11.1, false, v2.2.2.2.2.2.2.2)) fun v12 =>
           some (false, v12.1, v11.2, v12.2.2))
           (branch (decide (v2.2.2.2.2.1 = 249))
            (bindO (F69 K v2.2.2.2.2.2.2.2) fun v13 =>
            some (false, v2.2.2.2.2.2.2.2.1, v2.2.2.2.2.2.2.2.2.1, v2.2.2.2.2.2.2.2.2.2.1, v2.2.2.2.2.2.2.2.2.2.2.1, v2.2.2.2.2.2.2.2.2.2.2.2.1, v2.2.2.2.2.2.2.2.2.2.2.2.2.1, v2.2.2.2.2.2.2.2.2.2.2.2.2.2.1, v2.2.2.2.2.2.2.2.2.2.2.2.2.2.2.1, v13.1, v2.2.2.2.2.2.2.2.2.2.2.2.2.2.2.2.2))
            (branch (decide (v2.2.2.2.2.1 = 233))
             (bindO (F69 K v2.2.2.2.2.2.2.2) fun v14 =>
             some (false, v2.2.2.2.2.2.2.2.1, v2.2.2.2.2.2.2.2.2.1, v2.2.2.2.2.2.2.2.2.2.1, v2.2.2.2.2.2.2.2.2.2.2.1, v2.2.2.2.2.2.2.2.2.2.2.2.1, v2.2.2.2.2.2.2.2.2.2.2.2.2.1, v2.2.2.2.2.2.2.2.2.2.2.2.2.2.1, v2.2.2.2.2.2.2.2.2.2.2.2.2.2.2.1, v2.2.2.2.2.2.2.2.2.2.2.2.2.2.2.2.1, v14.1, v2.2.2.2.2.2.2.2.2.2.2.2.2.2.2.2.2.2))
             (bindO (α := Int × Int × Bool × Int × Bool × Int × Int × Int × Int × Int × Int × Int × Int × Int × Int × Int × Bool × Bool × (List UInt8) × Int × Int × (List UInt8) × Int × Bool × Int × (List UInt8) × (List UInt8) × (List Int) × Int × Bool) (branch (decide (v2.2.1 = 1))
                (some (v2.1, v2.2.1, decide ((Int.tmod v2.1 2) = 0), v2.2.2.2.2))
                (some (v2.1, v2.2.1, false, v2.2.2.2.2))) fun v15 =>
             branch v15.2.2.1
              (bindO (F73 K v15.2.2.2.2.2.2) fun v16 =>
              bindO (F67 K (w64 (Int.tdiv v15.1 2), v16.1, true, v16.2)) fun v17 =>
              some (false, v17))
              (bindO (α := Int × Int × Bool × Int × Bool × Int × Int × Int × Int × Int × Int × Int × Int × Int × Int × Int × Bool × Bool × (List UInt8) × Int × Int × (List UInt8) × Int × Bool × Int × (List UInt8) × (List UInt8) × (List Int) × Int × Bool) (branch (decide (v15.2.1 = 5))
                 (some (v15.1, v15.2.1, decide ((Int.tmod v15.1 2) = 0), v15.2.2.2))
                 (some (v15.1, v15.2.1, false, v15.2.2.2))) fun v18 =>
              branch v18.2.2.1
               (bindO (F70 K (w64 (Int.tdiv v18.1 2), true, v18.2.2.2.2.2.2)) fun v19 =>
               bindO (F75 K (v19.1, v18.2.2.2.2.2.2)) fun v20 =>
               some (false, v20))
               (bindO (α := Int × Int × Bool × Int × Bool × Int × Int × Int × Int × Int × Int × Int × Int × Int × Int × Int × Bool × Bool × (List UInt8) × Int × Int × (List UInt8) × Int × Bool × Int × (List UInt8) × (List UInt8) × (List Int) × Int × Bool) (bindO (α := Int × Int × Bool × Int × Bool × Int × Int × Int × Int × Int × Int × Int × Int × Int × Int × Int × Bool × Bool × (List UInt8) × Int × Int × (List UInt8) × Int × Bool × Int × (List UInt8) × (List UInt8) × (List Int) × Int × Bool) (branch (decide (v18.2.1 = 2))
                    (branch (decide (v18.1 < 4))
                     (bindO (F65 K (v18.1, v18.2.2.2.2.2.2)) fun v21 =>
                     some (v18.1, v18.2.1, v21.1, v18.2.2.2))
                     (some (v18.1, v18.2.1, false, v18.2.2.2)))
                    (some (v18.1, v18.2.1, false, v18.2.2.2))) fun v22 =>
                 branch v22.2.2.1
                  (some (v22.1, v22.2.1, true, v22.2.2.2))
                  (some (v22.1, v22.2.1, decide (v22.2.2.2.1 = 195), v22.2.2.2))) fun v23 =>
               branch v23.2.2.1
                (some (true, v23.2.2.2.2.2.2.1, v23.2.2.2.2.2.2.2.1, v23.2.2.2.2.2.2.2.2.1, v23.2.2.2.2.2.2.2.2.2.1, v23.2.2.2.2.2.2.2.2.2.2.1, v23.2.2.2.2.2.2.2.2.2.2.2.1, v23.2.2.2.2.2.2.2.2.2.2.2.2.1, v23.2.2.2.2.2.2.2.2.2.2.2.2.2.1, v23.2.2.2.2.2.2.2.2.2.2.2.2.2.2.1, v23.2.2.2.2.2.1, v23.2.2.2.2.2.2.2.2.2.2.2.2.2.2.2.2))
                (bindO (α := Int × Int × Bool × Int × Bool × Int × Int × Int × Int × Int × Int × Int × Int × Int × Int × Int × Bool × Bool × (List UInt8) × Int × Int × (List UInt8) × Int × Bool × Int × (List UInt8) × (List UInt8) × (List Int) × Int × Bool) (branch (decide (v23.2.2.2.1 = 243))
                   (some (v23.1, v23.2.1, true, v23.2.2.2))
                   (some (v23.1, v23.2.1, decide (v23.2.2.2.1 = 251), v23.2.2.2))) fun v24 =>
                branch v24.2.2.1
                 (some (false, v24.2.2.2.2.2.2.1, v24.2.2.2.2.2.2.2.1, v24.2.2.2.2.2.2.2.2.1, v24.2.2.2.2.2.2.2.2.2.1, v24.2.2.2.2.2.2.2.2.2.2.1, v24.2.2.2.2.2.2.2.2.2.2.2.1, v24.2.2.2.2.2.2.2.2.2.2.2.2.1, v24.2.2.2.2.2.2.2.2.2.2.2.2.2.1, v24.2.2.2.2.2.2.2.2.2.2.2.2.2.2.1, v24.2.2.2.2.2.2.2.2.2.2.2.2.2.2.2.1, decide (v24.2.2.2.1 = 251), v24.2.2.2.2.2.2.2.2.2.2.2.2.2.2.2.2.2))
                 (bindO (α := Int × Int × Bool × Int × Bool × Int × Int × Int × Int × Int × Int × Int × Int × Int × Int × Int × Bool × Bool × (List UInt8) × Int × Int × (List UInt8) × Int × Bool × Int × (List UInt8) × (List UInt8) × (List Int) × Int × Bool) (bindO (α := Int × Int × Bool × Int × Bool × Int × Int × Int × Int × Int × Int × Int × Int × Int × Int × Int × Bool × Bool × (List UInt8) × Int × Int × (List UInt8) × Int × Bool × Int × (List UInt8) × (List UInt8) × (List Int) × Int × Bool) (branch (decide (v24.2.1 = 4))
                      (bindO (F65 K (v24.1, v24.2.2.2.2.2.2)) fun v25 =>
                      some (v24.1, v24.2.1, v25.1, v24.2.2.2))
                      (some (v24.1, v24.2.1, false, v24.2.2.2))) fun v26 =>
                   branch v26.2.2.1
                    (some (v26.1, v26.2.1, true, v26.2.2.2))
                    (some (v26.1, v26.2.1, decide (v26.2.2.2.1 = 205), v26.2.2.2))) fun v27 =>
                 branch v27.2.2.1
                  (bindO (F76 K v27.2.2.2.2.2) fun v28 =>
                  some (true, v28))
                  (branch (decide (v27.2.1 = 6))
                   (bindO (F52 K (v27.1, v27.2.2.2.2.2.2.1, v27.2.2.2.2.2.1, v27.2.2.2.2.2.2.2.1)) fun v29 =>
                   some (false, v29.1, v29.2, v27.2.2.2.2.2.2.2.2))
                   (branch (decide (v27.2.1 = 7))
                    (bindO (F76 K (w64 (8 * v27.1), v27.2.2.2.2.2.2)) fun v30 =>
                    some (false, v30))
                    (some (false, v27.2.2.2.2.2.2)))))))))))))))))))
def ct53 (K : Nat) : Ct := ⟨[.l (.ptr 0 0 0), .agg [(.v (.i .i64)), (.v .b), (.v (.i .i64))]], [⟨24, false, .mix (some 74) [[.l (.v (.i .i64)), .l (.v (.i .i64)), .l (.v (.i .i64)), .l (.v (.i .i64)), .l (.v (.i .i64)), .l (.v (.i .i64)), .l (.v (.i .i64)), .l (.v (.i .i64)), .l (.v (.i .i64)), .l (.v (.i .i64)), .l (.v .b), .l (.v .b), .l (.v .s), .l (.v (.i .i64)), .l (.v (.i .i64)), .l (.v .s), .l (.v (.i .i64)), .l (.v .b), .l (.v (.i .i64)), .l (.v .s), .l (.v .s), .l (.v (.l (.i .i64))), .l (.v (.i .i64)), .l (.v .b)]]⟩], [.l (.v .b)], [⟨24, false, .mix (some 74) [[.l (.v (.i .i64)), .l (.v (.i .i64)), .l (.v (.i .i64)), .l (.v (.i .i64)), .l (.v (.i .i64)), .l (.v (.i .i64)), .l (.v (.i .i64)), .l (.v (.i .i64)), .l (.v (.i .i64)), .l (.v (.i .i64)), .l (.v .b), .l (.v .b), .l (.v .s), .l (.v (.i .i64)), .l (.v (.i .i64)), .l (.v .s), .l (.v (.i .i64)), .l (.v .b), .l (.v (.i .i64)), .l (.v .s), .l (.v .s), .l (.v (.l (.i .i64))), .l (.v (.i .i64)), .l (.v .b)]]⟩], [], F53 K⟩
theorem c53 (K : Nat) : CtOk prog 53 (ct53 K) :=
  con_mk (Y := Y) (L := [(59, ct59 K), (69, ct69k K), (64, ct64 K), (65, ct65k K), (67, ct67 K), (70, ct70k K), (52, ct52 K), (73, ct73 K), (74, ct74 K), (75, ct75 K), (76, ct76 K)]) (K := K) (an := (.seq .no (.seq .no (.seq .no (.seq .no (.seq (.blk (.seqJ [(1000000, ⟨(.l (.ptr 0 0 0) :: ru 2 (.l (.ptr 4000 0 0) :: ru 1 (.l (.v (.i .i64)) :: .l (.v (.i .i64)) :: .l (.v (.i .i64)) :: ru 13 (.l (.v .b) :: ru 344 [])))), [(4000, ⟨3, false, .mix (some 60) [[.l (.v (.i .i64)), .l (.v .b), .l (.v (.i .i64))]]⟩), (0, ⟨24, false, .mix (some 74) [[.l (.v (.i .i64)), .l (.v (.i .i64)), .l (.v (.i .i64)), .l (.v (.i .i64)), .l (.v (.i .i64)), .l (.v (.i .i64)), .l (.v (.i .i64)), .l (.v (.i .i64)), .l (.v (.i .i64)), .l (.v (.i .i64)), .l (.v .b), .l (.v .b), .l (.v .s), .l (.v (.i .i64)), .l (.v (.i .i64)), .l (.v .s), .l (.v (.i .i64)), .l (.v .b), .l (.v (.i .i64)), .l (.v .s), .l (.v .s), .l (.v (.l (.i .i64))), .l (.v (.i .i64)), .l (.v .b)]]⟩)]⟩)] false (.seqJ [(1000000, ⟨(.l (.ptr 0 0 0) :: ru 2 (.l (.ptr 4000 0 0) :: ru 1 (.l (.v (.i .i64)) :: .l (.v (.i .i64)) :: .l (.v (.i .i64)) :: ru 13 (.l (.v .b) :: ru 344 [])))), [(4000, ⟨3, false, .mix (some 60) [[.l (.v (.i .i64)), .l (.v .b), .l (.v (.i .i64))]]⟩), (0, ⟨24, false, .mix (some 74) [[.l (.v (.i .i64)), .l (.v (.i .i64)), .l (.v (.i .i64)), .l (.v (.i .i64)), .l (.v (.i .i64)), .l (.v (.i .i64)), .l (.v (.i .i64)), .l (.v (.i .i64)), .l (.v (.i .i64)), .l (.v (.i .i64)), .l (.v .b), .l (.v .b), .l (.v .s), .l (.v (.i .i64)), .l (.v (.i .i64)), .l (.v .s), .l (.v (.i .i64)), .l (.v .b), .l (.v (.i .i64)), .l (.v .s), .l (.v .s), .l (.v (.l (.i .i64))), .l (.v (.i .i64)), .l (.v .b)]]⟩)]⟩)] false .no (.cond .no (.seq .no .no))) (.cond (.seq .no (.seq .no .no)) (.seq .no (.cond .no (.seq .no (.cond .no (.seq .no (.cond .no (.seq .no (.cond .no (.seq .no (.cond .no (.seq .no (.cond .no (.seq .no (.cond (.seq .no .no) (.seq .no (.cond (.seq .no .no) (.seq .no (.cond .no (.seq .no (.cond .no (.seqJ [(1000000, ⟨(.l (.ptr 0 0 0) :: ru 2 (.l (.ptr 4000 0 0) :: ru 1 (.l (.v (.i .i64)) :: .l (.v (.i .i64)) :: ru 236 (.l (.v .b) :: ru 122 [])))), [(4000, ⟨3, false, .mix (some 60) [[.l (.v (.i .i64)), .l (.v .b), .l (.v (.i .i64))]]⟩), (0, ⟨24, false, .mix (some 74) [[.l (.v (.i .i64)), .l (.v (.i .i64)), .l (.v (.i .i64)), .l (.v (.i .i64)), .l (.v (.i .i64)), .l (.v (.i .i64)), .l (.v (.i .i64)), .l (.v (.i .i64)), .l (.v (.i .i64)), .l (.v (.i .i64)), .l (.v .b), .l (.v .b), .l (.v .s), .l (.v (.i .i64)), .l (.v (.i .i64)), .l (.v .s), .l (.v (.i .i64)), .l (.v .b), .l (.v (.i .i64)), .l (.v .s), .l (.v .s), .l (.v (.l (.i .i64))), .l (.v (.i .i64)), .l (.v .b)]]⟩)]⟩)] false .no (.cond .no (.seqJ [(1000000, ⟨(.l (.ptr 0 0 0) :: ru 2 (.l (.ptr 4000 0 0) :: ru 1 (.l (.v (.i .i64)) :: .l (.v (.i .i64)) :: ru 250 (.l (.v .b) :: ru 108 [])))), [(4000, ⟨3, false, .mix (some 60) [[.l (.v (.i .i64)), .l (.v .b), .l (.v (.i .i64))]]⟩), (0, ⟨24, false, .mix (some 74) [[.l (.v (.i .i64)), .l (.v (.i .i64)), .l (.v (.i .i64)), .l (.v (.i .i64)), .l (.v (.i .i64)), .l (.v (.i .i64)), .l (.v (.i .i64)), .l (.v (.i .i64)), .l (.v (.i .i64)), .l (.v (.i .i64)), .l (.v .b), .l (.v .b), .l (.v .s), .l (.v (.i .i64)), .l (.v (.i .i64)), .l (.v .s), .l (.v (.i .i64)), .l (.v .b), .l (.v (.i .i64)), .l (.v .s), .l (.v .s), .l (.v (.l (.i .i64))), .l (.v (.i .i64)), .l (.v .b)]]⟩)]⟩)] false .no (.cond .no (.seqJ [(1000000, ⟨(.l (.ptr 0 0 0) :: ru 2 (.l (.ptr 4000 0 0) :: ru 1 (.l (.v (.i .i64)) :: .l (.v (.i .i64)) :: ru 264 (.l (.v .b) :: ru 94 [])))), [(4000, ⟨3, false, .mix (some 60) [[.l (.v (.i .i64)), .l (.v .b), .l (.v (.i .i64))]]⟩), (0, ⟨24, false, .mix (some 74) [[.l (.v (.i .i64)), .l (.v (.i .i64)), .l (.v (.i .i64)), .l (.v (.i .i64)), .l (.v (.i .i64)), .l (.v (.i .i64)), .l (.v (.i .i64)), .l (.v (.i .i64)), .l (.v (.i .i64)), .l (.v (.i .i64)), .l (.v .b), .l (.v .b), .l (.v .s), .l (.v (.i .i64)), .l (.v (.i .i64)), .l (.v .s), .l (.v (.i .i64)), .l (.v .b), .l (.v (.i .i64)), .l (.v .s), .l (.v .s), .l (.v (.l (.i .i64))), .l (.v (.i .i64)), .l (.v .b)]]⟩)]⟩)] false (.seqJ [(1000000, ⟨(.l (.ptr 0 0 0) :: ru 2 (.l (.ptr 4000 0 0) :: ru 1 (.l (.v (.i .i64)) :: .l (.v (.i .i64)) :: ru 264 (.l (.v .b) :: ru 94 [])))), [(4000, ⟨3, false, .mix (some 60) [[.l (.v (.i .i64)), .l (.v .b), .l (.v (.i .i64))]]⟩), (0, ⟨24, false, .mix (some 74) [[.l (.v (.i .i64)), .l (.v (.i .i64)), .l (.v (.i .i64)), .l (.v (.i .i64)), .l (.v (.i .i64)), .l (.v (.i .i64)), .l (.v (.i .i64)), .l (.v (.i .i64)), .l (.v (.i .i64)), .l (.v (.i .i64)), .l (.v .b), .l (.v .b), .l (.v .s), .l (.v (.i .i64)), .l (.v (.i .i64)), .l (.v .s), .l (.v (.i .i64)), .l (.v .b), .l (.v (.i .i64)), .l (.v .s), .l (.v .s), .l (.v (.l (.i .i64))), .l (.v (.i .i64)), .l (.v .b)]]⟩)]⟩)] false .no .no) (.cond (.seq .no .no) (.seqJ [(1000000, ⟨(.l (.ptr 0 0 0) :: ru 2 (.l (.ptr 4000 0 0) :: ru 1 (.l (.v (.i .i64)) :: .l (.v (.i .i64)) :: ru 286 (.l (.v .b) :: ru 72 [])))), [(4000, ⟨3, false, .mix (some 60) [[.l (.v (.i .i64)), .l (.v .b), .l (.v (.i .i64))]]⟩), (0, ⟨24, false, .mix (some 74) [[.l (.v (.i .i64)), .l (.v (.i .i64)), .l (.v (.i .i64)), .l (.v (.i .i64)), .l (.v (.i .i64)), .l (.v (.i .i64)), .l (.v (.i .i64)), .l (.v (.i .i64)), .l (.v (.i .i64)), .l (.v (.i .i64)), .l (.v .b), .l (.v .b), .l (.v .s), .l (.v (.i .i64)), .l (.v (.i .i64)), .l (.v .s), .l (.v (.i .i64)), .l (.v .b), .l (.v (.i .i64)), .l (.v .s), .l (.v .s), .l (.v (.l (.i .i64))), .l (.v (.i .i64)), .l (.v .b)]]⟩)]⟩)] false .no (.cond .no (.seqJ [(1000000, ⟨(.l (.ptr 0 0 0) :: ru 2 (.l (.ptr 4000 0 0) :: ru 1 (.l (.v (.i .i64)) :: .l (.v (.i .i64)) :: ru 303 (.l (.v .b) :: ru 55 [])))), [(4000, ⟨3, false, .mix (some 60) [[.l (.v (.i .i64)), .l (.v .b), .l (.v (.i .i64))]]⟩), (0, ⟨24, false, .mix (some 74) [[.l (.v (.i .i64)), .l (.v (.i .i64)), .l (.v (.i .i64)), .l (.v (.i .i64)), .l (.v (.i .i64)), .l (.v (.i .i64)), .l (.v (.i .i64)), .l (.v (.i .i64)), .l (.v (.i .i64)), .l (.v (.i .i64)), .l (.v .b), .l (.v .b), .l (.v .s), .l (.v (.i .i64)), .l (.v (.i .i64)), .l (.v .s), .l (.v (.i .i64)), .l (.v .b), .l (.v (.i .i64)), .l (.v .s), .l (.v .s), .l (.v (.l (.i .i64))), .l (.v (.i .i64)), .l (.v .b)]]⟩)]⟩)] false (.seqJ [(1000000, ⟨(.l (.ptr 0 0 0) :: ru 2 (.l (.ptr 4000 0 0) :: ru 1 (.l (.v (.i .i64)) :: .l (.v (.i .i64)) :: ru 303 (.l (.v .b) :: ru 55 [])))), [(4000, ⟨3, false, .mix (some 60) [[.l (.v (.i .i64)), .l (.v .b), .l (.v (.i .i64))]]⟩), (0, ⟨24, false, .mix (some 74) [[.l (.v (.i .i64)), .l (.v (.i .i64)), .l (.v (.i .i64)), .l (.v (.i .i64)), .l (.v (.i .i64)), .l (.v (.i .i64)), .l (.v (.i .i64)), .l (.v (.i .i64)), .l (.v (.i .i64)), .l (.v (.i .i64)), .l (.v .b), .l (.v .b), .l (.v .s), .l (.v (.i .i64)), .l (.v (.i .i64)), .l (.v .s), .l (.v (.i .i64)), .l (.v .b), .l (.v (.i .i64)), .l (.v .s), .l (.v .s), .l (.v (.l (.i .i64))), .l (.v (.i .i64)), .l (.v .b)]]⟩)]⟩)] false .no .no) (.cond (.seq .no .no) (.seq .no (.cond (.seq .no .no) (.seq .no .no)))))))))))))))))))))))))))))))))))) .no)))))) func53 mixed (ctabOk_cons (c59 K) (ctabOk_keep (c69k K) (ctabOk_cons (c64 K) (ctabOk_keep (c65k K) (ctabOk_cons (c67 K) (ctabOk_keep (c70k K) (ctabOk_cons (c52 K) (ctabOk_cons (c73 K) (ctabOk_cons (c74 K) (ctabOk_cons (c75 K) (ctabOk_cons (c76 K) ctabOk_nil))))))))))) (by kernel_rfl) fun x => by kernel_rfl

-- loop.example/g00460/spec.l3Cycles
def F78 (K : Nat) (x : Int × Int × Bool) : Option (Int) :=
  bindO (F77 K x.2.2) fun v0 =>
  branch (decide (x.2.1 = 0))
   (branch (decide (x.1 < 4))
    (some (w64 (2 + (w64 (3 * v0)))))
    (guard (decide (0 ≤ (w64 (x.1 - 4)) ∧ (w64 (x.1 - 4)) < (4 : Int))) <|
    nthN [3, 4, 3, 3] ((w64 (x.1 - 4)).toNat) fun v1 =>
    some v1))
   (branch (decide (x.2.1 = 1))
    (branch (decide ((Int.tmod x.1 2) = 0))
     (some 3)
     (guard (decide (0 ≤ (w64 (Int.tdiv x.1 2)) ∧ (w64 (Int.tdiv x.1 2)) < (4 : Int))) <|
     nthN [4, 4, 1, 2] ((w64 (Int.tdiv x.1 2)).toNat) fun v2 =>
     some v2))
    (branch (decide (x.2.1 = 2))
     (branch (decide (x.1 < 4))
      (some (w64 (3 + v0)))
      (guard (decide (0 ≤ (w64 (x.1 - 4)) ∧ (w64 (x.1 - 4)) < (4 : Int))) <|
      nthN [2, 4, 2, 4] ((w64 (x.1 - 4)).toNat) fun v3 =>
      some v3))
     (branch (decide (x.2.1 = 3))
      (branch (decide (x.1 = 0))
       (some 4)
       (some 1))
      (branch (decide (x.2.1 = 4))
       (some (w64 (3 + (w64 (3 * v0)))))
       (branch (decide (x.2.1 = 5))
        (branch (decide (x.1 = 1))
         (some 6)
         (some 4))
        (branch (decide (x.2.1 = 6))
         (some 2)
         (some 4)))))))
def ct78 (K : Nat) : Ct := ⟨[.l (.v (.i .i64)), .l (.v (.i .i64)), .l (.v .b)], [], [.l (.v (.i .i64))], [], [], F78 K⟩
theorem c78 (K : Nat) : CtOk prog 78 (ct78 K) :=
  con_mk (Y := Y) (L := [(77, ct77 K)]) (K := K) (an := (.seq .no (.seq .no (.seq (.seq .no (.blk (.seq .no (.cond (.seq (.seq .no (.cond .no .no)) .no) (.seq .no (.cond (.seq (.seq .no (.cond .no .no)) .no) (.seq .no (.cond (.seq (.seq .no (.cond .no .no)) .no) (.seq .no (.cond (.seq (.seq .no (.cond .no .no)) .no) (.seq .no (.cond .no (.seq .no (.cond (.seq (.seq .no (.cond .no .no)) .no) (.seq .no (.cond .no .no)))))))))))))))) .no)))) func78 mixed (ctabOk_cons (c77 K) ctabOk_nil) (by kernel_rfl) fun x => by kernel_rfl

-- loop.example/g00460/spec.CyclesOf
def F54 (K : Nat) (x : Int × Bool × Bool) : Option (Int) :=
  bindO (F56 K (x.1, x.2.1)) fun v0 =>
  branch (decide (v0 = 0))
   (some 0)
   (bindO (α := Int ⊕ (Bool × Int × Int)) (bindO (α := Int × Bool × Bool × Int × Int × Int × Bool) (branch x.2.1
        (some (x.1, x.2.1, x.2.2, w64 (Int.tdiv x.1 64), Int.tmod (w64 (Int.tdiv x.1 8)) 8, Int.tmod x.1 8, !(decide ((Int.tmod x.1 8) = 6))))
        (some (x.1, x.2.1, x.2.2, w64 (Int.tdiv x.1 64), Int.tmod (w64 (Int.tdiv x.1 8)) 8, Int.tmod x.1 8, false))) fun v1 =>
     branch v1.2.2.2.2.2.2
      (some (.inl 2))
      (bindO (α := Int × Bool × Bool × Int × Int × Int × Bool) (branch v1.2.1
         (some (v1.1, v1.2.1, v1.2.2.1, v1.2.2.2.1, v1.2.2.2.2.1, v1.2.2.2.2.2.1, decide (v1.2.2.2.1 = 1)))
         (some (v1.1, v1.2.1, v1.2.2.1, v1.2.2.2.1, v1.2.2.2.2.1, v1.2.2.2.2.2.1, false))) fun v2 =>
      branch v2.2.2.2.2.2.2
       (some (.inl 3))
       (branch v2.2.1
        (some (.inl 4))
        (branch (decide (v2.1 = 118))
         (some (.inl 1))
         (branch (decide (v2.2.2.2.1 = 1))
          (branch (decide (v2.2.2.2.2.1 = 6))
           (bindO (F77 K true) fun v3 =>
           some (.inl (w64 (1 + v3))))
           (bindO (F77 K (decide (v2.2.2.2.2.2.1 = 6))) fun v4 =>
           some (.inl (w64 (1 + v4)))))
          (branch (decide (v2.2.2.2.1 = 2))
           (bindO (F77 K (decide (v2.2.2.2.2.2.1 = 6))) fun v5 =>
           some (.inl (w64 (1 + v5))))
           (branch (decide (v2.2.2.2.1 = 3))
            (bindO (F78 K (v2.2.2.2.2.1, v2.2.2.2.2.2.1, v2.2.2.1)) fun v6 =>
            some (.inl v6))
            (some (.inr (v2.2.2.1, v2.2.2.2.2.1, v2.2.2.2.2.2.1)))))))))) fun v7 =>
   csO v7
    (fun v8 => some v8)
    (fun v9 => branch (decide (v9.2.2 = 0))
     (branch (decide (v9.2.1 < 4))
      (guard (decide (0 ≤ v9.2.1 ∧ v9.2.1 < (4 : Int))) <|
      nthN [1, 5, 1, 3] v9.2.1.toNat fun v10 =>
      some v10)
      (bindO (F77 K v9.1) fun v11 =>
      some (w64 (2 + v11))))
     (branch (decide (v9.2.2 = 1))
      (some (w64 (3 - (Int.tmod v9.2.1 2))))
      (bindO (α := Int × Int × Bool) (branch (decide (v9.2.2 = 2))
         (some (v9.2.1, v9.2.2, true))
         (some (v9.2.1, v9.2.2, decide (v9.2.2 = 3)))) fun v12 =>
      branch v12.2.2
       (some 2)
       (bindO (α := Int × Int × Bool) (branch (decide (v12.2.1 = 4))
          (some (v12.1, v12.2.1, true))
          (some (v12.1, v12.2.1, decide (v12.2.1 = 5)))) fun v13 =>
       branch v13.2.2
        (bindO (F77 K (decide (v13.1 = 6))) fun v14 =>
        some (w64 (1 + (w64 (2 * v14)))))
        (branch (decide (v13.2.1 = 6))
         (bindO (F77 K (decide (v13.1 = 6))) fun v15 =>
         some (w64 (2 + v15)))
         (some 1)))))))
def ct54 (K : Nat) : Ct := ⟨[.l (.v (.i .i64)), .l (.v .b), .l (.v .b)], [], [.l (.v (.i .i64))], [], [], F54 K⟩
theorem c54 (K : Nat) : CtOk prog 54 (ct54 K) :=
  con_mk (Y := Y) (L := [(56, ct56 K), (77, ct77 K), (78, ct78 K)]) (K := K) (an := (.seq .no (.seq (.seq .no (.cond .no .no)) (.seq .no (.seq .no (.seq .no (.seqJ [(1000000, ⟨(ru 2 (.l (.v .b) :: ru 5 (.l (.v (.i .i64)) :: .l (.v (.i .i64)) :: ru 87 []))), []⟩)] true (.blk (.seqJ [(1000000, ⟨(.l (.v (.i .i64)) :: .l (.v .b) :: .l (.v .b) :: ru 4 (.l (.v (.i .i64)) :: .l (.v (.i .i64)) :: .l (.v (.i .i64)) :: ru 11 (.l (.v .b) :: ru 75 []))), []⟩)] false .no (.cond .no (.seqJ [(1000000, ⟨(.l (.v (.i .i64)) :: .l (.v .b) :: .l (.v .b) :: ru 4 (.l (.v (.i .i64)) :: .l (.v (.i .i64)) :: .l (.v (.i .i64)) :: ru 17 (.l (.v .b) :: ru 69 []))), []⟩)] false .no (.cond .no (.seq .no (.cond .no (.seq .no (.cond .no (.seq .no (.cond .no (.seq .no (.cond .no (.seq .no (.cond .no .no))))))))))))))) (.seq (.seq .no (.blk (.seq .no (.cond (.seq (.seq .no (.cond .no .no)) .no) (.seq .no (.cond .no (.seqJ [(1000000, ⟨(ru 8 (.l (.v (.i .i64)) :: ru 54 (.l (.v (.i .i64)) :: ru 16 (.l (.v .b) :: ru 16 [])))), []⟩)] false (.seq .no .no) (.cond .no (.seqJ [(1000000, ⟨(ru 8 (.l (.v (.i .i64)) :: ru 54 (.l (.v (.i .i64)) :: ru 19 (.l (.v .b) :: ru 13 [])))), []⟩)] false (.seq .no .no) (.cond .no (.seq .no (.cond .no .no)))))))))))) .no)))))))) func54 mixed (ctabOk_cons (c56 K) (ctabOk_cons (c77 K) (ctabOk_cons (c78 K) ctabOk_nil))) (by kernel_rfl) fun x => by kernel_rfl

-- loop.example/g00460/spec.l6Step
def F41 (K : Nat) (x : Int × Int × Int × Int × Int × Int × Int × Int × Int × Int × Bool × Bool × (List UInt8) × Int × Int × (List UInt8) × Int × Bool × Int × (List UInt8) × (List UInt8) × (List Int) × Int) : Option (Int × Int × Int × Int × Int × Int × Int × Int × Int × Int × Bool × Bool × (List UInt8) × Int × Int × (List UInt8) × Int × Bool × Int × (List UInt8) × (List UInt8) × (List Int) × Int × Int) :=
  branch x.2.2.2.2.2.2.2.2.2.2.2.1
   (bindO (F40 K x) fun v0 =>
   some (v0.1, v0.2.1, v0.2.2.1, v0.2.2.2.1, v0.2.2.2.2.1, v0.2.2.2.2.2.1, v0.2.2.2.2.2.2.1, v0.2.2.2.2.2.2.2.1, v0.2.2.2.2.2.2.2.2.1, v0.2.2.2.2.2.2.2.2.2.1, v0.2.2.2.2.2.2.2.2.2.2.1, v0.2.2.2.2.2.2.2.2.2.2.2.1, v0.2.2.2.2.2.2.2.2.2.2.2.2.1, v0.2.2.2.2.2.2.2.2.2.2.2.2.2.1, v0.2.2.2.2.2.2.2.2.2.2.2.2.2.2.1, v0.2.2.2.2.2.2.2.2.2.2.2.2.2.2.2.1, v0.2.2.2.2.2.2.2.2.2.2.2.2.2.2.2.2.1, v0.2.2.2.2.2.2.2.2.2.2.2.2.2.2.2.2.2.1, v0.2.2.2.2.2.2.2.2.2.2.2.2.2.2.2.2.2.2.1, v0.2.2.2.2.2.2.2.2.2.2.2.2.2.2.2.2.2.2.2.1, v0.2.2.2.2.2.2.2.2.2.2.2.2.2.2.2.2.2.2.2.2.1, v0.2.2.2.2.2.2.2.2.2.2.2.2.2.2.2.2.2.2.2.2.2.1, v0.2.2.2.2.2.2.2.2.2.2.2.2.2.2.2.2.2.2.2.2.2.2, 1))
   (bindO (F47 K x) fun v1 =>
   branch (decide (v1.2.2.2 = 0))
    (bindO (F40 K x) fun v2 =>
    some (v2.1, v2.2.1, v2.2.2.1, v2.2.2.2.1, v2.2.2.2.2.1, v2.2.2.2.2.2.1, v2.2.2.2.2.2.2.1, v2.2.2.2.2.2.2.2.1, v2.2.2.2.2.2.2.2.2.1, v2.2.2.2.2.2.2.2.2.2.1, v2.2.2.2.2.2.2.2.2.2.2.1, v2.2.2.2.2.2.2.2.2.2.2.2.1, v2.2.2.2.2.2.2.2.2.2.2.2.2.1, v2.2.2.2.2.2.2.2.2.2.2.2.2.2.1, v2.2.2.2.2.2.2.2.2.2.2.2.2.2.2.1, v2.2.2.2.2.2.2.2.2.2.2.2.2.2.2.2.1, v2.2.2.2.2.2.2.2.2.2.2.2.2.2.2.2.2.1, v2.2.2.2.2.2.2.2.2.2.2.2.2.2.2.2.2.2.1, v2.2.2.2.2.2.2.2.2.2.2.2.2.2.2.2.2.2.2.1, v2.2.2.2.2.2.2.2.2.2.2.2.2.2.2.2.2.2.2.2.1, v2.2.2.2.2.2.2.2.2.2.2.2.2.2.2.2.2.2.2.2.2.1, v2.2.2.2.2.2.2.2.2.2.2.2.2.2.2.2.2.2.2.2.2.2.1, v2.2.2.2.2.2.2.2.2.2.2.2.2.2.2.2.2.2.2.2.2.2.2, 2))
    (bindO (α := Bool × Int × Int × Int × Int × Int × Int × Int × Int × Int × Int × Bool × Bool × (List UInt8) × Int × Int × (List UInt8) × Int × Bool × Int × (List UInt8) × (List UInt8) × (List Int) × Int × Bool × Int × Bool × Int × Int × Int × Int × Int × Int × Int × Int × Int × Int × Int × Bool × Bool × (List UInt8) × Int × Int × (List UInt8) × Int × Bool × Int × (List UInt8) × (List UInt8) × (List Int) × Int × Int × Int × Int × Int × Int × Int × Int × Int × Int × Int × Bool × Bool × (List UInt8) × Int × Int × (List UInt8) × Int × Bool × Int × (List UInt8) × (List UInt8) × (List Int) × Int) (branch v1.2.1
       (bindO (F48 K (v1.1, v1.2.1, v1.2.2.1, x.1, x.2.1, x.2.2.1, x.2.2.2.1, x.2.2.2.2.1, x.2.2.2.2.2.1, x.2.2.2.2.2.2.1, x.2.2.2.2.2.2.2.1, x.2.2.2.2.2.2.2.2.1, Int.tmod (w64 (x.2.2.2.2.2.2.2.2.2.1 + v1.2.2.2)) 65536, x.2.2.2.2.2.2.2.2.2.2.1, x.2.2.2.2.2.2.2.2.2.2.2.1, x.2.2.2.2.2.2.2.2.2.2.2.2.1, x.2.2.2.2.2.2.2.2.2.2.2.2.2.1, x.2.2.2.2.2.2.2.2.2.2.2.2.2.2.1, x.2.2.2.2.2.2.2.2.2.2.2.2.2.2.2.1, x.2.2.2.2.2.2.2.2.2.2.2.2.2.2.2.2.1, x.2.2.2.2.2.2.2.2.2.2.2.2.2.2.2.2.2.1, x.2.2.2.2.2.2.2.2.2.2.2.2.2.2.2.2.2.2.1, x.2.2.2.2.2.2.2.2.2.2.2.2.2.2.2.2.2.2.2.1, x.2.2.2.2.2.2.2.2.2.2.2.2.2.2.2.2.2.2.2.2.1, x.2.2.2.2.2.2.2.2.2.2.2.2.2.2.2.2.2.2.2.2.2.1, x.2.2.2.2.2.2.2.2.2.2.2.2.2.2.2.2.2.2.2.2.2.2, false)) fun v3 =>
       some (false, v3.1, v3.2.1, v3.2.2.1, v3.2.2.2.1, v3.2.2.2.2.1, v3.2.2.2.2.2.1, v3.2.2.2.2.2.2.1, v3.2.2.2.2.2.2.2.1, v3.2.2.2.2.2.2.2.2.1, v3.2.2.2.2.2.2.2.2.2.1, v3.2.2.2.2.2.2.2.2.2.2.1, v3.2.2.2.2.2.2.2.2.2.2.2.1, v3.2.2.2.2.2.2.2.2.2.2.2.2.1, v3.2.2.2.2.2.2.2.2.2.2.2.2.2.1, v3.2.2.2.2.2.2.2.2.2.2.2.2.2.2.1, v3.2.2.2.2.2.2.2.2.2.2.2.2.2.2.2.1, v3.2.2.2.2.2.2.2.2.2.2.2.2.2.2.2.2.1, v3.2.2.2.2.2.2.2.2.2.2.2.2.2.2.2.2.2.1, v3.2.2.2.2.2.2.2.2.2.2.2.2.2.2.2.2.2.2.1, v3.2.2.2.2.2.2.2.2.2.2.2.2.2.2.2.2.2.2.2.1, v3.2.2.2.2.2.2.2.2.2.2.2.2.2.2.2.2.2.2.2.2.1, v3.2.2.2.2.2.2.2.2.2.2.2.2.2.2.2.2.2.2.2.2.2.1, v3.2.2.2.2.2.2.2.2.2.2.2.2.2.2.2.2.2.2.2.2.2.2.1, v3.2.2.2.2.2.2.2.2.2.2.2.2.2.2.2.2.2.2.2.2.2.2.2, v1.1, v1.2.1, v1.2.2.1, 0, 0, 0, 0, 0, 0, 0, 0, 0, 0, false, false, [], 0, 0, [], 0, false, 0, [], [], [], 0, x))
       (branch (decide (v1.1 < 64))
        (bindO (F49 K (v1.1, v1.2.1, v1.2.2.1, x.1, x.2.1, x.2.2.1, x.2.2.2.1, x.2.2.2.2.1, x.2.2.2.2.2.1, x.2.2.2.2.2.2.1, x.2.2.2.2.2.2.2.1, x.2.2.2.2.2.2.2.2.1, Int.tmod (w64 (x.2.2.2.2.2.2.2.2.2.1 + v1.2.2.2)) 65536, x.2.2.2.2.2.2.2.2.2.2.1, x.2.2.2.2.2.2.2.2.2.2.2.1, x.2.2.2.2.2.2.2.2.2.2.2.2.1, x.2.2.2.2.2.2.2.2.2.2.2.2.2.1, x.2.2.2.2.2.2.2.2.2.2.2.2.2.2.1, x.2.2.2.2.2.2.2.2.2.2.2.2.2.2.2.1, x.2.2.2.2.2.2.2.2.2.2.2.2.2.2.2.2.1, x.2.2.2.2.2.2.2.2.2.2.2.2.2.2.2.2.2.1, x.2.2.2.2.2.2.2.2.2.2.2.2.2.2.2.2.2.2.1, x.2.2.2.2.2.2.2.2.2.2.2.2.2.2.2.2.2.2.2.1, x.2.2.2.2.2.2.2.2.2.2.2.2.2.2.2.2.2.2.2.2.1, x.2.2.2.2.2.2.2.2.2.2.2.2.2.2.2.2.2.2.2.2.2.1, x.2.2.2.2.2.2.2.2.2.2.2.2.2.2.2.2.2.2.2.2.2.2, false)) fun v4 =>
        some (v4.1, v4.2.1, v4.2.2.1, v4.2.2.2.1, v4.2.2.2.2.1, v4.2.2.2.2.2.1, v4.2.2.2.2.2.2.1, v4.2.2.2.2.2.2.2.1, v4.2.2.2.2.2.2.2.2.1, v4.2.2.2.2.2.2.2.2.2.1, v4.2.2.2.2.2.2.2.2.2.2.1, v4.2.2.2.2.2.2.2.2.2.2.2.1, v4.2.2.2.2.2.2.2.2.2.2.2.2.1, v4.2.2.2.2.2.2.2.2.2.2.2.2.2.1, v4.2.2.2.2.2.2.2.2.2.2.2.2.2.2.1, v4.2.2.2.2.2.2.2.2.2.2.2.2.2.2.2.1, v4.2.2.2.2.2.2.2.2.2.2.2.2.2.2.2.2.1, v4.2.2.2.2.2.2.2.2.2.2.2.2.2.2.2.2.2.1, v4.2.2.2.2.2.2.2.2.2.2.2.2.2.2.2.2.2.2.1, v4.2.2.2.2.2.2.2.2.2.2.2.2.2.2.2.2.2.2.2.1, v4.2.2.2.2.2.2.2.2.2.2.2.2.2.2.2.2.2.2.2.2.1, v4.2.2.2.2.2.2.2.2.2.2.2.2.2.2.2.2.2.2.2.2.2.1, v4.2.2.2.2.2.2.2.2.2.2.2.2.2.2.2.2.2.2.2.2.2.2.1, v4.2.2.2.2.2.2.2.2.2.2.2.2.2.2.2.2.2.2.2.2.2.2.2.1, v4.2.2.2.2.2.2.2.2.2.2.2.2.2.2.2.2.2.2.2.2.2.2.2.2, v1.1, v1.2.1, v1.2.2.1, 0, 0, 0, 0, 0, 0, 0, 0, 0, 0, false, false, [], 0, 0, [], 0, false, 0, [], [], [], 0, x))
        (branch (decide (v1.1 = 118))
         (some (false, x.1, x.2.1, x.2.2.1, x.2.2.2.1, x.2.2.2.2.1, x.2.2.2.2.2.1, x.2.2.2.2.2.2.1, x.2.2.2.2.2.2.2.1, x.2.2.2.2.2.2.2.2.1, Int.tmod (w64 (x.2.2.2.2.2.2.2.2.2.1 + v1.2.2.2)) 65536, x.2.2.2.2.2.2.2.2.2.2.1, true, x.2.2.2.2.2.2.2.2.2.2.2.2.1, x.2.2.2.2.2.2.2.2.2.2.2.2.2.1, x.2.2.2.2.2.2.2.2.2.2.2.2.2.2.1, x.2.2.2.2.2.2.2.2.2.2.2.2.2.2.2.1, x.2.2.2.2.2.2.2.2.2.2.2.2.2.2.2.2.1, x.2.2.2.2.2.2.2.2.2.2.2.2.2.2.2.2.2.1, x.2.2.2.2.2.2.2.2.2.2.2.2.2.2.2.2.2.2.1, x.2.2.2.2.2.2.2.2.2.2.2.2.2.2.2.2.2.2.2.1, x.2.2.2.2.2.2.2.2.2.2.2.2.2.2.2.2.2.2.2.2.1, x.2.2.2.2.2.2.2.2.2.2.2.2.2.2.2.2.2.2.2.2.2.1, x.2.2.2.2.2.2.2.2.2.2.2.2.2.2.2.2.2.2.2.2.2.2, false, v1.1, v1.2.1, v1.2.2.1, 0, 0, 0, 0, 0, 0, 0, 0, 0, 0, false, false, [], 0, 0, [], 0, false, 0, [], [], [], 0, x))
         (branch (decide (v1.1 < 128))
          (bindO (F51 K (Int.tmod v1.1 8, x.1, x.2.1, x.2.2.1, x.2.2.2.1, x.2.2.2.2.1, x.2.2.2.2.2.1, x.2.2.2.2.2.2.1, x.2.2.2.2.2.2.2.1, x.2.2.2.2.2.2.2.2.1, Int.tmod (w64 (x.2.2.2.2.2.2.2.2.2.1 + v1.2.2.2)) 65536, x.2.2.2.2.2.2.2.2.2.2.1, x.2.2.2.2.2.2.2.2.2.2.2.1, x.2.2.2.2.2.2.2.2.2.2.2.2.1, x.2.2.2.2.2.2.2.2.2.2.2.2.2.1, x.2.2.2.2.2.2.2.2.2.2.2.2.2.2.1, x.2.2.2.2.2.2.2.2.2.2.2.2.2.2.2.1, x.2.2.2.2.2.2.2.2.2.2.2.2.2.2.2.2.1, x.2.2.2.2.2.2.2.2.2.2.2.2.2.2.2.2.2.1, x.2.2.2.2.2.2.2.2.2.2.2.2.2.2.2.2.2.2.1, x.2.2.2.2.2.2.2.2.2.2.2.2.2.2.2.2.2.2.2.1, x.2.2.2.2.2.2.2.2.2.2.2.2.2.2.2.2.2.2.2.2.1, x.2.2.2.2.2.2.2.2.2.2.2.2.2.2.2.2.2.2.2.2.2.1, x.2.2.2.2.2.2.2.2.2.2.2.2.2.2.2.2.2.2.2.2.2.2, false)) fun v5 =>
          bindO (F50 K (Int.tmod (w64 (Int.tdiv v1.1 8)) 8, v5.1, x.1, x.2.1, x.2.2.1, x.2.2.2.1, x.2.2.2.2.1, x.2.2.2.2.2.1, x.2.2.2.2.2.2.1, x.2.2.2.2.2.2.2.1, x.2.2.2.2.2.2.2.2.1, Int.tmod (w64 (x.2.2.2.2.2.2.2.2.2.1 + v1.2.2.2)) 65536, x.2.2.2.2.2.2.2.2.2.2.1, x.2.2.2.2.2.2.2.2.2.2.2.1, x.2.2.2.2.2.2.2.2.2.2.2.2.1, x.2.2.2.2.2.2.2.2.2.2.2.2.2.1, x.2.2.2.2.2.2.2.2.2.2.2.2.2.2.1, x.2.2.2.2.2.2.2.2.2.2.2.2.2.2.2.1, x.2.2.2.2.2.2.2.2.2.2.2.2.2.2.2.2.1, x.2.2.2.2.2.2.2.2.2.2.2.2.2.2.2.2.2.1, x.2.2.2.2.2.2.2.2.2.2.2.2.2.2.2.2.2.2.1, x.2.2.2.2.2.2.2.2.2.2.2.2.2.2.2.2.2.2.2.1, x.2.2.2.2.2.2.2.2.2.2.2.2.2.2.2.2.2.2.2.2.1, x.2.2.2.2.2.2.2.2.2.2.2.2.2.2.2.2.2.2.2.2.2.1, x.2.2.2.2.2.2.2.2.2.2.2.2.2.2.2.2.2.2.2.2.2.2, false)) fun v6 =>
          some (false, v6.1, v6.2.1, v6.2.2.1, v6.2.2.2.1, v6.2.2.2.2.1, v6.2.2.2.2.2.1, v6.2.2.2.2.2.2.1, v6.2.2.2.2.2.2.2.1, v6.2.2.2.2.2.2.2.2.1, v6.2.2.2.2.2.2.2.2.2.1, v6.2.2.2.2.2.2.2.2.2.2.1, v6.2.2.2.2.2.2.2.2.2.2.2.1, v6.2.2.2.2.2.2.2.2.2.2.2.2.1, v6.2.2.2.2.2.2.2.2.2.2.2.2.2.1, v6.2.2.2.2.2.2.2.2.2.2.2.2.2.2.1, v6.2.2.2.2.2.2.2.2.2.2.2.2.2.2.2.1, v6.2.2.2.2.2.2.2.2.2.2.2.2.2.2.2.2.1, v6.2.2.2.2.2.2.2.2.2.2.2.2.2.2.2.2.2.1, v6.2.2.2.2.2.2.2.2.2.2.2.2.2.2.2.2.2.2.1, v6.2.2.2.2.2.2.2.2.2.2.2.2.2.2.2.2.2.2.2.1, v6.2.2.2.2.2.2.2.2.2.2.2.2.2.2.2.2.2.2.2.2.1, v6.2.2.2.2.2.2.2.2.2.2.2.2.2.2.2.2.2.2.2.2.2.1, v6.2.2.2.2.2.2.2.2.2.2.2.2.2.2.2.2.2.2.2.2.2.2.1, v6.2.2.2.2.2.2.2.2.2.2.2.2.2.2.2.2.2.2.2.2.2.2.2, v1.1, v1.2.1, v1.2.2.1, 0, 0, 0, 0, 0, 0, 0, 0, 0, 0, false, false, [], 0, 0, [], 0, false, 0, [], [], [], 0, x))
          (branch (decide (v1.1 < 192))
           (bindO (F51 K (Int.tmod v1.1 8, x.1, x.2.1, x.2.2.1, x.2.2.2.1, x.2.2.2.2.1, x.2.2.2.2.2.1, x.2.2.2.2.2.2.1, x.2.2.2.2.2.2.2.1, x.2.2.2.2.2.2.2.2.1, Int.tmod (w64 (x.2.2.2.2.2.2.2.2.2.1 + v1.2.2.2)) 65536, x.2.2.2.2.2.2.2.2.2.2.1, x.2.2.2.2.2.2.2.2.2.2.2.1, x.2.2.2.2.2.2.2.2.2.2.2.2.1, x.2.2.2.2.2.2.2.2.2.2.2.2.2.1, x.2.2.2.2.2.2.2.2.2.2.2.2.2.2.1, x.2.2.2.2.2.2.2.2.2.2.2.2.2.2.2.1, x.2.2.2.2.2.2.2.2.2.2.2.2.2.2.2.2.1, x.2.2.2.2.2.2.2.2.2.2.2.2.2.2.2.2.2.1, x.2.2.2.2.2.2.2.2.2.2.2.2.2.2.2.2.2.2.1, x.2.2.2.2.2.2.2.2.2.2.2.2.2.2.2.2.2.2.2.1, x.2.2.2.2.2.2.2.2.2.2.2.2.2.2.2.2.2.2.2.2.1, x.2.2.2.2.2.2.2.2.2.2.2.2.2.2.2.2.2.2.2.2.2.1, x.2.2.2.2.2.2.2.2.2.2.2.2.2.2.2.2.2.2.2.2.2.2, false)) fun v7 =>
           bindO (F52 K (Int.tmod (w64 (Int.tdiv v1.1 8)) 8, x.1, v7.1, x.2.1)) fun v8 =>
           some (false, v8.1, v8.2, x.2.2.1, x.2.2.2.1, x.2.2.2.2.1, x.2.2.2.2.2.1, x.2.2.2.2.2.2.1, x.2.2.2.2.2.2.2.1, x.2.2.2.2.2.2.2.2.1, Int.tmod (w64 (x.2.2.2.2.2.2.2.2.2.1 + v1.2.2.2)) 65536, x.2.2.2.2.2.2.2.2.2.2.1, x.2.2.2.2.2.2.2.2.2.2.2.1, x.2.2.2.2.2.2.2.2.2.2.2.2.1, x.2.2.2.2.2.2.2.2.2.2.2.2.2.1, x.2.2.2.2.2.2.2.2.2.2.2.2.2.2.1, x.2.2.2.2.2.2.2.2.2.2.2.2.2.2.2.1, x.2.2.2.2.2.2.2.2.2.2.2.2.2.2.2.2.1, x.2.2.2.2.2.2.2.2.2.2.2.2.2.2.2.2.2.1, x.2.2.2.2.2.2.2.2.2.2.2.2.2.2.2.2.2.2.1, x.2.2.2.2.2.2.2.2.2.2.2.2.2.2.2.2.2.2.2.1, x.2.2.2.2.2.2.2.2.2.2.2.2.2.2.2.2.2.2.2.2.1, x.2.2.2.2.2.2.2.2.2.2.2.2.2.2.2.2.2.2.2.2.2.1, x.2.2.2.2.2.2.2.2.2.2.2.2.2.2.2.2.2.2.2.2.2.2, false, v1.1, v1.2.1, v1.2.2.1, 0, 0, 0, 0, 0, 0, 0, 0, 0, 0, false, false, [], 0, 0, [], 0, false, 0, [], [], [], 0, x))
           (bindO (F53 K (v1.1, v1.2.1, v1.2.2.1, x.1, x.2.1, x.2.2.1, x.2.2.2.1, x.2.2.2.2.1, x.2.2.2.2.2.1, x.2.2.2.2.2.2.1, x.2.2.2.2.2.2.2.1, x.2.2.2.2.2.2.2.2.1, Int.tmod (w64 (x.2.2.2.2.2.2.2.2.2.1 + v1.2.2.2)) 65536, x.2.2.2.2.2.2.2.2.2.2.1, x.2.2.2.2.2.2.2.2.2.2.2.1, x.2.2.2.2.2.2.2.2.2.2.2.2.1, x.2.2.2.2.2.2.2.2.2.2.2.2.2.1, x.2.2.2.2.2.2.2.2.2.2.2.2.2.2.1, x.2.2.2.2.2.2.2.2.2.2.2.2.2.2.2.1, x.2.2.2.2.2.2.2.2.2.2.2.2.2.2.2.2.1, x.2.2.2.2.2.2.2.2.2.2.2.2.2.2.2.2.2.1, x.2.2.2.2.2.2.2.2.2.2.2.2.2.2.2.2.2.2.1, x.2.2.2.2.2.2.2.2.2.2.2.2.2.2.2.2.2.2.2.1, x.2.2.2.2.2.2.2.2.2.2.2.2.2.2.2.2.2.2.2.2.1, x.2.2.2.2.2.2.2.2.2.2.2.2.2.2.2.2.2.2.2.2.2.1, x.2.2.2.2.2.2.2.2.2.2.2.2.2.2.2.2.2.2.2.2.2.2, false)) fun v9 =>
           some (v9.1, v9.2.1, v9.2.2.1, v9.2.2.2.1, v9.2.2.2.2.1, v9.2.2.2.2.2.1, v9.2.2.2.2.2.2.1, v9.2.2.2.2.2.2.2.1, v9.2.2.2.2.2.2.2.2.1, v9.2.2.2.2.2.2.2.2.2.1, v9.2.2.2.2.2.2.2.2.2.2.1, v9.2.2.2.2.2.2.2.2.2.2.2.1, v9.2.2.2.2.2.2.2.2.2.2.2.2.1, v9.2.2.2.2.2.2.2.2.2.2.2.2.2.1, v9.2.2.2.2.2.2.2.2.2.2.2.2.2.2.1, v9.2.2.2.2.2.2.2.2.2.2.2.2.2.2.2.1, v9.2.2.2.2.2.2.2.2.2.2.2.2.2.2.2.2.1, v9.2.2.2.2.2.2.2.2.2.2.2.2.2.2.2.2.2.1, v9.2.2.2.2.2.2.2.2.2.2.2.2.2.2.2.2.2.2.1, v9.2.2.2.2.2.2.2.2.2.2.2.2.2.2.2.2.2.2.2.1, v9.2.2.2.2.2.2.2.2.2.2.2.2.2.2.2.2.2.2.2.2.1, v9.2.2.2.2.2.2.2.2.2.2.2.2.2.2.2.2.2.2.2.2.2.1, v9.2.2.2.2.2.2.2.2.2.2.2.2.2.2.2.2.2.2.2.2.2.2.1, v9.2.2.2.2.2.2.2.2.2.2.2.2.2.2.2.2.2.2.2.2.2.2.2.1, v9.2.2.2.2.2.2.2.2.2.2.2.2.2.2.2.2.2.2.2.2.2.2.2.2, v1.1, v1.2.1, v1.2.2.1, 0, 0, 0, 0, 0, 0, 0, 0, 0, 0, false, false, [], 0, 0, [], 0, false, 0, [], [], [], 0, x))))))) fun v10 =>
    bindO (F54 K (v10.2.2.2.2.2.2.2.2.2.2.2.2.2.2.2.2.2.2.2.2.2.2.2.2.2.1, v10.2.2.2.2.2.2.2.2.2.2.2.2.2.2.2.2.2.2.2.2.2.2.2.2.2.2.1, v10.1)) fun v11 =>
    bindO (α := (Int × Int × Int × Int × Int × Int × Int × Int × Int × Int × Bool × Bool × (List UInt8) × Int × Int × (List UInt8) × Int × Bool × Int × (List UInt8) × (List UInt8) × (List Int) × Int × Int) ⊕ (Int × Int × Int × Int × Int × Int × Int × Int × Int × Int × Bool × Bool × (List UInt8) × Int × Int × (List UInt8) × Int × Bool × Int × (List UInt8) × (List UInt8) × (List Int) × Int × Bool × Int × Int × Int × Int × Int × Int × Int × Int × Int × Int × Bool × Bool × (List UInt8) × Int × Int × (List UInt8) × Int × Bool × Int × (List UInt8) × (List UInt8) × (List Int) × Int)) (bindO (α := Bool × Int × Int × Int × Int × Int × Int × Int × Int × Int × Int × Bool × Bool × (List UInt8) × Int × Int × (List UInt8) × Int × Bool × Int × (List UInt8) × (List UInt8) × (List Int) × Int × Bool × Int × Int × Int × Int × Int × Int × Int × Int × Int × Int × Bool × Bool × (List UInt8) × Int × Int × (List UInt8) × Int × Bool × Int × (List UInt8) × (List UInt8) × (List Int) × Int × Int × Int × Int × Int × Int × Int × Int × Int × Int × Int × Bool × Bool × (List UInt8) × Int × Int × (List UInt8) × Int × Bool × Int × (List UInt8) × (List UInt8) × (List Int) × Int) (branch v10.2.2.2.2.2.2.2.2.2.2.2.2.2.2.2.2.2.2.2.2.2.2.2.2.1
         (some (true, v10.2.1, v10.2.2.1, v10.2.2.2.1, v10.2.2.2.2.1, v10.2.2.2.2.2.1, v10.2.2.2.2.2.2.1, v10.2.2.2.2.2.2.2.1, v10.2.2.2.2.2.2.2.2.1, v10.2.2.2.2.2.2.2.2.2.1, v10.2.2.2.2.2.2.2.2.2.2.1, v10.2.2.2.2.2.2.2.2.2.2.2.1, v10.2.2.2.2.2.2.2.2.2.2.2.2.1, v10.2.2.2.2.2.2.2.2.2.2.2.2.2.1, v10.2.2.2.2.2.2.2.2.2.2.2.2.2.2.1, v10.2.2.2.2.2.2.2.2.2.2.2.2.2.2.2.1, v10.2.2.2.2.2.2.2.2.2.2.2.2.2.2.2.2.1, v10.2.2.2.2.2.2.2.2.2.2.2.2.2.2.2.2.2.1, v10.2.2.2.2.2.2.2.2.2.2.2.2.2.2.2.2.2.2.1, v10.2.2.2.2.2.2.2.2.2.2.2.2.2.2.2.2.2.2.2.1, v10.2.2.2.2.2.2.2.2.2.2.2.2.2.2.2.2.2.2.2.2.1, v10.2.2.2.2.2.2.2.2.2.2.2.2.2.2.2.2.2.2.2.2.2.1, v10.2.2.2.2.2.2.2.2.2.2.2.2.2.2.2.2.2.2.2.2.2.2.1, w64 (v10.2.2.2.2.2.2.2.2.2.2.2.2.2.2.2.2.2.2.2.2.2.2.2.2.2.2.2.2.2.2.2.2.2.2.2.2.2.2.2.2.2.2.2.2.2.2.2.2.2.2.2.2.2.2.2.2.2.2.2.2.2.2.2.2.2.2.2.2.2.2.2.2.2 + v11), v10.2.2.2.2.2.2.2.2.2.2.2.2.2.2.2.2.2.2.2.2.2.2.2.2.1, v10.2.2.2.2.2.2.2.2.2.2.2.2.2.2.2.2.2.2.2.2.2.2.2.2.2.2.2.2))
         (some (decide (1000000000 < (w64 (v10.2.2.2.2.2.2.2.2.2.2.2.2.2.2.2.2.2.2.2.2.2.2.2.2.2.2.2.2.2.2.2.2.2.2.2.2.2.2.2.2.2.2.2.2.2.2.2.2.2.2.2.2.2.2.2.2.2.2.2.2.2.2.2.2.2.2.2.2.2.2.2.2.2 + v11))), v10.2.1, v10.2.2.1, v10.2.2.2.1, v10.2.2.2.2.1, v10.2.2.2.2.2.1, v10.2.2.2.2.2.2.1, v10.2.2.2.2.2.2.2.1, v10.2.2.2.2.2.2.2.2.1, v10.2.2.2.2.2.2.2.2.2.1, v10.2.2.2.2.2.2.2.2.2.2.1, v10.2.2.2.2.2.2.2.2.2.2.2.1, v10.2.2.2.2.2.2.2.2.2.2.2.2.1, v10.2.2.2.2.2.2.2.2.2.2.2.2.2.1, v10.2.2.2.2.2.2.2.2.2.2.2.2.2.2.1, v10.2.2.2.2.2.2.2.2.2.2.2.2.2.2.2.1, v10.2.2.2.2.2.2.2.2.2.2.2.2.2.2.2.2.1, v10.2.2.2.2.2.2.2.2.2.2.2.2.2.2.2.2.2.1, v10.2.2.2.2.2.2.2.2.2.2.2.2.2.2.2.2.2.2.1, v10.2.2.2.2.2.2.2.2.2.2.2.2.2.2.2.2.2.2.2.1, v10.2.2.2.2.2.2.2.2.2.2.2.2.2.2.2.2.2.2.2.2.1, v10.2.2.2.2.2.2.2.2.2.2.2.2.2.2.2.2.2.2.2.2.2.1, v10.2.2.2.2.2.2.2.2.2.2.2.2.2.2.2.2.2.2.2.2.2.2.1, w64 (v10.2.2.2.2.2.2.2.2.2.2.2.2.2.2.2.2.2.2.2.2.2.2.2.2.2.2.2.2.2.2.2.2.2.2.2.2.2.2.2.2.2.2.2.2.2.2.2.2.2.2.2.2.2.2.2.2.2.2.2.2.2.2.2.2.2.2.2.2.2.2.2.2.2 + v11), v10.2.2.2.2.2.2.2.2.2.2.2.2.2.2.2.2.2.2.2.2.2.2.2.2.1, v10.2.2.2.2.2.2.2.2.2.2.2.2.2.2.2.2.2.2.2.2.2.2.2.2.2.2.2.2))) fun v12 =>
      branch v12.1
       (bindO (F40 K v12.2.2.2.2.2.2.2.2.2.2.2.2.2.2.2.2.2.2.2.2.2.2.2.2.2.2.2.2.2.2.2.2.2.2.2.2.2.2.2.2.2.2.2.2.2.2.2.2) fun v13 =>
       some (.inl (v13.1, v13.2.1, v13.2.2.1, v13.2.2.2.1, v13.2.2.2.2.1, v13.2.2.2.2.2.1, v13.2.2.2.2.2.2.1, v13.2.2.2.2.2.2.2.1, v13.2.2.2.2.2.2.2.2.1, v13.2.2.2.2.2.2.2.2.2.1, v13.2.2.2.2.2.2.2.2.2.2.1, v13.2.2.2.2.2.2.2.2.2.2.2.1, v13.2.2.2.2.2.2.2.2.2.2.2.2.1, v13.2.2.2.2.2.2.2.2.2.2.2.2.2.1, v13.2.2.2.2.2.2.2.2.2.2.2.2.2.2.1, v13.2.2.2.2.2.2.2.2.2.2.2.2.2.2.2.1, v13.2.2.2.2.2.2.2.2.2.2.2.2.2.2.2.2.1, v13.2.2.2.2.2.2.2.2.2.2.2.2.2.2.2.2.2.1, v13.2.2.2.2.2.2.2.2.2.2.2.2.2.2.2.2.2.2.1, v13.2.2.2.2.2.2.2.2.2.2.2.2.2.2.2.2.2.2.2.1, v13.2.2.2.2.2.2.2.2.2.2.2.2.2.2.2.2.2.2.2.2.1, v13.2.2.2.2.2.2.2.2.2.2.2.2.2.2.2.2.2.2.2.2.2.1, v13.2.2.2.2.2.2.2.2.2.2.2.2.2.2.2.2.2.2.2.2.2.2, 4)))
       (some (.inr (v12.2.1, v12.2.2.1, v12.2.2.2.1, v12.2.2.2.2.1, v12.2.2.2.2.2.1, v12.2.2.2.2.2.2.1, v12.2.2.2.2.2.2.2.1, v12.2.2.2.2.2.2.2.2.1, v12.2.2.2.2.2.2.2.2.2.1, v12.2.2.2.2.2.2.2.2.2.2.1, v12.2.2.2.2.2.2.2.2.2.2.2.1, v12.2.2.2.2.2.2.2.2.2.2.2.2.1, v12.2.2.2.2.2.2.2.2.2.2.2.2.2.1, v12.2.2.2.2.2.2.2.2.2.2.2.2.2.2.1, v12.2.2.2.2.2.2.2.2.2.2.2.2.2.2.2.1, v12.2.2.2.2.2.2.2.2.2.2.2.2.2.2.2.2.1, v12.2.2.2.2.2.2.2.2.2.2.2.2.2.2.2.2.2.1, v12.2.2.2.2.2.2.2.2.2.2.2.2.2.2.2.2.2.2.1, v12.2.2.2.2.2.2.2.2.2.2.2.2.2.2.2.2.2.2.2.1, v12.2.2.2.2.2.2.2.2.2.2.2.2.2.2.2.2.2.2.2.2.1, v12.2.2.2.2.2.2.2.2.2.2.2.2.2.2.2.2.2.2.2.2.2.1, v12.2.2.2.2.2.2.2.2.2.2.2.2.2.2.2.2.2.2.2.2.2.2.1, v12.2.2.2.2.2.2.2.2.2.2.2.2.2.2.2.2.2.2.2.2.2.2.2.1, v12.2.2.2.2.2.2.2.2.2.2.2.2.2.2.2.2.2.2.2.2.2.2.2.2.1, v12.2.2.2.2.2.2.2.2.2.2.2.2.2.2.2.2.2.2.2.2.2.2.2.2.2.1, v12.2.2.2.2.2.2.2.2.2.2.2.2.2.2.2.2.2.2.2.2.2.2.2.2.2.2.1, v12.2.2.2.2.2.2.2.2.2.2.2.2.2.2.2.2.2.2.2.2.2.2.2.2.2.2.2.1, v12.2.2.2.2.2.2.2.2.2.2.2.2.2.2.2.2.2.2.2.2.2.2.2.2.2.2.2.2.1, v12.2.2.2.2.2.2.2.2.2.2.2.2.2.2.2.2.2.2.2.2.2.2.2.2.2.2.2.2.2.1, v12.2.2.2.2.2.2.2.2.2.2.2.2.2.2.2.2.2.2.2.2.2.2.2.2.2.2.2.2.2.2.1, v12.2.2.2.2.2.2.2.2.2.2.2.2.2.2.2.2.2.2.2.2.2.2.2.2.2.2.2.2.2.2.2.1, v12.2.2.2.2.2.2.2.2.2.2.2.2.2.2.2.2.2.2.2.2.2.2.2.2.2.2.2.2.2.2.2.2.1, v12.2.2.2.2.2.2.2.2.2.2.2.2.2.2.2.2.2.2.2.2.2.2.2.2.2.2.2.2.2.2.2.2.2.1, v12.2.2.2.2.2.2.2.2.2.2.2.2.2.2.2.2.2.2.2.2.2.2.2.2.2.2.2.2.2.2.2.2.2.2.1, v12.2.2.2.2.2.2.2.2.2.2.2.2.2.2.2.2.2.2.2.2.2.2.2.2.2.2.2.2.2.2.2.2.2.2.2.1, v12.2.2.2.2.2.2.2.2.2.2.2.2.2.2.2.2.2.2.2.2.2.2.2.2.2.2.2.2.2.2.2.2.2.2.2.2.1, v12.2.2.2.2.2.2.2.2.2.2.2.2.2.2.2.2.2.2.2.2.2.2.2.2.2.2.2.2.2.2.2.2.2.2.2.2.2.1, v12.2.2.2.2.2.2.2.2.2.2.2.2.2.2.2.2.2.2.2.2.2.2.2.2.2.2.2.2.2.2.2.2.2.2.2.2.2.2.1, v12.2.2.2.2.2.2.2.2.2.2.2.2.2.2.2.2.2.2.2.2.2.2.2.2.2.2.2.2.2.2.2.2.2.2.2.2.2.2.2.1, v12.2.2.2.2.2.2.2.2.2.2.2.2.2.2.2.2.2.2.2.2.2.2.2.2.2.2.2.2.2.2.2.2.2.2.2.2.2.2.2.2.1, v12.2.2.2.2.2.2.2.2.2.2.2.2.2.2.2.2.2.2.2.2.2.2.2.2.2.2.2.2.2.2.2.2.2.2.2.2.2.2.2.2.2.1, v12.2.2.2.2.2.2.2.2.2.2.2.2.2.2.2.2.2.2.2.2.2.2.2.2.2.2.2.2.2.2.2.2.2.2.2.2.2.2.2.2.2.2.1, v12.2.2.2.2.2.2.2.2.2.2.2.2.2.2.2.2.2.2.2.2.2.2.2.2.2.2.2.2.2.2.2.2.2.2.2.2.2.2.2.2.2.2.2.1, v12.2.2.2.2.2.2.2.2.2.2.2.2.2.2.2.2.2.2.2.2.2.2.2.2.2.2.2.2.2.2.2.2.2.2.2.2.2.2.2.2.2.2.2.2.1, v12.2.2.2.2.2.2.2.2.2.2.2.2.2.2.2.2.2.2.2.2.2.2.2.2.2.2.2.2.2.2.2.2.2.2.2.2.2.2.2.2.2.2.2.2.2.1, v12.2.2.2.2.2.2.2.2.2.2.2.2.2.2.2.2.2.2.2.2.2.2.2.2.2.2.2.2.2.2.2.2.2.2.2.2.2.2.2.2.2.2.2.2.2.2.1, v12.2.2.2.2.2.2.2.2.2.2.2.2.2.2.2.2.2.2.2.2.2.2.2.2.2.2.2.2.2.2.2.2.2.2.2.2.2.2.2.2.2.2.2.2.2.2.2.1)))) fun v14 =>
    csO v14
     (fun v15 => some v15)
     (fun v16 => bindO (F40 K (v16.1, v16.2.1, v16.2.2.1, v16.2.2.2.1, v16.2.2.2.2.1, v16.2.2.2.2.2.1, v16.2.2.2.2.2.2.1, v16.2.2.2.2.2.2.2.1, v16.2.2.2.2.2.2.2.2.1, v16.2.2.2.2.2.2.2.2.2.1, v16.2.2.2.2.2.2.2.2.2.2.1, v16.2.2.2.2.2.2.2.2.2.2.2.1, v16.2.2.2.2.2.2.2.2.2.2.2.2.1, v16.2.2.2.2.2.2.2.2.2.2.2.2.2.1, v16.2.2.2.2.2.2.2.2.2.2.2.2.2.2.1, v16.2.2.2.2.2.2.2.2.2.2.2.2.2.2.2.1, v16.2.2.2.2.2.2.2.2.2.2.2.2.2.2.2.2.1, v16.2.2.2.2.2.2.2.2.2.2.2.2.2.2.2.2.2.1, v16.2.2.2.2.2.2.2.2.2.2.2.2.2.2.2.2.2.2.1, v16.2.2.2.2.2.2.2.2.2.2.2.2.2.2.2.2.2.2.2.1, v16.2.2.2.2.2.2.2.2.2.2.2.2.2.2.2.2.2.2.2.2.1, v16.2.2.2.2.2.2.2.2.2.2.2.2.2.2.2.2.2.2.2.2.2.1, v16.2.2.2.2.2.2.2.2.2.2.2.2.2.2.2.2.2.2.2.2.2.2.1)) fun v17 =>
     some (v17.1, v17.2.1, v17.2.2.1, v17.2.2.2.1, v17.2.2.2.2.1, v17.2.2.2.2.2.1, v17.2.2.2.2.2.2.1, v17.2.2.2.2.2.2.2.1, v17.2.2.2.2.2.2.2.2.1, v17.2.2.2.2.2.2.2.2.2.1, v17.2.2.2.2.2.2.2.2.2.2.1, v17.2.2.2.2.2.2.2.2.2.2.2.1, v17.2.2.2.2.2.2.2.2.2.2.2.2.1, v17.2.2.2.2.2.2.2.2.2.2.2.2.2.1, v17.2.2.2.2.2.2.2.2.2.2.2.2.2.2.1, v17.2.2.2.2.2.2.2.2.2.2.2.2.2.2.2.1, v17.2.2.2.2.2.2.2.2.2.2.2.2.2.2.2.2.1, v17.2.2.2.2.2.2.2.2.2.2.2.2.2.2.2.2.2.1, v17.2.2.2.2.2.2.2.2.2.2.2.2.2.2.2.2.2.2.1, v17.2.2.2.2.2.2.2.2.2.2.2.2.2.2.2.2.2.2.2.1, v17.2.2.2.2.2.2.2.2.2.2.2.2.2.2.2.2.2.2.2.2.1, v17.2.2.2.2.2.2.2.2.2.2.2.2.2.2.2.2.2.2.2.2.2.1, v17.2.2.2.2.2.2.2.2.2.2.2.2.2.2.2.2.2.2.2.2.2.2, 0))))
def ct41 (K : Nat) : Ct := ⟨[.agg [(.v (.i .i64)), (.v (.i .i64)), (.v (.i .i64)), (.v (.i .i64)), (.v (.i .i64)), (.v (.i .i64)), (.v (.i .i64)), (.v (.i .i64)), (.v (.i .i64)), (.v (.i .i64)), (.v .b), (.v .b), (.v .s), (.v (.i .i64)), (.v (.i .i64)), (.v .s), (.v (.i .i64)), (.v .b), (.v (.i .i64)), (.v .s), (.v .s), (.v (.l (.i .i64))), (.v (.i .i64))]], [], [.agg [(.v (.i .i64)), (.v (.i .i64)), (.v (.i .i64)), (.v (.i .i64)), (.v (.i .i64)), (.v (.i .i64)), (.v (.i .i64)), (.v (.i .i64)), (.v (.i .i64)), (.v (.i .i64)), (.v .b), (.v .b), (.v .s), (.v (.i .i64)), (.v (.i .i64)), (.v .s), (.v (.i .i64)), (.v .b), (.v (.i .i64)), (.v .s), (.v .s), (.v (.l (.i .i64))), (.v (.i .i64))], .l (.v (.i .i64))], [], [], F41 K⟩
theorem c41 (K : Nat) : CtOk prog 41 (ct41 K) :=
  con_mk (Y := Y) (L := [(40, ct40 K), (47, ct47 K), (51, ct51k K), (50, ct50 K), (48, ct48 K), (49, ct49 K), (52, ct52 K), (53, ct53 K), (54, ct54 K)]) (K := K) (an := (.seq .no (.seq (.seq .no (.cond .no .no)) (.seq .no (.seq (.seq .no (.cond .no .no)) (.seq .no (.seq .no (.seq .no (.seq .no (.seq .no (.seqJ [(1000000, ⟨(ru 1 (.l (.ptr 2000 0 0) :: .l (.ptr 3000 0 0) :: ru 1 (.l (.ptr 5000 0 0) :: ru 1 (.l (.ptr 29000 0 0) :: .l (.v .b) :: ru 136 [])))), [(29000, ⟨24, false, .mix (some 74) [[.l (.v (.i .i64)), .l (.v (.i .i64)), .l (.v (.i .i64)), .l (.v (.i .i64)), .l (.v (.i .i64)), .l (.v (.i .i64)), .l (.v (.i .i64)), .l (.v (.i .i64)), .l (.v (.i .i64)), .l (.v (.i .i64)), .l (.v .b), .l (.v .b), .l (.v .s), .l (.v (.i .i64)), .l (.v (.i .i64)), .l (.v .s), .l (.v (.i .i64)), .l (.v .b), .l (.v (.i .i64)), .l (.v .s), .l (.v .s), .l (.v (.l (.i .i64))), .l (.v (.i .i64)), .l (.v .b)]]⟩), (5000, ⟨3, false, .mix (some 60) [[.l (.v (.i .i64)), .l (.v .b), .l (.v (.i .i64))]]⟩), (3000, ⟨23, false, .mix (some 30) [[.l (.v (.i .i64)), .l (.v (.i .i64)), .l (.v (.i .i64)), .l (.v (.i .i64)), .l (.v (.i .i64)), .l (.v (.i .i64)), .l (.v (.i .i64)), .l (.v (.i .i64)), .l (.v (.i .i64)), .l (.v (.i .i64)), .l (.v .b), .l (.v .b), .l (.v .s), .l (.v (.i .i64)), .l (.v (.i .i64)), .l (.v .s), .l (.v (.i .i64)), .l (.v .b), .l (.v (.i .i64)), .l (.v .s), .l (.v .s), .l (.v (.l (.i .i64))), .l (.v (.i .i64))]]⟩), (2000, ⟨23, false, .mix (some 30) [[.l (.v (.i .i64)), .l (.v (.i .i64)), .l (.v (.i .i64)), .l (.v (.i .i64)), .l (.v (.i .i64)), .l (.v (.i .i64)), .l (.v (.i .i64)), .l (.v (.i .i64)), .l (.v (.i .i64)), .l (.v (.i .i64)), .l (.v .b), .l (.v .b), .l (.v .s), .l (.v (.i .i64)), .l (.v (.i .i64)), .l (.v .s), .l (.v (.i .i64)), .l (.v .b), .l (.v (.i .i64)), .l (.v .s), .l (.v .s), .l (.v (.l (.i .i64))), .l (.v (.i .i64))]]⟩)]⟩)] false (.blk (.seq .no (.cond .no (.seq .no (.cond .no (.seq .no (.cond .no (.seq .no (.cond .no (.seq .no (.cond (.seq .no .no) .no))))))))))) (.seq .no (.seqJ [(1000000, ⟨(ru 2 (.l (.ptr 3000 0 0) :: ru 3 (.l (.ptr 29000 0 0) :: ru 137 []))), [(29000, ⟨24, false, .mix (some 74) [[.l (.v (.i .i64)), .l (.v (.i .i64)), .l (.v (.i .i64)), .l (.v (.i .i64)), .l (.v (.i .i64)), .l (.v (.i .i64)), .l (.v (.i .i64)), .l (.v (.i .i64)), .l (.v (.i .i64)), .l (.v (.i .i64)), .l (.v .b), .l (.v .b), .l (.v .s), .l (.v (.i .i64)), .l (.v (.i .i64)), .l (.v .s), .l (.v (.i .i64)), .l (.v .b), .l (.v (.i .i64)), .l (.v .s), .l (.v .s), .l (.v (.l (.i .i64))), .l (.v (.i .i64)), .l (.v .b)]]⟩), (3000, ⟨23, false, .mix (some 30) [[.l (.v (.i .i64)), .l (.v (.i .i64)), .l (.v (.i .i64)), .l (.v (.i .i64)), .l (.v (.i .i64)), .l (.v (.i .i64)), .l (.v (.i .i64)), .l (.v (.i .i64)), .l (.v (.i .i64)), .l (.v (.i .i64)), .l (.v .b), .l (.v .b), .l (.v .s), .l (.v (.i .i64)), .l (.v (.i .i64)), .l (.v .s), .l (.v (.i .i64)), .l (.v .b), .l (.v (.i .i64)), .l (.v .s), .l (.v .s), .l (.v (.l (.i .i64))), .l (.v (.i .i64))]]⟩)]⟩)] true (.seqJ [(1000000, ⟨(ru 1 (.l (.ptr 2000 0 0) :: .l (.ptr 3000 0 0) :: ru 3 (.l (.ptr 29000 0 0) :: ru 129 (.l (.v .b) :: ru 7 [])))), [(29000, ⟨24, false, .mix (some 74) [[.l (.v (.i .i64)), .l (.v (.i .i64)), .l (.v (.i .i64)), .l (.v (.i .i64)), .l (.v (.i .i64)), .l (.v (.i .i64)), .l (.v (.i .i64)), .l (.v (.i .i64)), .l (.v (.i .i64)), .l (.v (.i .i64)), .l (.v .b), .l (.v .b), .l (.v .s), .l (.v (.i .i64)), .l (.v (.i .i64)), .l (.v .s), .l (.v (.i .i64)), .l (.v .b), .l (.v (.i .i64)), .l (.v .s), .l (.v .s), .l (.v (.l (.i .i64))), .l (.v (.i .i64)), .l (.v .b)]]⟩), (3000, ⟨23, false, .mix (some 30) [[.l (.v (.i .i64)), .l (.v (.i .i64)), .l (.v (.i .i64)), .l (.v (.i .i64)), .l (.v (.i .i64)), .l (.v (.i .i64)), .l (.v (.i .i64)), .l (.v (.i .i64)), .l (.v (.i .i64)), .l (.v (.i .i64)), .l (.v .b), .l (.v .b), .l (.v .s), .l (.v (.i .i64)), .l (.v (.i .i64)), .l (.v .s), .l (.v (.i .i64)), .l (.v .b), .l (.v (.i .i64)), .l (.v .s), .l (.v .s), .l (.v (.l (.i .i64))), .l (.v (.i .i64))]]⟩), (2000, ⟨23, false, .mix (some 30) [[.l (.v (.i .i64)), .l (.v (.i .i64)), .l (.v (.i .i64)), .l (.v (.i .i64)), .l (.v (.i .i64)), .l (.v (.i .i64)), .l (.v (.i .i64)), .l (.v (.i .i64)), .l (.v (.i .i64)), .l (.v (.i .i64)), .l (.v .b), .l (.v .b), .l (.v .s), .l (.v (.i .i64)), .l (.v (.i .i64)), .l (.v .s), .l (.v (.i .i64)), .l (.v .b), .l (.v (.i .i64)), .l (.v .s), .l (.v .s), .l (.v (.l (.i .i64))), .l (.v (.i .i64))]]⟩)]⟩)] false .no (.cond .no .no)) .no))))))))))))) func41 mixed (ctabOk_cons (c40 K) (ctabOk_cons (c47 K) (ctabOk_keep (c51k K) (ctabOk_cons (c50 K) (ctabOk_cons (c48 K) (ctabOk_cons (c49 K) (ctabOk_cons (c52 K) (ctabOk_cons (c53 K) (ctabOk_cons (c54 K) ctabOk_nil))))))))) (by kernel_rfl) fun x => by kernel_rfl

-- loop.example/g00460/spec.RunFor
def F26_b0 (K : Nat) (x : Int × Int × Int × Int × Int × Int × Int × Int × Int × Int × Int × Int × Bool × Bool × (List UInt8) × Int × Int × (List UInt8) × Int × Bool × Int × (List UInt8) × (List UInt8) × (List Int) × Int × Int × Int × Int × Int × Int × Int × Int × Int × Int × Int × Bool × Bool × (List UInt8) × Int × Int × (List UInt8) × Int × Bool × Int × (List UInt8) × (List UInt8) × (List Int) × Int) : Option ((Int × Int × Int × Int × Int × Int × Int × Int × Int × Int × Int × Int × Bool × Bool × (List UInt8) × Int × Int × (List UInt8) × Int × Bool × Int × (List UInt8) × (List UInt8) × (List Int) × Int × Int × Int × Int × Int × Int × Int × Int × Int × Int × Int × Bool × Bool × (List UInt8) × Int × Int × (List UInt8) × Int × Bool × Int × (List UInt8) × (List UInt8) × (List Int) × Int) ⊕ ((Int × Int × Int × Int × Int × Int × Int × Int × Int × Int × Bool × Bool × (List UInt8) × Int × Int × (List UInt8) × Int × Bool × Int × (List UInt8) × (List UInt8) × (List Int) × Int × Int × Int) ⊕ (Int × Int × Int × Int × Int × Int × Int × Int × Int × Int × Int × Bool × Bool × (List UInt8) × Int × Int × (List UInt8) × Int × Bool × Int × (List UInt8) × (List UInt8) × (List Int) × Int × Int × Int × Int × Int × Int × Int × Int × Int × Int × Int × Bool × Bool × (List UInt8) × Int × Int × (List UInt8) × Int × Bool × Int × (List UInt8) × (List UInt8) × (List Int) × Int))) :=
  branch (decide (x.2.1 < x.1))
   (bindO (F41 K (x.2.2.1, x.2.2.2.1, x.2.2.2.2.1, x.2.2.2.2.2.1, x.2.2.2.2.2.2.1, x.2.2.2.2.2.2.2.1, x.2.2.2.2.2.2.2.2.1, x.2.2.2.2.2.2.2.2.2.1, x.2.2.2.2.2.2.2.2.2.2.1, x.2.2.2.2.2.2.2.2.2.2.2.1, x.2.2.2.2.2.2.2.2.2.2.2.2.1, x.2.2.2.2.2.2.2.2.2.2.2.2.2.1, x.2.2.2.2.2.2.2.2.2.2.2.2.2.2.1, x.2.2.2.2.2.2.2.2.2.2.2.2.2.2.2.1, x.2.2.2.2.2.2.2.2.2.2.2.2.2.2.2.2.1, x.2.2.2.2.2.2.2.2.2.2.2.2.2.2.2.2.2.1, x.2.2.2.2.2.2.2.2.2.2.2.2.2.2.2.2.2.2.1, x.2.2.2.2.2.2.2.2.2.2.2.2.2.2.2.2.2.2.2.1, x.2.2.2.2.2.2.2.2.2.2.2.2.2.2.2.2.2.2.2.2.1, x.2.2.2.2.2.2.2.2.2.2.2.2.2.2.2.2.2.2.2.2.2.1, x.2.2.2.2.2.2.2.2.2.2.2.2.2.2.2.2.2.2.2.2.2.2.1, x.2.2.2.2.2.2.2.2.2.2.2.2.2.2.2.2.2.2.2.2.2.2.2.1, x.2.2.2.2.2.2.2.2.2.2.2.2.2.2.2.2.2.2.2.2.2.2.2.2.1)) fun v0 =>
   branch (!(decide (v0.2.2.2.2.2.2.2.2.2.2.2.2.2.2.2.2.2.2.2.2.2.2.2 = 0)))
    (some (.inr (.inl (x.2.2.1, x.2.2.2.1, x.2.2.2.2.1, x.2.2.2.2.2.1, x.2.2.2.2.2.2.1, x.2.2.2.2.2.2.2.1, x.2.2.2.2.2.2.2.2.1, x.2.2.2.2.2.2.2.2.2.1, x.2.2.2.2.2.2.2.2.2.2.1, x.2.2.2.2.2.2.2.2.2.2.2.1, x.2.2.2.2.2.2.2.2.2.2.2.2.1, x.2.2.2.2.2.2.2.2.2.2.2.2.2.1, x.2.2.2.2.2.2.2.2.2.2.2.2.2.2.1, x.2.2.2.2.2.2.2.2.2.2.2.2.2.2.2.1, x.2.2.2.2.2.2.2.2.2.2.2.2.2.2.2.2.1, x.2.2.2.2.2.2.2.2.2.2.2.2.2.2.2.2.2.1, x.2.2.2.2.2.2.2.2.2.2.2.2.2.2.2.2.2.2.1, x.2.2.2.2.2.2.2.2.2.2.2.2.2.2.2.2.2.2.2.1, x.2.2.2.2.2.2.2.2.2.2.2.2.2.2.2.2.2.2.2.2.1, x.2.2.2.2.2.2.2.2.2.2.2.2.2.2.2.2.2.2.2.2.2.1, x.2.2.2.2.2.2.2.2.2.2.2.2.2.2.2.2.2.2.2.2.2.2.1, x.2.2.2.2.2.2.2.2.2.2.2.2.2.2.2.2.2.2.2.2.2.2.2.1, x.2.2.2.2.2.2.2.2.2.2.2.2.2.2.2.2.2.2.2.2.2.2.2.2.1, v0.2.2.2.2.2.2.2.2.2.2.2.2.2.2.2.2.2.2.2.2.2.2.2, x.2.1))))
    (some (.inl (x.1, w64 (x.2.1 + 1), v0.1, v0.2.1, v0.2.2.1, v0.2.2.2.1, v0.2.2.2.2.1, v0.2.2.2.2.2.1, v0.2.2.2.2.2.2.1, v0.2.2.2.2.2.2.2.1, v0.2.2.2.2.2.2.2.2.1, v0.2.2.2.2.2.2.2.2.2.1, v0.2.2.2.2.2.2.2.2.2.2.1, v0.2.2.2.2.2.2.2.2.2.2.2.1, v0.2.2.2.2.2.2.2.2.2.2.2.2.1, v0.2.2.2.2.2.2.2.2.2.2.2.2.2.1, v0.2.2.2.2.2.2.2.2.2.2.2.2.2.2.1, v0.2.2.2.2.2.2.2.2.2.2.2.2.2.2.2.1, v0.2.2.2.2.2.2.2.2.2.2.2.2.2.2.2.2.1, v0.2.2.2.2.2.2.2.2.2.2.2.2.2.2.2.2.2.1, v0.2.2.2.2.2.2.2.2.2.2.2.2.2.2.2.2.2.2.1, v0.2.2.2.2.2.2.2.2.2.2.2.2.2.2.2.2.2.2.2.1, v0.2.2.2.2.2.2.2.2.2.2.2.2.2.2.2.2.2.2.2.2.1, v0.2.2.2.2.2.2.2.2.2.2.2.2.2.2.2.2.2.2.2.2.2.1, v0.2.2.2.2.2.2.2.2.2.2.2.2.2.2.2.2.2.2.2.2.2.2.1, x.2.2.2.2.2.2.2.2.2.2.2.2.2.2.2.2.2.2.2.2.2.2.2.2.2))))
   (some (.inr (.inr (x.1, x.2.2))))
def F26 (K : Nat) (x : Int × Int × Int × Int × Int × Int × Int × Int × Int × Int × Bool × Bool × (List UInt8) × Int × Int × (List UInt8) × Int × Bool × Int × (List UInt8) × (List UInt8) × (List Int) × Int × Int) : Option (Int × Int × Int × Int × Int × Int × Int × Int × Int × Int × Bool × Bool × (List UInt8) × Int × Int × (List UInt8) × Int × Bool × Int × (List UInt8) × (List UInt8) × (List Int) × Int × Int × Int) :=
  bindO (α := (Int × Int × Int × Int × Int × Int × Int × Int × Int × Int × Bool × Bool × (List UInt8) × Int × Int × (List UInt8) × Int × Bool × Int × (List UInt8) × (List UInt8) × (List Int) × Int × Int × Int) ⊕ (Int × Int × Int × Int × Int × Int × Int × Int × Int × Int × Int × Bool × Bool × (List UInt8) × Int × Int × (List UInt8) × Int × Bool × Int × (List UInt8) × (List UInt8) × (List Int) × Int × Int × Int × Int × Int × Int × Int × Int × Int × Int × Int × Bool × Bool × (List UInt8) × Int × Int × (List UInt8) × Int × Bool × Int × (List UInt8) × (List UInt8) × (List Int) × Int)) (bindO (α := Int × Bool × Int × Int × Int × Int × Int × Int × Int × Int × Int × Int × Bool × Bool × (List UInt8) × Int × Int × (List UInt8) × Int × Bool × Int × (List UInt8) × (List UInt8) × (List Int) × Int × Int × Int × Int × Int × Int × Int × Int × Int × Int × Int × Bool × Bool × (List UInt8) × Int × Int × (List UInt8) × Int × Bool × Int × (List UInt8) × (List UInt8) × (List Int) × Int) (bindO (F8 K (x.1, x.2.1, x.2.2.1, x.2.2.2.1, x.2.2.2.2.1, x.2.2.2.2.2.1, x.2.2.2.2.2.2.1, x.2.2.2.2.2.2.2.1, x.2.2.2.2.2.2.2.2.1, x.2.2.2.2.2.2.2.2.2.1, x.2.2.2.2.2.2.2.2.2.2.1, x.2.2.2.2.2.2.2.2.2.2.2.1, x.2.2.2.2.2.2.2.2.2.2.2.2.1, x.2.2.2.2.2.2.2.2.2.2.2.2.2.1, x.2.2.2.2.2.2.2.2.2.2.2.2.2.2.1, x.2.2.2.2.2.2.2.2.2.2.2.2.2.2.2.1, x.2.2.2.2.2.2.2.2.2.2.2.2.2.2.2.2.1, x.2.2.2.2.2.2.2.2.2.2.2.2.2.2.2.2.2.1, x.2.2.2.2.2.2.2.2.2.2.2.2.2.2.2.2.2.2.1, x.2.2.2.2.2.2.2.2.2.2.2.2.2.2.2.2.2.2.2.1, x.2.2.2.2.2.2.2.2.2.2.2.2.2.2.2.2.2.2.2.2.1, x.2.2.2.2.2.2.2.2.2.2.2.2.2.2.2.2.2.2.2.2.2.1, x.2.2.2.2.2.2.2.2.2.2.2.2.2.2.2.2.2.2.2.2.2.2.1)) fun v0 =>
      branch (!v0)
       (some (x.2.2.2.2.2.2.2.2.2.2.2.2.2.2.2.2.2.2.2.2.2.2.2, true, 0, 0, 0, 0, 0, 0, 0, 0, 0, 0, false, false, [], 0, 0, [], 0, false, 0, [], [], [], 0, x.1, x.2.1, x.2.2.1, x.2.2.2.1, x.2.2.2.2.1, x.2.2.2.2.2.1, x.2.2.2.2.2.2.1, x.2.2.2.2.2.2.2.1, x.2.2.2.2.2.2.2.2.1, x.2.2.2.2.2.2.2.2.2.1, x.2.2.2.2.2.2.2.2.2.2.1, x.2.2.2.2.2.2.2.2.2.2.2.1, x.2.2.2.2.2.2.2.2.2.2.2.2.1, x.2.2.2.2.2.2.2.2.2.2.2.2.2.1, x.2.2.2.2.2.2.2.2.2.2.2.2.2.2.1, x.2.2.2.2.2.2.2.2.2.2.2.2.2.2.2.1, x.2.2.2.2.2.2.2.2.2.2.2.2.2.2.2.2.1, x.2.2.2.2.2.2.2.2.2.2.2.2.2.2.2.2.2.1, x.2.2.2.2.2.2.2.2.2.2.2.2.2.2.2.2.2.2.1, x.2.2.2.2.2.2.2.2.2.2.2.2.2.2.2.2.2.2.2.1, x.2.2.2.2.2.2.2.2.2.2.2.2.2.2.2.2.2.2.2.2.1, x.2.2.2.2.2.2.2.2.2.2.2.2.2.2.2.2.2.2.2.2.2.1, x.2.2.2.2.2.2.2.2.2.2.2.2.2.2.2.2.2.2.2.2.2.2.1))
       (bindO (F18 K (x.2.2.2.2.2.2.2.2.2.2.2.2.2.2.2.2.2.2.2.2.2.2.2, 0, 500)) fun v1 =>
       some (x.2.2.2.2.2.2.2.2.2.2.2.2.2.2.2.2.2.2.2.2.2.2.2, !v1, 0, 0, 0, 0, 0, 0, 0, 0, 0, 0, false, false, [], 0, 0, [], 0, false, 0, [], [], [], 0, x.1, x.2.1, x.2.2.1, x.2.2.2.1, x.2.2.2.2.1, x.2.2.2.2.2.1, x.2.2.2.2.2.2.1, x.2.2.2.2.2.2.2.1, x.2.2.2.2.2.2.2.2.1, x.2.2.2.2.2.2.2.2.2.1, x.2.2.2.2.2.2.2.2.2.2.1, x.2.2.2.2.2.2.2.2.2.2.2.1, x.2.2.2.2.2.2.2.2.2.2.2.2.1, x.2.2.2.2.2.2.2.2.2.2.2.2.2.1, x.2.2.2.2.2.2.2.2.2.2.2.2.2.2.1, x.2.2.2.2.2.2.2.2.2.2.2.2.2.2.2.1, x.2.2.2.2.2.2.2.2.2.2.2.2.2.2.2.2.1, x.2.2.2.2.2.2.2.2.2.2.2.2.2.2.2.2.2.1, x.2.2.2.2.2.2.2.2.2.2.2.2.2.2.2.2.2.2.1, x.2.2.2.2.2.2.2.2.2.2.2.2.2.2.2.2.2.2.2.1, x.2.2.2.2.2.2.2.2.2.2.2.2.2.2.2.2.2.2.2.2.1, x.2.2.2.2.2.2.2.2.2.2.2.2.2.2.2.2.2.2.2.2.2.1, x.2.2.2.2.2.2.2.2.2.2.2.2.2.2.2.2.2.2.2.2.2.2.1))) fun v2 =>
    branch v2.2.1
     (some (.inl (0, 0, 0, 0, 0, 0, 0, 0, 0, 0, false, false, [], 0, 0, [], 0, false, 0, [], [], [], 0, 3, 0)))
     (some (.inr (v2.1, v2.2.2)))) fun v3 =>
  csO v3
   (fun v4 => some v4)
   (fun v5 => bindO (F40 K v5.2.2.2.2.2.2.2.2.2.2.2.2.2.2.2.2.2.2.2.2.2.2.2.2) fun v6 =>
   bindO (iter K (F26_b0 K) (v5.1, 0, v6.1, v6.2.1, v6.2.2.1, v6.2.2.2.1, v6.2.2.2.2.1, v6.2.2.2.2.2.1, v6.2.2.2.2.2.2.1, v6.2.2.2.2.2.2.2.1, v6.2.2.2.2.2.2.2.2.1, v6.2.2.2.2.2.2.2.2.2.1, v6.2.2.2.2.2.2.2.2.2.2.1, v6.2.2.2.2.2.2.2.2.2.2.2.1, v6.2.2.2.2.2.2.2.2.2.2.2.2.1, v6.2.2.2.2.2.2.2.2.2.2.2.2.2.1, v6.2.2.2.2.2.2.2.2.2.2.2.2.2.2.1, v6.2.2.2.2.2.2.2.2.2.2.2.2.2.2.2.1, v6.2.2.2.2.2.2.2.2.2.2.2.2.2.2.2.2.1, v6.2.2.2.2.2.2.2.2.2.2.2.2.2.2.2.2.2.1, v6.2.2.2.2.2.2.2.2.2.2.2.2.2.2.2.2.2.2.1, v6.2.2.2.2.2.2.2.2.2.2.2.2.2.2.2.2.2.2.2.1, v6.2.2.2.2.2.2.2.2.2.2.2.2.2.2.2.2.2.2.2.2.1, v6.2.2.2.2.2.2.2.2.2.2.2.2.2.2.2.2.2.2.2.2.2.1, v6.2.2.2.2.2.2.2.2.2.2.2.2.2.2.2.2.2.2.2.2.2.2, v5.2.1, v5.2.2.1, v5.2.2.2.1, v5.2.2.2.2.1, v5.2.2.2.2.2.1, v5.2.2.2.2.2.2.1, v5.2.2.2.2.2.2.2.1, v5.2.2.2.2.2.2.2.2.1, v5.2.2.2.2.2.2.2.2.2.1, v5.2.2.2.2.2.2.2.2.2.2.1, v5.2.2.2.2.2.2.2.2.2.2.2.1, v5.2.2.2.2.2.2.2.2.2.2.2.2.1, v5.2.2.2.2.2.2.2.2.2.2.2.2.2.1, v5.2.2.2.2.2.2.2.2.2.2.2.2.2.2.1, v5.2.2.2.2.2.2.2.2.2.2.2.2.2.2.2.1, v5.2.2.2.2.2.2.2.2.2.2.2.2.2.2.2.2.1, v5.2.2.2.2.2.2.2.2.2.2.2.2.2.2.2.2.2.1, v5.2.2.2.2.2.2.2.2.2.2.2.2.2.2.2.2.2.2.1, v5.2.2.2.2.2.2.2.2.2.2.2.2.2.2.2.2.2.2.2.1, v5.2.2.2.2.2.2.2.2.2.2.2.2.2.2.2.2.2.2.2.2.1, v5.2.2.2.2.2.2.2.2.2.2.2.2.2.2.2.2.2.2.2.2.2.1, v5.2.2.2.2.2.2.2.2.2.2.2.2.2.2.2.2.2.2.2.2.2.2.1, v5.2.2.2.2.2.2.2.2.2.2.2.2.2.2.2.2.2.2.2.2.2.2.2.1)) fun v7 =>
   csO v7
    (fun v8 => some v8)
    (fun v9 => some (v9.2.1, v9.2.2.1, v9.2.2.2.1, v9.2.2.2.2.1, v9.2.2.2.2.2.1, v9.2.2.2.2.2.2.1, v9.2.2.2.2.2.2.2.1, v9.2.2.2.2.2.2.2.2.1, v9.2.2.2.2.2.2.2.2.2.1, v9.2.2.2.2.2.2.2.2.2.2.1, v9.2.2.2.2.2.2.2.2.2.2.2.1, v9.2.2.2.2.2.2.2.2.2.2.2.2.1, v9.2.2.2.2.2.2.2.2.2.2.2.2.2.1, v9.2.2.2.2.2.2.2.2.2.2.2.2.2.2.1, v9.2.2.2.2.2.2.2.2.2.2.2.2.2.2.2.1, v9.2.2.2.2.2.2.2.2.2.2.2.2.2.2.2.2.1, v9.2.2.2.2.2.2.2.2.2.2.2.2.2.2.2.2.2.1, v9.2.2.2.2.2.2.2.2.2.2.2.2.2.2.2.2.2.2.1, v9.2.2.2.2.2.2.2.2.2.2.2.2.2.2.2.2.2.2.2.1, v9.2.2.2.2.2.2.2.2.2.2.2.2.2.2.2.2.2.2.2.2.1, v9.2.2.2.2.2.2.2.2.2.2.2.2.2.2.2.2.2.2.2.2.2.1, v9.2.2.2.2.2.2.2.2.2.2.2.2.2.2.2.2.2.2.2.2.2.2.1, v9.2.2.2.2.2.2.2.2.2.2.2.2.2.2.2.2.2.2.2.2.2.2.2.1, 0, v9.1)))
def ct26 (K : Nat) : Ct := ⟨[.agg [(.v (.i .i64)), (.v (.i .i64)), (.v (.i .i64)), (.v (.i .i64)), (.v (.i .i64)), (.v (.i .i64)), (.v (.i .i64)), (.v (.i .i64)), (.v (.i .i64)), (.v (.i .i64)), (.v .b), (.v .b), (.v .s), (.v (.i .i64)), (.v (.i .i64)), (.v .s), (.v (.i .i64)), (.v .b), (.v (.i .i64)), (.v .s), (.v .s), (.v (.l (.i .i64))), (.v (.i .i64))], .l (.v (.i .i64))], [], [.agg [(.v (.i .i64)), (.v (.i .i64)), (.v (.i .i64)), (.v (.i .i64)), (.v (.i .i64)), (.v (.i .i64)), (.v (.i .i64)), (.v (.i .i64)), (.v (.i .i64)), (.v (.i .i64)), (.v .b), (.v .b), (.v .s), (.v (.i .i64)), (.v (.i .i64)), (.v .s), (.v (.i .i64)), (.v .b), (.v (.i .i64)), (.v .s), (.v .s), (.v (.l (.i .i64))), (.v (.i .i64))], .l (.v (.i .i64)), .l (.v (.i .i64))], [], [], F26 K⟩
theorem c26 (K : Nat) : CtOk prog 26 (ct26 K) :=
  con_mk (Y := Y) (L := [(18, ct18 K), (8, ct8 K), (40, ct40 K), (41, ct41 K)]) (K := K) (an := (.seq .no (.seqJ [(1000000, ⟨(ru 1 (.l (.v (.i .i64)) :: .l (.ptr 3000 0 0) :: ru 1 (.l (.ptr 5000 0 0) :: ru 35 []))), [(5000, ⟨23, false, .mix (some 30) [[.l (.v (.i .i64)), .l (.v (.i .i64)), .l (.v (.i .i64)), .l (.v (.i .i64)), .l (.v (.i .i64)), .l (.v (.i .i64)), .l (.v (.i .i64)), .l (.v (.i .i64)), .l (.v (.i .i64)), .l (.v (.i .i64)), .l (.v .b), .l (.v .b), .l (.v .s), .l (.v (.i .i64)), .l (.v (.i .i64)), .l (.v .s), .l (.v (.i .i64)), .l (.v .b), .l (.v (.i .i64)), .l (.v .s), .l (.v .s), .l (.v (.l (.i .i64))), .l (.v (.i .i64))]]⟩), (3000, ⟨23, false, .mix (some 30) [[.l (.v (.i .i64)), .l (.v (.i .i64)), .l (.v (.i .i64)), .l (.v (.i .i64)), .l (.v (.i .i64)), .l (.v (.i .i64)), .l (.v (.i .i64)), .l (.v (.i .i64)), .l (.v (.i .i64)), .l (.v (.i .i64)), .l (.v .b), .l (.v .b), .l (.v .s), .l (.v (.i .i64)), .l (.v (.i .i64)), .l (.v .s), .l (.v (.i .i64)), .l (.v .b), .l (.v (.i .i64)), .l (.v .s), .l (.v .s), .l (.v (.l (.i .i64))), .l (.v (.i .i64))]]⟩)]⟩)] true (.seqJ [(1000000, ⟨(ru 1 (.l (.v (.i .i64)) :: .l (.ptr 3000 0 0) :: ru 1 (.l (.ptr 5000 0 0) :: ru 13 (.l (.v .b) :: ru 21 [])))), [(5000, ⟨23, false, .mix (some 30) [[.l (.v (.i .i64)), .l (.v (.i .i64)), .l (.v (.i .i64)), .l (.v (.i .i64)), .l (.v (.i .i64)), .l (.v (.i .i64)), .l (.v (.i .i64)), .l (.v (.i .i64)), .l (.v (.i .i64)), .l (.v (.i .i64)), .l (.v .b), .l (.v .b), .l (.v .s), .l (.v (.i .i64)), .l (.v (.i .i64)), .l (.v .s), .l (.v (.i .i64)), .l (.v .b), .l (.v (.i .i64)), .l (.v .s), .l (.v .s), .l (.v (.l (.i .i64))), .l (.v (.i .i64))]]⟩), (3000, ⟨23, false, .mix (some 30) [[.l (.v (.i .i64)), .l (.v (.i .i64)), .l (.v (.i .i64)), .l (.v (.i .i64)), .l (.v (.i .i64)), .l (.v (.i .i64)), .l (.v (.i .i64)), .l (.v (.i .i64)), .l (.v (.i .i64)), .l (.v (.i .i64)), .l (.v .b), .l (.v .b), .l (.v .s), .l (.v (.i .i64)), .l (.v (.i .i64)), .l (.v .s), .l (.v (.i .i64)), .l (.v .b), .l (.v (.i .i64)), .l (.v .s), .l (.v .s), .l (.v (.l (.i .i64))), .l (.v (.i .i64))]]⟩)]⟩)] false .no (.cond .no .no)) (.seq .no (.seq (.seq .no (.blk (.loop [] ⟨(ru 1 (.l (.v (.i .i64)) :: ru 2 (.l (.ptr 5000 0 0) :: ru 2 (.l (.ptr 8000 0 0) :: .l (.v (.i .i64)) :: ru 31 [])))), [(8000, ⟨23, false, .mix (some 30) [[.l (.v (.i .i64)), .l (.v (.i .i64)), .l (.v (.i .i64)), .l (.v (.i .i64)), .l (.v (.i .i64)), .l (.v (.i .i64)), .l (.v (.i .i64)), .l (.v (.i .i64)), .l (.v (.i .i64)), .l (.v (.i .i64)), .l (.v .b), .l (.v .b), .l (.v .s), .l (.v (.i .i64)), .l (.v (.i .i64)), .l (.v .s), .l (.v (.i .i64)), .l (.v .b), .l (.v (.i .i64)), .l (.v .s), .l (.v .s), .l (.v (.l (.i .i64))), .l (.v (.i .i64))]]⟩), (5000, ⟨23, false, .mix (some 30) [[.l (.v (.i .i64)), .l (.v (.i .i64)), .l (.v (.i .i64)), .l (.v (.i .i64)), .l (.v (.i .i64)), .l (.v (.i .i64)), .l (.v (.i .i64)), .l (.v (.i .i64)), .l (.v (.i .i64)), .l (.v (.i .i64)), .l (.v .b), .l (.v .b), .l (.v .s), .l (.v (.i .i64)), .l (.v (.i .i64)), .l (.v .s), .l (.v (.i .i64)), .l (.v .b), .l (.v (.i .i64)), .l (.v .s), .l (.v .s), .l (.v (.l (.i .i64))), .l (.v (.i .i64))]]⟩)]⟩ [(0, ⟨(ru 1 (.l (.v (.i .i64)) :: ru 2 (.l (.ptr 5000 0 0) :: ru 2 (.l (.ptr 8000 0 0) :: ru 32 [])))), [(8000, ⟨23, false, .mix (some 30) [[.l (.v (.i .i64)), .l (.v (.i .i64)), .l (.v (.i .i64)), .l (.v (.i .i64)), .l (.v (.i .i64)), .l (.v (.i .i64)), .l (.v (.i .i64)), .l (.v (.i .i64)), .l (.v (.i .i64)), .l (.v (.i .i64)), .l (.v .b), .l (.v .b), .l (.v .s), .l (.v (.i .i64)), .l (.v (.i .i64)), .l (.v .s), .l (.v (.i .i64)), .l (.v .b), .l (.v (.i .i64)), .l (.v .s), .l (.v .s), .l (.v (.l (.i .i64))), .l (.v (.i .i64))]]⟩), (5000, ⟨23, false, .mix (some 30) [[.l (.v (.i .i64)), .l (.v (.i .i64)), .l (.v (.i .i64)), .l (.v (.i .i64)), .l (.v (.i .i64)), .l (.v (.i .i64)), .l (.v (.i .i64)), .l (.v (.i .i64)), .l (.v (.i .i64)), .l (.v (.i .i64)), .l (.v .b), .l (.v .b), .l (.v .s), .l (.v (.i .i64)), .l (.v (.i .i64)), .l (.v .s), .l (.v (.i .i64)), .l (.v .b), .l (.v (.i .i64)), .l (.v .s), .l (.v .s), .l (.v (.l (.i .i64))), .l (.v (.i .i64))]]⟩)]⟩)] true (.seq (.seq .no .no) (.seq (.blk (.seq .no (.seq (.seq .no (.cond .no .no)) .no))) .no))))) .no))))) func26 mixed (ctabOk_cons (c18 K) (ctabOk_cons (c8 K) (ctabOk_cons (c40 K) (ctabOk_cons (c41 K) ctabOk_nil)))) (by kernel_rfl) fun x => by kernel_rfl

-- (*loop.example/g00460/spec.l1Rd).machine
def F11 (K : Nat) (x : Int × (List Int) × Int) : Option (Int × Int × Int × Int × Int × Int × Int × Int × Int × Int × Bool × Bool × (List UInt8) × Int × Int × (List UInt8) × Int × Bool × Int × (List UInt8) × (List UInt8) × (List Int) × Int × (List Int) × Int) :=
  bindO (F22 K x.2) fun v0 =>
  bindO (F23 K (3, v0.2)) fun v1 =>
  bindO (F21 K (v0.1, v1.1)) fun v2 =>
  branch (!v2.2.2.2.2.2.2.2.2.2.2.2.2.2.2.2.2.2.2.2.2.2.2.2)
   (some (v2.1, v2.2.1, v2.2.2.1, v2.2.2.2.1, v2.2.2.2.2.1, v2.2.2.2.2.2.1, v2.2.2.2.2.2.2.1, v2.2.2.2.2.2.2.2.1, v2.2.2.2.2.2.2.2.2.1, v2.2.2.2.2.2.2.2.2.2.1, v2.2.2.2.2.2.2.2.2.2.2.1, v2.2.2.2.2.2.2.2.2.2.2.2.1, v2.2.2.2.2.2.2.2.2.2.2.2.2.1, v2.2.2.2.2.2.2.2.2.2.2.2.2.2.1, v2.2.2.2.2.2.2.2.2.2.2.2.2.2.2.1, v2.2.2.2.2.2.2.2.2.2.2.2.2.2.2.2.1, v2.2.2.2.2.2.2.2.2.2.2.2.2.2.2.2.2.1, v2.2.2.2.2.2.2.2.2.2.2.2.2.2.2.2.2.2.1, v2.2.2.2.2.2.2.2.2.2.2.2.2.2.2.2.2.2.2.1, v2.2.2.2.2.2.2.2.2.2.2.2.2.2.2.2.2.2.2.2.1, v2.2.2.2.2.2.2.2.2.2.2.2.2.2.2.2.2.2.2.2.2.1, v2.2.2.2.2.2.2.2.2.2.2.2.2.2.2.2.2.2.2.2.2.2.1, v2.2.2.2.2.2.2.2.2.2.2.2.2.2.2.2.2.2.2.2.2.2.2.1, v1.2))
   (bindO (F24 K v1.2) fun v3 =>
   bindO (F25 K v3.2) fun v4 =>
   bindO (F24 K v4.2) fun v5 =>
   bindO (F24 K v5.2) fun v6 =>
   bindO (F23 K (5, v6.2)) fun v7 =>
   guard (decide (0 ≤ v7.1 ∧ v7.1 < (5 : Int))) <|
   nthN [0, 192, 255, 160, 1] v7.1.toNat fun v8 =>
   bindO (F23 K (5, v7.2)) fun v9 =>
   guard (decide (0 ≤ v9.1 ∧ v9.1 < (5 : Int))) <|
   nthN [65534, 49200, 65420, 49153, 2] v9.1.toNat fun v10 =>
   bindO (F23 K (w64 (x.1 + 1), v9.2)) fun v11 =>
   bindO (F26 K (v3.1, v4.1, v5.1, v2.2.2.2.1, v2.2.2.2.2.1, v2.2.2.2.2.2.1, v8, v6.1, v10, v2.2.2.2.2.2.2.2.2.2.1, v2.2.2.2.2.2.2.2.2.2.2.1, v2.2.2.2.2.2.2.2.2.2.2.2.1, v2.2.2.2.2.2.2.2.2.2.2.2.2.1, v2.2.2.2.2.2.2.2.2.2.2.2.2.2.1, v2.2.2.2.2.2.2.2.2.2.2.2.2.2.2.1, v2.2.2.2.2.2.2.2.2.2.2.2.2.2.2.2.1, v2.2.2.2.2.2.2.2.2.2.2.2.2.2.2.2.2.1, v2.2.2.2.2.2.2.2.2.2.2.2.2.2.2.2.2.2.1, v2.2.2.2.2.2.2.2.2.2.2.2.2.2.2.2.2.2.2.1, v2.2.2.2.2.2.2.2.2.2.2.2.2.2.2.2.2.2.2.2.1, v2.2.2.2.2.2.2.2.2.2.2.2.2.2.2.2.2.2.2.2.2.1, v2.2.2.2.2.2.2.2.2.2.2.2.2.2.2.2.2.2.2.2.2.2.1, v2.2.2.2.2.2.2.2.2.2.2.2.2.2.2.2.2.2.2.2.2.2.2.1, v11.1)) fun v12 =>
   bindO (α := Int × Int × Int × Int × Int × Int × Int × Int × Int × Int × Bool × Bool × (List UInt8) × Int × Int × (List UInt8) × Int × Bool × Int × (List UInt8) × (List UInt8) × (List Int) × Int × Int × Int × Int × Int × Int × Int × Int × Int × Int × Int × Bool × Bool × (List UInt8) × Int × Int × (List UInt8) × Int × Bool × Int × (List UInt8) × (List UInt8) × (List Int) × Int × (List Int) × Int) (bindO (F27 K (4, v11.2)) fun v13 =>
     branch v13.1
      (bindO (F23 K (4, v13.2)) fun v14 =>
      guard (decide (0 ≤ v14.1 ∧ v14.1 < (4 : Int))) <|
      nthN [256, 49152, 0, 257] v14.1.toNat fun v15 =>
      some (v12.1, v12.2.1, v12.2.2.1, v12.2.2.2.1, v12.2.2.2.2.1, v12.2.2.2.2.2.1, v12.2.2.2.2.2.2.1, v12.2.2.2.2.2.2.2.1, v12.2.2.2.2.2.2.2.2.1, v15, v12.2.2.2.2.2.2.2.2.2.2.1, v12.2.2.2.2.2.2.2.2.2.2.2.1, v12.2.2.2.2.2.2.2.2.2.2.2.2.1, v12.2.2.2.2.2.2.2.2.2.2.2.2.2.1, v12.2.2.2.2.2.2.2.2.2.2.2.2.2.2.1, v12.2.2.2.2.2.2.2.2.2.2.2.2.2.2.2.1, v12.2.2.2.2.2.2.2.2.2.2.2.2.2.2.2.2.1, v12.2.2.2.2.2.2.2.2.2.2.2.2.2.2.2.2.2.1, v12.2.2.2.2.2.2.2.2.2.2.2.2.2.2.2.2.2.2.1, v12.2.2.2.2.2.2.2.2.2.2.2.2.2.2.2.2.2.2.2.1, v12.2.2.2.2.2.2.2.2.2.2.2.2.2.2.2.2.2.2.2.2.1, v12.2.2.2.2.2.2.2.2.2.2.2.2.2.2.2.2.2.2.2.2.2.1, v12.2.2.2.2.2.2.2.2.2.2.2.2.2.2.2.2.2.2.2.2.2.2.1, 0, 0, 0, 0, 0, 0, 0, 0, 0, 0, false, false, [], 0, 0, [], 0, false, 0, [], [], [], 0, v14.2))
      (some (v12.1, v12.2.1, v12.2.2.1, v12.2.2.2.1, v12.2.2.2.2.1, v12.2.2.2.2.2.1, v12.2.2.2.2.2.2.1, v12.2.2.2.2.2.2.2.1, v12.2.2.2.2.2.2.2.2.1, v12.2.2.2.2.2.2.2.2.2.1, v12.2.2.2.2.2.2.2.2.2.2.1, v12.2.2.2.2.2.2.2.2.2.2.2.1, v12.2.2.2.2.2.2.2.2.2.2.2.2.1, v12.2.2.2.2.2.2.2.2.2.2.2.2.2.1, v12.2.2.2.2.2.2.2.2.2.2.2.2.2.2.1, v12.2.2.2.2.2.2.2.2.2.2.2.2.2.2.2.1, v12.2.2.2.2.2.2.2.2.2.2.2.2.2.2.2.2.1, v12.2.2.2.2.2.2.2.2.2.2.2.2.2.2.2.2.2.1, v12.2.2.2.2.2.2.2.2.2.2.2.2.2.2.2.2.2.2.1, v12.2.2.2.2.2.2.2.2.2.2.2.2.2.2.2.2.2.2.2.1, v12.2.2.2.2.2.2.2.2.2.2.2.2.2.2.2.2.2.2.2.2.1, v12.2.2.2.2.2.2.2.2.2.2.2.2.2.2.2.2.2.2.2.2.2.1, v12.2.2.2.2.2.2.2.2.2.2.2.2.2.2.2.2.2.2.2.2.2.2.1, 0, 0, 0, 0, 0, 0, 0, 0, 0, 0, false, false, [], 0, 0, [], 0, false, 0, [], [], [], 0, v13.2))) fun v16 =>
   bindO (F23 K (30, v16.2.2.2.2.2.2.2.2.2.2.2.2.2.2.2.2.2.2.2.2.2.2.2.2.2.2.2.2.2.2.2.2.2.2.2.2.2.2.2.2.2.2.2.2.2.2)) fun v17 =>
   branch (decide (v17.1 = 28))
    (bindO (F28 K (0, 255, v17.2)) fun v18 =>
    some (v16.1, v18.1, v16.2.2.1, v16.2.2.2.1, v16.2.2.2.2.1, v16.2.2.2.2.2.1, v16.2.2.2.2.2.2.1, v16.2.2.2.2.2.2.2.1, v16.2.2.2.2.2.2.2.2.1, v16.2.2.2.2.2.2.2.2.2.1, v16.2.2.2.2.2.2.2.2.2.2.1, v16.2.2.2.2.2.2.2.2.2.2.2.1, v16.2.2.2.2.2.2.2.2.2.2.2.2.1, v16.2.2.2.2.2.2.2.2.2.2.2.2.2.1, v16.2.2.2.2.2.2.2.2.2.2.2.2.2.2.1, v16.2.2.2.2.2.2.2.2.2.2.2.2.2.2.2.1, v16.2.2.2.2.2.2.2.2.2.2.2.2.2.2.2.2.1, v16.2.2.2.2.2.2.2.2.2.2.2.2.2.2.2.2.2.1, v16.2.2.2.2.2.2.2.2.2.2.2.2.2.2.2.2.2.2.1, v16.2.2.2.2.2.2.2.2.2.2.2.2.2.2.2.2.2.2.2.1, v16.2.2.2.2.2.2.2.2.2.2.2.2.2.2.2.2.2.2.2.2.1, v16.2.2.2.2.2.2.2.2.2.2.2.2.2.2.2.2.2.2.2.2.2.1, v16.2.2.2.2.2.2.2.2.2.2.2.2.2.2.2.2.2.2.2.2.2.2.1, v18.2))
    (branch (decide (v17.1 = 29))
     (bindO (F28 K (0, 65535, v17.2)) fun v19 =>
     some (v16.1, v16.2.1, v16.2.2.1, v16.2.2.2.1, v16.2.2.2.2.1, v16.2.2.2.2.2.1, v16.2.2.2.2.2.2.1, v16.2.2.2.2.2.2.2.1, v16.2.2.2.2.2.2.2.2.1, v19.1, v16.2.2.2.2.2.2.2.2.2.2.1, v16.2.2.2.2.2.2.2.2.2.2.2.1, v16.2.2.2.2.2.2.2.2.2.2.2.2.1, v16.2.2.2.2.2.2.2.2.2.2.2.2.2.1, v16.2.2.2.2.2.2.2.2.2.2.2.2.2.2.1, v16.2.2.2.2.2.2.2.2.2.2.2.2.2.2.2.1, v16.2.2.2.2.2.2.2.2.2.2.2.2.2.2.2.2.1, v16.2.2.2.2.2.2.2.2.2.2.2.2.2.2.2.2.2.1, v16.2.2.2.2.2.2.2.2.2.2.2.2.2.2.2.2.2.2.1, v16.2.2.2.2.2.2.2.2.2.2.2.2.2.2.2.2.2.2.2.1, v16.2.2.2.2.2.2.2.2.2.2.2.2.2.2.2.2.2.2.2.2.1, v16.2.2.2.2.2.2.2.2.2.2.2.2.2.2.2.2.2.2.2.2.2.1, v16.2.2.2.2.2.2.2.2.2.2.2.2.2.2.2.2.2.2.2.2.2.2.1, v19.2))
     (some (v16.1, v16.2.1, v16.2.2.1, v16.2.2.2.1, v16.2.2.2.2.1, v16.2.2.2.2.2.1, v16.2.2.2.2.2.2.1, v16.2.2.2.2.2.2.2.1, v16.2.2.2.2.2.2.2.2.1, v16.2.2.2.2.2.2.2.2.2.1, v16.2.2.2.2.2.2.2.2.2.2.1, v16.2.2.2.2.2.2.2.2.2.2.2.1, v16.2.2.2.2.2.2.2.2.2.2.2.2.1, v16.2.2.2.2.2.2.2.2.2.2.2.2.2.1, v16.2.2.2.2.2.2.2.2.2.2.2.2.2.2.1, v16.2.2.2.2.2.2.2.2.2.2.2.2.2.2.2.1, v16.2.2.2.2.2.2.2.2.2.2.2.2.2.2.2.2.1, v16.2.2.2.2.2.2.2.2.2.2.2.2.2.2.2.2.2.1, v16.2.2.2.2.2.2.2.2.2.2.2.2.2.2.2.2.2.2.1, v16.2.2.2.2.2.2.2.2.2.2.2.2.2.2.2.2.2.2.2.1, v16.2.2.2.2.2.2.2.2.2.2.2.2.2.2.2.2.2.2.2.2.1, v16.2.2.2.2.2.2.2.2.2.2.2.2.2.2.2.2.2.2.2.2.2.1, v16.2.2.2.2.2.2.2.2.2.2.2.2.2.2.2.2.2.2.2.2.2.2.1, v17.2))))
def ct11 (K : Nat) : Ct := ⟨[.l (.ptr 0 0 0), .l (.v (.i .i64))], [⟨2, false, .mix (some 45) [[.l (.v (.l (.i .u8))), .l (.v (.i .i64))]]⟩], [.agg [(.v (.i .i64)), (.v (.i .i64)), (.v (.i .i64)), (.v (.i .i64)), (.v (.i .i64)), (.v (.i .i64)), (.v (.i .i64)), (.v (.i .i64)), (.v (.i .i64)), (.v (.i .i64)), (.v .b), (.v .b), (.v .s), (.v (.i .i64)), (.v (.i .i64)), (.v .s), (.v (.i .i64)), (.v .b), (.v (.i .i64)), (.v .s), (.v .s), (.v (.l (.i .i64))), (.v (.i .i64))]], [⟨2, false, .mix (some 45) [[.l (.v (.l (.i .u8))), .l (.v (.i .i64))]]⟩], [], F11 K⟩
theorem c11 (K : Nat) : CtOk prog 11 (ct11 K) :=
  con_mk (Y := Y) (L := [(23, ct23 K), (27, ct27 K), (24, ct24 K), (28, ct28 K), (22, ct22 K), (21, ct21 K), (25, ct25 K), (26, ct26 K)]) (K := K) (an := (.seq .no (.seq .no (.seq (.seq .no (.cond .no .no)) (.seq .no (.seq .no (.seq .no (.seq .no (.seq .no (.seq .no (.seq .no (.seqJ [(1000000, ⟨(.l (.ptr 0 0 0) :: ru 3 (.l (.ptr 5000 0 0) :: .l (.ptr 6000 0 0) :: ru 76 [])), [(6000, ⟨23, false, .mix (some 30) [[.l (.v (.i .i64)), .l (.v (.i .i64)), .l (.v (.i .i64)), .l (.v (.i .i64)), .l (.v (.i .i64)), .l (.v (.i .i64)), .l (.v (.i .i64)), .l (.v (.i .i64)), .l (.v (.i .i64)), .l (.v (.i .i64)), .l (.v .b), .l (.v .b), .l (.v .s), .l (.v (.i .i64)), .l (.v (.i .i64)), .l (.v .s), .l (.v (.i .i64)), .l (.v .b), .l (.v (.i .i64)), .l (.v .s), .l (.v .s), .l (.v (.l (.i .i64))), .l (.v (.i .i64))]]⟩), (5000, ⟨23, false, .mix (some 30) [[.l (.v (.i .i64)), .l (.v (.i .i64)), .l (.v (.i .i64)), .l (.v (.i .i64)), .l (.v (.i .i64)), .l (.v (.i .i64)), .l (.v (.i .i64)), .l (.v (.i .i64)), .l (.v (.i .i64)), .l (.v (.i .i64)), .l (.v .b), .l (.v .b), .l (.v .s), .l (.v (.i .i64)), .l (.v (.i .i64)), .l (.v .s), .l (.v (.i .i64)), .l (.v .b), .l (.v (.i .i64)), .l (.v .s), .l (.v .s), .l (.v (.l (.i .i64))), .l (.v (.i .i64))]]⟩), (0, ⟨2, false, .mix (some 45) [[.l (.v (.l (.i .u8))), .l (.v (.i .i64))]]⟩)]⟩)] false (.seq .no .no) (.seq (.seq .no (.blk (.seq .no (.cond .no (.seq .no .no))))) .no))))))))))))) func11 mixed (ctabOk_cons (c23 K) (ctabOk_cons (c27 K) (ctabOk_cons (c24 K) (ctabOk_cons (c28 K) (ctabOk_cons (c22 K) (ctabOk_cons (c21 K) (ctabOk_cons (c25 K) (ctabOk_cons (c26 K) ctabOk_nil)))))))) (by kernel_rfl) fun x => by kernel_rfl

-- loop.example/g00460/spec.DrawAt
def F5 (K : Nat) (x : List Int) : Option (Int × Int × Int × Int × Int × Int × Int × Int × Int × Int × Bool × Bool × (List UInt8) × Int × Int × (List UInt8) × Int × Bool × Int × (List UInt8) × (List UInt8) × (List Int) × Int) :=
  bindO (F10 K x) fun v0 =>
  bindO (F11 K (10, v0)) fun v1 =>
  some (v1.1, v1.2.1, v1.2.2.1, v1.2.2.2.1, v1.2.2.2.2.1, v1.2.2.2.2.2.1, v1.2.2.2.2.2.2.1, v1.2.2.2.2.2.2.2.1, v1.2.2.2.2.2.2.2.2.1, v1.2.2.2.2.2.2.2.2.2.1, v1.2.2.2.2.2.2.2.2.2.2.1, v1.2.2.2.2.2.2.2.2.2.2.2.1, v1.2.2.2.2.2.2.2.2.2.2.2.2.1, v1.2.2.2.2.2.2.2.2.2.2.2.2.2.1, v1.2.2.2.2.2.2.2.2.2.2.2.2.2.2.1, v1.2.2.2.2.2.2.2.2.2.2.2.2.2.2.2.1, v1.2.2.2.2.2.2.2.2.2.2.2.2.2.2.2.2.1, v1.2.2.2.2.2.2.2.2.2.2.2.2.2.2.2.2.2.1, v1.2.2.2.2.2.2.2.2.2.2.2.2.2.2.2.2.2.2.1, v1.2.2.2.2.2.2.2.2.2.2.2.2.2.2.2.2.2.2.2.1, v1.2.2.2.2.2.2.2.2.2.2.2.2.2.2.2.2.2.2.2.2.1, v1.2.2.2.2.2.2.2.2.2.2.2.2.2.2.2.2.2.2.2.2.2.1, v1.2.2.2.2.2.2.2.2.2.2.2.2.2.2.2.2.2.2.2.2.2.2.1)
def ct5 (K : Nat) : Ct := ⟨[.l (.v (.l (.i .u8)))], [], [.agg [(.v (.i .i64)), (.v (.i .i64)), (.v (.i .i64)), (.v (.i .i64)), (.v (.i .i64)), (.v (.i .i64)), (.v (.i .i64)), (.v (.i .i64)), (.v (.i .i64)), (.v (.i .i64)), (.v .b), (.v .b), (.v .s), (.v (.i .i64)), (.v (.i .i64)), (.v .s), (.v (.i .i64)), (.v .b), (.v (.i .i64)), (.v .s), (.v .s), (.v (.l (.i .i64))), (.v (.i .i64))]], [], [], F5 K⟩
theorem c5 (K : Nat) : CtOk prog 5 (ct5 K) :=
  con_mk (Y := Y) (L := [(10, ct10 K), (11, ct11 K)]) (K := K) (an := (.seq .no (.seq .no .no))) func5 mixed (ctabOk_cons (c10 K) (ctabOk_cons (c11 K) ctabOk_nil)) (by kernel_rfl) fun x => by kernel_rfl

-- loop.example/g00460/impl.isWord
def F32 (K : Nat) (x : Int) : Option (Bool) :=
  bindO (F33 K (x, 0, 65535)) fun v0 =>
  some v0
def ct32 (K : Nat) : Ct := ⟨[.l (.v (.i .i64))], [], [.l (.v .b)], [], [], F32 K⟩
theorem c32 (K : Nat) : CtOk prog 32 (ct32 K) :=
  con_mk (Y := Y) (L := [(33, ct33 K)]) (K := K) (an := (.seq .no .no)) func32 mixed (ctabOk_cons (c33 K) ctabOk_nil) (by kernel_rfl) fun x => by kernel_rfl

-- loop.example/g00460/impl.CartOk
def F19 (K : Nat) (x : (List UInt8) × Int × Int × (List UInt8) × Int × Bool × Int) : Option (Bool) :=
  bindO (α := Bool ⊕ ((List UInt8) × Int × Int × (List UInt8) × Int × Bool × Int)) (bindO (α := Bool × (List UInt8) × Int × Int × (List UInt8) × Int × Bool × Int) (branch (!(decide ((Int.tmod (x.1.length : Int) 256) = 0)))
       (some (true, x))
       (bindO (F33 K (w64 (Int.tdiv (x.1.length : Int) 256), 2, 16)) fun v0 =>
       branch (!v0)
        (some (true, x))
        (some (!(decide ((x.2.2.2.1.length : Int) = 256)), x)))) fun v1 =>
    branch v1.1
     (some (.inl false))
     (some (.inr v1.2))) fun v2 =>
  csO v2
   (fun v3 => some v3)
   (fun v4 => branch (decide (v4.2.1 = 0))
    (branch (decide (v4.2.2.1 = 1))
     (branch (decide (v4.2.2.2.2.1 = 0))
      (branch (decide (v4.2.2.2.2.2.2 = 0))
       (some (!v4.2.2.2.2.2.1))
       (some false))
      (some false))
     (some false))
    (branch (decide (v4.2.1 = 1))
     (bindO (F33 K (v4.2.2.1, 1, 31)) fun v5 =>
     branch v5
      (bindO (F33 K (v4.2.2.2.2.1, 0, 3)) fun v6 =>
      branch v6
       (bindO (F33 K (v4.2.2.2.2.2.2, 0, 1)) fun v7 =>
       some v7)
       (some false))
      (some false))
     (branch (decide (v4.2.1 = 2))
      (bindO (F29 K v4.2.2.1) fun v8 =>
      branch v8
       (bindO (F33 K (v4.2.2.2.2.1, 0, 3)) fun v9 =>
       branch v9
        (some (decide (v4.2.2.2.2.2.2 = 0)))
        (some false))
       (some false))
      (some false))))
def ct19 (K : Nat) : Ct := ⟨[.agg [(.v .s), (.v (.i .i64)), (.v (.i .i64)), (.v .s), (.v (.i .i64)), (.v .b), (.v (.i .i64))]], [], [.l (.v .b)], [], [], F19 K⟩
theorem c19 (K : Nat) : CtOk prog 19 (ct19 K) :=
  con_mk (Y := Y) (L := [(33, ct33 K), (29, ct29 K)]) (K := K) (an := (.seq .no (.seqJ [(1000000, ⟨(ru 1 (.l (.ptr 2000 0 0) :: ru 72 [])), [(2000, ⟨7, false, .mix (some 27) [[.l (.v .s), .l (.v (.i .i64)), .l (.v (.i .i64)), .l (.v .s), .l (.v (.i .i64)), .l (.v .b), .l (.v (.i .i64))]]⟩)]⟩)] true (.seqJ [(1000000, ⟨(ru 1 (.l (.ptr 2000 0 0) :: ru 19 (.l (.v .b) :: ru 52 []))), [(2000, ⟨7, false, .mix (some 27) [[.l (.v .s), .l (.v (.i .i64)), .l (.v (.i .i64)), .l (.v .s), .l (.v (.i .i64)), .l (.v .b), .l (.v (.i .i64))]]⟩)]⟩)] false .no (.cond .no .no)) (.seq (.seq .no (.blk (.seq .no (.cond .no (.seq .no (.cond .no (.seq .no (.cond .no .no)))))))) .no)))) func19 mixed (ctabOk_cons (c33 K) (ctabOk_cons (c29 K) ctabOk_nil)) (by kernel_rfl) fun x => by kernel_rfl

-- loop.example/g00460/impl.MachineOk
def F12_b0 (K : Nat) (x : Int × Int × (List Int) × Int × Int × Int × Int × Int × Int × Int × Int × Int × Int × Bool × Bool × Int × Int × Int × Int × Int × Int × Int × Int × Int × Int × Bool × Bool × (List UInt8) × Int × Int × (List UInt8) × Int × Bool × Int × (List UInt8) × (List UInt8) × (List Int) × Int) : Option ((Int × Int × (List Int) × Int × Int × Int × Int × Int × Int × Int × Int × Int × Int × Bool × Bool × Int × Int × Int × Int × Int × Int × Int × Int × Int × Int × Bool × Bool × (List UInt8) × Int × Int × (List UInt8) × Int × Bool × Int × (List UInt8) × (List UInt8) × (List Int) × Int) ⊕ (Bool ⊕ (Int × Int × Int × Int × Int × Int × Int × Int × Int × Int × Bool × Bool × Int × Int × Int × Int × Int × Int × Int × Int × Int × Int × Bool × Bool × (List UInt8) × Int × Int × (List UInt8) × Int × Bool × Int × (List UInt8) × (List UInt8) × (List Int) × Int))) :=
  branch (decide (x.2.1 < x.1))
   (guard (decide (0 ≤ x.2.1 ∧ x.2.1 < (x.2.2.1.length : Int))) <|
   nthN x.2.2.1 x.2.1.toNat fun v0 =>
   bindO (F29 K v0) fun v1 =>
   branch (!v1)
    (some (.inr (.inl false)))
    (some (.inl (x.1, w64 (x.2.1 + 1), x.2.2))))
   (some (.inr (.inr x.2.2.2)))
def F12 (K : Nat) (x : Int × Int × Int × Int × Int × Int × Int × Int × Int × Int × Bool × Bool × (List UInt8) × Int × Int × (List UInt8) × Int × Bool × Int × (List UInt8) × (List UInt8) × (List Int) × Int) : Option (Bool) :=
  bindO (iter K (F12_b0 K) (([x.1, x.2.1, x.2.2.1, x.2.2.2.1, x.2.2.2.2.1, x.2.2.2.2.2.1, x.2.2.2.2.2.2.1, x.2.2.2.2.2.2.2.1].length : Int), 0, [x.1, x.2.1, x.2.2.1, x.2.2.2.1, x.2.2.2.2.1, x.2.2.2.2.2.1, x.2.2.2.2.2.2.1, x.2.2.2.2.2.2.2.1], x.1, x.2.1, x.2.2.1, x.2.2.2.1, x.2.2.2.2.1, x.2.2.2.2.2.1, x.2.2.2.2.2.2.1, x.2.2.2.2.2.2.2.1, x.2.2.2.2.2.2.2.2.1, x.2.2.2.2.2.2.2.2.2.1, x.2.2.2.2.2.2.2.2.2.2.1, x.2.2.2.2.2.2.2.2.2.2.2.1, x)) fun v0 =>
  csO v0
   (fun v1 => some v1)
   (fun v2 => bindO (F30 K v2.2.2.2.2.2.2.2.2.2.2.2.2.2.2.2.2.2.2.2.2.2.2.2.2.2.2.2.2.2.2.2.2.2.1) fun v3 =>
   branch v3
    (some false)
    (branch (decide ((Int.tmod v2.2.1 16) = 0))
     (bindO (F32 K v2.2.2.2.2.2.2.2.2.1) fun v4 =>
     branch v4
      (bindO (F32 K v2.2.2.2.2.2.2.2.2.2.1) fun v5 =>
      branch v5
       (bindO (F19 K (v2.2.2.2.2.2.2.2.2.2.2.2.2.2.2.2.2.2.2.2.2.2.2.2.2.1, v2.2.2.2.2.2.2.2.2.2.2.2.2.2.2.2.2.2.2.2.2.2.2.2.2.2.1, v2.2.2.2.2.2.2.2.2.2.2.2.2.2.2.2.2.2.2.2.2.2.2.2.2.2.2.1, v2.2.2.2.2.2.2.2.2.2.2.2.2.2.2.2.2.2.2.2.2.2.2.2.2.2.2.2.1, v2.2.2.2.2.2.2.2.2.2.2.2.2.2.2.2.2.2.2.2.2.2.2.2.2.2.2.2.2.1, v2.2.2.2.2.2.2.2.2.2.2.2.2.2.2.2.2.2.2.2.2.2.2.2.2.2.2.2.2.2.1, v2.2.2.2.2.2.2.2.2.2.2.2.2.2.2.2.2.2.2.2.2.2.2.2.2.2.2.2.2.2.2.1)) fun v6 =>
       branch v6
        (branch (decide ((v2.2.2.2.2.2.2.2.2.2.2.2.2.2.2.2.2.2.2.2.2.2.2.2.2.2.2.2.2.2.2.2.1.length : Int) = 256))
         (branch (decide ((v2.2.2.2.2.2.2.2.2.2.2.2.2.2.2.2.2.2.2.2.2.2.2.2.2.2.2.2.2.2.2.2.2.1.length : Int) = 127))
          (branch (decide ((v2.2.2.2.2.2.2.2.2.2.2.2.2.2.2.2.2.2.2.2.2.2.2.2.2.2.2.2.2.2.2.2.2.2.1.length : Int) ≤ 100))
           (bindO (F33 K (v2.2.2.2.2.2.2.2.2.2.2.2.2.2.2.2.2.2.2.2.2.2.2.2.2.2.2.2.2.2.2.2.2.2.2, 0, 1000000000)) fun v7 =>
           some v7)
           (some false))
          (some false))
         (some false))
        (some false))
       (some false))
      (some false))
     (some false)))
def ct12 (K : Nat) : Ct := ⟨[.agg [(.v (.i .i64)), (.v (.i .i64)), (.v (.i .i64)), (.v (.i .i64)), (.v (.i .i64)), (.v (.i .i64)), (.v (.i .i64)), (.v (.i .i64)), (.v (.i .i64)), (.v (.i .i64)), (.v .b), (.v .b), (.v .s), (.v (.i .i64)), (.v (.i .i64)), (.v .s), (.v (.i .i64)), (.v .b), (.v (.i .i64)), (.v .s), (.v .s), (.v (.l (.i .i64))), (.v (.i .i64))]], [], [.l (.v .b)], [], [], F12 K⟩
theorem c12 (K : Nat) : CtOk prog 12 (ct12 K) :=
  con_mk (Y := Y) (L := [(33, ct33 K), (29, ct29 K), (31, ct31 K), (30, ct30 K), (32, ct32 K), (19, ct19 K)]) (K := K) (an := (.seq .no (.seq .no (.seq (.seq .no (.blk (.loop [] ⟨(ru 1 (.l (.ptr 2000 0 0) :: ru 1 (.l (.ptr 4000 0 0) :: ru 20 (.l (.all 25000) :: .l (.v (.i .i64)) :: .l (.v (.i .i64)) :: ru 52 [])))), [(25000, ⟨1, true, .row (.i .i64)⟩), (4000, ⟨12, false, .mix (some 25) [[.l (.v (.i .i64)), .l (.v (.i .i64)), .l (.v (.i .i64)), .l (.v (.i .i64)), .l (.v (.i .i64)), .l (.v (.i .i64)), .l (.v (.i .i64)), .l (.v (.i .i64)), .l (.v (.i .i64)), .l (.v (.i .i64)), .l (.v .b), .l (.v .b)]]⟩), (2000, ⟨23, false, .mix (some 30) [[.l (.v (.i .i64)), .l (.v (.i .i64)), .l (.v (.i .i64)), .l (.v (.i .i64)), .l (.v (.i .i64)), .l (.v (.i .i64)), .l (.v (.i .i64)), .l (.v (.i .i64)), .l (.v (.i .i64)), .l (.v (.i .i64)), .l (.v .b), .l (.v .b), .l (.v .s), .l (.v (.i .i64)), .l (.v (.i .i64)), .l (.v .s), .l (.v (.i .i64)), .l (.v .b), .l (.v (.i .i64)), .l (.v .s), .l (.v .s), .l (.v (.l (.i .i64))), .l (.v (.i .i64))]]⟩)]⟩ [(0, ⟨(ru 1 (.l (.ptr 2000 0 0) :: ru 1 (.l (.ptr 4000 0 0) :: ru 75 []))), [(4000, ⟨12, false, .mix (some 25) [[.l (.v (.i .i64)), .l (.v (.i .i64)), .l (.v (.i .i64)), .l (.v (.i .i64)), .l (.v (.i .i64)), .l (.v (.i .i64)), .l (.v (.i .i64)), .l (.v (.i .i64)), .l (.v (.i .i64)), .l (.v (.i .i64)), .l (.v .b), .l (.v .b)]]⟩), (2000, ⟨23, false, .mix (some 30) [[.l (.v (.i .i64)), .l (.v (.i .i64)), .l (.v (.i .i64)), .l (.v (.i .i64)), .l (.v (.i .i64)), .l (.v (.i .i64)), .l (.v (.i .i64)), .l (.v (.i .i64)), .l (.v (.i .i64)), .l (.v (.i .i64)), .l (.v .b), .l (.v .b), .l (.v .s), .l (.v (.i .i64)), .l (.v (.i .i64)), .l (.v .s), .l (.v (.i .i64)), .l (.v .b), .l (.v (.i .i64)), .l (.v .s), .l (.v .s), .l (.v (.l (.i .i64))), .l (.v (.i .i64))]]⟩)]⟩)] true (.seq .no (.seq .no (.seq (.blk (.seq .no (.seq .no (.cond .no .no)))) .no)))))) (.seq (.seq .no (.cond .no .no)) .no))))) func12 mixed (ctabOk_cons (c33 K) (ctabOk_cons (c29 K) (ctabOk_cons (c31 K) (ctabOk_cons (c30 K) (ctabOk_cons (c32 K) (ctabOk_cons (c19 K) ctabOk_nil)))))) (by kernel_rfl) fun x => by kernel_rfl

-- (loop.example/g00460/impl.Cart).mapped
def F20 (K : Nat) (x : (List UInt8) × Int × Int × (List UInt8) × Int × Bool × Int) : Option (Int) :=
  guard (!(decide ((w64 (Int.tdiv (x.1.length : Int) 256)) = 0))) <|
  some (Int.tmod x.2.2.1 (w64 (Int.tdiv (x.1.length : Int) 256)))
def ct20 (K : Nat) : Ct := ⟨[.agg [(.v .s), (.v (.i .i64)), (.v (.i .i64)), (.v .s), (.v (.i .i64)), (.v .b), (.v (.i .i64))]], [], [.l (.v (.i .i64))], [], [], F20 K⟩
theorem c20 (K : Nat) : CtOk prog 20 (ct20 K) :=
  con_mk (Y := Y) (L := []) (K := K) (an := (.seq .no .no)) func20 mixed ctabOk_nil (by kernel_rfl) fun x => by kernel_rfl

-- loop.example/g00460/impl.at
def F13 (K : Nat) (x : Int × Int × Int × Int × Int × Int × Int × Int × Int × Int × Bool × Bool × (List UInt8) × Int × Int × (List UInt8) × Int × Bool × Int × (List UInt8) × (List UInt8) × (List Int) × Int) : Option (Int × Int) :=
  branch (decide (x.2.2.2.2.2.2.2.2.2.1 < 256))
   (some (0, x.2.2.2.2.2.2.2.2.2.1))
   (branch (decide (x.2.2.2.2.2.2.2.2.2.1 < 512))
    (bindO (F20 K (x.2.2.2.2.2.2.2.2.2.2.2.2.1, x.2.2.2.2.2.2.2.2.2.2.2.2.2.1, x.2.2.2.2.2.2.2.2.2.2.2.2.2.2.1, x.2.2.2.2.2.2.2.2.2.2.2.2.2.2.2.1, x.2.2.2.2.2.2.2.2.2.2.2.2.2.2.2.2.1, x.2.2.2.2.2.2.2.2.2.2.2.2.2.2.2.2.2.1, x.2.2.2.2.2.2.2.2.2.2.2.2.2.2.2.2.2.2.1)) fun v0 =>
    some (v0, x.2.2.2.2.2.2.2.2.2.1))
    (some ((-1), x.2.2.2.2.2.2.2.2.2.1)))
def ct13 (K : Nat) : Ct := ⟨[.agg [(.v (.i .i64)), (.v (.i .i64)), (.v (.i .i64)), (.v (.i .i64)), (.v (.i .i64)), (.v (.i .i64)), (.v (.i .i64)), (.v (.i .i64)), (.v (.i .i64)), (.v (.i .i64)), (.v .b), (.v .b), (.v .s), (.v (.i .i64)), (.v (.i .i64)), (.v .s), (.v (.i .i64)), (.v .b), (.v (.i .i64)), (.v .s), (.v .s), (.v (.l (.i .i64))), (.v (.i .i64))]], [], [.agg [(.v (.i .i64)), (.v (.i .i64))]], [], [], F13 K⟩
theorem c13 (K : Nat) : CtOk prog 13 (ct13 K) :=
  con_mk (Y := Y) (L := [(20, ct20 K)]) (K := K) (an := (.seq .no (.seq .no (.seq (.blk (.seq .no (.cond .no (.seq .no .no)))) .no)))) func13 mixed (ctabOk_cons (c20 K) ctabOk_nil) (by kernel_rfl) fun x => by kernel_rfl

-- loop.example/g00460/impl.At
def F6 (K : Nat) (x : Int × Int × Int × Int × Int × Int × Int × Int × Int × Int × Bool × Bool × (List UInt8) × Int × Int × (List UInt8) × Int × Bool × Int × (List UInt8) × (List UInt8) × (List Int) × Int) : Option (Int × Int) :=
  bindO (F12 K x) fun v0 =>
  branch (!v0)
   (some ((-1), (-1)))
   (bindO (F13 K x) fun v1 =>
   some v1)
def ct6 (K : Nat) : Ct := ⟨[.agg [(.v (.i .i64)), (.v (.i .i64)), (.v (.i .i64)), (.v (.i .i64)), (.v (.i .i64)), (.v (.i .i64)), (.v (.i .i64)), (.v (.i .i64)), (.v (.i .i64)), (.v (.i .i64)), (.v .b), (.v .b), (.v .s), (.v (.i .i64)), (.v (.i .i64)), (.v .s), (.v (.i .i64)), (.v .b), (.v (.i .i64)), (.v .s), (.v .s), (.v (.l (.i .i64))), (.v (.i .i64))]], [], [.agg [(.v (.i .i64)), (.v (.i .i64))]], [], [], F6 K⟩
theorem c6 (K : Nat) : CtOk prog 6 (ct6 K) :=
  con_mk (Y := Y) (L := [(12, ct12 K), (13, ct13 K)]) (K := K) (an := (.seq .no (.seq (.seq .no (.cond .no .no)) .no))) func6 mixed (ctabOk_cons (c12 K) (ctabOk_cons (c13 K) ctabOk_nil)) (by kernel_rfl) fun x => by kernel_rfl

-- loop.example/g00460/spec.MappedBank
def F34 (K : Nat) (x : (List UInt8) × Int × Int × (List UInt8) × Int × Bool × Int) : Option (Int) :=
  bindO (F17 K x) fun v0 =>
  branch (!v0)
   (some (-1))
   (bindO (F35 K x.1) fun v1 =>
   guard (!(decide (v1 = 0))) <|
   some (Int.tmod x.2.2.1 v1))
def ct34 (K : Nat) : Ct := ⟨[.agg [(.v .s), (.v (.i .i64)), (.v (.i .i64)), (.v .s), (.v (.i .i64)), (.v .b), (.v (.i .i64))]], [], [.l (.v (.i .i64))], [], [], F34 K⟩
theorem c34 (K : Nat) : CtOk prog 34 (ct34 K) :=
  con_mk (Y := Y) (L := [(35, ct35 K), (17, ct17 K)]) (K := K) (an := (.seq .no (.seq (.seq .no (.cond .no .no)) .no))) func34 mixed (ctabOk_cons (c35 K) (ctabOk_cons (c17 K) ctabOk_nil)) (by kernel_rfl) fun x => by kernel_rfl

-- loop.example/g00460/spec.l17At
def F14 (K : Nat) (x : Int × Int × Int × Int × Int × Int × Int × Int × Int × Int × Bool × Bool × (List UInt8) × Int × Int × (List UInt8) × Int × Bool × Int × (List UInt8) × (List UInt8) × (List Int) × Int) : Option (Int × Int) :=
  branch (decide (x.2.2.2.2.2.2.2.2.2.1 < 256))
   (some (0, x.2.2.2.2.2.2.2.2.2.1))
   (branch (decide (x.2.2.2.2.2.2.2.2.2.1 < 512))
    (bindO (F34 K (x.2.2.2.2.2.2.2.2.2.2.2.2.1, x.2.2.2.2.2.2.2.2.2.2.2.2.2.1, x.2.2.2.2.2.2.2.2.2.2.2.2.2.2.1, x.2.2.2.2.2.2.2.2.2.2.2.2.2.2.2.1, x.2.2.2.2.2.2.2.2.2.2.2.2.2.2.2.2.1, x.2.2.2.2.2.2.2.2.2.2.2.2.2.2.2.2.2.1, x.2.2.2.2.2.2.2.2.2.2.2.2.2.2.2.2.2.2.1)) fun v0 =>
    some (v0, x.2.2.2.2.2.2.2.2.2.1))
    (some ((-1), x.2.2.2.2.2.2.2.2.2.1)))
def ct14 (K : Nat) : Ct := ⟨[.agg [(.v (.i .i64)), (.v (.i .i64)), (.v (.i .i64)), (.v (.i .i64)), (.v (.i .i64)), (.v (.i .i64)), (.v (.i .i64)), (.v (.i .i64)), (.v (.i .i64)), (.v (.i .i64)), (.v .b), (.v .b), (.v .s), (.v (.i .i64)), (.v (.i .i64)), (.v .s), (.v (.i .i64)), (.v .b), (.v (.i .i64)), (.v .s), (.v .s), (.v (.l (.i .i64))), (.v (.i .i64))]], [], [.agg [(.v (.i .i64)), (.v (.i .i64))]], [], [], F14 K⟩
theorem c14 (K : Nat) : CtOk prog 14 (ct14 K) :=
  con_mk (Y := Y) (L := [(34, ct34 K)]) (K := K) (an := (.seq .no (.seq .no (.seq (.blk (.seq .no (.cond .no (.seq .no (.cond .no .no))))) .no)))) func14 mixed (ctabOk_cons (c34 K) ctabOk_nil) (by kernel_rfl) fun x => by kernel_rfl

-- loop.example/g00460/spec.At
def F7 (K : Nat) (x : Int × Int × Int × Int × Int × Int × Int × Int × Int × Int × Bool × Bool × (List UInt8) × Int × Int × (List UInt8) × Int × Bool × Int × (List UInt8) × (List UInt8) × (List Int) × Int) : Option (Int × Int) :=
  bindO (F8 K x) fun v0 =>
  branch (!v0)
   (some ((-1), (-1)))
   (bindO (F14 K x) fun v1 =>
   some v1)
def ct7 (K : Nat) : Ct := ⟨[.agg [(.v (.i .i64)), (.v (.i .i64)), (.v (.i .i64)), (.v (.i .i64)), (.v (.i .i64)), (.v (.i .i64)), (.v (.i .i64)), (.v (.i .i64)), (.v (.i .i64)), (.v (.i .i64)), (.v .b), (.v .b), (.v .s), (.v (.i .i64)), (.v (.i .i64)), (.v .s), (.v (.i .i64)), (.v .b), (.v (.i .i64)), (.v .s), (.v .s), (.v (.l (.i .i64))), (.v (.i .i64))]], [], [.agg [(.v (.i .i64)), (.v (.i .i64))]], [], [], F7 K⟩
theorem c7 (K : Nat) : CtOk prog 7 (ct7 K) :=
  con_mk (Y := Y) (L := [(8, ct8 K), (14, ct14 K)]) (K := K) (an := (.seq .no (.seq (.seq .no (.cond .no .no)) .no))) func7 mixed (ctabOk_cons (c8 K) (ctabOk_cons (c14 K) ctabOk_nil)) (by kernel_rfl) fun x => by kernel_rfl

-- loop.example/g00460/impl.MappedBank
def F9 (K : Nat) (x : (List UInt8) × Int × Int × (List UInt8) × Int × Bool × Int) : Option (Int) :=
  bindO (F19 K x) fun v0 =>
  branch (!v0)
   (some (-1))
   (bindO (F20 K x) fun v1 =>
   some v1)
def ct9 (K : Nat) : Ct := ⟨[.agg [(.v .s), (.v (.i .i64)), (.v (.i .i64)), (.v .s), (.v (.i .i64)), (.v .b), (.v (.i .i64))]], [], [.l (.v (.i .i64))], [], [], F9 K⟩
theorem c9 (K : Nat) : CtOk prog 9 (ct9 K) :=
  con_mk (Y := Y) (L := [(19, ct19 K), (20, ct20 K)]) (K := K) (an := (.seq .no (.seq (.seq .no (.cond .no .no)) .no))) func9 mixed (ctabOk_cons (c19 K) (ctabOk_cons (c20 K) ctabOk_nil)) (by kernel_rfl) fun x => by kernel_rfl

-- loop.example/g00460/laws.FnAt
def F3 (K : Nat) (x : List Int) : Option (Bool) :=
  bindO (F4 K x) fun v0 =>
  branch v0
   (some true)
   (bindO (F5 K x) fun v1 =>
   bindO (F6 K v1) fun v2 =>
   bindO (α := Bool ⊕ (Int × Int × Int × Int × Int × Int × Int × Int × Int × Int × Int × Int × Bool × Bool × (List UInt8) × Int × Int × (List UInt8) × Int × Bool × Int × (List UInt8) × (List UInt8) × (List Int) × Int)) (bindO (α := Bool × Int × Int × Int × Int × Int × Int × Int × Int × Int × Int × Int × Int × Bool × Bool × (List UInt8) × Int × Int × (List UInt8) × Int × Bool × Int × (List UInt8) × (List UInt8) × (List Int) × Int) (bindO (F7 K v1) fun v3 =>
       branch (!((decide (v2.1 = v3.1)) && (decide (v2.2 = v3.2))))
        (some (true, v2.1, v2.2, v1))
        (bindO (F8 K v1) fun v4 =>
        some (!v4, v2.1, v2.2, v1))) fun v5 =>
     branch v5.1
      (bindO (F7 K v5.2.2.2) fun v6 =>
      some (.inl ((decide (v5.2.1 = v6.1)) && (decide (v5.2.2.1 = v6.2)))))
      (some (.inr v5.2))) fun v7 =>
   csO v7
    (fun v8 => some v8)
    (fun v9 => branch (decide (v9.2.2.2.2.2.2.2.2.2.2.2.1 < 256))
     (some ((decide (v9.1 = 0)) && (decide (v9.2.1 = v9.2.2.2.2.2.2.2.2.2.2.2.1))))
     (branch (decide (v9.2.2.2.2.2.2.2.2.2.2.2.1 < 512))
      (bindO (F9 K (v9.2.2.2.2.2.2.2.2.2.2.2.2.2.2.1, v9.2.2.2.2.2.2.2.2.2.2.2.2.2.2.2.1, v9.2.2.2.2.2.2.2.2.2.2.2.2.2.2.2.2.1, v9.2.2.2.2.2.2.2.2.2.2.2.2.2.2.2.2.2.1, v9.2.2.2.2.2.2.2.2.2.2.2.2.2.2.2.2.2.2.1, v9.2.2.2.2.2.2.2.2.2.2.2.2.2.2.2.2.2.2.2.1, v9.2.2.2.2.2.2.2.2.2.2.2.2.2.2.2.2.2.2.2.2.1)) fun v10 =>
      branch (decide (v9.1 = v10))
       (some (decide (v9.2.1 = v9.2.2.2.2.2.2.2.2.2.2.2.1)))
       (some false))
      (some ((decide (v9.1 = (-1))) && (decide (v9.2.1 = v9.2.2.2.2.2.2.2.2.2.2.2.1)))))))
def ct3 (K : Nat) : Ct := ⟨[.l (.v (.l (.i .u8)))], [], [.l (.v .b)], [], [], F3 K⟩
theorem c3 (K : Nat) : CtOk prog 3 (ct3 K) :=
  con_mk (Y := Y) (L := [(4, ct4 K), (8, ct8 K), (5, ct5 K), (6, ct6 K), (7, ct7 K), (9, ct9 K)]) (K := K) (an := (.seq .no (.seq (.seq .no (.cond .no .no)) (.seq .no (.seq .no (.seqJ [(1000000, ⟨(ru 3 (.l (.ptr 4000 0 0) :: .l (.ptr 5000 0 0) :: ru 55 [])), [(5000, ⟨2, false, .mix (some 33) [[.l (.v (.i .i64)), .l (.v (.i .i64))]]⟩), (4000, ⟨23, false, .mix (some 30) [[.l (.v (.i .i64)), .l (.v (.i .i64)), .l (.v (.i .i64)), .l (.v (.i .i64)), .l (.v (.i .i64)), .l (.v (.i .i64)), .l (.v (.i .i64)), .l (.v (.i .i64)), .l (.v (.i .i64)), .l (.v (.i .i64)), .l (.v .b), .l (.v .b), .l (.v .s), .l (.v (.i .i64)), .l (.v (.i .i64)), .l (.v .s), .l (.v (.i .i64)), .l (.v .b), .l (.v (.i .i64)), .l (.v .s), .l (.v .s), .l (.v (.l (.i .i64))), .l (.v (.i .i64))]]⟩)]⟩)] true (.seqJ [(1000000, ⟨(ru 3 (.l (.ptr 4000 0 0) :: .l (.ptr 5000 0 0) :: ru 14 (.l (.v .b) :: ru 40 []))), [(5000, ⟨2, false, .mix (some 33) [[.l (.v (.i .i64)), .l (.v (.i .i64))]]⟩), (4000, ⟨23, false, .mix (some 30) [[.l (.v (.i .i64)), .l (.v (.i .i64)), .l (.v (.i .i64)), .l (.v (.i .i64)), .l (.v (.i .i64)), .l (.v (.i .i64)), .l (.v (.i .i64)), .l (.v (.i .i64)), .l (.v (.i .i64)), .l (.v (.i .i64)), .l (.v .b), .l (.v .b), .l (.v .s), .l (.v (.i .i64)), .l (.v (.i .i64)), .l (.v .s), .l (.v (.i .i64)), .l (.v .b), .l (.v (.i .i64)), .l (.v .s), .l (.v .s), .l (.v (.l (.i .i64))), .l (.v (.i .i64))]]⟩)]⟩)] false .no (.cond .no .no)) (.seq (.blk (.seq .no (.cond .no (.seq .no (.cond .no .no))))) .no))))))) func3 mixed (ctabOk_cons (c4 K) (ctabOk_cons (c8 K) (ctabOk_cons (c5 K) (ctabOk_cons (c6 K) (ctabOk_cons (c7 K) (ctabOk_cons (c9 K) ctabOk_nil)))))) (by kernel_rfl) fun x => by kernel_rfl

def T22 : Ty := (.l (.i .u8))
theorem tl22 : tyL prog 64 22 = some T22 := by kernel_rfl
def A3 (K : Nat) (a0 : T22.den) : Option Bool := F3 K a0
theorem fun3 (K : Nat) (a0 : T22.den) : funOf (ct3 K) [.d (.rov (.i .u8) a0)] [] = bindO (A3 K a0) fun r => some ([.d (.b r)], []) := by kernel_rfl
end Go.U.Try
