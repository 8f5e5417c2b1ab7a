/- A part of the proof. No condition. -/
import Derived.Test.YtclapampnmjmoaaGreatDoorVJc
set_option linter.unusedVariables false
set_option linter.unusedSimpArgs false
set_option linter.unusedSectionVars false
namespace Go.U.Tryz
open Go Go.U Go.Proofs Go.Proofs.Tryz
set_option maxRecDepth 100000
theorem ty9 : tyOf prog 9 = some ⟨.str, 1, 16, [.str []], some .s⟩ := by kernel_rfl
theorem ty3 : tyOf prog 3 = some ⟨.int .i64, 1, 8, [.i .i64 0], some (.i .i64)⟩ := by kernel_rfl
theorem ty2 : tyOf prog 2 = some ⟨.int .i64, 1, 8, [.i .i64 0], some (.i .i64)⟩ := by kernel_rfl
theorem ty22 : tyOf prog 22 = some ⟨.sl 9, 1, 24, [.emp], some (.l .s)⟩ := by kernel_rfl
theorem ty4 : tyOf prog 4 = some ⟨.bool, 1, 1, [.b false], some .b⟩ := by kernel_rfl
theorem ty34 : tyOf prog 34 = some ⟨.st [(0, (9, 1)), (1, (9, 1)), (2, (9, 1))], 3, 48, [.str [], .str [], .str []], some (.c .s (.c .s .s))⟩ := by kernel_rfl
theorem ty5 : tyOf prog 5 = some ⟨.int .u8, 1, 1, [.i .u8 0], some (.i .u8)⟩ := by kernel_rfl
theorem ty96 : tyOf prog 96 = some ⟨.sl 119, 1, 24, [.emp], some (.l (.c (.i .i64) (.c (.i .i64) .s)))⟩ := by kernel_rfl
theorem ty119 : tyOf prog 119 = some ⟨.st [(0, (2, 1)), (1, (2, 1)), (2, (9, 1))], 3, 32, [.i .i64 0, .i .i64 0, .str []], some (.c (.i .i64) (.c (.i .i64) .s))⟩ := by kernel_rfl
theorem ty29 : tyOf prog 29 = some ⟨.sl 5, 1, 24, [.emp], some (.l (.i .u8))⟩ := by kernel_rfl
theorem ty109 : tyOf prog 109 = some ⟨.st [(0, (9, 1)), (1, (3, 1)), (2, (96, 1)), (3, (4, 1))], 4, 56, [.str [], .i .i64 0, .emp, .b false], some (.c .s (.c (.i .i64) (.c (.l (.c (.i .i64) (.c (.i .i64) .s))) .b)))⟩ := by kernel_rfl
theorem ty21 : tyOf prog 21 = some ⟨.int .i32, 1, 4, [.i .i32 0], some (.i .i32)⟩ := by kernel_rfl
theorem ty136 : tyOf prog 136 = some ⟨.sl 2, 1, 24, [.emp], some (.l (.i .i64))⟩ := by kernel_rfl
theorem ty42 : tyOf prog 42 = some ⟨.sl 22, 1, 24, [.emp], some (.l (.l .s))⟩ := by kernel_rfl
theorem ty116 : tyOf prog 116 = some ⟨.st [(0, (9, 1)), (1, (3, 1)), (2, (96, 1)), (3, (4, 1))], 4, 56, [.str [], .i .i64 0, .emp, .b false], some (.c .s (.c (.i .i64) (.c (.l (.c (.i .i64) (.c (.i .i64) .s))) .b)))⟩ := by kernel_rfl
theorem ty114 : tyOf prog 114 = some ⟨.ptr 116, 1, 8, [.nilp], none⟩ := by kernel_rfl
theorem ty107 : tyOf prog 107 = some ⟨.ptr 109, 1, 8, [.nilp], none⟩ := by kernel_rfl
theorem ty47 : tyOf prog 47 = some ⟨.map 9 22, 1, 8, [.val (Go.Value.map none)], none⟩ := by kernel_rfl
theorem ty75 : tyOf prog 75 = some ⟨.ptr 77, 1, 8, [.nilp], none⟩ := by kernel_rfl
theorem ty122 : tyOf prog 122 = some ⟨.st [(0, (9, 1)), (1, (2, 1)), (2, (2, 1))], 3, 32, [.str [], .i .i64 0, .i .i64 0], some (.c .s (.c (.i .i64) (.i .i64)))⟩ := by kernel_rfl
theorem ty44 : tyOf prog 44 = some ⟨.st [(0, (22, 1)), (1, (22, 1)), (2, (42, 1)), (3, (2, 1)), (4, (3, 1))], 5, 88, [.emp, .emp, .emp, .i .i64 0, .i .i64 0], some (.c (.l .s) (.c (.l .s) (.c (.l (.l .s)) (.c (.i .i64) (.i .i64)))))⟩ := by kernel_rfl
theorem ty51 : tyOf prog 51 = some ⟨.ptr 70, 1, 8, [.nilp], none⟩ := by kernel_rfl
theorem ty49 : tyOf prog 49 = some ⟨.st [(0, (22, 1)), (1, (47, 1)), (2, (3, 1)), (3, (2, 1))], 4, 48, [.emp, .val (Go.Value.map none), .i .i64 0, .i .i64 0], none⟩ := by kernel_rfl
theorem ty41 : tyOf prog 41 = some ⟨.ptr 44, 1, 8, [.nilp], none⟩ := by kernel_rfl
theorem ty117 : tyOf prog 117 = some ⟨.sl 21, 1, 24, [.emp], some (.l (.i .i32))⟩ := by kernel_rfl
theorem ty77 : tyOf prog 77 = some ⟨.st [(0, (75, 1)), (1, (29, 1))], 2, 32, [.nilp, .emp], none⟩ := by kernel_rfl
theorem ty46 : tyOf prog 46 = some ⟨.ptr 49, 1, 8, [.nilp], none⟩ := by kernel_rfl
theorem ty112 : tyOf prog 112 = some ⟨.sl 122, 1, 24, [.emp], some (.l (.c .s (.c (.i .i64) (.i .i64))))⟩ := by kernel_rfl
theorem ty70 : tyOf prog 70 = some ⟨.st [(0, (29, 1)), (1, (3, 1))], 2, 32, [.emp, .i .i64 0], some (.c (.l (.i .u8)) (.i .i64))⟩ := by kernel_rfl
theorem ty93 : tyOf prog 93 = some ⟨.map 9 9, 1, 8, [.val (Go.Value.map none)], none⟩ := by kernel_rfl
theorem ty152 : tyOf prog 152 = some ⟨.int .u32, 1, 4, [.i .u32 0], some (.i .u32)⟩ := by kernel_rfl
theorem ty105 : tyOf prog 105 = some ⟨.up, 1, 8, [.nilp], none⟩ := by kernel_rfl
theorem ty149 : tyOf prog 149 = some ⟨.sl 136, 1, 24, [.emp], some (.l (.l (.i .i64)))⟩ := by kernel_rfl
theorem ty139 : tyOf prog 139 = some ⟨.int .u64, 1, 8, [.i .u64 0], some (.i .u64)⟩ := by kernel_rfl
theorem ty148 : tyOf prog 148 = some ⟨.ptr 144, 1, 8, [.nilp], none⟩ := by kernel_rfl
theorem ty95 : tyOf prog 95 = some ⟨.ptr 5, 1, 8, [.nilp], none⟩ := by kernel_rfl
def Y : TT prog := mkTT _ (tys_cons ty9 (tys_cons ty3 (tys_cons ty2 (tys_cons ty22 (tys_cons ty4 (tys_cons ty34 (tys_cons ty5 (tys_cons ty96 (tys_cons ty119 (tys_cons ty29 (tys_cons ty109 (tys_cons ty21 (tys_cons ty136 (tys_cons ty42 (tys_cons ty116 (tys_cons ty114 (tys_cons ty107 (tys_cons ty47 (tys_cons ty75 (tys_cons ty122 (tys_cons ty44 (tys_cons ty51 (tys_cons ty49 (tys_cons ty41 (tys_cons ty117 (tys_cons ty77 (tys_cons ty46 (tys_cons ty112 (tys_cons ty70 (tys_cons ty93 (tys_cons ty152 (tys_cons ty105 (tys_cons ty149 (tys_cons ty139 (tys_cons ty148 (tys_cons ty95 tys_nil)))))))))))))))))))))))))))))))))))) [34, 119, 109, 116, 122, 44, 49, 77, 70] (by kernel_rfl)
theorem mixed : prog.follows .mixedOrders = true := by kernel_rfl
def F90 (K : Nat) (x : List Int) : Option (List Int) := some x
def ct90 (K : Nat) : Ct := ⟨[.l (.ptr 0 0 0)], bldH 77 5 .nilp, [.l (.ptr 0 0 0)], bldH 77 5 .nilp, [], F90 K⟩
theorem c90 (K : Nat) : CtOk prog 90 (ct90 K) := ct_noEscape fun v w => by rw [run_callFunc_extern func90 (by kernel_rfl) (by kernel_rfl) (by kernel_rfl) (e := Extern.AbiNoEscape.same) (by kernel_rfl)]; rfl
-- (*strings.Builder).copyCheck
def F78A (K : Nat) (x : List Int) : Option (List Int) :=
  bindO (F90 K x) fun v0 =>
  some v0
def ct78A (K : Nat) : Ct := ⟨[.l (.ptr 0 0 0)], [⟨2, false, .mix (some 77) [[.l .nilp, .l (.bb 1)]]⟩, ⟨1, true, .row (.y 5)⟩], [], [⟨2, false, .mix (some 77) [[.l (.pon 0 0 0), .l (.bb 1)]]⟩, ⟨1, true, .row (.y 5)⟩], [], F78A K⟩
theorem c78A (K : Nat) : CtOk prog 78 (ct78A K) :=
  con_mk (Y := Y) (L := [(90, ct90 K)]) (K := K) (an := (.seq .no (.cond .no (.seq .no .no)))) func78 mixed (ctabOk_cons (c90 K) ctabOk_nil) (by kernel_rfl) fun x => by kernel_rfl
-- (*strings.Builder).copyCheck
def F78B (K : Nat) (x : List Int) : Option (List Int) :=
  some x
def ct78B (K : Nat) : Ct := ⟨[.l (.ptr 0 0 0)], [⟨2, false, .mix (some 77) [[.l (.ptr 0 0 0), .l (.bb 1)]]⟩, ⟨1, true, .row (.y 5)⟩], [], [⟨2, false, .mix (some 77) [[.l (.pon 0 0 0), .l (.bb 1)]]⟩, ⟨1, true, .row (.y 5)⟩], [], F78B K⟩
theorem c78B (K : Nat) : CtOk prog 78 (ct78B K) :=
  con_mk (Y := Y) (L := [(90, ct90 K)]) (K := K) (an := (.seq .no (.cond .no (.seq .no .no)))) func78 mixed (ctabOk_cons (c90 K) ctabOk_nil) (by kernel_rfl) fun x => by kernel_rfl
def F78 (K : Nat) (x : List Int) : Option (List Int) := some x
def ct78 (K : Nat) : Ct := ⟨[.l (.ptr 0 0 0)], bldH 77 5 (.pon 0 0 0), [], bldH 77 5 (.pon 0 0 0), [], F78 K⟩
theorem c78 (K : Nat) : CtOk prog 78 (ct78 K) := ct_bld (ps := [.l (.ptr 0 0 0)]) (T := 77) (e := 5) (rs := []) (hr := bldH 77 5 (.pon 0 0 0)) (refs := []) (F := F78 K) (c78A K) (c78B K)
def F63i (K : Nat) (x : Int) : Option (List UInt8) := none
def ct63i (K : Nat) : Ct := ⟨[.l (.v (.i .i64))], [], [.l (.v .s)], [], [], F63i K⟩
def F63b_b0 (K : Nat) (x : Int × List UInt8) : Option ((Int × List UInt8) ⊕ (Int × List UInt8)) :=
  branch (decide (10 ≤ x.1))
   (guard (decide ((((toB [w8 (w64 (48 + (Int.tmod x.1 10)))]).length) + x.2.length) ≤ 9223372036854775807)) <|
   some (.inl (w64 (Int.tdiv x.1 10), (toB [w8 (w64 (48 + (Int.tmod x.1 10)))]) ++ x.2)))
   (some (.inr x))
def F63b (K : Nat) (x : Int) : Option (List UInt8) :=
  branch (decide (x < 0))
   (bindO (F63i K (w64 (0 - x))) fun v0 =>
   guard (decide ((1 + v0.length) ≤ 9223372036854775807)) <|
   some (([45] : List UInt8) ++ v0))
   (bindO (iter K (F63b_b0 K) (x, [])) fun v1 =>
   guard (decide ((((toB [w8 (w64 (48 + v1.1))]).length) + v1.2.length) ≤ 9223372036854775807)) <|
   some ((toB [w8 (w64 (48 + v1.1))]) ++ v1.2))
def ct63b (K : Nat) : Ct := ⟨[.l (.v (.i .i64))], [], [.l (.v .s)], [], [], F63b K⟩
def F57 (K : Nat) (x : (List UInt8) × List Int) : Option (Int × Bool × List Int) :=
  bindO (F78 K x.2) fun v0 =>
  guard (fitN (v0.length + ((ofB x.1).length)) 1) <|
  some ((x.1.length : Int), false, v0 ++ (ofB x.1))
def ct57 (K : Nat) : Ct := ⟨[.l (.ptr 0 0 0), .l (.v .s)], [⟨2, false, .mix (some 77) [[.l (.pon 0 0 0), .l (.bb 1)]]⟩, ⟨1, true, .row (.y 5)⟩], [.l (.v (.i .i64)), .l (.v .e)], [⟨2, false, .mix (some 77) [[.l (.pon 0 0 0), .l (.bb 1)]]⟩, ⟨1, true, .row (.y 5)⟩], [], F57 K⟩
theorem c57 (K : Nat) : CtOk prog 57 (ct57 K) :=
  con_mk (Y := Y) (L := [(78, ct78 K)]) (K := K) (an := (.seq .no (.seq .no (.seq .no .no)))) func57 mixed (ctabOk_cons (c78 K) ctabOk_nil) (by kernel_rfl) fun x => by kernel_rfl
-- (*strings.Builder).WriteByte
def F58 (K : Nat) (x : Int × List Int) : Option (Bool × List Int) :=
  bindO (F78 K x.2) fun v0 =>
  guard (fitN (v0.length + [x.1].length) 1) <|
  some (false, v0 ++ [x.1])
def ct58 (K : Nat) : Ct := ⟨[.l (.ptr 0 0 0), .l (.v (.i .u8))], [⟨2, false, .mix (some 77) [[.l (.pon 0 0 0), .l (.bb 1)]]⟩, ⟨1, true, .row (.y 5)⟩], [.l (.v .e)], [⟨2, false, .mix (some 77) [[.l (.pon 0 0 0), .l (.bb 1)]]⟩, ⟨1, true, .row (.y 5)⟩], [], F58 K⟩
theorem c58 (K : Nat) : CtOk prog 58 (ct58 K) :=
  con_mk (Y := Y) (L := [(78, ct78 K)]) (K := K) (an := (.seq .no (.seq .no (.seq .no .no)))) func58 mixed (ctabOk_cons (c78 K) ctabOk_nil) (by kernel_rfl) fun x => by kernel_rfl
-- (*strings.Builder).String
def F59 (K : Nat) (x : List Int) : Option ((List UInt8) × List Int) :=
  branch (decide (0 < x.length))
   (guard (decide ((x.length : Int) = (x.length : Int) ∧ 0 < x.length ∧ x.length ≤ 9223372036854775807)) <|
   some (toB x, x))
   (guard (decide ((x.length : Int) = 0)) <|
   some ([], x))
def ct59 (K : Nat) : Ct := ⟨[.l (.ptr 0 0 0)], [⟨2, false, .mix (some 77) [[.l (.pon 0 0 0), .l (.bb 1)]]⟩, ⟨1, true, .row (.y 5)⟩], [.l (.v .s)], [⟨2, false, .mix (some 77) [[.l (.pon 0 0 0), .l (.bb 1)]]⟩, ⟨1, true, .row (.y 5)⟩], [], F59 K⟩
theorem c59 (K : Nat) : CtOk prog 59 (ct59 K) :=
  con_mk (Y := Y) (L := []) (K := K) (an := (.seq .no (.seq (.reg [4, 10] []) .no))) func59 mixed ctabOk_nil (by kernel_rfl) fun x => by kernel_rfl
-- (*strings.Builder).Len
def F60 (K : Nat) (x : List Int) : Option (Int × List Int) :=
  some ((x.length : Int), x)
def ct60 (K : Nat) : Ct := ⟨[.l (.ptr 0 0 0)], [⟨2, false, .mix (some 77) [[.l (.pon 0 0 0), .l (.bb 1)]]⟩, ⟨1, true, .row (.y 5)⟩], [.l (.v (.i .i64))], [⟨2, false, .mix (some 77) [[.l (.pon 0 0 0), .l (.bb 1)]]⟩, ⟨1, true, .row (.y 5)⟩], [], F60 K⟩
theorem c60 (K : Nat) : CtOk prog 60 (ct60 K) :=
  con_mk (Y := Y) (L := []) (K := K) (an := (.seq .no .no)) func60 mixed ctabOk_nil (by kernel_rfl) fun x => by kernel_rfl
-- loop.example/g00460/laws.szStringS
def F7_b0 (K : Nat) (x : (List (List UInt8)) × Int × Int) : Option (((List (List UInt8)) × Int × Int) ⊕ (Int ⊕ Int)) :=
  branch (decide (x.2.2 < (x.1.length : Int)))
   (nth x.1 x.2.2 fun v0 =>
   branch (decide ((w64 (x.2.1 - (v0.length : Int))) < 0))
    (some (.inr (.inl (-1))))
    (some (.inl (x.1, w64 (x.2.1 - (v0.length : Int)), w64 (x.2.2 + 1)))))
   (some (.inr (.inr x.2.1)))
def F7 (K : Nat) (x : (List (List UInt8)) × Int) : Option (Int) :=
  branch (decide ((w64 (x.2 - (x.1.length : Int))) < 0))
   (some (-1))
   (bindO (iter K (F7_b0 K) (x.1, w64 (x.2 - (x.1.length : Int)), 0)) fun v0 =>
   csO v0
    (fun v1 => some v1)
    (fun v2 => some v2))
def ct7 (K : Nat) : Ct := ⟨[.l (.v (.l .s)), .l (.v (.i .i64))], [], [.l (.v (.i .i64))], [], [], F7 K⟩
theorem c7 (K : Nat) : CtOk prog 7 (ct7 K) :=
  con_mk (Y := Y) (L := []) (K := K) (an := (.seq .no (.seq .no (.seq (.seq .no (.cond .no .no)) (.seq (.seq .no (.blk (.loop [] ⟨(.l (.v (.l .s)) :: .l (.v (.i .i64)) :: ru 3 (.l (.v (.i .i64)) :: ru 22 [])), []⟩ [(0, ⟨(ru 1 (.l (.v (.i .i64)) :: ru 26 [])), []⟩)] true (.seq (.seq .no .no) (.seq (.blk (.seq .no (.seq .no (.cond .no .no)))) .no))))) .no))))) func7 mixed ctabOk_nil (by kernel_rfl) fun x => by kernel_rfl
-- loop.example/g00460/laws.toStringS
def F9_b0 (K : Nat) (x : (List (List UInt8)) × Int × List (List UInt8)) : Option (((List (List UInt8)) × Int × List (List UInt8)) ⊕ (List (List UInt8))) :=
  branch (decide (x.2.1 < (x.1.length : Int)))
   (nth x.1 x.2.1 fun v0 =>
   guard (decide (0 ≤ x.2.1 ∧ x.2.1 < (x.2.2.length : Int))) <|
   nthN x.2.2 x.2.1.toNat fun v1 =>
   some (.inl (x.1, w64 (x.2.1 + 1), List.set x.2.2 x.2.1.toNat v0)))
   (some (.inr x.2.2))
def F9 (K : Nat) (x : List (List UInt8)) : Option (List (List UInt8)) :=
  guard (decide ((x.length : Int) = (x.length : Int) ∧ 0 ≤ (x.length : Int) ∧ (16 * ((x.length : Int).toNat)) ≤ 281474976710656)) <|
  bindO (iter K (F9_b0 K) (x, 0, List.replicate ((x.length : Int).toNat) [])) fun v0 =>
  some v0
def ct9 (K : Nat) : Ct := ⟨[.l (.v (.l .s))], [], [.l (.v (.l .s))], [], [], F9 K⟩
theorem c9 (K : Nat) : CtOk prog 9 (ct9 K) :=
  con_mk (Y := Y) (L := []) (K := K) (an := (.seq .no (.seq .no (.seq (.seq .no (.blk (.loop [] ⟨(.l (.v (.l .s)) :: ru 2 (.l (.all 8000) :: .l (.v (.i .i64)) :: ru 17 [])), [(8000, ⟨1, true, .row .s⟩)]⟩ [(0, ⟨(ru 3 (.l (.all 8000) :: ru 18 [])), [(8000, ⟨1, true, .row .s⟩)]⟩)] false (.seq (.seq .no .no) (.seq .no .no))))) .no)))) func9 mixed ctabOk_nil (by kernel_rfl) fun x => by kernel_rfl
-- loop.example/g00460/spec.l1Cut
def F34_b0 (K : Nat) (x : (List UInt8) × Int × Int) : Option (((List UInt8) × Int × Int) ⊕ (((List UInt8) × (List UInt8) × Bool) ⊕ (List UInt8))) :=
  branch (decide (x.2.2 < (x.1.length : Int)))
   (nth x.1 x.2.2 fun v0 =>
   branch (decide ((v0.toNat : Int) = x.2.1))
    (guard (decide (0 ≤ x.2.2 ∧ x.2.2 ≤ (x.1.length : Int))) <|
    guard (decide (0 ≤ (w64 (x.2.2 + 1)) ∧ (w64 (x.2.2 + 1)) ≤ (x.1.length : Int))) <|
    some (.inr (.inl (tkL x.1 x.2.2, dpL x.1 (w64 (x.2.2 + 1)), true))))
    (some (.inl (x.1, x.2.1, w64 (x.2.2 + 1)))))
   (some (.inr (.inr x.1)))
def F34 (K : Nat) (x : (List UInt8) × Int) : Option ((List UInt8) × (List UInt8) × Bool) :=
  bindO (iter K (F34_b0 K) (x.1, x.2, 0)) fun v0 =>
  csO v0
   (fun v1 => some v1)
   (fun v2 => some (v2, [], false))
def ct34 (K : Nat) : Ct := ⟨[.l (.v .s), .l (.v (.i .u8))], [], [.l (.v .s), .l (.v .s), .l (.v .b)], [], [], F34 K⟩
theorem c34 (K : Nat) : CtOk prog 34 (ct34 K) :=
  con_mk (Y := Y) (L := []) (K := K) (an := (.seq .no (.seq (.seq .no (.blk (.loop [] ⟨(.l (.v .s) :: .l (.v (.i .u8)) :: ru 5 (.l (.v (.i .i64)) :: ru 19 [])), []⟩ [(0, ⟨(.l (.v .s) :: ru 26 []), []⟩)] true (.seq (.seq .no .no) (.seq (.blk (.seq .no (.cond .no .no))) .no))))) .no))) func34 mixed ctabOk_nil (by kernel_rfl) fun x => by kernel_rfl
-- loop.example/g00460/spec.l7Trim
def F61_b0 (K : Nat) (x : List UInt8) : Option ((List UInt8) ⊕ (List UInt8)) :=
  branch (!(decide (x = [])))
   (nth x 0 fun v0 =>
   branch (decide ((v0.toNat : Int) = 32))
    (guard (decide ((0 : Int) ≤ 1 ∧ 1 ≤ (x.length : Int))) <|
    some (.inl (dpL x 1)))
    (some (.inr x)))
   (some (.inr x))
def F61_b1 (K : Nat) (x : List UInt8) : Option ((List UInt8) ⊕ (List UInt8)) :=
  bindO (α := (List UInt8) ⊕ (List UInt8)) (branch (!(decide (x = [])))
     (nth x (w64 ((x.length : Int) - 1)) fun v0 =>
     branch (decide ((v0.toNat : Int) = 32))
      (some (.inl x))
      (some (.inr x)))
     (some (.inr x))) fun v1 =>
  csO v1
   (fun v2 => guard (decide (0 ≤ (w64 ((v2.length : Int) - 1)) ∧ (w64 ((v2.length : Int) - 1)) ≤ (v2.length : Int))) <|
   some (.inl (tkL v2 (w64 ((v2.length : Int) - 1)))))
   (fun v3 => some (.inr v3))
def F61 (K : Nat) (x : List UInt8) : Option (List UInt8) :=
  bindO (iter K (F61_b0 K) x) fun v0 =>
  bindO (iter K (F61_b1 K) v0) fun v1 =>
  some v1
def ct61 (K : Nat) : Ct := ⟨[.l (.v .s)], [], [.l (.v .s)], [], [], F61 K⟩
theorem c61 (K : Nat) : CtOk prog 61 (ct61 K) :=
  con_mk (Y := Y) (L := []) (K := K) (an := (.seq .no (.seq (.blk (.loop [] ⟨(.l (.v .s) :: ru 27 []), []⟩ [(0, ⟨(.l (.v .s) :: ru 27 []), []⟩)] false (.seq (.seq .no .no) .no))) (.seq (.blk (.loop [] ⟨(.l (.v .s) :: ru 27 []), []⟩ [(2, ⟨(.l (.v .s) :: ru 27 []), []⟩)] false (.seqJ [(1000000, ⟨(.l (.v .s) :: ru 27 []), []⟩), (2, ⟨(.l (.v .s) :: ru 27 []), []⟩)] false (.seq .no .no) .no))) .no)))) func61 mixed ctabOk_nil (by kernel_rfl) fun x => by kernel_rfl
-- loop.example/g00460/spec.l1Letter
def F51 (K : Nat) (x : Int) : Option (Bool) :=
  branch (decide (97 ≤ x))
   (branch (decide (x ≤ 122))
    (some true)
    (branch (decide (x = 95))
     (some true)
     (some (decide (x = 46)))))
   (branch (decide (x = 95))
    (some true)
    (some (decide (x = 46))))
def ct51 (K : Nat) : Ct := ⟨[.l (.v (.i .u8))], [], [.l (.v .b)], [], [], F51 K⟩
theorem c51 (K : Nat) : CtOk prog 51 (ct51 K) :=
  con_mk (Y := Y) (L := []) (K := K) (an := (.seq .no .no)) func51 mixed ctabOk_nil (by kernel_rfl) fun x => by kernel_rfl
-- loop.example/g00460/spec.NameOk
def F30_b0 (K : Nat) (x : (List UInt8) × Int) : Option (((List UInt8) × Int) ⊕ (Bool ⊕ Unit)) :=
  branch (decide (x.2 < (x.1.length : Int)))
   (bindO (α := (List UInt8) × Int × Bool) (nth x.1 x.2 fun v0 =>
     bindO (F51 K (v0.toNat : Int)) fun v1 =>
     branch (!v1)
      (nth x.1 x.2 fun v2 =>
      branch (decide (48 ≤ (v2.toNat : Int)))
       (nth x.1 x.2 fun v3 =>
       some (x.1, x.2, !(decide ((v3.toNat : Int) ≤ 57))))
       (some (x.1, x.2, true)))
      (some (x.1, x.2, false))) fun v4 =>
   branch v4.2.2
    (some (.inr (.inl false)))
    (some (.inl (v4.1, w64 (v4.2.1 + 1)))))
   (some (.inr (.inr ())))
def F30 (K : Nat) (x : List UInt8) : Option (Bool) :=
  bindO (α := Bool ⊕ (List UInt8)) (bindO (α := (List UInt8) × Bool) (branch (decide ((x.length : Int) < 1))
       (some (x, true))
       (branch (decide (16 < (x.length : Int)))
        (some (x, true))
        (nth x 0 fun v0 =>
        bindO (F51 K (v0.toNat : Int)) fun v1 =>
        some (x, !v1)))) fun v2 =>
    branch v2.2
     (some (.inl false))
     (some (.inr v2.1))) fun v3 =>
  csO v3
   (fun v4 => some v4)
   (fun v5 => bindO (iter K (F30_b0 K) (v5, 0)) fun v6 =>
   csO v6
    (fun v7 => some v7)
    (fun v8 => some true))
def ct30 (K : Nat) : Ct := ⟨[.l (.v .s)], [], [.l (.v .b)], [], [], F30 K⟩
theorem c30 (K : Nat) : CtOk prog 30 (ct30 K) :=
  con_mk (Y := Y) (L := [(51, ct51 K)]) (K := K) (an := (.seq .no (.seqJ [(1000000, ⟨(.l (.v .s) :: ru 41 []), []⟩)] true (.seqJ [(1000000, ⟨(.l (.v .s) :: ru 16 (.l (.v .b) :: ru 24 [])), []⟩)] false .no (.cond .no .no)) (.seq (.seq .no (.blk (.loop [] ⟨(.l (.v .s) :: ru 2 (.l (.v (.i .i64)) :: ru 38 [])), []⟩ [(0, ⟨(ru 42 []), []⟩)] true (.seq (.seq .no .no) (.seq (.blk (.seqJ [(1000000, ⟨(.l (.v .s) :: ru 2 (.l (.v (.i .i64)) :: ru 37 (.l (.v .b) :: []))), []⟩)] false .no (.cond .no .no))) .no))))) .no)))) func30 mixed (ctabOk_cons (c51 K) ctabOk_nil) (by kernel_rfl) fun x => by kernel_rfl
-- loop.example/g00460/spec.l7Slim
def F62_b0 (K : Nat) (x : (List UInt8) × (List UInt8) × Int) : Option (((List UInt8) × (List UInt8) × Int) ⊕ (List UInt8)) :=
  branch (decide (x.2.2 < (x.1.length : Int)))
   (bindO (α := ((List UInt8) × (List UInt8) × Int × Int) ⊕ ((List UInt8) × (List UInt8) × Int)) (nth x.1 x.2.2 fun v0 =>
     branch (decide ((v0.toNat : Int) = 32))
      (branch (decide (0 < (x.2.1.length : Int)))
       (nth x.2.1 (w64 ((x.2.1.length : Int) - 1)) fun v1 =>
       branch (decide ((v1.toNat : Int) = 32))
        (some (.inr x))
        (nth x.2.1 (w64 ((x.2.1.length : Int) - 1)) fun v2 =>
        branch (decide ((v2.toNat : Int) = 44))
         (some (.inr x))
         (some (.inl (x.1, x.2.1, x.2.2, (x.2.1.length : Int))))))
       (some (.inl (x.1, x.2.1, x.2.2, (x.2.1.length : Int)))))
      (some (.inl (x.1, x.2.1, x.2.2, (x.2.1.length : Int))))) fun v3 =>
   csO v3
    (fun v4 => bindO (α := (List UInt8) × (List UInt8) × Int) (bindO (α := (List UInt8) × (List UInt8) × Int × Int × Bool) (nth v4.1 v4.2.2.1 fun v6 =>
        branch (decide ((v6.toNat : Int) = 44))
         (branch (decide (0 < v4.2.2.2))
          (nth v4.2.1 (w64 (v4.2.2.2 - 1)) fun v7 =>
          some (v4.1, v4.2.1, v4.2.2.1, v4.2.2.2, decide ((v7.toNat : Int) = 32)))
          (some (v4.1, v4.2.1, v4.2.2.1, v4.2.2.2, false)))
         (some (v4.1, v4.2.1, v4.2.2.1, v4.2.2.2, false))) fun v8 =>
      branch v8.2.2.2.2
       (guard (decide (0 ≤ (w64 (v8.2.2.2.1 - 1)) ∧ (w64 (v8.2.2.2.1 - 1)) ≤ (v8.2.1.length : Int))) <|
       some (v8.1, tkL v8.2.1 (w64 (v8.2.2.2.1 - 1)), v8.2.2.1))
       (some (v8.1, v8.2.1, v8.2.2.1))) fun v9 =>
    guard (decide (0 ≤ v9.2.2 ∧ v9.2.2 ≤ (w64 (v9.2.2 + 1)) ∧ (w64 (v9.2.2 + 1)) ≤ (v9.1.length : Int))) <|
    guard (decide ((v9.2.1.length + ((subL v9.1 v9.2.2 (w64 (v9.2.2 + 1))).length)) ≤ 9223372036854775807)) <|
    some (.inl (v9.1, v9.2.1 ++ (subL v9.1 v9.2.2 (w64 (v9.2.2 + 1))), w64 (v9.2.2 + 1))))
    (fun v5 => some (.inl (v5.1, v5.2.1, w64 (v5.2.2 + 1)))))
   (some (.inr x.2.1))
def F62 (K : Nat) (x : List UInt8) : Option (List UInt8) :=
  bindO (iter K (F62_b0 K) (x, [], 0)) fun v0 =>
  bindO (F61 K v0) fun v1 =>
  some v1
def ct62 (K : Nat) : Ct := ⟨[.l (.v .s)], [], [.l (.v .s)], [], [], F62 K⟩
theorem c62 (K : Nat) : CtOk prog 62 (ct62 K) :=
  con_mk (Y := Y) (L := [(61, ct61 K)]) (K := K) (an := (.seq .no (.seq .no (.seq (.seq .no (.blk (.loop [] ⟨(.l (.v .s) :: ru 2 (.l (.v .s) :: .l (.v (.i .i64)) :: ru 59 [])), []⟩ [(0, ⟨(ru 3 (.l (.v .s) :: ru 60 [])), []⟩)] false (.seq (.seq .no .no) (.seq (.blk (.seq .no (.seqJ [(1000000, ⟨(.l (.v .s) :: ru 2 (.l (.v .s) :: .l (.v (.i .i64)) :: .l (.v (.i .i64)) :: ru 58 [])), []⟩), (1, ⟨(.l (.v .s) :: ru 2 (.l (.v .s) :: .l (.v (.i .i64)) :: ru 59 [])), []⟩)] false (.seq .no .no) (.seqJ [(1000000, ⟨(.l (.v .s) :: ru 2 (.l (.v .s) :: .l (.v (.i .i64)) :: ru 59 [])), []⟩)] false (.seqJ [(1000000, ⟨(.l (.v .s) :: ru 2 (.l (.v .s) :: .l (.v (.i .i64)) :: .l (.v (.i .i64)) :: ru 44 (.l (.v .b) :: ru 13 []))), []⟩)] false .no .no) .no)))) .no))))) .no)))) func62 mixed (ctabOk_cons (c61 K) ctabOk_nil) (by kernel_rfl) fun x => by kernel_rfl
-- loop.example/g00460/spec.l7Op
def F31_b0 (K : Nat) (x : (List UInt8) × Int) : Option (((List UInt8) × Int) ⊕ (Bool ⊕ (List UInt8))) :=
  branch (decide (x.2 < (x.1.length : Int)))
   (bindO (α := (List UInt8) × Int × Bool) (nth x.1 x.2 fun v0 =>
     branch (decide ((v0.toNat : Int) < 97))
      (some (x.1, x.2, true))
      (nth x.1 x.2 fun v1 =>
      some (x.1, x.2, decide (122 < (v1.toNat : Int))))) fun v2 =>
   branch v2.2.2
    (some (.inr (.inl false)))
    (some (.inl (v2.1, w64 (v2.2.1 + 1)))))
   (some (.inr (.inr x.1)))
def F31 (K : Nat) (x : List UInt8) : Option (Bool) :=
  bindO (iter K (F31_b0 K) (x, 0)) fun v0 =>
  csO v0
   (fun v1 => some v1)
   (fun v2 => some (decide ((v2.length : Int) ≤ 10)))
def ct31 (K : Nat) : Ct := ⟨[.l (.v .s)], [], [.l (.v .b)], [], [], F31 K⟩
theorem c31 (K : Nat) : CtOk prog 31 (ct31 K) :=
  con_mk (Y := Y) (L := []) (K := K) (an := (.seq .no (.seq (.seq .no (.blk (.loop [] ⟨(.l (.v .s) :: ru 2 (.l (.v (.i .i64)) :: ru 19 [])), []⟩ [(0, ⟨(.l (.v .s) :: ru 22 []), []⟩)] true (.seq (.seq .no .no) (.seq (.blk (.seqJ [(1000000, ⟨(.l (.v .s) :: ru 2 (.l (.v (.i .i64)) :: ru 15 (.l (.v .b) :: ru 3 []))), []⟩)] false .no (.cond .no .no))) .no))))) .no))) func31 mixed ctabOk_nil (by kernel_rfl) fun x => by kernel_rfl
-- loop.example/g00460/spec.l7Plain
def F52_b0 (K : Nat) (x : (List UInt8) × Int) : Option (((List UInt8) × Int) ⊕ (Bool ⊕ (List UInt8))) :=
  branch (decide (x.2 < (x.1.length : Int)))
   (bindO (α := (List UInt8) × Int × Bool) (nth x.1 x.2 fun v0 =>
     branch (decide ((v0.toNat : Int) < 32))
      (some (x.1, x.2, true))
      (nth x.1 x.2 fun v1 =>
      branch (decide (126 < (v1.toNat : Int)))
       (some (x.1, x.2, true))
       (nth x.1 x.2 fun v2 =>
       some (x.1, x.2, decide ((v2.toNat : Int) = 59))))) fun v3 =>
   branch v3.2.2
    (some (.inr (.inl false)))
    (some (.inl (v3.1, w64 (v3.2.1 + 1)))))
   (some (.inr (.inr x.1)))
def F52 (K : Nat) (x : List UInt8) : Option (Bool) :=
  bindO (iter K (F52_b0 K) (x, 0)) fun v0 =>
  csO v0
   (fun v1 => some v1)
   (fun v2 => branch (decide (v2 = []))
    (some true)
    (nth v2 0 fun v3 =>
    branch (!(decide ((v3.toNat : Int) = 32)))
     (nth v2 (w64 ((v2.length : Int) - 1)) fun v4 =>
     some (!(decide ((v4.toNat : Int) = 32))))
     (some false)))
def ct52 (K : Nat) : Ct := ⟨[.l (.v .s)], [], [.l (.v .b)], [], [], F52 K⟩
theorem c52 (K : Nat) : CtOk prog 52 (ct52 K) :=
  con_mk (Y := Y) (L := []) (K := K) (an := (.seq .no (.seq (.seq .no (.blk (.loop [] ⟨(.l (.v .s) :: ru 2 (.l (.v (.i .i64)) :: ru 37 [])), []⟩ [(0, ⟨(.l (.v .s) :: ru 40 []), []⟩)] true (.seq (.seq .no .no) (.seq (.blk (.seqJ [(1000000, ⟨(.l (.v .s) :: ru 2 (.l (.v (.i .i64)) :: ru 21 (.l (.v .b) :: ru 15 []))), []⟩)] false .no (.cond .no .no))) .no))))) .no))) func52 mixed ctabOk_nil (by kernel_rfl) fun x => by kernel_rfl
-- loop.example/g00460/spec.l7Args
def F32_b0 (K : Nat) (x : (List UInt8) × Int) : Option (((List UInt8) × Int) ⊕ (Bool ⊕ (List UInt8))) :=
  branch (decide ((w64 (x.2 + 1)) < (x.1.length : Int)))
   (bindO (α := (List UInt8) × Int × Bool) (nth x.1 x.2 fun v0 =>
     branch (decide ((v0.toNat : Int) = 32))
      (nth x.1 (w64 (x.2 + 1)) fun v1 =>
      branch (decide ((v1.toNat : Int) = 32))
       (some (x.1, x.2, true))
       (nth x.1 (w64 (x.2 + 1)) fun v2 =>
       branch (decide ((v2.toNat : Int) = 44))
        (some (x.1, x.2, true))
        (nth x.1 x.2 fun v3 =>
        branch (decide ((v3.toNat : Int) = 44))
         (nth x.1 (w64 (x.2 + 1)) fun v4 =>
         some (x.1, x.2, decide ((v4.toNat : Int) = 32)))
         (some (x.1, x.2, false)))))
      (nth x.1 x.2 fun v5 =>
      branch (decide ((v5.toNat : Int) = 44))
       (nth x.1 (w64 (x.2 + 1)) fun v6 =>
       some (x.1, x.2, decide ((v6.toNat : Int) = 32)))
       (some (x.1, x.2, false)))) fun v7 =>
   branch v7.2.2
    (some (.inr (.inl false)))
    (some (.inl (v7.1, w64 (v7.2.1 + 1)))))
   (some (.inr (.inr x.1)))
def F32 (K : Nat) (x : List UInt8) : Option (Bool) :=
  bindO (iter K (F32_b0 K) (x, 0)) fun v0 =>
  csO v0
   (fun v1 => some v1)
   (fun v2 => bindO (F52 K v2) fun v3 =>
   some v3)
def ct32 (K : Nat) : Ct := ⟨[.l (.v .s)], [], [.l (.v .b)], [], [], F32 K⟩
theorem c32 (K : Nat) : CtOk prog 32 (ct32 K) :=
  con_mk (Y := Y) (L := [(52, ct52 K)]) (K := K) (an := (.seq .no (.seq (.seq .no (.blk (.loop [] ⟨(.l (.v .s) :: ru 2 (.l (.v (.i .i64)) :: ru 40 [])), []⟩ [(0, ⟨(.l (.v .s) :: ru 43 []), []⟩)] true (.seq (.seq .no .no) (.seq (.blk (.seqJ [(1000000, ⟨(.l (.v .s) :: ru 2 (.l (.v (.i .i64)) :: ru 37 (.l (.v .b) :: ru 2 []))), []⟩)] false .no (.cond .no .no))) .no))))) .no))) func32 mixed (ctabOk_cons (c52 K) ctabOk_nil) (by kernel_rfl) fun x => by kernel_rfl
-- loop.example/g00460/spec.l7Text
def F33 (K : Nat) (x : (List UInt8) × (List UInt8) × List UInt8) : Option (List UInt8) :=
  bindO (α := (List UInt8) × (List UInt8) × (List UInt8) × List UInt8) (branch (!(decide (x.1 = [])))
     (guard (decide ((x.1.length + 1) ≤ 9223372036854775807)) <|
     some (x.1 ++ ([58] : List UInt8), x))
     (some ([], x))) fun v0 =>
  bindO (α := (List UInt8) × (List UInt8) × (List UInt8) × List UInt8) (branch (!(decide (v0.2.2.1 = [])))
     (bindO (α := (List UInt8) × (List UInt8) × (List UInt8) × List UInt8) (branch (!(decide (v0.1 = [])))
        (guard (decide ((v0.1.length + 1) ≤ 9223372036854775807)) <|
        some (v0.1 ++ ([32] : List UInt8), v0.2))
        (some v0)) fun v1 =>
     guard (decide ((v1.1.length + v1.2.2.1.length) ≤ 9223372036854775807)) <|
     some (v1.1 ++ v1.2.2.1, v1.2))
     (some v0)) fun v2 =>
  branch (!(decide (v2.2.2.2 = [])))
   (guard (decide ((v2.1.length + 1) ≤ 9223372036854775807)) <|
   guard (decide ((((v2.1 ++ ([32] : List UInt8)).length) + v2.2.2.2.length) ≤ 9223372036854775807)) <|
   some ((v2.1 ++ ([32] : List UInt8)) ++ v2.2.2.2))
   (some v2.1)
def ct33 (K : Nat) : Ct := ⟨[.agg [(.v .s), (.v .s), (.v .s)]], [], [.l (.v .s)], [], [], F33 K⟩
theorem c33 (K : Nat) : CtOk prog 33 (ct33 K) :=
  con_mk (Y := Y) (L := []) (K := K) (an := (.seq .no (.seq .no (.seqJ [(1000000, ⟨(ru 1 (.l (.ptr 2000 0 0) :: ru 1 (.l (.v .s) :: ru 26 []))), [(2000, ⟨3, false, .mix (some 34) [[.l (.v .s), .l (.v .s), .l (.v .s)]]⟩)]⟩)] false (.seq .no .no) (.seqJ [(1000000, ⟨(ru 1 (.l (.ptr 2000 0 0) :: ru 1 (.l (.v .s) :: ru 26 []))), [(2000, ⟨3, false, .mix (some 34) [[.l (.v .s), .l (.v .s), .l (.v .s)]]⟩)]⟩)] false (.seq .no (.cond (.seqJ [(1000000, ⟨(ru 1 (.l (.ptr 2000 0 0) :: ru 1 (.l (.v .s) :: ru 26 []))), [(2000, ⟨3, false, .mix (some 34) [[.l (.v .s), .l (.v .s), .l (.v .s)]]⟩)]⟩)] false (.seq .no .no) .no) .no)) (.seq (.seq .no .no) .no)))))) func33 mixed ctabOk_nil (by kernel_rfl) fun x => by kernel_rfl
-- loop.example/g00460/spec.LineOk
def F16 (K : Nat) (x : (List UInt8) × (List UInt8) × List UInt8) : Option (Bool) :=
  bindO (α := Bool ⊕ ((List UInt8) × (List UInt8) × List UInt8)) (bindO (α := Bool × (List UInt8) × (List UInt8) × List UInt8) (branch (!(decide (x.1 = [])))
       (bindO (F30 K x.1) fun v0 =>
       branch (!v0)
        (some (true, x))
        (bindO (F31 K x.2.1) fun v1 =>
        branch (!v1)
         (some (true, x))
         (bindO (F32 K x.2.2) fun v2 =>
         branch (!v2)
          (some (true, x))
          (branch (decide (x.2.1 = []))
           (some (!(decide (x.2.2 = [])), x))
           (some (false, x))))))
       (bindO (F31 K x.2.1) fun v3 =>
       branch (!v3)
        (some (true, x))
        (bindO (F32 K x.2.2) fun v4 =>
        branch (!v4)
         (some (true, x))
         (branch (decide (x.2.1 = []))
          (some (!(decide (x.2.2 = [])), x))
          (some (false, x)))))) fun v5 =>
    branch v5.1
     (some (.inl false))
     (some (.inr v5.2))) fun v6 =>
  csO v6
   (fun v7 => some v7)
   (fun v8 => bindO (F33 K v8) fun v9 =>
   some (decide ((v9.length : Int) ≤ 80)))
def ct16 (K : Nat) : Ct := ⟨[.agg [(.v .s), (.v .s), (.v .s)]], [], [.l (.v .b)], [], [], F16 K⟩
theorem c16 (K : Nat) : CtOk prog 16 (ct16 K) :=
  con_mk (Y := Y) (L := [(30, ct30 K), (31, ct31 K), (32, ct32 K), (33, ct33 K)]) (K := K) (an := (.seq .no (.seqJ [(1000000, ⟨(ru 1 (.l (.ptr 2000 0 0) :: ru 36 [])), [(2000, ⟨3, false, .mix (some 34) [[.l (.v .s), .l (.v .s), .l (.v .s)]]⟩)]⟩)] true (.seqJ [(1000000, ⟨(ru 1 (.l (.ptr 2000 0 0) :: ru 31 (.l (.v .b) :: ru 4 []))), [(2000, ⟨3, false, .mix (some 34) [[.l (.v .s), .l (.v .s), .l (.v .s)]]⟩)]⟩)] false .no (.cond .no .no)) .no))) func16 mixed (ctabOk_cons (c30 K) (ctabOk_cons (c31 K) (ctabOk_cons (c32 K) (ctabOk_cons (c33 K) ctabOk_nil)))) (by kernel_rfl) fun x => by kernel_rfl
-- loop.example/g00460/spec.ReadLine
def F38 (K : Nat) (x : List UInt8) : Option ((List UInt8) × (List UInt8) × (List UInt8) × Bool) :=
  branch (decide (240 < (x.length : Int)))
   (some ([], [], [], false))
   (bindO (F34 K (x, 59)) fun v0 =>
   bindO (F61 K v0.1) fun v1 =>
   bindO (F34 K (v1, 58)) fun v2 =>
   bindO (α := (List UInt8) × (List UInt8) × (List UInt8) × (List UInt8) × (List UInt8) × (List UInt8) × List UInt8) (bindO (α := (List UInt8) × (List UInt8) × (List UInt8) × Bool × (List UInt8) × (List UInt8) × (List UInt8) × (List UInt8) × (List UInt8) × List UInt8) (branch v2.2.2
        (bindO (F61 K v2.1) fun v3 =>
        bindO (F30 K v3) fun v4 =>
        some (v1, v2.1, v2.2.1, v4, [], [], [], [], [], []))
        (some (v1, v2.1, v2.2.1, false, [], [], [], [], [], []))) fun v5 =>
     branch v5.2.2.2.1
      (bindO (F61 K v5.2.1) fun v6 =>
      bindO (F61 K v5.2.2.1) fun v7 =>
      some (v7, v6, v5.2.2.2.2.2))
      (some (v5.1, v5.2.2.2.2))) fun v8 =>
   bindO (F34 K (v8.1, 32)) fun v9 =>
   bindO (F62 K v9.2.1) fun v10 =>
   bindO (F16 K (v8.2.1, v9.1, v10)) fun v11 =>
   branch (!v11)
    (some ([], [], [], false))
    (some (v8.2.1, v9.1, v10, true)))
def ct38 (K : Nat) : Ct := ⟨[.l (.v .s)], [], [.agg [(.v .s), (.v .s), (.v .s)], .l (.v .b)], [], [], F38 K⟩
theorem c38 (K : Nat) : CtOk prog 38 (ct38 K) :=
  con_mk (Y := Y) (L := [(34, ct34 K), (61, ct61 K), (30, ct30 K), (62, ct62 K), (16, ct16 K)]) (K := K) (an := (.seq .no (.seq (.seq .no (.cond .no .no)) (.seq .no (.seq .no (.seq .no (.seq .no (.seqJ [(1000000, ⟨(.l (.v .s) :: ru 1 (.l (.ptr 3000 0 0) :: ru 1 (.l (.ptr 5000 0 0) :: ru 52 []))), [(5000, ⟨3, false, .mix (some 34) [[.l (.v .s), .l (.v .s), .l (.v .s)]]⟩), (3000, ⟨3, false, .mix (some 34) [[.l (.v .s), .l (.v .s), .l (.v .s)]]⟩)]⟩)] false (.seqJ [(1000000, ⟨(.l (.v .s) :: ru 1 (.l (.ptr 3000 0 0) :: ru 1 (.l (.ptr 5000 0 0) :: .l (.v .s) :: .l (.v .s) :: ru 28 (.l (.v .b) :: ru 21 [])))), [(5000, ⟨3, false, .mix (some 34) [[.l (.v .s), .l (.v .s), .l (.v .s)]]⟩), (3000, ⟨3, false, .mix (some 34) [[.l (.v .s), .l (.v .s), .l (.v .s)]]⟩)]⟩)] false .no (.cond .no .no)) (.seq .no (.seq .no (.seq .no (.seq (.seq .no (.cond .no .no)) .no)))))))))))) func38 mixed (ctabOk_cons (c34 K) (ctabOk_cons (c61 K) (ctabOk_cons (c30 K) (ctabOk_cons (c62 K) (ctabOk_cons (c16 K) ctabOk_nil))))) (by kernel_rfl) fun x => by kernel_rfl
-- loop.example/g00460/spec.l8End
def F65_b1 (K : Nat) (x : (List (List UInt8)) × Int × Int × Int × Int × Int × Int × (List UInt8) × (List UInt8) × (List UInt8) × (List (List UInt8)) × List (List UInt8)) : Option (((List (List UInt8)) × Int × Int × Int × Int × Int × Int × (List UInt8) × (List UInt8) × (List UInt8) × (List (List UInt8)) × List (List UInt8)) ⊕ ((Int × Int × Bool) ⊕ ((List (List UInt8)) × Int × Int × Int × Int × Int × (List UInt8) × (List UInt8) × (List UInt8) × (List (List UInt8)) × List (List UInt8)))) :=
  branch (decide (x.2.2.2.2.2.2.1 < 3))
   (bindO (α := (List (List UInt8)) × Int × Int × Int × Int × Int × Int × (List UInt8) × (List UInt8) × (List UInt8) × (List (List UInt8)) × List (List UInt8)) (guard (decide (0 ≤ x.2.2.2.2.2.2.1 ∧ x.2.2.2.2.2.2.1 < (x.2.2.2.2.2.2.2.2.2.2.2.length : Int))) <|
     nthN x.2.2.2.2.2.2.2.2.2.2.2 x.2.2.2.2.2.2.1.toNat fun v0 =>
     branch (decide (x.2.2.2.2.2.2.2.2.1 = v0))
      (branch (decide (x.2.2.2.2.2.1 = x.2.1))
       (some (x.1, x.2.1, x.2.2.2.2.2.2.1, w64 (x.2.2.2.1 + 1), x.2.2.2.2))
       (some (x.1, x.2.1, x.2.2.1, w64 (x.2.2.2.1 + 1), x.2.2.2.2)))
      (some x)) fun v1 =>
   guard (decide (0 ≤ v1.2.2.2.2.2.2.1 ∧ v1.2.2.2.2.2.2.1 < (v1.2.2.2.2.2.2.2.2.2.2.1.length : Int))) <|
   nthN v1.2.2.2.2.2.2.2.2.2.2.1 v1.2.2.2.2.2.2.1.toNat fun v2 =>
   branch (decide (v1.2.2.2.2.2.2.2.2.1 = v2))
    (branch (decide ((w64 (v1.2.2.2.1 - 1)) = 0))
     (bindO (α := Int × Int × Int × Int) (branch (decide (v1.2.2.2.2.1 < 0))
        (some (v1.2.2.1, v1.2.2.2.2.2.1, v1.2.2.2.2.2.1, v1.2.2.2.2.2.2.1))
        (some (v1.2.2.1, v1.2.2.2.2.1, v1.2.2.2.2.2.1, v1.2.2.2.2.2.2.1))) fun v3 =>
     some (.inr (.inl (v3.2.1, v3.2.2.1, decide (v3.2.2.2 = v3.1)))))
     (some (.inl (v1.1, v1.2.1, v1.2.2.1, w64 (v1.2.2.2.1 - 1), v1.2.2.2.2.1, v1.2.2.2.2.2.1, w64 (v1.2.2.2.2.2.2.1 + 1), v1.2.2.2.2.2.2.2))))
    (some (.inl (v1.1, v1.2.1, v1.2.2.1, v1.2.2.2.1, v1.2.2.2.2.1, v1.2.2.2.2.2.1, w64 (v1.2.2.2.2.2.2.1 + 1), v1.2.2.2.2.2.2.2))))
   (some (.inr (.inr (x.1, x.2.1, x.2.2.1, x.2.2.2.1, x.2.2.2.2.1, x.2.2.2.2.2.1, x.2.2.2.2.2.2.2))))
def F65_b0 (K : Nat) (x : (List (List UInt8)) × Int × Int × Int × Int × Int × (List (List UInt8)) × List (List UInt8)) : Option (((List (List UInt8)) × Int × Int × Int × Int × Int × (List (List UInt8)) × List (List UInt8)) ⊕ ((Int × Int × Bool) ⊕ Unit)) :=
  branch (decide (x.2.2.2.2.2.1 < (x.1.length : Int)))
   (nth x.1 x.2.2.2.2.2.1 fun v0 =>
   bindO (F38 K v0) fun v1 =>
   branch (!v1.2.2.2)
    (some (.inl (x.1, x.2.1, x.2.2.1, x.2.2.2.1, x.2.2.2.2.1, w64 (x.2.2.2.2.2.1 + 1), x.2.2.2.2.2.2)))
    (bindO (iter K (F65_b1 K) (x.1, x.2.1, x.2.2.1, x.2.2.2.1, x.2.2.2.2.1, x.2.2.2.2.2.1, 0, v1.1, v1.2.1, v1.2.2.1, x.2.2.2.2.2.2)) fun v2 =>
    csO v2
     (fun v3 => some (.inr (.inl v3)))
     (fun v4 => bindO (α := (List (List UInt8)) × Int × Int × Int × Int × Int × Bool × (List (List UInt8)) × List (List UInt8)) (branch (decide (v4.2.2.2.2.2.2.2.1 = ([101, 108, 115, 101] : List UInt8)))
        (branch (decide (v4.2.2.2.1 = 1))
         (branch (decide (v4.2.2.1 = 2))
          (some (v4.1, v4.2.1, v4.2.2.1, v4.2.2.2.1, v4.2.2.2.2.1, v4.2.2.2.2.2.1, decide (v4.2.2.2.2.1 < 0), v4.2.2.2.2.2.2.2.2.2))
          (some (v4.1, v4.2.1, v4.2.2.1, v4.2.2.2.1, v4.2.2.2.2.1, v4.2.2.2.2.2.1, false, v4.2.2.2.2.2.2.2.2.2)))
         (some (v4.1, v4.2.1, v4.2.2.1, v4.2.2.2.1, v4.2.2.2.2.1, v4.2.2.2.2.2.1, false, v4.2.2.2.2.2.2.2.2.2)))
        (some (v4.1, v4.2.1, v4.2.2.1, v4.2.2.2.1, v4.2.2.2.2.1, v4.2.2.2.2.2.1, false, v4.2.2.2.2.2.2.2.2.2))) fun v5 =>
     branch v5.2.2.2.2.2.2.1
      (some (.inl (v5.1, v5.2.1, v5.2.2.1, v5.2.2.2.1, v5.2.2.2.2.2.1, w64 (v5.2.2.2.2.2.1 + 1), v5.2.2.2.2.2.2.2)))
      (some (.inl (v5.1, v5.2.1, v5.2.2.1, v5.2.2.2.1, v5.2.2.2.2.1, w64 (v5.2.2.2.2.2.1 + 1), v5.2.2.2.2.2.2.2))))))
   (some (.inr (.inr ())))
def F65 (K : Nat) (x : (List (List UInt8)) × Int) : Option (Int × Int × Bool) :=
  bindO (iter K (F65_b0 K) (x.1, x.2, (-1), 0, (-1), x.2, [([101, 110, 100, 109] : List UInt8), ([101, 110, 100, 114] : List UInt8), ([101, 110, 100, 99] : List UInt8)], [([109, 97, 99, 114, 111] : List UInt8), ([114, 101, 112, 116] : List UInt8), ([105, 102] : List UInt8)])) fun v0 =>
  csO v0
   (fun v1 => some v1)
   (fun v2 => some (0, 0, false))
def ct65 (K : Nat) : Ct := ⟨[.l (.v (.l .s)), .l (.v (.i .i64))], [], [.l (.v (.i .i64)), .l (.v (.i .i64)), .l (.v .b)], [], [], F65 K⟩
theorem c65 (K : Nat) : CtOk prog 65 (ct65 K) :=
  con_mk (Y := Y) (L := [(38, ct38 K)]) (K := K) (an := (.seq .no (.seq .no (.seq .no (.seq .no (.seq .no (.seq .no (.seq (.seq .no (.blk (.loop [] ⟨(.l (.v (.l .s)) :: .l (.v (.i .i64)) :: ru 5 (.l (.all 17000) :: .l (.all 18000) :: .l (.v (.i .i64)) :: .l (.v (.i .i64)) :: .l (.v (.i .i64)) :: .l (.v (.i .i64)) :: ru 74 [])), [(18000, ⟨1, true, .row .s⟩), (17000, ⟨1, true, .row .s⟩)]⟩ [(0, ⟨(ru 87 []), []⟩)] true (.seq (.seq .no .no) (.seq (.blk (.seq .no (.seq (.seq .no .no) (.seq (.seq .no (.blk (.loop [] ⟨(.l (.v (.l .s)) :: .l (.v (.i .i64)) :: ru 5 (.l (.all 17000) :: .l (.all 18000) :: .l (.v (.i .i64)) :: .l (.v (.i .i64)) :: .l (.v (.i .i64)) :: .l (.v (.i .i64)) :: .l (.ptr 14000 0 0) :: ru 1 (.l (.v (.i .i64)) :: ru 71 []))), [(14000, ⟨3, false, .mix (some 34) [[.l (.v .s), .l (.v .s), .l (.v .s)]]⟩), (18000, ⟨1, true, .row .s⟩), (17000, ⟨1, true, .row .s⟩)]⟩ [(2, ⟨(.l (.v (.l .s)) :: .l (.v (.i .i64)) :: ru 5 (.l (.all 17000) :: .l (.all 18000) :: .l (.v (.i .i64)) :: .l (.v (.i .i64)) :: .l (.v (.i .i64)) :: .l (.v (.i .i64)) :: .l (.ptr 14000 0 0) :: ru 73 [])), [(14000, ⟨3, false, .mix (some 34) [[.l (.v .s), .l (.v .s), .l (.v .s)]]⟩), (18000, ⟨1, true, .row .s⟩), (17000, ⟨1, true, .row .s⟩)]⟩)] true (.seq (.seq .no .no) (.seq (.blk (.seqJ [(1000000, ⟨(.l (.v (.l .s)) :: .l (.v (.i .i64)) :: ru 5 (.l (.all 17000) :: .l (.all 18000) :: .l (.v (.i .i64)) :: .l (.v (.i .i64)) :: .l (.v (.i .i64)) :: .l (.v (.i .i64)) :: .l (.ptr 14000 0 0) :: ru 1 (.l (.v (.i .i64)) :: ru 71 []))), [(14000, ⟨3, false, .mix (some 34) [[.l (.v .s), .l (.v .s), .l (.v .s)]]⟩), (18000, ⟨1, true, .row .s⟩), (17000, ⟨1, true, .row .s⟩)]⟩)] false (.seq .no (.cond (.seq (.seq .no .no) .no) .no)) (.seq .no (.cond (.seq .no (.seq .no (.cond (.seqJ [(1000000, ⟨(ru 9 (.l (.v (.i .i64)) :: ru 1 (.l (.v (.i .i64)) :: .l (.v (.i .i64)) :: ru 2 (.l (.v (.i .i64)) :: ru 71 [])))), []⟩)] false (.seq .no .no) .no) .no))) .no)))) .no))))) (.seqJ [(1000000, ⟨(.l (.v (.l .s)) :: .l (.v (.i .i64)) :: ru 5 (.l (.all 17000) :: .l (.all 18000) :: .l (.v (.i .i64)) :: .l (.v (.i .i64)) :: .l (.v (.i .i64)) :: .l (.v (.i .i64)) :: ru 72 (.l (.v .b) :: ru 1 []))), [(18000, ⟨1, true, .row .s⟩), (17000, ⟨1, true, .row .s⟩)]⟩)] false .no .no))))) .no))))) .no)))))))) func65 mixed (ctabOk_cons (c38 K) ctabOk_nil) (by kernel_rfl) fun x => by kernel_rfl
-- loop.example/g00460/spec.l1Digit
def F156 (K : Nat) (x : Int) : Option (Int) :=
  bindO (α := Int × Bool) (branch (decide (48 ≤ x))
     (some (x, decide (x ≤ 57)))
     (some (x, false))) fun v0 =>
  branch v0.2
   (some (w64 (w8 (v0.1 - 48))))
   (bindO (α := Int × Bool) (branch (decide (65 ≤ v0.1))
      (some (v0.1, decide (v0.1 ≤ 70)))
      (some (v0.1, false))) fun v1 =>
   branch v1.2
    (some (w64 ((w64 (w8 (v1.1 - 65))) + 10)))
    (some 99))
def ct156 (K : Nat) : Ct := ⟨[.l (.v (.i .u8))], [], [.l (.v (.i .i64))], [], [], F156 K⟩
theorem c156 (K : Nat) : CtOk prog 156 (ct156 K) :=
  con_mk (Y := Y) (L := []) (K := K) (an := (.seq .no (.seq (.blk (.seqJ [(1000000, ⟨(.l (.v (.i .u8)) :: ru 2 (.l (.v .b) :: ru 20 [])), []⟩)] false .no (.cond .no (.seqJ [(1000000, ⟨(.l (.v (.i .u8)) :: ru 12 (.l (.v .b) :: ru 10 [])), []⟩)] false .no (.cond .no .no))))) .no))) func156 mixed ctabOk_nil (by kernel_rfl) fun x => by kernel_rfl
-- loop.example/g00460/spec.l1Base
def F148_b0 (K : Nat) (x : (List UInt8) × Int × Int × Int) : Option (((List UInt8) × Int × Int × Int) ⊕ ((Int × Bool) ⊕ ((List UInt8) × Int))) :=
  branch (decide (x.2.2.2 < (x.1.length : Int)))
   (nth x.1 x.2.2.2 fun v0 =>
   bindO (F156 K (v0.toNat : Int)) fun v1 =>
   branch (decide (x.2.1 ≤ v1))
    (some (.inr (.inl (0, false))))
    (branch (decide (65535 < (w64 ((w64 (x.2.2.1 * x.2.1)) + v1))))
     (some (.inr (.inl (0, false))))
     (some (.inl (x.1, x.2.1, w64 ((w64 (x.2.2.1 * x.2.1)) + v1), w64 (x.2.2.2 + 1))))))
   (some (.inr (.inr (x.1, x.2.2.1))))
def F148 (K : Nat) (x : (List UInt8) × Int) : Option (Int × Bool) :=
  bindO (iter K (F148_b0 K) (x.1, x.2, 0, 0)) fun v0 =>
  csO v0
   (fun v1 => some v1)
   (fun v2 => some (v2.2, !(decide (v2.1 = []))))
def ct148 (K : Nat) : Ct := ⟨[.l (.v .s), .l (.v (.i .i64))], [], [.l (.v (.i .i64)), .l (.v .b)], [], [], F148 K⟩
theorem c148 (K : Nat) : CtOk prog 148 (ct148 K) :=
  con_mk (Y := Y) (L := [(156, ct156 K)]) (K := K) (an := (.seq .no (.seq .no (.seq (.seq .no (.blk (.loop [] ⟨(.l (.v .s) :: .l (.v (.i .i64)) :: ru 4 (.l (.v (.i .i64)) :: .l (.v (.i .i64)) :: ru 24 [])), []⟩ [(0, ⟨(.l (.v .s) :: ru 5 (.l (.v (.i .i64)) :: ru 25 [])), []⟩)] true (.seq (.seq .no .no) (.seq (.blk (.seq .no (.seq (.seq .no (.cond .no .no)) (.seq .no (.seq .no (.cond .no .no)))))) .no))))) .no)))) func148 mixed (ctabOk_cons (c156 K) ctabOk_nil) (by kernel_rfl) fun x => by kernel_rfl
-- loop.example/g00460/spec.ReadNum
def F134 (K : Nat) (x : List UInt8) : Option (Int × Bool) :=
  bindO (α := (Int × Bool) ⊕ (List UInt8)) (bindO (α := (List UInt8) × Bool) (branch (decide (18 < (x.length : Int)))
       (some (x, true))
       (some (x, decide (x = [])))) fun v0 =>
    branch v0.2
     (some (.inl (0, false)))
     (some (.inr v0.1))) fun v1 =>
  csO v1
   (fun v2 => some v2)
   (fun v3 => nth v3 0 fun v4 =>
   branch (decide ((v4.toNat : Int) = 36))
    (guard (decide ((0 : Int) ≤ 1 ∧ 1 ≤ (v3.length : Int))) <|
    bindO (F148 K (dpL v3 1, 16)) fun v5 =>
    some v5)
    (branch (decide ((v4.toNat : Int) = 37))
     (guard (decide ((0 : Int) ≤ 1 ∧ 1 ≤ (v3.length : Int))) <|
     bindO (F148 K (dpL v3 1, 2)) fun v6 =>
     some v6)
     (bindO (F148 K (v3, 10)) fun v7 =>
     some v7)))
def ct134 (K : Nat) : Ct := ⟨[.l (.v .s)], [], [.l (.v (.i .i64)), .l (.v .b)], [], [], F134 K⟩
theorem c134 (K : Nat) : CtOk prog 134 (ct134 K) :=
  con_mk (Y := Y) (L := [(148, ct148 K)]) (K := K) (an := (.seq .no (.seqJ [(1000000, ⟨(.l (.v .s) :: ru 30 []), []⟩)] true (.seqJ [(1000000, ⟨(.l (.v .s) :: ru 9 (.l (.v .b) :: ru 20 [])), []⟩)] false .no (.cond .no .no)) (.seq (.seq .no (.blk (.seq .no (.cond .no (.seq .no (.cond .no .no)))))) .no)))) func134 mixed (ctabOk_cons (c148 K) ctabOk_nil) (by kernel_rfl) fun x => by kernel_rfl
-- loop.example/g00460/spec.l2Words
def F108 (K : Nat) (x : Unit) : Option (List (List UInt8)) :=
  some [[], [], [], [], ([110, 101, 103] : List UInt8), ([110, 111, 116] : List UInt8), ([104, 105, 103, 104] : List UInt8), ([108, 111, 119] : List UInt8), ([43] : List UInt8), ([45] : List UInt8), ([42] : List UInt8), ([47] : List UInt8), ([37] : List UInt8), ([38] : List UInt8), ([94] : List UInt8), ([124] : List UInt8), ([60, 60] : List UInt8), ([62, 62] : List UInt8)]
def ct108 (K : Nat) : Ct := ⟨[], [], [.l (.v (.l .s))], [], [], F108 K⟩
theorem c108 (K : Nat) : CtOk prog 108 (ct108 K) :=
  con_mk (Y := Y) (L := []) (K := K) (an := (.seq .no .no)) func108 mixed ctabOk_nil (by kernel_rfl) fun x => by kernel_rfl
-- loop.example/g00460/spec.l2Level
def F107 (K : Nat) (x : Int) : Option (Int) :=
  bindO (α := Int × Bool) (branch (decide (x = 10))
     (some (x, true))
     (branch (decide (x = 11))
      (some (x, true))
      (some (x, decide (x = 12))))) fun v0 =>
  branch v0.2
   (some 6)
   (bindO (α := Int × Bool) (branch (decide (v0.1 = 8))
      (some (v0.1, true))
      (some (v0.1, decide (v0.1 = 9)))) fun v1 =>
   branch v1.2
    (some 5)
    (bindO (α := Int × Bool) (branch (decide (v1.1 = 16))
       (some (v1.1, true))
       (some (v1.1, decide (v1.1 = 17)))) fun v2 =>
    branch v2.2
     (some 4)
     (branch (decide (v2.1 = 13))
      (some 3)
      (branch (decide (v2.1 = 14))
       (some 2)
       (some 1)))))
def ct107 (K : Nat) : Ct := ⟨[.l (.v (.i .i64))], [], [.l (.v (.i .i64))], [], [], F107 K⟩
theorem c107 (K : Nat) : CtOk prog 107 (ct107 K) :=
  con_mk (Y := Y) (L := []) (K := K) (an := (.seq .no (.seq (.seq .no (.blk (.seqJ [(1000000, ⟨(ru 3 (.l (.v (.i .i64)) :: .l (.v .b) :: ru 13 [])), []⟩)] false (.seq .no (.cond .no (.seq .no .no))) (.cond .no (.seqJ [(1000000, ⟨(ru 3 (.l (.v (.i .i64)) :: ru 4 (.l (.v .b) :: ru 9 []))), []⟩)] false (.seq .no .no) (.cond .no (.seqJ [(1000000, ⟨(ru 3 (.l (.v (.i .i64)) :: ru 7 (.l (.v .b) :: ru 6 []))), []⟩)] false (.seq .no .no) (.cond .no (.seq .no (.cond .no (.seq .no (.cond .no .no)))))))))))) .no))) func107 mixed ctabOk_nil (by kernel_rfl) fun x => by kernel_rfl
-- loop.example/g00460/spec.l1In
def F67 (K : Nat) (x : Int × Int × Int) : Option (Bool) :=
  branch (decide (x.2.1 ≤ x.1))
   (some (decide (x.1 ≤ x.2.2)))
   (some false)
def ct67 (K : Nat) : Ct := ⟨[.l (.v (.i .i64)), .l (.v (.i .i64)), .l (.v (.i .i64))], [], [.l (.v .b)], [], [], F67 K⟩
theorem c67 (K : Nat) : CtOk prog 67 (ct67 K) :=
  con_mk (Y := Y) (L := []) (K := K) (an := (.seq .no .no)) func67 mixed ctabOk_nil (by kernel_rfl) fun x => by kernel_rfl
-- loop.example/g00460/spec.l2Takes
def F111 (K : Nat) (x : Int) : Option (Int) :=
  bindO (F67 K (x, 1, 3)) fun v0 =>
  branch v0
   (some 0)
   (bindO (F67 K (x, 4, 7)) fun v1 =>
   branch v1
    (some 1)
    (bindO (F67 K (x, 8, 17)) fun v2 =>
    branch v2
     (some 2)
     (some (-1))))
def ct111 (K : Nat) : Ct := ⟨[.l (.v (.i .i64))], [], [.l (.v (.i .i64))], [], [], F111 K⟩
theorem c111 (K : Nat) : CtOk prog 111 (ct111 K) :=
  con_mk (Y := Y) (L := [(67, ct67 K)]) (K := K) (an := (.seq .no (.seq (.blk (.seq .no (.cond .no (.seq .no (.cond .no (.seq .no (.cond .no .no))))))) .no))) func111 mixed (ctabOk_cons (c67 K) ctabOk_nil) (by kernel_rfl) fun x => by kernel_rfl
-- loop.example/g00460/spec.l2Node
def F110 (K : Nat) (x : Int × Int × List UInt8) : Option (Bool) :=
  bindO (α := Bool ⊕ (Int × Int × List UInt8)) (branch (decide (x.1 = 1))
     (bindO (F67 K (x.2.1, 0, 65535)) fun v0 =>
     branch v0
      (some (.inl (decide (x.2.2 = []))))
      (some (.inl false)))
     (bindO (α := Bool × Int × Int × List UInt8) (branch (decide (x.1 = 2))
        (some (true, x))
        (some (decide (x.1 = 3), x))) fun v1 =>
     branch v1.1
      (branch (decide (v1.2.2.1 = 0))
       (bindO (F30 K v1.2.2.2) fun v2 =>
       some (.inl v2))
       (some (.inl false)))
      (some (.inr v1.2)))) fun v3 =>
  csO v3
   (fun v4 => some v4)
   (fun v5 => branch (decide (v5.2.1 = 0))
    (branch (decide (v5.2.2 = []))
     (bindO (F111 K v5.1) fun v6 =>
     some (decide (0 < v6)))
     (some false))
    (some false))
def ct110 (K : Nat) : Ct := ⟨[.agg [(.v (.i .i64)), (.v (.i .i64)), (.v .s)]], [], [.l (.v .b)], [], [], F110 K⟩
theorem c110 (K : Nat) : CtOk prog 110 (ct110 K) :=
  con_mk (Y := Y) (L := [(30, ct30 K), (67, ct67 K), (111, ct111 K)]) (K := K) (an := (.seq .no (.seqJ [(1000000, ⟨(ru 1 (.l (.ptr 2000 0 0) :: ru 38 [])), [(2000, ⟨3, false, .mix (some 119) [[.l (.v (.i .i64)), .l (.v (.i .i64)), .l (.v .s)]]⟩)]⟩)] true (.seq .no (.blk (.seq .no (.cond .no (.seqJ [(1000000, ⟨(ru 1 (.l (.ptr 2000 0 0) :: ru 13 (.l (.v .b) :: ru 24 []))), [(2000, ⟨3, false, .mix (some 119) [[.l (.v (.i .i64)), .l (.v (.i .i64)), .l (.v .s)]]⟩)]⟩)] false (.seq .no .no) (.cond .no .no)))))) .no))) func110 mixed (ctabOk_cons (c30 K) (ctabOk_cons (c67 K) (ctabOk_cons (c111 K) ctabOk_nil))) (by kernel_rfl) fun x => by kernel_rfl
-- loop.example/g00460/spec.ExprOk
def F92_b0 (K : Nat) (x : (List (Int × Int × List UInt8)) × Int × Int) : Option (((List (Int × Int × List UInt8)) × Int × Int) ⊕ (Bool ⊕ ((List (Int × Int × List UInt8)) × Int))) :=
  branch (decide (x.2.2 < (x.1.length : Int)))
   (bindO (α := Bool ⊕ ((List (Int × Int × List UInt8)) × Int × Int)) (bindO (α := (List (Int × Int × List UInt8)) × Int × Int × Bool) (nth x.1 x.2.2 fun v0 =>
       bindO (F110 K v0) fun v1 =>
       branch (!v1)
        (some (x.1, x.2.1, x.2.2, true))
        (nth x.1 x.2.2 fun v2 =>
        bindO (F111 K v2.1) fun v3 =>
        some (x.1, x.2.1, x.2.2, decide (x.2.1 < v3)))) fun v4 =>
     branch v4.2.2.2
      (some (.inl false))
      (some (.inr (v4.1, v4.2.1, v4.2.2.1)))) fun v5 =>
   csO v5
    (fun v6 => some (.inr (.inl v6)))
    (fun v7 => nth v7.1 v7.2.2 fun v8 =>
    bindO (F111 K v8.1) fun v9 =>
    some (.inl (v7.1, w64 ((w64 (v7.2.1 - v9)) + 1), w64 (v7.2.2 + 1)))))
   (some (.inr (.inr (x.1, x.2.1))))
def F92 (K : Nat) (x : List (Int × Int × List UInt8)) : Option (Bool) :=
  bindO (iter K (F92_b0 K) (x, 0, 0)) fun v0 =>
  csO v0
   (fun v1 => some v1)
   (fun v2 => branch (decide ((v2.1.length : Int) ≤ 30))
    (some (decide (v2.2 = 1)))
    (some false))
def ct92 (K : Nat) : Ct := ⟨[.l (.v (.l (.c (.i .i64) (.c (.i .i64) .s))))], [], [.l (.v .b)], [], [], F92 K⟩
theorem c92 (K : Nat) : CtOk prog 92 (ct92 K) :=
  con_mk (Y := Y) (L := [(111, ct111 K), (110, ct110 K)]) (K := K) (an := (.seq .no (.seq .no (.seq (.seq .no (.blk (.loop [] ⟨(.l (.v (.l (.c (.i .i64) (.c (.i .i64) .s)))) :: ru 2 (.l (.v (.i .i64)) :: .l (.v (.i .i64)) :: ru 38 [])), []⟩ [(0, ⟨(.l (.v (.l (.c (.i .i64) (.c (.i .i64) .s)))) :: ru 2 (.l (.v (.i .i64)) :: ru 39 [])), []⟩)] true (.seq (.seq .no .no) (.seq (.blk (.seqJ [(1000000, ⟨(.l (.v (.l (.c (.i .i64) (.c (.i .i64) .s)))) :: ru 2 (.l (.v (.i .i64)) :: .l (.v (.i .i64)) :: ru 38 [])), []⟩)] true (.seqJ [(1000000, ⟨(.l (.v (.l (.c (.i .i64) (.c (.i .i64) .s)))) :: ru 2 (.l (.v (.i .i64)) :: .l (.v (.i .i64)) :: ru 21 (.l (.v .b) :: ru 16 []))), []⟩)] false .no (.cond .no .no)) .no)) .no))))) .no)))) func92 mixed (ctabOk_cons (c111 K) (ctabOk_cons (c110 K) ctabOk_nil)) (by kernel_rfl) fun x => by kernel_rfl
-- loop.example/g00460/spec.l2Sym
def F112_b0 (K : Nat) (x : (List ((List UInt8) × Int × Int)) × (List UInt8) × Int) : Option (((List ((List UInt8) × Int × Int)) × (List UInt8) × Int) ⊕ (Int ⊕ Unit)) :=
  branch (decide (x.2.2 < (x.1.length : Int)))
   (nth x.1 x.2.2 fun v0 =>
   branch (decide (v0.1 = x.2.1))
    (some (.inr (.inl x.2.2)))
    (some (.inl (x.1, x.2.1, w64 (x.2.2 + 1)))))
   (some (.inr (.inr ())))
def F112 (K : Nat) (x : (List ((List UInt8) × Int × Int)) × List UInt8) : Option (Int) :=
  bindO (iter K (F112_b0 K) (x.1, x.2, 0)) fun v0 =>
  csO v0
   (fun v1 => some v1)
   (fun v2 => some (-1))
def ct112 (K : Nat) : Ct := ⟨[.l (.v (.l (.c .s (.c (.i .i64) (.i .i64))))), .l (.v .s)], [], [.l (.v (.i .i64))], [], [], F112 K⟩
theorem c112 (K : Nat) : CtOk prog 112 (ct112 K) :=
  con_mk (Y := Y) (L := []) (K := K) (an := (.seq .no (.seq (.seq .no (.blk (.loop [] ⟨(.l (.v (.l (.c .s (.c (.i .i64) (.i .i64))))) :: .l (.v .s) :: ru 3 (.l (.v (.i .i64)) :: ru 14 [])), []⟩ [(0, ⟨(ru 20 []), []⟩)] true (.seq (.seq .no .no) (.seq (.blk (.seq .no (.cond .no .no))) .no))))) .no))) func112 mixed ctabOk_nil (by kernel_rfl) fun x => by kernel_rfl
-- loop.example/g00460/spec.l2Wrap
def F113 (K : Nat) (x : Int) : Option (Int) :=
  some (w64 (w32 x))
def ct113 (K : Nat) : Ct := ⟨[.l (.v (.i .i64))], [], [.l (.v (.i .i64))], [], [], F113 K⟩
theorem c113 (K : Nat) : CtOk prog 113 (ct113 K) :=
  con_mk (Y := Y) (L := []) (K := K) (an := (.seq .no .no)) func113 mixed ctabOk_nil (by kernel_rfl) fun x => by kernel_rfl
-- loop.example/g00460/spec.l2Two
def F114 (K : Nat) (x : Int × Int × Int) : Option (Int × Bool) :=
  branch (decide (x.1 = 8))
   (bindO (F113 K (w64 (x.2.1 + x.2.2))) fun v0 =>
   some (v0, true))
   (branch (decide (x.1 = 9))
    (bindO (F113 K (w64 (x.2.1 - x.2.2))) fun v1 =>
    some (v1, true))
    (branch (decide (x.1 = 10))
     (bindO (F113 K (w64 (x.2.1 * x.2.2))) fun v2 =>
     some (v2, true))
     (branch (decide (x.1 = 11))
      (branch (decide (x.2.2 = 0))
       (some (0, false))
       (guard (!(decide (x.2.2 = 0))) <|
       bindO (F113 K (w64 (Int.tdiv x.2.1 x.2.2))) fun v3 =>
       some (v3, true)))
      (branch (decide (x.1 = 12))
       (branch (decide (x.2.2 = 0))
        (some (0, false))
        (guard (!(decide (x.2.2 = 0))) <|
        bindO (F113 K (Int.tmod x.2.1 x.2.2)) fun v4 =>
        some (v4, true)))
       (branch (decide (x.1 = 13))
        (some (Go.bits Go.BinOp.and Go.IntKind.i64 x.2.1 x.2.2, true))
        (branch (decide (x.1 = 14))
         (some (Go.bits Go.BinOp.xor Go.IntKind.i64 x.2.1 x.2.2, true))
         (branch (decide (x.1 = 15))
          (some (Go.bits Go.BinOp.or Go.IntKind.i64 x.2.1 x.2.2, true))
          (branch (decide (x.1 = 16))
           (guard (decide (0 ≤ (w64u (Go.bits Go.BinOp.and Go.IntKind.i64 x.2.2 31)))) <|
           bindO (F113 K (shlI Go.IntKind.i64 x.2.1 (w64u (Go.bits Go.BinOp.and Go.IntKind.i64 x.2.2 31)))) fun v5 =>
           some (v5, true))
           (guard (decide (0 ≤ (w64u (Go.bits Go.BinOp.and Go.IntKind.i64 x.2.2 31)))) <|
           some (shrI Go.IntKind.i64 x.2.1 (w64u (Go.bits Go.BinOp.and Go.IntKind.i64 x.2.2 31)), true))))))))))
def ct114 (K : Nat) : Ct := ⟨[.l (.v (.i .i64)), .l (.v (.i .i64)), .l (.v (.i .i64))], [], [.l (.v (.i .i64)), .l (.v .b)], [], [], F114 K⟩
theorem c114 (K : Nat) : CtOk prog 114 (ct114 K) :=
  con_mk (Y := Y) (L := [(113, ct113 K)]) (K := K) (an := (.seq .no (.seq (.seq .no (.blk (.seq .no (.cond .no (.seq .no (.cond .no (.seq .no (.cond .no (.seq .no (.cond (.seq (.seq .no (.cond .no .no)) .no) (.seq .no (.cond (.seq (.seq .no (.cond .no .no)) .no) (.seq .no (.cond .no (.seq .no (.cond .no (.seq .no (.cond .no (.seq .no (.cond .no .no)))))))))))))))))))) .no))) func114 mixed (ctabOk_cons (c113 K) ctabOk_nil) (by kernel_rfl) fun x => by kernel_rfl
-- loop.example/g00460/spec.ArgsOf
def F18_b0 (K : Nat) (x : (List UInt8) × Bool × List (List UInt8)) : Option (((List UInt8) × Bool × List (List UInt8)) ⊕ (List (List UInt8))) :=
  branch x.2.1
   (bindO (F34 K (x.1, 44)) fun v0 =>
   guard (fitN (x.2.2.length + [v0.1].length) 16) <|
   some (.inl (v0.2.1, v0.2.2, x.2.2 ++ [v0.1])))
   (some (.inr x.2.2))
def F18 (K : Nat) (x : List UInt8) : Option (List (List UInt8)) :=
  bindO (α := (List (List UInt8)) ⊕ ((List UInt8) × List (List UInt8))) (bindO (α := (List UInt8) × Bool × List (List UInt8)) (branch (decide (x = []))
       (some (x, true, []))
       (bindO (F32 K x) fun v0 =>
       some (x, !v0, []))) fun v1 =>
    branch v1.2.1
     (some (.inl v1.2.2))
     (some (.inr (v1.1, v1.2.2)))) fun v2 =>
  csO v2
   (fun v3 => some v3)
   (fun v4 => bindO (iter K (F18_b0 K) (v4.1, true, v4.2)) fun v5 =>
   some v5)
def ct18 (K : Nat) : Ct := ⟨[.l (.v .s)], [], [.l (.v (.l .s))], [], [], F18 K⟩
theorem c18 (K : Nat) : CtOk prog 18 (ct18 K) :=
  con_mk (Y := Y) (L := [(34, ct34 K), (32, ct32 K)]) (K := K) (an := (.seq .no (.seq .no (.seqJ [(1000000, ⟨(.l (.v .s) :: ru 2 (.l (.all 8000) :: ru 25 [])), [(8000, ⟨1, true, .row .s⟩)]⟩)] true (.seqJ [(1000000, ⟨(.l (.v .s) :: ru 2 (.l (.all 8000) :: ru 10 (.l (.v .b) :: ru 14 []))), [(8000, ⟨1, true, .row .s⟩)]⟩)] false .no (.cond .no .no)) (.seq .no (.seq (.seq .no (.blk (.loop [] ⟨(ru 3 (.l (.all 8000) :: .l (.v .s) :: .l (.v .b) :: ru 23 [])), [(8000, ⟨1, true, .row .s⟩)]⟩ [(0, ⟨(ru 3 (.l (.all 8000) :: ru 25 [])), [(8000, ⟨1, true, .row .s⟩)]⟩)] false (.seq (.seq .no .no) (.blk (.seq .no .no)))))) .no)))))) func18 mixed (ctabOk_cons (c34 K) (ctabOk_cons (c32 K) ctabOk_nil)) (by kernel_rfl) fun x => by kernel_rfl
-- loop.example/g00460/spec.l8Fill
def F68_b0 (K : Nat) (x : (List UInt8) × (List (List UInt8)) × (List UInt8) × Int) : Option (((List UInt8) × (List (List UInt8)) × (List UInt8) × Int) ⊕ (List UInt8)) :=
  branch (decide (x.2.2.2 < (x.1.length : Int)))
   (bindO (α := ((List UInt8) × (List (List UInt8)) × (List UInt8) × Int) ⊕ ((List UInt8) × (List (List UInt8)) × (List UInt8) × Int)) (bindO (α := (List UInt8) × (List (List UInt8)) × (List UInt8) × Int × Bool) (nth x.1 x.2.2.2 fun v0 =>
       branch (decide ((v0.toNat : Int) = 92))
        (branch (decide ((w64 (x.2.2.2 + 1)) < (x.1.length : Int)))
         (nth x.1 (w64 (x.2.2.2 + 1)) fun v1 =>
         branch (decide (49 ≤ (v1.toNat : Int)))
          (nth x.1 (w64 (x.2.2.2 + 1)) fun v2 =>
          some (x.1, x.2.1, x.2.2.1, x.2.2.2, decide ((v2.toNat : Int) ≤ 57)))
          (some (x.1, x.2.1, x.2.2.1, x.2.2.2, false)))
         (some (x.1, x.2.1, x.2.2.1, x.2.2.2, false)))
        (some (x.1, x.2.1, x.2.2.1, x.2.2.2, false))) fun v3 =>
     branch v3.2.2.2.2
      (nth v3.1 (w64 (v3.2.2.2.1 + 1)) fun v4 =>
      branch (decide ((w64 (w8 ((v4.toNat : Int) - 49))) < (v3.2.1.length : Int)))
       (nth v3.2.1 (w64 (w8 ((v4.toNat : Int) - 49))) fun v5 =>
       guard (decide ((v3.2.2.1.length + v5.length) ≤ 9223372036854775807)) <|
       some (.inr (v3.1, v3.2.1, v3.2.2.1 ++ v5, w64 (v3.2.2.2.1 + 1))))
       (some (.inr (v3.1, v3.2.1, v3.2.2.1, w64 (v3.2.2.2.1 + 1)))))
      (some (.inl (v3.1, v3.2.1, v3.2.2.1, v3.2.2.2.1)))) fun v6 =>
   csO v6
    (fun v7 => guard (decide (0 ≤ v7.2.2.2 ∧ v7.2.2.2 ≤ (w64 (v7.2.2.2 + 1)) ∧ (w64 (v7.2.2.2 + 1)) ≤ (v7.1.length : Int))) <|
    guard (decide ((v7.2.2.1.length + ((subL v7.1 v7.2.2.2 (w64 (v7.2.2.2 + 1))).length)) ≤ 9223372036854775807)) <|
    some (.inl (v7.1, v7.2.1, v7.2.2.1 ++ (subL v7.1 v7.2.2.2 (w64 (v7.2.2.2 + 1))), w64 (v7.2.2.2 + 1))))
    (fun v8 => some (.inl (v8.1, v8.2.1, v8.2.2.1, w64 (v8.2.2.2 + 1)))))
   (some (.inr x.2.2.1))
def F68 (K : Nat) (x : (List UInt8) × List (List UInt8)) : Option ((List UInt8) × Bool) :=
  bindO (iter K (F68_b0 K) (x.1, x.2, [], 0)) fun v0 =>
  some (v0, decide ((v0.length : Int) ≤ 80))
def ct68 (K : Nat) : Ct := ⟨[.l (.v .s), .l (.v (.l .s))], [], [.l (.v .s), .l (.v .b)], [], [], F68 K⟩
theorem c68 (K : Nat) : CtOk prog 68 (ct68 K) :=
  con_mk (Y := Y) (L := []) (K := K) (an := (.seq .no (.seq .no (.seq (.seq .no (.blk (.loop [] ⟨(.l (.v .s) :: .l (.v (.l .s)) :: ru 4 (.l (.v .s) :: .l (.v (.i .i64)) :: ru 61 [])), []⟩ [(0, ⟨(ru 6 (.l (.v .s) :: ru 62 [])), []⟩)] false (.seq (.seq .no .no) (.seq (.blk (.seqJ [(1000000, ⟨(.l (.v .s) :: .l (.v (.l .s)) :: ru 4 (.l (.v .s) :: .l (.v (.i .i64)) :: ru 61 [])), []⟩), (1, ⟨(.l (.v .s) :: .l (.v (.l .s)) :: ru 4 (.l (.v .s) :: .l (.v (.i .i64)) :: ru 61 [])), []⟩)] false (.seqJ [(1000000, ⟨(.l (.v .s) :: .l (.v (.l .s)) :: ru 4 (.l (.v .s) :: .l (.v (.i .i64)) :: ru 31 (.l (.v .b) :: ru 29 []))), []⟩)] false .no (.cond (.seq .no (.seq (.seq .no .no) .no)) .no)) .no)) .no))))) .no)))) func68 mixed ctabOk_nil (by kernel_rfl) fun x => by kernel_rfl
-- strings.trimRightByte
def F117_b0 (K : Nat) (x : (List UInt8) × Int) : Option (((List UInt8) × Int) ⊕ (List UInt8)) :=
  bindO (α := ((List UInt8) × Int) ⊕ (List UInt8)) (branch (decide (0 < (x.1.length : Int)))
     (nth x.1 (w64 ((x.1.length : Int) - 1)) fun v0 =>
     branch (decide ((v0.toNat : Int) = x.2))
      (some (.inl x))
      (some (.inr x.1)))
     (some (.inr x.1))) fun v1 =>
  csO v1
   (fun v2 => guard (decide (0 ≤ (w64 ((v2.1.length : Int) - 1)) ∧ (w64 ((v2.1.length : Int) - 1)) ≤ (v2.1.length : Int))) <|
   some (.inl (tkL v2.1 (w64 ((v2.1.length : Int) - 1)), v2.2)))
   (fun v3 => some (.inr v3))
def F117 (K : Nat) (x : (List UInt8) × Int) : Option (List UInt8) :=
  bindO (iter K (F117_b0 K) x) fun v0 =>
  some v0
def ct117 (K : Nat) : Ct := ⟨[.l (.v .s), .l (.v (.i .u8))], [], [.l (.v .s)], [], [], F117 K⟩
theorem c117 (K : Nat) : CtOk prog 117 (ct117 K) :=
  con_mk (Y := Y) (L := []) (K := K) (an := (.seq .no (.seq (.blk (.loop [] ⟨(.l (.v .s) :: .l (.v (.i .u8)) :: ru 21 []), []⟩ [(0, ⟨(.l (.v .s) :: ru 22 []), []⟩)] false (.seqJ [(1000000, ⟨(.l (.v .s) :: .l (.v (.i .u8)) :: ru 21 []), []⟩), (0, ⟨(.l (.v .s) :: ru 22 []), []⟩)] false (.seq .no .no) .no))) .no))) func117 mixed ctabOk_nil (by kernel_rfl) fun x => by kernel_rfl
-- strings.trimLeftByte
def F116_b0 (K : Nat) (x : (List UInt8) × Int) : Option (((List UInt8) × Int) ⊕ (List UInt8)) :=
  branch (decide (0 < (x.1.length : Int)))
   (nth x.1 0 fun v0 =>
   branch (decide ((v0.toNat : Int) = x.2))
    (guard (decide ((0 : Int) ≤ 1 ∧ 1 ≤ (x.1.length : Int))) <|
    some (.inl (dpL x.1 1, x.2)))
    (some (.inr x.1)))
   (some (.inr x.1))
def F116 (K : Nat) (x : (List UInt8) × Int) : Option (List UInt8) :=
  bindO (iter K (F116_b0 K) x) fun v0 =>
  some v0
def ct116 (K : Nat) : Ct := ⟨[.l (.v .s), .l (.v (.i .u8))], [], [.l (.v .s)], [], [], F116 K⟩
theorem c116 (K : Nat) : CtOk prog 116 (ct116 K) :=
  con_mk (Y := Y) (L := []) (K := K) (an := (.seq .no (.seq (.blk (.loop [] ⟨(.l (.v .s) :: .l (.v (.i .u8)) :: ru 15 []), []⟩ [(0, ⟨(.l (.v .s) :: ru 16 []), []⟩)] false (.seq (.seq .no .no) .no))) .no))) func116 mixed ctabOk_nil (by kernel_rfl) fun x => by kernel_rfl
-- strings.Trim
def F95 (K : Nat) (x : (List UInt8) × List UInt8) : Option (List UInt8) :=
  bindO (α := (List UInt8) ⊕ ((List UInt8) × List UInt8)) (bindO (α := (List UInt8) × (List UInt8) × Bool) (branch (decide (x.1 = []))
       (some (x.1, x.2, true))
       (some (x.1, x.2, decide (x.2 = [])))) fun v0 =>
    branch v0.2.2
     (some (.inl v0.1))
     (some (.inr (v0.1, v0.2.1)))) fun v1 =>
  csO v1
   (fun v2 => some v2)
   (fun v3 => bindO (α := (List UInt8) ⊕ ((List UInt8) × List UInt8)) (bindO (α := (List UInt8) × (List UInt8) × Bool) (branch (decide ((v3.2.length : Int) = 1))
        (nth v3.2 0 fun v4 =>
        some (v3.1, v3.2, decide ((v4.toNat : Int) < 128)))
        (some (v3.1, v3.2, false))) fun v5 =>
     branch v5.2.2
      (nth v5.2.1 0 fun v6 =>
      bindO (F117 K (v5.1, (v6.toNat : Int))) fun v7 =>
      nth v5.2.1 0 fun v8 =>
      bindO (F116 K (v7, (v8.toNat : Int))) fun v9 =>
      some (.inl v9))
      (some (.inr (v5.1, v5.2.1)))) fun v10 =>
   csO v10
    (fun v11 => some v11)
    (fun v12 => none))
def ct95 (K : Nat) : Ct := ⟨[.l (.v .s), .l (.v .s)], [], [.l (.v .s)], [], [], F95 K⟩
theorem c95 (K : Nat) : CtOk prog 95 (ct95 K) :=
  con_mk (Y := Y) (L := [(117, ct117 K), (116, ct116 K)]) (K := K) (an := (.seq .no (.seqJ [(1000000, ⟨(.l (.v .s) :: .l (.v .s) :: ru 41 []), []⟩)] true (.seqJ [(1000000, ⟨(.l (.v .s) :: .l (.v .s) :: ru 10 (.l (.v .b) :: ru 30 [])), []⟩)] false .no (.cond .no .no)) (.seqJ [(1000000, ⟨(.l (.v .s) :: .l (.v .s) :: ru 41 []), []⟩)] true (.seqJ [(1000000, ⟨(.l (.v .s) :: .l (.v .s) :: ru 19 (.l (.v .b) :: ru 21 [])), []⟩)] false .no (.cond .no .no)) (.seq (.seq .no (.seq .no (.cond .no .no))) .no))))) func95 mixed (ctabOk_cons (c117 K) (ctabOk_cons (c116 K) ctabOk_nil)) (by kernel_rfl) fun x => by kernel_rfl
-- loop.example/g00460/impl.trimmed
def F82 (K : Nat) (x : List UInt8) : Option (List UInt8) :=
  bindO (F95 K (x, ([32] : List UInt8))) fun v0 =>
  some v0
def ct82 (K : Nat) : Ct := ⟨[.l (.v .s)], [], [.l (.v .s)], [], [], F82 K⟩
theorem c82 (K : Nat) : CtOk prog 82 (ct82 K) :=
  con_mk (Y := Y) (L := [(95, ct95 K)]) (K := K) (an := (.seq .no .no)) func82 mixed (ctabOk_cons (c95 K) ctabOk_nil) (by kernel_rfl) fun x => by kernel_rfl
-- loop.example/g00460/impl.within
def F72 (K : Nat) (x : Int × Int × Int) : Option (Bool) :=
  branch (decide (x.2.1 ≤ x.1))
   (some (decide (x.1 ≤ x.2.2)))
   (some false)
def ct72 (K : Nat) : Ct := ⟨[.l (.v (.i .i64)), .l (.v (.i .i64)), .l (.v (.i .i64))], [], [.l (.v .b)], [], [], F72 K⟩
theorem c72 (K : Nat) : CtOk prog 72 (ct72 K) :=
  con_mk (Y := Y) (L := []) (K := K) (an := (.seq .no .no)) func72 mixed ctabOk_nil (by kernel_rfl) fun x => by kernel_rfl
-- loop.example/g00460/impl.isDigit
def F74 (K : Nat) (x : Int) : Option (Bool) :=
  branch (decide (48 ≤ x))
   (some (decide (x ≤ 57)))
   (some false)
def ct74 (K : Nat) : Ct := ⟨[.l (.v (.i .u8))], [], [.l (.v .b)], [], [], F74 K⟩
theorem c74 (K : Nat) : CtOk prog 74 (ct74 K) :=
  con_mk (Y := Y) (L := []) (K := K) (an := (.seq .no .no)) func74 mixed ctabOk_nil (by kernel_rfl) fun x => by kernel_rfl
-- loop.example/g00460/impl.isSmall
def F75 (K : Nat) (x : Int) : Option (Bool) :=
  branch (decide (97 ≤ x))
   (some (decide (x ≤ 122)))
   (some false)
def ct75 (K : Nat) : Ct := ⟨[.l (.v (.i .u8))], [], [.l (.v .b)], [], [], F75 K⟩
theorem c75 (K : Nat) : CtOk prog 75 (ct75 K) :=
  con_mk (Y := Y) (L := []) (K := K) (an := (.seq .no .no)) func75 mixed ctabOk_nil (by kernel_rfl) fun x => by kernel_rfl
-- loop.example/g00460/impl.NameOk
def F53_b0 (K : Nat) (x : (List UInt8) × Int × Int) : Option (((List UInt8) × Int × Int) ⊕ (Bool ⊕ Unit)) :=
  branch (decide (x.2.2 < x.2.1))
   (bindO (α := (List UInt8) × Int × Int × Bool) (nth x.1 x.2.2 fun v0 =>
     bindO (F75 K (v0.toNat : Int)) fun v1 =>
     branch (!v1)
      (nth x.1 x.2.2 fun v2 =>
      bindO (F74 K (v2.toNat : Int)) fun v3 =>
      branch (!v3)
       (nth x.1 x.2.2 fun v4 =>
       branch (!(decide ((v4.toNat : Int) = 95)))
        (nth x.1 x.2.2 fun v5 =>
        some (x.1, x.2.1, x.2.2, !(decide ((v5.toNat : Int) = 46))))
        (some (x.1, x.2.1, x.2.2, false)))
       (some (x.1, x.2.1, x.2.2, false)))
      (some (x.1, x.2.1, x.2.2, false))) fun v6 =>
   branch v6.2.2.2
    (some (.inr (.inl false)))
    (some (.inl (v6.1, v6.2.1, w64 (v6.2.2.1 + 1)))))
   (some (.inr (.inr ())))
def F53 (K : Nat) (x : List UInt8) : Option (Bool) :=
  bindO (α := Bool ⊕ (List UInt8)) (bindO (α := (List UInt8) × Bool) (bindO (F72 K ((x.length : Int), 1, 16)) fun v0 =>
      branch (!v0)
       (some (x, true))
       (nth x 0 fun v1 =>
       bindO (F74 K (v1.toNat : Int)) fun v2 =>
       some (x, v2))) fun v3 =>
    branch v3.2
     (some (.inl false))
     (some (.inr v3.1))) fun v4 =>
  csO v4
   (fun v5 => some v5)
   (fun v6 => bindO (iter K (F53_b0 K) (v6, (v6.length : Int), 0)) fun v7 =>
   csO v7
    (fun v8 => some v8)
    (fun v9 => some true))
def ct53 (K : Nat) : Ct := ⟨[.l (.v .s)], [], [.l (.v .b)], [], [], F53 K⟩
theorem c53 (K : Nat) : CtOk prog 53 (ct53 K) :=
  con_mk (Y := Y) (L := [(72, ct72 K), (74, ct74 K), (75, ct75 K)]) (K := K) (an := (.seq .no (.seqJ [(1000000, ⟨(.l (.v .s) :: ru 42 []), []⟩)] true (.seqJ [(1000000, ⟨(.l (.v .s) :: ru 11 (.l (.v .b) :: ru 30 [])), []⟩)] false .no (.cond .no .no)) (.seq (.seq .no (.blk (.loop [] ⟨(.l (.v .s) :: ru 13 (.l (.v (.i .i64)) :: .l (.v (.i .i64)) :: ru 27 [])), []⟩ [(0, ⟨(ru 43 []), []⟩)] true (.seq .no (.seq .no (.seq (.blk (.seq .no (.seqJ [(1000000, ⟨(.l (.v .s) :: ru 13 (.l (.v (.i .i64)) :: .l (.v (.i .i64)) :: ru 25 (.l (.v .b) :: ru 1 []))), []⟩)] false .no (.cond .no .no)))) .no)))))) .no)))) func53 mixed (ctabOk_cons (c72 K) (ctabOk_cons (c74 K) (ctabOk_cons (c75 K) ctabOk_nil))) (by kernel_rfl) fun x => by kernel_rfl
-- loop.example/g00460/impl.tidied$1
def F87 (K : Nat) (x : List UInt8) : Option (Bool) :=
  some (decide (x = []))
def ct87 (K : Nat) : Ct := ⟨[.l (.v .s)], [], [.l (.v .b)], [], [], F87 K⟩
theorem c87 (K : Nat) : CtOk prog 87 (ct87 K) :=
  con_mk (Y := Y) (L := []) (K := K) (an := (.seq .no .no)) func87 mixed ctabOk_nil (by kernel_rfl) fun x => by kernel_rfl
-- strings.ReplaceAll
def F88 (K : Nat) (x : (List UInt8) × (List UInt8) × List UInt8) : Option (List UInt8) :=
  bindO (F103 K (x.1, x.2.1, x.2.2, (-1))) fun v0 =>
  some v0
def ct88 (K : Nat) : Ct := ⟨[.l (.v .s), .l (.v .s), .l (.v .s)], [], [.l (.v .s)], [], [], F88 K⟩
theorem c88 (K : Nat) : CtOk prog 88 (ct88 K) :=
  con_mk (Y := Y) (L := [(103, ct103 K)]) (K := K) (an := (.seq .no .no)) func88 mixed (ctabOk_cons (c103 K) ctabOk_nil) (by kernel_rfl) fun x => by kernel_rfl
-- loop.example/g00460/impl.tidied
def F76 (K : Nat) (x : List UInt8) : Option (List UInt8) :=
  bindO (F85 K (x, ([32] : List UInt8))) fun v0 =>
  bindO (F86 K v0) fun v1 =>
  bindO (F56 K (v1, ([32] : List UInt8))) fun v2 =>
  bindO (F88 K (v2, ([32, 44] : List UInt8), ([44] : List UInt8))) fun v3 =>
  bindO (F88 K (v3, ([44, 32] : List UInt8), ([44] : List UInt8))) fun v4 =>
  some v4
def ct76 (K : Nat) : Ct := ⟨[.l (.v .s)], [], [.l (.v .s)], [], [], F76 K⟩
theorem c76 (K : Nat) : CtOk prog 76 (ct76 K) :=
  con_mk (Y := Y) (L := [(56, ct56 K), (85, ct85 K), (86, ct86 K), (87, ct87 K), (88, ct88 K)]) (K := K) (an := (.seq .no (.seq .no (.seq .no (.seq .no .no))))) func76 mixed (ctabOk_cons (c56 K) (ctabOk_cons (c85 K) (ctabOk_cons (c86 K) (ctabOk_cons (c87 K) (ctabOk_cons (c88 K) ctabOk_nil))))) (by kernel_rfl) fun x => by kernel_rfl
-- loop.example/g00460/impl.isOp
def F54_b0 (K : Nat) (x : (List UInt8) × Int × Int × Int) : Option (((List UInt8) × Int × Int × Int) ⊕ (Bool ⊕ ((List UInt8) × Int))) :=
  branch (decide (x.2.2.2 < x.2.2.1))
   (nth x.1 x.2.2.2 fun v0 =>
   bindO (F75 K (v0.toNat : Int)) fun v1 =>
   branch (!v1)
    (some (.inr (.inl false)))
    (some (.inl (x.1, x.2.1, x.2.2.1, w64 (x.2.2.2 + 1)))))
   (some (.inr (.inr (x.1, x.2.1))))
def F54 (K : Nat) (x : (List UInt8) × Int) : Option (Bool) :=
  bindO (iter K (F54_b0 K) (x.1, x.2, (x.1.length : Int), 0)) fun v0 =>
  csO v0
   (fun v1 => some v1)
   (fun v2 => some (decide ((v2.1.length : Int) ≤ v2.2)))
def ct54 (K : Nat) : Ct := ⟨[.l (.v .s), .l (.v (.i .i64))], [], [.l (.v .b)], [], [], F54 K⟩
theorem c54 (K : Nat) : CtOk prog 54 (ct54 K) :=
  con_mk (Y := Y) (L := [(75, ct75 K)]) (K := K) (an := (.seq .no (.seq (.seq .no (.blk (.loop [] ⟨(.l (.v .s) :: .l (.v (.i .i64)) :: ru 5 (.l (.v (.i .i64)) :: .l (.v (.i .i64)) :: ru 12 [])), []⟩ [(0, ⟨(.l (.v .s) :: .l (.v (.i .i64)) :: ru 19 []), []⟩)] true (.seq .no (.seq .no (.seq (.blk (.seq .no (.seq .no (.cond .no .no)))) .no)))))) .no))) func54 mixed (ctabOk_cons (c75 K) ctabOk_nil) (by kernel_rfl) fun x => by kernel_rfl
-- loop.example/g00460/impl.areArgs
def F55_b0 (K : Nat) (x : (List UInt8) × Int × Int) : Option (((List UInt8) × Int × Int) ⊕ (Bool ⊕ (List UInt8))) :=
  branch (decide (x.2.2 < x.2.1))
   (bindO (α := (List UInt8) × Int × Int × Bool) (nth x.1 x.2.2 fun v0 =>
     branch (decide ((v0.toNat : Int) < 32))
      (some (x.1, x.2.1, x.2.2, true))
      (nth x.1 x.2.2 fun v1 =>
      branch (decide (126 < (v1.toNat : Int)))
       (some (x.1, x.2.1, x.2.2, true))
       (nth x.1 x.2.2 fun v2 =>
       some (x.1, x.2.1, x.2.2, decide ((v2.toNat : Int) = 59))))) fun v3 =>
   branch v3.2.2.2
    (some (.inr (.inl false)))
    (some (.inl (v3.1, v3.2.1, w64 (v3.2.2.1 + 1)))))
   (some (.inr (.inr x.1)))
def F55 (K : Nat) (x : List UInt8) : Option (Bool) :=
  bindO (iter K (F55_b0 K) (x, (x.length : Int), 0)) fun v0 =>
  csO v0
   (fun v1 => some v1)
   (fun v2 => bindO (F76 K v2) fun v3 =>
   some (decide (v3 = v2)))
def ct55 (K : Nat) : Ct := ⟨[.l (.v .s)], [], [.l (.v .b)], [], [], F55 K⟩
theorem c55 (K : Nat) : CtOk prog 55 (ct55 K) :=
  con_mk (Y := Y) (L := [(76, ct76 K)]) (K := K) (an := (.seq .no (.seq (.seq .no (.blk (.loop [] ⟨(.l (.v .s) :: ru 4 (.l (.v (.i .i64)) :: .l (.v (.i .i64)) :: ru 23 [])), []⟩ [(0, ⟨(.l (.v .s) :: ru 29 []), []⟩)] true (.seq .no (.seq .no (.seq (.blk (.seq .no (.seqJ [(1000000, ⟨(.l (.v .s) :: ru 4 (.l (.v (.i .i64)) :: .l (.v (.i .i64)) :: ru 17 (.l (.v .b) :: ru 5 []))), []⟩)] false .no (.cond .no .no)))) .no)))))) .no))) func55 mixed (ctabOk_cons (c76 K) ctabOk_nil) (by kernel_rfl) fun x => by kernel_rfl
-- loop.example/g00460/impl.lineText
def F36 (K : Nat) (x : (List UInt8) × (List UInt8) × List UInt8) : Option (List UInt8) :=
  bindO (α := (List (List UInt8)) × (List UInt8) × (List UInt8) × List UInt8) (branch (!(decide (x.1 = [])))
     (guard (decide ((x.1.length + 1) ≤ 9223372036854775807)) <|
     some ([] ++ [x.1 ++ ([58] : List UInt8)], x))
     (some ([], x))) fun v0 =>
  bindO (α := (List (List UInt8)) × (List UInt8) × (List UInt8) × List UInt8) (branch (!(decide (v0.2.2.1 = [])))
     (guard (fitN (v0.1.length + [v0.2.2.1].length) 16) <|
     some (v0.1 ++ [v0.2.2.1], v0.2))
     (some v0)) fun v1 =>
  branch (!(decide (v1.2.2.2 = [])))
   (guard (fitN (v1.1.length + [v1.2.2.2].length) 16) <|
   bindO (F56 K (v1.1 ++ [v1.2.2.2], ([32] : List UInt8))) fun v2 =>
   some v2)
   (bindO (F56 K (v1.1, ([32] : List UInt8))) fun v3 =>
   some v3)
def ct36 (K : Nat) : Ct := ⟨[.agg [(.v .s), (.v .s), (.v .s)]], [], [.l (.v .s)], [], [], F36 K⟩
theorem c36 (K : Nat) : CtOk prog 36 (ct36 K) :=
  con_mk (Y := Y) (L := [(56, ct56 K)]) (K := K) (an := (.seq .no (.seq .no (.seqJ [(1000000, ⟨(ru 1 (.l (.ptr 2000 0 0) :: ru 1 (.l (.all 5000) :: ru 28 []))), [(5000, ⟨1, true, .row .s⟩), (2000, ⟨3, false, .mix (some 34) [[.l (.v .s), .l (.v .s), .l (.v .s)]]⟩)]⟩)] false (.seq .no .no) (.seqJ [(1000000, ⟨(ru 1 (.l (.ptr 2000 0 0) :: ru 1 (.l (.all 5000) :: ru 28 []))), [(5000, ⟨1, true, .row .s⟩), (2000, ⟨3, false, .mix (some 34) [[.l (.v .s), .l (.v .s), .l (.v .s)]]⟩)]⟩)] false (.seq .no .no) (.seq (.seq .no .no) .no)))))) func36 mixed (ctabOk_cons (c56 K) ctabOk_nil) (by kernel_rfl) fun x => by kernel_rfl
-- loop.example/g00460/impl.LineOk
def F35 (K : Nat) (x : (List UInt8) × (List UInt8) × List UInt8) : Option (Bool) :=
  bindO (α := Bool ⊕ ((List UInt8) × (List UInt8) × List UInt8)) (bindO (α := Bool × (List UInt8) × (List UInt8) × List UInt8) (branch (!(decide (x.1 = [])))
       (bindO (F53 K x.1) fun v0 =>
       branch (!v0)
        (some (true, x))
        (bindO (F54 K (x.2.1, 10)) fun v1 =>
        branch (!v1)
         (some (true, x))
         (branch (decide (80 < (x.2.2.length : Int)))
          (some (true, x))
          (bindO (F55 K x.2.2) fun v2 =>
          branch (!v2)
           (some (true, x))
           (branch (decide (x.2.1 = []))
            (some (!(decide (x.2.2 = [])), x))
            (some (false, x)))))))
       (bindO (F54 K (x.2.1, 10)) fun v3 =>
       branch (!v3)
        (some (true, x))
        (branch (decide (80 < (x.2.2.length : Int)))
         (some (true, x))
         (bindO (F55 K x.2.2) fun v4 =>
         branch (!v4)
          (some (true, x))
          (branch (decide (x.2.1 = []))
           (some (!(decide (x.2.2 = [])), x))
           (some (false, x))))))) fun v5 =>
    branch v5.1
     (some (.inl false))
     (some (.inr v5.2))) fun v6 =>
  csO v6
   (fun v7 => some v7)
   (fun v8 => bindO (F36 K v8) fun v9 =>
   some (decide ((v9.length : Int) ≤ 80)))
def ct35 (K : Nat) : Ct := ⟨[.agg [(.v .s), (.v .s), (.v .s)]], [], [.l (.v .b)], [], [], F35 K⟩
theorem c35 (K : Nat) : CtOk prog 35 (ct35 K) :=
  con_mk (Y := Y) (L := [(53, ct53 K), (54, ct54 K), (55, ct55 K), (36, ct36 K)]) (K := K) (an := (.seq .no (.seqJ [(1000000, ⟨(ru 1 (.l (.ptr 2000 0 0) :: ru 42 [])), [(2000, ⟨3, false, .mix (some 34) [[.l (.v .s), .l (.v .s), .l (.v .s)]]⟩)]⟩)] true (.seqJ [(1000000, ⟨(ru 1 (.l (.ptr 2000 0 0) :: ru 37 (.l (.v .b) :: ru 4 []))), [(2000, ⟨3, false, .mix (some 34) [[.l (.v .s), .l (.v .s), .l (.v .s)]]⟩)]⟩)] false .no (.cond .no .no)) .no))) func35 mixed (ctabOk_cons (c53 K) (ctabOk_cons (c54 K) (ctabOk_cons (c55 K) (ctabOk_cons (c36 K) ctabOk_nil)))) (by kernel_rfl) fun x => by kernel_rfl
-- loop.example/g00460/impl.ReadLine
def F69 (K : Nat) (x : List UInt8) : Option ((List UInt8) × (List UInt8) × (List UInt8) × Bool) :=
  branch (decide (240 < (x.length : Int)))
   (some ([], [], [], false))
   (bindO (F81 K (x, ([59] : List UInt8))) fun v0 =>
   bindO (F82 K v0.1) fun v1 =>
   bindO (α := (List UInt8) × (List UInt8) × (List UInt8) × (List UInt8) × (List UInt8) × (List UInt8) × List UInt8) (bindO (F81 K (v1, ([58] : List UInt8))) fun v2 =>
     bindO (α := (List UInt8) × (List UInt8) × (List UInt8) × Bool × (List UInt8) × (List UInt8) × (List UInt8) × (List UInt8) × (List UInt8) × List UInt8) (branch v2.2.2
        (bindO (F82 K v2.1) fun v3 =>
        bindO (F53 K v3) fun v4 =>
        some (v1, v2.1, v2.2.1, v4, [], [], [], [], [], []))
        (some (v1, v2.1, v2.2.1, false, [], [], [], [], [], []))) fun v5 =>
     branch v5.2.2.2.1
      (bindO (F82 K v5.2.1) fun v6 =>
      bindO (F82 K v5.2.2.1) fun v7 =>
      some (v7, v6, v5.2.2.2.2.2))
      (some (v5.1, v5.2.2.2.2))) fun v8 =>
   bindO (F81 K (v8.1, ([32] : List UInt8))) fun v9 =>
   bindO (F76 K v9.2.1) fun v10 =>
   bindO (F35 K (v8.2.1, v9.1, v10)) fun v11 =>
   branch (!v11)
    (some ([], [], [], false))
    (some (v8.2.1, v9.1, v10, true)))
def ct69 (K : Nat) : Ct := ⟨[.l (.v .s)], [], [.agg [(.v .s), (.v .s), (.v .s)], .l (.v .b)], [], [], F69 K⟩
theorem c69 (K : Nat) : CtOk prog 69 (ct69 K) :=
  con_mk (Y := Y) (L := [(81, ct81 K), (82, ct82 K), (53, ct53 K), (76, ct76 K), (35, ct35 K)]) (K := K) (an := (.seq .no (.seq (.seq .no (.cond .no .no)) (.seq .no (.seq .no (.seq .no (.seqJ [(1000000, ⟨(ru 2 (.l (.ptr 3000 0 0) :: ru 1 (.l (.v .s) :: .l (.ptr 6000 0 0) :: ru 52 []))), [(6000, ⟨3, false, .mix (some 34) [[.l (.v .s), .l (.v .s), .l (.v .s)]]⟩), (3000, ⟨3, false, .mix (some 34) [[.l (.v .s), .l (.v .s), .l (.v .s)]]⟩)]⟩)] false (.seq .no (.seqJ [(1000000, ⟨(ru 2 (.l (.ptr 3000 0 0) :: ru 1 (.l (.v .s) :: .l (.ptr 6000 0 0) :: .l (.v .s) :: .l (.v .s) :: ru 28 (.l (.v .b) :: ru 21 [])))), [(6000, ⟨3, false, .mix (some 34) [[.l (.v .s), .l (.v .s), .l (.v .s)]]⟩), (3000, ⟨3, false, .mix (some 34) [[.l (.v .s), .l (.v .s), .l (.v .s)]]⟩)]⟩)] false .no (.cond .no .no))) (.seq .no (.seq .no (.seq (.seq .no (.cond .no .no)) .no)))))))))) func69 mixed (ctabOk_cons (c81 K) (ctabOk_cons (c82 K) (ctabOk_cons (c53 K) (ctabOk_cons (c76 K) (ctabOk_cons (c35 K) ctabOk_nil))))) (by kernel_rfl) fun x => by kernel_rfl
-- loop.example/g00460/impl.opOf
def F45 (K : Nat) (x : List UInt8) : Option ((List UInt8) × (List UInt8) × List UInt8) :=
  bindO (F69 K x) fun v0 =>
  some (v0.1, v0.2.1, v0.2.2.1)
def ct45 (K : Nat) : Ct := ⟨[.l (.v .s)], [], [.agg [(.v .s), (.v .s), (.v .s)]], [], [], F45 K⟩
theorem c45 (K : Nat) : CtOk prog 45 (ct45 K) :=
  con_mk (Y := Y) (L := [(69, ct69 K)]) (K := K) (an := (.seq .no (.seq .no .no))) func45 mixed (ctabOk_cons (c69 K) ctabOk_nil) (by kernel_rfl) fun x => by kernel_rfl
-- loop.example/g00460/impl.opens
def F46 (K : Nat) (x : List UInt8) : Option (Bool) :=
  branch (decide (x = ([109, 97, 99, 114, 111] : List UInt8)))
   (some true)
   (branch (decide (x = ([114, 101, 112, 116] : List UInt8)))
    (some true)
    (some (decide (x = ([105, 102] : List UInt8)))))
def ct46 (K : Nat) : Ct := ⟨[.l (.v .s)], [], [.l (.v .b)], [], [], F46 K⟩
theorem c46 (K : Nat) : CtOk prog 46 (ct46 K) :=
  con_mk (Y := Y) (L := []) (K := K) (an := (.seq .no .no)) func46 mixed ctabOk_nil (by kernel_rfl) fun x => by kernel_rfl
-- loop.example/g00460/impl.closes
def F48 (K : Nat) (x : List UInt8) : Option (Bool) :=
  branch (decide (x = ([101, 110, 100, 109] : List UInt8)))
   (some true)
   (branch (decide (x = ([101, 110, 100, 114] : List UInt8)))
    (some true)
    (some (decide (x = ([101, 110, 100, 99] : List UInt8)))))
def ct48 (K : Nat) : Ct := ⟨[.l (.v .s)], [], [.l (.v .b)], [], [], F48 K⟩
theorem c48 (K : Nat) : CtOk prog 48 (ct48 K) :=
  con_mk (Y := Y) (L := []) (K := K) (an := (.seq .no .no)) func48 mixed ctabOk_nil (by kernel_rfl) fun x => by kernel_rfl
-- loop.example/g00460/impl.endOf
def F70_b0 (K : Nat) (x : (List (List UInt8)) × Int × Int × Int) : Option (((List (List UInt8)) × Int × Int × Int) ⊕ ((Int × Int) ⊕ Unit)) :=
  branch (decide (x.2.2.2 < (x.1.length : Int)))
   (nth x.1 x.2.2.2 fun v0 =>
   bindO (F45 K v0) fun v1 =>
   bindO (F46 K v1.2.1) fun v2 =>
   branch v2
    (some (.inl (x.1, w64 (x.2.1 + 1), x.2.2.1, w64 (x.2.2.2 + 1))))
    (bindO (F48 K v1.2.1) fun v3 =>
    branch v3
     (branch (decide ((w64 (x.2.1 - 1)) = 0))
      (some (.inr (.inl (x.2.2.2, x.2.2.1))))
      (some (.inl (x.1, w64 (x.2.1 - 1), x.2.2.1, w64 (x.2.2.2 + 1)))))
     (bindO (α := (List (List UInt8)) × Int × Int × Int × Bool) (branch (decide (v1.2.1 = ([101, 108, 115, 101] : List UInt8)))
        (branch (decide (x.2.1 = 1))
         (some (x.1, x.2.1, x.2.2.1, x.2.2.2, decide (x.2.2.1 < 0)))
         (some (x.1, x.2.1, x.2.2.1, x.2.2.2, false)))
        (some (x.1, x.2.1, x.2.2.1, x.2.2.2, false))) fun v4 =>
     branch v4.2.2.2.2
      (some (.inl (v4.1, v4.2.1, v4.2.2.2.1, w64 (v4.2.2.2.1 + 1))))
      (some (.inl (v4.1, v4.2.1, v4.2.2.1, w64 (v4.2.2.2.1 + 1)))))))
   (some (.inr (.inr ())))
def F70 (K : Nat) (x : (List (List UInt8)) × Int) : Option (Int × Int) :=
  bindO (iter K (F70_b0 K) (x.1, 0, (-1), x.2)) fun v0 =>
  csO v0
   (fun v1 => some v1)
   (fun v2 => some ((-1), (-1)))
def ct70 (K : Nat) : Ct := ⟨[.l (.v (.l .s)), .l (.v (.i .i64))], [], [.l (.v (.i .i64)), .l (.v (.i .i64))], [], [], F70 K⟩
theorem c70 (K : Nat) : CtOk prog 70 (ct70 K) :=
  con_mk (Y := Y) (L := [(45, ct45 K), (46, ct46 K), (48, ct48 K)]) (K := K) (an := (.seq .no (.seq .no (.seq (.seq .no (.blk (.loop [] ⟨(.l (.v (.l .s)) :: ru 5 (.l (.v (.i .i64)) :: .l (.v (.i .i64)) :: .l (.v (.i .i64)) :: ru 40 [])), []⟩ [(0, ⟨(ru 49 []), []⟩)] true (.seq (.seq .no .no) (.seq (.blk (.seq .no (.blk (.seq .no (.cond .no (.seq .no (.cond (.seq .no (.seq .no (.cond .no .no))) (.seqJ [(1000000, ⟨(.l (.v (.l .s)) :: ru 5 (.l (.v (.i .i64)) :: .l (.v (.i .i64)) :: .l (.v (.i .i64)) :: ru 28 (.l (.v .b) :: ru 11 []))), []⟩)] false .no .no)))))))) .no))))) .no)))) func70 mixed (ctabOk_cons (c45 K) (ctabOk_cons (c46 K) (ctabOk_cons (c48 K) ctabOk_nil))) (by kernel_rfl) fun x => by kernel_rfl
-- loop.example/g00460/impl.levels
def F123 (K : Nat) (x : Unit) : Option (List (List Int)) :=
  some [[15], [14], [13], [16, 17], [8, 9], [10, 11, 12]]
def ct123 (K : Nat) : Ct := ⟨[], [], [.l (.v (.l (.l (.i .i64))))], [], [], F123 K⟩
theorem c123 (K : Nat) : CtOk prog 123 (ct123 K) :=
  con_mk (Y := Y) (L := []) (K := K) (an := (.seq .no (.seq (.reg [0, 1, 2, 3, 4, 5, 6] []) .no))) func123 mixed ctabOk_nil (by kernel_rfl) fun x => by kernel_rfl
-- internal/stringslite.HasPrefix
def F155 (K : Nat) (x : (List UInt8) × List UInt8) : Option (Bool) :=
  branch (decide ((x.2.length : Int) ≤ (x.1.length : Int)))
   (guard (decide (0 ≤ (x.2.length : Int) ∧ (x.2.length : Int) ≤ (x.1.length : Int))) <|
   some (decide ((tkL x.1 (x.2.length : Int)) = x.2)))
   (some false)
def ct155 (K : Nat) : Ct := ⟨[.l (.v .s), .l (.v .s)], [], [.l (.v .b)], [], [], F155 K⟩
theorem c155 (K : Nat) : CtOk prog 155 (ct155 K) :=
  con_mk (Y := Y) (L := []) (K := K) (an := (.seq .no .no)) func155 mixed ctabOk_nil (by kernel_rfl) fun x => by kernel_rfl
-- strings.HasPrefix
def F144 (K : Nat) (x : (List UInt8) × List UInt8) : Option (Bool) :=
  bindO (F155 K x) fun v0 =>
  some v0
def ct144 (K : Nat) : Ct := ⟨[.l (.v .s), .l (.v .s)], [], [.l (.v .b)], [], [], F144 K⟩
theorem c144 (K : Nat) : CtOk prog 144 (ct144 K) :=
  con_mk (Y := Y) (L := [(155, ct155 K)]) (K := K) (an := (.seq .no .no)) func144 mixed (ctabOk_cons (c155 K) ctabOk_nil) (by kernel_rfl) fun x => by kernel_rfl
-- loop.example/g00460/impl.valueOf
def F159_b0 (K : Nat) (x : (List UInt8) × (List UInt8) × Int × Int × Int) : Option (((List UInt8) × (List UInt8) × Int × Int × Int) ⊕ ((Int × Bool) ⊕ ((List UInt8) × Int))) :=
  branch (decide (x.2.2.2.2 < x.2.2.2.1))
   (nth x.1 x.2.2.2.2 fun v0 =>
   bindO (F157 K (x.2.1, (v0.toNat : Int))) fun v1 =>
   bindO (α := (Int × Bool) ⊕ ((List UInt8) × (List UInt8) × Int × Int × Int × Int)) (bindO (α := (List UInt8) × (List UInt8) × Int × Int × Int × Int × Bool) (branch (decide (v1 < 0))
        (some (x.1, x.2.1, x.2.2.1, v1, x.2.2.2.1, x.2.2.2.2, true))
        (some (x.1, x.2.1, x.2.2.1, v1, x.2.2.2.1, x.2.2.2.2, decide (65535 < x.2.2.1)))) fun v2 =>
     branch v2.2.2.2.2.2.2
      (some (.inl (0, false)))
      (some (.inr (v2.1, v2.2.1, v2.2.2.1, v2.2.2.2.1, v2.2.2.2.2.1, v2.2.2.2.2.2.1)))) fun v3 =>
   csO v3
    (fun v4 => some (.inr (.inl v4)))
    (fun v5 => some (.inl (v5.1, v5.2.1, w64 ((w64 (v5.2.2.1 * (v5.2.1.length : Int))) + v5.2.2.2.1), v5.2.2.2.2.1, w64 (v5.2.2.2.2.2 + 1)))))
   (some (.inr (.inr (x.1, x.2.2.1))))
def F159 (K : Nat) (x : (List UInt8) × List UInt8) : Option (Int × Bool) :=
  bindO (iter K (F159_b0 K) (x.1, x.2, 0, (x.1.length : Int), 0)) fun v0 =>
  csO v0
   (fun v1 => some v1)
   (fun v2 => branch (!(decide (v2.1 = [])))
    (some (v2.2, decide (v2.2 ≤ 65535)))
    (some (v2.2, false)))
def ct159 (K : Nat) : Ct := ⟨[.l (.v .s), .l (.v .s)], [], [.l (.v (.i .i64)), .l (.v .b)], [], [], F159 K⟩
theorem c159 (K : Nat) : CtOk prog 159 (ct159 K) :=
  con_mk (Y := Y) (L := [(157, ct157 K)]) (K := K) (an := (.seq .no (.seq .no (.seq (.seq .no (.blk (.loop [] ⟨(.l (.v .s) :: .l (.v .s) :: ru 4 (.l (.v (.i .i64)) :: ru 3 (.l (.v (.i .i64)) :: .l (.v (.i .i64)) :: ru 27 []))), []⟩ [(0, ⟨(.l (.v .s) :: ru 5 (.l (.v (.i .i64)) :: ru 32 [])), []⟩)] true (.seq .no (.seq .no (.seq (.blk (.seq .no (.seq .no (.seqJ [(1000000, ⟨(.l (.v .s) :: .l (.v .s) :: ru 4 (.l (.v (.i .i64)) :: ru 1 (.l (.v (.i .i64)) :: ru 1 (.l (.v (.i .i64)) :: .l (.v (.i .i64)) :: ru 27 [])))), []⟩)] true (.seqJ [(1000000, ⟨(.l (.v .s) :: .l (.v .s) :: ru 4 (.l (.v (.i .i64)) :: ru 1 (.l (.v (.i .i64)) :: ru 1 (.l (.v (.i .i64)) :: .l (.v (.i .i64)) :: ru 12 (.l (.v .b) :: ru 14 []))))), []⟩)] false .no (.cond .no .no)) .no)))) .no)))))) .no)))) func159 mixed (ctabOk_cons (c157 K) ctabOk_nil) (by kernel_rfl) fun x => by kernel_rfl
-- loop.example/g00460/impl.ReadNum
def F154 (K : Nat) (x : List UInt8) : Option (Int × Bool) :=
  bindO (α := Int × Bool) (branch (decide (18 < (x.length : Int)))
     (some (0, false))
     (bindO (F144 K (x, ([36] : List UInt8))) fun v0 =>
     branch v0
      (guard (decide ((0 : Int) ≤ 1 ∧ 1 ≤ (x.length : Int))) <|
      bindO (F159 K (dpL x 1, ([48, 49, 50, 51, 52, 53, 54, 55, 56, 57, 65, 66, 67, 68, 69, 70] : List UInt8))) fun v1 =>
      some v1)
      (bindO (F144 K (x, ([37] : List UInt8))) fun v2 =>
      branch v2
       (guard (decide ((0 : Int) ≤ 1 ∧ 1 ≤ (x.length : Int))) <|
       bindO (F159 K (dpL x 1, ([48, 49] : List UInt8))) fun v3 =>
       some v3)
       (bindO (F159 K (x, ([48, 49, 50, 51, 52, 53, 54, 55, 56, 57] : List UInt8))) fun v4 =>
       some v4)))) fun v5 =>
  branch (!v5.2)
   (some (0, false))
   (some (v5.1, true))
def ct154 (K : Nat) : Ct := ⟨[.l (.v .s)], [], [.l (.v (.i .i64)), .l (.v .b)], [], [], F154 K⟩
theorem c154 (K : Nat) : CtOk prog 154 (ct154 K) :=
  con_mk (Y := Y) (L := [(144, ct144 K), (159, ct159 K)]) (K := K) (an := (.seq .no (.seq .no (.seqJ [(1000000, ⟨(ru 4 (.l (.v (.i .i64)) :: .l (.v .b) :: ru 30 [])), []⟩)] false (.blk (.seq .no (.cond .no (.seq .no (.cond .no (.seq .no .no)))))) (.seq (.seq .no (.cond .no .no)) .no))))) func154 mixed (ctabOk_cons (c144 K) (ctabOk_cons (c159 K) ctabOk_nil)) (by kernel_rfl) fun x => by kernel_rfl
-- loop.example/g00460/impl.opWords
def F126 (K : Nat) (x : Unit) : Option (List (List UInt8)) :=
  bindO (F85 K (([110, 101, 103, 32, 110, 111, 116, 32, 104, 105, 103, 104, 32, 108, 111, 119, 32, 43, 32, 45, 32, 42, 32, 47, 32, 37, 32, 38, 32, 94, 32, 124, 32, 60, 60, 32, 62, 62] : List UInt8), ([32] : List UInt8))) fun v0 =>
  some v0
def ct126 (K : Nat) : Ct := ⟨[], [], [.l (.v (.l .s))], [], [], F126 K⟩
theorem c126 (K : Nat) : CtOk prog 126 (ct126 K) :=
  con_mk (Y := Y) (L := [(85, ct85 K)]) (K := K) (an := (.seq .no .no)) func126 mixed (ctabOk_cons (c85 K) ctabOk_nil) (by kernel_rfl) fun x => by kernel_rfl
-- loop.example/g00460/impl.signed
def F99 (K : Nat) (x : Int × Int) : Option (Int) :=
  branch (decide (x.1 = 4))
   (some (w32 (0 - x.2)))
   (branch (decide (x.1 = 5))
    (some (Go.bits Go.BinOp.xor Go.IntKind.i32 (-1) x.2))
    (branch (decide (x.1 = 6))
     (some (Go.bits Go.BinOp.and Go.IntKind.i32 (shrI Go.IntKind.i32 x.2 8) 255))
     (some (Go.bits Go.BinOp.and Go.IntKind.i32 x.2 255))))
def ct99 (K : Nat) : Ct := ⟨[.l (.v (.i .i64)), .l (.v (.i .i32))], [], [.l (.v (.i .i32))], [], [], F99 K⟩
theorem c99 (K : Nat) : CtOk prog 99 (ct99 K) :=
  con_mk (Y := Y) (L := []) (K := K) (an := (.seq .no (.seq (.seq .no (.blk (.seq .no (.cond .no (.seq .no (.cond .no (.seq .no (.cond .no .no)))))))) .no))) func99 mixed ctabOk_nil (by kernel_rfl) fun x => by kernel_rfl
-- loop.example/g00460/impl.operated
def F100 (K : Nat) (x : Int × Int × Int) : Option (Int × Bool) :=
  branch (decide (x.1 = 8))
   (some (w32 (x.2.1 + x.2.2), true))
   (branch (decide (x.1 = 9))
    (some (w32 (x.2.1 - x.2.2), true))
    (branch (decide (x.1 = 10))
     (some (w32 (x.2.1 * x.2.2), true))
     (branch (decide (x.1 = 11))
      (branch (decide (x.2.2 = 0))
       (some (0, false))
       (guard (!(decide (x.2.2 = 0))) <|
       some (w32 (Int.tdiv x.2.1 x.2.2), true)))
      (branch (decide (x.1 = 12))
       (branch (decide (x.2.2 = 0))
        (some (0, false))
        (guard (!(decide (x.2.2 = 0))) <|
        some (Int.tmod x.2.1 x.2.2, true)))
       (branch (decide (x.1 = 13))
        (some (Go.bits Go.BinOp.and Go.IntKind.i32 x.2.1 x.2.2, true))
        (branch (decide (x.1 = 14))
         (some (Go.bits Go.BinOp.xor Go.IntKind.i32 x.2.1 x.2.2, true))
         (branch (decide (x.1 = 15))
          (some (Go.bits Go.BinOp.or Go.IntKind.i32 x.2.1 x.2.2, true))
          (branch (decide (x.1 = 16))
           (some (shlI Go.IntKind.i32 x.2.1 (Go.bits Go.BinOp.and Go.IntKind.u32 (Go.IntKind.wrap .u32 x.2.2) 31), true))
           (some (shrI Go.IntKind.i32 x.2.1 (Go.bits Go.BinOp.and Go.IntKind.u32 (Go.IntKind.wrap .u32 x.2.2) 31), true))))))))))
def ct100 (K : Nat) : Ct := ⟨[.l (.v (.i .i64)), .l (.v (.i .i32)), .l (.v (.i .i32))], [], [.l (.v (.i .i32)), .l (.v .b)], [], [], F100 K⟩
theorem c100 (K : Nat) : CtOk prog 100 (ct100 K) :=
  con_mk (Y := Y) (L := []) (K := K) (an := (.seq .no (.seq (.seq .no (.blk (.seq .no (.cond .no (.seq .no (.cond .no (.seq .no (.cond .no (.seq .no (.cond (.seq (.seq .no (.cond .no .no)) .no) (.seq .no (.cond (.seq (.seq .no (.cond .no .no)) .no) (.seq .no (.cond .no (.seq .no (.cond .no (.seq .no (.cond .no (.seq .no (.cond .no .no)))))))))))))))))))) .no))) func100 mixed ctabOk_nil (by kernel_rfl) fun x => by kernel_rfl
-- loop.example/g00460/impl.ArgsOf
def F73 (K : Nat) (x : List UInt8) : Option (List (List UInt8)) :=
  bindO (α := (List UInt8) × Bool) (branch (decide (x = []))
     (some (x, true))
     (bindO (F55 K x) fun v0 =>
     some (x, !v0))) fun v1 =>
  branch v1.2
   (some [])
   (bindO (F85 K (v1.1, ([44] : List UInt8))) fun v2 =>
   some v2)
def ct73 (K : Nat) : Ct := ⟨[.l (.v .s)], [], [.l (.v (.l .s))], [], [], F73 K⟩
theorem c73 (K : Nat) : CtOk prog 73 (ct73 K) :=
  con_mk (Y := Y) (L := [(85, ct85 K), (55, ct55 K)]) (K := K) (an := (.seq .no (.seq (.seqJ [(1000000, ⟨(.l (.v .s) :: ru 8 (.l (.v .b) :: ru 2 [])), []⟩)] false .no (.cond .no .no)) .no))) func73 mixed (ctabOk_cons (c85 K) (ctabOk_cons (c55 K) ctabOk_nil)) (by kernel_rfl) fun x => by kernel_rfl
-- loop.example/g00460/impl.filled
def F37_b0 (K : Nat) (x : (List UInt8) × (List (List UInt8)) × Int × List Int) : Option (((List UInt8) × (List (List UInt8)) × Int × List Int) ⊕ (List Int)) :=
  branch (decide (x.2.2.1 < (x.1.length : Int)))
   (bindO (α := (List UInt8) × (List (List UInt8)) × Int × Bool × List Int) (nth x.1 x.2.2.1 fun v0 =>
     branch (decide ((v0.toNat : Int) = 92))
      (branch (decide ((w64 (x.2.2.1 + 1)) < (x.1.length : Int)))
       (nth x.1 (w64 (x.2.2.1 + 1)) fun v1 =>
       branch (decide (49 ≤ (v1.toNat : Int)))
        (nth x.1 (w64 (x.2.2.1 + 1)) fun v2 =>
        some (x.1, x.2.1, x.2.2.1, decide ((v2.toNat : Int) ≤ 57), x.2.2.2))
        (some (x.1, x.2.1, x.2.2.1, false, x.2.2.2)))
       (some (x.1, x.2.1, x.2.2.1, false, x.2.2.2)))
      (some (x.1, x.2.1, x.2.2.1, false, x.2.2.2))) fun v3 =>
   branch v3.2.2.2.1
    (nth v3.1 (w64 (v3.2.2.1 + 1)) fun v4 =>
    branch (decide ((w64 (w8 ((v4.toNat : Int) - 49))) < (v3.2.1.length : Int)))
     (nth v3.2.1 (w64 (w8 ((v4.toNat : Int) - 49))) fun v5 =>
     bindO (F57 K (v5, v3.2.2.2.2)) fun v6 =>
     some (.inl (v3.1, v3.2.1, w64 ((w64 (v3.2.2.1 + 1)) + 1), v6.2.2)))
     (some (.inl (v3.1, v3.2.1, w64 ((w64 (v3.2.2.1 + 1)) + 1), v3.2.2.2.2))))
    (nth v3.1 v3.2.2.1 fun v7 =>
    bindO (F58 K ((v7.toNat : Int), v3.2.2.2.2)) fun v8 =>
    some (.inl (v3.1, v3.2.1, w64 (v3.2.2.1 + 1), v8.2))))
   (some (.inr x.2.2.2))
def F37 (K : Nat) (x : (List UInt8) × List (List UInt8)) : Option ((List UInt8) × Bool) :=
  bindO (iter K (F37_b0 K) (x.1, x.2, 0, [])) fun v0 =>
  bindO (F59 K v0) fun v1 =>
  bindO (F60 K v1.2) fun v2 =>
  some (v1.1, decide (v2.1 ≤ 80))
def ct37 (K : Nat) : Ct := ⟨[.l (.v .s), .l (.v (.l .s))], [], [.l (.v .s), .l (.v .b)], [], [], F37 K⟩
theorem c37 (K : Nat) : CtOk prog 37 (ct37 K) :=
  con_mk (Y := Y) (L := [(57, ct57 K), (58, ct58 K), (59, ct59 K), (60, ct60 K)]) (K := K) (an := (.seq .no (.seq .no (.seq (.seq (.reg [] [(0, .vcell 7000 1 7050 1 (.y 5))]) (.blk (.loop [] ⟨(.l (.v .s) :: .l (.v (.l .s)) :: ru 4 (.l (.ptr 7000 0 0) :: .l (.v (.i .i64)) :: ru 56 [])), [(7050, ⟨1, true, .row (.y 5)⟩), (7000, ⟨2, false, .mix (some 77) [[.l (.pon 7000 0 0), .l (.bb 7050)]]⟩)]⟩ [(0, ⟨(ru 6 (.l (.ptr 7000 0 0) :: ru 57 [])), [(7050, ⟨1, true, .row (.y 5)⟩), (7000, ⟨2, false, .mix (some 77) [[.l (.pon 7000 0 0), .l (.bb 7050)]]⟩)]⟩)] false (.seq (.seq .no .no) (.seq (.blk (.seq (.seqJ [(1000000, ⟨(.l (.v .s) :: .l (.v (.l .s)) :: ru 4 (.l (.ptr 7000 0 0) :: .l (.v (.i .i64)) :: ru 31 (.l (.v .b) :: ru 24 []))), [(7050, ⟨1, true, .row (.y 5)⟩), (7000, ⟨2, false, .mix (some 77) [[.l (.pon 7000 0 0), .l (.bb 7050)]]⟩)]⟩)] false .no (.cond (.seq (.seq .no (.seq .no .no)) .no) .no)) .no)) .no))))) .no)))) func37 mixed (ctabOk_cons (c57 K) (ctabOk_cons (c58 K) (ctabOk_cons (c59 K) (ctabOk_cons (c60 K) ctabOk_nil)))) (by kernel_rfl) fun x => by kernel_rfl
-- loop.example/g00460/laws.eqStringS
def F11_b0 (K : Nat) (x : (List (List UInt8)) × (List (List UInt8)) × Int) : Option (((List (List UInt8)) × (List (List UInt8)) × Int) ⊕ (Bool ⊕ Unit)) :=
  branch (decide (x.2.2 < (x.1.length : Int)))
   (nth x.1 x.2.2 fun v0 =>
   nth x.2.1 x.2.2 fun v1 =>
   branch (!(decide (v0 = v1)))
    (some (.inr (.inl false)))
    (some (.inl (x.1, x.2.1, w64 (x.2.2 + 1)))))
   (some (.inr (.inr ())))
def F11 (K : Nat) (x : (List (List UInt8)) × List (List UInt8)) : Option (Bool) :=
  branch (!(decide ((x.1.length : Int) = (x.2.length : Int))))
   (some false)
   (bindO (iter K (F11_b0 K) (x.1, x.2, 0)) fun v0 =>
   csO v0
    (fun v1 => some v1)
    (fun v2 => some true))
def ct11 (K : Nat) : Ct := ⟨[.l (.v (.l .s)), .l (.v (.l .s))], [], [.l (.v .b)], [], [], F11 K⟩
theorem c11 (K : Nat) : CtOk prog 11 (ct11 K) :=
  con_mk (Y := Y) (L := []) (K := K) (an := (.seq .no (.seq (.seq .no (.cond .no .no)) (.seq (.seq .no (.blk (.loop [] ⟨(.l (.v (.l .s)) :: .l (.v (.l .s)) :: ru 3 (.l (.v (.i .i64)) :: ru 20 [])), []⟩ [(0, ⟨(ru 26 []), []⟩)] true (.seq (.seq .no .no) (.seq (.blk (.seq .no (.cond .no .no))) .no))))) .no)))) func11 mixed ctabOk_nil (by kernel_rfl) fun x => by kernel_rfl
-- loop.example/g00460/laws.markText
def F27_b0 (K : Nat) (x : Int × List UInt8) : Option ((Int × List UInt8) ⊕ (List UInt8)) :=
  branch (decide (0 < x.1))
   (guard (decide ((((toB [w8 (w64 (48 + (Int.tmod x.1 10)))]).length) + x.2.length) ≤ 9223372036854775807)) <|
   some (.inl (w64 (Int.tdiv x.1 10), (toB [w8 (w64 (48 + (Int.tmod x.1 10)))]) ++ x.2)))
   (some (.inr x.2))
def F27 (K : Nat) (x : Int) : Option (List UInt8) :=
  branch (decide (x ≤ 0))
   (some ([109, 48] : List UInt8))
   (bindO (iter K (F27_b0 K) (x, [])) fun v0 =>
   guard (decide ((1 + v0.length) ≤ 9223372036854775807)) <|
   some (([109] : List UInt8) ++ v0))
def ct27 (K : Nat) : Ct := ⟨[.l (.v (.i .i64))], [], [.l (.v .s)], [], [], F27 K⟩
theorem c27 (K : Nat) : CtOk prog 27 (ct27 K) :=
  con_mk (Y := Y) (L := []) (K := K) (an := (.seq .no (.seq (.seq .no (.cond .no .no)) (.seq .no (.seq (.blk (.loop [] ⟨(.l (.v (.i .i64)) :: ru 2 (.l (.v .s) :: ru 16 [])), []⟩ [(0, ⟨(ru 3 (.l (.v .s) :: ru 16 [])), []⟩)] false (.seq (.seq .no .no) (.blk .no)))) .no))))) func27 mixed ctabOk_nil (by kernel_rfl) fun x => by kernel_rfl
-- loop.example/g00460/laws.heldStringS
def F13_b0 (K : Nat) (x : (List (List UInt8)) × Int × Int) : Option (((List (List UInt8)) × Int × Int) ⊕ (Int ⊕ Int)) :=
  branch (decide (x.2.2 < (x.1.length : Int)))
   (nth x.1 x.2.2 fun v0 =>
   bindO (F27 K x.2.1) fun v1 =>
   branch (!(decide (v0 = v1)))
    (some (.inr (.inl (-1))))
    (some (.inl (x.1, w64 (x.2.1 + 1), w64 (x.2.2 + 1)))))
   (some (.inr (.inr x.2.1)))
def F13 (K : Nat) (x : (List (List UInt8)) × Int) : Option (Int) :=
  bindO (iter K (F13_b0 K) (x.1, x.2, 0)) fun v0 =>
  csO v0
   (fun v1 => some v1)
   (fun v2 => some v2)
def ct13 (K : Nat) : Ct := ⟨[.l (.v (.l .s)), .l (.v (.i .i64))], [], [.l (.v (.i .i64))], [], [], F13 K⟩
theorem c13 (K : Nat) : CtOk prog 13 (ct13 K) :=
  con_mk (Y := Y) (L := [(27, ct27 K)]) (K := K) (an := (.seq .no (.seq (.seq .no (.blk (.loop [] ⟨(.l (.v (.l .s)) :: .l (.v (.i .i64)) :: ru 3 (.l (.v (.i .i64)) :: ru 16 [])), []⟩ [(0, ⟨(ru 1 (.l (.v (.i .i64)) :: ru 20 [])), []⟩)] true (.seq (.seq .no .no) (.seq (.blk (.seq (.seq .no (.cond .no .no)) .no)) .no))))) .no))) func13 mixed (ctabOk_cons (c27 K) ctabOk_nil) (by kernel_rfl) fun x => by kernel_rfl
-- loop.example/g00460/laws.big
def F14 (K : Nat) (x : List Int) : Option (Bool) :=
  some (decide (1048576 < (x.length : Int)))
def ct14 (K : Nat) : Ct := ⟨[.l (.v (.l (.i .u8)))], [], [.l (.v .b)], [], [], F14 K⟩
theorem c14 (K : Nat) : CtOk prog 14 (ct14 K) :=
  con_mk (Y := Y) (L := []) (K := K) (an := (.seq .no .no)) func14 mixed ctabOk_nil (by kernel_rfl) fun x => by kernel_rfl
-- loop.example/g00460/spec.l1Open
def F28 (K : Nat) (x : List Int) : Option ((List Int) × Int) :=
  some (x, 0)
def ct28 (K : Nat) : Ct := ⟨[.l (.v (.l (.i .u8)))], [], [.l (.ptr 0 0 0)], [⟨2, false, .mix (some 70) [[.l (.v (.l (.i .u8))), .l (.v (.i .i64))]]⟩], [], F28 K⟩
theorem c28 (K : Nat) : CtOk prog 28 (ct28 K) :=
  con_mk (Y := Y) (L := []) (K := K) (an := (.seq .no .no)) func28 mixed ctabOk_nil (by kernel_rfl) fun x => by kernel_rfl
-- (*loop.example/g00460/spec.l1Rd).next
def F50 (K : Nat) (x : (List Int) × Int) : Option (Int × (List Int) × Int) :=
  branch (decide ((x.1.length : Int) ≤ x.2))
   (some (0, x))
   (nth x.1 (w64 ((w64 (x.2 + 1)) - 1)) fun v0 =>
   some (w64 v0, x.1, w64 (x.2 + 1)))
def ct50 (K : Nat) : Ct := ⟨[.l (.ptr 0 0 0)], [⟨2, false, .mix (some 70) [[.l (.v (.l (.i .u8))), .l (.v (.i .i64))]]⟩], [.l (.v (.i .i64))], [⟨2, false, .mix (some 70) [[.l (.v (.l (.i .u8))), .l (.v (.i .i64))]]⟩], [], F50 K⟩
theorem c50 (K : Nat) : CtOk prog 50 (ct50 K) :=
  con_mk (Y := Y) (L := []) (K := K) (an := (.seq .no (.seq (.seq .no (.cond .no .no)) (.seq .no .no)))) func50 mixed ctabOk_nil (by kernel_rfl) fun x => by kernel_rfl
-- (*loop.example/g00460/spec.l1Rd).below
def F29 (K : Nat) (x : Int × (List Int) × Int) : Option (Int × (List Int) × Int) :=
  branch (decide (x.1 ≤ 1))
   (some (0, x.2))
   (branch (decide (x.1 ≤ 256))
    (bindO (F50 K x.2) fun v0 =>
    guard (!(decide (x.1 = 0))) <|
    some (Int.tmod v0.1 x.1, v0.2))
    (bindO (F50 K x.2) fun v1 =>
    bindO (F50 K v1.2) fun v2 =>
    guard (!(decide (x.1 = 0))) <|
    some (Int.tmod (w64 ((w64 (v1.1 * 256)) + v2.1)) x.1, v2.2)))
def ct29 (K : Nat) : Ct := ⟨[.l (.ptr 0 0 0), .l (.v (.i .i64))], [⟨2, false, .mix (some 70) [[.l (.v (.l (.i .u8))), .l (.v (.i .i64))]]⟩], [.l (.v (.i .i64))], [⟨2, false, .mix (some 70) [[.l (.v (.l (.i .u8))), .l (.v (.i .i64))]]⟩], [], F29 K⟩
theorem c29 (K : Nat) : CtOk prog 29 (ct29 K) :=
  con_mk (Y := Y) (L := [(50, ct50 K)]) (K := K) (an := (.seq .no (.seq (.seq .no (.cond .no .no)) (.seq (.seq .no (.cond .no .no)) (.seq .no (.seq .no .no)))))) func29 mixed (ctabOk_cons (c50 K) ctabOk_nil) (by kernel_rfl) fun x => by kernel_rfl
-- loop.example/g00460/spec.DrawFilled
def F15_b0 (K : Nat) (x : (List UInt8) × Int × (List (List UInt8)) × (List Int) × Int) : Option (((List UInt8) × Int × (List (List UInt8)) × (List Int) × Int) ⊕ ((List UInt8) × List (List UInt8))) :=
  branch (decide (0 < x.2.1))
   (bindO (F29 K (4, x.2.2.2)) fun v0 =>
   guard (decide (0 ≤ v0.1 ∧ v0.1 < (4 : Int))) <|
   nthN [([97] : List UInt8), [], ([49, 43, 50] : List UInt8), ([48, 49, 50, 51, 52, 53, 54, 55, 56, 57, 48, 49, 50, 51, 52, 53, 54, 55, 56, 57, 48, 49, 50, 51, 52, 53, 54, 55, 56, 57, 48, 49, 50, 51, 52, 53, 54, 55, 56, 57] : List UInt8)] v0.1.toNat fun v1 =>
   guard (fitN (x.2.2.1.length + [v1].length) 16) <|
   some (.inl (x.1, w64 (x.2.1 - 1), x.2.2.1 ++ [v1], v0.2)))
   (some (.inr (x.1, x.2.2.1)))
def F15 (K : Nat) (x : List Int) : Option ((List UInt8) × List (List UInt8)) :=
  bindO (F28 K x) fun v0 =>
  bindO (F29 K (5, v0)) fun v1 =>
  guard (decide (0 ≤ v1.1 ∧ v1.1 < (5 : Int))) <|
  nthN [[], ([100, 98, 32, 92, 49, 44, 92, 50] : List UInt8), ([108, 100, 32, 92, 51] : List UInt8), ([92, 48, 32, 92] : List UInt8), ([120, 92, 49, 92, 49, 92, 57] : List UInt8)] v1.1.toNat fun v2 =>
  bindO (F29 K (4, v1.2)) fun v3 =>
  bindO (iter K (F15_b0 K) (v2, v3.1, [], v3.2)) fun v4 =>
  some v4
def ct15 (K : Nat) : Ct := ⟨[.l (.v (.l (.i .u8)))], [], [.l (.v .s), .l (.v (.l .s))], [], [], F15 K⟩
theorem c15 (K : Nat) : CtOk prog 15 (ct15 K) :=
  con_mk (Y := Y) (L := [(28, ct28 K), (29, ct29 K)]) (K := K) (an := (.seq .no (.seq .no (.seq .no (.seq .no (.seq (.seq .no (.blk (.loop [] ⟨(ru 4 (.l (.ptr 10000 0 0) :: .l (.v .s) :: .l (.all 16000) :: .l (.v (.i .i64)) :: ru 24 [])), [(16000, ⟨1, true, .row .s⟩), (10000, ⟨2, false, .mix (some 70) [[.l (.v (.l (.i .u8))), .l (.v (.i .i64))]]⟩)]⟩ [(0, ⟨(ru 5 (.l (.v .s) :: .l (.all 16000) :: ru 25 [])), [(16000, ⟨1, true, .row .s⟩)]⟩)] false (.seq (.seq .no .no) (.seq .no .no))))) .no)))))) func15 mixed (ctabOk_cons (c28 K) (ctabOk_cons (c29 K) ctabOk_nil)) (by kernel_rfl) fun x => by kernel_rfl
-- loop.example/g00460/laws.sameTexts
def F17_b0 (K : Nat) (x : (List (List UInt8)) × (List (List UInt8)) × Int) : Option (((List (List UInt8)) × (List (List UInt8)) × Int) ⊕ (Bool ⊕ Unit)) :=
  branch (decide (x.2.2 < (x.1.length : Int)))
   (nth x.1 x.2.2 fun v0 =>
   nth x.2.1 x.2.2 fun v1 =>
   branch (!(decide (v0 = v1)))
    (some (.inr (.inl false)))
    (some (.inl (x.1, x.2.1, w64 (x.2.2 + 1)))))
   (some (.inr (.inr ())))
def F17 (K : Nat) (x : (List (List UInt8)) × List (List UInt8)) : Option (Bool) :=
  branch (!(decide ((x.1.length : Int) = (x.2.length : Int))))
   (some false)
   (bindO (iter K (F17_b0 K) (x.1, x.2, 0)) fun v0 =>
   csO v0
    (fun v1 => some v1)
    (fun v2 => some true))
def ct17 (K : Nat) : Ct := ⟨[.l (.v (.l .s)), .l (.v (.l .s))], [], [.l (.v .b)], [], [], F17 K⟩
theorem c17 (K : Nat) : CtOk prog 17 (ct17 K) :=
  con_mk (Y := Y) (L := []) (K := K) (an := (.seq .no (.seq (.seq .no (.cond .no .no)) (.seq (.seq .no (.blk (.loop [] ⟨(.l (.v (.l .s)) :: .l (.v (.l .s)) :: ru 3 (.l (.v (.i .i64)) :: ru 20 [])), []⟩ [(0, ⟨(ru 26 []), []⟩)] true (.seq (.seq .no .no) (.seq (.blk (.seq .no (.cond .no .no))) .no))))) .no)))) func17 mixed ctabOk_nil (by kernel_rfl) fun x => by kernel_rfl
-- loop.example/g00460/impl.LineText
def F19 (K : Nat) (x : (List UInt8) × (List UInt8) × List UInt8) : Option (List UInt8) :=
  bindO (F35 K x) fun v0 =>
  branch (!v0)
   (some [])
   (bindO (F36 K x) fun v1 =>
   some v1)
def ct19 (K : Nat) : Ct := ⟨[.agg [(.v .s), (.v .s), (.v .s)]], [], [.l (.v .s)], [], [], F19 K⟩
theorem c19 (K : Nat) : CtOk prog 19 (ct19 K) :=
  con_mk (Y := Y) (L := [(36, ct36 K), (35, ct35 K)]) (K := K) (an := (.seq .no (.seq (.seq .no (.cond .no .no)) .no))) func19 mixed (ctabOk_cons (c36 K) (ctabOk_cons (c35 K) ctabOk_nil)) (by kernel_rfl) fun x => by kernel_rfl
-- loop.example/g00460/spec.LineText
def F20 (K : Nat) (x : (List UInt8) × (List UInt8) × List UInt8) : Option (List UInt8) :=
  bindO (F16 K x) fun v0 =>
  branch (!v0)
   (some [])
   (bindO (F33 K x) fun v1 =>
   some v1)
def ct20 (K : Nat) : Ct := ⟨[.agg [(.v .s), (.v .s), (.v .s)]], [], [.l (.v .s)], [], [], F20 K⟩
theorem c20 (K : Nat) : CtOk prog 20 (ct20 K) :=
  con_mk (Y := Y) (L := [(33, ct33 K), (16, ct16 K)]) (K := K) (an := (.seq .no (.seq (.seq .no (.cond .no .no)) .no))) func20 mixed (ctabOk_cons (c33 K) (ctabOk_cons (c16 K) ctabOk_nil)) (by kernel_rfl) fun x => by kernel_rfl
-- loop.example/g00460/impl.Filled
def F21_b0 (K : Nat) (x : (List UInt8) × (List (List UInt8)) × (List (List UInt8)) × Int × Int) : Option (((List UInt8) × (List (List UInt8)) × (List (List UInt8)) × Int × Int) ⊕ ((List UInt8) ⊕ ((List UInt8) × List (List UInt8)))) :=
  branch (decide (x.2.2.2.2 < x.2.2.2.1))
   (nth x.2.2.1 x.2.2.2.2 fun v0 =>
   branch (decide (80 < (v0.length : Int)))
    (some (.inr (.inl [])))
    (some (.inl (x.1, x.2.1, x.2.2.1, x.2.2.2.1, w64 (x.2.2.2.2 + 1)))))
   (some (.inr (.inr (x.1, x.2.1))))
def F21 (K : Nat) (x : (List UInt8) × List (List UInt8)) : Option (List UInt8) :=
  bindO (α := (List UInt8) ⊕ ((List UInt8) × List (List UInt8))) (bindO (α := (List UInt8) × (List (List UInt8)) × Bool) (branch (decide (80 < (x.1.length : Int)))
       (some (x.1, x.2, true))
       (some (x.1, x.2, decide (9 < (x.2.length : Int))))) fun v0 =>
    branch v0.2.2
     (some (.inl []))
     (some (.inr (v0.1, v0.2.1)))) fun v1 =>
  csO v1
   (fun v2 => some v2)
   (fun v3 => bindO (iter K (F21_b0 K) (v3.1, v3.2, v3.2, (v3.2.length : Int), 0)) fun v4 =>
   csO v4
    (fun v5 => some v5)
    (fun v6 => bindO (F37 K v6) fun v7 =>
    branch (!v7.2)
     (some [])
     (some v7.1)))
def ct21 (K : Nat) : Ct := ⟨[.l (.v .s), .l (.v (.l .s))], [], [.l (.v .s)], [], [], F21 K⟩
theorem c21 (K : Nat) : CtOk prog 21 (ct21 K) :=
  con_mk (Y := Y) (L := [(37, ct37 K)]) (K := K) (an := (.seq .no (.seqJ [(1000000, ⟨(.l (.v .s) :: .l (.v (.l .s)) :: ru 34 []), []⟩)] true (.seqJ [(1000000, ⟨(.l (.v .s) :: .l (.v (.l .s)) :: ru 14 (.l (.v .b) :: ru 19 [])), []⟩)] false .no (.cond .no .no)) (.seq (.seq .no (.blk (.loop [] ⟨(.l (.v .s) :: .l (.v (.l .s)) :: ru 15 (.l (.v (.l .s)) :: .l (.v (.i .i64)) :: .l (.v (.i .i64)) :: ru 16 [])), []⟩ [(0, ⟨(.l (.v .s) :: .l (.v (.l .s)) :: ru 34 []), []⟩)] true (.seq .no (.seq .no (.seq (.blk (.seq .no (.seq .no (.cond .no .no)))) .no)))))) (.seq .no (.seq (.seq .no (.cond .no .no)) .no)))))) func21 mixed (ctabOk_cons (c37 K) ctabOk_nil) (by kernel_rfl) fun x => by kernel_rfl
-- loop.example/g00460/laws.plain
def F22_b1 (K : Nat) (x : (List (List UInt8)) × Int × Bool × Int × (List UInt8) × (List UInt8) × (List UInt8) × List (List UInt8)) : Option (((List (List UInt8)) × Int × Bool × Int × (List UInt8) × (List UInt8) × (List UInt8) × List (List UInt8)) ⊕ (Bool ⊕ ((List (List UInt8)) × Int × List (List UInt8)))) :=
  branch (decide (x.2.2.2.1 < (x.2.2.2.2.2.2.2.length : Int)))
   (bindO (α := (List (List UInt8)) × Int × Bool × Int × Bool × (List UInt8) × (List UInt8) × (List UInt8) × List (List UInt8)) (branch x.2.2.1
      (guard (decide (0 ≤ x.2.2.2.1 ∧ x.2.2.2.1 < (x.2.2.2.2.2.2.2.length : Int))) <|
      nthN x.2.2.2.2.2.2.2 x.2.2.2.1.toNat fun v0 =>
      some (x.1, x.2.1, x.2.2.1, x.2.2.2.1, decide (x.2.2.2.2.2.1 = v0), x.2.2.2.2))
      (some (x.1, x.2.1, x.2.2.1, x.2.2.2.1, false, x.2.2.2.2))) fun v1 =>
   branch v1.2.2.2.2.1
    (some (.inr (.inl false)))
    (some (.inl (v1.1, v1.2.1, v1.2.2.1, w64 (v1.2.2.2.1 + 1), v1.2.2.2.2.2))))
   (some (.inr (.inr (x.1, x.2.1, x.2.2.2.2.2.2.2))))
def F22_b0 (K : Nat) (x : (List (List UInt8)) × Int × List (List UInt8)) : Option (((List (List UInt8)) × Int × List (List UInt8)) ⊕ (Bool ⊕ Unit)) :=
  branch (decide (x.2.1 < (x.1.length : Int)))
   (nth x.1 x.2.1 fun v0 =>
   bindO (F38 K v0) fun v1 =>
   bindO (iter K (F22_b1 K) (x.1, x.2.1, v1.2.2.2, 0, v1.1, v1.2.1, v1.2.2.1, x.2.2)) fun v2 =>
   csO v2
    (fun v3 => some (.inr (.inl v3)))
    (fun v4 => some (.inl (v4.1, w64 (v4.2.1 + 1), v4.2.2))))
   (some (.inr (.inr ())))
def F22 (K : Nat) (x : List (List UInt8)) : Option (Bool) :=
  bindO (iter K (F22_b0 K) (x, 0, [([109, 97, 99, 114, 111] : List UInt8), ([101, 110, 100, 109] : List UInt8), ([114, 101, 112, 116] : List UInt8), ([101, 110, 100, 114] : List UInt8), ([105, 102] : List UInt8), ([101, 108, 115, 101] : List UInt8), ([101, 110, 100, 99] : List UInt8)])) fun v0 =>
  csO v0
   (fun v1 => some v1)
   (fun v2 => some true)
def ct22 (K : Nat) : Ct := ⟨[.l (.v (.l .s))], [], [.l (.v .b)], [], [], F22 K⟩
theorem c22 (K : Nat) : CtOk prog 22 (ct22 K) :=
  con_mk (Y := Y) (L := [(38, ct38 K)]) (K := K) (an := (.seq .no (.seq .no (.seq (.seq .no (.blk (.loop [] ⟨(.l (.v (.l .s)) :: ru 2 (.l (.all 9000) :: .l (.v (.i .i64)) :: ru 34 [])), [(9000, ⟨1, true, .row .s⟩)]⟩ [(0, ⟨(ru 39 []), []⟩)] true (.seq (.seq .no .no) (.seq (.blk (.seq .no (.seq .no (.blk (.loop [] ⟨(.l (.v (.l .s)) :: ru 2 (.l (.all 9000) :: .l (.v (.i .i64)) :: .l (.ptr 6000 0 0) :: .l (.v .b) :: .l (.v (.i .i64)) :: ru 31 [])), [(6000, ⟨3, false, .mix (some 34) [[.l (.v .s), .l (.v .s), .l (.v .s)]]⟩), (9000, ⟨1, true, .row .s⟩)]⟩ [(2, ⟨(.l (.v (.l .s)) :: ru 2 (.l (.all 9000) :: .l (.v (.i .i64)) :: ru 34 [])), [(9000, ⟨1, true, .row .s⟩)]⟩)] true (.seq (.seq .no .no) (.seq (.blk (.seqJ [(1000000, ⟨(.l (.v (.l .s)) :: ru 2 (.l (.all 9000) :: .l (.v (.i .i64)) :: .l (.ptr 6000 0 0) :: .l (.v .b) :: .l (.v (.i .i64)) :: ru 30 (.l (.v .b) :: []))), [(6000, ⟨3, false, .mix (some 34) [[.l (.v .s), .l (.v .s), .l (.v .s)]]⟩), (9000, ⟨1, true, .row .s⟩)]⟩)] false .no (.cond .no .no))) .no))))))) .no))))) .no)))) func22 mixed (ctabOk_cons (c38 K) ctabOk_nil) (by kernel_rfl) fun x => by kernel_rfl
-- (*loop.example/g00460/spec.l1Rd).once
def F64 (K : Nat) (x : Int × (List Int) × Int) : Option (Bool × (List Int) × Int) :=
  bindO (F29 K x) fun v0 =>
  some (decide (v0.1 = (w64 (x.1 - 1))), v0.2)
def ct64 (K : Nat) : Ct := ⟨[.l (.ptr 0 0 0), .l (.v (.i .i64))], [⟨2, false, .mix (some 70) [[.l (.v (.l (.i .u8))), .l (.v (.i .i64))]]⟩], [.l (.v .b)], [⟨2, false, .mix (some 70) [[.l (.v (.l (.i .u8))), .l (.v (.i .i64))]]⟩], [], F64 K⟩
def F24_b0 (K : Nat) (x : Int × List UInt8) : Option ((Int × List UInt8) ⊕ (Int × List UInt8)) :=
  branch (decide (10 ≤ x.1))
   (guard (decide ((((toB [w8 (w64 (48 + (Int.tmod x.1 10)))]).length) + x.2.length) ≤ 9223372036854775807)) <|
   some (.inl (w64 (Int.tdiv x.1 10), (toB [w8 (w64 (48 + (Int.tmod x.1 10)))]) ++ x.2)))
   (some (.inr x))
def F24 (K : Nat) (x : Int) : Option (List UInt8) :=
  bindO (iter K (F24_b0 K) (x, [])) fun v0 =>
  guard (decide ((((toB [w8 (w64 (48 + v0.1))]).length) + v0.2.length) ≤ 9223372036854775807)) <|
  some ((toB [w8 (w64 (48 + v0.1))]) ++ v0.2)
def ct24 (K : Nat) : Ct := ⟨[.l (.v (.i .i64))], [], [.l (.v .s)], [], [], F24 K⟩
def F132 (K : Nat) (x : (List UInt8) × (List UInt8) × Int × Bool × List (Int × Int × List UInt8)) : Option (Bool × (List UInt8) × Int × Bool × List (Int × Int × List UInt8)) :=
  bindO (α := (Bool × (List UInt8) × Int × Bool × List (Int × Int × List UInt8)) ⊕ ((List UInt8) × (List UInt8) × Int × Bool × List (Int × Int × List UInt8))) (bindO (α := (List UInt8) × Bool × (List UInt8) × Int × Bool × List (Int × Int × List UInt8)) (branch (decide ((w64 ((x.2.1.length : Int) - x.2.2.1)) < (x.1.length : Int)))
       (some (x.1, true, x.2))
       (guard (decide (0 ≤ x.2.2.1 ∧ x.2.2.1 ≤ (w64 (x.2.2.1 + (x.1.length : Int))) ∧ (w64 (x.2.2.1 + (x.1.length : Int))) ≤ (x.2.1.length : Int))) <|
       some (x.1, !(decide ((subL x.2.1 x.2.2.1 (w64 (x.2.2.1 + (x.1.length : Int)))) = x.1)), x.2))) fun v0 =>
    branch v0.2.1
     (some (.inl (false, v0.2.2)))
     (some (.inr (v0.1, v0.2.2)))) fun v1 =>
  csO v1
   (fun v2 => some v2)
   (fun v3 => some (true, v3.2.1, w64 (v3.2.2.1 + (v3.1.length : Int)), v3.2.2.2))
def ct132 (K : Nat) : Ct := ⟨[.l (.ptr 0 0 0), .l (.v .s)], [⟨4, false, .mix (some 109) [[.l (.v .s), .l (.v (.i .i64)), .l (.all 1), .l (.v .b)]]⟩, ⟨3, true, .row (.c (.i .i64) (.c (.i .i64) .s))⟩], [.l (.v .b)], [⟨4, false, .mix (some 109) [[.l (.v .s), .l (.v (.i .i64)), .l (.all 1), .l (.v .b)]]⟩, ⟨3, true, .row (.c (.i .i64) (.c (.i .i64) .s))⟩], [], F132 K⟩
theorem c132 (K : Nat) : CtOk prog 132 (ct132 K) :=
  con_mk (Y := Y) (L := []) (K := K) (an := (.seq .no (.seqJ [(1000000, ⟨(.l (.ptr 0 0 0) :: .l (.v .s) :: ru 46 []), [(0, ⟨4, false, .mix (some 109) [[.l (.v .s), .l (.v (.i .i64)), .l (.all 1), .l (.v .b)]]⟩), (1, ⟨3, true, .row (.c (.i .i64) (.c (.i .i64) .s))⟩)]⟩)] true (.seqJ [(1000000, ⟨(.l (.ptr 0 0 0) :: .l (.v .s) :: ru 35 (.l (.v .b) :: ru 10 [])), [(0, ⟨4, false, .mix (some 109) [[.l (.v .s), .l (.v (.i .i64)), .l (.all 1), .l (.v .b)]]⟩), (1, ⟨3, true, .row (.c (.i .i64) (.c (.i .i64) .s))⟩)]⟩)] false .no (.cond .no .no)) (.seq .no .no)))) func132 mixed ctabOk_nil (by kernel_rfl) fun x => by kernel_rfl
-- (*loop.example/g00460/spec.l2P).op
def F106_b0 (K : Nat) (x : (List (List UInt8)) × Int × (List UInt8) × Int × Bool × List (Int × Int × List UInt8)) : Option (((List (List UInt8)) × Int × (List UInt8) × Int × Bool × List (Int × Int × List UInt8)) ⊕ ((Int × (List UInt8) × Int × Bool × List (Int × Int × List UInt8)) ⊕ ((List UInt8) × Int × Bool × List (Int × Int × List UInt8)))) :=
  branch (decide (8 ≤ x.2.1))
   (nth x.1 x.2.1 fun v0 =>
   bindO (α := (List (List UInt8)) × Int × Bool × (List UInt8) × Int × Bool × List (Int × Int × List UInt8)) (branch (decide ((v0.length : Int) ≤ (w64 ((x.2.2.1.length : Int) - x.2.2.2.1))))
      (guard (decide (0 ≤ x.2.2.2.1 ∧ x.2.2.2.1 ≤ (w64 (x.2.2.2.1 + (v0.length : Int))) ∧ (w64 (x.2.2.2.1 + (v0.length : Int))) ≤ (x.2.2.1.length : Int))) <|
      nth x.1 x.2.1 fun v1 =>
      some (x.1, x.2.1, decide ((subL x.2.2.1 x.2.2.2.1 (w64 (x.2.2.2.1 + (v0.length : Int)))) = v1), x.2.2))
      (some (x.1, x.2.1, false, x.2.2))) fun v2 =>
   branch v2.2.2.1
    (some (.inr (.inl (v2.2.1, v2.2.2.2))))
    (some (.inl (v2.1, w64 (v2.2.1 - 1), v2.2.2.2))))
   (some (.inr (.inr x.2.2)))
def F106 (K : Nat) (x : (List UInt8) × Int × Bool × List (Int × Int × List UInt8)) : Option (Int × (List UInt8) × Int × Bool × List (Int × Int × List UInt8)) :=
  bindO (F108 K ()) fun v0 =>
  bindO (iter K (F106_b0 K) (v0, 17, x)) fun v1 =>
  csO v1
   (fun v2 => some v2)
   (fun v3 => some (0, v3))
def ct106 (K : Nat) : Ct := ⟨[.l (.ptr 0 0 0)], [⟨4, false, .mix (some 109) [[.l (.v .s), .l (.v (.i .i64)), .l (.all 1), .l (.v .b)]]⟩, ⟨3, true, .row (.c (.i .i64) (.c (.i .i64) .s))⟩], [.l (.v (.i .i64))], [⟨4, false, .mix (some 109) [[.l (.v .s), .l (.v (.i .i64)), .l (.all 1), .l (.v .b)]]⟩, ⟨3, true, .row (.c (.i .i64) (.c (.i .i64) .s))⟩], [], F106 K⟩
theorem c106 (K : Nat) : CtOk prog 106 (ct106 K) :=
  con_mk (Y := Y) (L := [(108, ct108 K)]) (K := K) (an := (.seq .no (.seq .no (.seq (.seq .no (.blk (.loop [] ⟨(.l (.ptr 0 0 0) :: ru 2 (.l (.v (.l .s)) :: .l (.v (.i .i64)) :: ru 46 [])), [(0, ⟨4, false, .mix (some 109) [[.l (.v .s), .l (.v (.i .i64)), .l (.all 1), .l (.v .b)]]⟩), (1, ⟨3, true, .row (.c (.i .i64) (.c (.i .i64) .s))⟩)]⟩ [(0, ⟨(ru 51 []), [(0, ⟨4, false, .mix (some 109) [[.l (.v .s), .l (.v (.i .i64)), .l (.all 1), .l (.v .b)]]⟩), (1, ⟨3, true, .row (.c (.i .i64) (.c (.i .i64) .s))⟩)]⟩)] true (.seq (.seq .no .no) (.seq (.blk (.seq .no (.seqJ [(1000000, ⟨(.l (.ptr 0 0 0) :: ru 2 (.l (.v (.l .s)) :: .l (.v (.i .i64)) :: ru 44 (.l (.v .b) :: ru 1 []))), [(0, ⟨4, false, .mix (some 109) [[.l (.v .s), .l (.v (.i .i64)), .l (.all 1), .l (.v .b)]]⟩), (1, ⟨3, true, .row (.c (.i .i64) (.c (.i .i64) .s))⟩)]⟩)] false .no (.cond .no .no)))) .no))))) .no)))) func106 mixed (ctabOk_cons (c108 K) ctabOk_nil) (by kernel_rfl) fun x => by kernel_rfl
-- (*loop.example/g00460/spec.l2P).put
def F109 (K : Nat) (x : Int × Int × (List UInt8) × (List UInt8) × Int × Bool × List (Int × Int × List UInt8)) : Option ((List UInt8) × Int × Bool × List (Int × Int × List UInt8)) :=
  branch (decide (30 ≤ (x.2.2.2.2.2.2.length : Int)))
   (some (x.2.2.2.1, x.2.2.2.2.1, true, x.2.2.2.2.2.2))
   (guard (fitN (x.2.2.2.2.2.2.length + ([(x.1, x.2.1, x.2.2.1)].length)) 32) <|
   some (x.2.2.2.1, x.2.2.2.2.1, x.2.2.2.2.2.1, x.2.2.2.2.2.2 ++ [(x.1, x.2.1, x.2.2.1)]))
def ct109 (K : Nat) : Ct := ⟨[.l (.ptr 0 0 0), .l (.v (.i .i64)), .l (.v (.i .i64)), .l (.v .s)], [⟨4, false, .mix (some 109) [[.l (.v .s), .l (.v (.i .i64)), .l (.all 1), .l (.v .b)]]⟩, ⟨3, true, .row (.c (.i .i64) (.c (.i .i64) .s))⟩], [], [⟨4, false, .mix (some 109) [[.l (.v .s), .l (.v (.i .i64)), .l (.all 1), .l (.v .b)]]⟩, ⟨3, true, .row (.c (.i .i64) (.c (.i .i64) .s))⟩], [], F109 K⟩
theorem c109 (K : Nat) : CtOk prog 109 (ct109 K) :=
  con_mk (Y := Y) (L := []) (K := K) (an := (.seq (.seq .no (.cond .no .no)) .no)) func109 mixed ctabOk_nil (by kernel_rfl) fun x => by kernel_rfl
-- (*loop.example/g00460/spec.l2P).word
def F133_b0 (K : Nat) (x : Int × (List UInt8) × Int × Bool × List (Int × Int × List UInt8)) : Option ((Int × (List UInt8) × Int × Bool × List (Int × Int × List UInt8)) ⊕ (Int × (List UInt8) × Int × Bool × List (Int × Int × List UInt8))) :=
  bindO (α := (Int × (List UInt8) × Int × Bool × List (Int × Int × List UInt8)) ⊕ (Int × (List UInt8) × Int × Bool × List (Int × Int × List UInt8))) (branch (decide (x.2.2.1 < (x.2.1.length : Int)))
     (nth x.2.1 x.2.2.1 fun v0 =>
     bindO (F51 K (v0.toNat : Int)) fun v1 =>
     branch v1
      (some (.inl x))
      (nth x.2.1 x.2.2.1 fun v2 =>
      branch (decide (48 ≤ (v2.toNat : Int)))
       (nth x.2.1 x.2.2.1 fun v3 =>
       branch (decide ((v3.toNat : Int) ≤ 57))
        (some (.inl x))
        (nth x.2.1 x.2.2.1 fun v4 =>
        branch (decide (65 ≤ (v4.toNat : Int)))
         (nth x.2.1 x.2.2.1 fun v5 =>
         branch (decide ((v5.toNat : Int) ≤ 70))
          (some (.inl x))
          (some (.inr x)))
         (some (.inr x))))
       (nth x.2.1 x.2.2.1 fun v6 =>
       branch (decide (65 ≤ (v6.toNat : Int)))
        (nth x.2.1 x.2.2.1 fun v7 =>
        branch (decide ((v7.toNat : Int) ≤ 70))
         (some (.inl x))
         (some (.inr x)))
        (some (.inr x)))))
     (some (.inr x))) fun v8 =>
  csO v8
   (fun v9 => some (.inl (v9.1, v9.2.1, w64 (v9.2.2.1 + 1), v9.2.2.2)))
   (fun v10 => some (.inr v10))
def F133 (K : Nat) (x : (List UInt8) × Int × Bool × List (Int × Int × List UInt8)) : Option ((List UInt8) × (List UInt8) × Int × Bool × List (Int × Int × List UInt8)) :=
  bindO (iter K (F133_b0 K) (x.2.1, x)) fun v0 =>
  guard (decide (0 ≤ v0.1 ∧ v0.1 ≤ v0.2.2.1 ∧ v0.2.2.1 ≤ (v0.2.1.length : Int))) <|
  some (subL v0.2.1 v0.1 v0.2.2.1, v0.2)
def ct133 (K : Nat) : Ct := ⟨[.l (.ptr 0 0 0)], [⟨4, false, .mix (some 109) [[.l (.v .s), .l (.v (.i .i64)), .l (.all 1), .l (.v .b)]]⟩, ⟨3, true, .row (.c (.i .i64) (.c (.i .i64) .s))⟩], [.l (.v .s)], [⟨4, false, .mix (some 109) [[.l (.v .s), .l (.v (.i .i64)), .l (.all 1), .l (.v .b)]]⟩, ⟨3, true, .row (.c (.i .i64) (.c (.i .i64) .s))⟩], [], F133 K⟩
theorem c133 (K : Nat) : CtOk prog 133 (ct133 K) :=
  con_mk (Y := Y) (L := [(51, ct51 K)]) (K := K) (an := (.seq .no (.seq .no (.seq (.blk (.loop [] ⟨(.l (.ptr 0 0 0) :: ru 2 (.l (.v (.i .i64)) :: ru 91 [])), [(0, ⟨4, false, .mix (some 109) [[.l (.v .s), .l (.v (.i .i64)), .l (.all 1), .l (.v .b)]]⟩), (1, ⟨3, true, .row (.c (.i .i64) (.c (.i .i64) .s))⟩)]⟩ [(0, ⟨(.l (.ptr 0 0 0) :: ru 2 (.l (.v (.i .i64)) :: ru 91 [])), [(0, ⟨4, false, .mix (some 109) [[.l (.v .s), .l (.v (.i .i64)), .l (.all 1), .l (.v .b)]]⟩), (1, ⟨3, true, .row (.c (.i .i64) (.c (.i .i64) .s))⟩)]⟩)] false (.seqJ [(1000000, ⟨(.l (.ptr 0 0 0) :: ru 2 (.l (.v (.i .i64)) :: ru 91 [])), [(0, ⟨4, false, .mix (some 109) [[.l (.v .s), .l (.v (.i .i64)), .l (.all 1), .l (.v .b)]]⟩), (1, ⟨3, true, .row (.c (.i .i64) (.c (.i .i64) .s))⟩)]⟩), (0, ⟨(.l (.ptr 0 0 0) :: ru 2 (.l (.v (.i .i64)) :: ru 91 [])), [(0, ⟨4, false, .mix (some 109) [[.l (.v .s), .l (.v (.i .i64)), .l (.all 1), .l (.v .b)]]⟩), (1, ⟨3, true, .row (.c (.i .i64) (.c (.i .i64) .s))⟩)]⟩)] false (.seq .no .no) .no))) .no)))) func133 mixed (ctabOk_cons (c51 K) ctabOk_nil) (by kernel_rfl) fun x => by kernel_rfl
-- (*loop.example/g00460/impl.formula).sign
def F125 (K : Nat) (x : (List UInt8) × (List UInt8) × Int × Bool × List (Int × Int × List UInt8)) : Option (Bool × (List UInt8) × Int × Bool × List (Int × Int × List UInt8)) :=
  bindO (α := (Bool × (List UInt8) × Int × Bool × List (Int × Int × List UInt8)) ⊕ ((List UInt8) × (List UInt8) × Int × Bool × List (Int × Int × List UInt8))) (bindO (α := (List UInt8) × Bool × (List UInt8) × Int × Bool × List (Int × Int × List UInt8)) (branch x.2.2.2.1
       (some (x.1, true, x.2))
       (guard (decide (0 ≤ x.2.2.1 ∧ x.2.2.1 ≤ (x.2.1.length : Int))) <|
       bindO (F144 K (dpL x.2.1 x.2.2.1, x.1)) fun v0 =>
       some (x.1, !v0, x.2))) fun v1 =>
    branch v1.2.1
     (some (.inl (false, v1.2.2)))
     (some (.inr (v1.1, v1.2.2)))) fun v2 =>
  csO v2
   (fun v3 => some v3)
   (fun v4 => some (true, v4.2.1, w64 (v4.2.2.1 + (v4.1.length : Int)), v4.2.2.2))
def ct125 (K : Nat) : Ct := ⟨[.l (.ptr 0 0 0), .l (.v .s)], [⟨4, false, .mix (some 116) [[.l (.v .s), .l (.v (.i .i64)), .l (.all 1), .l (.v .b)]]⟩, ⟨3, true, .row (.c (.i .i64) (.c (.i .i64) .s))⟩], [.l (.v .b)], [⟨4, false, .mix (some 116) [[.l (.v .s), .l (.v (.i .i64)), .l (.all 1), .l (.v .b)]]⟩, ⟨3, true, .row (.c (.i .i64) (.c (.i .i64) .s))⟩], [], F125 K⟩
theorem c125 (K : Nat) : CtOk prog 125 (ct125 K) :=
  con_mk (Y := Y) (L := [(144, ct144 K)]) (K := K) (an := (.seq .no (.seqJ [(1000000, ⟨(.l (.ptr 0 0 0) :: .l (.v .s) :: ru 30 []), [(0, ⟨4, false, .mix (some 116) [[.l (.v .s), .l (.v (.i .i64)), .l (.all 1), .l (.v .b)]]⟩), (1, ⟨3, true, .row (.c (.i .i64) (.c (.i .i64) .s))⟩)]⟩)] true (.seqJ [(1000000, ⟨(.l (.ptr 0 0 0) :: .l (.v .s) :: ru 20 (.l (.v .b) :: ru 9 [])), [(0, ⟨4, false, .mix (some 116) [[.l (.v .s), .l (.v (.i .i64)), .l (.all 1), .l (.v .b)]]⟩), (1, ⟨3, true, .row (.c (.i .i64) (.c (.i .i64) .s))⟩)]⟩)] false .no (.cond .no .no)) (.seq .no .no)))) func125 mixed (ctabOk_cons (c144 K) ctabOk_nil) (by kernel_rfl) fun x => by kernel_rfl
-- (*loop.example/g00460/impl.formula).run
def F153_b0 (K : Nat) (x : Int × (List UInt8) × Int × Bool × List (Int × Int × List UInt8)) : Option ((Int × (List UInt8) × Int × Bool × List (Int × Int × List UInt8)) ⊕ (Int × (List UInt8) × Int × Bool × List (Int × Int × List UInt8))) :=
  branch (decide (x.2.2.1 < (x.2.1.length : Int)))
   (nth x.2.1 x.2.2.1 fun v0 =>
   bindO (α := (Int × (List UInt8) × Int × Bool × List (Int × Int × List UInt8)) ⊕ (Int × (List UInt8) × Int × Bool × List (Int × Int × List UInt8))) (bindO (F75 K (v0.toNat : Int)) fun v1 =>
     branch (!v1)
      (bindO (F74 K (v0.toNat : Int)) fun v2 =>
      branch (!v2)
       (branch (!(decide ((v0.toNat : Int) = 95)))
        (branch (!(decide ((v0.toNat : Int) = 46)))
         (branch (decide (65 ≤ (v0.toNat : Int)))
          (branch (!(decide ((v0.toNat : Int) ≤ 70)))
           (some (.inr x))
           (some (.inl x)))
          (some (.inr x)))
         (some (.inl x)))
        (some (.inl x)))
       (some (.inl x)))
      (some (.inl x))) fun v3 =>
   csO v3
    (fun v4 => some (.inl (v4.1, v4.2.1, w64 (v4.2.2.1 + 1), v4.2.2.2)))
    (fun v5 => some (.inr v5)))
   (some (.inr x))
def F153 (K : Nat) (x : (List UInt8) × Int × Bool × List (Int × Int × List UInt8)) : Option ((List UInt8) × (List UInt8) × Int × Bool × List (Int × Int × List UInt8)) :=
  bindO (iter K (F153_b0 K) (x.2.1, x)) fun v0 =>
  guard (decide (0 ≤ v0.1 ∧ v0.1 ≤ v0.2.2.1 ∧ v0.2.2.1 ≤ (v0.2.1.length : Int))) <|
  some (subL v0.2.1 v0.1 v0.2.2.1, v0.2)
def ct153 (K : Nat) : Ct := ⟨[.l (.ptr 0 0 0)], [⟨4, false, .mix (some 116) [[.l (.v .s), .l (.v (.i .i64)), .l (.all 1), .l (.v .b)]]⟩, ⟨3, true, .row (.c (.i .i64) (.c (.i .i64) .s))⟩], [.l (.v .s)], [⟨4, false, .mix (some 116) [[.l (.v .s), .l (.v (.i .i64)), .l (.all 1), .l (.v .b)]]⟩, ⟨3, true, .row (.c (.i .i64) (.c (.i .i64) .s))⟩], [], F153 K⟩
theorem c153 (K : Nat) : CtOk prog 153 (ct153 K) :=
  con_mk (Y := Y) (L := [(74, ct74 K), (75, ct75 K)]) (K := K) (an := (.seq .no (.seq .no (.seq (.blk (.loop [] ⟨(.l (.ptr 0 0 0) :: ru 2 (.l (.v (.i .i64)) :: ru 66 [])), [(0, ⟨4, false, .mix (some 116) [[.l (.v .s), .l (.v (.i .i64)), .l (.all 1), .l (.v .b)]]⟩), (1, ⟨3, true, .row (.c (.i .i64) (.c (.i .i64) .s))⟩)]⟩ [(0, ⟨(.l (.ptr 0 0 0) :: ru 2 (.l (.v (.i .i64)) :: ru 66 [])), [(0, ⟨4, false, .mix (some 116) [[.l (.v .s), .l (.v (.i .i64)), .l (.all 1), .l (.v .b)]]⟩), (1, ⟨3, true, .row (.c (.i .i64) (.c (.i .i64) .s))⟩)]⟩)] false (.seq (.seq .no .no) (.blk (.seq .no (.seqJ [(1000000, ⟨(.l (.ptr 0 0 0) :: ru 2 (.l (.v (.i .i64)) :: ru 66 [])), [(0, ⟨4, false, .mix (some 116) [[.l (.v .s), .l (.v (.i .i64)), .l (.all 1), .l (.v .b)]]⟩), (1, ⟨3, true, .row (.c (.i .i64) (.c (.i .i64) .s))⟩)]⟩), (0, ⟨(.l (.ptr 0 0 0) :: ru 2 (.l (.v (.i .i64)) :: ru 66 [])), [(0, ⟨4, false, .mix (some 116) [[.l (.v .s), .l (.v (.i .i64)), .l (.all 1), .l (.v .b)]]⟩), (1, ⟨3, true, .row (.c (.i .i64) (.c (.i .i64) .s))⟩)]⟩)] false (.seq .no .no) .no)))))) .no)))) func153 mixed (ctabOk_cons (c74 K) (ctabOk_cons (c75 K) ctabOk_nil)) (by kernel_rfl) fun x => by kernel_rfl
-- (*loop.example/g00460/impl.formula).need
def F142 (K : Nat) (x : (List UInt8) × (List UInt8) × Int × Bool × List (Int × Int × List UInt8)) : Option ((List UInt8) × Int × Bool × List (Int × Int × List UInt8)) :=
  bindO (F125 K x) fun v0 =>
  branch (!v0.1)
   (some (v0.2.1, v0.2.2.1, true, v0.2.2.2.2))
   (some v0.2)
def ct142 (K : Nat) : Ct := ⟨[.l (.ptr 0 0 0), .l (.v .s)], [⟨4, false, .mix (some 116) [[.l (.v .s), .l (.v (.i .i64)), .l (.all 1), .l (.v .b)]]⟩, ⟨3, true, .row (.c (.i .i64) (.c (.i .i64) .s))⟩], [], [⟨4, false, .mix (some 116) [[.l (.v .s), .l (.v (.i .i64)), .l (.all 1), .l (.v .b)]]⟩, ⟨3, true, .row (.c (.i .i64) (.c (.i .i64) .s))⟩], [], F142 K⟩
theorem c142 (K : Nat) : CtOk prog 142 (ct142 K) :=
  con_mk (Y := Y) (L := [(125, ct125 K)]) (K := K) (an := .no) func142 mixed (ctabOk_cons (c125 K) ctabOk_nil) (by kernel_rfl) fun x => by kernel_rfl
-- (*loop.example/g00460/impl.formula).put
def F127 (K : Nat) (x : Int × Int × (List UInt8) × (List UInt8) × Int × Bool × List (Int × Int × List UInt8)) : Option ((List UInt8) × Int × Bool × List (Int × Int × List UInt8)) :=
  guard (fitN (x.2.2.2.2.2.2.length + ([(x.1, x.2.1, x.2.2.1)].length)) 32) <|
  branch x.2.2.2.2.2.1
   (some (x.2.2.2.1, x.2.2.2.2.1, true, x.2.2.2.2.2.2 ++ [(x.1, x.2.1, x.2.2.1)]))
   (some (x.2.2.2.1, x.2.2.2.2.1, decide (30 < ((x.2.2.2.2.2.2 ++ [(x.1, x.2.1, x.2.2.1)]).length : Int)), x.2.2.2.2.2.2 ++ [(x.1, x.2.1, x.2.2.1)]))
def ct127 (K : Nat) : Ct := ⟨[.l (.ptr 0 0 0), .agg [(.v (.i .i64)), (.v (.i .i64)), (.v .s)]], [⟨4, false, .mix (some 116) [[.l (.v .s), .l (.v (.i .i64)), .l (.all 1), .l (.v .b)]]⟩, ⟨3, true, .row (.c (.i .i64) (.c (.i .i64) .s))⟩], [], [⟨4, false, .mix (some 116) [[.l (.v .s), .l (.v (.i .i64)), .l (.all 1), .l (.v .b)]]⟩, ⟨3, true, .row (.c (.i .i64) (.c (.i .i64) .s))⟩], [], F127 K⟩
theorem c127 (K : Nat) : CtOk prog 127 (ct127 K) :=
  con_mk (Y := Y) (L := []) (K := K) (an := (.seq .no (.seq (.reg [6] []) .no))) func127 mixed ctabOk_nil (by kernel_rfl) fun x => by kernel_rfl
-- loop.example/g00460/laws.markStringS
def F12_b0 (K : Nat) (x : Int × Int × List (List UInt8)) : Option ((Int × Int × List (List UInt8)) ⊕ (Int × List (List UInt8))) :=
  branch (decide (x.2.1 < (x.2.2.length : Int)))
   (bindO (F27 K x.1) fun v0 =>
   guard (decide (0 ≤ x.2.1 ∧ x.2.1 < (x.2.2.length : Int))) <|
   nthN x.2.2 x.2.1.toNat fun v1 =>
   some (.inl (w64 (x.1 + 1), w64 (x.2.1 + 1), List.set x.2.2 x.2.1.toNat v0)))
   (some (.inr (x.1, x.2.2)))
def F12 (K : Nat) (x : Int × List (List UInt8)) : Option (Int × List (List UInt8)) :=
  bindO (iter K (F12_b0 K) (x.1, 0, x.2)) fun v0 =>
  some v0
def ct12 (K : Nat) : Ct := ⟨[.l (.all 0), .l (.v (.i .i64))], [⟨1, false, .row .s⟩], [.l (.v (.i .i64))], [⟨1, false, .row .s⟩], [true], F12 K⟩
theorem c12 (K : Nat) : CtOk prog 12 (ct12 K) :=
  con_mk (Y := Y) (L := [(27, ct27 K)]) (K := K) (an := (.seq .no (.seq (.seq .no (.blk (.loop [] ⟨(.l (.all 0) :: .l (.v (.i .i64)) :: ru 3 (.l (.v (.i .i64)) :: ru 14 [])), [(0, ⟨1, false, .row .s⟩)]⟩ [(0, ⟨(ru 1 (.l (.v (.i .i64)) :: ru 18 [])), [(0, ⟨1, false, .row .s⟩)]⟩)] false (.seq (.seq .no .no) (.seq (.blk .no) .no))))) .no))) func12 mixed (ctabOk_cons (c27 K) ctabOk_nil) (by kernel_rfl) fun x => by kernel_rfl
end Go.U.Tryz
