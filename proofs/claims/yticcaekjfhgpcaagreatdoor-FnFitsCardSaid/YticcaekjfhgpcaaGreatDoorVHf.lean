/- A part of the proof. No condition. -/
import Derived.Test.YticcaekjfhgpcaaGreatDoorVHy
set_option linter.unusedVariables false
set_option linter.unusedSimpArgs false
set_option linter.unusedSectionVars false
namespace Go.U.Tryz
open Go Go.U Go.Proofs Go.Proofs.Tryz
set_option maxRecDepth 100000
-- loop.example/g00460/laws.big
def F11 (K : Nat) (x : List Int) : Option (Bool) :=
  some (decide (1048576 < (x.length : Int)))
def ct11 (K : Nat) : Ct := ⟨[.l (.v (.l (.i .u8)))], [], [.l (.v .b)], [], [], F11 K⟩
theorem c11 (K : Nat) : CtOk prog 11 (ct11 K) :=
  con_mk (Y := Y) (L := []) (K := K) (an := (.seq .no .no)) func11 mixed ctabOk_nil (by kernel_rfl) fun x => by kernel_rfl
-- loop.example/g00460/spec.l1Open
def F25 (K : Nat) (x : List Int) : Option ((List Int) × Int) :=
  some (x, 0)
def ct25 (K : Nat) : Ct := ⟨[.l (.v (.l (.i .u8)))], [], [.l (.ptr 0 0 0)], [⟨2, false, .mix (some 67) [[.l (.v (.l (.i .u8))), .l (.v (.i .i64))]]⟩], [], F25 K⟩
theorem c25 (K : Nat) : CtOk prog 25 (ct25 K) :=
  con_mk (Y := Y) (L := []) (K := K) (an := (.seq .no .no)) func25 mixed ctabOk_nil (by kernel_rfl) fun x => by kernel_rfl
-- (*loop.example/g00460/spec.l1Rd).next
def F52 (K : Nat) (x : (List Int) × Int) : Option (Int × (List Int) × Int) :=
  branch (decide ((x.1.length : Int) ≤ x.2))
   (some (0, x))
   (nth x.1 (w64 ((w64 (x.2 + 1)) - 1)) fun v0 =>
   some (w64 v0, x.1, w64 (x.2 + 1)))
def ct52 (K : Nat) : Ct := ⟨[.l (.ptr 0 0 0)], [⟨2, false, .mix (some 67) [[.l (.v (.l (.i .u8))), .l (.v (.i .i64))]]⟩], [.l (.v (.i .i64))], [⟨2, false, .mix (some 67) [[.l (.v (.l (.i .u8))), .l (.v (.i .i64))]]⟩], [], F52 K⟩
theorem c52 (K : Nat) : CtOk prog 52 (ct52 K) :=
  con_mk (Y := Y) (L := []) (K := K) (an := (.seq .no (.seq (.seq .no (.cond .no .no)) (.seq .no .no)))) func52 mixed ctabOk_nil (by kernel_rfl) fun x => by kernel_rfl
-- (*loop.example/g00460/spec.l1Rd).below
def F26 (K : Nat) (x : Int × (List Int) × Int) : Option (Int × (List Int) × Int) :=
  branch (decide (x.1 ≤ 1))
   (some (0, x.2))
   (branch (decide (x.1 ≤ 256))
    (bindO (F52 K x.2) fun v0 =>
    guard (!(decide (x.1 = 0))) <|
    some (Int.tmod v0.1 x.1, v0.2))
    (bindO (F52 K x.2) fun v1 =>
    bindO (F52 K v1.2) fun v2 =>
    guard (!(decide (x.1 = 0))) <|
    some (Int.tmod (w64 ((w64 (v1.1 * 256)) + v2.1)) x.1, v2.2)))
def ct26 (K : Nat) : Ct := ⟨[.l (.ptr 0 0 0), .l (.v (.i .i64))], [⟨2, false, .mix (some 67) [[.l (.v (.l (.i .u8))), .l (.v (.i .i64))]]⟩], [.l (.v (.i .i64))], [⟨2, false, .mix (some 67) [[.l (.v (.l (.i .u8))), .l (.v (.i .i64))]]⟩], [], F26 K⟩
theorem c26 (K : Nat) : CtOk prog 26 (ct26 K) :=
  con_mk (Y := Y) (L := [(52, ct52 K)]) (K := K) (an := (.seq .no (.seq (.seq .no (.cond .no .no)) (.seq (.seq .no (.cond .no .no)) (.seq .no (.seq .no .no)))))) func26 mixed (ctabOk_cons (c52 K) ctabOk_nil) (by kernel_rfl) fun x => by kernel_rfl
-- (*loop.example/g00460/spec.l1Rd).once
def F55 (K : Nat) (x : Int × (List Int) × Int) : Option (Bool × (List Int) × Int) :=
  bindO (F26 K x) fun v0 =>
  some (decide (v0.1 = (w64 (x.1 - 1))), v0.2)
def ct55 (K : Nat) : Ct := ⟨[.l (.ptr 0 0 0), .l (.v (.i .i64))], [⟨2, false, .mix (some 67) [[.l (.v (.l (.i .u8))), .l (.v (.i .i64))]]⟩], [.l (.v .b)], [⟨2, false, .mix (some 67) [[.l (.v (.l (.i .u8))), .l (.v (.i .i64))]]⟩], [], F55 K⟩
theorem c55 (K : Nat) : CtOk prog 55 (ct55 K) :=
  con_mk (Y := Y) (L := [(26, ct26 K)]) (K := K) (an := (.seq .no .no)) func55 mixed (ctabOk_cons (c26 K) ctabOk_nil) (by kernel_rfl) fun x => by kernel_rfl
-- (*loop.example/g00460/spec.l1Rd).byte
def F56 (K : Nat) (x : (List Int) × Int) : Option (Int × (List Int) × Int) :=
  bindO (F55 K (2, x)) fun v0 =>
  branch v0.1
   (bindO (F26 K (8, v0.2)) fun v1 =>
   guard (decide (0 ≤ v1.1 ∧ v1.1 < (8 : Int))) <|
   nthN [0, 1, 127, 128, 255, 15, 16, 240] v1.1.toNat fun v2 =>
   some (v2, v1.2))
   (bindO (F26 K (256, v0.2)) fun v3 =>
   some v3)
def ct56 (K : Nat) : Ct := ⟨[.l (.ptr 0 0 0)], [⟨2, false, .mix (some 67) [[.l (.v (.l (.i .u8))), .l (.v (.i .i64))]]⟩], [.l (.v (.i .i64))], [⟨2, false, .mix (some 67) [[.l (.v (.l (.i .u8))), .l (.v (.i .i64))]]⟩], [], F56 K⟩
theorem c56 (K : Nat) : CtOk prog 56 (ct56 K) :=
  con_mk (Y := Y) (L := [(26, ct26 K), (55, ct55 K)]) (K := K) (an := (.seq .no (.seq (.seq .no (.cond .no .no)) .no))) func56 mixed (ctabOk_cons (c26 K) (ctabOk_cons (c55 K) ctabOk_nil)) (by kernel_rfl) fun x => by kernel_rfl
-- (*loop.example/g00460/spec.l1Rd).word
def F124_b0 (K : Nat) (x : Int × Int × (List Int) × Int) : Option ((Int × Int × (List Int) × Int) ⊕ (Int × (List Int) × Int)) :=
  branch (decide (x.2.1 < 8))
   (bindO (F52 K x.2.2) fun v0 =>
   some (.inl (Go.bits Go.BinOp.or Go.IntKind.u64 (shlI Go.IntKind.u64 x.1 8) (w64u v0.1), w64 (x.2.1 + 1), v0.2)))
   (some (.inr (x.1, x.2.2)))
def F124 (K : Nat) (x : (List Int) × Int) : Option (Int × (List Int) × Int) :=
  bindO (iter K (F124_b0 K) (0, 0, x)) fun v0 =>
  some v0
def ct124 (K : Nat) : Ct := ⟨[.l (.ptr 0 0 0)], [⟨2, false, .mix (some 67) [[.l (.v (.l (.i .u8))), .l (.v (.i .i64))]]⟩], [.l (.v (.i .u64))], [⟨2, false, .mix (some 67) [[.l (.v (.l (.i .u8))), .l (.v (.i .i64))]]⟩], [], F124 K⟩
theorem c124 (K : Nat) : CtOk prog 124 (ct124 K) :=
  con_mk (Y := Y) (L := [(52, ct52 K)]) (K := K) (an := (.seq .no (.seq .no (.seq (.seq .no (.blk (.loop [] ⟨(.l (.ptr 0 0 0) :: ru 2 (.l (.v (.i .u64)) :: .l (.v (.i .i64)) :: ru 11 [])), [(0, ⟨2, false, .mix (some 67) [[.l (.v (.l (.i .u8))), .l (.v (.i .i64))]]⟩)]⟩ [(0, ⟨(ru 3 (.l (.v (.i .u64)) :: ru 12 [])), [(0, ⟨2, false, .mix (some 67) [[.l (.v (.l (.i .u8))), .l (.v (.i .i64))]]⟩)]⟩)] false (.seq (.seq .no .no) (.seq .no .no))))) .no)))) func124 mixed (ctabOk_cons (c52 K) ctabOk_nil) (by kernel_rfl) fun x => by kernel_rfl
-- (*loop.example/g00460/spec.l1Rd).near
def F90 (K : Nat) (x : Int × Int × (List Int) × Int) : Option (Int × (List Int) × Int) :=
  bindO (F26 K (8, x.2.2)) fun v0 =>
  branch (decide (v0.1 = 0))
   (some (x.1, v0.2))
   (branch (decide (v0.1 = 1))
    (some (x.2.1, v0.2))
    (branch (decide (x.2.1 < x.1))
     (some (x.1, v0.2))
     (bindO (F124 K v0.2) fun v1 =>
     guard (!(decide ((w64u (w64 ((w64 (x.2.1 - x.1)) + 1))) = 0))) <|
     some (w64 (x.1 + (w64 (Int.tmod (shrI Go.IntKind.u64 v1.1 1) (w64u (w64 ((w64 (x.2.1 - x.1)) + 1)))))), v1.2))))
def ct90 (K : Nat) : Ct := ⟨[.l (.ptr 0 0 0), .l (.v (.i .i64)), .l (.v (.i .i64))], [⟨2, false, .mix (some 67) [[.l (.v (.l (.i .u8))), .l (.v (.i .i64))]]⟩], [.l (.v (.i .i64))], [⟨2, false, .mix (some 67) [[.l (.v (.l (.i .u8))), .l (.v (.i .i64))]]⟩], [], F90 K⟩
theorem c90 (K : Nat) : CtOk prog 90 (ct90 K) :=
  con_mk (Y := Y) (L := [(26, ct26 K), (124, ct124 K)]) (K := K) (an := (.seq .no (.seq (.seq .no (.blk (.seq .no (.cond .no (.seq .no (.cond .no .no)))))) (.seq (.seq .no (.cond .no .no)) .no)))) func90 mixed (ctabOk_cons (c26 K) (ctabOk_cons (c124 K) ctabOk_nil)) (by kernel_rfl) fun x => by kernel_rfl
-- (*loop.example/g00460/spec.l1Rd).off
def F57 (K : Nat) (x : Int × Int × (List Int) × Int) : Option (Int × (List Int) × Int) :=
  bindO (F55 K (24, x.2.2)) fun v0 =>
  branch v0.1
   (bindO (F26 K (4, v0.2)) fun v1 =>
   guard (decide (0 ≤ v1.1 ∧ v1.1 < ([w64 (x.1 - 1), w64 (x.2.1 + 1), (-9223372036854775808), 9223372036854775807].length : Int))) <|
   nthN [w64 (x.1 - 1), w64 (x.2.1 + 1), (-9223372036854775808), 9223372036854775807] v1.1.toNat fun v2 =>
   some (v2, v1.2))
   (bindO (F90 K (x.1, x.2.1, v0.2)) fun v3 =>
   some v3)
def ct57 (K : Nat) : Ct := ⟨[.l (.ptr 0 0 0), .l (.v (.i .i64)), .l (.v (.i .i64))], [⟨2, false, .mix (some 67) [[.l (.v (.l (.i .u8))), .l (.v (.i .i64))]]⟩], [.l (.v (.i .i64))], [⟨2, false, .mix (some 67) [[.l (.v (.l (.i .u8))), .l (.v (.i .i64))]]⟩], [], F57 K⟩
theorem c57 (K : Nat) : CtOk prog 57 (ct57 K) :=
  con_mk (Y := Y) (L := [(26, ct26 K), (55, ct55 K), (90, ct90 K)]) (K := K) (an := (.seq .no (.seq (.seq .no (.cond .no .no)) .no))) func57 mixed (ctabOk_cons (c26 K) (ctabOk_cons (c55 K) (ctabOk_cons (c90 K) ctabOk_nil))) (by kernel_rfl) fun x => by kernel_rfl
-- (*loop.example/g00460/spec.l1Rd).ins
def F29 (K : Nat) (x : (List Int) × Int) : Option (Int × Bool × Int × (List Int) × Int) :=
  bindO (F26 K (256, x)) fun v0 =>
  bindO (F55 K (4, v0.2)) fun v1 =>
  bindO (F18 K (v0.1, v1.1)) fun v2 =>
  bindO (F19 K v2) fun v3 =>
  bindO (α := Int × Bool × Int × Int × Bool × Int × (List Int) × Int) (branch (decide (v3.2 = ([110, 49, 54] : List UInt8)))
     (bindO (F26 K (65536, v1.2)) fun v4 =>
     some (v0.1, v1.1, v4.1, 0, false, 0, v4.2))
     (bindO (α := Bool × Int × Bool × Int × Int × Bool × Int × (List Int) × Int) (branch (decide (v3.2 = ([110, 56] : List UInt8)))
        (some (true, v0.1, v1.1, 0, 0, false, 0, v1.2))
        (some (decide (v3.2 = ([101, 56] : List UInt8)), v0.1, v1.1, 0, 0, false, 0, v1.2))) fun v5 =>
     branch v5.1
      (bindO (F56 K v5.2.2.2.2.2.2.2) fun v6 =>
      some (v5.2.1, v5.2.2.1, v6.1, v5.2.2.2.2.1, v5.2.2.2.2.2.1, v5.2.2.2.2.2.2.1, v6.2))
      (some v5.2))) fun v7 =>
  bindO (F55 K (40, v7.2.2.2.2.2.2)) fun v8 =>
  branch v8.1
   (bindO (F57 K (0, 255, v8.2)) fun v9 =>
   some (v7.1, v7.2.1, v9))
   (some (v7.1, v7.2.1, v7.2.2.1, v8.2))
def ct29 (K : Nat) : Ct := ⟨[.l (.ptr 0 0 0)], [⟨2, false, .mix (some 67) [[.l (.v (.l (.i .u8))), .l (.v (.i .i64))]]⟩], [.agg [(.v (.i .i64)), (.v .b), (.v (.i .i64))]], [⟨2, false, .mix (some 67) [[.l (.v (.l (.i .u8))), .l (.v (.i .i64))]]⟩], [], F29 K⟩
theorem c29 (K : Nat) : CtOk prog 29 (ct29 K) :=
  con_mk (Y := Y) (L := [(18, ct18 K), (19, ct19 K), (26, ct26 K), (55, ct55 K), (56, ct56 K), (57, ct57 K)]) (K := K) (an := (.seq .no (.seq .no (.seq .no (.seqJ [(1000000, ⟨(.l (.ptr 0 0 0) :: ru 1 (.l (.ptr 3000 0 0) :: .l (.ptr 4000 0 0) :: ru 34 [])), [(4000, ⟨3, false, .mix (some 23) [[.l (.v (.i .i64)), .l (.v .b), .l (.v (.i .i64))]]⟩), (3000, ⟨3, false, .mix (some 23) [[.l (.v (.i .i64)), .l (.v .b), .l (.v (.i .i64))]]⟩), (0, ⟨2, false, .mix (some 67) [[.l (.v (.l (.i .u8))), .l (.v (.i .i64))]]⟩)]⟩)] false (.seq .no (.blk (.seq .no (.cond .no (.seqJ [(1000000, ⟨(.l (.ptr 0 0 0) :: ru 1 (.l (.ptr 3000 0 0) :: .l (.ptr 4000 0 0) :: ru 22 (.l (.v .b) :: ru 11 []))), [(4000, ⟨3, false, .mix (some 23) [[.l (.v (.i .i64)), .l (.v .b), .l (.v (.i .i64))]]⟩), (3000, ⟨3, false, .mix (some 23) [[.l (.v (.i .i64)), .l (.v .b), .l (.v (.i .i64))]]⟩), (0, ⟨2, false, .mix (some 67) [[.l (.v (.l (.i .u8))), .l (.v (.i .i64))]]⟩)]⟩)] false (.seq .no .no) .no))))) (.seq (.seq .no .no) .no)))))) func29 mixed (ctabOk_cons (c18 K) (ctabOk_cons (c19 K) (ctabOk_cons (c26 K) (ctabOk_cons (c55 K) (ctabOk_cons (c56 K) (ctabOk_cons (c57 K) ctabOk_nil)))))) (by kernel_rfl) fun x => by kernel_rfl
-- loop.example/g00460/spec.l3Length
def F77 (K : Nat) (x : Int × Bool) : Option (Int) :=
  bindO (F18 K x) fun v0 =>
  branch (decide (v0 = []))
   (some 0)
   (branch x.2
    (some 2)
    (bindO (F19 K v0) fun v1 =>
    branch (decide (v1.2 = []))
     (some 1)
     (branch (decide (v1.2 = ([110, 49, 54] : List UInt8)))
      (some 3)
      (some 2))))
def ct77 (K : Nat) : Ct := ⟨[.l (.v (.i .i64)), .l (.v .b)], [], [.l (.v (.i .i64))], [], [], F77 K⟩
theorem c77 (K : Nat) : CtOk prog 77 (ct77 K) :=
  con_mk (Y := Y) (L := [(18, ct18 K), (19, ct19 K)]) (K := K) (an := (.seq .no (.seq .no (.seq (.seq .no (.cond .no .no)) (.seq (.seq .no (.cond .no .no)) (.seq .no (.seq (.seq .no (.blk (.seq .no (.cond .no (.seq .no (.cond .no .no)))))) .no))))))) func77 mixed (ctabOk_cons (c18 K) (ctabOk_cons (c19 K) ctabOk_nil)) (by kernel_rfl) fun x => by kernel_rfl
-- loop.example/g00460/spec.LengthOf
def F37 (K : Nat) (x : Int × Bool) : Option (Int) :=
  bindO (F38 K (x.1, 0, 255)) fun v0 =>
  branch (!v0)
   (some 0)
   (bindO (F77 K x) fun v1 =>
   some v1)
def ct37 (K : Nat) : Ct := ⟨[.l (.v (.i .i64)), .l (.v .b)], [], [.l (.v (.i .i64))], [], [], F37 K⟩
theorem c37 (K : Nat) : CtOk prog 37 (ct37 K) :=
  con_mk (Y := Y) (L := [(38, ct38 K), (77, ct77 K)]) (K := K) (an := (.seq .no (.seq (.seq .no (.cond .no .no)) .no))) func37 mixed (ctabOk_cons (c38 K) (ctabOk_cons (c77 K) ctabOk_nil)) (by kernel_rfl) fun x => by kernel_rfl
-- loop.example/g00460/spec.InsOk
def F17 (K : Nat) (x : Int × Bool × Int) : Option (Bool) :=
  bindO (F37 K (x.1, x.2.1)) fun v0 =>
  branch (decide (v0 = 0))
   (some false)
   (bindO (F18 K (x.1, x.2.1)) fun v1 =>
   bindO (F19 K v1) fun v2 =>
   branch (decide (v2.2 = ([110, 49, 54] : List UInt8)))
    (bindO (F38 K (x.2.2, 0, 65535)) fun v3 =>
    some v3)
    (bindO (α := Bool × Int × Bool × Int) (branch (decide (v2.2 = ([110, 56] : List UInt8)))
       (some (true, x))
       (some (decide (v2.2 = ([101, 56] : List UInt8)), x))) fun v4 =>
    branch v4.1
     (bindO (F38 K (v4.2.2.2, 0, 255)) fun v5 =>
     some v5)
     (some (decide (v4.2.2.2 = 0)))))
def ct17 (K : Nat) : Ct := ⟨[.agg [(.v (.i .i64)), (.v .b), (.v (.i .i64))]], [], [.l (.v .b)], [], [], F17 K⟩
theorem c17 (K : Nat) : CtOk prog 17 (ct17 K) :=
  con_mk (Y := Y) (L := [(38, ct38 K), (18, ct18 K), (19, ct19 K), (37, ct37 K)]) (K := K) (an := (.seq .no (.seq (.seq .no (.cond .no .no)) (.seq .no (.seq (.seq .no (.blk (.seq .no (.cond .no (.seqJ [(1000000, ⟨(ru 1 (.l (.ptr 2000 0 0) :: ru 24 (.l (.v .b) :: ru 8 []))), [(2000, ⟨3, false, .mix (some 23) [[.l (.v (.i .i64)), .l (.v .b), .l (.v (.i .i64))]]⟩)]⟩)] false (.seq .no .no) (.cond .no .no)))))) .no))))) func17 mixed (ctabOk_cons (c38 K) (ctabOk_cons (c18 K) (ctabOk_cons (c19 K) (ctabOk_cons (c37 K) ctabOk_nil)))) (by kernel_rfl) fun x => by kernel_rfl
-- loop.example/g00460/spec.SignedOf
def F54 (K : Nat) (x : Int) : Option (Int) :=
  bindO (F38 K (x, 0, 255)) fun v0 =>
  branch (!v0)
   (some 0)
   (branch (decide (127 < x))
    (some (w64 (x - 256)))
    (some x))
def ct54 (K : Nat) : Ct := ⟨[.l (.v (.i .i64))], [], [.l (.v (.i .i64))], [], [], F54 K⟩
theorem c54 (K : Nat) : CtOk prog 54 (ct54 K) :=
  con_mk (Y := Y) (L := [(38, ct38 K)]) (K := K) (an := (.seq .no (.seq (.seq .no (.cond .no .no)) (.seq (.seq .no (.cond .no .no)) .no)))) func54 mixed (ctabOk_cons (c38 K) ctabOk_nil) (by kernel_rfl) fun x => by kernel_rfl
-- loop.example/g00460/spec.InsText
def F28 (K : Nat) (x : Int × Bool × Int) : Option (List UInt8) :=
  bindO (F17 K x) fun v0 =>
  branch (!v0)
   (some [])
   (bindO (F18 K (x.1, x.2.1)) fun v1 =>
   bindO (F19 K v1) fun v2 =>
   branch (decide (v2.2 = ([110, 49, 54] : List UInt8)))
    (guard (decide (0 ≤ v2.1 ∧ v2.1 ≤ (v1.length : Int))) <|
    bindO (F53 K (x.2.2, 4)) fun v3 =>
    guard (decide ((((tkL v1 v2.1).length) + v3.length) ≤ 9223372036854775807)) <|
    guard (decide (0 ≤ (w64 (v2.1 + 3)) ∧ (w64 (v2.1 + 3)) ≤ (v1.length : Int))) <|
    guard (decide (((((tkL v1 v2.1) ++ v3).length) + ((dpL v1 (w64 (v2.1 + 3))).length)) ≤ 9223372036854775807)) <|
    some (((tkL v1 v2.1) ++ v3) ++ (dpL v1 (w64 (v2.1 + 3)))))
    (branch (decide (v2.2 = ([110, 56] : List UInt8)))
     (guard (decide (0 ≤ v2.1 ∧ v2.1 ≤ (v1.length : Int))) <|
     bindO (F53 K (x.2.2, 2)) fun v4 =>
     guard (decide ((((tkL v1 v2.1).length) + v4.length) ≤ 9223372036854775807)) <|
     guard (decide (0 ≤ (w64 (v2.1 + 2)) ∧ (w64 (v2.1 + 2)) ≤ (v1.length : Int))) <|
     guard (decide (((((tkL v1 v2.1) ++ v4).length) + ((dpL v1 (w64 (v2.1 + 2))).length)) ≤ 9223372036854775807)) <|
     some (((tkL v1 v2.1) ++ v4) ++ (dpL v1 (w64 (v2.1 + 2)))))
     (branch (decide (v2.2 = ([101, 56] : List UInt8)))
      (guard (decide (0 ≤ v2.1 ∧ v2.1 ≤ (v1.length : Int))) <|
      bindO (F54 K x.2.2) fun v5 =>
      bindO (F41 K v5) fun v6 =>
      guard (decide ((((tkL v1 v2.1).length) + v6.length) ≤ 9223372036854775807)) <|
      guard (decide (0 ≤ (w64 (v2.1 + 2)) ∧ (w64 (v2.1 + 2)) ≤ (v1.length : Int))) <|
      guard (decide (((((tkL v1 v2.1) ++ v6).length) + ((dpL v1 (w64 (v2.1 + 2))).length)) ≤ 9223372036854775807)) <|
      some (((tkL v1 v2.1) ++ v6) ++ (dpL v1 (w64 (v2.1 + 2)))))
      (some v1))))
def ct28 (K : Nat) : Ct := ⟨[.agg [(.v (.i .i64)), (.v .b), (.v (.i .i64))]], [], [.l (.v .s)], [], [], F28 K⟩
theorem c28 (K : Nat) : CtOk prog 28 (ct28 K) :=
  con_mk (Y := Y) (L := [(53, ct53 K), (18, ct18 K), (19, ct19 K), (41, ct41 K), (17, ct17 K), (54, ct54 K)]) (K := K) (an := (.seq .no (.seq (.seq .no (.cond .no .no)) (.seq .no (.seq .no (.seq (.seq .no (.blk (.seq .no (.cond .no (.seq .no (.cond .no (.seq .no (.cond .no .no)))))))) .no)))))) func28 mixed (ctabOk_cons (c53 K) (ctabOk_cons (c18 K) (ctabOk_cons (c19 K) (ctabOk_cons (c41 K) (ctabOk_cons (c17 K) (ctabOk_cons (c54 K) ctabOk_nil)))))) (by kernel_rfl) fun x => by kernel_rfl
-- (*loop.example/g00460/spec.l1Rd).hurt
def F27 (K : Nat) (x : (List UInt8) × (List Int) × Int) : Option ((List UInt8) × (List Int) × Int) :=
  bindO (F26 K (6, x.2)) fun v0 =>
  branch (decide (v0.1 = 1))
   (bindO (F26 K (w64 ((x.1.length : Int) + 1), v0.2)) fun v1 =>
   guard (decide (0 ≤ v1.1 ∧ v1.1 ≤ (x.1.length : Int))) <|
   some (tkL x.1 v1.1, v1.2))
   (branch (decide (v0.1 = 2))
    (branch (decide (0 < (x.1.length : Int)))
     (bindO (F26 K ((x.1.length : Int), v0.2)) fun v2 =>
     guard (decide (0 ≤ v2.1 ∧ v2.1 ≤ (x.1.length : Int))) <|
     bindO (F26 K (6, v2.2)) fun v3 =>
     nth [([48] : List UInt8), ([97] : List UInt8), ([32] : List UInt8), ([44] : List UInt8), ([36] : List UInt8), ([43] : List UInt8)] v3.1 fun v4 =>
     guard (decide ((((tkL x.1 v2.1).length) + v4.length) ≤ 9223372036854775807)) <|
     guard (decide (0 ≤ (w64 (v2.1 + 1)) ∧ (w64 (v2.1 + 1)) ≤ (x.1.length : Int))) <|
     guard (decide (((((tkL x.1 v2.1) ++ v4).length) + ((dpL x.1 (w64 (v2.1 + 1))).length)) ≤ 9223372036854775807)) <|
     some (((tkL x.1 v2.1) ++ v4) ++ (dpL x.1 (w64 (v2.1 + 1))), v3.2))
     (some (x.1, v0.2)))
    (branch (decide (v0.1 = 3))
     (bindO (F26 K (3, v0.2)) fun v5 =>
     guard (decide (0 ≤ v5.1 ∧ v5.1 < (3 : Int))) <|
     nthN [([32] : List UInt8), ([48] : List UInt8), ([120] : List UInt8)] v5.1.toNat fun v6 =>
     guard (decide ((x.1.length + v6.length) ≤ 9223372036854775807)) <|
     some (x.1 ++ v6, v5.2))
     (some (x.1, v0.2))))
def ct27 (K : Nat) : Ct := ⟨[.l (.ptr 0 0 0), .l (.v .s)], [⟨2, false, .mix (some 67) [[.l (.v (.l (.i .u8))), .l (.v (.i .i64))]]⟩], [.l (.v .s)], [⟨2, false, .mix (some 67) [[.l (.v (.l (.i .u8))), .l (.v (.i .i64))]]⟩], [], F27 K⟩
theorem c27 (K : Nat) : CtOk prog 27 (ct27 K) :=
  con_mk (Y := Y) (L := [(26, ct26 K)]) (K := K) (an := (.seq .no (.seq (.seq .no (.blk (.seq .no (.cond .no (.seq .no (.cond (.seq .no (.cond (.seq .no (.seq (.reg [3] []) .no)) .no)) (.seq .no (.cond .no .no)))))))) .no))) func27 mixed (ctabOk_cons (c26 K) ctabOk_nil) (by kernel_rfl) fun x => by kernel_rfl
-- (*loop.example/g00460/spec.l1Rd).name
def F58 (K : Nat) (x : (List Int) × Int) : Option ((List UInt8) × (List Int) × Int) :=
  bindO (F26 K (4, x)) fun v0 =>
  guard (decide (0 ≤ v0.1 ∧ v0.1 < (4 : Int))) <|
  nthN [([97, 49] : List UInt8), ([108, 111, 111, 112] : List UInt8), ([120, 46, 121] : List UInt8), ([101, 110, 100, 95] : List UInt8)] v0.1.toNat fun v1 =>
  some (v1, v0.2)
def ct58 (K : Nat) : Ct := ⟨[.l (.ptr 0 0 0)], [⟨2, false, .mix (some 67) [[.l (.v (.l (.i .u8))), .l (.v (.i .i64))]]⟩], [.l (.v .s)], [⟨2, false, .mix (some 67) [[.l (.v (.l (.i .u8))), .l (.v (.i .i64))]]⟩], [], F58 K⟩
theorem c58 (K : Nat) : CtOk prog 58 (ct58 K) :=
  con_mk (Y := Y) (L := [(26, ct26 K)]) (K := K) (an := (.seq .no .no)) func58 mixed (ctabOk_cons (c26 K) ctabOk_nil) (by kernel_rfl) fun x => by kernel_rfl
-- loop.example/g00460/laws.sameExpr
def F13_b0 (K : Nat) (x : (List (Int × Int × List UInt8)) × (List (Int × Int × List UInt8)) × Int) : Option (((List (Int × Int × List UInt8)) × (List (Int × Int × List UInt8)) × Int) ⊕ (Bool ⊕ Unit)) :=
  branch (decide (x.2.2 < (x.1.length : Int)))
   (nth x.1 x.2.2 fun v0 =>
   nth x.2.1 x.2.2 fun v1 =>
   branch (!((decide (v0.1 = v1.1)) && ((decide (v0.2.1 = v1.2.1)) && (decide (v0.2.2 = v1.2.2)))))
    (some (.inr (.inl false)))
    (some (.inl (x.1, x.2.1, w64 (x.2.2 + 1)))))
   (some (.inr (.inr ())))
def F13 (K : Nat) (x : (List (Int × Int × List UInt8)) × List (Int × Int × List UInt8)) : Option (Bool) :=
  branch (!(decide ((x.1.length : Int) = (x.2.length : Int))))
   (some false)
   (bindO (iter K (F13_b0 K) (x.1, x.2, 0)) fun v0 =>
   csO v0
    (fun v1 => some v1)
    (fun v2 => some true))
def ct13 (K : Nat) : Ct := ⟨[.l (.v (.l (.c (.i .i64) (.c (.i .i64) .s)))), .l (.v (.l (.c (.i .i64) (.c (.i .i64) .s))))], [], [.l (.v .b)], [], [], F13 K⟩
theorem c13 (K : Nat) : CtOk prog 13 (ct13 K) :=
  con_mk (Y := Y) (L := []) (K := K) (an := (.seq .no (.seq (.seq .no (.cond .no .no)) (.seq (.seq .no (.blk (.loop [] ⟨(.l (.v (.l (.c (.i .i64) (.c (.i .i64) .s)))) :: .l (.v (.l (.c (.i .i64) (.c (.i .i64) .s)))) :: ru 3 (.l (.v (.i .i64)) :: ru 20 [])), []⟩ [(0, ⟨(ru 26 []), []⟩)] true (.seq (.seq .no .no) (.seq (.blk (.seq .no (.cond .no .no))) .no))))) .no)))) func13 mixed ctabOk_nil (by kernel_rfl) fun x => by kernel_rfl
-- loop.example/g00460/impl.LengthOf
def F14 (K : Nat) (x : Int × Bool) : Option (Int) :=
  bindO (F31 K x) fun v0 =>
  bindO (F32 K v0) fun v1 =>
  branch (decide (v0 = []))
   (some 0)
   (bindO (α := (List UInt8) × Bool) (branch x.2
      (some (v1, true))
      (branch (decide (v1 = ([110, 56] : List UInt8)))
       (some (v1, true))
       (some (v1, decide (v1 = ([101, 56] : List UInt8)))))) fun v2 =>
   branch v2.2
    (some 2)
    (branch (decide (v2.1 = ([110, 49, 54] : List UInt8)))
     (some 3)
     (some 1)))
def ct14 (K : Nat) : Ct := ⟨[.l (.v (.i .i64)), .l (.v .b)], [], [.l (.v (.i .i64))], [], [], F14 K⟩
theorem c14 (K : Nat) : CtOk prog 14 (ct14 K) :=
  con_mk (Y := Y) (L := [(31, ct31 K), (32, ct32 K)]) (K := K) (an := (.seq .no (.seq .no (.seq (.seq .no (.blk (.seq .no (.cond .no (.seqJ [(1000000, ⟨(ru 6 (.l (.v .s) :: ru 8 (.l (.v .b) :: ru 12 []))), []⟩)] false .no (.cond .no (.seq .no (.cond .no .no)))))))) .no)))) func14 mixed (ctabOk_cons (c31 K) (ctabOk_cons (c32 K) ctabOk_nil)) (by kernel_rfl) fun x => by kernel_rfl
-- loop.example/g00460/impl.InsOk
def F33 (K : Nat) (x : Int × Bool × Int) : Option (Bool) :=
  bindO (F31 K (x.1, x.2.1)) fun v0 =>
  branch (decide (v0 = []))
   (some false)
   (bindO (F32 K v0) fun v1 =>
   branch (decide (v1 = []))
    (some (decide (x.2.2 = 0)))
    (branch (decide (v1 = ([110, 49, 54] : List UInt8)))
     (bindO (F67 K x.2.2) fun v2 =>
     some v2)
     (bindO (F59 K x.2.2) fun v3 =>
     some v3)))
def ct33 (K : Nat) : Ct := ⟨[.agg [(.v (.i .i64)), (.v .b), (.v (.i .i64))]], [], [.l (.v .b)], [], [], F33 K⟩
theorem c33 (K : Nat) : CtOk prog 33 (ct33 K) :=
  con_mk (Y := Y) (L := [(59, ct59 K), (67, ct67 K), (31, ct31 K), (32, ct32 K)]) (K := K) (an := (.seq .no (.seq .no (.seq (.seq .no (.cond .no .no)) (.seq (.seq .no (.blk (.seq .no (.cond .no (.seq .no (.cond .no .no)))))) .no))))) func33 mixed (ctabOk_cons (c59 K) (ctabOk_cons (c67 K) (ctabOk_cons (c31 K) (ctabOk_cons (c32 K) ctabOk_nil)))) (by kernel_rfl) fun x => by kernel_rfl
-- loop.example/g00460/impl.SignedOf
def F76 (K : Nat) (x : Int) : Option (Int) :=
  bindO (F59 K x) fun v0 =>
  branch (!v0)
   (some 0)
   (branch (decide (127 < x))
    (some (w64 (x - 256)))
    (some x))
def ct76 (K : Nat) : Ct := ⟨[.l (.v (.i .i64))], [], [.l (.v (.i .i64))], [], [], F76 K⟩
theorem c76 (K : Nat) : CtOk prog 76 (ct76 K) :=
  con_mk (Y := Y) (L := [(59, ct59 K)]) (K := K) (an := (.seq .no (.seq (.blk (.seq .no (.cond .no (.seq .no (.cond .no .no))))) .no))) func76 mixed (ctabOk_cons (c59 K) ctabOk_nil) (by kernel_rfl) fun x => by kernel_rfl
-- loop.example/g00460/impl.filling
def F35 (K : Nat) (x : (List UInt8) × Int) : Option (List UInt8) :=
  branch (decide (x.1 = ([110, 56] : List UInt8)))
   (bindO (F74 K (x.2, 2)) fun v0 =>
   some v0)
   (branch (decide (x.1 = ([110, 49, 54] : List UInt8)))
    (bindO (F74 K (x.2, 4)) fun v1 =>
    some v1)
    (bindO (F76 K x.2) fun v2 =>
    bindO (F75 K v2) fun v3 =>
    some v3))
def ct35 (K : Nat) : Ct := ⟨[.l (.v .s), .l (.v (.i .i64))], [], [.l (.v .s)], [], [], F35 K⟩
theorem c35 (K : Nat) : CtOk prog 35 (ct35 K) :=
  con_mk (Y := Y) (L := [(75, ct75 K), (74, ct74 K), (76, ct76 K)]) (K := K) (an := (.seq .no (.seq (.seq .no (.blk (.seq .no (.cond .no (.seq .no (.cond .no .no)))))) .no))) func35 mixed (ctabOk_cons (c75 K) (ctabOk_cons (c74 K) (ctabOk_cons (c76 K) ctabOk_nil))) (by kernel_rfl) fun x => by kernel_rfl
-- loop.example/g00460/impl.InsText
def F15 (K : Nat) (x : Int × Bool × Int) : Option (List UInt8) :=
  bindO (F33 K x) fun v0 =>
  branch (!v0)
   (some [])
   (bindO (F31 K (x.1, x.2.1)) fun v1 =>
   bindO (F32 K v1) fun v2 =>
   branch (!(decide (v2 = [])))
    (bindO (F35 K (v2, x.2.2)) fun v3 =>
    bindO (F34 K (v1, v2, v3, 1)) fun v4 =>
    some v4)
    (some v1))
def ct15 (K : Nat) : Ct := ⟨[.agg [(.v (.i .i64)), (.v .b), (.v (.i .i64))]], [], [.l (.v .s)], [], [], F15 K⟩
theorem c15 (K : Nat) : CtOk prog 15 (ct15 K) :=
  con_mk (Y := Y) (L := [(31, ct31 K), (32, ct32 K), (34, ct34 K), (33, ct33 K), (35, ct35 K)]) (K := K) (an := (.seq .no (.seq (.seq .no (.cond .no .no)) (.seq .no (.seq (.seq .no (.seq .no (.cond .no .no))) .no))))) func15 mixed (ctabOk_cons (c31 K) (ctabOk_cons (c32 K) (ctabOk_cons (c34 K) (ctabOk_cons (c33 K) (ctabOk_cons (c35 K) ctabOk_nil))))) (by kernel_rfl) fun x => by kernel_rfl
-- loop.example/g00460/spec.DrawInsOk
def F36 (K : Nat) (x : List Int) : Option (Int × Bool × Int) :=
  bindO (F25 K x) fun v0 =>
  bindO (F29 K v0) fun v1 =>
  some (v1.1, v1.2.1, v1.2.2.1)
def ct36 (K : Nat) : Ct := ⟨[.l (.v (.l (.i .u8)))], [], [.agg [(.v (.i .i64)), (.v .b), (.v (.i .i64))]], [], [], F36 K⟩
theorem c36 (K : Nat) : CtOk prog 36 (ct36 K) :=
  con_mk (Y := Y) (L := [(25, ct25 K), (29, ct29 K)]) (K := K) (an := (.seq .no (.seq .no .no))) func36 mixed (ctabOk_cons (c25 K) (ctabOk_cons (c29 K) ctabOk_nil)) (by kernel_rfl) fun x => by kernel_rfl
-- loop.example/g00460/spec.DrawInsText
def F16 (K : Nat) (x : List Int) : Option (Int × Bool × Int) :=
  bindO (F36 K x) fun v0 =>
  some v0
def ct16 (K : Nat) : Ct := ⟨[.l (.v (.l (.i .u8)))], [], [.agg [(.v (.i .i64)), (.v .b), (.v (.i .i64))]], [], [], F16 K⟩
theorem c16 (K : Nat) : CtOk prog 16 (ct16 K) :=
  con_mk (Y := Y) (L := [(36, ct36 K)]) (K := K) (an := (.seq .no .no)) func16 mixed (ctabOk_cons (c36 K) ctabOk_nil) (by kernel_rfl) fun x => by kernel_rfl
end Go.U.Tryz
