/- A part of the proof. No condition. -/
import Derived.Test.YtncclmpabjglmaaGreatDoorVMh
set_option linter.unusedVariables false
set_option linter.unusedSimpArgs false
set_option linter.unusedSectionVars false
namespace Go.U.Tryz
open Go Go.U Go.Proofs Go.Proofs.Tryz
set_option maxRecDepth 100000
def F58 (K : Nat) (x : List Int) : Option ((List Int) × Int) :=
  some (x, 0)
def ct58 (K : Nat) : Ct := ⟨[.l (.v (.l (.i .u8)))], [], [.l (.ptr 0 0 0)], [⟨2, false, .mix (some 110) [[.l (.v (.l (.i .u8))), .l i6]]⟩], [], F58 K⟩
theorem c58 (K : Nat) : CtOk prog 58 (ct58 K) :=
  cmk (K := K) (an := (sN .no)) func58 kN
def F128 (K : Nat) (x : (List Int) × Int) : Option (Int × (List Int) × Int) :=
  branch (decide ((x.1.length : Int) ≤ x.2))
   (some (0, x))
   (nth x.1 (w64 ((w64 (x.2 + 1)) - 1)) fun v0 =>
   some (w64 v0, x.1, w64 (x.2 + 1)))
def ct128 (K : Nat) : Ct := ⟨[.l (.ptr 0 0 0)], [⟨2, false, .mix (some 110) [[.l (.v (.l (.i .u8))), .l i6]]⟩], [.l i6], [⟨2, false, .mix (some 110) [[.l (.v (.l (.i .u8))), .l i6]]⟩], [], F128 K⟩
theorem c128 (K : Nat) : CtOk prog 128 (ct128 K) :=
  cmk (K := K) (an := (sN (.seq (sN (.cond .no .no)) (sN .no)))) func128 kN
def F88 (K : Nat) (x : Int × (List Int) × Int) : Option (Int × (List Int) × Int) :=
  branch (decide (x.1 ≤ 1))
   (some (0, x.2))
   (branch (decide (x.1 ≤ 256))
    (bindO (F128 K x.2) fun v0 =>
    guard (!(decide (x.1 = 0))) <|
    some (Int.tmod v0.1 x.1, v0.2))
    (bindO (F128 K x.2) fun v1 =>
    bindO (F128 K v1.2) fun v2 =>
    guard (!(decide (x.1 = 0))) <|
    some (Int.tmod (w64 ((w64 (v1.1 * 256)) + v2.1)) x.1, v2.2)))
def ct88 (K : Nat) : Ct := ⟨[.l (.ptr 0 0 0), .l i6], [⟨2, false, .mix (some 110) [[.l (.v (.l (.i .u8))), .l i6]]⟩], [.l i6], [⟨2, false, .mix (some 110) [[.l (.v (.l (.i .u8))), .l i6]]⟩], [], F88 K⟩
theorem c88 (K : Nat) : CtOk prog 88 (ct88 K) :=
  cmk (K := K) (an := (sN (.seq (sN (.cond .no .no)) (.seq (sN (.cond .no .no)) (sN (sN .no)))))) func88 (kX (c128 K) kN)
def F108 (K : Nat) (x : Int × (List Int) × Int) : Option (Bool × (List Int) × Int) :=
  bindO (F88 K x) fun v0 =>
  some (decide (v0.1 = (w64 (x.1 - 1))), v0.2)
def ct108 (K : Nat) : Ct := ⟨[.l (.ptr 0 0 0), .l i6], [⟨2, false, .mix (some 110) [[.l (.v (.l (.i .u8))), .l i6]]⟩], [.l (.v .b)], [⟨2, false, .mix (some 110) [[.l (.v (.l (.i .u8))), .l i6]]⟩], [], F108 K⟩
theorem c108 (K : Nat) : CtOk prog 108 (ct108 K) :=
  cmk (K := K) (an := (sN .no)) func108 (kX (c88 K) kN)
def F106 (K : Nat) (x : (List Int) × Int) : Option (Int × (List Int) × Int) :=
  bindO (F108 K (2, x)) fun v0 =>
  branch v0.1
   (bindO (F88 K (8, v0.2)) fun v1 =>
   guard (decide (0 ≤ v1.1 ∧ v1.1 < (8 : Int))) <|
   nthN [0, 1, 127, 128, 255, 15, 16, 240] v1.1.toNat fun v2 =>
   some (v2, v1.2))
   (bindO (F88 K (256, v0.2)) fun v3 =>
   some v3)
def ct106 (K : Nat) : Ct := ⟨[.l (.ptr 0 0 0)], [⟨2, false, .mix (some 110) [[.l (.v (.l (.i .u8))), .l i6]]⟩], [.l i6], [⟨2, false, .mix (some 110) [[.l (.v (.l (.i .u8))), .l i6]]⟩], [], F106 K⟩
theorem c106 (K : Nat) : CtOk prog 106 (ct106 K) :=
  cmk (K := K) (an := (sN (.seq (sN (.cond .no .no)) .no))) func106 (kX (c88 K) (kX (c108 K) kN))
def F208_b0 (K : Nat) (x : Int × Int × (List Int) × Int) : Option ((Int × Int × (List Int) × Int) ⊕ (Int × (List Int) × Int)) :=
  branch (decide (x.2.1 < 8))
   (bindO (F128 K x.2.2) fun v0 =>
   some (.inl (Go.bits Go.BinOp.or Go.IntKind.u64 (shlI Go.IntKind.u64 x.1 8) (w64u v0.1), w64 (x.2.1 + 1), v0.2)))
   (some (.inr (x.1, x.2.2)))
def F208 (K : Nat) (x : (List Int) × Int) : Option (Int × (List Int) × Int) :=
  bindO (iter K (F208_b0 K) (0, 0, x)) fun v0 =>
  some v0
def ct208 (K : Nat) : Ct := ⟨[.l (.ptr 0 0 0)], [⟨2, false, .mix (some 110) [[.l (.v (.l (.i .u8))), .l i6]]⟩], [.l (.v (.i .u64))], [⟨2, false, .mix (some 110) [[.l (.v (.l (.i .u8))), .l i6]]⟩], [], F208 K⟩
theorem c208 (K : Nat) : CtOk prog 208 (ct208 K) :=
  cmk (K := K) (an := (sN (sN (.seq (sN (.blk (.loop [] ⟨(.l (.ptr 0 0 0) :: ru 2 (.l (.v (.i .u64)) :: .l i6 :: ru 11 [])), [(0, ⟨2, false, .mix (some 110) [[.l (.v (.l (.i .u8))), .l i6]]⟩)]⟩ [(0, ⟨(ru 3 (.l (.v (.i .u64)) :: ru 12 [])), [(0, ⟨2, false, .mix (some 110) [[.l (.v (.l (.i .u8))), .l i6]]⟩)]⟩)] false (.seq (sN .no) (sN .no))))) .no)))) func208 (kX (c128 K) kN)
def F153 (K : Nat) (x : Int × Int × (List Int) × Int) : Option (Int × (List Int) × Int) :=
  bindO (F88 K (8, x.2.2)) fun v0 =>
  branch (decide (v0.1 = 0))
   (some (x.1, v0.2))
   (branch (decide (v0.1 = 1))
    (some (x.2.1, v0.2))
    (branch (decide (x.2.1 < x.1))
     (some (x.1, v0.2))
     (bindO (F208 K v0.2) fun v1 =>
     guard (!(decide ((w64u (w64 ((w64 (x.2.1 - x.1)) + 1))) = 0))) <|
     some (w64 (x.1 + (w64 (Int.tmod (shrI Go.IntKind.u64 v1.1 1) (w64u (w64 ((w64 (x.2.1 - x.1)) + 1)))))), v1.2))))
def ct153 (K : Nat) : Ct := ⟨[.l (.ptr 0 0 0), .l i6, .l i6], [⟨2, false, .mix (some 110) [[.l (.v (.l (.i .u8))), .l i6]]⟩], [.l i6], [⟨2, false, .mix (some 110) [[.l (.v (.l (.i .u8))), .l i6]]⟩], [], F153 K⟩
theorem c153 (K : Nat) : CtOk prog 153 (ct153 K) :=
  cmk (K := K) (an := (sN (.seq (sN (.blk (sN (.cond .no (sN (.cond .no .no)))))) (.seq (sN (.cond .no .no)) .no)))) func153 (kX (c88 K) (kX (c208 K) kN))
def F109 (K : Nat) (x : Int × Int × (List Int) × Int) : Option (Int × (List Int) × Int) :=
  bindO (F108 K (24, x.2.2)) fun v0 =>
  branch v0.1
   (bindO (F88 K (4, v0.2)) fun v1 =>
   guard (decide (0 ≤ v1.1 ∧ v1.1 < ([w64 (x.1 - 1), w64 (x.2.1 + 1), (-9223372036854775808), 9223372036854775807].length : Int))) <|
   nthN [w64 (x.1 - 1), w64 (x.2.1 + 1), (-9223372036854775808), 9223372036854775807] v1.1.toNat fun v2 =>
   some (v2, v1.2))
   (bindO (F153 K (x.1, x.2.1, v0.2)) fun v3 =>
   some v3)
def ct109 (K : Nat) : Ct := ⟨[.l (.ptr 0 0 0), .l i6, .l i6], [⟨2, false, .mix (some 110) [[.l (.v (.l (.i .u8))), .l i6]]⟩], [.l i6], [⟨2, false, .mix (some 110) [[.l (.v (.l (.i .u8))), .l i6]]⟩], [], F109 K⟩
theorem c109 (K : Nat) : CtOk prog 109 (ct109 K) :=
  cmk (K := K) (an := (sN (.seq (sN (.cond .no .no)) .no))) func109 (kX (c88 K) (kX (c108 K) (kX (c153 K) kN)))
def F107 (K : Nat) (x : (List Int) × Int) : Option (Int × (List Int) × Int) :=
  bindO (F88 K (16, x)) fun v0 =>
  some (w64 (16 * v0.1), v0.2)
def ct107 (K : Nat) : Ct := ⟨[.l (.ptr 0 0 0)], [⟨2, false, .mix (some 110) [[.l (.v (.l (.i .u8))), .l i6]]⟩], [.l i6], [⟨2, false, .mix (some 110) [[.l (.v (.l (.i .u8))), .l i6]]⟩], [], F107 K⟩
theorem c107 (K : Nat) : CtOk prog 107 (ct107 K) :=
  cmk (K := K) (an := (sN .no)) func107 (kX (c88 K) kN)
def F140 (K : Nat) (x : Int × Bool × Int) : Option (Bool) :=
  bindO (F175 K (x.1, x.2.1)) fun v0 =>
  branch (decide (v0 = 0))
   (some false)
   (bindO (F141 K (x.1, x.2.1)) fun v1 =>
   bindO (F142 K v1) fun v2 =>
   branch (decide (v2.2 = ([110, 49, 54] : List UInt8)))
    (bindO (F87 K (x.2.2, 0, 65535)) fun v3 =>
    some v3)
    (bindO (α := Bool × Int × Bool × Int) (branch (decide (v2.2 = ([110, 56] : List UInt8)))
       (some (true, x))
       (some (decide (v2.2 = ([101, 56] : List UInt8)), x))) fun v4 =>
    branch v4.1
     (bindO (F87 K (v4.2.2.2, 0, 255)) fun v5 =>
     some v5)
     (some (decide (v4.2.2.2 = 0)))))
def ct140 (K : Nat) : Ct := ⟨[.agg [i6, (.v .b), i6]], [], [.l (.v .b)], [], [], F140 K⟩
theorem c140 (K : Nat) : CtOk prog 140 (ct140 K) :=
  cmk (K := K) (an := (sN (.seq (sN (.cond .no .no)) (sN (.seq (sN (.blk (sN (.cond .no (.seqJ [(1000000, ⟨(ru 1 (.l (.ptr 2000 0 0) :: ru 24 (.l (.v .b) :: ru 8 []))), [(2000, ⟨3, false, .mix (some 42) [[.l i6, .l (.v .b), .l i6]]⟩)]⟩)] false (sN .no) (.cond .no .no)))))) .no))))) func140 (kX (c87 K) (kX (c141 K) (kX (c142 K) (kX (c175 K) kN))))
def F207 (K : Nat) (x : (List Int) × Int) : Option (Int × Bool × Int × (List Int) × Int) :=
  bindO (F88 K (256, x)) fun v0 =>
  bindO (F108 K (4, v0.2)) fun v1 =>
  bindO (F141 K (v0.1, v1.1)) fun v2 =>
  bindO (F142 K v2) fun v3 =>
  bindO (α := Int × Bool × Int × Int × Bool × Int × (List Int) × Int) (branch (decide (v3.2 = ([110, 49, 54] : List UInt8)))
     (bindO (F88 K (65536, v1.2)) fun v4 =>
     some (v0.1, v1.1, v4.1, 0, false, 0, v4.2))
     (bindO (α := Bool × Int × Bool × Int × Int × Bool × Int × (List Int) × Int) (branch (decide (v3.2 = ([110, 56] : List UInt8)))
        (some (true, v0.1, v1.1, 0, 0, false, 0, v1.2))
        (some (decide (v3.2 = ([101, 56] : List UInt8)), v0.1, v1.1, 0, 0, false, 0, v1.2))) fun v5 =>
     branch v5.1
      (bindO (F106 K v5.2.2.2.2.2.2.2) fun v6 =>
      some (v5.2.1, v5.2.2.1, v6.1, v5.2.2.2.2.1, v5.2.2.2.2.2.1, v5.2.2.2.2.2.2.1, v6.2))
      (some v5.2))) fun v7 =>
  bindO (F108 K (40, v7.2.2.2.2.2.2)) fun v8 =>
  branch v8.1
   (bindO (F109 K (0, 255, v8.2)) fun v9 =>
   some (v7.1, v7.2.1, v9))
   (some (v7.1, v7.2.1, v7.2.2.1, v8.2))
def ct207 (K : Nat) : Ct := ⟨[.l (.ptr 0 0 0)], [⟨2, false, .mix (some 110) [[.l (.v (.l (.i .u8))), .l i6]]⟩], [.agg [i6, (.v .b), i6]], [⟨2, false, .mix (some 110) [[.l (.v (.l (.i .u8))), .l i6]]⟩], [], F207 K⟩
theorem c207 (K : Nat) : CtOk prog 207 (ct207 K) :=
  cmk (K := K) (an := (sN (sN (sN (.seqJ [(1000000, ⟨(.l (.ptr 0 0 0) :: ru 1 (.l (.ptr 3000 0 0) :: .l (.ptr 4000 0 0) :: ru 34 [])), [(4000, ⟨3, false, .mix (some 42) [[.l i6, .l (.v .b), .l i6]]⟩), (3000, ⟨3, false, .mix (some 42) [[.l i6, .l (.v .b), .l i6]]⟩), (0, ⟨2, false, .mix (some 110) [[.l (.v (.l (.i .u8))), .l i6]]⟩)]⟩)] false (sN (.blk (sN (.cond .no (.seqJ [(1000000, ⟨(.l (.ptr 0 0 0) :: ru 1 (.l (.ptr 3000 0 0) :: .l (.ptr 4000 0 0) :: ru 22 (.l (.v .b) :: ru 11 []))), [(4000, ⟨3, false, .mix (some 42) [[.l i6, .l (.v .b), .l i6]]⟩), (3000, ⟨3, false, .mix (some 42) [[.l i6, .l (.v .b), .l i6]]⟩), (0, ⟨2, false, .mix (some 110) [[.l (.v (.l (.i .u8))), .l i6]]⟩)]⟩)] false (sN .no) .no))))) (.seq (sN .no) .no)))))) func207 (kX (c141 K) (kX (c142 K) (kX (c88 K) (kX (c108 K) (kX (c106 K) (kX (c109 K) kN))))))
def F151 (K : Nat) (x : Int × Bool × Int) : Option (List UInt8) :=
  bindO (F140 K x) fun v0 =>
  branch (!v0)
   (some [])
   (branch x.2.1
    (some (toB [203, w8 x.1]))
    (bindO (F196 K (x.1, false)) fun v1 =>
    branch (decide (v1 = 2))
     (some (toB [w8 x.1, w8 x.2.2]))
     (branch (decide (v1 = 3))
      (some (toB [w8 x.1, w8 x.2.2, w8 (shrI Go.IntKind.i64 x.2.2 8)]))
      (some (toB [w8 x.1])))))
def ct151 (K : Nat) : Ct := ⟨[.agg [i6, (.v .b), i6]], [], [.l (.v .s)], [], [], F151 K⟩
theorem c151 (K : Nat) : CtOk prog 151 (ct151 K) :=
  cmk (K := K) (an := (sN (.seq (sN (.cond .no .no)) (.seq (sN (.cond .no .no)) (.seq (sN (.blk (sN (.cond .no (sN (.cond .no .no)))))) .no))))) func151 (kX (c196 K) (kX (c140 K) kN))
def F152 (K : Nat) (x : (List Int) × Int) : Option (Int × Bool × Int × (List Int) × Int) :=
  bindO (F207 K x) fun v0 =>
  bindO (α := (Int × Bool × Int × (List Int) × Int) ⊕ (Int × Bool × Int × Int × Bool × Int × (List Int) × Int)) (bindO (α := Bool × Int × Bool × Int × Int × Bool × Int × (List Int) × Int) (branch v0.2.1
       (some (true, v0.1, v0.2.1, v0.2.2.1, 0, false, 0, v0.2.2.2))
       (bindO (F108 K (6, v0.2.2.2)) fun v1 =>
       some (v1.1, v0.1, v0.2.1, v0.2.2.1, 0, false, 0, v1.2))) fun v2 =>
    branch v2.1
     (some (.inl (v2.2.1, v2.2.2.1, v2.2.2.2.1, v2.2.2.2.2.2.2.2)))
     (some (.inr v2.2))) fun v3 =>
  csO v3
   (fun v4 => some v4)
   (fun v5 => bindO (F88 K (10, v5.2.2.2.2.2.2)) fun v6 =>
   branch (decide (v6.1 = 0))
    (bindO (F106 K v6.2) fun v7 =>
    some (62, false, v7))
    (branch (decide (v6.1 = 1))
     (bindO (F88 K (5, v6.2)) fun v8 =>
     guard (decide (0 ≤ v8.1 ∧ v8.1 < (5 : Int))) <|
     nthN [49152, 65408, 256, 128, 40960] v8.1.toNat fun v9 =>
     some (33, false, v9, v8.2))
     (branch (decide (v6.1 = 2))
      (some (119, false, 0, v6.2))
      (branch (decide (v6.1 = 3))
       (some (224, false, 1, v6.2))
       (branch (decide (v6.1 = 4))
        (bindO (F88 K (6, v6.2)) fun v10 =>
        guard (decide (0 ≤ v10.1 ∧ v10.1 < (6 : Int))) <|
        nthN [49152, 65281, 130, 10, 300, 40961] v10.1.toNat fun v11 =>
        some (234, false, v11, v10.2))
        (bindO (α := Bool × Int × Bool × Int × Int × Bool × Int × (List Int) × Int) (branch (decide (192 ≤ v5.1))
           (some (decide (511 < v5.2.2.1), v5.1, v5.2.1, v5.2.2.1, v5.2.2.2.1, v5.2.2.2.2.1, v5.2.2.2.2.2.1, v6.2))
           (some (false, v5.1, v5.2.1, v5.2.2.1, v5.2.2.2.1, v5.2.2.2.2.1, v5.2.2.2.2.2.1, v6.2))) fun v12 =>
        branch v12.1
         (some (v12.2.1, v12.2.2.1, Int.tmod v12.2.2.2.1 40, v12.2.2.2.2.2.2.2))
         (some (v12.2.1, v12.2.2.1, v12.2.2.2.1, v12.2.2.2.2.2.2.2))))))))
def ct152 (K : Nat) : Ct := ⟨[.l (.ptr 0 0 0)], [⟨2, false, .mix (some 110) [[.l (.v (.l (.i .u8))), .l i6]]⟩], [.agg [i6, (.v .b), i6]], [⟨2, false, .mix (some 110) [[.l (.v (.l (.i .u8))), .l i6]]⟩], [], F152 K⟩
theorem c152 (K : Nat) : CtOk prog 152 (ct152 K) :=
  cmk (K := K) (an := (sN (sN (.seqJ [(1000000, ⟨(.l (.ptr 0 0 0) :: ru 1 (.l (.ptr 3000 0 0) :: .l (.ptr 4000 0 0) :: ru 51 [])), [(4000, ⟨3, false, .mix (some 42) [[.l i6, .l (.v .b), .l i6]]⟩), (3000, ⟨3, false, .mix (some 42) [[.l i6, .l (.v .b), .l i6]]⟩), (0, ⟨2, false, .mix (some 110) [[.l (.v (.l (.i .u8))), .l i6]]⟩)]⟩)] true (.seqJ [(1000000, ⟨(.l (.ptr 0 0 0) :: ru 1 (.l (.ptr 3000 0 0) :: .l (.ptr 4000 0 0) :: ru 7 (.l (.v .b) :: ru 43 []))), [(4000, ⟨3, false, .mix (some 42) [[.l i6, .l (.v .b), .l i6]]⟩), (3000, ⟨3, false, .mix (some 42) [[.l i6, .l (.v .b), .l i6]]⟩), (0, ⟨2, false, .mix (some 110) [[.l (.v (.l (.i .u8))), .l i6]]⟩)]⟩)] false .no (.cond .no .no)) (.seq (sN (.blk (sN (.cond .no (sN (.cond .no (sN (.cond .no (sN (.cond .no (sN (.cond .no .no)))))))))))) (.seq (.seqJ [(1000000, ⟨(ru 2 (.l (.ptr 3000 0 0) :: .l (.ptr 4000 0 0) :: ru 45 (.l (.v .b) :: ru 5 []))), [(4000, ⟨3, false, .mix (some 42) [[.l i6, .l (.v .b), .l i6]]⟩), (3000, ⟨3, false, .mix (some 42) [[.l i6, .l (.v .b), .l i6]]⟩), (0, ⟨2, false, .mix (some 110) [[.l (.v (.l (.i .u8))), .l i6]]⟩)]⟩)] false .no .no) .no)))))) func152 (kX (c88 K) (kX (c108 K) (kX (c106 K) (kX (c207 K) kN))))
def F105_b1 (K : Nat) (x : Int × Int × Int × Int × (List Int) × (List Int) × Int) : Option ((Int × Int × Int × Int × (List Int) × (List Int) × Int) ⊕ (Int × Int × (List Int) × (List Int) × Int)) :=
  branch (decide (0 < x.2.2.2.1))
   (bindO (F152 K x.2.2.2.2.2) fun v0 =>
   bindO (F151 K (v0.1, v0.2.1, v0.2.2.1)) fun v1 =>
   guard (decide (0 ≤ x.2.2.1 ∧ x.2.2.1 ≤ (w64 ((w64 (x.2.1 + 1)) * 256)) ∧ (w64 ((w64 (x.2.1 + 1)) * 256)) ≤ (x.2.2.2.2.1.length : Int))) <|
   guard (decide ((x.2.2.1.toNat + (((w64 ((w64 (x.2.1 + 1)) * 256)).toNat) - x.2.2.1.toNat)) ≤ x.2.2.2.2.1.length)) <|
   some (.inl (x.1, x.2.1, w64 (x.2.2.1 + (v1.length : Int)), w64 (x.2.2.2.1 - 1), ((List.take x.2.2.1.toNat x.2.2.2.2.1) ++ (List.take (min ((ofB v1).length) (((w64 ((w64 (x.2.1 + 1)) * 256)).toNat) - x.2.2.1.toNat)) (ofB v1))) ++ (List.drop (x.2.2.1.toNat + (min ((ofB v1).length) (((w64 ((w64 (x.2.1 + 1)) * 256)).toNat) - x.2.2.1.toNat))) x.2.2.2.2.1), v0.2.2.2)))
   (some (.inr (x.1, x.2.1, x.2.2.2.2)))
def F105_b0 (K : Nat) (x : Int × Int × (List Int) × (List Int) × Int) : Option ((Int × Int × (List Int) × (List Int) × Int) ⊕ ((List Int) × (List Int) × Int)) :=
  branch (decide (x.2.1 < x.1))
   (bindO (F88 K (16, x.2.2.2)) fun v0 =>
   bindO (iter K (F105_b1 K) (x.1, x.2.1, w64 (x.2.1 * 256), w64 (1 + v0.1), x.2.2.1, v0.2)) fun v1 =>
   some (.inl (v1.1, w64 (v1.2.1 + 1), v1.2.2)))
   (some (.inr x.2.2))
def F105 (K : Nat) (x : (List Int) × Int) : Option ((List UInt8) × (List Int) × Int) :=
  bindO (F88 K (3, x)) fun v0 =>
  guard (decide ((w64 ((w64 (2 + v0.1)) * 256)) = (w64 ((w64 (2 + v0.1)) * 256)) ∧ 0 ≤ (w64 ((w64 (2 + v0.1)) * 256)) ∧ (1 * ((w64 ((w64 (2 + v0.1)) * 256)).toNat)) ≤ 281474976710656)) <|
  bindO (iter K (F105_b0 K) (w64 (2 + v0.1), 0, List.replicate ((w64 ((w64 (2 + v0.1)) * 256)).toNat) 0, v0.2)) fun v1 =>
  bindO (F108 K (30, v1.2)) fun v2 =>
  branch v2.1
   (guard (decide ((0 : Int) ≤ 1 ∧ 1 ≤ (v1.1.length : Int))) <|
   guard (decide ((1 + (v1.1.length - 1)) ≤ v1.1.length)) <|
   some (toB (List.take (v1.1.length - 1) (List.drop 1 v1.1)), v2.2))
   (some (toB v1.1, v2.2))
def ct105 (K : Nat) : Ct := ⟨[.l (.ptr 0 0 0)], [⟨2, false, .mix (some 110) [[.l (.v (.l (.i .u8))), .l i6]]⟩], [.l (.v .s)], [⟨2, false, .mix (some 110) [[.l (.v (.l (.i .u8))), .l i6]]⟩], [], F105 K⟩
theorem c105 (K : Nat) : CtOk prog 105 (ct105 K) :=
  cmk (K := K) (an := (sN (sN (sN (.seq (sN (.blk (.loop [] ⟨(.l (.ptr 0 0 0) :: ru 2 (.l i6 :: .l (.all 15000) :: .l i6 :: ru 45 [])), [(15000, ⟨1, true, .row (.i .u8)⟩), (0, ⟨2, false, .mix (some 110) [[.l (.v (.l (.i .u8))), .l i6]]⟩)]⟩ [(0, ⟨(.l (.ptr 0 0 0) :: ru 3 (.l (.all 15000) :: ru 46 [])), [(15000, ⟨1, true, .row (.i .u8)⟩), (0, ⟨2, false, .mix (some 110) [[.l (.v (.l (.i .u8))), .l i6]]⟩)]⟩)] false (.seq (sN .no) (.seq (.blk (sN (sN (.blk (.loop [] ⟨(.l (.ptr 0 0 0) :: ru 2 (.l i6 :: .l (.all 15000) :: .l i6 :: .l i6 :: .l i6 :: ru 43 [])), [(15000, ⟨1, true, .row (.i .u8)⟩), (0, ⟨2, false, .mix (some 110) [[.l (.v (.l (.i .u8))), .l i6]]⟩)]⟩ [(2, ⟨(.l (.ptr 0 0 0) :: ru 2 (.l i6 :: .l (.all 15000) :: .l i6 :: ru 45 [])), [(15000, ⟨1, true, .row (.i .u8)⟩), (0, ⟨2, false, .mix (some 110) [[.l (.v (.l (.i .u8))), .l i6]]⟩)]⟩)] false (.seq (sN .no) (.seq (.blk (sN .no)) .no))))))) .no))))) (.seq (sN (.cond .no .no)) .no)))))) func105 (kX (c88 K) (kX (c108 K) (kX (c151 K) (kX (c152 K) kN))))
def F59 (K : Nat) (x : Int × (List Int) × Int) : Option (MC ((List Int) × Int)) :=
  bindO (F105 K x.2) fun v0 =>
  bindO (F88 K (3, v0.2)) fun v1 =>
  bindO (F17 K (v0.1, v1.1)) fun v2 =>
  branch (!(er23 v2))
   (some (v2.1, v2.2.1, v2.2.2.1, v2.2.2.2.1, pr4 v2, pr5 v2, pr6 v2, pr7 v2, pr8 v2, pr9 v2, pr10 v2, pr11 v2, pr12 v2, pr13 v2, pr14 v2, pr15 v2, pr16 v2, pr17 v2, pr18 v2, pr19 v2, pr20 v2, pr21 v2, pr22 v2, v1.2))
   (bindO (F106 K v1.2) fun v3 =>
   bindO (F107 K v3.2) fun v4 =>
   bindO (F106 K v4.2) fun v5 =>
   bindO (F106 K v5.2) fun v6 =>
   bindO (F88 K (5, v6.2)) fun v7 =>
   guard (decide (0 ≤ v7.1 ∧ v7.1 < (5 : Int))) <|
   nthN [0, 192, 255, 160, 1] v7.1.toNat fun v8 =>
   bindO (F88 K (5, v7.2)) fun v9 =>
   guard (decide (0 ≤ v9.1 ∧ v9.1 < (5 : Int))) <|
   nthN [65534, 49200, 65420, 49153, 2] v9.1.toNat fun v10 =>
   bindO (F88 K (w64 (x.1 + 1), v9.2)) fun v11 =>
   bindO (F35 K (v3.1, v4.1, v5.1, v2.2.2.2.1, pr4 v2, pr5 v2, v8, v6.1, v10, pr9 v2, pr10 v2, pr11 v2, pr12 v2, pr13 v2, pr14 v2, pr15 v2, pr16 v2, pr17 v2, pr18 v2, pr19 v2, pr20 v2, pr21 v2, pr22 v2, v11.1)) fun v12 =>
   bindO (α := MC (Int × Int × Int × Int × Int × Int × Int × Int × Int × Int × Bool × Bool × (List UInt8) × Int × Int × (List UInt8) × Int × Bool × Int × (List UInt8) × (List UInt8) × (List Int) × Int × (List Int) × Int)) (bindO (F108 K (4, v11.2)) fun v13 =>
     branch v13.1
      (bindO (F88 K (4, v13.2)) fun v14 =>
      guard (decide (0 ≤ v14.1 ∧ v14.1 < (4 : Int))) <|
      nthN [256, 49152, 0, 257] v14.1.toNat fun v15 =>
      some (v12.1, v12.2.1, v12.2.2.1, v12.2.2.2.1, pr4 v12, pr5 v12, pr6 v12, pr7 v12, pr8 v12, v15, pr10 v12, pr11 v12, pr12 v12, pr13 v12, pr14 v12, pr15 v12, pr16 v12, pr17 v12, pr18 v12, pr19 v12, pr20 v12, pr21 v12, pr22 v12, 0, 0, 0, 0, 0, 0, 0, 0, 0, 0, false, false, [], 0, 0, [], 0, false, 0, [], [], [], 0, v14.2))
      (some (v12.1, v12.2.1, v12.2.2.1, v12.2.2.2.1, pr4 v12, pr5 v12, pr6 v12, pr7 v12, pr8 v12, pr9 v12, pr10 v12, pr11 v12, pr12 v12, pr13 v12, pr14 v12, pr15 v12, pr16 v12, pr17 v12, pr18 v12, pr19 v12, pr20 v12, pr21 v12, pr22 v12, 0, 0, 0, 0, 0, 0, 0, 0, 0, 0, false, false, [], 0, 0, [], 0, false, 0, [], [], [], 0, v13.2))) fun v16 =>
   bindO (F88 K (30, er22 (q24 v16))) fun v17 =>
   branch (decide (v17.1 = 28))
    (bindO (F109 K (0, 255, v17.2)) fun v18 =>
    some (v16.1, v18.1, v16.2.2.1, v16.2.2.2.1, pr4 v16, pr5 v16, pr6 v16, pr7 v16, pr8 v16, pr9 v16, pr10 v16, pr11 v16, pr12 v16, pr13 v16, pr14 v16, pr15 v16, pr16 v16, pr17 v16, pr18 v16, pr19 v16, pr20 v16, pr21 v16, pr22 v16, v18.2))
    (branch (decide (v17.1 = 29))
     (bindO (F109 K (0, 65535, v17.2)) fun v19 =>
     some (v16.1, v16.2.1, v16.2.2.1, v16.2.2.2.1, pr4 v16, pr5 v16, pr6 v16, pr7 v16, pr8 v16, v19.1, pr10 v16, pr11 v16, pr12 v16, pr13 v16, pr14 v16, pr15 v16, pr16 v16, pr17 v16, pr18 v16, pr19 v16, pr20 v16, pr21 v16, pr22 v16, v19.2))
     (some (v16.1, v16.2.1, v16.2.2.1, v16.2.2.2.1, pr4 v16, pr5 v16, pr6 v16, pr7 v16, pr8 v16, pr9 v16, pr10 v16, pr11 v16, pr12 v16, pr13 v16, pr14 v16, pr15 v16, pr16 v16, pr17 v16, pr18 v16, pr19 v16, pr20 v16, pr21 v16, pr22 v16, v17.2))))
def ct59 (K : Nat) : Ct := ⟨[.l (.ptr 0 0 0), .l i6], [⟨2, false, .mix (some 110) [[.l (.v (.l (.i .u8))), .l i6]]⟩], [.agg mL], [⟨2, false, .mix (some 110) [[.l (.v (.l (.i .u8))), .l i6]]⟩], [], F59 K⟩
theorem c59 (K : Nat) : CtOk prog 59 (ct59 K) :=
  cmk (K := K) (an := (sN (sN (.seq (sN (.cond .no .no)) (sN (sN (sN (sN (sN (sN (sN (.seqJ [(1000000, ⟨(.l (.ptr 0 0 0) :: ru 3 (.l (.ptr 5000 0 0) :: .l (.ptr 6000 0 0) :: ru 76 [])), [(6000, ⟨23, false, .mix (some 30) [mN]⟩), (5000, ⟨23, false, .mix (some 30) [mN]⟩), (0, ⟨2, false, .mix (some 110) [[.l (.v (.l (.i .u8))), .l i6]]⟩)]⟩)] false (sN .no) (.seq (sN (.blk (sN (.cond .no (sN .no))))) .no))))))))))))) func59 (kX (c35 K) (kX (c17 K) (kX (c88 K) (kX (c108 K) (kX (c106 K) (kX (c109 K) (kX (c107 K) (kX (c105 K) kN))))))))
end Go.U.Tryz
