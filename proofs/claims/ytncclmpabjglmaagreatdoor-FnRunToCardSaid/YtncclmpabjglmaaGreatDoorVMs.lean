/- A part of the proof. No condition. -/
import Derived.Test.YtncclmpabjglmaaGreatDoorVMi
set_option linter.unusedVariables false
set_option linter.unusedSimpArgs false
set_option linter.unusedSectionVars false
namespace Go.U.Tryz
open Go Go.U Go.Proofs Go.Proofs.Tryz
set_option maxRecDepth 100000
def F143p_b0 (K : Nat) (x : Int × List UInt8) : Option ((Int × List UInt8) ⊕ (Int × List UInt8)) :=
  branch (decide (10 ≤ x.1))
   (guard (decide ((((toB [w8 (w64 (48 + (Int.tmod x.1 10)))]).length) + x.2.length) ≤ 9223372036854775807)) <|
   some (.inl (w64 (Int.tdiv x.1 10), (toB [w8 (w64 (48 + (Int.tmod x.1 10)))]) ++ x.2)))
   (some (.inr x))
def F143p (K : Nat) (x : Int) : Option (List UInt8) :=
  branch (decide (x < 0))
   (bindO (F143r K (w64 (0 - x))) fun v0 =>
   guard (decide ((1 + v0.length) ≤ 9223372036854775807)) <|
   some (([45] : List UInt8) ++ v0))
   (bindO (iter K (F143p_b0 K) (x, [])) fun v1 =>
   guard (decide ((((toB [w8 (w64 (48 + v1.1))]).length) + v1.2.length) ≤ 9223372036854775807)) <|
   some ((toB [w8 (w64 (48 + v1.1))]) ++ v1.2))
def ct143p (K : Nat) : Ct := ⟨[.l i6], [], [.l (.v .s)], [], [], F143p K⟩
theorem c143p (K : Nat) : CtOk prog 143 (ct143p K) :=
  cmk (K := K) (an := (sN (.seq (sN (.cond .no .no)) (sN (.seq (.blk (.loop [] ⟨(.l i6 :: ru 2 (.l (.v .s) :: ru 25 [])), []⟩ [(0, ⟨(.l i6 :: ru 2 (.l (.v .s) :: ru 25 [])), []⟩)] false (.seq (sN .no) (.blk .no)))) .no))))) func143 (kX (c143r K) kN)
def F143_b0 (K : Nat) (x : Int × List UInt8) : Option ((Int × List UInt8) ⊕ (Int × List UInt8)) :=
  branch (decide (10 ≤ x.1))
   (guard (decide ((((toB [w8 (w64 (48 + (Int.tmod x.1 10)))]).length) + x.2.length) ≤ 9223372036854775807)) <|
   some (.inl (w64 (Int.tdiv x.1 10), (toB [w8 (w64 (48 + (Int.tmod x.1 10)))]) ++ x.2)))
   (some (.inr x))
def F143 (K : Nat) (x : Int) : Option (List UInt8) :=
  branch (decide (x < 0))
   (bindO (F143p K (w64 (0 - x))) fun v0 =>
   guard (decide ((1 + v0.length) ≤ 9223372036854775807)) <|
   some (([45] : List UInt8) ++ v0))
   (bindO (iter K (F143_b0 K) (x, [])) fun v1 =>
   guard (decide ((((toB [w8 (w64 (48 + v1.1))]).length) + v1.2.length) ≤ 9223372036854775807)) <|
   some ((toB [w8 (w64 (48 + v1.1))]) ++ v1.2))
def ct143 (K : Nat) : Ct := ⟨[.l i6], [], [.l (.v .s)], [], [], F143 K⟩
theorem c143 (K : Nat) : CtOk prog 143 (ct143 K) :=
  cmk (K := K) (an := (sN (.seq (sN (.cond .no .no)) (sN (.seq (.blk (.loop [] ⟨(.l i6 :: ru 2 (.l (.v .s) :: ru 25 [])), []⟩ [(0, ⟨(.l i6 :: ru 2 (.l (.v .s) :: ru 25 [])), []⟩)] false (.seq (sN .no) (.blk .no)))) .no))))) func143 (kX (c143p K) kN)
def F87 (K : Nat) (x : Int × Int × Int) : Option (Bool) :=
  branch (decide (x.2.1 ≤ x.1))
   (some (decide (x.1 ≤ x.2.2)))
   (some false)
def ct87 (K : Nat) : Ct := ⟨[.l i6, .l i6, .l i6], [], [.l (.v .b)], [], [], F87 K⟩
theorem c87 (K : Nat) : CtOk prog 87 (ct87 K) :=
  cmk (K := K) (an := (sN .no)) func87 kN
def F84 (K : Nat) (x : Int) : Option (Bool) :=
  bindO (F87 K (x, 0, 255)) fun v0 =>
  some v0
def ct84 (K : Nat) : Ct := ⟨[.l i6], [], [.l (.v .b)], [], [], F84 K⟩
theorem c84 (K : Nat) : CtOk prog 84 (ct84 K) :=
  cmk (K := K) (an := (sN .no)) func84 (kX (c87 K) kN)
def F85 (K : Nat) (x : Int) : Option (Bool) :=
  bindO (F87 K (x, 0, 65535)) fun v0 =>
  some v0
def ct85 (K : Nat) : Ct := ⟨[.l i6], [], [.l (.v .b)], [], [], F85 K⟩
theorem c85 (K : Nat) : CtOk prog 85 (ct85 K) :=
  cmk (K := K) (an := (sN .no)) func85 (kX (c87 K) kN)
def F127 (K : Nat) (x : List UInt8) : Option (Int) :=
  bindO (α := Int × Bool) (branch (!(decide ((Int.tmod (x.length : Int) 256) = 0)))
     (some (w64 (Int.tdiv (x.length : Int) 256), true))
     (bindO (F87 K (w64 (Int.tdiv (x.length : Int) 256), 2, 16)) fun v0 =>
     some (w64 (Int.tdiv (x.length : Int) 256), !v0))) fun v1 =>
  branch v1.2
   (some 0)
   (some v1.1)
def ct127 (K : Nat) : Ct := ⟨[.l (.v .s)], [], [.l i6], [], [], F127 K⟩
theorem c127 (K : Nat) : CtOk prog 127 (ct127 K) :=
  cmk (K := K) (an := (sN (sN (.seq (.seqJ [(1000000, ⟨(ru 3 (.l i6 :: ru 11 (.l (.v .b) :: ru 1 []))), []⟩)] false .no (.cond .no .no)) .no)))) func127 (kX (c87 K) kN)
def F86 (K : Nat) (x : (List UInt8) × Int × Int × (List UInt8) × Int × Bool × Int) : Option (Bool) :=
  bindO (α := Bool ⊕ ((List UInt8) × Int × Int × (List UInt8) × Int × Bool × Int)) (bindO (α := Bool × (List UInt8) × Int × Int × (List UInt8) × Int × Bool × Int) (bindO (F127 K x.1) fun v0 =>
      branch (decide (v0 = 0))
       (some (true, x))
       (some (!(decide ((x.2.2.2.1.length : Int) = 256)), x))) fun v1 =>
    branch v1.1
     (some (.inl false))
     (some (.inr v1.2))) fun v2 =>
  csO v2
   (fun v3 => some v3)
   (fun v4 => branch (decide (v4.2.1 = 0))
    (branch (decide (v4.2.2.1 = 1))
     (branch (decide (v4.2.2.2.2.1 = 0))
      (branch (!v4.2.2.2.2.2.1)
       (some (decide (v4.2.2.2.2.2.2 = 0)))
       (some false))
      (some false))
     (some false))
    (branch (decide (v4.2.1 = 1))
     (bindO (F87 K (v4.2.2.1, 1, 31)) fun v5 =>
     branch v5
      (bindO (F87 K (v4.2.2.2.2.1, 0, 3)) fun v6 =>
      branch v6
       (bindO (F87 K (v4.2.2.2.2.2.2, 0, 1)) fun v7 =>
       some v7)
       (some false))
      (some false))
     (branch (decide (v4.2.1 = 2))
      (bindO (F87 K (v4.2.2.1, 0, 255)) fun v8 =>
      branch v8
       (bindO (F87 K (v4.2.2.2.2.1, 0, 3)) fun v9 =>
       branch v9
        (some (decide (v4.2.2.2.2.2.2 = 0)))
        (some false))
       (some false))
      (some false))))
def ct86 (K : Nat) : Ct := ⟨[.agg [(.v .s), i6, i6, (.v .s), i6, (.v .b), i6]], [], [.l (.v .b)], [], [], F86 K⟩
theorem c86 (K : Nat) : CtOk prog 86 (ct86 K) :=
  cmk (K := K) (an := (sN (.seqJ [(1000000, ⟨(ru 1 (.l (.ptr 2000 0 0) :: ru 63 [])), [(2000, ⟨7, false, .mix (some 27) [[.l (.v .s), .l i6, .l i6, .l (.v .s), .l i6, .l (.v .b), .l i6]]⟩)]⟩)] true (.seqJ [(1000000, ⟨(ru 1 (.l (.ptr 2000 0 0) :: ru 10 (.l (.v .b) :: ru 52 []))), [(2000, ⟨7, false, .mix (some 27) [[.l (.v .s), .l i6, .l i6, .l (.v .s), .l i6, .l (.v .b), .l i6]]⟩)]⟩)] false .no (.cond .no .no)) (.seq (sN (.blk (sN (.cond .no (sN (.cond .no (sN (.cond .no .no)))))))) .no)))) func86 (kX (c87 K) (kX (c127 K) kN))
def F33_b0 (K : Nat) (x : Int × (List Int) × Int × Int × Int × Int × Int × Int × Int × Int × Int × Int × Bool × Bool × MM) : Option ((Int × (List Int) × Int × Int × Int × Int × Int × Int × Int × Int × Int × Int × Bool × Bool × MM) ⊕ (Bool ⊕ (Int × Int × Int × Int × Int × Int × Int × Int × Int × Int × Bool × Bool × MM))) :=
  branch (decide (x.1 < (x.2.1.length : Int)))
   (guard (decide (0 ≤ x.1 ∧ x.1 < (x.2.1.length : Int))) <|
   nthN x.2.1 x.1.toNat fun v0 =>
   bindO (F84 K v0) fun v1 =>
   branch (!v1)
    (some (.inr (.inl false)))
    (some (.inl (w64 (x.1 + 1), x.2))))
   (some (.inr (.inr x.2.2)))
def F33_b1 (K : Nat) (x : Int × Int × Int × Int × Int × Int × Int × Int × Int × Int × Int × Bool × Bool × MM) : Option ((Int × Int × Int × Int × Int × Int × Int × Int × Int × Int × Int × Bool × Bool × MM) ⊕ (Bool ⊕ (Int × Int × Int × Int × Int × Int × Int × Int × Int × Int × Bool × Bool × MM))) :=
  branch (decide (x.1 < (x.2.2.2.2.2.2.2.2.2.2.2.2.2.2.2.2.2.2.2.2.2.2.2.2.2.2.2.2.2.2.2.2.2.2.1.length : Int)))
   (nth x.2.2.2.2.2.2.2.2.2.2.2.2.2.2.2.2.2.2.2.2.2.2.2.2.2.2.2.2.2.2.2.2.2.2.1 x.1 fun v0 =>
   bindO (F84 K v0) fun v1 =>
   branch (!v1)
    (some (.inr (.inl false)))
    (some (.inl (w64 (x.1 + 1), x.2))))
   (some (.inr (.inr x.2)))
def F33 (K : Nat) (x : MM) : Option (Bool) :=
  bindO (iter K (F33_b0 K) (0, [x.1, x.2.1, x.2.2.1, x.2.2.2.1, x.2.2.2.2.1, x.2.2.2.2.2.1, x.2.2.2.2.2.2.1, x.2.2.2.2.2.2.2.1], x.1, x.2.1, x.2.2.1, x.2.2.2.1, x.2.2.2.2.1, x.2.2.2.2.2.1, x.2.2.2.2.2.2.1, x.2.2.2.2.2.2.2.1, x.2.2.2.2.2.2.2.2.1, x.2.2.2.2.2.2.2.2.2.1, x.2.2.2.2.2.2.2.2.2.2.1, x.2.2.2.2.2.2.2.2.2.2.2.1, x)) fun v0 =>
  csO v0
   (fun v1 => some v1)
   (fun v2 => bindO (iter K (F33_b1 K) (0, v2)) fun v3 =>
   csO v3
    (fun v4 => some v4)
    (fun v5 => branch (decide ((Int.tmod v5.2.1 16) = 0))
     (bindO (F85 K v5.2.2.2.2.2.2.2.2.1) fun v6 =>
     branch v6
      (bindO (F85 K v5.2.2.2.2.2.2.2.2.2.1) fun v7 =>
      branch v7
       (bindO (F86 K (v5.2.2.2.2.2.2.2.2.2.2.2.2.2.2.2.2.2.2.2.2.2.2.2.2.1, v5.2.2.2.2.2.2.2.2.2.2.2.2.2.2.2.2.2.2.2.2.2.2.2.2.2.1, v5.2.2.2.2.2.2.2.2.2.2.2.2.2.2.2.2.2.2.2.2.2.2.2.2.2.2.1, v5.2.2.2.2.2.2.2.2.2.2.2.2.2.2.2.2.2.2.2.2.2.2.2.2.2.2.2.1, v5.2.2.2.2.2.2.2.2.2.2.2.2.2.2.2.2.2.2.2.2.2.2.2.2.2.2.2.2.1, v5.2.2.2.2.2.2.2.2.2.2.2.2.2.2.2.2.2.2.2.2.2.2.2.2.2.2.2.2.2.1, v5.2.2.2.2.2.2.2.2.2.2.2.2.2.2.2.2.2.2.2.2.2.2.2.2.2.2.2.2.2.2.1)) fun v8 =>
       branch v8
        (branch (decide ((v5.2.2.2.2.2.2.2.2.2.2.2.2.2.2.2.2.2.2.2.2.2.2.2.2.2.2.2.2.2.2.2.1.length : Int) = 256))
         (branch (decide ((v5.2.2.2.2.2.2.2.2.2.2.2.2.2.2.2.2.2.2.2.2.2.2.2.2.2.2.2.2.2.2.2.2.1.length : Int) = 127))
          (branch (decide ((v5.2.2.2.2.2.2.2.2.2.2.2.2.2.2.2.2.2.2.2.2.2.2.2.2.2.2.2.2.2.2.2.2.2.1.length : Int) ≤ 100))
           (bindO (F87 K (v5.2.2.2.2.2.2.2.2.2.2.2.2.2.2.2.2.2.2.2.2.2.2.2.2.2.2.2.2.2.2.2.2.2.2, 0, 1000000000)) fun v9 =>
           some v9)
           (some false))
          (some false))
         (some false))
        (some false))
       (some false))
      (some false))
     (some false)))
def ct33 (K : Nat) : Ct := ⟨[.agg mL], [], [.l (.v .b)], [], [], F33 K⟩
theorem c33 (K : Nat) : CtOk prog 33 (ct33 K) :=
  cmk (K := K) (an := (sN (sN (sN (.seq (sN (.blk (.loop [] ⟨(ru 1 (.l (.ptr 2000 0 0) :: ru 1 (.l (.ptr 4000 0 0) :: .l (.all 26000) :: .l i6 :: ru 88 []))), [(26000, ⟨1, true, .row (.i .i64)⟩), (4000, ⟨12, false, .mix (some 25) [[.l i6, .l i6, .l i6, .l i6, .l i6, .l i6, .l i6, .l i6, .l i6, .l i6, .l (.v .b), .l (.v .b)]]⟩), (2000, ⟨23, false, .mix (some 30) [mN]⟩)]⟩ [(0, ⟨(ru 1 (.l (.ptr 2000 0 0) :: ru 1 (.l (.ptr 4000 0 0) :: ru 90 []))), [(4000, ⟨12, false, .mix (some 25) [[.l i6, .l i6, .l i6, .l i6, .l i6, .l i6, .l i6, .l i6, .l i6, .l i6, .l (.v .b), .l (.v .b)]]⟩), (2000, ⟨23, false, .mix (some 30) [mN]⟩)]⟩)] true (.seq (sN .no) (.seq (.blk (sN (.cond .no .no))) .no))))) (.seq (sN (.blk (.loop [] ⟨(ru 1 (.l (.ptr 2000 0 0) :: ru 1 (.l (.ptr 4000 0 0) :: ru 2 (.l i6 :: ru 87 [])))), [(4000, ⟨12, false, .mix (some 25) [[.l i6, .l i6, .l i6, .l i6, .l i6, .l i6, .l i6, .l i6, .l i6, .l i6, .l (.v .b), .l (.v .b)]]⟩), (2000, ⟨23, false, .mix (some 30) [mN]⟩)]⟩ [(2, ⟨(ru 1 (.l (.ptr 2000 0 0) :: ru 1 (.l (.ptr 4000 0 0) :: ru 90 []))), [(4000, ⟨12, false, .mix (some 25) [[.l i6, .l i6, .l i6, .l i6, .l i6, .l i6, .l i6, .l i6, .l i6, .l i6, .l (.v .b), .l (.v .b)]]⟩), (2000, ⟨23, false, .mix (some 30) [mN]⟩)]⟩)] true (.seq (sN .no) (.seq (.blk (sN (.cond .no .no))) .no))))) .no)))))) func33 (kX (c87 K) (kX (c84 K) (kX (c85 K) (kX (c86 K) kN))))
def F89 (K : Nat) (x : MM) : Option MM :=
  guard (fitN (0 + x.2.2.2.2.2.2.2.2.2.2.2.2.2.2.2.2.2.2.2.2.2.1.length) 8) <|
  some (x.1, x.2.1, x.2.2.1, x.2.2.2.1, x.2.2.2.2.1, x.2.2.2.2.2.1, x.2.2.2.2.2.2.1, x.2.2.2.2.2.2.2.1, x.2.2.2.2.2.2.2.2.1, x.2.2.2.2.2.2.2.2.2.1, x.2.2.2.2.2.2.2.2.2.2.1, x.2.2.2.2.2.2.2.2.2.2.2.1, x.2.2.2.2.2.2.2.2.2.2.2.2.1, x.2.2.2.2.2.2.2.2.2.2.2.2.2.1, x.2.2.2.2.2.2.2.2.2.2.2.2.2.2.1, x.2.2.2.2.2.2.2.2.2.2.2.2.2.2.2.1, x.2.2.2.2.2.2.2.2.2.2.2.2.2.2.2.2.1, x.2.2.2.2.2.2.2.2.2.2.2.2.2.2.2.2.2.1, x.2.2.2.2.2.2.2.2.2.2.2.2.2.2.2.2.2.2.1, x.2.2.2.2.2.2.2.2.2.2.2.2.2.2.2.2.2.2.2.1, x.2.2.2.2.2.2.2.2.2.2.2.2.2.2.2.2.2.2.2.2.1, [] ++ x.2.2.2.2.2.2.2.2.2.2.2.2.2.2.2.2.2.2.2.2.2.1, x.2.2.2.2.2.2.2.2.2.2.2.2.2.2.2.2.2.2.2.2.2.2)
def ct89 (K : Nat) : Ct := ⟨[.agg mL], [], [.agg mL], [], [], F89 K⟩
theorem c89 (K : Nat) : CtOk prog 89 (ct89 K) :=
  cmk (K := K) (an := (sN (sN .no))) func89 kN
def F246 (K : Nat) (x : (List UInt8) × Int × Int × (List UInt8) × Int × Bool × Int) : Option (Int) :=
  bindO (α := Bool × (List UInt8) × Int × Int × (List UInt8) × Int × Bool × Int) (branch (decide (x.2.1 = 1))
     (some (decide (x.2.2.2.2.2.2 = 0), x))
     (some (false, x))) fun v0 =>
  branch v0.1
   (some 0)
   (some v0.2.2.2.2.2.1)
def ct246 (K : Nat) : Ct := ⟨[.agg [(.v .s), i6, i6, (.v .s), i6, (.v .b), i6]], [], [.l i6], [], [], F246 K⟩
theorem c246 (K : Nat) : CtOk prog 246 (ct246 K) :=
  cmk (K := K) (an := (sN (.seq (.seqJ [(1000000, ⟨(ru 1 (.l (.ptr 2000 0 0) :: ru 8 (.l (.v .b) :: ru 2 []))), [(2000, ⟨7, false, .mix (some 27) [[.l (.v .s), .l i6, .l i6, .l (.v .s), .l i6, .l (.v .b), .l i6]]⟩)]⟩)] false .no (.cond .no .no)) .no))) func246 kN
def F194 (K : Nat) (x : (List UInt8) × Int × Int × (List UInt8) × Int × Bool × Int × Int) : Option (Int) :=
  bindO (F87 K (x.2.2.2.2.2.2.2, 0, 255)) fun v0 =>
  branch v0
   (nth x.1 x.2.2.2.2.2.2.2 fun v1 =>
   some (w64 (v1.toNat : Int)))
   (bindO (F87 K (x.2.2.2.2.2.2.2, 256, 511)) fun v2 =>
   branch v2
    (bindO (F127 K x.1) fun v3 =>
    guard (!(decide (v3 = 0))) <|
    nth x.1 (w64 ((w64 ((w64 ((Int.tmod x.2.2.1 v3) * 256)) + x.2.2.2.2.2.2.2)) - 256)) fun v4 =>
    some (w64 (v4.toNat : Int)))
    (bindO (α := Int × Bool × (List UInt8) × Int × Int × (List UInt8) × Int × Bool × Int) (branch x.2.2.2.2.2.1
       (bindO (F87 K (x.2.2.2.2.2.2.2, 40960, 41023)) fun v5 =>
       some (x.2.2.2.2.2.2.2, v5, x.1, x.2.1, x.2.2.1, x.2.2.2.1, x.2.2.2.2.1, x.2.2.2.2.2.1, x.2.2.2.2.2.2.1))
       (some (x.2.2.2.2.2.2.2, false, x.1, x.2.1, x.2.2.1, x.2.2.2.1, x.2.2.2.2.1, x.2.2.2.2.2.1, x.2.2.2.2.2.2.1))) fun v6 =>
    branch v6.2.1
     (bindO (F246 K v6.2.2) fun v7 =>
     nth v6.2.2.2.2.2.1 (w64 ((w64 ((w64 (v7 * 64)) + v6.1)) - 40960)) fun v8 =>
     some (w64 (v8.toNat : Int)))
     (some 255)))
def ct194 (K : Nat) : Ct := ⟨[.agg [(.v .s), i6, i6, (.v .s), i6, (.v .b), i6], .l i6], [], [.l i6], [], [], F194 K⟩
theorem c194 (K : Nat) : CtOk prog 194 (ct194 K) :=
  cmk (K := K) (an := (sN (.seq (.blk (sN (.cond .no (sN (.cond .no (.seqJ [(1000000, ⟨(ru 1 (.l i6 :: .l (.ptr 3000 0 0) :: ru 27 (.l (.v .b) :: ru 16 []))), [(3000, ⟨7, false, .mix (some 27) [[.l (.v .s), .l i6, .l i6, .l (.v .s), .l i6, .l (.v .b), .l i6]]⟩)]⟩)] false .no (.cond .no .no))))))) .no))) func194 (kX (c87 K) (kX (c127 K) (kX (c246 K) kN)))
def F138 (K : Nat) (x : MC (Int)) : Option (Int) :=
  bindO (F87 K (x.2.2.2.2.2.2.2.2.2.2.2.2.2.2.2.2.2.2.2.2.2.2.2, 49152, 49407)) fun v0 =>
  branch v0
   (nth x.2.2.2.2.2.2.2.2.2.2.2.2.2.2.2.2.2.2.2.1 (w64 (x.2.2.2.2.2.2.2.2.2.2.2.2.2.2.2.2.2.2.2.2.2.2.2 - 49152)) fun v1 =>
   some (w64 (v1.toNat : Int)))
   (bindO (F87 K (x.2.2.2.2.2.2.2.2.2.2.2.2.2.2.2.2.2.2.2.2.2.2.2, 65408, 65534)) fun v2 =>
   branch v2
    (nth x.2.2.2.2.2.2.2.2.2.2.2.2.2.2.2.2.2.2.2.2.1 (w64 (x.2.2.2.2.2.2.2.2.2.2.2.2.2.2.2.2.2.2.2.2.2.2.2 - 65408)) fun v3 =>
    some (w64 (v3.toNat : Int)))
    (bindO (F194 K (x.2.2.2.2.2.2.2.2.2.2.2.2.1, x.2.2.2.2.2.2.2.2.2.2.2.2.2.1, x.2.2.2.2.2.2.2.2.2.2.2.2.2.2.1, x.2.2.2.2.2.2.2.2.2.2.2.2.2.2.2.1, x.2.2.2.2.2.2.2.2.2.2.2.2.2.2.2.2.1, x.2.2.2.2.2.2.2.2.2.2.2.2.2.2.2.2.2.1, x.2.2.2.2.2.2.2.2.2.2.2.2.2.2.2.2.2.2.1, x.2.2.2.2.2.2.2.2.2.2.2.2.2.2.2.2.2.2.2.2.2.2.2)) fun v4 =>
    some v4))
def ct138 (K : Nat) : Ct := ⟨[.agg mL, .l i6], [], [.l i6], [], [], F138 K⟩
theorem c138 (K : Nat) : CtOk prog 138 (ct138 K) :=
  cmk (K := K) (an := (sN (.seq (.blk (sN (.cond .no (sN (.cond .no .no))))) .no))) func138 (kX (c87 K) (kX (c194 K) kN))
def F195 (K : Nat) (x : (List UInt8) × Int) : Option (Int) :=
  nth x.1 x.2 fun v0 =>
  some (w64 (v0.toNat : Int))
def ct195 (K : Nat) : Ct := ⟨[.l (.v .s), .l i6], [], [.l i6], [], [], F195 K⟩
theorem c195 (K : Nat) : CtOk prog 195 (ct195 K) :=
  cmk (K := K) (an := (sN .no)) func195 kN
def F197 (K : Nat) (x : Unit) : Option (List (List UInt8)) :=
  some [([114, 108, 99] : List UInt8), ([114, 114, 99] : List UInt8), ([114, 108] : List UInt8), ([114, 114] : List UInt8), ([115, 108, 97] : List UInt8), ([115, 114, 97] : List UInt8), ([115, 119, 97, 112] : List UInt8), ([115, 114, 108] : List UInt8)]
def ct197 (K : Nat) : Ct := ⟨[], [], [.l (.v (.l .s))], [], [], F197 K⟩
theorem c197 (K : Nat) : CtOk prog 197 (ct197 K) :=
  cmk (K := K) (an := (sN .no)) func197 kN
def F198 (K : Nat) (x : Unit) : Option (List (List UInt8)) :=
  some [([98] : List UInt8), ([99] : List UInt8), ([100] : List UInt8), ([101] : List UInt8), ([104] : List UInt8), ([108] : List UInt8), ([91, 104, 108, 93] : List UInt8), ([97] : List UInt8)]
def ct198 (K : Nat) : Ct := ⟨[], [], [.l (.v (.l .s))], [], [], F198 K⟩
theorem c198 (K : Nat) : CtOk prog 198 (ct198 K) :=
  cmk (K := K) (an := (sN .no)) func198 kN
def F247 (K : Nat) (x : Unit) : Option (List (List UInt8)) :=
  some [([110, 122] : List UInt8), ([122] : List UInt8), ([110, 99] : List UInt8), ([99] : List UInt8)]
def ct247 (K : Nat) : Ct := ⟨[], [], [.l (.v (.l .s))], [], [], F247 K⟩
theorem c247 (K : Nat) : CtOk prog 247 (ct247 K) :=
  cmk (K := K) (an := (sN .no)) func247 kN
def F248 (K : Nat) (x : Unit) : Option (List (List UInt8)) :=
  some [([98, 99] : List UInt8), ([100, 101] : List UInt8), ([104, 108] : List UInt8), ([115, 112] : List UInt8)]
def ct248 (K : Nat) : Ct := ⟨[], [], [.l (.v (.l .s))], [], [], F248 K⟩
theorem c248 (K : Nat) : CtOk prog 248 (ct248 K) :=
  cmk (K := K) (an := (sN .no)) func248 kN
def F199 (K : Nat) (x : Int × Int) : Option (List UInt8) :=
  branch (decide (x.2 = 0))
   (branch (decide (x.1 < 4))
    (guard (decide (0 ≤ x.1 ∧ x.1 < (4 : Int))) <|
    nthN [([110, 111, 112] : List UInt8), ([108, 100, 32, 91, 110, 49, 54, 93, 44, 115, 112] : List UInt8), ([115, 116, 111, 112, 32, 110, 56] : List UInt8), ([106, 114, 32, 101, 56] : List UInt8)] x.1.toNat fun v0 =>
    some v0)
    (bindO (F247 K ()) fun v1 =>
    nth v1 (w64 (x.1 - 4)) fun v2 =>
    guard (decide ((3 + v2.length) ≤ 9223372036854775807)) <|
    guard (decide ((((([106, 114, 32] : List UInt8) ++ v2).length) + 3) ≤ 9223372036854775807)) <|
    some ((([106, 114, 32] : List UInt8) ++ v2) ++ ([44, 101, 56] : List UInt8))))
   (branch (decide (x.2 = 1))
    (branch (decide ((Int.tmod x.1 2) = 0))
     (bindO (F248 K ()) fun v3 =>
     nth v3 (w64 (Int.tdiv x.1 2)) fun v4 =>
     guard (decide ((3 + v4.length) ≤ 9223372036854775807)) <|
     guard (decide ((((([108, 100, 32] : List UInt8) ++ v4).length) + 4) ≤ 9223372036854775807)) <|
     some ((([108, 100, 32] : List UInt8) ++ v4) ++ ([44, 110, 49, 54] : List UInt8)))
     (bindO (F248 K ()) fun v5 =>
     nth v5 (w64 (Int.tdiv x.1 2)) fun v6 =>
     guard (decide ((7 + v6.length) ≤ 9223372036854775807)) <|
     some (([97, 100, 100, 32, 104, 108, 44] : List UInt8) ++ v6)))
    (branch (decide (x.2 = 2))
     (guard (decide (0 ≤ (w64 (Int.tdiv x.1 2)) ∧ (w64 (Int.tdiv x.1 2)) < (4 : Int))) <|
     nthN [([91, 98, 99, 93] : List UInt8), ([91, 100, 101, 93] : List UInt8), ([91, 104, 108, 43, 93] : List UInt8), ([91, 104, 108, 45, 93] : List UInt8)] ((w64 (Int.tdiv x.1 2)).toNat) fun v7 =>
     branch (decide ((Int.tmod x.1 2) = 0))
      (guard (decide ((3 + v7.length) ≤ 9223372036854775807)) <|
      guard (decide ((((([108, 100, 32] : List UInt8) ++ v7).length) + 2) ≤ 9223372036854775807)) <|
      some ((([108, 100, 32] : List UInt8) ++ v7) ++ ([44, 97] : List UInt8)))
      (guard (decide ((5 + v7.length) ≤ 9223372036854775807)) <|
      some (([108, 100, 32, 97, 44] : List UInt8) ++ v7)))
     (branch (decide (x.2 = 3))
      (nth [([105, 110, 99, 32] : List UInt8), ([100, 101, 99, 32] : List UInt8)] (Int.tmod x.1 2) fun v8 =>
      bindO (F248 K ()) fun v9 =>
      nth v9 (w64 (Int.tdiv x.1 2)) fun v10 =>
      guard (decide ((v8.length + v10.length) ≤ 9223372036854775807)) <|
      some (v8 ++ v10))
      (branch (decide (x.2 = 4))
       (bindO (F198 K ()) fun v11 =>
       nth v11 x.1 fun v12 =>
       guard (decide ((4 + v12.length) ≤ 9223372036854775807)) <|
       some (([105, 110, 99, 32] : List UInt8) ++ v12))
       (branch (decide (x.2 = 5))
        (bindO (F198 K ()) fun v13 =>
        nth v13 x.1 fun v14 =>
        guard (decide ((4 + v14.length) ≤ 9223372036854775807)) <|
        some (([100, 101, 99, 32] : List UInt8) ++ v14))
        (branch (decide (x.2 = 6))
         (bindO (F198 K ()) fun v15 =>
         nth v15 x.1 fun v16 =>
         guard (decide ((3 + v16.length) ≤ 9223372036854775807)) <|
         guard (decide ((((([108, 100, 32] : List UInt8) ++ v16).length) + 3) ≤ 9223372036854775807)) <|
         some ((([108, 100, 32] : List UInt8) ++ v16) ++ ([44, 110, 56] : List UInt8)))
         (guard (decide (0 ≤ x.1 ∧ x.1 < (8 : Int))) <|
         nthN [([114, 108, 99, 97] : List UInt8), ([114, 114, 99, 97] : List UInt8), ([114, 108, 97] : List UInt8), ([114, 114, 97] : List UInt8), ([100, 97, 97] : List UInt8), ([99, 112, 108] : List UInt8), ([115, 99, 102] : List UInt8), ([99, 99, 102] : List UInt8)] x.1.toNat fun v17 =>
         some v17)))))))
def ct199 (K : Nat) : Ct := ⟨[.l i6, .l i6], [], [.l (.v .s)], [], [], F199 K⟩
theorem c199 (K : Nat) : CtOk prog 199 (ct199 K) :=
  cmk (K := K) (an := (sN (sN (sN (.seq (sN (.blk (sN (.cond (.seq (sN (.cond .no .no)) .no) (sN (.cond (.seq (sN (.cond .no .no)) .no) (sN (.cond (sN (.seq (sN (.cond .no .no)) .no)) (sN (.cond (.seq (.reg [0] []) .no) (sN (.cond .no (sN (.cond .no (sN (.cond .no .no)))))))))))))))) .no))))) func199 (kX (c198 K) (kX (c247 K) (kX (c248 K) kN)))
def F200 (K : Nat) (x : Unit) : Option (List (List UInt8)) :=
  some [([97, 100, 100] : List UInt8), ([97, 100, 99] : List UInt8), ([115, 117, 98] : List UInt8), ([115, 98, 99] : List UInt8), ([97, 110, 100] : List UInt8), ([120, 111, 114] : List UInt8), ([111, 114] : List UInt8), ([99, 112] : List UInt8)]
def ct200 (K : Nat) : Ct := ⟨[], [], [.l (.v (.l .s))], [], [], F200 K⟩
theorem c200 (K : Nat) : CtOk prog 200 (ct200 K) :=
  cmk (K := K) (an := (sN .no)) func200 kN
def F101_b0 (K : Nat) (x : Int × Int × (List UInt8) × Int) : Option ((Int × Int × (List UInt8) × Int) ⊕ (Int × List UInt8)) :=
  branch (decide (x.2.2.2 < x.2.1))
   (guard (decide (0 ≤ (Int.tmod x.1 16) ∧ (Int.tmod x.1 16) ≤ (w64 ((Int.tmod x.1 16) + 1)) ∧ (w64 ((Int.tmod x.1 16) + 1)) ≤ 16)) <|
   guard (decide ((((subL ([48, 49, 50, 51, 52, 53, 54, 55, 56, 57, 65, 66, 67, 68, 69, 70] : List UInt8) (Int.tmod x.1 16) (w64 ((Int.tmod x.1 16) + 1))).length) + x.2.2.1.length) ≤ 9223372036854775807)) <|
   some (.inl (w64 (Int.tdiv x.1 16), x.2.1, (subL ([48, 49, 50, 51, 52, 53, 54, 55, 56, 57, 65, 66, 67, 68, 69, 70] : List UInt8) (Int.tmod x.1 16) (w64 ((Int.tmod x.1 16) + 1))) ++ x.2.2.1, w64 (x.2.2.2 + 1))))
   (some (.inr (x.1, x.2.2.1)))
def F101 (K : Nat) (x : Int × Int) : Option (List UInt8) :=
  bindO (α := (List UInt8) ⊕ (Int × Int)) (bindO (α := Int × Int × Bool) (bindO (F87 K (x.2, 1, 4)) fun v0 =>
      branch (!v0)
       (some (x.1, x.2, true))
       (bindO (F87 K (x.1, 0, 65535)) fun v1 =>
       some (x.1, x.2, !v1))) fun v2 =>
    branch v2.2.2
     (some (.inl []))
     (some (.inr (v2.1, v2.2.1)))) fun v3 =>
  csO v3
   (fun v4 => some v4)
   (fun v5 => bindO (iter K (F101_b0 K) (v5.1, v5.2, [], 0)) fun v6 =>
   branch (decide (0 < v6.1))
    (some [])
    (guard (decide ((1 + v6.2.length) ≤ 9223372036854775807)) <|
    some (([36] : List UInt8) ++ v6.2)))
def ct101 (K : Nat) : Ct := ⟨[.l i6, .l i6], [], [.l (.v .s)], [], [], F101 K⟩
theorem c101 (K : Nat) : CtOk prog 101 (ct101 K) :=
  cmk (K := K) (an := (sN (.seqJ [(1000000, ⟨(.l i6 :: .l i6 :: ru 32 []), []⟩)] true (.seqJ [(1000000, ⟨(.l i6 :: .l i6 :: ru 12 (.l (.v .b) :: ru 19 [])), []⟩)] false .no (.cond .no .no)) (sN (.seq (sN (.blk (.loop [] ⟨(.l i6 :: .l i6 :: ru 3 (.l (.v .s) :: .l i6 :: ru 27 [])), []⟩ [(0, ⟨(.l i6 :: ru 4 (.l (.v .s) :: ru 28 [])), []⟩)] false (.seq (sN .no) (.seq (.blk .no) .no))))) (.seq (sN (.cond .no .no)) .no)))))) func101 (kX (c87 K) kN)
def F201 (K : Nat) (x : Int × Int) : Option (List UInt8) :=
  branch (decide (x.2 = 0))
   (branch (decide (x.1 < 4))
    (bindO (F247 K ()) fun v0 =>
    nth v0 x.1 fun v1 =>
    guard (decide ((4 + v1.length) ≤ 9223372036854775807)) <|
    some (([114, 101, 116, 32] : List UInt8) ++ v1))
    (guard (decide (0 ≤ (w64 (x.1 - 4)) ∧ (w64 (x.1 - 4)) < (4 : Int))) <|
    nthN [([108, 100, 104, 32, 91, 110, 56, 93, 44, 97] : List UInt8), ([97, 100, 100, 32, 115, 112, 44, 101, 56] : List UInt8), ([108, 100, 104, 32, 97, 44, 91, 110, 56, 93] : List UInt8), ([108, 100, 32, 104, 108, 44, 115, 112, 43, 101, 56] : List UInt8)] ((w64 (x.1 - 4)).toNat) fun v2 =>
    some v2))
   (branch (decide (x.2 = 1))
    (branch (decide ((Int.tmod x.1 2) = 0))
     (guard (decide (0 ≤ (w64 (Int.tdiv x.1 2)) ∧ (w64 (Int.tdiv x.1 2)) < (4 : Int))) <|
     nthN [([98, 99] : List UInt8), ([100, 101] : List UInt8), ([104, 108] : List UInt8), ([97, 102] : List UInt8)] ((w64 (Int.tdiv x.1 2)).toNat) fun v3 =>
     guard (decide ((4 + v3.length) ≤ 9223372036854775807)) <|
     some (([112, 111, 112, 32] : List UInt8) ++ v3))
     (guard (decide (0 ≤ (w64 (Int.tdiv x.1 2)) ∧ (w64 (Int.tdiv x.1 2)) < (4 : Int))) <|
     nthN [([114, 101, 116] : List UInt8), ([114, 101, 116, 105] : List UInt8), ([106, 112, 32, 104, 108] : List UInt8), ([108, 100, 32, 115, 112, 44, 104, 108] : List UInt8)] ((w64 (Int.tdiv x.1 2)).toNat) fun v4 =>
     some v4))
    (branch (decide (x.2 = 2))
     (branch (decide (x.1 < 4))
      (bindO (F247 K ()) fun v5 =>
      nth v5 x.1 fun v6 =>
      guard (decide ((3 + v6.length) ≤ 9223372036854775807)) <|
      guard (decide ((((([106, 112, 32] : List UInt8) ++ v6).length) + 4) ≤ 9223372036854775807)) <|
      some ((([106, 112, 32] : List UInt8) ++ v6) ++ ([44, 110, 49, 54] : List UInt8)))
      (guard (decide (0 ≤ (w64 (x.1 - 4)) ∧ (w64 (x.1 - 4)) < (4 : Int))) <|
      nthN [([108, 100, 104, 32, 91, 99, 93, 44, 97] : List UInt8), ([108, 100, 32, 91, 110, 49, 54, 93, 44, 97] : List UInt8), ([108, 100, 104, 32, 97, 44, 91, 99, 93] : List UInt8), ([108, 100, 32, 97, 44, 91, 110, 49, 54, 93] : List UInt8)] ((w64 (x.1 - 4)).toNat) fun v7 =>
      some v7))
     (branch (decide (x.2 = 3))
      (guard (decide (0 ≤ x.1 ∧ x.1 < (8 : Int))) <|
      nthN [([106, 112, 32, 110, 49, 54] : List UInt8), [], [], [], [], [], ([100, 105] : List UInt8), ([101, 105] : List UInt8)] x.1.toNat fun v8 =>
      some v8)
      (branch (decide (x.2 = 4))
       (branch (decide (x.1 < 4))
        (bindO (F247 K ()) fun v9 =>
        nth v9 x.1 fun v10 =>
        guard (decide ((5 + v10.length) ≤ 9223372036854775807)) <|
        guard (decide ((((([99, 97, 108, 108, 32] : List UInt8) ++ v10).length) + 4) ≤ 9223372036854775807)) <|
        some ((([99, 97, 108, 108, 32] : List UInt8) ++ v10) ++ ([44, 110, 49, 54] : List UInt8)))
        (some []))
       (branch (decide (x.2 = 5))
        (branch (decide ((Int.tmod x.1 2) = 0))
         (guard (decide (0 ≤ (w64 (Int.tdiv x.1 2)) ∧ (w64 (Int.tdiv x.1 2)) < (4 : Int))) <|
         nthN [([98, 99] : List UInt8), ([100, 101] : List UInt8), ([104, 108] : List UInt8), ([97, 102] : List UInt8)] ((w64 (Int.tdiv x.1 2)).toNat) fun v11 =>
         guard (decide ((5 + v11.length) ≤ 9223372036854775807)) <|
         some (([112, 117, 115, 104, 32] : List UInt8) ++ v11))
         (guard (decide (0 ≤ (w64 (Int.tdiv x.1 2)) ∧ (w64 (Int.tdiv x.1 2)) < (4 : Int))) <|
         nthN [([99, 97, 108, 108, 32, 110, 49, 54] : List UInt8), [], [], []] ((w64 (Int.tdiv x.1 2)).toNat) fun v12 =>
         some v12))
        (branch (decide (x.2 = 6))
         (bindO (F200 K ()) fun v13 =>
         nth v13 x.1 fun v14 =>
         guard (decide ((v14.length + 5) ≤ 9223372036854775807)) <|
         some (v14 ++ ([32, 97, 44, 110, 56] : List UInt8)))
         (bindO (F101 K (w64 (8 * x.1), 2)) fun v15 =>
         guard (decide ((4 + v15.length) ≤ 9223372036854775807)) <|
         some (([114, 115, 116, 32] : List UInt8) ++ v15))))))))
def ct201 (K : Nat) : Ct := ⟨[.l i6, .l i6], [], [.l (.v .s)], [], [], F201 K⟩
theorem c201 (K : Nat) : CtOk prog 201 (ct201 K) :=
  cmk (K := K) (an := (sN (sN (sN (sN (.seq (sN (.blk (sN (.cond (.seq (sN (.cond .no .no)) .no) (sN (.cond (.seq (sN (.cond .no .no)) .no) (sN (.cond (.seq (sN (.cond .no .no)) .no) (sN (.cond .no (sN (.cond (.seq (sN (.cond .no .no)) .no) (sN (.cond (.seq (sN (.cond .no .no)) .no) (sN (.cond .no .no)))))))))))))))) .no)))))) func201 (kX (c247 K) (kX (c200 K) (kX (c101 K) kN)))
def F141 (K : Nat) (x : Int × Bool) : Option (List UInt8) :=
  bindO (α := Int × Bool × Int × Int × Int × Bool) (branch x.2
     (some (x.1, x.2, w64 (Int.tdiv x.1 64), Int.tmod (w64 (Int.tdiv x.1 8)) 8, Int.tmod x.1 8, decide ((w64 (Int.tdiv x.1 64)) = 0)))
     (some (x.1, x.2, w64 (Int.tdiv x.1 64), Int.tmod (w64 (Int.tdiv x.1 8)) 8, Int.tmod x.1 8, false))) fun v0 =>
  branch v0.2.2.2.2.2
   (bindO (F197 K ()) fun v1 =>
   nth v1 v0.2.2.2.1 fun v2 =>
   guard (decide ((v2.length + 1) ≤ 9223372036854775807)) <|
   bindO (F198 K ()) fun v3 =>
   nth v3 v0.2.2.2.2.1 fun v4 =>
   guard (decide ((((v2 ++ ([32] : List UInt8)).length) + v4.length) ≤ 9223372036854775807)) <|
   some ((v2 ++ ([32] : List UInt8)) ++ v4))
   (branch v0.2.1
    (nth [[], ([98, 105, 116, 32] : List UInt8), ([114, 101, 115, 32] : List UInt8), ([115, 101, 116, 32] : List UInt8)] v0.2.2.1 fun v5 =>
    bindO (F143 K v0.2.2.2.1) fun v6 =>
    guard (decide ((v5.length + v6.length) ≤ 9223372036854775807)) <|
    guard (decide ((((v5 ++ v6).length) + 1) ≤ 9223372036854775807)) <|
    bindO (F198 K ()) fun v7 =>
    nth v7 v0.2.2.2.2.1 fun v8 =>
    guard (decide (((((v5 ++ v6) ++ ([44] : List UInt8)).length) + v8.length) ≤ 9223372036854775807)) <|
    some (((v5 ++ v6) ++ ([44] : List UInt8)) ++ v8))
    (branch (decide (v0.2.2.1 = 0))
     (bindO (F199 K (v0.2.2.2.1, v0.2.2.2.2.1)) fun v9 =>
     some v9)
     (branch (decide (v0.1 = 118))
      (some ([104, 97, 108, 116] : List UInt8))
      (branch (decide (v0.2.2.1 = 1))
       (bindO (F198 K ()) fun v10 =>
       nth v10 v0.2.2.2.1 fun v11 =>
       guard (decide ((3 + v11.length) ≤ 9223372036854775807)) <|
       guard (decide ((((([108, 100, 32] : List UInt8) ++ v11).length) + 1) ≤ 9223372036854775807)) <|
       bindO (F198 K ()) fun v12 =>
       nth v12 v0.2.2.2.2.1 fun v13 =>
       guard (decide (((((([108, 100, 32] : List UInt8) ++ v11) ++ ([44] : List UInt8)).length) + v13.length) ≤ 9223372036854775807)) <|
       some (((([108, 100, 32] : List UInt8) ++ v11) ++ ([44] : List UInt8)) ++ v13))
       (branch (decide (v0.2.2.1 = 2))
        (bindO (F200 K ()) fun v14 =>
        nth v14 v0.2.2.2.1 fun v15 =>
        guard (decide ((v15.length + 3) ≤ 9223372036854775807)) <|
        bindO (F198 K ()) fun v16 =>
        nth v16 v0.2.2.2.2.1 fun v17 =>
        guard (decide ((((v15 ++ ([32, 97, 44] : List UInt8)).length) + v17.length) ≤ 9223372036854775807)) <|
        some ((v15 ++ ([32, 97, 44] : List UInt8)) ++ v17))
        (bindO (F201 K (v0.2.2.2.1, v0.2.2.2.2.1)) fun v18 =>
        some v18))))))
def ct141 (K : Nat) : Ct := ⟨[.l i6, .l (.v .b)], [], [.l (.v .s)], [], [], F141 K⟩
theorem c141 (K : Nat) : CtOk prog 141 (ct141 K) :=
  cmk (K := K) (an := (sN (sN (sN (sN (.seq (.blk (.seqJ [(1000000, ⟨(.l i6 :: .l (.v .b) :: ru 3 (.l i6 :: .l i6 :: .l i6 :: ru 7 (.l (.v .b) :: ru 69 []))), []⟩)] false .no (.cond .no (sN (.cond (.seq (.reg [0] []) .no) (sN (.cond .no (sN (.cond .no (sN (.cond .no (sN (.cond .no .no))))))))))))) .no)))))) func141 (kX (c143 K) (kX (c197 K) (kX (c198 K) (kX (c199 K) (kX (c200 K) (kX (c201 K) kN))))))
def F142_b1 (K : Nat) (x : (List UInt8) × Int × Int × List (List UInt8)) : Option (((List UInt8) × Int × Int × List (List UInt8)) ⊕ ((Int × List UInt8) ⊕ ((List UInt8) × Int × List (List UInt8)))) :=
  guard (decide (0 ≤ x.2.1 ∧ x.2.1 < (x.2.2.2.length : Int))) <|
  nthN x.2.2.2 x.2.1.toNat fun v0 =>
  branch (decide ((w64 (x.2.2.1 + (v0.length : Int))) ≤ (x.1.length : Int)))
   (guard (decide (0 ≤ x.2.1 ∧ x.2.1 < (x.2.2.2.length : Int))) <|
   nthN x.2.2.2 x.2.1.toNat fun v1 =>
   guard (decide (0 ≤ x.2.2.1 ∧ x.2.2.1 ≤ (w64 (x.2.2.1 + (v1.length : Int))) ∧ (w64 (x.2.2.1 + (v1.length : Int))) ≤ (x.1.length : Int))) <|
   guard (decide (0 ≤ x.2.1 ∧ x.2.1 < (x.2.2.2.length : Int))) <|
   nthN x.2.2.2 x.2.1.toNat fun v2 =>
   branch (decide ((subL x.1 x.2.2.1 (w64 (x.2.2.1 + (v1.length : Int)))) = v2))
    (guard (decide (0 ≤ x.2.1 ∧ x.2.1 < (x.2.2.2.length : Int))) <|
    nthN x.2.2.2 x.2.1.toNat fun v3 =>
    some (.inr (.inl (x.2.2.1, v3))))
    (some (.inl (x.1, x.2.1, w64 (x.2.2.1 + 1), x.2.2.2))))
   (some (.inr (.inr (x.1, x.2.1, x.2.2.2))))
def F142_b0 (K : Nat) (x : (List UInt8) × Int × List (List UInt8)) : Option (((List UInt8) × Int × List (List UInt8)) ⊕ ((Int × List UInt8) ⊕ Unit)) :=
  branch (decide (x.2.1 < (x.2.2.length : Int)))
   (bindO (iter K (F142_b1 K) (x.1, x.2.1, 0, x.2.2)) fun v0 =>
   csO v0
    (fun v1 => some (.inr (.inl v1)))
    (fun v2 => some (.inl (v2.1, w64 (v2.2.1 + 1), v2.2.2))))
   (some (.inr (.inr ())))
def F142 (K : Nat) (x : List UInt8) : Option (Int × List UInt8) :=
  bindO (iter K (F142_b0 K) (x, 0, [([110, 49, 54] : List UInt8), ([110, 56] : List UInt8), ([101, 56] : List UInt8)])) fun v0 =>
  csO v0
   (fun v1 => some v1)
   (fun v2 => some ((-1), []))
def ct142 (K : Nat) : Ct := ⟨[.l (.v .s)], [], [.l i6, .l (.v .s)], [], [], F142 K⟩
theorem c142 (K : Nat) : CtOk prog 142 (ct142 K) :=
  cmk (K := K) (an := (sN (sN (.seq (sN (.blk (.loop [] ⟨(.l (.v .s) :: ru 3 (.l (.all 8000) :: .l i6 :: ru 40 [])), [(8000, ⟨1, true, .row .s⟩)]⟩ [(0, ⟨(ru 46 []), []⟩)] true (.seq (sN .no) (.seq (.blk (sN (.blk (.loop [] ⟨(.l (.v .s) :: ru 3 (.l (.all 8000) :: .l i6 :: .l i6 :: ru 39 [])), [(8000, ⟨1, true, .row .s⟩)]⟩ [(2, ⟨(.l (.v .s) :: ru 3 (.l (.all 8000) :: .l i6 :: ru 40 [])), [(8000, ⟨1, true, .row .s⟩)]⟩)] true (.seq (sN .no) (.seq (.blk (sN (.cond .no .no))) .no)))))) .no))))) .no)))) func142 kN
def F196 (K : Nat) (x : Int × Bool) : Option (Int) :=
  bindO (F141 K x) fun v0 =>
  branch (decide (v0 = []))
   (some 0)
   (branch x.2
    (some 2)
    (bindO (F142 K v0) fun v1 =>
    branch (decide (v1.2 = []))
     (some 1)
     (branch (decide (v1.2 = ([110, 49, 54] : List UInt8)))
      (some 3)
      (some 2))))
def ct196 (K : Nat) : Ct := ⟨[.l i6, .l (.v .b)], [], [.l i6], [], [], F196 K⟩
theorem c196 (K : Nat) : CtOk prog 196 (ct196 K) :=
  cmk (K := K) (an := (sN (sN (.seq (sN (.cond .no .no)) (.seq (sN (.cond .no .no)) (sN (.seq (sN (.blk (sN (.cond .no (sN (.cond .no .no)))))) .no))))))) func196 (kX (c141 K) (kX (c142 K) kN))
def F139 (K : Nat) (x : (List UInt8) × Int) : Option (Int × Bool × Int × Int) :=
  bindO (α := (Int × Bool × Int × Int) ⊕ ((List UInt8) × Int × Int × Int × Bool × Int)) (bindO (α := (List UInt8) × Int × Int × Bool × Int × Bool × Int) (branch (decide (x.2 < 0))
       (some (x.1, x.2, w64 ((x.1.length : Int) - x.2), true, 0, false, 0))
       (some (x.1, x.2, w64 ((x.1.length : Int) - x.2), decide ((w64 ((x.1.length : Int) - x.2)) < 1), 0, false, 0))) fun v0 =>
    branch v0.2.2.2.1
     (some (.inl (0, false, 0, 0)))
     (some (.inr (v0.1, v0.2.1, v0.2.2.1, v0.2.2.2.2)))) fun v1 =>
  csO v1
   (fun v2 => some v2)
   (fun v3 => bindO (F195 K (v3.1, v3.2.1)) fun v4 =>
   branch (decide (v4 = 203))
    (branch (decide (v3.2.2.1 < 2))
     (some (0, false, 0, 0))
     (bindO (F195 K (v3.1, w64 (v3.2.1 + 1))) fun v5 =>
     some (v5, true, 0, 2)))
    (bindO (F196 K (v4, false)) fun v6 =>
    bindO (α := (Int × Bool × Int × Int) ⊕ ((List UInt8) × Int × Int × Int × Bool × Int × Int × Bool × Int)) (bindO (α := (List UInt8) × Int × Int × Bool × Int × Bool × Int × Int × Bool × Int) (branch (decide (v6 = 0))
         (some (v3.1, v3.2.1, v6, true, v4, false, 0, v3.2.2.2))
         (some (v3.1, v3.2.1, v6, decide (v3.2.2.1 < v6), v4, false, 0, v3.2.2.2))) fun v7 =>
      branch v7.2.2.2.1
       (some (.inl (0, false, 0, 0)))
       (some (.inr (v7.1, v7.2.1, v7.2.2.1, v7.2.2.2.2)))) fun v8 =>
    csO v8
     (fun v9 => some v9)
     (fun v10 => bindO (α := (List UInt8) × Int × Int × Int × Bool × Int × Int × Bool × Int) (branch (decide (1 < v10.2.2.1))
        (bindO (F195 K (v10.1, w64 (v10.2.1 + 1))) fun v11 =>
        some (v10.1, v10.2.1, v10.2.2.1, v10.2.2.2.1, v10.2.2.2.2.1, v11, v10.2.2.2.2.2.2))
        (some v10)) fun v12 =>
     branch (decide (2 < v12.2.2.1))
      (bindO (F195 K (v12.1, w64 (v12.2.1 + 2))) fun v13 =>
      some (v12.2.2.2.1, v12.2.2.2.2.1, w64 (v12.2.2.2.2.2.1 + (w64 (256 * v13))), v12.2.2.1))
      (some (v12.2.2.2.1, v12.2.2.2.2.1, v12.2.2.2.2.2.1, v12.2.2.1)))))
def ct139 (K : Nat) : Ct := ⟨[.l (.v .s), .l i6], [], [.agg [i6, (.v .b), i6], .l i6], [], [], F139 K⟩
theorem c139 (K : Nat) : CtOk prog 139 (ct139 K) :=
  cmk (K := K) (an := (sN (sN (.seqJ [(1000000, ⟨(.l (.v .s) :: .l i6 :: ru 2 (.l (.ptr 5000 0 0) :: ru 1 (.l i6 :: ru 59 []))), [(5000, ⟨3, false, .mix (some 42) [[.l i6, .l (.v .b), .l i6]]⟩)]⟩)] true (.seqJ [(1000000, ⟨(.l (.v .s) :: .l i6 :: ru 2 (.l (.ptr 5000 0 0) :: ru 1 (.l i6 :: ru 11 (.l (.v .b) :: ru 47 [])))), [(5000, ⟨3, false, .mix (some 42) [[.l i6, .l (.v .b), .l i6]]⟩)]⟩)] false .no (.cond .no .no)) (sN (.seq (sN (.cond (.seq (sN (.cond .no .no)) .no) .no)) (sN (.seqJ [(1000000, ⟨(.l (.v .s) :: .l i6 :: ru 2 (.l (.ptr 5000 0 0) :: ru 2 (.l (.ptr 8000 0 0) :: .l i6 :: ru 57 []))), [(8000, ⟨3, false, .mix (some 42) [[.l i6, .l (.v .b), .l i6]]⟩), (5000, ⟨3, false, .mix (some 42) [[.l i6, .l (.v .b), .l i6]]⟩)]⟩)] true (.seqJ [(1000000, ⟨(.l (.v .s) :: .l i6 :: ru 2 (.l (.ptr 5000 0 0) :: ru 2 (.l (.ptr 8000 0 0) :: .l i6 :: ru 35 (.l (.v .b) :: ru 21 [])))), [(8000, ⟨3, false, .mix (some 42) [[.l i6, .l (.v .b), .l i6]]⟩), (5000, ⟨3, false, .mix (some 42) [[.l i6, .l (.v .b), .l i6]]⟩)]⟩)] false .no (.cond .no .no)) (.seqJ [(1000000, ⟨(.l (.v .s) :: .l i6 :: ru 2 (.l (.ptr 5000 0 0) :: ru 2 (.l (.ptr 8000 0 0) :: .l i6 :: ru 57 []))), [(8000, ⟨3, false, .mix (some 42) [[.l i6, .l (.v .b), .l i6]]⟩), (5000, ⟨3, false, .mix (some 42) [[.l i6, .l (.v .b), .l i6]]⟩)]⟩)] false (sN .no) (.seq (sN .no) .no)))))))))) func139 (kX (c195 K) (kX (c196 K) kN))
def F100_b0 (K : Nat) (x : Int × (List Int) × Int × Bool × Int × MM) : Option ((Int × (List Int) × Int × Bool × Int × MM) ⊕ ((List Int) × Int × Bool × Int)) :=
  branch (decide (x.1 < 3))
   (bindO (F138 K (x.2.2.2.2.2.1, x.2.2.2.2.2.2.1, x.2.2.2.2.2.2.2.1, x.2.2.2.2.2.2.2.2.1, x.2.2.2.2.2.2.2.2.2.1, x.2.2.2.2.2.2.2.2.2.2.1, x.2.2.2.2.2.2.2.2.2.2.2.1, x.2.2.2.2.2.2.2.2.2.2.2.2.1, x.2.2.2.2.2.2.2.2.2.2.2.2.2.1, x.2.2.2.2.2.2.2.2.2.2.2.2.2.2.1, x.2.2.2.2.2.2.2.2.2.2.2.2.2.2.2.1, x.2.2.2.2.2.2.2.2.2.2.2.2.2.2.2.2.1, x.2.2.2.2.2.2.2.2.2.2.2.2.2.2.2.2.2.1, x.2.2.2.2.2.2.2.2.2.2.2.2.2.2.2.2.2.2.1, x.2.2.2.2.2.2.2.2.2.2.2.2.2.2.2.2.2.2.2.1, x.2.2.2.2.2.2.2.2.2.2.2.2.2.2.2.2.2.2.2.2.1, x.2.2.2.2.2.2.2.2.2.2.2.2.2.2.2.2.2.2.2.2.2.1, x.2.2.2.2.2.2.2.2.2.2.2.2.2.2.2.2.2.2.2.2.2.2.1, x.2.2.2.2.2.2.2.2.2.2.2.2.2.2.2.2.2.2.2.2.2.2.2.1, x.2.2.2.2.2.2.2.2.2.2.2.2.2.2.2.2.2.2.2.2.2.2.2.2.1, x.2.2.2.2.2.2.2.2.2.2.2.2.2.2.2.2.2.2.2.2.2.2.2.2.2.1, x.2.2.2.2.2.2.2.2.2.2.2.2.2.2.2.2.2.2.2.2.2.2.2.2.2.2.1, x.2.2.2.2.2.2.2.2.2.2.2.2.2.2.2.2.2.2.2.2.2.2.2.2.2.2.2, Int.tmod (w64 (x.2.2.2.2.2.2.2.2.2.2.2.2.2.2.1 + x.1)) 65536)) fun v0 =>
   guard (fitN (x.2.1.length + ([w8 v0].length)) 1) <|
   some (.inl (w64 (x.1 + 1), x.2.1 ++ [w8 v0], x.2.2)))
   (some (.inr (x.2.1, x.2.2.1, x.2.2.2.1, x.2.2.2.2.1)))
def F100 (K : Nat) (x : MM) : Option (Int × Bool × Int × Int) :=
  bindO (iter K (F100_b0 K) (0, [], 0, false, 0, x)) fun v0 =>
  bindO (F139 K (toB v0.1, 0)) fun v1 =>
  some v1
def ct100 (K : Nat) : Ct := ⟨[.agg mL], [], [.agg [i6, (.v .b), i6], .l i6], [], [], F100 K⟩
theorem c100 (K : Nat) : CtOk prog 100 (ct100 K) :=
  cmk (K := K) (an := (sN (sN (.seq (sN (.blk (.loop [] ⟨(ru 1 (.l (.ptr 2000 0 0) :: .l (.ptr 3000 0 0) :: ru 1 (.l (.all 7000) :: .l i6 :: ru 22 []))), [(7000, ⟨1, true, .row (.i .u8)⟩), (3000, ⟨3, false, .mix (some 42) [[.l i6, .l (.v .b), .l i6]]⟩), (2000, ⟨23, false, .mix (some 30) [mN]⟩)]⟩ [(0, ⟨(ru 2 (.l (.ptr 3000 0 0) :: ru 1 (.l (.all 7000) :: ru 23 []))), [(7000, ⟨1, true, .row (.i .u8)⟩), (3000, ⟨3, false, .mix (some 42) [[.l i6, .l (.v .b), .l i6]]⟩)]⟩)] false (.seq (sN .no) (sN .no))))) .no)))) func100 (kX (c138 K) (kX (c139 K) kN))
def F167 (K : Nat) (x : MC (Bool)) : Option (Int × MC (Bool)) :=
  some (w64 ((w64 (256 * x.2.2.2.2.2.2.1)) + x.2.2.2.2.2.2.2.1), x)
def ct167 (K : Nat) : Ct := ⟨[.l (.ptr 0 0 0)], [⟨24, false, .mix (some 122) [wN]⟩], [.l i6], [⟨24, false, .mix (some 122) [wN]⟩], [], F167 K⟩
theorem c167 (K : Nat) : CtOk prog 167 (ct167 K) :=
  cmk (K := K) (an := (sN .no)) func167 kN
def ct167k (K : Nat) : Ct := ⟨[.l (.ptr 0 0 0)], [⟨24, false, .mix (some 122) [wN]⟩], [.l i6], [⟨24, false, .mix (some 122) [wN]⟩], keepRefs, F167 K⟩
theorem keep167 (K : Nat) (x : MC (Bool)) (y : Int × MC (Bool)) (h : F167 K x = some y) : y.2 = x := by
  unfold F167 at h
  cases h; rfl
theorem c167k (K : Nat) : CtKeep prog 167 (ct167k K) := ct_keep3 (Eq.mpr (by kernel_rfl : CtOk prog 167 (ct167k K) = CtOk prog 167 (ct167 K)) (c167 K)) (by kernel_rfl) (Eq.mpr (by kernel_rfl : KeepsF [.l (.ptr 0 0 0)] [⟨24, false, .mix (some 122) [wN]⟩] [.l i6] (F167 K) = ∀ (x : MC (Bool)) (y : Int × MC (Bool)), F167 K x = some y → y.2 = x) (keep167 K))
def F115 (K : Nat) (x : Int × MC (Bool)) : Option (Int × MC (Bool)) :=
  branch (decide (x.1 = 6))
   (bindO (F167 K x.2) fun v0 =>
   bindO (F138 K (x.2.1, x.2.2.1, x.2.2.2.1, x.2.2.2.2.1, x.2.2.2.2.2.1, x.2.2.2.2.2.2.1, x.2.2.2.2.2.2.2.1, x.2.2.2.2.2.2.2.2.1, x.2.2.2.2.2.2.2.2.2.1, x.2.2.2.2.2.2.2.2.2.2.1, x.2.2.2.2.2.2.2.2.2.2.2.1, x.2.2.2.2.2.2.2.2.2.2.2.2.1, x.2.2.2.2.2.2.2.2.2.2.2.2.2.1, x.2.2.2.2.2.2.2.2.2.2.2.2.2.2.1, x.2.2.2.2.2.2.2.2.2.2.2.2.2.2.2.1, x.2.2.2.2.2.2.2.2.2.2.2.2.2.2.2.2.1, x.2.2.2.2.2.2.2.2.2.2.2.2.2.2.2.2.2.1, x.2.2.2.2.2.2.2.2.2.2.2.2.2.2.2.2.2.2.1, x.2.2.2.2.2.2.2.2.2.2.2.2.2.2.2.2.2.2.2.1, x.2.2.2.2.2.2.2.2.2.2.2.2.2.2.2.2.2.2.2.2.1, x.2.2.2.2.2.2.2.2.2.2.2.2.2.2.2.2.2.2.2.2.2.1, x.2.2.2.2.2.2.2.2.2.2.2.2.2.2.2.2.2.2.2.2.2.2.1, x.2.2.2.2.2.2.2.2.2.2.2.2.2.2.2.2.2.2.2.2.2.2.2.1, v0.1)) fun v1 =>
   some (v1, x.2))
   (guard (decide (0 ≤ x.1 ∧ x.1 < ([x.2.2.2.1, x.2.2.2.2.1, x.2.2.2.2.2.1, x.2.2.2.2.2.2.1, x.2.2.2.2.2.2.2.1, x.2.2.2.2.2.2.2.2.1, 0, x.2.1].length : Int))) <|
   nthN [x.2.2.2.1, x.2.2.2.2.1, x.2.2.2.2.2.1, x.2.2.2.2.2.2.1, x.2.2.2.2.2.2.2.1, x.2.2.2.2.2.2.2.2.1, 0, x.2.1] x.1.toNat fun v2 =>
   some (v2, x.2))
def ct115 (K : Nat) : Ct := ⟨[.l (.ptr 0 0 0), .l i6], [⟨24, false, .mix (some 122) [wN]⟩], [.l i6], [⟨24, false, .mix (some 122) [wN]⟩], [], F115 K⟩
theorem c115 (K : Nat) : CtOk prog 115 (ct115 K) :=
  cmk (K := K) (an := (sN (sN (.seq (sN (.cond .no .no)) .no)))) func115 (kX (c138 K) (ctabOk_keep (c167k K) kN))
def ct115k (K : Nat) : Ct := ⟨[.l (.ptr 0 0 0), .l i6], [⟨24, false, .mix (some 122) [wN]⟩], [.l i6], [⟨24, false, .mix (some 122) [wN]⟩], keepRefs, F115 K⟩
theorem keep115 (K : Nat) (x : Int × MC (Bool)) (y : Int × MC (Bool)) (h : F115 K x = some y) : y.2 = x.2 := by
  unfold F115 at h
  rcases branch_some h with ⟨_, h⟩ | ⟨_, h⟩
  ·
    obtain ⟨_, hb, h⟩ := bindO_some h
    obtain ⟨_, hb, h⟩ := bindO_some h
    cases h; rfl
  ·
    replace h := (guard_some h).2
    obtain ⟨_, _, h⟩ := nthN_some h
    cases h; rfl
theorem c115k (K : Nat) : CtKeep prog 115 (ct115k K) := ct_keep3 (Eq.mpr (by kernel_rfl : CtOk prog 115 (ct115k K) = CtOk prog 115 (ct115 K)) (c115 K)) (by kernel_rfl) (Eq.mpr (by kernel_rfl : KeepsF [.l (.ptr 0 0 0), .l i6] [⟨24, false, .mix (some 122) [wN]⟩] [.l i6] (F115 K) = ∀ (x : Int × MC (Bool)) (y : Int × MC (Bool)), F115 K x = some y → y.2 = x.2) (keep115 K))
def F162 (K : Nat) (x : Int) : Option (Int) :=
  some (Int.tmod (w64 (Int.tdiv x 16)) 2)
def ct162 (K : Nat) : Ct := ⟨[.l i6], [], [.l i6], [], [], F162 K⟩
theorem c162 (K : Nat) : CtOk prog 162 (ct162 K) :=
  cmk (K := K) (an := (sN .no)) func162 kN
def F176 (K : Nat) (x : Bool) : Option (Int) :=
  branch x
   (some 1)
   (some 0)
def ct176 (K : Nat) : Ct := ⟨[.l (.v .b)], [], [.l i6], [], [], F176 K⟩
theorem c176 (K : Nat) : CtOk prog 176 (ct176 K) :=
  cmk (K := K) (an := (sN (.seq (sN (.cond .no .no)) .no))) func176 kN
def F161 (K : Nat) (x : Bool × Bool × Bool × Bool) : Option (Int) :=
  bindO (F176 K x.1) fun v0 =>
  bindO (F176 K x.2.1) fun v1 =>
  bindO (F176 K x.2.2.1) fun v2 =>
  bindO (F176 K x.2.2.2) fun v3 =>
  some (w64 ((w64 ((w64 ((w64 (128 * v0)) + (w64 (64 * v1)))) + (w64 (32 * v2)))) + (w64 (16 * v3))))
def ct161 (K : Nat) : Ct := ⟨[.l (.v .b), .l (.v .b), .l (.v .b), .l (.v .b)], [], [.l i6], [], [], F161 K⟩
theorem c161 (K : Nat) : CtOk prog 161 (ct161 K) :=
  cmk (K := K) (an := (sN .no)) func161 (kX (c176 K) kN)
def F160 (K : Nat) (x : Int × Int × Int) : Option (Int × Int) :=
  bindO (α := Int × Int) (branch (decide (x.1 = 0))
     (some (w64 ((Int.tmod (w64 (2 * x.2.1)) 256) + (w64 (Int.tdiv x.2.1 128))), w64 (Int.tdiv x.2.1 128)))
     (branch (decide (x.1 = 1))
      (some (w64 ((w64 (Int.tdiv x.2.1 2)) + (w64 (128 * (Int.tmod x.2.1 2)))), Int.tmod x.2.1 2))
      (branch (decide (x.1 = 2))
       (bindO (F162 K x.2.2) fun v0 =>
       some (w64 ((Int.tmod (w64 (2 * x.2.1)) 256) + v0), w64 (Int.tdiv x.2.1 128)))
       (branch (decide (x.1 = 3))
        (bindO (F162 K x.2.2) fun v1 =>
        some (w64 ((w64 (Int.tdiv x.2.1 2)) + (w64 (128 * v1))), Int.tmod x.2.1 2))
        (branch (decide (x.1 = 4))
         (some (Int.tmod (w64 (2 * x.2.1)) 256, w64 (Int.tdiv x.2.1 128)))
         (branch (decide (x.1 = 5))
          (some (w64 ((w64 (Int.tdiv x.2.1 2)) + (w64 ((w64 (Int.tdiv x.2.1 128)) * 128))), Int.tmod x.2.1 2))
          (branch (decide (x.1 = 6))
           (some (w64 ((w64 ((Int.tmod x.2.1 16) * 16)) + (w64 (Int.tdiv x.2.1 16))), 0))
           (some (w64 (Int.tdiv x.2.1 2), Int.tmod x.2.1 2))))))))) fun v2 =>
  bindO (F161 K (decide (v2.1 = 0), false, false, decide (v2.2 = 1))) fun v3 =>
  some (v2.1, v3)
def ct160 (K : Nat) : Ct := ⟨[.l i6, .l i6, .l i6], [], [.l i6, .l i6], [], [], F160 K⟩
theorem c160 (K : Nat) : CtOk prog 160 (ct160 K) :=
  cmk (K := K) (an := (sN (sN (sN (.seqJ [(1000000, ⟨(ru 8 (.l i6 :: .l i6 :: ru 70 [])), []⟩)] false (sN (.blk (sN (.cond .no (sN (.cond .no (sN (.cond .no (sN (.cond .no (sN (.cond .no (sN (.cond .no (sN (.cond .no .no)))))))))))))))) .no))))) func160 (kX (c162 K) (kX (c161 K) kN))
def F255 (K : Nat) (x : (List UInt8) × Int × Int) : Option (List UInt8) :=
  guard (decide (0 ≤ x.2.1 ∧ x.2.1 < ((ofB x.1).length : Int))) <|
  nthN (ofB x.1) x.2.1.toNat fun v0 =>
  some (toB (List.set (ofB x.1) x.2.1.toNat (w8 x.2.2)))
def ct255 (K : Nat) : Ct := ⟨[.l (.v .s), .l i6, .l i6], [], [.l (.v .s)], [], [], F255 K⟩
theorem c255 (K : Nat) : CtOk prog 255 (ct255 K) :=
  cmk (K := K) (an := (sN (sN (sN .no)))) func255 kN
def F256 (K : Nat) (x : (List UInt8) × Int × Int × (List UInt8) × Int × Bool × Int × Int × Int) : Option ((List UInt8) × Int × Int × (List UInt8) × Int × Bool × Int) :=
  branch (decide (x.2.1 = 0))
   (some (x.1, x.2.1, x.2.2.1, x.2.2.2.1, x.2.2.2.2.1, x.2.2.2.2.2.1, x.2.2.2.2.2.2.1))
   (branch (decide (x.2.2.2.2.2.2.2.1 < 128))
    (some (x.1, x.2.1, x.2.2.1, x.2.2.2.1, x.2.2.2.2.1, decide ((Int.tmod x.2.2.2.2.2.2.2.2 16) = 10), x.2.2.2.2.2.2.1))
    (bindO (α := Int × Int × Bool × (List UInt8) × Int × Int × (List UInt8) × Int × Bool × Int × (List UInt8) × Int × Int × (List UInt8) × Int × Bool × Int) (branch (decide (x.2.2.2.2.2.2.2.1 < 256))
       (some (x.2.2.2.2.2.2.2.1, x.2.2.2.2.2.2.2.2, decide (x.2.1 = 2), [], 0, 0, [], 0, false, 0, x.1, x.2.1, x.2.2.1, x.2.2.2.1, x.2.2.2.2.1, x.2.2.2.2.2.1, x.2.2.2.2.2.2.1))
       (some (x.2.2.2.2.2.2.2.1, x.2.2.2.2.2.2.2.2, false, [], 0, 0, [], 0, false, 0, x.1, x.2.1, x.2.2.1, x.2.2.2.1, x.2.2.2.2.1, x.2.2.2.2.2.1, x.2.2.2.2.2.2.1))) fun v0 =>
    branch v0.2.2.1
     (some (v0.2.2.2.2.2.2.2.2.2.2.1, v0.2.2.2.2.2.2.2.2.2.2.2.1, v0.2.1, v0.2.2.2.2.2.2.2.2.2.2.2.2.2))
     (branch (decide (v0.1 < 256))
      (some (v0.2.2.2.2.2.2.2.2.2.2.1, v0.2.2.2.2.2.2.2.2.2.2.2.1, mxI 1 (Int.tmod v0.2.1 32), v0.2.2.2.2.2.2.2.2.2.2.2.2.2))
      (branch (decide (v0.1 < 384))
       (some (v0.2.2.2.2.2.2.2.2.2.2.1, v0.2.2.2.2.2.2.2.2.2.2.2.1, v0.2.2.2.2.2.2.2.2.2.2.2.2.1, v0.2.2.2.2.2.2.2.2.2.2.2.2.2.1, Int.tmod v0.2.1 4, v0.2.2.2.2.2.2.2.2.2.2.2.2.2.2.2))
       (branch (decide (v0.1 < 512))
        (branch (decide (v0.2.2.2.2.2.2.2.2.2.2.2.1 = 1))
         (some (v0.2.2.2.2.2.2.2.2.2.2.1, v0.2.2.2.2.2.2.2.2.2.2.2.1, v0.2.2.2.2.2.2.2.2.2.2.2.2.1, v0.2.2.2.2.2.2.2.2.2.2.2.2.2.1, v0.2.2.2.2.2.2.2.2.2.2.2.2.2.2.1, v0.2.2.2.2.2.2.2.2.2.2.2.2.2.2.2.1, Int.tmod v0.2.1 2))
         (some v0.2.2.2.2.2.2.2.2.2.2))
        (bindO (α := Int × Int × Bool × (List UInt8) × Int × Int × (List UInt8) × Int × Bool × Int × (List UInt8) × Int × Int × (List UInt8) × Int × Bool × Int) (branch v0.2.2.2.2.2.2.2.2.2.2.2.2.2.2.2.1
           (bindO (F87 K (v0.1, 40960, 41023)) fun v1 =>
           some (v0.1, v0.2.1, v1, v0.2.2.2))
           (some (v0.1, v0.2.1, false, v0.2.2.2))) fun v2 =>
        branch v2.2.2.1
         (bindO (F246 K v2.2.2.2.2.2.2.2.2.2.2) fun v3 =>
         bindO (F255 K (v2.2.2.2.2.2.2.2.2.2.2.2.2.2.1, w64 ((w64 ((w64 (v3 * 64)) + v2.1)) - 40960), v2.2.1)) fun v4 =>
         some (v2.2.2.2.2.2.2.2.2.2.2.1, v2.2.2.2.2.2.2.2.2.2.2.2.1, v2.2.2.2.2.2.2.2.2.2.2.2.2.1, v4, v2.2.2.2.2.2.2.2.2.2.2.2.2.2.2))
         (some v2.2.2.2.2.2.2.2.2.2.2)))))))
def ct256 (K : Nat) : Ct := ⟨[.agg [(.v .s), i6, i6, (.v .s), i6, (.v .b), i6], .l i6, .l i6], [], [.agg [(.v .s), i6, i6, (.v .s), i6, (.v .b), i6]], [], [], F256 K⟩
theorem c256 (K : Nat) : CtOk prog 256 (ct256 K) :=
  cmk (K := K) (an := (sN (.seq (sN (.cond .no .no)) (.seq (.blk (sN (.cond .no (.seqJ [(1000000, ⟨(ru 1 (.l i6 :: .l i6 :: .l (.ptr 4000 0 0) :: ru 2 (.l (.ptr 7000 0 0) :: ru 11 (.l (.v .b) :: ru 50 [])))), [(7000, ⟨7, false, .mix (some 27) [[.l (.v .s), .l i6, .l i6, .l (.v .s), .l i6, .l (.v .b), .l i6]]⟩), (4000, ⟨7, false, .mix (some 27) [[.l (.v .s), .l i6, .l i6, .l (.v .s), .l i6, .l (.v .b), .l i6]]⟩)]⟩)] false .no (.cond .no (sN (.cond .no (sN (.cond .no (sN (.cond (sN .no) (.seqJ [(1000000, ⟨(ru 1 (.l i6 :: .l i6 :: .l (.ptr 4000 0 0) :: ru 2 (.l (.ptr 7000 0 0) :: ru 43 (.l (.v .b) :: ru 18 [])))), [(7000, ⟨7, false, .mix (some 27) [[.l (.v .s), .l i6, .l i6, .l (.v .s), .l i6, .l (.v .b), .l i6]]⟩), (4000, ⟨7, false, .mix (some 27) [[.l (.v .s), .l i6, .l i6, .l (.v .s), .l i6, .l (.v .b), .l i6]]⟩)]⟩)] false .no .no)))))))))))) .no)))) func256 (kX (c87 K) (kX (c246 K) (kX (c255 K) kN)))
def F231 (K : Nat) (x : MC (Int × Int)) : Option (MC (Bool)) :=
  bindO (F87 K (x.2.2.2.2.2.2.2.2.2.2.2.2.2.2.2.2.2.2.2.2.2.2.2.1, 49152, 49407)) fun v0 =>
  branch v0
   (bindO (F255 K (x.2.2.2.2.2.2.2.2.2.2.2.2.2.2.2.2.2.2.2.1, w64 (x.2.2.2.2.2.2.2.2.2.2.2.2.2.2.2.2.2.2.2.2.2.2.2.1 - 49152), x.2.2.2.2.2.2.2.2.2.2.2.2.2.2.2.2.2.2.2.2.2.2.2.2)) fun v1 =>
   some (x.1, x.2.1, x.2.2.1, x.2.2.2.1, x.2.2.2.2.1, x.2.2.2.2.2.1, x.2.2.2.2.2.2.1, x.2.2.2.2.2.2.2.1, x.2.2.2.2.2.2.2.2.1, x.2.2.2.2.2.2.2.2.2.1, x.2.2.2.2.2.2.2.2.2.2.1, x.2.2.2.2.2.2.2.2.2.2.2.1, x.2.2.2.2.2.2.2.2.2.2.2.2.1, x.2.2.2.2.2.2.2.2.2.2.2.2.2.1, x.2.2.2.2.2.2.2.2.2.2.2.2.2.2.1, x.2.2.2.2.2.2.2.2.2.2.2.2.2.2.2.1, x.2.2.2.2.2.2.2.2.2.2.2.2.2.2.2.2.1, x.2.2.2.2.2.2.2.2.2.2.2.2.2.2.2.2.2.1, x.2.2.2.2.2.2.2.2.2.2.2.2.2.2.2.2.2.2.1, v1, x.2.2.2.2.2.2.2.2.2.2.2.2.2.2.2.2.2.2.2.2.1, x.2.2.2.2.2.2.2.2.2.2.2.2.2.2.2.2.2.2.2.2.2.1, x.2.2.2.2.2.2.2.2.2.2.2.2.2.2.2.2.2.2.2.2.2.2.1, true))
   (bindO (F87 K (x.2.2.2.2.2.2.2.2.2.2.2.2.2.2.2.2.2.2.2.2.2.2.2.1, 65408, 65534)) fun v2 =>
   branch v2
    (bindO (F255 K (x.2.2.2.2.2.2.2.2.2.2.2.2.2.2.2.2.2.2.2.2.1, w64 (x.2.2.2.2.2.2.2.2.2.2.2.2.2.2.2.2.2.2.2.2.2.2.2.1 - 65408), x.2.2.2.2.2.2.2.2.2.2.2.2.2.2.2.2.2.2.2.2.2.2.2.2)) fun v3 =>
    some (x.1, x.2.1, x.2.2.1, x.2.2.2.1, x.2.2.2.2.1, x.2.2.2.2.2.1, x.2.2.2.2.2.2.1, x.2.2.2.2.2.2.2.1, x.2.2.2.2.2.2.2.2.1, x.2.2.2.2.2.2.2.2.2.1, x.2.2.2.2.2.2.2.2.2.2.1, x.2.2.2.2.2.2.2.2.2.2.2.1, x.2.2.2.2.2.2.2.2.2.2.2.2.1, x.2.2.2.2.2.2.2.2.2.2.2.2.2.1, x.2.2.2.2.2.2.2.2.2.2.2.2.2.2.1, x.2.2.2.2.2.2.2.2.2.2.2.2.2.2.2.1, x.2.2.2.2.2.2.2.2.2.2.2.2.2.2.2.2.1, x.2.2.2.2.2.2.2.2.2.2.2.2.2.2.2.2.2.1, x.2.2.2.2.2.2.2.2.2.2.2.2.2.2.2.2.2.2.1, x.2.2.2.2.2.2.2.2.2.2.2.2.2.2.2.2.2.2.2.1, v3, x.2.2.2.2.2.2.2.2.2.2.2.2.2.2.2.2.2.2.2.2.2.1, x.2.2.2.2.2.2.2.2.2.2.2.2.2.2.2.2.2.2.2.2.2.2.1, true))
    (branch (decide (x.2.2.2.2.2.2.2.2.2.2.2.2.2.2.2.2.2.2.2.2.2.2.2.1 = 65281))
     (branch (decide ((x.2.2.2.2.2.2.2.2.2.2.2.2.2.2.2.2.2.2.2.2.2.1.length : Int) = 100))
      (some (x.1, x.2.1, x.2.2.1, x.2.2.2.1, x.2.2.2.2.1, x.2.2.2.2.2.1, x.2.2.2.2.2.2.1, x.2.2.2.2.2.2.2.1, x.2.2.2.2.2.2.2.2.1, x.2.2.2.2.2.2.2.2.2.1, x.2.2.2.2.2.2.2.2.2.2.1, x.2.2.2.2.2.2.2.2.2.2.2.1, x.2.2.2.2.2.2.2.2.2.2.2.2.1, x.2.2.2.2.2.2.2.2.2.2.2.2.2.1, x.2.2.2.2.2.2.2.2.2.2.2.2.2.2.1, x.2.2.2.2.2.2.2.2.2.2.2.2.2.2.2.1, x.2.2.2.2.2.2.2.2.2.2.2.2.2.2.2.2.1, x.2.2.2.2.2.2.2.2.2.2.2.2.2.2.2.2.2.1, x.2.2.2.2.2.2.2.2.2.2.2.2.2.2.2.2.2.2.1, x.2.2.2.2.2.2.2.2.2.2.2.2.2.2.2.2.2.2.2.1, x.2.2.2.2.2.2.2.2.2.2.2.2.2.2.2.2.2.2.2.2.1, x.2.2.2.2.2.2.2.2.2.2.2.2.2.2.2.2.2.2.2.2.2.1, x.2.2.2.2.2.2.2.2.2.2.2.2.2.2.2.2.2.2.2.2.2.2.1, false))
      (guard (fitN (0 + x.2.2.2.2.2.2.2.2.2.2.2.2.2.2.2.2.2.2.2.2.2.1.length) 8) <|
      guard (fitN ((([] ++ x.2.2.2.2.2.2.2.2.2.2.2.2.2.2.2.2.2.2.2.2.2.1).length) + [x.2.2.2.2.2.2.2.2.2.2.2.2.2.2.2.2.2.2.2.2.2.2.2.2].length) 8) <|
      some (x.1, x.2.1, x.2.2.1, x.2.2.2.1, x.2.2.2.2.1, x.2.2.2.2.2.1, x.2.2.2.2.2.2.1, x.2.2.2.2.2.2.2.1, x.2.2.2.2.2.2.2.2.1, x.2.2.2.2.2.2.2.2.2.1, x.2.2.2.2.2.2.2.2.2.2.1, x.2.2.2.2.2.2.2.2.2.2.2.1, x.2.2.2.2.2.2.2.2.2.2.2.2.1, x.2.2.2.2.2.2.2.2.2.2.2.2.2.1, x.2.2.2.2.2.2.2.2.2.2.2.2.2.2.1, x.2.2.2.2.2.2.2.2.2.2.2.2.2.2.2.1, x.2.2.2.2.2.2.2.2.2.2.2.2.2.2.2.2.1, x.2.2.2.2.2.2.2.2.2.2.2.2.2.2.2.2.2.1, x.2.2.2.2.2.2.2.2.2.2.2.2.2.2.2.2.2.2.1, x.2.2.2.2.2.2.2.2.2.2.2.2.2.2.2.2.2.2.2.1, x.2.2.2.2.2.2.2.2.2.2.2.2.2.2.2.2.2.2.2.2.1, ([] ++ x.2.2.2.2.2.2.2.2.2.2.2.2.2.2.2.2.2.2.2.2.2.1) ++ [x.2.2.2.2.2.2.2.2.2.2.2.2.2.2.2.2.2.2.2.2.2.2.2.2], x.2.2.2.2.2.2.2.2.2.2.2.2.2.2.2.2.2.2.2.2.2.2.1, true)))
     (bindO (F256 K (x.2.2.2.2.2.2.2.2.2.2.2.2.1, x.2.2.2.2.2.2.2.2.2.2.2.2.2.1, x.2.2.2.2.2.2.2.2.2.2.2.2.2.2.1, x.2.2.2.2.2.2.2.2.2.2.2.2.2.2.2.1, x.2.2.2.2.2.2.2.2.2.2.2.2.2.2.2.2.1, x.2.2.2.2.2.2.2.2.2.2.2.2.2.2.2.2.2.1, x.2.2.2.2.2.2.2.2.2.2.2.2.2.2.2.2.2.2.1, x.2.2.2.2.2.2.2.2.2.2.2.2.2.2.2.2.2.2.2.2.2.2.2)) fun v4 =>
     some (x.1, x.2.1, x.2.2.1, x.2.2.2.1, x.2.2.2.2.1, x.2.2.2.2.2.1, x.2.2.2.2.2.2.1, x.2.2.2.2.2.2.2.1, x.2.2.2.2.2.2.2.2.1, x.2.2.2.2.2.2.2.2.2.1, x.2.2.2.2.2.2.2.2.2.2.1, x.2.2.2.2.2.2.2.2.2.2.2.1, v4.1, v4.2.1, v4.2.2.1, v4.2.2.2.1, v4.2.2.2.2.1, v4.2.2.2.2.2.1, v4.2.2.2.2.2.2, x.2.2.2.2.2.2.2.2.2.2.2.2.2.2.2.2.2.2.2.1, x.2.2.2.2.2.2.2.2.2.2.2.2.2.2.2.2.2.2.2.2.1, x.2.2.2.2.2.2.2.2.2.2.2.2.2.2.2.2.2.2.2.2.2.1, x.2.2.2.2.2.2.2.2.2.2.2.2.2.2.2.2.2.2.2.2.2.2.1, true))))
def ct231 (K : Nat) : Ct := ⟨[.agg mL, .l i6, .l i6], [], [.agg mL, .l (.v .b)], [], [], F231 K⟩
theorem c231 (K : Nat) : CtOk prog 231 (ct231 K) :=
  cmk (K := K) (an := (sN (.seq (.blk (sN (.cond .no (sN (.cond .no (sN (.cond (.seq (sN (.cond .no .no)) .no) .no))))))) .no))) func231 (kX (c87 K) (kX (c255 K) (kX (c256 K) kN)))
def F163 (K : Nat) (x : Int × Int × MC (Bool)) : Option (MC (Bool)) :=
  bindO (F231 K (x.2.2.1, x.2.2.2.1, x.2.2.2.2.1, x.2.2.2.2.2.1, x.2.2.2.2.2.2.1, x.2.2.2.2.2.2.2.1, x.2.2.2.2.2.2.2.2.1, x.2.2.2.2.2.2.2.2.2.1, x.2.2.2.2.2.2.2.2.2.2.1, x.2.2.2.2.2.2.2.2.2.2.2.1, x.2.2.2.2.2.2.2.2.2.2.2.2.1, x.2.2.2.2.2.2.2.2.2.2.2.2.2.1, x.2.2.2.2.2.2.2.2.2.2.2.2.2.2.1, x.2.2.2.2.2.2.2.2.2.2.2.2.2.2.2.1, x.2.2.2.2.2.2.2.2.2.2.2.2.2.2.2.2.1, x.2.2.2.2.2.2.2.2.2.2.2.2.2.2.2.2.2.1, x.2.2.2.2.2.2.2.2.2.2.2.2.2.2.2.2.2.2.1, x.2.2.2.2.2.2.2.2.2.2.2.2.2.2.2.2.2.2.2.1, x.2.2.2.2.2.2.2.2.2.2.2.2.2.2.2.2.2.2.2.2.1, x.2.2.2.2.2.2.2.2.2.2.2.2.2.2.2.2.2.2.2.2.2.1, x.2.2.2.2.2.2.2.2.2.2.2.2.2.2.2.2.2.2.2.2.2.2.1, x.2.2.2.2.2.2.2.2.2.2.2.2.2.2.2.2.2.2.2.2.2.2.2.1, x.2.2.2.2.2.2.2.2.2.2.2.2.2.2.2.2.2.2.2.2.2.2.2.2.1, Int.tmod x.1 65536, x.2.1)) fun v0 =>
  branch x.2.2.2.2.2.2.2.2.2.2.2.2.2.2.2.2.2.2.2.2.2.2.2.2.2
   (some (v0.1, v0.2.1, v0.2.2.1, v0.2.2.2.1, v0.2.2.2.2.1, v0.2.2.2.2.2.1, v0.2.2.2.2.2.2.1, v0.2.2.2.2.2.2.2.1, v0.2.2.2.2.2.2.2.2.1, v0.2.2.2.2.2.2.2.2.2.1, v0.2.2.2.2.2.2.2.2.2.2.1, v0.2.2.2.2.2.2.2.2.2.2.2.1, v0.2.2.2.2.2.2.2.2.2.2.2.2.1, v0.2.2.2.2.2.2.2.2.2.2.2.2.2.1, v0.2.2.2.2.2.2.2.2.2.2.2.2.2.2.1, v0.2.2.2.2.2.2.2.2.2.2.2.2.2.2.2.1, v0.2.2.2.2.2.2.2.2.2.2.2.2.2.2.2.2.1, v0.2.2.2.2.2.2.2.2.2.2.2.2.2.2.2.2.2.1, v0.2.2.2.2.2.2.2.2.2.2.2.2.2.2.2.2.2.2.1, v0.2.2.2.2.2.2.2.2.2.2.2.2.2.2.2.2.2.2.2.1, v0.2.2.2.2.2.2.2.2.2.2.2.2.2.2.2.2.2.2.2.2.1, v0.2.2.2.2.2.2.2.2.2.2.2.2.2.2.2.2.2.2.2.2.2.1, v0.2.2.2.2.2.2.2.2.2.2.2.2.2.2.2.2.2.2.2.2.2.2.1, true))
   (some (v0.1, v0.2.1, v0.2.2.1, v0.2.2.2.1, v0.2.2.2.2.1, v0.2.2.2.2.2.1, v0.2.2.2.2.2.2.1, v0.2.2.2.2.2.2.2.1, v0.2.2.2.2.2.2.2.2.1, v0.2.2.2.2.2.2.2.2.2.1, v0.2.2.2.2.2.2.2.2.2.2.1, v0.2.2.2.2.2.2.2.2.2.2.2.1, v0.2.2.2.2.2.2.2.2.2.2.2.2.1, v0.2.2.2.2.2.2.2.2.2.2.2.2.2.1, v0.2.2.2.2.2.2.2.2.2.2.2.2.2.2.1, v0.2.2.2.2.2.2.2.2.2.2.2.2.2.2.2.1, v0.2.2.2.2.2.2.2.2.2.2.2.2.2.2.2.2.1, v0.2.2.2.2.2.2.2.2.2.2.2.2.2.2.2.2.2.1, v0.2.2.2.2.2.2.2.2.2.2.2.2.2.2.2.2.2.2.1, v0.2.2.2.2.2.2.2.2.2.2.2.2.2.2.2.2.2.2.2.1, v0.2.2.2.2.2.2.2.2.2.2.2.2.2.2.2.2.2.2.2.2.1, v0.2.2.2.2.2.2.2.2.2.2.2.2.2.2.2.2.2.2.2.2.2.1, v0.2.2.2.2.2.2.2.2.2.2.2.2.2.2.2.2.2.2.2.2.2.2.1, !v0.2.2.2.2.2.2.2.2.2.2.2.2.2.2.2.2.2.2.2.2.2.2.2))
def ct163 (K : Nat) : Ct := ⟨[.l (.ptr 0 0 0), .l i6, .l i6], [⟨24, false, .mix (some 122) [wN]⟩], [], [⟨24, false, .mix (some 122) [wN]⟩], [], F163 K⟩
theorem c163 (K : Nat) : CtOk prog 163 (ct163 K) :=
  cmk (K := K) (an := (sN .no)) func163 (kX (c231 K) kN)
def F114 (K : Nat) (x : Int × Int × MC (Bool)) : Option (MC (Bool)) :=
  branch (decide (x.1 = 0))
   (some (x.2.2.1, x.2.2.2.1, x.2.1, x.2.2.2.2.2))
   (branch (decide (x.1 = 1))
    (some (x.2.2.1, x.2.2.2.1, x.2.2.2.2.1, x.2.1, x.2.2.2.2.2.2))
    (branch (decide (x.1 = 2))
     (some (x.2.2.1, x.2.2.2.1, x.2.2.2.2.1, x.2.2.2.2.2.1, x.2.1, x.2.2.2.2.2.2.2))
     (branch (decide (x.1 = 3))
      (some (x.2.2.1, x.2.2.2.1, x.2.2.2.2.1, x.2.2.2.2.2.1, x.2.2.2.2.2.2.1, x.2.1, x.2.2.2.2.2.2.2.2))
      (branch (decide (x.1 = 4))
       (some (x.2.2.1, x.2.2.2.1, x.2.2.2.2.1, x.2.2.2.2.2.1, x.2.2.2.2.2.2.1, x.2.2.2.2.2.2.2.1, x.2.1, x.2.2.2.2.2.2.2.2.2))
       (branch (decide (x.1 = 5))
        (some (x.2.2.1, x.2.2.2.1, x.2.2.2.2.1, x.2.2.2.2.2.1, x.2.2.2.2.2.2.1, x.2.2.2.2.2.2.2.1, x.2.2.2.2.2.2.2.2.1, x.2.1, x.2.2.2.2.2.2.2.2.2.2))
        (branch (decide (x.1 = 6))
         (bindO (F167 K x.2.2) fun v0 =>
         bindO (F163 K (v0.1, x.2)) fun v1 =>
         some v1)
         (some (x.2.1, x.2.2.2))))))))
def ct114 (K : Nat) : Ct := ⟨[.l (.ptr 0 0 0), .l i6, .l i6], [⟨24, false, .mix (some 122) [wN]⟩], [], [⟨24, false, .mix (some 122) [wN]⟩], [], F114 K⟩
theorem c114 (K : Nat) : CtOk prog 114 (ct114 K) :=
  cmk (K := K) (an := (sN (.blk (sN (.cond .no (sN (.cond .no (sN (.cond .no (sN (.cond .no (sN (.cond .no (sN (.cond .no (sN .no)))))))))))))))) func114 (ctabOk_keep (c167k K) (kX (c163 K) kN))
def F112 (K : Nat) (x : Int × Bool × Int × MC (Bool)) : Option (MC (Bool)) :=
  bindO (F115 K (Int.tmod x.1 8, x.2.2.2)) fun v0 =>
  guard (decide (0 ≤ (w64u (Int.tmod (w64 (Int.tdiv x.1 8)) 8)))) <|
  branch (decide ((w64 (Int.tdiv x.1 64)) = 0))
   (bindO (F160 K (Int.tmod (w64 (Int.tdiv x.1 8)) 8, v0.1, x.2.2.2.2.1)) fun v1 =>
   bindO (F114 K (Int.tmod x.1 8, v1.1, x.2.2.2)) fun v2 =>
   some (v2.1, v1.2, v2.2.2))
   (branch (decide ((w64 (Int.tdiv x.1 64)) = 1))
    (bindO (F162 K x.2.2.2.2.1) fun v3 =>
    bindO (F161 K (decide ((Go.bits Go.BinOp.and Go.IntKind.i64 v0.1 (shlI Go.IntKind.i64 1 (w64u (Int.tmod (w64 (Int.tdiv x.1 8)) 8)))) = 0), false, true, decide (v3 = 1))) fun v4 =>
    some (x.2.2.2.1, v4, x.2.2.2.2.2))
    (branch (decide ((w64 (Int.tdiv x.1 64)) = 2))
     (bindO (F114 K (Int.tmod x.1 8, Go.bits Go.BinOp.andNot Go.IntKind.i64 v0.1 (shlI Go.IntKind.i64 1 (w64u (Int.tmod (w64 (Int.tdiv x.1 8)) 8))), x.2.2.2)) fun v5 =>
     some v5)
     (bindO (F114 K (Int.tmod x.1 8, Go.bits Go.BinOp.or Go.IntKind.i64 v0.1 (shlI Go.IntKind.i64 1 (w64u (Int.tmod (w64 (Int.tdiv x.1 8)) 8))), x.2.2.2)) fun v6 =>
     some v6)))
def ct112 (K : Nat) : Ct := ⟨[.l (.ptr 0 0 0), .agg [i6, (.v .b), i6]], [⟨24, false, .mix (some 122) [wN]⟩], [], [⟨24, false, .mix (some 122) [wN]⟩], [], F112 K⟩
theorem c112 (K : Nat) : CtOk prog 112 (ct112 K) :=
  cmk (K := K) (an := (sN (sN (sN (sN (sN (sN (.blk (sN (.cond (sN .no) (sN (.cond .no (sN .no))))))))))))) func112 (ctabOk_keep (c115k K) (kX (c162 K) (kX (c161 K) (kX (c160 K) (kX (c114 K) kN)))))
def F164 (K : Nat) (x : Int × MC (Bool)) : Option (Bool × MC (Bool)) :=
  bindO (α := Int × Int × MC (Bool)) (branch (decide (1 < x.1))
     (some (x.1, 16, x.2))
     (some (x.1, 128, x.2))) fun v0 =>
  guard (!(decide (v0.2.1 = 0))) <|
  some (decide ((Int.tmod (w64 (Int.tdiv v0.2.2.2.1 v0.2.1)) 2) = (Int.tmod v0.1 2)), v0.2.2)
def ct164 (K : Nat) : Ct := ⟨[.l (.ptr 0 0 0), .l i6], [⟨24, false, .mix (some 122) [wN]⟩], [.l (.v .b)], [⟨24, false, .mix (some 122) [wN]⟩], [], F164 K⟩
theorem c164 (K : Nat) : CtOk prog 164 (ct164 K) :=
  cmk (K := K) (an := (sN (sN (.seqJ [(1000000, ⟨(.l (.ptr 0 0 0) :: .l i6 :: ru 3 (.l i6 :: ru 14 [])), [(0, ⟨24, false, .mix (some 122) [wN]⟩)]⟩)] false (sN .no) .no)))) func164 kN
def ct164k (K : Nat) : Ct := ⟨[.l (.ptr 0 0 0), .l i6], [⟨24, false, .mix (some 122) [wN]⟩], [.l (.v .b)], [⟨24, false, .mix (some 122) [wN]⟩], keepRefs, F164 K⟩
theorem keep164 (K : Nat) (x : Int × MC (Bool)) (y : Bool × MC (Bool)) (h : F164 K x = some y) : y.2 = x.2 := by
  unfold F164 at h
  obtain ⟨_, hb, h⟩ := bindO_some h
  rcases branch_some hb with ⟨_, hb⟩ | ⟨_, hb⟩
  ·
    cases hb
    replace h := (guard_some h).2
    cases h; rfl
  ·
    cases hb
    replace h := (guard_some h).2
    cases h; rfl
theorem c164k (K : Nat) : CtKeep prog 164 (ct164k K) := ct_keep3 (Eq.mpr (by kernel_rfl : CtOk prog 164 (ct164k K) = CtOk prog 164 (ct164 K)) (c164 K)) (by kernel_rfl) (Eq.mpr (by kernel_rfl : KeepsF [.l (.ptr 0 0 0), .l i6] [⟨24, false, .mix (some 122) [wN]⟩] [.l (.v .b)] (F164 K) = ∀ (x : Int × MC (Bool)) (y : Bool × MC (Bool)), F164 K x = some y → y.2 = x.2) (keep164 K))
def F144 (K : Nat) (x : Int) : Option (Int) :=
  bindO (F87 K (x, 0, 255)) fun v0 =>
  branch (!v0)
   (some 0)
   (branch (decide (127 < x))
    (some (w64 (x - 256)))
    (some x))
def ct144 (K : Nat) : Ct := ⟨[.l i6], [], [.l i6], [], [], F144 K⟩
theorem c144 (K : Nat) : CtOk prog 144 (ct144 K) :=
  cmk (K := K) (an := (sN (.seq (sN (.cond .no .no)) (.seq (sN (.cond .no .no)) .no)))) func144 (kX (c87 K) kN)
def F165 (K : Nat) (x : Int × Int × Bool × MC (Bool)) : Option (MC (Bool)) :=
  branch (decide (x.1 < 3))
   (bindO (F114 K (w64 (2 * x.1), w64 (Int.tdiv x.2.1 256), x.2.2.2)) fun v0 =>
   bindO (F114 K (w64 ((w64 (2 * x.1)) + 1), Int.tmod x.2.1 256, v0)) fun v1 =>
   some v1)
   (branch x.2.2.1
    (some (w64 (Int.tdiv x.2.1 256), w64 ((w64 (Int.tdiv (Int.tmod x.2.1 256) 16)) * 16), x.2.2.2.2.2))
    (some (x.2.2.2.1, x.2.2.2.2.1, x.2.2.2.2.2.1, x.2.2.2.2.2.2.1, x.2.2.2.2.2.2.2.1, x.2.2.2.2.2.2.2.2.1, x.2.2.2.2.2.2.2.2.2.1, x.2.2.2.2.2.2.2.2.2.2.1, x.2.1, x.2.2.2.2.2.2.2.2.2.2.2.2)))
def ct165 (K : Nat) : Ct := ⟨[.l (.ptr 0 0 0), .l i6, .l i6, .l (.v .b)], [⟨24, false, .mix (some 122) [wN]⟩], [], [⟨24, false, .mix (some 122) [wN]⟩], [], F165 K⟩
theorem c165 (K : Nat) : CtOk prog 165 (ct165 K) :=
  cmk (K := K) (an := (.blk (sN (.cond .no (sN (.cond .no .no)))))) func165 (kX (c114 K) kN)
def F168 (K : Nat) (x : Int × Bool × MC (Bool)) : Option (Int × MC (Bool)) :=
  branch (decide (x.1 < 3))
   (bindO (F115 K (w64 (2 * x.1), x.2.2)) fun v0 =>
   bindO (F115 K (w64 ((w64 (2 * x.1)) + 1), x.2.2)) fun v1 =>
   some (w64 ((w64 (256 * v0.1)) + v1.1), x.2.2))
   (branch x.2.1
    (some (w64 ((w64 (256 * x.2.2.1)) + x.2.2.2.1), x.2.2))
    (some (x.2.2.2.2.2.2.2.2.2.2.1, x.2.2)))
def ct168 (K : Nat) : Ct := ⟨[.l (.ptr 0 0 0), .l i6, .l (.v .b)], [⟨24, false, .mix (some 122) [wN]⟩], [.l i6], [⟨24, false, .mix (some 122) [wN]⟩], [], F168 K⟩
theorem c168 (K : Nat) : CtOk prog 168 (ct168 K) :=
  cmk (K := K) (an := (sN (sN (.seq (.blk (sN (.cond .no (sN (.cond .no .no))))) .no)))) func168 (ctabOk_keep (c115k K) kN)
def ct168k (K : Nat) : Ct := ⟨[.l (.ptr 0 0 0), .l i6, .l (.v .b)], [⟨24, false, .mix (some 122) [wN]⟩], [.l i6], [⟨24, false, .mix (some 122) [wN]⟩], keepRefs, F168 K⟩
theorem keep168 (K : Nat) (x : Int × Bool × MC (Bool)) (y : Int × MC (Bool)) (h : F168 K x = some y) : y.2 = x.2.2 := by
  unfold F168 at h
  rcases branch_some h with ⟨_, h⟩ | ⟨_, h⟩
  ·
    obtain ⟨_, hb, h⟩ := bindO_some h
    obtain ⟨_, hb, h⟩ := bindO_some h
    cases h; rfl
  ·
    rcases branch_some h with ⟨_, h⟩ | ⟨_, h⟩
    ·
      cases h; rfl
    ·
      cases h; rfl
theorem c168k (K : Nat) : CtKeep prog 168 (ct168k K) := ct_keep3 (Eq.mpr (by kernel_rfl : CtOk prog 168 (ct168k K) = CtOk prog 168 (ct168 K)) (c168 K)) (by kernel_rfl) (Eq.mpr (by kernel_rfl : KeepsF [.l (.ptr 0 0 0), .l i6, .l (.v .b)] [⟨24, false, .mix (some 122) [wN]⟩] [.l i6] (F168 K) = ∀ (x : Int × Bool × MC (Bool)) (y : Int × MC (Bool)), F168 K x = some y → y.2 = x.2.2) (keep168 K))
def F166 (K : Nat) (x : Int × Int × Int) : Option (Int × Int) :=
  bindO (α := (Int × Int) ⊕ (Int × Int × Int)) (bindO (α := Int × Int × Int × Bool) (bindO (F85 K x.1) fun v0 =>
      branch (!v0)
       (some (x.1, x.2.1, x.2.2, true))
       (bindO (F85 K x.2.1) fun v1 =>
       branch (!v1)
        (some (x.1, x.2.1, x.2.2, true))
        (bindO (F84 K x.2.2) fun v2 =>
        some (x.1, x.2.1, x.2.2, !v2)))) fun v3 =>
    branch v3.2.2.2
     (some (.inl (0, 0)))
     (some (.inr (v3.1, v3.2.1, v3.2.2.1)))) fun v4 =>
  csO v4
   (fun v5 => some v5)
   (fun v6 => bindO (F161 K (decide (128 ≤ v6.2.2), false, decide (4095 < (w64 ((Int.tmod v6.1 4096) + (Int.tmod v6.2.1 4096)))), decide (65535 < (w64 (v6.1 + v6.2.1))))) fun v7 =>
   some (Int.tmod (w64 (v6.1 + v6.2.1)) 65536, v7))
def ct166 (K : Nat) : Ct := ⟨[.l i6, .l i6, .l i6], [], [.l i6, .l i6], [], [], F166 K⟩
theorem c166 (K : Nat) : CtOk prog 166 (ct166 K) :=
  cmk (K := K) (an := (sN (.seqJ [(1000000, ⟨(.l i6 :: .l i6 :: .l i6 :: ru 35 []), []⟩)] true (.seqJ [(1000000, ⟨(.l i6 :: .l i6 :: .l i6 :: ru 17 (.l (.v .b) :: ru 17 [])), []⟩)] false .no (.cond .no .no)) .no))) func166 (kX (c84 K) (kX (c85 K) (kX (c161 K) kN)))
def F169 (K : Nat) (x : Int × Int × Bool) : Option (Int × Int) :=
  bindO (α := (Int × Int) ⊕ (Int × Int × Bool)) (bindO (α := Int × Int × Bool × Bool) (bindO (F84 K x.1) fun v0 =>
      branch (!v0)
       (some (x.1, x.2.1, x.2.2, true))
       (bindO (F84 K x.2.1) fun v1 =>
       some (x.1, x.2.1, x.2.2, !v1))) fun v2 =>
    branch v2.2.2.2
     (some (.inl (0, 0)))
     (some (.inr (v2.1, v2.2.1, v2.2.2.1)))) fun v3 =>
  csO v3
   (fun v4 => some v4)
   (fun v5 => branch v5.2.2
    (bindO (F162 K v5.2.1) fun v6 =>
    bindO (F161 K (decide ((Int.tmod (w64 (v5.1 + 255)) 256) = 0), true, decide ((Int.tmod v5.1 16) = 0), decide (v6 = 1))) fun v7 =>
    some (Int.tmod (w64 (v5.1 + 255)) 256, v7))
    (bindO (F162 K v5.2.1) fun v8 =>
    bindO (F161 K (decide ((Int.tmod (w64 (v5.1 + 1)) 256) = 0), false, decide ((Int.tmod v5.1 16) = 15), decide (v8 = 1))) fun v9 =>
    some (Int.tmod (w64 (v5.1 + 1)) 256, v9)))
def ct169 (K : Nat) : Ct := ⟨[.l i6, .l i6, .l (.v .b)], [], [.l i6, .l i6], [], [], F169 K⟩
theorem c169 (K : Nat) : CtOk prog 169 (ct169 K) :=
  cmk (K := K) (an := (sN (.seqJ [(1000000, ⟨(.l i6 :: .l i6 :: .l (.v .b) :: ru 42 []), []⟩)] true (.seqJ [(1000000, ⟨(.l i6 :: .l i6 :: .l (.v .b) :: ru 14 (.l (.v .b) :: ru 27 [])), []⟩)] false .no (.cond .no .no)) (.seq (sN (.cond (sN .no) .no)) (sN .no))))) func169 (kX (c84 K) (kX (c162 K) (kX (c161 K) kN)))
def F232 (K : Nat) (x : Int × Int) : Option (Int × Int) :=
  bindO (α := (Int × Int) ⊕ (Int × Int)) (bindO (α := Int × Int × Bool) (bindO (F84 K x.1) fun v0 =>
      branch (!v0)
       (some (x.1, x.2, true))
       (bindO (F84 K x.2) fun v1 =>
       some (x.1, x.2, !v1))) fun v2 =>
    branch v2.2.2
     (some (.inl (0, 0)))
     (some (.inr (v2.1, v2.2.1)))) fun v3 =>
  csO v3
   (fun v4 => some v4)
   (fun v5 => bindO (F162 K v5.2) fun v6 =>
   bindO (α := Int × Bool × Bool × Int) (bindO (α := Int × Bool × Bool × Int × Bool) (branch (decide ((Int.tmod (w64 (Int.tdiv v5.2 32)) 2) = 1))
        (some (v5.1, decide ((Int.tmod (w64 (Int.tdiv v5.2 64)) 2) = 1), decide (v6 = 1), 0, true))
        (branch (!(decide ((Int.tmod (w64 (Int.tdiv v5.2 64)) 2) = 1)))
         (some (v5.1, decide ((Int.tmod (w64 (Int.tdiv v5.2 64)) 2) = 1), decide (v6 = 1), 0, decide (9 < (Int.tmod v5.1 16))))
         (some (v5.1, decide ((Int.tmod (w64 (Int.tdiv v5.2 64)) 2) = 1), decide (v6 = 1), 0, false)))) fun v7 =>
     branch v7.2.2.2.2
      (some (v7.1, v7.2.1, v7.2.2.1, 6))
      (some (v7.1, v7.2.1, v7.2.2.1, v7.2.2.2.1))) fun v8 =>
   bindO (α := Int × Bool × Bool × Int) (bindO (α := Int × Bool × Bool × Int × Bool) (branch v8.2.2.1
        (some (v8.1, v8.2.1, v8.2.2.1, v8.2.2.2, true))
        (branch (!v8.2.1)
         (some (v8.1, v8.2.1, v8.2.2.1, v8.2.2.2, decide (153 < v8.1)))
         (some (v8.1, v8.2.1, v8.2.2.1, v8.2.2.2, false)))) fun v9 =>
     branch v9.2.2.2.2
      (some (v9.1, v9.2.1, true, w64 (v9.2.2.2.1 + 96)))
      (some (v9.1, v9.2.1, v9.2.2.1, v9.2.2.2.1))) fun v10 =>
   bindO (α := Int × Bool × Bool × Int) (branch v10.2.1
      (some (v10.1, v10.2.1, v10.2.2.1, w64 (0 - v10.2.2.2)))
      (some v10)) fun v11 =>
   bindO (F161 K (decide ((Int.tmod (w64 ((w64 (v11.1 + v11.2.2.2)) + 256)) 256) = 0), v11.2.1, false, v11.2.2.1)) fun v12 =>
   some (Int.tmod (w64 ((w64 (v11.1 + v11.2.2.2)) + 256)) 256, v12))
def ct232 (K : Nat) : Ct := ⟨[.l i6, .l i6], [], [.l i6, .l i6], [], [], F232 K⟩
theorem c232 (K : Nat) : CtOk prog 232 (ct232 K) :=
  cmk (K := K) (an := (sN (.seqJ [(1000000, ⟨(.l i6 :: .l i6 :: ru 63 []), []⟩)] true (.seqJ [(1000000, ⟨(.l i6 :: .l i6 :: ru 16 (.l (.v .b) :: ru 46 [])), []⟩)] false .no (.cond .no .no)) (sN (sN (sN (sN (.seqJ [(1000000, ⟨(.l i6 :: ru 5 (.l (.v .b) :: ru 1 (.l (.v .b) :: .l i6 :: ru 55 []))), []⟩)] false (.seqJ [(1000000, ⟨(.l i6 :: ru 5 (.l (.v .b) :: ru 1 (.l (.v .b) :: .l i6 :: ru 29 (.l (.v .b) :: ru 25 [])))), []⟩)] false .no .no) (.seqJ [(1000000, ⟨(.l i6 :: ru 5 (.l (.v .b) :: ru 1 (.l (.v .b) :: .l i6 :: ru 55 []))), []⟩)] false (.seqJ [(1000000, ⟨(.l i6 :: ru 5 (.l (.v .b) :: ru 1 (.l (.v .b) :: .l i6 :: ru 38 (.l (.v .b) :: ru 16 [])))), []⟩)] false .no (.cond .no .no)) (.seqJ [(1000000, ⟨(.l i6 :: ru 5 (.l (.v .b) :: ru 1 (.l (.v .b) :: .l i6 :: ru 55 []))), []⟩)] false (sN .no) (sN .no))))))))))) func232 (kX (c84 K) (kX (c162 K) (kX (c161 K) kN)))
def F170 (K : Nat) (x : Int × MC (Bool)) : Option (MC (Bool)) :=
  bindO (F162 K x.2.2.1) fun v0 =>
  branch (decide (x.1 = 4))
   (bindO (F232 K (x.2.1, x.2.2.1)) fun v1 =>
   some (v1.1, v1.2, x.2.2.2))
   (branch (decide (x.1 = 5))
    (bindO (F161 K (decide (128 ≤ x.2.2.1), true, true, decide (v0 = 1))) fun v2 =>
    some (w64 (255 - x.2.1), v2, x.2.2.2))
    (branch (decide (x.1 = 6))
     (bindO (F161 K (decide (128 ≤ x.2.2.1), false, false, true)) fun v3 =>
     some (x.2.1, v3, x.2.2.2))
     (branch (decide (x.1 = 7))
      (bindO (F161 K (decide (128 ≤ x.2.2.1), false, false, !(decide (v0 = 1)))) fun v4 =>
      some (x.2.1, v4, x.2.2.2))
      (bindO (F160 K (x.1, x.2.1, x.2.2.1)) fun v5 =>
      bindO (F162 K v5.2) fun v6 =>
      bindO (F161 K (false, false, false, decide (v6 = 1))) fun v7 =>
      some (v5.1, v7, x.2.2.2)))))
def ct170 (K : Nat) : Ct := ⟨[.l (.ptr 0 0 0), .l i6], [⟨24, false, .mix (some 122) [wN]⟩], [], [⟨24, false, .mix (some 122) [wN]⟩], [], F170 K⟩
theorem c170 (K : Nat) : CtOk prog 170 (ct170 K) :=
  cmk (K := K) (an := (sN (sN (sN (sN (.blk (sN (.cond (sN .no) (sN (.cond .no (sN (.cond .no (sN (.cond .no (sN .no))))))))))))))) func170 (kX (c162 K) (kX (c161 K) (kX (c160 K) (kX (c232 K) kN))))
def F113 (K : Nat) (x : Int × Bool × Int × MC (Bool)) : Option (Bool × MC (Bool)) :=
  bindO (α := Int × Int × Int × Bool × Int × Bool × Int × MC (Bool)) (branch (decide ((Int.tmod x.1 8) = 0))
     (some (w64 (Int.tdiv x.1 8), Int.tmod x.1 8, w64 (Int.tdiv (w64 (Int.tdiv x.1 8)) 2), decide ((w64 (Int.tdiv x.1 8)) = 1), x))
     (some (w64 (Int.tdiv x.1 8), Int.tmod x.1 8, w64 (Int.tdiv (w64 (Int.tdiv x.1 8)) 2), false, x))) fun v0 =>
  branch v0.2.2.2.1
   (bindO (F163 K (v0.2.2.2.2.2.2.1, Int.tmod v0.2.2.2.2.2.2.2.2.2.2.2.2.2.2.2.1 256, v0.2.2.2.2.2.2.2)) fun v1 =>
   bindO (F163 K (w64 (v0.2.2.2.2.2.2.1 + 1), w64 (Int.tdiv v1.2.2.2.2.2.2.2.2.1 256), v1)) fun v2 =>
   some (false, v2))
   (bindO (α := Int × Int × Int × Bool × Int × Bool × Int × MC (Bool)) (bindO (α := Int × Int × Int × Bool × Int × Bool × Int × MC (Bool)) (branch (decide (v0.2.1 = 0))
        (some (v0.1, v0.2.1, v0.2.2.1, decide (v0.1 = 3), v0.2.2.2.2))
        (some (v0.1, v0.2.1, v0.2.2.1, false, v0.2.2.2.2))) fun v3 =>
     branch v3.2.2.2.1
      (some (v3.1, v3.2.1, v3.2.2.1, true, v3.2.2.2.2))
      (branch (decide (v3.2.1 = 0))
       (branch (decide (3 < v3.1))
        (bindO (F164 K (w64 (v3.1 - 4), v3.2.2.2.2.2.2.2)) fun v4 =>
        some (v3.1, v3.2.1, v3.2.2.1, v4.1, v3.2.2.2.2))
        (some (v3.1, v3.2.1, v3.2.2.1, false, v3.2.2.2.2)))
       (some (v3.1, v3.2.1, v3.2.2.1, false, v3.2.2.2.2)))) fun v5 =>
   branch v5.2.2.2.1
    (bindO (F144 K v5.2.2.2.2.2.2.1) fun v6 =>
    some (true, v5.2.2.2.2.2.2.2.1, v5.2.2.2.2.2.2.2.2.1, v5.2.2.2.2.2.2.2.2.2.1, v5.2.2.2.2.2.2.2.2.2.2.1, v5.2.2.2.2.2.2.2.2.2.2.2.1, v5.2.2.2.2.2.2.2.2.2.2.2.2.1, v5.2.2.2.2.2.2.2.2.2.2.2.2.2.1, v5.2.2.2.2.2.2.2.2.2.2.2.2.2.2.1, v5.2.2.2.2.2.2.2.2.2.2.2.2.2.2.2.1, Int.tmod (w64 ((w64 (v5.2.2.2.2.2.2.2.2.2.2.2.2.2.2.2.2.1 + v6)) + 65536)) 65536, v5.2.2.2.2.2.2.2.2.2.2.2.2.2.2.2.2.2))
    (bindO (α := Int × Int × Int × Bool × Int × Bool × Int × MC (Bool)) (branch (decide (v5.2.1 = 1))
       (some (v5.1, v5.2.1, v5.2.2.1, decide ((Int.tmod v5.1 2) = 0), v5.2.2.2.2))
       (some (v5.1, v5.2.1, v5.2.2.1, false, v5.2.2.2.2))) fun v7 =>
    branch v7.2.2.2.1
     (bindO (F165 K (v7.2.2.1, v7.2.2.2.2.2.2.1, false, v7.2.2.2.2.2.2.2)) fun v8 =>
     some (false, v8))
     (branch (decide (v7.2.1 = 1))
      (bindO (F167 K v7.2.2.2.2.2.2.2) fun v9 =>
      bindO (F168 K (v7.2.2.1, false, v7.2.2.2.2.2.2.2)) fun v10 =>
      bindO (F166 K (v9.1, v10.1, v7.2.2.2.2.2.2.2.2.1)) fun v11 =>
      bindO (F165 K (2, v11.1, false, v7.2.2.2.2.2.2.2)) fun v12 =>
      some (false, v12.1, v11.2, v12.2.2))
      (branch (decide (v7.2.1 = 2))
       (bindO (F168 K (mnI v7.2.2.1 2, false, v7.2.2.2.2.2.2.2)) fun v13 =>
       bindO (α := Int × Int × MC (Bool)) (branch (decide ((Int.tmod v7.1 2) = 0))
          (bindO (F163 K (v13.1, v7.2.2.2.2.2.2.2.1, v7.2.2.2.2.2.2.2)) fun v14 =>
          some (v7.2.2.1, v13.1, v14))
          (bindO (F138 K (v7.2.2.2.2.2.2.2.1, v7.2.2.2.2.2.2.2.2.1, v7.2.2.2.2.2.2.2.2.2.1, v7.2.2.2.2.2.2.2.2.2.2.1, v7.2.2.2.2.2.2.2.2.2.2.2.1, v7.2.2.2.2.2.2.2.2.2.2.2.2.1, v7.2.2.2.2.2.2.2.2.2.2.2.2.2.1, v7.2.2.2.2.2.2.2.2.2.2.2.2.2.2.1, v7.2.2.2.2.2.2.2.2.2.2.2.2.2.2.2.1, v7.2.2.2.2.2.2.2.2.2.2.2.2.2.2.2.2.1, v7.2.2.2.2.2.2.2.2.2.2.2.2.2.2.2.2.2.1, v7.2.2.2.2.2.2.2.2.2.2.2.2.2.2.2.2.2.2.1, v7.2.2.2.2.2.2.2.2.2.2.2.2.2.2.2.2.2.2.2.1, v7.2.2.2.2.2.2.2.2.2.2.2.2.2.2.2.2.2.2.2.2.1, v7.2.2.2.2.2.2.2.2.2.2.2.2.2.2.2.2.2.2.2.2.2.1, v7.2.2.2.2.2.2.2.2.2.2.2.2.2.2.2.2.2.2.2.2.2.2.1, v7.2.2.2.2.2.2.2.2.2.2.2.2.2.2.2.2.2.2.2.2.2.2.2.1, v7.2.2.2.2.2.2.2.2.2.2.2.2.2.2.2.2.2.2.2.2.2.2.2.2.1, v7.2.2.2.2.2.2.2.2.2.2.2.2.2.2.2.2.2.2.2.2.2.2.2.2.2.1, v7.2.2.2.2.2.2.2.2.2.2.2.2.2.2.2.2.2.2.2.2.2.2.2.2.2.2.1, v7.2.2.2.2.2.2.2.2.2.2.2.2.2.2.2.2.2.2.2.2.2.2.2.2.2.2.2.1, v7.2.2.2.2.2.2.2.2.2.2.2.2.2.2.2.2.2.2.2.2.2.2.2.2.2.2.2.2.1, v7.2.2.2.2.2.2.2.2.2.2.2.2.2.2.2.2.2.2.2.2.2.2.2.2.2.2.2.2.2.1, v13.1)) fun v15 =>
          some (v7.2.2.1, v13.1, v15, v7.2.2.2.2.2.2.2.2))) fun v16 =>
       branch (decide (1 < v16.1))
        (guard (decide (0 ≤ (w64 (v16.1 - 2)) ∧ (w64 (v16.1 - 2)) < (2 : Int))) <|
        nthN [1, 65535] ((w64 (v16.1 - 2)).toNat) fun v17 =>
        bindO (F165 K (2, Int.tmod (w64 (v16.2.1 + v17)) 65536, false, v16.2.2)) fun v18 =>
        some (false, v18))
        (some (false, v16.2.2)))
       (branch (decide (v7.2.1 = 3))
        (bindO (F168 K (v7.2.2.1, false, v7.2.2.2.2.2.2.2)) fun v19 =>
        nth [1, 65535] (Int.tmod v7.1 2) fun v20 =>
        bindO (F165 K (v7.2.2.1, Int.tmod (w64 (v19.1 + v20)) 65536, false, v7.2.2.2.2.2.2.2)) fun v21 =>
        some (false, v21))
        (bindO (α := Int × Int × Bool × Int × Bool × Int × MC (Bool)) (branch (decide (v7.2.1 = 4))
           (some (v7.1, v7.2.1, true, v7.2.2.2.2))
           (some (v7.1, v7.2.1, decide (v7.2.1 = 5), v7.2.2.2.2))) fun v22 =>
        branch v22.2.2.1
         (bindO (F115 K (v22.1, v22.2.2.2.2.2.2)) fun v23 =>
         bindO (F169 K (v23.1, v22.2.2.2.2.2.2.2.1, decide (v22.2.1 = 5))) fun v24 =>
         bindO (F114 K (v22.1, v24.1, v22.2.2.2.2.2.2)) fun v25 =>
         some (false, v25.1, v24.2, v25.2.2))
         (branch (decide (v22.2.1 = 6))
          (bindO (F114 K (v22.1, v22.2.2.2.2.2)) fun v26 =>
          some (false, v26))
          (branch (decide (v22.2.1 = 7))
           (bindO (F170 K (v22.1, v22.2.2.2.2.2.2)) fun v27 =>
           some (false, v27))
           (some (false, v22.2.2.2.2.2.2))))))))))
def ct113 (K : Nat) : Ct := ⟨[.l (.ptr 0 0 0), .agg [i6, (.v .b), i6]], [⟨24, false, .mix (some 122) [wN]⟩], [.l (.v .b)], [⟨24, false, .mix (some 122) [wN]⟩], [], F113 K⟩
theorem c113 (K : Nat) : CtOk prog 113 (ct113 K) :=
  cmk (K := K) (an := (sN (sN (sN (sN (.seq (.blk (.seqJ [(1000000, ⟨(.l (.ptr 0 0 0) :: ru 2 (.l (.ptr 4000 0 0) :: ru 1 (.l i6 :: .l i6 :: .l i6 :: ru 13 (.l (.v .b) :: ru 209 [])))), [(4000, ⟨3, false, .mix (some 42) [[.l i6, .l (.v .b), .l i6]]⟩), (0, ⟨24, false, .mix (some 122) [wN]⟩)]⟩)] false .no (.cond .no (.seqJ [(1000000, ⟨(.l (.ptr 0 0 0) :: ru 2 (.l (.ptr 4000 0 0) :: ru 1 (.l i6 :: .l i6 :: .l i6 :: ru 43 (.l (.v .b) :: ru 179 [])))), [(4000, ⟨3, false, .mix (some 42) [[.l i6, .l (.v .b), .l i6]]⟩), (0, ⟨24, false, .mix (some 122) [wN]⟩)]⟩)] false (.seqJ [(1000000, ⟨(.l (.ptr 0 0 0) :: ru 2 (.l (.ptr 4000 0 0) :: ru 1 (.l i6 :: .l i6 :: .l i6 :: ru 43 (.l (.v .b) :: ru 179 [])))), [(4000, ⟨3, false, .mix (some 42) [[.l i6, .l (.v .b), .l i6]]⟩), (0, ⟨24, false, .mix (some 122) [wN]⟩)]⟩)] false .no .no) (.cond (sN .no) (.seqJ [(1000000, ⟨(.l (.ptr 0 0 0) :: ru 2 (.l (.ptr 4000 0 0) :: ru 1 (.l i6 :: .l i6 :: .l i6 :: ru 79 (.l (.v .b) :: ru 143 [])))), [(4000, ⟨3, false, .mix (some 42) [[.l i6, .l (.v .b), .l i6]]⟩), (0, ⟨24, false, .mix (some 122) [wN]⟩)]⟩)] false .no (.cond .no (sN (.cond (sN .no) (sN (.cond (sN (.seqJ [(1000000, ⟨(.l (.ptr 0 0 0) :: ru 6 (.l i6 :: ru 2 (.l i6 :: ru 220 []))), [(0, ⟨24, false, .mix (some 122) [wN]⟩)]⟩)] false (sN .no) (sN .no))) (sN (.cond (.reg [5] []) (.seqJ [(1000000, ⟨(.l (.ptr 0 0 0) :: ru 2 (.l (.ptr 4000 0 0) :: ru 1 (.l i6 :: .l i6 :: ru 178 (.l (.v .b) :: ru 45 [])))), [(4000, ⟨3, false, .mix (some 42) [[.l i6, .l (.v .b), .l i6]]⟩), (0, ⟨24, false, .mix (some 122) [wN]⟩)]⟩)] false .no (.cond (sN .no) (sN (.cond .no (sN .no)))))))))))))))))) .no)))))) func113 (kX (c138 K) (ctabOk_keep (c167k K) (ctabOk_keep (c115k K) (kX (c163 K) (kX (c114 K) (ctabOk_keep (c164k K) (kX (c144 K) (kX (c165 K) (ctabOk_keep (c168k K) (kX (c166 K) (kX (c169 K) (kX (c170 K) kN))))))))))))
def F116 (K : Nat) (x : Int × Int × Int × Int) : Option (Int × Int) :=
  bindO (α := Int × Int × Int × Int) (bindO (α := Int × Int × Int × Int × Int × Bool) (branch (decide (x.1 = 1))
       (some (x.1, x.2.1, x.2.2.1, x.2.2.2, 0, true))
       (some (x.1, x.2.1, x.2.2.1, x.2.2.2, 0, decide (x.1 = 3)))) fun v0 =>
    branch v0.2.2.2.2.2
     (bindO (F162 K v0.2.2.2.1) fun v1 =>
     some (v0.1, v0.2.1, v0.2.2.1, v1))
     (some (v0.1, v0.2.1, v0.2.2.1, v0.2.2.2.2.1))) fun v2 =>
  bindO (α := (Int × Int) ⊕ (Int × Int × Int × Int)) (bindO (α := Int × Int × Int × Int × Int × Bool) (branch (decide (v2.1 = 0))
       (some (v2.1, v2.2.1, v2.2.2.1, v2.2.2.2, v2.1, true))
       (some (v2.1, v2.2.1, v2.2.2.1, v2.2.2.2, v2.1, decide (v2.1 = 1)))) fun v3 =>
    branch v3.2.2.2.2.2
     (bindO (F161 K (decide ((Int.tmod (w64 ((w64 (v3.2.1 + v3.2.2.1)) + v3.2.2.2.1)) 256) = 0), false, decide (15 < (w64 ((w64 ((Int.tmod v3.2.1 16) + (Int.tmod v3.2.2.1 16))) + v3.2.2.2.1))), decide (255 < (w64 ((w64 (v3.2.1 + v3.2.2.1)) + v3.2.2.2.1))))) fun v4 =>
     some (.inl (Int.tmod (w64 ((w64 (v3.2.1 + v3.2.2.1)) + v3.2.2.2.1)) 256, v4)))
     (branch (decide (v3.2.2.2.2.1 = 4))
      (bindO (F161 K (decide ((Go.bits Go.BinOp.and Go.IntKind.i64 v3.2.1 v3.2.2.1) = 0), false, true, false)) fun v5 =>
      some (.inl (Go.bits Go.BinOp.and Go.IntKind.i64 v3.2.1 v3.2.2.1, v5)))
      (branch (decide (v3.2.2.2.2.1 = 5))
       (bindO (F161 K (decide (v3.2.1 = v3.2.2.1), false, false, false)) fun v6 =>
       some (.inl (Go.bits Go.BinOp.xor Go.IntKind.i64 v3.2.1 v3.2.2.1, v6)))
       (branch (decide (v3.2.2.2.2.1 = 6))
        (bindO (F161 K (decide ((Go.bits Go.BinOp.or Go.IntKind.i64 v3.2.1 v3.2.2.1) = 0), false, false, false)) fun v7 =>
        some (.inl (Go.bits Go.BinOp.or Go.IntKind.i64 v3.2.1 v3.2.2.1, v7)))
        (some (.inr (v3.1, v3.2.1, v3.2.2.1, v3.2.2.2.1))))))) fun v8 =>
  csO v8
   (fun v9 => some v9)
   (fun v10 => bindO (F161 K (decide ((Int.tmod (w64 ((w64 ((w64 (v10.2.1 - v10.2.2.1)) - v10.2.2.2)) + 512)) 256) = 0), true, decide ((Int.tmod v10.2.1 16) < (w64 ((Int.tmod v10.2.2.1 16) + v10.2.2.2))), decide ((w64 ((w64 (v10.2.1 - v10.2.2.1)) - v10.2.2.2)) < 0))) fun v11 =>
   branch (decide (v10.1 = 7))
    (some (v10.2.1, v11))
    (some (Int.tmod (w64 ((w64 ((w64 (v10.2.1 - v10.2.2.1)) - v10.2.2.2)) + 512)) 256, v11)))
def ct116 (K : Nat) : Ct := ⟨[.l i6, .l i6, .l i6, .l i6], [], [.l i6, .l i6], [], [], F116 K⟩
theorem c116 (K : Nat) : CtOk prog 116 (ct116 K) :=
  cmk (K := K) (an := (sN (sN (.seqJ [(1000000, ⟨(.l i6 :: .l i6 :: .l i6 :: ru 7 (.l i6 :: ru 92 [])), []⟩)] false (.seqJ [(1000000, ⟨(.l i6 :: .l i6 :: .l i6 :: .l i6 :: ru 6 (.l i6 :: ru 9 (.l (.v .b) :: ru 82 []))), []⟩)] false .no .no) (.seqJ [(1000000, ⟨(.l i6 :: .l i6 :: .l i6 :: ru 7 (.l i6 :: ru 92 [])), []⟩)] true (sN (.blk (.seqJ [(1000000, ⟨(.l i6 :: .l i6 :: .l i6 :: ru 7 (.l i6 :: ru 12 (.l i6 :: .l (.v .b) :: ru 78 []))), []⟩)] false (sN .no) (.cond (sN .no) (sN (.cond .no (sN (.cond .no (sN (.cond .no .no)))))))))) (sN (sN (sN (.seq (sN (.cond .no .no)) .no))))))))) func116 (kX (c162 K) (kX (c161 K) kN))
def F171 (K : Nat) (x : MC (Bool)) : Option (Int × MC (Bool)) :=
  bindO (F138 K (x.1, x.2.1, x.2.2.1, x.2.2.2.1, x.2.2.2.2.1, x.2.2.2.2.2.1, x.2.2.2.2.2.2.1, x.2.2.2.2.2.2.2.1, Int.tmod (w64 (x.2.2.2.2.2.2.2.2.1 + 2)) 65536, x.2.2.2.2.2.2.2.2.2.1, x.2.2.2.2.2.2.2.2.2.2.1, x.2.2.2.2.2.2.2.2.2.2.2.1, x.2.2.2.2.2.2.2.2.2.2.2.2.1, x.2.2.2.2.2.2.2.2.2.2.2.2.2.1, x.2.2.2.2.2.2.2.2.2.2.2.2.2.2.1, x.2.2.2.2.2.2.2.2.2.2.2.2.2.2.2.1, x.2.2.2.2.2.2.2.2.2.2.2.2.2.2.2.2.1, x.2.2.2.2.2.2.2.2.2.2.2.2.2.2.2.2.2.1, x.2.2.2.2.2.2.2.2.2.2.2.2.2.2.2.2.2.2.1, x.2.2.2.2.2.2.2.2.2.2.2.2.2.2.2.2.2.2.2.1, x.2.2.2.2.2.2.2.2.2.2.2.2.2.2.2.2.2.2.2.2.1, x.2.2.2.2.2.2.2.2.2.2.2.2.2.2.2.2.2.2.2.2.2.1, x.2.2.2.2.2.2.2.2.2.2.2.2.2.2.2.2.2.2.2.2.2.2.1, x.2.2.2.2.2.2.2.2.1)) fun v0 =>
  bindO (F138 K (x.1, x.2.1, x.2.2.1, x.2.2.2.1, x.2.2.2.2.1, x.2.2.2.2.2.1, x.2.2.2.2.2.2.1, x.2.2.2.2.2.2.2.1, Int.tmod (w64 (x.2.2.2.2.2.2.2.2.1 + 2)) 65536, x.2.2.2.2.2.2.2.2.2.1, x.2.2.2.2.2.2.2.2.2.2.1, x.2.2.2.2.2.2.2.2.2.2.2.1, x.2.2.2.2.2.2.2.2.2.2.2.2.1, x.2.2.2.2.2.2.2.2.2.2.2.2.2.1, x.2.2.2.2.2.2.2.2.2.2.2.2.2.2.1, x.2.2.2.2.2.2.2.2.2.2.2.2.2.2.2.1, x.2.2.2.2.2.2.2.2.2.2.2.2.2.2.2.2.1, x.2.2.2.2.2.2.2.2.2.2.2.2.2.2.2.2.2.1, x.2.2.2.2.2.2.2.2.2.2.2.2.2.2.2.2.2.2.1, x.2.2.2.2.2.2.2.2.2.2.2.2.2.2.2.2.2.2.2.1, x.2.2.2.2.2.2.2.2.2.2.2.2.2.2.2.2.2.2.2.2.1, x.2.2.2.2.2.2.2.2.2.2.2.2.2.2.2.2.2.2.2.2.2.1, x.2.2.2.2.2.2.2.2.2.2.2.2.2.2.2.2.2.2.2.2.2.2.1, Int.tmod (w64 (x.2.2.2.2.2.2.2.2.1 + 1)) 65536)) fun v1 =>
  some (w64 (v0 + (w64 (256 * v1))), x.1, x.2.1, x.2.2.1, x.2.2.2.1, x.2.2.2.2.1, x.2.2.2.2.2.1, x.2.2.2.2.2.2.1, x.2.2.2.2.2.2.2.1, Int.tmod (w64 (x.2.2.2.2.2.2.2.2.1 + 2)) 65536, x.2.2.2.2.2.2.2.2.2)
def ct171 (K : Nat) : Ct := ⟨[.l (.ptr 0 0 0)], [⟨24, false, .mix (some 122) [wN]⟩], [.l i6], [⟨24, false, .mix (some 122) [wN]⟩], [], F171 K⟩
theorem c171 (K : Nat) : CtOk prog 171 (ct171 K) :=
  cmk (K := K) (an := (sN (sN (sN .no)))) func171 (kX (c138 K) kN)
def F172 (K : Nat) (x : Int × Int) : Option (Int × Int) :=
  bindO (α := (Int × Int) ⊕ (Int × Int)) (bindO (α := Int × Int × Bool) (bindO (F85 K x.1) fun v0 =>
      branch (!v0)
       (some (x.1, x.2, true))
       (bindO (F84 K x.2) fun v1 =>
       some (x.1, x.2, !v1))) fun v2 =>
    branch v2.2.2
     (some (.inl (0, 0)))
     (some (.inr (v2.1, v2.2.1)))) fun v3 =>
  csO v3
   (fun v4 => some v4)
   (fun v5 => bindO (F144 K v5.2) fun v6 =>
   bindO (F161 K (false, false, decide (15 < (w64 ((Int.tmod v5.1 16) + (Int.tmod v5.2 16)))), decide (255 < (w64 ((Int.tmod v5.1 256) + v5.2))))) fun v7 =>
   some (Int.tmod (w64 ((w64 (v5.1 + v6)) + 65536)) 65536, v7))
def ct172 (K : Nat) : Ct := ⟨[.l i6, .l i6], [], [.l i6, .l i6], [], [], F172 K⟩
theorem c172 (K : Nat) : CtOk prog 172 (ct172 K) :=
  cmk (K := K) (an := (sN (.seqJ [(1000000, ⟨(.l i6 :: .l i6 :: ru 30 []), []⟩)] true (.seqJ [(1000000, ⟨(.l i6 :: .l i6 :: ru 11 (.l (.v .b) :: ru 18 [])), []⟩)] false .no (.cond .no .no)) .no))) func172 (kX (c84 K) (kX (c85 K) (kX (c161 K) (kX (c144 K) kN))))
def F173 (K : Nat) (x : Int × MC (Bool)) : Option (MC (Bool)) :=
  bindO (F163 K (w64 (x.2.2.2.2.2.2.2.2.2.1 + 65535), w64 (Int.tdiv x.1 256), x.2)) fun v0 =>
  bindO (F163 K (w64 (x.2.2.2.2.2.2.2.2.2.1 + 65534), Int.tmod x.1 256, v0)) fun v1 =>
  some (v1.1, v1.2.1, v1.2.2.1, v1.2.2.2.1, v1.2.2.2.2.1, v1.2.2.2.2.2.1, v1.2.2.2.2.2.2.1, v1.2.2.2.2.2.2.2.1, Int.tmod (w64 (x.2.2.2.2.2.2.2.2.2.1 + 65534)) 65536, v1.2.2.2.2.2.2.2.2.2)
def ct173 (K : Nat) : Ct := ⟨[.l (.ptr 0 0 0), .l i6], [⟨24, false, .mix (some 122) [wN]⟩], [], [⟨24, false, .mix (some 122) [wN]⟩], [], F173 K⟩
theorem c173 (K : Nat) : CtOk prog 173 (ct173 K) :=
  cmk (K := K) (an := (sN (sN .no))) func173 (kX (c163 K) kN)
def F174 (K : Nat) (x : Int × MC (Bool)) : Option (MC (Bool)) :=
  bindO (F173 K (x.2.2.2.2.2.2.2.2.2.2.1, x.2)) fun v0 =>
  some (v0.1, v0.2.1, v0.2.2.1, v0.2.2.2.1, v0.2.2.2.2.1, v0.2.2.2.2.2.1, v0.2.2.2.2.2.2.1, v0.2.2.2.2.2.2.2.1, v0.2.2.2.2.2.2.2.2.1, x.1, v0.2.2.2.2.2.2.2.2.2.2)
def ct174 (K : Nat) : Ct := ⟨[.l (.ptr 0 0 0), .l i6], [⟨24, false, .mix (some 122) [wN]⟩], [], [⟨24, false, .mix (some 122) [wN]⟩], [], F174 K⟩
theorem c174 (K : Nat) : CtOk prog 174 (ct174 K) :=
  cmk (K := K) (an := .no) func174 (kX (c173 K) kN)
def F117 (K : Nat) (x : Int × Bool × Int × MC (Bool)) : Option (Bool × MC (Bool)) :=
  bindO (α := Int × Int × Int × Bool × Int × Bool × Int × MC (Bool)) (bindO (α := Int × Int × Int × Bool × Int × Bool × Int × MC (Bool)) (branch (decide ((Int.tmod x.1 8) = 0))
       (branch (decide ((Int.tmod (w64 (Int.tdiv x.1 8)) 8) < 4))
        (bindO (F164 K (Int.tmod (w64 (Int.tdiv x.1 8)) 8, x.2.2.2)) fun v0 =>
        some (Int.tmod (w64 (Int.tdiv x.1 8)) 8, Int.tmod x.1 8, 65280, v0.1, x))
        (some (Int.tmod (w64 (Int.tdiv x.1 8)) 8, Int.tmod x.1 8, 65280, false, x)))
       (some (Int.tmod (w64 (Int.tdiv x.1 8)) 8, Int.tmod x.1 8, 65280, false, x))) fun v1 =>
    branch v1.2.2.2.1
     (some (v1.1, v1.2.1, v1.2.2.1, true, v1.2.2.2.2))
     (branch (decide (v1.2.2.2.2.1 = 201))
      (some (v1.1, v1.2.1, v1.2.2.1, true, v1.2.2.2.2))
      (some (v1.1, v1.2.1, v1.2.2.1, decide (v1.2.2.2.2.1 = 217), v1.2.2.2.2)))) fun v2 =>
  branch v2.2.2.2.1
   (bindO (F171 K v2.2.2.2.2.2.2.2) fun v3 =>
   branch v3.2.2.2.2.2.2.2.2.2.2.2.1
    (some (true, v3.2.1, v3.2.2.1, v3.2.2.2.1, v3.2.2.2.2.1, v3.2.2.2.2.2.1, v3.2.2.2.2.2.2.1, v3.2.2.2.2.2.2.2.1, v3.2.2.2.2.2.2.2.2.1, v3.2.2.2.2.2.2.2.2.2.1, v3.1, true, v3.2.2.2.2.2.2.2.2.2.2.2.2))
    (some (true, v3.2.1, v3.2.2.1, v3.2.2.2.1, v3.2.2.2.2.1, v3.2.2.2.2.2.1, v3.2.2.2.2.2.2.1, v3.2.2.2.2.2.2.2.1, v3.2.2.2.2.2.2.2.2.1, v3.2.2.2.2.2.2.2.2.2.1, v3.1, decide (v2.2.2.2.2.1 = 217), v3.2.2.2.2.2.2.2.2.2.2.2.2)))
   (branch (decide (v2.2.2.2.2.1 = 224))
    (bindO (F163 K (w64 (v2.2.2.1 + v2.2.2.2.2.2.2.1), v2.2.2.2.2.2.2.2.1, v2.2.2.2.2.2.2.2)) fun v4 =>
    some (false, v4))
    (branch (decide (v2.2.2.2.2.1 = 226))
     (bindO (F163 K (w64 (v2.2.2.1 + v2.2.2.2.2.2.2.2.2.2.2.1), v2.2.2.2.2.2.2.2.1, v2.2.2.2.2.2.2.2)) fun v5 =>
     some (false, v5))
     (branch (decide (v2.2.2.2.2.1 = 240))
      (bindO (F138 K (v2.2.2.2.2.2.2.2.1, v2.2.2.2.2.2.2.2.2.1, v2.2.2.2.2.2.2.2.2.2.1, v2.2.2.2.2.2.2.2.2.2.2.1, v2.2.2.2.2.2.2.2.2.2.2.2.1, v2.2.2.2.2.2.2.2.2.2.2.2.2.1, v2.2.2.2.2.2.2.2.2.2.2.2.2.2.1, v2.2.2.2.2.2.2.2.2.2.2.2.2.2.2.1, v2.2.2.2.2.2.2.2.2.2.2.2.2.2.2.2.1, v2.2.2.2.2.2.2.2.2.2.2.2.2.2.2.2.2.1, v2.2.2.2.2.2.2.2.2.2.2.2.2.2.2.2.2.2.1, v2.2.2.2.2.2.2.2.2.2.2.2.2.2.2.2.2.2.2.1, v2.2.2.2.2.2.2.2.2.2.2.2.2.2.2.2.2.2.2.2.1, v2.2.2.2.2.2.2.2.2.2.2.2.2.2.2.2.2.2.2.2.2.1, v2.2.2.2.2.2.2.2.2.2.2.2.2.2.2.2.2.2.2.2.2.2.1, v2.2.2.2.2.2.2.2.2.2.2.2.2.2.2.2.2.2.2.2.2.2.2.1, v2.2.2.2.2.2.2.2.2.2.2.2.2.2.2.2.2.2.2.2.2.2.2.2.1, v2.2.2.2.2.2.2.2.2.2.2.2.2.2.2.2.2.2.2.2.2.2.2.2.2.1, v2.2.2.2.2.2.2.2.2.2.2.2.2.2.2.2.2.2.2.2.2.2.2.2.2.2.1, v2.2.2.2.2.2.2.2.2.2.2.2.2.2.2.2.2.2.2.2.2.2.2.2.2.2.2.1, v2.2.2.2.2.2.2.2.2.2.2.2.2.2.2.2.2.2.2.2.2.2.2.2.2.2.2.2.1, v2.2.2.2.2.2.2.2.2.2.2.2.2.2.2.2.2.2.2.2.2.2.2.2.2.2.2.2.2.1, v2.2.2.2.2.2.2.2.2.2.2.2.2.2.2.2.2.2.2.2.2.2.2.2.2.2.2.2.2.2.1, w64 (v2.2.2.1 + v2.2.2.2.2.2.2.1))) fun v6 =>
      some (false, v6, v2.2.2.2.2.2.2.2.2))
      (branch (decide (v2.2.2.2.2.1 = 242))
       (bindO (F138 K (v2.2.2.2.2.2.2.2.1, v2.2.2.2.2.2.2.2.2.1, v2.2.2.2.2.2.2.2.2.2.1, v2.2.2.2.2.2.2.2.2.2.2.1, v2.2.2.2.2.2.2.2.2.2.2.2.1, v2.2.2.2.2.2.2.2.2.2.2.2.2.1, v2.2.2.2.2.2.2.2.2.2.2.2.2.2.1, v2.2.2.2.2.2.2.2.2.2.2.2.2.2.2.1, v2.2.2.2.2.2.2.2.2.2.2.2.2.2.2.2.1, v2.2.2.2.2.2.2.2.2.2.2.2.2.2.2.2.2.1, v2.2.2.2.2.2.2.2.2.2.2.2.2.2.2.2.2.2.1, v2.2.2.2.2.2.2.2.2.2.2.2.2.2.2.2.2.2.2.1, v2.2.2.2.2.2.2.2.2.2.2.2.2.2.2.2.2.2.2.2.1, v2.2.2.2.2.2.2.2.2.2.2.2.2.2.2.2.2.2.2.2.2.1, v2.2.2.2.2.2.2.2.2.2.2.2.2.2.2.2.2.2.2.2.2.2.1, v2.2.2.2.2.2.2.2.2.2.2.2.2.2.2.2.2.2.2.2.2.2.2.1, v2.2.2.2.2.2.2.2.2.2.2.2.2.2.2.2.2.2.2.2.2.2.2.2.1, v2.2.2.2.2.2.2.2.2.2.2.2.2.2.2.2.2.2.2.2.2.2.2.2.2.1, v2.2.2.2.2.2.2.2.2.2.2.2.2.2.2.2.2.2.2.2.2.2.2.2.2.2.1, v2.2.2.2.2.2.2.2.2.2.2.2.2.2.2.2.2.2.2.2.2.2.2.2.2.2.2.1, v2.2.2.2.2.2.2.2.2.2.2.2.2.2.2.2.2.2.2.2.2.2.2.2.2.2.2.2.1, v2.2.2.2.2.2.2.2.2.2.2.2.2.2.2.2.2.2.2.2.2.2.2.2.2.2.2.2.2.1, v2.2.2.2.2.2.2.2.2.2.2.2.2.2.2.2.2.2.2.2.2.2.2.2.2.2.2.2.2.2.1, w64 (v2.2.2.1 + v2.2.2.2.2.2.2.2.2.2.2.1))) fun v7 =>
       some (false, v7, v2.2.2.2.2.2.2.2.2))
       (branch (decide (v2.2.2.2.2.1 = 234))
        (bindO (F163 K (v2.2.2.2.2.2.2.1, v2.2.2.2.2.2.2.2.1, v2.2.2.2.2.2.2.2)) fun v8 =>
        some (false, v8))
        (branch (decide (v2.2.2.2.2.1 = 250))
         (bindO (F138 K (v2.2.2.2.2.2.2.2.1, v2.2.2.2.2.2.2.2.2.1, v2.2.2.2.2.2.2.2.2.2.1, v2.2.2.2.2.2.2.2.2.2.2.1, v2.2.2.2.2.2.2.2.2.2.2.2.1, v2.2.2.2.2.2.2.2.2.2.2.2.2.1, v2.2.2.2.2.2.2.2.2.2.2.2.2.2.1, v2.2.2.2.2.2.2.2.2.2.2.2.2.2.2.1, v2.2.2.2.2.2.2.2.2.2.2.2.2.2.2.2.1, v2.2.2.2.2.2.2.2.2.2.2.2.2.2.2.2.2.1, v2.2.2.2.2.2.2.2.2.2.2.2.2.2.2.2.2.2.1, v2.2.2.2.2.2.2.2.2.2.2.2.2.2.2.2.2.2.2.1, v2.2.2.2.2.2.2.2.2.2.2.2.2.2.2.2.2.2.2.2.1, v2.2.2.2.2.2.2.2.2.2.2.2.2.2.2.2.2.2.2.2.2.1, v2.2.2.2.2.2.2.2.2.2.2.2.2.2.2.2.2.2.2.2.2.2.1, v2.2.2.2.2.2.2.2.2.2.2.2.2.2.2.2.2.2.2.2.2.2.2.1, v2.2.2.2.2.2.2.2.2.2.2.2.2.2.2.2.2.2.2.2.2.2.2.2.1, v2.2.2.2.2.2.2.2.2.2.2.2.2.2.2.2.2.2.2.2.2.2.2.2.2.1, v2.2.2.2.2.2.2.2.2.2.2.2.2.2.2.2.2.2.2.2.2.2.2.2.2.2.1, v2.2.2.2.2.2.2.2.2.2.2.2.2.2.2.2.2.2.2.2.2.2.2.2.2.2.2.1, v2.2.2.2.2.2.2.2.2.2.2.2.2.2.2.2.2.2.2.2.2.2.2.2.2.2.2.2.1, v2.2.2.2.2.2.2.2.2.2.2.2.2.2.2.2.2.2.2.2.2.2.2.2.2.2.2.2.2.1, v2.2.2.2.2.2.2.2.2.2.2.2.2.2.2.2.2.2.2.2.2.2.2.2.2.2.2.2.2.2.1, v2.2.2.2.2.2.2.1)) fun v9 =>
         some (false, v9, v2.2.2.2.2.2.2.2.2))
         (branch (decide (v2.2.2.2.2.1 = 232))
          (bindO (F172 K (v2.2.2.2.2.2.2.2.2.2.2.2.2.2.2.2.1, v2.2.2.2.2.2.2.1)) fun v10 =>
          some (false, v2.2.2.2.2.2.2.2.1, v10.2, v2.2.2.2.2.2.2.2.2.2.1, v2.2.2.2.2.2.2.2.2.2.2.1, v2.2.2.2.2.2.2.2.2.2.2.2.1, v2.2.2.2.2.2.2.2.2.2.2.2.2.1, v2.2.2.2.2.2.2.2.2.2.2.2.2.2.1, v2.2.2.2.2.2.2.2.2.2.2.2.2.2.2.1, v10.1, v2.2.2.2.2.2.2.2.2.2.2.2.2.2.2.2.2))
          (branch (decide (v2.2.2.2.2.1 = 248))
           (bindO (F172 K (v2.2.2.2.2.2.2.2.2.2.2.2.2.2.2.2.1, v2.2.2.2.2.2.2.1)) fun v11 =>
           bindO (F165 K (2, v11.1, false, v2.2.2.2.2.2.2.2)) fun v12 =>
           some (false, v12.1, v11.2, v12.2.2))
           (branch (decide (v2.2.2.2.2.1 = 249))
            (bindO (F167 K v2.2.2.2.2.2.2.2) fun v13 =>
            some (false, v2.2.2.2.2.2.2.2.1, v2.2.2.2.2.2.2.2.2.1, v2.2.2.2.2.2.2.2.2.2.1, v2.2.2.2.2.2.2.2.2.2.2.1, v2.2.2.2.2.2.2.2.2.2.2.2.1, v2.2.2.2.2.2.2.2.2.2.2.2.2.1, v2.2.2.2.2.2.2.2.2.2.2.2.2.2.1, v2.2.2.2.2.2.2.2.2.2.2.2.2.2.2.1, v13.1, v2.2.2.2.2.2.2.2.2.2.2.2.2.2.2.2.2))
            (branch (decide (v2.2.2.2.2.1 = 233))
             (bindO (F167 K v2.2.2.2.2.2.2.2) fun v14 =>
             some (false, v2.2.2.2.2.2.2.2.1, v2.2.2.2.2.2.2.2.2.1, v2.2.2.2.2.2.2.2.2.2.1, v2.2.2.2.2.2.2.2.2.2.2.1, v2.2.2.2.2.2.2.2.2.2.2.2.1, v2.2.2.2.2.2.2.2.2.2.2.2.2.1, v2.2.2.2.2.2.2.2.2.2.2.2.2.2.1, v2.2.2.2.2.2.2.2.2.2.2.2.2.2.2.1, v2.2.2.2.2.2.2.2.2.2.2.2.2.2.2.2.1, v14.1, v2.2.2.2.2.2.2.2.2.2.2.2.2.2.2.2.2.2))
             (bindO (α := Int × Int × Bool × Int × Bool × Int × MC (Bool)) (branch (decide (v2.2.1 = 1))
                (some (v2.1, v2.2.1, decide ((Int.tmod v2.1 2) = 0), v2.2.2.2.2))
                (some (v2.1, v2.2.1, false, v2.2.2.2.2))) fun v15 =>
             branch v15.2.2.1
              (bindO (F171 K v15.2.2.2.2.2.2) fun v16 =>
              bindO (F165 K (w64 (Int.tdiv v15.1 2), v16.1, true, v16.2)) fun v17 =>
              some (false, v17))
              (bindO (α := Int × Int × Bool × Int × Bool × Int × MC (Bool)) (branch (decide (v15.2.1 = 5))
                 (some (v15.1, v15.2.1, decide ((Int.tmod v15.1 2) = 0), v15.2.2.2))
                 (some (v15.1, v15.2.1, false, v15.2.2.2))) fun v18 =>
              branch v18.2.2.1
               (bindO (F168 K (w64 (Int.tdiv v18.1 2), true, v18.2.2.2.2.2.2)) fun v19 =>
               bindO (F173 K (v19.1, v18.2.2.2.2.2.2)) fun v20 =>
               some (false, v20))
               (bindO (α := Int × Int × Bool × Int × Bool × Int × MC (Bool)) (bindO (α := Int × Int × Bool × Int × Bool × Int × MC (Bool)) (branch (decide (v18.2.1 = 2))
                    (branch (decide (v18.1 < 4))
                     (bindO (F164 K (v18.1, v18.2.2.2.2.2.2)) fun v21 =>
                     some (v18.1, v18.2.1, v21.1, v18.2.2.2))
                     (some (v18.1, v18.2.1, false, v18.2.2.2)))
                    (some (v18.1, v18.2.1, false, v18.2.2.2))) fun v22 =>
                 branch v22.2.2.1
                  (some (v22.1, v22.2.1, true, v22.2.2.2))
                  (some (v22.1, v22.2.1, decide (v22.2.2.2.1 = 195), v22.2.2.2))) fun v23 =>
               branch v23.2.2.1
                (some (true, v23.2.2.2.2.2.2.1, v23.2.2.2.2.2.2.2.1, v23.2.2.2.2.2.2.2.2.1, v23.2.2.2.2.2.2.2.2.2.1, v23.2.2.2.2.2.2.2.2.2.2.1, v23.2.2.2.2.2.2.2.2.2.2.2.1, v23.2.2.2.2.2.2.2.2.2.2.2.2.1, v23.2.2.2.2.2.2.2.2.2.2.2.2.2.1, v23.2.2.2.2.2.2.2.2.2.2.2.2.2.2.1, v23.2.2.2.2.2.1, v23.2.2.2.2.2.2.2.2.2.2.2.2.2.2.2.2))
                (bindO (α := Int × Int × Bool × Int × Bool × Int × MC (Bool)) (branch (decide (v23.2.2.2.1 = 243))
                   (some (v23.1, v23.2.1, true, v23.2.2.2))
                   (some (v23.1, v23.2.1, decide (v23.2.2.2.1 = 251), v23.2.2.2))) fun v24 =>
                branch v24.2.2.1
                 (some (false, v24.2.2.2.2.2.2.1, v24.2.2.2.2.2.2.2.1, v24.2.2.2.2.2.2.2.2.1, v24.2.2.2.2.2.2.2.2.2.1, v24.2.2.2.2.2.2.2.2.2.2.1, v24.2.2.2.2.2.2.2.2.2.2.2.1, v24.2.2.2.2.2.2.2.2.2.2.2.2.1, v24.2.2.2.2.2.2.2.2.2.2.2.2.2.1, v24.2.2.2.2.2.2.2.2.2.2.2.2.2.2.1, v24.2.2.2.2.2.2.2.2.2.2.2.2.2.2.2.1, decide (v24.2.2.2.1 = 251), v24.2.2.2.2.2.2.2.2.2.2.2.2.2.2.2.2.2))
                 (bindO (α := Int × Int × Bool × Int × Bool × Int × MC (Bool)) (bindO (α := Int × Int × Bool × Int × Bool × Int × MC (Bool)) (branch (decide (v24.2.1 = 4))
                      (bindO (F164 K (v24.1, v24.2.2.2.2.2.2)) fun v25 =>
                      some (v24.1, v24.2.1, v25.1, v24.2.2.2))
                      (some (v24.1, v24.2.1, false, v24.2.2.2))) fun v26 =>
                   branch v26.2.2.1
                    (some (v26.1, v26.2.1, true, v26.2.2.2))
                    (some (v26.1, v26.2.1, decide (v26.2.2.2.1 = 205), v26.2.2.2))) fun v27 =>
                 branch v27.2.2.1
                  (bindO (F174 K v27.2.2.2.2.2) fun v28 =>
                  some (true, v28))
                  (branch (decide (v27.2.1 = 6))
                   (bindO (F116 K (v27.1, v27.2.2.2.2.2.2.1, v27.2.2.2.2.2.1, v27.2.2.2.2.2.2.2.1)) fun v29 =>
                   some (false, v29.1, v29.2, v27.2.2.2.2.2.2.2.2))
                   (branch (decide (v27.2.1 = 7))
                    (bindO (F174 K (w64 (8 * v27.1), v27.2.2.2.2.2.2)) fun v30 =>
                    some (false, v30))
                    (some (false, v27.2.2.2.2.2.2)))))))))))))))))))
def ct117 (K : Nat) : Ct := ⟨[.l (.ptr 0 0 0), .agg [i6, (.v .b), i6]], [⟨24, false, .mix (some 122) [wN]⟩], [.l (.v .b)], [⟨24, false, .mix (some 122) [wN]⟩], [], F117 K⟩
theorem c117 (K : Nat) : CtOk prog 117 (ct117 K) :=
  cmk (K := K) (an := (sN (sN (sN (sN (.seq (.blk (.seqJ [(1000000, ⟨(.l (.ptr 0 0 0) :: ru 2 (.l (.ptr 4000 0 0) :: ru 1 (.l i6 :: .l i6 :: .l i6 :: ru 13 (.l (.v .b) :: ru 344 [])))), [(4000, ⟨3, false, .mix (some 42) [[.l i6, .l (.v .b), .l i6]]⟩), (0, ⟨24, false, .mix (some 122) [wN]⟩)]⟩)] false (.seqJ [(1000000, ⟨(.l (.ptr 0 0 0) :: ru 2 (.l (.ptr 4000 0 0) :: ru 1 (.l i6 :: .l i6 :: .l i6 :: ru 13 (.l (.v .b) :: ru 344 [])))), [(4000, ⟨3, false, .mix (some 42) [[.l i6, .l (.v .b), .l i6]]⟩), (0, ⟨24, false, .mix (some 122) [wN]⟩)]⟩)] false .no (.cond .no (sN .no))) (.cond (sN (sN .no)) (sN (.cond .no (sN (.cond .no (sN (.cond .no (sN (.cond .no (sN (.cond .no (sN (.cond .no (sN (.cond (sN .no) (sN (.cond (sN .no) (sN (.cond .no (sN (.cond .no (.seqJ [(1000000, ⟨(.l (.ptr 0 0 0) :: ru 2 (.l (.ptr 4000 0 0) :: ru 1 (.l i6 :: .l i6 :: ru 236 (.l (.v .b) :: ru 122 [])))), [(4000, ⟨3, false, .mix (some 42) [[.l i6, .l (.v .b), .l i6]]⟩), (0, ⟨24, false, .mix (some 122) [wN]⟩)]⟩)] false .no (.cond .no (.seqJ [(1000000, ⟨(.l (.ptr 0 0 0) :: ru 2 (.l (.ptr 4000 0 0) :: ru 1 (.l i6 :: .l i6 :: ru 250 (.l (.v .b) :: ru 108 [])))), [(4000, ⟨3, false, .mix (some 42) [[.l i6, .l (.v .b), .l i6]]⟩), (0, ⟨24, false, .mix (some 122) [wN]⟩)]⟩)] false .no (.cond .no (.seqJ [(1000000, ⟨(.l (.ptr 0 0 0) :: ru 2 (.l (.ptr 4000 0 0) :: ru 1 (.l i6 :: .l i6 :: ru 264 (.l (.v .b) :: ru 94 [])))), [(4000, ⟨3, false, .mix (some 42) [[.l i6, .l (.v .b), .l i6]]⟩), (0, ⟨24, false, .mix (some 122) [wN]⟩)]⟩)] false (.seqJ [(1000000, ⟨(.l (.ptr 0 0 0) :: ru 2 (.l (.ptr 4000 0 0) :: ru 1 (.l i6 :: .l i6 :: ru 264 (.l (.v .b) :: ru 94 [])))), [(4000, ⟨3, false, .mix (some 42) [[.l i6, .l (.v .b), .l i6]]⟩), (0, ⟨24, false, .mix (some 122) [wN]⟩)]⟩)] false .no .no) (.cond (sN .no) (.seqJ [(1000000, ⟨(.l (.ptr 0 0 0) :: ru 2 (.l (.ptr 4000 0 0) :: ru 1 (.l i6 :: .l i6 :: ru 286 (.l (.v .b) :: ru 72 [])))), [(4000, ⟨3, false, .mix (some 42) [[.l i6, .l (.v .b), .l i6]]⟩), (0, ⟨24, false, .mix (some 122) [wN]⟩)]⟩)] false .no (.cond .no (.seqJ [(1000000, ⟨(.l (.ptr 0 0 0) :: ru 2 (.l (.ptr 4000 0 0) :: ru 1 (.l i6 :: .l i6 :: ru 303 (.l (.v .b) :: ru 55 [])))), [(4000, ⟨3, false, .mix (some 42) [[.l i6, .l (.v .b), .l i6]]⟩), (0, ⟨24, false, .mix (some 122) [wN]⟩)]⟩)] false (.seqJ [(1000000, ⟨(.l (.ptr 0 0 0) :: ru 2 (.l (.ptr 4000 0 0) :: ru 1 (.l i6 :: .l i6 :: ru 303 (.l (.v .b) :: ru 55 [])))), [(4000, ⟨3, false, .mix (some 42) [[.l i6, .l (.v .b), .l i6]]⟩), (0, ⟨24, false, .mix (some 122) [wN]⟩)]⟩)] false .no .no) (.cond (sN .no) (sN (.cond (sN .no) (sN .no)))))))))))))))))))))))))))))))))))) .no)))))) func117 (kX (c138 K) (ctabOk_keep (c167k K) (kX (c163 K) (ctabOk_keep (c164k K) (kX (c165 K) (ctabOk_keep (c168k K) (kX (c116 K) (kX (c171 K) (kX (c172 K) (kX (c173 K) (kX (c174 K) kN)))))))))))
def F175 (K : Nat) (x : Int × Bool) : Option (Int) :=
  bindO (F87 K (x.1, 0, 255)) fun v0 =>
  branch (!v0)
   (some 0)
   (bindO (F196 K x) fun v1 =>
   some v1)
def ct175 (K : Nat) : Ct := ⟨[.l i6, .l (.v .b)], [], [.l i6], [], [], F175 K⟩
theorem c175 (K : Nat) : CtOk prog 175 (ct175 K) :=
  cmk (K := K) (an := (sN (.seq (sN (.cond .no .no)) .no))) func175 (kX (c87 K) (kX (c196 K) kN))
def F177 (K : Nat) (x : Int × Int × Bool) : Option (Int) :=
  bindO (F176 K x.2.2) fun v0 =>
  branch (decide (x.2.1 = 0))
   (branch (decide (x.1 < 4))
    (some (w64 (2 + (w64 (3 * v0)))))
    (guard (decide (0 ≤ (w64 (x.1 - 4)) ∧ (w64 (x.1 - 4)) < (4 : Int))) <|
    nthN [3, 4, 3, 3] ((w64 (x.1 - 4)).toNat) fun v1 =>
    some v1))
   (branch (decide (x.2.1 = 1))
    (branch (decide ((Int.tmod x.1 2) = 0))
     (some 3)
     (guard (decide (0 ≤ (w64 (Int.tdiv x.1 2)) ∧ (w64 (Int.tdiv x.1 2)) < (4 : Int))) <|
     nthN [4, 4, 1, 2] ((w64 (Int.tdiv x.1 2)).toNat) fun v2 =>
     some v2))
    (branch (decide (x.2.1 = 2))
     (branch (decide (x.1 < 4))
      (some (w64 (3 + v0)))
      (guard (decide (0 ≤ (w64 (x.1 - 4)) ∧ (w64 (x.1 - 4)) < (4 : Int))) <|
      nthN [2, 4, 2, 4] ((w64 (x.1 - 4)).toNat) fun v3 =>
      some v3))
     (branch (decide (x.2.1 = 3))
      (branch (decide (x.1 = 0))
       (some 4)
       (some 1))
      (branch (decide (x.2.1 = 4))
       (some (w64 (3 + (w64 (3 * v0)))))
       (branch (decide (x.2.1 = 5))
        (branch (decide (x.1 = 1))
         (some 6)
         (some 4))
        (branch (decide (x.2.1 = 6))
         (some 2)
         (some 4)))))))
def ct177 (K : Nat) : Ct := ⟨[.l i6, .l i6, .l (.v .b)], [], [.l i6], [], [], F177 K⟩
theorem c177 (K : Nat) : CtOk prog 177 (ct177 K) :=
  cmk (K := K) (an := (sN (sN (.seq (sN (.blk (sN (.cond (.seq (sN (.cond .no .no)) .no) (sN (.cond (.seq (sN (.cond .no .no)) .no) (sN (.cond (.seq (sN (.cond .no .no)) .no) (sN (.cond (.seq (sN (.cond .no .no)) .no) (sN (.cond .no (sN (.cond (.seq (sN (.cond .no .no)) .no) (sN (.cond .no .no)))))))))))))))) .no)))) func177 (kX (c176 K) kN)
def F118 (K : Nat) (x : Int × Bool × Bool) : Option (Int) :=
  bindO (F175 K (x.1, x.2.1)) fun v0 =>
  branch (decide (v0 = 0))
   (some 0)
   (bindO (α := Int ⊕ (Bool × Int × Int)) (bindO (α := Int × Bool × Bool × Int × Int × Int × Bool) (branch x.2.1
        (some (x.1, x.2.1, x.2.2, w64 (Int.tdiv x.1 64), Int.tmod (w64 (Int.tdiv x.1 8)) 8, Int.tmod x.1 8, !(decide ((Int.tmod x.1 8) = 6))))
        (some (x.1, x.2.1, x.2.2, w64 (Int.tdiv x.1 64), Int.tmod (w64 (Int.tdiv x.1 8)) 8, Int.tmod x.1 8, false))) fun v1 =>
     branch v1.2.2.2.2.2.2
      (some (.inl 2))
      (bindO (α := Int × Bool × Bool × Int × Int × Int × Bool) (branch v1.2.1
         (some (v1.1, v1.2.1, v1.2.2.1, v1.2.2.2.1, v1.2.2.2.2.1, v1.2.2.2.2.2.1, decide (v1.2.2.2.1 = 1)))
         (some (v1.1, v1.2.1, v1.2.2.1, v1.2.2.2.1, v1.2.2.2.2.1, v1.2.2.2.2.2.1, false))) fun v2 =>
      branch v2.2.2.2.2.2.2
       (some (.inl 3))
       (branch v2.2.1
        (some (.inl 4))
        (branch (decide (v2.1 = 118))
         (some (.inl 1))
         (branch (decide (v2.2.2.2.1 = 1))
          (branch (decide (v2.2.2.2.2.1 = 6))
           (bindO (F176 K true) fun v3 =>
           some (.inl (w64 (1 + v3))))
           (bindO (F176 K (decide (v2.2.2.2.2.2.1 = 6))) fun v4 =>
           some (.inl (w64 (1 + v4)))))
          (branch (decide (v2.2.2.2.1 = 2))
           (bindO (F176 K (decide (v2.2.2.2.2.2.1 = 6))) fun v5 =>
           some (.inl (w64 (1 + v5))))
           (branch (decide (v2.2.2.2.1 = 3))
            (bindO (F177 K (v2.2.2.2.2.1, v2.2.2.2.2.2.1, v2.2.2.1)) fun v6 =>
            some (.inl v6))
            (some (.inr (v2.2.2.1, v2.2.2.2.2.1, v2.2.2.2.2.2.1)))))))))) fun v7 =>
   csO v7
    (fun v8 => some v8)
    (fun v9 => branch (decide (v9.2.2 = 0))
     (branch (decide (v9.2.1 < 4))
      (guard (decide (0 ≤ v9.2.1 ∧ v9.2.1 < (4 : Int))) <|
      nthN [1, 5, 1, 3] v9.2.1.toNat fun v10 =>
      some v10)
      (bindO (F176 K v9.1) fun v11 =>
      some (w64 (2 + v11))))
     (branch (decide (v9.2.2 = 1))
      (some (w64 (3 - (Int.tmod v9.2.1 2))))
      (bindO (α := Int × Int × Bool) (branch (decide (v9.2.2 = 2))
         (some (v9.2.1, v9.2.2, true))
         (some (v9.2.1, v9.2.2, decide (v9.2.2 = 3)))) fun v12 =>
      branch v12.2.2
       (some 2)
       (bindO (α := Int × Int × Bool) (branch (decide (v12.2.1 = 4))
          (some (v12.1, v12.2.1, true))
          (some (v12.1, v12.2.1, decide (v12.2.1 = 5)))) fun v13 =>
       branch v13.2.2
        (bindO (F176 K (decide (v13.1 = 6))) fun v14 =>
        some (w64 (1 + (w64 (2 * v14)))))
        (branch (decide (v13.2.1 = 6))
         (bindO (F176 K (decide (v13.1 = 6))) fun v15 =>
         some (w64 (2 + v15)))
         (some 1)))))))
def ct118 (K : Nat) : Ct := ⟨[.l i6, .l (.v .b), .l (.v .b)], [], [.l i6], [], [], F118 K⟩
theorem c118 (K : Nat) : CtOk prog 118 (ct118 K) :=
  cmk (K := K) (an := (sN (.seq (sN (.cond .no .no)) (sN (sN (sN (.seqJ [(1000000, ⟨(ru 2 (.l (.v .b) :: ru 5 (.l i6 :: .l i6 :: ru 87 []))), []⟩)] true (.blk (.seqJ [(1000000, ⟨(.l i6 :: .l (.v .b) :: .l (.v .b) :: ru 4 (.l i6 :: .l i6 :: .l i6 :: ru 11 (.l (.v .b) :: ru 75 []))), []⟩)] false .no (.cond .no (.seqJ [(1000000, ⟨(.l i6 :: .l (.v .b) :: .l (.v .b) :: ru 4 (.l i6 :: .l i6 :: .l i6 :: ru 17 (.l (.v .b) :: ru 69 []))), []⟩)] false .no (.cond .no (sN (.cond .no (sN (.cond .no (sN (.cond .no (sN (.cond .no (sN (.cond .no .no))))))))))))))) (.seq (sN (.blk (sN (.cond (.seq (sN (.cond .no .no)) .no) (sN (.cond .no (.seqJ [(1000000, ⟨(ru 8 (.l i6 :: ru 54 (.l i6 :: ru 16 (.l (.v .b) :: ru 16 [])))), []⟩)] false (sN .no) (.cond .no (.seqJ [(1000000, ⟨(ru 8 (.l i6 :: ru 54 (.l i6 :: ru 19 (.l (.v .b) :: ru 13 [])))), []⟩)] false (sN .no) (.cond .no (sN (.cond .no .no)))))))))))) .no)))))))) func118 (kX (c176 K) (kX (c175 K) (kX (c177 K) kN)))
def F62 (K : Nat) (x : MM) : Option (MC (Int)) :=
  branch (pr11 x)
   (bindO (F89 K x) fun v0 =>
   some (v0.1, v0.2.1, v0.2.2.1, v0.2.2.2.1, pr4 v0, pr5 v0, pr6 v0, pr7 v0, pr8 v0, pr9 v0, pr10 v0, pr11 v0, pr12 v0, pr13 v0, pr14 v0, pr15 v0, pr16 v0, pr17 v0, pr18 v0, pr19 v0, pr20 v0, pr21 v0, er22 v0, 1))
   (bindO (F100 K x) fun v1 =>
   branch (decide (v1.2.2.2 = 0))
    (bindO (F89 K x) fun v2 =>
    some (v2.1, v2.2.1, v2.2.2.1, v2.2.2.2.1, pr4 v2, pr5 v2, pr6 v2, pr7 v2, pr8 v2, pr9 v2, pr10 v2, pr11 v2, pr12 v2, pr13 v2, pr14 v2, pr15 v2, pr16 v2, pr17 v2, pr18 v2, pr19 v2, pr20 v2, pr21 v2, er22 v2, 2))
    (bindO (α := Bool × MC (Bool × Int × Bool × Int × Int × Int × Int × Int × Int × Int × Int × Int × Int × Int × Bool × Bool × (List UInt8) × Int × Int × (List UInt8) × Int × Bool × Int × (List UInt8) × (List UInt8) × (List Int) × Int × MM)) (branch v1.2.1
       (bindO (F112 K (v1.1, v1.2.1, v1.2.2.1, x.1, x.2.1, x.2.2.1, x.2.2.2.1, pr4 x, pr5 x, pr6 x, pr7 x, pr8 x, Int.tmod (w64 ((pr9 x) + v1.2.2.2)) 65536, pr10 x, pr11 x, pr12 x, pr13 x, pr14 x, pr15 x, pr16 x, pr17 x, pr18 x, pr19 x, pr20 x, pr21 x, er22 x, false)) fun v3 =>
       some (false, v3.1, v3.2.1, v3.2.2.1, v3.2.2.2.1, pr4 v3, pr5 v3, pr6 v3, pr7 v3, pr8 v3, pr9 v3, pr10 v3, pr11 v3, pr12 v3, pr13 v3, pr14 v3, pr15 v3, pr16 v3, pr17 v3, pr18 v3, pr19 v3, pr20 v3, pr21 v3, pr22 v3, er23 v3, v1.1, v1.2.1, v1.2.2.1, 0, 0, 0, 0, 0, 0, 0, 0, 0, 0, false, false, [], 0, 0, [], 0, false, 0, [], [], [], 0, x))
       (branch (decide (v1.1 < 64))
        (bindO (F113 K (v1.1, v1.2.1, v1.2.2.1, x.1, x.2.1, x.2.2.1, x.2.2.2.1, pr4 x, pr5 x, pr6 x, pr7 x, pr8 x, Int.tmod (w64 ((pr9 x) + v1.2.2.2)) 65536, pr10 x, pr11 x, pr12 x, pr13 x, pr14 x, pr15 x, pr16 x, pr17 x, pr18 x, pr19 x, pr20 x, pr21 x, er22 x, false)) fun v4 =>
        some (v4.1, v4.2.1, v4.2.2.1, v4.2.2.2.1, pr4 v4, pr5 v4, pr6 v4, pr7 v4, pr8 v4, pr9 v4, pr10 v4, pr11 v4, pr12 v4, pr13 v4, pr14 v4, pr15 v4, pr16 v4, pr17 v4, pr18 v4, pr19 v4, pr20 v4, pr21 v4, pr22 v4, pr23 v4, er24 v4, v1.1, v1.2.1, v1.2.2.1, 0, 0, 0, 0, 0, 0, 0, 0, 0, 0, false, false, [], 0, 0, [], 0, false, 0, [], [], [], 0, x))
        (branch (decide (v1.1 = 118))
         (some (false, x.1, x.2.1, x.2.2.1, x.2.2.2.1, pr4 x, pr5 x, pr6 x, pr7 x, pr8 x, Int.tmod (w64 ((pr9 x) + v1.2.2.2)) 65536, pr10 x, true, pr12 x, pr13 x, pr14 x, pr15 x, pr16 x, pr17 x, pr18 x, pr19 x, pr20 x, pr21 x, er22 x, false, v1.1, v1.2.1, v1.2.2.1, 0, 0, 0, 0, 0, 0, 0, 0, 0, 0, false, false, [], 0, 0, [], 0, false, 0, [], [], [], 0, x))
         (branch (decide (v1.1 < 128))
          (bindO (F115 K (Int.tmod v1.1 8, x.1, x.2.1, x.2.2.1, x.2.2.2.1, pr4 x, pr5 x, pr6 x, pr7 x, pr8 x, Int.tmod (w64 ((pr9 x) + v1.2.2.2)) 65536, pr10 x, pr11 x, pr12 x, pr13 x, pr14 x, pr15 x, pr16 x, pr17 x, pr18 x, pr19 x, pr20 x, pr21 x, er22 x, false)) fun v5 =>
          bindO (F114 K (Int.tmod (w64 (Int.tdiv v1.1 8)) 8, v5.1, x.1, x.2.1, x.2.2.1, x.2.2.2.1, pr4 x, pr5 x, pr6 x, pr7 x, pr8 x, Int.tmod (w64 ((pr9 x) + v1.2.2.2)) 65536, pr10 x, pr11 x, pr12 x, pr13 x, pr14 x, pr15 x, pr16 x, pr17 x, pr18 x, pr19 x, pr20 x, pr21 x, er22 x, false)) fun v6 =>
          some (false, v6.1, v6.2.1, v6.2.2.1, v6.2.2.2.1, pr4 v6, pr5 v6, pr6 v6, pr7 v6, pr8 v6, pr9 v6, pr10 v6, pr11 v6, pr12 v6, pr13 v6, pr14 v6, pr15 v6, pr16 v6, pr17 v6, pr18 v6, pr19 v6, pr20 v6, pr21 v6, pr22 v6, er23 v6, v1.1, v1.2.1, v1.2.2.1, 0, 0, 0, 0, 0, 0, 0, 0, 0, 0, false, false, [], 0, 0, [], 0, false, 0, [], [], [], 0, x))
          (branch (decide (v1.1 < 192))
           (bindO (F115 K (Int.tmod v1.1 8, x.1, x.2.1, x.2.2.1, x.2.2.2.1, pr4 x, pr5 x, pr6 x, pr7 x, pr8 x, Int.tmod (w64 ((pr9 x) + v1.2.2.2)) 65536, pr10 x, pr11 x, pr12 x, pr13 x, pr14 x, pr15 x, pr16 x, pr17 x, pr18 x, pr19 x, pr20 x, pr21 x, er22 x, false)) fun v7 =>
           bindO (F116 K (Int.tmod (w64 (Int.tdiv v1.1 8)) 8, x.1, v7.1, x.2.1)) fun v8 =>
           some (false, v8.1, v8.2, x.2.2.1, x.2.2.2.1, pr4 x, pr5 x, pr6 x, pr7 x, pr8 x, Int.tmod (w64 ((pr9 x) + v1.2.2.2)) 65536, pr10 x, pr11 x, pr12 x, pr13 x, pr14 x, pr15 x, pr16 x, pr17 x, pr18 x, pr19 x, pr20 x, pr21 x, er22 x, false, v1.1, v1.2.1, v1.2.2.1, 0, 0, 0, 0, 0, 0, 0, 0, 0, 0, false, false, [], 0, 0, [], 0, false, 0, [], [], [], 0, x))
           (bindO (F117 K (v1.1, v1.2.1, v1.2.2.1, x.1, x.2.1, x.2.2.1, x.2.2.2.1, pr4 x, pr5 x, pr6 x, pr7 x, pr8 x, Int.tmod (w64 ((pr9 x) + v1.2.2.2)) 65536, pr10 x, pr11 x, pr12 x, pr13 x, pr14 x, pr15 x, pr16 x, pr17 x, pr18 x, pr19 x, pr20 x, pr21 x, er22 x, false)) fun v9 =>
           some (v9.1, v9.2.1, v9.2.2.1, v9.2.2.2.1, pr4 v9, pr5 v9, pr6 v9, pr7 v9, pr8 v9, pr9 v9, pr10 v9, pr11 v9, pr12 v9, pr13 v9, pr14 v9, pr15 v9, pr16 v9, pr17 v9, pr18 v9, pr19 v9, pr20 v9, pr21 v9, pr22 v9, pr23 v9, er24 v9, v1.1, v1.2.1, v1.2.2.1, 0, 0, 0, 0, 0, 0, 0, 0, 0, 0, false, false, [], 0, 0, [], 0, false, 0, [], [], [], 0, x))))))) fun v10 =>
    bindO (F118 K ((q24 v10).2.1, (q24 v10).2.2.1, v10.1)) fun v11 =>
    bindO (α := (MC (Int)) ⊕ (MC (Bool × MM))) (bindO (α := Bool × MC (Bool × Int × Int × Int × Int × Int × Int × Int × Int × Int × Int × Bool × Bool × (List UInt8) × Int × Int × (List UInt8) × Int × Bool × Int × (List UInt8) × (List UInt8) × (List Int) × Int × MM)) (branch (pr24 v10)
         (some (true, v10.2.1, v10.2.2.1, v10.2.2.2.1, pr4 v10, pr5 v10, pr6 v10, pr7 v10, pr8 v10, pr9 v10, pr10 v10, pr11 v10, pr12 v10, pr13 v10, pr14 v10, pr15 v10, pr16 v10, pr17 v10, pr18 v10, pr19 v10, pr20 v10, pr21 v10, pr22 v10, w64 ((q24 (q24 (q24 v10))).2 + v11), pr24 v10, er4 (q24 v10)))
         (some (decide (1000000000 < (w64 ((q24 (q24 (q24 v10))).2 + v11))), v10.2.1, v10.2.2.1, v10.2.2.2.1, pr4 v10, pr5 v10, pr6 v10, pr7 v10, pr8 v10, pr9 v10, pr10 v10, pr11 v10, pr12 v10, pr13 v10, pr14 v10, pr15 v10, pr16 v10, pr17 v10, pr18 v10, pr19 v10, pr20 v10, pr21 v10, pr22 v10, w64 ((q24 (q24 (q24 v10))).2 + v11), pr24 v10, er4 (q24 v10)))) fun v12 =>
      branch v12.1
       (bindO (F89 K (er24 (q24 v12))) fun v13 =>
       some (.inl (v13.1, v13.2.1, v13.2.2.1, v13.2.2.2.1, pr4 v13, pr5 v13, pr6 v13, pr7 v13, pr8 v13, pr9 v13, pr10 v13, pr11 v13, pr12 v13, pr13 v13, pr14 v13, pr15 v13, pr16 v13, pr17 v13, pr18 v13, pr19 v13, pr20 v13, pr21 v13, er22 v13, 4)))
       (some (.inr (v12.2.1, v12.2.2.1, v12.2.2.2.1, pr4 v12, pr5 v12, pr6 v12, pr7 v12, pr8 v12, pr9 v12, pr10 v12, pr11 v12, pr12 v12, pr13 v12, pr14 v12, pr15 v12, pr16 v12, pr17 v12, pr18 v12, pr19 v12, pr20 v12, pr21 v12, pr22 v12, pr23 v12, pr24 v12, (q24 v12).2.1, (q24 v12).2.2.1, (q24 v12).2.2.2.1, pr4 (q24 v12), pr5 (q24 v12), pr6 (q24 v12), pr7 (q24 v12), pr8 (q24 v12), pr9 (q24 v12), pr10 (q24 v12), pr11 (q24 v12), pr12 (q24 v12), pr13 (q24 v12), pr14 (q24 v12), pr15 (q24 v12), pr16 (q24 v12), pr17 (q24 v12), pr18 (q24 v12), pr19 (q24 v12), pr20 (q24 v12), pr21 (q24 v12), pr22 (q24 v12), pr23 (q24 v12))))) fun v14 =>
    csO v14
     (fun v15 => some v15)
     (fun v16 => bindO (F89 K (v16.1, v16.2.1, v16.2.2.1, v16.2.2.2.1, pr4 v16, pr5 v16, pr6 v16, pr7 v16, pr8 v16, pr9 v16, pr10 v16, pr11 v16, pr12 v16, pr13 v16, pr14 v16, pr15 v16, pr16 v16, pr17 v16, pr18 v16, pr19 v16, pr20 v16, pr21 v16, pr22 v16)) fun v17 =>
     some (v17.1, v17.2.1, v17.2.2.1, v17.2.2.2.1, pr4 v17, pr5 v17, pr6 v17, pr7 v17, pr8 v17, pr9 v17, pr10 v17, pr11 v17, pr12 v17, pr13 v17, pr14 v17, pr15 v17, pr16 v17, pr17 v17, pr18 v17, pr19 v17, pr20 v17, pr21 v17, er22 v17, 0))))
def ct62 (K : Nat) : Ct := ⟨[.agg mL], [], [.agg mL, .l i6], [], [], F62 K⟩
theorem c62 (K : Nat) : CtOk prog 62 (ct62 K) :=
  cmk (K := K) (an := (sN (.seq (sN (.cond .no .no)) (sN (.seq (sN (.cond .no .no)) (sN (sN (sN (sN (sN (.seqJ [(1000000, ⟨(ru 1 (.l (.ptr 2000 0 0) :: .l (.ptr 3000 0 0) :: ru 1 (.l (.ptr 5000 0 0) :: ru 1 (.l (.ptr 29000 0 0) :: .l (.v .b) :: ru 136 [])))), [(29000, ⟨24, false, .mix (some 122) [wN]⟩), (5000, ⟨3, false, .mix (some 42) [[.l i6, .l (.v .b), .l i6]]⟩), (3000, ⟨23, false, .mix (some 30) [mN]⟩), (2000, ⟨23, false, .mix (some 30) [mN]⟩)]⟩)] false (.blk (sN (.cond .no (sN (.cond .no (sN (.cond .no (sN (.cond .no (sN (.cond (sN .no) .no))))))))))) (sN (.seqJ [(1000000, ⟨(ru 2 (.l (.ptr 3000 0 0) :: ru 3 (.l (.ptr 29000 0 0) :: ru 137 []))), [(29000, ⟨24, false, .mix (some 122) [wN]⟩), (3000, ⟨23, false, .mix (some 30) [mN]⟩)]⟩)] true (.seqJ [(1000000, ⟨(ru 1 (.l (.ptr 2000 0 0) :: .l (.ptr 3000 0 0) :: ru 3 (.l (.ptr 29000 0 0) :: ru 129 (.l (.v .b) :: ru 7 [])))), [(29000, ⟨24, false, .mix (some 122) [wN]⟩), (3000, ⟨23, false, .mix (some 30) [mN]⟩), (2000, ⟨23, false, .mix (some 30) [mN]⟩)]⟩)] false .no (.cond .no .no)) .no))))))))))))) func62 (kX (c89 K) (kX (c100 K) (ctabOk_keep (c115k K) (kX (c114 K) (kX (c112 K) (kX (c113 K) (kX (c116 K) (kX (c117 K) (kX (c118 K) kN)))))))))
def F35_b0 (K : Nat) (x : Int × Int × MC MM) : Option ((Int × Int × MC MM) ⊕ ((MC (Int × Int)) ⊕ (Int × MC MM))) :=
  branch (decide (x.2.1 < x.1))
   (bindO (F62 K (x.2.2.1, x.2.2.2.1, pr4 x, pr5 x, pr6 x, pr7 x, pr8 x, pr9 x, pr10 x, pr11 x, pr12 x, pr13 x, pr14 x, pr15 x, pr16 x, pr17 x, pr18 x, pr19 x, pr20 x, pr21 x, pr22 x, pr23 x, pr24 x)) fun v0 =>
   branch (!(decide ((er23 v0) = 0)))
    (some (.inr (.inl (x.2.2.1, x.2.2.2.1, pr4 x, pr5 x, pr6 x, pr7 x, pr8 x, pr9 x, pr10 x, pr11 x, pr12 x, pr13 x, pr14 x, pr15 x, pr16 x, pr17 x, pr18 x, pr19 x, pr20 x, pr21 x, pr22 x, pr23 x, pr24 x, er23 v0, x.2.1))))
    (some (.inl (x.1, w64 (x.2.1 + 1), v0.1, v0.2.1, v0.2.2.1, v0.2.2.2.1, pr4 v0, pr5 v0, pr6 v0, pr7 v0, pr8 v0, pr9 v0, pr10 v0, pr11 v0, pr12 v0, pr13 v0, pr14 v0, pr15 v0, pr16 v0, pr17 v0, pr18 v0, pr19 v0, pr20 v0, pr21 v0, pr22 v0, (q24 x).2))))
   (some (.inr (.inr (x.1, x.2.2))))
def F35 (K : Nat) (x : MC (Int)) : Option (MC (Int × Int)) :=
  bindO (α := (MC (Int × Int)) ⊕ (Int × MC MM)) (bindO (α := Int × Bool × MC MM) (bindO (F33 K (x.1, x.2.1, x.2.2.1, x.2.2.2.1, pr4 x, pr5 x, pr6 x, pr7 x, pr8 x, pr9 x, pr10 x, pr11 x, pr12 x, pr13 x, pr14 x, pr15 x, pr16 x, pr17 x, pr18 x, pr19 x, pr20 x, pr21 x, pr22 x)) fun v0 =>
      branch (!v0)
       (some (er23 x, true, 0, 0, 0, 0, 0, 0, 0, 0, 0, 0, false, false, [], 0, 0, [], 0, false, 0, [], [], [], 0, x.1, x.2.1, x.2.2.1, x.2.2.2.1, pr4 x, pr5 x, pr6 x, pr7 x, pr8 x, pr9 x, pr10 x, pr11 x, pr12 x, pr13 x, pr14 x, pr15 x, pr16 x, pr17 x, pr18 x, pr19 x, pr20 x, pr21 x, pr22 x))
       (bindO (F87 K (er23 x, 0, 500)) fun v1 =>
       some (er23 x, !v1, 0, 0, 0, 0, 0, 0, 0, 0, 0, 0, false, false, [], 0, 0, [], 0, false, 0, [], [], [], 0, x.1, x.2.1, x.2.2.1, x.2.2.2.1, pr4 x, pr5 x, pr6 x, pr7 x, pr8 x, pr9 x, pr10 x, pr11 x, pr12 x, pr13 x, pr14 x, pr15 x, pr16 x, pr17 x, pr18 x, pr19 x, pr20 x, pr21 x, pr22 x))) fun v2 =>
    branch v2.2.1
     (some (.inl (0, 0, 0, 0, 0, 0, 0, 0, 0, 0, false, false, [], 0, 0, [], 0, false, 0, [], [], [], 0, 3, 0)))
     (some (.inr (v2.1, v2.2.2)))) fun v3 =>
  csO v3
   (fun v4 => some v4)
   (fun v5 => bindO (F89 K (er24 v5)) fun v6 =>
   bindO (iter K (F35_b0 K) (v5.1, 0, v6.1, v6.2.1, v6.2.2.1, v6.2.2.2.1, pr4 v6, pr5 v6, pr6 v6, pr7 v6, pr8 v6, pr9 v6, pr10 v6, pr11 v6, pr12 v6, pr13 v6, pr14 v6, pr15 v6, pr16 v6, pr17 v6, pr18 v6, pr19 v6, pr20 v6, pr21 v6, er22 v6, v5.2.1, v5.2.2.1, v5.2.2.2.1, pr4 v5, pr5 v5, pr6 v5, pr7 v5, pr8 v5, pr9 v5, pr10 v5, pr11 v5, pr12 v5, pr13 v5, pr14 v5, pr15 v5, pr16 v5, pr17 v5, pr18 v5, pr19 v5, pr20 v5, pr21 v5, pr22 v5, pr23 v5)) fun v7 =>
   csO v7
    (fun v8 => some v8)
    (fun v9 => some (v9.2.1, v9.2.2.1, v9.2.2.2.1, pr4 v9, pr5 v9, pr6 v9, pr7 v9, pr8 v9, pr9 v9, pr10 v9, pr11 v9, pr12 v9, pr13 v9, pr14 v9, pr15 v9, pr16 v9, pr17 v9, pr18 v9, pr19 v9, pr20 v9, pr21 v9, pr22 v9, pr23 v9, 0, v9.1)))
def ct35 (K : Nat) : Ct := ⟨[.agg mL, .l i6], [], [.agg mL, .l i6, .l i6], [], [], F35 K⟩
theorem c35 (K : Nat) : CtOk prog 35 (ct35 K) :=
  cmk (K := K) (an := (sN (.seqJ [(1000000, ⟨(ru 1 (.l i6 :: .l (.ptr 3000 0 0) :: ru 1 (.l (.ptr 5000 0 0) :: ru 35 []))), [(5000, ⟨23, false, .mix (some 30) [mN]⟩), (3000, ⟨23, false, .mix (some 30) [mN]⟩)]⟩)] true (.seqJ [(1000000, ⟨(ru 1 (.l i6 :: .l (.ptr 3000 0 0) :: ru 1 (.l (.ptr 5000 0 0) :: ru 13 (.l (.v .b) :: ru 21 [])))), [(5000, ⟨23, false, .mix (some 30) [mN]⟩), (3000, ⟨23, false, .mix (some 30) [mN]⟩)]⟩)] false .no (.cond .no .no)) (sN (.seq (sN (.blk (.loop [] ⟨(ru 1 (.l i6 :: ru 2 (.l (.ptr 5000 0 0) :: ru 2 (.l (.ptr 8000 0 0) :: .l i6 :: ru 31 [])))), [(8000, ⟨23, false, .mix (some 30) [mN]⟩), (5000, ⟨23, false, .mix (some 30) [mN]⟩)]⟩ [(0, ⟨(ru 1 (.l i6 :: ru 2 (.l (.ptr 5000 0 0) :: ru 2 (.l (.ptr 8000 0 0) :: ru 32 [])))), [(8000, ⟨23, false, .mix (some 30) [mN]⟩), (5000, ⟨23, false, .mix (some 30) [mN]⟩)]⟩)] true (.seq (sN .no) (.seq (.blk (sN (.seq (sN (.cond .no .no)) .no))) .no))))) .no))))) func35 (kX (c87 K) (kX (c33 K) (kX (c89 K) (kX (c62 K) kN))))
def F131 (K : Nat) (x : (List UInt8) × Int × Int × (List UInt8) × Int × Bool × Int) : Option (Int) :=
  bindO (F86 K x) fun v0 =>
  branch (!v0)
   (some (-1))
   (bindO (F127 K x.1) fun v1 =>
   guard (!(decide (v1 = 0))) <|
   some (Int.tmod x.2.2.1 v1))
def ct131 (K : Nat) : Ct := ⟨[.agg [(.v .s), i6, i6, (.v .s), i6, (.v .b), i6]], [], [.l i6], [], [], F131 K⟩
theorem c131 (K : Nat) : CtOk prog 131 (ct131 K) :=
  cmk (K := K) (an := (sN (.seq (sN (.cond .no .no)) .no))) func131 (kX (c127 K) (kX (c86 K) kN))
def F94 (K : Nat) (x : MM) : Option (Int × Int) :=
  branch (decide (x.2.2.2.2.2.2.2.2.2.1 < 256))
   (some (0, x.2.2.2.2.2.2.2.2.2.1))
   (branch (decide (x.2.2.2.2.2.2.2.2.2.1 < 512))
    (bindO (F131 K (x.2.2.2.2.2.2.2.2.2.2.2.2.1, x.2.2.2.2.2.2.2.2.2.2.2.2.2.1, x.2.2.2.2.2.2.2.2.2.2.2.2.2.2.1, x.2.2.2.2.2.2.2.2.2.2.2.2.2.2.2.1, x.2.2.2.2.2.2.2.2.2.2.2.2.2.2.2.2.1, x.2.2.2.2.2.2.2.2.2.2.2.2.2.2.2.2.2.1, x.2.2.2.2.2.2.2.2.2.2.2.2.2.2.2.2.2.2.1)) fun v0 =>
    some (v0, x.2.2.2.2.2.2.2.2.2.1))
    (some ((-1), x.2.2.2.2.2.2.2.2.2.1)))
def ct94 (K : Nat) : Ct := ⟨[.agg mL], [], [.agg [i6, i6]], [], [], F94 K⟩
theorem c94 (K : Nat) : CtOk prog 94 (ct94 K) :=
  cmk (K := K) (an := (sN (sN (.seq (.blk (sN (.cond .no (sN (.cond .no .no))))) .no)))) func94 (kX (c131 K) kN)
def F38_b1 (K : Nat) (x : (List (Int × Int)) × Int × Int × Int × MC MM) : Option (((List (Int × Int)) × Int × Int × Int × MC MM) ⊕ ((MC (Int × Int)) ⊕ ((List (Int × Int)) × Int × Int × MC MM))) :=
  branch (decide (x.2.2.2.1 < (x.1.length : Int)))
   (nth x.1 x.2.2.2.1 fun v0 =>
   bindO (F94 K (pr4 x, pr5 x, pr6 x, pr7 x, pr8 x, pr9 x, pr10 x, pr11 x, pr12 x, pr13 x, pr14 x, pr15 x, pr16 x, pr17 x, pr18 x, pr19 x, pr20 x, pr21 x, pr22 x, pr23 x, pr24 x, (q24 x).2.1, (q24 x).2.2.1)) fun v1 =>
   branch ((decide (v0.1 = v1.1)) && (decide (v0.2 = v1.2)))
    (some (.inr (.inl (pr4 x, pr5 x, pr6 x, pr7 x, pr8 x, pr9 x, pr10 x, pr11 x, pr12 x, pr13 x, pr14 x, pr15 x, pr16 x, pr17 x, pr18 x, pr19 x, pr20 x, pr21 x, pr22 x, pr23 x, pr24 x, (q24 x).2.1, (q24 x).2.2.1, 0, w64 (x.2.2.1 + 1)))))
    (some (.inl (x.1, x.2.1, x.2.2.1, w64 (x.2.2.2.1 + 1), er4 x))))
   (some (.inr (.inr (x.1, x.2.1, x.2.2.1, er4 x))))
def F38_b0 (K : Nat) (x : (List (Int × Int)) × Int × Int × MC MM) : Option (((List (Int × Int)) × Int × Int × MC MM) ⊕ ((MC (Int × Int)) ⊕ (Int × MC MM))) :=
  branch (decide (x.2.2.1 < x.2.1))
   (bindO (F62 K (x.2.2.2.1, pr4 x, pr5 x, pr6 x, pr7 x, pr8 x, pr9 x, pr10 x, pr11 x, pr12 x, pr13 x, pr14 x, pr15 x, pr16 x, pr17 x, pr18 x, pr19 x, pr20 x, pr21 x, pr22 x, pr23 x, pr24 x, (q24 x).2.1)) fun v0 =>
   branch (!(decide ((er23 v0) = 0)))
    (some (.inr (.inl (x.2.2.2.1, pr4 x, pr5 x, pr6 x, pr7 x, pr8 x, pr9 x, pr10 x, pr11 x, pr12 x, pr13 x, pr14 x, pr15 x, pr16 x, pr17 x, pr18 x, pr19 x, pr20 x, pr21 x, pr22 x, pr23 x, pr24 x, (q24 x).2.1, er23 v0, x.2.2.1))))
    (bindO (iter K (F38_b1 K) (x.1, x.2.1, x.2.2.1, 0, v0.1, v0.2.1, v0.2.2.1, v0.2.2.2.1, pr4 v0, pr5 v0, pr6 v0, pr7 v0, pr8 v0, pr9 v0, pr10 v0, pr11 v0, pr12 v0, pr13 v0, pr14 v0, pr15 v0, pr16 v0, pr17 v0, pr18 v0, pr19 v0, pr20 v0, pr21 v0, pr22 v0, (q24 x).2.2)) fun v1 =>
    csO v1
     (fun v2 => some (.inr (.inl v2)))
     (fun v3 => some (.inl (v3.1, v3.2.1, w64 (v3.2.2.1 + 1), v3.2.2.2)))))
   (some (.inr (.inr (x.2.1, x.2.2.2))))
def F38 (K : Nat) (x : Int × Int × Int × Int × Int × Int × Int × Int × Int × Int × Bool × Bool × (List UInt8) × Int × Int × (List UInt8) × Int × Bool × Int × (List UInt8) × (List UInt8) × (List Int) × Int × (List (Int × Int)) × Int) : Option (MC (Int × Int)) :=
  bindO (α := (MC (Int × Int)) ⊕ ((List (Int × Int)) × Int × MC MM)) (bindO (α := (List (Int × Int)) × Int × Bool × MC MM) (bindO (F33 K (x.1, x.2.1, x.2.2.1, x.2.2.2.1, pr4 x, pr5 x, pr6 x, pr7 x, pr8 x, pr9 x, pr10 x, pr11 x, pr12 x, pr13 x, pr14 x, pr15 x, pr16 x, pr17 x, pr18 x, pr19 x, pr20 x, pr21 x, pr22 x)) fun v0 =>
      branch (!v0)
       (some (pr23 x, er24 x, true, 0, 0, 0, 0, 0, 0, 0, 0, 0, 0, false, false, [], 0, 0, [], 0, false, 0, [], [], [], 0, x.1, x.2.1, x.2.2.1, x.2.2.2.1, pr4 x, pr5 x, pr6 x, pr7 x, pr8 x, pr9 x, pr10 x, pr11 x, pr12 x, pr13 x, pr14 x, pr15 x, pr16 x, pr17 x, pr18 x, pr19 x, pr20 x, pr21 x, pr22 x))
       (branch (decide (20 < ((pr23 x).length : Int)))
        (some (pr23 x, er24 x, true, 0, 0, 0, 0, 0, 0, 0, 0, 0, 0, false, false, [], 0, 0, [], 0, false, 0, [], [], [], 0, x.1, x.2.1, x.2.2.1, x.2.2.2.1, pr4 x, pr5 x, pr6 x, pr7 x, pr8 x, pr9 x, pr10 x, pr11 x, pr12 x, pr13 x, pr14 x, pr15 x, pr16 x, pr17 x, pr18 x, pr19 x, pr20 x, pr21 x, pr22 x))
        (bindO (F87 K (er24 x, 0, 500)) fun v1 =>
        some (pr23 x, er24 x, !v1, 0, 0, 0, 0, 0, 0, 0, 0, 0, 0, false, false, [], 0, 0, [], 0, false, 0, [], [], [], 0, x.1, x.2.1, x.2.2.1, x.2.2.2.1, pr4 x, pr5 x, pr6 x, pr7 x, pr8 x, pr9 x, pr10 x, pr11 x, pr12 x, pr13 x, pr14 x, pr15 x, pr16 x, pr17 x, pr18 x, pr19 x, pr20 x, pr21 x, pr22 x)))) fun v2 =>
    branch v2.2.2.1
     (some (.inl (0, 0, 0, 0, 0, 0, 0, 0, 0, 0, false, false, [], 0, 0, [], 0, false, 0, [], [], [], 0, 3, 0)))
     (some (.inr (v2.1, v2.2.1, v2.2.2.2)))) fun v3 =>
  csO v3
   (fun v4 => some v4)
   (fun v5 => bindO (F89 K (q24 v5).2) fun v6 =>
   bindO (iter K (F38_b0 K) (v5.1, v5.2.1, 0, v6.1, v6.2.1, v6.2.2.1, v6.2.2.2.1, pr4 v6, pr5 v6, pr6 v6, pr7 v6, pr8 v6, pr9 v6, pr10 v6, pr11 v6, pr12 v6, pr13 v6, pr14 v6, pr15 v6, pr16 v6, pr17 v6, pr18 v6, pr19 v6, pr20 v6, pr21 v6, er22 v6, v5.2.2.1, v5.2.2.2.1, pr4 v5, pr5 v5, pr6 v5, pr7 v5, pr8 v5, pr9 v5, pr10 v5, pr11 v5, pr12 v5, pr13 v5, pr14 v5, pr15 v5, pr16 v5, pr17 v5, pr18 v5, pr19 v5, pr20 v5, pr21 v5, pr22 v5, pr23 v5, pr24 v5)) fun v7 =>
   csO v7
    (fun v8 => some v8)
    (fun v9 => some (v9.2.1, v9.2.2.1, v9.2.2.2.1, pr4 v9, pr5 v9, pr6 v9, pr7 v9, pr8 v9, pr9 v9, pr10 v9, pr11 v9, pr12 v9, pr13 v9, pr14 v9, pr15 v9, pr16 v9, pr17 v9, pr18 v9, pr19 v9, pr20 v9, pr21 v9, pr22 v9, pr23 v9, 0, v9.1)))
def ct38 (K : Nat) : Ct := ⟨[.agg mL, .l (.v (.l (.c (.i .i64) (.i .i64)))), .l i6], [], [.agg mL, .l i6, .l i6], [], [], F38 K⟩
theorem c38 (K : Nat) : CtOk prog 38 (ct38 K) :=
  cmk (K := K) (an := (sN (.seqJ [(1000000, ⟨(ru 1 (.l (.v (.l (.c (.i .i64) (.i .i64)))) :: .l i6 :: .l (.ptr 4000 0 0) :: ru 2 (.l (.ptr 7000 0 0) :: ru 57 []))), [(7000, ⟨23, false, .mix (some 30) [mN]⟩), (4000, ⟨23, false, .mix (some 30) [mN]⟩)]⟩)] true (.seqJ [(1000000, ⟨(ru 1 (.l (.v (.l (.c (.i .i64) (.i .i64)))) :: .l i6 :: .l (.ptr 4000 0 0) :: ru 2 (.l (.ptr 7000 0 0) :: ru 19 (.l (.v .b) :: ru 37 [])))), [(7000, ⟨23, false, .mix (some 30) [mN]⟩), (4000, ⟨23, false, .mix (some 30) [mN]⟩)]⟩)] false .no (.cond .no .no)) (sN (.seq (sN (.blk (.loop [] ⟨(ru 1 (.l (.v (.l (.c (.i .i64) (.i .i64)))) :: .l i6 :: ru 3 (.l (.ptr 7000 0 0) :: ru 2 (.l (.ptr 10000 0 0) :: .l i6 :: ru 53 [])))), [(10000, ⟨23, false, .mix (some 30) [mN]⟩), (7000, ⟨23, false, .mix (some 30) [mN]⟩)]⟩ [(0, ⟨(ru 2 (.l i6 :: ru 3 (.l (.ptr 7000 0 0) :: ru 2 (.l (.ptr 10000 0 0) :: ru 54 [])))), [(10000, ⟨23, false, .mix (some 30) [mN]⟩), (7000, ⟨23, false, .mix (some 30) [mN]⟩)]⟩)] true (.seq (sN .no) (.seq (.blk (sN (.seq (sN (.cond .no .no)) (sN (sN (.blk (.loop [] ⟨(ru 1 (.l (.v (.l (.c (.i .i64) (.i .i64)))) :: .l i6 :: ru 3 (.l (.ptr 7000 0 0) :: ru 2 (.l (.ptr 10000 0 0) :: .l i6 :: ru 2 (.l i6 :: ru 50 []))))), [(10000, ⟨23, false, .mix (some 30) [mN]⟩), (7000, ⟨23, false, .mix (some 30) [mN]⟩)]⟩ [(2, ⟨(ru 1 (.l (.v (.l (.c (.i .i64) (.i .i64)))) :: .l i6 :: ru 3 (.l (.ptr 7000 0 0) :: ru 2 (.l (.ptr 10000 0 0) :: .l i6 :: ru 53 [])))), [(10000, ⟨23, false, .mix (some 30) [mN]⟩), (7000, ⟨23, false, .mix (some 30) [mN]⟩)]⟩)] true (.seq (sN .no) (.seq (.blk (sN (.cond .no .no))) .no))))))))) .no))))) .no))))) func38 (kX (c87 K) (kX (c33 K) (kX (c89 K) (kX (c62 K) (kX (c94 K) kN)))))
end Go.U.Tryz
