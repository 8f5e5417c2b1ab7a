/- A part of the proof. No condition. -/
import Derived.Test.YtncclmpabjglmaaGreatDoorVMa
set_option linter.unusedVariables false
set_option linter.unusedSimpArgs false
set_option linter.unusedSectionVars false
namespace Go.U.Tryz
open Go Go.U Go.Proofs Go.Proofs.Tryz
set_option maxRecDepth 100000
def F15 (K : Nat) (x : List Int) : Option (Bool) :=
  some (decide (1048576 < (x.length : Int)))
def ct15 (K : Nat) : Ct := ⟨[.l (.v (.l (.i .u8)))], [], [.l (.v .b)], [], [], F15 K⟩
theorem c15 (K : Nat) : CtOk prog 15 (ct15 K) :=
  cmk (K := K) (an := (sN .no)) func15 kN
def F83 (K : Nat) (x : (List UInt8) × Int × Int × (List UInt8) × Int × Bool × Int) : Option (Bool) :=
  bindO (α := Bool ⊕ ((List UInt8) × Int × Int × (List UInt8) × Int × Bool × Int)) (bindO (α := Bool × (List UInt8) × Int × Int × (List UInt8) × Int × Bool × Int) (branch (!(decide ((Int.tmod (x.1.length : Int) 256) = 0)))
       (some (true, x))
       (bindO (F54 K (w64 (Int.tdiv (x.1.length : Int) 256), 2, 16)) fun v0 =>
       branch (!v0)
        (some (true, x))
        (some (!(decide ((x.2.2.2.1.length : Int) = 256)), x)))) fun v1 =>
    branch v1.1
     (some (.inl false))
     (some (.inr v1.2))) fun v2 =>
  csO v2
   (fun v3 => some v3)
   (fun v4 => branch (decide (v4.2.1 = 0))
    (branch (decide (v4.2.2.1 = 1))
     (branch (decide (v4.2.2.2.2.1 = 0))
      (branch (decide (v4.2.2.2.2.2.2 = 0))
       (some (!v4.2.2.2.2.2.1))
       (some false))
      (some false))
     (some false))
    (branch (decide (v4.2.1 = 1))
     (bindO (F54 K (v4.2.2.1, 1, 31)) fun v5 =>
     branch v5
      (bindO (F54 K (v4.2.2.2.2.1, 0, 3)) fun v6 =>
      branch v6
       (bindO (F54 K (v4.2.2.2.2.2.2, 0, 1)) fun v7 =>
       some v7)
       (some false))
      (some false))
     (branch (decide (v4.2.1 = 2))
      (bindO (F80 K v4.2.2.1) fun v8 =>
      branch v8
       (bindO (F54 K (v4.2.2.2.2.1, 0, 3)) fun v9 =>
       branch v9
        (some (decide (v4.2.2.2.2.2.2 = 0)))
        (some false))
       (some false))
      (some false))))
def ct83 (K : Nat) : Ct := ⟨[.agg [(.v .s), i6, i6, (.v .s), i6, (.v .b), i6]], [], [.l (.v .b)], [], [], F83 K⟩
theorem c83 (K : Nat) : CtOk prog 83 (ct83 K) :=
  cmk (K := K) (an := (sN (.seqJ [(1000000, ⟨(ru 1 (.l (.ptr 2000 0 0) :: ru 72 [])), [(2000, ⟨7, false, .mix (some 27) [[.l (.v .s), .l i6, .l i6, .l (.v .s), .l i6, .l (.v .b), .l i6]]⟩)]⟩)] true (.seqJ [(1000000, ⟨(ru 1 (.l (.ptr 2000 0 0) :: ru 19 (.l (.v .b) :: ru 52 []))), [(2000, ⟨7, false, .mix (some 27) [[.l (.v .s), .l i6, .l i6, .l (.v .s), .l i6, .l (.v .b), .l i6]]⟩)]⟩)] false .no (.cond .no .no)) (.seq (sN (.blk (sN (.cond .no (sN (.cond .no (sN (.cond .no .no)))))))) .no)))) func83 (kX (c54 K) (kX (c80 K) kN))
def F82 (K : Nat) (x : Int) : Option (Bool) :=
  bindO (F80 K x) fun v0 =>
  some (!v0)
def ct82 (K : Nat) : Ct := ⟨[.l i6], [], [.l (.v .b)], [], [], F82 K⟩
theorem c82 (K : Nat) : CtOk prog 82 (ct82 K) :=
  cmk (K := K) (an := (sN .no)) func82 (kX (c80 K) kN)
def F126_b0 (K : Nat) (x : (List Int) × Int × Int) : Option (((List Int) × Int × Int) ⊕ (Int ⊕ Unit)) :=
  branch (decide (x.2.2 < x.2.1))
   (nth x.1 x.2.2 fun v0 =>
   bindO (F82 K v0) fun v1 =>
   branch v1
    (some (.inr (.inl x.2.2)))
    (some (.inl (x.1, x.2.1, w64 (x.2.2 + 1)))))
   (some (.inr (.inr ())))
def F126 (K : Nat) (x : List Int) : Option (Int) :=
  bindO (iter K (F126_b0 K) (x, (x.length : Int), 0)) fun v0 =>
  csO v0
   (fun v1 => some v1)
   (fun v2 => some (-1))
def ct126 (K : Nat) : Ct := ⟨[.l (.v (.l (.i .i64))), .clo 82 []], [], [.l i6], [], [], F126 K⟩
theorem c126 (K : Nat) : CtOk prog 126 (ct126 K) :=
  cmk (K := K) (an := (sN (.seq (sN (.blk (.loop [] ⟨(.l (.v (.l (.i .i64))) :: .clo 82 [] :: ru 5 (.l i6 :: .l i6 :: ru 10 [])), []⟩ [(0, ⟨(ru 19 []), []⟩)] true (sN (sN (.seq (.blk (sN (sN (.cond .no .no)))) .no)))))) .no))) func126 (kX (c82 K) kN)
def F81 (K : Nat) (x : List Int) : Option (Bool) :=
  bindO (F126 K x) fun v0 =>
  some (decide (0 ≤ v0))
def ct81 (K : Nat) : Ct := ⟨[.l (.v (.l (.i .i64))), .clo 82 []], [], [.l (.v .b)], [], [], F81 K⟩
theorem c81 (K : Nat) : CtOk prog 81 (ct81 K) :=
  cmk (K := K) (an := (sN .no)) func81 (kX (c82 K) (kX (c126 K) kN))
def F32_b0 (K : Nat) (x : Int × Int × (List Int) × Int × Int × Int × Int × Int × Int × Int × Int × Int × Int × Bool × Bool × MM) : Option ((Int × Int × (List Int) × Int × Int × Int × Int × Int × Int × Int × Int × Int × Int × Bool × Bool × MM) ⊕ (Bool ⊕ (Int × Int × Int × Int × Int × Int × Int × Int × Int × Int × Bool × Bool × MM))) :=
  branch (decide (x.2.1 < x.1))
   (guard (decide (0 ≤ x.2.1 ∧ x.2.1 < (x.2.2.1.length : Int))) <|
   nthN x.2.2.1 x.2.1.toNat fun v0 =>
   bindO (F80 K v0) fun v1 =>
   branch (!v1)
    (some (.inr (.inl false)))
    (some (.inl (x.1, w64 (x.2.1 + 1), x.2.2))))
   (some (.inr (.inr x.2.2.2)))
def F32 (K : Nat) (x : MM) : Option (Bool) :=
  bindO (iter K (F32_b0 K) (([x.1, x.2.1, x.2.2.1, x.2.2.2.1, x.2.2.2.2.1, x.2.2.2.2.2.1, x.2.2.2.2.2.2.1, x.2.2.2.2.2.2.2.1].length : Int), 0, [x.1, x.2.1, x.2.2.1, x.2.2.2.1, x.2.2.2.2.1, x.2.2.2.2.2.1, x.2.2.2.2.2.2.1, x.2.2.2.2.2.2.2.1], x.1, x.2.1, x.2.2.1, x.2.2.2.1, x.2.2.2.2.1, x.2.2.2.2.2.1, x.2.2.2.2.2.2.1, x.2.2.2.2.2.2.2.1, x.2.2.2.2.2.2.2.2.1, x.2.2.2.2.2.2.2.2.2.1, x.2.2.2.2.2.2.2.2.2.2.1, x.2.2.2.2.2.2.2.2.2.2.2.1, x)) fun v0 =>
  csO v0
   (fun v1 => some v1)
   (fun v2 => bindO (F81 K v2.2.2.2.2.2.2.2.2.2.2.2.2.2.2.2.2.2.2.2.2.2.2.2.2.2.2.2.2.2.2.2.2.2.1) fun v3 =>
   branch v3
    (some false)
    (branch (decide ((Int.tmod v2.2.1 16) = 0))
     (bindO (F63 K v2.2.2.2.2.2.2.2.2.1) fun v4 =>
     branch v4
      (bindO (F63 K v2.2.2.2.2.2.2.2.2.2.1) fun v5 =>
      branch v5
       (bindO (F83 K (v2.2.2.2.2.2.2.2.2.2.2.2.2.2.2.2.2.2.2.2.2.2.2.2.2.1, v2.2.2.2.2.2.2.2.2.2.2.2.2.2.2.2.2.2.2.2.2.2.2.2.2.2.1, v2.2.2.2.2.2.2.2.2.2.2.2.2.2.2.2.2.2.2.2.2.2.2.2.2.2.2.1, v2.2.2.2.2.2.2.2.2.2.2.2.2.2.2.2.2.2.2.2.2.2.2.2.2.2.2.2.1, v2.2.2.2.2.2.2.2.2.2.2.2.2.2.2.2.2.2.2.2.2.2.2.2.2.2.2.2.2.1, v2.2.2.2.2.2.2.2.2.2.2.2.2.2.2.2.2.2.2.2.2.2.2.2.2.2.2.2.2.2.1, v2.2.2.2.2.2.2.2.2.2.2.2.2.2.2.2.2.2.2.2.2.2.2.2.2.2.2.2.2.2.2.1)) fun v6 =>
       branch v6
        (branch (decide ((v2.2.2.2.2.2.2.2.2.2.2.2.2.2.2.2.2.2.2.2.2.2.2.2.2.2.2.2.2.2.2.2.1.length : Int) = 256))
         (branch (decide ((v2.2.2.2.2.2.2.2.2.2.2.2.2.2.2.2.2.2.2.2.2.2.2.2.2.2.2.2.2.2.2.2.2.1.length : Int) = 127))
          (branch (decide ((v2.2.2.2.2.2.2.2.2.2.2.2.2.2.2.2.2.2.2.2.2.2.2.2.2.2.2.2.2.2.2.2.2.2.1.length : Int) ≤ 100))
           (bindO (F54 K (v2.2.2.2.2.2.2.2.2.2.2.2.2.2.2.2.2.2.2.2.2.2.2.2.2.2.2.2.2.2.2.2.2.2.2, 0, 1000000000)) fun v7 =>
           some v7)
           (some false))
          (some false))
         (some false))
        (some false))
       (some false))
      (some false))
     (some false)))
def ct32 (K : Nat) : Ct := ⟨[.agg mL], [], [.l (.v .b)], [], [], F32 K⟩
theorem c32 (K : Nat) : CtOk prog 32 (ct32 K) :=
  cmk (K := K) (an := (sN (sN (.seq (sN (.blk (.loop [] ⟨(ru 1 (.l (.ptr 2000 0 0) :: ru 1 (.l (.ptr 4000 0 0) :: ru 20 (.l (.all 25000) :: .l i6 :: .l i6 :: ru 52 [])))), [(25000, ⟨1, true, .row (.i .i64)⟩), (4000, ⟨12, false, .mix (some 25) [[.l i6, .l i6, .l i6, .l i6, .l i6, .l i6, .l i6, .l i6, .l i6, .l i6, .l (.v .b), .l (.v .b)]]⟩), (2000, ⟨23, false, .mix (some 30) [mN]⟩)]⟩ [(0, ⟨(ru 1 (.l (.ptr 2000 0 0) :: ru 1 (.l (.ptr 4000 0 0) :: ru 75 []))), [(4000, ⟨12, false, .mix (some 25) [[.l i6, .l i6, .l i6, .l i6, .l i6, .l i6, .l i6, .l i6, .l i6, .l i6, .l (.v .b), .l (.v .b)]]⟩), (2000, ⟨23, false, .mix (some 30) [mN]⟩)]⟩)] true (sN (sN (.seq (.blk (sN (sN (.cond .no .no)))) .no)))))) (.seq (sN (.cond .no .no)) .no))))) func32 (kX (c54 K) (kX (c80 K) (kX (c63 K) (kX (c83 K) (kX (c82 K) (kX (c81 K) kN))))))
def F178 (K : Nat) (x : (List UInt8) × Int × Int × (List UInt8) × Int × Bool × Int × Int) : Option (Int) :=
  bindO (α := Int ⊕ (Int × (List UInt8) × Int × Int × (List UInt8) × Int × Bool × Int)) (bindO (α := Int × Bool × (List UInt8) × Int × Int × (List UInt8) × Int × Bool × Int) (branch (!x.2.2.2.2.2.1)
       (some (x.2.2.2.2.2.2.2, true, x.1, x.2.1, x.2.2.1, x.2.2.2.1, x.2.2.2.2.1, x.2.2.2.2.2.1, x.2.2.2.2.2.2.1))
       (bindO (F54 K (x.2.2.2.2.2.2.2, 40960, 41023)) fun v0 =>
       some (x.2.2.2.2.2.2.2, !v0, x.1, x.2.1, x.2.2.1, x.2.2.2.1, x.2.2.2.2.1, x.2.2.2.2.2.1, x.2.2.2.2.2.2.1))) fun v1 =>
    branch v1.2.1
     (some (.inl (-1)))
     (some (.inr (v1.1, v1.2.2)))) fun v2 =>
  csO v2
   (fun v3 => some v3)
   (fun v4 => bindO (α := Int × Int) (bindO (α := Int × Int × Bool) (branch (decide (v4.2.2.1 = 1))
        (some (v4.1, v4.2.2.2.2.2.1, decide (v4.2.2.2.2.2.2.2 = 0)))
        (some (v4.1, v4.2.2.2.2.2.1, false))) fun v5 =>
     branch v5.2.2
      (some (v5.1, 0))
      (some (v5.1, v5.2.1))) fun v6 =>
   some (w64 ((w64 ((w64 (v6.2 * 64)) + v6.1)) - 40960)))
def ct178 (K : Nat) : Ct := ⟨[.agg [(.v .s), i6, i6, (.v .s), i6, (.v .b), i6], .l i6], [], [.l i6], [], [], F178 K⟩
theorem c178 (K : Nat) : CtOk prog 178 (ct178 K) :=
  cmk (K := K) (an := (sN (.seqJ [(1000000, ⟨(ru 1 (.l i6 :: .l (.ptr 3000 0 0) :: ru 26 [])), [(3000, ⟨7, false, .mix (some 27) [[.l (.v .s), .l i6, .l i6, .l (.v .s), .l i6, .l (.v .b), .l i6]]⟩)]⟩)] true (.seqJ [(1000000, ⟨(ru 1 (.l i6 :: .l (.ptr 3000 0 0) :: ru 10 (.l (.v .b) :: ru 15 []))), [(3000, ⟨7, false, .mix (some 27) [[.l (.v .s), .l i6, .l i6, .l (.v .s), .l i6, .l (.v .b), .l i6]]⟩)]⟩)] false .no (.cond .no .no)) (sN (.seqJ [(1000000, ⟨(ru 1 (.l i6 :: ru 3 (.l i6 :: ru 23 []))), []⟩)] false (.seqJ [(1000000, ⟨(ru 1 (.l i6 :: ru 3 (.l i6 :: ru 17 (.l (.v .b) :: ru 5 [])))), []⟩)] false .no .no) .no))))) func178 (kX (c54 K) kN)
def F130 (K : Nat) (x : (List UInt8) × Int × Int × (List UInt8) × Int × Bool × Int) : Option (Int) :=
  guard (!(decide ((w64 (Int.tdiv (x.1.length : Int) 256)) = 0))) <|
  some (Int.tmod x.2.2.1 (w64 (Int.tdiv (x.1.length : Int) 256)))
def ct130 (K : Nat) : Ct := ⟨[.agg [(.v .s), i6, i6, (.v .s), i6, (.v .b), i6]], [], [.l i6], [], [], F130 K⟩
theorem c130 (K : Nat) : CtOk prog 130 (ct130 K) :=
  cmk (K := K) (an := (sN .no)) func130 kN
def F119 (K : Nat) (x : (List UInt8) × Int × Int × (List UInt8) × Int × Bool × Int × Int) : Option (Int) :=
  bindO (F178 K x) fun v0 =>
  branch (decide (x.2.2.2.2.2.2.2 < 256))
   (nth x.1 x.2.2.2.2.2.2.2 fun v1 =>
   some (w64 (v1.toNat : Int)))
   (branch (decide (x.2.2.2.2.2.2.2 < 512))
    (bindO (F130 K (x.1, x.2.1, x.2.2.1, x.2.2.2.1, x.2.2.2.2.1, x.2.2.2.2.2.1, x.2.2.2.2.2.2.1)) fun v2 =>
    nth x.1 (w64 ((w64 ((w64 (v2 * 256)) + x.2.2.2.2.2.2.2)) - 256)) fun v3 =>
    some (w64 (v3.toNat : Int)))
    (branch (decide (0 ≤ v0))
     (nth x.2.2.2.1 v0 fun v4 =>
     some (w64 (v4.toNat : Int)))
     (some 255)))
def ct119 (K : Nat) : Ct := ⟨[.agg [(.v .s), i6, i6, (.v .s), i6, (.v .b), i6], .l i6], [], [.l i6], [], [], F119 K⟩
theorem c119 (K : Nat) : CtOk prog 119 (ct119 K) :=
  cmk (K := K) (an := (sN (.seq (sN (.blk (sN (.cond .no (sN (.cond .no (sN (.cond .no .no)))))))) .no))) func119 (kX (c178 K) (kX (c130 K) kN))
def F64 (K : Nat) (x : Int × MM) : Option (Int × MM) :=
  bindO (F54 K (Go.bits Go.BinOp.and Go.IntKind.i64 x.1 65535, 49152, 49407)) fun v0 =>
  branch v0
   (nth x.2.2.2.2.2.2.2.2.2.2.2.2.2.2.2.2.2.2.2.2.1 (w64 ((Go.bits Go.BinOp.and Go.IntKind.i64 x.1 65535) - 49152)) fun v1 =>
   some (w64 (v1.toNat : Int), x.2))
   (bindO (F54 K (Go.bits Go.BinOp.and Go.IntKind.i64 x.1 65535, 65408, 65534)) fun v2 =>
   branch v2
    (nth x.2.2.2.2.2.2.2.2.2.2.2.2.2.2.2.2.2.2.2.2.2.1 (w64 ((Go.bits Go.BinOp.and Go.IntKind.i64 x.1 65535) - 65408)) fun v3 =>
    some (w64 (v3.toNat : Int), x.2))
    (bindO (F119 K (x.2.2.2.2.2.2.2.2.2.2.2.2.2.1, x.2.2.2.2.2.2.2.2.2.2.2.2.2.2.1, x.2.2.2.2.2.2.2.2.2.2.2.2.2.2.2.1, x.2.2.2.2.2.2.2.2.2.2.2.2.2.2.2.2.1, x.2.2.2.2.2.2.2.2.2.2.2.2.2.2.2.2.2.1, x.2.2.2.2.2.2.2.2.2.2.2.2.2.2.2.2.2.2.1, x.2.2.2.2.2.2.2.2.2.2.2.2.2.2.2.2.2.2.2.1, Go.bits Go.BinOp.and Go.IntKind.i64 x.1 65535)) fun v4 =>
    some (v4, x.2)))
def ct64 (K : Nat) : Ct := ⟨[.l (.ptr 0 0 0), .l i6], [⟨23, false, .mix (some 30) [mN]⟩], [.l i6], [⟨23, false, .mix (some 30) [mN]⟩], [], F64 K⟩
theorem c64 (K : Nat) : CtOk prog 64 (ct64 K) :=
  cmk (K := K) (an := (sN (sN (.seq (.blk (sN (.cond .no (sN (.cond .no .no))))) .no)))) func64 (kX (c54 K) (kX (c119 K) kN))
def ct64k (K : Nat) : Ct := ⟨[.l (.ptr 0 0 0), .l i6], [⟨23, false, .mix (some 30) [mN]⟩], [.l i6], [⟨23, false, .mix (some 30) [mN]⟩], keepRefs, F64 K⟩
theorem keep64 (K : Nat) (x : Int × MM) (y : Int × MM) (h : F64 K x = some y) : y.2 = x.2 := by
  unfold F64 at h
  obtain ⟨_, hb, h⟩ := bindO_some h
  rcases branch_some h with ⟨_, h⟩ | ⟨_, h⟩
  ·
    obtain ⟨_, _, _, h⟩ := nth_some h
    cases h; rfl
  ·
    obtain ⟨_, hb, h⟩ := bindO_some h
    rcases branch_some h with ⟨_, h⟩ | ⟨_, h⟩
    ·
      obtain ⟨_, _, _, h⟩ := nth_some h
      cases h; rfl
    ·
      obtain ⟨_, hb, h⟩ := bindO_some h
      cases h; rfl
theorem c64k (K : Nat) : CtKeep prog 64 (ct64k K) := ct_keep3 (Eq.mpr (by kernel_rfl : CtOk prog 64 (ct64k K) = CtOk prog 64 (ct64 K)) (c64 K)) (by kernel_rfl) (Eq.mpr (by kernel_rfl : KeepsF [.l (.ptr 0 0 0), .l i6] [⟨23, false, .mix (some 30) [mN]⟩] [.l i6] (F64 K) = ∀ (x : Int × MM) (y : Int × MM), F64 K x = some y → y.2 = x.2) (keep64 K))
def F134_b0 (K : Nat) (x : Int × Int × List Int) : Option ((Int × Int × List Int) ⊕ (List Int)) :=
  branch (decide (0 < x.2.1))
   (guard (fitN (x.2.2.length + ([w8 x.1].length)) 1) <|
   some (.inl (shrI Go.IntKind.i64 x.1 8, w64 (x.2.1 - 1), x.2.2 ++ [w8 x.1])))
   (some (.inr x.2.2))
def F134 (K : Nat) (x : Int × Int) : Option (List UInt8) :=
  bindO (iter K (F134_b0 K) (x.1, x.2, [])) fun v0 =>
  some (toB v0)
def ct134 (K : Nat) : Ct := ⟨[.l i6, .l i6], [], [.l (.v .s)], [], [], F134 K⟩
theorem c134 (K : Nat) : CtOk prog 134 (ct134 K) :=
  cmk (K := K) (an := (sN (sN (.seq (.blk (.loop [] ⟨(.l i6 :: .l i6 :: ru 3 (.l (.all 7000) :: ru 14 [])), [(7000, ⟨1, true, .row (.i .u8)⟩)]⟩ [(0, ⟨(ru 5 (.l (.all 7000) :: ru 14 [])), [(7000, ⟨1, true, .row (.i .u8)⟩)]⟩)] false (.seq (sN .no) (.seq (.blk .no) .no)))) .no)))) func134 kN
def F25_b0 (K : Nat) (x : (List UInt8) × Int × Int × Int × Bool × Int × Int × Bool × Int) : Option (((List UInt8) × Int × Int × Int × Bool × Int × Int × Bool × Int) ⊕ (Int × Int × Bool × Int × Int × Bool × Int)) :=
  branch (decide (0 < x.2.2.1))
   (nth x.1 x.2.2.1 fun v0 =>
   some (.inl (x.1, x.2.1, w64 (x.2.2.1 - 1), x.2.2.2.1, x.2.2.2.2.1, Go.bits Go.BinOp.or Go.IntKind.i64 (shlI Go.IntKind.i64 x.2.2.2.2.2.1 8) (w64 (v0.toNat : Int)), x.2.2.2.2.2.2)))
   (some (.inr (x.2.1, x.2.2.2)))
def F25 (K : Nat) (x : (List UInt8) × Int) : Option (Int × Bool × Int × Int) :=
  bindO (F54 K (x.2, 0, w64 ((x.1.length : Int) - 1))) fun v0 =>
  branch (!v0)
   (some (0, false, 0, 0))
   (guard (decide (0 ≤ x.2 ∧ x.2 ≤ (x.1.length : Int))) <|
   nth (dpL x.1 x.2) 0 fun v1 =>
   branch (decide ((v1.toNat : Int) = 203))
    (branch (decide (((dpL x.1 x.2).length : Int) < 2))
     (some (0, false, 0, 0))
     (nth (dpL x.1 x.2) 1 fun v2 =>
     some (w64 (v2.toNat : Int), true, 0, 2)))
    (nth (dpL x.1 x.2) 0 fun v3 =>
    bindO (F65 K (w64 (v3.toNat : Int), false)) fun v4 =>
    bindO (α := (Int × Bool × Int × Int) ⊕ ((List UInt8) × Int × Int × Bool × Int × Int × Bool × Int)) (bindO (α := (List UInt8) × Int × Bool × Int × Bool × Int × Int × Bool × Int) (branch (decide (v4 = 0))
         (some (dpL x.1 x.2, v4, true, w64 (v3.toNat : Int), false, 0, 0, false, 0))
         (some (dpL x.1 x.2, v4, decide (((dpL x.1 x.2).length : Int) < v4), w64 (v3.toNat : Int), false, 0, 0, false, 0))) fun v5 =>
      branch v5.2.2.1
       (some (.inl (0, false, 0, 0)))
       (some (.inr (v5.1, v5.2.1, v5.2.2.2)))) fun v6 =>
    csO v6
     (fun v7 => some v7)
     (fun v8 => bindO (iter K (F25_b0 K) (v8.1, v8.2.1, w64 (v8.2.1 - 1), v8.2.2)) fun v9 =>
     some (v9.2.1, v9.2.2.1, v9.2.2.2.1, v9.1))))
def ct25 (K : Nat) : Ct := ⟨[.l (.v .s), .l i6], [], [.agg [i6, (.v .b), i6], .l i6], [], [], F25 K⟩
theorem c25 (K : Nat) : CtOk prog 25 (ct25 K) :=
  cmk (K := K) (an := (sN (.seq (sN (.cond .no .no)) (sN (.seq (sN (.cond (.seq (sN (.cond .no .no)) .no) .no)) (sN (sN (.seqJ [(1000000, ⟨(.l (.v .s) :: ru 3 (.l (.ptr 5000 0 0) :: ru 1 (.l (.ptr 7000 0 0) :: .l i6 :: ru 55 []))), [(7000, ⟨3, false, .mix (some 42) [[.l i6, .l (.v .b), .l i6]]⟩), (5000, ⟨3, false, .mix (some 42) [[.l i6, .l (.v .b), .l i6]]⟩)]⟩)] true (.seqJ [(1000000, ⟨(.l (.v .s) :: ru 3 (.l (.ptr 5000 0 0) :: ru 1 (.l (.ptr 7000 0 0) :: .l i6 :: ru 36 (.l (.v .b) :: ru 18 [])))), [(7000, ⟨3, false, .mix (some 42) [[.l i6, .l (.v .b), .l i6]]⟩), (5000, ⟨3, false, .mix (some 42) [[.l i6, .l (.v .b), .l i6]]⟩)]⟩)] false .no (.cond .no .no)) (.seq (sN (.blk (.loop [] ⟨(.l (.v .s) :: ru 3 (.l (.ptr 5000 0 0) :: ru 1 (.l (.ptr 7000 0 0) :: .l i6 :: .l i6 :: ru 54 []))), [(7000, ⟨3, false, .mix (some 42) [[.l i6, .l (.v .b), .l i6]]⟩), (5000, ⟨3, false, .mix (some 42) [[.l i6, .l (.v .b), .l i6]]⟩)]⟩ [(0, ⟨(ru 4 (.l (.ptr 5000 0 0) :: ru 1 (.l (.ptr 7000 0 0) :: .l i6 :: ru 55 []))), [(7000, ⟨3, false, .mix (some 42) [[.l i6, .l (.v .b), .l i6]]⟩), (5000, ⟨3, false, .mix (some 42) [[.l i6, .l (.v .b), .l i6]]⟩)]⟩)] false (.seq (sN .no) (sN .no))))) .no))))))))) func25 (kX (c54 K) (kX (c65 K) kN))
def F98_b0 (K : Nat) (x : (List UInt8) × Int × Int × Bool × Int × MM) : Option (((List UInt8) × Int × Int × Bool × Int × MM) ⊕ ((List UInt8) × Int × Bool × Int × MM)) :=
  branch (decide (x.2.1 < 3))
   (bindO (F64 K (w64 (x.2.2.2.2.2.2.2.2.2.2.2.2.2.2.1 + x.2.1), x.2.2.2.2.2)) fun v0 =>
   bindO (F134 K (v0.1, 1)) fun v1 =>
   guard (decide ((x.1.length + v1.length) ≤ 9223372036854775807)) <|
   some (.inl (x.1 ++ v1, w64 (x.2.1 + 1), x.2.2)))
   (some (.inr (x.1, x.2.2)))
def F98 (K : Nat) (x : MM) : Option (Int × Bool × Int × Int × MM) :=
  bindO (iter K (F98_b0 K) ([], 0, 0, false, 0, x)) fun v0 =>
  bindO (F25 K (v0.1, 0)) fun v1 =>
  some (v1.1, v1.2.1, v1.2.2.1, v1.2.2.2, v0.2.2.2.2)
def ct98 (K : Nat) : Ct := ⟨[.l (.ptr 0 0 0)], [⟨23, false, .mix (some 30) [mN]⟩], [.agg [i6, (.v .b), i6], .l i6], [⟨23, false, .mix (some 30) [mN]⟩], [], F98 K⟩
theorem c98 (K : Nat) : CtOk prog 98 (ct98 K) :=
  cmk (K := K) (an := (sN (sN (.seq (sN (.blk (.loop [] ⟨(.l (.ptr 0 0 0) :: ru 1 (.l (.ptr 3000 0 0) :: ru 1 (.l (.v .s) :: ru 1 (.l i6 :: ru 19 [])))), [(3000, ⟨3, false, .mix (some 42) [[.l i6, .l (.v .b), .l i6]]⟩), (0, ⟨23, false, .mix (some 30) [mN]⟩)]⟩ [(0, ⟨(ru 2 (.l (.ptr 3000 0 0) :: ru 1 (.l (.v .s) :: ru 21 []))), [(3000, ⟨3, false, .mix (some 42) [[.l i6, .l (.v .b), .l i6]]⟩), (0, ⟨23, false, .mix (some 30) [mN]⟩)]⟩)] false (sN (sN (.seq (.blk .no) .no)))))) .no)))) func98 (ctabOk_keep (c64k K) (kX (c134 K) (kX (c25 K) kN)))
def F229r0 (K : Nat) (x : Int × Int × Bool × Int × Bool × MM) : Option (Int × Bool × Int × Bool × MM) :=
  some x.2
def ct229r0 (K : Nat) : Ct := ⟨[.l (.ptr 0 0 0), .l (.k .i64 (0))], [⟨5, false, .mix (some 118) [[.l (.ptr 1 0 0), .l i6, .l (.v .b), .l i6, .l (.v .b)]]⟩, ⟨23, false, .mix (some 30) [mN]⟩], [.l (.ptr 1 0 2)], [⟨5, false, .mix (some 118) [[.l (.ptr 1 0 0), .l i6, .l (.v .b), .l i6, .l (.v .b)]]⟩, ⟨23, false, .mix (some 30) [mN]⟩], [], F229r0 K⟩
theorem c229r0 (K : Nat) : CtOk prog 229 (ct229r0 K) :=
  cmk (K := K) (an := (sN (sN (.seq (.reg [21] []) .no)))) func229 kN
def ct229r0k (K : Nat) : Ct := ⟨[.l (.ptr 0 0 0), .l (.k .i64 (0))], [⟨5, false, .mix (some 118) [[.l (.ptr 1 0 0), .l i6, .l (.v .b), .l i6, .l (.v .b)]]⟩, ⟨23, false, .mix (some 30) [mN]⟩], [.l (.ptr 1 0 2)], [⟨5, false, .mix (some 118) [[.l (.ptr 1 0 0), .l i6, .l (.v .b), .l i6, .l (.v .b)]]⟩, ⟨23, false, .mix (some 30) [mN]⟩], keepRefs, F229r0 K⟩
theorem keep229r0 (K : Nat) (x : Int × Int × Bool × Int × Bool × MM) (y : Int × Bool × Int × Bool × MM) (h : F229r0 K x = some y) : y = x.2 := by
  unfold F229r0 at h
  cases h; rfl
theorem c229r0k (K : Nat) : CtKeep prog 229 (ct229r0k K) := ct_keep3 (Eq.mpr (by kernel_rfl : CtOk prog 229 (ct229r0k K) = CtOk prog 229 (ct229r0 K)) (c229r0 K)) (by kernel_rfl) (Eq.mpr (by kernel_rfl : KeepsF [.l (.ptr 0 0 0), .l (.k .i64 (0))] [⟨5, false, .mix (some 118) [[.l (.ptr 1 0 0), .l i6, .l (.v .b), .l i6, .l (.v .b)]]⟩, ⟨23, false, .mix (some 30) [mN]⟩] [.l (.ptr 1 0 2)] (F229r0 K) = ∀ (x : Int × Int × Bool × Int × Bool × MM) (y : Int × Bool × Int × Bool × MM), F229r0 K x = some y → y = x.2) (keep229r0 K))
def F229r1 (K : Nat) (x : Int × Int × Bool × Int × Bool × MM) : Option (Int × Bool × Int × Bool × MM) :=
  some x.2
def ct229r1 (K : Nat) : Ct := ⟨[.l (.ptr 0 0 0), .l (.k .i64 (1))], [⟨5, false, .mix (some 118) [[.l (.ptr 1 0 0), .l i6, .l (.v .b), .l i6, .l (.v .b)]]⟩, ⟨23, false, .mix (some 30) [mN]⟩], [.l (.ptr 1 0 3)], [⟨5, false, .mix (some 118) [[.l (.ptr 1 0 0), .l i6, .l (.v .b), .l i6, .l (.v .b)]]⟩, ⟨23, false, .mix (some 30) [mN]⟩], [], F229r1 K⟩
theorem c229r1 (K : Nat) : CtOk prog 229 (ct229r1 K) :=
  cmk (K := K) (an := (sN (sN (.seq (.reg [21] []) .no)))) func229 kN
def ct229r1k (K : Nat) : Ct := ⟨[.l (.ptr 0 0 0), .l (.k .i64 (1))], [⟨5, false, .mix (some 118) [[.l (.ptr 1 0 0), .l i6, .l (.v .b), .l i6, .l (.v .b)]]⟩, ⟨23, false, .mix (some 30) [mN]⟩], [.l (.ptr 1 0 3)], [⟨5, false, .mix (some 118) [[.l (.ptr 1 0 0), .l i6, .l (.v .b), .l i6, .l (.v .b)]]⟩, ⟨23, false, .mix (some 30) [mN]⟩], keepRefs, F229r1 K⟩
theorem keep229r1 (K : Nat) (x : Int × Int × Bool × Int × Bool × MM) (y : Int × Bool × Int × Bool × MM) (h : F229r1 K x = some y) : y = x.2 := by
  unfold F229r1 at h
  cases h; rfl
theorem c229r1k (K : Nat) : CtKeep prog 229 (ct229r1k K) := ct_keep3 (Eq.mpr (by kernel_rfl : CtOk prog 229 (ct229r1k K) = CtOk prog 229 (ct229r1 K)) (c229r1 K)) (by kernel_rfl) (Eq.mpr (by kernel_rfl : KeepsF [.l (.ptr 0 0 0), .l (.k .i64 (1))] [⟨5, false, .mix (some 118) [[.l (.ptr 1 0 0), .l i6, .l (.v .b), .l i6, .l (.v .b)]]⟩, ⟨23, false, .mix (some 30) [mN]⟩] [.l (.ptr 1 0 3)] (F229r1 K) = ∀ (x : Int × Int × Bool × Int × Bool × MM) (y : Int × Bool × Int × Bool × MM), F229r1 K x = some y → y = x.2) (keep229r1 K))
def F229r2 (K : Nat) (x : Int × Int × Bool × Int × Bool × MM) : Option (Int × Bool × Int × Bool × MM) :=
  some x.2
def ct229r2 (K : Nat) : Ct := ⟨[.l (.ptr 0 0 0), .l (.k .i64 (2))], [⟨5, false, .mix (some 118) [[.l (.ptr 1 0 0), .l i6, .l (.v .b), .l i6, .l (.v .b)]]⟩, ⟨23, false, .mix (some 30) [mN]⟩], [.l (.ptr 1 0 4)], [⟨5, false, .mix (some 118) [[.l (.ptr 1 0 0), .l i6, .l (.v .b), .l i6, .l (.v .b)]]⟩, ⟨23, false, .mix (some 30) [mN]⟩], [], F229r2 K⟩
theorem c229r2 (K : Nat) : CtOk prog 229 (ct229r2 K) :=
  cmk (K := K) (an := (sN (sN (.seq (.reg [21] []) .no)))) func229 kN
def ct229r2k (K : Nat) : Ct := ⟨[.l (.ptr 0 0 0), .l (.k .i64 (2))], [⟨5, false, .mix (some 118) [[.l (.ptr 1 0 0), .l i6, .l (.v .b), .l i6, .l (.v .b)]]⟩, ⟨23, false, .mix (some 30) [mN]⟩], [.l (.ptr 1 0 4)], [⟨5, false, .mix (some 118) [[.l (.ptr 1 0 0), .l i6, .l (.v .b), .l i6, .l (.v .b)]]⟩, ⟨23, false, .mix (some 30) [mN]⟩], keepRefs, F229r2 K⟩
theorem keep229r2 (K : Nat) (x : Int × Int × Bool × Int × Bool × MM) (y : Int × Bool × Int × Bool × MM) (h : F229r2 K x = some y) : y = x.2 := by
  unfold F229r2 at h
  cases h; rfl
theorem c229r2k (K : Nat) : CtKeep prog 229 (ct229r2k K) := ct_keep3 (Eq.mpr (by kernel_rfl : CtOk prog 229 (ct229r2k K) = CtOk prog 229 (ct229r2 K)) (c229r2 K)) (by kernel_rfl) (Eq.mpr (by kernel_rfl : KeepsF [.l (.ptr 0 0 0), .l (.k .i64 (2))] [⟨5, false, .mix (some 118) [[.l (.ptr 1 0 0), .l i6, .l (.v .b), .l i6, .l (.v .b)]]⟩, ⟨23, false, .mix (some 30) [mN]⟩] [.l (.ptr 1 0 4)] (F229r2 K) = ∀ (x : Int × Int × Bool × Int × Bool × MM) (y : Int × Bool × Int × Bool × MM), F229r2 K x = some y → y = x.2) (keep229r2 K))
def F229r3 (K : Nat) (x : Int × Int × Bool × Int × Bool × MM) : Option (Int × Bool × Int × Bool × MM) :=
  some x.2
def ct229r3 (K : Nat) : Ct := ⟨[.l (.ptr 0 0 0), .l (.k .i64 (3))], [⟨5, false, .mix (some 118) [[.l (.ptr 1 0 0), .l i6, .l (.v .b), .l i6, .l (.v .b)]]⟩, ⟨23, false, .mix (some 30) [mN]⟩], [.l (.ptr 1 0 5)], [⟨5, false, .mix (some 118) [[.l (.ptr 1 0 0), .l i6, .l (.v .b), .l i6, .l (.v .b)]]⟩, ⟨23, false, .mix (some 30) [mN]⟩], [], F229r3 K⟩
theorem c229r3 (K : Nat) : CtOk prog 229 (ct229r3 K) :=
  cmk (K := K) (an := (sN (sN (.seq (.reg [21] []) .no)))) func229 kN
def ct229r3k (K : Nat) : Ct := ⟨[.l (.ptr 0 0 0), .l (.k .i64 (3))], [⟨5, false, .mix (some 118) [[.l (.ptr 1 0 0), .l i6, .l (.v .b), .l i6, .l (.v .b)]]⟩, ⟨23, false, .mix (some 30) [mN]⟩], [.l (.ptr 1 0 5)], [⟨5, false, .mix (some 118) [[.l (.ptr 1 0 0), .l i6, .l (.v .b), .l i6, .l (.v .b)]]⟩, ⟨23, false, .mix (some 30) [mN]⟩], keepRefs, F229r3 K⟩
theorem keep229r3 (K : Nat) (x : Int × Int × Bool × Int × Bool × MM) (y : Int × Bool × Int × Bool × MM) (h : F229r3 K x = some y) : y = x.2 := by
  unfold F229r3 at h
  cases h; rfl
theorem c229r3k (K : Nat) : CtKeep prog 229 (ct229r3k K) := ct_keep3 (Eq.mpr (by kernel_rfl : CtOk prog 229 (ct229r3k K) = CtOk prog 229 (ct229r3 K)) (c229r3 K)) (by kernel_rfl) (Eq.mpr (by kernel_rfl : KeepsF [.l (.ptr 0 0 0), .l (.k .i64 (3))] [⟨5, false, .mix (some 118) [[.l (.ptr 1 0 0), .l i6, .l (.v .b), .l i6, .l (.v .b)]]⟩, ⟨23, false, .mix (some 30) [mN]⟩] [.l (.ptr 1 0 5)] (F229r3 K) = ∀ (x : Int × Int × Bool × Int × Bool × MM) (y : Int × Bool × Int × Bool × MM), F229r3 K x = some y → y = x.2) (keep229r3 K))
def F229r4 (K : Nat) (x : Int × Int × Bool × Int × Bool × MM) : Option (Int × Bool × Int × Bool × MM) :=
  some x.2
def ct229r4 (K : Nat) : Ct := ⟨[.l (.ptr 0 0 0), .l (.k .i64 (4))], [⟨5, false, .mix (some 118) [[.l (.ptr 1 0 0), .l i6, .l (.v .b), .l i6, .l (.v .b)]]⟩, ⟨23, false, .mix (some 30) [mN]⟩], [.l (.ptr 1 0 6)], [⟨5, false, .mix (some 118) [[.l (.ptr 1 0 0), .l i6, .l (.v .b), .l i6, .l (.v .b)]]⟩, ⟨23, false, .mix (some 30) [mN]⟩], [], F229r4 K⟩
theorem c229r4 (K : Nat) : CtOk prog 229 (ct229r4 K) :=
  cmk (K := K) (an := (sN (sN (.seq (.reg [21] []) .no)))) func229 kN
def ct229r4k (K : Nat) : Ct := ⟨[.l (.ptr 0 0 0), .l (.k .i64 (4))], [⟨5, false, .mix (some 118) [[.l (.ptr 1 0 0), .l i6, .l (.v .b), .l i6, .l (.v .b)]]⟩, ⟨23, false, .mix (some 30) [mN]⟩], [.l (.ptr 1 0 6)], [⟨5, false, .mix (some 118) [[.l (.ptr 1 0 0), .l i6, .l (.v .b), .l i6, .l (.v .b)]]⟩, ⟨23, false, .mix (some 30) [mN]⟩], keepRefs, F229r4 K⟩
theorem keep229r4 (K : Nat) (x : Int × Int × Bool × Int × Bool × MM) (y : Int × Bool × Int × Bool × MM) (h : F229r4 K x = some y) : y = x.2 := by
  unfold F229r4 at h
  cases h; rfl
theorem c229r4k (K : Nat) : CtKeep prog 229 (ct229r4k K) := ct_keep3 (Eq.mpr (by kernel_rfl : CtOk prog 229 (ct229r4k K) = CtOk prog 229 (ct229r4 K)) (c229r4 K)) (by kernel_rfl) (Eq.mpr (by kernel_rfl : KeepsF [.l (.ptr 0 0 0), .l (.k .i64 (4))] [⟨5, false, .mix (some 118) [[.l (.ptr 1 0 0), .l i6, .l (.v .b), .l i6, .l (.v .b)]]⟩, ⟨23, false, .mix (some 30) [mN]⟩] [.l (.ptr 1 0 6)] (F229r4 K) = ∀ (x : Int × Int × Bool × Int × Bool × MM) (y : Int × Bool × Int × Bool × MM), F229r4 K x = some y → y = x.2) (keep229r4 K))
def F229r5 (K : Nat) (x : Int × Int × Bool × Int × Bool × MM) : Option (Int × Bool × Int × Bool × MM) :=
  some x.2
def ct229r5 (K : Nat) : Ct := ⟨[.l (.ptr 0 0 0), .l (.k .i64 (5))], [⟨5, false, .mix (some 118) [[.l (.ptr 1 0 0), .l i6, .l (.v .b), .l i6, .l (.v .b)]]⟩, ⟨23, false, .mix (some 30) [mN]⟩], [.l (.ptr 1 0 7)], [⟨5, false, .mix (some 118) [[.l (.ptr 1 0 0), .l i6, .l (.v .b), .l i6, .l (.v .b)]]⟩, ⟨23, false, .mix (some 30) [mN]⟩], [], F229r5 K⟩
theorem c229r5 (K : Nat) : CtOk prog 229 (ct229r5 K) :=
  cmk (K := K) (an := (sN (sN (.seq (.reg [21] []) .no)))) func229 kN
def ct229r5k (K : Nat) : Ct := ⟨[.l (.ptr 0 0 0), .l (.k .i64 (5))], [⟨5, false, .mix (some 118) [[.l (.ptr 1 0 0), .l i6, .l (.v .b), .l i6, .l (.v .b)]]⟩, ⟨23, false, .mix (some 30) [mN]⟩], [.l (.ptr 1 0 7)], [⟨5, false, .mix (some 118) [[.l (.ptr 1 0 0), .l i6, .l (.v .b), .l i6, .l (.v .b)]]⟩, ⟨23, false, .mix (some 30) [mN]⟩], keepRefs, F229r5 K⟩
theorem keep229r5 (K : Nat) (x : Int × Int × Bool × Int × Bool × MM) (y : Int × Bool × Int × Bool × MM) (h : F229r5 K x = some y) : y = x.2 := by
  unfold F229r5 at h
  cases h; rfl
theorem c229r5k (K : Nat) : CtKeep prog 229 (ct229r5k K) := ct_keep3 (Eq.mpr (by kernel_rfl : CtOk prog 229 (ct229r5k K) = CtOk prog 229 (ct229r5 K)) (c229r5 K)) (by kernel_rfl) (Eq.mpr (by kernel_rfl : KeepsF [.l (.ptr 0 0 0), .l (.k .i64 (5))] [⟨5, false, .mix (some 118) [[.l (.ptr 1 0 0), .l i6, .l (.v .b), .l i6, .l (.v .b)]]⟩, ⟨23, false, .mix (some 30) [mN]⟩] [.l (.ptr 1 0 7)] (F229r5 K) = ∀ (x : Int × Int × Bool × Int × Bool × MM) (y : Int × Bool × Int × Bool × MM), F229r5 K x = some y → y = x.2) (keep229r5 K))
def F229r6 (K : Nat) (x : Int × Int × Bool × Int × Bool × MM) : Option (Int × Bool × Int × Bool × MM) :=
  some x.2
def ct229r6 (K : Nat) : Ct := ⟨[.l (.ptr 0 0 0), .l (.k .i64 (6))], [⟨5, false, .mix (some 118) [[.l (.ptr 1 0 0), .l i6, .l (.v .b), .l i6, .l (.v .b)]]⟩, ⟨23, false, .mix (some 30) [mN]⟩], [.l .nilp], [⟨5, false, .mix (some 118) [[.l (.ptr 1 0 0), .l i6, .l (.v .b), .l i6, .l (.v .b)]]⟩, ⟨23, false, .mix (some 30) [mN]⟩], [], F229r6 K⟩
theorem c229r6 (K : Nat) : CtOk prog 229 (ct229r6 K) :=
  cmk (K := K) (an := (sN (sN (.seq (.reg [21] []) .no)))) func229 kN
def ct229r6k (K : Nat) : Ct := ⟨[.l (.ptr 0 0 0), .l (.k .i64 (6))], [⟨5, false, .mix (some 118) [[.l (.ptr 1 0 0), .l i6, .l (.v .b), .l i6, .l (.v .b)]]⟩, ⟨23, false, .mix (some 30) [mN]⟩], [.l .nilp], [⟨5, false, .mix (some 118) [[.l (.ptr 1 0 0), .l i6, .l (.v .b), .l i6, .l (.v .b)]]⟩, ⟨23, false, .mix (some 30) [mN]⟩], keepRefs, F229r6 K⟩
theorem keep229r6 (K : Nat) (x : Int × Int × Bool × Int × Bool × MM) (y : Int × Bool × Int × Bool × MM) (h : F229r6 K x = some y) : y = x.2 := by
  unfold F229r6 at h
  cases h; rfl
theorem c229r6k (K : Nat) : CtKeep prog 229 (ct229r6k K) := ct_keep3 (Eq.mpr (by kernel_rfl : CtOk prog 229 (ct229r6k K) = CtOk prog 229 (ct229r6 K)) (c229r6 K)) (by kernel_rfl) (Eq.mpr (by kernel_rfl : KeepsF [.l (.ptr 0 0 0), .l (.k .i64 (6))] [⟨5, false, .mix (some 118) [[.l (.ptr 1 0 0), .l i6, .l (.v .b), .l i6, .l (.v .b)]]⟩, ⟨23, false, .mix (some 30) [mN]⟩] [.l .nilp] (F229r6 K) = ∀ (x : Int × Int × Bool × Int × Bool × MM) (y : Int × Bool × Int × Bool × MM), F229r6 K x = some y → y = x.2) (keep229r6 K))
def F229r7 (K : Nat) (x : Int × Int × Bool × Int × Bool × MM) : Option (Int × Bool × Int × Bool × MM) :=
  some x.2
def ct229r7 (K : Nat) : Ct := ⟨[.l (.ptr 0 0 0), .l (.k .i64 (7))], [⟨5, false, .mix (some 118) [[.l (.ptr 1 0 0), .l i6, .l (.v .b), .l i6, .l (.v .b)]]⟩, ⟨23, false, .mix (some 30) [mN]⟩], [.l (.ptr 1 0 0)], [⟨5, false, .mix (some 118) [[.l (.ptr 1 0 0), .l i6, .l (.v .b), .l i6, .l (.v .b)]]⟩, ⟨23, false, .mix (some 30) [mN]⟩], [], F229r7 K⟩
theorem c229r7 (K : Nat) : CtOk prog 229 (ct229r7 K) :=
  cmk (K := K) (an := (sN (sN (.seq (.reg [21] []) .no)))) func229 kN
def ct229r7k (K : Nat) : Ct := ⟨[.l (.ptr 0 0 0), .l (.k .i64 (7))], [⟨5, false, .mix (some 118) [[.l (.ptr 1 0 0), .l i6, .l (.v .b), .l i6, .l (.v .b)]]⟩, ⟨23, false, .mix (some 30) [mN]⟩], [.l (.ptr 1 0 0)], [⟨5, false, .mix (some 118) [[.l (.ptr 1 0 0), .l i6, .l (.v .b), .l i6, .l (.v .b)]]⟩, ⟨23, false, .mix (some 30) [mN]⟩], keepRefs, F229r7 K⟩
theorem keep229r7 (K : Nat) (x : Int × Int × Bool × Int × Bool × MM) (y : Int × Bool × Int × Bool × MM) (h : F229r7 K x = some y) : y = x.2 := by
  unfold F229r7 at h
  cases h; rfl
theorem c229r7k (K : Nat) : CtKeep prog 229 (ct229r7k K) := ct_keep3 (Eq.mpr (by kernel_rfl : CtOk prog 229 (ct229r7k K) = CtOk prog 229 (ct229r7 K)) (c229r7 K)) (by kernel_rfl) (Eq.mpr (by kernel_rfl : KeepsF [.l (.ptr 0 0 0), .l (.k .i64 (7))] [⟨5, false, .mix (some 118) [[.l (.ptr 1 0 0), .l i6, .l (.v .b), .l i6, .l (.v .b)]]⟩, ⟨23, false, .mix (some 30) [mN]⟩] [.l (.ptr 1 0 0)] (F229r7 K) = ∀ (x : Int × Int × Bool × Int × Bool × MM) (y : Int × Bool × Int × Bool × MM), F229r7 K x = some y → y = x.2) (keep229r7 K))
def F215 (K : Nat) (x : Int × Bool × Int × Bool × MM) : Option (Int × Int × Bool × Int × Bool × MM) :=
  some (Go.bits Go.BinOp.or Go.IntKind.i64 (shlI Go.IntKind.i64 x.2.2.2.2.2.2.2.2.2.2.1 8) x.2.2.2.2.2.2.2.2.2.2.2.1, x)
def ct215 (K : Nat) : Ct := ⟨[.l (.ptr 0 0 0)], [⟨5, false, .mix (some 118) [[.l (.ptr 1 0 0), .l i6, .l (.v .b), .l i6, .l (.v .b)]]⟩, ⟨23, false, .mix (some 30) [mN]⟩], [.l i6], [⟨5, false, .mix (some 118) [[.l (.ptr 1 0 0), .l i6, .l (.v .b), .l i6, .l (.v .b)]]⟩, ⟨23, false, .mix (some 30) [mN]⟩], [], F215 K⟩
theorem c215 (K : Nat) : CtOk prog 215 (ct215 K) :=
  cmk (K := K) (an := (sN .no)) func215 kN
def ct215k (K : Nat) : Ct := ⟨[.l (.ptr 0 0 0)], [⟨5, false, .mix (some 118) [[.l (.ptr 1 0 0), .l i6, .l (.v .b), .l i6, .l (.v .b)]]⟩, ⟨23, false, .mix (some 30) [mN]⟩], [.l i6], [⟨5, false, .mix (some 118) [[.l (.ptr 1 0 0), .l i6, .l (.v .b), .l i6, .l (.v .b)]]⟩, ⟨23, false, .mix (some 30) [mN]⟩], keepRefs, F215 K⟩
theorem keep215 (K : Nat) (x : Int × Bool × Int × Bool × MM) (y : Int × Int × Bool × Int × Bool × MM) (h : F215 K x = some y) : y.2 = x := by
  unfold F215 at h
  cases h; rfl
theorem c215k (K : Nat) : CtKeep prog 215 (ct215k K) := ct_keep3 (Eq.mpr (by kernel_rfl : CtOk prog 215 (ct215k K) = CtOk prog 215 (ct215 K)) (c215 K)) (by kernel_rfl) (Eq.mpr (by kernel_rfl : KeepsF [.l (.ptr 0 0 0)] [⟨5, false, .mix (some 118) [[.l (.ptr 1 0 0), .l i6, .l (.v .b), .l i6, .l (.v .b)]]⟩, ⟨23, false, .mix (some 30) [mN]⟩] [.l i6] (F215 K) = ∀ (x : Int × Bool × Int × Bool × MM) (y : Int × Int × Bool × Int × Bool × MM), F215 K x = some y → y.2 = x) (keep215 K))
def F158 (K : Nat) (x : Int × Int × Bool × Int × Bool × MM) : Option (Int × Int × Bool × Int × Bool × MM) :=
  branch (decide (x.1 = 0))
   (bindO (F229r0 K (0, x.2)) fun v0 =>
   some (x.2.2.2.2.2.2.2.1, x.2))
   (branch (decide (x.1 = 1))
    (bindO (F229r1 K (1, x.2)) fun v1 =>
    some (x.2.2.2.2.2.2.2.2.1, x.2))
    (branch (decide (x.1 = 2))
     (bindO (F229r2 K (2, x.2)) fun v2 =>
     some (x.2.2.2.2.2.2.2.2.2.1, x.2))
     (branch (decide (x.1 = 3))
      (bindO (F229r3 K (3, x.2)) fun v3 =>
      some (x.2.2.2.2.2.2.2.2.2.2.1, x.2))
      (branch (decide (x.1 = 4))
       (bindO (F229r4 K (4, x.2)) fun v4 =>
       some (x.2.2.2.2.2.2.2.2.2.2.2.1, x.2))
       (branch (decide (x.1 = 5))
        (bindO (F229r5 K (5, x.2)) fun v5 =>
        some (x.2.2.2.2.2.2.2.2.2.2.2.2.1, x.2))
        (branch (decide (x.1 = 6))
         (bindO (F229r6 K (6, x.2)) fun v6 =>
         bindO (F215 K x.2) fun v7 =>
         bindO (F64 K (v7.1, x.2.2.2.2.2)) fun v8 =>
         some (v8.1, x.2))
         (branch (decide (x.1 = 7))
          (bindO (F229r7 K (7, x.2)) fun v9 =>
          some (x.2.2.2.2.2.1, x.2))
          (none))))))))
def ct158 (K : Nat) : Ct := ⟨[.l (.ptr 0 0 0), .l i6], [⟨5, false, .mix (some 118) [[.l (.ptr 1 0 0), .l i6, .l (.v .b), .l i6, .l (.v .b)]]⟩, ⟨23, false, .mix (some 30) [mN]⟩], [.l i6], [⟨5, false, .mix (some 118) [[.l (.ptr 1 0 0), .l i6, .l (.v .b), .l i6, .l (.v .b)]]⟩, ⟨23, false, .mix (some 30) [mN]⟩], [], F158 K⟩
theorem c158 (K : Nat) : CtOk prog 158 (ct158 K) :=
  cmk (K := K) (an := (sN (.seq (.seq (.reg [] [(1, .split 1 [0, 1, 2, 3, 4, 5, 6, 7])]) (sN (.cond .no .no))) .no))) func158 (ctabOk_keep (c64k K) (ctabOk_keep (c229r0k K) (ctabOk_keep (c229r1k K) (ctabOk_keep (c229r2k K) (ctabOk_keep (c229r3k K) (ctabOk_keep (c229r4k K) (ctabOk_keep (c229r5k K) (ctabOk_keep (c229r6k K) (ctabOk_keep (c229r7k K) (ctabOk_keep (c215k K) kN))))))))))
def ct158k (K : Nat) : Ct := ⟨[.l (.ptr 0 0 0), .l i6], [⟨5, false, .mix (some 118) [[.l (.ptr 1 0 0), .l i6, .l (.v .b), .l i6, .l (.v .b)]]⟩, ⟨23, false, .mix (some 30) [mN]⟩], [.l i6], [⟨5, false, .mix (some 118) [[.l (.ptr 1 0 0), .l i6, .l (.v .b), .l i6, .l (.v .b)]]⟩, ⟨23, false, .mix (some 30) [mN]⟩], keepRefs, F158 K⟩
theorem keep158 (K : Nat) (x : Int × Int × Bool × Int × Bool × MM) (y : Int × Int × Bool × Int × Bool × MM) (h : F158 K x = some y) : y.2 = x.2 := by
  unfold F158 at h
  rcases branch_some h with ⟨_, h⟩ | ⟨_, h⟩
  ·
    obtain ⟨_, hb, h⟩ := bindO_some h
    cases h; rfl
  ·
    rcases branch_some h with ⟨_, h⟩ | ⟨_, h⟩
    ·
      obtain ⟨_, hb, h⟩ := bindO_some h
      cases h; rfl
    ·
      rcases branch_some h with ⟨_, h⟩ | ⟨_, h⟩
      ·
        obtain ⟨_, hb, h⟩ := bindO_some h
        cases h; rfl
      ·
        rcases branch_some h with ⟨_, h⟩ | ⟨_, h⟩
        ·
          obtain ⟨_, hb, h⟩ := bindO_some h
          cases h; rfl
        ·
          rcases branch_some h with ⟨_, h⟩ | ⟨_, h⟩
          ·
            obtain ⟨_, hb, h⟩ := bindO_some h
            cases h; rfl
          ·
            rcases branch_some h with ⟨_, h⟩ | ⟨_, h⟩
            ·
              obtain ⟨_, hb, h⟩ := bindO_some h
              cases h; rfl
            ·
              rcases branch_some h with ⟨_, h⟩ | ⟨_, h⟩
              ·
                obtain ⟨_, hb, h⟩ := bindO_some h
                obtain ⟨_, hb, h⟩ := bindO_some h
                obtain ⟨_, hb, h⟩ := bindO_some h
                cases h; rfl
              ·
                rcases branch_some h with ⟨_, h⟩ | ⟨_, h⟩
                ·
                  obtain ⟨_, hb, h⟩ := bindO_some h
                  cases h; rfl
                ·
                  cases h
theorem c158k (K : Nat) : CtKeep prog 158 (ct158k K) := ct_keep3 (Eq.mpr (by kernel_rfl : CtOk prog 158 (ct158k K) = CtOk prog 158 (ct158 K)) (c158 K)) (by kernel_rfl) (Eq.mpr (by kernel_rfl : KeepsF [.l (.ptr 0 0 0), .l i6] [⟨5, false, .mix (some 118) [[.l (.ptr 1 0 0), .l i6, .l (.v .b), .l i6, .l (.v .b)]]⟩, ⟨23, false, .mix (some 30) [mN]⟩] [.l i6] (F158 K) = ∀ (x : Int × Int × Bool × Int × Bool × MM) (y : Int × Int × Bool × Int × Bool × MM), F158 K x = some y → y.2 = x.2) (keep158 K))
def F210 (K : Nat) (x : Bool × Bool × Bool × Bool) : Option (Int) :=
  bindO (α := Bool × Bool × Bool × Int) (branch x.1
     (some (x.2.1, x.2.2.1, x.2.2.2, 128))
     (some (x.2.1, x.2.2.1, x.2.2.2, 0))) fun v0 =>
  bindO (α := Bool × Bool × Int) (branch v0.1
     (some (v0.2.1, v0.2.2.1, Go.bits Go.BinOp.or Go.IntKind.i64 v0.2.2.2 64))
     (some v0.2)) fun v1 =>
  bindO (α := Bool × Int) (branch v1.1
     (some (v1.2.1, Go.bits Go.BinOp.or Go.IntKind.i64 v1.2.2 32))
     (some v1.2)) fun v2 =>
  branch v2.1
   (some (Go.bits Go.BinOp.or Go.IntKind.i64 v2.2 16))
   (some v2.2)
def ct210 (K : Nat) : Ct := ⟨[.l (.v .b), .l (.v .b), .l (.v .b), .l (.v .b)], [], [.l i6], [], [], F210 K⟩
theorem c210 (K : Nat) : CtOk prog 210 (ct210 K) :=
  cmk (K := K) (an := (sN (sN (.seqJ [(1000000, ⟨(ru 1 (.l (.v .b) :: .l (.v .b) :: .l (.v .b) :: ru 5 (.l i6 :: ru 13 []))), []⟩)] false (sN .no) (.seqJ [(1000000, ⟨(ru 2 (.l (.v .b) :: .l (.v .b) :: ru 5 (.l i6 :: ru 13 []))), []⟩)] false (sN .no) (.seqJ [(1000000, ⟨(ru 3 (.l (.v .b) :: ru 5 (.l i6 :: ru 13 []))), []⟩)] false (sN .no) (.seq (sN .no) .no))))))) func210 kN
def F209 (K : Nat) (x : Int × Int × Int) : Option (Int × Int) :=
  bindO (α := (Int × Int) ⊕ (Int × Int × Int)) (bindO (α := Int × Int × Int × Bool) (bindO (F54 K (x.1, 0, 7)) fun v0 =>
      branch (!v0)
       (some (x.1, x.2.1, x.2.2, true))
       (bindO (F80 K x.2.1) fun v1 =>
       branch (!v1)
        (some (x.1, x.2.1, x.2.2, true))
        (bindO (F80 K x.2.2) fun v2 =>
        some (x.1, x.2.1, x.2.2, !v2)))) fun v3 =>
    branch v3.2.2.2
     (some (.inl (0, 0)))
     (some (.inr (v3.1, v3.2.1, v3.2.2.1)))) fun v4 =>
  csO v4
   (fun v5 => some v5)
   (fun v6 => bindO (α := Int × Int) (branch (decide (v6.1 = 0))
      (some (shrI Go.IntKind.i64 v6.2.1 7, Go.bits Go.BinOp.or Go.IntKind.i64 (shlI Go.IntKind.i64 v6.2.1 1) (shrI Go.IntKind.i64 v6.2.1 7)))
      (branch (decide (v6.1 = 1))
       (some (Go.bits Go.BinOp.and Go.IntKind.i64 v6.2.1 1, Go.bits Go.BinOp.or Go.IntKind.i64 (shrI Go.IntKind.i64 v6.2.1 1) (shlI Go.IntKind.i64 v6.2.1 7)))
       (branch (decide (v6.1 = 2))
        (some (shrI Go.IntKind.i64 v6.2.1 7, Go.bits Go.BinOp.or Go.IntKind.i64 (shlI Go.IntKind.i64 v6.2.1 1) (Go.bits Go.BinOp.and Go.IntKind.i64 (w64 (Int.tdiv v6.2.2 16)) 1)))
        (branch (decide (v6.1 = 3))
         (some (Go.bits Go.BinOp.and Go.IntKind.i64 v6.2.1 1, Go.bits Go.BinOp.or Go.IntKind.i64 (shrI Go.IntKind.i64 v6.2.1 1) (shlI Go.IntKind.i64 (Go.bits Go.BinOp.and Go.IntKind.i64 (w64 (Int.tdiv v6.2.2 16)) 1) 7)))
         (branch (decide (v6.1 = 4))
          (some (shrI Go.IntKind.i64 v6.2.1 7, shlI Go.IntKind.i64 v6.2.1 1))
          (branch (decide (v6.1 = 5))
           (some (Go.bits Go.BinOp.and Go.IntKind.i64 v6.2.1 1, Go.bits Go.BinOp.or Go.IntKind.i64 (shrI Go.IntKind.i64 v6.2.1 1) (Go.bits Go.BinOp.and Go.IntKind.i64 v6.2.1 128)))
           (branch (decide (v6.1 = 6))
            (some (0, Go.bits Go.BinOp.or Go.IntKind.i64 (shlI Go.IntKind.i64 v6.2.1 4) (shrI Go.IntKind.i64 v6.2.1 4)))
            (branch (decide (v6.1 = 7))
             (some (Go.bits Go.BinOp.and Go.IntKind.i64 v6.2.1 1, shrI Go.IntKind.i64 v6.2.1 1))
             (some (0, 0)))))))))) fun v7 =>
   bindO (F210 K (decide ((Go.bits Go.BinOp.and Go.IntKind.i64 v7.2 255) = 0), false, false, decide (v7.1 = 1))) fun v8 =>
   some (Go.bits Go.BinOp.and Go.IntKind.i64 v7.2 255, v8))
def ct209 (K : Nat) : Ct := ⟨[.l i6, .l i6, .l i6], [], [.l i6, .l i6], [], [], F209 K⟩
theorem c209 (K : Nat) : CtOk prog 209 (ct209 K) :=
  cmk (K := K) (an := (sN (.seqJ [(1000000, ⟨(.l i6 :: .l i6 :: .l i6 :: ru 96 []), []⟩)] true (.seqJ [(1000000, ⟨(.l i6 :: .l i6 :: .l i6 :: ru 20 (.l (.v .b) :: ru 75 [])), []⟩)] false .no (.cond .no .no)) (sN (sN (.seqJ [(1000000, ⟨(ru 9 (.l i6 :: .l i6 :: ru 88 [])), []⟩)] false (sN (.blk (sN (.cond .no (sN (.cond .no (sN (.cond .no (sN (.cond .no (sN (.cond .no (sN (.cond .no (sN (.cond .no (sN .no))))))))))))))))) (sN .no))))))) func209 (kX (c54 K) (kX (c80 K) (kX (c210 K) kN)))
def F269 (K : Nat) (x : (List UInt8) × Int × Int) : Option (List UInt8) :=
  guard (decide (0 ≤ x.2.1 ∧ x.2.1 < ((ofB x.1).length : Int))) <|
  nthN (ofB x.1) x.2.1.toNat fun v0 =>
  some (toB (List.set (ofB x.1) x.2.1.toNat (w8 x.2.2)))
def ct269 (K : Nat) : Ct := ⟨[.l (.v .s), .l i6, .l i6], [], [.l (.v .s)], [], [], F269 K⟩
theorem c269 (K : Nat) : CtOk prog 269 (ct269 K) :=
  cmk (K := K) (an := (sN (sN (sN .no)))) func269 kN
def F270 (K : Nat) (x : (List UInt8) × Int × Int × (List UInt8) × Int × Bool × Int × Int × Int) : Option ((List UInt8) × Int × Int × (List UInt8) × Int × Bool × Int) :=
  branch (decide (x.2.1 = 0))
   (some (x.1, x.2.1, x.2.2.1, x.2.2.2.1, x.2.2.2.2.1, x.2.2.2.2.2.1, x.2.2.2.2.2.2.1))
   (bindO (F178 K (x.1, x.2.1, x.2.2.1, x.2.2.2.1, x.2.2.2.2.1, x.2.2.2.2.2.1, x.2.2.2.2.2.2.1, x.2.2.2.2.2.2.2.1)) fun v0 =>
   branch (decide (x.2.2.2.2.2.2.2.1 < 128))
    (some (x.1, x.2.1, x.2.2.1, x.2.2.2.1, x.2.2.2.2.1, decide ((Go.bits Go.BinOp.and Go.IntKind.i64 x.2.2.2.2.2.2.2.2 15) = 10), x.2.2.2.2.2.2.1))
    (bindO (α := Int × Int × Int × Bool × (List UInt8) × Int × Int × (List UInt8) × Int × Bool × Int × (List UInt8) × Int × Int × (List UInt8) × Int × Bool × Int) (branch (decide (x.2.2.2.2.2.2.2.1 < 256))
       (some (x.2.2.2.2.2.2.2.1, x.2.2.2.2.2.2.2.2, v0, decide (x.2.1 = 2), [], 0, 0, [], 0, false, 0, x.1, x.2.1, x.2.2.1, x.2.2.2.1, x.2.2.2.2.1, x.2.2.2.2.2.1, x.2.2.2.2.2.2.1))
       (some (x.2.2.2.2.2.2.2.1, x.2.2.2.2.2.2.2.2, v0, false, [], 0, 0, [], 0, false, 0, x.1, x.2.1, x.2.2.1, x.2.2.2.1, x.2.2.2.2.1, x.2.2.2.2.2.1, x.2.2.2.2.2.2.1))) fun v1 =>
    branch v1.2.2.2.1
     (some (v1.2.2.2.2.2.2.2.2.2.2.2.1, v1.2.2.2.2.2.2.2.2.2.2.2.2.1, v1.2.1, v1.2.2.2.2.2.2.2.2.2.2.2.2.2.2))
     (branch (decide (v1.1 < 256))
      (some (v1.2.2.2.2.2.2.2.2.2.2.2.1, v1.2.2.2.2.2.2.2.2.2.2.2.2.1, mxI 1 (Int.tmod v1.2.1 32), v1.2.2.2.2.2.2.2.2.2.2.2.2.2.2))
      (branch (decide (v1.1 < 384))
       (some (v1.2.2.2.2.2.2.2.2.2.2.2.1, v1.2.2.2.2.2.2.2.2.2.2.2.2.1, v1.2.2.2.2.2.2.2.2.2.2.2.2.2.1, v1.2.2.2.2.2.2.2.2.2.2.2.2.2.2.1, Int.tmod v1.2.1 4, v1.2.2.2.2.2.2.2.2.2.2.2.2.2.2.2.2))
       (bindO (α := Int × Int × Bool × (List UInt8) × Int × Int × (List UInt8) × Int × Bool × Int × (List UInt8) × Int × Int × (List UInt8) × Int × Bool × Int) (branch (decide (v1.1 < 512))
          (some (v1.2.1, v1.2.2.1, decide (v1.2.2.2.2.2.2.2.2.2.2.2.2.1 = 1), v1.2.2.2.2))
          (some (v1.2.1, v1.2.2.1, false, v1.2.2.2.2))) fun v2 =>
       branch v2.2.2.1
        (some (v2.2.2.2.2.2.2.2.2.2.2.1, v2.2.2.2.2.2.2.2.2.2.2.2.1, v2.2.2.2.2.2.2.2.2.2.2.2.2.1, v2.2.2.2.2.2.2.2.2.2.2.2.2.2.1, v2.2.2.2.2.2.2.2.2.2.2.2.2.2.2.1, v2.2.2.2.2.2.2.2.2.2.2.2.2.2.2.2.1, Int.tmod v2.1 2))
        (branch (decide (0 ≤ v2.2.1))
         (bindO (F269 K (v2.2.2.2.2.2.2.2.2.2.2.2.2.2.1, v2.2.1, v2.1)) fun v3 =>
         some (v2.2.2.2.2.2.2.2.2.2.2.1, v2.2.2.2.2.2.2.2.2.2.2.2.1, v2.2.2.2.2.2.2.2.2.2.2.2.2.1, v3, v2.2.2.2.2.2.2.2.2.2.2.2.2.2.2))
         (some v2.2.2.2.2.2.2.2.2.2.2)))))))
def ct270 (K : Nat) : Ct := ⟨[.agg [(.v .s), i6, i6, (.v .s), i6, (.v .b), i6], .l i6, .l i6], [], [.agg [(.v .s), i6, i6, (.v .s), i6, (.v .b), i6]], [], [], F270 K⟩
theorem c270 (K : Nat) : CtOk prog 270 (ct270 K) :=
  cmk (K := K) (an := (sN (.seq (sN (.cond .no .no)) (sN (.seq (.blk (sN (.cond .no (.seqJ [(1000000, ⟨(ru 1 (.l i6 :: .l i6 :: .l (.ptr 4000 0 0) :: ru 2 (.l (.ptr 7000 0 0) :: .l i6 :: ru 14 (.l (.v .b) :: ru 43 [])))), [(7000, ⟨7, false, .mix (some 27) [[.l (.v .s), .l i6, .l i6, .l (.v .s), .l i6, .l (.v .b), .l i6]]⟩), (4000, ⟨7, false, .mix (some 27) [[.l (.v .s), .l i6, .l i6, .l (.v .s), .l i6, .l (.v .b), .l i6]]⟩)]⟩)] false .no (.cond .no (sN (.cond .no (sN (.cond .no (.seqJ [(1000000, ⟨(ru 2 (.l i6 :: .l (.ptr 4000 0 0) :: ru 2 (.l (.ptr 7000 0 0) :: .l i6 :: ru 37 (.l (.v .b) :: ru 20 [])))), [(7000, ⟨7, false, .mix (some 27) [[.l (.v .s), .l i6, .l i6, .l (.v .s), .l i6, .l (.v .b), .l i6]]⟩), (4000, ⟨7, false, .mix (some 27) [[.l (.v .s), .l i6, .l i6, .l (.v .s), .l i6, .l (.v .b), .l i6]]⟩)]⟩)] false .no (.cond .no (sN .no)))))))))))) .no))))) func270 (kX (c178 K) (kX (c269 K) kN))
def F254 (K : Nat) (x : Int × Int × MM) : Option (Bool × MM) :=
  bindO (F54 K (Go.bits Go.BinOp.and Go.IntKind.i64 x.1 65535, 49152, 49407)) fun v0 =>
  branch v0
   (bindO (F269 K (x.2.2.2.2.2.2.2.2.2.2.2.2.2.2.2.2.2.2.2.2.2.1, w64 ((Go.bits Go.BinOp.and Go.IntKind.i64 x.1 65535) - 49152), x.2.1)) fun v1 =>
   some (true, x.2.2.1, x.2.2.2.1, x.2.2.2.2.1, x.2.2.2.2.2.1, x.2.2.2.2.2.2.1, x.2.2.2.2.2.2.2.1, x.2.2.2.2.2.2.2.2.1, x.2.2.2.2.2.2.2.2.2.1, x.2.2.2.2.2.2.2.2.2.2.1, x.2.2.2.2.2.2.2.2.2.2.2.1, x.2.2.2.2.2.2.2.2.2.2.2.2.1, x.2.2.2.2.2.2.2.2.2.2.2.2.2.1, x.2.2.2.2.2.2.2.2.2.2.2.2.2.2.1, x.2.2.2.2.2.2.2.2.2.2.2.2.2.2.2.1, x.2.2.2.2.2.2.2.2.2.2.2.2.2.2.2.2.1, x.2.2.2.2.2.2.2.2.2.2.2.2.2.2.2.2.2.1, x.2.2.2.2.2.2.2.2.2.2.2.2.2.2.2.2.2.2.1, x.2.2.2.2.2.2.2.2.2.2.2.2.2.2.2.2.2.2.2.1, x.2.2.2.2.2.2.2.2.2.2.2.2.2.2.2.2.2.2.2.2.1, v1, x.2.2.2.2.2.2.2.2.2.2.2.2.2.2.2.2.2.2.2.2.2.2))
   (bindO (F54 K (Go.bits Go.BinOp.and Go.IntKind.i64 x.1 65535, 65408, 65534)) fun v2 =>
   branch v2
    (bindO (F269 K (x.2.2.2.2.2.2.2.2.2.2.2.2.2.2.2.2.2.2.2.2.2.2.1, w64 ((Go.bits Go.BinOp.and Go.IntKind.i64 x.1 65535) - 65408), x.2.1)) fun v3 =>
    some (true, x.2.2.1, x.2.2.2.1, x.2.2.2.2.1, x.2.2.2.2.2.1, x.2.2.2.2.2.2.1, x.2.2.2.2.2.2.2.1, x.2.2.2.2.2.2.2.2.1, x.2.2.2.2.2.2.2.2.2.1, x.2.2.2.2.2.2.2.2.2.2.1, x.2.2.2.2.2.2.2.2.2.2.2.1, x.2.2.2.2.2.2.2.2.2.2.2.2.1, x.2.2.2.2.2.2.2.2.2.2.2.2.2.1, x.2.2.2.2.2.2.2.2.2.2.2.2.2.2.1, x.2.2.2.2.2.2.2.2.2.2.2.2.2.2.2.1, x.2.2.2.2.2.2.2.2.2.2.2.2.2.2.2.2.1, x.2.2.2.2.2.2.2.2.2.2.2.2.2.2.2.2.2.1, x.2.2.2.2.2.2.2.2.2.2.2.2.2.2.2.2.2.2.1, x.2.2.2.2.2.2.2.2.2.2.2.2.2.2.2.2.2.2.2.1, x.2.2.2.2.2.2.2.2.2.2.2.2.2.2.2.2.2.2.2.2.1, x.2.2.2.2.2.2.2.2.2.2.2.2.2.2.2.2.2.2.2.2.2.1, v3, x.2.2.2.2.2.2.2.2.2.2.2.2.2.2.2.2.2.2.2.2.2.2.2))
    (branch (decide ((Go.bits Go.BinOp.and Go.IntKind.i64 x.1 65535) = 65281))
     (branch (decide ((x.2.2.2.2.2.2.2.2.2.2.2.2.2.2.2.2.2.2.2.2.2.2.2.1.length : Int) = 100))
      (some (false, x.2.2))
      (bindO (F111 K x.2.2.2.2.2.2.2.2.2.2.2.2.2.2.2.2.2.2.2.2.2.2.2.1) fun v4 =>
      guard (fitN (v4.length + [x.2.1].length) 8) <|
      some (true, x.2.2.1, x.2.2.2.1, x.2.2.2.2.1, x.2.2.2.2.2.1, x.2.2.2.2.2.2.1, x.2.2.2.2.2.2.2.1, x.2.2.2.2.2.2.2.2.1, x.2.2.2.2.2.2.2.2.2.1, x.2.2.2.2.2.2.2.2.2.2.1, x.2.2.2.2.2.2.2.2.2.2.2.1, x.2.2.2.2.2.2.2.2.2.2.2.2.1, x.2.2.2.2.2.2.2.2.2.2.2.2.2.1, x.2.2.2.2.2.2.2.2.2.2.2.2.2.2.1, x.2.2.2.2.2.2.2.2.2.2.2.2.2.2.2.1, x.2.2.2.2.2.2.2.2.2.2.2.2.2.2.2.2.1, x.2.2.2.2.2.2.2.2.2.2.2.2.2.2.2.2.2.1, x.2.2.2.2.2.2.2.2.2.2.2.2.2.2.2.2.2.2.1, x.2.2.2.2.2.2.2.2.2.2.2.2.2.2.2.2.2.2.2.1, x.2.2.2.2.2.2.2.2.2.2.2.2.2.2.2.2.2.2.2.2.1, x.2.2.2.2.2.2.2.2.2.2.2.2.2.2.2.2.2.2.2.2.2.1, x.2.2.2.2.2.2.2.2.2.2.2.2.2.2.2.2.2.2.2.2.2.2.1, v4 ++ [x.2.1], x.2.2.2.2.2.2.2.2.2.2.2.2.2.2.2.2.2.2.2.2.2.2.2.2)))
     (bindO (F270 K (x.2.2.2.2.2.2.2.2.2.2.2.2.2.2.1, x.2.2.2.2.2.2.2.2.2.2.2.2.2.2.2.1, x.2.2.2.2.2.2.2.2.2.2.2.2.2.2.2.2.1, x.2.2.2.2.2.2.2.2.2.2.2.2.2.2.2.2.2.1, x.2.2.2.2.2.2.2.2.2.2.2.2.2.2.2.2.2.2.1, x.2.2.2.2.2.2.2.2.2.2.2.2.2.2.2.2.2.2.2.1, x.2.2.2.2.2.2.2.2.2.2.2.2.2.2.2.2.2.2.2.2.1, Go.bits Go.BinOp.and Go.IntKind.i64 x.1 65535, x.2.1)) fun v5 =>
     some (true, x.2.2.1, x.2.2.2.1, x.2.2.2.2.1, x.2.2.2.2.2.1, x.2.2.2.2.2.2.1, x.2.2.2.2.2.2.2.1, x.2.2.2.2.2.2.2.2.1, x.2.2.2.2.2.2.2.2.2.1, x.2.2.2.2.2.2.2.2.2.2.1, x.2.2.2.2.2.2.2.2.2.2.2.1, x.2.2.2.2.2.2.2.2.2.2.2.2.1, x.2.2.2.2.2.2.2.2.2.2.2.2.2.1, v5.1, v5.2.1, v5.2.2.1, v5.2.2.2.1, v5.2.2.2.2.1, v5.2.2.2.2.2.1, v5.2.2.2.2.2.2, x.2.2.2.2.2.2.2.2.2.2.2.2.2.2.2.2.2.2.2.2.2))))
def ct254 (K : Nat) : Ct := ⟨[.l (.ptr 0 0 0), .l i6, .l i6], [⟨23, false, .mix (some 30) [mN]⟩], [.l (.v .b)], [⟨23, false, .mix (some 30) [mN]⟩], [], F254 K⟩
theorem c254 (K : Nat) : CtOk prog 254 (ct254 K) :=
  cmk (K := K) (an := (sN (sN (.seq (.blk (sN (.cond .no (sN (.cond .no (sN (.cond (.seq (sN (.cond .no .no)) .no) .no))))))) .no)))) func254 (kX (c54 K) (kX (c111 K) (kX (c269 K) (kX (c270 K) kN))))
def F230 (K : Nat) (x : Int × Int × Int × Bool × Int × Bool × MM) : Option (Int × Bool × Int × Bool × MM) :=
  bindO (F254 K (x.1, x.2.1, x.2.2.2.2.2.2)) fun v0 =>
  branch (!v0.1)
   (some (x.2.2.1, x.2.2.2.1, x.2.2.2.2.1, true, v0.2))
   (some (x.2.2.1, x.2.2.2.1, x.2.2.2.2.1, x.2.2.2.2.2.1, v0.2))
def ct230 (K : Nat) : Ct := ⟨[.l (.ptr 0 0 0), .l i6, .l i6], [⟨5, false, .mix (some 118) [[.l (.ptr 1 0 0), .l i6, .l (.v .b), .l i6, .l (.v .b)]]⟩, ⟨23, false, .mix (some 30) [mN]⟩], [], [⟨5, false, .mix (some 118) [[.l (.ptr 1 0 0), .l i6, .l (.v .b), .l i6, .l (.v .b)]]⟩, ⟨23, false, .mix (some 30) [mN]⟩], [], F230 K⟩
theorem c230 (K : Nat) : CtOk prog 230 (ct230 K) :=
  cmk (K := K) (an := .no) func230 (kX (c254 K) kN)
def F159 (K : Nat) (x : Int × Int × Int × Bool × Int × Bool × MM) : Option (Int × Bool × Int × Bool × MM) :=
  branch (decide (x.1 = 0))
   (bindO (F229r0 K (0, x.2.2)) fun v0 =>
   some (x.2.2.1, x.2.2.2.1, x.2.2.2.2.1, x.2.2.2.2.2.1, x.2.2.2.2.2.2.1, x.2.2.2.2.2.2.2.1, x.2.1, x.2.2.2.2.2.2.2.2.2))
   (branch (decide (x.1 = 1))
    (bindO (F229r1 K (1, x.2.2)) fun v1 =>
    some (x.2.2.1, x.2.2.2.1, x.2.2.2.2.1, x.2.2.2.2.2.1, x.2.2.2.2.2.2.1, x.2.2.2.2.2.2.2.1, x.2.2.2.2.2.2.2.2.1, x.2.1, x.2.2.2.2.2.2.2.2.2.2))
    (branch (decide (x.1 = 2))
     (bindO (F229r2 K (2, x.2.2)) fun v2 =>
     some (x.2.2.1, x.2.2.2.1, x.2.2.2.2.1, x.2.2.2.2.2.1, x.2.2.2.2.2.2.1, x.2.2.2.2.2.2.2.1, x.2.2.2.2.2.2.2.2.1, x.2.2.2.2.2.2.2.2.2.1, x.2.1, x.2.2.2.2.2.2.2.2.2.2.2))
     (branch (decide (x.1 = 3))
      (bindO (F229r3 K (3, x.2.2)) fun v3 =>
      some (x.2.2.1, x.2.2.2.1, x.2.2.2.2.1, x.2.2.2.2.2.1, x.2.2.2.2.2.2.1, x.2.2.2.2.2.2.2.1, x.2.2.2.2.2.2.2.2.1, x.2.2.2.2.2.2.2.2.2.1, x.2.2.2.2.2.2.2.2.2.2.1, x.2.1, x.2.2.2.2.2.2.2.2.2.2.2.2))
      (branch (decide (x.1 = 4))
       (bindO (F229r4 K (4, x.2.2)) fun v4 =>
       some (x.2.2.1, x.2.2.2.1, x.2.2.2.2.1, x.2.2.2.2.2.1, x.2.2.2.2.2.2.1, x.2.2.2.2.2.2.2.1, x.2.2.2.2.2.2.2.2.1, x.2.2.2.2.2.2.2.2.2.1, x.2.2.2.2.2.2.2.2.2.2.1, x.2.2.2.2.2.2.2.2.2.2.2.1, x.2.1, x.2.2.2.2.2.2.2.2.2.2.2.2.2))
       (branch (decide (x.1 = 5))
        (bindO (F229r5 K (5, x.2.2)) fun v5 =>
        some (x.2.2.1, x.2.2.2.1, x.2.2.2.2.1, x.2.2.2.2.2.1, x.2.2.2.2.2.2.1, x.2.2.2.2.2.2.2.1, x.2.2.2.2.2.2.2.2.1, x.2.2.2.2.2.2.2.2.2.1, x.2.2.2.2.2.2.2.2.2.2.1, x.2.2.2.2.2.2.2.2.2.2.2.1, x.2.2.2.2.2.2.2.2.2.2.2.2.1, x.2.1, x.2.2.2.2.2.2.2.2.2.2.2.2.2.2))
        (branch (decide (x.1 = 6))
         (bindO (F229r6 K (6, x.2.2)) fun v6 =>
         bindO (F215 K x.2.2) fun v7 =>
         bindO (F230 K (v7.1, x.2)) fun v8 =>
         some v8)
         (branch (decide (x.1 = 7))
          (bindO (F229r7 K (7, x.2.2)) fun v9 =>
          some (x.2.2.1, x.2.2.2.1, x.2.2.2.2.1, x.2.2.2.2.2.1, x.2.1, x.2.2.2.2.2.2.2))
          (none))))))))
def ct159 (K : Nat) : Ct := ⟨[.l (.ptr 0 0 0), .l i6, .l i6], [⟨5, false, .mix (some 118) [[.l (.ptr 1 0 0), .l i6, .l (.v .b), .l i6, .l (.v .b)]]⟩, ⟨23, false, .mix (some 30) [mN]⟩], [], [⟨5, false, .mix (some 118) [[.l (.ptr 1 0 0), .l i6, .l (.v .b), .l i6, .l (.v .b)]]⟩, ⟨23, false, .mix (some 30) [mN]⟩], [], F159 K⟩
theorem c159 (K : Nat) : CtOk prog 159 (ct159 K) :=
  cmk (K := K) (an := (.seq (.seq (.reg [] [(1, .split 1 [0, 1, 2, 3, 4, 5, 6, 7])]) (sN (.cond .no .no))) .no)) func159 (ctabOk_keep (c229r0k K) (ctabOk_keep (c229r1k K) (ctabOk_keep (c229r2k K) (ctabOk_keep (c229r3k K) (ctabOk_keep (c229r4k K) (ctabOk_keep (c229r5k K) (ctabOk_keep (c229r6k K) (ctabOk_keep (c229r7k K) (ctabOk_keep (c215k K) (kX (c230 K) kN))))))))))
def F211 (K : Nat) (x : Int × Int) : Option (Bool) :=
  some (!(decide ((Go.bits Go.BinOp.and Go.IntKind.i64 x.1 x.2) = 0)))
def ct211 (K : Nat) : Ct := ⟨[.l i6, .l i6], [], [.l (.v .b)], [], [], F211 K⟩
theorem c211 (K : Nat) : CtOk prog 211 (ct211 K) :=
  cmk (K := K) (an := (sN .no)) func211 kN
def F154 (K : Nat) (x : Int × Int × Int × Int × Bool × Int × Bool × MM) : Option (Int × Bool × Int × Bool × MM) :=
  bindO (F158 K x.2.2) fun v0 =>
  guard (decide (0 ≤ x.2.1)) <|
  branch (decide (x.1 = 0))
   (bindO (F209 K (x.2.1, v0.1, x.2.2.2.2.2.2.2.2.1)) fun v1 =>
   bindO (F159 K (x.2.2.1, v1.1, x.2.2.2.1, x.2.2.2.2.1, x.2.2.2.2.2.1, x.2.2.2.2.2.2.1, x.2.2.2.2.2.2.2.1, v1.2, x.2.2.2.2.2.2.2.2.2)) fun v2 =>
   some v2)
   (branch (decide (x.1 = 1))
    (bindO (F211 K (x.2.2.2.2.2.2.2.2.1, 16)) fun v3 =>
    bindO (F210 K (decide ((Go.bits Go.BinOp.and Go.IntKind.i64 v0.1 (shlI Go.IntKind.i64 1 x.2.1)) = 0), false, true, v3)) fun v4 =>
    some (x.2.2.2.1, x.2.2.2.2.1, x.2.2.2.2.2.1, x.2.2.2.2.2.2.1, x.2.2.2.2.2.2.2.1, v4, x.2.2.2.2.2.2.2.2.2))
    (branch (decide (x.1 = 2))
     (bindO (F159 K (x.2.2.1, Go.bits Go.BinOp.andNot Go.IntKind.i64 v0.1 (shlI Go.IntKind.i64 1 x.2.1), x.2.2.2)) fun v5 =>
     some v5)
     (bindO (F159 K (x.2.2.1, Go.bits Go.BinOp.or Go.IntKind.i64 v0.1 (shlI Go.IntKind.i64 1 x.2.1), x.2.2.2)) fun v6 =>
     some v6)))
def ct154 (K : Nat) : Ct := ⟨[.l (.ptr 0 0 0), .l i6, .l i6, .l i6], [⟨5, false, .mix (some 118) [[.l (.ptr 1 0 0), .l i6, .l (.v .b), .l i6, .l (.v .b)]]⟩, ⟨23, false, .mix (some 30) [mN]⟩], [], [⟨5, false, .mix (some 118) [[.l (.ptr 1 0 0), .l i6, .l (.v .b), .l i6, .l (.v .b)]]⟩, ⟨23, false, .mix (some 30) [mN]⟩], [], F154 K⟩
theorem c154 (K : Nat) : CtOk prog 154 (ct154 K) :=
  cmk (K := K) (an := (sN (sN (sN (sN (.blk (sN (.cond (sN .no) (sN (.cond .no (sN .no))))))))))) func154 (ctabOk_keep (c158k K) (kX (c210 K) (kX (c209 K) (kX (c159 K) (kX (c211 K) kN)))))
def F193 (K : Nat) (x : Int) : Option (Int) :=
  bindO (F80 K x) fun v0 =>
  branch (!v0)
   (some 0)
   (branch (decide (127 < x))
    (some (w64 (x - 256)))
    (some x))
def ct193 (K : Nat) : Ct := ⟨[.l i6], [], [.l i6], [], [], F193 K⟩
theorem c193 (K : Nat) : CtOk prog 193 (ct193 K) :=
  cmk (K := K) (an := (sN (.seq (.blk (sN (.cond .no (sN (.cond .no .no))))) .no))) func193 (kX (c80 K) kN)
def F251 (K : Nat) (x : Int × Bool × Int × Bool × MM) : Option (Int × Bool × Int × Bool × MM) :=
  bindO (F193 K x.2.2.1) fun v0 =>
  some (x.1, x.2.1, x.2.2.1, x.2.2.2.1, x.2.2.2.2.1, x.2.2.2.2.2.1, x.2.2.2.2.2.2.1, x.2.2.2.2.2.2.2.1, x.2.2.2.2.2.2.2.2.1, x.2.2.2.2.2.2.2.2.2.1, x.2.2.2.2.2.2.2.2.2.2.1, x.2.2.2.2.2.2.2.2.2.2.2.1, x.2.2.2.2.2.2.2.2.2.2.2.2.1, Go.bits Go.BinOp.and Go.IntKind.i64 (w64 (x.2.2.2.2.2.2.2.2.2.2.2.2.2.1 + v0)) 65535, x.2.2.2.2.2.2.2.2.2.2.2.2.2.2)
def ct251 (K : Nat) : Ct := ⟨[.l (.ptr 0 0 0)], [⟨5, false, .mix (some 118) [[.l (.ptr 1 0 0), .l i6, .l (.v .b), .l i6, .l (.v .b)]]⟩, ⟨23, false, .mix (some 30) [mN]⟩], [], [⟨5, false, .mix (some 118) [[.l (.ptr 1 0 0), .l i6, .l (.v .b), .l i6, .l (.v .b)]]⟩, ⟨23, false, .mix (some 30) [mN]⟩], [], F251 K⟩
theorem c251 (K : Nat) : CtOk prog 251 (ct251 K) :=
  cmk (K := K) (an := .no) func251 (kX (c193 K) kN)
def F220 (K : Nat) (x : Int × Int × Bool × Int × Bool × MM) : Option (Bool × Int × Bool × Int × Bool × MM) :=
  bindO (α := Int × Int × Int × Bool × Int × Bool × MM) (branch (decide (2 ≤ x.1))
     (some (x.1, 16, x.2))
     (some (x.1, 128, x.2))) fun v0 =>
  bindO (F211 K (v0.2.2.2.2.2.2.2.1, v0.2.1)) fun v1 =>
  some (decide (v1 = (decide ((Int.tmod v0.1 2) = 1))), v0.2.2)
def ct220 (K : Nat) : Ct := ⟨[.l (.ptr 0 0 0), .l i6], [⟨5, false, .mix (some 118) [[.l (.ptr 1 0 0), .l i6, .l (.v .b), .l i6, .l (.v .b)]]⟩, ⟨23, false, .mix (some 30) [mN]⟩], [.l (.v .b)], [⟨5, false, .mix (some 118) [[.l (.ptr 1 0 0), .l i6, .l (.v .b), .l i6, .l (.v .b)]]⟩, ⟨23, false, .mix (some 30) [mN]⟩], [], F220 K⟩
theorem c220 (K : Nat) : CtOk prog 220 (ct220 K) :=
  cmk (K := K) (an := (sN (sN (.seqJ [(1000000, ⟨(.l (.ptr 0 0 0) :: .l i6 :: ru 3 (.l i6 :: ru 16 [])), [(0, ⟨5, false, .mix (some 118) [[.l (.ptr 1 0 0), .l i6, .l (.v .b), .l i6, .l (.v .b)]]⟩), (1, ⟨23, false, .mix (some 30) [mN]⟩)]⟩)] false (sN .no) .no)))) func220 (kX (c211 K) kN)
def ct220k (K : Nat) : Ct := ⟨[.l (.ptr 0 0 0), .l i6], [⟨5, false, .mix (some 118) [[.l (.ptr 1 0 0), .l i6, .l (.v .b), .l i6, .l (.v .b)]]⟩, ⟨23, false, .mix (some 30) [mN]⟩], [.l (.v .b)], [⟨5, false, .mix (some 118) [[.l (.ptr 1 0 0), .l i6, .l (.v .b), .l i6, .l (.v .b)]]⟩, ⟨23, false, .mix (some 30) [mN]⟩], keepRefs, F220 K⟩
theorem keep220 (K : Nat) (x : Int × Int × Bool × Int × Bool × MM) (y : Bool × Int × Bool × Int × Bool × MM) (h : F220 K x = some y) : y.2 = x.2 := by
  unfold F220 at h
  obtain ⟨_, hb, h⟩ := bindO_some h
  rcases branch_some hb with ⟨_, hb⟩ | ⟨_, hb⟩
  ·
    cases hb
    obtain ⟨_, hb, h⟩ := bindO_some h
    cases h; rfl
  ·
    cases hb
    obtain ⟨_, hb, h⟩ := bindO_some h
    cases h; rfl
theorem c220k (K : Nat) : CtKeep prog 220 (ct220k K) := ct_keep3 (Eq.mpr (by kernel_rfl : CtOk prog 220 (ct220k K) = CtOk prog 220 (ct220 K)) (c220 K)) (by kernel_rfl) (Eq.mpr (by kernel_rfl : KeepsF [.l (.ptr 0 0 0), .l i6] [⟨5, false, .mix (some 118) [[.l (.ptr 1 0 0), .l i6, .l (.v .b), .l i6, .l (.v .b)]]⟩, ⟨23, false, .mix (some 30) [mN]⟩] [.l (.v .b)] (F220 K) = ∀ (x : Int × Int × Bool × Int × Bool × MM) (y : Bool × Int × Bool × Int × Bool × MM), F220 K x = some y → y.2 = x.2) (keep220 K))
def F212 (K : Nat) (x : Int × Int × Bool × Int × Bool × MM) : Option (Bool × Int × Bool × Int × Bool × MM) :=
  branch (decide (x.1 = 1))
   (bindO (F230 K (x.2.2.2.1, Go.bits Go.BinOp.and Go.IntKind.i64 x.2.2.2.2.2.2.2.2.2.2.2.2.2.1 255, x.2)) fun v0 =>
   bindO (F230 K (w64 (v0.2.2.1 + 1), shrI Go.IntKind.i64 v0.2.2.2.2.2.2.2.2.2.2.2.2.1 8, v0)) fun v1 =>
   some (true, v1))
   (branch (decide (x.1 = 3))
    (bindO (F251 K x.2) fun v2 =>
    some (true, v2))
    (branch (decide (4 ≤ x.1))
     (bindO (F220 K (w64 (x.1 - 4), x.2)) fun v3 =>
     branch (!v3.1)
      (some (false, x.2))
      (bindO (F251 K x.2) fun v4 =>
      some (true, v4)))
     (some (true, x.2))))
def ct212 (K : Nat) : Ct := ⟨[.l (.ptr 0 0 0), .l i6], [⟨5, false, .mix (some 118) [[.l (.ptr 1 0 0), .l i6, .l (.v .b), .l i6, .l (.v .b)]]⟩, ⟨23, false, .mix (some 30) [mN]⟩], [.l (.v .b)], [⟨5, false, .mix (some 118) [[.l (.ptr 1 0 0), .l i6, .l (.v .b), .l i6, .l (.v .b)]]⟩, ⟨23, false, .mix (some 30) [mN]⟩], [], F212 K⟩
theorem c212 (K : Nat) : CtOk prog 212 (ct212 K) :=
  cmk (K := K) (an := (sN (.seq (.blk (sN (.cond .no (sN (.cond .no (sN (.cond (.seq (sN (.cond .no .no)) .no) .no))))))) .no))) func212 (kX (c230 K) (kX (c251 K) (ctabOk_keep (c220k K) kN)))
def F226h0 (K : Nat) (x : Int × Int × Bool × Int × Bool × MM) : Option (Int × Bool × Int × Bool × MM) :=
  some x.2
def ct226h0 (K : Nat) : Ct := ⟨[.l (.ptr 0 0 0), .l (.k .i64 (0))], [⟨5, false, .mix (some 118) [[.l (.ptr 1 0 0), .l i6, .l (.v .b), .l i6, .l (.v .b)]]⟩, ⟨23, false, .mix (some 30) [mN]⟩], [.l (.ptr 1 0 2), .l (.ptr 1 0 3)], [⟨5, false, .mix (some 118) [[.l (.ptr 1 0 0), .l i6, .l (.v .b), .l i6, .l (.v .b)]]⟩, ⟨23, false, .mix (some 30) [mN]⟩], [], F226h0 K⟩
theorem c226h0 (K : Nat) : CtOk prog 226 (ct226h0 K) :=
  cmk (K := K) (an := (sN (sN (.seq (sN (.blk (sN (.cond .no (sN (.cond .no (sN (.cond .no .no)))))))) .no)))) func226 kN
def ct226h0k (K : Nat) : Ct := ⟨[.l (.ptr 0 0 0), .l (.k .i64 (0))], [⟨5, false, .mix (some 118) [[.l (.ptr 1 0 0), .l i6, .l (.v .b), .l i6, .l (.v .b)]]⟩, ⟨23, false, .mix (some 30) [mN]⟩], [.l (.ptr 1 0 2), .l (.ptr 1 0 3)], [⟨5, false, .mix (some 118) [[.l (.ptr 1 0 0), .l i6, .l (.v .b), .l i6, .l (.v .b)]]⟩, ⟨23, false, .mix (some 30) [mN]⟩], keepRefs, F226h0 K⟩
theorem keep226h0 (K : Nat) (x : Int × Int × Bool × Int × Bool × MM) (y : Int × Bool × Int × Bool × MM) (h : F226h0 K x = some y) : y = x.2 := by
  unfold F226h0 at h
  cases h; rfl
theorem c226h0k (K : Nat) : CtKeep prog 226 (ct226h0k K) := ct_keep3 (Eq.mpr (by kernel_rfl : CtOk prog 226 (ct226h0k K) = CtOk prog 226 (ct226h0 K)) (c226h0 K)) (by kernel_rfl) (Eq.mpr (by kernel_rfl : KeepsF [.l (.ptr 0 0 0), .l (.k .i64 (0))] [⟨5, false, .mix (some 118) [[.l (.ptr 1 0 0), .l i6, .l (.v .b), .l i6, .l (.v .b)]]⟩, ⟨23, false, .mix (some 30) [mN]⟩] [.l (.ptr 1 0 2), .l (.ptr 1 0 3)] (F226h0 K) = ∀ (x : Int × Int × Bool × Int × Bool × MM) (y : Int × Bool × Int × Bool × MM), F226h0 K x = some y → y = x.2) (keep226h0 K))
def F226h1 (K : Nat) (x : Int × Int × Bool × Int × Bool × MM) : Option (Int × Bool × Int × Bool × MM) :=
  some x.2
def ct226h1 (K : Nat) : Ct := ⟨[.l (.ptr 0 0 0), .l (.k .i64 (1))], [⟨5, false, .mix (some 118) [[.l (.ptr 1 0 0), .l i6, .l (.v .b), .l i6, .l (.v .b)]]⟩, ⟨23, false, .mix (some 30) [mN]⟩], [.l (.ptr 1 0 4), .l (.ptr 1 0 5)], [⟨5, false, .mix (some 118) [[.l (.ptr 1 0 0), .l i6, .l (.v .b), .l i6, .l (.v .b)]]⟩, ⟨23, false, .mix (some 30) [mN]⟩], [], F226h1 K⟩
theorem c226h1 (K : Nat) : CtOk prog 226 (ct226h1 K) :=
  cmk (K := K) (an := (sN (sN (.seq (sN (.blk (sN (.cond .no (sN (.cond .no (sN (.cond .no .no)))))))) .no)))) func226 kN
def ct226h1k (K : Nat) : Ct := ⟨[.l (.ptr 0 0 0), .l (.k .i64 (1))], [⟨5, false, .mix (some 118) [[.l (.ptr 1 0 0), .l i6, .l (.v .b), .l i6, .l (.v .b)]]⟩, ⟨23, false, .mix (some 30) [mN]⟩], [.l (.ptr 1 0 4), .l (.ptr 1 0 5)], [⟨5, false, .mix (some 118) [[.l (.ptr 1 0 0), .l i6, .l (.v .b), .l i6, .l (.v .b)]]⟩, ⟨23, false, .mix (some 30) [mN]⟩], keepRefs, F226h1 K⟩
theorem keep226h1 (K : Nat) (x : Int × Int × Bool × Int × Bool × MM) (y : Int × Bool × Int × Bool × MM) (h : F226h1 K x = some y) : y = x.2 := by
  unfold F226h1 at h
  cases h; rfl
theorem c226h1k (K : Nat) : CtKeep prog 226 (ct226h1k K) := ct_keep3 (Eq.mpr (by kernel_rfl : CtOk prog 226 (ct226h1k K) = CtOk prog 226 (ct226h1 K)) (c226h1 K)) (by kernel_rfl) (Eq.mpr (by kernel_rfl : KeepsF [.l (.ptr 0 0 0), .l (.k .i64 (1))] [⟨5, false, .mix (some 118) [[.l (.ptr 1 0 0), .l i6, .l (.v .b), .l i6, .l (.v .b)]]⟩, ⟨23, false, .mix (some 30) [mN]⟩] [.l (.ptr 1 0 4), .l (.ptr 1 0 5)] (F226h1 K) = ∀ (x : Int × Int × Bool × Int × Bool × MM) (y : Int × Bool × Int × Bool × MM), F226h1 K x = some y → y = x.2) (keep226h1 K))
def F226h2 (K : Nat) (x : Int × Int × Bool × Int × Bool × MM) : Option (Int × Bool × Int × Bool × MM) :=
  some x.2
def ct226h2 (K : Nat) : Ct := ⟨[.l (.ptr 0 0 0), .l (.k .i64 (2))], [⟨5, false, .mix (some 118) [[.l (.ptr 1 0 0), .l i6, .l (.v .b), .l i6, .l (.v .b)]]⟩, ⟨23, false, .mix (some 30) [mN]⟩], [.l (.ptr 1 0 6), .l (.ptr 1 0 7)], [⟨5, false, .mix (some 118) [[.l (.ptr 1 0 0), .l i6, .l (.v .b), .l i6, .l (.v .b)]]⟩, ⟨23, false, .mix (some 30) [mN]⟩], [], F226h2 K⟩
theorem c226h2 (K : Nat) : CtOk prog 226 (ct226h2 K) :=
  cmk (K := K) (an := (sN (sN (.seq (sN (.blk (sN (.cond .no (sN (.cond .no (sN (.cond .no .no)))))))) .no)))) func226 kN
def ct226h2k (K : Nat) : Ct := ⟨[.l (.ptr 0 0 0), .l (.k .i64 (2))], [⟨5, false, .mix (some 118) [[.l (.ptr 1 0 0), .l i6, .l (.v .b), .l i6, .l (.v .b)]]⟩, ⟨23, false, .mix (some 30) [mN]⟩], [.l (.ptr 1 0 6), .l (.ptr 1 0 7)], [⟨5, false, .mix (some 118) [[.l (.ptr 1 0 0), .l i6, .l (.v .b), .l i6, .l (.v .b)]]⟩, ⟨23, false, .mix (some 30) [mN]⟩], keepRefs, F226h2 K⟩
theorem keep226h2 (K : Nat) (x : Int × Int × Bool × Int × Bool × MM) (y : Int × Bool × Int × Bool × MM) (h : F226h2 K x = some y) : y = x.2 := by
  unfold F226h2 at h
  cases h; rfl
theorem c226h2k (K : Nat) : CtKeep prog 226 (ct226h2k K) := ct_keep3 (Eq.mpr (by kernel_rfl : CtOk prog 226 (ct226h2k K) = CtOk prog 226 (ct226h2 K)) (c226h2 K)) (by kernel_rfl) (Eq.mpr (by kernel_rfl : KeepsF [.l (.ptr 0 0 0), .l (.k .i64 (2))] [⟨5, false, .mix (some 118) [[.l (.ptr 1 0 0), .l i6, .l (.v .b), .l i6, .l (.v .b)]]⟩, ⟨23, false, .mix (some 30) [mN]⟩] [.l (.ptr 1 0 6), .l (.ptr 1 0 7)] (F226h2 K) = ∀ (x : Int × Int × Bool × Int × Bool × MM) (y : Int × Bool × Int × Bool × MM), F226h2 K x = some y → y = x.2) (keep226h2 K))
def F226h3 (K : Nat) (x : Int × Int × Bool × Int × Bool × MM) : Option (Int × Bool × Int × Bool × MM) :=
  some x.2
def ct226h3 (K : Nat) : Ct := ⟨[.l (.ptr 0 0 0), .l (.k .i64 (3))], [⟨5, false, .mix (some 118) [[.l (.ptr 1 0 0), .l i6, .l (.v .b), .l i6, .l (.v .b)]]⟩, ⟨23, false, .mix (some 30) [mN]⟩], [.l (.ptr 1 0 0), .l (.ptr 1 0 1)], [⟨5, false, .mix (some 118) [[.l (.ptr 1 0 0), .l i6, .l (.v .b), .l i6, .l (.v .b)]]⟩, ⟨23, false, .mix (some 30) [mN]⟩], [], F226h3 K⟩
theorem c226h3 (K : Nat) : CtOk prog 226 (ct226h3 K) :=
  cmk (K := K) (an := (sN (sN (.seq (sN (.blk (sN (.cond .no (sN (.cond .no (sN (.cond .no .no)))))))) .no)))) func226 kN
def ct226h3k (K : Nat) : Ct := ⟨[.l (.ptr 0 0 0), .l (.k .i64 (3))], [⟨5, false, .mix (some 118) [[.l (.ptr 1 0 0), .l i6, .l (.v .b), .l i6, .l (.v .b)]]⟩, ⟨23, false, .mix (some 30) [mN]⟩], [.l (.ptr 1 0 0), .l (.ptr 1 0 1)], [⟨5, false, .mix (some 118) [[.l (.ptr 1 0 0), .l i6, .l (.v .b), .l i6, .l (.v .b)]]⟩, ⟨23, false, .mix (some 30) [mN]⟩], keepRefs, F226h3 K⟩
theorem keep226h3 (K : Nat) (x : Int × Int × Bool × Int × Bool × MM) (y : Int × Bool × Int × Bool × MM) (h : F226h3 K x = some y) : y = x.2 := by
  unfold F226h3 at h
  cases h; rfl
theorem c226h3k (K : Nat) : CtKeep prog 226 (ct226h3k K) := ct_keep3 (Eq.mpr (by kernel_rfl : CtOk prog 226 (ct226h3k K) = CtOk prog 226 (ct226h3 K)) (c226h3 K)) (by kernel_rfl) (Eq.mpr (by kernel_rfl : KeepsF [.l (.ptr 0 0 0), .l (.k .i64 (3))] [⟨5, false, .mix (some 118) [[.l (.ptr 1 0 0), .l i6, .l (.v .b), .l i6, .l (.v .b)]]⟩, ⟨23, false, .mix (some 30) [mN]⟩] [.l (.ptr 1 0 0), .l (.ptr 1 0 1)] (F226h3 K) = ∀ (x : Int × Int × Bool × Int × Bool × MM) (y : Int × Bool × Int × Bool × MM), F226h3 K x = some y → y = x.2) (keep226h3 K))
def F213 (K : Nat) (x : Int × Int × Int × Bool × Int × Bool × MM) : Option (Int × Bool × Int × Bool × MM) :=
  branch (decide (x.1 = 3))
   (some (x.2.2.1, x.2.2.2.1, x.2.2.2.2.1, x.2.2.2.2.2.1, x.2.2.2.2.2.2.1, x.2.2.2.2.2.2.2.1, x.2.2.2.2.2.2.2.2.1, x.2.2.2.2.2.2.2.2.2.1, x.2.2.2.2.2.2.2.2.2.2.1, x.2.2.2.2.2.2.2.2.2.2.2.1, x.2.2.2.2.2.2.2.2.2.2.2.2.1, x.2.2.2.2.2.2.2.2.2.2.2.2.2.1, Go.bits Go.BinOp.and Go.IntKind.i64 x.2.1 65535, x.2.2.2.2.2.2.2.2.2.2.2.2.2.2.2))
   (branch (decide (x.1 = 0))
    (bindO (F226h0 K (0, x.2.2)) fun v0 =>
    some (x.2.2.1, x.2.2.2.1, x.2.2.2.2.1, x.2.2.2.2.2.1, x.2.2.2.2.2.2.1, x.2.2.2.2.2.2.2.1, Go.bits Go.BinOp.and Go.IntKind.i64 (shrI Go.IntKind.i64 x.2.1 8) 255, Go.bits Go.BinOp.and Go.IntKind.i64 x.2.1 255, x.2.2.2.2.2.2.2.2.2.2))
    (branch (decide (x.1 = 1))
     (bindO (F226h1 K (1, x.2.2)) fun v1 =>
     some (x.2.2.1, x.2.2.2.1, x.2.2.2.2.1, x.2.2.2.2.2.1, x.2.2.2.2.2.2.1, x.2.2.2.2.2.2.2.1, x.2.2.2.2.2.2.2.2.1, x.2.2.2.2.2.2.2.2.2.1, Go.bits Go.BinOp.and Go.IntKind.i64 (shrI Go.IntKind.i64 x.2.1 8) 255, Go.bits Go.BinOp.and Go.IntKind.i64 x.2.1 255, x.2.2.2.2.2.2.2.2.2.2.2.2))
     (branch (decide (x.1 = 2))
      (bindO (F226h2 K (2, x.2.2)) fun v2 =>
      some (x.2.2.1, x.2.2.2.1, x.2.2.2.2.1, x.2.2.2.2.2.1, x.2.2.2.2.2.2.1, x.2.2.2.2.2.2.2.1, x.2.2.2.2.2.2.2.2.1, x.2.2.2.2.2.2.2.2.2.1, x.2.2.2.2.2.2.2.2.2.2.1, x.2.2.2.2.2.2.2.2.2.2.2.1, Go.bits Go.BinOp.and Go.IntKind.i64 (shrI Go.IntKind.i64 x.2.1 8) 255, Go.bits Go.BinOp.and Go.IntKind.i64 x.2.1 255, x.2.2.2.2.2.2.2.2.2.2.2.2.2.2))
      (none))))
def ct213 (K : Nat) : Ct := ⟨[.l (.ptr 0 0 0), .l i6, .l i6], [⟨5, false, .mix (some 118) [[.l (.ptr 1 0 0), .l i6, .l (.v .b), .l i6, .l (.v .b)]]⟩, ⟨23, false, .mix (some 30) [mN]⟩], [], [⟨5, false, .mix (some 118) [[.l (.ptr 1 0 0), .l i6, .l (.v .b), .l i6, .l (.v .b)]]⟩, ⟨23, false, .mix (some 30) [mN]⟩], [], F213 K⟩
theorem c213 (K : Nat) : CtOk prog 213 (ct213 K) :=
  cmk (K := K) (an := (.seq (sN (.cond .no .no)) (.seq (.reg [] [(1, .split 1 [0, 1, 2])]) .no))) func213 (ctabOk_keep (c226h0k K) (ctabOk_keep (c226h1k K) (ctabOk_keep (c226h2k K) (ctabOk_keep (c226h3k K) kN))))
def F216 (K : Nat) (x : Int × Int × Bool × Int × Bool × MM) : Option (Int × Int × Bool × Int × Bool × MM) :=
  branch (decide (x.1 = 3))
   (some (x.2.2.2.2.2.2.2.2.2.2.2.2.2.1, x.2))
   (branch (decide (x.1 = 0))
    (bindO (F226h0 K (0, x.2)) fun v0 =>
    some (Go.bits Go.BinOp.or Go.IntKind.i64 (shlI Go.IntKind.i64 x.2.2.2.2.2.2.2.1 8) x.2.2.2.2.2.2.2.2.1, x.2))
    (branch (decide (x.1 = 1))
     (bindO (F226h1 K (1, x.2)) fun v1 =>
     some (Go.bits Go.BinOp.or Go.IntKind.i64 (shlI Go.IntKind.i64 x.2.2.2.2.2.2.2.2.2.1 8) x.2.2.2.2.2.2.2.2.2.2.1, x.2))
     (branch (decide (x.1 = 2))
      (bindO (F226h2 K (2, x.2)) fun v2 =>
      some (Go.bits Go.BinOp.or Go.IntKind.i64 (shlI Go.IntKind.i64 x.2.2.2.2.2.2.2.2.2.2.2.1 8) x.2.2.2.2.2.2.2.2.2.2.2.2.1, x.2))
      (none))))
def ct216 (K : Nat) : Ct := ⟨[.l (.ptr 0 0 0), .l i6], [⟨5, false, .mix (some 118) [[.l (.ptr 1 0 0), .l i6, .l (.v .b), .l i6, .l (.v .b)]]⟩, ⟨23, false, .mix (some 30) [mN]⟩], [.l i6], [⟨5, false, .mix (some 118) [[.l (.ptr 1 0 0), .l i6, .l (.v .b), .l i6, .l (.v .b)]]⟩, ⟨23, false, .mix (some 30) [mN]⟩], [], F216 K⟩
theorem c216 (K : Nat) : CtOk prog 216 (ct216 K) :=
  cmk (K := K) (an := (sN (.seq (sN (.cond .no .no)) (.seq (.reg [] [(1, .split 1 [0, 1, 2])]) .no)))) func216 (ctabOk_keep (c226h0k K) (ctabOk_keep (c226h1k K) (ctabOk_keep (c226h2k K) (ctabOk_keep (c226h3k K) kN))))
def ct216k (K : Nat) : Ct := ⟨[.l (.ptr 0 0 0), .l i6], [⟨5, false, .mix (some 118) [[.l (.ptr 1 0 0), .l i6, .l (.v .b), .l i6, .l (.v .b)]]⟩, ⟨23, false, .mix (some 30) [mN]⟩], [.l i6], [⟨5, false, .mix (some 118) [[.l (.ptr 1 0 0), .l i6, .l (.v .b), .l i6, .l (.v .b)]]⟩, ⟨23, false, .mix (some 30) [mN]⟩], keepRefs, F216 K⟩
theorem keep216 (K : Nat) (x : Int × Int × Bool × Int × Bool × MM) (y : Int × Int × Bool × Int × Bool × MM) (h : F216 K x = some y) : y.2 = x.2 := by
  unfold F216 at h
  rcases branch_some h with ⟨_, h⟩ | ⟨_, h⟩
  ·
    cases h; rfl
  ·
    rcases branch_some h with ⟨_, h⟩ | ⟨_, h⟩
    ·
      obtain ⟨_, hb, h⟩ := bindO_some h
      cases h; rfl
    ·
      rcases branch_some h with ⟨_, h⟩ | ⟨_, h⟩
      ·
        obtain ⟨_, hb, h⟩ := bindO_some h
        cases h; rfl
      ·
        rcases branch_some h with ⟨_, h⟩ | ⟨_, h⟩
        ·
          obtain ⟨_, hb, h⟩ := bindO_some h
          cases h; rfl
        ·
          cases h
theorem c216k (K : Nat) : CtKeep prog 216 (ct216k K) := ct_keep3 (Eq.mpr (by kernel_rfl : CtOk prog 216 (ct216k K) = CtOk prog 216 (ct216 K)) (c216 K)) (by kernel_rfl) (Eq.mpr (by kernel_rfl : KeepsF [.l (.ptr 0 0 0), .l i6] [⟨5, false, .mix (some 118) [[.l (.ptr 1 0 0), .l i6, .l (.v .b), .l i6, .l (.v .b)]]⟩, ⟨23, false, .mix (some 30) [mN]⟩] [.l i6] (F216 K) = ∀ (x : Int × Int × Bool × Int × Bool × MM) (y : Int × Int × Bool × Int × Bool × MM), F216 K x = some y → y.2 = x.2) (keep216 K))
def F214 (K : Nat) (x : Int × Int × Int) : Option (Int × Int) :=
  bindO (α := (Int × Int) ⊕ (Int × Int × Int)) (bindO (α := Int × Int × Int × Bool) (bindO (F63 K x.1) fun v0 =>
      branch (!v0)
       (some (x.1, x.2.1, x.2.2, true))
       (bindO (F63 K x.2.1) fun v1 =>
       branch (!v1)
        (some (x.1, x.2.1, x.2.2, true))
        (bindO (F80 K x.2.2) fun v2 =>
        some (x.1, x.2.1, x.2.2, !v2)))) fun v3 =>
    branch v3.2.2.2
     (some (.inl (0, 0)))
     (some (.inr (v3.1, v3.2.1, v3.2.2.1)))) fun v4 =>
  csO v4
   (fun v5 => some v5)
   (fun v6 => bindO (F211 K (v6.2.2, 128)) fun v7 =>
   bindO (F210 K (v7, false, decide (4095 < (w64 ((Go.bits Go.BinOp.and Go.IntKind.i64 v6.1 4095) + (Go.bits Go.BinOp.and Go.IntKind.i64 v6.2.1 4095)))), decide (65535 < (w64 (v6.1 + v6.2.1))))) fun v8 =>
   some (Go.bits Go.BinOp.and Go.IntKind.i64 (w64 (v6.1 + v6.2.1)) 65535, v8))
def ct214 (K : Nat) : Ct := ⟨[.l i6, .l i6, .l i6], [], [.l i6, .l i6], [], [], F214 K⟩
theorem c214 (K : Nat) : CtOk prog 214 (ct214 K) :=
  cmk (K := K) (an := (sN (.seqJ [(1000000, ⟨(.l i6 :: .l i6 :: .l i6 :: ru 35 []), []⟩)] true (.seqJ [(1000000, ⟨(.l i6 :: .l i6 :: .l i6 :: ru 17 (.l (.v .b) :: ru 17 [])), []⟩)] false .no (.cond .no .no)) .no))) func214 (kX (c80 K) (kX (c63 K) (kX (c210 K) (kX (c211 K) kN))))
def F217 (K : Nat) (x : Int × Int × Bool × Int × Bool × MM) : Option (Int × Bool × Int × Bool × MM) :=
  bindO (F216 K (mnI (w64 (Int.tdiv x.1 2)) 2, x.2)) fun v0 =>
  bindO (α := Int × Int × Bool × Int × Bool × MM) (branch (decide ((Int.tmod x.1 2) = 0))
     (bindO (F230 K (v0.1, x.2.2.2.2.2.1, x.2)) fun v1 =>
     some (x.1, v1))
     (bindO (F64 K (v0.1, x.2.2.2.2.2)) fun v2 =>
     some (x.1, x.2.1, x.2.2.1, x.2.2.2.1, x.2.2.2.2.1, v2.1, x.2.2.2.2.2.2))) fun v3 =>
  branch (decide ((w64 (Int.tdiv v3.1 2)) = 2))
   (bindO (F215 K v3.2) fun v4 =>
   bindO (F213 K (2, w64 (v4.1 + 1), v3.2)) fun v5 =>
   some v5)
   (branch (decide ((w64 (Int.tdiv v3.1 2)) = 3))
    (bindO (F215 K v3.2) fun v6 =>
    bindO (F213 K (2, w64 (v6.1 - 1), v3.2)) fun v7 =>
    some v7)
    (some v3.2))
def ct217 (K : Nat) : Ct := ⟨[.l (.ptr 0 0 0), .l i6], [⟨5, false, .mix (some 118) [[.l (.ptr 1 0 0), .l i6, .l (.v .b), .l i6, .l (.v .b)]]⟩, ⟨23, false, .mix (some 30) [mN]⟩], [], [⟨5, false, .mix (some 118) [[.l (.ptr 1 0 0), .l i6, .l (.v .b), .l i6, .l (.v .b)]]⟩, ⟨23, false, .mix (some 30) [mN]⟩], [], F217 K⟩
theorem c217 (K : Nat) : CtOk prog 217 (ct217 K) :=
  cmk (K := K) (an := (sN (.seqJ [(1000000, ⟨(.l (.ptr 0 0 0) :: .l i6 :: ru 51 []), [(0, ⟨5, false, .mix (some 118) [[.l (.ptr 1 0 0), .l i6, .l (.v .b), .l i6, .l (.v .b)]]⟩), (1, ⟨23, false, .mix (some 30) [mN]⟩)]⟩)] false (sN .no) (sN (.blk (sN (.cond .no (sN .no)))))))) func217 (ctabOk_keep (c64k K) (ctabOk_keep (c215k K) (kX (c230 K) (kX (c213 K) (ctabOk_keep (c216k K) kN)))))
def F218 (K : Nat) (x : Int × Int × Bool) : Option (Int × Int) :=
  bindO (α := (Int × Int) ⊕ (Int × Int × Bool)) (bindO (α := Int × Int × Bool × Bool) (bindO (F80 K x.1) fun v0 =>
      branch (!v0)
       (some (x.1, x.2.1, x.2.2, true))
       (bindO (F80 K x.2.1) fun v1 =>
       some (x.1, x.2.1, x.2.2, !v1))) fun v2 =>
    branch v2.2.2.2
     (some (.inl (0, 0)))
     (some (.inr (v2.1, v2.2.1, v2.2.2.1)))) fun v3 =>
  csO v3
   (fun v4 => some v4)
   (fun v5 => branch v5.2.2
    (bindO (F211 K (v5.2.1, 16)) fun v6 =>
    bindO (F210 K (decide ((Go.bits Go.BinOp.and Go.IntKind.i64 (w64 (v5.1 - 1)) 255) = 0), true, decide ((Go.bits Go.BinOp.and Go.IntKind.i64 v5.1 15) = 0), v6)) fun v7 =>
    some (Go.bits Go.BinOp.and Go.IntKind.i64 (w64 (v5.1 - 1)) 255, v7))
    (bindO (F211 K (v5.2.1, 16)) fun v8 =>
    bindO (F210 K (decide ((Go.bits Go.BinOp.and Go.IntKind.i64 (w64 (v5.1 + 1)) 255) = 0), false, decide ((Go.bits Go.BinOp.and Go.IntKind.i64 v5.1 15) = 15), v8)) fun v9 =>
    some (Go.bits Go.BinOp.and Go.IntKind.i64 (w64 (v5.1 + 1)) 255, v9)))
def ct218 (K : Nat) : Ct := ⟨[.l i6, .l i6, .l (.v .b)], [], [.l i6, .l i6], [], [], F218 K⟩
theorem c218 (K : Nat) : CtOk prog 218 (ct218 K) :=
  cmk (K := K) (an := (sN (.seqJ [(1000000, ⟨(.l i6 :: .l i6 :: .l (.v .b) :: ru 40 []), []⟩)] true (.seqJ [(1000000, ⟨(.l i6 :: .l i6 :: .l (.v .b) :: ru 14 (.l (.v .b) :: ru 25 [])), []⟩)] false .no (.cond .no .no)) (.seq (sN (.cond (sN .no) .no)) (sN .no))))) func218 (kX (c80 K) (kX (c210 K) (kX (c211 K) kN)))
def F252 (K : Nat) (x : Int × Int) : Option (Int × Int) :=
  bindO (α := (Int × Int) ⊕ (Int × Int)) (bindO (α := Int × Int × Bool) (bindO (F80 K x.1) fun v0 =>
      branch (!v0)
       (some (x.1, x.2, true))
       (bindO (F80 K x.2) fun v1 =>
       some (x.1, x.2, !v1))) fun v2 =>
    branch v2.2.2
     (some (.inl (0, 0)))
     (some (.inr (v2.1, v2.2.1)))) fun v3 =>
  csO v3
   (fun v4 => some v4)
   (fun v5 => bindO (F211 K (v5.2, 64)) fun v6 =>
   bindO (α := Int × Int × Bool × Int) (bindO (α := Int × Int × Bool × Int × Bool) (bindO (F211 K (v5.2, 32)) fun v7 =>
       branch v7
        (some (v5.1, v5.2, v6, 0, true))
        (branch (!v6)
         (some (v5.1, v5.2, v6, 0, decide (9 < (Go.bits Go.BinOp.and Go.IntKind.i64 v5.1 15))))
         (some (v5.1, v5.2, v6, 0, false)))) fun v8 =>
     branch v8.2.2.2.2
      (some (v8.1, v8.2.1, v8.2.2.1, w64 (v8.2.2.2.1 + 6)))
      (some (v8.1, v8.2.1, v8.2.2.1, v8.2.2.2.1))) fun v9 =>
   bindO (α := Int × Bool × Int × Bool) (bindO (F211 K (v9.2.1, 16)) fun v10 =>
     branch v10
      (some (v9.1, v9.2.2.1, v9.2.2.2, true))
      (branch (!v9.2.2.1)
       (some (v9.1, v9.2.2.1, v9.2.2.2, decide (153 < v9.1)))
       (some (v9.1, v9.2.2.1, v9.2.2.2, false)))) fun v11 =>
   bindO (α := Int × Bool × Int × Bool) (branch v11.2.2.2
      (some (v11.1, v11.2.1, w64 (v11.2.2.1 + 96), v11.2.2.2))
      (some v11)) fun v12 =>
   bindO (α := Int × Bool × Int × Bool) (branch v12.2.1
      (some (v12.1, v12.2.1, w64 (0 - v12.2.2.1), v12.2.2.2))
      (some v12)) fun v13 =>
   bindO (F210 K (decide ((Go.bits Go.BinOp.and Go.IntKind.i64 (w64 (v13.1 + v13.2.2.1)) 255) = 0), v13.2.1, false, v13.2.2.2)) fun v14 =>
   some (Go.bits Go.BinOp.and Go.IntKind.i64 (w64 (v13.1 + v13.2.2.1)) 255, v14))
def ct252 (K : Nat) : Ct := ⟨[.l i6, .l i6], [], [.l i6, .l i6], [], [], F252 K⟩
theorem c252 (K : Nat) : CtOk prog 252 (ct252 K) :=
  cmk (K := K) (an := (sN (.seqJ [(1000000, ⟨(.l i6 :: .l i6 :: ru 57 []), []⟩)] true (.seqJ [(1000000, ⟨(.l i6 :: .l i6 :: ru 15 (.l (.v .b) :: ru 41 [])), []⟩)] false .no (.cond .no .no)) (sN (sN (.seqJ [(1000000, ⟨(.l i6 :: .l i6 :: ru 4 (.l (.v .b) :: .l i6 :: ru 51 [])), []⟩)] false (.seqJ [(1000000, ⟨(.l i6 :: .l i6 :: ru 4 (.l (.v .b) :: .l i6 :: ru 22 (.l (.v .b) :: ru 28 []))), []⟩)] false .no .no) (.seqJ [(1000000, ⟨(.l i6 :: ru 5 (.l (.v .b) :: .l i6 :: .l (.v .b) :: ru 50 [])), []⟩)] false .no (.seqJ [(1000000, ⟨(.l i6 :: ru 5 (.l (.v .b) :: .l i6 :: .l (.v .b) :: ru 50 [])), []⟩)] false (sN .no) (.seqJ [(1000000, ⟨(.l i6 :: ru 5 (.l (.v .b) :: .l i6 :: .l (.v .b) :: ru 50 [])), []⟩)] false (sN .no) (sN .no)))))))))) func252 (kX (c80 K) (kX (c210 K) (kX (c211 K) kN)))
def F219 (K : Nat) (x : Int × Int × Bool × Int × Bool × MM) : Option (Int × Bool × Int × Bool × MM) :=
  branch (decide (x.1 = 4))
   (bindO (F252 K (x.2.2.2.2.2.1, x.2.2.2.2.2.2.1)) fun v0 =>
   some (x.2.1, x.2.2.1, x.2.2.2.1, x.2.2.2.2.1, v0.1, v0.2, x.2.2.2.2.2.2.2))
   (branch (decide (x.1 = 5))
    (some (x.2.1, x.2.2.1, x.2.2.2.1, x.2.2.2.2.1, Go.bits Go.BinOp.xor Go.IntKind.i64 x.2.2.2.2.2.1 255, Go.bits Go.BinOp.or Go.IntKind.i64 x.2.2.2.2.2.2.1 96, x.2.2.2.2.2.2.2))
    (branch (decide (x.1 = 6))
     (some (x.2.1, x.2.2.1, x.2.2.2.1, x.2.2.2.2.1, x.2.2.2.2.2.1, Go.bits Go.BinOp.or Go.IntKind.i64 (Go.bits Go.BinOp.and Go.IntKind.i64 x.2.2.2.2.2.2.1 128) 16, x.2.2.2.2.2.2.2))
     (branch (decide (x.1 = 7))
      (bindO (F211 K (x.2.2.2.2.2.2.1, 128)) fun v1 =>
      bindO (F211 K (x.2.2.2.2.2.2.1, 16)) fun v2 =>
      bindO (F210 K (v1, false, false, !v2)) fun v3 =>
      some (x.2.1, x.2.2.1, x.2.2.2.1, x.2.2.2.2.1, x.2.2.2.2.2.1, v3, x.2.2.2.2.2.2.2))
      (bindO (F209 K (x.1, x.2.2.2.2.2.1, x.2.2.2.2.2.2.1)) fun v4 =>
      some (x.2.1, x.2.2.1, x.2.2.2.1, x.2.2.2.2.1, v4.1, Go.bits Go.BinOp.andNot Go.IntKind.i64 v4.2 128, x.2.2.2.2.2.2.2)))))
def ct219 (K : Nat) : Ct := ⟨[.l (.ptr 0 0 0), .l i6], [⟨5, false, .mix (some 118) [[.l (.ptr 1 0 0), .l i6, .l (.v .b), .l i6, .l (.v .b)]]⟩, ⟨23, false, .mix (some 30) [mN]⟩], [], [⟨5, false, .mix (some 118) [[.l (.ptr 1 0 0), .l i6, .l (.v .b), .l i6, .l (.v .b)]]⟩, ⟨23, false, .mix (some 30) [mN]⟩], [], F219 K⟩
theorem c219 (K : Nat) : CtOk prog 219 (ct219 K) :=
  cmk (K := K) (an := (sN (sN (.blk (sN (.cond .no (sN (.cond .no (sN (.cond .no (sN (.cond .no .no)))))))))))) func219 (kX (c210 K) (kX (c209 K) (kX (c211 K) (kX (c252 K) kN))))
def F155 (K : Nat) (x : Int × Int × Int × Bool × Int × Bool × MM) : Option (Bool × Int × Bool × Int × Bool × MM) :=
  branch (decide (x.2.1 = 0))
   (bindO (F212 K (x.1, x.2.2)) fun v0 =>
   some v0)
   (branch (decide (x.2.1 = 1))
    (branch (decide ((Int.tmod x.1 2) = 0))
     (bindO (F213 K (w64 (Int.tdiv x.1 2), x.2.2.2.2.1, x.2.2)) fun v1 =>
     some (true, v1))
     (bindO (F215 K x.2.2) fun v2 =>
     bindO (F216 K (w64 (Int.tdiv x.1 2), x.2.2)) fun v3 =>
     bindO (F214 K (v2.1, v3.1, x.2.2.2.2.2.2.2.1)) fun v4 =>
     bindO (F213 K (2, v4.1, x.2.2.1, x.2.2.2.1, x.2.2.2.2.1, x.2.2.2.2.2.1, x.2.2.2.2.2.2.1, v4.2, x.2.2.2.2.2.2.2.2)) fun v5 =>
     some (true, v5)))
    (branch (decide (x.2.1 = 2))
     (bindO (F217 K (x.1, x.2.2)) fun v6 =>
     some (true, v6))
     (branch (decide (x.2.1 = 3))
      (bindO (F216 K (w64 (Int.tdiv x.1 2), x.2.2)) fun v7 =>
      bindO (F213 K (w64 (Int.tdiv x.1 2), w64 ((w64 (v7.1 + 1)) - (w64 ((Int.tmod x.1 2) * 2))), x.2.2)) fun v8 =>
      some (true, v8))
      (bindO (α := Int × Int × Int × Bool × Int × Bool × Int × Bool × MM) (branch (decide (x.2.1 = 4))
         (some (x.1, x.2.1, x.2.1, true, x.2.2))
         (some (x.1, x.2.1, x.2.1, decide (x.2.1 = 5), x.2.2))) fun v9 =>
      branch v9.2.2.2.1
       (bindO (F158 K (v9.1, v9.2.2.2.2)) fun v10 =>
       bindO (F218 K (v10.1, v9.2.2.2.2.2.2.2.2.2.1, decide (v9.2.1 = 5))) fun v11 =>
       bindO (F159 K (v9.1, v11.1, v9.2.2.2.2.1, v9.2.2.2.2.2.1, v9.2.2.2.2.2.2.1, v9.2.2.2.2.2.2.2.1, v9.2.2.2.2.2.2.2.2.1, v11.2, v9.2.2.2.2.2.2.2.2.2.2)) fun v12 =>
       some (true, v12))
       (branch (decide (v9.2.2.1 = 6))
        (bindO (F159 K (v9.1, v9.2.2.2.2.2.2.1, v9.2.2.2.2)) fun v13 =>
        some (true, v13))
        (branch (decide (v9.2.2.1 = 7))
         (bindO (F219 K (v9.1, v9.2.2.2.2)) fun v14 =>
         some (true, v14))
         (some (true, v9.2.2.2.2))))))))
def ct155 (K : Nat) : Ct := ⟨[.l (.ptr 0 0 0), .l i6, .l i6], [⟨5, false, .mix (some 118) [[.l (.ptr 1 0 0), .l i6, .l (.v .b), .l i6, .l (.v .b)]]⟩, ⟨23, false, .mix (some 30) [mN]⟩], [.l (.v .b)], [⟨5, false, .mix (some 118) [[.l (.ptr 1 0 0), .l i6, .l (.v .b), .l i6, .l (.v .b)]]⟩, ⟨23, false, .mix (some 30) [mN]⟩], [], F155 K⟩
theorem c155 (K : Nat) : CtOk prog 155 (ct155 K) :=
  cmk (K := K) (an := (sN (sN (sN (.seq (sN (.blk (sN (.cond .no (sN (.cond (.seq (sN (.cond .no .no)) (sN .no)) (sN (.cond .no (sN (.cond .no (.seqJ [(1000000, ⟨(.l (.ptr 0 0 0) :: .l i6 :: .l i6 :: ru 4 (.l (.ptr 1 0 0) :: ru 13 (.l i6 :: ru 56 (.l (.v .b) :: ru 38 [])))), [(0, ⟨5, false, .mix (some 118) [[.l (.ptr 1 0 0), .l i6, .l (.v .b), .l i6, .l (.v .b)]]⟩), (1, ⟨23, false, .mix (some 30) [mN]⟩)]⟩)] false (sN .no) (.cond (sN .no) (sN (.cond .no (sN .no))))))))))))))) .no))))) func155 (ctabOk_keep (c215k K) (ctabOk_keep (c158k K) (kX (c159 K) (kX (c212 K) (kX (c213 K) (ctabOk_keep (c216k K) (kX (c214 K) (kX (c217 K) (kX (c218 K) (kX (c219 K) kN))))))))))
def F221 (K : Nat) (x : Int × Bool × Int × Bool × MM) : Option (Int × Int × Bool × Int × Bool × MM) :=
  bindO (F64 K (x.2.2.2.2.2.2.2.2.2.2.2.2.1, x.2.2.2.2)) fun v0 =>
  bindO (F64 K (w64 (x.2.2.2.2.2.2.2.2.2.2.2.2.1 + 1), x.2.2.2.2)) fun v1 =>
  some (Go.bits Go.BinOp.or Go.IntKind.i64 v0.1 (shlI Go.IntKind.i64 v1.1 8), x.1, x.2.1, x.2.2.1, x.2.2.2.1, x.2.2.2.2.1, x.2.2.2.2.2.1, x.2.2.2.2.2.2.1, x.2.2.2.2.2.2.2.1, x.2.2.2.2.2.2.2.2.1, x.2.2.2.2.2.2.2.2.2.1, x.2.2.2.2.2.2.2.2.2.2.1, x.2.2.2.2.2.2.2.2.2.2.2.1, Go.bits Go.BinOp.and Go.IntKind.i64 (w64 (x.2.2.2.2.2.2.2.2.2.2.2.2.1 + 2)) 65535, x.2.2.2.2.2.2.2.2.2.2.2.2.2)
def ct221 (K : Nat) : Ct := ⟨[.l (.ptr 0 0 0)], [⟨5, false, .mix (some 118) [[.l (.ptr 1 0 0), .l i6, .l (.v .b), .l i6, .l (.v .b)]]⟩, ⟨23, false, .mix (some 30) [mN]⟩], [.l i6], [⟨5, false, .mix (some 118) [[.l (.ptr 1 0 0), .l i6, .l (.v .b), .l i6, .l (.v .b)]]⟩, ⟨23, false, .mix (some 30) [mN]⟩], [], F221 K⟩
theorem c221 (K : Nat) : CtOk prog 221 (ct221 K) :=
  cmk (K := K) (an := (sN (sN (sN (sN .no))))) func221 (ctabOk_keep (c64k K) kN)
def F253 (K : Nat) (x : Int × Int) : Option (Int × Int) :=
  bindO (α := (Int × Int) ⊕ (Int × Int)) (bindO (α := Int × Int × Bool) (bindO (F63 K x.1) fun v0 =>
      branch (!v0)
       (some (x.1, x.2, true))
       (bindO (F80 K x.2) fun v1 =>
       some (x.1, x.2, !v1))) fun v2 =>
    branch v2.2.2
     (some (.inl (0, 0)))
     (some (.inr (v2.1, v2.2.1)))) fun v3 =>
  csO v3
   (fun v4 => some v4)
   (fun v5 => bindO (F193 K v5.2) fun v6 =>
   bindO (F210 K (false, false, decide (15 < (w64 ((Go.bits Go.BinOp.and Go.IntKind.i64 v5.1 15) + (Go.bits Go.BinOp.and Go.IntKind.i64 v5.2 15)))), decide (255 < (w64 ((Go.bits Go.BinOp.and Go.IntKind.i64 v5.1 255) + v5.2))))) fun v7 =>
   some (Go.bits Go.BinOp.and Go.IntKind.i64 (w64 (v5.1 + v6)) 65535, v7))
def ct253 (K : Nat) : Ct := ⟨[.l i6, .l i6], [], [.l i6, .l i6], [], [], F253 K⟩
theorem c253 (K : Nat) : CtOk prog 253 (ct253 K) :=
  cmk (K := K) (an := (sN (.seqJ [(1000000, ⟨(.l i6 :: .l i6 :: ru 29 []), []⟩)] true (.seqJ [(1000000, ⟨(.l i6 :: .l i6 :: ru 11 (.l (.v .b) :: ru 17 [])), []⟩)] false .no (.cond .no .no)) .no))) func253 (kX (c80 K) (kX (c63 K) (kX (c210 K) (kX (c193 K) kN))))
def F222 (K : Nat) (x : Int × Int × Bool × Int × Bool × MM) : Option (Int × Bool × Int × Bool × MM) :=
  branch (decide (x.1 = 4))
   (bindO (F230 K (w64 (65280 + x.2.2.2.1), x.2.2.2.2.2.1, x.2)) fun v0 =>
   some v0)
   (branch (decide (x.1 = 5))
    (bindO (F253 K (x.2.2.2.2.2.2.2.2.2.2.2.2.2.1, x.2.2.2.1)) fun v1 =>
    some (x.2.1, x.2.2.1, x.2.2.2.1, x.2.2.2.2.1, x.2.2.2.2.2.1, v1.2, x.2.2.2.2.2.2.2.1, x.2.2.2.2.2.2.2.2.1, x.2.2.2.2.2.2.2.2.2.1, x.2.2.2.2.2.2.2.2.2.2.1, x.2.2.2.2.2.2.2.2.2.2.2.1, x.2.2.2.2.2.2.2.2.2.2.2.2.1, v1.1, x.2.2.2.2.2.2.2.2.2.2.2.2.2.2))
    (branch (decide (x.1 = 6))
     (bindO (F64 K (w64 (65280 + x.2.2.2.1), x.2.2.2.2.2)) fun v2 =>
     some (x.2.1, x.2.2.1, x.2.2.2.1, x.2.2.2.2.1, v2.1, x.2.2.2.2.2.2))
     (bindO (F253 K (x.2.2.2.2.2.2.2.2.2.2.2.2.2.1, x.2.2.2.1)) fun v3 =>
     bindO (F213 K (2, v3.1, x.2.1, x.2.2.1, x.2.2.2.1, x.2.2.2.2.1, x.2.2.2.2.2.1, v3.2, x.2.2.2.2.2.2.2)) fun v4 =>
     some v4)))
def ct222 (K : Nat) : Ct := ⟨[.l (.ptr 0 0 0), .l i6], [⟨5, false, .mix (some 118) [[.l (.ptr 1 0 0), .l i6, .l (.v .b), .l i6, .l (.v .b)]]⟩, ⟨23, false, .mix (some 30) [mN]⟩], [], [⟨5, false, .mix (some 118) [[.l (.ptr 1 0 0), .l i6, .l (.v .b), .l i6, .l (.v .b)]]⟩, ⟨23, false, .mix (some 30) [mN]⟩], [], F222 K⟩
theorem c222 (K : Nat) : CtOk prog 222 (ct222 K) :=
  cmk (K := K) (an := (sN (sN (.blk (sN (.cond .no (sN (.cond .no (sN (.cond .no (sN .no))))))))))) func222 (ctabOk_keep (c64k K) (kX (c230 K) (kX (c213 K) (kX (c253 K) kN))))
def F223 (K : Nat) (x : Int × Int × Bool × Int × Bool × MM) : Option (Int × Bool × Int × Bool × MM) :=
  branch (decide ((Int.tmod x.1 2) = 0))
   (bindO (F221 K x.2) fun v0 =>
   branch (decide ((w64 (Int.tdiv x.1 2)) = 0))
    (bindO (F226h0 K (0, v0.2)) fun v1 =>
    branch (decide (x.1 = 6))
     (some (v0.2.1, v0.2.2.1, v0.2.2.2.1, v0.2.2.2.2.1, v0.2.2.2.2.2.1, Go.bits Go.BinOp.and Go.IntKind.i64 v0.2.2.2.2.2.2.1 240, shrI Go.IntKind.i64 v0.1 8, Go.bits Go.BinOp.and Go.IntKind.i64 v0.1 255, v0.2.2.2.2.2.2.2.2.2))
     (some (v0.2.1, v0.2.2.1, v0.2.2.2.1, v0.2.2.2.2.1, v0.2.2.2.2.2.1, v0.2.2.2.2.2.2.1, shrI Go.IntKind.i64 v0.1 8, Go.bits Go.BinOp.and Go.IntKind.i64 v0.1 255, v0.2.2.2.2.2.2.2.2.2)))
    (branch (decide ((w64 (Int.tdiv x.1 2)) = 1))
     (bindO (F226h1 K (1, v0.2)) fun v2 =>
     branch (decide (x.1 = 6))
      (some (v0.2.1, v0.2.2.1, v0.2.2.2.1, v0.2.2.2.2.1, v0.2.2.2.2.2.1, Go.bits Go.BinOp.and Go.IntKind.i64 v0.2.2.2.2.2.2.1 240, v0.2.2.2.2.2.2.2.1, v0.2.2.2.2.2.2.2.2.1, shrI Go.IntKind.i64 v0.1 8, Go.bits Go.BinOp.and Go.IntKind.i64 v0.1 255, v0.2.2.2.2.2.2.2.2.2.2.2))
      (some (v0.2.1, v0.2.2.1, v0.2.2.2.1, v0.2.2.2.2.1, v0.2.2.2.2.2.1, v0.2.2.2.2.2.2.1, v0.2.2.2.2.2.2.2.1, v0.2.2.2.2.2.2.2.2.1, shrI Go.IntKind.i64 v0.1 8, Go.bits Go.BinOp.and Go.IntKind.i64 v0.1 255, v0.2.2.2.2.2.2.2.2.2.2.2)))
     (branch (decide ((w64 (Int.tdiv x.1 2)) = 2))
      (bindO (F226h2 K (2, v0.2)) fun v3 =>
      branch (decide (x.1 = 6))
       (some (v0.2.1, v0.2.2.1, v0.2.2.2.1, v0.2.2.2.2.1, v0.2.2.2.2.2.1, Go.bits Go.BinOp.and Go.IntKind.i64 v0.2.2.2.2.2.2.1 240, v0.2.2.2.2.2.2.2.1, v0.2.2.2.2.2.2.2.2.1, v0.2.2.2.2.2.2.2.2.2.1, v0.2.2.2.2.2.2.2.2.2.2.1, shrI Go.IntKind.i64 v0.1 8, Go.bits Go.BinOp.and Go.IntKind.i64 v0.1 255, v0.2.2.2.2.2.2.2.2.2.2.2.2.2))
       (some (v0.2.1, v0.2.2.1, v0.2.2.2.1, v0.2.2.2.2.1, v0.2.2.2.2.2.1, v0.2.2.2.2.2.2.1, v0.2.2.2.2.2.2.2.1, v0.2.2.2.2.2.2.2.2.1, v0.2.2.2.2.2.2.2.2.2.1, v0.2.2.2.2.2.2.2.2.2.2.1, shrI Go.IntKind.i64 v0.1 8, Go.bits Go.BinOp.and Go.IntKind.i64 v0.1 255, v0.2.2.2.2.2.2.2.2.2.2.2.2.2)))
      (branch (decide ((w64 (Int.tdiv x.1 2)) = 3))
       (bindO (F226h3 K (3, v0.2)) fun v4 =>
       branch (decide (x.1 = 6))
        (some (v0.2.1, v0.2.2.1, v0.2.2.2.1, v0.2.2.2.2.1, shrI Go.IntKind.i64 v0.1 8, Go.bits Go.BinOp.and Go.IntKind.i64 (Go.bits Go.BinOp.and Go.IntKind.i64 v0.1 255) 240, v0.2.2.2.2.2.2.2))
        (some (v0.2.1, v0.2.2.1, v0.2.2.2.1, v0.2.2.2.2.1, shrI Go.IntKind.i64 v0.1 8, Go.bits Go.BinOp.and Go.IntKind.i64 v0.1 255, v0.2.2.2.2.2.2.2)))
       (none)))))
   (branch (decide (x.1 = 1))
    (bindO (F221 K x.2) fun v5 =>
    some (v5.2.1, v5.2.2.1, v5.2.2.2.1, v5.2.2.2.2.1, v5.2.2.2.2.2.1, v5.2.2.2.2.2.2.1, v5.2.2.2.2.2.2.2.1, v5.2.2.2.2.2.2.2.2.1, v5.2.2.2.2.2.2.2.2.2.1, v5.2.2.2.2.2.2.2.2.2.2.1, v5.2.2.2.2.2.2.2.2.2.2.2.1, v5.2.2.2.2.2.2.2.2.2.2.2.2.1, v5.2.2.2.2.2.2.2.2.2.2.2.2.2.1, v5.1, v5.2.2.2.2.2.2.2.2.2.2.2.2.2.2.2))
    (branch (decide (x.1 = 3))
     (bindO (F221 K x.2) fun v6 =>
     some (v6.2.1, v6.2.2.1, v6.2.2.2.1, v6.2.2.2.2.1, v6.2.2.2.2.2.1, v6.2.2.2.2.2.2.1, v6.2.2.2.2.2.2.2.1, v6.2.2.2.2.2.2.2.2.1, v6.2.2.2.2.2.2.2.2.2.1, v6.2.2.2.2.2.2.2.2.2.2.1, v6.2.2.2.2.2.2.2.2.2.2.2.1, v6.2.2.2.2.2.2.2.2.2.2.2.2.1, v6.2.2.2.2.2.2.2.2.2.2.2.2.2.1, v6.1, true, v6.2.2.2.2.2.2.2.2.2.2.2.2.2.2.2.2))
     (branch (decide (x.1 = 5))
      (bindO (F215 K x.2) fun v7 =>
      some (x.2.1, x.2.2.1, x.2.2.2.1, x.2.2.2.2.1, x.2.2.2.2.2.1, x.2.2.2.2.2.2.1, x.2.2.2.2.2.2.2.1, x.2.2.2.2.2.2.2.2.1, x.2.2.2.2.2.2.2.2.2.1, x.2.2.2.2.2.2.2.2.2.2.1, x.2.2.2.2.2.2.2.2.2.2.2.1, x.2.2.2.2.2.2.2.2.2.2.2.2.1, x.2.2.2.2.2.2.2.2.2.2.2.2.2.1, v7.1, x.2.2.2.2.2.2.2.2.2.2.2.2.2.2.2))
      (bindO (F215 K x.2) fun v8 =>
      some (x.2.1, x.2.2.1, x.2.2.2.1, x.2.2.2.2.1, x.2.2.2.2.2.1, x.2.2.2.2.2.2.1, x.2.2.2.2.2.2.2.1, x.2.2.2.2.2.2.2.2.1, x.2.2.2.2.2.2.2.2.2.1, x.2.2.2.2.2.2.2.2.2.2.1, x.2.2.2.2.2.2.2.2.2.2.2.1, x.2.2.2.2.2.2.2.2.2.2.2.2.1, v8.1, x.2.2.2.2.2.2.2.2.2.2.2.2.2.2)))))
def ct223 (K : Nat) : Ct := ⟨[.l (.ptr 0 0 0), .l i6], [⟨5, false, .mix (some 118) [[.l (.ptr 1 0 0), .l i6, .l (.v .b), .l i6, .l (.v .b)]]⟩, ⟨23, false, .mix (some 30) [mN]⟩], [], [⟨5, false, .mix (some 118) [[.l (.ptr 1 0 0), .l i6, .l (.v .b), .l i6, .l (.v .b)]]⟩, ⟨23, false, .mix (some 30) [mN]⟩], [], F223 K⟩
theorem c223 (K : Nat) : CtOk prog 223 (ct223 K) :=
  cmk (K := K) (an := (sN (.blk (sN (.cond (sN (.seq (.reg [] [(3, .split 28 [0, 1, 2, 3])]) (sN (sN .no)))) (sN (.cond .no (sN (.cond .no (sN .no)))))))))) func223 (ctabOk_keep (c215k K) (ctabOk_keep (c226h0k K) (ctabOk_keep (c226h1k K) (ctabOk_keep (c226h2k K) (ctabOk_keep (c226h3k K) (kX (c221 K) kN))))))
def F224 (K : Nat) (x : Int × Int × Bool × Int × Bool × MM) : Option (Int × Bool × Int × Bool × MM) :=
  bindO (α := Int × Int × Int × Bool × Int × Bool × MM) (branch (decide ((Int.tmod x.1 2) = 0))
     (some (x.1, w64 (65280 + x.2.2.2.2.2.2.2.2.1), x.2))
     (some (x.1, x.2.2.2.1, x.2))) fun v0 =>
  branch (decide (v0.1 < 6))
   (bindO (F230 K (v0.2.1, v0.2.2.2.2.2.2.1, v0.2.2)) fun v1 =>
   some v1)
   (bindO (F64 K (v0.2.1, v0.2.2.2.2.2.2)) fun v2 =>
   some (v0.2.2.1, v0.2.2.2.1, v0.2.2.2.2.1, v0.2.2.2.2.2.1, v2.1, v0.2.2.2.2.2.2.2))
def ct224 (K : Nat) : Ct := ⟨[.l (.ptr 0 0 0), .l i6], [⟨5, false, .mix (some 118) [[.l (.ptr 1 0 0), .l i6, .l (.v .b), .l i6, .l (.v .b)]]⟩, ⟨23, false, .mix (some 30) [mN]⟩], [], [⟨5, false, .mix (some 118) [[.l (.ptr 1 0 0), .l i6, .l (.v .b), .l i6, .l (.v .b)]]⟩, ⟨23, false, .mix (some 30) [mN]⟩], [], F224 K⟩
theorem c224 (K : Nat) : CtOk prog 224 (ct224 K) :=
  cmk (K := K) (an := (sN (sN (.seqJ [(1000000, ⟨(.l (.ptr 0 0 0) :: .l i6 :: ru 2 (.l (.ptr 1 0 0) :: .l i6 :: ru 37 [])), [(0, ⟨5, false, .mix (some 118) [[.l (.ptr 1 0 0), .l i6, .l (.v .b), .l i6, .l (.v .b)]]⟩), (1, ⟨23, false, .mix (some 30) [mN]⟩)]⟩)] false (sN .no) (sN .no))))) func224 (ctabOk_keep (c64k K) (kX (c230 K) kN))
def F227 (K : Nat) (x : Int × Int × Bool × Int × Bool × MM) : Option (Int × Bool × Int × Bool × MM) :=
  bindO (F230 K (w64 ((Go.bits Go.BinOp.and Go.IntKind.i64 (w64 (x.2.2.2.2.2.2.2.2.2.2.2.2.2.1 - 2)) 65535) + 1), shrI Go.IntKind.i64 x.1 8, x.2.1, x.2.2.1, x.2.2.2.1, x.2.2.2.2.1, x.2.2.2.2.2.1, x.2.2.2.2.2.2.1, x.2.2.2.2.2.2.2.1, x.2.2.2.2.2.2.2.2.1, x.2.2.2.2.2.2.2.2.2.1, x.2.2.2.2.2.2.2.2.2.2.1, x.2.2.2.2.2.2.2.2.2.2.2.1, x.2.2.2.2.2.2.2.2.2.2.2.2.1, Go.bits Go.BinOp.and Go.IntKind.i64 (w64 (x.2.2.2.2.2.2.2.2.2.2.2.2.2.1 - 2)) 65535, x.2.2.2.2.2.2.2.2.2.2.2.2.2.2)) fun v0 =>
  bindO (F230 K (v0.2.2.2.2.2.2.2.2.2.2.2.2.1, Go.bits Go.BinOp.and Go.IntKind.i64 x.1 255, v0)) fun v1 =>
  some v1
def ct227 (K : Nat) : Ct := ⟨[.l (.ptr 0 0 0), .l i6], [⟨5, false, .mix (some 118) [[.l (.ptr 1 0 0), .l i6, .l (.v .b), .l i6, .l (.v .b)]]⟩, ⟨23, false, .mix (some 30) [mN]⟩], [], [⟨5, false, .mix (some 118) [[.l (.ptr 1 0 0), .l i6, .l (.v .b), .l i6, .l (.v .b)]]⟩, ⟨23, false, .mix (some 30) [mN]⟩], [], F227 K⟩
theorem c227 (K : Nat) : CtOk prog 227 (ct227 K) :=
  cmk (K := K) (an := (sN (sN .no))) func227 (kX (c230 K) kN)
def F225 (K : Nat) (x : Int × Int × Bool × Int × Bool × MM) : Option (Int × Bool × Int × Bool × MM) :=
  bindO (F227 K (x.2.2.2.2.2.2.2.2.2.2.2.2.2.2.1, x.2)) fun v0 =>
  some (v0.1, v0.2.1, v0.2.2.1, v0.2.2.2.1, v0.2.2.2.2.1, v0.2.2.2.2.2.1, v0.2.2.2.2.2.2.1, v0.2.2.2.2.2.2.2.1, v0.2.2.2.2.2.2.2.2.1, v0.2.2.2.2.2.2.2.2.2.1, v0.2.2.2.2.2.2.2.2.2.2.1, v0.2.2.2.2.2.2.2.2.2.2.2.1, v0.2.2.2.2.2.2.2.2.2.2.2.2.1, x.1, v0.2.2.2.2.2.2.2.2.2.2.2.2.2.2)
def ct225 (K : Nat) : Ct := ⟨[.l (.ptr 0 0 0), .l i6], [⟨5, false, .mix (some 118) [[.l (.ptr 1 0 0), .l i6, .l (.v .b), .l i6, .l (.v .b)]]⟩, ⟨23, false, .mix (some 30) [mN]⟩], [], [⟨5, false, .mix (some 118) [[.l (.ptr 1 0 0), .l i6, .l (.v .b), .l i6, .l (.v .b)]]⟩, ⟨23, false, .mix (some 30) [mN]⟩], [], F225 K⟩
theorem c225 (K : Nat) : CtOk prog 225 (ct225 K) :=
  cmk (K := K) (an := .no) func225 (kX (c227 K) kN)
def F228 (K : Nat) (x : Int × Int × Int × Int) : Option (Int × Int) :=
  bindO (α := (Int × Int) ⊕ (Int × Int × Int × Int)) (bindO (α := Int × Int × Int × Int × Bool) (bindO (F54 K (x.1, 0, 7)) fun v0 =>
      branch (!v0)
       (some (x.1, x.2.1, x.2.2.1, x.2.2.2, true))
       (bindO (F80 K x.2.1) fun v1 =>
       branch (!v1)
        (some (x.1, x.2.1, x.2.2.1, x.2.2.2, true))
        (bindO (F80 K x.2.2.1) fun v2 =>
        branch (!v2)
         (some (x.1, x.2.1, x.2.2.1, x.2.2.2, true))
         (bindO (F80 K x.2.2.2) fun v3 =>
         some (x.1, x.2.1, x.2.2.1, x.2.2.2, !v3))))) fun v4 =>
    branch v4.2.2.2.2
     (some (.inl (0, 0)))
     (some (.inr (v4.1, v4.2.1, v4.2.2.1, v4.2.2.2.1)))) fun v5 =>
  csO v5
   (fun v6 => some v6)
   (fun v7 => bindO (α := Int × Int × Int × Int) (bindO (α := Int × Int × Int × Int × Bool) (branch (decide (v7.1 = 1))
        (bindO (F211 K (v7.2.2.2, 16)) fun v8 =>
        some (v7.1, v7.2.1, v7.2.2.1, 0, v8))
        (branch (decide (v7.1 = 3))
         (bindO (F211 K (v7.2.2.2, 16)) fun v9 =>
         some (v7.1, v7.2.1, v7.2.2.1, 0, v9))
         (some (v7.1, v7.2.1, v7.2.2.1, 0, false)))) fun v10 =>
     branch v10.2.2.2.2
      (some (v10.1, v10.2.1, v10.2.2.1, 1))
      (some (v10.1, v10.2.1, v10.2.2.1, v10.2.2.2.1))) fun v11 =>
   bindO (α := (Int × Int) ⊕ (Int × Int × Int × Int)) (bindO (α := Int × Int × Int × Int × Int × Bool) (branch (decide (v11.1 = 0))
        (some (v11.1, v11.2.1, v11.2.2.1, v11.2.2.2, v11.1, true))
        (some (v11.1, v11.2.1, v11.2.2.1, v11.2.2.2, v11.1, decide (v11.1 = 1)))) fun v12 =>
     branch v12.2.2.2.2.2
      (bindO (F210 K (decide ((Go.bits Go.BinOp.and Go.IntKind.i64 (w64 ((w64 (v12.2.1 + v12.2.2.1)) + v12.2.2.2.1)) 255) = 0), false, decide (15 < (w64 ((w64 ((Go.bits Go.BinOp.and Go.IntKind.i64 v12.2.1 15) + (Go.bits Go.BinOp.and Go.IntKind.i64 v12.2.2.1 15))) + v12.2.2.2.1))), decide (255 < (w64 ((w64 (v12.2.1 + v12.2.2.1)) + v12.2.2.2.1))))) fun v13 =>
      some (.inl (Go.bits Go.BinOp.and Go.IntKind.i64 (w64 ((w64 (v12.2.1 + v12.2.2.1)) + v12.2.2.2.1)) 255, v13)))
      (branch (decide (v12.2.2.2.2.1 = 4))
       (bindO (F210 K (decide ((Go.bits Go.BinOp.and Go.IntKind.i64 v12.2.1 v12.2.2.1) = 0), false, true, false)) fun v14 =>
       some (.inl (Go.bits Go.BinOp.and Go.IntKind.i64 v12.2.1 v12.2.2.1, v14)))
       (branch (decide (v12.2.2.2.2.1 = 5))
        (bindO (F210 K (decide ((Go.bits Go.BinOp.xor Go.IntKind.i64 v12.2.1 v12.2.2.1) = 0), false, false, false)) fun v15 =>
        some (.inl (Go.bits Go.BinOp.xor Go.IntKind.i64 v12.2.1 v12.2.2.1, v15)))
        (branch (decide (v12.2.2.2.2.1 = 6))
         (bindO (F210 K (decide ((Go.bits Go.BinOp.or Go.IntKind.i64 v12.2.1 v12.2.2.1) = 0), false, false, false)) fun v16 =>
         some (.inl (Go.bits Go.BinOp.or Go.IntKind.i64 v12.2.1 v12.2.2.1, v16)))
         (some (.inr (v12.1, v12.2.1, v12.2.2.1, v12.2.2.2.1))))))) fun v17 =>
   csO v17
    (fun v18 => some v18)
    (fun v19 => bindO (α := Int × Int × Int × Int × Int) (branch (decide (v19.1 = 7))
       (some (v19.2.1, v19.2.2.1, v19.2.2.2, w64 ((w64 (v19.2.1 - v19.2.2.1)) - v19.2.2.2), v19.2.1))
       (some (v19.2.1, v19.2.2.1, v19.2.2.2, w64 ((w64 (v19.2.1 - v19.2.2.1)) - v19.2.2.2), Go.bits Go.BinOp.and Go.IntKind.i64 (w64 ((w64 (v19.2.1 - v19.2.2.1)) - v19.2.2.2)) 255))) fun v20 =>
    bindO (F210 K (decide ((Go.bits Go.BinOp.and Go.IntKind.i64 v20.2.2.2.1 255) = 0), true, decide ((Go.bits Go.BinOp.and Go.IntKind.i64 v20.1 15) < (w64 ((Go.bits Go.BinOp.and Go.IntKind.i64 v20.2.1 15) + v20.2.2.1))), decide (v20.2.2.2.1 < 0))) fun v21 =>
    some (v20.2.2.2.2, v21)))
def ct228 (K : Nat) : Ct := ⟨[.l i6, .l i6, .l i6, .l i6], [], [.l i6, .l i6], [], [], F228 K⟩
theorem c228 (K : Nat) : CtOk prog 228 (ct228 K) :=
  cmk (K := K) (an := (sN (.seqJ [(1000000, ⟨(.l i6 :: .l i6 :: .l i6 :: .l i6 :: ru 117 []), []⟩)] true (.seqJ [(1000000, ⟨(.l i6 :: .l i6 :: .l i6 :: .l i6 :: ru 27 (.l (.v .b) :: ru 89 [])), []⟩)] false .no (.cond .no .no)) (sN (.seqJ [(1000000, ⟨(.l i6 :: .l i6 :: .l i6 :: ru 7 (.l i6 :: ru 110 [])), []⟩)] false (.seqJ [(1000000, ⟨(.l i6 :: .l i6 :: .l i6 :: ru 7 (.l i6 :: ru 30 (.l (.v .b) :: ru 79 []))), []⟩)] false .no .no) (.seqJ [(1000000, ⟨(.l i6 :: .l i6 :: .l i6 :: ru 7 (.l i6 :: ru 110 [])), []⟩)] true (sN (.blk (.seqJ [(1000000, ⟨(.l i6 :: .l i6 :: .l i6 :: ru 7 (.l i6 :: ru 31 (.l i6 :: .l (.v .b) :: ru 77 []))), []⟩)] false (sN .no) (.cond (sN .no) (sN (.cond .no (sN (.cond .no (sN (.cond .no .no)))))))))) (sN (sN (.seqJ [(1000000, ⟨(ru 1 (.l i6 :: .l i6 :: ru 7 (.l i6 :: ru 1 (.l i6 :: .l i6 :: ru 107 [])))), []⟩)] false (sN .no) .no))))))))) func228 (kX (c54 K) (kX (c80 K) (kX (c210 K) (kX (c211 K) kN))))
def F157 (K : Nat) (x : Int × Int × Int × Bool × Int × Bool × MM) : Option (Int × Bool × Int × Bool × MM) :=
  bindO (F228 K (x.1, x.2.2.2.2.2.2.1, x.2.1, x.2.2.2.2.2.2.2.1)) fun v0 =>
  some (x.2.2.1, x.2.2.2.1, x.2.2.2.2.1, x.2.2.2.2.2.1, v0.1, v0.2, x.2.2.2.2.2.2.2.2)
def ct157 (K : Nat) : Ct := ⟨[.l (.ptr 0 0 0), .l i6, .l i6], [⟨5, false, .mix (some 118) [[.l (.ptr 1 0 0), .l i6, .l (.v .b), .l i6, .l (.v .b)]]⟩, ⟨23, false, .mix (some 30) [mN]⟩], [], [⟨5, false, .mix (some 118) [[.l (.ptr 1 0 0), .l i6, .l (.v .b), .l i6, .l (.v .b)]]⟩, ⟨23, false, .mix (some 30) [mN]⟩], [], F157 K⟩
theorem c157 (K : Nat) : CtOk prog 157 (ct157 K) :=
  cmk (K := K) (an := .no) func157 (kX (c228 K) kN)
def F156 (K : Nat) (x : Int × Int × Int × Bool × Int × Bool × MM) : Option (Bool × Int × Bool × Int × Bool × MM) :=
  bindO (α := (Bool × Int × Bool × Int × Bool × MM) ⊕ (Int × Int × Int × Bool × Int × Bool × MM)) (bindO (α := Int × Int × Bool × Int × Bool × Int × Bool × MM) (branch (decide (x.2.1 = 0))
       (branch (decide (x.1 < 4))
        (bindO (F220 K (x.1, x.2.2)) fun v0 =>
        some (x.1, x.2.1, !v0.1, x.2.2))
        (some (x.1, x.2.1, false, x.2.2)))
       (branch (decide (x.2.1 = 2))
        (branch (decide (x.1 < 4))
         (bindO (F220 K (x.1, x.2.2)) fun v1 =>
         some (x.1, x.2.1, !v1.1, x.2.2))
         (some (x.1, x.2.1, false, x.2.2)))
        (branch (decide (x.2.1 = 4))
         (branch (decide (x.1 < 4))
          (bindO (F220 K (x.1, x.2.2)) fun v2 =>
          some (x.1, x.2.1, !v2.1, x.2.2))
          (some (x.1, x.2.1, false, x.2.2)))
         (some (x.1, x.2.1, false, x.2.2))))) fun v3 =>
    branch v3.2.2.1
     (some (.inl (false, v3.2.2.2)))
     (some (.inr (v3.1, v3.2.1, v3.2.2.2)))) fun v4 =>
  csO v4
   (fun v5 => some v5)
   (fun v6 => bindO (α := Int × Int × Bool × Int × Bool × Int × Bool × MM) (branch (decide (v6.2.1 = 0))
      (some (v6.1, v6.2.1, decide (v6.1 < 4), v6.2.2))
      (some (v6.1, v6.2.1, false, v6.2.2))) fun v7 =>
   branch v7.2.2.1
    (bindO (F221 K v7.2.2.2) fun v8 =>
    some (true, v8.2.1, v8.2.2.1, v8.2.2.2.1, v8.2.2.2.2.1, v8.2.2.2.2.2.1, v8.2.2.2.2.2.2.1, v8.2.2.2.2.2.2.2.1, v8.2.2.2.2.2.2.2.2.1, v8.2.2.2.2.2.2.2.2.2.1, v8.2.2.2.2.2.2.2.2.2.2.1, v8.2.2.2.2.2.2.2.2.2.2.2.1, v8.2.2.2.2.2.2.2.2.2.2.2.2.1, v8.2.2.2.2.2.2.2.2.2.2.2.2.2.1, v8.1, v8.2.2.2.2.2.2.2.2.2.2.2.2.2.2.2))
    (branch (decide (v7.2.1 = 0))
     (bindO (F222 K (v7.1, v7.2.2.2)) fun v9 =>
     some (true, v9))
     (branch (decide (v7.2.1 = 1))
      (bindO (F223 K (v7.1, v7.2.2.2)) fun v10 =>
      some (true, v10))
      (bindO (α := Int × Int × Bool × Int × Bool × Int × Bool × MM) (bindO (α := Int × Int × Bool × Int × Bool × Int × Bool × MM) (branch (decide (v7.2.1 = 2))
           (some (v7.1, v7.2.1, decide (v7.1 < 4), v7.2.2.2))
           (some (v7.1, v7.2.1, false, v7.2.2.2))) fun v11 =>
        branch v11.2.2.1
         (some (v11.1, v11.2.1, true, v11.2.2.2))
         (branch (decide (v11.2.1 = 3))
          (some (v11.1, v11.2.1, decide (v11.1 = 0), v11.2.2.2))
          (some (v11.1, v11.2.1, false, v11.2.2.2)))) fun v12 =>
      branch v12.2.2.1
       (some (true, v12.2.2.2.1, v12.2.2.2.2.1, v12.2.2.2.2.2.1, v12.2.2.2.2.2.2.1, v12.2.2.2.2.2.2.2.1, v12.2.2.2.2.2.2.2.2.1, v12.2.2.2.2.2.2.2.2.2.1, v12.2.2.2.2.2.2.2.2.2.2.1, v12.2.2.2.2.2.2.2.2.2.2.2.1, v12.2.2.2.2.2.2.2.2.2.2.2.2.1, v12.2.2.2.2.2.2.2.2.2.2.2.2.2.1, v12.2.2.2.2.2.2.2.2.2.2.2.2.2.2.1, v12.2.2.2.2.2.2.2.2.2.2.2.2.2.2.2.1, v12.2.2.2.2.2.1, v12.2.2.2.2.2.2.2.2.2.2.2.2.2.2.2.2.2))
       (branch (decide (v12.2.1 = 2))
        (bindO (F224 K (v12.1, v12.2.2.2)) fun v13 =>
        some (true, v13))
        (branch (decide (v12.2.1 = 3))
         (some (true, v12.2.2.2.1, v12.2.2.2.2.1, v12.2.2.2.2.2.1, v12.2.2.2.2.2.2.1, v12.2.2.2.2.2.2.2.1, v12.2.2.2.2.2.2.2.2.1, v12.2.2.2.2.2.2.2.2.2.1, v12.2.2.2.2.2.2.2.2.2.2.1, v12.2.2.2.2.2.2.2.2.2.2.2.1, v12.2.2.2.2.2.2.2.2.2.2.2.2.1, v12.2.2.2.2.2.2.2.2.2.2.2.2.2.1, v12.2.2.2.2.2.2.2.2.2.2.2.2.2.2.1, v12.2.2.2.2.2.2.2.2.2.2.2.2.2.2.2.1, v12.2.2.2.2.2.2.2.2.2.2.2.2.2.2.2.2.1, decide (v12.1 = 7), v12.2.2.2.2.2.2.2.2.2.2.2.2.2.2.2.2.2.2))
         (bindO (α := Int × Int × Bool × Int × Bool × Int × Bool × MM) (branch (decide (v12.2.1 = 4))
            (some (v12.1, v12.2.1, true, v12.2.2.2))
            (branch (decide (v12.2.1 = 5))
             (some (v12.1, v12.2.1, decide (v12.1 = 1), v12.2.2.2))
             (some (v12.1, v12.2.1, false, v12.2.2.2)))) fun v14 =>
         branch v14.2.2.1
          (bindO (F225 K (v14.2.2.2.2.2.1, v14.2.2.2)) fun v15 =>
          some (true, v15))
          (branch (decide (v14.2.1 = 5))
           (branch (decide ((w64 (Int.tdiv v14.1 2)) = 0))
            (bindO (F226h0 K (0, v14.2.2.2)) fun v16 =>
            bindO (F227 K (Go.bits Go.BinOp.or Go.IntKind.i64 (shlI Go.IntKind.i64 v14.2.2.2.2.2.2.2.2.2.1 8) v14.2.2.2.2.2.2.2.2.2.2.1, v14.2.2.2)) fun v17 =>
            some (true, v17))
            (branch (decide ((w64 (Int.tdiv v14.1 2)) = 1))
             (bindO (F226h1 K (1, v14.2.2.2)) fun v18 =>
             bindO (F227 K (Go.bits Go.BinOp.or Go.IntKind.i64 (shlI Go.IntKind.i64 v14.2.2.2.2.2.2.2.2.2.2.2.1 8) v14.2.2.2.2.2.2.2.2.2.2.2.2.1, v14.2.2.2)) fun v19 =>
             some (true, v19))
             (branch (decide ((w64 (Int.tdiv v14.1 2)) = 2))
              (bindO (F226h2 K (2, v14.2.2.2)) fun v20 =>
              bindO (F227 K (Go.bits Go.BinOp.or Go.IntKind.i64 (shlI Go.IntKind.i64 v14.2.2.2.2.2.2.2.2.2.2.2.2.2.1 8) v14.2.2.2.2.2.2.2.2.2.2.2.2.2.2.1, v14.2.2.2)) fun v21 =>
              some (true, v21))
              (branch (decide ((w64 (Int.tdiv v14.1 2)) = 3))
               (bindO (F226h3 K (3, v14.2.2.2)) fun v22 =>
               bindO (F227 K (Go.bits Go.BinOp.or Go.IntKind.i64 (shlI Go.IntKind.i64 v14.2.2.2.2.2.2.2.1 8) v14.2.2.2.2.2.2.2.2.1, v14.2.2.2)) fun v23 =>
               some (true, v23))
               (none)))))
           (branch (decide (v14.2.1 = 6))
            (bindO (F157 K (v14.1, v14.2.2.2.2.2.1, v14.2.2.2)) fun v24 =>
            some (true, v24))
            (bindO (F225 K (w64 (8 * v14.1), v14.2.2.2)) fun v25 =>
            some (true, v25)))))))))))
def ct156 (K : Nat) : Ct := ⟨[.l (.ptr 0 0 0), .l i6, .l i6], [⟨5, false, .mix (some 118) [[.l (.ptr 1 0 0), .l i6, .l (.v .b), .l i6, .l (.v .b)]]⟩, ⟨23, false, .mix (some 30) [mN]⟩], [.l (.v .b)], [⟨5, false, .mix (some 118) [[.l (.ptr 1 0 0), .l i6, .l (.v .b), .l i6, .l (.v .b)]]⟩, ⟨23, false, .mix (some 30) [mN]⟩], [], F156 K⟩
theorem c156 (K : Nat) : CtOk prog 156 (ct156 K) :=
  cmk (K := K) (an := (sN (sN (.seqJ [(1000000, ⟨(.l (.ptr 0 0 0) :: .l i6 :: .l i6 :: ru 4 (.l (.ptr 1 0 0) :: ru 138 [])), [(0, ⟨5, false, .mix (some 118) [[.l (.ptr 1 0 0), .l i6, .l (.v .b), .l i6, .l (.v .b)]]⟩), (1, ⟨23, false, .mix (some 30) [mN]⟩)]⟩)] true (.seqJ [(1000000, ⟨(.l (.ptr 0 0 0) :: .l i6 :: .l i6 :: ru 4 (.l (.ptr 1 0 0) :: ru 27 (.l (.v .b) :: ru 110 []))), [(0, ⟨5, false, .mix (some 118) [[.l (.ptr 1 0 0), .l i6, .l (.v .b), .l i6, .l (.v .b)]]⟩), (1, ⟨23, false, .mix (some 30) [mN]⟩)]⟩)] false .no (.cond .no .no)) (.seq (.blk (.seqJ [(1000000, ⟨(.l (.ptr 0 0 0) :: .l i6 :: .l i6 :: ru 4 (.l (.ptr 1 0 0) :: ru 32 (.l (.v .b) :: ru 105 []))), [(0, ⟨5, false, .mix (some 118) [[.l (.ptr 1 0 0), .l i6, .l (.v .b), .l i6, .l (.v .b)]]⟩), (1, ⟨23, false, .mix (some 30) [mN]⟩)]⟩)] false .no (.cond .no (sN (.cond .no (sN (.cond .no (.seqJ [(1000000, ⟨(.l (.ptr 0 0 0) :: .l i6 :: .l i6 :: ru 4 (.l (.ptr 1 0 0) :: ru 56 (.l (.v .b) :: ru 81 []))), [(0, ⟨5, false, .mix (some 118) [[.l (.ptr 1 0 0), .l i6, .l (.v .b), .l i6, .l (.v .b)]]⟩), (1, ⟨23, false, .mix (some 30) [mN]⟩)]⟩)] false (.seqJ [(1000000, ⟨(.l (.ptr 0 0 0) :: .l i6 :: .l i6 :: ru 4 (.l (.ptr 1 0 0) :: ru 56 (.l (.v .b) :: ru 81 []))), [(0, ⟨5, false, .mix (some 118) [[.l (.ptr 1 0 0), .l i6, .l (.v .b), .l i6, .l (.v .b)]]⟩), (1, ⟨23, false, .mix (some 30) [mN]⟩)]⟩)] false .no .no) (.cond .no (sN (.cond .no (sN (.cond .no (.seqJ [(1000000, ⟨(.l (.ptr 0 0 0) :: .l i6 :: .l i6 :: ru 96 (.l (.v .b) :: ru 46 [])), [(0, ⟨5, false, .mix (some 118) [[.l (.ptr 1 0 0), .l i6, .l (.v .b), .l i6, .l (.v .b)]]⟩), (1, ⟨23, false, .mix (some 30) [mN]⟩)]⟩)] false (sN .no) (.cond .no (sN (.cond (.seq (.reg [] [(3, .split 121 [0, 1, 2, 3])]) .no) (sN .no)))))))))))))))))) .no))))) func156 (ctabOk_keep (c220k K) (ctabOk_keep (c226h0k K) (ctabOk_keep (c226h1k K) (ctabOk_keep (c226h2k K) (ctabOk_keep (c226h3k K) (kX (c221 K) (kX (c222 K) (kX (c223 K) (kX (c224 K) (kX (c227 K) (kX (c225 K) (kX (c157 K) kN))))))))))))
def F110 (K : Nat) (x : Int × Bool × Int × Bool × MM) : Option (Bool × Int × Bool × Int × Bool × MM) :=
  branch x.2.1
   (bindO (F154 K (w64 (Int.tdiv x.1 64), Int.tmod (w64 (Int.tdiv x.1 8)) 8, Int.tmod x.1 8, x)) fun v0 =>
   some (true, v0))
   (branch (decide ((w64 (Int.tdiv x.1 64)) = 0))
    (bindO (F155 K (Int.tmod (w64 (Int.tdiv x.1 8)) 8, Int.tmod x.1 8, x)) fun v1 =>
    some v1)
    (branch (decide ((w64 (Int.tdiv x.1 64)) = 3))
     (bindO (F156 K (Int.tmod (w64 (Int.tdiv x.1 8)) 8, Int.tmod x.1 8, x)) fun v2 =>
     some v2)
     (branch (decide ((w64 (Int.tdiv x.1 64)) = 2))
      (bindO (F158 K (Int.tmod x.1 8, x)) fun v3 =>
      bindO (F157 K (Int.tmod (w64 (Int.tdiv x.1 8)) 8, v3.1, x)) fun v4 =>
      some (true, v4))
      (branch (decide (x.1 = 118))
       (some (true, x.1, x.2.1, x.2.2.1, x.2.2.2.1, x.2.2.2.2.1, x.2.2.2.2.2.1, x.2.2.2.2.2.2.1, x.2.2.2.2.2.2.2.1, x.2.2.2.2.2.2.2.2.1, x.2.2.2.2.2.2.2.2.2.1, x.2.2.2.2.2.2.2.2.2.2.1, x.2.2.2.2.2.2.2.2.2.2.2.1, x.2.2.2.2.2.2.2.2.2.2.2.2.1, x.2.2.2.2.2.2.2.2.2.2.2.2.2.1, x.2.2.2.2.2.2.2.2.2.2.2.2.2.2.1, true, x.2.2.2.2.2.2.2.2.2.2.2.2.2.2.2.2))
       (bindO (F158 K (Int.tmod x.1 8, x)) fun v5 =>
       bindO (F159 K (Int.tmod (w64 (Int.tdiv x.1 8)) 8, v5.1, x)) fun v6 =>
       some (true, v6))))))
def ct110 (K : Nat) : Ct := ⟨[.l (.ptr 0 0 0)], [⟨5, false, .mix (some 118) [[.l (.ptr 1 0 0), .l i6, .l (.v .b), .l i6, .l (.v .b)]]⟩, ⟨23, false, .mix (some 30) [mN]⟩], [.l (.v .b)], [⟨5, false, .mix (some 118) [[.l (.ptr 1 0 0), .l i6, .l (.v .b), .l i6, .l (.v .b)]]⟩, ⟨23, false, .mix (some 30) [mN]⟩], [], F110 K⟩
theorem c110 (K : Nat) : CtOk prog 110 (ct110 K) :=
  cmk (K := K) (an := (sN (sN (.seq (.blk (sN (.cond .no (sN (.cond .no (sN (.cond .no (sN (.cond .no (sN .no)))))))))) .no)))) func110 (ctabOk_keep (c158k K) (kX (c159 K) (kX (c154 K) (kX (c155 K) (kX (c157 K) (kX (c156 K) kN))))))
def F60 (K : Nat) (x : MM) : Option (MC (Int)) :=
  branch (pr11 x)
   (some (x.1, x.2.1, x.2.2.1, x.2.2.2.1, pr4 x, pr5 x, pr6 x, pr7 x, pr8 x, pr9 x, pr10 x, pr11 x, pr12 x, pr13 x, pr14 x, pr15 x, pr16 x, pr17 x, pr18 x, pr19 x, pr20 x, pr21 x, er22 x, 1))
   (bindO (F98 K x) fun v0 =>
   branch (decide (v0.2.2.2.1 = 0))
    (some (pr4 v0, pr5 v0, pr6 v0, pr7 v0, pr8 v0, pr9 v0, pr10 v0, pr11 v0, pr12 v0, pr13 v0, pr14 v0, pr15 v0, pr16 v0, pr17 v0, pr18 v0, pr19 v0, pr20 v0, pr21 v0, pr22 v0, pr23 v0, pr24 v0, (q24 v0).2.1, (q24 v0).2.2, 2))
    (bindO (F110 K (v0.1, v0.2.1, v0.2.2.1, false, pr4 v0, pr5 v0, pr6 v0, pr7 v0, pr8 v0, pr9 v0, pr10 v0, pr11 v0, pr12 v0, Go.bits Go.BinOp.and Go.IntKind.i64 (w64 ((pr13 v0) + v0.2.2.2.1)) 65535, er14 v0)) fun v1 =>
    bindO (F26 K (v0.1, v0.2.1, v1.1)) fun v2 =>
    bindO (α := Bool × MC (Int × Int × Int × Int × Int × Int × Int × Int × Int × Int × Bool × Bool × (List UInt8) × Int × Int × (List UInt8) × Int × Bool × Int × (List UInt8) × (List UInt8) × (List Int) × Int × MM)) (branch (pr4 v1)
       (some (true, pr5 v1, pr6 v1, pr7 v1, pr8 v1, pr9 v1, pr10 v1, pr11 v1, pr12 v1, pr13 v1, pr14 v1, pr15 v1, pr16 v1, pr17 v1, pr18 v1, pr19 v1, pr20 v1, pr21 v1, pr22 v1, pr23 v1, pr24 v1, (q24 v1).2.1, (q24 v1).2.2.1, w64 ((q24 v1).2.2.2 + v2), 0, 0, 0, 0, 0, 0, 0, 0, 0, 0, false, false, [], 0, 0, [], 0, false, 0, [], [], [], 0, er4 v0))
       (some (decide (1000000000 < (w64 ((q24 v1).2.2.2 + v2))), pr5 v1, pr6 v1, pr7 v1, pr8 v1, pr9 v1, pr10 v1, pr11 v1, pr12 v1, pr13 v1, pr14 v1, pr15 v1, pr16 v1, pr17 v1, pr18 v1, pr19 v1, pr20 v1, pr21 v1, pr22 v1, pr23 v1, pr24 v1, (q24 v1).2.1, (q24 v1).2.2.1, w64 ((q24 v1).2.2.2 + v2), 0, 0, 0, 0, 0, 0, 0, 0, 0, 0, false, false, [], 0, 0, [], 0, false, 0, [], [], [], 0, er4 v0))) fun v3 =>
    branch v3.1
     (some (pr23 (q24 v3), pr24 (q24 v3), (q24 (q24 v3)).2.1, (q24 (q24 v3)).2.2.1, (q24 (q24 v3)).2.2.2.1, pr4 (q24 (q24 v3)), pr5 (q24 (q24 v3)), pr6 (q24 (q24 v3)), pr7 (q24 (q24 v3)), pr8 (q24 (q24 v3)), pr9 (q24 (q24 v3)), pr10 (q24 (q24 v3)), pr11 (q24 (q24 v3)), pr12 (q24 (q24 v3)), pr13 (q24 (q24 v3)), pr14 (q24 (q24 v3)), pr15 (q24 (q24 v3)), pr16 (q24 (q24 v3)), pr17 (q24 (q24 v3)), pr18 (q24 (q24 v3)), pr19 (q24 (q24 v3)), pr20 (q24 (q24 v3)), er21 (q24 (q24 v3)), 4))
     (some (v3.2.1, v3.2.2.1, v3.2.2.2.1, pr4 v3, pr5 v3, pr6 v3, pr7 v3, pr8 v3, pr9 v3, pr10 v3, pr11 v3, pr12 v3, pr13 v3, pr14 v3, pr15 v3, pr16 v3, pr17 v3, pr18 v3, pr19 v3, pr20 v3, pr21 v3, pr22 v3, pr23 v3, 0))))
def ct60 (K : Nat) : Ct := ⟨[.agg mL], [], [.agg mL, .l i6], [], [], F60 K⟩
theorem c60 (K : Nat) : CtOk prog 60 (ct60 K) :=
  cmk (K := K) (an := (sN (.seq (sN (.cond .no .no)) (sN (.seq (sN (.cond .no .no)) (sN (sN (sN (sN (sN (.seq (.seqJ [(1000000, ⟨(ru 1 (.l (.ptr 2000 0 0) :: .l (.ptr 3000 0 0) :: ru 3 (.l (.ptr 7000 0 0) :: ru 45 (.l (.v .b) :: ru 2 [])))), [(7000, ⟨23, false, .mix (some 30) [mN]⟩), (3000, ⟨23, false, .mix (some 30) [mN]⟩), (2000, ⟨23, false, .mix (some 30) [mN]⟩)]⟩)] false .no (.cond .no .no)) .no))))))))))) func60 (kX (c26 K) (kX (c98 K) (kX (c110 K) kN)))
end Go.U.Tryz
