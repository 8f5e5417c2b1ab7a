/- A part of the proof. No condition. -/
import Derived.Test.YticcaekjfhgpcaaGreatDoorVHb
set_option linter.unusedVariables false
set_option linter.unusedSimpArgs false
set_option linter.unusedSectionVars false
namespace Go.U.Tryz
open Go Go.U Go.Proofs Go.Proofs.Tryz
set_option maxRecDepth 100000
-- loop.example/g00460/spec.Compiled
def F45 (K : Nat) (x : List UInt8) : Option ((List (Int × Int × List UInt8)) × Bool) :=
  branch (decide (200 < (x.length : Int)))
   (some ([], false))
   (bindO (F80 K (1, 1, x, 0, false, [])) fun v0 =>
   bindO (α := ((List (Int × Int × List UInt8)) × Bool) ⊕ ((List (Int × Int × List UInt8)) × (List UInt8) × Int × Bool)) (bindO (α := Bool × (List (Int × Int × List UInt8)) × (List UInt8) × Int × Bool) (branch v0.2.2.1
        (some (true, v0.2.2.2, v0.1, v0.2.1, v0.2.2.1))
        (branch (!(decide (v0.2.1 = (x.length : Int))))
         (some (true, v0.2.2.2, v0.1, v0.2.1, v0.2.2.1))
         (bindO (F81 K v0.2.2.2) fun v1 =>
         some (!v1, v0.2.2.2, v0.1, v0.2.1, v0.2.2.1)))) fun v2 =>
     branch v2.1
      (some (.inl ([], false)))
      (some (.inr v2.2))) fun v3 =>
   csO v3
    (fun v4 => some v4)
    (fun v5 => some (v5.1, true)))
def ct45 (K : Nat) : Ct := ⟨[.l (.v .s)], [], [.l (.v (.l (.c (.i .i64) (.c (.i .i64) .s)))), .l (.v .b)], [], [], F45 K⟩
theorem c45 (K : Nat) : CtOk prog 45 (ct45 K) :=
  con_mk (Y := Y) (L := [(81, ct81 K), (80, ct80 K)]) (K := K) (an := (.seq .no (.seq (.seq .no (.cond .no .no)) (.seq .no (.seq (.reg [] [(0, .vcell 11000 2 11050 3 (.c (.i .i64) (.c (.i .i64) .s)))]) (.seqJ [(1000000, ⟨(ru 4 (.l (.ptr 11000 0 0) :: ru 33 [])), [(11050, ⟨3, true, .row (.c (.i .i64) (.c (.i .i64) .s))⟩), (11000, ⟨4, false, .mix (some 91) [[.l (.v .s), .l (.v (.i .i64)), .l (.all 11050), .l (.v .b)]]⟩)]⟩)] true (.seqJ [(1000000, ⟨(ru 4 (.l (.ptr 11000 0 0) :: ru 28 (.l (.v .b) :: ru 4 []))), [(11050, ⟨3, true, .row (.c (.i .i64) (.c (.i .i64) .s))⟩), (11000, ⟨4, false, .mix (some 91) [[.l (.v .s), .l (.v (.i .i64)), .l (.all 11050), .l (.v .b)]]⟩)]⟩)] false .no (.cond .no .no)) .no)))))) func45 mixed (ctabOk_cons (c81 K) (ctabOk_cons (c80 K) ctabOk_nil)) (by kernel_rfl) fun x => by kernel_rfl
-- loop.example/g00460/impl.Compiled
def F50 (K : Nat) (x : List UInt8) : Option ((List (Int × Int × List UInt8)) × Bool) :=
  branch (decide (200 < (x.length : Int)))
   (some ([], false))
   (bindO (F86 K (0, 1, x, 0, false, [])) fun v0 =>
   bindO (α := ((List (Int × Int × List UInt8)) × Bool) ⊕ ((List (Int × Int × List UInt8)) × (List UInt8) × Int × Bool)) (bindO (α := Bool × (List (Int × Int × List UInt8)) × (List UInt8) × Int × Bool) (branch v0.2.2.1
        (some (true, v0.2.2.2, v0.1, v0.2.1, v0.2.2.1))
        (some (decide (v0.2.1 < (x.length : Int)), v0.2.2.2, v0.1, v0.2.1, v0.2.2.1))) fun v1 =>
     branch v1.1
      (some (.inl ([], false)))
      (some (.inr v1.2))) fun v2 =>
   csO v2
    (fun v3 => some v3)
    (fun v4 => some (v4.1, true)))
def ct50 (K : Nat) : Ct := ⟨[.l (.v .s)], [], [.l (.v (.l (.c (.i .i64) (.c (.i .i64) .s)))), .l (.v .b)], [], [], F50 K⟩
theorem c50 (K : Nat) : CtOk prog 50 (ct50 K) :=
  con_mk (Y := Y) (L := [(86, ct86 K)]) (K := K) (an := (.seq .no (.seq (.seq .no (.cond .no .no)) (.seq .no (.seq (.reg [] [(0, .vcell 11000 2 11050 3 (.c (.i .i64) (.c (.i .i64) .s)))]) (.seqJ [(1000000, ⟨(ru 4 (.l (.ptr 11000 0 0) :: ru 25 [])), [(11050, ⟨3, true, .row (.c (.i .i64) (.c (.i .i64) .s))⟩), (11000, ⟨4, false, .mix (some 99) [[.l (.v .s), .l (.v (.i .i64)), .l (.all 11050), .l (.v .b)]]⟩)]⟩)] true (.seqJ [(1000000, ⟨(ru 4 (.l (.ptr 11000 0 0) :: ru 20 (.l (.v .b) :: ru 4 []))), [(11050, ⟨3, true, .row (.c (.i .i64) (.c (.i .i64) .s))⟩), (11000, ⟨4, false, .mix (some 99) [[.l (.v .s), .l (.v (.i .i64)), .l (.all 11050), .l (.v .b)]]⟩)]⟩)] false .no (.cond .no .no)) .no)))))) func50 mixed (ctabOk_cons (c86 K) ctabOk_nil) (by kernel_rfl) fun x => by kernel_rfl
-- loop.example/g00460/impl.Compiled
def F50o (K : Nat) (x : List UInt8) : Option (Bool × List (Int × Int × List UInt8)) :=
  branch (decide (200 < (x.length : Int)))
   (some (false, []))
   (bindO (F86 K (0, 1, x, 0, false, [])) fun v0 =>
   bindO (α := (Bool × List (Int × Int × List UInt8)) ⊕ ((List (Int × Int × List UInt8)) × (List UInt8) × Int × Bool)) (bindO (α := Bool × (List (Int × Int × List UInt8)) × (List UInt8) × Int × Bool) (branch v0.2.2.1
        (some (true, v0.2.2.2, v0.1, v0.2.1, v0.2.2.1))
        (some (decide (v0.2.1 < (x.length : Int)), v0.2.2.2, v0.1, v0.2.1, v0.2.2.1))) fun v1 =>
     branch v1.1
      (some (.inl (false, [])))
      (some (.inr v1.2))) fun v2 =>
   csO v2
    (fun v3 => some v3)
    (fun v4 => some (true, v4.1)))
def ct50o (K : Nat) : Ct := ⟨[.l (.v .s)], [], [.l (.all 0), .l (.v .b)], [⟨3, true, .row (.c (.i .i64) (.c (.i .i64) .s))⟩], [], F50o K⟩
theorem c50o (K : Nat) : CtOk prog 50 (ct50o K) :=
  con_mk (Y := Y) (L := [(86, ct86 K)]) (K := K) (an := (.seq .no (.seq (.seq .no (.cond (.seq (.reg [] [(2, .vslot 2 9900 3 (.c (.i .i64) (.c (.i .i64) .s)))]) .no) .no)) (.seq .no (.seq (.reg [] [(0, .vcell 11000 2 11050 3 (.c (.i .i64) (.c (.i .i64) .s)))]) (.seqJ [(1000000, ⟨(ru 4 (.l (.ptr 11000 0 0) :: ru 25 [])), [(11050, ⟨3, true, .row (.c (.i .i64) (.c (.i .i64) .s))⟩), (11000, ⟨4, false, .mix (some 99) [[.l (.v .s), .l (.v (.i .i64)), .l (.all 11050), .l (.v .b)]]⟩)]⟩)] true (.seqJ [(1000000, ⟨(ru 4 (.l (.ptr 11000 0 0) :: ru 20 (.l (.v .b) :: ru 4 []))), [(11050, ⟨3, true, .row (.c (.i .i64) (.c (.i .i64) .s))⟩), (11000, ⟨4, false, .mix (some 99) [[.l (.v .s), .l (.v (.i .i64)), .l (.all 11050), .l (.v .b)]]⟩)]⟩)] false .no (.cond (.seq (.reg [] [(2, .vslot 2 9901 3 (.c (.i .i64) (.c (.i .i64) .s)))]) .no) .no)) .no)))))) func50 mixed (ctabOk_cons (c86 K) ctabOk_nil) (by kernel_rfl) fun x => by kernel_rfl
-- loop.example/g00460/laws.markENodeS
def F9f_b0 (K : Nat) (x : Int × Int × List (Int × Int × List UInt8)) : Option ((Int × Int × List (Int × Int × List UInt8)) ⊕ (Int × List (Int × Int × List UInt8))) :=
  branch (decide (x.2.1 < (x.2.2.length : Int)))
   (guard (decide (0 ≤ x.2.1 ∧ x.2.1 < (x.2.2.length : Int))) <|
   nthN x.2.2 x.2.1.toNat fun v0 =>
   guard (decide (0 ≤ x.2.1 ∧ x.2.1 < ((List.set x.2.2 x.2.1.toNat (x.1, v0.2)).length : Int))) <|
   nthN (List.set x.2.2 x.2.1.toNat (x.1, v0.2)) x.2.1.toNat fun v1 =>
   bindO (F24 K (w64 ((w64 (x.1 + 1)) + 1))) fun v2 =>
   guard (decide (0 ≤ x.2.1 ∧ x.2.1 < ((List.set (List.set x.2.2 x.2.1.toNat (x.1, v0.2)) x.2.1.toNat (v1.1, w64 (x.1 + 1), v1.2.2)).length : Int))) <|
   nthN (List.set (List.set x.2.2 x.2.1.toNat (x.1, v0.2)) x.2.1.toNat (v1.1, w64 (x.1 + 1), v1.2.2)) x.2.1.toNat fun v3 =>
   some (.inl (w64 ((w64 ((w64 (x.1 + 1)) + 1)) + 1), w64 (x.2.1 + 1), List.set (List.set (List.set x.2.2 x.2.1.toNat (x.1, v0.2)) x.2.1.toNat (v1.1, w64 (x.1 + 1), v1.2.2)) x.2.1.toNat (v3.1, v3.2.1, v2))))
   (some (.inr (x.1, x.2.2)))
def F9f (K : Nat) (x : Int × List (Int × Int × List UInt8)) : Option (Int × List (Int × Int × List UInt8)) :=
  bindO (iter K (F9f_b0 K) (x.1, 0, x.2)) fun v0 =>
  some v0
def ct9f (K : Nat) : Ct := ⟨[.l (.all 0), .l (.v (.i .i64))], [⟨3, false, .row (.c (.i .i64) (.c (.i .i64) .s))⟩], [.l (.v (.i .i64))], [⟨3, false, .row (.c (.i .i64) (.c (.i .i64) .s))⟩], [true], F9f K⟩
theorem c9f (K : Nat) : CtOk prog 9 (ct9f K) :=
  con_mk (Y := Y) (L := [(24, ct24 K)]) (K := K) (an := (.seq .no (.seq (.seq .no (.blk (.loop [] ⟨(.l (.all 0) :: .l (.v (.i .i64)) :: ru 3 (.l (.v (.i .i64)) :: ru 29 [])), [(0, ⟨3, false, .row (.c (.i .i64) (.c (.i .i64) .s))⟩)]⟩ [(0, ⟨(ru 1 (.l (.v (.i .i64)) :: ru 33 [])), [(0, ⟨3, false, .row (.c (.i .i64) (.c (.i .i64) .s))⟩)]⟩)] false (.seq (.seq .no .no) (.seq (.blk (.seq .no (.seq .no (.seq .no (.seq .no .no))))) .no))))) .no))) func9 mixed (ctabOk_cons (c24 K) ctabOk_nil) (by kernel_rfl) fun x => by kernel_rfl
-- loop.example/g00460/spec.NamesIn
def F46_b0 (K : Nat) (x : (List (Int × Int × List UInt8)) × (List (List UInt8)) × Int) : Option (((List (Int × Int × List UInt8)) × (List (List UInt8)) × Int) ⊕ (List (List UInt8))) :=
  bindO (α := ((List (Int × Int × List UInt8)) × (List (List UInt8)) × Int) ⊕ (List (List UInt8))) (bindO (F81 K x.1) fun v0 =>
    branch v0
     (branch (decide (x.2.2 < (x.1.length : Int)))
      (some (.inl x))
      (some (.inr x.2.1)))
     (some (.inr x.2.1))) fun v1 =>
  csO v1
   (fun v2 => nth v2.1 v2.2.2 fun v4 =>
   branch (!(decide (v4.2.2 = [])))
    (nth v2.1 v2.2.2 fun v5 =>
    bindO (F82 K (v2.2.1, v5.2.2)) fun v6 =>
    some (.inl (v2.1, v6, w64 (v2.2.2 + 1))))
    (some (.inl (v2.1, v2.2.1, w64 (v2.2.2 + 1)))))
   (fun v3 => some (.inr v3))
def F46 (K : Nat) (x : List (Int × Int × List UInt8)) : Option (List (List UInt8)) :=
  bindO (iter K (F46_b0 K) (x, [], 0)) fun v0 =>
  some v0
def ct46 (K : Nat) : Ct := ⟨[.l (.v (.l (.c (.i .i64) (.c (.i .i64) .s))))], [], [.l (.v (.l .s))], [], [], F46 K⟩
theorem c46 (K : Nat) : CtOk prog 46 (ct46 K) :=
  con_mk (Y := Y) (L := [(82, ct82 K), (81, ct81 K)]) (K := K) (an := (.seq .no (.seq (.reg [0] []) (.seq (.seq .no (.blk (.loop [] ⟨(.l (.v (.l (.c (.i .i64) (.c (.i .i64) .s)))) :: ru 2 (.l (.v (.l .s)) :: .l (.v (.i .i64)) :: ru 25 [])), []⟩ [(0, ⟨(ru 3 (.l (.v (.l .s)) :: ru 26 [])), []⟩)] false (.seqJ [(1000000, ⟨(.l (.v (.l (.c (.i .i64) (.c (.i .i64) .s)))) :: ru 2 (.l (.v (.l .s)) :: .l (.v (.i .i64)) :: ru 25 [])), []⟩), (0, ⟨(ru 3 (.l (.v (.l .s)) :: ru 26 [])), []⟩)] false (.seq .no .no) (.seq (.blk (.seq .no .no)) .no))))) .no)))) func46 mixed (ctabOk_cons (c82 K) (ctabOk_cons (c81 K) ctabOk_nil)) (by kernel_rfl) fun x => by kernel_rfl
-- loop.example/g00460/spec.l10Expr
def F21_b0 (K : Nat) (x : (List (Int × Int × List UInt8)) × (List (List UInt8)) × Int) : Option (((List (Int × Int × List UInt8)) × (List (List UInt8)) × Int) ⊕ (((List (Int × Int × List UInt8)) × Bool) ⊕ (List (Int × Int × List UInt8)))) :=
  branch (decide (x.2.2 < (x.2.1.length : Int)))
   (nth x.2.1 x.2.2 fun v0 =>
   bindO (F47 K v0) fun v1 =>
   branch v1
    (some (.inr (.inl ([], false))))
    (some (.inl (x.1, x.2.1, w64 (x.2.2 + 1)))))
   (some (.inr (.inr x.1)))
def F21 (K : Nat) (x : List UInt8) : Option ((List (Int × Int × List UInt8)) × Bool) :=
  bindO (F45 K x) fun v0 =>
  branch (!v0.2)
   (some ([], false))
   (bindO (F46 K v0.1) fun v1 =>
   bindO (iter K (F21_b0 K) (v0.1, v1, 0)) fun v2 =>
   csO v2
    (fun v3 => some v3)
    (fun v4 => some (v4, true)))
def ct21 (K : Nat) : Ct := ⟨[.l (.v .s)], [], [.l (.v (.l (.c (.i .i64) (.c (.i .i64) .s)))), .l (.v .b)], [], [], F21 K⟩
theorem c21 (K : Nat) : CtOk prog 21 (ct21 K) :=
  con_mk (Y := Y) (L := [(47, ct47 K), (45, ct45 K), (46, ct46 K)]) (K := K) (an := (.seq .no (.seq .no (.seq (.seq .no (.cond .no .no)) (.seq .no (.seq (.seq .no (.blk (.loop [] ⟨(ru 4 (.l (.v (.l (.c (.i .i64) (.c (.i .i64) .s)))) :: ru 1 (.l (.v (.l .s)) :: .l (.v (.i .i64)) :: ru 21 []))), []⟩ [(0, ⟨(ru 4 (.l (.v (.l (.c (.i .i64) (.c (.i .i64) .s)))) :: ru 24 [])), []⟩)] true (.seq (.seq .no .no) (.seq (.blk (.seq .no (.cond .no .no))) .no))))) .no)))))) func21 mixed (ctabOk_cons (c47 K) (ctabOk_cons (c45 K) (ctabOk_cons (c46 K) ctabOk_nil))) (by kernel_rfl) fun x => by kernel_rfl
-- loop.example/g00460/spec.Fitting
def F5_b0 (K : Nat) (x : (List UInt8) × Int × Int × Bool × Int) : Option (((List UInt8) × Int × Int × Bool × Int) ⊕ ((Int × Bool × Int × (List UInt8) × (List (Int × Int × List UInt8)) × Bool) ⊕ ((List UInt8) × Int × Bool × Int))) :=
  branch (decide (x.2.1 < 512))
   (bindO (F18 K (Int.tmod x.2.1 256, decide (256 ≤ x.2.1))) fun v0 =>
   bindO (F19 K v0) fun v1 =>
   bindO (α := (List UInt8) × Int × Bool × Int × Bool × Int × Int × Bool × Int) (branch (!(decide (v0 = [])))
      (branch (decide (v1.1 < 0))
       (some (x.1, x.2.1, decide (v0 = x.1), Int.tmod x.2.1 256, decide (256 ≤ x.2.1), 0, x.2.2))
       (some (x.1, x.2.1, false, Int.tmod x.2.1 256, decide (256 ≤ x.2.1), 0, x.2.2)))
      (some (x.1, x.2.1, false, Int.tmod x.2.1 256, decide (256 ≤ x.2.1), 0, x.2.2))) fun v2 =>
   branch v2.2.2.1
    (some (.inr (.inl (v2.2.2.2.1, v2.2.2.2.2.1, v2.2.2.2.2.2.1, [], [], true))))
    (some (.inl (v2.1, w64 (v2.2.1 + 1), v2.2.2.2.2.2.2))))
   (some (.inr (.inr (x.1, x.2.2))))
def F5_b1 (K : Nat) (x : (List UInt8) × Int × Int × Bool × Int) : Option (((List UInt8) × Int × Int × Bool × Int) ⊕ ((Int × Bool × Int × (List UInt8) × (List (Int × Int × List UInt8)) × Bool) ⊕ (Int × Bool × Int))) :=
  branch (decide (x.2.1 < 256))
   (bindO (F18 K (x.2.1, false)) fun v0 =>
   bindO (F19 K v0) fun v1 =>
   bindO (α := ((List UInt8) × Int × (List UInt8) × (List UInt8) × Int × Bool × Int) ⊕ ((List UInt8) × Int × Int × Bool × Int)) (branch (decide (v0 = []))
      (some (.inr x))
      (branch (decide (v1.1 < 0))
       (some (.inr x))
       (some (.inl (x.1, x.2.1, v0, v1.2, x.2.2))))) fun v2 =>
   csO v2
    (fun v3 => bindO (F20 K (v3.1, v3.2.2.1)) fun v5 =>
    branch (!v5.2)
     (some (.inl (v3.1, w64 (v3.2.1 + 1), v3.2.2.2.2)))
     (bindO (F21 K v5.1) fun v6 =>
     branch v6.2
      (some (.inr (.inl (v3.2.1, false, 0, v3.2.2.2.1, v6.1, true))))
      (some (.inl (v3.1, w64 (v3.2.1 + 1), v3.2.2.2.2)))))
    (fun v4 => some (.inl (v4.1, w64 (v4.2.1 + 1), v4.2.2))))
   (some (.inr (.inr x.2.2)))
def F5 (K : Nat) (x : List UInt8) : Option (Int × Bool × Int × (List UInt8) × (List (Int × Int × List UInt8)) × Bool) :=
  branch (decide (80 < (x.length : Int)))
   (some (0, false, 0, [], [], false))
   (bindO (iter K (F5_b0 K) (x, 0, 0, false, 0)) fun v0 =>
   csO v0
    (fun v1 => some v1)
    (fun v2 => bindO (iter K (F5_b1 K) (v2.1, 0, v2.2)) fun v3 =>
    csO v3
     (fun v4 => some v4)
     (fun v5 => some (0, false, 0, [], [], false))))
def ct5 (K : Nat) : Ct := ⟨[.l (.v .s)], [], [.agg [(.v (.i .i64)), (.v .b), (.v (.i .i64))], .l (.v .s), .l (.v (.l (.c (.i .i64) (.c (.i .i64) .s)))), .l (.v .b)], [], [], F5 K⟩
theorem c5 (K : Nat) : CtOk prog 5 (ct5 K) :=
  con_mk (Y := Y) (L := [(18, ct18 K), (19, ct19 K), (20, ct20 K), (21, ct21 K)]) (K := K) (an := (.seq .no (.seq (.seq .no (.cond .no .no)) (.seq (.seq .no (.blk (.loop [] ⟨(.l (.v .s) :: ru 1 (.l (.ptr 3000 0 0) :: ru 3 (.l (.v (.i .i64)) :: ru 83 []))), [(3000, ⟨3, false, .mix (some 23) [[.l (.v (.i .i64)), .l (.v .b), .l (.v (.i .i64))]]⟩)]⟩ [(0, ⟨(.l (.v .s) :: ru 1 (.l (.ptr 3000 0 0) :: ru 87 [])), [(3000, ⟨3, false, .mix (some 23) [[.l (.v (.i .i64)), .l (.v .b), .l (.v (.i .i64))]]⟩)]⟩)] true (.seq (.seq .no .no) (.seq (.blk (.seq .no (.seq .no (.seq .no (.seqJ [(1000000, ⟨(.l (.v .s) :: ru 1 (.l (.ptr 3000 0 0) :: ru 3 (.l (.v (.i .i64)) :: .l (.ptr 8000 0 0) :: ru 44 (.l (.v .b) :: ru 37 [])))), [(8000, ⟨3, false, .mix (some 23) [[.l (.v (.i .i64)), .l (.v .b), .l (.v (.i .i64))]]⟩), (3000, ⟨3, false, .mix (some 23) [[.l (.v (.i .i64)), .l (.v .b), .l (.v (.i .i64))]]⟩)]⟩)] false .no (.cond .no .no)))))) .no))))) (.seq (.seq .no (.blk (.loop [] ⟨(.l (.v .s) :: ru 1 (.l (.ptr 3000 0 0) :: ru 8 (.l (.v (.i .i64)) :: ru 78 []))), [(3000, ⟨3, false, .mix (some 23) [[.l (.v (.i .i64)), .l (.v .b), .l (.v (.i .i64))]]⟩)]⟩ [(2, ⟨(ru 2 (.l (.ptr 3000 0 0) :: ru 87 [])), [(3000, ⟨3, false, .mix (some 23) [[.l (.v (.i .i64)), .l (.v .b), .l (.v (.i .i64))]]⟩)]⟩)] true (.seq (.seq .no .no) (.seq (.blk (.seq .no (.seq .no (.seqJ [(1000000, ⟨(.l (.v .s) :: ru 1 (.l (.ptr 3000 0 0) :: ru 8 (.l (.v (.i .i64)) :: .l (.v .s) :: ru 1 (.l (.v .s) :: ru 75 [])))), [(3000, ⟨3, false, .mix (some 23) [[.l (.v (.i .i64)), .l (.v .b), .l (.v (.i .i64))]]⟩)]⟩), (3, ⟨(.l (.v .s) :: ru 1 (.l (.ptr 3000 0 0) :: ru 8 (.l (.v (.i .i64)) :: ru 78 []))), [(3000, ⟨3, false, .mix (some 23) [[.l (.v (.i .i64)), .l (.v .b), .l (.v (.i .i64))]]⟩)]⟩)] false (.seq .no .no) (.seq .no (.seq (.seq .no .no) (.seq .no (.seq .no (.cond .no .no))))))))) .no))))) .no))))) func5 mixed (ctabOk_cons (c18 K) (ctabOk_cons (c19 K) (ctabOk_cons (c20 K) (ctabOk_cons (c21 K) ctabOk_nil)))) (by kernel_rfl) fun x => by kernel_rfl
-- loop.example/g00460/impl.inHole
def F49 (K : Nat) (x : (List UInt8) × (List UInt8) × List UInt8) : Option ((List UInt8) × Bool) :=
  bindO (F83 K (x.1, x.2.1)) fun v0 =>
  bindO (F84 K (x.2.2, v0.1)) fun v1 =>
  bindO (F85 K (v1.1, v0.2.1)) fun v2 =>
  branch v1.2
   (some v2)
   (some (v2.1, false))
def ct49 (K : Nat) : Ct := ⟨[.l (.v .s), .l (.v .s), .l (.v .s)], [], [.l (.v .s), .l (.v .b)], [], [], F49 K⟩
theorem c49 (K : Nat) : CtOk prog 49 (ct49 K) :=
  con_mk (Y := Y) (L := [(83, ct83 K), (84, ct84 K), (85, ct85 K)]) (K := K) (an := (.seq .no (.seq .no (.seq .no (.seq .no .no))))) func49 mixed (ctabOk_cons (c83 K) (ctabOk_cons (c84 K) (ctabOk_cons (c85 K) ctabOk_nil))) (by kernel_rfl) fun x => by kernel_rfl
-- loop.example/g00460/impl.wholeIns
def F48_b1 (K : Nat) (x : (List UInt8) × Bool × Int × Int × Int × (List Bool) × Int × Bool × Int) : Option (((List UInt8) × Bool × Int × Int × Int × (List Bool) × Int × Bool × Int) ⊕ ((Int × Bool × Int × Bool) ⊕ ((List UInt8) × Int × Int × (List Bool) × Int × Bool × Int))) :=
  branch (decide (x.2.2.2.2.1 < 256))
   (bindO (F31 K (x.2.2.2.2.1, x.2.1)) fun v0 =>
   bindO (α := (List UInt8) × Bool × Int × Int × Int × Int × Bool × (List Bool) × Int × Bool × Int) (branch (!(decide (v0 = [])))
      (branch (decide (v0 = x.1))
       (bindO (F32 K v0) fun v1 =>
       some (x.1, x.2.1, x.2.2.2.2.1, x.2.2.1, x.2.2.2.1, x.2.2.2.2.1, decide (v1 = []), x.2.2.2.2.2))
       (some (x.1, x.2.1, x.2.2.2.2.1, x.2.2.1, x.2.2.2.1, x.2.2.2.2.1, false, x.2.2.2.2.2)))
      (some (x.1, x.2.1, x.2.2.2.2.1, x.2.2.1, x.2.2.2.1, x.2.2.2.2.1, false, x.2.2.2.2.2))) fun v2 =>
   branch v2.2.2.2.2.2.2.1
    (some (.inr (.inl (v2.2.2.1, v2.2.1, 0, true))))
    (some (.inl (v2.1, v2.2.1, v2.2.2.2.1, v2.2.2.2.2.1, w64 (v2.2.2.2.2.2.1 + 1), v2.2.2.2.2.2.2.2))))
   (some (.inr (.inr (x.1, x.2.2.1, x.2.2.2.1, x.2.2.2.2.2))))
def F48_b0 (K : Nat) (x : (List UInt8) × Int × Int × (List Bool) × Int × Bool × Int) : Option (((List UInt8) × Int × Int × (List Bool) × Int × Bool × Int) ⊕ ((Int × Bool × Int × Bool) ⊕ (Int × Bool × Int))) :=
  branch (decide (x.2.2.1 < x.2.1))
   (guard (decide (0 ≤ x.2.2.1 ∧ x.2.2.1 < (x.2.2.2.1.length : Int))) <|
   nthN x.2.2.2.1 x.2.2.1.toNat fun v0 =>
   bindO (iter K (F48_b1 K) (x.1, v0, x.2.1, x.2.2.1, 0, x.2.2.2)) fun v1 =>
   csO v1
    (fun v2 => some (.inr (.inl v2)))
    (fun v3 => some (.inl (v3.1, v3.2.1, w64 (v3.2.2.1 + 1), v3.2.2.2))))
   (some (.inr (.inr x.2.2.2.2)))
def F48 (K : Nat) (x : List UInt8) : Option (Int × Bool × Int × Bool) :=
  bindO (iter K (F48_b0 K) (x, (2 : Int), 0, [false, true], 0, false, 0)) fun v0 =>
  csO v0
   (fun v1 => some v1)
   (fun v2 => some (0, false, 0, false))
def ct48 (K : Nat) : Ct := ⟨[.l (.v .s)], [], [.agg [(.v (.i .i64)), (.v .b), (.v (.i .i64))], .l (.v .b)], [], [], F48 K⟩
theorem c48 (K : Nat) : CtOk prog 48 (ct48 K) :=
  con_mk (Y := Y) (L := [(31, ct31 K), (32, ct32 K)]) (K := K) (an := (.seq .no (.seq (.seq .no (.blk (.loop [] ⟨(.l (.v .s) :: ru 1 (.l (.ptr 3000 0 0) :: ru 5 (.l (.all 9000) :: .l (.v (.i .i64)) :: .l (.v (.i .i64)) :: ru 27 []))), [(9000, ⟨1, true, .row .b⟩), (3000, ⟨3, false, .mix (some 23) [[.l (.v (.i .i64)), .l (.v .b), .l (.v (.i .i64))]]⟩)]⟩ [(0, ⟨(ru 2 (.l (.ptr 3000 0 0) :: ru 35 [])), [(3000, ⟨3, false, .mix (some 23) [[.l (.v (.i .i64)), .l (.v .b), .l (.v (.i .i64))]]⟩)]⟩)] true (.seq .no (.seq .no (.seq (.blk (.seq .no (.seq .no (.blk (.loop [] ⟨(.l (.v .s) :: ru 1 (.l (.ptr 3000 0 0) :: ru 2 (.l (.v .b) :: ru 2 (.l (.all 9000) :: .l (.v (.i .i64)) :: .l (.v (.i .i64)) :: ru 3 (.l (.v (.i .i64)) :: ru 23 []))))), [(9000, ⟨1, true, .row .b⟩), (3000, ⟨3, false, .mix (some 23) [[.l (.v (.i .i64)), .l (.v .b), .l (.v (.i .i64))]]⟩)]⟩ [(2, ⟨(.l (.v .s) :: ru 1 (.l (.ptr 3000 0 0) :: ru 5 (.l (.all 9000) :: .l (.v (.i .i64)) :: .l (.v (.i .i64)) :: ru 27 []))), [(9000, ⟨1, true, .row .b⟩), (3000, ⟨3, false, .mix (some 23) [[.l (.v (.i .i64)), .l (.v .b), .l (.v (.i .i64))]]⟩)]⟩)] true (.seq .no (.seq .no (.seq (.blk (.seq .no (.seq .no (.seqJ [(1000000, ⟨(.l (.v .s) :: ru 1 (.l (.ptr 3000 0 0) :: ru 2 (.l (.v .b) :: .l (.v (.i .i64)) :: ru 1 (.l (.all 9000) :: .l (.v (.i .i64)) :: .l (.v (.i .i64)) :: ru 3 (.l (.v (.i .i64)) :: ru 16 (.l (.v .b) :: ru 6 [])))))), [(9000, ⟨1, true, .row .b⟩), (3000, ⟨3, false, .mix (some 23) [[.l (.v (.i .i64)), .l (.v .b), .l (.v (.i .i64))]]⟩)]⟩)] false .no (.cond .no .no))))) .no)))))))) .no)))))) .no))) func48 mixed (ctabOk_cons (c31 K) (ctabOk_cons (c32 K) ctabOk_nil)) (by kernel_rfl) fun x => by kernel_rfl
-- slices.Index[[]string,string]
def F146_b0 (K : Nat) (x : (List (List UInt8)) × (List UInt8) × Int × Int) : Option (((List (List UInt8)) × (List UInt8) × Int × Int) ⊕ (Int ⊕ Unit)) :=
  branch (decide (x.2.2.2 < x.2.2.1))
   (nth x.1 x.2.2.2 fun v0 =>
   branch (decide (x.2.1 = v0))
    (some (.inr (.inl x.2.2.2)))
    (some (.inl (x.1, x.2.1, x.2.2.1, w64 (x.2.2.2 + 1)))))
   (some (.inr (.inr ())))
def F146 (K : Nat) (x : (List (List UInt8)) × List UInt8) : Option (Int) :=
  bindO (iter K (F146_b0 K) (x.1, x.2, (x.1.length : Int), 0)) fun v0 =>
  csO v0
   (fun v1 => some v1)
   (fun v2 => some (-1))
def ct146 (K : Nat) : Ct := ⟨[.l (.v (.l .s)), .l (.v .s)], [], [.l (.v (.i .i64))], [], [], F146 K⟩
theorem c146 (K : Nat) : CtOk prog 146 (ct146 K) :=
  con_mk (Y := Y) (L := []) (K := K) (an := (.seq .no (.seq (.seq .no (.blk (.loop [] ⟨(.l (.v (.l .s)) :: .l (.v .s) :: ru 5 (.l (.v (.i .i64)) :: .l (.v (.i .i64)) :: ru 10 [])), []⟩ [(0, ⟨(ru 19 []), []⟩)] true (.seq .no (.seq .no (.seq (.blk (.seq .no (.seq .no (.cond .no .no)))) .no)))))) .no))) func146 mixed ctabOk_nil (by kernel_rfl) fun x => by kernel_rfl
-- slices.Contains[[]string,string]
def F122 (K : Nat) (x : (List (List UInt8)) × List UInt8) : Option (Bool) :=
  bindO (F146 K x) fun v0 =>
  some (decide (0 ≤ v0))
def ct122 (K : Nat) : Ct := ⟨[.l (.v (.l .s)), .l (.v .s)], [], [.l (.v .b)], [], [], F122 K⟩
theorem c122 (K : Nat) : CtOk prog 122 (ct122 K) :=
  con_mk (Y := Y) (L := [(146, ct146 K)]) (K := K) (an := (.seq .no .no)) func122 mixed (ctabOk_cons (c146 K) ctabOk_nil) (by kernel_rfl) fun x => by kernel_rfl
-- slices.Concat[[]string,string]
def F123_b0 (K : Nat) (x : (List (List (List UInt8))) × Int × (List (List (List UInt8))) × Int × Int) : Option (((List (List (List UInt8))) × Int × (List (List (List UInt8))) × Int × Int) ⊕ ((List (List (List UInt8))) × Int)) :=
  branch (decide (x.2.2.2.2 < x.2.2.2.1))
   (nth x.2.2.1 x.2.2.2.2 fun v0 =>
   branch (decide ((w64 (x.2.1 + (v0.length : Int))) < 0))
    (none)
    (some (.inl (x.1, w64 (x.2.1 + (v0.length : Int)), x.2.2.1, x.2.2.2.1, w64 (x.2.2.2.2 + 1)))))
   (some (.inr (x.1, x.2.1)))
def F123_b1 (K : Nat) (x : (List (List (List UInt8))) × Int × Int × List (List UInt8)) : Option (((List (List (List UInt8))) × Int × Int × List (List UInt8)) ⊕ (List (List UInt8))) :=
  branch (decide (x.2.2.1 < x.2.1))
   (nth x.1 x.2.2.1 fun v0 =>
   guard (fitN (x.2.2.2.length + v0.length) 16) <|
   some (.inl (x.1, x.2.1, w64 (x.2.2.1 + 1), x.2.2.2 ++ v0)))
   (some (.inr x.2.2.2))
def F123 (K : Nat) (x : List (List (List UInt8))) : Option (List (List UInt8)) :=
  bindO (iter K (F123_b0 K) (x, 0, x, (x.length : Int), 0)) fun v0 =>
  bindO (F147 K v0.2) fun v1 =>
  bindO (iter K (F123_b1 K) (v0.1, (v0.1.length : Int), 0, v1)) fun v2 =>
  some v2
def ct123 (K : Nat) : Ct := ⟨[.l (.v (.l (.l .s)))], [], [.l (.v (.l .s))], [], [], F123 K⟩
theorem c123 (K : Nat) : CtOk prog 123 (ct123 K) :=
  con_mk (Y := Y) (L := [(147, ct147 K)]) (K := K) (an := (.seq .no (.seq .no (.seq (.seq .no (.blk (.loop [] ⟨(.l (.v (.l (.l .s))) :: ru 2 (.l (.v (.i .i64)) :: ru 5 (.l (.v (.l (.l .s))) :: .l (.v (.i .i64)) :: .l (.v (.i .i64)) :: ru 24 []))), []⟩ [(0, ⟨(.l (.v (.l (.l .s))) :: ru 2 (.l (.v (.i .i64)) :: ru 32 [])), []⟩)] false (.seq .no (.seq .no (.seq (.blk (.seq .no (.seq .no (.seq .no .no)))) .no)))))) (.seq .no (.seq (.seq .no (.blk (.loop [] ⟨(ru 6 (.l (.all 25000) :: ru 18 (.l (.v (.l (.l .s))) :: .l (.v (.i .i64)) :: .l (.v (.i .i64)) :: ru 8 []))), [(25000, ⟨1, true, .row .s⟩)]⟩ [(2, ⟨(ru 6 (.l (.all 25000) :: ru 29 [])), [(25000, ⟨1, true, .row .s⟩)]⟩)] false (.seq .no (.seq .no (.seq (.blk .no) .no)))))) .no)))))) func123 mixed (ctabOk_cons (c147 K) ctabOk_nil) (by kernel_rfl) fun x => by kernel_rfl
-- loop.example/g00460/impl.isRegister
def F89 (K : Nat) (x : List UInt8) : Option (Bool) :=
  branch (decide (x = ([97, 102] : List UInt8)))
   (some true)
   (bindO (F64 K ()) fun v0 =>
   bindO (F94 K ()) fun v1 =>
   bindO (F93 K ()) fun v2 =>
   bindO (F123 K [v0, v1, v2]) fun v3 =>
   bindO (F122 K (v3, x)) fun v4 =>
   some v4)
def ct89 (K : Nat) : Ct := ⟨[.l (.v .s)], [], [.l (.v .b)], [], [], F89 K⟩
theorem c89 (K : Nat) : CtOk prog 89 (ct89 K) :=
  con_mk (Y := Y) (L := [(64, ct64 K), (93, ct93 K), (94, ct94 K), (122, ct122 K), (123, ct123 K)]) (K := K) (an := (.seq .no (.seq (.reg [6] []) .no))) func89 mixed (ctabOk_cons (c64 K) (ctabOk_cons (c93 K) (ctabOk_cons (c94 K) (ctabOk_cons (c122 K) (ctabOk_cons (c123 K) ctabOk_nil))))) (by kernel_rfl) fun x => by kernel_rfl
-- slices.IndexFunc[[]string,string]
def F119_b0 (K : Nat) (x : (List (List UInt8)) × Int × Int) : Option (((List (List UInt8)) × Int × Int) ⊕ (Int ⊕ Unit)) :=
  branch (decide (x.2.2 < x.2.1))
   (nth x.1 x.2.2 fun v0 =>
   bindO (F89 K v0) fun v1 =>
   branch v1
    (some (.inr (.inl x.2.2)))
    (some (.inl (x.1, x.2.1, w64 (x.2.2 + 1)))))
   (some (.inr (.inr ())))
def F119 (K : Nat) (x : List (List UInt8)) : Option (Int) :=
  bindO (iter K (F119_b0 K) (x, (x.length : Int), 0)) fun v0 =>
  csO v0
   (fun v1 => some v1)
   (fun v2 => some (-1))
def ct119 (K : Nat) : Ct := ⟨[.l (.v (.l .s)), .clo 89 []], [], [.l (.v (.i .i64))], [], [], F119 K⟩
theorem c119 (K : Nat) : CtOk prog 119 (ct119 K) :=
  con_mk (Y := Y) (L := [(89, ct89 K)]) (K := K) (an := (.seq .no (.seq (.seq .no (.blk (.loop [] ⟨(.l (.v (.l .s)) :: .clo 89 [] :: ru 5 (.l (.v (.i .i64)) :: .l (.v (.i .i64)) :: ru 10 [])), []⟩ [(0, ⟨(ru 19 []), []⟩)] true (.seq .no (.seq .no (.seq (.blk (.seq .no (.seq .no (.cond .no .no)))) .no)))))) .no))) func119 mixed (ctabOk_cons (c89 K) ctabOk_nil) (by kernel_rfl) fun x => by kernel_rfl
-- slices.ContainsFunc[[]string,string]
def F87 (K : Nat) (x : List (List UInt8)) : Option (Bool) :=
  bindO (F119 K x) fun v0 =>
  some (decide (0 ≤ v0))
def ct87 (K : Nat) : Ct := ⟨[.l (.v (.l .s)), .clo 89 []], [], [.l (.v .b)], [], [], F87 K⟩
theorem c87 (K : Nat) : CtOk prog 87 (ct87 K) :=
  con_mk (Y := Y) (L := [(89, ct89 K), (119, ct119 K)]) (K := K) (an := (.seq .no .no)) func87 mixed (ctabOk_cons (c89 K) (ctabOk_cons (c119 K) ctabOk_nil)) (by kernel_rfl) fun x => by kernel_rfl
-- loop.example/g00460/impl.namesIn
def F88_b0 (K : Nat) (x : (List (Int × Int × List UInt8)) × Int × Int × List (List UInt8)) : Option (((List (Int × Int × List UInt8)) × Int × Int × List (List UInt8)) ⊕ (List (List UInt8))) :=
  branch (decide (x.2.2.1 < x.2.1))
   (nth x.1 x.2.2.1 fun v0 =>
   branch (!(decide (v0.2.2 = [])))
    (guard (fitN (x.2.2.2.length + [v0.2.2].length) 16) <|
    some (.inl (x.1, x.2.1, w64 (x.2.2.1 + 1), x.2.2.2 ++ [v0.2.2])))
    (some (.inl (x.1, x.2.1, w64 (x.2.2.1 + 1), x.2.2.2))))
   (some (.inr x.2.2.2))
def F88 (K : Nat) (x : List (Int × Int × List UInt8)) : Option (List (List UInt8)) :=
  bindO (iter K (F88_b0 K) (x, (x.length : Int), 0, [])) fun v0 =>
  bindO (F120 K v0) fun v1 =>
  bindO (F121 K v1) fun v2 =>
  some v2
def ct88 (K : Nat) : Ct := ⟨[.l (.v (.l (.c (.i .i64) (.c (.i .i64) .s))))], [], [.l (.v (.l .s))], [], [], F88 K⟩
theorem c88 (K : Nat) : CtOk prog 88 (ct88 K) :=
  con_mk (Y := Y) (L := [(120, ct120 K), (121, ct121 K)]) (K := K) (an := (.seq .no (.seq .no (.seq (.seq .no (.blk (.loop [] ⟨(ru 3 (.l (.all 7000) :: ru 3 (.l (.v (.l (.c (.i .i64) (.c (.i .i64) .s)))) :: .l (.v (.i .i64)) :: .l (.v (.i .i64)) :: ru 16 []))), [(7000, ⟨1, true, .row .s⟩)]⟩ [(0, ⟨(ru 3 (.l (.all 7000) :: ru 22 [])), [(7000, ⟨1, true, .row .s⟩)]⟩)] false (.seq .no (.seq .no (.seq (.blk (.seq .no (.seq .no .no))) .no)))))) (.seq .no .no))))) func88 mixed (ctabOk_cons (c120 K) (ctabOk_cons (c121 K) ctabOk_nil)) (by kernel_rfl) fun x => by kernel_rfl
-- loop.example/g00460/impl.areFree
def F51 (K : Nat) (x : List (Int × Int × List UInt8)) : Option (Bool) :=
  bindO (F88 K x) fun v0 =>
  bindO (F87 K v0) fun v1 =>
  some (!v1)
def ct51 (K : Nat) : Ct := ⟨[.l (.v (.l (.c (.i .i64) (.c (.i .i64) .s))))], [], [.l (.v .b)], [], [], F51 K⟩
theorem c51 (K : Nat) : CtOk prog 51 (ct51 K) :=
  con_mk (Y := Y) (L := [(89, ct89 K), (87, ct87 K), (88, ct88 K)]) (K := K) (an := (.seq .no .no)) func51 mixed (ctabOk_cons (c89 K) (ctabOk_cons (c87 K) (ctabOk_cons (c88 K) ctabOk_nil))) (by kernel_rfl) fun x => by kernel_rfl
-- loop.example/g00460/impl.fitting
def F22_b0 (K : Nat) (x : (List UInt8) × Int × Int × Bool × Int) : Option (((List UInt8) × Int × Int × Bool × Int) ⊕ ((Int × Bool × Int × (List UInt8) × (List (Int × Int × List UInt8)) × Bool) ⊕ (Int × Bool × Int))) :=
  branch (decide (x.2.1 < 256))
   (bindO (F31 K (x.2.1, false)) fun v0 =>
   bindO (F32 K v0) fun v1 =>
   branch (decide (v1 = []))
    (some (.inl (x.1, w64 (x.2.1 + 1), x.2.2)))
    (bindO (F49 K (v0, v1, x.1)) fun v2 =>
    branch (!v2.2)
     (some (.inl (x.1, w64 (x.2.1 + 1), x.2.2)))
     (bindO (F50 K v2.1) fun v3 =>
     bindO (α := (List UInt8) × Int × (List UInt8) × (List (Int × Int × List UInt8)) × Int × Bool × Int × Bool × Int) (branch v3.2
        (bindO (F51 K v3.1) fun v4 =>
        some (x.1, x.2.1, v1, v3.1, x.2.1, v4, x.2.2))
        (some (x.1, x.2.1, v1, v3.1, x.2.1, false, x.2.2))) fun v5 =>
     branch v5.2.2.2.2.2.1
      (some (.inr (.inl (v5.2.1, false, 0, v5.2.2.1, v5.2.2.2.1, true))))
      (some (.inl (v5.1, w64 (v5.2.2.2.2.1 + 1), v5.2.2.2.2.2.2))))))
   (some (.inr (.inr x.2.2)))
def F22 (K : Nat) (x : List UInt8) : Option (Int × Bool × Int × (List UInt8) × (List (Int × Int × List UInt8)) × Bool) :=
  bindO (F48 K x) fun v0 =>
  branch v0.2.2.2
   (some (v0.1, v0.2.1, v0.2.2.1, [], [], true))
   (bindO (iter K (F22_b0 K) (x, 0, 0, false, 0)) fun v1 =>
   csO v1
    (fun v2 => some v2)
    (fun v3 => some (0, false, 0, [], [], false)))
def ct22 (K : Nat) : Ct := ⟨[.l (.v .s)], [], [.agg [(.v (.i .i64)), (.v .b), (.v (.i .i64))], .l (.v .s), .l (.v (.l (.c (.i .i64) (.c (.i .i64) .s)))), .l (.v .b)], [], [], F22 K⟩
theorem c22 (K : Nat) : CtOk prog 22 (ct22 K) :=
  con_mk (Y := Y) (L := [(31, ct31 K), (32, ct32 K), (50, ct50 K), (49, ct49 K), (48, ct48 K), (51, ct51 K)]) (K := K) (an := (.seq .no (.seq (.seq .no (.seq .no (.cond .no .no))) (.seq (.seq .no (.blk (.loop [] ⟨(.l (.v .s) :: ru 1 (.l (.ptr 3000 0 0) :: ru 19 (.l (.v (.i .i64)) :: ru 33 []))), [(3000, ⟨3, false, .mix (some 23) [[.l (.v (.i .i64)), .l (.v .b), .l (.v (.i .i64))]]⟩)]⟩ [(0, ⟨(ru 2 (.l (.ptr 3000 0 0) :: ru 53 [])), [(3000, ⟨3, false, .mix (some 23) [[.l (.v (.i .i64)), .l (.v .b), .l (.v (.i .i64))]]⟩)]⟩)] true (.seq .no (.seq .no (.seq (.blk (.seq .no (.seq .no (.seq .no (.seq (.seq .no .no) (.seq .no (.seq (.seq .no .no) (.seq .no (.seqJ [(1000000, ⟨(.l (.v .s) :: ru 1 (.l (.ptr 3000 0 0) :: ru 5 (.l (.v (.i .i64)) :: ru 1 (.l (.v .s) :: ru 2 (.l (.v (.l (.c (.i .i64) (.c (.i .i64) .s)))) :: ru 8 (.l (.v (.i .i64)) :: ru 26 (.l (.v .b) :: ru 6 []))))))), [(3000, ⟨3, false, .mix (some 23) [[.l (.v (.i .i64)), .l (.v .b), .l (.v (.i .i64))]]⟩)]⟩)] false .no (.cond .no .no)))))))))) .no)))))) .no)))) func22 mixed (ctabOk_cons (c31 K) (ctabOk_cons (c32 K) (ctabOk_cons (c50 K) (ctabOk_cons (c49 K) (ctabOk_cons (c48 K) (ctabOk_cons (c51 K) ctabOk_nil)))))) (by kernel_rfl) fun x => by kernel_rfl
-- loop.example/g00460/impl.Fitting
def F6 (K : Nat) (x : List UInt8) : Option (Int × Bool × Int × (List UInt8) × (List (Int × Int × List UInt8)) × Bool) :=
  branch (decide (80 < (x.length : Int)))
   (some (0, false, 0, [], [], false))
   (bindO (F22 K x) fun v0 =>
   some v0)
def ct6 (K : Nat) : Ct := ⟨[.l (.v .s)], [], [.agg [(.v (.i .i64)), (.v .b), (.v (.i .i64))], .l (.v .s), .l (.v (.l (.c (.i .i64) (.c (.i .i64) .s)))), .l (.v .b)], [], [], F6 K⟩
theorem c6 (K : Nat) : CtOk prog 6 (ct6 K) :=
  con_mk (Y := Y) (L := [(22, ct22 K)]) (K := K) (an := (.seq .no (.seq (.seq .no (.cond .no .no)) .no))) func6 mixed (ctabOk_cons (c22 K) ctabOk_nil) (by kernel_rfl) fun x => by kernel_rfl
-- loop.example/g00460/impl.fitting
def F22o_b0 (K : Nat) (x : (List UInt8) × Int × Int × Bool × Int) : Option (((List UInt8) × Int × Int × Bool × Int) ⊕ ((Int × Bool × Int × (List UInt8) × Bool × List (Int × Int × List UInt8)) ⊕ (Int × Bool × Int))) :=
  branch (decide (x.2.1 < 256))
   (bindO (F31 K (x.2.1, false)) fun v0 =>
   bindO (F32 K v0) fun v1 =>
   branch (decide (v1 = []))
    (some (.inl (x.1, w64 (x.2.1 + 1), x.2.2)))
    (bindO (F49 K (v0, v1, x.1)) fun v2 =>
    branch (!v2.2)
     (some (.inl (x.1, w64 (x.2.1 + 1), x.2.2)))
     (bindO (F50o K v2.1) fun v3 =>
     bindO (α := (List UInt8) × Int × (List UInt8) × Int × Bool × (List (Int × Int × List UInt8)) × Int × Bool × Int) (branch v3.1
        (bindO (F51 K v3.2) fun v4 =>
        some (x.1, x.2.1, v1, x.2.1, v4, v3.2, x.2.2))
        (some (x.1, x.2.1, v1, x.2.1, false, v3.2, x.2.2))) fun v5 =>
     branch v5.2.2.2.2.1
      (some (.inr (.inl (v5.2.1, false, 0, v5.2.2.1, true, v5.2.2.2.2.2.1))))
      (some (.inl (v5.1, w64 (v5.2.2.2.1 + 1), v5.2.2.2.2.2.2))))))
   (some (.inr (.inr x.2.2)))
def F22o (K : Nat) (x : List UInt8) : Option (Int × Bool × Int × (List UInt8) × Bool × List (Int × Int × List UInt8)) :=
  bindO (F48 K x) fun v0 =>
  branch v0.2.2.2
   (some (v0.1, v0.2.1, v0.2.2.1, [], true, []))
   (bindO (iter K (F22o_b0 K) (x, 0, 0, false, 0)) fun v1 =>
   csO v1
    (fun v2 => some v2)
    (fun v3 => some (0, false, 0, [], false, [])))
def ct22o (K : Nat) : Ct := ⟨[.l (.v .s)], [], [.agg [(.v (.i .i64)), (.v .b), (.v (.i .i64))], .l (.v .s), .l (.all 0), .l (.v .b)], [⟨3, true, .row (.c (.i .i64) (.c (.i .i64) .s))⟩], [], F22o K⟩
theorem c22o (K : Nat) : CtOk prog 22 (ct22o K) :=
  con_mk (Y := Y) (L := [(31, ct31 K), (32, ct32 K), (50, ct50o K), (49, ct49 K), (48, ct48 K), (51, ct51 K)]) (K := K) (an := (.seq .no (.seq (.seq .no (.seq .no (.cond (.seq (.reg [] [(5, .vslot 4 9900 3 (.c (.i .i64) (.c (.i .i64) .s)))]) .no) .no))) (.seq (.seq .no (.blk (.loop [] ⟨(.l (.v .s) :: ru 1 (.l (.ptr 3000 0 0) :: ru 19 (.l (.v (.i .i64)) :: ru 33 []))), [(3000, ⟨3, false, .mix (some 23) [[.l (.v (.i .i64)), .l (.v .b), .l (.v (.i .i64))]]⟩)]⟩ [(0, ⟨(ru 2 (.l (.ptr 3000 0 0) :: ru 53 [])), [(3000, ⟨3, false, .mix (some 23) [[.l (.v (.i .i64)), .l (.v .b), .l (.v (.i .i64))]]⟩)]⟩)] true (.seq .no (.seq .no (.seq (.blk (.seq .no (.seq .no (.seq .no (.seq (.seq .no .no) (.seq .no (.seq (.seq .no .no) (.seq .no (.seqJ [(1000000, ⟨(.l (.v .s) :: ru 1 (.l (.ptr 3000 0 0) :: ru 5 (.l (.v (.i .i64)) :: ru 1 (.l (.v .s) :: ru 2 (.l (.all 43000) :: ru 8 (.l (.v (.i .i64)) :: ru 26 (.l (.v .b) :: ru 6 []))))))), [(43000, ⟨3, true, .row (.c (.i .i64) (.c (.i .i64) .s))⟩), (3000, ⟨3, false, .mix (some 23) [[.l (.v (.i .i64)), .l (.v .b), .l (.v (.i .i64))]]⟩)]⟩)] false .no (.cond .no .no)))))))))) .no)))))) (.seq (.reg [] [(5, .vslot 4 9901 3 (.c (.i .i64) (.c (.i .i64) .s)))]) .no))))) func22 mixed (ctabOk_cons (c31 K) (ctabOk_cons (c32 K) (ctabOk_cons (c50o K) (ctabOk_cons (c49 K) (ctabOk_cons (c48 K) (ctabOk_cons (c51 K) ctabOk_nil)))))) (by kernel_rfl) fun x => by kernel_rfl
-- loop.example/g00460/impl.Fitting
def F6o (K : Nat) (x : List UInt8) : Option (Int × Bool × Int × (List UInt8) × Bool × List (Int × Int × List UInt8)) :=
  branch (decide (80 < (x.length : Int)))
   (some (0, false, 0, [], false, []))
   (bindO (F22o K x) fun v0 =>
   some v0)
def ct6o (K : Nat) : Ct := ⟨[.l (.v .s)], [], [.agg [(.v (.i .i64)), (.v .b), (.v (.i .i64))], .l (.v .s), .l (.all 0), .l (.v .b)], [⟨3, true, .row (.c (.i .i64) (.c (.i .i64) .s))⟩], [], F6o K⟩
theorem c6o (K : Nat) : CtOk prog 6 (ct6o K) :=
  con_mk (Y := Y) (L := [(22, ct22o K)]) (K := K) (an := (.seq .no (.seq (.seq .no (.cond (.seq (.reg [] [(5, .vslot 4 9900 3 (.c (.i .i64) (.c (.i .i64) .s)))]) .no) .no)) .no))) func6 mixed (ctabOk_cons (c22o K) ctabOk_nil) (by kernel_rfl) fun x => by kernel_rfl
-- loop.example/g00460/laws.FnExactFitting
def F3 (K : Nat) (x : List UInt8) : Option (Bool) :=
  branch (decide (1048576 < (x.length : Int)))
   (some true)
   (bindO (F5 K x) fun v0 =>
   bindO (F6o K x) fun v1 =>
   bindO (α := Bool ⊕ ((List UInt8) × (List UInt8) × (List (Int × Int × List UInt8)) × Bool × (List (Int × Int × List UInt8)) × Int × Bool × Int)) (bindO (α := (List UInt8) × (List UInt8) × (List (Int × Int × List UInt8)) × Bool × Bool × (List (Int × Int × List UInt8)) × Int × Bool × Int) (bindO (F7 K (v1.1, v1.2.1, v1.2.2.1, v0.1, v0.2.1, v0.2.2.1)) fun v2 =>
       branch (!v2)
        (some (x, v0.2.2.2.1, v0.2.2.2.2.1, v0.2.2.2.2.2, true, v1.2.2.2.2.2, v0.1, v0.2.1, v0.2.2.1))
        (branch (!(decide (v1.2.2.2.1 = v0.2.2.2.1)))
         (some (x, v0.2.2.2.1, v0.2.2.2.2.1, v0.2.2.2.2.2, true, v1.2.2.2.2.2, v0.1, v0.2.1, v0.2.2.1))
         (bindO (F8 K (v1.2.2.2.2.2, v0.2.2.2.2.1)) fun v3 =>
         branch (!v3)
          (some (x, v0.2.2.2.1, v0.2.2.2.2.1, v0.2.2.2.2.2, true, v1.2.2.2.2.2, v0.1, v0.2.1, v0.2.2.1))
          (some (x, v0.2.2.2.1, v0.2.2.2.2.1, v0.2.2.2.2.2, !(decide (v1.2.2.2.2.1 = v0.2.2.2.2.2)), v1.2.2.2.2.2, v0.1, v0.2.1, v0.2.2.1))))) fun v4 =>
     branch v4.2.2.2.2.1
      (some (.inl false))
      (some (.inr (v4.1, v4.2.1, v4.2.2.1, v4.2.2.2.1, v4.2.2.2.2.2)))) fun v5 =>
   csO v5
    (fun v6 => some v6)
    (fun v7 => bindO (F9f K (1, v7.2.2.2.2.1)) fun v8 =>
    bindO (F10 K (v8.2, 1)) fun v9 =>
    branch (decide (v9 < 0))
     (some false)
     (branch (!(decide (v9 = v8.1)))
      (some false)
      (bindO (F6o K v7.1) fun v10 =>
      bindO (α := Bool ⊕ (Int × List (Int × Int × List UInt8))) (bindO (α := Int × Bool × List (Int × Int × List UInt8)) (bindO (F7 K (v10.1, v10.2.1, v10.2.2.1, v7.2.2.2.2.2)) fun v11 =>
          branch (!v11)
           (some (v8.1, true, v8.2))
           (branch (!(decide (v10.2.2.2.1 = v7.2.1)))
            (some (v8.1, true, v8.2))
            (bindO (F8 K (v10.2.2.2.2.2, v7.2.2.1)) fun v12 =>
            branch (!v12)
             (some (v8.1, true, v8.2))
             (some (v8.1, !(decide (v10.2.2.2.2.1 = v7.2.2.2.1)), v8.2))))) fun v13 =>
        branch v13.2.1
         (some (.inl false))
         (some (.inr (v13.1, v13.2.2)))) fun v14 =>
      csO v14
       (fun v15 => some v15)
       (fun v16 => bindO (F10 K (v16.2, 1)) fun v17 =>
       branch (decide (v17 < 0))
        (some false)
        (branch (!(decide (v17 = v16.1)))
         (some false)
         (some true)))))))
def ct3 (K : Nat) : Ct := ⟨[.l (.v .s)], [], [.l (.v .b)], [], [], F3 K⟩
theorem c3 (K : Nat) : CtOk prog 3 (ct3 K) :=
  con_mk (Y := Y) (L := [(7, ct7 K), (8, ct8 K), (10, ct10 K), (9, ct9f K), (5, ct5 K), (6, ct6o K)]) (K := K) (an := (.seq .no (.seq (.seq .no (.cond .no .no)) (.seq .no (.seq .no (.seqJ [(1000000, ⟨(.l (.v .s) :: ru 2 (.l (.ptr 4000 0 0) :: .l (.v .s) :: .l (.v (.l (.c (.i .i64) (.c (.i .i64) .s)))) :: .l (.v .b) :: ru 2 (.l (.all 30000) :: ru 90 []))), [(30000, ⟨3, true, .row (.c (.i .i64) (.c (.i .i64) .s))⟩), (4000, ⟨3, false, .mix (some 23) [[.l (.v (.i .i64)), .l (.v .b), .l (.v (.i .i64))]]⟩)]⟩)] true (.seqJ [(1000000, ⟨(.l (.v .s) :: ru 2 (.l (.ptr 4000 0 0) :: .l (.v .s) :: .l (.v (.l (.c (.i .i64) (.c (.i .i64) .s)))) :: .l (.v .b) :: ru 2 (.l (.all 30000) :: ru 43 (.l (.v .b) :: ru 46 [])))), [(30000, ⟨3, true, .row (.c (.i .i64) (.c (.i .i64) .s))⟩), (4000, ⟨3, false, .mix (some 23) [[.l (.v (.i .i64)), .l (.v .b), .l (.v (.i .i64))]]⟩)]⟩)] false .no (.cond .no .no)) (.seq .no (.seq .no (.seq .no (.seq .no (.seq (.seq .no (.cond .no .no)) (.seq (.seq .no (.cond .no .no)) (.seq .no (.seqJ [(1000000, ⟨(ru 9 (.l (.all 30000) :: ru 1 (.l (.v (.i .i64)) :: ru 88 []))), [(30000, ⟨3, true, .row (.c (.i .i64) (.c (.i .i64) .s))⟩)]⟩)] true (.seqJ [(1000000, ⟨(ru 9 (.l (.all 30000) :: ru 1 (.l (.v (.i .i64)) :: ru 79 (.l (.v .b) :: ru 8 [])))), [(30000, ⟨3, true, .row (.c (.i .i64) (.c (.i .i64) .s))⟩)]⟩)] false .no (.cond .no .no)) (.seq .no (.seq .no (.seq (.seq .no (.cond .no .no)) (.seq (.seq .no (.cond .no .no)) .no)))))))))))))))))) func3 mixed (ctabOk_cons (c7 K) (ctabOk_cons (c8 K) (ctabOk_cons (c10 K) (ctabOk_cons (c9f K) (ctabOk_cons (c5 K) (ctabOk_cons (c6o K) ctabOk_nil)))))) (by kernel_rfl) fun x => by kernel_rfl
def T9 : Ty := .s
def A3 (K : Nat) (a0 : T9.den) : Option Bool := F3 K a0
end Go.U.Tryz
