/- A part of the proof. No condition. -/
import Derived.Test.YtllgcnjhlhkhjaaDoorVEb
set_option linter.unusedVariables false
set_option linter.unusedSimpArgs false
set_option linter.unusedSectionVars false
namespace Go.U.Tryd
open Go Go.U Go.Proofs Go.Proofs.Tryd
set_option maxRecDepth 100000
-- loop.example/g00460/spec.Compiled
def F6 (K : Nat) (x : List UInt8) : Option ((List (Int × Int × List UInt8)) × Bool) :=
  branch (decide (200 < (x.length : Int)))
   (some ([], false))
   (bindO (F18 K (1, 1, x, 0, false, [])) fun v0 =>
   bindO (α := ((List (Int × Int × List UInt8)) × Bool) ⊕ ((List (Int × Int × List UInt8)) × (List UInt8) × Int × Bool)) (bindO (α := Bool × (List (Int × Int × List UInt8)) × (List UInt8) × Int × Bool) (branch v0.2.2.1
        (some (true, v0.2.2.2, v0.1, v0.2.1, v0.2.2.1))
        (branch (!(decide (v0.2.1 = (x.length : Int))))
         (some (true, v0.2.2.2, v0.1, v0.2.1, v0.2.2.1))
         (bindO (F19 K v0.2.2.2) fun v1 =>
         some (!v1, v0.2.2.2, v0.1, v0.2.1, v0.2.2.1)))) fun v2 =>
     branch v2.1
      (some (.inl ([], false)))
      (some (.inr v2.2))) fun v3 =>
   csO v3
    (fun v4 => some v4)
    (fun v5 => some (v5.1, true)))
def ct6 (K : Nat) : Ct := ⟨[.l (.v .s)], [], [.l (.v (.l (.c (.i .i64) (.c (.i .i64) .s)))), .l (.v .b)], [], [], F6 K⟩
theorem c6 (K : Nat) : CtOk prog 6 (ct6 K) :=
  con_mk (Y := Y) (L := [(19, ct19 K), (18, ct18 K)]) (K := K) (an := (.seq .no (.seq (.seq .no (.cond .no .no)) (.seq .no (.seq (.reg [] [(0, .vcell 11000 2 11050 3 (.c (.i .i64) (.c (.i .i64) .s)))]) (.seqJ [(1000000, ⟨(ru 4 (.l (.ptr 11000 0 0) :: ru 33 [])), [(11050, ⟨3, true, .row (.c (.i .i64) (.c (.i .i64) .s))⟩), (11000, ⟨4, false, .mix (some 41) [[.l (.v .s), .l (.v (.i .i64)), .l (.all 11050), .l (.v .b)]]⟩)]⟩)] true (.seqJ [(1000000, ⟨(ru 4 (.l (.ptr 11000 0 0) :: ru 28 (.l (.v .b) :: ru 4 []))), [(11050, ⟨3, true, .row (.c (.i .i64) (.c (.i .i64) .s))⟩), (11000, ⟨4, false, .mix (some 41) [[.l (.v .s), .l (.v (.i .i64)), .l (.all 11050), .l (.v .b)]]⟩)]⟩)] false .no (.cond .no .no)) .no)))))) func6 mixed (ctabOk_cons (c19 K) (ctabOk_cons (c18 K) ctabOk_nil)) (by kernel_rfl) fun x => by kernel_rfl
-- loop.example/g00460/impl.Compiled
def F7 (K : Nat) (x : List UInt8) : Option ((List (Int × Int × List UInt8)) × Bool) :=
  branch (decide (200 < (x.length : Int)))
   (some ([], false))
   (bindO (F20 K (0, 1, x, 0, false, [])) fun v0 =>
   bindO (α := ((List (Int × Int × List UInt8)) × Bool) ⊕ ((List (Int × Int × List UInt8)) × (List UInt8) × Int × Bool)) (bindO (α := Bool × (List (Int × Int × List UInt8)) × (List UInt8) × Int × Bool) (branch v0.2.2.1
        (some (true, v0.2.2.2, v0.1, v0.2.1, v0.2.2.1))
        (some (decide (v0.2.1 < (x.length : Int)), v0.2.2.2, v0.1, v0.2.1, v0.2.2.1))) fun v1 =>
     branch v1.1
      (some (.inl ([], false)))
      (some (.inr v1.2))) fun v2 =>
   csO v2
    (fun v3 => some v3)
    (fun v4 => some (v4.1, true)))
def ct7 (K : Nat) : Ct := ⟨[.l (.v .s)], [], [.l (.v (.l (.c (.i .i64) (.c (.i .i64) .s)))), .l (.v .b)], [], [], F7 K⟩
theorem c7 (K : Nat) : CtOk prog 7 (ct7 K) :=
  con_mk (Y := Y) (L := [(20, ct20 K)]) (K := K) (an := (.seq .no (.seq (.seq .no (.cond .no .no)) (.seq .no (.seq (.reg [] [(0, .vcell 11000 2 11050 3 (.c (.i .i64) (.c (.i .i64) .s)))]) (.seqJ [(1000000, ⟨(ru 4 (.l (.ptr 11000 0 0) :: ru 25 [])), [(11050, ⟨3, true, .row (.c (.i .i64) (.c (.i .i64) .s))⟩), (11000, ⟨4, false, .mix (some 45) [[.l (.v .s), .l (.v (.i .i64)), .l (.all 11050), .l (.v .b)]]⟩)]⟩)] true (.seqJ [(1000000, ⟨(ru 4 (.l (.ptr 11000 0 0) :: ru 20 (.l (.v .b) :: ru 4 []))), [(11050, ⟨3, true, .row (.c (.i .i64) (.c (.i .i64) .s))⟩), (11000, ⟨4, false, .mix (some 45) [[.l (.v .s), .l (.v (.i .i64)), .l (.all 11050), .l (.v .b)]]⟩)]⟩)] false .no (.cond .no .no)) .no)))))) func7 mixed (ctabOk_cons (c20 K) ctabOk_nil) (by kernel_rfl) fun x => by kernel_rfl
-- loop.example/g00460/impl.Compiled
def F7o (K : Nat) (x : List UInt8) : Option (Bool × List (Int × Int × List UInt8)) :=
  branch (decide (200 < (x.length : Int)))
   (some (false, []))
   (bindO (F20 K (0, 1, x, 0, false, [])) fun v0 =>
   bindO (α := (Bool × List (Int × Int × List UInt8)) ⊕ ((List (Int × Int × List UInt8)) × (List UInt8) × Int × Bool)) (bindO (α := Bool × (List (Int × Int × List UInt8)) × (List UInt8) × Int × Bool) (branch v0.2.2.1
        (some (true, v0.2.2.2, v0.1, v0.2.1, v0.2.2.1))
        (some (decide (v0.2.1 < (x.length : Int)), v0.2.2.2, v0.1, v0.2.1, v0.2.2.1))) fun v1 =>
     branch v1.1
      (some (.inl (false, [])))
      (some (.inr v1.2))) fun v2 =>
   csO v2
    (fun v3 => some v3)
    (fun v4 => some (true, v4.1)))
def ct7o (K : Nat) : Ct := ⟨[.l (.v .s)], [], [.l (.all 0), .l (.v .b)], [⟨3, true, .row (.c (.i .i64) (.c (.i .i64) .s))⟩], [], F7o K⟩
theorem c7o (K : Nat) : CtOk prog 7 (ct7o K) :=
  con_mk (Y := Y) (L := [(20, ct20 K)]) (K := K) (an := (.seq .no (.seq (.seq .no (.cond (.seq (.reg [] [(2, .vslot 2 9900 3 (.c (.i .i64) (.c (.i .i64) .s)))]) .no) .no)) (.seq .no (.seq (.reg [] [(0, .vcell 11000 2 11050 3 (.c (.i .i64) (.c (.i .i64) .s)))]) (.seqJ [(1000000, ⟨(ru 4 (.l (.ptr 11000 0 0) :: ru 25 [])), [(11050, ⟨3, true, .row (.c (.i .i64) (.c (.i .i64) .s))⟩), (11000, ⟨4, false, .mix (some 45) [[.l (.v .s), .l (.v (.i .i64)), .l (.all 11050), .l (.v .b)]]⟩)]⟩)] true (.seqJ [(1000000, ⟨(ru 4 (.l (.ptr 11000 0 0) :: ru 20 (.l (.v .b) :: ru 4 []))), [(11050, ⟨3, true, .row (.c (.i .i64) (.c (.i .i64) .s))⟩), (11000, ⟨4, false, .mix (some 45) [[.l (.v .s), .l (.v (.i .i64)), .l (.all 11050), .l (.v .b)]]⟩)]⟩)] false .no (.cond (.seq (.reg [] [(2, .vslot 2 9901 3 (.c (.i .i64) (.c (.i .i64) .s)))]) .no) .no)) .no)))))) func7 mixed (ctabOk_cons (c20 K) ctabOk_nil) (by kernel_rfl) fun x => by kernel_rfl
-- loop.example/g00460/laws.markENodeS
def F9f_b0 (K : Nat) (x : Int × Int × List (Int × Int × List UInt8)) : Option ((Int × Int × List (Int × Int × List UInt8)) ⊕ (Int × List (Int × Int × List UInt8))) :=
  branch (decide (x.2.1 < (x.2.2.length : Int)))
   (guard (decide (0 ≤ x.2.1 ∧ x.2.1 < (x.2.2.length : Int))) <|
   nthN x.2.2 x.2.1.toNat fun v0 =>
   guard (decide (0 ≤ x.2.1 ∧ x.2.1 < ((List.set x.2.2 x.2.1.toNat (x.1, v0.2)).length : Int))) <|
   nthN (List.set x.2.2 x.2.1.toNat (x.1, v0.2)) x.2.1.toNat fun v1 =>
   bindO (F22 K (w64 ((w64 (x.1 + 1)) + 1))) fun v2 =>
   guard (decide (0 ≤ x.2.1 ∧ x.2.1 < ((List.set (List.set x.2.2 x.2.1.toNat (x.1, v0.2)) x.2.1.toNat (v1.1, w64 (x.1 + 1), v1.2.2)).length : Int))) <|
   nthN (List.set (List.set x.2.2 x.2.1.toNat (x.1, v0.2)) x.2.1.toNat (v1.1, w64 (x.1 + 1), v1.2.2)) x.2.1.toNat fun v3 =>
   some (.inl (w64 ((w64 ((w64 (x.1 + 1)) + 1)) + 1), w64 (x.2.1 + 1), List.set (List.set (List.set x.2.2 x.2.1.toNat (x.1, v0.2)) x.2.1.toNat (v1.1, w64 (x.1 + 1), v1.2.2)) x.2.1.toNat (v3.1, v3.2.1, v2))))
   (some (.inr (x.1, x.2.2)))
def F9f (K : Nat) (x : Int × List (Int × Int × List UInt8)) : Option (Int × List (Int × Int × List UInt8)) :=
  bindO (iter K (F9f_b0 K) (x.1, 0, x.2)) fun v0 =>
  some v0
def ct9f (K : Nat) : Ct := ⟨[.l (.all 0), .l (.v (.i .i64))], [⟨3, false, .row (.c (.i .i64) (.c (.i .i64) .s))⟩], [.l (.v (.i .i64))], [⟨3, false, .row (.c (.i .i64) (.c (.i .i64) .s))⟩], [true], F9f K⟩
theorem c9f (K : Nat) : CtOk prog 9 (ct9f K) :=
  con_mk (Y := Y) (L := [(22, ct22 K)]) (K := K) (an := (.seq .no (.seq (.seq .no (.blk (.loop [] ⟨(.l (.all 0) :: .l (.v (.i .i64)) :: ru 3 (.l (.v (.i .i64)) :: ru 29 [])), [(0, ⟨3, false, .row (.c (.i .i64) (.c (.i .i64) .s))⟩)]⟩ [(0, ⟨(ru 1 (.l (.v (.i .i64)) :: ru 33 [])), [(0, ⟨3, false, .row (.c (.i .i64) (.c (.i .i64) .s))⟩)]⟩)] false (.seq (.seq .no .no) (.seq (.blk (.seq .no (.seq .no (.seq .no (.seq .no .no))))) .no))))) .no))) func9 mixed (ctabOk_cons (c22 K) ctabOk_nil) (by kernel_rfl) fun x => by kernel_rfl
-- loop.example/g00460/laws.FnExactCompiled
def F3 (K : Nat) (x : List UInt8) : Option (Bool) :=
  branch (decide (1048576 < (x.length : Int)))
   (some true)
   (bindO (F6 K x) fun v0 =>
   bindO (F7o K x) fun v1 =>
   bindO (α := Bool ⊕ ((List UInt8) × (List (Int × Int × List UInt8)) × Bool × List (Int × Int × List UInt8))) (bindO (α := (List UInt8) × (List (Int × Int × List UInt8)) × Bool × Bool × List (Int × Int × List UInt8)) (bindO (F8 K (v1.2, v0.1)) fun v2 =>
       branch (!v2)
        (some (x, v0.1, v0.2, true, v1.2))
        (some (x, v0.1, v0.2, !(decide (v1.1 = v0.2)), v1.2))) fun v3 =>
     branch v3.2.2.2.1
      (some (.inl false))
      (some (.inr (v3.1, v3.2.1, v3.2.2.1, v3.2.2.2.2)))) fun v4 =>
   csO v4
    (fun v5 => some v5)
    (fun v6 => bindO (F9f K (1, v6.2.2.2)) fun v7 =>
    bindO (F10 K (v7.2, 1)) fun v8 =>
    branch (decide (v8 < 0))
     (some false)
     (branch (!(decide (v8 = v7.1)))
      (some false)
      (bindO (F7o K v6.1) fun v9 =>
      bindO (α := Bool ⊕ (Int × List (Int × Int × List UInt8))) (bindO (α := Int × Bool × List (Int × Int × List UInt8)) (bindO (F8 K (v9.2, v6.2.1)) fun v10 =>
          branch (!v10)
           (some (v7.1, true, v7.2))
           (some (v7.1, !(decide (v9.1 = v6.2.2.1)), v7.2))) fun v11 =>
        branch v11.2.1
         (some (.inl false))
         (some (.inr (v11.1, v11.2.2)))) fun v12 =>
      csO v12
       (fun v13 => some v13)
       (fun v14 => bindO (F10 K (v14.2, 1)) fun v15 =>
       branch (decide (v15 < 0))
        (some false)
        (branch (!(decide (v15 = v14.1)))
         (some false)
         (some true)))))))
def ct3 (K : Nat) : Ct := ⟨[.l (.v .s)], [], [.l (.v .b)], [], [], F3 K⟩
theorem c3 (K : Nat) : CtOk prog 3 (ct3 K) :=
  con_mk (Y := Y) (L := [(8, ct8 K), (10, ct10 K), (6, ct6 K), (7, ct7o K), (9, ct9f K)]) (K := K) (an := (.seq .no (.seq (.seq .no (.cond .no .no)) (.seq .no (.seq .no (.seqJ [(1000000, ⟨(.l (.v .s) :: ru 2 (.l (.v (.l (.c (.i .i64) (.c (.i .i64) .s)))) :: .l (.v .b) :: .l (.all 22000) :: ru 60 [])), [(22000, ⟨3, true, .row (.c (.i .i64) (.c (.i .i64) .s))⟩)]⟩)] true (.seqJ [(1000000, ⟨(.l (.v .s) :: ru 2 (.l (.v (.l (.c (.i .i64) (.c (.i .i64) .s)))) :: .l (.v .b) :: .l (.all 22000) :: ru 26 (.l (.v .b) :: ru 33 []))), [(22000, ⟨3, true, .row (.c (.i .i64) (.c (.i .i64) .s))⟩)]⟩)] false .no (.cond .no .no)) (.seq .no (.seq .no (.seq .no (.seq .no (.seq (.seq .no (.cond .no .no)) (.seq (.seq .no (.cond .no .no)) (.seq .no (.seqJ [(1000000, ⟨(ru 5 (.l (.all 22000) :: ru 1 (.l (.v (.i .i64)) :: ru 58 []))), [(22000, ⟨3, true, .row (.c (.i .i64) (.c (.i .i64) .s))⟩)]⟩)] true (.seqJ [(1000000, ⟨(ru 5 (.l (.all 22000) :: ru 1 (.l (.v (.i .i64)) :: ru 49 (.l (.v .b) :: ru 8 [])))), [(22000, ⟨3, true, .row (.c (.i .i64) (.c (.i .i64) .s))⟩)]⟩)] false .no (.cond .no .no)) (.seq .no (.seq .no (.seq (.seq .no (.cond .no .no)) (.seq (.seq .no (.cond .no .no)) .no)))))))))))))))))) func3 mixed (ctabOk_cons (c8 K) (ctabOk_cons (c10 K) (ctabOk_cons (c6 K) (ctabOk_cons (c7o K) (ctabOk_cons (c9f K) ctabOk_nil))))) (by kernel_rfl) fun x => by kernel_rfl
def T9 : Ty := .s
def A3 (K : Nat) (a0 : T9.den) : Option Bool := F3 K a0
end Go.U.Tryd
