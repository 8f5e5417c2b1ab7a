/- A part of the proof. No condition. -/
import Derived.Test.YtclapampnmjmoaaGreatDoorVJe
set_option linter.unusedVariables false
set_option linter.unusedSimpArgs false
set_option linter.unusedSectionVars false
namespace Go.U.Tryz
open Go Go.U Go.Proofs Go.Proofs.Tryz
set_option maxRecDepth 100000
-- loop.example/g00460/impl.Expanded
def F10_b0 (K : Nat) (x : (List (List UInt8)) × (List (List UInt8)) × Int × Int) : Option (((List (List UInt8)) × (List (List UInt8)) × Int × Int) ⊕ (((List (List UInt8)) × Int) ⊕ (List (List UInt8)))) :=
  branch (decide (x.2.2.2 < x.2.2.1))
   (nth x.2.1 x.2.2.2 fun v0 =>
   branch (decide (80 < (v0.length : Int)))
    (some (.inr (.inl ([], 1))))
    (some (.inl (x.1, x.2.1, x.2.2.1, w64 (x.2.2.2 + 1)))))
   (some (.inr (.inr x.1)))
def F10 (K : Nat) (x : List (List UInt8)) : Option ((List (List UInt8)) × Int) :=
  branch (decide (1500 < (x.length : Int)))
   (some ([], 2))
   (bindO (iter K (F10_b0 K) (x, x, (x.length : Int), 0)) fun v0 =>
   csO v0
    (fun v1 => some v1)
    (fun v2 => bindO (F26 K (v2, 1, 0, 0, [], [])) fun v3 =>
    branch (!(decide (v3.2.1 = 0)))
     (some ([], v3.2.1))
     (some (v3.2.2.1, 0))))
def ct10 (K : Nat) : Ct := ⟨[.l (.v (.l .s))], [], [.l (.v (.l .s)), .l (.v (.i .i64))], [], [], F10 K⟩
theorem c10 (K : Nat) : CtOk prog 10 (ct10 K) :=
  con_mk (Y := Y) (L := [(26, ct26 K)]) (K := K) (an := (.seq .no (.seq (.seq .no (.cond .no .no)) (.seq (.seq .no (.blk (.loop [] ⟨(.l (.v (.l .s)) :: ru 9 (.l (.v (.l .s)) :: .l (.v (.i .i64)) :: .l (.v (.i .i64)) :: ru 26 [])), []⟩ [(0, ⟨(.l (.v (.l .s)) :: ru 38 []), []⟩)] true (.seq .no (.seq .no (.seq (.blk (.seq .no (.seq .no (.cond .no .no)))) .no)))))) (.seq .no (.seq (.reg [] [(0, .vcell 23000 0 23050 1 .s)]) (.seq (.seq .no (.cond .no .no)) .no))))))) func10 mixed (ctabOk_cons (c26 K) ctabOk_nil) (by kernel_rfl) fun x => by kernel_rfl
-- loop.example/g00460/impl.Expanded
def F10o_b0 (K : Nat) (x : (List (List UInt8)) × (List (List UInt8)) × Int × Int) : Option (((List (List UInt8)) × (List (List UInt8)) × Int × Int) ⊕ ((Int × List (List UInt8)) ⊕ (List (List UInt8)))) :=
  branch (decide (x.2.2.2 < x.2.2.1))
   (nth x.2.1 x.2.2.2 fun v0 =>
   branch (decide (80 < (v0.length : Int)))
    (some (.inr (.inl (1, []))))
    (some (.inl (x.1, x.2.1, x.2.2.1, w64 (x.2.2.2 + 1)))))
   (some (.inr (.inr x.1)))
def F10o (K : Nat) (x : List (List UInt8)) : Option (Int × List (List UInt8)) :=
  branch (decide (1500 < (x.length : Int)))
   (some (2, []))
   (bindO (iter K (F10o_b0 K) (x, x, (x.length : Int), 0)) fun v0 =>
   csO v0
    (fun v1 => some v1)
    (fun v2 => bindO (F26 K (v2, 1, 0, 0, [], [])) fun v3 =>
    branch (!(decide (v3.2.1 = 0)))
     (none)
     (some (0, v3.2.2.1))))
def ct10o (K : Nat) : Ct := ⟨[.l (.v (.l .s))], [], [.l (.all 0), .l (.v (.i .i64))], [⟨1, true, .row .s⟩], [], F10o K⟩
theorem c10o (K : Nat) : CtOk prog 10 (ct10o K) :=
  con_mk (Y := Y) (L := [(26, ct26 K)]) (K := K) (an := (.seq .no (.seq (.seq .no (.cond (.seq (.reg [] [(2, .vslot 2 9900 1 .s)]) .no) .no)) (.seq (.seq .no (.blk (.loop [] ⟨(.l (.v (.l .s)) :: ru 9 (.l (.v (.l .s)) :: .l (.v (.i .i64)) :: .l (.v (.i .i64)) :: ru 26 [])), []⟩ [(0, ⟨(.l (.v (.l .s)) :: ru 38 []), []⟩)] true (.seq .no (.seq .no (.seq (.blk (.seq .no (.seq .no (.cond (.seq (.reg [] [(2, .vslot 2 9901 1 .s)]) .no) .no)))) .no)))))) (.seq .no (.seq (.reg [] [(0, .vcell 23000 0 23050 1 .s)]) (.seq (.seq .no (.cond (.seq (.reg [] [(6, .vslot 2 9902 1 .s)]) .no) .no)) .no))))))) func10 mixed (ctabOk_cons (c26 K) ctabOk_nil) (by kernel_rfl) fun x => by kernel_rfl
-- loop.example/g00460/spec.Expanded
def F8_b0 (K : Nat) (x : (List (List UInt8)) × Int) : Option (((List (List UInt8)) × Int) ⊕ (((List (List UInt8)) × Int) ⊕ (List (List UInt8)))) :=
  branch (decide (x.2 < (x.1.length : Int)))
   (nth x.1 x.2 fun v0 =>
   branch (decide (80 < (v0.length : Int)))
    (some (.inr (.inl ([], 1))))
    (some (.inl (x.1, w64 (x.2 + 1)))))
   (some (.inr (.inr x.1)))
def F8 (K : Nat) (x : List (List UInt8)) : Option ((List (List UInt8)) × Int) :=
  branch (decide (1500 < (x.length : Int)))
   (some ([], 2))
   (bindO (iter K (F8_b0 K) (x, 0)) fun v0 =>
   csO v0
    (fun v1 => some v1)
    (fun v2 => bindO (F25 K (v2, 1, 0, 0, [], [], [])) fun v3 =>
    branch (!(decide (v3.1 = 0)))
     (some ([], v3.1))
     (some (v3.2.2.1, 0))))
def ct8 (K : Nat) : Ct := ⟨[.l (.v (.l .s))], [], [.l (.v (.l .s)), .l (.v (.i .i64))], [], [], F8 K⟩
theorem c8 (K : Nat) : CtOk prog 8 (ct8 K) :=
  con_mk (Y := Y) (L := [(25, ct25 K)]) (K := K) (an := (.seq .no (.seq (.seq .no (.cond .no .no)) (.seq (.seq .no (.blk (.loop [] ⟨(.l (.v (.l .s)) :: ru 3 (.l (.v (.i .i64)) :: ru 34 [])), []⟩ [(0, ⟨(.l (.v (.l .s)) :: ru 38 []), []⟩)] true (.seq (.seq .no .no) (.seq (.blk (.seq .no (.cond .no .no))) .no))))) (.seq .no (.seq (.reg [] [(0, .vcell 23000 0 23050 1 .s), (0, .vcell 23000 1 23051 1 .s), (0, .vcell 23000 2 23052 1 (.l .s))]) (.seq (.seq .no (.cond .no .no)) .no))))))) func8 mixed (ctabOk_cons (c25 K) ctabOk_nil) (by kernel_rfl) fun x => by kernel_rfl
-- loop.example/g00460/laws.toStringS
def F9o_b0 (K : Nat) (x : (List (List UInt8)) × Int × List (List UInt8)) : Option (((List (List UInt8)) × Int × List (List UInt8)) ⊕ (List (List UInt8))) :=
  branch (decide (x.2.1 < (x.1.length : Int)))
   (nth x.1 x.2.1 fun v0 =>
   guard (decide (0 ≤ x.2.1 ∧ x.2.1 < (x.2.2.length : Int))) <|
   nthN x.2.2 x.2.1.toNat fun v1 =>
   some (.inl (x.1, w64 (x.2.1 + 1), List.set x.2.2 x.2.1.toNat v0)))
   (some (.inr x.2.2))
def F9o (K : Nat) (x : List (List UInt8)) : Option (List (List UInt8)) :=
  guard (decide ((x.length : Int) = (x.length : Int) ∧ 0 ≤ (x.length : Int) ∧ (16 * ((x.length : Int).toNat)) ≤ 281474976710656)) <|
  bindO (iter K (F9o_b0 K) (x, 0, List.replicate ((x.length : Int).toNat) [])) fun v0 =>
  some v0
def ct9o (K : Nat) : Ct := ⟨[.l (.v (.l .s))], [], [.l (.all 0)], [⟨1, true, .row .s⟩], [], F9o K⟩
theorem c9o (K : Nat) : CtOk prog 9 (ct9o K) :=
  con_mk (Y := Y) (L := []) (K := K) (an := (.seq .no (.seq .no (.seq (.seq .no (.blk (.loop [] ⟨(.l (.v (.l .s)) :: ru 2 (.l (.all 8000) :: .l (.v (.i .i64)) :: ru 17 [])), [(8000, ⟨1, true, .row .s⟩)]⟩ [(0, ⟨(ru 3 (.l (.all 8000) :: ru 18 [])), [(8000, ⟨1, true, .row .s⟩)]⟩)] false (.seq (.seq .no .no) (.seq .no .no))))) .no)))) func9 mixed ctabOk_nil (by kernel_rfl) fun x => by kernel_rfl
-- loop.example/g00460/laws.FnExactExpanded
def F3 (K : Nat) (x : List (List UInt8)) : Option (Bool) :=
  bindO (F7 K (x, 1048576)) fun v0 =>
  branch (decide (v0 < 0))
   (some true)
   (bindO (F9o K x) fun v1 =>
   bindO (F8 K v1) fun v2 =>
   bindO (F9o K x) fun v3 =>
   bindO (F10o K v3) fun v4 =>
   bindO (α := Bool ⊕ ((List (List UInt8)) × (List (List UInt8)) × Int × Int × (List (List UInt8)) × List (List UInt8))) (bindO (α := (List (List UInt8)) × (List (List UInt8)) × Int × Int × Bool × (List (List UInt8)) × List (List UInt8)) (bindO (F11 K (v4.2, v2.1)) fun v5 =>
       branch (!v5)
        (some (x, v2.1, v2.2, v4.1, true, v4.2, v3))
        (some (x, v2.1, v2.2, v4.1, !(decide (v4.1 = v2.2)), v4.2, v3))) fun v6 =>
     branch v6.2.2.2.2.1
      (some (.inl false))
      (some (.inr (v6.1, v6.2.1, v6.2.2.1, v6.2.2.2.1, v6.2.2.2.2.2)))) fun v7 =>
   csO v7
    (fun v8 => some v8)
    (fun v9 => bindO (F9o K v9.1) fun v10 =>
    bindO (F11 K (v9.2.2.2.2.2, v10)) fun v11 =>
    branch (!v11)
     (some false)
     (bindO (F12 K (1, v9.2.2.2.2.2)) fun v12 =>
     bindO (α := Bool ⊕ ((List (List UInt8)) × (List (List UInt8)) × Int × List (List UInt8))) (bindO (α := (List (List UInt8)) × (List (List UInt8)) × Int × Bool × List (List UInt8)) (branch (decide (v12.1 < 0))
          (some (v9.1, v9.2.1, v9.2.2.1, true, v9.2.2.2.2.1))
          (bindO (F11 K (v9.2.2.2.2.1, v9.2.1)) fun v13 =>
          branch (!v13)
           (some (v9.1, v9.2.1, v9.2.2.1, true, v9.2.2.2.2.1))
           (some (v9.1, v9.2.1, v9.2.2.1, !(decide (v9.2.2.2.1 = v9.2.2.1)), v9.2.2.2.2.1)))) fun v14 =>
       branch v14.2.2.2.1
        (some (.inl false))
        (some (.inr (v14.1, v14.2.1, v14.2.2.1, v14.2.2.2.2)))) fun v15 =>
     csO v15
      (fun v16 => some v16)
      (fun v17 => bindO (F12 K (1, v17.2.2.2)) fun v18 =>
      bindO (F13 K (v18.2, 1)) fun v19 =>
      branch (decide (v19 < 0))
       (some false)
       (branch (!(decide (v19 = v18.1)))
        (some false)
        (bindO (F9o K v17.1) fun v20 =>
        bindO (F10o K v20) fun v21 =>
        bindO (α := Bool ⊕ (Int × List (List UInt8))) (bindO (α := Int × Bool × List (List UInt8)) (bindO (F11 K (v21.2, v17.2.1)) fun v22 =>
            branch (!v22)
             (some (v18.1, true, v18.2))
             (some (v18.1, !(decide (v21.1 = v17.2.2.1)), v18.2))) fun v23 =>
          branch v23.2.1
           (some (.inl false))
           (some (.inr (v23.1, v23.2.2)))) fun v24 =>
        csO v24
         (fun v25 => some v25)
         (fun v26 => bindO (F13 K (v26.2, 1)) fun v27 =>
         branch (decide (v27 < 0))
          (some false)
          (branch (!(decide (v27 = v26.1)))
           (some false)
           (some true)))))))))
def ct3 (K : Nat) : Ct := ⟨[.l (.v (.l .s))], [], [.l (.v .b)], [], [], F3 K⟩
theorem c3 (K : Nat) : CtOk prog 3 (ct3 K) :=
  con_mk (Y := Y) (L := [(7, ct7 K), (11, ct11 K), (13, ct13 K), (12, ct12 K), (10, ct10o K), (8, ct8 K), (9, ct9o K)]) (K := K) (an := (.seq .no (.seq .no (.seq .no (.seq (.seq .no (.cond .no .no)) (.seq (.reg [] [(2, .frz 22000)]) (.seq .no (.seq .no (.seqJ [(1000000, ⟨(.l (.v (.l .s)) :: ru 3 (.l (.v (.l .s)) :: .l (.v (.i .i64)) :: .l (.all 27000) :: .l (.all 30000) :: .l (.v (.i .i64)) :: ru 87 [])), [(30000, ⟨1, true, .row .s⟩), (27000, ⟨1, true, .row .s⟩)]⟩)] true (.seqJ [(1000000, ⟨(.l (.v (.l .s)) :: ru 3 (.l (.v (.l .s)) :: .l (.v (.i .i64)) :: .l (.all 27000) :: .l (.all 30000) :: .l (.v (.i .i64)) :: ru 31 (.l (.v .b) :: ru 55 []))), [(30000, ⟨1, true, .row .s⟩), (27000, ⟨1, true, .row .s⟩)]⟩)] false .no (.cond .no .no)) (.seq (.seq .no (.cond .no .no)) (.seq .no (.seq .no (.seqJ [(1000000, ⟨(.l (.v (.l .s)) :: ru 3 (.l (.v (.l .s)) :: .l (.v (.i .i64)) :: ru 1 (.l (.all 30000) :: ru 88 []))), [(30000, ⟨1, true, .row .s⟩)]⟩)] true (.seqJ [(1000000, ⟨(.l (.v (.l .s)) :: ru 3 (.l (.v (.l .s)) :: .l (.v (.i .i64)) :: ru 1 (.l (.all 30000) :: ru 53 (.l (.v .b) :: ru 34 [])))), [(30000, ⟨1, true, .row .s⟩)]⟩)] false .no (.cond .no .no)) (.seq .no (.seq .no (.seq .no (.seq .no (.seq (.seq .no (.cond .no .no)) (.seq (.seq .no (.cond .no .no)) (.seq (.reg [] [(2, .frz 76000)]) (.seqJ [(1000000, ⟨(ru 7 (.l (.all 30000) :: ru 2 (.l (.v (.i .i64)) :: ru 85 []))), [(30000, ⟨1, true, .row .s⟩)]⟩)] true (.seqJ [(1000000, ⟨(ru 7 (.l (.all 30000) :: ru 2 (.l (.v (.i .i64)) :: ru 76 (.l (.v .b) :: ru 8 [])))), [(30000, ⟨1, true, .row .s⟩)]⟩)] false .no (.cond .no .no)) (.seq .no (.seq .no (.seq (.seq .no (.cond .no .no)) (.seq (.seq .no (.cond .no .no)) .no))))))))))))))))))))))))) func3 mixed (ctabOk_cons (c7 K) (ctabOk_cons (c11 K) (ctabOk_cons (c13 K) (ctabOk_cons (c12 K) (ctabOk_cons (c10o K) (ctabOk_cons (c8 K) (ctabOk_cons (c9o K) ctabOk_nil))))))) (by kernel_rfl) fun x => by kernel_rfl
def T22 : Ty := (.l .s)
def A3 (K : Nat) (a0 : T22.den) : Option Bool := F3 K a0
end Go.U.Tryz
