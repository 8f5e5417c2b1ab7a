/- A part of the proof. No condition. -/
import Derived.Test.YtncclmpabjglmaaGreatDoorVMi
set_option linter.unusedVariables false
set_option linter.unusedSimpArgs false
set_option linter.unusedSectionVars false
namespace Go.U.Tryz
open Go Go.U Go.Proofs Go.Proofs.Tryz
set_option maxRecDepth 100000
set_option linter.unusedVariables false
def F87 (K : Nat) (x : Int × Int × Int) : Option (Bool) :=
  branch (decide (x.2.1 ≤ x.1))
   (some (decide (x.1 ≤ x.2.2)))
   (some false)
def ct87 (K : Nat) : Ct := ⟨[.l i6, .l i6, .l i6], [], [.l (.v .b)], [], [], F87 K⟩
theorem c87 (K : Nat) : CtOk prog 87 (ct87 K) :=
  con_mk (Y := Y) (L := []) (K := K) (an := (.seq .no .no)) func87 mixed ctabOk_nil (by kernel_rfl) fun x => by kernel_rfl
def F84 (K : Nat) (x : Int) : Option (Bool) :=
  bindO (F87 K (x, 0, 255)) fun v0 =>
  some v0
def ct84 (K : Nat) : Ct := ⟨[.l i6], [], [.l (.v .b)], [], [], F84 K⟩
def F85 (K : Nat) (x : Int) : Option (Bool) :=
  bindO (F87 K (x, 0, 65535)) fun v0 =>
  some v0
def ct85 (K : Nat) : Ct := ⟨[.l i6], [], [.l (.v .b)], [], [], F85 K⟩
def F127 (K : Nat) (x : List UInt8) : Option (Int) :=
  bindO (α := Int × Bool) (branch (!(decide ((Int.tmod (x.length : Int) 256) = 0)))
     (some (w64 (Int.tdiv (x.length : Int) 256), true))
     (bindO (F87 K (w64 (Int.tdiv (x.length : Int) 256), 2, 16)) fun v0 =>
     some (w64 (Int.tdiv (x.length : Int) 256), !v0))) fun v1 =>
  branch v1.2
   (some 0)
   (some v1.1)
def ct127 (K : Nat) : Ct := ⟨[.l (.v .s)], [], [.l i6], [], [], F127 K⟩
theorem c127 (K : Nat) : CtOk prog 127 (ct127 K) :=
  con_mk (Y := Y) (L := [(87, ct87 K)]) (K := K) (an := (.seq .no (.seq .no (.seq (.seqJ [(1000000, ⟨(ru 3 (.l i6 :: ru 11 (.l (.v .b) :: ru 1 []))), []⟩)] false .no (.cond .no .no)) .no)))) func127 mixed (ctabOk_cons (c87 K) ctabOk_nil) (by kernel_rfl) fun x => by kernel_rfl
def F86 (K : Nat) (x : (List UInt8) × Int × Int × (List UInt8) × Int × Bool × Int) : Option (Bool) :=
  bindO (α := Bool ⊕ ((List UInt8) × Int × Int × (List UInt8) × Int × Bool × Int)) (bindO (α := Bool × (List UInt8) × Int × Int × (List UInt8) × Int × Bool × Int) (bindO (F127 K x.1) fun v0 =>
      branch (decide (v0 = 0))
       (some (true, x))
       (some (!(decide ((x.2.2.2.1.length : Int) = 256)), x))) fun v1 =>
    branch v1.1
     (some (.inl false))
     (some (.inr v1.2))) fun v2 =>
  csO v2
   (fun v3 => some v3)
   (fun v4 => branch (decide (v4.2.1 = 0))
    (branch (decide (v4.2.2.1 = 1))
     (branch (decide (v4.2.2.2.2.1 = 0))
      (branch (!v4.2.2.2.2.2.1)
       (some (decide (v4.2.2.2.2.2.2 = 0)))
       (some false))
      (some false))
     (some false))
    (branch (decide (v4.2.1 = 1))
     (bindO (F87 K (v4.2.2.1, 1, 31)) fun v5 =>
     branch v5
      (bindO (F87 K (v4.2.2.2.2.1, 0, 3)) fun v6 =>
      branch v6
       (bindO (F87 K (v4.2.2.2.2.2.2, 0, 1)) fun v7 =>
       some v7)
       (some false))
      (some false))
     (branch (decide (v4.2.1 = 2))
      (bindO (F87 K (v4.2.2.1, 0, 255)) fun v8 =>
      branch v8
       (bindO (F87 K (v4.2.2.2.2.1, 0, 3)) fun v9 =>
       branch v9
        (some (decide (v4.2.2.2.2.2.2 = 0)))
        (some false))
       (some false))
      (some false))))
def ct86 (K : Nat) : Ct := ⟨[.agg [(.v .s), i6, i6, (.v .s), i6, (.v .b), i6]], [], [.l (.v .b)], [], [], F86 K⟩
theorem c86 (K : Nat) : CtOk prog 86 (ct86 K) :=
  con_mk (Y := Y) (L := [(87, ct87 K), (127, ct127 K)]) (K := K) (an := (.seq .no (.seqJ [(1000000, ⟨(ru 1 (.l (.ptr 2000 0 0) :: ru 63 [])), [(2000, ⟨7, false, .mix (some 27) [[.l (.v .s), .l i6, .l i6, .l (.v .s), .l i6, .l (.v .b), .l i6]]⟩)]⟩)] true (.seqJ [(1000000, ⟨(ru 1 (.l (.ptr 2000 0 0) :: ru 10 (.l (.v .b) :: ru 52 []))), [(2000, ⟨7, false, .mix (some 27) [[.l (.v .s), .l i6, .l i6, .l (.v .s), .l i6, .l (.v .b), .l i6]]⟩)]⟩)] false .no (.cond .no .no)) (.seq (.seq .no (.blk (.seq .no (.cond .no (.seq .no (.cond .no (.seq .no (.cond .no .no)))))))) .no)))) func86 mixed (ctabOk_cons (c87 K) (ctabOk_cons (c127 K) ctabOk_nil)) (by kernel_rfl) fun x => by kernel_rfl
def F176 (K : Nat) (x : Bool) : Option (Int) :=
  branch x
   (some 1)
   (some 0)
def ct176 (K : Nat) : Ct := ⟨[.l (.v .b)], [], [.l i6], [], [], F176 K⟩
def F161 (K : Nat) (x : Bool × Bool × Bool × Bool) : Option (Int) :=
  bindO (F176 K x.1) fun v0 =>
  bindO (F176 K x.2.1) fun v1 =>
  bindO (F176 K x.2.2.1) fun v2 =>
  bindO (F176 K x.2.2.2) fun v3 =>
  some (w64 ((w64 ((w64 ((w64 (128 * v0)) + (w64 (64 * v1)))) + (w64 (32 * v2)))) + (w64 (16 * v3))))
def ct161 (K : Nat) : Ct := ⟨[.l (.v .b), .l (.v .b), .l (.v .b), .l (.v .b)], [], [.l i6], [], [], F161 K⟩
end Go.U.Tryz
