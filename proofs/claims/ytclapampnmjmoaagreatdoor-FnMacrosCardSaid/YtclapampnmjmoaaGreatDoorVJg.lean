/- A part of the proof. No condition. -/
import Derived.Test.YtclapampnmjmoaaGreatDoorVJf
set_option linter.unusedVariables false
set_option linter.unusedSimpArgs false
set_option linter.unusedSectionVars false
namespace Go.U.Tryz
open Go Go.U Go.Proofs Go.Proofs.Tryz
set_option maxRecDepth 100000
-- loop.example/g00460/laws.FnMacros
def F4_b0 (K : Nat) (x : (List UInt8) × (List (List UInt8)) × (List UInt8) × Int) : Option (((List UInt8) × (List (List UInt8)) × (List UInt8) × Int) ⊕ ((List UInt8) × (List (List UInt8)) × List UInt8)) :=
  branch (decide (x.2.2.2 < (x.2.1.length : Int)))
   (bindO (α := (List UInt8) × (List (List UInt8)) × (List UInt8) × Int) (branch (decide (0 < x.2.2.2))
      (guard (decide ((x.2.2.1.length + 1) ≤ 9223372036854775807)) <|
      some (x.1, x.2.1, x.2.2.1 ++ ([44] : List UInt8), x.2.2.2))
      (some x)) fun v0 =>
   nth v0.2.1 v0.2.2.2 fun v1 =>
   guard (decide ((v0.2.2.1.length + v1.length) ≤ 9223372036854775807)) <|
   some (.inl (v0.1, v0.2.1, v0.2.2.1 ++ v1, w64 (v0.2.2.2 + 1))))
   (some (.inr (x.1, x.2.1, x.2.2.1)))
def F4 (K : Nat) (x : List Int) : Option (Bool) :=
  bindO (F14 K x) fun v0 =>
  branch v0
   (some true)
   (bindO (F15 K x) fun v1 =>
   bindO (iter K (F4_b0 K) (v1.1, v1.2, [], 0)) fun v2 =>
   bindO (α := Bool ⊕ ((List UInt8) × (List (List UInt8)) × (List UInt8) × (List UInt8) × List UInt8)) (bindO (α := (List UInt8) × (List (List UInt8)) × Bool × (List UInt8) × (List UInt8) × List UInt8) (bindO (F16 K ([], ([109, 97, 99] : List UInt8), v2.2.2)) fun v3 =>
       branch (!v3)
        (some (v2.1, v2.2.1, true, [], ([109, 97, 99] : List UInt8), v2.2.2))
        (branch (decide (9 < (v2.2.1.length : Int)))
         (some (v2.1, v2.2.1, true, [], ([109, 97, 99] : List UInt8), v2.2.2))
         (bindO (F18 K v2.2.2) fun v4 =>
         bindO (F17 K (v4, v2.2.1)) fun v5 =>
         some (v2.1, v2.2.1, !v5, [], ([109, 97, 99] : List UInt8), v2.2.2)))) fun v6 =>
     branch v6.2.2.1
      (some (.inl true))
      (some (.inr (v6.1, v6.2.1, v6.2.2.2)))) fun v7 =>
   csO v7
    (fun v8 => some v8)
    (fun v9 => bindO (F19 K v9.2.2) fun v10 =>
    bindO (F10 K [([109, 97, 99, 114, 111, 32, 109, 97, 99] : List UInt8), v9.1, ([101, 110, 100, 109] : List UInt8), v10]) fun v11 =>
    bindO (F20 K v9.2.2) fun v12 =>
    bindO (F8 K [([109, 97, 99, 114, 111, 32, 109, 97, 99] : List UInt8), v9.1, ([101, 110, 100, 109] : List UInt8), v12]) fun v13 =>
    bindO (F21 K (v9.1, v9.2.1)) fun v14 =>
    branch (decide (v11.2 = v13.2))
     (bindO (F17 K (v11.1, v13.1)) fun v15 =>
     branch v15
      (branch (!(decide (v11.2 = 0)))
       (some true)
       (bindO (F22 K [v14]) fun v16 =>
       branch (!v16)
        (some true)
        (bindO (F17 K (v11.1, [v14])) fun v17 =>
        some v17)))
      (some false))
     (some false)))
def ct4 (K : Nat) : Ct := ⟨[.l (.v (.l (.i .u8)))], [], [.l (.v .b)], [], [], F4 K⟩
theorem c4 (K : Nat) : CtOk prog 4 (ct4 K) :=
  con_mk (Y := Y) (L := [(16, ct16 K), (18, ct18 K), (14, ct14 K), (15, ct15 K), (17, ct17 K), (19, ct19 K), (20, ct20 K), (21, ct21 K), (22, ct22 K), (10, ct10 K), (8, ct8 K)]) (K := K) (an := (.seq .no (.seq (.seq .no (.cond .no .no)) (.seq .no (.seq .no (.seq (.seq .no (.blk (.loop [] ⟨(ru 3 (.l (.v .s) :: .l (.v (.l .s)) :: .l (.v .s) :: .l (.v (.i .i64)) :: ru 89 [])), []⟩ [(0, ⟨(ru 3 (.l (.v .s) :: .l (.v (.l .s)) :: .l (.v .s) :: ru 90 [])), []⟩)] false (.seq (.seq .no .no) (.seq (.blk (.seqJ [(1000000, ⟨(ru 3 (.l (.v .s) :: .l (.v (.l .s)) :: .l (.v .s) :: .l (.v (.i .i64)) :: ru 89 [])), []⟩)] false (.seq .no .no) .no)) .no))))) (.seq .no (.seqJ [(1000000, ⟨(ru 3 (.l (.v .s) :: .l (.v (.l .s)) :: ru 2 (.l (.ptr 8000 0 0) :: ru 88 []))), [(8000, ⟨3, false, .mix (some 34) [[.l (.v .s), .l (.v .s), .l (.v .s)]]⟩)]⟩)] true (.seqJ [(1000000, ⟨(ru 3 (.l (.v .s) :: .l (.v (.l .s)) :: ru 2 (.l (.ptr 8000 0 0) :: ru 44 (.l (.v .b) :: ru 43 [])))), [(8000, ⟨3, false, .mix (some 34) [[.l (.v .s), .l (.v .s), .l (.v .s)]]⟩)]⟩)] false .no (.cond .no .no)) (.seq (.reg [3] []) (.seq (.reg [3] []) (.seq .no .no))))))))))) func4 mixed (ctabOk_cons (c16 K) (ctabOk_cons (c18 K) (ctabOk_cons (c14 K) (ctabOk_cons (c15 K) (ctabOk_cons (c17 K) (ctabOk_cons (c19 K) (ctabOk_cons (c20 K) (ctabOk_cons (c21 K) (ctabOk_cons (c22 K) (ctabOk_cons (c10 K) (ctabOk_cons (c8 K) ctabOk_nil))))))))))) (by kernel_rfl) fun x => by kernel_rfl
def T29 : Ty := (.l (.i .u8))
theorem tl29 : tyL prog 64 29 = some T29 := by kernel_rfl
def A4 (K : Nat) (a0 : T29.den) : Option Bool := F4 K a0
theorem fun4 (K : Nat) (a0 : T29.den) : funOf (ct4 K) [.d (.rov (.i .u8) a0)] [] = bindO (A4 K a0) fun r => some ([.d (.b r)], []) := by kernel_rfl
end Go.U.Tryz
