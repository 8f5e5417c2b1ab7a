/- A part of the proof. No condition. -/
import Derived.Test.YticcaekjfhgpcaaGreatDoorVHf
set_option linter.unusedVariables false
set_option linter.unusedSimpArgs false
set_option linter.unusedSectionVars false
namespace Go.U.Tryz
open Go Go.U Go.Proofs Go.Proofs.Tryz
set_option maxRecDepth 100000
def ct30s (F : (Int × List Int × Int) → Option (List UInt8 × List Int × Int)) : Ct := ⟨[.l (.ptr 0 0 0), .l (.v (.i .i64))], [⟨2, false, .mix (some 67) [[.l (.v (.l (.i .u8))), .l (.v (.i .i64))]]⟩], [.l (.v .s)], [⟨2, false, .mix (some 67) [[.l (.v (.l (.i .u8))), .l (.v (.i .i64))]]⟩], [], F⟩
-- (*loop.example/g00460/spec.l1Rd).infix
def F30b (F30i : (Int × List Int × Int) → Option (List UInt8 × List Int × Int)) (K : Nat) (x : Int × (List Int) × Int) : Option ((List UInt8) × (List Int) × Int) :=
  branch (decide (3 < x.1))
   (bindO (F58 K x.2) fun v0 =>
   bindO (F26 K (5, v0.2)) fun v1 =>
   guard (decide (0 ≤ v1.1 ∧ v1.1 < ([([49] : List UInt8), ([36, 70, 70] : List UInt8), v0.1, ([37, 49, 48, 49] : List UInt8), ([54, 53, 53, 51, 53] : List UInt8)].length : Int))) <|
   nthN [([49] : List UInt8), ([36, 70, 70] : List UInt8), v0.1, ([37, 49, 48, 49] : List UInt8), ([54, 53, 53, 51, 53] : List UInt8)] v1.1.toNat fun v2 =>
   some (v2, v1.2))
   (bindO (α := ((List UInt8) × (List Int) × Int) ⊕ ((List Int) × Int)) (bindO (F26 K (9, x.2)) fun v3 =>
     branch (decide (v3.1 = 0))
      (bindO (F30i (w64 (x.1 + 1), v3.2)) fun v4 =>
      guard (decide ((1 + v4.1.length) ≤ 9223372036854775807)) <|
      some (.inl (([45] : List UInt8) ++ v4.1, v4.2)))
      (branch (decide (v3.1 = 1))
       (bindO (F30i (w64 (x.1 + 1), v3.2)) fun v5 =>
       guard (decide ((1 + v5.1.length) ≤ 9223372036854775807)) <|
       guard (decide ((((([40] : List UInt8) ++ v5.1).length) + 1) ≤ 9223372036854775807)) <|
       some (.inl ((([40] : List UInt8) ++ v5.1) ++ ([41] : List UInt8), v5.2)))
       (branch (decide (v3.1 = 2))
        (bindO (F26 K (2, v3.2)) fun v6 =>
        nth [([104, 105, 103, 104, 40] : List UInt8), ([108, 111, 119, 40] : List UInt8)] v6.1 fun v7 =>
        bindO (F30i (w64 (x.1 + 1), v6.2)) fun v8 =>
        guard (decide ((v7.length + v8.1.length) ≤ 9223372036854775807)) <|
        guard (decide ((((v7 ++ v8.1).length) + 1) ≤ 9223372036854775807)) <|
        some (.inl ((v7 ++ v8.1) ++ ([41] : List UInt8), v8.2)))
        (branch (decide (v3.1 = 3))
         (bindO (F58 K v3.2) fun v9 =>
         guard (decide ((5 + v9.1.length) ≤ 9223372036854775807)) <|
         guard (decide ((((([98, 97, 110, 107, 40] : List UInt8) ++ v9.1).length) + 1) ≤ 9223372036854775807)) <|
         some (.inl ((([98, 97, 110, 107, 40] : List UInt8) ++ v9.1) ++ ([41] : List UInt8), v9.2)))
         (bindO (α := Int × Int × Bool × (List Int) × Int) (branch (decide (v3.1 = 4))
            (some (x.1, v3.1, true, v3.2))
            (some (x.1, v3.1, decide (v3.1 = 5), v3.2))) fun v10 =>
         branch v10.2.2.1
          (bindO (F30i (w64 (v10.1 + 1), v10.2.2.2)) fun v11 =>
          bindO (F26 K (10, v11.2)) fun v12 =>
          nth [([43] : List UInt8), ([45] : List UInt8), ([42] : List UInt8), ([47] : List UInt8), ([37] : List UInt8), ([38] : List UInt8), ([94] : List UInt8), ([124] : List UInt8), ([60, 60] : List UInt8), ([62, 62] : List UInt8)] v12.1 fun v13 =>
          guard (decide ((v11.1.length + v13.length) ≤ 9223372036854775807)) <|
          bindO (F30i (w64 (v10.1 + 1), v12.2)) fun v14 =>
          guard (decide ((((v11.1 ++ v13).length) + v14.1.length) ≤ 9223372036854775807)) <|
          some (.inl ((v11.1 ++ v13) ++ v14.1, v14.2)))
          (branch (decide (v10.2.1 = 6))
           (bindO (F30i (w64 (v10.1 + 1), v10.2.2.2)) fun v15 =>
           guard (decide ((1 + v15.1.length) ≤ 9223372036854775807)) <|
           some (.inl (([126] : List UInt8) ++ v15.1, v15.2)))
           (some (.inr v10.2.2.2)))))))) fun v16 =>
   csO v16
    (fun v17 => some v17)
    (fun v18 => bindO (F58 K v18) fun v19 =>
    bindO (F26 K (5, v19.2)) fun v20 =>
    guard (decide (0 ≤ v20.1 ∧ v20.1 < ([([48] : List UInt8), ([55] : List UInt8), ([36, 49, 50, 51, 52] : List UInt8), v19.1, ([50, 48, 48] : List UInt8)].length : Int))) <|
    nthN [([48] : List UInt8), ([55] : List UInt8), ([36, 49, 50, 51, 52] : List UInt8), v19.1, ([50, 48, 48] : List UInt8)] v20.1.toNat fun v21 =>
    some (v21, v20.2)))
theorem s30 (F30i : (Int × List Int × Int) → Option (List UInt8 × List Int × Int)) (K : Nat) (h30 : CtOk prog 30 (ct30s F30i)) : CtOk prog 30 (ct30s (F30b F30i K)) :=
  con_mk (Y := Y) (L := [(26, ct26 K), (58, ct58 K), (30, ct30s F30i)]) (K := K) (an := (.seq .no (.seq (.seq .no (.cond .no .no)) (.seqJ [(1000000, ⟨(.l (.ptr 0 0 0) :: ru 81 []), [(0, ⟨2, false, .mix (some 67) [[.l (.v (.l (.i .u8))), .l (.v (.i .i64))]]⟩)]⟩)] true (.seq .no (.blk (.seq .no (.cond .no (.seq .no (.cond .no (.seq .no (.cond (.seq (.reg [0] []) .no) (.seq .no (.cond .no (.seqJ [(1000000, ⟨(.l (.ptr 0 0 0) :: .l (.v (.i .i64)) :: ru 13 (.l (.v (.i .i64)) :: ru 34 (.l (.v .b) :: ru 31 []))), [(0, ⟨2, false, .mix (some 67) [[.l (.v (.l (.i .u8))), .l (.v (.i .i64))]]⟩)]⟩)] false (.seq .no .no) (.cond (.seq (.reg [4] []) .no) (.seq .no (.cond .no .no)))))))))))))) .no)))) func30 mixed (ctabOk_cons (c26 K) (ctabOk_cons (c58 K) (ctabOk_cons h30 ctabOk_nil))) (by kernel_rfl) fun x => by kernel_rfl
def ifr (K R : Nat) : ((Int × List Int × Int) → Option (List UInt8 × List Int × Int)) := Nat.rec (motive := fun _ => ((Int × List Int × Int) → Option (List UInt8 × List Int × Int))) (fun _ => none) (fun _ ih => F30b ih K) R
def R30 (K R : Nat) : (Int × List Int × Int) → Option (List UInt8 × List Int × Int) := (ifr K R)
theorem ifr_ok (K : Nat) : ∀ R : Nat, CtOk prog 30 (ct30s (R30 K R))
  | 0 => (show CtOk prog 30 (ct30s fun _ => none) from ct_none)
  | R + 1 => by
    have ih := ifr_ok K R
    exact s30 (R30 K R) K ih
def F30 (K : Nat) (x : Int × List Int × Int) : Option (List UInt8 × List Int × Int) := R30 K K x
def ct30 (K : Nat) : Ct := ⟨[.l (.ptr 0 0 0), .l (.v (.i .i64))], [⟨2, false, .mix (some 67) [[.l (.v (.l (.i .u8))), .l (.v (.i .i64))]]⟩], [.l (.v .s)], [⟨2, false, .mix (some 67) [[.l (.v (.l (.i .u8))), .l (.v (.i .i64))]]⟩], [], F30 K⟩
theorem c30 (K : Nat) : CtOk prog 30 (ct30 K) := (ifr_ok K K)
end Go.U.Tryz
