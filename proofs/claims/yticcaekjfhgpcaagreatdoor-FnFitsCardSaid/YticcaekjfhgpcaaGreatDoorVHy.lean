/- A part of the proof. No condition. -/
import Derived.Test.YticcaekjfhgpcaaGreatDoorVHx
set_option linter.unusedVariables false
set_option linter.unusedSimpArgs false
set_option linter.unusedSectionVars false
namespace Go.U.Tryz
open Go Go.U Go.Proofs Go.Proofs.Tryz
set_option maxRecDepth 100000
def ct41s (F : (Int) → Option (List UInt8)) : Ct := ⟨[.l (.v (.i .i64))], [], [.l (.v .s)], [], [], F⟩
-- loop.example/g00460/spec.l1Dec
def F41s_b0 (F41i : (Int) → Option (List UInt8)) (K : Nat) (x : Int × List UInt8) : Option ((Int × List UInt8) ⊕ (Int × List UInt8)) :=
  branch (decide (10 ≤ x.1))
   (guard (decide ((((toB [w8 (w64 (48 + (Int.tmod x.1 10)))]).length) + x.2.length) ≤ 9223372036854775807)) <|
   some (.inl (w64 (Int.tdiv x.1 10), (toB [w8 (w64 (48 + (Int.tmod x.1 10)))]) ++ x.2)))
   (some (.inr x))
def F41s (F41i : (Int) → Option (List UInt8)) (K : Nat) (x : Int) : Option (List UInt8) :=
  branch (decide (x < 0))
   (bindO (F41i (w64 (0 - x))) fun v0 =>
   guard (decide ((1 + v0.length) ≤ 9223372036854775807)) <|
   some (([45] : List UInt8) ++ v0))
   (bindO (iter K (F41s_b0 F41i K) (x, [])) fun v1 =>
   guard (decide ((((toB [w8 (w64 (48 + v1.1))]).length) + v1.2.length) ≤ 9223372036854775807)) <|
   some ((toB [w8 (w64 (48 + v1.1))]) ++ v1.2))
theorem s41 (F41i : (Int) → Option (List UInt8)) (K : Nat) (h41 : CtOk prog 41 (ct41s F41i)) : CtOk prog 41 (ct41s (F41s F41i K)) :=
  con_mk (Y := Y) (L := [(41, ct41s F41i)]) (K := K) (an := (.seq .no (.seq (.seq .no (.cond .no .no)) (.seq .no (.seq (.blk (.loop [] ⟨(.l (.v (.i .i64)) :: ru 2 (.l (.v .s) :: ru 25 [])), []⟩ [(0, ⟨(.l (.v (.i .i64)) :: ru 2 (.l (.v .s) :: ru 25 [])), []⟩)] false (.seq (.seq .no .no) (.blk .no)))) .no))))) func41 mixed (ctabOk_cons h41 ctabOk_nil) (by kernel_rfl) fun x => by kernel_rfl
def dcr (K R : Nat) : ((Int) → Option (List UInt8)) := Nat.rec (motive := fun _ => ((Int) → Option (List UInt8))) (fun _ => none) (fun _ ih => F41s ih K) R
def R41 (K R : Nat) : (Int) → Option (List UInt8) := (dcr K R)
theorem dcr_ok (K : Nat) : ∀ R : Nat, CtOk prog 41 (ct41s (R41 K R))
  | 0 => (show CtOk prog 41 (ct41s fun _ => none) from ct_none)
  | R + 1 => by
    have ih := dcr_ok K R
    exact s41 (R41 K R) K ih
def F41 (K : Nat) (x : Int) : Option (List UInt8) := R41 K K x
def ct41 (K : Nat) : Ct := ⟨[.l (.v (.i .i64))], [], [.l (.v .s)], [], [], F41 K⟩
theorem c41 (K : Nat) : CtOk prog 41 (ct41 K) := (dcr_ok K K)
end Go.U.Tryz
