/- Masks and joins of whole numbers of 64 bits. No condition. -/
import Derived.Test.YtaplcmgnmkfgjaaUYc
import Derived.Laws.BitsLemmas
import Derived.KernelRfl
set_option linter.unusedVariables false
set_option linter.unusedSimpArgs false
set_option linter.unusedSectionVars false
namespace Go.U
open Go

theorem and_mask (n : Int) (i : Nat) (m : Int) (hm : (BitVec.ofInt 64 m).toNat = 2 ^ i - 1) (hi : (BitVec.ofInt 64 n).toNat % 2 ^ i < 9223372036854775808) :
    bits .and .i64 n m = (((BitVec.ofInt 64 n).toNat % 2 ^ i : Nat) : Int) := by
  show IntKind.i64.wrap ((BitVec.ofInt 64 n &&& BitVec.ofInt 64 m).toNat : Nat) = _
  rw [BitVec.toNat_and, hm, Nat.and_two_pow_sub_one_eq_mod, IntKind.wrap_i64]
  omega

theorem and15 (n : Int) : bits .and .i64 n 15 = n % 16 := by
  rw [and_mask n 4 15 (by decide) (by omega), BitVec.toNat_ofInt]; omega
theorem and255 (n : Int) : bits .and .i64 n 255 = n % 256 := by
  rw [and_mask n 8 255 (by decide) (by omega), BitVec.toNat_ofInt]; omega
theorem and4095 (n : Int) : bits .and .i64 n 4095 = n % 4096 := by
  rw [and_mask n 12 4095 (by decide) (by omega), BitVec.toNat_ofInt]; omega
theorem and65535 (n : Int) : bits .and .i64 n 65535 = n % 65536 := by
  rw [and_mask n 16 65535 (by decide) (by omega), BitVec.toNat_ofInt]; omega
theorem and1 (n : Int) : bits .and .i64 n 1 = n % 2 := by
  rw [and_mask n 1 1 (by decide) (by omega), BitVec.toNat_ofInt]; omega

theorem or_nat (a b : Nat) (ha : a < 9223372036854775808) (hb : b < 9223372036854775808) : bits .or .i64 (a : Int) (b : Int) = ((a ||| b : Nat) : Int) := by
  have e1 : (BitVec.ofInt 64 (a : Int)).toNat = a := by rw [BitVec.toNat_ofInt]; omega
  have e2 : (BitVec.ofInt 64 (b : Int)).toNat = b := by rw [BitVec.toNat_ofInt]; omega
  have h := Nat.or_lt_two_pow (n := 63) (x := a) (y := b) ha hb
  show IntKind.i64.wrap ((BitVec.ofInt 64 (a : Int) ||| BitVec.ofInt 64 (b : Int)).toNat : Nat) = _
  rw [BitVec.toNat_or, e1, e2, IntKind.wrap_i64]
  omega

/-- Two bytes, one behind the other. -/
theorem or_join (h l : Int) (h0 : 0 ≤ h) (h1 : h ≤ 65535) (l0 : 0 ≤ l) (l1 : l ≤ 255) : bits .or .i64 (h * 256) l = 256 * h + l := by
  obtain ⟨a, rfl⟩ : ∃ a : Nat, h = (a : Int) := ⟨h.toNat, by omega⟩
  obtain ⟨b, rfl⟩ : ∃ b : Nat, l = (b : Int) := ⟨l.toNat, by omega⟩
  have e := or_nat (a * 256) b (by omega) (by omega)
  have e2 : ((a * 256 : Nat) : Int) = (a : Int) * 256 := by omega
  rw [e2] at e
  rw [e]
  have := Nat.shiftLeft_add_eq_or_of_lt (i := 8) (b := b) (by omega) a
  rw [Nat.shiftLeft_eq, show (2 : Nat) ^ 8 = 256 from rfl] at this
  omega
theorem or_join' (h l : Int) (h0 : 0 ≤ h) (h1 : h ≤ 65535) (l0 : 0 ≤ l) (l1 : l ≤ 255) : bits .or .i64 l (h * 256) = 256 * h + l := by
  have : bits .or .i64 l (h * 256) = bits .or .i64 (h * 256) l := by simp only [bits, BitVec.or_comm]
  rw [this, or_join h l h0 h1 l0 l1]

end Go.U
