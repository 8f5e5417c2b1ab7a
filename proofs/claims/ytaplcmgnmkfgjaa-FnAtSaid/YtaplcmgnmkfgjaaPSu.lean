/- Lengths and cycles of all codes, and what is read of three bytes. No condition. -/
import Derived.Test.YtaplcmgnmkfgjaaPSt
import Derived.KernelRfl
set_option linter.unusedVariables false
set_option linter.unusedSimpArgs false
set_option linter.unusedSectionVars false
namespace Go.U.Try
open Go Go.U
set_option linter.unusedVariables false
set_option linter.unusedSimpArgs false
set_option maxRecDepth 20000

def lenChk (k : Nat) (cb : Bool) (c : Nat) : Bool := match F45 (k + 40) ((c : Int), cb) with
  | some n => decide (0 ≤ n) && decide (n ≤ 3) && (cb || (decide (c % 8 ≠ 6) || decide (n ≤ 2)))
  | none => false
theorem lenAll (k : Nat) (cb : Bool) : (List.range 256).all (lenChk k cb) = true := by
  cases cb
  · kernel_rfl
  · kernel_rfl

def cycChk (k : Nat) (cb tk : Bool) (c : Nat) : Bool := match F54 (k + 40) ((c : Int), cb, tk) with
  | some n => decide (0 ≤ n) && decide (n ≤ 6)
  | none => false
theorem cycAll (k : Nat) (cb tk : Bool) : (List.range 256).all (cycChk k cb tk) = true := by
  cases cb <;> cases tk
  · kernel_rfl
  · kernel_rfl
  · kernel_rfl
  · kernel_rfl

theorem F45_t (k : Nat) (c : Int) (cb : Bool) (hc : 0 ≤ c ∧ c ≤ 255) : T (F45 (k + 40) (c, cb)) fun n => 0 ≤ n ∧ n ≤ 3 ∧ (cb = false → c % 8 = 6 → n ≤ 2) := by
  obtain ⟨m, rfl⟩ : ∃ m : Nat, c = (m : Int) := ⟨c.toNat, by omega⟩
  have h := List.all_eq_true.1 (lenAll k cb) m (List.mem_range.2 (by omega))
  unfold lenChk at h
  split at h
  · rename_i n hn
    simp only [Bool.and_eq_true, Bool.or_eq_true, decide_eq_true_eq] at h
    refine ⟨n, hn, h.1.1, h.1.2, fun e e2 => ?_⟩
    rcases h.2 with h | h | h
    · rw [e] at h; cases h
    · omega
    · exact h
  · cases h

theorem F54_t (k : Nat) (c : Int) (cb tk : Bool) (hc : 0 ≤ c ∧ c ≤ 255) : T (F54 (k + 40) (c, cb, tk)) fun n => 0 ≤ n ∧ n ≤ 6 := by
  obtain ⟨m, rfl⟩ : ∃ m : Nat, c = (m : Int) := ⟨c.toNat, by omega⟩
  have h := List.all_eq_true.1 (cycAll k cb tk) m (List.mem_range.2 (by omega))
  unfold cycChk at h
  split at h
  · rename_i n hn
    simp only [Bool.and_eq_true, decide_eq_true_eq] at h
    exact ⟨n, hn, h.1, h.2⟩
  · cases h

end Go.U.Try
