/- A part of the proof. No condition. -/
import Derived.Test.YtncclmpabjglmaaGreatDoorP3
import Derived.Test.YtncclmpabjglmaaGreatDoorP1
import Derived.Test.YtncclmpabjglmaaGreatDoorVMe
import Derived.Test.YtncclmpabjglmaaGreatDoorVMd
import Derived.KernelRfl
import Derived.Test.YtncclmpabjglmaaGreatDoorVMr
set_option linter.unusedVariables false
set_option linter.unusedSimpArgs false
set_option linter.unusedSectionVars false
namespace Go.U.Tryz
open Go Go.U
set_option linter.unusedVariables false
set_option linter.unusedSimpArgs false
set_option maxRecDepth 20000
variable {qq : List UInt8 × Nat × Option Int} {R0 : List UInt8} {n0 : Nat}
def noCb (n : Nat) : Bool := decide (n = 203 ∨ n = 211 ∨ n = 219 ∨ n = 227 ∨ n = 235 ∨ n = 228 ∨ n = 236 ∨ n = 244 ∨ n = 252 ∨ n = 221 ∨ n = 237 ∨ n = 253)
def len2Chk (k : Nat) (c : Nat) : Bool := match F196 (k + 40) ((c : Int), false) with
  | some n => decide (F65 (k + 40) ((c : Int), false) = some n) && decide (n = 0 ∨ n = 1 ∨ n = 2 ∨ n = 3) && (decide (n = 0) || noCb c == false) && (decide (n ≤ 2) || !(decide (c % 8 = 6 ∨ c = 224 ∨ c = 232 ∨ c = 240 ∨ c = 248)))
  | none => false
theorem len2All (k : Nat) : (List.range 256).all (fun c => decide (c = 203) || len2Chk k c) = true := by kernel_rfl
def cyc2Chk (k : Nat) (cb : Bool) (c : Nat) : Bool := decide (F26 (k + 40) ((c : Int), cb, true) = F118 (k + 40) ((c : Int), cb, true)) && decide (F26 (k + 40) ((c : Int), cb, false) = F118 (k + 40) ((c : Int), cb, false)) && (((!cb) && condC (c : Int)) || decide (F118 (k + 40) ((c : Int), cb, true) = F118 (k + 40) ((c : Int), cb, false)))
theorem cyc2All (k : Nat) (cb : Bool) : (List.range 256).all (fun c => (!cb && noCb c) || cyc2Chk k cb c) = true := by
  cases cb
  · kernel_rfl
  · kernel_rfl
theorem len2 (k : Nat) (c : Int) (hc : 0 ≤ c ∧ c ≤ 255) (h3 : c ≠ 203) : ∃ n, F65 (k + 40) (c, false) = some n ∧ F196 (k + 40) (c, false) = some n ∧ (n = 0 ∨ n = 1 ∨ n = 2 ∨ n = 3) ∧ (n ≠ 0 → ¬ noC c) ∧ ((c % 8 = 6 ∨ c = 224 ∨ c = 232 ∨ c = 240 ∨ c = 248) → n ≤ 2) := by
  obtain ⟨m, rfl⟩ : ∃ m : Nat, c = (m : Int) := ⟨c.toNat, by omega⟩
  have h := List.all_eq_true.1 (len2All k) m (List.mem_range.2 (by omega))
  have h3' : ¬ m = 203 := by omega
  rw [decide_eq_false h3', Bool.false_or] at h
  unfold len2Chk at h
  split at h
  · rename_i n hn
    simp only [Bool.and_eq_true, Bool.or_eq_true, decide_eq_true_eq, beq_iff_eq, Bool.not_eq_true', decide_eq_false_iff_not] at h
    obtain ⟨⟨⟨h1, h2⟩, h4⟩, h5⟩ := h
    refine ⟨n, h1, hn, h2, fun g => ?_, fun g => ?_⟩
    · have := of_decide_eq_false (h4.resolve_left g)
      unfold noC; omega
    · rcases h5 with h5 | h5
      · exact h5
      · omega
  · cases h
theorem cyc2 (k : Nat) (c : Int) (cb : Bool) (hc : 0 ≤ c ∧ c ≤ 255) (hv : cb = false → ¬ noC c) (t t' : Bool) (ht : (cb = false ∧ condC c = true) → t = t') :
    F26 (k + 40) (c, cb, t) = F118 (k + 40) (c, cb, t') := by
  obtain ⟨m, rfl⟩ : ∃ m : Nat, c = (m : Int) := ⟨c.toNat, by omega⟩
  have h := List.all_eq_true.1 (cyc2All k cb) m (List.mem_range.2 (by omega))
  have hn : (!cb && noCb m) = false := by
    cases cb
    · have := hv rfl
      exact decide_eq_false (by unfold noC at this; omega)
    · rfl
  rw [hn, Bool.false_or] at h
  unfold cyc2Chk at h
  simp only [Bool.and_eq_true, Bool.or_eq_true, decide_eq_true_eq, Bool.not_eq_true'] at h
  obtain ⟨⟨h1, h2⟩, h3⟩ := h
  have a : F26 (k + 40) ((m : Int), cb, t) = F118 (k + 40) ((m : Int), cb, t) := by cases t <;> assumption
  rw [a]
  rcases h3 with h3 | h3
  · rw [ht h3]
  · cases t <;> cases t' <;> first | rfl | exact h3 | exact h3.symm
def H25 (K : Nat) (S : List UInt8) (v3 : UInt8) (v4 : Int) : Option (Int × Bool × Int × Int) :=
    bindO (α := (Int × Bool × Int × Int) ⊕ ((List UInt8) × Int × Int × Bool × Int × Int × Bool × Int)) (bindO (α := (List UInt8) × Int × Bool × Int × Bool × Int × Int × Bool × Int) (branch (decide (v4 = 0))
         (some (S, v4, true, w64 (v3.toNat : Int), false, 0, 0, false, 0))
         (some (S, v4, decide (((S).length : Int) < v4), w64 (v3.toNat : Int), false, 0, 0, false, 0))) fun v5 =>
      branch v5.2.2.1
       (some (.inl (0, false, 0, 0)))
       (some (.inr (v5.1, v5.2.1, v5.2.2.2)))) fun v6 =>
    csO v6
     (fun v7 => some v7)
     (fun v8 => bindO (iter K (F25_b0 K) (v8.1, v8.2.1, w64 (v8.2.1 - 1), v8.2.2)) fun v9 =>
     some (v9.2.1, v9.2.2.1, v9.2.2.2.1, v9.1))
def H139 (K : Nat) (v3 : List UInt8 × Int × Int × Int × Bool × Int) (v4 v6 : Int) : Option (Int × Bool × Int × Int) :=
    bindO (α := (Int × Bool × Int × Int) ⊕ ((List UInt8) × Int × Int × Int × Bool × Int × Int × Bool × Int)) (bindO (α := (List UInt8) × Int × Int × Bool × Int × Bool × Int × Int × Bool × Int) (branch (decide (v6 = 0))
         (some (v3.1, v3.2.1, v6, true, v4, false, 0, v3.2.2.2))
         (some (v3.1, v3.2.1, v6, decide (v3.2.2.1 < v6), v4, false, 0, v3.2.2.2))) fun v7 =>
      branch v7.2.2.2.1
       (some (.inl (0, false, 0, 0)))
       (some (.inr (v7.1, v7.2.1, v7.2.2.1, v7.2.2.2.2)))) fun v8 =>
    csO v8
     (fun v9 => some v9)
     (fun v10 => bindO (α := (List UInt8) × Int × Int × Int × Bool × Int × Int × Bool × Int) (branch (decide (1 < v10.2.2.1))
        (bindO (F195 K (v10.1, w64 (v10.2.1 + 1))) fun v11 =>
        some (v10.1, v10.2.1, v10.2.2.1, v10.2.2.2.1, v10.2.2.2.2.1, v11, v10.2.2.2.2.2.2))
        (some v10)) fun v12 =>
     branch (decide (2 < v12.2.2.1))
      (bindO (F195 K (v12.1, w64 (v12.2.1 + 2))) fun v13 =>
      some (v12.2.2.2.1, v12.2.2.2.2.1, w64 (v12.2.2.2.2.2.1 + (w64 (256 * v13))), v12.2.2.1))
      (some (v12.2.2.2.1, v12.2.2.2.2.1, v12.2.2.2.2.2.1, v12.2.2.1)))
def Rd (r : Int × Bool × Int × Int) : Prop := r.2.2.2 = 0 ∨ ((0 ≤ r.1 ∧ r.1 ≤ 255) ∧ (0 ≤ r.2.2.1 ∧ r.2.2.1 ≤ 65535) ∧ (1 ≤ r.2.2.2 ∧ r.2.2.2 ≤ 3) ∧ (r.2.1 = false → ¬ noC r.1 ∧ ((r.1 % 8 = 6 ∨ r.1 = 224 ∨ r.1 = 232 ∨ r.1 = 240 ∨ r.1 = 248) → r.2.2.1 ≤ 255)))
theorem read3 (k : Nat) (b0 b1 b2 : UInt8) : ∃ r, F25 (k + 40) ([b0, b1, b2], 0) = some r ∧ F139 (k + 40) ([b0, b1, b2], 0) = some r ∧ Rd r := by
  have l : F25 (k + 40) ([b0, b1, b2], 0) = branch (decide ((b0.toNat : Int) = 203)) (some (w64 (b1.toNat : Int), true, 0, 2)) (bindO (F65 (k + 40) (w64 (b0.toNat : Int), false)) fun v4 => H25 (k + 40) [b0, b1, b2] b0 v4) := by kernel_rfl
  have r : F139 (k + 40) ([b0, b1, b2], 0) = branch (decide (w64 (b0.toNat : Int) = 203)) (some (w64 (b1.toNat : Int), true, 0, 2)) (bindO (F196 (k + 40) (w64 (b0.toNat : Int), false)) fun v6 => H139 (k + 40) ([b0, b1, b2], 0, 3, 0, false, 0) (w64 (b0.toNat : Int)) v6) := by kernel_rfl
  have g0 := byte_u8 b0
  have g1 := byte_u8 b1
  have g2 := byte_u8 b2
  have e0 : w64 (b0.toNat : Int) = (b0.toNat : Int) := w64_id (by omega) (by have := b0.toNat_lt; omega)
  rw [l, r]
  by_cases h : (b0.toNat : Int) = 203
  · rw [e0, decide_eq_true h]
    refine ⟨_, rfl, rfl, .inr ⟨g1, ⟨Int.le_refl 0, by dsimp only; omega⟩, ⟨by dsimp only; omega, by dsimp only; omega⟩, fun e => by cases e⟩⟩
  · have h' : ¬ w64 (b0.toNat : Int) = 203 := by rw [e0]; exact h
    rw [decide_eq_false h, decide_eq_false h']
    obtain ⟨n, e1, e2, hn, hv, h6⟩ := len2 k (w64 (b0.toNat : Int)) g0 h'
    rw [e1, e2]
    simp only [branch_f, bindO_s]
    rcases hn with rfl | rfl | rfl | rfl
    · exact ⟨(0, false, 0, 0), by kernel_rfl, by kernel_rfl, .inl rfl⟩
    · exact ⟨(w64 (b0.toNat : Int), false, 0, 1), by kernel_rfl, by kernel_rfl, .inr ⟨g0, ⟨Int.le_refl 0, by dsimp only; omega⟩, ⟨by dsimp only; omega, by dsimp only; omega⟩, fun _ => ⟨hv (by omega), fun _ => by dsimp only; omega⟩⟩⟩
    · refine ⟨(w64 (b0.toNat : Int), false, w64 (b1.toNat : Int), 2), ?_, by kernel_rfl, .inr ⟨g0, ⟨g1.1, by dsimp only; omega⟩, ⟨by dsimp only; omega, by dsimp only; omega⟩, fun _ => ⟨hv (by omega), fun _ => g1.2⟩⟩⟩
      refine Eq.trans (b := some (w64 (b0.toNat : Int), false, bits .or .i64 (shlI .i64 0 8) (w64 (b1.toNat : Int)), 2)) (by kernel_rfl) ?_
      have e := or_join 0 (w64 (b1.toNat : Int)) (by omega) (by omega) g1.1 g1.2
      rw [shl8 0 (by omega) (by omega), e]
      simp only [Int.mul_zero, Int.zero_add]
    · refine ⟨(w64 (b0.toNat : Int), false, w64 (w64 (b1.toNat : Int) + w64 (256 * w64 (b2.toNat : Int))), 3), ?_, by kernel_rfl, .inr ⟨g0, ?_, ⟨by dsimp only; omega, by dsimp only; omega⟩, fun _ => ⟨hv (by omega), fun g => absurd (h6 g) (by omega)⟩⟩⟩
      · refine Eq.trans (b := some (w64 (b0.toNat : Int), false, bits .or .i64 (shlI .i64 (bits .or .i64 (shlI .i64 0 8) (w64 (b2.toNat : Int))) 8) (w64 (b1.toNat : Int)), 3)) (by kernel_rfl) ?_
        have e := or_join 0 (w64 (b2.toNat : Int)) (by omega) (by omega) g2.1 g2.2
        have e' := or_join (w64 (b2.toNat : Int)) (w64 (b1.toNat : Int)) g2.1 (by omega) g1.1 g1.2
        rw [shl8 0 (by omega) (by omega), e]
        simp only [Int.mul_zero, Int.zero_add]
        rw [shl8 (w64 (b2.toNat : Int)) g2.1 (by omega), e', w64_id (n := 256 * w64 (b2.toNat : Int)) (by omega) (by omega), w64_id (n := w64 (b1.toNat : Int) + 256 * w64 (b2.toNat : Int)) (by omega) (by omega), Int.add_comm]
      · dsimp only
        rw [w64_id (n := 256 * w64 (b2.toNat : Int)) (by omega) (by omega), w64_id (n := w64 (b1.toNat : Int) + 256 * w64 (b2.toNat : Int)) (by omega) (by omega)]
        omega
theorem iter_go {α β : Type} {n : Nat} {f : α → Option (α ⊕ β)} {a a' : α} (h : f a = some (.inl a')) : iter (n + 1) f a = iter n f a' := by simp only [iter, h]
theorem iter_end {α β : Type} {n : Nat} {f : α → Option (α ⊕ β)} {a : α} {b : β} (h : f a = some (.inr b)) : iter (n + 1) f a = some b := by simp only [iter, h]
theorem F134_1 (k : Nat) (v : Int) : F134 (k + 40) (v, 1) = some (toB [w8 v]) := by kernel_rfl
theorem fetch3 (k : Nat) (w : WT) (h : WInv qq w) : ∃ r, F98 (k + 40) (WT.m w) = some (r.1, r.2.1, r.2.2.1, r.2.2.2, WT.m w) ∧ F100 (k + 40) (WT.m w) = some r ∧ Rd r := by
  have hp := h.pc
  obtain ⟨v0, e0, _⟩ := F138_t (k + 40) w h ((w.2.2.2.2.2.2.2.2.2.1 + 0) % 65536) (by omega)
  obtain ⟨v1, e1, _⟩ := F138_t (k + 40) w h ((w.2.2.2.2.2.2.2.2.2.1 + 1) % 65536) (by omega)
  obtain ⟨v2, e2, _⟩ := F138_t (k + 40) w h ((w.2.2.2.2.2.2.2.2.2.1 + 2) % 65536) (by omega)
  have n0 : w64 (w.2.2.2.2.2.2.2.2.2.1 + 0) = w.2.2.2.2.2.2.2.2.2.1 + 0 := w64_id (by omega) (by omega)
  have n1 : w64 (w.2.2.2.2.2.2.2.2.2.1 + 1) = w.2.2.2.2.2.2.2.2.2.1 + 1 := w64_id (by omega) (by omega)
  have n2 : w64 (w.2.2.2.2.2.2.2.2.2.1 + 2) = w.2.2.2.2.2.2.2.2.2.1 + 2 := w64_id (by omega) (by omega)
  have m0 : Int.tmod (w.2.2.2.2.2.2.2.2.2.1 + 0) 65536 = (w.2.2.2.2.2.2.2.2.2.1 + 0) % 65536 := Int.tmod_eq_emod_of_nonneg (by omega)
  have m1 : Int.tmod (w.2.2.2.2.2.2.2.2.2.1 + 1) 65536 = (w.2.2.2.2.2.2.2.2.2.1 + 1) % 65536 := Int.tmod_eq_emod_of_nonneg (by omega)
  have m2 : Int.tmod (w.2.2.2.2.2.2.2.2.2.1 + 2) 65536 = (w.2.2.2.2.2.2.2.2.2.1 + 2) % 65536 := Int.tmod_eq_emod_of_nonneg (by omega)
  have fa : ∀ (i : Int) (l : List UInt8) (v : Int), 0 ≤ i ∧ i < 3 → l.length ≤ 3 → F138 (k + 40) (w.1, w.2.1, w.2.2.1, w.2.2.2.1, w.2.2.2.2.1, w.2.2.2.2.2.1, w.2.2.2.2.2.2.1, w.2.2.2.2.2.2.2.1, w.2.2.2.2.2.2.2.2.1, w.2.2.2.2.2.2.2.2.2.1, w.2.2.2.2.2.2.2.2.2.2.1, w.2.2.2.2.2.2.2.2.2.2.2.1, w.2.2.2.2.2.2.2.2.2.2.2.2.1, w.2.2.2.2.2.2.2.2.2.2.2.2.2.1, w.2.2.2.2.2.2.2.2.2.2.2.2.2.2.1, w.2.2.2.2.2.2.2.2.2.2.2.2.2.2.2.1, w.2.2.2.2.2.2.2.2.2.2.2.2.2.2.2.2.1, w.2.2.2.2.2.2.2.2.2.2.2.2.2.2.2.2.2.1, w.2.2.2.2.2.2.2.2.2.2.2.2.2.2.2.2.2.2.1, w.2.2.2.2.2.2.2.2.2.2.2.2.2.2.2.2.2.2.2.1, w.2.2.2.2.2.2.2.2.2.2.2.2.2.2.2.2.2.2.2.2.1, w.2.2.2.2.2.2.2.2.2.2.2.2.2.2.2.2.2.2.2.2.2.1, w.2.2.2.2.2.2.2.2.2.2.2.2.2.2.2.2.2.2.2.2.2.2.1, (w.2.2.2.2.2.2.2.2.2.1 + i) % 65536) = some v → w64 (w.2.2.2.2.2.2.2.2.2.1 + i) = w.2.2.2.2.2.2.2.2.2.1 + i → F98_b0 (k + 40) (l, i, 0, false, 0, WT.m w) = some (.inl (l ++ toB [w8 v], w64 (i + 1), 0, false, 0, WT.m w)) := by
    intro i l v hi hl e en
    have a : F98_b0 (k + 40) (l, i, 0, false, 0, WT.m w) = branch (decide (i < 3)) (bindO (F64 (k + 40) (w64 (w.2.2.2.2.2.2.2.2.2.1 + i), WT.m w)) fun v0 => bindO (F134 (k + 40) (v0.1, 1)) fun v1 => guard (decide ((l.length + v1.length) ≤ 9223372036854775807)) <| some (.inl (l ++ v1, w64 (i + 1), 0, false, 0, WT.m w))) (some (.inr (l, 0, false, 0, WT.m w))) := rfl
    rw [a, decide_eq_true hi.2, branch_t, en, F64_w (k + 40) w h, e]
    simp only [bindO_s, F134_1]
    have : (l.length + (toB [w8 v]).length) ≤ 9223372036854775807 := by rw [toB_length]; simp; omega
    rw [decide_eq_true this, guard_t]
  have fb : ∀ (i : Int) (l : List Int) (v : Int), 0 ≤ i ∧ i < 3 → l.length ≤ 3 → F138 (k + 40) (w.1, w.2.1, w.2.2.1, w.2.2.2.1, w.2.2.2.2.1, w.2.2.2.2.2.1, w.2.2.2.2.2.2.1, w.2.2.2.2.2.2.2.1, w.2.2.2.2.2.2.2.2.1, w.2.2.2.2.2.2.2.2.2.1, w.2.2.2.2.2.2.2.2.2.2.1, w.2.2.2.2.2.2.2.2.2.2.2.1, w.2.2.2.2.2.2.2.2.2.2.2.2.1, w.2.2.2.2.2.2.2.2.2.2.2.2.2.1, w.2.2.2.2.2.2.2.2.2.2.2.2.2.2.1, w.2.2.2.2.2.2.2.2.2.2.2.2.2.2.2.1, w.2.2.2.2.2.2.2.2.2.2.2.2.2.2.2.2.1, w.2.2.2.2.2.2.2.2.2.2.2.2.2.2.2.2.2.1, w.2.2.2.2.2.2.2.2.2.2.2.2.2.2.2.2.2.2.1, w.2.2.2.2.2.2.2.2.2.2.2.2.2.2.2.2.2.2.2.1, w.2.2.2.2.2.2.2.2.2.2.2.2.2.2.2.2.2.2.2.2.1, w.2.2.2.2.2.2.2.2.2.2.2.2.2.2.2.2.2.2.2.2.2.1, w.2.2.2.2.2.2.2.2.2.2.2.2.2.2.2.2.2.2.2.2.2.2.1, (w.2.2.2.2.2.2.2.2.2.1 + i) % 65536) = some v → w64 (w.2.2.2.2.2.2.2.2.2.1 + i) = w.2.2.2.2.2.2.2.2.2.1 + i → Int.tmod (w.2.2.2.2.2.2.2.2.2.1 + i) 65536 = (w.2.2.2.2.2.2.2.2.2.1 + i) % 65536 → F100_b0 (k + 40) (i, l, 0, false, 0, WT.m w) = some (.inl (w64 (i + 1), l ++ [w8 v], 0, false, 0, WT.m w)) := by
    intro i l v hi hl e en em
    have a : F100_b0 (k + 40) (i, l, 0, false, 0, WT.m w) = branch (decide (i < 3)) (bindO (F138 (k + 40) (w.1, w.2.1, w.2.2.1, w.2.2.2.1, w.2.2.2.2.1, w.2.2.2.2.2.1, w.2.2.2.2.2.2.1, w.2.2.2.2.2.2.2.1, w.2.2.2.2.2.2.2.2.1, w.2.2.2.2.2.2.2.2.2.1, w.2.2.2.2.2.2.2.2.2.2.1, w.2.2.2.2.2.2.2.2.2.2.2.1, w.2.2.2.2.2.2.2.2.2.2.2.2.1, w.2.2.2.2.2.2.2.2.2.2.2.2.2.1, w.2.2.2.2.2.2.2.2.2.2.2.2.2.2.1, w.2.2.2.2.2.2.2.2.2.2.2.2.2.2.2.1, w.2.2.2.2.2.2.2.2.2.2.2.2.2.2.2.2.1, w.2.2.2.2.2.2.2.2.2.2.2.2.2.2.2.2.2.1, w.2.2.2.2.2.2.2.2.2.2.2.2.2.2.2.2.2.2.1, w.2.2.2.2.2.2.2.2.2.2.2.2.2.2.2.2.2.2.2.1, w.2.2.2.2.2.2.2.2.2.2.2.2.2.2.2.2.2.2.2.2.1, w.2.2.2.2.2.2.2.2.2.2.2.2.2.2.2.2.2.2.2.2.2.1, w.2.2.2.2.2.2.2.2.2.2.2.2.2.2.2.2.2.2.2.2.2.2.1, Int.tmod (w64 (w.2.2.2.2.2.2.2.2.2.1 + i)) 65536)) fun v0 => guard (fitN (l.length + [w8 v0].length) 1) <| some (.inl (w64 (i + 1), l ++ [w8 v0], 0, false, 0, WT.m w))) (some (.inr (l, 0, false, 0))) := rfl
    rw [a, decide_eq_true hi.2, branch_t, en, em, e]
    have : fitN (l.length + [w8 v].length) 1 = true := by unfold fitN; exact decide_eq_true (by simp; omega)
    simp only [bindO_s, this, guard_t]
  have ea : iter (k + 40) (F98_b0 (k + 40)) ([], 0, 0, false, 0, WT.m w) = some ([] ++ toB [w8 v0] ++ toB [w8 v1] ++ toB [w8 v2], 0, false, 0, WT.m w) := by
    refine (iter_go (n := k + 39) (fa 0 [] v0 (by omega) (by simp) e0 n0)).trans ?_
    refine (iter_go (n := k + 38) (fa 1 _ v1 (by omega) (by simp [toB_length]) e1 n1)).trans ?_
    refine (iter_go (n := k + 37) (fa 2 _ v2 (by omega) (by simp [toB_length]) e2 n2)).trans ?_
    exact iter_end (n := k + 36) rfl
  have eb : iter (k + 40) (F100_b0 (k + 40)) (0, [], 0, false, 0, WT.m w) = some ([] ++ [w8 v0] ++ [w8 v1] ++ [w8 v2], 0, false, 0) := by
    refine (iter_go (n := k + 39) (fb 0 [] v0 (by omega) (by simp) e0 n0 m0)).trans ?_
    refine (iter_go (n := k + 38) (fb 1 _ v1 (by omega) (by simp) e1 n1 m1)).trans ?_
    refine (iter_go (n := k + 37) (fb 2 _ v2 (by omega) (by simp) e2 n2 m2)).trans ?_
    exact iter_end (n := k + 36) rfl
  obtain ⟨b0, hb0⟩ : ∃ b, toB [w8 v0] = [b] := ⟨_, rfl⟩
  obtain ⟨b1, hb1⟩ : ∃ b, toB [w8 v1] = [b] := ⟨_, rfl⟩
  obtain ⟨b2, hb2⟩ : ∃ b, toB [w8 v2] = [b] := ⟨_, rfl⟩
  have hb : toB ([] ++ [w8 v0] ++ [w8 v1] ++ [w8 v2]) = [b0, b1, b2] := by
    have : toB ([] ++ [w8 v0] ++ [w8 v1] ++ [w8 v2]) = toB [w8 v0] ++ toB [w8 v1] ++ toB [w8 v2] := rfl
    rw [this, hb0, hb1, hb2]; rfl
  obtain ⟨r, r1, r2, r3⟩ := read3 k b0 b1 b2
  refine ⟨r, ?_, ?_, r3⟩
  · have a : F98 (k + 40) (WT.m w) = bindO (iter (k + 40) (F98_b0 (k + 40)) ([], 0, 0, false, 0, WT.m w)) fun v0 => bindO (F25 (k + 40) (v0.1, 0)) fun v1 => some (v1.1, v1.2.1, v1.2.2.1, v1.2.2.2, v0.2.2.2.2) := rfl
    have hl : [] ++ toB [w8 v0] ++ toB [w8 v1] ++ toB [w8 v2] = [b0, b1, b2] := by rw [hb0, hb1, hb2]; rfl
    rw [a, ea]
    simp only [bindO_s]
    rw [hl, r1]
    rfl
  · have a : F100 (k + 40) (WT.m w) = bindO (iter (k + 40) (F100_b0 (k + 40)) (0, [], 0, false, 0, WT.m w)) fun v0 => bindO (F139 (k + 40) (toB v0.1, 0)) fun v1 => some v1 := rfl
    rw [a, eb]
    simp only [bindO_s]
    rw [hb, r2]
    rfl
end Go.U.Tryz
namespace Go.U.Tryz
open Go Go.U
set_option linter.unusedVariables false
set_option linter.unusedSimpArgs false
set_option maxRecDepth 20000
variable {qq : List UInt8 × Nat × Option Int} {R0 : List UInt8} {n0 : Nat}
def setHalt (w : WT) (b : Bool) : WT := (w.1, w.2.1, w.2.2.1, w.2.2.2.1, w.2.2.2.2.1, w.2.2.2.2.2.1, w.2.2.2.2.2.2.1, w.2.2.2.2.2.2.2.1, w.2.2.2.2.2.2.2.2.1, w.2.2.2.2.2.2.2.2.2.1, w.2.2.2.2.2.2.2.2.2.2.1, b, w.2.2.2.2.2.2.2.2.2.2.2.2)
def spD (K : Nat) (c : Int) (cb : Bool) (imm : Int) (w : WT) : Option (Bool × WT) :=
  branch cb (bindO (F112 K (c, cb, imm, w)) fun r => some (false, r))
   (branch (decide (c < 64)) (F113 K (c, cb, imm, w))
    (branch (decide (c = 118)) (some (false, setHalt w true))
     (branch (decide (c < 128)) (bindO (F115 K (Int.tmod c 8, w)) fun v5 => bindO (F114 K (Int.tmod (w64 (Int.tdiv c 8)) 8, v5.1, w)) fun v6 => some (false, v6))
      (branch (decide (c < 192)) (bindO (F115 K (Int.tmod c 8, w)) fun v7 => bindO (F116 K (Int.tmod (w64 (Int.tdiv c 8)) 8, w.1, v7.1, w.2.1)) fun v8 => some (false, setAF w v8.1 v8.2))
       (F117 K (c, cb, imm, w))))))
theorem run_eq (K : Nat) (c : Int) (cb : Bool) (imm : Int) (w : WT) (h : WInv qq w) (hc : 0 ≤ c ∧ c ≤ 255) (hi : 0 ≤ imm ∧ imm ≤ 65535)
    (hv : cb = false → ¬ noC c ∧ ((c % 8 = 6 ∨ c = 224 ∨ c = 232 ∨ c = 240 ∨ c = 248) → imm ≤ 255)) :
    Al (!cb && condC c) w c cb imm (F110 K (A c cb imm w)) (spD K c cb imm w) := by
  have l : F110 K (A c cb imm w) = branch cb (bindO (F154 K (w64 (Int.tdiv c 64), Int.tmod (w64 (Int.tdiv c 8)) 8, Int.tmod c 8, A c cb imm w)) fun v0 => some (true, v0))
    (branch (decide (w64 (Int.tdiv c 64) = 0)) (bindO (F155 K (Int.tmod (w64 (Int.tdiv c 8)) 8, Int.tmod c 8, A c cb imm w)) fun v1 => some v1)
     (branch (decide (w64 (Int.tdiv c 64) = 3)) (bindO (F156 K (Int.tmod (w64 (Int.tdiv c 8)) 8, Int.tmod c 8, A c cb imm w)) fun v1 => some v1)
      (branch (decide (w64 (Int.tdiv c 64) = 2)) (bindO (F158 K (Int.tmod c 8, A c cb imm w)) fun v3 => bindO (F157 K (Int.tmod (w64 (Int.tdiv c 8)) 8, v3.1, A c cb imm w)) fun v4 => some (true, v4))
       (branch (decide (c = 118)) (some (true, A c cb imm (setHalt w true)))
        (bindO (F158 K (Int.tmod c 8, A c cb imm w)) fun v5 => bindO (F159 K (Int.tmod (w64 (Int.tdiv c 8)) 8, v5.1, A c cb imm w)) fun v6 => some (true, v6)))))) := rfl
  have d64 : w64 (Int.tdiv c 64) = c / 64 := by rw [Int.tdiv_eq_ediv_of_nonneg hc.1, w64_id (by omega) (by omega)]
  have d8 : Int.tmod (w64 (Int.tdiv c 8)) 8 = c / 8 % 8 := by rw [Int.tdiv_eq_ediv_of_nonneg hc.1, w64_id (by omega) (by omega), Int.tmod_eq_emod_of_nonneg (by omega)]
  have m8 : Int.tmod c 8 = c % 8 := Int.tmod_eq_emod_of_nonneg hc.1
  have hz : 0 ≤ c % 8 ∧ c % 8 ≤ 7 := by omega
  have hy : 0 ≤ c / 8 % 8 ∧ c / 8 % 8 ≤ 7 := by omega
  rw [l]
  unfold spD
  cases cb with
  | true =>
    rw [branch_t, branch_t, F154_eq K c true imm w h hc]
    exact Al.of (F112_t K w h c true imm hc) (fun _ => F112_cy) _ _
  | false =>
    obtain ⟨hn, h6⟩ := hv rfl
    rw [branch_f, branch_f, d64, d8, m8]
    by_cases g1 : c < 64
    · rw [decide_eq_true (show c / 64 = 0 by omega), decide_eq_true g1, branch_t, branch_t, bind_id]
      have e : c / 8 % 8 = c / 8 := by omega
      rw [e]
      exact low_eq K c false imm w h c ⟨hc.1, by omega⟩ hi fun g => h6 (.inl g)
    rw [decide_eq_false (show ¬ c / 64 = 0 by omega), decide_eq_false g1, branch_f, branch_f]
    by_cases g2 : c < 192
    · have nc : condC c = true → false = true := fun g => by have := of_decide_eq_true g; omega
      refine Al.weak c false imm (k := false) ?_ nc
      rw [decide_eq_false (show ¬ c / 64 = 3 by omega), branch_f]
      obtain ⟨⟨b, w'⟩, e, hb, hw'⟩ := F115_t K w h (c % 8) hz
      dsimp only at hb
      by_cases g3 : c < 128
      · rw [decide_eq_false (show ¬ c / 64 = 2 by omega), branch_f]
        by_cases g4 : c = 118
        · rw [decide_eq_true g4, branch_t, branch_t]
          exact Al.ret _ _ rfl fun e => by cases e
        · rw [decide_eq_false g4, branch_f, branch_f, decide_eq_true g3, branch_t, F158_eq K c false imm w h _ hz, e]
          simp only [bindO_s]
          rw [F159_eq K c false imm w h _ b hy hb]
          exact Al.of (F114_t K w h _ b hb) (fun _ => F114_cy) _ _
      · rw [decide_eq_true (show c / 64 = 2 by omega), decide_eq_false (show ¬ c = 118 by omega), decide_eq_false g3, decide_eq_true g2]
        simp only [branch_t, branch_f]
        rw [F158_eq K c false imm w h _ hz, e]
        simp only [bindO_s]
        obtain ⟨v, e2, _⟩ := F116_t K (c / 8 % 8) w.1 b w.2.1 h.a hb ⟨h.f.1, h.f.2.1⟩
        rw [F157_eq K c false imm w h _ b hy hb, e2]
        exact ⟨true, false, setAF w v.1 v.2, rfl, rfl, rfl, fun e => by cases e⟩
    · rw [decide_eq_true (show c / 64 = 3 by omega), decide_eq_false (show ¬ c = 118 by omega), decide_eq_false (show ¬ c < 128 by omega), decide_eq_false g2]
      simp only [branch_t, branch_f]
      rw [bind_id]
      exact high_eq K c false imm w h c ⟨by omega, hc.2⟩ hn hi h6
def D62 (K : Nat) (x : MT) (v1 : Int × Bool × Int × Int) : Option (Bool × Int × Int × Int × Int × Int × Int × Int × Int × Int × Int × Bool × Bool × (List UInt8) × Int × Int × (List UInt8) × Int × Bool × Int × (List UInt8) × (List UInt8) × (List Int) × Int × Bool × Int × Bool × Int × Int × Int × Int × Int × Int × Int × Int × Int × Int × Int × Bool × Bool × (List UInt8) × Int × Int × (List UInt8) × Int × Bool × Int × (List UInt8) × (List UInt8) × (List Int) × Int × Int × Int × Int × Int × Int × Int × Int × Int × Int × Int × Bool × Bool × (List UInt8) × Int × Int × (List UInt8) × Int × Bool × Int × (List UInt8) × (List UInt8) × (List Int) × Int) :=
  (branch v1.2.1
       (bindO (F112 K (v1.1, v1.2.1, v1.2.2.1, x.1, x.2.1, x.2.2.1, x.2.2.2.1, x.2.2.2.2.1, x.2.2.2.2.2.1, x.2.2.2.2.2.2.1, x.2.2.2.2.2.2.2.1, x.2.2.2.2.2.2.2.2.1, Int.tmod (w64 (x.2.2.2.2.2.2.2.2.2.1 + v1.2.2.2)) 65536, x.2.2.2.2.2.2.2.2.2.2.1, x.2.2.2.2.2.2.2.2.2.2.2.1, x.2.2.2.2.2.2.2.2.2.2.2.2.1, x.2.2.2.2.2.2.2.2.2.2.2.2.2.1, x.2.2.2.2.2.2.2.2.2.2.2.2.2.2.1, x.2.2.2.2.2.2.2.2.2.2.2.2.2.2.2.1, x.2.2.2.2.2.2.2.2.2.2.2.2.2.2.2.2.1, x.2.2.2.2.2.2.2.2.2.2.2.2.2.2.2.2.2.1, x.2.2.2.2.2.2.2.2.2.2.2.2.2.2.2.2.2.2.1, x.2.2.2.2.2.2.2.2.2.2.2.2.2.2.2.2.2.2.2.1, x.2.2.2.2.2.2.2.2.2.2.2.2.2.2.2.2.2.2.2.2.1, x.2.2.2.2.2.2.2.2.2.2.2.2.2.2.2.2.2.2.2.2.2.1, x.2.2.2.2.2.2.2.2.2.2.2.2.2.2.2.2.2.2.2.2.2.2, false)) fun v3 =>
       some (false, v3.1, v3.2.1, v3.2.2.1, v3.2.2.2.1, v3.2.2.2.2.1, v3.2.2.2.2.2.1, v3.2.2.2.2.2.2.1, v3.2.2.2.2.2.2.2.1, v3.2.2.2.2.2.2.2.2.1, v3.2.2.2.2.2.2.2.2.2.1, v3.2.2.2.2.2.2.2.2.2.2.1, v3.2.2.2.2.2.2.2.2.2.2.2.1, v3.2.2.2.2.2.2.2.2.2.2.2.2.1, v3.2.2.2.2.2.2.2.2.2.2.2.2.2.1, v3.2.2.2.2.2.2.2.2.2.2.2.2.2.2.1, v3.2.2.2.2.2.2.2.2.2.2.2.2.2.2.2.1, v3.2.2.2.2.2.2.2.2.2.2.2.2.2.2.2.2.1, v3.2.2.2.2.2.2.2.2.2.2.2.2.2.2.2.2.2.1, v3.2.2.2.2.2.2.2.2.2.2.2.2.2.2.2.2.2.2.1, v3.2.2.2.2.2.2.2.2.2.2.2.2.2.2.2.2.2.2.2.1, v3.2.2.2.2.2.2.2.2.2.2.2.2.2.2.2.2.2.2.2.2.1, v3.2.2.2.2.2.2.2.2.2.2.2.2.2.2.2.2.2.2.2.2.2.1, v3.2.2.2.2.2.2.2.2.2.2.2.2.2.2.2.2.2.2.2.2.2.2.1, v3.2.2.2.2.2.2.2.2.2.2.2.2.2.2.2.2.2.2.2.2.2.2.2, v1.1, v1.2.1, v1.2.2.1, 0, 0, 0, 0, 0, 0, 0, 0, 0, 0, false, false, [], 0, 0, [], 0, false, 0, [], [], [], 0, x))
       (branch (decide (v1.1 < 64))
        (bindO (F113 K (v1.1, v1.2.1, v1.2.2.1, x.1, x.2.1, x.2.2.1, x.2.2.2.1, x.2.2.2.2.1, x.2.2.2.2.2.1, x.2.2.2.2.2.2.1, x.2.2.2.2.2.2.2.1, x.2.2.2.2.2.2.2.2.1, Int.tmod (w64 (x.2.2.2.2.2.2.2.2.2.1 + v1.2.2.2)) 65536, x.2.2.2.2.2.2.2.2.2.2.1, x.2.2.2.2.2.2.2.2.2.2.2.1, x.2.2.2.2.2.2.2.2.2.2.2.2.1, x.2.2.2.2.2.2.2.2.2.2.2.2.2.1, x.2.2.2.2.2.2.2.2.2.2.2.2.2.2.1, x.2.2.2.2.2.2.2.2.2.2.2.2.2.2.2.1, x.2.2.2.2.2.2.2.2.2.2.2.2.2.2.2.2.1, x.2.2.2.2.2.2.2.2.2.2.2.2.2.2.2.2.2.1, x.2.2.2.2.2.2.2.2.2.2.2.2.2.2.2.2.2.2.1, x.2.2.2.2.2.2.2.2.2.2.2.2.2.2.2.2.2.2.2.1, x.2.2.2.2.2.2.2.2.2.2.2.2.2.2.2.2.2.2.2.2.1, x.2.2.2.2.2.2.2.2.2.2.2.2.2.2.2.2.2.2.2.2.2.1, x.2.2.2.2.2.2.2.2.2.2.2.2.2.2.2.2.2.2.2.2.2.2, false)) fun v4 =>
        some (v4.1, v4.2.1, v4.2.2.1, v4.2.2.2.1, v4.2.2.2.2.1, v4.2.2.2.2.2.1, v4.2.2.2.2.2.2.1, v4.2.2.2.2.2.2.2.1, v4.2.2.2.2.2.2.2.2.1, v4.2.2.2.2.2.2.2.2.2.1, v4.2.2.2.2.2.2.2.2.2.2.1, v4.2.2.2.2.2.2.2.2.2.2.2.1, v4.2.2.2.2.2.2.2.2.2.2.2.2.1, v4.2.2.2.2.2.2.2.2.2.2.2.2.2.1, v4.2.2.2.2.2.2.2.2.2.2.2.2.2.2.1, v4.2.2.2.2.2.2.2.2.2.2.2.2.2.2.2.1, v4.2.2.2.2.2.2.2.2.2.2.2.2.2.2.2.2.1, v4.2.2.2.2.2.2.2.2.2.2.2.2.2.2.2.2.2.1, v4.2.2.2.2.2.2.2.2.2.2.2.2.2.2.2.2.2.2.1, v4.2.2.2.2.2.2.2.2.2.2.2.2.2.2.2.2.2.2.2.1, v4.2.2.2.2.2.2.2.2.2.2.2.2.2.2.2.2.2.2.2.2.1, v4.2.2.2.2.2.2.2.2.2.2.2.2.2.2.2.2.2.2.2.2.2.1, v4.2.2.2.2.2.2.2.2.2.2.2.2.2.2.2.2.2.2.2.2.2.2.1, v4.2.2.2.2.2.2.2.2.2.2.2.2.2.2.2.2.2.2.2.2.2.2.2.1, v4.2.2.2.2.2.2.2.2.2.2.2.2.2.2.2.2.2.2.2.2.2.2.2.2, v1.1, v1.2.1, v1.2.2.1, 0, 0, 0, 0, 0, 0, 0, 0, 0, 0, false, false, [], 0, 0, [], 0, false, 0, [], [], [], 0, x))
        (branch (decide (v1.1 = 118))
         (some (false, x.1, x.2.1, x.2.2.1, x.2.2.2.1, x.2.2.2.2.1, x.2.2.2.2.2.1, x.2.2.2.2.2.2.1, x.2.2.2.2.2.2.2.1, x.2.2.2.2.2.2.2.2.1, Int.tmod (w64 (x.2.2.2.2.2.2.2.2.2.1 + v1.2.2.2)) 65536, x.2.2.2.2.2.2.2.2.2.2.1, true, x.2.2.2.2.2.2.2.2.2.2.2.2.1, x.2.2.2.2.2.2.2.2.2.2.2.2.2.1, x.2.2.2.2.2.2.2.2.2.2.2.2.2.2.1, x.2.2.2.2.2.2.2.2.2.2.2.2.2.2.2.1, x.2.2.2.2.2.2.2.2.2.2.2.2.2.2.2.2.1, x.2.2.2.2.2.2.2.2.2.2.2.2.2.2.2.2.2.1, x.2.2.2.2.2.2.2.2.2.2.2.2.2.2.2.2.2.2.1, x.2.2.2.2.2.2.2.2.2.2.2.2.2.2.2.2.2.2.2.1, x.2.2.2.2.2.2.2.2.2.2.2.2.2.2.2.2.2.2.2.2.1, x.2.2.2.2.2.2.2.2.2.2.2.2.2.2.2.2.2.2.2.2.2.1, x.2.2.2.2.2.2.2.2.2.2.2.2.2.2.2.2.2.2.2.2.2.2, false, v1.1, v1.2.1, v1.2.2.1, 0, 0, 0, 0, 0, 0, 0, 0, 0, 0, false, false, [], 0, 0, [], 0, false, 0, [], [], [], 0, x))
         (branch (decide (v1.1 < 128))
          (bindO (F115 K (Int.tmod v1.1 8, x.1, x.2.1, x.2.2.1, x.2.2.2.1, x.2.2.2.2.1, x.2.2.2.2.2.1, x.2.2.2.2.2.2.1, x.2.2.2.2.2.2.2.1, x.2.2.2.2.2.2.2.2.1, Int.tmod (w64 (x.2.2.2.2.2.2.2.2.2.1 + v1.2.2.2)) 65536, x.2.2.2.2.2.2.2.2.2.2.1, x.2.2.2.2.2.2.2.2.2.2.2.1, x.2.2.2.2.2.2.2.2.2.2.2.2.1, x.2.2.2.2.2.2.2.2.2.2.2.2.2.1, x.2.2.2.2.2.2.2.2.2.2.2.2.2.2.1, x.2.2.2.2.2.2.2.2.2.2.2.2.2.2.2.1, x.2.2.2.2.2.2.2.2.2.2.2.2.2.2.2.2.1, x.2.2.2.2.2.2.2.2.2.2.2.2.2.2.2.2.2.1, x.2.2.2.2.2.2.2.2.2.2.2.2.2.2.2.2.2.2.1, x.2.2.2.2.2.2.2.2.2.2.2.2.2.2.2.2.2.2.2.1, x.2.2.2.2.2.2.2.2.2.2.2.2.2.2.2.2.2.2.2.2.1, x.2.2.2.2.2.2.2.2.2.2.2.2.2.2.2.2.2.2.2.2.2.1, x.2.2.2.2.2.2.2.2.2.2.2.2.2.2.2.2.2.2.2.2.2.2, false)) fun v5 =>
          bindO (F114 K (Int.tmod (w64 (Int.tdiv v1.1 8)) 8, v5.1, x.1, x.2.1, x.2.2.1, x.2.2.2.1, x.2.2.2.2.1, x.2.2.2.2.2.1, x.2.2.2.2.2.2.1, x.2.2.2.2.2.2.2.1, x.2.2.2.2.2.2.2.2.1, Int.tmod (w64 (x.2.2.2.2.2.2.2.2.2.1 + v1.2.2.2)) 65536, x.2.2.2.2.2.2.2.2.2.2.1, x.2.2.2.2.2.2.2.2.2.2.2.1, x.2.2.2.2.2.2.2.2.2.2.2.2.1, x.2.2.2.2.2.2.2.2.2.2.2.2.2.1, x.2.2.2.2.2.2.2.2.2.2.2.2.2.2.1, x.2.2.2.2.2.2.2.2.2.2.2.2.2.2.2.1, x.2.2.2.2.2.2.2.2.2.2.2.2.2.2.2.2.1, x.2.2.2.2.2.2.2.2.2.2.2.2.2.2.2.2.2.1, x.2.2.2.2.2.2.2.2.2.2.2.2.2.2.2.2.2.2.1, x.2.2.2.2.2.2.2.2.2.2.2.2.2.2.2.2.2.2.2.1, x.2.2.2.2.2.2.2.2.2.2.2.2.2.2.2.2.2.2.2.2.1, x.2.2.2.2.2.2.2.2.2.2.2.2.2.2.2.2.2.2.2.2.2.1, x.2.2.2.2.2.2.2.2.2.2.2.2.2.2.2.2.2.2.2.2.2.2, false)) fun v6 =>
          some (false, v6.1, v6.2.1, v6.2.2.1, v6.2.2.2.1, v6.2.2.2.2.1, v6.2.2.2.2.2.1, v6.2.2.2.2.2.2.1, v6.2.2.2.2.2.2.2.1, v6.2.2.2.2.2.2.2.2.1, v6.2.2.2.2.2.2.2.2.2.1, v6.2.2.2.2.2.2.2.2.2.2.1, v6.2.2.2.2.2.2.2.2.2.2.2.1, v6.2.2.2.2.2.2.2.2.2.2.2.2.1, v6.2.2.2.2.2.2.2.2.2.2.2.2.2.1, v6.2.2.2.2.2.2.2.2.2.2.2.2.2.2.1, v6.2.2.2.2.2.2.2.2.2.2.2.2.2.2.2.1, v6.2.2.2.2.2.2.2.2.2.2.2.2.2.2.2.2.1, v6.2.2.2.2.2.2.2.2.2.2.2.2.2.2.2.2.2.1, v6.2.2.2.2.2.2.2.2.2.2.2.2.2.2.2.2.2.2.1, v6.2.2.2.2.2.2.2.2.2.2.2.2.2.2.2.2.2.2.2.1, v6.2.2.2.2.2.2.2.2.2.2.2.2.2.2.2.2.2.2.2.2.1, v6.2.2.2.2.2.2.2.2.2.2.2.2.2.2.2.2.2.2.2.2.2.1, v6.2.2.2.2.2.2.2.2.2.2.2.2.2.2.2.2.2.2.2.2.2.2.1, v6.2.2.2.2.2.2.2.2.2.2.2.2.2.2.2.2.2.2.2.2.2.2.2, v1.1, v1.2.1, v1.2.2.1, 0, 0, 0, 0, 0, 0, 0, 0, 0, 0, false, false, [], 0, 0, [], 0, false, 0, [], [], [], 0, x))
          (branch (decide (v1.1 < 192))
           (bindO (F115 K (Int.tmod v1.1 8, x.1, x.2.1, x.2.2.1, x.2.2.2.1, x.2.2.2.2.1, x.2.2.2.2.2.1, x.2.2.2.2.2.2.1, x.2.2.2.2.2.2.2.1, x.2.2.2.2.2.2.2.2.1, Int.tmod (w64 (x.2.2.2.2.2.2.2.2.2.1 + v1.2.2.2)) 65536, x.2.2.2.2.2.2.2.2.2.2.1, x.2.2.2.2.2.2.2.2.2.2.2.1, x.2.2.2.2.2.2.2.2.2.2.2.2.1, x.2.2.2.2.2.2.2.2.2.2.2.2.2.1, x.2.2.2.2.2.2.2.2.2.2.2.2.2.2.1, x.2.2.2.2.2.2.2.2.2.2.2.2.2.2.2.1, x.2.2.2.2.2.2.2.2.2.2.2.2.2.2.2.2.1, x.2.2.2.2.2.2.2.2.2.2.2.2.2.2.2.2.2.1, x.2.2.2.2.2.2.2.2.2.2.2.2.2.2.2.2.2.2.1, x.2.2.2.2.2.2.2.2.2.2.2.2.2.2.2.2.2.2.2.1, x.2.2.2.2.2.2.2.2.2.2.2.2.2.2.2.2.2.2.2.2.1, x.2.2.2.2.2.2.2.2.2.2.2.2.2.2.2.2.2.2.2.2.2.1, x.2.2.2.2.2.2.2.2.2.2.2.2.2.2.2.2.2.2.2.2.2.2, false)) fun v7 =>
           bindO (F116 K (Int.tmod (w64 (Int.tdiv v1.1 8)) 8, x.1, v7.1, x.2.1)) fun v8 =>
           some (false, v8.1, v8.2, x.2.2.1, x.2.2.2.1, x.2.2.2.2.1, x.2.2.2.2.2.1, x.2.2.2.2.2.2.1, x.2.2.2.2.2.2.2.1, x.2.2.2.2.2.2.2.2.1, Int.tmod (w64 (x.2.2.2.2.2.2.2.2.2.1 + v1.2.2.2)) 65536, x.2.2.2.2.2.2.2.2.2.2.1, x.2.2.2.2.2.2.2.2.2.2.2.1, x.2.2.2.2.2.2.2.2.2.2.2.2.1, x.2.2.2.2.2.2.2.2.2.2.2.2.2.1, x.2.2.2.2.2.2.2.2.2.2.2.2.2.2.1, x.2.2.2.2.2.2.2.2.2.2.2.2.2.2.2.1, x.2.2.2.2.2.2.2.2.2.2.2.2.2.2.2.2.1, x.2.2.2.2.2.2.2.2.2.2.2.2.2.2.2.2.2.1, x.2.2.2.2.2.2.2.2.2.2.2.2.2.2.2.2.2.2.1, x.2.2.2.2.2.2.2.2.2.2.2.2.2.2.2.2.2.2.2.1, x.2.2.2.2.2.2.2.2.2.2.2.2.2.2.2.2.2.2.2.2.1, x.2.2.2.2.2.2.2.2.2.2.2.2.2.2.2.2.2.2.2.2.2.1, x.2.2.2.2.2.2.2.2.2.2.2.2.2.2.2.2.2.2.2.2.2.2, false, v1.1, v1.2.1, v1.2.2.1, 0, 0, 0, 0, 0, 0, 0, 0, 0, 0, false, false, [], 0, 0, [], 0, false, 0, [], [], [], 0, x))
           (bindO (F117 K (v1.1, v1.2.1, v1.2.2.1, x.1, x.2.1, x.2.2.1, x.2.2.2.1, x.2.2.2.2.1, x.2.2.2.2.2.1, x.2.2.2.2.2.2.1, x.2.2.2.2.2.2.2.1, x.2.2.2.2.2.2.2.2.1, Int.tmod (w64 (x.2.2.2.2.2.2.2.2.2.1 + v1.2.2.2)) 65536, x.2.2.2.2.2.2.2.2.2.2.1, x.2.2.2.2.2.2.2.2.2.2.2.1, x.2.2.2.2.2.2.2.2.2.2.2.2.1, x.2.2.2.2.2.2.2.2.2.2.2.2.2.1, x.2.2.2.2.2.2.2.2.2.2.2.2.2.2.1, x.2.2.2.2.2.2.2.2.2.2.2.2.2.2.2.1, x.2.2.2.2.2.2.2.2.2.2.2.2.2.2.2.2.1, x.2.2.2.2.2.2.2.2.2.2.2.2.2.2.2.2.2.1, x.2.2.2.2.2.2.2.2.2.2.2.2.2.2.2.2.2.2.1, x.2.2.2.2.2.2.2.2.2.2.2.2.2.2.2.2.2.2.2.1, x.2.2.2.2.2.2.2.2.2.2.2.2.2.2.2.2.2.2.2.2.1, x.2.2.2.2.2.2.2.2.2.2.2.2.2.2.2.2.2.2.2.2.2.1, x.2.2.2.2.2.2.2.2.2.2.2.2.2.2.2.2.2.2.2.2.2.2, false)) fun v9 =>
           some (v9.1, v9.2.1, v9.2.2.1, v9.2.2.2.1, v9.2.2.2.2.1, v9.2.2.2.2.2.1, v9.2.2.2.2.2.2.1, v9.2.2.2.2.2.2.2.1, v9.2.2.2.2.2.2.2.2.1, v9.2.2.2.2.2.2.2.2.2.1, v9.2.2.2.2.2.2.2.2.2.2.1, v9.2.2.2.2.2.2.2.2.2.2.2.1, v9.2.2.2.2.2.2.2.2.2.2.2.2.1, v9.2.2.2.2.2.2.2.2.2.2.2.2.2.1, v9.2.2.2.2.2.2.2.2.2.2.2.2.2.2.1, v9.2.2.2.2.2.2.2.2.2.2.2.2.2.2.2.1, v9.2.2.2.2.2.2.2.2.2.2.2.2.2.2.2.2.1, v9.2.2.2.2.2.2.2.2.2.2.2.2.2.2.2.2.2.1, v9.2.2.2.2.2.2.2.2.2.2.2.2.2.2.2.2.2.2.1, v9.2.2.2.2.2.2.2.2.2.2.2.2.2.2.2.2.2.2.2.1, v9.2.2.2.2.2.2.2.2.2.2.2.2.2.2.2.2.2.2.2.2.1, v9.2.2.2.2.2.2.2.2.2.2.2.2.2.2.2.2.2.2.2.2.2.1, v9.2.2.2.2.2.2.2.2.2.2.2.2.2.2.2.2.2.2.2.2.2.2.1, v9.2.2.2.2.2.2.2.2.2.2.2.2.2.2.2.2.2.2.2.2.2.2.2.1, v9.2.2.2.2.2.2.2.2.2.2.2.2.2.2.2.2.2.2.2.2.2.2.2.2, v1.1, v1.2.1, v1.2.2.1, 0, 0, 0, 0, 0, 0, 0, 0, 0, 0, false, false, [], 0, 0, [], 0, false, 0, [], [], [], 0, x)))))))
def R62 (K : Nat) (v10 : Bool × Int × Int × Int × Int × Int × Int × Int × Int × Int × Int × Bool × Bool × (List UInt8) × Int × Int × (List UInt8) × Int × Bool × Int × (List UInt8) × (List UInt8) × (List Int) × Int × Bool × Int × Bool × Int × Int × Int × Int × Int × Int × Int × Int × Int × Int × Int × Bool × Bool × (List UInt8) × Int × Int × (List UInt8) × Int × Bool × Int × (List UInt8) × (List UInt8) × (List Int) × Int × Int × Int × Int × Int × Int × Int × Int × Int × Int × Int × Bool × Bool × (List UInt8) × Int × Int × (List UInt8) × Int × Bool × Int × (List UInt8) × (List UInt8) × (List Int) × Int) : Option (Int × Int × Int × Int × Int × Int × Int × Int × Int × Int × Bool × Bool × (List UInt8) × Int × Int × (List UInt8) × Int × Bool × Int × (List UInt8) × (List UInt8) × (List Int) × Int × Int) :=
    bindO (F118 K (v10.2.2.2.2.2.2.2.2.2.2.2.2.2.2.2.2.2.2.2.2.2.2.2.2.2.1, v10.2.2.2.2.2.2.2.2.2.2.2.2.2.2.2.2.2.2.2.2.2.2.2.2.2.2.1, v10.1)) fun v11 =>
    bindO (α := (Int × Int × Int × Int × Int × Int × Int × Int × Int × Int × Bool × Bool × (List UInt8) × Int × Int × (List UInt8) × Int × Bool × Int × (List UInt8) × (List UInt8) × (List Int) × Int × Int) ⊕ (Int × Int × Int × Int × Int × Int × Int × Int × Int × Int × Bool × Bool × (List UInt8) × Int × Int × (List UInt8) × Int × Bool × Int × (List UInt8) × (List UInt8) × (List Int) × Int × Bool × Int × Int × Int × Int × Int × Int × Int × Int × Int × Int × Bool × Bool × (List UInt8) × Int × Int × (List UInt8) × Int × Bool × Int × (List UInt8) × (List UInt8) × (List Int) × Int)) (bindO (α := Bool × Int × Int × Int × Int × Int × Int × Int × Int × Int × Int × Bool × Bool × (List UInt8) × Int × Int × (List UInt8) × Int × Bool × Int × (List UInt8) × (List UInt8) × (List Int) × Int × Bool × Int × Int × Int × Int × Int × Int × Int × Int × Int × Int × Bool × Bool × (List UInt8) × Int × Int × (List UInt8) × Int × Bool × Int × (List UInt8) × (List UInt8) × (List Int) × Int × Int × Int × Int × Int × Int × Int × Int × Int × Int × Int × Bool × Bool × (List UInt8) × Int × Int × (List UInt8) × Int × Bool × Int × (List UInt8) × (List UInt8) × (List Int) × Int) (branch v10.2.2.2.2.2.2.2.2.2.2.2.2.2.2.2.2.2.2.2.2.2.2.2.2.1
         (some (true, v10.2.1, v10.2.2.1, v10.2.2.2.1, v10.2.2.2.2.1, v10.2.2.2.2.2.1, v10.2.2.2.2.2.2.1, v10.2.2.2.2.2.2.2.1, v10.2.2.2.2.2.2.2.2.1, v10.2.2.2.2.2.2.2.2.2.1, v10.2.2.2.2.2.2.2.2.2.2.1, v10.2.2.2.2.2.2.2.2.2.2.2.1, v10.2.2.2.2.2.2.2.2.2.2.2.2.1, v10.2.2.2.2.2.2.2.2.2.2.2.2.2.1, v10.2.2.2.2.2.2.2.2.2.2.2.2.2.2.1, v10.2.2.2.2.2.2.2.2.2.2.2.2.2.2.2.1, v10.2.2.2.2.2.2.2.2.2.2.2.2.2.2.2.2.1, v10.2.2.2.2.2.2.2.2.2.2.2.2.2.2.2.2.2.1, v10.2.2.2.2.2.2.2.2.2.2.2.2.2.2.2.2.2.2.1, v10.2.2.2.2.2.2.2.2.2.2.2.2.2.2.2.2.2.2.2.1, v10.2.2.2.2.2.2.2.2.2.2.2.2.2.2.2.2.2.2.2.2.1, v10.2.2.2.2.2.2.2.2.2.2.2.2.2.2.2.2.2.2.2.2.2.1, v10.2.2.2.2.2.2.2.2.2.2.2.2.2.2.2.2.2.2.2.2.2.2.1, w64 (v10.2.2.2.2.2.2.2.2.2.2.2.2.2.2.2.2.2.2.2.2.2.2.2.2.2.2.2.2.2.2.2.2.2.2.2.2.2.2.2.2.2.2.2.2.2.2.2.2.2.2.2.2.2.2.2.2.2.2.2.2.2.2.2.2.2.2.2.2.2.2.2.2.2 + v11), v10.2.2.2.2.2.2.2.2.2.2.2.2.2.2.2.2.2.2.2.2.2.2.2.2.1, v10.2.2.2.2.2.2.2.2.2.2.2.2.2.2.2.2.2.2.2.2.2.2.2.2.2.2.2.2))
         (some (decide (1000000000 < (w64 (v10.2.2.2.2.2.2.2.2.2.2.2.2.2.2.2.2.2.2.2.2.2.2.2.2.2.2.2.2.2.2.2.2.2.2.2.2.2.2.2.2.2.2.2.2.2.2.2.2.2.2.2.2.2.2.2.2.2.2.2.2.2.2.2.2.2.2.2.2.2.2.2.2.2 + v11))), v10.2.1, v10.2.2.1, v10.2.2.2.1, v10.2.2.2.2.1, v10.2.2.2.2.2.1, v10.2.2.2.2.2.2.1, v10.2.2.2.2.2.2.2.1, v10.2.2.2.2.2.2.2.2.1, v10.2.2.2.2.2.2.2.2.2.1, v10.2.2.2.2.2.2.2.2.2.2.1, v10.2.2.2.2.2.2.2.2.2.2.2.1, v10.2.2.2.2.2.2.2.2.2.2.2.2.1, v10.2.2.2.2.2.2.2.2.2.2.2.2.2.1, v10.2.2.2.2.2.2.2.2.2.2.2.2.2.2.1, v10.2.2.2.2.2.2.2.2.2.2.2.2.2.2.2.1, v10.2.2.2.2.2.2.2.2.2.2.2.2.2.2.2.2.1, v10.2.2.2.2.2.2.2.2.2.2.2.2.2.2.2.2.2.1, v10.2.2.2.2.2.2.2.2.2.2.2.2.2.2.2.2.2.2.1, v10.2.2.2.2.2.2.2.2.2.2.2.2.2.2.2.2.2.2.2.1, v10.2.2.2.2.2.2.2.2.2.2.2.2.2.2.2.2.2.2.2.2.1, v10.2.2.2.2.2.2.2.2.2.2.2.2.2.2.2.2.2.2.2.2.2.1, v10.2.2.2.2.2.2.2.2.2.2.2.2.2.2.2.2.2.2.2.2.2.2.1, w64 (v10.2.2.2.2.2.2.2.2.2.2.2.2.2.2.2.2.2.2.2.2.2.2.2.2.2.2.2.2.2.2.2.2.2.2.2.2.2.2.2.2.2.2.2.2.2.2.2.2.2.2.2.2.2.2.2.2.2.2.2.2.2.2.2.2.2.2.2.2.2.2.2.2.2 + v11), v10.2.2.2.2.2.2.2.2.2.2.2.2.2.2.2.2.2.2.2.2.2.2.2.2.1, v10.2.2.2.2.2.2.2.2.2.2.2.2.2.2.2.2.2.2.2.2.2.2.2.2.2.2.2.2))) fun v12 =>
      branch v12.1
       (bindO (F89 K v12.2.2.2.2.2.2.2.2.2.2.2.2.2.2.2.2.2.2.2.2.2.2.2.2.2.2.2.2.2.2.2.2.2.2.2.2.2.2.2.2.2.2.2.2.2.2.2.2) fun v13 =>
       some (.inl (v13.1, v13.2.1, v13.2.2.1, v13.2.2.2.1, v13.2.2.2.2.1, v13.2.2.2.2.2.1, v13.2.2.2.2.2.2.1, v13.2.2.2.2.2.2.2.1, v13.2.2.2.2.2.2.2.2.1, v13.2.2.2.2.2.2.2.2.2.1, v13.2.2.2.2.2.2.2.2.2.2.1, v13.2.2.2.2.2.2.2.2.2.2.2.1, v13.2.2.2.2.2.2.2.2.2.2.2.2.1, v13.2.2.2.2.2.2.2.2.2.2.2.2.2.1, v13.2.2.2.2.2.2.2.2.2.2.2.2.2.2.1, v13.2.2.2.2.2.2.2.2.2.2.2.2.2.2.2.1, v13.2.2.2.2.2.2.2.2.2.2.2.2.2.2.2.2.1, v13.2.2.2.2.2.2.2.2.2.2.2.2.2.2.2.2.2.1, v13.2.2.2.2.2.2.2.2.2.2.2.2.2.2.2.2.2.2.1, v13.2.2.2.2.2.2.2.2.2.2.2.2.2.2.2.2.2.2.2.1, v13.2.2.2.2.2.2.2.2.2.2.2.2.2.2.2.2.2.2.2.2.1, v13.2.2.2.2.2.2.2.2.2.2.2.2.2.2.2.2.2.2.2.2.2.1, v13.2.2.2.2.2.2.2.2.2.2.2.2.2.2.2.2.2.2.2.2.2.2, 4)))
       (some (.inr (v12.2.1, v12.2.2.1, v12.2.2.2.1, v12.2.2.2.2.1, v12.2.2.2.2.2.1, v12.2.2.2.2.2.2.1, v12.2.2.2.2.2.2.2.1, v12.2.2.2.2.2.2.2.2.1, v12.2.2.2.2.2.2.2.2.2.1, v12.2.2.2.2.2.2.2.2.2.2.1, v12.2.2.2.2.2.2.2.2.2.2.2.1, v12.2.2.2.2.2.2.2.2.2.2.2.2.1, v12.2.2.2.2.2.2.2.2.2.2.2.2.2.1, v12.2.2.2.2.2.2.2.2.2.2.2.2.2.2.1, v12.2.2.2.2.2.2.2.2.2.2.2.2.2.2.2.1, v12.2.2.2.2.2.2.2.2.2.2.2.2.2.2.2.2.1, v12.2.2.2.2.2.2.2.2.2.2.2.2.2.2.2.2.2.1, v12.2.2.2.2.2.2.2.2.2.2.2.2.2.2.2.2.2.2.1, v12.2.2.2.2.2.2.2.2.2.2.2.2.2.2.2.2.2.2.2.1, v12.2.2.2.2.2.2.2.2.2.2.2.2.2.2.2.2.2.2.2.2.1, v12.2.2.2.2.2.2.2.2.2.2.2.2.2.2.2.2.2.2.2.2.2.1, v12.2.2.2.2.2.2.2.2.2.2.2.2.2.2.2.2.2.2.2.2.2.2.1, v12.2.2.2.2.2.2.2.2.2.2.2.2.2.2.2.2.2.2.2.2.2.2.2.1, v12.2.2.2.2.2.2.2.2.2.2.2.2.2.2.2.2.2.2.2.2.2.2.2.2.1, v12.2.2.2.2.2.2.2.2.2.2.2.2.2.2.2.2.2.2.2.2.2.2.2.2.2.1, v12.2.2.2.2.2.2.2.2.2.2.2.2.2.2.2.2.2.2.2.2.2.2.2.2.2.2.1, v12.2.2.2.2.2.2.2.2.2.2.2.2.2.2.2.2.2.2.2.2.2.2.2.2.2.2.2.1, v12.2.2.2.2.2.2.2.2.2.2.2.2.2.2.2.2.2.2.2.2.2.2.2.2.2.2.2.2.1, v12.2.2.2.2.2.2.2.2.2.2.2.2.2.2.2.2.2.2.2.2.2.2.2.2.2.2.2.2.2.1, v12.2.2.2.2.2.2.2.2.2.2.2.2.2.2.2.2.2.2.2.2.2.2.2.2.2.2.2.2.2.2.1, v12.2.2.2.2.2.2.2.2.2.2.2.2.2.2.2.2.2.2.2.2.2.2.2.2.2.2.2.2.2.2.2.1, v12.2.2.2.2.2.2.2.2.2.2.2.2.2.2.2.2.2.2.2.2.2.2.2.2.2.2.2.2.2.2.2.2.1, v12.2.2.2.2.2.2.2.2.2.2.2.2.2.2.2.2.2.2.2.2.2.2.2.2.2.2.2.2.2.2.2.2.2.1, v12.2.2.2.2.2.2.2.2.2.2.2.2.2.2.2.2.2.2.2.2.2.2.2.2.2.2.2.2.2.2.2.2.2.2.1, v12.2.2.2.2.2.2.2.2.2.2.2.2.2.2.2.2.2.2.2.2.2.2.2.2.2.2.2.2.2.2.2.2.2.2.2.1, v12.2.2.2.2.2.2.2.2.2.2.2.2.2.2.2.2.2.2.2.2.2.2.2.2.2.2.2.2.2.2.2.2.2.2.2.2.1, v12.2.2.2.2.2.2.2.2.2.2.2.2.2.2.2.2.2.2.2.2.2.2.2.2.2.2.2.2.2.2.2.2.2.2.2.2.2.1, v12.2.2.2.2.2.2.2.2.2.2.2.2.2.2.2.2.2.2.2.2.2.2.2.2.2.2.2.2.2.2.2.2.2.2.2.2.2.2.1, v12.2.2.2.2.2.2.2.2.2.2.2.2.2.2.2.2.2.2.2.2.2.2.2.2.2.2.2.2.2.2.2.2.2.2.2.2.2.2.2.1, v12.2.2.2.2.2.2.2.2.2.2.2.2.2.2.2.2.2.2.2.2.2.2.2.2.2.2.2.2.2.2.2.2.2.2.2.2.2.2.2.2.1, v12.2.2.2.2.2.2.2.2.2.2.2.2.2.2.2.2.2.2.2.2.2.2.2.2.2.2.2.2.2.2.2.2.2.2.2.2.2.2.2.2.2.1, v12.2.2.2.2.2.2.2.2.2.2.2.2.2.2.2.2.2.2.2.2.2.2.2.2.2.2.2.2.2.2.2.2.2.2.2.2.2.2.2.2.2.2.1, v12.2.2.2.2.2.2.2.2.2.2.2.2.2.2.2.2.2.2.2.2.2.2.2.2.2.2.2.2.2.2.2.2.2.2.2.2.2.2.2.2.2.2.2.1, v12.2.2.2.2.2.2.2.2.2.2.2.2.2.2.2.2.2.2.2.2.2.2.2.2.2.2.2.2.2.2.2.2.2.2.2.2.2.2.2.2.2.2.2.2.1, v12.2.2.2.2.2.2.2.2.2.2.2.2.2.2.2.2.2.2.2.2.2.2.2.2.2.2.2.2.2.2.2.2.2.2.2.2.2.2.2.2.2.2.2.2.2.1, v12.2.2.2.2.2.2.2.2.2.2.2.2.2.2.2.2.2.2.2.2.2.2.2.2.2.2.2.2.2.2.2.2.2.2.2.2.2.2.2.2.2.2.2.2.2.2.1, v12.2.2.2.2.2.2.2.2.2.2.2.2.2.2.2.2.2.2.2.2.2.2.2.2.2.2.2.2.2.2.2.2.2.2.2.2.2.2.2.2.2.2.2.2.2.2.2.1)))) fun v14 =>
    csO v14
     (fun v15 => some v15)
     (fun v16 => bindO (F89 K (v16.1, v16.2.1, v16.2.2.1, v16.2.2.2.1, v16.2.2.2.2.1, v16.2.2.2.2.2.1, v16.2.2.2.2.2.2.1, v16.2.2.2.2.2.2.2.1, v16.2.2.2.2.2.2.2.2.1, v16.2.2.2.2.2.2.2.2.2.1, v16.2.2.2.2.2.2.2.2.2.2.1, v16.2.2.2.2.2.2.2.2.2.2.2.1, v16.2.2.2.2.2.2.2.2.2.2.2.2.1, v16.2.2.2.2.2.2.2.2.2.2.2.2.2.1, v16.2.2.2.2.2.2.2.2.2.2.2.2.2.2.1, v16.2.2.2.2.2.2.2.2.2.2.2.2.2.2.2.1, v16.2.2.2.2.2.2.2.2.2.2.2.2.2.2.2.2.1, v16.2.2.2.2.2.2.2.2.2.2.2.2.2.2.2.2.2.1, v16.2.2.2.2.2.2.2.2.2.2.2.2.2.2.2.2.2.2.1, v16.2.2.2.2.2.2.2.2.2.2.2.2.2.2.2.2.2.2.2.1, v16.2.2.2.2.2.2.2.2.2.2.2.2.2.2.2.2.2.2.2.2.1, v16.2.2.2.2.2.2.2.2.2.2.2.2.2.2.2.2.2.2.2.2.2.1, v16.2.2.2.2.2.2.2.2.2.2.2.2.2.2.2.2.2.2.2.2.2.2.1)) fun v17 =>
     some (v17.1, v17.2.1, v17.2.2.1, v17.2.2.2.1, v17.2.2.2.2.1, v17.2.2.2.2.2.1, v17.2.2.2.2.2.2.1, v17.2.2.2.2.2.2.2.1, v17.2.2.2.2.2.2.2.2.1, v17.2.2.2.2.2.2.2.2.2.1, v17.2.2.2.2.2.2.2.2.2.2.1, v17.2.2.2.2.2.2.2.2.2.2.2.1, v17.2.2.2.2.2.2.2.2.2.2.2.2.1, v17.2.2.2.2.2.2.2.2.2.2.2.2.2.1, v17.2.2.2.2.2.2.2.2.2.2.2.2.2.2.1, v17.2.2.2.2.2.2.2.2.2.2.2.2.2.2.2.1, v17.2.2.2.2.2.2.2.2.2.2.2.2.2.2.2.2.1, v17.2.2.2.2.2.2.2.2.2.2.2.2.2.2.2.2.2.1, v17.2.2.2.2.2.2.2.2.2.2.2.2.2.2.2.2.2.2.1, v17.2.2.2.2.2.2.2.2.2.2.2.2.2.2.2.2.2.2.2.1, v17.2.2.2.2.2.2.2.2.2.2.2.2.2.2.2.2.2.2.2.2.1, v17.2.2.2.2.2.2.2.2.2.2.2.2.2.2.2.2.2.2.2.2.2.1, v17.2.2.2.2.2.2.2.2.2.2.2.2.2.2.2.2.2.2.2.2.2.2, 0))
def pack (t : Bool) (r : WT) (c : Int) (cb : Bool) (imm : Int) (x : MT) : Bool × Int × Int × Int × Int × Int × Int × Int × Int × Int × Int × Bool × Bool × (List UInt8) × Int × Int × (List UInt8) × Int × Bool × Int × (List UInt8) × (List UInt8) × (List Int) × Int × Bool × Int × Bool × Int × Int × Int × Int × Int × Int × Int × Int × Int × Int × Int × Bool × Bool × (List UInt8) × Int × Int × (List UInt8) × Int × Bool × Int × (List UInt8) × (List UInt8) × (List Int) × Int × Int × Int × Int × Int × Int × Int × Int × Int × Int × Int × Bool × Bool × (List UInt8) × Int × Int × (List UInt8) × Int × Bool × Int × (List UInt8) × (List UInt8) × (List Int) × Int := (t, r.1, r.2.1, r.2.2.1, r.2.2.2.1, r.2.2.2.2.1, r.2.2.2.2.2.1, r.2.2.2.2.2.2.1, r.2.2.2.2.2.2.2.1, r.2.2.2.2.2.2.2.2.1, r.2.2.2.2.2.2.2.2.2.1, r.2.2.2.2.2.2.2.2.2.2.1, r.2.2.2.2.2.2.2.2.2.2.2.1, r.2.2.2.2.2.2.2.2.2.2.2.2.1, r.2.2.2.2.2.2.2.2.2.2.2.2.2.1, r.2.2.2.2.2.2.2.2.2.2.2.2.2.2.1, r.2.2.2.2.2.2.2.2.2.2.2.2.2.2.2.1, r.2.2.2.2.2.2.2.2.2.2.2.2.2.2.2.2.1, r.2.2.2.2.2.2.2.2.2.2.2.2.2.2.2.2.2.1, r.2.2.2.2.2.2.2.2.2.2.2.2.2.2.2.2.2.2.1, r.2.2.2.2.2.2.2.2.2.2.2.2.2.2.2.2.2.2.2.1, r.2.2.2.2.2.2.2.2.2.2.2.2.2.2.2.2.2.2.2.2.1, r.2.2.2.2.2.2.2.2.2.2.2.2.2.2.2.2.2.2.2.2.2.1, cyc r, r.2.2.2.2.2.2.2.2.2.2.2.2.2.2.2.2.2.2.2.2.2.2.2, c, cb, imm, 0, 0, 0, 0, 0, 0, 0, 0, 0, 0, false, false, [], 0, 0, [], 0, false, 0, [], [], [], 0, x)
theorem D62_eq (K : Nat) (x : MT) (v1 : Int × Bool × Int × Int) : D62 K x v1 = bindO (spD K v1.1 v1.2.1 v1.2.2.1 (setPc x.w (Int.tmod (w64 (x.2.2.2.2.2.2.2.2.2.1 + v1.2.2.2)) 65536))) fun r => some (pack r.1 r.2 v1.1 v1.2.1 v1.2.2.1 x) := by
  unfold D62 spD
  cases v1.2.1 with
  | true => simp only [branch_t, bind_bind, bindO_s]; rfl
  | false =>
    simp only [branch_f]
    cases decide (v1.1 < 64) with
    | true => simp only [branch_t, bind_bind, bindO_s]; rfl
    | false =>
      simp only [branch_f]
      cases decide (v1.1 = 118) with
      | true => rfl
      | false =>
        simp only [branch_f]
        cases decide (v1.1 < 128) with
        | true => simp only [branch_t, bind_bind, bindO_s]; rfl
        | false =>
          simp only [branch_f]
          cases decide (v1.1 < 192) with
          | true => simp only [branch_t, bind_bind, bindO_s]; rfl
          | false => simp only [branch_f, bind_bind, bindO_s]; rfl
end Go.U.Tryz
namespace Go.U.Tryz
open Go Go.U
set_option linter.unusedVariables false
set_option linter.unusedSimpArgs false
set_option maxRecDepth 20000
variable {qq : List UInt8 × Nat × Option Int} {R0 : List UInt8} {n0 : Nat}
def G60 (v0 : Int × Bool × Int × Int × Int × Int × Int × Int × Int × Int × Int × Int × Int × Int × Bool × Bool × (List UInt8) × Int × Int × (List UInt8) × Int × Bool × Int × (List UInt8) × (List UInt8) × (List Int) × Int) (v1 : Bool × AT) (v2 : Int) : Option (Int × Int × Int × Int × Int × Int × Int × Int × Int × Int × Bool × Bool × (List UInt8) × Int × Int × (List UInt8) × Int × Bool × Int × (List UInt8) × (List UInt8) × (List Int) × Int × Int) :=
  bindO (α := Bool × Int × Int × Int × Int × Int × Int × Int × Int × Int × Int × Bool × Bool × (List UInt8) × Int × Int × (List UInt8) × Int × Bool × Int × (List UInt8) × (List UInt8) × (List Int) × Int × Int × Int × Int × Int × Int × Int × Int × Int × Int × Int × Bool × Bool × (List UInt8) × Int × Int × (List UInt8) × Int × Bool × Int × (List UInt8) × (List UInt8) × (List Int) × Int × Int × Int × Int × Int × Int × Int × Int × Int × Int × Int × Bool × Bool × (List UInt8) × Int × Int × (List UInt8) × Int × Bool × Int × (List UInt8) × (List UInt8) × (List Int) × Int) (branch v1.2.2.2.2.1
       (some (true, v1.2.2.2.2.2.1, v1.2.2.2.2.2.2.1, v1.2.2.2.2.2.2.2.1, v1.2.2.2.2.2.2.2.2.1, v1.2.2.2.2.2.2.2.2.2.1, v1.2.2.2.2.2.2.2.2.2.2.1, v1.2.2.2.2.2.2.2.2.2.2.2.1, v1.2.2.2.2.2.2.2.2.2.2.2.2.1, v1.2.2.2.2.2.2.2.2.2.2.2.2.2.1, v1.2.2.2.2.2.2.2.2.2.2.2.2.2.2.1, v1.2.2.2.2.2.2.2.2.2.2.2.2.2.2.2.1, v1.2.2.2.2.2.2.2.2.2.2.2.2.2.2.2.2.1, v1.2.2.2.2.2.2.2.2.2.2.2.2.2.2.2.2.2.1, v1.2.2.2.2.2.2.2.2.2.2.2.2.2.2.2.2.2.2.1, v1.2.2.2.2.2.2.2.2.2.2.2.2.2.2.2.2.2.2.2.1, v1.2.2.2.2.2.2.2.2.2.2.2.2.2.2.2.2.2.2.2.2.1, v1.2.2.2.2.2.2.2.2.2.2.2.2.2.2.2.2.2.2.2.2.2.1, v1.2.2.2.2.2.2.2.2.2.2.2.2.2.2.2.2.2.2.2.2.2.2.1, v1.2.2.2.2.2.2.2.2.2.2.2.2.2.2.2.2.2.2.2.2.2.2.2.1, v1.2.2.2.2.2.2.2.2.2.2.2.2.2.2.2.2.2.2.2.2.2.2.2.2.1, v1.2.2.2.2.2.2.2.2.2.2.2.2.2.2.2.2.2.2.2.2.2.2.2.2.2.1, v1.2.2.2.2.2.2.2.2.2.2.2.2.2.2.2.2.2.2.2.2.2.2.2.2.2.2.1, w64 (v1.2.2.2.2.2.2.2.2.2.2.2.2.2.2.2.2.2.2.2.2.2.2.2.2.2.2.2 + v2), 0, 0, 0, 0, 0, 0, 0, 0, 0, 0, false, false, [], 0, 0, [], 0, false, 0, [], [], [], 0, v0.2.2.2.2))
       (some (decide (1000000000 < (w64 (v1.2.2.2.2.2.2.2.2.2.2.2.2.2.2.2.2.2.2.2.2.2.2.2.2.2.2.2 + v2))), v1.2.2.2.2.2.1, v1.2.2.2.2.2.2.1, v1.2.2.2.2.2.2.2.1, v1.2.2.2.2.2.2.2.2.1, v1.2.2.2.2.2.2.2.2.2.1, v1.2.2.2.2.2.2.2.2.2.2.1, v1.2.2.2.2.2.2.2.2.2.2.2.1, v1.2.2.2.2.2.2.2.2.2.2.2.2.1, v1.2.2.2.2.2.2.2.2.2.2.2.2.2.1, v1.2.2.2.2.2.2.2.2.2.2.2.2.2.2.1, v1.2.2.2.2.2.2.2.2.2.2.2.2.2.2.2.1, v1.2.2.2.2.2.2.2.2.2.2.2.2.2.2.2.2.1, v1.2.2.2.2.2.2.2.2.2.2.2.2.2.2.2.2.2.1, v1.2.2.2.2.2.2.2.2.2.2.2.2.2.2.2.2.2.2.1, v1.2.2.2.2.2.2.2.2.2.2.2.2.2.2.2.2.2.2.2.1, v1.2.2.2.2.2.2.2.2.2.2.2.2.2.2.2.2.2.2.2.2.1, v1.2.2.2.2.2.2.2.2.2.2.2.2.2.2.2.2.2.2.2.2.2.1, v1.2.2.2.2.2.2.2.2.2.2.2.2.2.2.2.2.2.2.2.2.2.2.1, v1.2.2.2.2.2.2.2.2.2.2.2.2.2.2.2.2.2.2.2.2.2.2.2.1, v1.2.2.2.2.2.2.2.2.2.2.2.2.2.2.2.2.2.2.2.2.2.2.2.2.1, v1.2.2.2.2.2.2.2.2.2.2.2.2.2.2.2.2.2.2.2.2.2.2.2.2.2.1, v1.2.2.2.2.2.2.2.2.2.2.2.2.2.2.2.2.2.2.2.2.2.2.2.2.2.2.1, w64 (v1.2.2.2.2.2.2.2.2.2.2.2.2.2.2.2.2.2.2.2.2.2.2.2.2.2.2.2 + v2), 0, 0, 0, 0, 0, 0, 0, 0, 0, 0, false, false, [], 0, 0, [], 0, false, 0, [], [], [], 0, v0.2.2.2.2))) fun v3 =>
    branch v3.1
     (some (v3.2.2.2.2.2.2.2.2.2.2.2.2.2.2.2.2.2.2.2.2.2.2.2.2.2.2.2.2.2.2.2.2.2.2.2.2.2.2.2.2.2.2.2.2.2.2.2.1, v3.2.2.2.2.2.2.2.2.2.2.2.2.2.2.2.2.2.2.2.2.2.2.2.2.2.2.2.2.2.2.2.2.2.2.2.2.2.2.2.2.2.2.2.2.2.2.2.2.1, v3.2.2.2.2.2.2.2.2.2.2.2.2.2.2.2.2.2.2.2.2.2.2.2.2.2.2.2.2.2.2.2.2.2.2.2.2.2.2.2.2.2.2.2.2.2.2.2.2.2.1, v3.2.2.2.2.2.2.2.2.2.2.2.2.2.2.2.2.2.2.2.2.2.2.2.2.2.2.2.2.2.2.2.2.2.2.2.2.2.2.2.2.2.2.2.2.2.2.2.2.2.2.1, v3.2.2.2.2.2.2.2.2.2.2.2.2.2.2.2.2.2.2.2.2.2.2.2.2.2.2.2.2.2.2.2.2.2.2.2.2.2.2.2.2.2.2.2.2.2.2.2.2.2.2.2.1, v3.2.2.2.2.2.2.2.2.2.2.2.2.2.2.2.2.2.2.2.2.2.2.2.2.2.2.2.2.2.2.2.2.2.2.2.2.2.2.2.2.2.2.2.2.2.2.2.2.2.2.2.2.1, v3.2.2.2.2.2.2.2.2.2.2.2.2.2.2.2.2.2.2.2.2.2.2.2.2.2.2.2.2.2.2.2.2.2.2.2.2.2.2.2.2.2.2.2.2.2.2.2.2.2.2.2.2.2.1, v3.2.2.2.2.2.2.2.2.2.2.2.2.2.2.2.2.2.2.2.2.2.2.2.2.2.2.2.2.2.2.2.2.2.2.2.2.2.2.2.2.2.2.2.2.2.2.2.2.2.2.2.2.2.2.1, v3.2.2.2.2.2.2.2.2.2.2.2.2.2.2.2.2.2.2.2.2.2.2.2.2.2.2.2.2.2.2.2.2.2.2.2.2.2.2.2.2.2.2.2.2.2.2.2.2.2.2.2.2.2.2.2.1, v3.2.2.2.2.2.2.2.2.2.2.2.2.2.2.2.2.2.2.2.2.2.2.2.2.2.2.2.2.2.2.2.2.2.2.2.2.2.2.2.2.2.2.2.2.2.2.2.2.2.2.2.2.2.2.2.2.1, v3.2.2.2.2.2.2.2.2.2.2.2.2.2.2.2.2.2.2.2.2.2.2.2.2.2.2.2.2.2.2.2.2.2.2.2.2.2.2.2.2.2.2.2.2.2.2.2.2.2.2.2.2.2.2.2.2.2.1, v3.2.2.2.2.2.2.2.2.2.2.2.2.2.2.2.2.2.2.2.2.2.2.2.2.2.2.2.2.2.2.2.2.2.2.2.2.2.2.2.2.2.2.2.2.2.2.2.2.2.2.2.2.2.2.2.2.2.2.1, v3.2.2.2.2.2.2.2.2.2.2.2.2.2.2.2.2.2.2.2.2.2.2.2.2.2.2.2.2.2.2.2.2.2.2.2.2.2.2.2.2.2.2.2.2.2.2.2.2.2.2.2.2.2.2.2.2.2.2.2.1, v3.2.2.2.2.2.2.2.2.2.2.2.2.2.2.2.2.2.2.2.2.2.2.2.2.2.2.2.2.2.2.2.2.2.2.2.2.2.2.2.2.2.2.2.2.2.2.2.2.2.2.2.2.2.2.2.2.2.2.2.2.1, v3.2.2.2.2.2.2.2.2.2.2.2.2.2.2.2.2.2.2.2.2.2.2.2.2.2.2.2.2.2.2.2.2.2.2.2.2.2.2.2.2.2.2.2.2.2.2.2.2.2.2.2.2.2.2.2.2.2.2.2.2.2.1, v3.2.2.2.2.2.2.2.2.2.2.2.2.2.2.2.2.2.2.2.2.2.2.2.2.2.2.2.2.2.2.2.2.2.2.2.2.2.2.2.2.2.2.2.2.2.2.2.2.2.2.2.2.2.2.2.2.2.2.2.2.2.2.1, v3.2.2.2.2.2.2.2.2.2.2.2.2.2.2.2.2.2.2.2.2.2.2.2.2.2.2.2.2.2.2.2.2.2.2.2.2.2.2.2.2.2.2.2.2.2.2.2.2.2.2.2.2.2.2.2.2.2.2.2.2.2.2.2.1, v3.2.2.2.2.2.2.2.2.2.2.2.2.2.2.2.2.2.2.2.2.2.2.2.2.2.2.2.2.2.2.2.2.2.2.2.2.2.2.2.2.2.2.2.2.2.2.2.2.2.2.2.2.2.2.2.2.2.2.2.2.2.2.2.2.1, v3.2.2.2.2.2.2.2.2.2.2.2.2.2.2.2.2.2.2.2.2.2.2.2.2.2.2.2.2.2.2.2.2.2.2.2.2.2.2.2.2.2.2.2.2.2.2.2.2.2.2.2.2.2.2.2.2.2.2.2.2.2.2.2.2.2.1, v3.2.2.2.2.2.2.2.2.2.2.2.2.2.2.2.2.2.2.2.2.2.2.2.2.2.2.2.2.2.2.2.2.2.2.2.2.2.2.2.2.2.2.2.2.2.2.2.2.2.2.2.2.2.2.2.2.2.2.2.2.2.2.2.2.2.2.1, v3.2.2.2.2.2.2.2.2.2.2.2.2.2.2.2.2.2.2.2.2.2.2.2.2.2.2.2.2.2.2.2.2.2.2.2.2.2.2.2.2.2.2.2.2.2.2.2.2.2.2.2.2.2.2.2.2.2.2.2.2.2.2.2.2.2.2.2.1, v3.2.2.2.2.2.2.2.2.2.2.2.2.2.2.2.2.2.2.2.2.2.2.2.2.2.2.2.2.2.2.2.2.2.2.2.2.2.2.2.2.2.2.2.2.2.2.2.2.2.2.2.2.2.2.2.2.2.2.2.2.2.2.2.2.2.2.2.2.1, v3.2.2.2.2.2.2.2.2.2.2.2.2.2.2.2.2.2.2.2.2.2.2.2.2.2.2.2.2.2.2.2.2.2.2.2.2.2.2.2.2.2.2.2.2.2.2.2.2.2.2.2.2.2.2.2.2.2.2.2.2.2.2.2.2.2.2.2.2.2, 4))
     (some (v3.2.1, v3.2.2.1, v3.2.2.2.1, v3.2.2.2.2.1, v3.2.2.2.2.2.1, v3.2.2.2.2.2.2.1, v3.2.2.2.2.2.2.2.1, v3.2.2.2.2.2.2.2.2.1, v3.2.2.2.2.2.2.2.2.2.1, v3.2.2.2.2.2.2.2.2.2.2.1, v3.2.2.2.2.2.2.2.2.2.2.2.1, v3.2.2.2.2.2.2.2.2.2.2.2.2.1, v3.2.2.2.2.2.2.2.2.2.2.2.2.2.1, v3.2.2.2.2.2.2.2.2.2.2.2.2.2.2.1, v3.2.2.2.2.2.2.2.2.2.2.2.2.2.2.2.1, v3.2.2.2.2.2.2.2.2.2.2.2.2.2.2.2.2.1, v3.2.2.2.2.2.2.2.2.2.2.2.2.2.2.2.2.2.1, v3.2.2.2.2.2.2.2.2.2.2.2.2.2.2.2.2.2.2.1, v3.2.2.2.2.2.2.2.2.2.2.2.2.2.2.2.2.2.2.2.1, v3.2.2.2.2.2.2.2.2.2.2.2.2.2.2.2.2.2.2.2.2.1, v3.2.2.2.2.2.2.2.2.2.2.2.2.2.2.2.2.2.2.2.2.2.1, v3.2.2.2.2.2.2.2.2.2.2.2.2.2.2.2.2.2.2.2.2.2.2.1, v3.2.2.2.2.2.2.2.2.2.2.2.2.2.2.2.2.2.2.2.2.2.2.2.1, 0))
def out (w : WT) (c : Int) : Int × Int × Int × Int × Int × Int × Int × Int × Int × Int × Bool × Bool × (List UInt8) × Int × Int × (List UInt8) × Int × Bool × Int × (List UInt8) × (List UInt8) × (List Int) × Int × Int := (w.1, w.2.1, w.2.2.1, w.2.2.2.1, w.2.2.2.2.1, w.2.2.2.2.2.1, w.2.2.2.2.2.2.1, w.2.2.2.2.2.2.2.1, w.2.2.2.2.2.2.2.2.1, w.2.2.2.2.2.2.2.2.2.1, w.2.2.2.2.2.2.2.2.2.2.1, w.2.2.2.2.2.2.2.2.2.2.2.1, w.2.2.2.2.2.2.2.2.2.2.2.2.1, w.2.2.2.2.2.2.2.2.2.2.2.2.2.1, w.2.2.2.2.2.2.2.2.2.2.2.2.2.2.1, w.2.2.2.2.2.2.2.2.2.2.2.2.2.2.2.1, w.2.2.2.2.2.2.2.2.2.2.2.2.2.2.2.2.1, w.2.2.2.2.2.2.2.2.2.2.2.2.2.2.2.2.2.1, w.2.2.2.2.2.2.2.2.2.2.2.2.2.2.2.2.2.2.1, w.2.2.2.2.2.2.2.2.2.2.2.2.2.2.2.2.2.2.2.1, w.2.2.2.2.2.2.2.2.2.2.2.2.2.2.2.2.2.2.2.2.1, w.2.2.2.2.2.2.2.2.2.2.2.2.2.2.2.2.2.2.2.2.2.1, w.2.2.2.2.2.2.2.2.2.2.2.2.2.2.2.2.2.2.2.2.2.2.1, c)
def fin (b : Bool) (w w' : WT) (n : Int) : Int × Int × Int × Int × Int × Int × Int × Int × Int × Int × Bool × Bool × (List UInt8) × Int × Int × (List UInt8) × Int × Bool × Int × (List UInt8) × (List UInt8) × (List Int) × Int × Int := cond b (out w 4) (out (setCyc w' n) 0)
theorem G60_eq (c : Int) (cb : Bool) (imm n l : Int) (t : Bool) (w w' : WT) (r : Int × Bool × Int) :
    G60 (r.1, r.2.1, r.2.2, l, WT.m w) (t, A c cb imm w') n = some (fin (w'.2.2.2.2.2.2.2.2.2.2.2.2.2.2.2.2.2.2.2.2.2.2.2 || decide (1000000000 < w64 (cyc w' + n))) w w' (w64 (cyc w' + n))) := by
  unfold G60
  dsimp only [A]
  generalize w'.2.2.2.2.2.2.2.2.2.2.2.2.2.2.2.2.2.2.2.2.2.2.2 = q
  cases q with
  | true => rfl
  | false =>
    simp only [branch_f, bindO_s, Bool.false_or]
    show branch (decide (1000000000 < w64 (cyc w' + n))) _ _ = _
    generalize decide (1000000000 < w64 (cyc w' + n)) = b
    cases b <;> rfl
theorem R62_eq (k : Nat) (c : Int) (cb : Bool) (imm n : Int) (t : Bool) (w w' : WT) (h : WInv qq w) (h' : WInv qq w') (e : F118 (k + 40) (c, cb, t) = some n) (ec : cyc w' = cyc w) :
    R62 (k + 40) (pack t w' c cb imm (WT.m w)) = some (fin (w'.2.2.2.2.2.2.2.2.2.2.2.2.2.2.2.2.2.2.2.2.2.2.2 || decide (1000000000 < w64 (cyc w' + n))) w w' (w64 (cyc w' + n))) := by
  have o1 : F89 (k + 40) (WT.m w) = some (WT.m w) := F89_eq (k + 40) (WT.m w) h.out.2
  have o2 : ∀ x, F89 (k + 40) (WT.m (setCyc w' x)) = some (WT.m (setCyc w' x)) := fun x => F89_eq (k + 40) (WT.m (setCyc w' x)) h'.out.2
  unfold R62
  refine (congrArg (fun z => bindO z _) e).trans ?_
  simp only [bindO_s]
  dsimp only [pack]
  rw [ec]
  generalize w'.2.2.2.2.2.2.2.2.2.2.2.2.2.2.2.2.2.2.2.2.2.2.2 = q
  cases q with
  | true =>
    simp only [branch_t, bindO_s, Bool.true_or]
    refine (congrArg (fun z => bindO (bindO z _) _) o1).trans ?_
    rfl
  | false =>
    simp only [branch_f, bindO_s, Bool.false_or]
    show bindO (branch (decide (1000000000 < w64 (cyc w + n))) _ _) _ = _
    generalize decide (1000000000 < w64 (cyc w + n)) = b
    cases b with
    | true =>
      simp only [branch_t]
      refine (congrArg (fun z => bindO (bindO z _) _) o1).trans ?_
      rfl
    | false =>
      simp only [branch_f, bindO_s, csO_r]
      refine (congrArg (fun z => bindO z _) (o2 (w64 (cyc w + n)))).trans ?_
      rfl
theorem spD_t (K : Nat) (c : Int) (cb : Bool) (imm : Int) (w : WT) (h : WInv qq w) (hc : 0 ≤ c ∧ c ≤ 255) (hi : 0 ≤ imm ∧ imm ≤ 65535) (h6 : cb = false → c % 8 = 6 → imm ≤ 255) (hq : qq.2.2 = none ∨ cb = true ∨ c < 64 ∧ c % 8 ≠ 0 ∨ 64 ≤ c ∧ c < 192) :
    T (spD K c cb imm w) fun r => WInv qq r.2 := by
  have hz : 0 ≤ Int.tmod c 8 ∧ Int.tmod c 8 ≤ 7 := by (first | omega | ((simp (disch := omega) only [w64_id, w64u_id, Int.tmod_eq_emod_of_nonneg, Int.tdiv_eq_ediv_of_nonneg]); omega) | (simp (disch := omega) only [w64_id, w64u_id, Int.tmod_eq_emod_of_nonneg, Int.tdiv_eq_ediv_of_nonneg]) | (simp only [tm2, tm4, tm8, tm16, tm32, tm40, tm256, tm4096, tm65536, td2, td8, td16, td32, td64, td128, td256, w64_eq, decide_eq_true_eq, decide_eq_false_iff_not, not_and, Int.not_le, Int.not_lt] at *; omega))
  have hqF : cb = false → c < 64 → (qq.2.2 = none ∨ c % 8 ≠ 0) := fun hcb hlt => by
    rcases hq with e | e | e | e
    · exact .inl e
    · exact absurd (hcb.symm.trans e) nofun
    · exact .inr e.2
    · omega
  have hqT : cb = false → ¬ c < 64 → ¬ c < 192 → qq.2.2 = none := fun hcb h64 h192 => by
    rcases hq with e | e | e | e
    · exact e
    · exact absurd (hcb.symm.trans e) nofun
    · omega
    · omega
  unfold spD
  refine T.br (fun _ => T.bind (F112_t _ _ h _ _ _ hc) fun r hr => T.ret hr) fun gcb => ?_
  refine T.br (fun g2 => F113_t _ _ h _ _ _ ⟨hc.1, by have := of_decide_eq_true g2; omega⟩ hi (h6 gcb) (hqF gcb (of_decide_eq_true g2))) fun g64 => ?_
  refine T.br (fun _ => T.ret (h.set_halted true)) fun _ => ?_
  refine T.br (fun _ => T.bind (F115_t _ _ h _ hz) fun r hr => T.bind (F114_t _ _ h _ _ hr.1) fun r2 hr2 => T.ret hr2) fun _ => ?_
  refine T.br (fun _ => T.bind (F115_t _ _ h _ hz) fun r hr => T.bind (F116_t _ _ _ _ _ h.a hr.1 ⟨h.f.1, h.f.2.1⟩) fun r2 hr2 => T.ret (h.set_af hr2.1 hr2.2)) fun g192 => ?_
  have ho := hqT gcb (of_decide_eq_false g64) (of_decide_eq_false g192)
  obtain ⟨R1, n1, o1⟩ := qq
  dsimp only at ho
  subst ho
  exact F117_t _ _ h _ _ _ hc hi (h6 gcb)
theorem step_eq (k : Nat) (w : WT) (h : WInv (R0, n0, none) w) : F60 (k + 40) (WT.m w) = F62 (k + 40) (WT.m w) := by
  have o1 : F89 (k + 40) (WT.m w) = some (WT.m w) := F89_eq (k + 40) (WT.m w) h.out.2
  have l : F60 (k + 40) (WT.m w) = branch w.2.2.2.2.2.2.2.2.2.2.2.1 (some (out w 1)) (bindO (F98 (k + 40) (WT.m w)) fun v0 => branch (decide (v0.2.2.2.1 = 0)) (some (out (MT.w v0.2.2.2.2) 2)) (bindO (F110 (k + 40) (A v0.1 v0.2.1 v0.2.2.1 (setPc (MT.w v0.2.2.2.2) (bits .and .i64 (w64 (v0.2.2.2.2.2.2.2.2.2.2.2.2.2.1 + v0.2.2.2.1)) 65535)))) fun v1 => bindO (F26 (k + 40) (v0.1, v0.2.1, v1.1)) fun v2 => G60 v0 v1 v2)) := rfl
  have r : F62 (k + 40) (WT.m w) = branch w.2.2.2.2.2.2.2.2.2.2.2.1 (bindO (F89 (k + 40) (WT.m w)) fun v0 => some (out (MT.w v0) 1)) (bindO (F100 (k + 40) (WT.m w)) fun v1 => branch (decide (v1.2.2.2 = 0)) (bindO (F89 (k + 40) (WT.m w)) fun v2 => some (out (MT.w v2) 2)) (bindO (D62 (k + 40) (WT.m w) v1) fun v10 => R62 (k + 40) v10)) := rfl
  rw [l, r, o1]
  cases w.2.2.2.2.2.2.2.2.2.2.2.1 with
  | true => rfl
  | false =>
    simp only [branch_f]
    obtain ⟨⟨c, cb, imm, n⟩, e1, e2, e3⟩ := fetch3 k w h
    rw [e1, e2]
    simp only [bindO_s]
    by_cases g : n = 0
    · rw [decide_eq_true g]; rfl
    · rw [decide_eq_false g]
      simp only [branch_f]
      obtain ⟨hc, him, hn, hv⟩ : _ ∧ _ ∧ _ ∧ _ := e3.resolve_left g
      dsimp only at hc him hn hv
      have hp := h.pc
      have hm : Int.tmod (w64 (w.2.2.2.2.2.2.2.2.2.1 + n)) 65536 = bits .and .i64 (w64 (w.2.2.2.2.2.2.2.2.2.1 + n)) 65535 := by rw [w64_id (by omega) (by omega), and65535, Int.tmod_eq_emod_of_nonneg (by omega)]
      have hp2 : 0 ≤ bits .and .i64 (w64 (w.2.2.2.2.2.2.2.2.2.1 + n)) 65535 ∧ bits .and .i64 (w64 (w.2.2.2.2.2.2.2.2.2.1 + n)) 65535 ≤ 65535 := by rw [and65535]; omega
      rw [D62_eq]
      show bindO (F110 (k + 40) (A c cb imm (setPc (MT.w (WT.m w)) (bits .and .i64 (w64 (w.2.2.2.2.2.2.2.2.2.1 + n)) 65535)))) (fun v1 => bindO (F26 (k + 40) (c, cb, v1.1)) fun v2 => G60 (c, cb, imm, n, WT.m w) v1 v2) = bindO (bindO (spD (k + 40) c cb imm (setPc (MT.w (WT.m w)) (Int.tmod (w64 (w.2.2.2.2.2.2.2.2.2.1 + n)) 65536))) fun r => some (pack r.1 r.2 c cb imm (WT.m w))) fun v10 => R62 (k + 40) v10
      rw [hm]
      have hw : WInv (R0, n0, none) (setPc (MT.w (WT.m w)) (bits .and .i64 (w64 (w.2.2.2.2.2.2.2.2.2.1 + n)) 65535)) := (h.set_full false).set_pc rfl hp2
      obtain ⟨t, t', w', q1, q2, q3, q4⟩ := run_eq (k + 40) c cb imm _ hw hc him hv
      obtain ⟨⟨t2, w2⟩, q5, q6⟩ := spD_t (k + 40) c cb imm _ hw hc him (fun a b => (hv a).2 (.inl b)) (.inl rfl)
      rw [q2] at q5
      have q7 := Option.some.inj q5
      have q8 : w' = w2 := congrArg Prod.snd q7
      have hw' : WInv (R0, n0, none) w' := by rw [q8]; exact q6
      rw [q1, q2]
      simp only [bindO_s]
      obtain ⟨n6, z1, z2⟩ := F118_t k c cb t' hc
      have z3 := cyc2 k c cb hc (fun a => (hv a).1) t t' (fun a => q4 (by rw [a.1, a.2]; rfl))
      rw [z3, z1]
      simp only [bindO_s]
      rw [R62_eq k c cb imm n6 t' w w' h hw' z1 q3]
      exact G60_eq c cb imm n6 n t w w' (c, cb, imm)
end Go.U.Tryz
namespace Go.U.Tryz
open Go Go.U
set_option linter.unusedVariables false
set_option linter.unusedSimpArgs false
set_option maxRecDepth 20000
variable {qq : List UInt8 × Nat × Option Int} {R0 : List UInt8} {n0 : Nat}
structure Sm (m : MT) : Prop where
  rom : m.2.2.2.2.2.2.2.2.2.2.2.2.1.length ≤ maxLen
  out : m.2.2.2.2.2.2.2.2.2.2.2.2.2.2.2.2.2.2.2.2.2.1.length ≤ 1048576
abbrev cat {α : Type} (m : MT) (t : α) := (m.1, m.2.1, m.2.2.1, m.2.2.2.1, m.2.2.2.2.1, m.2.2.2.2.2.1, m.2.2.2.2.2.2.1, m.2.2.2.2.2.2.2.1, m.2.2.2.2.2.2.2.2.1, m.2.2.2.2.2.2.2.2.2.1, m.2.2.2.2.2.2.2.2.2.2.1, m.2.2.2.2.2.2.2.2.2.2.2.1, m.2.2.2.2.2.2.2.2.2.2.2.2.1, m.2.2.2.2.2.2.2.2.2.2.2.2.2.1, m.2.2.2.2.2.2.2.2.2.2.2.2.2.2.1, m.2.2.2.2.2.2.2.2.2.2.2.2.2.2.2.1, m.2.2.2.2.2.2.2.2.2.2.2.2.2.2.2.2.1, m.2.2.2.2.2.2.2.2.2.2.2.2.2.2.2.2.2.1, m.2.2.2.2.2.2.2.2.2.2.2.2.2.2.2.2.2.2.1, m.2.2.2.2.2.2.2.2.2.2.2.2.2.2.2.2.2.2.2.1, m.2.2.2.2.2.2.2.2.2.2.2.2.2.2.2.2.2.2.2.2.1, m.2.2.2.2.2.2.2.2.2.2.2.2.2.2.2.2.2.2.2.2.2.1, m.2.2.2.2.2.2.2.2.2.2.2.2.2.2.2.2.2.2.2.2.2.2, t)
abbrev ocat {α : Type} (m : MT) (t : α) := (m.1, m.2.1, m.2.2.1, m.2.2.2.1, m.2.2.2.2.1, m.2.2.2.2.2.1, m.2.2.2.2.2.2.1, m.2.2.2.2.2.2.2.1, m.2.2.2.2.2.2.2.2.1, m.2.2.2.2.2.2.2.2.2.1, m.2.2.2.2.2.2.2.2.2.2.1, m.2.2.2.2.2.2.2.2.2.2.2.1, m.2.2.2.2.2.2.2.2.2.2.2.2.1, m.2.2.2.2.2.2.2.2.2.2.2.2.2.1, m.2.2.2.2.2.2.2.2.2.2.2.2.2.2.1, m.2.2.2.2.2.2.2.2.2.2.2.2.2.2.2.1, m.2.2.2.2.2.2.2.2.2.2.2.2.2.2.2.2.1, m.2.2.2.2.2.2.2.2.2.2.2.2.2.2.2.2.2.1, m.2.2.2.2.2.2.2.2.2.2.2.2.2.2.2.2.2.2.1, m.2.2.2.2.2.2.2.2.2.2.2.2.2.2.2.2.2.2.2.1, m.2.2.2.2.2.2.2.2.2.2.2.2.2.2.2.2.2.2.2.2.1, m.2.2.2.2.2.2.2.2.2.2.2.2.2.2.2.2.2.2.2.2.2.2, t)
abbrev outM (m : MT) : List Int := m.2.2.2.2.2.2.2.2.2.2.2.2.2.2.2.2.2.2.2.2.2.1
abbrev OT := Int × Int × Int × Int × Int × Int × Int × Int × Int × Int × Bool × Bool × (List UInt8) × Int × Int × (List UInt8) × Int × Bool × Int × (List UInt8) × (List UInt8) × Int × List Int
def ofO (m : MT) : OT := (m.1, m.2.1, m.2.2.1, m.2.2.2.1, m.2.2.2.2.1, m.2.2.2.2.2.1, m.2.2.2.2.2.2.1, m.2.2.2.2.2.2.2.1, m.2.2.2.2.2.2.2.2.1, m.2.2.2.2.2.2.2.2.2.1, m.2.2.2.2.2.2.2.2.2.2.1, m.2.2.2.2.2.2.2.2.2.2.2.1, m.2.2.2.2.2.2.2.2.2.2.2.2.1, m.2.2.2.2.2.2.2.2.2.2.2.2.2.1, m.2.2.2.2.2.2.2.2.2.2.2.2.2.2.1, m.2.2.2.2.2.2.2.2.2.2.2.2.2.2.2.1, m.2.2.2.2.2.2.2.2.2.2.2.2.2.2.2.2.1, m.2.2.2.2.2.2.2.2.2.2.2.2.2.2.2.2.2.1, m.2.2.2.2.2.2.2.2.2.2.2.2.2.2.2.2.2.2.1, m.2.2.2.2.2.2.2.2.2.2.2.2.2.2.2.2.2.2.2.1, m.2.2.2.2.2.2.2.2.2.2.2.2.2.2.2.2.2.2.2.2.1, m.2.2.2.2.2.2.2.2.2.2.2.2.2.2.2.2.2.2.2.2.2.2, m.2.2.2.2.2.2.2.2.2.2.2.2.2.2.2.2.2.2.2.2.2.1)
theorem F33_m (K : Nat) (m : MT) (h : Sm m) (hK : m.2.2.2.2.2.2.2.2.2.2.2.2.2.2.2.2.2.2.2.2.2.1.length + 8 < K) : ∃ b, F33 K m = some b ∧ F32 K m = some b ∧ (b = true → WInv (m.2.2.2.2.2.2.2.2.2.2.2.2.1, m.2.2.2.2.2.2.2.2.2.2.2.2.2.2.2.2.2.2.2.2.2.1.length, none) m.w) := by
  have h1 := h.rom
  have h2 : m.2.2.2.2.2.2.2.2.2.2.2.2.2.2.2.2.2.2.2.2.2.1.length ≤ maxLen := by have := h.out; unfold maxLen; omega
  refine ⟨_, F33_eq K m.1 m.2.1 m.2.2.1 m.2.2.2.1 m.2.2.2.2.1 m.2.2.2.2.2.1 m.2.2.2.2.2.2.1 m.2.2.2.2.2.2.2.1 m.2.2.2.2.2.2.2.2.1 m.2.2.2.2.2.2.2.2.2.1 m.2.2.2.2.2.2.2.2.2.2.1 m.2.2.2.2.2.2.2.2.2.2.2.1 m.2.2.2.2.2.2.2.2.2.2.2.2.1 m.2.2.2.2.2.2.2.2.2.2.2.2.2.1 m.2.2.2.2.2.2.2.2.2.2.2.2.2.2.1 m.2.2.2.2.2.2.2.2.2.2.2.2.2.2.2.1 m.2.2.2.2.2.2.2.2.2.2.2.2.2.2.2.2.1 m.2.2.2.2.2.2.2.2.2.2.2.2.2.2.2.2.2.1 m.2.2.2.2.2.2.2.2.2.2.2.2.2.2.2.2.2.2.1 m.2.2.2.2.2.2.2.2.2.2.2.2.2.2.2.2.2.2.2.1 m.2.2.2.2.2.2.2.2.2.2.2.2.2.2.2.2.2.2.2.2.1 m.2.2.2.2.2.2.2.2.2.2.2.2.2.2.2.2.2.2.2.2.2.1 m.2.2.2.2.2.2.2.2.2.2.2.2.2.2.2.2.2.2.2.2.2.2 h1 h2 hK, F32_eq K m.1 m.2.1 m.2.2.1 m.2.2.2.1 m.2.2.2.2.1 m.2.2.2.2.2.1 m.2.2.2.2.2.2.1 m.2.2.2.2.2.2.2.1 m.2.2.2.2.2.2.2.2.1 m.2.2.2.2.2.2.2.2.2.1 m.2.2.2.2.2.2.2.2.2.2.1 m.2.2.2.2.2.2.2.2.2.2.2.1 m.2.2.2.2.2.2.2.2.2.2.2.2.1 m.2.2.2.2.2.2.2.2.2.2.2.2.2.1 m.2.2.2.2.2.2.2.2.2.2.2.2.2.2.1 m.2.2.2.2.2.2.2.2.2.2.2.2.2.2.2.1 m.2.2.2.2.2.2.2.2.2.2.2.2.2.2.2.2.1 m.2.2.2.2.2.2.2.2.2.2.2.2.2.2.2.2.2.1 m.2.2.2.2.2.2.2.2.2.2.2.2.2.2.2.2.2.2.1 m.2.2.2.2.2.2.2.2.2.2.2.2.2.2.2.2.2.2.2.1 m.2.2.2.2.2.2.2.2.2.2.2.2.2.2.2.2.2.2.2.2.1 m.2.2.2.2.2.2.2.2.2.2.2.2.2.2.2.2.2.2.2.2.2.1 m.2.2.2.2.2.2.2.2.2.2.2.2.2.2.2.2.2.2.2.2.2.2 h1 h2 hK, fun e => WInv.of e false⟩
theorem F61o_m (K : Nat) (m : MT) (h : m.2.2.2.2.2.2.2.2.2.2.2.2.2.2.2.2.2.2.2.2.2.1.length ≤ 100) : F61o K m = some (ofO m) := by
  have e1 : F111 K m.2.2.2.2.2.2.2.2.2.2.2.2.2.2.2.2.2.2.2.2.2.1 = some m.2.2.2.2.2.2.2.2.2.2.2.2.2.2.2.2.2.2.2.2.2.1 := by
    unfold F111 cloneF
    exact guard_dec (by omega)
  unfold F61o
  rw [e1]
  rfl
def mOf (r : Int × Int × Int × Int × Int × Int × Int × Int × Int × Int × Bool × Bool × (List UInt8) × Int × Int × (List UInt8) × Int × Bool × Int × (List UInt8) × (List UInt8) × (List Int) × Int × Int) : MT := (r.1, r.2.1, r.2.2.1, r.2.2.2.1, r.2.2.2.2.1, r.2.2.2.2.2.1, r.2.2.2.2.2.2.1, r.2.2.2.2.2.2.2.1, r.2.2.2.2.2.2.2.2.1, r.2.2.2.2.2.2.2.2.2.1, r.2.2.2.2.2.2.2.2.2.2.1, r.2.2.2.2.2.2.2.2.2.2.2.1, r.2.2.2.2.2.2.2.2.2.2.2.2.1, r.2.2.2.2.2.2.2.2.2.2.2.2.2.1, r.2.2.2.2.2.2.2.2.2.2.2.2.2.2.1, r.2.2.2.2.2.2.2.2.2.2.2.2.2.2.2.1, r.2.2.2.2.2.2.2.2.2.2.2.2.2.2.2.2.1, r.2.2.2.2.2.2.2.2.2.2.2.2.2.2.2.2.2.1, r.2.2.2.2.2.2.2.2.2.2.2.2.2.2.2.2.2.2.1, r.2.2.2.2.2.2.2.2.2.2.2.2.2.2.2.2.2.2.2.1, r.2.2.2.2.2.2.2.2.2.2.2.2.2.2.2.2.2.2.2.2.1, r.2.2.2.2.2.2.2.2.2.2.2.2.2.2.2.2.2.2.2.2.2.1, r.2.2.2.2.2.2.2.2.2.2.2.2.2.2.2.2.2.2.2.2.2.2.1)
theorem step_both (k : Nat) (m : MT) (h : Sm m) (hK : m.2.2.2.2.2.2.2.2.2.2.2.2.2.2.2.2.2.2.2.2.2.1.length + 8 < k + 40) : ∃ (m' : MT) (c : Int), F23 (k + 40) m = some (m'.1, m'.2.1, m'.2.2.1, m'.2.2.2.1, m'.2.2.2.2.1, m'.2.2.2.2.2.1, m'.2.2.2.2.2.2.1, m'.2.2.2.2.2.2.2.1, m'.2.2.2.2.2.2.2.2.1, m'.2.2.2.2.2.2.2.2.2.1, m'.2.2.2.2.2.2.2.2.2.2.1, m'.2.2.2.2.2.2.2.2.2.2.2.1, m'.2.2.2.2.2.2.2.2.2.2.2.2.1, m'.2.2.2.2.2.2.2.2.2.2.2.2.2.1, m'.2.2.2.2.2.2.2.2.2.2.2.2.2.2.1, m'.2.2.2.2.2.2.2.2.2.2.2.2.2.2.2.1, m'.2.2.2.2.2.2.2.2.2.2.2.2.2.2.2.2.1, m'.2.2.2.2.2.2.2.2.2.2.2.2.2.2.2.2.2.1, m'.2.2.2.2.2.2.2.2.2.2.2.2.2.2.2.2.2.2.1, m'.2.2.2.2.2.2.2.2.2.2.2.2.2.2.2.2.2.2.2.1, m'.2.2.2.2.2.2.2.2.2.2.2.2.2.2.2.2.2.2.2.2.1, m'.2.2.2.2.2.2.2.2.2.2.2.2.2.2.2.2.2.2.2.2.2.1, m'.2.2.2.2.2.2.2.2.2.2.2.2.2.2.2.2.2.2.2.2.2.2, c) ∧ F22 (k + 40) m = some (m'.1, m'.2.1, m'.2.2.1, m'.2.2.2.1, m'.2.2.2.2.1, m'.2.2.2.2.2.1, m'.2.2.2.2.2.2.1, m'.2.2.2.2.2.2.2.1, m'.2.2.2.2.2.2.2.2.1, m'.2.2.2.2.2.2.2.2.2.1, m'.2.2.2.2.2.2.2.2.2.2.1, m'.2.2.2.2.2.2.2.2.2.2.2.1, m'.2.2.2.2.2.2.2.2.2.2.2.2.1, m'.2.2.2.2.2.2.2.2.2.2.2.2.2.1, m'.2.2.2.2.2.2.2.2.2.2.2.2.2.2.1, m'.2.2.2.2.2.2.2.2.2.2.2.2.2.2.2.1, m'.2.2.2.2.2.2.2.2.2.2.2.2.2.2.2.2.1, m'.2.2.2.2.2.2.2.2.2.2.2.2.2.2.2.2.2.1, m'.2.2.2.2.2.2.2.2.2.2.2.2.2.2.2.2.2.2.1, m'.2.2.2.2.2.2.2.2.2.2.2.2.2.2.2.2.2.2.2.1, m'.2.2.2.2.2.2.2.2.2.2.2.2.2.2.2.2.2.2.2.2.1, m'.2.2.2.2.2.2.2.2.2.2.2.2.2.2.2.2.2.2.2.2.2.2, c, m'.2.2.2.2.2.2.2.2.2.2.2.2.2.2.2.2.2.2.2.2.2.1) ∧ m'.2.2.2.2.2.2.2.2.2.2.2.2.2.2.2.2.2.2.2.2.2.1.length ≤ 100 := by
  obtain ⟨b, e1, e2, e3⟩ := F33_m (k + 40) m h hK
  cases b with
  | false =>
    refine ⟨(0, 0, 0, 0, 0, 0, 0, 0, 0, 0, false, false, [], 0, 0, [], 0, false, 0, [], [], [], 0), 3, ?_, ?_, by simp⟩
    · unfold F23; rw [e1]; rfl
    · unfold F22; rw [e2]; rfl
  | true =>
    have hw := e3 rfl
    obtain ⟨v, q1, q2⟩ := F62_t k m hw
    have hv : (mOf v).2.2.2.2.2.2.2.2.2.2.2.2.2.2.2.2.2.2.2.2.2.1.length ≤ 100 := q2.1.out.2
    have q3 : F60 (k + 40) m = some v := (step_eq k m.w hw).trans q1
    refine ⟨mOf v, v.2.2.2.2.2.2.2.2.2.2.2.2.2.2.2.2.2.2.2.2.2.2.2, ?_, ?_, hv⟩
    · unfold F23
      rw [e1]
      simp only [bindO_s, Bool.not_true, branch_f]
      rw [q1]
      rfl
    · unfold F22
      rw [e2]
      simp only [bindO_s, Bool.not_true, branch_f]
      rw [q3]
      simp only [bindO_s]
      refine (congrArg (fun z => bindO z _) (F61o_m (k + 40) (mOf v) hv)).trans ?_
      rfl
theorem ff {c : Int} (g : (!(decide (c = c))) = true) : False := by rw [decide_eq_true rfl] at g; cases g
def Z : MT := (0, 0, 0, 0, 0, 0, 0, 0, 0, 0, false, false, [], 0, 0, [], 0, false, 0, [], [], [], 0)
end Go.U.Tryz
namespace Go.U.Tryz
open Go Go.U
set_option linter.unusedVariables false
set_option linter.unusedSimpArgs false
set_option maxRecDepth 20000
variable {qq : List UInt8 × Nat × Option Int} {R0 : List UInt8} {n0 : Nat}
end Go.U.Tryz
namespace Go.U.Tryz
open Go Go.U
set_option linter.unusedVariables false
set_option linter.unusedSimpArgs false
set_option maxRecDepth 20000
variable {qq : List UInt8 × Nat × Option Int} {R0 : List UInt8} {n0 : Nat}
theorem F32_ok (k : Nat) (m : MT) (h : WInv (R0, n0, none) m.w) : F32 (k + 600 + 40) m = some true := by
  have hr := h.cart.hrom
  have hr' : m.2.2.2.2.2.2.2.2.2.2.2.2.1.length ≤ maxLen := by change _ ∧ _ ∧ m.2.2.2.2.2.2.2.2.2.2.2.2.1.length ≤ 4096 at hr; unfold maxLen; omega
  have ho : m.2.2.2.2.2.2.2.2.2.2.2.2.2.2.2.2.2.2.2.2.2.1.length ≤ 100 := h.out.2
  have q := F32_eq (k + 600 + 40) m.1 m.2.1 m.2.2.1 m.2.2.2.1 m.2.2.2.2.1 m.2.2.2.2.2.1 m.2.2.2.2.2.2.1 m.2.2.2.2.2.2.2.1 m.2.2.2.2.2.2.2.2.1 m.2.2.2.2.2.2.2.2.2.1 m.2.2.2.2.2.2.2.2.2.2.1 m.2.2.2.2.2.2.2.2.2.2.2.1 m.2.2.2.2.2.2.2.2.2.2.2.2.1 m.2.2.2.2.2.2.2.2.2.2.2.2.2.1 m.2.2.2.2.2.2.2.2.2.2.2.2.2.2.1 m.2.2.2.2.2.2.2.2.2.2.2.2.2.2.2.1 m.2.2.2.2.2.2.2.2.2.2.2.2.2.2.2.2.1 m.2.2.2.2.2.2.2.2.2.2.2.2.2.2.2.2.2.1 m.2.2.2.2.2.2.2.2.2.2.2.2.2.2.2.2.2.2.1 m.2.2.2.2.2.2.2.2.2.2.2.2.2.2.2.2.2.2.2.1 m.2.2.2.2.2.2.2.2.2.2.2.2.2.2.2.2.2.2.2.2.1 m.2.2.2.2.2.2.2.2.2.2.2.2.2.2.2.2.2.2.2.2.2.1 m.2.2.2.2.2.2.2.2.2.2.2.2.2.2.2.2.2.2.2.2.2.2 hr' (by unfold maxLen; omega) (by omega)
  exact q.trans (congrArg some (WInv.mok (q := m.w.2.2.2.2.2.2.2.2.2.2.2.2.2.2.2.2.2.2.2.2.2.2.2) h))
end Go.U.Tryz
namespace Go.U.Tryz
open Go Go.U
set_option linter.unusedVariables false
set_option linter.unusedSimpArgs false
set_option maxRecDepth 20000
variable {qq : List UInt8 × Nat × Option Int} {R0 : List UInt8} {n0 : Nat}
def MSm (m : MT) : Prop := m.2.2.2.2.2.2.2.2.2.2.2.2.1.length ≤ maxLen ∧ m.2.2.2.2.2.2.2.2.2.2.2.2.2.2.2.2.2.2.2.2.2.1.length ≤ 100
theorem WInv.sm {m : MT} (h : WInv qq m.w) : MSm m := ⟨by have := h.cart.hrom; change _ ∧ _ ∧ m.2.2.2.2.2.2.2.2.2.2.2.2.1.length ≤ 4096 at this; unfold maxLen; omega, h.out.2⟩
def ROut (r : Int × Int × Int × Int × Int × Int × Int × Int × Int × Int × Bool × Bool × List UInt8 × Int × Int × List UInt8 × Int × Bool × Int × List UInt8 × List UInt8 × List Int × Int × Int × Int) : Prop := (r.2.2.2.2.2.2.2.2.2.2.2.2.2.2.2.2.2.2.2.2.2.2.2.1 = 3 ∧ MSm (r.1, r.2.1, r.2.2.1, r.2.2.2.1, r.2.2.2.2.1, r.2.2.2.2.2.1, r.2.2.2.2.2.2.1, r.2.2.2.2.2.2.2.1, r.2.2.2.2.2.2.2.2.1, r.2.2.2.2.2.2.2.2.2.1, r.2.2.2.2.2.2.2.2.2.2.1, r.2.2.2.2.2.2.2.2.2.2.2.1, r.2.2.2.2.2.2.2.2.2.2.2.2.1, r.2.2.2.2.2.2.2.2.2.2.2.2.2.1, r.2.2.2.2.2.2.2.2.2.2.2.2.2.2.1, r.2.2.2.2.2.2.2.2.2.2.2.2.2.2.2.1, r.2.2.2.2.2.2.2.2.2.2.2.2.2.2.2.2.1, r.2.2.2.2.2.2.2.2.2.2.2.2.2.2.2.2.2.1, r.2.2.2.2.2.2.2.2.2.2.2.2.2.2.2.2.2.2.1, r.2.2.2.2.2.2.2.2.2.2.2.2.2.2.2.2.2.2.2.1, r.2.2.2.2.2.2.2.2.2.2.2.2.2.2.2.2.2.2.2.2.1, r.2.2.2.2.2.2.2.2.2.2.2.2.2.2.2.2.2.2.2.2.2.1, r.2.2.2.2.2.2.2.2.2.2.2.2.2.2.2.2.2.2.2.2.2.2.1)) ∨ (∃ qq, WInv qq (r.1, r.2.1, r.2.2.1, r.2.2.2.1, r.2.2.2.2.1, r.2.2.2.2.2.1, r.2.2.2.2.2.2.1, r.2.2.2.2.2.2.2.1, r.2.2.2.2.2.2.2.2.1, r.2.2.2.2.2.2.2.2.2.1, r.2.2.2.2.2.2.2.2.2.2.1, r.2.2.2.2.2.2.2.2.2.2.2.1, r.2.2.2.2.2.2.2.2.2.2.2.2.1, r.2.2.2.2.2.2.2.2.2.2.2.2.2.1, r.2.2.2.2.2.2.2.2.2.2.2.2.2.2.1, r.2.2.2.2.2.2.2.2.2.2.2.2.2.2.2.1, r.2.2.2.2.2.2.2.2.2.2.2.2.2.2.2.2.1, r.2.2.2.2.2.2.2.2.2.2.2.2.2.2.2.2.2.1, r.2.2.2.2.2.2.2.2.2.2.2.2.2.2.2.2.2.2.1, r.2.2.2.2.2.2.2.2.2.2.2.2.2.2.2.2.2.2.2.1, r.2.2.2.2.2.2.2.2.2.2.2.2.2.2.2.2.2.2.2.2.1, r.2.2.2.2.2.2.2.2.2.2.2.2.2.2.2.2.2.2.2.2.2.1, r.2.2.2.2.2.2.2.2.2.2.2.2.2.2.2.2.2.2.2.2.2.2.1, false) ∧ 0 ≤ r.2.2.2.2.2.2.2.2.2.2.2.2.2.2.2.2.2.2.2.2.2.2.2.1 ∧ r.2.2.2.2.2.2.2.2.2.2.2.2.2.2.2.2.2.2.2.2.2.2.2.1 ≤ 4)
theorem F35_t (k : Nat) (m : MT) (n : Int) (hm : MSm m) : T (F35 (k + 600) (m.1, m.2.1, m.2.2.1, m.2.2.2.1, m.2.2.2.2.1, m.2.2.2.2.2.1, m.2.2.2.2.2.2.1, m.2.2.2.2.2.2.2.1, m.2.2.2.2.2.2.2.2.1, m.2.2.2.2.2.2.2.2.2.1, m.2.2.2.2.2.2.2.2.2.2.1, m.2.2.2.2.2.2.2.2.2.2.2.1, m.2.2.2.2.2.2.2.2.2.2.2.2.1, m.2.2.2.2.2.2.2.2.2.2.2.2.2.1, m.2.2.2.2.2.2.2.2.2.2.2.2.2.2.1, m.2.2.2.2.2.2.2.2.2.2.2.2.2.2.2.1, m.2.2.2.2.2.2.2.2.2.2.2.2.2.2.2.2.1, m.2.2.2.2.2.2.2.2.2.2.2.2.2.2.2.2.2.1, m.2.2.2.2.2.2.2.2.2.2.2.2.2.2.2.2.2.2.1, m.2.2.2.2.2.2.2.2.2.2.2.2.2.2.2.2.2.2.2.1, m.2.2.2.2.2.2.2.2.2.2.2.2.2.2.2.2.2.2.2.2.1, m.2.2.2.2.2.2.2.2.2.2.2.2.2.2.2.2.2.2.2.2.2.1, m.2.2.2.2.2.2.2.2.2.2.2.2.2.2.2.2.2.2.2.2.2.2, n)) ROut := by
  unfold F35
  refine T.bind (S := fun v => (∃ a, v = .inl a ∧ ROut a) ∨ (v = .inr (n, 0, 0, 0, 0, 0, 0, 0, 0, 0, 0, false, false, [], 0, 0, [], 0, false, 0, [], [], [], 0, m) ∧ WInv (m.2.2.2.2.2.2.2.2.2.2.2.2.1, m.2.2.2.2.2.2.2.2.2.2.2.2.2.2.2.2.2.2.2.2.2.1.length, none) m.w ∧ 0 ≤ n ∧ n ≤ 500)) ?_ ?_
  · refine T.bind (S := fun v => ∃ b, v = (n, b, 0, 0, 0, 0, 0, 0, 0, 0, 0, 0, false, false, [], 0, 0, [], 0, false, 0, [], [], [], 0, m) ∧ (b = false → WInv (m.2.2.2.2.2.2.2.2.2.2.2.2.1, m.2.2.2.2.2.2.2.2.2.2.2.2.2.2.2.2.2.2.2.2.2.1.length, none) m.w ∧ 0 ≤ n ∧ n ≤ 500)) ?_ ?_
    · have e8 : F33 (k + 600) (m.1, m.2.1, m.2.2.1, m.2.2.2.1, m.2.2.2.2.1, m.2.2.2.2.2.1, m.2.2.2.2.2.2.1, m.2.2.2.2.2.2.2.1, m.2.2.2.2.2.2.2.2.1, m.2.2.2.2.2.2.2.2.2.1, m.2.2.2.2.2.2.2.2.2.2.1, m.2.2.2.2.2.2.2.2.2.2.2.1, m.2.2.2.2.2.2.2.2.2.2.2.2.1, m.2.2.2.2.2.2.2.2.2.2.2.2.2.1, m.2.2.2.2.2.2.2.2.2.2.2.2.2.2.1, m.2.2.2.2.2.2.2.2.2.2.2.2.2.2.2.1, m.2.2.2.2.2.2.2.2.2.2.2.2.2.2.2.2.1, m.2.2.2.2.2.2.2.2.2.2.2.2.2.2.2.2.2.1, m.2.2.2.2.2.2.2.2.2.2.2.2.2.2.2.2.2.2.1, m.2.2.2.2.2.2.2.2.2.2.2.2.2.2.2.2.2.2.2.1, m.2.2.2.2.2.2.2.2.2.2.2.2.2.2.2.2.2.2.2.2.1, m.2.2.2.2.2.2.2.2.2.2.2.2.2.2.2.2.2.2.2.2.2.1, m.2.2.2.2.2.2.2.2.2.2.2.2.2.2.2.2.2.2.2.2.2.2) = _ := F33_eq (k + 600) m.1 m.2.1 m.2.2.1 m.2.2.2.1 m.2.2.2.2.1 m.2.2.2.2.2.1 m.2.2.2.2.2.2.1 m.2.2.2.2.2.2.2.1 m.2.2.2.2.2.2.2.2.1 m.2.2.2.2.2.2.2.2.2.1 m.2.2.2.2.2.2.2.2.2.2.1 m.2.2.2.2.2.2.2.2.2.2.2.1 m.2.2.2.2.2.2.2.2.2.2.2.2.1 m.2.2.2.2.2.2.2.2.2.2.2.2.2.1 m.2.2.2.2.2.2.2.2.2.2.2.2.2.2.1 m.2.2.2.2.2.2.2.2.2.2.2.2.2.2.2.1 m.2.2.2.2.2.2.2.2.2.2.2.2.2.2.2.2.1 m.2.2.2.2.2.2.2.2.2.2.2.2.2.2.2.2.2.1 m.2.2.2.2.2.2.2.2.2.2.2.2.2.2.2.2.2.2.1 m.2.2.2.2.2.2.2.2.2.2.2.2.2.2.2.2.2.2.2.1 m.2.2.2.2.2.2.2.2.2.2.2.2.2.2.2.2.2.2.2.2.1 m.2.2.2.2.2.2.2.2.2.2.2.2.2.2.2.2.2.2.2.2.2.1 m.2.2.2.2.2.2.2.2.2.2.2.2.2.2.2.2.2.2.2.2.2.2 hm.1 (by have := hm.2; unfold maxLen; omega) (by have := hm.2; omega)
      refine T.eq e8 ?_
      refine T.br (fun _ => T.ret ⟨true, rfl, fun e => by cases e⟩) fun g => ?_
      have hok : mOk m.1 m.2.1 m.2.2.1 m.2.2.2.1 m.2.2.2.2.1 m.2.2.2.2.2.1 m.2.2.2.2.2.2.1 m.2.2.2.2.2.2.2.1 m.2.2.2.2.2.2.2.2.1 m.2.2.2.2.2.2.2.2.2.1 m.2.2.2.2.2.2.2.2.2.2.1 m.2.2.2.2.2.2.2.2.2.2.2.1 m.2.2.2.2.2.2.2.2.2.2.2.2.1 m.2.2.2.2.2.2.2.2.2.2.2.2.2.1 m.2.2.2.2.2.2.2.2.2.2.2.2.2.2.1 m.2.2.2.2.2.2.2.2.2.2.2.2.2.2.2.1 m.2.2.2.2.2.2.2.2.2.2.2.2.2.2.2.2.1 m.2.2.2.2.2.2.2.2.2.2.2.2.2.2.2.2.2.1 m.2.2.2.2.2.2.2.2.2.2.2.2.2.2.2.2.2.2.1 m.2.2.2.2.2.2.2.2.2.2.2.2.2.2.2.2.2.2.2.1 m.2.2.2.2.2.2.2.2.2.2.2.2.2.2.2.2.2.2.2.2.1 m.2.2.2.2.2.2.2.2.2.2.2.2.2.2.2.2.2.2.2.2.2.1 m.2.2.2.2.2.2.2.2.2.2.2.2.2.2.2.2.2.2.2.2.2.2 = true := by simpa using g
      refine F87_t _ _ _ _ (fun g2 => T.ret ⟨false, rfl, fun _ => ⟨WInv.of hok false, g2⟩⟩) fun g2 => T.ret ⟨true, rfl, fun e => by cases e⟩
    · rintro _ ⟨b, rfl, hb⟩
      refine T.br (fun _ => T.ret (.inl ⟨_, rfl, .inl ⟨rfl, Nat.zero_le _, Nat.zero_le _⟩⟩)) fun g => T.ret (.inr ⟨rfl, hb g⟩)
  · rintro _ (⟨a, rfl, ha⟩ | ⟨rfl, hw, hn⟩)
    · exact T.csl (T.ret ha)
    refine T.csr ?_
    have e40 := F89_eq (k + 600) m hw.out.2
    refine T.eq e40 ?_
    obtain ⟨b, h1, h2⟩ := iter_inv (f := F35_b0 (k + 600)) (fun a => a.1 = n ∧ 0 ≤ a.2.1 ∧ a.2.1 ≤ n ∧ WInv (m.2.2.2.2.2.2.2.2.2.2.2.2.1, m.2.2.2.2.2.2.2.2.2.2.2.2.2.2.2.2.2.2.2.2.2.1.length, none) (a.2.2.1, a.2.2.2.1, a.2.2.2.2.1, a.2.2.2.2.2.1, a.2.2.2.2.2.2.1, a.2.2.2.2.2.2.2.1, a.2.2.2.2.2.2.2.2.1, a.2.2.2.2.2.2.2.2.2.1, a.2.2.2.2.2.2.2.2.2.2.1, a.2.2.2.2.2.2.2.2.2.2.2.1, a.2.2.2.2.2.2.2.2.2.2.2.2.1, a.2.2.2.2.2.2.2.2.2.2.2.2.2.1, a.2.2.2.2.2.2.2.2.2.2.2.2.2.2.1, a.2.2.2.2.2.2.2.2.2.2.2.2.2.2.2.1, a.2.2.2.2.2.2.2.2.2.2.2.2.2.2.2.2.1, a.2.2.2.2.2.2.2.2.2.2.2.2.2.2.2.2.2.1, a.2.2.2.2.2.2.2.2.2.2.2.2.2.2.2.2.2.2.1, a.2.2.2.2.2.2.2.2.2.2.2.2.2.2.2.2.2.2.2.1, a.2.2.2.2.2.2.2.2.2.2.2.2.2.2.2.2.2.2.2.2.1, a.2.2.2.2.2.2.2.2.2.2.2.2.2.2.2.2.2.2.2.2.2.1, a.2.2.2.2.2.2.2.2.2.2.2.2.2.2.2.2.2.2.2.2.2.2.1, a.2.2.2.2.2.2.2.2.2.2.2.2.2.2.2.2.2.2.2.2.2.2.2.1, a.2.2.2.2.2.2.2.2.2.2.2.2.2.2.2.2.2.2.2.2.2.2.2.2.1, false)) (fun a => (n - a.2.1).toNat) (fun b => match b with | .inl a => ROut a | .inr a => WInv (m.2.2.2.2.2.2.2.2.2.2.2.2.1, m.2.2.2.2.2.2.2.2.2.2.2.2.2.2.2.2.2.2.2.2.2.1.length, none) (a.2.1, a.2.2.1, a.2.2.2.1, a.2.2.2.2.1, a.2.2.2.2.2.1, a.2.2.2.2.2.2.1, a.2.2.2.2.2.2.2.1, a.2.2.2.2.2.2.2.2.1, a.2.2.2.2.2.2.2.2.2.1, a.2.2.2.2.2.2.2.2.2.2.1, a.2.2.2.2.2.2.2.2.2.2.2.1, a.2.2.2.2.2.2.2.2.2.2.2.2.1, a.2.2.2.2.2.2.2.2.2.2.2.2.2.1, a.2.2.2.2.2.2.2.2.2.2.2.2.2.2.1, a.2.2.2.2.2.2.2.2.2.2.2.2.2.2.2.1, a.2.2.2.2.2.2.2.2.2.2.2.2.2.2.2.2.1, a.2.2.2.2.2.2.2.2.2.2.2.2.2.2.2.2.2.1, a.2.2.2.2.2.2.2.2.2.2.2.2.2.2.2.2.2.2.1, a.2.2.2.2.2.2.2.2.2.2.2.2.2.2.2.2.2.2.2.1, a.2.2.2.2.2.2.2.2.2.2.2.2.2.2.2.2.2.2.2.2.1, a.2.2.2.2.2.2.2.2.2.2.2.2.2.2.2.2.2.2.2.2.2.1, a.2.2.2.2.2.2.2.2.2.2.2.2.2.2.2.2.2.2.2.2.2.2.1, a.2.2.2.2.2.2.2.2.2.2.2.2.2.2.2.2.2.2.2.2.2.2.2.1, false)) (fun a ⟨g0, g1, g2, g3⟩ => by
      obtain ⟨r, e, hr⟩ := F62_t (k + 560) (a.2.2.1, a.2.2.2.1, a.2.2.2.2.1, a.2.2.2.2.2.1, a.2.2.2.2.2.2.1, a.2.2.2.2.2.2.2.1, a.2.2.2.2.2.2.2.2.1, a.2.2.2.2.2.2.2.2.2.1, a.2.2.2.2.2.2.2.2.2.2.1, a.2.2.2.2.2.2.2.2.2.2.2.1, a.2.2.2.2.2.2.2.2.2.2.2.2.1, a.2.2.2.2.2.2.2.2.2.2.2.2.2.1, a.2.2.2.2.2.2.2.2.2.2.2.2.2.2.1, a.2.2.2.2.2.2.2.2.2.2.2.2.2.2.2.1, a.2.2.2.2.2.2.2.2.2.2.2.2.2.2.2.2.1, a.2.2.2.2.2.2.2.2.2.2.2.2.2.2.2.2.2.1, a.2.2.2.2.2.2.2.2.2.2.2.2.2.2.2.2.2.2.1, a.2.2.2.2.2.2.2.2.2.2.2.2.2.2.2.2.2.2.2.1, a.2.2.2.2.2.2.2.2.2.2.2.2.2.2.2.2.2.2.2.2.1, a.2.2.2.2.2.2.2.2.2.2.2.2.2.2.2.2.2.2.2.2.2.1, a.2.2.2.2.2.2.2.2.2.2.2.2.2.2.2.2.2.2.2.2.2.2.1, a.2.2.2.2.2.2.2.2.2.2.2.2.2.2.2.2.2.2.2.2.2.2.2.1, a.2.2.2.2.2.2.2.2.2.2.2.2.2.2.2.2.2.2.2.2.2.2.2.2.1) g3
      have e' : F62 (k + 600) (a.2.2.1, a.2.2.2.1, a.2.2.2.2.1, a.2.2.2.2.2.1, a.2.2.2.2.2.2.1, a.2.2.2.2.2.2.2.1, a.2.2.2.2.2.2.2.2.1, a.2.2.2.2.2.2.2.2.2.1, a.2.2.2.2.2.2.2.2.2.2.1, a.2.2.2.2.2.2.2.2.2.2.2.1, a.2.2.2.2.2.2.2.2.2.2.2.2.1, a.2.2.2.2.2.2.2.2.2.2.2.2.2.1, a.2.2.2.2.2.2.2.2.2.2.2.2.2.2.1, a.2.2.2.2.2.2.2.2.2.2.2.2.2.2.2.1, a.2.2.2.2.2.2.2.2.2.2.2.2.2.2.2.2.1, a.2.2.2.2.2.2.2.2.2.2.2.2.2.2.2.2.2.1, a.2.2.2.2.2.2.2.2.2.2.2.2.2.2.2.2.2.2.1, a.2.2.2.2.2.2.2.2.2.2.2.2.2.2.2.2.2.2.2.1, a.2.2.2.2.2.2.2.2.2.2.2.2.2.2.2.2.2.2.2.2.1, a.2.2.2.2.2.2.2.2.2.2.2.2.2.2.2.2.2.2.2.2.2.1, a.2.2.2.2.2.2.2.2.2.2.2.2.2.2.2.2.2.2.2.2.2.2.1, a.2.2.2.2.2.2.2.2.2.2.2.2.2.2.2.2.2.2.2.2.2.2.2.1, a.2.2.2.2.2.2.2.2.2.2.2.2.2.2.2.2.2.2.2.2.2.2.2.2.1) = some r := e
      by_cases g : a.2.1 < a.1
      · by_cases gc : r.2.2.2.2.2.2.2.2.2.2.2.2.2.2.2.2.2.2.2.2.2.2.2 = 0
        · refine .inl ⟨(a.1, a.2.1 + 1, r.1, r.2.1, r.2.2.1, r.2.2.2.1, r.2.2.2.2.1, r.2.2.2.2.2.1, r.2.2.2.2.2.2.1, r.2.2.2.2.2.2.2.1, r.2.2.2.2.2.2.2.2.1, r.2.2.2.2.2.2.2.2.2.1, r.2.2.2.2.2.2.2.2.2.2.1, r.2.2.2.2.2.2.2.2.2.2.2.1, r.2.2.2.2.2.2.2.2.2.2.2.2.1, r.2.2.2.2.2.2.2.2.2.2.2.2.2.1, r.2.2.2.2.2.2.2.2.2.2.2.2.2.2.1, r.2.2.2.2.2.2.2.2.2.2.2.2.2.2.2.1, r.2.2.2.2.2.2.2.2.2.2.2.2.2.2.2.2.1, r.2.2.2.2.2.2.2.2.2.2.2.2.2.2.2.2.2.1, r.2.2.2.2.2.2.2.2.2.2.2.2.2.2.2.2.2.2.1, r.2.2.2.2.2.2.2.2.2.2.2.2.2.2.2.2.2.2.2.1, r.2.2.2.2.2.2.2.2.2.2.2.2.2.2.2.2.2.2.2.2.1, r.2.2.2.2.2.2.2.2.2.2.2.2.2.2.2.2.2.2.2.2.2.1, r.2.2.2.2.2.2.2.2.2.2.2.2.2.2.2.2.2.2.2.2.2.2.1, a.2.2.2.2.2.2.2.2.2.2.2.2.2.2.2.2.2.2.2.2.2.2.2.2.2), ?_, ⟨g0, by dsimp only; omega, by dsimp only; omega, hr.1⟩, by dsimp only; omega⟩
          have e1 : w64 (a.2.1 + 1) = a.2.1 + 1 := w64_id (by omega) (by omega)
          simp only [F35_b0, branch_ite, if_pos g, e', bindO_s, branch_not, if_pos gc, e1]
        · refine .inr ⟨.inl (a.2.2.1, a.2.2.2.1, a.2.2.2.2.1, a.2.2.2.2.2.1, a.2.2.2.2.2.2.1, a.2.2.2.2.2.2.2.1, a.2.2.2.2.2.2.2.2.1, a.2.2.2.2.2.2.2.2.2.1, a.2.2.2.2.2.2.2.2.2.2.1, a.2.2.2.2.2.2.2.2.2.2.2.1, a.2.2.2.2.2.2.2.2.2.2.2.2.1, a.2.2.2.2.2.2.2.2.2.2.2.2.2.1, a.2.2.2.2.2.2.2.2.2.2.2.2.2.2.1, a.2.2.2.2.2.2.2.2.2.2.2.2.2.2.2.1, a.2.2.2.2.2.2.2.2.2.2.2.2.2.2.2.2.1, a.2.2.2.2.2.2.2.2.2.2.2.2.2.2.2.2.2.1, a.2.2.2.2.2.2.2.2.2.2.2.2.2.2.2.2.2.2.1, a.2.2.2.2.2.2.2.2.2.2.2.2.2.2.2.2.2.2.2.1, a.2.2.2.2.2.2.2.2.2.2.2.2.2.2.2.2.2.2.2.2.1, a.2.2.2.2.2.2.2.2.2.2.2.2.2.2.2.2.2.2.2.2.2.1, a.2.2.2.2.2.2.2.2.2.2.2.2.2.2.2.2.2.2.2.2.2.2.1, a.2.2.2.2.2.2.2.2.2.2.2.2.2.2.2.2.2.2.2.2.2.2.2.1, a.2.2.2.2.2.2.2.2.2.2.2.2.2.2.2.2.2.2.2.2.2.2.2.2.1, r.2.2.2.2.2.2.2.2.2.2.2.2.2.2.2.2.2.2.2.2.2.2.2, a.2.1), ?_, .inr ⟨_, g3, hr.2⟩⟩
          simp only [F35_b0, branch_ite, if_pos g, e', bindO_s, branch_not, if_neg gc]
      · exact .inr ⟨.inr (a.1, a.2.2), by simp only [F35_b0, branch_ite, if_neg g], g3⟩) (k + 600) (n, 0, m.1, m.2.1, m.2.2.1, m.2.2.2.1, m.2.2.2.2.1, m.2.2.2.2.2.1, m.2.2.2.2.2.2.1, m.2.2.2.2.2.2.2.1, m.2.2.2.2.2.2.2.2.1, m.2.2.2.2.2.2.2.2.2.1, m.2.2.2.2.2.2.2.2.2.2.1, m.2.2.2.2.2.2.2.2.2.2.2.1, m.2.2.2.2.2.2.2.2.2.2.2.2.1, m.2.2.2.2.2.2.2.2.2.2.2.2.2.1, m.2.2.2.2.2.2.2.2.2.2.2.2.2.2.1, m.2.2.2.2.2.2.2.2.2.2.2.2.2.2.2.1, m.2.2.2.2.2.2.2.2.2.2.2.2.2.2.2.2.1, m.2.2.2.2.2.2.2.2.2.2.2.2.2.2.2.2.2.1, m.2.2.2.2.2.2.2.2.2.2.2.2.2.2.2.2.2.2.1, m.2.2.2.2.2.2.2.2.2.2.2.2.2.2.2.2.2.2.2.1, m.2.2.2.2.2.2.2.2.2.2.2.2.2.2.2.2.2.2.2.2.1, m.2.2.2.2.2.2.2.2.2.2.2.2.2.2.2.2.2.2.2.2.2.1, m.2.2.2.2.2.2.2.2.2.2.2.2.2.2.2.2.2.2.2.2.2.2, 0, 0, 0, 0, 0, 0, 0, 0, 0, 0, false, false, [], 0, 0, [], 0, false, 0, [], [], [], 0) ⟨rfl, Int.le_refl 0, hn.1, hw⟩ (by dsimp only; omega)
    refine T.eq h1 ?_
    cases b with
    | inl a => exact T.csl (T.ret h2)
    | inr a => exact T.csr (T.ret (.inr ⟨_, h2, by dsimp only; omega, by dsimp only; omega⟩))
end Go.U.Tryz
namespace Go.U.Tryz
open Go Go.U
set_option linter.unusedVariables false
set_option linter.unusedSimpArgs false
set_option maxRecDepth 20000
variable {qq : List UInt8 × Nat × Option Int} {R0 : List UInt8} {n0 : Nat}
set_option maxHeartbeats 1000000
def RdOk (r : List Int × Int) : Prop := (∀ v ∈ r.1, 0 ≤ v ∧ v ≤ 255) ∧ r.1.length ≤ 1048576 ∧ 0 ≤ r.2 ∧ r.2 ≤ 1048576
theorem F128_t (K : Nat) (r : List Int × Int) (h : RdOk r) : T (F128 K r) fun v => (0 ≤ v.1 ∧ v.1 ≤ 255) ∧ RdOk v.2 := by
  obtain ⟨hb, hl, h0, h1⟩ := h
  unfold F128
  refine T.br (fun _ => T.ret ⟨by dsimp only; omega, hb, hl, h0, h1⟩) fun g => ?_
  have g' := of_decide_eq_false g
  have e1 : w64 (r.2 + 1) = r.2 + 1 := w64_id (by omega) (by omega)
  have e2 : w64 (r.2 + 1 - 1) = r.2 := by rw [w64_id (by omega) (by omega)]; omega
  rw [e1, e2]
  refine T.nth h0 (by omega) fun v hv _ => T.ret ⟨?_, hb, hl, by dsimp only; omega, by dsimp only; omega⟩
  have := hb v hv
  dsimp only
  rw [w64_id (by omega) (by omega)]
  exact this
theorem F88_t (K : Nat) (n : Int) (r : List Int × Int) (h : RdOk r) (hn : 1 ≤ n) (hn' : n ≤ 65536) : T (F88 K (n, r)) fun v => (0 ≤ v.1 ∧ v.1 < n) ∧ RdOk v.2 := by
  unfold F88
  refine T.br (fun _ => T.ret ⟨by dsimp only; omega, h⟩) fun g => T.br (fun _ => ?_) fun _ => ?_
  · refine T.bind (F128_t K r h) fun v hv => T.guard (nd0 (by dsimp only; omega)) (T.ret ⟨⟨Int.tmod_nonneg _ hv.1.1, Int.tmod_lt_of_pos _ (by omega)⟩, hv.2⟩)
  · refine T.bind (F128_t K r h) fun v hv => T.bind (F128_t K _ hv.2) fun v2 hv2 => T.guard (nd0 (by dsimp only; omega)) (T.ret ⟨⟨Int.tmod_nonneg _ ?_, Int.tmod_lt_of_pos _ (by omega)⟩, hv2.2⟩)
    have a1 := hv.1
    have a2 := hv2.1
    (first | omega | ((simp (disch := omega) only [w64_id, w64u_id, Int.tmod_eq_emod_of_nonneg, Int.tdiv_eq_ediv_of_nonneg]); omega) | (simp (disch := omega) only [w64_id, w64u_id, Int.tmod_eq_emod_of_nonneg, Int.tdiv_eq_ediv_of_nonneg]) | (simp only [tm2, tm4, tm8, tm16, tm32, tm40, tm256, tm4096, tm65536, td2, td8, td16, td32, td64, td128, td256, w64_eq, decide_eq_true_eq, decide_eq_false_iff_not, not_and, Int.not_le, Int.not_lt] at *; omega))
theorem F108_t (K : Nat) (n : Int) (r : List Int × Int) (h : RdOk r) (hn : 1 ≤ n) (hn' : n ≤ 65536) : T (F108 K (n, r)) fun v => RdOk v.2 := by
  unfold F108
  exact T.bind (F88_t K n r h hn hn') fun v hv => T.ret hv.2
theorem F106_t (K : Nat) (r : List Int × Int) (h : RdOk r) : T (F106 K r) fun v => (0 ≤ v.1 ∧ v.1 ≤ 255) ∧ RdOk v.2 := by
  unfold F106
  refine T.bind (F108_t K 2 r h (by decide) (by decide)) fun v hv => T.br (fun _ => ?_) fun _ => ?_
  · refine T.bind (F88_t K 8 _ hv (by decide) (by decide)) fun v1 hv1 => T.guard (decide_eq_true hv1.1) (T.nthN (by have := hv1.1; simp; omega) fun x hx _ => T.ret ⟨?_, hv1.2⟩)
    simp only [List.mem_cons, List.not_mem_nil, or_false] at hx
    dsimp only
    omega
  · exact T.bind (F88_t K 256 _ hv (by decide) (by decide)) fun v1 hv1 => T.ret ⟨by have := hv1.1; omega, hv1.2⟩
theorem F208_t (K : Nat) (r : List Int × Int) (h : RdOk r) (hK : 8 < K) : T (F208 K r) fun v => RdOk v.2 := by
  obtain ⟨b, h1, h2⟩ := iter_inv (f := F208_b0 K) (fun a => 0 ≤ a.2.1 ∧ a.2.1 ≤ 8 ∧ RdOk a.2.2) (fun a => (8 - a.2.1).toNat) (fun b => RdOk b.2) (fun a ⟨g0, g1, g2⟩ => by
    by_cases g : a.2.1 < 8
    · obtain ⟨v, e, hv⟩ := F128_t K a.2.2 g2
      have e1 : w64 (a.2.1 + 1) = a.2.1 + 1 := w64_id (by omega) (by omega)
      refine .inl ⟨_, by simp only [F208_b0, branch_ite, if_pos g, e, bindO_s, e1] <;> rfl, ⟨by simp; omega, by simp; omega, hv.2⟩, by simp; omega⟩
    · exact .inr ⟨(a.1, a.2.2), by simp only [F208_b0, branch_ite, if_neg g] <;> rfl, g2⟩) K (0, 0, r) ⟨by simp, by simp, h⟩ (by simpa using hK)
  unfold F208
  exact T.eq h1 (T.ret h2)
theorem F153_t (K : Nat) (lo hi : Int) (r : List Int × Int) (h : RdOk r) (hK : 8 < K) (hlo : 0 ≤ lo) (hh : lo ≤ hi) (hi' : hi ≤ 65535) : T (F153 K (lo, hi, r)) fun v => RdOk v.2 := by
  unfold F153
  refine T.bind (F88_t K 8 r h (by decide) (by decide)) fun v hv => T.br (fun _ => T.ret hv.2) fun _ => T.br (fun _ => T.ret hv.2) fun _ => T.br (fun _ => T.ret hv.2) fun _ => ?_
  refine T.bind (F208_t K _ hv.2 hK) fun v2 hv2 => T.guard (nd0 ?_) (T.ret hv2)
  dsimp only
  have e3 : w64 (hi - lo) = hi - lo := w64_id (by omega) (by omega)
  have e4 : w64 (hi - lo + 1) = hi - lo + 1 := w64_id (by omega) (by omega)
  have e5 : w64u (hi - lo + 1) = hi - lo + 1 := w64u_id (by omega) (by omega)
  rw [e3, e4, e5]
  omega
theorem F109_t (K : Nat) (lo hi : Int) (r : List Int × Int) (h : RdOk r) (hK : 8 < K) (hlo : 0 ≤ lo) (hh : lo ≤ hi) (hi' : hi ≤ 65535) : T (F109 K (lo, hi, r)) fun v => RdOk v.2 := by
  unfold F109
  refine T.bind (F108_t K 24 r h (by decide) (by decide)) fun v hv => T.br (fun _ => ?_) fun _ => ?_
  · refine T.bind (F88_t K 4 _ hv (by decide) (by decide)) fun v1 hv1 => T.guard (decide_eq_true ⟨hv1.1.1, by have := hv1.1; simp; omega⟩) (T.nthN (by have := hv1.1; simp; omega) fun x hx _ => T.ret hv1.2)
  · exact T.bind (F153_t K lo hi _ hv hK hlo hh hi') fun v1 hv1 => T.ret hv1
def holeChk (k : Nat) (cb : Bool) (c : Nat) : Bool := match F141 (k + 40) ((c : Int), cb) with
  | some t => (F142 (k + 40) t).isSome
  | none => false
theorem holeAll (k : Nat) (cb : Bool) : (List.range 256).all (holeChk k cb) = true := by
  cases cb
  · kernel_rfl
  · kernel_rfl
theorem F141_t (k : Nat) (c : Int) (cb : Bool) (hc : 0 ≤ c ∧ c ≤ 255) : T (F141 (k + 40) (c, cb)) fun t => T (F142 (k + 40) t) fun _ => True := by
  obtain ⟨m, rfl⟩ : ∃ m : Nat, c = (m : Int) := ⟨c.toNat, by omega⟩
  have h := List.all_eq_true.1 (holeAll k cb) m (List.mem_range.2 (by omega))
  unfold holeChk at h
  split at h
  · rename_i t ht
    obtain ⟨x, hx⟩ := Option.isSome_iff_exists.1 h
    exact ⟨t, ht, x, hx, trivial⟩
  · cases h
theorem F207_t (k : Nat) (r : List Int × Int) (h : RdOk r) : T (F207 (k + 40) r) fun v => (0 ≤ v.1 ∧ v.1 ≤ 255) ∧ RdOk v.2.2.2 := by
  unfold F207
  refine T.bind (F88_t _ 256 r h (by decide) (by decide)) fun v hv => T.bind (F108_t _ 4 _ hv.2 (by decide) (by decide)) fun v1 hv1 => ?_
  have hc : 0 ≤ v.1 ∧ v.1 ≤ 255 := by have := hv.1; omega
  refine T.bind (F141_t k v.1 v1.1 hc) fun t ht => T.bind ht fun x _ => ?_
  refine T.bind (S := fun y => (0 ≤ y.1 ∧ y.1 ≤ 255) ∧ RdOk y.2.2.2.2.2.2) ?_ fun y hy => ?_
  · refine T.br (fun _ => T.bind (F88_t _ 65536 _ hv1 (by decide) (by decide)) fun z hz => T.ret ⟨hc, hz.2⟩) fun _ => ?_
    refine T.bind (S := fun y => (0 ≤ y.2.1 ∧ y.2.1 ≤ 255) ∧ RdOk y.2.2.2.2.2.2.2) ?_ fun y hy => ?_
    · exact T.br (fun _ => T.ret ⟨hc, hv1⟩) fun _ => T.ret ⟨hc, hv1⟩
    · exact T.br (fun _ => T.bind (F106_t _ _ hy.2) fun z hz => T.ret ⟨hy.1, hz.2⟩) fun _ => T.ret hy
  · refine T.bind (F108_t _ 40 _ hy.2 (by decide) (by decide)) fun z hz => T.br (fun _ => ?_) fun _ => T.ret ⟨hy.1, hz⟩
    exact T.bind (F109_t _ 0 255 _ hz (by omega) (by decide) (by decide) (by decide)) fun u hu => T.ret ⟨hy.1, hu⟩
theorem F140_t (k : Nat) (c : Int) (cb : Bool) (imm : Int) (hc : 0 ≤ c ∧ c ≤ 255) : T (F140 (k + 40) (c, cb, imm)) fun _ => True := by
  unfold F140
  refine T.bind (S := fun _ => True) ?_ fun n _ => T.br (fun _ => T.ret trivial) fun _ => ?_
  · unfold F175
    exact F87_t _ _ _ _ (fun _ => T.br nofun fun _ => T.bind (F196_t k c cb hc) fun n _ => T.ret trivial) fun g => absurd hc g
  refine T.bind (F141_t k c cb hc) fun t ht => T.bind ht fun x _ => T.br (fun _ => ?_) fun _ => ?_
  · exact F87_t _ _ _ _ (fun _ => T.ret trivial) fun _ => T.ret trivial
  · refine T.bindbr (fun _ => T.binds ?_) fun _ => T.binds ?_
    · exact T.br (fun _ => F87_t _ _ _ _ (fun _ => T.ret trivial) fun _ => T.ret trivial) fun _ => T.ret trivial
    · exact T.br (fun _ => F87_t _ _ _ _ (fun _ => T.ret trivial) fun _ => T.ret trivial) fun _ => T.ret trivial
theorem F151_t (k : Nat) (c : Int) (cb : Bool) (imm : Int) (hc : 0 ≤ c ∧ c ≤ 255) : T (F151 (k + 40) (c, cb, imm)) fun s => s.length ≤ 3 := by
  unfold F151
  refine T.bind (F140_t k c cb imm hc) fun b _ => T.br (fun _ => T.ret (by simp)) fun _ => T.br (fun _ => T.ret (by simp [toB_length])) fun _ => ?_
  refine T.bind (F196_t k c false hc) fun n _ => T.br (fun _ => T.ret (by simp [toB_length])) fun _ => T.br (fun _ => T.ret (by simp [toB_length])) fun _ => T.ret (by simp [toB_length])
theorem F152_t (k : Nat) (r : List Int × Int) (h : RdOk r) : T (F152 (k + 40) r) fun v => (0 ≤ v.1 ∧ v.1 ≤ 255) ∧ RdOk v.2.2.2 := by
  unfold F152
  refine T.bind (F207_t k r h) fun i hi => ?_
  refine T.bind (S := fun v => (∃ a, v = .inl a ∧ (0 ≤ a.1 ∧ a.1 ≤ 255) ∧ RdOk a.2.2.2) ∨ (∃ b, v = .inr b ∧ (0 ≤ b.1 ∧ b.1 ≤ 255) ∧ RdOk b.2.2.2.2.2.2)) ?_ ?_
  · refine T.bind (S := fun v => (0 ≤ v.2.1 ∧ v.2.1 ≤ 255) ∧ RdOk v.2.2.2.2.2.2.2) ?_ fun v hv => T.br (fun _ => T.ret (.inl ⟨_, rfl, hv⟩)) fun _ => T.ret (.inr ⟨_, rfl, hv⟩)
    exact T.br (fun _ => T.ret hi) fun _ => T.bind (F108_t _ 6 _ hi.2 (by decide) (by decide)) fun z hz => T.ret ⟨hi.1, hz⟩
  rintro _ (⟨a, rfl, ha⟩ | ⟨b, rfl, hb⟩)
  · exact T.csl (T.ret ha)
  refine T.csr (T.bind (F88_t _ 10 _ hb.2 (by decide) (by decide)) fun v hv => ?_)
  refine T.br (fun _ => T.bind (F106_t _ _ hv.2) fun z hz => T.ret ⟨by dsimp only; omega, hz.2⟩) fun _ => ?_
  refine T.br (fun _ => ?_) fun _ => ?_
  · refine T.bind (F88_t _ 5 _ hv.2 (by decide) (by decide)) fun v1 hv1 => T.guard (decide_eq_true hv1.1) (T.nthN (by have := hv1.1; simp; omega) fun x hx _ => T.ret ⟨by dsimp only; omega, hv1.2⟩)
  refine T.br (fun _ => T.ret ⟨by dsimp only; omega, hv.2⟩) fun _ => T.br (fun _ => T.ret ⟨by dsimp only; omega, hv.2⟩) fun _ => ?_
  refine T.br (fun _ => ?_) fun _ => ?_
  · refine T.bind (F88_t _ 6 _ hv.2 (by decide) (by decide)) fun v1 hv1 => T.guard (decide_eq_true hv1.1) (T.nthN (by have := hv1.1; simp; omega) fun x hx _ => T.ret ⟨by dsimp only; omega, hv1.2⟩)
  refine T.bind (S := fun y => (0 ≤ y.2.1 ∧ y.2.1 ≤ 255) ∧ RdOk y.2.2.2.2.2.2.2) ?_ fun y hy => T.br (fun _ => T.ret hy) fun _ => T.ret hy
  exact T.br (fun _ => T.ret ⟨hb.1, hv.2⟩) fun _ => T.ret ⟨hb.1, hv.2⟩
theorem F105_b1_t (k : Nat) (n kk i0 : Int) (b0 : List Int) (rd : List Int × Int) (h : RdOk rd) (hk : 0 ≤ kk ∧ kk < n ∧ n ≤ 4) (hi : 0 ≤ i0 ∧ i0 ≤ 16) (hb : (b0.length : Int) = n * 256) :
    T (iter (k + 40) (F105_b1 (k + 40)) (n, kk, kk * 256, i0, b0, rd)) fun r => r.1 = n ∧ r.2.1 = kk ∧ (r.2.2.1.length : Int) = n * 256 ∧ RdOk r.2.2.2 := by
  obtain ⟨b, h1, h2⟩ := iter_inv (f := F105_b1 (k + 40)) (fun a => a.1 = n ∧ a.2.1 = kk ∧ 0 ≤ a.2.2.2.1 ∧ a.2.2.2.1 ≤ i0 ∧ kk * 256 ≤ a.2.2.1 ∧ a.2.2.1 + 3 * a.2.2.2.1 ≤ kk * 256 + 3 * i0 ∧ (a.2.2.2.2.1.length : Int) = n * 256 ∧ RdOk a.2.2.2.2.2) (fun a => a.2.2.2.1.toNat) (fun r => r.1 = n ∧ r.2.1 = kk ∧ (r.2.2.1.length : Int) = n * 256 ∧ RdOk r.2.2.2) (fun a ⟨g1, g2, g3, g4, g5, g6, g7, g8⟩ => by
    obtain ⟨n', kk', at_, i, bb, rd'⟩ := a
    dsimp only at g1 g2 g3 g4 g5 g6 g7 g8
    subst g1 g2
    by_cases g : 0 < i
    · obtain ⟨v, e, hv⟩ := F152_t k rd' g8
      obtain ⟨s, e2, hs⟩ := F151_t k v.1 v.2.1 v.2.2.1 hv.1
      have q1 : w64 (kk' + 1) = kk' + 1 := w64_id (by omega) (by omega)
      have q2 : w64 ((kk' + 1) * 256) = (kk' + 1) * 256 := w64_id (by omega) (by omega)
      have q3 : w64 (at_ + (s.length : Int)) = at_ + (s.length : Int) := w64_id (by omega) (by omega)
      have q4 : w64 (i - 1) = i - 1 := w64_id (by omega) (by omega)
      have q5 : 0 ≤ at_ ∧ at_ ≤ (kk' + 1) * 256 ∧ (kk' + 1) * 256 ≤ (bb.length : Int) := ⟨by omega, by omega, by omega⟩
      have q6 : at_.toNat + (((kk' + 1) * 256).toNat - at_.toNat) ≤ bb.length := by omega
      refine .inl ⟨_, by simp only [F105_b1, branch_ite, if_pos g, e, e2, bindO_s, q1, q2, q3, q4, guard_dec q5, guard_dec q6] <;> rfl, ⟨rfl, rfl, by dsimp only; omega, by dsimp only; omega, by dsimp only; omega, by dsimp only; omega, ?_, hv.2⟩, by dsimp only; omega⟩
      dsimp only
      rw [List.length_append, List.length_append, List.length_take, List.length_take, List.length_drop, ofB_length]
      omega
    · exact .inr ⟨(n', kk', bb, rd'), by simp only [F105_b1, branch_ite, if_neg g], rfl, rfl, g7, g8⟩) (k + 40) (n, kk, kk * 256, i0, b0, rd) ⟨rfl, rfl, hi.1, Int.le_refl _, Int.le_refl _, Int.le_refl _, hb, h⟩ (by dsimp only; omega)
  exact ⟨b, h1, h2⟩
theorem F105_t (k : Nat) (r : List Int × Int) (h : RdOk r) : T (F105 (k + 40) r) fun v => v.1.length ≤ 1024 ∧ RdOk v.2 := by
  unfold F105
  refine T.bind (F88_t _ 3 r h (by decide) (by decide)) fun v hv => ?_
  have hv1 := hv.1
  have q1 : w64 (2 + v.1) = 2 + v.1 := w64_id (by omega) (by omega)
  have q2 : w64 ((2 + v.1) * 256) = (2 + v.1) * 256 := w64_id (by omega) (by omega)
  rw [q1, q2]
  refine T.guard (decide_eq_true ⟨rfl, by omega, by omega⟩) ?_
  generalize hn : 2 + v.1 = n
  obtain ⟨b, h1, h2⟩ := iter_inv (f := F105_b0 (k + 40)) (fun a => a.1 = n ∧ 0 ≤ a.2.1 ∧ a.2.1 ≤ n ∧ (a.2.2.1.length : Int) = n * 256 ∧ RdOk a.2.2.2) (fun a => (n - a.2.1).toNat) (fun r => (r.1.length : Int) = n * 256 ∧ RdOk r.2) (fun a ⟨g1, g2, g3, g4, g5⟩ => by
    obtain ⟨n', kk, bb, rd⟩ := a
    dsimp only at g1 g2 g3 g4 g5
    subst g1
    by_cases g : kk < n'
    · obtain ⟨u, e, hu⟩ := F88_t (k + 40) 16 rd g5 (by decide) (by decide)
      have hu1 := hu.1
      have q3 : w64 (kk * 256) = kk * 256 := w64_id (by omega) (by omega)
      have q4 : w64 (1 + u.1) = 1 + u.1 := w64_id (by omega) (by omega)
      obtain ⟨z, e2, z1, z2, z3, z4⟩ := F105_b1_t k n' kk (1 + u.1) bb u.2 hu.2 ⟨g2, g, by omega⟩ (by omega) g4
      have q5 : w64 (z.2.1 + 1) = kk + 1 := by rw [z2]; exact w64_id (by omega) (by omega)
      exact .inl ⟨(z.1, w64 (z.2.1 + 1), z.2.2), by simp only [F105_b0, branch_ite, if_pos g, e, bindO_s, q3, q4, e2], ⟨z1, by dsimp only; omega, by dsimp only; omega, z3, z4⟩, by dsimp only; omega⟩
    · exact .inr ⟨(bb, rd), by simp only [F105_b0, branch_ite, if_neg g], g4, g5⟩) (k + 40) (n, 0, List.replicate (n * 256).toNat 0, v.2) ⟨rfl, Int.le_refl 0, by dsimp only; omega, by dsimp only; rw [List.length_replicate]; omega, hv.2⟩ (by dsimp only; omega)
  refine T.eq h1 (T.bind (F108_t _ 30 _ h2.2 (by decide) (by decide)) fun x hx => T.br (fun _ => ?_) fun _ => T.ret ⟨by dsimp only; rw [toB_length]; omega, hx⟩)
  refine T.guard (decide_eq_true ⟨by decide, by omega⟩) (T.guard (decide_eq_true (by omega)) (T.ret ⟨?_, hx⟩))
  dsimp only
  rw [toB_length, List.length_take]
  omega
theorem F17_t (K : Nat) (rom : List UInt8) (kind : Int) (h : rom.length ≤ 1024) : T (F17 K (rom, kind)) fun v => MSm (v.1, v.2.1, v.2.2.1, v.2.2.2.1, v.2.2.2.2.1, v.2.2.2.2.2.1, v.2.2.2.2.2.2.1, v.2.2.2.2.2.2.2.1, v.2.2.2.2.2.2.2.2.1, v.2.2.2.2.2.2.2.2.2.1, v.2.2.2.2.2.2.2.2.2.2.1, v.2.2.2.2.2.2.2.2.2.2.2.1, v.2.2.2.2.2.2.2.2.2.2.2.2.1, v.2.2.2.2.2.2.2.2.2.2.2.2.2.1, v.2.2.2.2.2.2.2.2.2.2.2.2.2.2.1, v.2.2.2.2.2.2.2.2.2.2.2.2.2.2.2.1, v.2.2.2.2.2.2.2.2.2.2.2.2.2.2.2.2.1, v.2.2.2.2.2.2.2.2.2.2.2.2.2.2.2.2.2.1, v.2.2.2.2.2.2.2.2.2.2.2.2.2.2.2.2.2.2.1, v.2.2.2.2.2.2.2.2.2.2.2.2.2.2.2.2.2.2.2.1, v.2.2.2.2.2.2.2.2.2.2.2.2.2.2.2.2.2.2.2.2.1, v.2.2.2.2.2.2.2.2.2.2.2.2.2.2.2.2.2.2.2.2.2.1, v.2.2.2.2.2.2.2.2.2.2.2.2.2.2.2.2.2.2.2.2.2.2.1) := by
  unfold F17
  refine T.bind (S := fun v => v.1.length ≤ 1024) ?_ fun v hv => T.br (fun _ => T.ret ⟨Nat.zero_le _, Nat.zero_le _⟩) fun _ => T.ret ⟨by unfold maxLen; exact Nat.le_trans hv (by decide), Nat.zero_le _⟩
  unfold F53
  rw [F86_eq K rom kind 1 _ 0 false 0 (by unfold maxLen; exact Nat.le_trans h (by decide))]
  exact T.binds (T.br (fun _ => T.ret (Nat.zero_le _)) fun _ => T.ret h)
theorem F107_t (K : Nat) (r : List Int × Int) (h : RdOk r) : T (F107 K r) fun v => RdOk v.2 := by
  unfold F107
  exact T.bind (F88_t K 16 r h (by decide) (by decide)) fun v hv => T.ret hv.2
theorem F59_t (k : Nat) (most : Int) (r : List Int × Int) (h : RdOk r) (hm : 0 ≤ most ∧ most ≤ 100) : T (F59 (k + 600) (most, r)) fun v => MSm (v.1, v.2.1, v.2.2.1, v.2.2.2.1, v.2.2.2.2.1, v.2.2.2.2.2.1, v.2.2.2.2.2.2.1, v.2.2.2.2.2.2.2.1, v.2.2.2.2.2.2.2.2.1, v.2.2.2.2.2.2.2.2.2.1, v.2.2.2.2.2.2.2.2.2.2.1, v.2.2.2.2.2.2.2.2.2.2.2.1, v.2.2.2.2.2.2.2.2.2.2.2.2.1, v.2.2.2.2.2.2.2.2.2.2.2.2.2.1, v.2.2.2.2.2.2.2.2.2.2.2.2.2.2.1, v.2.2.2.2.2.2.2.2.2.2.2.2.2.2.2.1, v.2.2.2.2.2.2.2.2.2.2.2.2.2.2.2.2.1, v.2.2.2.2.2.2.2.2.2.2.2.2.2.2.2.2.2.1, v.2.2.2.2.2.2.2.2.2.2.2.2.2.2.2.2.2.2.1, v.2.2.2.2.2.2.2.2.2.2.2.2.2.2.2.2.2.2.2.1, v.2.2.2.2.2.2.2.2.2.2.2.2.2.2.2.2.2.2.2.2.1, v.2.2.2.2.2.2.2.2.2.2.2.2.2.2.2.2.2.2.2.2.2.1, v.2.2.2.2.2.2.2.2.2.2.2.2.2.2.2.2.2.2.2.2.2.2.1) ∧ RdOk v.2.2.2.2.2.2.2.2.2.2.2.2.2.2.2.2.2.2.2.2.2.2.2 := by
  unfold F59
  refine T.bind (F105_t (k + 560) r h) fun v0 h0 => T.bind (F88_t _ 3 _ h0.2 (by decide) (by decide)) fun v1 h1 => T.bind (F17_t _ v0.1 v1.1 h0.1) fun v2 h2 => ?_
  refine T.br (fun _ => T.ret ⟨h2, h1.2⟩) fun _ => ?_
  refine T.bind (F106_t _ _ h1.2) fun v3 h3 => T.bind (F107_t _ _ h3.2) fun v4 h4 => T.bind (F106_t _ _ h4) fun v5 h5 => T.bind (F106_t _ _ h5.2) fun v6 h6 => ?_
  refine T.bind (F88_t _ 5 _ h6.2 (by decide) (by decide)) fun v7 h7 => T.guard (decide_eq_true h7.1) (T.nthN (by have := h7.1; simp; omega) fun v8 _ _ => ?_)
  refine T.bind (F88_t _ 5 _ h7.2 (by decide) (by decide)) fun v9 h9 => T.guard (decide_eq_true h9.1) (T.nthN (by have := h9.1; simp; omega) fun v10 _ _ => ?_)
  have e1 : w64 (most + 1) = most + 1 := w64_id (by omega) (by omega)
  dsimp only
  rw [e1]
  refine T.bind (F88_t _ (most + 1) _ h9.2 (by omega) (by omega)) fun v11 h11 => ?_
  refine T.bind (F35_t k (v3.1, v4.1, v5.1, v2.2.2.2.1, v2.2.2.2.2.1, v2.2.2.2.2.2.1, v8, v6.1, v10, v2.2.2.2.2.2.2.2.2.2.1, v2.2.2.2.2.2.2.2.2.2.2.1, v2.2.2.2.2.2.2.2.2.2.2.2.1, v2.2.2.2.2.2.2.2.2.2.2.2.2.1, v2.2.2.2.2.2.2.2.2.2.2.2.2.2.1, v2.2.2.2.2.2.2.2.2.2.2.2.2.2.2.1, v2.2.2.2.2.2.2.2.2.2.2.2.2.2.2.2.1, v2.2.2.2.2.2.2.2.2.2.2.2.2.2.2.2.2.1, v2.2.2.2.2.2.2.2.2.2.2.2.2.2.2.2.2.2.1, v2.2.2.2.2.2.2.2.2.2.2.2.2.2.2.2.2.2.2.1, v2.2.2.2.2.2.2.2.2.2.2.2.2.2.2.2.2.2.2.2.1, v2.2.2.2.2.2.2.2.2.2.2.2.2.2.2.2.2.2.2.2.2.1, v2.2.2.2.2.2.2.2.2.2.2.2.2.2.2.2.2.2.2.2.2.2.1, v2.2.2.2.2.2.2.2.2.2.2.2.2.2.2.2.2.2.2.2.2.2.2.1) v11.1 h2) fun v12 h12 => ?_
  have hs : MSm (v12.1, v12.2.1, v12.2.2.1, v12.2.2.2.1, v12.2.2.2.2.1, v12.2.2.2.2.2.1, v12.2.2.2.2.2.2.1, v12.2.2.2.2.2.2.2.1, v12.2.2.2.2.2.2.2.2.1, v12.2.2.2.2.2.2.2.2.2.1, v12.2.2.2.2.2.2.2.2.2.2.1, v12.2.2.2.2.2.2.2.2.2.2.2.1, v12.2.2.2.2.2.2.2.2.2.2.2.2.1, v12.2.2.2.2.2.2.2.2.2.2.2.2.2.1, v12.2.2.2.2.2.2.2.2.2.2.2.2.2.2.1, v12.2.2.2.2.2.2.2.2.2.2.2.2.2.2.2.1, v12.2.2.2.2.2.2.2.2.2.2.2.2.2.2.2.2.1, v12.2.2.2.2.2.2.2.2.2.2.2.2.2.2.2.2.2.1, v12.2.2.2.2.2.2.2.2.2.2.2.2.2.2.2.2.2.2.1, v12.2.2.2.2.2.2.2.2.2.2.2.2.2.2.2.2.2.2.2.1, v12.2.2.2.2.2.2.2.2.2.2.2.2.2.2.2.2.2.2.2.2.1, v12.2.2.2.2.2.2.2.2.2.2.2.2.2.2.2.2.2.2.2.2.2.1, v12.2.2.2.2.2.2.2.2.2.2.2.2.2.2.2.2.2.2.2.2.2.2.1) := by
    rcases h12 with h12 | h12
    · exact h12.2
    · obtain ⟨qq', h12', _⟩ := h12
      exact WInv.sm (qq := qq') (m := (v12.1, v12.2.1, v12.2.2.1, v12.2.2.2.1, v12.2.2.2.2.1, v12.2.2.2.2.2.1, v12.2.2.2.2.2.2.1, v12.2.2.2.2.2.2.2.1, v12.2.2.2.2.2.2.2.2.1, v12.2.2.2.2.2.2.2.2.2.1, v12.2.2.2.2.2.2.2.2.2.2.1, v12.2.2.2.2.2.2.2.2.2.2.2.1, v12.2.2.2.2.2.2.2.2.2.2.2.2.1, v12.2.2.2.2.2.2.2.2.2.2.2.2.2.1, v12.2.2.2.2.2.2.2.2.2.2.2.2.2.2.1, v12.2.2.2.2.2.2.2.2.2.2.2.2.2.2.2.1, v12.2.2.2.2.2.2.2.2.2.2.2.2.2.2.2.2.1, v12.2.2.2.2.2.2.2.2.2.2.2.2.2.2.2.2.2.1, v12.2.2.2.2.2.2.2.2.2.2.2.2.2.2.2.2.2.2.1, v12.2.2.2.2.2.2.2.2.2.2.2.2.2.2.2.2.2.2.2.1, v12.2.2.2.2.2.2.2.2.2.2.2.2.2.2.2.2.2.2.2.2.1, v12.2.2.2.2.2.2.2.2.2.2.2.2.2.2.2.2.2.2.2.2.2.1, v12.2.2.2.2.2.2.2.2.2.2.2.2.2.2.2.2.2.2.2.2.2.2.1)) h12'
  refine T.bind (S := fun v => MSm (v.1, v.2.1, v.2.2.1, v.2.2.2.1, v.2.2.2.2.1, v.2.2.2.2.2.1, v.2.2.2.2.2.2.1, v.2.2.2.2.2.2.2.1, v.2.2.2.2.2.2.2.2.1, v.2.2.2.2.2.2.2.2.2.1, v.2.2.2.2.2.2.2.2.2.2.1, v.2.2.2.2.2.2.2.2.2.2.2.1, v.2.2.2.2.2.2.2.2.2.2.2.2.1, v.2.2.2.2.2.2.2.2.2.2.2.2.2.1, v.2.2.2.2.2.2.2.2.2.2.2.2.2.2.1, v.2.2.2.2.2.2.2.2.2.2.2.2.2.2.2.1, v.2.2.2.2.2.2.2.2.2.2.2.2.2.2.2.2.1, v.2.2.2.2.2.2.2.2.2.2.2.2.2.2.2.2.2.1, v.2.2.2.2.2.2.2.2.2.2.2.2.2.2.2.2.2.2.1, v.2.2.2.2.2.2.2.2.2.2.2.2.2.2.2.2.2.2.2.1, v.2.2.2.2.2.2.2.2.2.2.2.2.2.2.2.2.2.2.2.2.1, v.2.2.2.2.2.2.2.2.2.2.2.2.2.2.2.2.2.2.2.2.2.1, v.2.2.2.2.2.2.2.2.2.2.2.2.2.2.2.2.2.2.2.2.2.2.1) ∧ RdOk v.2.2.2.2.2.2.2.2.2.2.2.2.2.2.2.2.2.2.2.2.2.2.2.2.2.2.2.2.2.2.2.2.2.2.2.2.2.2.2.2.2.2.2.2.2.2) ?_ fun v16 h16 => ?_
  · refine T.bind (F108_t _ 4 _ h11.2 (by decide) (by decide)) fun v13 h13 => T.br (fun _ => ?_) fun _ => T.ret ⟨hs, h13⟩
    exact T.bind (F88_t _ 4 _ h13 (by decide) (by decide)) fun v14 h14 => T.guard (decide_eq_true h14.1) (T.nthN (by have := h14.1; simp; omega) fun v15 _ _ => T.ret ⟨hs, h14.2⟩)
  refine T.bind (F88_t _ 30 _ h16.2 (by decide) (by decide)) fun v17 h17 => T.br (fun _ => ?_) fun _ => T.br (fun _ => ?_) fun _ => T.ret ⟨h16.1, h17.2⟩
  · exact T.bind (F109_t _ 0 255 _ h17.2 (by omega) (by decide) (by decide) (by decide)) fun v18 h18 => T.ret ⟨h16.1, h18⟩
  · exact T.bind (F109_t _ 0 65535 _ h17.2 (by omega) (by decide) (by decide) (by decide)) fun v18 h18 => T.ret ⟨h16.1, h18⟩
end Go.U.Tryz
namespace Go.U.Tryz
open Go Go.U
set_option linter.unusedVariables false
set_option linter.unusedSimpArgs false
set_option maxRecDepth 20000
variable {qq : List UInt8 × Nat × Option Int} {R0 : List UInt8} {n0 : Nat}
set_option maxHeartbeats 1000000
end Go.U.Tryz
namespace Go.U.Tryz
open Go Go.U
set_option linter.unusedVariables false
set_option linter.unusedSimpArgs false
set_option maxRecDepth 20000
set_option maxHeartbeats 8000000
variable {qq : List UInt8 × Nat × Option Int} {R0 : List UInt8} {n0 : Nat}
theorem F21_t (k : Nat) (x : List Int) (hb : ∀ v ∈ x, 0 ≤ v ∧ v ≤ 255) (hl : x.length ≤ 1048576) : T (F21 (k + 600) x) MSm := by
  unfold F21
  exact T.binds (T.bind (F59_t k 12 (x, 0) ⟨hb, hl, by dsimp only; omega, by dsimp only; omega⟩ (by decide)) fun v hv => T.ret hv.1)
def mS (t : Int × Int × Int × Int × Int × Int × Int × Int × Int × Int × Bool × Bool × (List UInt8) × Int × Int × (List UInt8) × Int × Bool × Int × (List UInt8) × (List UInt8) × Int × Int × List Int) : MT := (t.1, t.2.1, t.2.2.1, t.2.2.2.1, t.2.2.2.2.1, t.2.2.2.2.2.1, t.2.2.2.2.2.2.1, t.2.2.2.2.2.2.2.1, t.2.2.2.2.2.2.2.2.1, t.2.2.2.2.2.2.2.2.2.1, t.2.2.2.2.2.2.2.2.2.2.1, t.2.2.2.2.2.2.2.2.2.2.2.1, t.2.2.2.2.2.2.2.2.2.2.2.2.1, t.2.2.2.2.2.2.2.2.2.2.2.2.2.1, t.2.2.2.2.2.2.2.2.2.2.2.2.2.2.1, t.2.2.2.2.2.2.2.2.2.2.2.2.2.2.2.1, t.2.2.2.2.2.2.2.2.2.2.2.2.2.2.2.2.1, t.2.2.2.2.2.2.2.2.2.2.2.2.2.2.2.2.2.1, t.2.2.2.2.2.2.2.2.2.2.2.2.2.2.2.2.2.2.1, t.2.2.2.2.2.2.2.2.2.2.2.2.2.2.2.2.2.2.2.1, t.2.2.2.2.2.2.2.2.2.2.2.2.2.2.2.2.2.2.2.2.1, t.2.2.2.2.2.2.2.2.2.2.2.2.2.2.2.2.2.2.2.2.2.2.2, t.2.2.2.2.2.2.2.2.2.2.2.2.2.2.2.2.2.2.2.2.2.1)
theorem mS_inj {m m' : MT} {c c' : Int} (h : ocat m (c, outM m) = ocat m' (c', outM m')) : m = m' ∧ c = c' :=
  ⟨congrArg mS h, congrArg (fun t => t.2.2.2.2.2.2.2.2.2.2.2.2.2.2.2.2.2.2.2.2.2.2.1) h⟩
theorem F22_v (k : Nat) (m : MT) (hw : WInv (R0, n0, none) m.w) : ∃ v, F60 (k + 600 + 40) m = some v ∧ F22 (k + 600 + 40) m = some (ocat (mOf v) (v.2.2.2.2.2.2.2.2.2.2.2.2.2.2.2.2.2.2.2.2.2.2.2, outM (mOf v))) ∧ WInv (R0, n0, none) (mOf v).w := by
  obtain ⟨v, q1, q2⟩ := F62_t (k + 600) m hw
  have hv : (mOf v).2.2.2.2.2.2.2.2.2.2.2.2.2.2.2.2.2.2.2.2.2.1.length ≤ 100 := q2.1.out.2
  have q3 : F60 (k + 600 + 40) m = some v := (step_eq (k + 600) m.w hw).trans q1
  refine ⟨v, q3, ?_, q2.1⟩
  unfold F22
  rw [F32_ok k m hw]
  simp only [bindO_s, Bool.not_true, branch_f]
  rw [q3]
  simp only [bindO_s]
  refine (congrArg (fun z => bindO z _) (F61o_m (k + 600 + 40) (mOf v) hv)).trans ?_
  rfl
theorem F22_bad (k : Nat) (m : MT) (hm : F32 k m = some false) : F22 k m = some (ocat Z (3, outM Z)) := by
  unfold F22; rw [hm]; rfl
def plainI (c : Int) (cb : Bool) : Prop := cb = true ∨ c < 64 ∧ c % 8 ≠ 0 ∨ 64 ≤ c ∧ c < 192
theorem step_here (k : Nat) (w : WT) (h : WInv (R0, n0, none) w) (v : Int × Int × Int × Int × Int × Int × Int × Int × Int × Int × Bool × Bool × (List UInt8) × Int × Int × (List UInt8) × Int × Bool × Int × (List UInt8) × (List UInt8) × (List Int) × Int × Int) (hv : F60 (k + 40) (WT.m w) = some v) (h0 : v.2.2.2.2.2.2.2.2.2.2.2.2.2.2.2.2.2.2.2.2.2.2.2 = 0) : ∃ (r : Int × Bool × Int × Int) (n6 : Int) (t : Bool),
    F98 (k + 40) (WT.m w) = some (r.1, r.2.1, r.2.2.1, r.2.2.2, WT.m w) ∧ (0 ≤ r.1 ∧ r.1 ≤ 255) ∧ (r.2.1 = false → ¬ noC r.1) ∧ F26 (k + 40) (r.1, r.2.1, t) = some n6 ∧ (0 ≤ n6 ∧ n6 ≤ 6) ∧ cyc (mOf v).w = cyc w + n6 ∧ (0 ≤ r.2.2.2 ∧ r.2.2.2 ≤ 3) ∧
    (plainI r.1 r.2.1 → (mOf v).2.2.2.2.2.2.2.2.2.1 = bits .and .i64 (w64 (w.2.2.2.2.2.2.2.2.2.1 + r.2.2.2)) 65535) := by
  have l : F60 (k + 40) (WT.m w) = branch w.2.2.2.2.2.2.2.2.2.2.2.1 (some (out w 1)) (bindO (F98 (k + 40) (WT.m w)) fun v0 => branch (decide (v0.2.2.2.1 = 0)) (some (out (MT.w v0.2.2.2.2) 2)) (bindO (F110 (k + 40) (A v0.1 v0.2.1 v0.2.2.1 (setPc (MT.w v0.2.2.2.2) (bits .and .i64 (w64 (v0.2.2.2.2.2.2.2.2.2.2.2.2.2.1 + v0.2.2.2.1)) 65535)))) fun v1 => bindO (F26 (k + 40) (v0.1, v0.2.1, v1.1)) fun v2 => G60 v0 v1 v2)) := rfl
  rw [l] at hv
  cases hh : w.2.2.2.2.2.2.2.2.2.2.2.1 with
  | true =>
    rw [hh, branch_t] at hv
    have := Option.some.inj hv
    subst this
    exact absurd h0 (by decide : ¬ (1 : Int) = 0)
  | false =>
    rw [hh, branch_f] at hv
    obtain ⟨⟨c, cb, imm, n⟩, e1, e2, e3⟩ := fetch3 k w h
    rw [e1] at hv
    simp only [bindO_s] at hv
    by_cases g : n = 0
    · rw [decide_eq_true g, branch_t] at hv
      have := Option.some.inj hv
      subst this
      exact absurd h0 (by decide : ¬ (2 : Int) = 0)
    · rw [decide_eq_false g, branch_f] at hv
      obtain ⟨hc, him, hn, hvv⟩ : _ ∧ _ ∧ _ ∧ _ := e3.resolve_left g
      dsimp only at hc him hn hvv
      have hp := h.pc
      have hp2 : 0 ≤ bits .and .i64 (w64 (w.2.2.2.2.2.2.2.2.2.1 + n)) 65535 ∧ bits .and .i64 (w64 (w.2.2.2.2.2.2.2.2.2.1 + n)) 65535 ≤ 65535 := by rw [and65535]; omega
      have hw : WInv (R0, n0, none) (setPc (MT.w (WT.m w)) (bits .and .i64 (w64 (w.2.2.2.2.2.2.2.2.2.1 + n)) 65535)) := (h.set_full false).set_pc rfl hp2
      obtain ⟨t, t', w', q1, q2, q3, q4⟩ := run_eq (k + 40) c cb imm _ hw hc him hvv
      obtain ⟨n6, z1, z2⟩ := F118_t k c cb t' hc
      have z3 := cyc2 k c cb hc (fun a => (hvv a).1) t t' (fun a => q4 (by rw [a.1, a.2]; rfl))
      have hv2 : bindO (F110 (k + 40) (A c cb imm (setPc (MT.w (WT.m w)) (bits .and .i64 (w64 (w.2.2.2.2.2.2.2.2.2.1 + n)) 65535)))) (fun v1 => bindO (F26 (k + 40) (c, cb, v1.1)) fun v2 => G60 (c, cb, imm, n, WT.m w) v1 v2) = some v := hv
      rw [q1] at hv2
      simp only [bindO_s] at hv2
      rw [z3, z1] at hv2
      simp only [bindO_s] at hv2
      have hg := (G60_eq c cb imm n6 n t w w' (c, cb, imm)).symm.trans hv2
      have hv3 := Option.some.inj hg
      have hcy : 0 ≤ cyc w ∧ cyc w ≤ 1000000000 := h.cyc
      have q3' : cyc w' = cyc w := q3
      refine ⟨(c, cb, imm, n), n6, t, e1, hc, fun a => (hvv a).1, z3.trans z1, z2, ?_, ⟨by dsimp only; omega, hn.2⟩, fun pl => ?_⟩
      · subst hv3
        generalize (w'.2.2.2.2.2.2.2.2.2.2.2.2.2.2.2.2.2.2.2.2.2.2.2 || decide (1000000000 < w64 (cyc w' + n6))) = b at h0 ⊢
        cases b with
        | true => exact absurd h0 (by decide : ¬ (4 : Int) = 0)
        | false =>
          show w64 (cyc w' + n6) = cyc w + n6
          rw [q3', w64_id (by omega) (by omega)]
      · obtain ⟨⟨t2, w2⟩, q5, q6⟩ := spD_t (k + 40) c cb imm _ hw.track hc him (fun a b => (hvv a).2 (.inl b)) (.inr pl)
        rw [q2] at q5
        have q8 : w' = w2 := congrArg Prod.snd (Option.some.inj q5)
        have q9 : w2.2.2.2.2.2.2.2.2.2.1 = bits .and .i64 (w64 (w.2.2.2.2.2.2.2.2.2.1 + n)) 65535 := q6.keep.2.2 _ rfl
        subst hv3
        generalize (w'.2.2.2.2.2.2.2.2.2.2.2.2.2.2.2.2.2.2.2.2.2.2.2 || decide (1000000000 < w64 (cyc w' + n6))) = b at h0 ⊢
        cases b with
        | true => exact absurd h0 (by decide : ¬ (4 : Int) = 0)
        | false =>
          show w'.2.2.2.2.2.2.2.2.2.1 = _
          rw [q8]; exact q9
theorem reads (k : Nat) (w : WT) (h : WInv qq w) : ∃ v : Nat → Int, ∀ i : Nat, i < 3 → F64 (k + 40) (w64 (w.2.2.2.2.2.2.2.2.2.1 + (i : Int)), WT.m w) = some (v i, WT.m w) ∧ F64 (k + 40) (Int.tmod (w64 (w.2.2.2.2.2.2.2.2.2.1 + (i : Int))) 65536, WT.m w) = some (v i, WT.m w) := by
  have hp := h.pc
  have a : ∀ i : Nat, ∃ v, i < 3 → F64 (k + 40) (w64 (w.2.2.2.2.2.2.2.2.2.1 + (i : Int)), WT.m w) = some (v, WT.m w) ∧ F64 (k + 40) (Int.tmod (w64 (w.2.2.2.2.2.2.2.2.2.1 + (i : Int))) 65536, WT.m w) = some (v, WT.m w) := by
    intro i
    obtain ⟨v, e, _⟩ := F138_t (k + 40) w h ((w.2.2.2.2.2.2.2.2.2.1 + (i : Int)) % 65536) (by omega)
    refine ⟨v, fun hi => ?_⟩
    have e1 : w64 (w.2.2.2.2.2.2.2.2.2.1 + (i : Int)) = w.2.2.2.2.2.2.2.2.2.1 + (i : Int) := w64_id (by omega) (by omega)
    constructor
    · rw [F64_w (k + 40) w h, e1, e]; rfl
    · rw [F64_w (k + 40) w h, e1, Int.tmod_eq_emod_of_nonneg (by omega), show (w.2.2.2.2.2.2.2.2.2.1 + (i : Int)) % 65536 % 65536 = (w.2.2.2.2.2.2.2.2.2.1 + (i : Int)) % 65536 by omega, e]; rfl
  exact ⟨fun i => (a i).choose, fun i hi => (a i).choose_spec hi⟩
def s3b (v : Nat → Int) : List UInt8 := [] ++ toB [w8 (v 0)] ++ toB [w8 (v 1)] ++ toB [w8 (v 2)]
theorem fetch_s (k : Nat) (w : WT) (v : Nat → Int) (hv : ∀ i : Nat, i < 3 → F64 (k + 40) (w64 (w.2.2.2.2.2.2.2.2.2.1 + (i : Int)), WT.m w) = some (v i, WT.m w)) :
    F98 (k + 40) (WT.m w) = bindO (F25 (k + 40) (s3b v, 0)) fun u => some (u.1, u.2.1, u.2.2.1, u.2.2.2, WT.m w) := by
  have fa : ∀ (i : Nat) (l : List UInt8), i < 3 → l.length ≤ 3 → F98_b0 (k + 40) (l, (i : Int), 0, false, 0, WT.m w) = some (.inl (l ++ toB [w8 (v i)], ((i + 1 : Nat) : Int), 0, false, 0, WT.m w)) := by
    intro i l hi hl
    have a : F98_b0 (k + 40) (l, (i : Int), 0, false, 0, WT.m w) = branch (decide ((i : Int) < 3)) (bindO (F64 (k + 40) (w64 (w.2.2.2.2.2.2.2.2.2.1 + (i : Int)), WT.m w)) fun v0 => bindO (F134 (k + 40) (v0.1, 1)) fun v1 => guard (decide ((l.length + v1.length) ≤ 9223372036854775807)) <| some (.inl (l ++ v1, w64 ((i : Int) + 1), 0, false, 0, WT.m w))) (some (.inr (l, 0, false, 0, WT.m w))) := rfl
    have n1 : w64 ((i : Int) + 1) = ((i + 1 : Nat) : Int) := by rw [w64_id (by omega) (by omega)]; omega
    rw [a, decide_eq_true (show (i : Int) < 3 by omega), branch_t, hv i hi]
    simp only [bindO_s, F134_1, n1]
    rw [decide_eq_true (show l.length + (toB [w8 (v i)]).length ≤ 9223372036854775807 by rw [toB_length]; simp; omega), guard_t]
  have ea : iter (k + 40) (F98_b0 (k + 40)) ([], 0, 0, false, 0, WT.m w) = some (s3b v, 0, false, 0, WT.m w) := by
    refine (iter_go (n := k + 39) (fa 0 [] (by omega) (by simp))).trans ?_
    refine (iter_go (n := k + 38) (fa 1 _ (by omega) (by simp [toB_length]))).trans ?_
    refine (iter_go (n := k + 37) (fa 2 _ (by omega) (by simp [toB_length]))).trans ?_
    exact iter_end (n := k + 36) rfl
  have a : F98 (k + 40) (WT.m w) = bindO (iter (k + 40) (F98_b0 (k + 40)) ([], 0, 0, false, 0, WT.m w)) fun v0 => bindO (F25 (k + 40) (v0.1, 0)) fun v1 => some (v1.1, v1.2.1, v1.2.2.1, v1.2.2.2, v0.2.2.2.2) := rfl
  rw [a, ea]
  rfl
theorem F24_v (k : Nat) (m : MT) (a v : Int) (hw : WInv (R0, n0, none) m.w) (ha : 0 ≤ a ∧ a ≤ 65535) (e : F64 (k + 600 + 40) (a, m) = some (v, m)) : F24 (k + 600 + 40) (cat m a) = some v := by
  have f1 := F32_ok k m hw
  have f2 : F63 (k + 600 + 40) a = some true := (F63_eq _ _).trans (congrArg some (decide_eq_true ha))
  have t : T (F24 (k + 600 + 40) (cat m a)) (fun r => r = v) := by
    unfold F24
    exact T.bindbind (T.eq f1 (T.bindbr nofun fun _ => T.bindbind (T.eq f2 (T.binds (T.br nofun fun _ => T.eq e (T.ret rfl))))))
  obtain ⟨r, er, rfl⟩ := t
  exact er
theorem here_loop (k : Nat) (n m : MT) (hw : WInv (R0, n0, none) m.w) (v : Nat → Int) (hv : ∀ i : Nat, i < 3 → F64 (k + 600 + 40) (Int.tmod (w64 (m.2.2.2.2.2.2.2.2.2.1 + (i : Int))) 65536, m) = some (v i, m)) :
    iter (k + 600 + 40) (F6_b0 (k + 600 + 40)) ([], 0, ocat n (outM n, m)) = some (s3b v, ocat n (outM n, m)) := by
  have hp : 0 ≤ m.2.2.2.2.2.2.2.2.2.1 ∧ m.2.2.2.2.2.2.2.2.2.1 ≤ 65535 := hw.pc
  have fa : ∀ (i : Nat) (l : List UInt8), i < 3 → l.length ≤ 3 → F6_b0 (k + 600 + 40) (l, (i : Int), ocat n (outM n, m)) = some (.inl (l ++ toB [w8 (v i)], ((i + 1 : Nat) : Int), ocat n (outM n, m))) := by
    intro i l hi hl
    have n1 : w64 ((i : Int) + 1) = ((i + 1 : Nat) : Int) := by rw [w64_id (by omega) (by omega)]; omega
    have hr : 0 ≤ Int.tmod (w64 (m.2.2.2.2.2.2.2.2.2.1 + (i : Int))) 65536 ∧ Int.tmod (w64 (m.2.2.2.2.2.2.2.2.2.1 + (i : Int))) 65536 ≤ 65535 := by
      rw [w64_id (by omega) (by omega), Int.tmod_eq_emod_of_nonneg (by omega)]; omega
    have f := F24_v k m _ (v i) hw hr (hv i hi)
    have a : F6_b0 (k + 600 + 40) (l, (i : Int), ocat n (outM n, m)) = branch (decide ((i : Int) < 3)) (bindO (F24 (k + 600 + 40) (cat m (Int.tmod (w64 (m.2.2.2.2.2.2.2.2.2.1 + (i : Int))) 65536))) fun v0 => guard (decide ((l.length + (toB [w8 v0]).length) ≤ 9223372036854775807)) <| some (.inl (l ++ toB [w8 v0], w64 ((i : Int) + 1), ocat n (outM n, m)))) (some (.inr (l, ocat n (outM n, m)))) := rfl
    rw [a, decide_eq_true (show (i : Int) < 3 by omega), branch_t, f, bindO_s, n1]
    rw [decide_eq_true (show l.length + (toB [w8 (v i)]).length ≤ 9223372036854775807 by rw [toB_length]; simp; omega), guard_t]
  refine (iter_go (n := k + 639) (fa 0 [] (by omega) (by simp))).trans ?_
  refine (iter_go (n := k + 638) (fa 1 _ (by omega) (by simp [toB_length]))).trans ?_
  refine (iter_go (n := k + 637) (fa 2 _ (by omega) (by simp [toB_length]))).trans ?_
  exact iter_end (n := k + 636) rfl
theorem here_law (k : Nat) (x : List Int) (hb : ∀ v ∈ x, 0 ≤ v ∧ v ≤ 255) : T (F6 (k + 600 + 40) x) fun r => r = true := by
  have e15 : F15 (k + 600 + 40) x = some (decide (1048576 < (x.length : Int))) := rfl
  unfold F6
  refine T.eq e15 (T.br (fun _ => T.ret rfl) fun g => ?_)
  have hl := of_decide_eq_false g
  obtain ⟨m, ev, hm⟩ := F21_t (k + 40) x hb (by omega)
  have ev' : F21 (k + 600 + 40) x = some m := by rw [show k + 600 + 40 = k + 40 + 600 by omega]; exact ev
  refine T.eq ev' ?_
  have hs : Sm m := ⟨hm.1, Nat.le_trans hm.2 (by decide)⟩
  have hK : m.2.2.2.2.2.2.2.2.2.2.2.2.2.2.2.2.2.2.2.2.2.1.length + 8 < k + 600 + 40 := by have := hm.2; omega
  obtain ⟨m', c, s1, s2, s3⟩ := step_both (k + 600) m hs hK
  obtain ⟨b, f1, f2, f3⟩ := F33_m (k + 600 + 40) m hs hK
  refine T.eq s2 (T.eq s1 (T.bindbind (T.bindbr (fun g => (ff (c := c) g).elim) fun _ => T.binds (T.bindbr (fun _ => T.binds (T.csl (T.ret (decide_eq_true rfl)))) fun g0 => T.binds (T.csr ?_)))))
  have hc : c = 0 := by
    have g' : (!(decide (c = 0))) = false := g0
    by_cases e : c = 0
    · exact e
    · rw [decide_eq_false e] at g'; cases g'
  cases b with
  | false => exact absurd ((mS_inj (Option.some.inj ((F22_bad _ m f2).symm.trans s2))).2.trans hc) (by decide)
  | true =>
    have hw := f3 rfl
    obtain ⟨v, q1, q2, q3⟩ := F22_v k m hw
    obtain ⟨d1, d2⟩ := mS_inj (Option.some.inj (q2.symm.trans s2))
    subst d1
    obtain ⟨r, n6, t, u1, u2, u3, u4, u5, u6, u7, u8⟩ := step_here (k + 600) (MT.w m) hw v q1 (d2.trans hc)
    obtain ⟨vv, hvv⟩ := reads (k + 600) (MT.w m) hw
    have fs := fetch_s (k + 600) (MT.w m) vv (fun i hi => (hvv i hi).1)
    have lp := here_loop k (mOf v) m hw vv (fun i hi => (hvv i hi).2)
    obtain ⟨u, hu⟩ : ∃ u, F25 (k + 600 + 40) (s3b vv, 0) = some u := by
      cases hF : F25 (k + 600 + 40) (s3b vv, 0) with
      | none => rw [u1, hF] at fs; cases fs
      | some u => exact ⟨u, rfl⟩
    rw [u1, hu, bindO_s] at fs
    have fs' := Option.some.inj fs
    have hr : r = u := by
      have e1 := congrArg (fun z => z.1) fs'
      have e2 := congrArg (fun z => z.2.1) fs'
      have e3 := congrArg (fun z => z.2.2.1) fs'
      have e4 := congrArg (fun z => z.2.2.2.1) fs'
      obtain ⟨r1, r2, r3, r4⟩ := r
      obtain ⟨x1, x2, x3, x4⟩ := u
      dsimp only at e1 e2 e3 e4
      rw [e1, e2, e3, e4]
    subst hr
    clear fs fs' u1
    obtain ⟨cc, cb, imm, n⟩ := r
    dsimp only at u2 u3 u4 u7 u8
    obtain ⟨n1, y1, y2⟩ := F118_t (k + 600) cc cb true u2
    obtain ⟨n2, y3, y4⟩ := F118_t (k + 600) cc cb false u2
    have a1 : F26 (k + 600 + 40) (cc, cb, true) = some n1 := (cyc2 (k + 600) cc cb u2 u3 true true (fun _ => rfl)).trans y1
    have a2 : F26 (k + 600 + 40) (cc, cb, false) = some n2 := (cyc2 (k + 600) cc cb u2 u3 false false (fun _ => rfl)).trans y3
    have hcy : 0 ≤ cyc (MT.w m) ∧ cyc (MT.w m) ≤ 1000000000 := hw.cyc
    have dd : w64 (cyc (mOf v).w - cyc (MT.w m)) = n6 := by rw [u6, w64_id (by omega) (by omega)]; omega
    have hpc : 0 ≤ m.2.2.2.2.2.2.2.2.2.1 ∧ m.2.2.2.2.2.2.2.2.2.1 ≤ 65535 := hw.pc
    refine T.eq lp (T.eq hu ?_)
    refine T.bind (S := fun z => z = .inr (n, cc, cb, imm, ocat (mOf v) (outM (mOf v), m))) ?_ ?_
    · refine T.bind (S := fun z => z = (n, false, cc, cb, imm, ocat (mOf v) (outM (mOf v), m))) ?_ ?_
      · refine T.eq a1 (T.br (fun g1 => T.eq a2 (T.ret ?_)) fun _ => T.ret rfl)
        have g1' : (!(decide (w64 (cyc (mOf v).w - cyc (MT.w m)) = n1))) = true := g1
        rw [dd] at g1'
        have hne : ¬ n6 = n1 := fun e => by rw [decide_eq_true e] at g1'; cases g1'
        have h62 : n6 = n2 := by
          cases t with
          | true => exact absurd (Option.some.inj (u4.symm.trans a1)) hne
          | false => exact Option.some.inj (u4.symm.trans a2)
        show (n, !(decide (w64 (cyc (mOf v).w - cyc (MT.w m)) = n2)), cc, cb, imm, ocat (mOf v) (outM (mOf v), m)) = _
        rw [dd, decide_eq_true h62]
        rfl
      · rintro _ rfl
        exact T.br nofun fun _ => T.ret rfl
    · rintro _ rfl
      refine T.csr ?_
      refine T.bind (S := fun z => ∃ f : Bool, z = (n, f, ocat (mOf v) (outM (mOf v), m)) ∧ (f = true → plainI cc cb)) ?_ ?_
      · refine T.br (fun e => T.ret ⟨_, rfl, fun _ => .inl e⟩) fun _ => T.br (fun e63 => T.br (fun e192 => T.ret ⟨_, rfl, fun _ => .inr (.inr ⟨?_, of_decide_eq_true e192⟩)⟩) fun _ => T.br (fun e64 => T.ret ⟨_, rfl, fun _ => ?_⟩) fun _ => T.ret ⟨_, rfl, fun e => by cases e⟩) fun _ => T.br (fun e64 => T.ret ⟨_, rfl, fun e8 => .inr (.inl ⟨of_decide_eq_true e64, ?_⟩)⟩) fun _ => T.ret ⟨_, rfl, fun e => by cases e⟩
        · have : 63 < cc := of_decide_eq_true e63
          omega
        · have h1 : 63 < cc := of_decide_eq_true e63
          have h2 : cc < 64 := of_decide_eq_true e64
          omega
        · have h1 : 0 < Int.tmod cc 8 := of_decide_eq_true e8
          rw [Int.tmod_eq_emod_of_nonneg u2.1] at h1
          omega
      · rintro _ ⟨f, rfl, hf⟩
        refine T.br (fun _ => T.ret rfl) fun gf => T.ret (decide_eq_true ?_)
        have hft : f = true := by cases f; exact absurd gf nofun; rfl
        have u9 := u8 (hf hft)
        show (mOf v).2.2.2.2.2.2.2.2.2.1 = Int.tmod (w64 (m.2.2.2.2.2.2.2.2.2.1 + n)) 65536
        refine u9.trans ?_
        show bits .and .i64 (w64 (m.2.2.2.2.2.2.2.2.2.1 + n)) 65535 = _
        rw [and65535, w64_id (by omega) (by omega), Int.tmod_eq_emod_of_nonneg (by omega)]
theorem fnHere_law (a0 : T22.den) (h : T22.ok a0) : ∃ K, A6 K a0 = some true := by
  obtain ⟨r, e, rfl⟩ := here_law 0 a0 (fun v hv => by have := h.2 v hv; simp only [Ty.ok] at this; exact ⟨this.1, this.2⟩)
  exact ⟨_, e⟩
end Go.U.Tryz
