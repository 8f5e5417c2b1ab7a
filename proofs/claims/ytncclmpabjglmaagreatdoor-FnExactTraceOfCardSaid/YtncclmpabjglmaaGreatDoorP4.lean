/- A part of the proof. No condition. -/
import Derived.Test.YtncclmpabjglmaaGreatDoorP3
import Derived.Test.YtncclmpabjglmaaGreatDoorP1
import Derived.Test.YtncclmpabjglmaaGreatDoorVMe
import Derived.Test.YtncclmpabjglmaaGreatDoorVMd
import Derived.KernelRfl
import Derived.Test.YtncclmpabjglmaaGreatDoorVMx
import Derived.Test.YtncclmpabjglmaaGreatDoorVMt
import Derived.Test.YtncclmpabjglmaaGreatDoorVMu
set_option linter.unusedVariables false
set_option linter.unusedSimpArgs false
set_option linter.unusedSectionVars false
namespace Go.U.Tryz
open Go Go.U
set_option maxRecDepth 20000
variable {qq : List UInt8 × Nat × Option Int} {R0 : List UInt8} {n0 : Nat}
def noCb (n : Nat) : Bool := decide (n = 203 ∨ n = 211 ∨ n = 219 ∨ n = 227 ∨ n = 235 ∨ n = 228 ∨ n = 236 ∨ n = 244 ∨ n = 252 ∨ n = 221 ∨ n = 237 ∨ n = 253)
def len2Chk (k : Nat) (c : Nat) : Bool := match F196 (k + 40) ((c : Int), false) with
  | some n => decide (F65 (k + 40) ((c : Int), false) = some n) && decide (n = 0 ∨ n = 1 ∨ n = 2 ∨ n = 3) && (decide (n = 0) || noCb c == false) && (decide (n ≤ 2) || !(decide (c % 8 = 6 ∨ c = 224 ∨ c = 232 ∨ c = 240 ∨ c = 248)))
  | none => false
theorem len2All (k : Nat) : (List.range 256).all (fun c => decide (c = 203) || len2Chk k c) = true := by kernel_rfl
def cyc2Chk (k : Nat) (cb : Bool) (c : Nat) : Bool := decide (F26 (k + 40) ((c : Int), cb, true) = F118 (k + 40) ((c : Int), cb, true)) && decide (F26 (k + 40) ((c : Int), cb, false) = F118 (k + 40) ((c : Int), cb, false)) && (((!cb) && condC (c : Int)) || decide (F118 (k + 40) ((c : Int), cb, true) = F118 (k + 40) ((c : Int), cb, false)))
theorem cyc2All (k : Nat) (cb : Bool) : (List.range 256).all (fun c => (!cb && noCb c) || cyc2Chk k cb c) = true := by
  cases cb
  · kernel_rfl
  · kernel_rfl
theorem len2 (k : Nat) (c : Int) (hc : 0 ≤ c ∧ c ≤ 255) (h3 : c ≠ 203) : ∃ n, F65 (k + 40) (c, false) = some n ∧ F196 (k + 40) (c, false) = some n ∧ (n = 0 ∨ n = 1 ∨ n = 2 ∨ n = 3) ∧ (n ≠ 0 → ¬ noC c) ∧ ((c % 8 = 6 ∨ c = 224 ∨ c = 232 ∨ c = 240 ∨ c = 248) → n ≤ 2) := by
  obtain ⟨m, rfl⟩ : ∃ m : Nat, c = (m : Int) := ⟨c.toNat, by omega⟩
  have h := List.all_eq_true.1 (len2All k) m (List.mem_range.2 (by omega))
  have h3' : ¬ m = 203 := by omega
  rw [decide_eq_false h3', Bool.false_or] at h
  unfold len2Chk at h
  split at h
  · rename_i n hn
    simp only [Bool.and_eq_true, Bool.or_eq_true, decide_eq_true_eq, beq_iff_eq, Bool.not_eq_true', decide_eq_false_iff_not] at h
    obtain ⟨⟨⟨h1, h2⟩, h4⟩, h5⟩ := h
    refine ⟨n, h1, hn, h2, fun g => ?_, fun g => ?_⟩
    · have := of_decide_eq_false (h4.resolve_left g)
      unfold noC; omega
    · rcases h5 with h5 | h5
      · exact h5
      · omega
  · cases h
theorem cyc2 (k : Nat) (c : Int) (cb : Bool) (hc : 0 ≤ c ∧ c ≤ 255) (hv : cb = false → ¬ noC c) (t t' : Bool) (ht : (cb = false ∧ condC c = true) → t = t') :
    F26 (k + 40) (c, cb, t) = F118 (k + 40) (c, cb, t') := by
  obtain ⟨m, rfl⟩ : ∃ m : Nat, c = (m : Int) := ⟨c.toNat, by omega⟩
  have h := List.all_eq_true.1 (cyc2All k cb) m (List.mem_range.2 (by omega))
  have hn : (!cb && noCb m) = false := by
    cases cb
    · have := hv rfl
      exact decide_eq_false (by unfold noC at this; omega)
    · rfl
  rw [hn, Bool.false_or] at h
  unfold cyc2Chk at h
  simp only [Bool.and_eq_true, Bool.or_eq_true, decide_eq_true_eq, Bool.not_eq_true'] at h
  obtain ⟨⟨h1, h2⟩, h3⟩ := h
  have a : F26 (k + 40) ((m : Int), cb, t) = F118 (k + 40) ((m : Int), cb, t) := by cases t <;> assumption
  rw [a]
  rcases h3 with h3 | h3
  · rw [ht h3]
  · cases t <;> cases t' <;> first | rfl | exact h3 | exact h3.symm
def H25 (K : Nat) (S : List UInt8) (v3 : UInt8) (v4 : Int) : Option (Int × Bool × Int × Int) :=
    bindO (α := (Int × Bool × Int × Int) ⊕ ((List UInt8) × Int × Int × Bool × Int × Int × Bool × Int)) (bindO (α := (List UInt8) × Int × Bool × Int × Bool × Int × Int × Bool × Int) (branch (decide (v4 = 0))
         (some (S, v4, true, w64 (v3.toNat : Int), false, 0, 0, false, 0))
         (some (S, v4, decide (((S).length : Int) < v4), w64 (v3.toNat : Int), false, 0, 0, false, 0))) fun v5 =>
      branch v5.2.2.1
       (some (.inl (0, false, 0, 0)))
       (some (.inr (v5.1, v5.2.1, v5.2.2.2)))) fun v6 =>
    csO v6
     (fun v7 => some v7)
     (fun v8 => bindO (iter K (F25_b0 K) (v8.1, v8.2.1, w64 (v8.2.1 - 1), v8.2.2)) fun v9 =>
     some (v9.2.1, v9.2.2.1, v9.2.2.2.1, v9.1))
def H139 (K : Nat) (v3 : List UInt8 × Int × Int × Int × Bool × Int) (v4 v6 : Int) : Option (Int × Bool × Int × Int) :=
    bindO (α := (Int × Bool × Int × Int) ⊕ ((List UInt8) × Int × Int × Int × Bool × Int × Int × Bool × Int)) (bindO (α := (List UInt8) × Int × Int × Bool × Int × Bool × Int × Int × Bool × Int) (branch (decide (v6 = 0))
         (some (v3.1, v3.2.1, v6, true, v4, false, 0, v3.2.2.2))
         (some (v3.1, v3.2.1, v6, decide (v3.2.2.1 < v6), v4, false, 0, v3.2.2.2))) fun v7 =>
      branch v7.2.2.2.1
       (some (.inl (0, false, 0, 0)))
       (some (.inr (v7.1, v7.2.1, v7.2.2.1, v7.2.2.2.2)))) fun v8 =>
    csO v8
     (fun v9 => some v9)
     (fun v10 => bindO (α := (List UInt8) × Int × Int × Int × Bool × Int × Int × Bool × Int) (branch (decide (1 < v10.2.2.1))
        (bindO (F195 K (v10.1, w64 (v10.2.1 + 1))) fun v11 =>
        some (v10.1, v10.2.1, v10.2.2.1, v10.2.2.2.1, v10.2.2.2.2.1, v11, v10.2.2.2.2.2.2))
        (some v10)) fun v12 =>
     branch (decide (2 < v12.2.2.1))
      (bindO (F195 K (v12.1, w64 (v12.2.1 + 2))) fun v13 =>
      some (v12.2.2.2.1, v12.2.2.2.2.1, w64 (v12.2.2.2.2.2.1 + (w64 (256 * v13))), v12.2.2.1))
      (some (v12.2.2.2.1, v12.2.2.2.2.1, v12.2.2.2.2.2.1, v12.2.2.1)))
def Rd (r : Int × Bool × Int × Int) : Prop := r.2.2.2 = 0 ∨ ((0 ≤ r.1 ∧ r.1 ≤ 255) ∧ (0 ≤ r.2.2.1 ∧ r.2.2.1 ≤ 65535) ∧ (1 ≤ r.2.2.2 ∧ r.2.2.2 ≤ 3) ∧ (r.2.1 = false → ¬ noC r.1 ∧ ((r.1 % 8 = 6 ∨ r.1 = 224 ∨ r.1 = 232 ∨ r.1 = 240 ∨ r.1 = 248) → r.2.2.1 ≤ 255)))
theorem read3 (k : Nat) (b0 b1 b2 : UInt8) : ∃ r, F25 (k + 40) ([b0, b1, b2], 0) = some r ∧ F139 (k + 40) ([b0, b1, b2], 0) = some r ∧ Rd r := by
  have l : F25 (k + 40) ([b0, b1, b2], 0) = branch (decide ((b0.toNat : Int) = 203)) (some (w64 (b1.toNat : Int), true, 0, 2)) (bindO (F65 (k + 40) (w64 (b0.toNat : Int), false)) fun v4 => H25 (k + 40) [b0, b1, b2] b0 v4) := by kernel_rfl
  have r : F139 (k + 40) ([b0, b1, b2], 0) = branch (decide (w64 (b0.toNat : Int) = 203)) (some (w64 (b1.toNat : Int), true, 0, 2)) (bindO (F196 (k + 40) (w64 (b0.toNat : Int), false)) fun v6 => H139 (k + 40) ([b0, b1, b2], 0, 3, 0, false, 0) (w64 (b0.toNat : Int)) v6) := by kernel_rfl
  have g0 := byte_u8 b0
  have g1 := byte_u8 b1
  have g2 := byte_u8 b2
  have e0 : w64 (b0.toNat : Int) = (b0.toNat : Int) := w64_id (by omega) (by have := b0.toNat_lt; omega)
  rw [l, r]
  by_cases h : (b0.toNat : Int) = 203
  · rw [e0, decide_eq_true h]
    refine ⟨_, rfl, rfl, .inr ⟨g1, ⟨Int.le_refl 0, by dsimp only; omega⟩, ⟨by dsimp only; omega, by dsimp only; omega⟩, fun e => by cases e⟩⟩
  · have h' : ¬ w64 (b0.toNat : Int) = 203 := by rw [e0]; exact h
    rw [decide_eq_false h, decide_eq_false h']
    obtain ⟨n, e1, e2, hn, hv, h6⟩ := len2 k (w64 (b0.toNat : Int)) g0 h'
    rw [e1, e2]
    simp only [branch_f, bindO_s]
    rcases hn with rfl | rfl | rfl | rfl
    · exact ⟨(0, false, 0, 0), by kernel_rfl, by kernel_rfl, .inl rfl⟩
    · exact ⟨(w64 (b0.toNat : Int), false, 0, 1), by kernel_rfl, by kernel_rfl, .inr ⟨g0, ⟨Int.le_refl 0, by dsimp only; omega⟩, ⟨by dsimp only; omega, by dsimp only; omega⟩, fun _ => ⟨hv (by omega), fun _ => by dsimp only; omega⟩⟩⟩
    · refine ⟨(w64 (b0.toNat : Int), false, w64 (b1.toNat : Int), 2), ?_, by kernel_rfl, .inr ⟨g0, ⟨g1.1, by dsimp only; omega⟩, ⟨by dsimp only; omega, by dsimp only; omega⟩, fun _ => ⟨hv (by omega), fun _ => g1.2⟩⟩⟩
      refine Eq.trans (b := some (w64 (b0.toNat : Int), false, bits .or .i64 (shlI .i64 0 8) (w64 (b1.toNat : Int)), 2)) (by kernel_rfl) ?_
      have e := or_join 0 (w64 (b1.toNat : Int)) (by omega) (by omega) g1.1 g1.2
      rw [shl8 0 (by omega) (by omega), e]
      simp only [Int.mul_zero, Int.zero_add]
    · refine ⟨(w64 (b0.toNat : Int), false, w64 (w64 (b1.toNat : Int) + w64 (256 * w64 (b2.toNat : Int))), 3), ?_, by kernel_rfl, .inr ⟨g0, ?_, ⟨by dsimp only; omega, by dsimp only; omega⟩, fun _ => ⟨hv (by omega), fun g => absurd (h6 g) (by omega)⟩⟩⟩
      · refine Eq.trans (b := some (w64 (b0.toNat : Int), false, bits .or .i64 (shlI .i64 (bits .or .i64 (shlI .i64 0 8) (w64 (b2.toNat : Int))) 8) (w64 (b1.toNat : Int)), 3)) (by kernel_rfl) ?_
        have e := or_join 0 (w64 (b2.toNat : Int)) (by omega) (by omega) g2.1 g2.2
        have e' := or_join (w64 (b2.toNat : Int)) (w64 (b1.toNat : Int)) g2.1 (by omega) g1.1 g1.2
        rw [shl8 0 (by omega) (by omega), e]
        simp only [Int.mul_zero, Int.zero_add]
        rw [shl8 (w64 (b2.toNat : Int)) g2.1 (by omega), e', w64_id (n := 256 * w64 (b2.toNat : Int)) (by omega) (by omega), w64_id (n := w64 (b1.toNat : Int) + 256 * w64 (b2.toNat : Int)) (by omega) (by omega), Int.add_comm]
      · dsimp only
        rw [w64_id (n := 256 * w64 (b2.toNat : Int)) (by omega) (by omega), w64_id (n := w64 (b1.toNat : Int) + 256 * w64 (b2.toNat : Int)) (by omega) (by omega)]
        omega
theorem iter_go {α β : Type} {n : Nat} {f : α → Option (α ⊕ β)} {a a' : α} (h : f a = some (.inl a')) : iter (n + 1) f a = iter n f a' := by simp only [iter, h]
theorem iter_end {α β : Type} {n : Nat} {f : α → Option (α ⊕ β)} {a : α} {b : β} (h : f a = some (.inr b)) : iter (n + 1) f a = some b := by simp only [iter, h]
theorem F134_1 (k : Nat) (v : Int) : F134 (k + 40) (v, 1) = some (toB [w8 v]) := by kernel_rfl
theorem fetch3 (k : Nat) (w : WT) (h : WInv qq w) : ∃ r, F98 (k + 40) (WT.m w) = some (r.1, r.2.1, r.2.2.1, r.2.2.2, WT.m w) ∧ F100 (k + 40) (WT.m w) = some r ∧ Rd r := by
  have hp := h.pc
  obtain ⟨v0, e0, _⟩ := F138_t (k + 40) w h ((w.2.2.2.2.2.2.2.2.2.1 + 0) % 65536) (by omega)
  obtain ⟨v1, e1, _⟩ := F138_t (k + 40) w h ((w.2.2.2.2.2.2.2.2.2.1 + 1) % 65536) (by omega)
  obtain ⟨v2, e2, _⟩ := F138_t (k + 40) w h ((w.2.2.2.2.2.2.2.2.2.1 + 2) % 65536) (by omega)
  have n0 : w64 (w.2.2.2.2.2.2.2.2.2.1 + 0) = w.2.2.2.2.2.2.2.2.2.1 + 0 := w64_id (by omega) (by omega)
  have n1 : w64 (w.2.2.2.2.2.2.2.2.2.1 + 1) = w.2.2.2.2.2.2.2.2.2.1 + 1 := w64_id (by omega) (by omega)
  have n2 : w64 (w.2.2.2.2.2.2.2.2.2.1 + 2) = w.2.2.2.2.2.2.2.2.2.1 + 2 := w64_id (by omega) (by omega)
  have m0 : Int.tmod (w.2.2.2.2.2.2.2.2.2.1 + 0) 65536 = (w.2.2.2.2.2.2.2.2.2.1 + 0) % 65536 := tmE (by omega)
  have m1 : Int.tmod (w.2.2.2.2.2.2.2.2.2.1 + 1) 65536 = (w.2.2.2.2.2.2.2.2.2.1 + 1) % 65536 := tmE (by omega)
  have m2 : Int.tmod (w.2.2.2.2.2.2.2.2.2.1 + 2) 65536 = (w.2.2.2.2.2.2.2.2.2.1 + 2) % 65536 := tmE (by omega)
  have fa : ∀ (i : Int) (l : List UInt8) (v : Int), 0 ≤ i ∧ i < 3 → l.length ≤ 3 → F138 (k + 40) (w.1, w.2.1, w.2.2.1, w.2.2.2.1, w.2.2.2.2.1, w.2.2.2.2.2.1, w.2.2.2.2.2.2.1, w.2.2.2.2.2.2.2.1, w.2.2.2.2.2.2.2.2.1, w.2.2.2.2.2.2.2.2.2.1, w.2.2.2.2.2.2.2.2.2.2.1, w.2.2.2.2.2.2.2.2.2.2.2.1, w.2.2.2.2.2.2.2.2.2.2.2.2.1, w.2.2.2.2.2.2.2.2.2.2.2.2.2.1, w.2.2.2.2.2.2.2.2.2.2.2.2.2.2.1, w.2.2.2.2.2.2.2.2.2.2.2.2.2.2.2.1, w.2.2.2.2.2.2.2.2.2.2.2.2.2.2.2.2.1, w.2.2.2.2.2.2.2.2.2.2.2.2.2.2.2.2.2.1, w.2.2.2.2.2.2.2.2.2.2.2.2.2.2.2.2.2.2.1, w.2.2.2.2.2.2.2.2.2.2.2.2.2.2.2.2.2.2.2.1, w.2.2.2.2.2.2.2.2.2.2.2.2.2.2.2.2.2.2.2.2.1, w.2.2.2.2.2.2.2.2.2.2.2.2.2.2.2.2.2.2.2.2.2.1, w.2.2.2.2.2.2.2.2.2.2.2.2.2.2.2.2.2.2.2.2.2.2.1, (w.2.2.2.2.2.2.2.2.2.1 + i) % 65536) = some v → w64 (w.2.2.2.2.2.2.2.2.2.1 + i) = w.2.2.2.2.2.2.2.2.2.1 + i → F98_b0 (k + 40) (l, i, 0, false, 0, WT.m w) = some (.inl (l ++ toB [w8 v], w64 (i + 1), 0, false, 0, WT.m w)) := by
    intro i l v hi hl e en
    have a : F98_b0 (k + 40) (l, i, 0, false, 0, WT.m w) = branch (decide (i < 3)) (bindO (F64 (k + 40) (w64 (w.2.2.2.2.2.2.2.2.2.1 + i), WT.m w)) fun v0 => bindO (F134 (k + 40) (v0.1, 1)) fun v1 => guard (decide ((l.length + v1.length) ≤ 9223372036854775807)) <| some (.inl (l ++ v1, w64 (i + 1), 0, false, 0, WT.m w))) (some (.inr (l, 0, false, 0, WT.m w))) := rfl
    rw [a, decide_eq_true hi.2, branch_t, en, F64_w (k + 40) w h, e]
    simp only [bindO_s, F134_1]
    have : (l.length + (toB [w8 v]).length) ≤ 9223372036854775807 := by rw [toB_length]; simp; omega
    rw [decide_eq_true this, guard_t]
  have fb : ∀ (i : Int) (l : List Int) (v : Int), 0 ≤ i ∧ i < 3 → l.length ≤ 3 → F138 (k + 40) (w.1, w.2.1, w.2.2.1, w.2.2.2.1, w.2.2.2.2.1, w.2.2.2.2.2.1, w.2.2.2.2.2.2.1, w.2.2.2.2.2.2.2.1, w.2.2.2.2.2.2.2.2.1, w.2.2.2.2.2.2.2.2.2.1, w.2.2.2.2.2.2.2.2.2.2.1, w.2.2.2.2.2.2.2.2.2.2.2.1, w.2.2.2.2.2.2.2.2.2.2.2.2.1, w.2.2.2.2.2.2.2.2.2.2.2.2.2.1, w.2.2.2.2.2.2.2.2.2.2.2.2.2.2.1, w.2.2.2.2.2.2.2.2.2.2.2.2.2.2.2.1, w.2.2.2.2.2.2.2.2.2.2.2.2.2.2.2.2.1, w.2.2.2.2.2.2.2.2.2.2.2.2.2.2.2.2.2.1, w.2.2.2.2.2.2.2.2.2.2.2.2.2.2.2.2.2.2.1, w.2.2.2.2.2.2.2.2.2.2.2.2.2.2.2.2.2.2.2.1, w.2.2.2.2.2.2.2.2.2.2.2.2.2.2.2.2.2.2.2.2.1, w.2.2.2.2.2.2.2.2.2.2.2.2.2.2.2.2.2.2.2.2.2.1, w.2.2.2.2.2.2.2.2.2.2.2.2.2.2.2.2.2.2.2.2.2.2.1, (w.2.2.2.2.2.2.2.2.2.1 + i) % 65536) = some v → w64 (w.2.2.2.2.2.2.2.2.2.1 + i) = w.2.2.2.2.2.2.2.2.2.1 + i → Int.tmod (w.2.2.2.2.2.2.2.2.2.1 + i) 65536 = (w.2.2.2.2.2.2.2.2.2.1 + i) % 65536 → F100_b0 (k + 40) (i, l, 0, false, 0, WT.m w) = some (.inl (w64 (i + 1), l ++ [w8 v], 0, false, 0, WT.m w)) := by
    intro i l v hi hl e en em
    have a : F100_b0 (k + 40) (i, l, 0, false, 0, WT.m w) = branch (decide (i < 3)) (bindO (F138 (k + 40) (w.1, w.2.1, w.2.2.1, w.2.2.2.1, w.2.2.2.2.1, w.2.2.2.2.2.1, w.2.2.2.2.2.2.1, w.2.2.2.2.2.2.2.1, w.2.2.2.2.2.2.2.2.1, w.2.2.2.2.2.2.2.2.2.1, w.2.2.2.2.2.2.2.2.2.2.1, w.2.2.2.2.2.2.2.2.2.2.2.1, w.2.2.2.2.2.2.2.2.2.2.2.2.1, w.2.2.2.2.2.2.2.2.2.2.2.2.2.1, w.2.2.2.2.2.2.2.2.2.2.2.2.2.2.1, w.2.2.2.2.2.2.2.2.2.2.2.2.2.2.2.1, w.2.2.2.2.2.2.2.2.2.2.2.2.2.2.2.2.1, w.2.2.2.2.2.2.2.2.2.2.2.2.2.2.2.2.2.1, w.2.2.2.2.2.2.2.2.2.2.2.2.2.2.2.2.2.2.1, w.2.2.2.2.2.2.2.2.2.2.2.2.2.2.2.2.2.2.2.1, w.2.2.2.2.2.2.2.2.2.2.2.2.2.2.2.2.2.2.2.2.1, w.2.2.2.2.2.2.2.2.2.2.2.2.2.2.2.2.2.2.2.2.2.1, w.2.2.2.2.2.2.2.2.2.2.2.2.2.2.2.2.2.2.2.2.2.2.1, Int.tmod (w64 (w.2.2.2.2.2.2.2.2.2.1 + i)) 65536)) fun v0 => guard (fitN (l.length + [w8 v0].length) 1) <| some (.inl (w64 (i + 1), l ++ [w8 v0], 0, false, 0, WT.m w))) (some (.inr (l, 0, false, 0))) := rfl
    rw [a, decide_eq_true hi.2, branch_t, en, em, e]
    have : fitN (l.length + [w8 v].length) 1 = true := by unfold fitN; exact decide_eq_true (by simp; omega)
    simp only [bindO_s, this, guard_t]
  have ea : iter (k + 40) (F98_b0 (k + 40)) ([], 0, 0, false, 0, WT.m w) = some ([] ++ toB [w8 v0] ++ toB [w8 v1] ++ toB [w8 v2], 0, false, 0, WT.m w) := by
    refine (iter_go (n := k + 39) (fa 0 [] v0 (by omega) (by simp) e0 n0)).trans ?_
    refine (iter_go (n := k + 38) (fa 1 _ v1 (by omega) (by simp [toB_length]) e1 n1)).trans ?_
    refine (iter_go (n := k + 37) (fa 2 _ v2 (by omega) (by simp [toB_length]) e2 n2)).trans ?_
    exact iter_end (n := k + 36) rfl
  have eb : iter (k + 40) (F100_b0 (k + 40)) (0, [], 0, false, 0, WT.m w) = some ([] ++ [w8 v0] ++ [w8 v1] ++ [w8 v2], 0, false, 0) := by
    refine (iter_go (n := k + 39) (fb 0 [] v0 (by omega) (by simp) e0 n0 m0)).trans ?_
    refine (iter_go (n := k + 38) (fb 1 _ v1 (by omega) (by simp) e1 n1 m1)).trans ?_
    refine (iter_go (n := k + 37) (fb 2 _ v2 (by omega) (by simp) e2 n2 m2)).trans ?_
    exact iter_end (n := k + 36) rfl
  obtain ⟨b0, hb0⟩ : ∃ b, toB [w8 v0] = [b] := ⟨_, rfl⟩
  obtain ⟨b1, hb1⟩ : ∃ b, toB [w8 v1] = [b] := ⟨_, rfl⟩
  obtain ⟨b2, hb2⟩ : ∃ b, toB [w8 v2] = [b] := ⟨_, rfl⟩
  have hb : toB ([] ++ [w8 v0] ++ [w8 v1] ++ [w8 v2]) = [b0, b1, b2] := by
    have : toB ([] ++ [w8 v0] ++ [w8 v1] ++ [w8 v2]) = toB [w8 v0] ++ toB [w8 v1] ++ toB [w8 v2] := rfl
    rw [this, hb0, hb1, hb2]; rfl
  obtain ⟨r, r1, r2, r3⟩ := read3 k b0 b1 b2
  refine ⟨r, ?_, ?_, r3⟩
  · have a : F98 (k + 40) (WT.m w) = bindO (iter (k + 40) (F98_b0 (k + 40)) ([], 0, 0, false, 0, WT.m w)) fun v0 => bindO (F25 (k + 40) (v0.1, 0)) fun v1 => some (v1.1, v1.2.1, v1.2.2.1, v1.2.2.2, v0.2.2.2.2) := rfl
    have hl : [] ++ toB [w8 v0] ++ toB [w8 v1] ++ toB [w8 v2] = [b0, b1, b2] := by rw [hb0, hb1, hb2]; rfl
    rw [a, ea]
    simp only [bindO_s]
    rw [hl, r1]
    rfl
  · have a : F100 (k + 40) (WT.m w) = bindO (iter (k + 40) (F100_b0 (k + 40)) (0, [], 0, false, 0, WT.m w)) fun v0 => bindO (F139 (k + 40) (toB v0.1, 0)) fun v1 => some v1 := rfl
    rw [a, eb]
    simp only [bindO_s]
    rw [hb, r2]
    rfl
end Go.U.Tryz
namespace Go.U.Tryz
open Go Go.U
set_option maxRecDepth 20000
variable {qq : List UInt8 × Nat × Option Int} {R0 : List UInt8} {n0 : Nat}
def setHalt (w : WT) (b : Bool) : WT := (w.1, w.2.1, w.2.2.1, w.2.2.2.1, w.2.2.2.2.1, w.2.2.2.2.2.1, w.2.2.2.2.2.2.1, w.2.2.2.2.2.2.2.1, w.2.2.2.2.2.2.2.2.1, w.2.2.2.2.2.2.2.2.2.1, w.2.2.2.2.2.2.2.2.2.2.1, b, w.2.2.2.2.2.2.2.2.2.2.2.2)
def spD (K : Nat) (c : Int) (cb : Bool) (imm : Int) (w : WT) : Option (Bool × WT) :=
  branch cb (bindO (F112 K (c, cb, imm, w)) fun r => some (false, r))
   (branch (decide (c < 64)) (F113 K (c, cb, imm, w))
    (branch (decide (c = 118)) (some (false, setHalt w true))
     (branch (decide (c < 128)) (bindO (F115 K (Int.tmod c 8, w)) fun v5 => bindO (F114 K (Int.tmod (w64 (Int.tdiv c 8)) 8, v5.1, w)) fun v6 => some (false, v6))
      (branch (decide (c < 192)) (bindO (F115 K (Int.tmod c 8, w)) fun v7 => bindO (F116 K (Int.tmod (w64 (Int.tdiv c 8)) 8, w.1, v7.1, w.2.1)) fun v8 => some (false, setAF w v8.1 v8.2))
       (F117 K (c, cb, imm, w))))))
theorem run_eq (K : Nat) (c : Int) (cb : Bool) (imm : Int) (w : WT) (h : WInv qq w) (hc : 0 ≤ c ∧ c ≤ 255) (hi : 0 ≤ imm ∧ imm ≤ 65535)
    (hv : cb = false → ¬ noC c ∧ ((c % 8 = 6 ∨ c = 224 ∨ c = 232 ∨ c = 240 ∨ c = 248) → imm ≤ 255)) :
    Al (!cb && condC c) w c cb imm (F110 K (A c cb imm w)) (spD K c cb imm w) := by
  have l : F110 K (A c cb imm w) = branch cb (bindO (F154 K (w64 (Int.tdiv c 64), Int.tmod (w64 (Int.tdiv c 8)) 8, Int.tmod c 8, A c cb imm w)) fun v0 => some (true, v0))
    (branch (decide (w64 (Int.tdiv c 64) = 0)) (bindO (F155 K (Int.tmod (w64 (Int.tdiv c 8)) 8, Int.tmod c 8, A c cb imm w)) fun v1 => some v1)
     (branch (decide (w64 (Int.tdiv c 64) = 3)) (bindO (F156 K (Int.tmod (w64 (Int.tdiv c 8)) 8, Int.tmod c 8, A c cb imm w)) fun v1 => some v1)
      (branch (decide (w64 (Int.tdiv c 64) = 2)) (bindO (F158 K (Int.tmod c 8, A c cb imm w)) fun v3 => bindO (F157 K (Int.tmod (w64 (Int.tdiv c 8)) 8, v3.1, A c cb imm w)) fun v4 => some (true, v4))
       (branch (decide (c = 118)) (some (true, A c cb imm (setHalt w true)))
        (bindO (F158 K (Int.tmod c 8, A c cb imm w)) fun v5 => bindO (F159 K (Int.tmod (w64 (Int.tdiv c 8)) 8, v5.1, A c cb imm w)) fun v6 => some (true, v6)))))) := rfl
  have d64 : w64 (Int.tdiv c 64) = c / 64 := by rw [tdE hc.1, w64_id (by omega) (by omega)]
  have d8 : Int.tmod (w64 (Int.tdiv c 8)) 8 = c / 8 % 8 := by rw [tdE hc.1, w64_id (by omega) (by omega), tmE (by omega)]
  have m8 : Int.tmod c 8 = c % 8 := tmE hc.1
  have hz : 0 ≤ c % 8 ∧ c % 8 ≤ 7 := by omega
  have hy : 0 ≤ c / 8 % 8 ∧ c / 8 % 8 ≤ 7 := by omega
  rw [l]
  unfold spD
  cases cb with
  | true =>
    rw [branch_t, branch_t, F154_eq K c true imm w h hc]
    exact Al.of (F112_t K w h c true imm hc) (fun _ => F112_cy) _ _
  | false =>
    obtain ⟨hn, h6⟩ := hv rfl
    rw [branch_f, branch_f, d64, d8, m8]
    by_cases g1 : c < 64
    · rw [decide_eq_true (show c / 64 = 0 by omega), decide_eq_true g1, branch_t, branch_t, bind_id]
      have e : c / 8 % 8 = c / 8 := by omega
      rw [e]
      exact low_eq K c false imm w h c ⟨hc.1, by omega⟩ hi fun g => h6 (.inl g)
    rw [decide_eq_false (show ¬ c / 64 = 0 by omega), decide_eq_false g1, branch_f, branch_f]
    by_cases g2 : c < 192
    · have nc : condC c = true → false = true := fun g => by have := of_decide_eq_true g; omega
      refine Al.weak c false imm (k := false) ?_ nc
      rw [decide_eq_false (show ¬ c / 64 = 3 by omega), branch_f]
      obtain ⟨⟨b, w'⟩, e, hb, hw'⟩ := F115_t K w h (c % 8) hz
      dsimp only at hb
      by_cases g3 : c < 128
      · rw [decide_eq_false (show ¬ c / 64 = 2 by omega), branch_f]
        by_cases g4 : c = 118
        · rw [decide_eq_true g4, branch_t, branch_t]
          exact Al.ret _ _ rfl fun e => by cases e
        · rw [decide_eq_false g4, branch_f, branch_f, decide_eq_true g3, branch_t, F158_eq K c false imm w h _ hz, e]
          simp only [bindO_s]
          rw [F159_eq K c false imm w h _ b hy hb]
          exact Al.of (F114_t K w h _ b hb) (fun _ => F114_cy) _ _
      · rw [decide_eq_true (show c / 64 = 2 by omega), decide_eq_false (show ¬ c = 118 by omega), decide_eq_false g3, decide_eq_true g2]
        simp only [branch_t, branch_f]
        rw [F158_eq K c false imm w h _ hz, e]
        simp only [bindO_s]
        obtain ⟨v, e2, _⟩ := F116_t K (c / 8 % 8) w.1 b w.2.1 h.a hb ⟨h.f.1, h.f.2.1⟩
        rw [F157_eq K c false imm w h _ b hy hb, e2]
        exact ⟨true, false, setAF w v.1 v.2, rfl, rfl, rfl, fun e => by cases e⟩
    · rw [decide_eq_true (show c / 64 = 3 by omega), decide_eq_false (show ¬ c = 118 by omega), decide_eq_false (show ¬ c < 128 by omega), decide_eq_false g2]
      simp only [branch_t, branch_f]
      rw [bind_id]
      exact high_eq K c false imm w h c ⟨by omega, hc.2⟩ hn hi h6
def D62 (K : Nat) (x : MT) (v1 : Int × Bool × Int × Int) : Option (Bool × MC (Bool × Int × Bool × Int × Int × Int × Int × Int × Int × Int × Int × Int × Int × Int × Bool × Bool × (List UInt8) × Int × Int × (List UInt8) × Int × Bool × Int × (List UInt8) × (List UInt8) × (List Int) × Int × Int × Int × Int × Int × Int × Int × Int × Int × Int × Int × Bool × Bool × (List UInt8) × Int × Int × (List UInt8) × Int × Bool × Int × (List UInt8) × (List UInt8) × (List Int) × Int)) :=
  (branch v1.2.1
       (bindO (F112 K (v1.1, v1.2.1, v1.2.2.1, x.1, x.2.1, x.2.2.1, x.2.2.2.1, pr4 x, pr5 x, pr6 x, pr7 x, pr8 x, Int.tmod (w64 ((pr9 x) + v1.2.2.2)) 65536, pr10 x, pr11 x, pr12 x, pr13 x, pr14 x, pr15 x, pr16 x, pr17 x, pr18 x, pr19 x, pr20 x, pr21 x, er22 x, false)) fun v3 =>
       some (false, v3.1, v3.2.1, v3.2.2.1, v3.2.2.2.1, pr4 v3, pr5 v3, pr6 v3, pr7 v3, pr8 v3, pr9 v3, pr10 v3, pr11 v3, pr12 v3, pr13 v3, pr14 v3, pr15 v3, pr16 v3, pr17 v3, pr18 v3, pr19 v3, pr20 v3, pr21 v3, pr22 v3, er23 v3, v1.1, v1.2.1, v1.2.2.1, 0, 0, 0, 0, 0, 0, 0, 0, 0, 0, false, false, [], 0, 0, [], 0, false, 0, [], [], [], 0, x))
       (branch (decide (v1.1 < 64))
        (bindO (F113 K (v1.1, v1.2.1, v1.2.2.1, x.1, x.2.1, x.2.2.1, x.2.2.2.1, pr4 x, pr5 x, pr6 x, pr7 x, pr8 x, Int.tmod (w64 ((pr9 x) + v1.2.2.2)) 65536, pr10 x, pr11 x, pr12 x, pr13 x, pr14 x, pr15 x, pr16 x, pr17 x, pr18 x, pr19 x, pr20 x, pr21 x, er22 x, false)) fun v4 =>
        some (v4.1, v4.2.1, v4.2.2.1, v4.2.2.2.1, pr4 v4, pr5 v4, pr6 v4, pr7 v4, pr8 v4, pr9 v4, pr10 v4, pr11 v4, pr12 v4, pr13 v4, pr14 v4, pr15 v4, pr16 v4, pr17 v4, pr18 v4, pr19 v4, pr20 v4, pr21 v4, pr22 v4, pr23 v4, er24 v4, v1.1, v1.2.1, v1.2.2.1, 0, 0, 0, 0, 0, 0, 0, 0, 0, 0, false, false, [], 0, 0, [], 0, false, 0, [], [], [], 0, x))
        (branch (decide (v1.1 = 118))
         (some (false, x.1, x.2.1, x.2.2.1, x.2.2.2.1, pr4 x, pr5 x, pr6 x, pr7 x, pr8 x, Int.tmod (w64 ((pr9 x) + v1.2.2.2)) 65536, pr10 x, true, pr12 x, pr13 x, pr14 x, pr15 x, pr16 x, pr17 x, pr18 x, pr19 x, pr20 x, pr21 x, er22 x, false, v1.1, v1.2.1, v1.2.2.1, 0, 0, 0, 0, 0, 0, 0, 0, 0, 0, false, false, [], 0, 0, [], 0, false, 0, [], [], [], 0, x))
         (branch (decide (v1.1 < 128))
          (bindO (F115 K (Int.tmod v1.1 8, x.1, x.2.1, x.2.2.1, x.2.2.2.1, pr4 x, pr5 x, pr6 x, pr7 x, pr8 x, Int.tmod (w64 ((pr9 x) + v1.2.2.2)) 65536, pr10 x, pr11 x, pr12 x, pr13 x, pr14 x, pr15 x, pr16 x, pr17 x, pr18 x, pr19 x, pr20 x, pr21 x, er22 x, false)) fun v5 =>
          bindO (F114 K (Int.tmod (w64 (Int.tdiv v1.1 8)) 8, v5.1, x.1, x.2.1, x.2.2.1, x.2.2.2.1, pr4 x, pr5 x, pr6 x, pr7 x, pr8 x, Int.tmod (w64 ((pr9 x) + v1.2.2.2)) 65536, pr10 x, pr11 x, pr12 x, pr13 x, pr14 x, pr15 x, pr16 x, pr17 x, pr18 x, pr19 x, pr20 x, pr21 x, er22 x, false)) fun v6 =>
          some (false, v6.1, v6.2.1, v6.2.2.1, v6.2.2.2.1, pr4 v6, pr5 v6, pr6 v6, pr7 v6, pr8 v6, pr9 v6, pr10 v6, pr11 v6, pr12 v6, pr13 v6, pr14 v6, pr15 v6, pr16 v6, pr17 v6, pr18 v6, pr19 v6, pr20 v6, pr21 v6, pr22 v6, er23 v6, v1.1, v1.2.1, v1.2.2.1, 0, 0, 0, 0, 0, 0, 0, 0, 0, 0, false, false, [], 0, 0, [], 0, false, 0, [], [], [], 0, x))
          (branch (decide (v1.1 < 192))
           (bindO (F115 K (Int.tmod v1.1 8, x.1, x.2.1, x.2.2.1, x.2.2.2.1, pr4 x, pr5 x, pr6 x, pr7 x, pr8 x, Int.tmod (w64 ((pr9 x) + v1.2.2.2)) 65536, pr10 x, pr11 x, pr12 x, pr13 x, pr14 x, pr15 x, pr16 x, pr17 x, pr18 x, pr19 x, pr20 x, pr21 x, er22 x, false)) fun v7 =>
           bindO (F116 K (Int.tmod (w64 (Int.tdiv v1.1 8)) 8, x.1, v7.1, x.2.1)) fun v8 =>
           some (false, v8.1, v8.2, x.2.2.1, x.2.2.2.1, pr4 x, pr5 x, pr6 x, pr7 x, pr8 x, Int.tmod (w64 ((pr9 x) + v1.2.2.2)) 65536, pr10 x, pr11 x, pr12 x, pr13 x, pr14 x, pr15 x, pr16 x, pr17 x, pr18 x, pr19 x, pr20 x, pr21 x, er22 x, false, v1.1, v1.2.1, v1.2.2.1, 0, 0, 0, 0, 0, 0, 0, 0, 0, 0, false, false, [], 0, 0, [], 0, false, 0, [], [], [], 0, x))
           (bindO (F117 K (v1.1, v1.2.1, v1.2.2.1, x.1, x.2.1, x.2.2.1, x.2.2.2.1, pr4 x, pr5 x, pr6 x, pr7 x, pr8 x, Int.tmod (w64 ((pr9 x) + v1.2.2.2)) 65536, pr10 x, pr11 x, pr12 x, pr13 x, pr14 x, pr15 x, pr16 x, pr17 x, pr18 x, pr19 x, pr20 x, pr21 x, er22 x, false)) fun v9 =>
           some (v9.1, v9.2.1, v9.2.2.1, v9.2.2.2.1, pr4 v9, pr5 v9, pr6 v9, pr7 v9, pr8 v9, pr9 v9, pr10 v9, pr11 v9, pr12 v9, pr13 v9, pr14 v9, pr15 v9, pr16 v9, pr17 v9, pr18 v9, pr19 v9, pr20 v9, pr21 v9, pr22 v9, pr23 v9, er24 v9, v1.1, v1.2.1, v1.2.2.1, 0, 0, 0, 0, 0, 0, 0, 0, 0, 0, false, false, [], 0, 0, [], 0, false, 0, [], [], [], 0, x)))))))
def R62 (K : Nat) (v10 : Bool × MC (Bool × Int × Bool × Int × Int × Int × Int × Int × Int × Int × Int × Int × Int × Int × Bool × Bool × (List UInt8) × Int × Int × (List UInt8) × Int × Bool × Int × (List UInt8) × (List UInt8) × (List Int) × Int × Int × Int × Int × Int × Int × Int × Int × Int × Int × Int × Bool × Bool × (List UInt8) × Int × Int × (List UInt8) × Int × Bool × Int × (List UInt8) × (List UInt8) × (List Int) × Int)) : Option (MC (Int)) :=
    bindO (F118 K ((q24 v10).2.1, (q24 v10).2.2.1, v10.1)) fun v11 =>
    bindO (α := (MC (Int)) ⊕ (MC (Bool × Int × Int × Int × Int × Int × Int × Int × Int × Int × Int × Bool × Bool × (List UInt8) × Int × Int × (List UInt8) × Int × Bool × Int × (List UInt8) × (List UInt8) × (List Int) × Int))) (bindO (α := Bool × MC (Bool × Int × Int × Int × Int × Int × Int × Int × Int × Int × Int × Bool × Bool × (List UInt8) × Int × Int × (List UInt8) × Int × Bool × Int × (List UInt8) × (List UInt8) × (List Int) × Int × Int × Int × Int × Int × Int × Int × Int × Int × Int × Int × Bool × Bool × (List UInt8) × Int × Int × (List UInt8) × Int × Bool × Int × (List UInt8) × (List UInt8) × (List Int) × Int)) (branch (pr24 v10)
         (some (true, v10.2.1, v10.2.2.1, v10.2.2.2.1, pr4 v10, pr5 v10, pr6 v10, pr7 v10, pr8 v10, pr9 v10, pr10 v10, pr11 v10, pr12 v10, pr13 v10, pr14 v10, pr15 v10, pr16 v10, pr17 v10, pr18 v10, pr19 v10, pr20 v10, pr21 v10, pr22 v10, w64 ((q24 (q24 (q24 v10))).2 + v11), pr24 v10, er4 (q24 v10)))
         (some (decide (1000000000 < (w64 ((q24 (q24 (q24 v10))).2 + v11))), v10.2.1, v10.2.2.1, v10.2.2.2.1, pr4 v10, pr5 v10, pr6 v10, pr7 v10, pr8 v10, pr9 v10, pr10 v10, pr11 v10, pr12 v10, pr13 v10, pr14 v10, pr15 v10, pr16 v10, pr17 v10, pr18 v10, pr19 v10, pr20 v10, pr21 v10, pr22 v10, w64 ((q24 (q24 (q24 v10))).2 + v11), pr24 v10, er4 (q24 v10)))) fun v12 =>
      branch v12.1
       (bindO (F89 K (er24 (q24 v12))) fun v13 =>
       some (.inl (v13.1, v13.2.1, v13.2.2.1, v13.2.2.2.1, pr4 v13, pr5 v13, pr6 v13, pr7 v13, pr8 v13, pr9 v13, pr10 v13, pr11 v13, pr12 v13, pr13 v13, pr14 v13, pr15 v13, pr16 v13, pr17 v13, pr18 v13, pr19 v13, pr20 v13, pr21 v13, er22 v13, 4)))
       (some (.inr (v12.2.1, v12.2.2.1, v12.2.2.2.1, pr4 v12, pr5 v12, pr6 v12, pr7 v12, pr8 v12, pr9 v12, pr10 v12, pr11 v12, pr12 v12, pr13 v12, pr14 v12, pr15 v12, pr16 v12, pr17 v12, pr18 v12, pr19 v12, pr20 v12, pr21 v12, pr22 v12, pr23 v12, pr24 v12, (q24 v12).2.1, (q24 v12).2.2.1, (q24 v12).2.2.2.1, pr4 (q24 v12), pr5 (q24 v12), pr6 (q24 v12), pr7 (q24 v12), pr8 (q24 v12), pr9 (q24 v12), pr10 (q24 v12), pr11 (q24 v12), pr12 (q24 v12), pr13 (q24 v12), pr14 (q24 v12), pr15 (q24 v12), pr16 (q24 v12), pr17 (q24 v12), pr18 (q24 v12), pr19 (q24 v12), pr20 (q24 v12), pr21 (q24 v12), pr22 (q24 v12), pr23 (q24 v12))))) fun v14 =>
    csO v14
     (fun v15 => some v15)
     (fun v16 => bindO (F89 K (v16.1, v16.2.1, v16.2.2.1, v16.2.2.2.1, pr4 v16, pr5 v16, pr6 v16, pr7 v16, pr8 v16, pr9 v16, pr10 v16, pr11 v16, pr12 v16, pr13 v16, pr14 v16, pr15 v16, pr16 v16, pr17 v16, pr18 v16, pr19 v16, pr20 v16, pr21 v16, pr22 v16)) fun v17 =>
     some (v17.1, v17.2.1, v17.2.2.1, v17.2.2.2.1, pr4 v17, pr5 v17, pr6 v17, pr7 v17, pr8 v17, pr9 v17, pr10 v17, pr11 v17, pr12 v17, pr13 v17, pr14 v17, pr15 v17, pr16 v17, pr17 v17, pr18 v17, pr19 v17, pr20 v17, pr21 v17, er22 v17, 0))
def pack (t : Bool) (r : WT) (c : Int) (cb : Bool) (imm : Int) (x : MT) : Bool × MC (Bool × Int × Bool × Int × Int × Int × Int × Int × Int × Int × Int × Int × Int × Int × Bool × Bool × (List UInt8) × Int × Int × (List UInt8) × Int × Bool × Int × (List UInt8) × (List UInt8) × (List Int) × Int × Int × Int × Int × Int × Int × Int × Int × Int × Int × Int × Bool × Bool × (List UInt8) × Int × Int × (List UInt8) × Int × Bool × Int × (List UInt8) × (List UInt8) × (List Int) × Int) := (t, r.1, r.2.1, r.2.2.1, r.2.2.2.1, r.2.2.2.2.1, r.2.2.2.2.2.1, r.2.2.2.2.2.2.1, r.2.2.2.2.2.2.2.1, r.2.2.2.2.2.2.2.2.1, r.2.2.2.2.2.2.2.2.2.1, r.2.2.2.2.2.2.2.2.2.2.1, r.2.2.2.2.2.2.2.2.2.2.2.1, r.2.2.2.2.2.2.2.2.2.2.2.2.1, r.2.2.2.2.2.2.2.2.2.2.2.2.2.1, r.2.2.2.2.2.2.2.2.2.2.2.2.2.2.1, r.2.2.2.2.2.2.2.2.2.2.2.2.2.2.2.1, r.2.2.2.2.2.2.2.2.2.2.2.2.2.2.2.2.1, r.2.2.2.2.2.2.2.2.2.2.2.2.2.2.2.2.2.1, r.2.2.2.2.2.2.2.2.2.2.2.2.2.2.2.2.2.2.1, r.2.2.2.2.2.2.2.2.2.2.2.2.2.2.2.2.2.2.2.1, r.2.2.2.2.2.2.2.2.2.2.2.2.2.2.2.2.2.2.2.2.1, r.2.2.2.2.2.2.2.2.2.2.2.2.2.2.2.2.2.2.2.2.2.1, cyc r, r.2.2.2.2.2.2.2.2.2.2.2.2.2.2.2.2.2.2.2.2.2.2.2, c, cb, imm, 0, 0, 0, 0, 0, 0, 0, 0, 0, 0, false, false, [], 0, 0, [], 0, false, 0, [], [], [], 0, x)
theorem D62_eq (K : Nat) (x : MT) (v1 : Int × Bool × Int × Int) : D62 K x v1 = bindO (spD K v1.1 v1.2.1 v1.2.2.1 (setPc x.w (Int.tmod (w64 (x.2.2.2.2.2.2.2.2.2.1 + v1.2.2.2)) 65536))) fun r => some (pack r.1 r.2 v1.1 v1.2.1 v1.2.2.1 x) := by
  unfold D62 spD
  cases v1.2.1 with
  | true => simp only [branch_t, bind_bind, bindO_s]; rfl
  | false =>
    simp only [branch_f]
    cases decide (v1.1 < 64) with
    | true => simp only [branch_t, bind_bind, bindO_s]; rfl
    | false =>
      simp only [branch_f]
      cases decide (v1.1 = 118) with
      | true => rfl
      | false =>
        simp only [branch_f]
        cases decide (v1.1 < 128) with
        | true => simp only [branch_t, bind_bind, bindO_s]; rfl
        | false =>
          simp only [branch_f]
          cases decide (v1.1 < 192) with
          | true => simp only [branch_t, bind_bind, bindO_s]; rfl
          | false => simp only [branch_f, bind_bind, bindO_s]; rfl
end Go.U.Tryz
namespace Go.U.Tryz
open Go Go.U
set_option maxRecDepth 20000
variable {qq : List UInt8 × Nat × Option Int} {R0 : List UInt8} {n0 : Nat}
def G60 (v0 : Int × Bool × Int × Int × Int × Int × Int × Int × Int × Int × Int × Int × Int × Int × Bool × Bool × (List UInt8) × Int × Int × (List UInt8) × Int × Bool × Int × (List UInt8) × (List UInt8) × (List Int) × Int) (v1 : Bool × AT) (v2 : Int) : Option (MC (Int)) :=
  bindO (α := Bool × MC (Int × Int × Int × Int × Int × Int × Int × Int × Int × Int × Bool × Bool × (List UInt8) × Int × Int × (List UInt8) × Int × Bool × Int × (List UInt8) × (List UInt8) × (List Int) × Int × Int × Int × Int × Int × Int × Int × Int × Int × Int × Int × Bool × Bool × (List UInt8) × Int × Int × (List UInt8) × Int × Bool × Int × (List UInt8) × (List UInt8) × (List Int) × Int)) (branch (pr4 v1)
       (some (true, pr5 v1, pr6 v1, pr7 v1, pr8 v1, pr9 v1, pr10 v1, pr11 v1, pr12 v1, pr13 v1, pr14 v1, pr15 v1, pr16 v1, pr17 v1, pr18 v1, pr19 v1, pr20 v1, pr21 v1, pr22 v1, pr23 v1, pr24 v1, (q24 v1).2.1, (q24 v1).2.2.1, w64 ((q24 v1).2.2.2 + v2), 0, 0, 0, 0, 0, 0, 0, 0, 0, 0, false, false, [], 0, 0, [], 0, false, 0, [], [], [], 0, er4 v0))
       (some (decide (1000000000 < (w64 ((q24 v1).2.2.2 + v2))), pr5 v1, pr6 v1, pr7 v1, pr8 v1, pr9 v1, pr10 v1, pr11 v1, pr12 v1, pr13 v1, pr14 v1, pr15 v1, pr16 v1, pr17 v1, pr18 v1, pr19 v1, pr20 v1, pr21 v1, pr22 v1, pr23 v1, pr24 v1, (q24 v1).2.1, (q24 v1).2.2.1, w64 ((q24 v1).2.2.2 + v2), 0, 0, 0, 0, 0, 0, 0, 0, 0, 0, false, false, [], 0, 0, [], 0, false, 0, [], [], [], 0, er4 v0))) fun v3 =>
    branch v3.1
     (some (pr23 (q24 v3), pr24 (q24 v3), (q24 (q24 v3)).2.1, (q24 (q24 v3)).2.2.1, (q24 (q24 v3)).2.2.2.1, pr4 (q24 (q24 v3)), pr5 (q24 (q24 v3)), pr6 (q24 (q24 v3)), pr7 (q24 (q24 v3)), pr8 (q24 (q24 v3)), pr9 (q24 (q24 v3)), pr10 (q24 (q24 v3)), pr11 (q24 (q24 v3)), pr12 (q24 (q24 v3)), pr13 (q24 (q24 v3)), pr14 (q24 (q24 v3)), pr15 (q24 (q24 v3)), pr16 (q24 (q24 v3)), pr17 (q24 (q24 v3)), pr18 (q24 (q24 v3)), pr19 (q24 (q24 v3)), pr20 (q24 (q24 v3)), er21 (q24 (q24 v3)), 4))
     (some (v3.2.1, v3.2.2.1, v3.2.2.2.1, pr4 v3, pr5 v3, pr6 v3, pr7 v3, pr8 v3, pr9 v3, pr10 v3, pr11 v3, pr12 v3, pr13 v3, pr14 v3, pr15 v3, pr16 v3, pr17 v3, pr18 v3, pr19 v3, pr20 v3, pr21 v3, pr22 v3, pr23 v3, 0))
def out (w : WT) (c : Int) : MC (Int) := (w.1, w.2.1, w.2.2.1, w.2.2.2.1, w.2.2.2.2.1, w.2.2.2.2.2.1, w.2.2.2.2.2.2.1, w.2.2.2.2.2.2.2.1, w.2.2.2.2.2.2.2.2.1, w.2.2.2.2.2.2.2.2.2.1, w.2.2.2.2.2.2.2.2.2.2.1, w.2.2.2.2.2.2.2.2.2.2.2.1, w.2.2.2.2.2.2.2.2.2.2.2.2.1, w.2.2.2.2.2.2.2.2.2.2.2.2.2.1, w.2.2.2.2.2.2.2.2.2.2.2.2.2.2.1, w.2.2.2.2.2.2.2.2.2.2.2.2.2.2.2.1, w.2.2.2.2.2.2.2.2.2.2.2.2.2.2.2.2.1, w.2.2.2.2.2.2.2.2.2.2.2.2.2.2.2.2.2.1, w.2.2.2.2.2.2.2.2.2.2.2.2.2.2.2.2.2.2.1, w.2.2.2.2.2.2.2.2.2.2.2.2.2.2.2.2.2.2.2.1, w.2.2.2.2.2.2.2.2.2.2.2.2.2.2.2.2.2.2.2.2.1, w.2.2.2.2.2.2.2.2.2.2.2.2.2.2.2.2.2.2.2.2.2.1, w.2.2.2.2.2.2.2.2.2.2.2.2.2.2.2.2.2.2.2.2.2.2.1, c)
def fin (b : Bool) (w w' : WT) (n : Int) : MC (Int) := cond b (out w 4) (out (setCyc w' n) 0)
theorem G60_eq (c : Int) (cb : Bool) (imm n l : Int) (t : Bool) (w w' : WT) (r : Int × Bool × Int) :
    G60 (r.1, r.2.1, r.2.2, l, WT.m w) (t, A c cb imm w') n = some (fin (w'.2.2.2.2.2.2.2.2.2.2.2.2.2.2.2.2.2.2.2.2.2.2.2 || decide (1000000000 < w64 (cyc w' + n))) w w' (w64 (cyc w' + n))) := by
  unfold G60
  dsimp only [A, pr4, er4, pr5, pr6, er6, pr7, pr8, pr9, pr10, pr11, er11, pr12, pr13, pr14, er14, pr15, pr16, pr17, pr18, pr19, pr20, pr21, er21, pr22, er22, pr23, er23, pr24, er24, q24]
  generalize w'.2.2.2.2.2.2.2.2.2.2.2.2.2.2.2.2.2.2.2.2.2.2.2 = q
  cases q with
  | true => rfl
  | false =>
    simp only [branch_f, bindO_s, Bool.false_or]
    show branch (decide (1000000000 < w64 (cyc w' + n))) _ _ = _
    generalize decide (1000000000 < w64 (cyc w' + n)) = b
    cases b <;> rfl
theorem R62_eq (k : Nat) (c : Int) (cb : Bool) (imm n : Int) (t : Bool) (w w' : WT) (h : WInv qq w) (h' : WInv qq w') (e : F118 (k + 40) (c, cb, t) = some n) (ec : cyc w' = cyc w) :
    R62 (k + 40) (pack t w' c cb imm (WT.m w)) = some (fin (w'.2.2.2.2.2.2.2.2.2.2.2.2.2.2.2.2.2.2.2.2.2.2.2 || decide (1000000000 < w64 (cyc w' + n))) w w' (w64 (cyc w' + n))) := by
  have o1 : F89 (k + 40) (WT.m w) = some (WT.m w) := F89_eq (k + 40) (WT.m w) h.out.2
  have o2 : ∀ x, F89 (k + 40) (WT.m (setCyc w' x)) = some (WT.m (setCyc w' x)) := fun x => F89_eq (k + 40) (WT.m (setCyc w' x)) h'.out.2
  unfold R62
  refine (congrArg (fun z => bindO z _) e).trans ?_
  simp only [bindO_s]
  dsimp only [pack, pr4, er4, pr5, pr6, er6, pr7, pr8, pr9, pr10, pr11, er11, pr12, pr13, pr14, er14, pr15, pr16, pr17, pr18, pr19, pr20, pr21, er21, pr22, er22, pr23, er23, pr24, er24, q24]
  rw [ec]
  generalize w'.2.2.2.2.2.2.2.2.2.2.2.2.2.2.2.2.2.2.2.2.2.2.2 = q
  cases q with
  | true =>
    simp only [branch_t, bindO_s, Bool.true_or]
    refine (congrArg (fun z => bindO (bindO z _) _) o1).trans ?_
    rfl
  | false =>
    simp only [branch_f, bindO_s, Bool.false_or]
    show bindO (branch (decide (1000000000 < w64 (cyc w + n))) _ _) _ = _
    generalize decide (1000000000 < w64 (cyc w + n)) = b
    cases b with
    | true =>
      simp only [branch_t]
      refine (congrArg (fun z => bindO (bindO z _) _) o1).trans ?_
      rfl
    | false =>
      simp only [branch_f, bindO_s, csO_r]
      refine (congrArg (fun z => bindO z _) (o2 (w64 (cyc w + n)))).trans ?_
      rfl
theorem spD_t (K : Nat) (c : Int) (cb : Bool) (imm : Int) (w : WT) (h : WInv qq w) (hc : 0 ≤ c ∧ c ≤ 255) (hi : 0 ≤ imm ∧ imm ≤ 65535) (h6 : cb = false → c % 8 = 6 → imm ≤ 255) (hq : qq.2.2 = none ∨ cb = true ∨ c < 64 ∧ c % 8 ≠ 0 ∨ 64 ≤ c ∧ c < 192) :
    T (spD K c cb imm w) fun r => WInv qq r.2 := by
  have hz : 0 ≤ Int.tmod c 8 ∧ Int.tmod c 8 ≤ 7 := by (((try (simp (disch := omega) only [w64_id, w64u_id, tmE, tdE])); first | omega | done))
  have hqF : cb = false → c < 64 → (qq.2.2 = none ∨ c % 8 ≠ 0) := fun hcb hlt => by
    rcases hq with e | e | e | e
    · exact .inl e
    · exact absurd (hcb.symm.trans e) nofun
    · exact .inr e.2
    · omega
  have hqT : cb = false → ¬ c < 64 → ¬ c < 192 → qq.2.2 = none := fun hcb h64 h192 => by
    rcases hq with e | e | e | e
    · exact e
    · exact absurd (hcb.symm.trans e) nofun
    · omega
    · omega
  unfold spD
  refine T.br (fun _ => T.bind (F112_t _ _ h _ _ _ hc) fun r hr => T.ret hr) fun gcb => ?_
  refine T.br (fun g2 => F113_t _ _ h _ _ _ ⟨hc.1, by have := of_decide_eq_true g2; omega⟩ hi (h6 gcb) (hqF gcb (of_decide_eq_true g2))) fun g64 => ?_
  refine T.br (fun _ => T.ret (h.set_halted true)) fun _ => ?_
  refine T.br (fun _ => T.bind (F115_t _ _ h _ hz) fun r hr => T.bind (F114_t _ _ h _ _ hr.1) fun r2 hr2 => T.ret hr2) fun _ => ?_
  refine T.br (fun _ => T.bind (F115_t _ _ h _ hz) fun r hr => T.bind (F116_t _ _ _ _ _ h.a hr.1 ⟨h.f.1, h.f.2.1⟩) fun r2 hr2 => T.ret (h.set_af hr2.1 hr2.2)) fun g192 => ?_
  have ho := hqT gcb (of_decide_eq_false g64) (of_decide_eq_false g192)
  obtain ⟨R1, n1, o1⟩ := qq
  dsimp only at ho
  subst ho
  exact F117_t _ _ h _ _ _ hc hi (h6 gcb)
theorem step_eq (k : Nat) (w : WT) (h : WInv (R0, n0, none) w) : F60 (k + 40) (WT.m w) = F62 (k + 40) (WT.m w) := by
  have o1 : F89 (k + 40) (WT.m w) = some (WT.m w) := F89_eq (k + 40) (WT.m w) h.out.2
  have l : F60 (k + 40) (WT.m w) = branch w.2.2.2.2.2.2.2.2.2.2.2.1 (some (out w 1)) (bindO (F98 (k + 40) (WT.m w)) fun v0 => branch (decide (v0.2.2.2.1 = 0)) (some (out (MT.w v0.2.2.2.2) 2)) (bindO (F110 (k + 40) (A v0.1 v0.2.1 v0.2.2.1 (setPc (MT.w v0.2.2.2.2) (bits .and .i64 (w64 (v0.2.2.2.2.2.2.2.2.2.2.2.2.2.1 + v0.2.2.2.1)) 65535)))) fun v1 => bindO (F26 (k + 40) (v0.1, v0.2.1, v1.1)) fun v2 => G60 v0 v1 v2)) := rfl
  have r : F62 (k + 40) (WT.m w) = branch w.2.2.2.2.2.2.2.2.2.2.2.1 (bindO (F89 (k + 40) (WT.m w)) fun v0 => some (out (MT.w v0) 1)) (bindO (F100 (k + 40) (WT.m w)) fun v1 => branch (decide (v1.2.2.2 = 0)) (bindO (F89 (k + 40) (WT.m w)) fun v2 => some (out (MT.w v2) 2)) (bindO (D62 (k + 40) (WT.m w) v1) fun v10 => R62 (k + 40) v10)) := rfl
  rw [l, r, o1]
  cases w.2.2.2.2.2.2.2.2.2.2.2.1 with
  | true => rfl
  | false =>
    simp only [branch_f]
    obtain ⟨⟨c, cb, imm, n⟩, e1, e2, e3⟩ := fetch3 k w h
    rw [e1, e2]
    simp only [bindO_s]
    by_cases g : n = 0
    · rw [decide_eq_true g]; rfl
    · rw [decide_eq_false g]
      simp only [branch_f]
      obtain ⟨hc, him, hn, hv⟩ : _ ∧ _ ∧ _ ∧ _ := e3.resolve_left g
      dsimp only at hc him hn hv
      have hp := h.pc
      have hm : Int.tmod (w64 (w.2.2.2.2.2.2.2.2.2.1 + n)) 65536 = bits .and .i64 (w64 (w.2.2.2.2.2.2.2.2.2.1 + n)) 65535 := by rw [w64_id (by omega) (by omega), and65535, tmE (by omega)]
      have hp2 : 0 ≤ bits .and .i64 (w64 (w.2.2.2.2.2.2.2.2.2.1 + n)) 65535 ∧ bits .and .i64 (w64 (w.2.2.2.2.2.2.2.2.2.1 + n)) 65535 ≤ 65535 := by rw [and65535]; omega
      rw [D62_eq]
      show bindO (F110 (k + 40) (A c cb imm (setPc (MT.w (WT.m w)) (bits .and .i64 (w64 (w.2.2.2.2.2.2.2.2.2.1 + n)) 65535)))) (fun v1 => bindO (F26 (k + 40) (c, cb, v1.1)) fun v2 => G60 (c, cb, imm, n, WT.m w) v1 v2) = bindO (bindO (spD (k + 40) c cb imm (setPc (MT.w (WT.m w)) (Int.tmod (w64 (w.2.2.2.2.2.2.2.2.2.1 + n)) 65536))) fun r => some (pack r.1 r.2 c cb imm (WT.m w))) fun v10 => R62 (k + 40) v10
      rw [hm]
      have hw : WInv (R0, n0, none) (setPc (MT.w (WT.m w)) (bits .and .i64 (w64 (w.2.2.2.2.2.2.2.2.2.1 + n)) 65535)) := (h.set_full false).set_pc rfl hp2
      obtain ⟨t, t', w', q1, q2, q3, q4⟩ := run_eq (k + 40) c cb imm _ hw hc him hv
      obtain ⟨⟨t2, w2⟩, q5, q6⟩ := spD_t (k + 40) c cb imm _ hw hc him (fun a b => (hv a).2 (.inl b)) (.inl rfl)
      rw [q2] at q5
      have q7 := Option.some.inj q5
      have q8 : w' = w2 := congrArg Prod.snd q7
      have hw' : WInv (R0, n0, none) w' := by rw [q8]; exact q6
      rw [q1, q2]
      simp only [bindO_s]
      obtain ⟨n6, z1, z2⟩ := F118_t k c cb t' hc
      have z3 := cyc2 k c cb hc (fun a => (hv a).1) t t' (fun a => q4 (by rw [a.1, a.2]; rfl))
      rw [z3, z1]
      simp only [bindO_s]
      rw [R62_eq k c cb imm n6 t' w w' h hw' z1 q3]
      exact G60_eq c cb imm n6 n t w w' (c, cb, imm)
end Go.U.Tryz
namespace Go.U.Tryz
open Go Go.U
set_option maxRecDepth 20000
variable {qq : List UInt8 × Nat × Option Int} {R0 : List UInt8} {n0 : Nat}
theorem F75_eq (K : Nat) (c0 c1 c2 c3 c4 c5 c6 c7 c8 c9 : Int) (b0 b1 : Bool) : F75 K (c0, c1, c2, c3, c4, c5, c6, c7, c8, c9, b0, b1, c0, c1, c2, c3, c4, c5, c6, c7, c8, c9, b0, b1) = some true := by simp [F75, branch_t, branch_f]
theorem F76_eq (K : Nat) (rom : List UInt8) (k1 k2 : Int) (ram : List UInt8) (k3 : Int) (kb : Bool) (k4 : Int) : F76 K (rom, k1, k2, ram, k3, kb, k4, rom, k1, k2, ram, k3, kb, k4) = some true := by simp [F76, branch_t, branch_f]
theorem F77_eq (K : Nat) (xs : List Int) (hl : xs.length ≤ maxLen) (hK : xs.length < K) : F77 K (xs, xs) = some true := by
  unfold maxLen at hl
  have h := loop_all (f := F77_b0 K) (fun i => (xs, xs, (i : Int))) xs (fun _ => true) (.inl false) (.inr ()) (fun i v hv hi => by
    have e1 : ((i : Int) < (xs.length : Int)) := by omega
    have e3 : w64 ((i : Int) + 1) = ((i + 1 : Nat) : Int) := by rw [w64_id (by omega) (by omega)]; omega
    simp only [F77_b0, branch_ite, if_pos e1, nth_s hv, e3, decide_true, Bool.not_true, branch_f, cond]) (by
    have e1 : ¬ ((xs.length : Int) < (xs.length : Int)) := by omega
    simp only [F77_b0, branch_ite, if_neg e1]) K hK
  replace h : iter K (F77_b0 K) (xs, xs, 0) = _ := h
  simp only [F77, decide_true, Bool.not_true, branch_f, h, bindO_s]
  rw [List.all_eq_true.2 (fun _ _ => rfl)]
  rfl
theorem F29_eq (K : Nat) (c0 c1 c2 c3 c4 c5 c6 c7 c8 c9 : Int) (b0 b1 : Bool) (rom : List UInt8) (k1 k2 : Int) (ram : List UInt8) (k3 : Int) (kb : Bool) (k4 : Int) (s1 s2 : List UInt8) (st : List Int) (n : Int) (hl : st.length ≤ maxLen) (hK : st.length + 8 < K) : F29 K (c0, c1, c2, c3, c4, c5, c6, c7, c8, c9, b0, b1, rom, k1, k2, ram, k3, kb, k4, s1, s2, st, n, c0, c1, c2, c3, c4, c5, c6, c7, c8, c9, b0, b1, rom, k1, k2, ram, k3, kb, k4, s1, s2, st, n) = some true := by
  simp only [F29, F75_eq, F76_eq, F77_eq K st hl (by omega), bindO_s, Bool.not_true, branch_f, decide_true]
theorem F74o_eq (K : Nat) (xs : List Int) (hl : xs.length ≤ 1048576) (hK : xs.length < K) : F74o K xs = some xs := by
  have h := loop_copy0 (f := F74o_b0 K) (fun i zs => (xs, (i : Int), zs)) xs id (fun i zs v hv hi hz => by
    have e1 : ((i : Int) < (xs.length : Int)) := by omega
    have e2 : (0 ≤ (i : Int) ∧ (i : Int) < (zs.length : Int)) := by omega
    have e3 : w64 ((i : Int) + 1) = ((i + 1 : Nat) : Int) := by rw [w64_id (by omega) (by omega)]; omega
    have e4 : zs[i]? = some zs[i] := List.getElem?_eq_getElem (by omega)
    simp only [F74o_b0, branch_ite, if_pos e1, nth_s hv, guard_dec e2, Int.toNat_natCast, nthN_s e4, e3, id]) (fun zs hz => by
    have e1 : ¬ ((xs.length : Int) < (xs.length : Int)) := by omega
    simp only [F74o_b0, branch_ite, if_neg e1]) K (List.replicate ((xs.length : Int).toNat) 0) (by simp) hK
  rw [List.map_id] at h
  replace h : iter K (F74o_b0 K) (xs, 0, List.replicate ((xs.length : Int).toNat) 0) = some xs := h
  unfold F74o
  rw [guard_dec ⟨rfl, by omega, by simp; omega⟩, h]
  rfl
theorem F28_eq (K : Nat) (c0 c1 c2 c3 c4 c5 c6 c7 c8 c9 : Int) (b0 b1 : Bool) (rom : List UInt8) (k1 k2 : Int) (ram : List UInt8) (k3 : Int) (kb : Bool) (k4 : Int) (s1 s2 : List UInt8) (st : List Int) (n : Int) (hl : st.length ≤ 1048576) (hK : st.length + 8 < K) : F28 K (c0, c1, c2, c3, c4, c5, c6, c7, c8, c9, b0, b1, rom, k1, k2, ram, k3, kb, k4, s1, s2, st, n) = some (c0, c1, c2, c3, c4, c5, c6, c7, c8, c9, b0, b1, rom, k1, k2, ram, k3, kb, k4, s1, s2, st, n) := by
  simp only [F28, F72, F73, F74o_eq K st hl (by omega), bindO_s]
theorem F28o_eq (K : Nat) (c0 c1 c2 c3 c4 c5 c6 c7 c8 c9 : Int) (b0 b1 : Bool) (rom : List UInt8) (k1 k2 : Int) (ram : List UInt8) (k3 : Int) (kb : Bool) (k4 : Int) (s1 s2 : List UInt8) (st : List Int) (n : Int) (hl : st.length ≤ 1048576) (hK : st.length + 8 < K) : F28o K (c0, c1, c2, c3, c4, c5, c6, c7, c8, c9, b0, b1, rom, k1, k2, ram, k3, kb, k4, s1, s2, st, n) = some (c0, c1, c2, c3, c4, c5, c6, c7, c8, c9, b0, b1, rom, k1, k2, ram, k3, kb, k4, s1, s2, n, st) := by
  simp only [F28o, F72, F73, F74o_eq K st hl (by omega), bindO_s]
theorem F70_eq (K : Nat) (rom : List UInt8) (k1 k2 : Int) (ram : List UInt8) (k3 : Int) (kb : Bool) (k4 m : Int) (h1 : rom.length ≤ maxLen) (h2 : ram.length ≤ maxLen) (hm : 0 ≤ m) (hm' : m ≤ 1048576) : ∃ r, F70 K (rom, k1, k2, ram, k3, kb, k4, m) = some r ∧ r ≤ 1048576 := by
  unfold maxLen at h1 h2
  have e1 : w64 (m - (rom.length : Int)) = m - (rom.length : Int) := w64_id (by omega) (by omega)
  simp only [F70, e1, branch_ite]
  split
  · exact ⟨_, rfl, by omega⟩
  · have e2 : w64 (m - (rom.length : Int) - (ram.length : Int)) = m - (rom.length : Int) - (ram.length : Int) := w64_id (by omega) (by omega)
    rw [e2]
    split
    · exact ⟨_, rfl, by omega⟩
    · exact ⟨_, rfl, by omega⟩
theorem F27_eq (K : Nat) (c0 c1 c2 c3 c4 c5 c6 c7 c8 c9 : Int) (b0 b1 : Bool) (rom : List UInt8) (k1 k2 : Int) (ram : List UInt8) (k3 : Int) (kb : Bool) (k4 : Int) (s1 s2 : List UInt8) (st : List Int) (n : Int) (h1 : rom.length ≤ maxLen) (h2 : ram.length ≤ maxLen) (h3 : s1.length ≤ maxLen) (h4 : s2.length ≤ maxLen) (h5 : st.length ≤ maxLen) :
    ∃ r, F27 K (c0, c1, c2, c3, c4, c5, c6, c7, c8, c9, b0, b1, rom, k1, k2, ram, k3, kb, k4, s1, s2, st, n, 1048576) = some r ∧ (0 ≤ r → st.length ≤ 1048576) := by
  obtain ⟨r, hr, hr'⟩ := F70_eq K rom k1 k2 ram k3 kb k4 1048576 h1 h2 (by omega) (by omega)
  unfold maxLen at h3 h4 h5
  simp only [F27, hr, bindO_s, branch_ite]
  split
  · exact ⟨_, rfl, by omega⟩
  · rename_i g1
    have g1' : ¬ r < 0 := by simpa using g1
    have e1 : w64 (r - (s1.length : Int)) = r - (s1.length : Int) := w64_id (by omega) (by omega)
    rw [e1]
    split
    · exact ⟨_, rfl, by omega⟩
    · have e2 : w64 (r - (s1.length : Int) - (s2.length : Int)) = r - (s1.length : Int) - (s2.length : Int) := w64_id (by omega) (by omega)
      rw [e2]
      split
      · exact ⟨_, rfl, by omega⟩
      · have e3 : w64 (r - (s1.length : Int) - (s2.length : Int) - (st.length : Int)) = r - (s1.length : Int) - (s2.length : Int) - (st.length : Int) := w64_id (by omega) (by omega)
        simp only [F71, e3, branch_ite]
        split
        · simp only [bindO_s, branch_ite]
          exact ⟨_, rfl, by omega⟩
        · simp only [bindO_s, branch_ite]
          split
          · exact ⟨_, rfl, by omega⟩
          · exact ⟨_, rfl, by omega⟩
def marks (k : Int) (n : Nat) : List Int := (List.range n).map fun (i : Nat) => k + (i : Int)
theorem marks_length (k : Int) (n : Nat) : (marks k n).length = n := by simp [marks]
theorem marks_get (k : Int) (n i : Nat) (h : i < n) : (marks k n)[i]? = some (k + (i : Int)) := by
  simp [marks, h]
theorem F78_eq (K : Nat) (xs : List Int) (k : Int) (hk : 0 ≤ k ∧ k ≤ 1048576) (hl : xs.length ≤ 1048576) (hK : xs.length < K) : F78 K (k, xs) = some (k + (xs.length : Int), marks k xs.length) := by
  obtain ⟨b, h1, h2⟩ := iter_inv (f := F78_b0 K) (fun a => ∃ i : Nat, a.1 = k + (i : Int) ∧ a.2.1 = (i : Int) ∧ i ≤ xs.length ∧ a.2.2.length = xs.length ∧ ∀ j, j < i → a.2.2[j]? = some (k + (j : Int))) (fun a => (xs.length : Int).toNat - a.2.1.toNat) (fun b => b = (k + (xs.length : Int), marks k xs.length)) (fun a ⟨i, g0, g1, g2, g3, g4⟩ => by
    obtain ⟨a0, a1, zs⟩ := a
    simp only at g0 g1 g2 g3 g4
    subst g0 g1
    by_cases g : i < xs.length
    · have c : ((i : Int) < (zs.length : Int)) := by omega
      have c2 : (0 ≤ (i : Int) ∧ (i : Int) < (zs.length : Int)) := by omega
      have e4 : zs[i]? = some zs[i] := List.getElem?_eq_getElem (by omega)
      refine .inl ⟨(w64 (k + (i : Int) + 1), w64 ((i : Int) + 1), zs.set i (k + (i : Int))), ?_, ⟨i + 1, ?_, ?_, by omega, by simpa using g3, fun j hj => ?_⟩, ?_⟩
      · simp only [F78_b0, branch_ite, if_pos c, guard_dec c2, Int.toNat_natCast, nthN_s e4]
      · dsimp only; rw [w64_id (by omega) (by omega)]; omega
      · dsimp only; rw [w64_id (by omega) (by omega)]; omega
      · dsimp only
        rw [List.getElem?_set]
        split
        · rename_i e
          subst e
          rw [if_pos (by omega)]
        · exact g4 j (by omega)
      · dsimp only
        rw [w64_id (n := (i : Int) + 1) (by omega) (by omega)]
        omega
    · have c : ¬ ((i : Int) < (zs.length : Int)) := by omega
      have hi : i = xs.length := by omega
      refine .inr ⟨(k + (i : Int), zs), by simp only [F78_b0, branch_ite, if_neg c], ?_⟩
      subst hi
      congr 1
      apply List.ext_getElem?
      intro j
      by_cases hj : j < xs.length
      · rw [g4 j hj, marks_get k _ j hj]
      · rw [List.getElem?_eq_none (by omega), List.getElem?_eq_none (by rw [marks_length]; omega)]) K (k, 0, xs) ⟨0, by simp, rfl, Nat.zero_le _, rfl, fun j hj => by omega⟩ (by simp; omega)
  unfold F78
  refine (congrArg (fun z => bindO z _) h1).trans ?_
  rw [h2]; rfl
structure Sm (m : MT) : Prop where
  rom : m.2.2.2.2.2.2.2.2.2.2.2.2.1.length ≤ maxLen
  out : m.2.2.2.2.2.2.2.2.2.2.2.2.2.2.2.2.2.2.2.2.2.1.length ≤ 1048576
abbrev cat {α : Type} (m : MT) (t : α) := (m.1, m.2.1, m.2.2.1, m.2.2.2.1, m.2.2.2.2.1, m.2.2.2.2.2.1, m.2.2.2.2.2.2.1, m.2.2.2.2.2.2.2.1, m.2.2.2.2.2.2.2.2.1, m.2.2.2.2.2.2.2.2.2.1, m.2.2.2.2.2.2.2.2.2.2.1, m.2.2.2.2.2.2.2.2.2.2.2.1, m.2.2.2.2.2.2.2.2.2.2.2.2.1, m.2.2.2.2.2.2.2.2.2.2.2.2.2.1, m.2.2.2.2.2.2.2.2.2.2.2.2.2.2.1, m.2.2.2.2.2.2.2.2.2.2.2.2.2.2.2.1, m.2.2.2.2.2.2.2.2.2.2.2.2.2.2.2.2.1, m.2.2.2.2.2.2.2.2.2.2.2.2.2.2.2.2.2.1, m.2.2.2.2.2.2.2.2.2.2.2.2.2.2.2.2.2.2.1, m.2.2.2.2.2.2.2.2.2.2.2.2.2.2.2.2.2.2.2.1, m.2.2.2.2.2.2.2.2.2.2.2.2.2.2.2.2.2.2.2.2.1, m.2.2.2.2.2.2.2.2.2.2.2.2.2.2.2.2.2.2.2.2.2.1, m.2.2.2.2.2.2.2.2.2.2.2.2.2.2.2.2.2.2.2.2.2.2, t)
abbrev OT := Int × Int × Int × Int × Int × Int × Int × Int × Int × Int × Bool × Bool × (List UInt8) × Int × Int × (List UInt8) × Int × Bool × Int × (List UInt8) × (List UInt8) × Int × List Int
def ofO (m : MT) : OT := (m.1, m.2.1, m.2.2.1, m.2.2.2.1, m.2.2.2.2.1, m.2.2.2.2.2.1, m.2.2.2.2.2.2.1, m.2.2.2.2.2.2.2.1, m.2.2.2.2.2.2.2.2.1, m.2.2.2.2.2.2.2.2.2.1, m.2.2.2.2.2.2.2.2.2.2.1, m.2.2.2.2.2.2.2.2.2.2.2.1, m.2.2.2.2.2.2.2.2.2.2.2.2.1, m.2.2.2.2.2.2.2.2.2.2.2.2.2.1, m.2.2.2.2.2.2.2.2.2.2.2.2.2.2.1, m.2.2.2.2.2.2.2.2.2.2.2.2.2.2.2.1, m.2.2.2.2.2.2.2.2.2.2.2.2.2.2.2.2.1, m.2.2.2.2.2.2.2.2.2.2.2.2.2.2.2.2.2.1, m.2.2.2.2.2.2.2.2.2.2.2.2.2.2.2.2.2.2.1, m.2.2.2.2.2.2.2.2.2.2.2.2.2.2.2.2.2.2.2.1, m.2.2.2.2.2.2.2.2.2.2.2.2.2.2.2.2.2.2.2.2.1, m.2.2.2.2.2.2.2.2.2.2.2.2.2.2.2.2.2.2.2.2.2.2, m.2.2.2.2.2.2.2.2.2.2.2.2.2.2.2.2.2.2.2.2.2.1)
theorem F29_m (K : Nat) (m : MT) (h : m.2.2.2.2.2.2.2.2.2.2.2.2.2.2.2.2.2.2.2.2.2.1.length ≤ 1048576) (hK : m.2.2.2.2.2.2.2.2.2.2.2.2.2.2.2.2.2.2.2.2.2.1.length + 8 < K) : F29 K (m.1, m.2.1, m.2.2.1, m.2.2.2.1, m.2.2.2.2.1, m.2.2.2.2.2.1, m.2.2.2.2.2.2.1, m.2.2.2.2.2.2.2.1, m.2.2.2.2.2.2.2.2.1, m.2.2.2.2.2.2.2.2.2.1, m.2.2.2.2.2.2.2.2.2.2.1, m.2.2.2.2.2.2.2.2.2.2.2.1, m.2.2.2.2.2.2.2.2.2.2.2.2.1, m.2.2.2.2.2.2.2.2.2.2.2.2.2.1, m.2.2.2.2.2.2.2.2.2.2.2.2.2.2.1, m.2.2.2.2.2.2.2.2.2.2.2.2.2.2.2.1, m.2.2.2.2.2.2.2.2.2.2.2.2.2.2.2.2.1, m.2.2.2.2.2.2.2.2.2.2.2.2.2.2.2.2.2.1, m.2.2.2.2.2.2.2.2.2.2.2.2.2.2.2.2.2.2.1, m.2.2.2.2.2.2.2.2.2.2.2.2.2.2.2.2.2.2.2.1, m.2.2.2.2.2.2.2.2.2.2.2.2.2.2.2.2.2.2.2.2.1, m.2.2.2.2.2.2.2.2.2.2.2.2.2.2.2.2.2.2.2.2.2.1, m.2.2.2.2.2.2.2.2.2.2.2.2.2.2.2.2.2.2.2.2.2.2, m) = some true :=
  F29_eq K m.1 m.2.1 m.2.2.1 m.2.2.2.1 m.2.2.2.2.1 m.2.2.2.2.2.1 m.2.2.2.2.2.2.1 m.2.2.2.2.2.2.2.1 m.2.2.2.2.2.2.2.2.1 m.2.2.2.2.2.2.2.2.2.1 m.2.2.2.2.2.2.2.2.2.2.1 m.2.2.2.2.2.2.2.2.2.2.2.1 m.2.2.2.2.2.2.2.2.2.2.2.2.1 m.2.2.2.2.2.2.2.2.2.2.2.2.2.1 m.2.2.2.2.2.2.2.2.2.2.2.2.2.2.1 m.2.2.2.2.2.2.2.2.2.2.2.2.2.2.2.1 m.2.2.2.2.2.2.2.2.2.2.2.2.2.2.2.2.1 m.2.2.2.2.2.2.2.2.2.2.2.2.2.2.2.2.2.1 m.2.2.2.2.2.2.2.2.2.2.2.2.2.2.2.2.2.2.1 m.2.2.2.2.2.2.2.2.2.2.2.2.2.2.2.2.2.2.2.1 m.2.2.2.2.2.2.2.2.2.2.2.2.2.2.2.2.2.2.2.2.1 m.2.2.2.2.2.2.2.2.2.2.2.2.2.2.2.2.2.2.2.2.2.1 m.2.2.2.2.2.2.2.2.2.2.2.2.2.2.2.2.2.2.2.2.2.2 (by unfold maxLen; omega) hK
theorem F28_m (K : Nat) (m : MT) (h : m.2.2.2.2.2.2.2.2.2.2.2.2.2.2.2.2.2.2.2.2.2.1.length ≤ 1048576) (hK : m.2.2.2.2.2.2.2.2.2.2.2.2.2.2.2.2.2.2.2.2.2.1.length + 8 < K) : F28 K m = some m :=
  F28_eq K m.1 m.2.1 m.2.2.1 m.2.2.2.1 m.2.2.2.2.1 m.2.2.2.2.2.1 m.2.2.2.2.2.2.1 m.2.2.2.2.2.2.2.1 m.2.2.2.2.2.2.2.2.1 m.2.2.2.2.2.2.2.2.2.1 m.2.2.2.2.2.2.2.2.2.2.1 m.2.2.2.2.2.2.2.2.2.2.2.1 m.2.2.2.2.2.2.2.2.2.2.2.2.1 m.2.2.2.2.2.2.2.2.2.2.2.2.2.1 m.2.2.2.2.2.2.2.2.2.2.2.2.2.2.1 m.2.2.2.2.2.2.2.2.2.2.2.2.2.2.2.1 m.2.2.2.2.2.2.2.2.2.2.2.2.2.2.2.2.1 m.2.2.2.2.2.2.2.2.2.2.2.2.2.2.2.2.2.1 m.2.2.2.2.2.2.2.2.2.2.2.2.2.2.2.2.2.2.1 m.2.2.2.2.2.2.2.2.2.2.2.2.2.2.2.2.2.2.2.1 m.2.2.2.2.2.2.2.2.2.2.2.2.2.2.2.2.2.2.2.2.1 m.2.2.2.2.2.2.2.2.2.2.2.2.2.2.2.2.2.2.2.2.2.1 m.2.2.2.2.2.2.2.2.2.2.2.2.2.2.2.2.2.2.2.2.2.2 h hK
theorem F28o_m (K : Nat) (m : MT) (h : m.2.2.2.2.2.2.2.2.2.2.2.2.2.2.2.2.2.2.2.2.2.1.length ≤ 1048576) (hK : m.2.2.2.2.2.2.2.2.2.2.2.2.2.2.2.2.2.2.2.2.2.1.length + 8 < K) : F28o K m = some (ofO m) :=
  F28o_eq K m.1 m.2.1 m.2.2.1 m.2.2.2.1 m.2.2.2.2.1 m.2.2.2.2.2.1 m.2.2.2.2.2.2.1 m.2.2.2.2.2.2.2.1 m.2.2.2.2.2.2.2.2.1 m.2.2.2.2.2.2.2.2.2.1 m.2.2.2.2.2.2.2.2.2.2.1 m.2.2.2.2.2.2.2.2.2.2.2.1 m.2.2.2.2.2.2.2.2.2.2.2.2.1 m.2.2.2.2.2.2.2.2.2.2.2.2.2.1 m.2.2.2.2.2.2.2.2.2.2.2.2.2.2.1 m.2.2.2.2.2.2.2.2.2.2.2.2.2.2.2.1 m.2.2.2.2.2.2.2.2.2.2.2.2.2.2.2.2.1 m.2.2.2.2.2.2.2.2.2.2.2.2.2.2.2.2.2.1 m.2.2.2.2.2.2.2.2.2.2.2.2.2.2.2.2.2.2.1 m.2.2.2.2.2.2.2.2.2.2.2.2.2.2.2.2.2.2.2.1 m.2.2.2.2.2.2.2.2.2.2.2.2.2.2.2.2.2.2.2.2.1 m.2.2.2.2.2.2.2.2.2.2.2.2.2.2.2.2.2.2.2.2.2.1 m.2.2.2.2.2.2.2.2.2.2.2.2.2.2.2.2.2.2.2.2.2.2 h hK
theorem F33_m (K : Nat) (m : MT) (h : Sm m) (hK : m.2.2.2.2.2.2.2.2.2.2.2.2.2.2.2.2.2.2.2.2.2.1.length + 8 < K) : ∃ b, F33 K m = some b ∧ F32 K m = some b ∧ (b = true → WInv (m.2.2.2.2.2.2.2.2.2.2.2.2.1, m.2.2.2.2.2.2.2.2.2.2.2.2.2.2.2.2.2.2.2.2.2.1.length, none) m.w) := by
  have h1 := h.rom
  have h2 : m.2.2.2.2.2.2.2.2.2.2.2.2.2.2.2.2.2.2.2.2.2.1.length ≤ maxLen := by have := h.out; unfold maxLen; omega
  refine ⟨_, F33_eq K m.1 m.2.1 m.2.2.1 m.2.2.2.1 m.2.2.2.2.1 m.2.2.2.2.2.1 m.2.2.2.2.2.2.1 m.2.2.2.2.2.2.2.1 m.2.2.2.2.2.2.2.2.1 m.2.2.2.2.2.2.2.2.2.1 m.2.2.2.2.2.2.2.2.2.2.1 m.2.2.2.2.2.2.2.2.2.2.2.1 m.2.2.2.2.2.2.2.2.2.2.2.2.1 m.2.2.2.2.2.2.2.2.2.2.2.2.2.1 m.2.2.2.2.2.2.2.2.2.2.2.2.2.2.1 m.2.2.2.2.2.2.2.2.2.2.2.2.2.2.2.1 m.2.2.2.2.2.2.2.2.2.2.2.2.2.2.2.2.1 m.2.2.2.2.2.2.2.2.2.2.2.2.2.2.2.2.2.1 m.2.2.2.2.2.2.2.2.2.2.2.2.2.2.2.2.2.2.1 m.2.2.2.2.2.2.2.2.2.2.2.2.2.2.2.2.2.2.2.1 m.2.2.2.2.2.2.2.2.2.2.2.2.2.2.2.2.2.2.2.2.1 m.2.2.2.2.2.2.2.2.2.2.2.2.2.2.2.2.2.2.2.2.2.1 m.2.2.2.2.2.2.2.2.2.2.2.2.2.2.2.2.2.2.2.2.2.2 h1 h2 hK, F32_eq K m.1 m.2.1 m.2.2.1 m.2.2.2.1 m.2.2.2.2.1 m.2.2.2.2.2.1 m.2.2.2.2.2.2.1 m.2.2.2.2.2.2.2.1 m.2.2.2.2.2.2.2.2.1 m.2.2.2.2.2.2.2.2.2.1 m.2.2.2.2.2.2.2.2.2.2.1 m.2.2.2.2.2.2.2.2.2.2.2.1 m.2.2.2.2.2.2.2.2.2.2.2.2.1 m.2.2.2.2.2.2.2.2.2.2.2.2.2.1 m.2.2.2.2.2.2.2.2.2.2.2.2.2.2.1 m.2.2.2.2.2.2.2.2.2.2.2.2.2.2.2.1 m.2.2.2.2.2.2.2.2.2.2.2.2.2.2.2.2.1 m.2.2.2.2.2.2.2.2.2.2.2.2.2.2.2.2.2.1 m.2.2.2.2.2.2.2.2.2.2.2.2.2.2.2.2.2.2.1 m.2.2.2.2.2.2.2.2.2.2.2.2.2.2.2.2.2.2.2.1 m.2.2.2.2.2.2.2.2.2.2.2.2.2.2.2.2.2.2.2.2.1 m.2.2.2.2.2.2.2.2.2.2.2.2.2.2.2.2.2.2.2.2.2.1 m.2.2.2.2.2.2.2.2.2.2.2.2.2.2.2.2.2.2.2.2.2.2 h1 h2 hK, fun e => WInv.of e false⟩
def mOf (r : MC (Int)) : MT := (r.1, r.2.1, r.2.2.1, r.2.2.2.1, r.2.2.2.2.1, r.2.2.2.2.2.1, r.2.2.2.2.2.2.1, r.2.2.2.2.2.2.2.1, r.2.2.2.2.2.2.2.2.1, r.2.2.2.2.2.2.2.2.2.1, r.2.2.2.2.2.2.2.2.2.2.1, r.2.2.2.2.2.2.2.2.2.2.2.1, r.2.2.2.2.2.2.2.2.2.2.2.2.1, r.2.2.2.2.2.2.2.2.2.2.2.2.2.1, r.2.2.2.2.2.2.2.2.2.2.2.2.2.2.1, r.2.2.2.2.2.2.2.2.2.2.2.2.2.2.2.1, r.2.2.2.2.2.2.2.2.2.2.2.2.2.2.2.2.1, r.2.2.2.2.2.2.2.2.2.2.2.2.2.2.2.2.2.1, r.2.2.2.2.2.2.2.2.2.2.2.2.2.2.2.2.2.2.1, r.2.2.2.2.2.2.2.2.2.2.2.2.2.2.2.2.2.2.2.1, r.2.2.2.2.2.2.2.2.2.2.2.2.2.2.2.2.2.2.2.2.1, r.2.2.2.2.2.2.2.2.2.2.2.2.2.2.2.2.2.2.2.2.2.1, r.2.2.2.2.2.2.2.2.2.2.2.2.2.2.2.2.2.2.2.2.2.2.1)
theorem F30_m (K : Nat) (m : MT) (k : Int) (xs : List Int) (hk : 0 ≤ k ∧ k ≤ 1048576) (hl : xs.length ≤ 1048576) (hK : xs.length < K) :
    F30 K (m.1, m.2.1, m.2.2.1, m.2.2.2.1, m.2.2.2.2.1, m.2.2.2.2.2.1, m.2.2.2.2.2.2.1, m.2.2.2.2.2.2.2.1, m.2.2.2.2.2.2.2.2.1, m.2.2.2.2.2.2.2.2.2.1, m.2.2.2.2.2.2.2.2.2.2.1, m.2.2.2.2.2.2.2.2.2.2.2.1, m.2.2.2.2.2.2.2.2.2.2.2.2.1, m.2.2.2.2.2.2.2.2.2.2.2.2.2.1, m.2.2.2.2.2.2.2.2.2.2.2.2.2.2.1, m.2.2.2.2.2.2.2.2.2.2.2.2.2.2.2.1, m.2.2.2.2.2.2.2.2.2.2.2.2.2.2.2.2.1, m.2.2.2.2.2.2.2.2.2.2.2.2.2.2.2.2.2.1, m.2.2.2.2.2.2.2.2.2.2.2.2.2.2.2.2.2.2.1, m.2.2.2.2.2.2.2.2.2.2.2.2.2.2.2.2.2.2.2.1, m.2.2.2.2.2.2.2.2.2.2.2.2.2.2.2.2.2.2.2.2.1, m.2.2.2.2.2.2.2.2.2.2.2.2.2.2.2.2.2.2.2.2.2.2, k, xs) = some (k + (xs.length : Int), marks k xs.length) := by
  unfold F30
  refine (congrArg (fun z => bindO z _) (F78_eq K xs k hk hl hK)).trans ?_
  rfl
theorem ff {c : Int} (g : (!(decide (c = c))) = true) : False := by rw [decide_eq_true rfl] at g; cases g
def Z : MT := (0, 0, 0, 0, 0, 0, 0, 0, 0, 0, false, false, [], 0, 0, [], 0, false, 0, [], [], [], 0)
end Go.U.Tryz
namespace Go.U.Tryz
open Go Go.U
set_option maxRecDepth 20000
variable {qq : List UInt8 × Nat × Option Int} {R0 : List UInt8} {n0 : Nat}
end Go.U.Tryz
namespace Go.U.Tryz
open Go Go.U
set_option maxRecDepth 20000
variable {qq : List UInt8 × Nat × Option Int} {R0 : List UInt8} {n0 : Nat}
theorem ffc {P : Prop} (h : false = true) : P := nomatch h
theorem F32_ok (k : Nat) (m : MT) (h : WInv (R0, n0, none) m.w) : F32 (k + 600 + 40) m = some true := by
  have hr := h.cart.hrom
  have hr' : m.2.2.2.2.2.2.2.2.2.2.2.2.1.length ≤ maxLen := by change _ ∧ _ ∧ m.2.2.2.2.2.2.2.2.2.2.2.2.1.length ≤ 4096 at hr; unfold maxLen; omega
  have ho : m.2.2.2.2.2.2.2.2.2.2.2.2.2.2.2.2.2.2.2.2.2.1.length ≤ 100 := h.out.2
  have q := F32_eq (k + 600 + 40) m.1 m.2.1 m.2.2.1 m.2.2.2.1 m.2.2.2.2.1 m.2.2.2.2.2.1 m.2.2.2.2.2.2.1 m.2.2.2.2.2.2.2.1 m.2.2.2.2.2.2.2.2.1 m.2.2.2.2.2.2.2.2.2.1 m.2.2.2.2.2.2.2.2.2.2.1 m.2.2.2.2.2.2.2.2.2.2.2.1 m.2.2.2.2.2.2.2.2.2.2.2.2.1 m.2.2.2.2.2.2.2.2.2.2.2.2.2.1 m.2.2.2.2.2.2.2.2.2.2.2.2.2.2.1 m.2.2.2.2.2.2.2.2.2.2.2.2.2.2.2.1 m.2.2.2.2.2.2.2.2.2.2.2.2.2.2.2.2.1 m.2.2.2.2.2.2.2.2.2.2.2.2.2.2.2.2.2.1 m.2.2.2.2.2.2.2.2.2.2.2.2.2.2.2.2.2.2.1 m.2.2.2.2.2.2.2.2.2.2.2.2.2.2.2.2.2.2.2.1 m.2.2.2.2.2.2.2.2.2.2.2.2.2.2.2.2.2.2.2.2.1 m.2.2.2.2.2.2.2.2.2.2.2.2.2.2.2.2.2.2.2.2.2.1 m.2.2.2.2.2.2.2.2.2.2.2.2.2.2.2.2.2.2.2.2.2.2 hr' (by unfold maxLen; omega) (by omega)
  exact q.trans (congrArg some (WInv.mok (q := m.w.2.2.2.2.2.2.2.2.2.2.2.2.2.2.2.2.2.2.2.2.2.2.2) h))
end Go.U.Tryz
namespace Go.U.Tryz
open Go Go.U
set_option maxRecDepth 20000
variable {qq : List UInt8 × Nat × Option Int} {R0 : List UInt8} {n0 : Nat}
end Go.U.Tryz
namespace Go.U.Tryz
open Go Go.U
set_option maxRecDepth 20000
variable {qq : List UInt8 × Nat × Option Int} {R0 : List UInt8} {n0 : Nat}
set_option maxHeartbeats 1000000
end Go.U.Tryz
namespace Go.U.Tryz
open Go Go.U
set_option maxRecDepth 20000
variable {qq : List UInt8 × Nat × Option Int} {R0 : List UInt8} {n0 : Nat}
set_option maxHeartbeats 1000000
end Go.U.Tryz
namespace Go.U.Tryz
open Go Go.U
set_option maxRecDepth 20000
set_option maxHeartbeats 1000000
def dgs : List UInt8 := [48, 49, 50, 51, 52, 53, 54, 55, 56, 57, 97, 98, 99, 100, 101, 102, 103, 104, 105, 106, 107, 108, 109, 110, 111, 112, 113, 114, 115, 116, 117, 118, 119, 120, 121, 122]
def dg (n : Int) : UInt8 := dgs.getD n.toNat 0
def hd (n : Int) : UInt8 := Lib.upperB (dg n)
theorem nth_dg {ρ : Type} {k : UInt8 → Option ρ} (n : Int) (h : 0 ≤ n ∧ n < 16) : nth dgs n k = k (dg n) := by
  obtain ⟨m, rfl⟩ : ∃ m : Nat, n = (m : Int) := ⟨n.toNat, by omega⟩
  have hl : m < dgs.length := by show m < 36; omega
  have e : dgs[m]? = some (dg (m : Int)) := by
    unfold dg
    rw [Int.toNat_natCast, List.getD_eq_getElem?_getD, List.getElem?_eq_getElem hl]; rfl
  exact nth_s e
theorem andu15 (u : Int) (h : 0 ≤ u ∧ u ≤ 65535) : bits .and .u64 u 15 = u % 16 := by
  obtain ⟨n, rfl⟩ : ∃ n : Nat, u = (n : Int) := ⟨u.toNat, by omega⟩
  have e1 : (BitVec.ofInt 64 (n : Int)).toNat = n := by rw [BitVec.toNat_ofInt]; omega
  have e2 : (BitVec.ofInt 64 (15 : Int)).toNat = 2 ^ 4 - 1 := by decide
  show IntKind.u64.wrap ((BitVec.ofInt 64 (n : Int) &&& BitVec.ofInt 64 15).toNat : Nat) = _
  rw [BitVec.toNat_and, e1, e2, Nat.and_two_pow_sub_one_eq_mod, IntKind.wrap_u64]
  omega
theorem shru4 (u : Int) : shrI .u64 u 4 = u / 16 := by
  show u.fdiv (2 ^ (min (4 : Int).toNat 64)) = _
  rw [show (min (4 : Int).toNat 64) = 4 from by decide, Int.fdiv_eq_ediv_of_nonneg _ (by decide)]
  rfl
def z65 : List Int := [0, 0, 0, 0, 0, 0, 0, 0, 0, 0, 0, 0, 0, 0, 0, 0, 0, 0, 0, 0, 0, 0, 0, 0, 0, 0, 0, 0, 0, 0, 0, 0, 0, 0, 0, 0, 0, 0, 0, 0, 0, 0, 0, 0, 0, 0, 0, 0, 0, 0, 0, 0, 0, 0, 0, 0, 0, 0, 0, 0, 0, 0, 0, 0, 0]
theorem hx_go (K : Nat) (u : Int) (j : Nat) (buf : List Int) (hu : 16 ≤ u ∧ u ≤ 65535) (hj : j < 65) (hb : buf.length = 65) :
    F241h_b2 K ([], u, false, false, [], [], ((j + 1 : Nat) : Int), 4, 16, 15, buf) = some (.inl ([], u / 16, false, false, [], [], (j : Int), 4, 16, 15, buf.set (0 + j) ((dg (u % 16)).toNat : Int))) := by
  have e1 : w64 (((j + 1 : Nat) : Int) - 1) = (j : Int) := by rw [w64_id (by omega) (by omega)]; omega
  have t : T (F241h_b2 K ([], u, false, false, [], [], ((j + 1 : Nat) : Int), 4, 16, 15, buf)) (fun r => r = .inl ([], u / 16, false, false, [], [], (j : Int), 4, 16, 15, buf.set (0 + j) ((dg (u % 16)).toNat : Int))) := by
    unfold F241h_b2
    refine T.br (fun _ => ?_) fun g => absurd hu.1 (of_decide_eq_false g)
    show T (nth dgs (bits .and .u64 u 15) _) _
    rw [andu15 u ⟨by omega, hu.2⟩, nth_dg _ ⟨by omega, by omega⟩]
    dsimp only
    rw [e1, shru4, Int.toNat_natCast]
    refine T.guard (decide_eq_true ⟨by omega, by omega⟩) (T.nthN (by omega) fun v1 _ _ => T.guard rfl (T.ret rfl))
  obtain ⟨r, er, rfl⟩ := t
  exact er
theorem hx_end (K : Nat) (u i : Int) (buf : List Int) (hu : u < 16) :
    F241h_b2 K ([], u, false, false, [], [], i, 4, 16, 15, buf) = some (.inr ([], u, false, false, [], [], i, buf)) := by
  show branch (decide (16 ≤ u)) _ _ = _
  rw [decide_eq_false (by omega)]; rfl
theorem hx_out (K : Nat) (v u : Int) (j : Nat) (buf : List Int) (hu : 0 ≤ u ∧ u < 16) (hj : j < 65) (hb : buf.length = 65)
    (it : iter K (F241h_b2 K) ([], v, false, false, [], [], 65, 4, 16, 15, z65) = some ([], u, false, false, [], [], ((j + 1 : Nat) : Int), buf)) :
    F241h K ([], v, 16, false, false) = some ([], toB (List.take (65 - j) (List.drop j (buf.set (0 + j) ((dg u).toNat : Int))))) := by
  have e1 : w64 (((j + 1 : Nat) : Int) - 1) = (j : Int) := by rw [w64_id (by omega) (by omega)]; omega
  have e2 : F263 K 16 = some true := by kernel_rfl
  have e3 : F264 K 16 = some 4 := by kernel_rfl
  have t : T (F241h K ([], v, 16, false, false)) (fun r => r = ([], toB (List.take (65 - j) (List.drop j (buf.set (0 + j) ((dg u).toNat : Int)))))) := by
    unfold F241h
    refine T.br nofun fun _ => T.eq e2 (T.br (fun _ => T.eq e3 (T.eq it ?_)) nofun)
    show T (nth dgs u _) _
    rw [nth_dg u hu]
    dsimp only
    rw [e1, Int.toNat_natCast]
    refine T.guard (decide_eq_true ⟨by omega, by omega⟩) (T.nthN (by omega) fun v1 _ _ => T.br nofun fun _ => T.br nofun fun _ => ?_)
    have hl : (buf.set (0 + j) ((dg u).toNat : Int)).length = 65 := by rw [List.length_set]; exact hb
    exact T.guard (decide_eq_true hl.symm) (T.guard (decide_eq_true ⟨by omega, by omega⟩) (T.guard (decide_eq_true (by omega)) (T.ret rfl)))
  obtain ⟨r, er, rfl⟩ := t
  exact er
theorem rtb (b : UInt8) : UInt8.ofNat ((b.toNat : Int)).toNat = b := by simp
theorem hx1 (k : Nat) (v : Int) (h : 0 ≤ v ∧ v < 16) : F241h (k + 40) ([], v, 16, false, false) = some ([], [dg v]) := by
  have q := hx_out (k + 40) v v 64 z65 h (by omega) rfl (iter_end (n := k + 39) (hx_end _ v _ z65 h.2))
  rw [q]
  show some ([], [UInt8.ofNat (((dg v).toNat : Int)).toNat]) = _
  rw [rtb]
theorem hx2 (k : Nat) (v : Int) (h : 16 ≤ v ∧ v < 256) : F241h (k + 40) ([], v, 16, false, false) = some ([], [dg (v / 16), dg (v % 16)]) := by
  have q := hx_out (k + 40) v (v / 16) 63 _ ⟨by omega, by omega⟩ (by omega) (by rw [List.length_set]; rfl) ((iter_go (n := k + 39) (hx_go _ v 64 z65 ⟨h.1, by omega⟩ (by omega) rfl)).trans (iter_end (n := k + 38) (hx_end _ (v / 16) _ _ (by omega))))
  rw [q]
  show some ([], [UInt8.ofNat (((dg (v / 16)).toNat : Int)).toNat, UInt8.ofNat (((dg (v % 16)).toNat : Int)).toNat]) = _
  rw [rtb, rtb]
theorem hx3 (k : Nat) (v : Int) (h : 256 ≤ v ∧ v < 4096) : F241h (k + 40) ([], v, 16, false, false) = some ([], [dg (v / 16 / 16), dg (v / 16 % 16), dg (v % 16)]) := by
  have q := hx_out (k + 40) v (v / 16 / 16) 62 _ ⟨by omega, by omega⟩ (by omega) (by rw [List.length_set, List.length_set]; rfl) ((iter_go (n := k + 39) (hx_go _ v 64 z65 ⟨by omega, by omega⟩ (by omega) rfl)).trans ((iter_go (n := k + 38) (hx_go _ (v / 16) 63 _ ⟨by omega, by omega⟩ (by omega) (by rw [List.length_set]; rfl))).trans (iter_end (n := k + 37) (hx_end _ (v / 16 / 16) _ _ (by omega)))))
  rw [q]
  show some ([], [UInt8.ofNat (((dg (v / 16 / 16)).toNat : Int)).toNat, UInt8.ofNat (((dg (v / 16 % 16)).toNat : Int)).toNat, UInt8.ofNat (((dg (v % 16)).toNat : Int)).toNat]) = _
  rw [rtb, rtb, rtb]
theorem hx4 (k : Nat) (v : Int) (h : 4096 ≤ v ∧ v < 65536) : F241h (k + 40) ([], v, 16, false, false) = some ([], [dg (v / 16 / 16 / 16), dg (v / 16 / 16 % 16), dg (v / 16 % 16), dg (v % 16)]) := by
  have q := hx_out (k + 40) v (v / 16 / 16 / 16) 61 _ ⟨by omega, by omega⟩ (by omega) (by rw [List.length_set, List.length_set, List.length_set]; rfl) ((iter_go (n := k + 39) (hx_go _ v 64 z65 ⟨by omega, by omega⟩ (by omega) rfl)).trans ((iter_go (n := k + 38) (hx_go _ (v / 16) 63 _ ⟨by omega, by omega⟩ (by omega) (by rw [List.length_set]; rfl))).trans ((iter_go (n := k + 37) (hx_go _ (v / 16 / 16) 62 _ ⟨by omega, by omega⟩ (by omega) (by rw [List.length_set, List.length_set]; rfl))).trans (iter_end (n := k + 36) (hx_end _ (v / 16 / 16 / 16) _ _ (by omega))))))
  rw [q]
  show some ([], [UInt8.ofNat (((dg (v / 16 / 16 / 16)).toNat : Int)).toNat, UInt8.ofNat (((dg (v / 16 / 16 % 16)).toNat : Int)).toNat, UInt8.ofNat (((dg (v / 16 % 16)).toNat : Int)).toNat, UInt8.ofNat (((dg (v % 16)).toNat : Int)).toNat]) = _
  rw [rtb, rtb, rtb, rtb]
theorem F133_h (K : Nat) (v : Int) (l : List UInt8) (hv : 0 ≤ v ∧ v ≤ 65535) (e : F241h K ([], v, 16, false, false) = some ([], l)) : F133h K (v, 16) = some l := by
  have e1 : w64u v = v := w64u_id (by omega) (by omega)
  have e2 : decide (v < 0) = false := decide_eq_false (by omega)
  show bindO (bindO (F241h K ([], w64u v, 16, decide (v < 0), false)) _) _ = _
  rw [e1, e2, e]; rfl
theorem dg_ascii (n : Int) (h : 0 ≤ n ∧ n < 16) : (dg n).toNat < 128 := by
  obtain ⟨m, rfl⟩ : ∃ m : Nat, n = (m : Int) := ⟨n.toNat, by omega⟩
  have a : (List.range 16).all (fun i => decide ((dg (i : Int)).toNat < 128)) = true := by kernel_rfl
  exact of_decide_eq_true (List.all_eq_true.1 a m (List.mem_range.2 (by omega)))
theorem F97_of (K : Nat) (v d : Int) (l : List UInt8) (hv : 0 ≤ v ∧ v ≤ 65535) (e : F133h K (v, 16) = some l) (ha : ∀ b ∈ l, b.toNat < 128) (hl : l.length ≤ 4) (hd : 0 ≤ d ∧ d ≤ 4) :
    F97 K (v, d) = some (Lib.repeatL [48] (d.toNat - l.length) ++ Lib.toUpperA l) := by
  have e1 : F132 K l = some (Lib.toUpperA l) := by
    unfold F132 uppF
    rw [decide_eq_true (show l.length ≤ 140737488355328 by omega), List.all_eq_true.2 (fun b hb => decide_eq_true (ha b hb))]; rfl
  have hL : (Lib.toUpperA l).length = l.length := by unfold Lib.toUpperA; rw [List.length_map]
  have e2 : mxI 0 (w64 (d - ((Lib.toUpperA l).length : Int))) = ((d.toNat - l.length : Nat) : Int) := by
    rw [hL, w64_id (by omega) (by omega)]; unfold mxI; split <;> omega
  have e3 : F104 K (([48] : List UInt8), ((d.toNat - l.length : Nat) : Int)) = some (Lib.repeatL [48] (d.toNat - l.length)) := by
    unfold F104 repF
    dsimp only
    rw [Int.toNat_natCast]
    exact guard_dec ⟨by omega, by omega, by simp; omega⟩
  have t : T (F97 K (v, d)) (fun r => r = Lib.repeatL [48] (d.toNat - l.length) ++ Lib.toUpperA l) := by
    unfold F97
    refine T.eq e (T.eq e1 ?_)
    rw [e2]
    refine T.eq e3 (T.guard (decide_eq_true ?_) (T.ret rfl))
    rw [Lib.repeatL_length, hL]; simp; omega
  obtain ⟨r, er, rfl⟩ := t
  exact er
theorem all4 {p : UInt8 → Prop} {a b c d : UInt8} (h1 : p a) (h2 : p b) (h3 : p c) (h4 : p d) : ∀ x ∈ [a, b, c, d], p x := by
  intro x hx; simp at hx; rcases hx with rfl | rfl | rfl | rfl <;> assumption
theorem F97_4 (k : Nat) (v : Int) (h : 0 ≤ v ∧ v ≤ 65535) : F97 (k + 40) (v, 4) = some [hd (v / 16 / 16 / 16), hd (v / 16 / 16 % 16), hd (v / 16 % 16), hd (v % 16)] := by
  have z : hd 0 = 48 := by kernel_rfl
  by_cases h1 : v < 16
  · have q := F97_of (k + 40) v 4 _ h (F133_h _ v _ h (hx1 k v ⟨h.1, h1⟩)) (by intro x hx; simp at hx; subst hx; exact dg_ascii v ⟨h.1, h1⟩) (by simp) (by omega)
    rw [q, show v / 16 / 16 / 16 = 0 by omega, show v / 16 / 16 % 16 = 0 by omega, show v / 16 % 16 = 0 by omega, show v % 16 = v by omega, z]; rfl
  by_cases h2 : v < 256
  · have q := F97_of (k + 40) v 4 _ h (F133_h _ v _ h (hx2 k v ⟨by omega, h2⟩)) (by intro x hx; simp at hx; rcases hx with rfl | rfl <;> exact dg_ascii _ ⟨by omega, by omega⟩) (by simp) (by omega)
    rw [q, show v / 16 / 16 / 16 = 0 by omega, show v / 16 / 16 % 16 = 0 by omega, show v / 16 % 16 = v / 16 by omega, z]; rfl
  by_cases h3 : v < 4096
  · have q := F97_of (k + 40) v 4 _ h (F133_h _ v _ h (hx3 k v ⟨by omega, h3⟩)) (by intro x hx; simp at hx; rcases hx with rfl | rfl | rfl <;> exact dg_ascii _ ⟨by omega, by omega⟩) (by simp) (by omega)
    rw [q, show v / 16 / 16 / 16 = 0 by omega, show v / 16 / 16 % 16 = v / 16 / 16 by omega, z]; rfl
  · have q := F97_of (k + 40) v 4 _ h (F133_h _ v _ h (hx4 k v ⟨by omega, by omega⟩)) (all4 (dg_ascii _ ⟨by omega, by omega⟩) (dg_ascii _ ⟨by omega, by omega⟩) (dg_ascii _ ⟨by omega, by omega⟩) (dg_ascii _ ⟨by omega, by omega⟩)) (by simp) (by omega)
    rw [q]; rfl
theorem F97_2 (k : Nat) (v : Int) (h : 0 ≤ v ∧ v ≤ 255) : F97 (k + 40) (v, 2) = some [hd (v / 16), hd (v % 16)] := by
  have z : hd 0 = 48 := by kernel_rfl
  by_cases h1 : v < 16
  · have q := F97_of (k + 40) v 2 _ ⟨h.1, by omega⟩ (F133_h _ v _ ⟨h.1, by omega⟩ (hx1 k v ⟨h.1, h1⟩)) (by intro x hx; simp at hx; subst hx; exact dg_ascii v ⟨h.1, h1⟩) (by simp) (by omega)
    rw [q, show v / 16 = 0 by omega, show v % 16 = v by omega, z]; rfl
  · have q := F97_of (k + 40) v 2 _ ⟨h.1, by omega⟩ (F133_h _ v _ ⟨h.1, by omega⟩ (hx2 k v ⟨by omega, by omega⟩)) (by intro x hx; simp at hx; rcases hx with rfl | rfl <;> exact dg_ascii _ ⟨by omega, by omega⟩) (by simp) (by omega)
    rw [q]; rfl
def hxs : List UInt8 := [48, 49, 50, 51, 52, 53, 54, 55, 56, 57, 65, 66, 67, 68, 69, 70]
theorem hxs_at (n : Int) (h : 0 ≤ n ∧ n < 16) : subL hxs n (n + 1) = [hd n] := by
  obtain ⟨m, rfl⟩ : ∃ m : Nat, n = (m : Int) := ⟨n.toNat, by omega⟩
  have a : (List.range 16).all (fun i => decide (subL hxs (i : Int) ((i : Int) + 1) = [hd (i : Int)])) = true := by kernel_rfl
  exact of_decide_eq_true (List.all_eq_true.1 a m (List.mem_range.2 (by omega)))
theorem lx_go (K : Nat) (n d i : Int) (s : List UInt8) (hn : 0 ≤ n ∧ n ≤ 65535) (hi : 0 ≤ i ∧ i < d) (hd4 : d ≤ 4) (hs : s.length ≤ 4) :
    F101_b0 K (n, d, s, i) = some (.inl (n / 16, d, hd (n % 16) :: s, i + 1)) := by
  have e1 : Int.tmod n 16 = n % 16 := tmE hn.1
  have e2 : w64 (n % 16 + 1) = n % 16 + 1 := w64_id (by omega) (by omega)
  have e3 : w64 (Int.tdiv n 16) = n / 16 := by rw [tdE hn.1, w64_id (by omega) (by omega)]
  have e4 : w64 (i + 1) = i + 1 := w64_id (by omega) (by omega)
  have l : F101_b0 K (n, d, s, i) = branch (decide (i < d)) (guard (decide (0 ≤ Int.tmod n 16 ∧ Int.tmod n 16 ≤ w64 (Int.tmod n 16 + 1) ∧ w64 (Int.tmod n 16 + 1) ≤ 16)) <| guard (decide ((subL hxs (Int.tmod n 16) (w64 (Int.tmod n 16 + 1))).length + s.length ≤ 9223372036854775807)) <| some (.inl (w64 (Int.tdiv n 16), d, subL hxs (Int.tmod n 16) (w64 (Int.tmod n 16 + 1)) ++ s, w64 (i + 1)))) (some (.inr (n, s))) := rfl
  rw [l, decide_eq_true hi.2, branch_t, e1, e2, e3, e4, hxs_at _ ⟨by omega, by omega⟩]
  rw [decide_eq_true (show 0 ≤ n % 16 ∧ n % 16 ≤ n % 16 + 1 ∧ n % 16 + 1 ≤ 16 by omega), guard_t, decide_eq_true (show [hd (n % 16)].length + s.length ≤ 9223372036854775807 by simp; omega), guard_t]
  rfl
theorem lx_end (K : Nat) (n d i : Int) (s : List UInt8) (hi : ¬ i < d) : F101_b0 K (n, d, s, i) = some (.inr (n, s)) := by
  show branch (decide (i < d)) _ _ = _
  rw [decide_eq_false hi]; rfl
theorem F101_of (K : Nat) (v d : Int) (s : List UInt8) (hv : 0 ≤ v ∧ v ≤ 65535) (hd4 : 1 ≤ d ∧ d ≤ 4) (hs : s.length ≤ 4) (it : iter K (F101_b0 K) (v, d, [], 0) = some (0, s)) : F101 K (v, d) = some (36 :: s) := by
  have e1 : F87 K (d, 1, 4) = some true := (F87_eq K d 1 4).trans (congrArg some (decide_eq_true hd4))
  have e2 : F87 K (v, 0, 65535) = some true := (F87_eq K v 0 65535).trans (congrArg some (decide_eq_true hv))
  have t : T (F101 K (v, d)) (fun r => r = 36 :: s) := by
    unfold F101
    refine T.bindbind (T.bindbind (T.eq e1 (T.bindbr nofun fun _ => T.bindbind (T.eq e2 (T.binds (T.bindbr nofun fun _ => T.binds (T.csr (T.eq it (T.br nofun fun _ => ?_)))))))))
    exact T.guard (decide_eq_true (by dsimp only; omega)) (T.ret rfl)
  obtain ⟨r, er, rfl⟩ := t
  exact er
theorem F101_4 (k : Nat) (v : Int) (h : 0 ≤ v ∧ v ≤ 65535) : F101 (k + 40) (v, 4) = some (36 :: [hd (v / 16 / 16 / 16), hd (v / 16 / 16 % 16), hd (v / 16 % 16), hd (v % 16)]) := by
  refine F101_of (k + 40) v 4 _ h (by omega) (by simp) ?_
  refine (iter_go (n := k + 39) (lx_go _ v 4 0 [] h (by omega) (by omega) (by simp))).trans ?_
  refine (iter_go (n := k + 38) (lx_go _ (v / 16) 4 (0 + 1) _ (by omega) (by omega) (by omega) (by simp))).trans ?_
  refine (iter_go (n := k + 37) (lx_go _ (v / 16 / 16) 4 (0 + 1 + 1) _ (by omega) (by omega) (by omega) (by simp))).trans ?_
  refine (iter_go (n := k + 36) (lx_go _ (v / 16 / 16 / 16) 4 (0 + 1 + 1 + 1) _ (by omega) (by omega) (by omega) (by simp))).trans ?_
  refine (iter_end (n := k + 35) (lx_end _ (v / 16 / 16 / 16 / 16) 4 (0 + 1 + 1 + 1 + 1) _ (by omega))).trans ?_
  rw [show v / 16 / 16 / 16 / 16 = 0 by omega, show v / 16 / 16 / 16 % 16 = v / 16 / 16 / 16 by omega]
theorem F101_2 (k : Nat) (v : Int) (h : 0 ≤ v ∧ v ≤ 255) : F101 (k + 40) (v, 2) = some (36 :: [hd (v / 16), hd (v % 16)]) := by
  refine F101_of (k + 40) v 2 _ ⟨h.1, by omega⟩ (by omega) (by simp) ?_
  refine (iter_go (n := k + 39) (lx_go _ v 2 0 [] ⟨h.1, by omega⟩ (by omega) (by omega) (by simp))).trans ?_
  refine (iter_go (n := k + 38) (lx_go _ (v / 16) 2 (0 + 1) _ (by omega) (by omega) (by omega) (by simp))).trans ?_
  refine (iter_end (n := k + 37) (lx_end _ (v / 16 / 16) 2 (0 + 1 + 1) _ (by omega))).trans ?_
  rw [show v / 16 / 16 = 0 by omega, show v / 16 % 16 = v / 16 by omega]
end Go.U.Tryz
namespace Go.U.Tryz
open Go Go.U
set_option maxRecDepth 20000
set_option maxHeartbeats 1000000
def n16 : List UInt8 := [110, 49, 54]
def n8 : List UInt8 := [110, 56]
def e8 : List UInt8 := [101, 56]
def tplChk (k : Nat) (cb : Bool) (c : Nat) : Bool := match F66 (k + 40) ((c : Int), cb), F141 (k + 40) ((c : Int), cb), F175 (k + 40) ((c : Int), cb) with
  | some t, some t', some n => decide (t = t') && decide (t.length ≤ 100) && (decide (n = 0) == decide (t = [])) && (match F120 (k + 40) t, F142 (k + 40) t with
    | some h, some (a, h') => decide (h = h') && (decide (h = []) || (decide (Lib.index t h = a) && decide (0 ≤ a) && decide (a + (h.length : Int) ≤ (t.length : Int)) && decide (h = n16 ∨ h = n8 ∨ h = e8)))
    | _, _ => false)
  | _, _, _ => false
theorem tplAll (k : Nat) (cb : Bool) : (List.range 256).all (tplChk k cb) = true := by
  cases cb
  · kernel_rfl
  · kernel_rfl
theorem tpl (k : Nat) (c : Int) (cb : Bool) (hc : 0 ≤ c ∧ c ≤ 255) : ∃ (t h : List UInt8) (a n : Int), F66 (k + 40) (c, cb) = some t ∧ F141 (k + 40) (c, cb) = some t ∧ F175 (k + 40) (c, cb) = some n ∧ (n = 0 ↔ t = []) ∧ F120 (k + 40) t = some h ∧ F142 (k + 40) t = some (a, h) ∧ t.length ≤ 100 ∧
    (h = [] ∨ Lib.index t h = a ∧ 0 ≤ a ∧ a + (h.length : Int) ≤ (t.length : Int) ∧ (h = n16 ∨ h = n8 ∨ h = e8)) := by
  obtain ⟨m, rfl⟩ : ∃ m : Nat, c = (m : Int) := ⟨c.toNat, by omega⟩
  have hh := List.all_eq_true.1 (tplAll k cb) m (List.mem_range.2 (by omega))
  unfold tplChk at hh
  split at hh
  · rename_i t t' n e1 e2 e3
    simp only [Bool.and_eq_true] at hh
    obtain ⟨⟨⟨h1, h2⟩, h3⟩, h4⟩ := hh
    split at h4
    · rename_i h a h' e4 e5
      simp only [Bool.and_eq_true, Bool.or_eq_true, decide_eq_true_eq] at h1 h2 h4
      obtain ⟨h5, h6⟩ := h4
      subst h1 h5
      refine ⟨t, h, a, n, e1, e2, e3, ?_, e4, e5, h2, ?_⟩
      · have h3' : decide (n = 0) = decide (t = []) := eq_of_beq h3
        constructor
        · intro e
          rw [decide_eq_true e] at h3'
          exact of_decide_eq_true h3'.symm
        · intro e
          rw [decide_eq_true e] at h3'
          exact of_decide_eq_true h3'
      · rcases h6 with h6 | ⟨⟨⟨h6, h7⟩, h8⟩, h9⟩
        · exact .inl h6
        · exact .inr ⟨h6, h7, h8, h9⟩
    · cases h4
  · cases hh
theorem repl1 (t h f : List UInt8) (a : Nat) (hi : Lib.index t h = (a : Int)) (hne : h ≠ f) (hh : h ≠ []) : Lib.replace t h f 1 = t.take a ++ f ++ t.drop (a + h.length) := by
  have hb : ¬ (h == f) = true := fun e => hne (beq_iff_eq.1 e)
  have hc := Lib.count_hit hh hi
  have hn : Lib.replaceNum t h 1 = 0 + 1 := by
    unfold Lib.replaceNum
    rw [if_neg (by omega)]; rfl
  unfold Lib.replace
  rw [if_neg hb, hn, Lib.replaceK_hit h f 0 t a hi]
  rfl
theorem shr16 (v : Int) : shrI .i64 v 16 = v / 65536 := by
  show v.fdiv (2 ^ (min (16 : Int).toNat 64)) = _
  rw [show (min (16 : Int).toNat 64) = 16 from by decide, Int.fdiv_eq_ediv_of_nonneg _ (by decide)]
  rfl
theorem F185_of (K : Nat) (v d : Int) (l : List UInt8) (hv : 0 ≤ v ∧ v ≤ 65535) (hd : 1 ≤ d ∧ d ≤ 4) (hs : shrI .i64 v (w64 (4 * d)) = 0) (e : F97 K (v, d) = some l) (hl : l.length ≤ 4) : F185 K (v, d) = some (36 :: l) := by
  have e1 : F54 K (d, 1, 4) = some true := (F54_eq K d 1 4).trans (congrArg some (decide_eq_true hd))
  have e2 : F63 K v = some true := (F63_eq K v).trans (congrArg some (decide_eq_true hv))
  have e3 : w64 (4 * d) = 4 * d := w64_id (by omega) (by omega)
  have t : T (F185 K (v, d)) (fun r => r = 36 :: l) := by
    unfold F185
    refine T.bindbind (T.bindbind (T.eq e1 (T.bindbr nofun fun _ => T.bindbind (T.eq e2 (T.bindbr nofun fun _ => ?_)))))
    dsimp only
    rw [hs, e3]
    have g : decide (0 ≤ 4 * d) = true := decide_eq_true (by omega)
    rw [g]
    refine T.binds (T.bindbr nofun fun _ => T.binds (T.csr (T.eq e (T.guard (decide_eq_true (by omega)) (T.ret rfl)))))
  obtain ⟨r, er, rfl⟩ := t
  exact er
theorem F185_4 (k : Nat) (v : Int) (h : 0 ≤ v ∧ v ≤ 65535) : ∃ l, F185 (k + 40) (v, 4) = some (36 :: l) ∧ F101 (k + 40) (v, 4) = some (36 :: l) ∧ l.length = 4 :=
  ⟨_, F185_of (k + 40) v 4 _ h (by omega) (by show shrI .i64 v 16 = 0; rw [shr16]; omega) (F97_4 k v h) (by simp), F101_4 k v h, rfl⟩
theorem F185_2 (k : Nat) (v : Int) (h : 0 ≤ v ∧ v ≤ 255) : ∃ l, F185 (k + 40) (v, 2) = some (36 :: l) ∧ F101 (k + 40) (v, 2) = some (36 :: l) ∧ l.length = 2 :=
  ⟨_, F185_of (k + 40) v 2 _ ⟨h.1, by omega⟩ (by omega) (by show shrI .i64 v 8 = 0; rw [shr8]; omega) (F97_2 k v h) (by simp), F101_2 k v h, rfl⟩
def sgnChk (k : Nat) (n : Nat) : Bool := match F193 (k + 40) (n : Int), F144 (k + 40) (n : Int) with
  | some a, some b => decide (a = b) && (match F182 (k + 40) a, F143 (k + 40) a with
    | some l, some l' => decide (l = l') && decide (l.length ≤ 4) && decide (l ≠ e8)
    | _, _ => false)
  | _, _ => false
theorem sgnAll (k : Nat) : (List.range 256).all (sgnChk k) = true := by kernel_rfl
theorem sgn (k : Nat) (v : Int) (h : 0 ≤ v ∧ v ≤ 255) : ∃ a l, F193 (k + 40) v = some a ∧ F144 (k + 40) v = some a ∧ F182 (k + 40) a = some l ∧ F143 (k + 40) a = some l ∧ l.length ≤ 4 ∧ l ≠ e8 := by
  obtain ⟨m, rfl⟩ : ∃ m : Nat, v = (m : Int) := ⟨v.toNat, by omega⟩
  have hh := List.all_eq_true.1 (sgnAll k) m (List.mem_range.2 (by omega))
  unfold sgnChk at hh
  split at hh
  · rename_i a b e1 e2
    simp only [Bool.and_eq_true, decide_eq_true_eq] at hh
    obtain ⟨h1, h2⟩ := hh
    subst h1
    split at h2
    · rename_i l l' e3 e4
      simp only [Bool.and_eq_true, decide_eq_true_eq] at h2
      obtain ⟨⟨h3, h4⟩, h5⟩ := h2
      subst h3
      exact ⟨a, l, e1, e2, e3, e4, h4, h5⟩
    · cases h2
  · cases hh
def okI (h : List UInt8) (imm : Int) : Bool := if h = [] then decide (imm = 0) else if h = n16 then inR imm 0 65535 else inR imm 0 255
theorem F135_of (k : Nat) (c imm : Int) (cb : Bool) (t h : List UInt8) (e1 : F66 (k + 40) (c, cb) = some t) (e2 : F120 (k + 40) t = some h) (ht : t ≠ []) : F135 (k + 40) (c, cb, imm) = some (okI h imm) := by
  have r : T (F135 (k + 40) (c, cb, imm)) (fun r => r = okI h imm) := by
    unfold F135
    refine T.eq e1 (T.br (fun g => absurd (of_decide_eq_true g) ht) fun _ => T.eq e2 (T.br (fun g => T.ret ?_) fun g => T.br (fun g2 => ?_) fun g2 => ?_))
    · unfold okI; rw [if_pos (of_decide_eq_true g)]
    · refine T.eq (F63_eq _ _) (T.ret ?_)
      have g2' : h = n16 := of_decide_eq_true g2
      unfold okI; rw [if_neg (of_decide_eq_false g), if_pos g2']
    · refine T.eq (F80_eq _ _) (T.ret ?_)
      have g2' : ¬ h = n16 := of_decide_eq_false g2
      unfold okI; rw [if_neg (of_decide_eq_false g), if_neg g2']
  obtain ⟨x, ex, rfl⟩ := r
  exact ex
theorem F140_of (k : Nat) (c imm a n : Int) (cb : Bool) (t h : List UInt8) (e0 : F175 (k + 40) (c, cb) = some n) (hn : ¬ n = 0) (e1 : F141 (k + 40) (c, cb) = some t) (e2 : F142 (k + 40) t = some (a, h)) (hh : h = [] ∨ h = n16 ∨ h = n8 ∨ h = e8) : F140 (k + 40) (c, cb, imm) = some (okI h imm) := by
  have r : T (F140 (k + 40) (c, cb, imm)) (fun r => r = okI h imm) := by
    unfold F140
    refine T.eq e0 (T.br (fun g => absurd (of_decide_eq_true g) hn) fun _ => T.eq e1 (T.eq e2 (T.br (fun g => ?_) fun g => ?_)))
    · have g' : h = n16 := of_decide_eq_true g
      refine T.eq (F87_eq _ _ _ _) (T.ret ?_)
      unfold okI; rw [g', if_neg (by decide), if_pos rfl]
    · have g' : ¬ h = n16 := of_decide_eq_false g
      refine T.bindbr (fun g2 => T.binds (T.br (fun _ => ?_) nofun)) fun g2 => T.binds (T.br (fun g3 => ?_) fun g3 => ?_)
      · have g2' : h = n8 := of_decide_eq_true g2
        refine T.eq (F87_eq _ _ _ _) (T.ret ?_)
        unfold okI; rw [if_neg (by rw [g2']; decide), if_neg g']
      · have g3' : h = e8 := of_decide_eq_true g3
        refine T.eq (F87_eq _ _ _ _) (T.ret ?_)
        unfold okI; rw [if_neg (by rw [g3']; decide), if_neg g']
      · refine T.ret ?_
        have g2' : ¬ h = n8 := of_decide_eq_false g2
        have g3' : ¬ h = e8 := of_decide_eq_false g3
        have : h = [] := by rcases hh with e | e | e | e; exact e; exact absurd e g'; exact absurd e g2'; exact absurd e g3'
        unfold okI; rw [if_pos this]
  obtain ⟨x, ex, rfl⟩ := r
  exact ex
theorem rpl_of (K : Nat) (t h f : List UInt8) (a : Nat) (hi : Lib.index t h = (a : Int)) (hne : h ≠ f) (hh : 1 ≤ h.length) (ht : t.length ≤ 100) (hf : f.length ≤ 10) : F136 K (t, h, f, 1) = some (t.take a ++ f ++ t.drop (a + h.length)) := by
  unfold F136 rplF
  rw [repl1 t h f a hi hne (by intro e; rw [e] at hh; simp at hh)]
  exact guard_dec ⟨hh, by dsimp only; omega, by dsimp only; omega⟩
theorem ins_text (k : Nat) (c imm : Int) (cb : Bool) (hc : 0 ≤ c ∧ c ≤ 255) : ∃ s, F99 (k + 40) (c, cb, imm) = some s ∧ F102 (k + 40) (c, cb, imm) = some s ∧ s.length ≤ 200 := by
  obtain ⟨t, h, a, n, e1, e2, e3, hn, e4, e5, hl, hcase⟩ := tpl k c cb hc
  by_cases ht : t = []
  · refine ⟨[], ?_, ?_, by simp⟩
    · have r : T (F99 (k + 40) (c, cb, imm)) (fun r => r = []) := by
        unfold F99 F135
        exact T.bindbind (T.eq e1 (T.bindbr (fun _ => T.binds (T.br (fun _ => T.ret rfl) nofun)) fun g => absurd ht (of_decide_eq_false g)))
      obtain ⟨x, ex, rfl⟩ := r; exact ex
    · have r : T (F102 (k + 40) (c, cb, imm)) (fun r => r = []) := by
        unfold F102 F140
        exact T.bindbind (T.eq e3 (T.bindbr (fun _ => T.binds (T.br (fun _ => T.ret rfl) nofun)) fun g => absurd (hn.2 ht) (of_decide_eq_false g)))
      obtain ⟨x, ex, rfl⟩ := r; exact ex
  have hh : h = [] ∨ h = n16 ∨ h = n8 ∨ h = e8 := hcase.imp_right fun z => z.2.2.2
  have o1 := F135_of k c imm cb t h e1 e4 ht
  have o2 := F140_of k c imm a n cb t h e3 (fun e => ht (hn.1 e)) e2 e5 hh
  cases ho : okI h imm with
  | false =>
    rw [ho] at o1 o2
    refine ⟨[], ?_, ?_, by simp⟩
    · unfold F99; rw [o1]; rfl
    · unfold F102; rw [o2]; rfl
  | true =>
    rw [ho] at o1 o2
    rcases hcase with h0 | ⟨hi, ha0, ha1, h3⟩
    · refine ⟨t, ?_, ?_, by omega⟩
      · have r : T (F99 (k + 40) (c, cb, imm)) (fun r => r = t) := by
          unfold F99
          exact T.eq o1 (T.br nofun fun _ => T.eq e1 (T.eq e4 (T.br (fun g => by rw [decide_eq_true h0] at g; cases g) fun _ => T.ret rfl)))
        obtain ⟨x, ex, rfl⟩ := r; exact ex
      · have r : T (F102 (k + 40) (c, cb, imm)) (fun r => r = t) := by
          unfold F102
          refine T.eq o2 (T.br nofun fun _ => T.eq e2 (T.eq e5 ?_))
          rw [h0]
          exact T.br nofun fun _ => T.br nofun fun _ => T.br nofun fun _ => T.ret rfl
        obtain ⟨x, ex, rfl⟩ := r; exact ex
    · obtain ⟨m, rfl⟩ : ∃ m : Nat, a = (m : Int) := ⟨a.toNat, by omega⟩
      have hne : h ≠ [] := by rcases h3 with e | e | e <;> (rw [e]; decide)
      have hlen : 1 ≤ h.length ∧ h.length ≤ 3 := by rcases h3 with e | e | e <;> (rw [e]; decide)
      -- the hole's text, both
      have key : ∀ f : List UInt8, f.length ≤ 5 → h ≠ f → F137 (k + 40) (h, imm) = some f →
          (T (F102 (k + 40) (c, cb, imm)) fun r => r = t.take m ++ f ++ t.drop (m + h.length)) → ∃ s, F99 (k + 40) (c, cb, imm) = some s ∧ F102 (k + 40) (c, cb, imm) = some s ∧ s.length ≤ 200 := by
        rintro f hf hd q1 ⟨x, ex, rfl⟩
        refine ⟨_, ?_, ex, ?_⟩
        · have q2 := rpl_of (k + 40) t h f m hi hd hlen.1 hl (by omega)
          have r : T (F99 (k + 40) (c, cb, imm)) (fun r => r = t.take m ++ f ++ t.drop (m + h.length)) := by
            unfold F99
            exact T.eq o1 (T.br nofun fun _ => T.eq e1 (T.eq e4 (T.br (fun _ => T.eq q1 (T.eq q2 (T.ret rfl))) fun g => by rw [decide_eq_false hne] at g; cases g)))
          obtain ⟨x, ex, rfl⟩ := r; exact ex
        · rw [List.length_append, List.length_append, List.length_take, List.length_drop]; omega
      have tk : ∀ f : List UInt8, f.length ≤ 5 → (tkL t (m : Int)).length + f.length ≤ 9223372036854775807 := fun f hf => by unfold tkL; rw [List.length_take]; omega
      have w3 : ∀ j : Nat, j ≤ 3 → w64 ((m : Int) + (j : Int)) = ((m + j : Nat) : Int) := fun j hj => by rw [w64_id (by omega) (by omega)]; omega
      rcases h3 with e | e | e
      · subst e
        have ho' : 0 ≤ imm ∧ imm ≤ 65535 := of_decide_eq_true ho
        obtain ⟨l, q1, q2, q3⟩ := F185_4 k imm ho'
        refine key (36 :: l) (by simp; omega) (by intro z; cases z) ?_ ?_
        · have r : T (F137 (k + 40) (n16, imm)) (fun r => r = 36 :: l) := by
            unfold F137
            exact T.br nofun fun _ => T.br (fun _ => T.eq q1 (T.ret rfl)) nofun
          obtain ⟨x, ex, rfl⟩ := r; exact ex
        · unfold F102
          refine T.eq o2 (T.br nofun fun _ => T.eq e2 (T.eq e5 (T.br (fun _ => ?_) nofun)))
          have w := w3 3 (by omega)
          have hm3 : (m : Int) + 3 ≤ (t.length : Int) := ha1
          refine T.guard (decide_eq_true ⟨by dsimp only; omega, by dsimp only; omega⟩) (T.eq q2 (T.guard (decide_eq_true (tk _ (by simp; omega))) ?_))
          show T (guard (decide (0 ≤ w64 ((m : Int) + 3) ∧ w64 ((m : Int) + 3) ≤ (t.length : Int))) <| guard (decide (((tkL t (m : Int) ++ (36 :: l)).length + (dpL t (w64 ((m : Int) + 3))).length) ≤ 9223372036854775807)) <| some ((tkL t (m : Int) ++ (36 :: l)) ++ dpL t (w64 ((m : Int) + 3)))) _
          rw [show w64 ((m : Int) + 3) = ((m + 3 : Nat) : Int) from w]
          refine T.guard (decide_eq_true ⟨by omega, by omega⟩) (T.guard (decide_eq_true ?_) (T.ret rfl))
          unfold tkL dpL; rw [List.length_append, List.length_take, List.length_drop]; simp; omega
      · subst e
        have ho' : 0 ≤ imm ∧ imm ≤ 255 := of_decide_eq_true ho
        obtain ⟨l, q1, q2, q3⟩ := F185_2 k imm ho'
        refine key (36 :: l) (by simp; omega) (by intro z; cases z) ?_ ?_
        · have r : T (F137 (k + 40) (n8, imm)) (fun r => r = 36 :: l) := by
            unfold F137
            exact T.br (fun _ => T.eq q1 (T.ret rfl)) nofun
          obtain ⟨x, ex, rfl⟩ := r; exact ex
        · unfold F102
          refine T.eq o2 (T.br nofun fun _ => T.eq e2 (T.eq e5 (T.br nofun fun _ => T.br (fun _ => ?_) nofun)))
          have w := w3 2 (by omega)
          have hm3 : (m : Int) + 2 ≤ (t.length : Int) := ha1
          refine T.guard (decide_eq_true ⟨by dsimp only; omega, by dsimp only; omega⟩) (T.eq q2 (T.guard (decide_eq_true (tk _ (by simp; omega))) ?_))
          show T (guard (decide (0 ≤ w64 ((m : Int) + 2) ∧ w64 ((m : Int) + 2) ≤ (t.length : Int))) <| guard (decide (((tkL t (m : Int) ++ (36 :: l)).length + (dpL t (w64 ((m : Int) + 2))).length) ≤ 9223372036854775807)) <| some ((tkL t (m : Int) ++ (36 :: l)) ++ dpL t (w64 ((m : Int) + 2)))) _
          rw [show w64 ((m : Int) + 2) = ((m + 2 : Nat) : Int) from w]
          refine T.guard (decide_eq_true ⟨by omega, by omega⟩) (T.guard (decide_eq_true ?_) (T.ret rfl))
          unfold tkL dpL; rw [List.length_append, List.length_take, List.length_drop]; simp; omega
      · subst e
        have ho' : 0 ≤ imm ∧ imm ≤ 255 := of_decide_eq_true ho
        obtain ⟨b, l, q1, q2, q3, q4, q5, q6⟩ := sgn k imm ho'
        refine key l (by omega) (fun z => q6 z.symm) ?_ ?_
        · have r : T (F137 (k + 40) (e8, imm)) (fun r => r = l) := by
            unfold F137
            exact T.br nofun fun _ => T.br nofun fun _ => T.eq q1 (T.eq q3 (T.ret rfl))
          obtain ⟨x, ex, rfl⟩ := r; exact ex
        · unfold F102
          refine T.eq o2 (T.br nofun fun _ => T.eq e2 (T.eq e5 (T.br nofun fun _ => T.br nofun fun _ => T.br (fun _ => ?_) nofun)))
          have w := w3 2 (by omega)
          have hm3 : (m : Int) + 2 ≤ (t.length : Int) := ha1
          refine T.guard (decide_eq_true ⟨by dsimp only; omega, by dsimp only; omega⟩) (T.eq q2 (T.eq q4 (T.guard (decide_eq_true (tk _ (by omega))) ?_)))
          show T (guard (decide (0 ≤ w64 ((m : Int) + 2) ∧ w64 ((m : Int) + 2) ≤ (t.length : Int))) <| guard (decide (((tkL t (m : Int) ++ l).length + (dpL t (w64 ((m : Int) + 2))).length) ≤ 9223372036854775807)) <| some ((tkL t (m : Int) ++ l) ++ dpL t (w64 ((m : Int) + 2)))) _
          rw [show w64 ((m : Int) + 2) = ((m + 2 : Nat) : Int) from w]
          refine T.guard (decide_eq_true ⟨by omega, by omega⟩) (T.guard (decide_eq_true ?_) (T.ret rfl))
          unfold tkL dpL; rw [List.length_append, List.length_take, List.length_drop]; omega
end Go.U.Tryz
namespace Go.U.Tryz
open Go Go.U
set_option maxRecDepth 20000
theorem F131_eq (K : Nat) (rom : List UInt8) (k1 k2 : Int) (ram : List UInt8) (k3 : Int) (kb : Bool) (k4 : Int) (hr : rom.length ≤ maxLen) (h : cartOk rom k1 k2 ram k3 kb k4 = true) : F131 K (rom, k1, k2, ram, k3, kb, k4) = some (Int.tmod k2 (banks rom)) := by
  have hb : ¬ banks rom = 0 := fun e => by simp [cartOk, e] at h
  simp only [F131, F86_eq K rom k1 k2 ram k3 kb k4 hr, h, bindO_s, Bool.not_true, branch_f, F127_eq K rom hr, decide_eq_false hb, Bool.not_false, guard_t]
theorem F130_eq (K : Nat) (rom : List UInt8) (k1 k2 : Int) (ram : List UInt8) (k3 : Int) (kb : Bool) (k4 : Int) (hr : rom.length ≤ maxLen) (h : cartOk rom k1 k2 ram k3 kb k4 = true) : F130 K (rom, k1, k2, ram, k3, kb, k4) = some (Int.tmod k2 (banks rom)) := by
  have hb : ¬ banks rom = 0 := fun e => by simp [cartOk, e] at h
  have e : banks rom = ((rom.length / 256 : Nat) : Int) := by unfold banks at hb ⊢; split <;> simp_all
  rw [e] at hb ⊢
  simp only [F130, w64_len hr, decide_eq_false hb, Bool.not_false, guard_t]
end Go.U.Tryz
namespace Go.U.Tryz
open Go Go.U
set_option maxRecDepth 20000
set_option maxHeartbeats 4000000
variable {R0 : List UInt8} {n0 : Nat}
theorem at_v (K : Nat) (m : MT) (h : WInv (R0, n0, none) m.w) : ∃ b a : Int, F94 K m = some (b, a) ∧ F93 K m = some (b, a) ∧ (b = -1 ∨ 0 ≤ b ∧ b ≤ 255) ∧ 0 ≤ a ∧ a ≤ 65535 := by
  have hc : CInv m.2.2.2.2.2.2.2.2.2.2.2.2.1 m.2.2.2.2.2.2.2.2.2.2.2.2.2.1 m.2.2.2.2.2.2.2.2.2.2.2.2.2.2.1 m.2.2.2.2.2.2.2.2.2.2.2.2.2.2.2.1 m.2.2.2.2.2.2.2.2.2.2.2.2.2.2.2.2.1 m.2.2.2.2.2.2.2.2.2.2.2.2.2.2.2.2.2.1 m.2.2.2.2.2.2.2.2.2.2.2.2.2.2.2.2.2.2.1 := h.cart
  have hrom := hc.hrom
  have hbk := hc.hbank
  have hr : m.2.2.2.2.2.2.2.2.2.2.2.2.1.length ≤ maxLen := by unfold maxLen; omega
  have hp : 0 ≤ m.2.2.2.2.2.2.2.2.2.1 ∧ m.2.2.2.2.2.2.2.2.2.1 ≤ 65535 := h.pc
  have e1 := F131_eq K m.2.2.2.2.2.2.2.2.2.2.2.2.1 m.2.2.2.2.2.2.2.2.2.2.2.2.2.1 m.2.2.2.2.2.2.2.2.2.2.2.2.2.2.1 m.2.2.2.2.2.2.2.2.2.2.2.2.2.2.2.1 m.2.2.2.2.2.2.2.2.2.2.2.2.2.2.2.2.1 m.2.2.2.2.2.2.2.2.2.2.2.2.2.2.2.2.2.1 m.2.2.2.2.2.2.2.2.2.2.2.2.2.2.2.2.2.2.1 hr hc.ok
  have e2 := F130_eq K m.2.2.2.2.2.2.2.2.2.2.2.2.1 m.2.2.2.2.2.2.2.2.2.2.2.2.2.1 m.2.2.2.2.2.2.2.2.2.2.2.2.2.2.1 m.2.2.2.2.2.2.2.2.2.2.2.2.2.2.2.1 m.2.2.2.2.2.2.2.2.2.2.2.2.2.2.2.2.1 m.2.2.2.2.2.2.2.2.2.2.2.2.2.2.2.2.2.1 m.2.2.2.2.2.2.2.2.2.2.2.2.2.2.2.2.2.2.1 hr hc.ok
  have hb := hc.banks
  have hm : 0 ≤ Int.tmod m.2.2.2.2.2.2.2.2.2.2.2.2.2.2.1 (Tryz.banks m.2.2.2.2.2.2.2.2.2.2.2.2.1) := Int.tmod_nonneg _ hbk.1
  have hlt : Int.tmod m.2.2.2.2.2.2.2.2.2.2.2.2.2.2.1 (Tryz.banks m.2.2.2.2.2.2.2.2.2.2.2.2.1) < Tryz.banks m.2.2.2.2.2.2.2.2.2.2.2.2.1 := Int.tmod_lt_of_pos _ (by rw [hb]; omega)
  have hbl : Tryz.banks m.2.2.2.2.2.2.2.2.2.2.2.2.1 ≤ 16 := by rw [hb]; omega
  unfold F94 F93
  cases decide (m.2.2.2.2.2.2.2.2.2.1 < 256) with
  | true => exact ⟨_, _, rfl, rfl, .inr ⟨Int.le_refl 0, by decide⟩, hp⟩
  | false =>
    cases decide (m.2.2.2.2.2.2.2.2.2.1 < 512) with
    | true => simp only [branch_f, branch_t]; rw [e1, e2]; exact ⟨_, _, rfl, rfl, .inr ⟨hm, by omega⟩, hp⟩
    | false => exact ⟨_, _, rfl, rfl, .inl rfl, hp⟩
theorem code_n (k : Nat) (w : WT) (v : MC (Int)) (hv : F60 (k + 40) (WT.m w) = some v) (h0 : v.2.2.2.2.2.2.2.2.2.2.2.2.2.2.2.2.2.2.2.2.2.2.2 = 0) (r : Int × Bool × Int × Int) (e1 : F98 (k + 40) (WT.m w) = some (r.1, r.2.1, r.2.2.1, r.2.2.2, WT.m w)) : ¬ r.2.2.2 = 0 := by
  intro g
  have l : F60 (k + 40) (WT.m w) = branch w.2.2.2.2.2.2.2.2.2.2.2.1 (some (out w 1)) (bindO (F98 (k + 40) (WT.m w)) fun v0 => branch (decide (v0.2.2.2.1 = 0)) (some (out (MT.w v0.2.2.2.2) 2)) (bindO (F110 (k + 40) (A v0.1 v0.2.1 v0.2.2.1 (setPc (MT.w v0.2.2.2.2) (bits .and .i64 (w64 (v0.2.2.2.2.2.2.2.2.2.2.2.2.2.1 + v0.2.2.2.1)) 65535)))) fun v1 => bindO (F26 (k + 40) (v0.1, v0.2.1, v1.1)) fun v2 => G60 v0 v1 v2)) := rfl
  rw [l] at hv
  cases hh : w.2.2.2.2.2.2.2.2.2.2.2.1 with
  | true =>
    rw [hh, branch_t] at hv
    have := Option.some.inj hv
    subst this
    exact absurd h0 (by decide : ¬ (1 : Int) = 0)
  | false =>
    rw [hh, branch_f, e1] at hv
    simp only [bindO_s] at hv
    rw [decide_eq_true g, branch_t] at hv
    have := Option.some.inj hv
    subst this
    exact absurd h0 (by decide : ¬ (2 : Int) = 0)
theorem line_both (k : Nat) (m : MT) (hw : WInv (R0, n0, none) m.w) (v : MC (Int)) (hv : F60 (k + 40) m = some v) (h0 : v.2.2.2.2.2.2.2.2.2.2.2.2.2.2.2.2.2.2.2.2.2.2.2 = 0) :
    ∃ s : List UInt8, ∀ (n i : Int) (o : List (List UInt8)), 0 ≤ i → i < n → n ≤ 100 → o.length ≤ 100 →
      F45_b0 (k + 40) (n, i, o, m) = some (.inl (n, i + 1, o ++ [s], mOf v)) ∧ F47_b0 (k + 40) (n, i, o, m) = some (.inl (n, i + 1, o ++ [s], mOf v)) := by
  obtain ⟨b, a, f94, f93, hb, ha⟩ := at_v (k + 40) m hw
  obtain ⟨r, e1, e2, e3⟩ := fetch3 k m.w hw
  have hn := code_n k m.w v hv h0 r e1
  have hc : 0 ≤ r.1 ∧ r.1 ≤ 255 := (e3.resolve_left hn).1
  obtain ⟨s6, t1, t2, t3⟩ := ins_text k r.1 r.2.2.1 r.2.1 hc
  have A1 := F97_4 k a ha
  have A2 := F101_4 k a ha
  have v62 : F62 (k + 40) m = some v := (step_eq k m.w hw).symm.trans hv
  obtain ⟨A4, hA4, hA4l⟩ : ∃ A4 : List UInt8, A4 = [hd (a / 16 / 16 / 16), hd (a / 16 / 16 % 16), hd (a / 16 % 16), hd (a % 16)] ∧ A4.length = 4 := ⟨_, rfl, rfl⟩
  rw [← hA4] at A1 A2
  obtain ⟨bt, hbl, b1, b2, b3⟩ : ∃ bt : List UInt8, bt.length = 2 ∧ (0 ≤ b → F97 (k + 40) (b, 2) = some bt) ∧ (0 ≤ b → F101 (k + 40) (b, 2) = some (36 :: bt)) ∧ (¬ 0 ≤ b → bt = [45, 45]) := by
    rcases hb with rfl | hb
    · exact ⟨[45, 45], rfl, fun h => absurd h (by decide), fun h => absurd h (by decide), fun _ => rfl⟩
    · exact ⟨_, rfl, fun _ => F97_2 k b hb, fun _ => F101_2 k b hb, fun h => absurd hb.1 h⟩
  refine ⟨(((bt ++ [58]) ++ A4) ++ [32]) ++ s6, fun n i o hi0 hi1 hn1 ho => ?_⟩
  have ei : w64 (i + 1) = i + 1 := w64_id (by omega) (by omega)
  have g1 : decide (bt.length + 1 ≤ 9223372036854775807) = true := decide_eq_true (by omega)
  have g2 : decide (((bt ++ ([58] : List UInt8)).length) + A4.length ≤ 9223372036854775807) = true := decide_eq_true (by simp; omega)
  have g3 : decide ((((bt ++ ([58] : List UInt8)) ++ A4).length) + 1 ≤ 9223372036854775807) = true := decide_eq_true (by simp; omega)
  have g4 : decide (((((bt ++ ([58] : List UInt8)) ++ A4) ++ ([32] : List UInt8)).length) + s6.length ≤ 9223372036854775807) = true := decide_eq_true (by simp; omega)
  have g5 : fitN (o.length + [(((bt ++ ([58] : List UInt8)) ++ A4) ++ ([32] : List UInt8)) ++ s6].length) 16 = true := by unfold fitN; exact decide_eq_true (by simp; omega)
  constructor
  · have t : T (F45_b0 (k + 40) (n, i, o, m)) (fun z => z = .inl (n, i + 1, o ++ [(((bt ++ [58]) ++ A4) ++ [32]) ++ s6], mOf v)) := by
      unfold F45_b0
      refine T.br (fun _ => T.eq hv (T.br (fun g => ?_) fun _ => T.eq f93 ?_)) fun g => absurd hi1 (of_decide_eq_false g)
      · have g' : (!(decide (v.2.2.2.2.2.2.2.2.2.2.2.2.2.2.2.2.2.2.2.2.2.2.2 = 0))) = true := g
        rw [decide_eq_true h0] at g'; cases g'
      refine T.bind (S := fun z => z = (bt, n, i, b, a, cat (mOf v) (o, m))) (T.br (fun g => T.eq (b1 (of_decide_eq_true g)) (T.ret rfl)) fun g => T.ret ?_) ?_
      · rw [b3 (of_decide_eq_false g)]; rfl
      rintro _ rfl
      refine T.eq e1 (T.guard g1 (T.eq A1 (T.guard g2 (T.guard g3 (T.eq t1 (T.guard g4 (T.guard g5 (T.ret ?_))))))))
      show (Sum.inl (n, w64 (i + 1), o ++ [(((bt ++ [58]) ++ A4) ++ [32]) ++ s6], mOf v) : (Int × Int × (List (List UInt8)) × MT) ⊕ (List (List UInt8))) = _
      rw [ei]
    obtain ⟨z, ez, rfl⟩ := t
    exact ez
  · have d1 : dpL (36 :: bt) 1 = bt := rfl
    have d2 : dpL (36 :: A4) 1 = A4 := rfl
    have t : T (F47_b0 (k + 40) (n, i, o, m)) (fun z => z = .inl (n, i + 1, o ++ [(((bt ++ [58]) ++ A4) ++ [32]) ++ s6], mOf v)) := by
      unfold F47_b0
      refine T.br (fun _ => T.eq e2 (T.eq f94 (T.eq v62 (T.bindbind (T.bindbr (fun g => ?_) fun _ => T.binds (T.bindbr (fun g => absurd (of_decide_eq_true g) hn) fun _ => T.binds (T.csr ?_))))))) fun g => absurd hi1 (of_decide_eq_false g)
      · exfalso
        have g' : (!(decide (v.2.2.2.2.2.2.2.2.2.2.2.2.2.2.2.2.2.2.2.2.2.2.2 = 0))) = true := g
        rw [decide_eq_true h0] at g'; cases g'
      refine T.bind (S := fun z => z = (n, i, bt, cat (mOf v) (b, a, r.1, r.2.1, r.2.2.1, o, m))) (T.br (fun g => T.eq (b2 (of_decide_eq_true g)) (T.guard (decide_eq_true ⟨by omega, by simp; omega⟩) (T.ret rfl))) fun g => T.ret ?_) ?_
      · rw [b3 (of_decide_eq_false g)]; rfl
      rintro _ rfl
      refine T.guard g1 (T.eq A2 (T.guard (decide_eq_true ⟨by omega, by simp; omega⟩) (T.guard g2 (T.guard g3 (T.eq t2 (T.guard g4 (T.guard g5 (T.ret ?_))))))))
      show (Sum.inl (n, w64 (i + 1), o ++ [(((bt ++ [58]) ++ A4) ++ [32]) ++ s6], mOf v) : (Int × Int × (List (List UInt8)) × MT) ⊕ ((List (List UInt8)) ⊕ (List (List UInt8)))) = _
      rw [ei]
    obtain ⟨z, ez, rfl⟩ := t
    exact ez
def lineF (k : Nat) (m : MT) : List UInt8 := match F45_b0 (k + 40) (1, 0, [], m) with
  | some (.inl z) => z.2.2.1.headD []
  | _ => []
def traceN (k : Nat) : Nat → MT → Option (List (List UInt8))
  | 0, m => some []
  | j + 1, m => bindO (F60 (k + 40) m) fun v => branch (decide (v.2.2.2.2.2.2.2.2.2.2.2.2.2.2.2.2.2.2.2.2.2.2.2 = 0)) (bindO (traceN k j (mOf v)) fun r => some (lineF k m :: r)) (some [])
theorem trace_loop (k : Nat) (n : Int) (hn : n ≤ 100) : ∀ (j N : Nat) (i : Int) (m : MT) (o : List (List UInt8)), 0 ≤ i → n - i = (j : Int) → j < N → WInv (R0, n0, none) m.w → (o.length : Int) = i →
    ∃ l, traceN k j m = some l ∧ l.length ≤ j ∧ iter N (F45_b0 (k + 40)) (n, i, o, m) = some (o ++ l) ∧ (iter N (F47_b0 (k + 40)) (n, i, o, m) = some (.inl (o ++ l)) ∨ iter N (F47_b0 (k + 40)) (n, i, o, m) = some (.inr (o ++ l)))
  | j, 0, i, m, o, h0, hj, hN, hw, ho => absurd hN (Nat.not_lt_zero _)
  | 0, N + 1, i, m, o, h0, hj, hN, hw, ho => by
    have g : ¬ i < n := by omega
    refine ⟨[], rfl, by simp, (iter_end ?_), .inr (iter_end ?_)⟩
    · show branch (decide (i < n)) _ _ = _
      rw [decide_eq_false g, List.append_nil]; rfl
    · show branch (decide (i < n)) _ _ = _
      rw [decide_eq_false g, List.append_nil]; rfl
  | j + 1, N + 1, i, m, o, h0, hj, hN, hw, ho => by
    have g : i < n := by omega
    obtain ⟨v, q1, q2⟩ := F62_t k m hw
    have q3 : F60 (k + 40) m = some v := (step_eq k m.w hw).trans q1
    by_cases hc : v.2.2.2.2.2.2.2.2.2.2.2.2.2.2.2.2.2.2.2.2.2.2.2 = 0
    · have hw' : WInv (R0, n0, none) (mOf v).w := q2.1
      obtain ⟨s, hs⟩ := line_both k m hw v q3 hc
      have hl : lineF k m = s := by
        unfold lineF
        rw [(hs 1 0 [] (by omega) (by omega) (by omega) (by simp)).1]; rfl
      obtain ⟨u1, u2⟩ := hs n i o h0 g hn (by omega)
      obtain ⟨l, p1, p2, p3, p4⟩ := trace_loop k n hn j N (i + 1) (mOf v) (o ++ [s]) (by omega) (by omega) (by omega) hw' (by simp; omega)
      refine ⟨s :: l, ?_, by simp; omega, (iter_go u1).trans ?_, p4.imp (fun e => (iter_go u2).trans ?_) fun e => (iter_go u2).trans ?_⟩
      · show bindO (F60 (k + 40) m) _ = _
        rw [q3]
        show branch (decide (v.2.2.2.2.2.2.2.2.2.2.2.2.2.2.2.2.2.2.2.2.2.2.2 = 0)) _ _ = _
        rw [decide_eq_true hc, branch_t, p1, hl]; rfl
      · rw [p3, List.append_assoc]; rfl
      · rw [e, List.append_assoc]; rfl
      · rw [e, List.append_assoc]; rfl
    · refine ⟨[], ?_, by simp, (iter_end ?_), .inl (iter_end ?_)⟩
      · show bindO (F60 (k + 40) m) _ = _
        rw [q3]
        show branch (decide (v.2.2.2.2.2.2.2.2.2.2.2.2.2.2.2.2.2.2.2.2.2.2.2 = 0)) _ _ = _
        rw [decide_eq_false hc]; rfl
      · show branch (decide (i < n)) (bindO (F60 (k + 40) m) _) _ = _
        rw [decide_eq_true g, branch_t, q3, List.append_nil]
        show branch (!(decide (v.2.2.2.2.2.2.2.2.2.2.2.2.2.2.2.2.2.2.2.2.2.2.2 = 0))) _ _ = _
        rw [decide_eq_false hc]; rfl
      · obtain ⟨b, a, f94, f93, hb, ha⟩ := at_v (k + 40) m hw
        obtain ⟨r, e1, e2, e3⟩ := fetch3 k m.w hw
        have t : T (F47_b0 (k + 40) (n, i, o, m)) (fun z => z = .inr (.inl (o ++ []))) := by
          unfold F47_b0
          refine T.br (fun _ => T.eq e2 (T.eq f94 (T.eq q1 (T.bindbind (T.bindbr (fun g => T.binds (T.bindbr (fun _ => T.binds (T.csl (T.ret ?_))) fun g => (ffc g.symm))) fun g => ?_))))) fun g' => absurd g (of_decide_eq_false g')
          · rw [List.append_nil]
          · exfalso
            have g' : (!(decide (v.2.2.2.2.2.2.2.2.2.2.2.2.2.2.2.2.2.2.2.2.2.2.2 = 0))) = false := g
            rw [decide_eq_false hc] at g'; cases g'
        obtain ⟨z, ez, rfl⟩ := t
        exact ez
theorem F46_eq (K : Nat) (xs : List (List UInt8)) (hl : xs.length ≤ maxLen) (hK : xs.length < K) : F46 K (xs, xs) = some true := by
  unfold maxLen at hl
  have h := loop_all (f := F46_b0 K) (fun i => (xs, xs, (i : Int))) xs (fun _ => true) (.inl false) (.inr ()) (fun i v hv hi => by
    have e1 : ((i : Int) < (xs.length : Int)) := by omega
    have e3 : w64 ((i : Int) + 1) = ((i + 1 : Nat) : Int) := by rw [w64_id (by omega) (by omega)]; omega
    simp only [F46_b0, branch_ite, if_pos e1, nth_s hv, e3, decide_true, Bool.not_true, branch_f, cond]) (by
    have e1 : ¬ ((xs.length : Int) < (xs.length : Int)) := by omega
    simp only [F46_b0, branch_ite, if_neg e1]) K hK
  replace h : iter K (F46_b0 K) (xs, xs, 0) = _ := h
  simp only [F46, decide_true, Bool.not_true, branch_f, h, bindO_s]
  rw [List.all_eq_true.2 (fun _ _ => rfl)]
  rfl
theorem traces (k : Nat) (m : MT) (n : Int) (hw : WInv (R0, n0, none) m.w) (f1 : F33 (k + 600 + 40) m = some true) (hn : 0 ≤ n ∧ n ≤ 100) : ∃ l, traceN (k + 600) n.toNat m = some l ∧ (l.length : Int) ≤ n ∧ F45 (k + 600 + 40) (cat m n) = some l ∧ F47 (k + 600 + 40) (cat m n) = some l := by
  have f2 := F32_ok k m hw
  obtain ⟨l, p1, p2, p3, p4⟩ := trace_loop (k + 600) n hn.2 n.toNat (k + 600 + 40) 0 m [] (Int.le_refl 0) (by omega) (by omega) hw rfl
  have a1 : F54 (k + 600 + 40) (n, 0, 100) = some true := (F54_in _ _ _ _).trans (congrArg some (decide_eq_true hn))
  have a2 : F87 (k + 600 + 40) (n, 0, 100) = some true := (F87_in _ _ _ _).trans (congrArg some (decide_eq_true hn))
  refine ⟨l, p1, by omega, ?_, ?_⟩
  · have t : T (F45 (k + 600 + 40) (cat m n)) (fun z => z = l) := by
      unfold F45
      exact T.bindbind (T.bindbind (T.eq f2 (T.bindbr nofun fun _ => T.bindbind (T.eq a1 (T.binds (T.bindbr nofun fun _ => T.binds (T.csr (T.eq p3 (T.ret rfl)))))))))
    obtain ⟨z, ez, rfl⟩ := t
    exact ez
  · have t : T (F47 (k + 600 + 40) (cat m n)) (fun z => z = l) := by
      unfold F47
      refine T.bindbind (T.bindbind (T.eq f1 (T.bindbr nofun fun _ => T.bindbind (T.eq a2 (T.binds (T.bindbr nofun fun _ => T.binds (T.csr ?_)))))))
      rcases p4 with p4 | p4
      · exact T.eq p4 (T.csl (T.ret rfl))
      · exact T.eq p4 (T.csr (T.ret rfl))
    obtain ⟨z, ez, rfl⟩ := t
    exact ez
end Go.U.Tryz
namespace Go.U.Tryz
open Go Go.U
set_option maxRecDepth 20000
set_option maxHeartbeats 4000000
theorem F48_eq (K : Nat) (xs : List (List UInt8)) (hl : xs.length ≤ maxLen) (hK : xs.length < K) : F48 K (xs, xs) = some true := F46_eq K xs hl hK
theorem F103_some (K : Nat) (k : Int) (hk : 0 ≤ k ∧ k ≤ 200) (hK : 200 < K) : ∃ s, F103 K k = some s := by
  obtain ⟨b, h1, h2⟩ := iter_inv (f := F103_b0 K) (fun a => 0 ≤ a.1 ∧ a.1 + (a.2.length : Int) ≤ k) (fun a => a.1.toNat) (fun b => (b.length : Int) ≤ k) (fun a ⟨g0, g1⟩ => by
    obtain ⟨x, s⟩ := a
    dsimp only at g0 g1
    by_cases g : 0 < x
    · have e1 : Int.tdiv x 10 = x / 10 := tdE g0
      have e2 : w64 (x / 10) = x / 10 := w64_id (by omega) (by omega)
      have hl : (toB [w8 (w64 (48 + (Int.tmod x 10)))]).length = 1 := by rw [toB_length]; rfl
      refine .inl ⟨(x / 10, toB [w8 (w64 (48 + (Int.tmod x 10)))] ++ s), ?_, ⟨by dsimp only; omega, by dsimp only; rw [List.length_append, hl]; omega⟩, by dsimp only; omega⟩
      show branch (decide (0 < x)) (guard (decide (((toB [w8 (w64 (48 + (Int.tmod x 10)))]).length) + s.length ≤ 9223372036854775807)) <| some (Sum.inl (w64 (Int.tdiv x 10), toB [w8 (w64 (48 + (Int.tmod x 10)))] ++ s) : (Int × List UInt8) ⊕ (List UInt8))) _ = _
      rw [decide_eq_true g, branch_t, e1, e2, decide_eq_true (show ((toB [w8 (w64 (48 + (Int.tmod x 10)))]).length) + s.length ≤ 9223372036854775807 by rw [hl]; omega), guard_t]
    · refine .inr ⟨s, ?_, by omega⟩
      show branch (decide (0 < x)) _ _ = _
      rw [decide_eq_false g]; rfl) K (k, []) ⟨hk.1, by dsimp only; simp⟩ (by dsimp only; omega)
  have t : T (F103 K k) fun _ => True := by
    unfold F103
    exact T.br (fun _ => T.ret trivial) fun _ => T.eq h1 (T.guard (decide_eq_true (by omega)) (T.ret trivial))
  obtain ⟨s, e, -⟩ := t
  exact ⟨s, e⟩
def markT (K : Nat) (k : Int) : List UInt8 := (F103 K k).getD []
theorem F103_eq (K : Nat) (k : Int) (hk : 0 ≤ k ∧ k ≤ 200) (hK : 200 < K) : F103 K k = some (markT K k) := by
  obtain ⟨s, e⟩ := F103_some K k hk hK
  unfold markT; rw [e]; rfl
def marksT (K : Nat) (k : Int) (n : Nat) : List (List UInt8) := (List.range n).map fun (i : Nat) => markT K (k + (i : Int))
theorem marksT_length (K : Nat) (k : Int) (n : Nat) : (marksT K k n).length = n := by simp [marksT]
theorem marksT_get (K : Nat) (k : Int) (n i : Nat) (h : i < n) : (marksT K k n)[i]? = some (markT K (k + (i : Int))) := by
  simp [marksT, h]
theorem F49_eq (K : Nat) (xs : List (List UInt8)) (k : Int) (hk : 0 ≤ k ∧ k ≤ 50) (hl : xs.length ≤ 100) (hK : 200 < K) : F49 K (k, xs) = some (k + (xs.length : Int), marksT K k xs.length) := by
  obtain ⟨b, h1, h2⟩ := iter_inv (f := F49_b0 K) (fun a => ∃ i : Nat, a.1 = k + (i : Int) ∧ a.2.1 = (i : Int) ∧ i ≤ xs.length ∧ a.2.2.length = xs.length ∧ ∀ j, j < i → a.2.2[j]? = some (markT K (k + (j : Int)))) (fun a => (xs.length : Int).toNat - a.2.1.toNat) (fun b => b = (k + (xs.length : Int), marksT K k xs.length)) (fun a ⟨i, g0, g1, g2, g3, g4⟩ => by
    obtain ⟨a0, a1, zs⟩ := a
    simp only at g0 g1 g2 g3 g4
    subst g0 g1
    by_cases g : i < xs.length
    · have c : ((i : Int) < (zs.length : Int)) := by omega
      have c2 : (0 ≤ (i : Int) ∧ (i : Int) < (zs.length : Int)) := by omega
      have e4 : zs[i]? = some zs[i] := List.getElem?_eq_getElem (by omega)
      have e5 := F103_eq K (k + (i : Int)) ⟨by omega, by omega⟩ hK
      refine .inl ⟨(w64 (k + (i : Int) + 1), w64 ((i : Int) + 1), zs.set i (markT K (k + (i : Int)))), ?_, ⟨i + 1, ?_, ?_, by omega, by simpa using g3, fun j hj => ?_⟩, ?_⟩
      · simp only [F49_b0, branch_ite, if_pos c, e5, bindO_s, guard_dec c2, Int.toNat_natCast, nthN_s e4]
      · dsimp only; rw [w64_id (by omega) (by omega)]; omega
      · dsimp only; rw [w64_id (by omega) (by omega)]; omega
      · dsimp only
        rw [List.getElem?_set]
        split
        · rename_i e
          subst e
          rw [if_pos (by omega)]
        · exact g4 j (by omega)
      · dsimp only
        rw [w64_id (n := (i : Int) + 1) (by omega) (by omega)]
        omega
    · have c : ¬ ((i : Int) < (zs.length : Int)) := by omega
      have hi : i = xs.length := by omega
      refine .inr ⟨(k + (i : Int), zs), by simp only [F49_b0, branch_ite, if_neg c], ?_⟩
      subst hi
      congr 1
      apply List.ext_getElem?
      intro j
      by_cases hj : j < xs.length
      · rw [g4 j hj, marksT_get K k _ j hj]
      · rw [List.getElem?_eq_none (by omega), List.getElem?_eq_none (by rw [marksT_length]; omega)]) K (k, 0, xs) ⟨0, by simp, rfl, Nat.zero_le _, rfl, fun j hj => by omega⟩ (by simp; omega)
  unfold F49
  refine (congrArg (fun z => bindO z _) h1).trans ?_
  rw [h2]; rfl
theorem F50_eq (K : Nat) (n : Nat) (k : Int) (hk : 0 ≤ k ∧ k ≤ 50) (hn : n ≤ 100) (hK : 200 < K) : F50 K (marksT K k n, k) = some (k + (n : Int)) := by
  have h := loop_all (f := F50_b0 K) (fun i => (marksT K k n, k + (i : Int), (i : Int))) (marksT K k n) (fun _ => true) (.inl (-1)) (.inr (k + (n : Int))) (fun i v hv hi => by
    rw [marksT_length] at hi
    have hv' := hv
    rw [marksT_get K k n i hi] at hv'
    have hv2 := Option.some.inj hv'
    have e1 : ((i : Int) < ((marksT K k n).length : Int)) := by rw [marksT_length]; omega
    have e3 : w64 ((i : Int) + 1) = ((i + 1 : Nat) : Int) := by rw [w64_id (by omega) (by omega)]; omega
    have e4 : w64 (k + (i : Int) + 1) = k + ((i + 1 : Nat) : Int) := by rw [w64_id (by omega) (by omega)]; omega
    have e5 := F103_eq K (k + (i : Int)) ⟨by omega, by omega⟩ hK
    simp only [F50_b0, branch_ite, if_pos e1, nth_s hv, ← hv2, e5, bindO_s, e3, e4, decide_true, Bool.not_true, branch_f, cond]) (by
    have e1 : ¬ (((marksT K k n).length : Int) < ((marksT K k n).length : Int)) := by omega
    have e2 : ¬ ((n : Int) < (n : Int)) := by omega
    simp only [F50_b0, branch_ite, marksT_length, if_neg e2]) K (by rw [marksT_length]; omega)
  rw [List.all_eq_true.2 (fun _ _ => rfl)] at h
  unfold F50
  have e0 : k + ((0 : Nat) : Int) = k := by omega
  simp only [e0] at h
  refine (congrArg (fun z => bindO z _) h).trans ?_
  rfl
theorem traces_all (k : Nat) (m : MT) (n : Int) (h : Sm m) (hK : m.2.2.2.2.2.2.2.2.2.2.2.2.2.2.2.2.2.2.2.2.2.1.length + 8 < k + 600 + 40) : ∃ l, l.length ≤ 100 ∧ F45o (k + 600 + 40) (cat m n) = some l ∧ F47 (k + 600 + 40) (cat m n) = some l := by
  obtain ⟨b, f1, f2, f3⟩ := F33_m (k + 600 + 40) m h hK
  have bad : (T (F45o (k + 600 + 40) (cat m n)) fun z => z = []) → (T (F47 (k + 600 + 40) (cat m n)) fun z => z = []) → ∃ l, l.length ≤ 100 ∧ F45o (k + 600 + 40) (cat m n) = some l ∧ F47 (k + 600 + 40) (cat m n) = some l := by
    rintro ⟨z1, e1, rfl⟩ ⟨z2, e2, rfl⟩
    exact ⟨[], by simp, e1, e2⟩
  cases b with
  | false =>
    refine bad ?_ ?_
    · unfold F45o
      exact T.bindbind (T.bindbind (T.eq f2 (T.bindbr (fun _ => T.binds (T.bindbr (fun _ => T.binds (T.csl (T.ret rfl))) nofun)) nofun)))
    · unfold F47
      exact T.bindbind (T.bindbind (T.eq f1 (T.bindbr (fun _ => T.binds (T.bindbr (fun _ => T.binds (T.csl (T.ret rfl))) nofun)) nofun)))
  | true =>
    have hw := f3 rfl
    have a1 := F54_in (k + 600 + 40) n 0 100
    have a2 := F87_in (k + 600 + 40) n 0 100
    cases hr : inR n 0 100 with
    | false =>
      rw [hr] at a1 a2
      refine bad ?_ ?_
      · unfold F45o
        exact T.bindbind (T.bindbind (T.eq f2 (T.bindbr nofun fun _ => T.bindbind (T.eq a1 (T.binds (T.bindbr (fun _ => T.binds (T.csl (T.ret rfl))) nofun))))))
      · unfold F47
        exact T.bindbind (T.bindbind (T.eq f1 (T.bindbr nofun fun _ => T.bindbind (T.eq a2 (T.binds (T.bindbr (fun _ => T.binds (T.csl (T.ret rfl))) nofun))))))
    | true =>
      rw [hr] at a1 a2
      have hn : 0 ≤ n ∧ n ≤ 100 := of_decide_eq_true hr
      obtain ⟨l, p1, p2, p3, p4⟩ := traces k m n hw f1 hn
      obtain ⟨l', p5, p6, p7, p8⟩ := trace_loop (k + 600) n hn.2 n.toNat (k + 600 + 40) 0 m [] (Int.le_refl 0) (by omega) (by omega) hw rfl
      have hll : l' = l := Option.some.inj (p5.symm.trans p1)
      subst hll
      refine ⟨l', by omega, ?_, p4⟩
      have p9 : iter (k + 600 + 40) (F45o_b0 (k + 600 + 40)) (n, 0, [], m) = some l' := p7
      have t : T (F45o (k + 600 + 40) (cat m n)) (fun z => z = l') := by
        unfold F45o
        exact T.bindbind (T.bindbind (T.eq f2 (T.bindbr nofun fun _ => T.bindbind (T.eq a1 (T.binds (T.bindbr nofun fun _ => T.binds (T.csr (T.eq p9 (T.ret rfl)))))))))
      obtain ⟨z, ez, rfl⟩ := t
      exact ez
theorem F14_true (m : MT) (n : Int) (h1 : m.2.2.2.2.2.2.2.2.2.2.2.2.1.length ≤ maxLen) (h2 : m.2.2.2.2.2.2.2.2.2.2.2.2.2.2.2.1.length ≤ maxLen) (h3 : m.2.2.2.2.2.2.2.2.2.2.2.2.2.2.2.2.2.2.2.1.length ≤ maxLen) (h4 : m.2.2.2.2.2.2.2.2.2.2.2.2.2.2.2.2.2.2.2.2.1.length ≤ maxLen) (h5 : m.2.2.2.2.2.2.2.2.2.2.2.2.2.2.2.2.2.2.2.2.2.1.length ≤ maxLen) :
    T (F14 (m.2.2.2.2.2.2.2.2.2.2.2.2.2.2.2.2.2.2.2.2.2.1.length + 600 + 40) (cat m n)) fun r => r = true := by
  obtain ⟨r, e0, hr⟩ := F27_eq (m.2.2.2.2.2.2.2.2.2.2.2.2.2.2.2.2.2.2.2.2.2.1.length + 600 + 40) m.1 m.2.1 m.2.2.1 m.2.2.2.1 m.2.2.2.2.1 m.2.2.2.2.2.1 m.2.2.2.2.2.2.1 m.2.2.2.2.2.2.2.1 m.2.2.2.2.2.2.2.2.1 m.2.2.2.2.2.2.2.2.2.1 m.2.2.2.2.2.2.2.2.2.2.1 m.2.2.2.2.2.2.2.2.2.2.2.1 m.2.2.2.2.2.2.2.2.2.2.2.2.1 m.2.2.2.2.2.2.2.2.2.2.2.2.2.1 m.2.2.2.2.2.2.2.2.2.2.2.2.2.2.1 m.2.2.2.2.2.2.2.2.2.2.2.2.2.2.2.1 m.2.2.2.2.2.2.2.2.2.2.2.2.2.2.2.2.1 m.2.2.2.2.2.2.2.2.2.2.2.2.2.2.2.2.2.1 m.2.2.2.2.2.2.2.2.2.2.2.2.2.2.2.2.2.2.1 m.2.2.2.2.2.2.2.2.2.2.2.2.2.2.2.2.2.2.2.1 m.2.2.2.2.2.2.2.2.2.2.2.2.2.2.2.2.2.2.2.2.1 m.2.2.2.2.2.2.2.2.2.2.2.2.2.2.2.2.2.2.2.2.2.1 m.2.2.2.2.2.2.2.2.2.2.2.2.2.2.2.2.2.2.2.2.2.2 h1 h2 h3 h4 h5
  unfold F14
  refine T.eq e0 ?_
  refine T.br (fun _ => T.ret rfl) fun g => ?_
  have hr0 : 0 ≤ r := by have := of_decide_eq_false g; omega
  have hs : Sm m := ⟨h1, hr hr0⟩
  have hK : m.2.2.2.2.2.2.2.2.2.2.2.2.2.2.2.2.2.2.2.2.2.1.length + 8 < m.2.2.2.2.2.2.2.2.2.2.2.2.2.2.2.2.2.2.2.2.2.1.length + 600 + 40 := by omega
  obtain ⟨l, s3, s2, s1⟩ := traces_all (m.2.2.2.2.2.2.2.2.2.2.2.2.2.2.2.2.2.2.2.2.2.1.length) m n hs hK
  have a1 := F28o_m (m.2.2.2.2.2.2.2.2.2.2.2.2.2.2.2.2.2.2.2.2.2.1.length + 600 + 40) m hs.out hK
  have a2 := F28_m (m.2.2.2.2.2.2.2.2.2.2.2.2.2.2.2.2.2.2.2.2.2.1.length + 600 + 40) m hs.out hK
  have a3 := F29_m (m.2.2.2.2.2.2.2.2.2.2.2.2.2.2.2.2.2.2.2.2.2.1.length + 600 + 40) m hs.out hK
  have a4 := F30_m (m.2.2.2.2.2.2.2.2.2.2.2.2.2.2.2.2.2.2.2.2.2.1.length + 600 + 40) m 1 m.2.2.2.2.2.2.2.2.2.2.2.2.2.2.2.2.2.2.2.2.2.1 (by omega) hs.out (by omega)
  have c48 := F48_eq (m.2.2.2.2.2.2.2.2.2.2.2.2.2.2.2.2.2.2.2.2.2.1.length + 600 + 40) l (by unfold maxLen; omega) (by omega)
  have d49 := F49_eq (m.2.2.2.2.2.2.2.2.2.2.2.2.2.2.2.2.2.2.2.2.2.1.length + 600 + 40) l 1 (by omega) s3 (by omega)
  have d50 := F50_eq (m.2.2.2.2.2.2.2.2.2.2.2.2.2.2.2.2.2.2.2.2.2.1.length + 600 + 40) l.length 1 (by omega) s3 (by omega)
  generalize m.2.2.2.2.2.2.2.2.2.2.2.2.2.2.2.2.2.2.2.2.2.1.length + 600 + 40 = K at *
  refine T.eq a1 ?_
  refine T.eq s1 ?_
  refine T.eq a1 ?_
  refine T.eq s2 ?_
  refine T.eq c48 (T.br nofun fun _ => ?_)
  refine T.eq a2 ?_
  refine T.eq a3 (T.br nofun fun _ => ?_)
  refine T.eq a4 ?_
  refine T.bindbind (T.bindbr (fun g => absurd (of_decide_eq_true g) (by dsimp only; omega)) fun _ => ?_)
  refine T.bindbind (T.eq c48 (T.binds (T.bindbr nofun fun _ => T.binds (T.csr ?_))))
  refine T.eq d49 ?_
  refine T.eq d50 ?_
  refine T.br (fun g => absurd (of_decide_eq_true g) (by omega)) fun _ => T.br (fun g => (ff g).elim) fun _ => ?_
  refine T.eq a1 ?_
  refine T.eq s2 ?_
  refine T.eq c48 (T.br nofun fun _ => ?_)
  refine T.eq d50 ?_
  exact T.br (fun g => absurd (of_decide_eq_true g) (by omega)) fun _ => T.br (fun g => (ff g).elim) fun _ => T.ret rfl
theorem fnExactTraceOf_law (a0 : T49.den) (a1 : T2.den) (h : T49.ok a0) (h' : T2.ok a1) : ∃ K, A14 K a0 a1 = some true := by
  obtain ⟨⟨c0, c1, c2, c3, c4, c5, c6, c7, c8, c9, b0, b1⟩, ⟨rom, k1, k2, ram, k3, kb, k4⟩, s1, s2, st, n⟩ := a0
  obtain ⟨-, ⟨h1, -, -, h2, -⟩, h3, h4, ⟨h5, -⟩, -⟩ := h
  obtain ⟨r, e, rfl⟩ := F14_true (c0, c1, c2, c3, c4, c5, c6, c7, c8, c9, b0, b1, rom, k1, k2, ram, k3, kb, k4, s1, s2, st, n) a1 h1 h2 h3 h4 h5
  exact ⟨_, e⟩
end Go.U.Tryz
