/- A part of the proof. No condition. -/
import Derived.Test.YtncclmpabjglmaaGreatDoorP3
import Derived.Test.YtncclmpabjglmaaGreatDoorP1
import Derived.Test.YtncclmpabjglmaaGreatDoorVMe
import Derived.Test.YtncclmpabjglmaaGreatDoorVMf
set_option linter.unusedVariables false
set_option linter.unusedSimpArgs false
set_option linter.unusedSectionVars false
namespace Go.U.Tryz
open Go Go.U
set_option linter.unusedVariables false
set_option linter.unusedSimpArgs false
set_option maxRecDepth 20000
def noCb (n : Nat) : Bool := decide (n = 203 ∨ n = 211 ∨ n = 219 ∨ n = 227 ∨ n = 235 ∨ n = 228 ∨ n = 236 ∨ n = 244 ∨ n = 252 ∨ n = 221 ∨ n = 237 ∨ n = 253)
def len2Chk (k : Nat) (c : Nat) : Bool := match F196 (k + 40) ((c : Int), false) with
  | some n => decide (F65 (k + 40) ((c : Int), false) = some n) && decide (n = 0 ∨ n = 1 ∨ n = 2 ∨ n = 3) && (decide (n = 0) || noCb c == false) && (decide (n ≤ 2) || !(decide (c % 8 = 6 ∨ c = 224 ∨ c = 232 ∨ c = 240 ∨ c = 248)))
  | none => false
theorem len2All (k : Nat) : (List.range 256).all (fun c => decide (c = 203) || len2Chk k c) = true := by kernel_rfl
def cyc2Chk (k : Nat) (cb : Bool) (c : Nat) : Bool := decide (F26 (k + 40) ((c : Int), cb, true) = F118 (k + 40) ((c : Int), cb, true)) && decide (F26 (k + 40) ((c : Int), cb, false) = F118 (k + 40) ((c : Int), cb, false)) && (((!cb) && condC (c : Int)) || decide (F118 (k + 40) ((c : Int), cb, true) = F118 (k + 40) ((c : Int), cb, false)))
theorem cyc2All (k : Nat) (cb : Bool) : (List.range 256).all (fun c => (!cb && noCb c) || cyc2Chk k cb c) = true := by
  cases cb
  · kernel_rfl
  · kernel_rfl
theorem len2 (k : Nat) (c : Int) (hc : 0 ≤ c ∧ c ≤ 255) (h3 : c ≠ 203) : ∃ n, F65 (k + 40) (c, false) = some n ∧ F196 (k + 40) (c, false) = some n ∧ (n = 0 ∨ n = 1 ∨ n = 2 ∨ n = 3) ∧ (n ≠ 0 → ¬ noC c) ∧ ((c % 8 = 6 ∨ c = 224 ∨ c = 232 ∨ c = 240 ∨ c = 248) → n ≤ 2) := by
  obtain ⟨m, rfl⟩ : ∃ m : Nat, c = (m : Int) := ⟨c.toNat, by omega⟩
  have h := List.all_eq_true.1 (len2All k) m (List.mem_range.2 (by omega))
  have h3' : ¬ m = 203 := by omega
  rw [decide_eq_false h3', Bool.false_or] at h
  unfold len2Chk at h
  split at h
  · rename_i n hn
    simp only [Bool.and_eq_true, Bool.or_eq_true, decide_eq_true_eq, beq_iff_eq, Bool.not_eq_true', decide_eq_false_iff_not] at h
    obtain ⟨⟨⟨h1, h2⟩, h4⟩, h5⟩ := h
    refine ⟨n, h1, hn, h2, fun g => ?_, fun g => ?_⟩
    · have := of_decide_eq_false (h4.resolve_left g)
      unfold noC; omega
    · rcases h5 with h5 | h5
      · exact h5
      · omega
  · cases h
theorem cyc2 (k : Nat) (c : Int) (cb : Bool) (hc : 0 ≤ c ∧ c ≤ 255) (hv : cb = false → ¬ noC c) (t t' : Bool) (ht : (cb = false ∧ condC c = true) → t = t') :
    F26 (k + 40) (c, cb, t) = F118 (k + 40) (c, cb, t') := by
  obtain ⟨m, rfl⟩ : ∃ m : Nat, c = (m : Int) := ⟨c.toNat, by omega⟩
  have h := List.all_eq_true.1 (cyc2All k cb) m (List.mem_range.2 (by omega))
  have hn : (!cb && noCb m) = false := by
    cases cb
    · have := hv rfl
      exact decide_eq_false (by unfold noC at this; omega)
    · rfl
  rw [hn, Bool.false_or] at h
  unfold cyc2Chk at h
  simp only [Bool.and_eq_true, Bool.or_eq_true, decide_eq_true_eq, Bool.not_eq_true'] at h
  obtain ⟨⟨h1, h2⟩, h3⟩ := h
  have a : F26 (k + 40) ((m : Int), cb, t) = F118 (k + 40) ((m : Int), cb, t) := by cases t <;> assumption
  rw [a]
  rcases h3 with h3 | h3
  · rw [ht h3]
  · cases t <;> cases t' <;> first | rfl | exact h3 | exact h3.symm
def H25 (K : Nat) (S : List UInt8) (v3 : UInt8) (v4 : Int) : Option (Int × Bool × Int × Int) :=
    bindO (α := (Int × Bool × Int × Int) ⊕ ((List UInt8) × Int × Int × Bool × Int × Int × Bool × Int)) (bindO (α := (List UInt8) × Int × Bool × Int × Bool × Int × Int × Bool × Int) (branch (decide (v4 = 0))
         (some (S, v4, true, w64 (v3.toNat : Int), false, 0, 0, false, 0))
         (some (S, v4, decide (((S).length : Int) < v4), w64 (v3.toNat : Int), false, 0, 0, false, 0))) fun v5 =>
      branch v5.2.2.1
       (some (.inl (0, false, 0, 0)))
       (some (.inr (v5.1, v5.2.1, v5.2.2.2)))) fun v6 =>
    csO v6
     (fun v7 => some v7)
     (fun v8 => bindO (iter K (F25_b0 K) (v8.1, v8.2.1, w64 (v8.2.1 - 1), v8.2.2)) fun v9 =>
     some (v9.2.1, v9.2.2.1, v9.2.2.2.1, v9.1))
def H139 (K : Nat) (v3 : List UInt8 × Int × Int × Int × Bool × Int) (v4 v6 : Int) : Option (Int × Bool × Int × Int) :=
    bindO (α := (Int × Bool × Int × Int) ⊕ ((List UInt8) × Int × Int × Int × Bool × Int × Int × Bool × Int)) (bindO (α := (List UInt8) × Int × Int × Bool × Int × Bool × Int × Int × Bool × Int) (branch (decide (v6 = 0))
         (some (v3.1, v3.2.1, v6, true, v4, false, 0, v3.2.2.2))
         (some (v3.1, v3.2.1, v6, decide (v3.2.2.1 < v6), v4, false, 0, v3.2.2.2))) fun v7 =>
      branch v7.2.2.2.1
       (some (.inl (0, false, 0, 0)))
       (some (.inr (v7.1, v7.2.1, v7.2.2.1, v7.2.2.2.2)))) fun v8 =>
    csO v8
     (fun v9 => some v9)
     (fun v10 => bindO (α := (List UInt8) × Int × Int × Int × Bool × Int × Int × Bool × Int) (branch (decide (1 < v10.2.2.1))
        (bindO (F195 K (v10.1, w64 (v10.2.1 + 1))) fun v11 =>
        some (v10.1, v10.2.1, v10.2.2.1, v10.2.2.2.1, v10.2.2.2.2.1, v11, v10.2.2.2.2.2.2))
        (some v10)) fun v12 =>
     branch (decide (2 < v12.2.2.1))
      (bindO (F195 K (v12.1, w64 (v12.2.1 + 2))) fun v13 =>
      some (v12.2.2.2.1, v12.2.2.2.2.1, w64 (v12.2.2.2.2.2.1 + (w64 (256 * v13))), v12.2.2.1))
      (some (v12.2.2.2.1, v12.2.2.2.2.1, v12.2.2.2.2.2.1, v12.2.2.1)))
def Rd (r : Int × Bool × Int × Int) : Prop := r.2.2.2 = 0 ∨ ((0 ≤ r.1 ∧ r.1 ≤ 255) ∧ (0 ≤ r.2.2.1 ∧ r.2.2.1 ≤ 65535) ∧ (1 ≤ r.2.2.2 ∧ r.2.2.2 ≤ 3) ∧ (r.2.1 = false → ¬ noC r.1 ∧ ((r.1 % 8 = 6 ∨ r.1 = 224 ∨ r.1 = 232 ∨ r.1 = 240 ∨ r.1 = 248) → r.2.2.1 ≤ 255)))
theorem read3 (k : Nat) (b0 b1 b2 : UInt8) : ∃ r, F25 (k + 40) ([b0, b1, b2], 0) = some r ∧ F139 (k + 40) ([b0, b1, b2], 0) = some r ∧ Rd r := by
  have l : F25 (k + 40) ([b0, b1, b2], 0) = branch (decide ((b0.toNat : Int) = 203)) (some (w64 (b1.toNat : Int), true, 0, 2)) (bindO (F65 (k + 40) (w64 (b0.toNat : Int), false)) fun v4 => H25 (k + 40) [b0, b1, b2] b0 v4) := by kernel_rfl
  have r : F139 (k + 40) ([b0, b1, b2], 0) = branch (decide (w64 (b0.toNat : Int) = 203)) (some (w64 (b1.toNat : Int), true, 0, 2)) (bindO (F196 (k + 40) (w64 (b0.toNat : Int), false)) fun v6 => H139 (k + 40) ([b0, b1, b2], 0, 3, 0, false, 0) (w64 (b0.toNat : Int)) v6) := by kernel_rfl
  have g0 := byte_u8 b0
  have g1 := byte_u8 b1
  have g2 := byte_u8 b2
  have e0 : w64 (b0.toNat : Int) = (b0.toNat : Int) := w64_id (by omega) (by have := b0.toNat_lt; omega)
  rw [l, r]
  by_cases h : (b0.toNat : Int) = 203
  · rw [e0, decide_eq_true h]
    refine ⟨_, rfl, rfl, .inr ⟨g1, ⟨Int.le_refl 0, by dsimp only; omega⟩, ⟨by dsimp only; omega, by dsimp only; omega⟩, fun e => by cases e⟩⟩
  · have h' : ¬ w64 (b0.toNat : Int) = 203 := by rw [e0]; exact h
    rw [decide_eq_false h, decide_eq_false h']
    obtain ⟨n, e1, e2, hn, hv, h6⟩ := len2 k (w64 (b0.toNat : Int)) g0 h'
    rw [e1, e2]
    simp only [branch_f, bindO_s]
    rcases hn with rfl | rfl | rfl | rfl
    · exact ⟨(0, false, 0, 0), by kernel_rfl, by kernel_rfl, .inl rfl⟩
    · exact ⟨(w64 (b0.toNat : Int), false, 0, 1), by kernel_rfl, by kernel_rfl, .inr ⟨g0, ⟨Int.le_refl 0, by dsimp only; omega⟩, ⟨by dsimp only; omega, by dsimp only; omega⟩, fun _ => ⟨hv (by omega), fun _ => by dsimp only; omega⟩⟩⟩
    · refine ⟨(w64 (b0.toNat : Int), false, w64 (b1.toNat : Int), 2), ?_, by kernel_rfl, .inr ⟨g0, ⟨g1.1, by dsimp only; omega⟩, ⟨by dsimp only; omega, by dsimp only; omega⟩, fun _ => ⟨hv (by omega), fun _ => g1.2⟩⟩⟩
      refine Eq.trans (b := some (w64 (b0.toNat : Int), false, bits .or .i64 (shlI .i64 0 8) (w64 (b1.toNat : Int)), 2)) (by kernel_rfl) ?_
      have e := or_join 0 (w64 (b1.toNat : Int)) (by omega) (by omega) g1.1 g1.2
      rw [shl8 0 (by omega) (by omega), e]
      simp only [Int.mul_zero, Int.zero_add]
    · refine ⟨(w64 (b0.toNat : Int), false, w64 (w64 (b1.toNat : Int) + w64 (256 * w64 (b2.toNat : Int))), 3), ?_, by kernel_rfl, .inr ⟨g0, ?_, ⟨by dsimp only; omega, by dsimp only; omega⟩, fun _ => ⟨hv (by omega), fun g => absurd (h6 g) (by omega)⟩⟩⟩
      · refine Eq.trans (b := some (w64 (b0.toNat : Int), false, bits .or .i64 (shlI .i64 (bits .or .i64 (shlI .i64 0 8) (w64 (b2.toNat : Int))) 8) (w64 (b1.toNat : Int)), 3)) (by kernel_rfl) ?_
        have e := or_join 0 (w64 (b2.toNat : Int)) (by omega) (by omega) g2.1 g2.2
        have e' := or_join (w64 (b2.toNat : Int)) (w64 (b1.toNat : Int)) g2.1 (by omega) g1.1 g1.2
        rw [shl8 0 (by omega) (by omega), e]
        simp only [Int.mul_zero, Int.zero_add]
        rw [shl8 (w64 (b2.toNat : Int)) g2.1 (by omega), e', w64_id (n := 256 * w64 (b2.toNat : Int)) (by omega) (by omega), w64_id (n := w64 (b1.toNat : Int) + 256 * w64 (b2.toNat : Int)) (by omega) (by omega), Int.add_comm]
      · dsimp only
        rw [w64_id (n := 256 * w64 (b2.toNat : Int)) (by omega) (by omega), w64_id (n := w64 (b1.toNat : Int) + 256 * w64 (b2.toNat : Int)) (by omega) (by omega)]
        omega
theorem iter_go {α β : Type} {n : Nat} {f : α → Option (α ⊕ β)} {a a' : α} (h : f a = some (.inl a')) : iter (n + 1) f a = iter n f a' := by simp only [iter, h]
theorem iter_end {α β : Type} {n : Nat} {f : α → Option (α ⊕ β)} {a : α} {b : β} (h : f a = some (.inr b)) : iter (n + 1) f a = some b := by simp only [iter, h]
theorem F134_1 (k : Nat) (v : Int) : F134 (k + 40) (v, 1) = some (toB [w8 v]) := by kernel_rfl
theorem fetch3 (k : Nat) (w : WT) (h : WInv w) : ∃ r, F98 (k + 40) (WT.m w) = some (r.1, r.2.1, r.2.2.1, r.2.2.2, WT.m w) ∧ F100 (k + 40) (WT.m w) = some r ∧ Rd r := by
  have hp := h.pc
  obtain ⟨v0, e0, _⟩ := F138_t (k + 40) w h ((w.2.2.2.2.2.2.2.2.2.1 + 0) % 65536) (by omega)
  obtain ⟨v1, e1, _⟩ := F138_t (k + 40) w h ((w.2.2.2.2.2.2.2.2.2.1 + 1) % 65536) (by omega)
  obtain ⟨v2, e2, _⟩ := F138_t (k + 40) w h ((w.2.2.2.2.2.2.2.2.2.1 + 2) % 65536) (by omega)
  have n0 : w64 (w.2.2.2.2.2.2.2.2.2.1 + 0) = w.2.2.2.2.2.2.2.2.2.1 + 0 := w64_id (by omega) (by omega)
  have n1 : w64 (w.2.2.2.2.2.2.2.2.2.1 + 1) = w.2.2.2.2.2.2.2.2.2.1 + 1 := w64_id (by omega) (by omega)
  have n2 : w64 (w.2.2.2.2.2.2.2.2.2.1 + 2) = w.2.2.2.2.2.2.2.2.2.1 + 2 := w64_id (by omega) (by omega)
  have m0 : Int.tmod (w.2.2.2.2.2.2.2.2.2.1 + 0) 65536 = (w.2.2.2.2.2.2.2.2.2.1 + 0) % 65536 := Int.tmod_eq_emod_of_nonneg (by omega)
  have m1 : Int.tmod (w.2.2.2.2.2.2.2.2.2.1 + 1) 65536 = (w.2.2.2.2.2.2.2.2.2.1 + 1) % 65536 := Int.tmod_eq_emod_of_nonneg (by omega)
  have m2 : Int.tmod (w.2.2.2.2.2.2.2.2.2.1 + 2) 65536 = (w.2.2.2.2.2.2.2.2.2.1 + 2) % 65536 := Int.tmod_eq_emod_of_nonneg (by omega)
  have fa : ∀ (i : Int) (l : List UInt8) (v : Int), 0 ≤ i ∧ i < 3 → l.length ≤ 3 → F138 (k + 40) (w.1, w.2.1, w.2.2.1, w.2.2.2.1, w.2.2.2.2.1, w.2.2.2.2.2.1, w.2.2.2.2.2.2.1, w.2.2.2.2.2.2.2.1, w.2.2.2.2.2.2.2.2.1, w.2.2.2.2.2.2.2.2.2.1, w.2.2.2.2.2.2.2.2.2.2.1, w.2.2.2.2.2.2.2.2.2.2.2.1, w.2.2.2.2.2.2.2.2.2.2.2.2.1, w.2.2.2.2.2.2.2.2.2.2.2.2.2.1, w.2.2.2.2.2.2.2.2.2.2.2.2.2.2.1, w.2.2.2.2.2.2.2.2.2.2.2.2.2.2.2.1, w.2.2.2.2.2.2.2.2.2.2.2.2.2.2.2.2.1, w.2.2.2.2.2.2.2.2.2.2.2.2.2.2.2.2.2.1, w.2.2.2.2.2.2.2.2.2.2.2.2.2.2.2.2.2.2.1, w.2.2.2.2.2.2.2.2.2.2.2.2.2.2.2.2.2.2.2.1, w.2.2.2.2.2.2.2.2.2.2.2.2.2.2.2.2.2.2.2.2.1, w.2.2.2.2.2.2.2.2.2.2.2.2.2.2.2.2.2.2.2.2.2.1, w.2.2.2.2.2.2.2.2.2.2.2.2.2.2.2.2.2.2.2.2.2.2.1, (w.2.2.2.2.2.2.2.2.2.1 + i) % 65536) = some v → w64 (w.2.2.2.2.2.2.2.2.2.1 + i) = w.2.2.2.2.2.2.2.2.2.1 + i → F98_b0 (k + 40) (l, i, 0, false, 0, WT.m w) = some (.inl (l ++ toB [w8 v], w64 (i + 1), 0, false, 0, WT.m w)) := by
    intro i l v hi hl e en
    have a : F98_b0 (k + 40) (l, i, 0, false, 0, WT.m w) = branch (decide (i < 3)) (bindO (F64 (k + 40) (w64 (w.2.2.2.2.2.2.2.2.2.1 + i), WT.m w)) fun v0 => bindO (F134 (k + 40) (v0.1, 1)) fun v1 => guard (decide ((l.length + v1.length) ≤ 9223372036854775807)) <| some (.inl (l ++ v1, w64 (i + 1), 0, false, 0, WT.m w))) (some (.inr (l, 0, false, 0, WT.m w))) := rfl
    rw [a, decide_eq_true hi.2, branch_t, en, F64_w (k + 40) w h, e]
    simp only [bindO_s, F134_1]
    have : (l.length + (toB [w8 v]).length) ≤ 9223372036854775807 := by rw [toB_length]; simp; omega
    rw [decide_eq_true this, guard_t]
  have fb : ∀ (i : Int) (l : List Int) (v : Int), 0 ≤ i ∧ i < 3 → l.length ≤ 3 → F138 (k + 40) (w.1, w.2.1, w.2.2.1, w.2.2.2.1, w.2.2.2.2.1, w.2.2.2.2.2.1, w.2.2.2.2.2.2.1, w.2.2.2.2.2.2.2.1, w.2.2.2.2.2.2.2.2.1, w.2.2.2.2.2.2.2.2.2.1, w.2.2.2.2.2.2.2.2.2.2.1, w.2.2.2.2.2.2.2.2.2.2.2.1, w.2.2.2.2.2.2.2.2.2.2.2.2.1, w.2.2.2.2.2.2.2.2.2.2.2.2.2.1, w.2.2.2.2.2.2.2.2.2.2.2.2.2.2.1, w.2.2.2.2.2.2.2.2.2.2.2.2.2.2.2.1, w.2.2.2.2.2.2.2.2.2.2.2.2.2.2.2.2.1, w.2.2.2.2.2.2.2.2.2.2.2.2.2.2.2.2.2.1, w.2.2.2.2.2.2.2.2.2.2.2.2.2.2.2.2.2.2.1, w.2.2.2.2.2.2.2.2.2.2.2.2.2.2.2.2.2.2.2.1, w.2.2.2.2.2.2.2.2.2.2.2.2.2.2.2.2.2.2.2.2.1, w.2.2.2.2.2.2.2.2.2.2.2.2.2.2.2.2.2.2.2.2.2.1, w.2.2.2.2.2.2.2.2.2.2.2.2.2.2.2.2.2.2.2.2.2.2.1, (w.2.2.2.2.2.2.2.2.2.1 + i) % 65536) = some v → w64 (w.2.2.2.2.2.2.2.2.2.1 + i) = w.2.2.2.2.2.2.2.2.2.1 + i → Int.tmod (w.2.2.2.2.2.2.2.2.2.1 + i) 65536 = (w.2.2.2.2.2.2.2.2.2.1 + i) % 65536 → F100_b0 (k + 40) (i, l, 0, false, 0, WT.m w) = some (.inl (w64 (i + 1), l ++ [w8 v], 0, false, 0, WT.m w)) := by
    intro i l v hi hl e en em
    have a : F100_b0 (k + 40) (i, l, 0, false, 0, WT.m w) = branch (decide (i < 3)) (bindO (F138 (k + 40) (w.1, w.2.1, w.2.2.1, w.2.2.2.1, w.2.2.2.2.1, w.2.2.2.2.2.1, w.2.2.2.2.2.2.1, w.2.2.2.2.2.2.2.1, w.2.2.2.2.2.2.2.2.1, w.2.2.2.2.2.2.2.2.2.1, w.2.2.2.2.2.2.2.2.2.2.1, w.2.2.2.2.2.2.2.2.2.2.2.1, w.2.2.2.2.2.2.2.2.2.2.2.2.1, w.2.2.2.2.2.2.2.2.2.2.2.2.2.1, w.2.2.2.2.2.2.2.2.2.2.2.2.2.2.1, w.2.2.2.2.2.2.2.2.2.2.2.2.2.2.2.1, w.2.2.2.2.2.2.2.2.2.2.2.2.2.2.2.2.1, w.2.2.2.2.2.2.2.2.2.2.2.2.2.2.2.2.2.1, w.2.2.2.2.2.2.2.2.2.2.2.2.2.2.2.2.2.2.1, w.2.2.2.2.2.2.2.2.2.2.2.2.2.2.2.2.2.2.2.1, w.2.2.2.2.2.2.2.2.2.2.2.2.2.2.2.2.2.2.2.2.1, w.2.2.2.2.2.2.2.2.2.2.2.2.2.2.2.2.2.2.2.2.2.1, w.2.2.2.2.2.2.2.2.2.2.2.2.2.2.2.2.2.2.2.2.2.2.1, Int.tmod (w64 (w.2.2.2.2.2.2.2.2.2.1 + i)) 65536)) fun v0 => guard (fitN (l.length + [w8 v0].length) 1) <| some (.inl (w64 (i + 1), l ++ [w8 v0], 0, false, 0, WT.m w))) (some (.inr (l, 0, false, 0))) := rfl
    rw [a, decide_eq_true hi.2, branch_t, en, em, e]
    have : fitN (l.length + [w8 v].length) 1 = true := by unfold fitN; exact decide_eq_true (by simp; omega)
    simp only [bindO_s, this, guard_t]
  have ea : iter (k + 40) (F98_b0 (k + 40)) ([], 0, 0, false, 0, WT.m w) = some ([] ++ toB [w8 v0] ++ toB [w8 v1] ++ toB [w8 v2], 0, false, 0, WT.m w) := by
    refine (iter_go (n := k + 39) (fa 0 [] v0 (by omega) (by simp) e0 n0)).trans ?_
    refine (iter_go (n := k + 38) (fa 1 _ v1 (by omega) (by simp [toB_length]) e1 n1)).trans ?_
    refine (iter_go (n := k + 37) (fa 2 _ v2 (by omega) (by simp [toB_length]) e2 n2)).trans ?_
    exact iter_end (n := k + 36) rfl
  have eb : iter (k + 40) (F100_b0 (k + 40)) (0, [], 0, false, 0, WT.m w) = some ([] ++ [w8 v0] ++ [w8 v1] ++ [w8 v2], 0, false, 0) := by
    refine (iter_go (n := k + 39) (fb 0 [] v0 (by omega) (by simp) e0 n0 m0)).trans ?_
    refine (iter_go (n := k + 38) (fb 1 _ v1 (by omega) (by simp) e1 n1 m1)).trans ?_
    refine (iter_go (n := k + 37) (fb 2 _ v2 (by omega) (by simp) e2 n2 m2)).trans ?_
    exact iter_end (n := k + 36) rfl
  obtain ⟨b0, hb0⟩ : ∃ b, toB [w8 v0] = [b] := ⟨_, rfl⟩
  obtain ⟨b1, hb1⟩ : ∃ b, toB [w8 v1] = [b] := ⟨_, rfl⟩
  obtain ⟨b2, hb2⟩ : ∃ b, toB [w8 v2] = [b] := ⟨_, rfl⟩
  have hb : toB ([] ++ [w8 v0] ++ [w8 v1] ++ [w8 v2]) = [b0, b1, b2] := by
    have : toB ([] ++ [w8 v0] ++ [w8 v1] ++ [w8 v2]) = toB [w8 v0] ++ toB [w8 v1] ++ toB [w8 v2] := rfl
    rw [this, hb0, hb1, hb2]; rfl
  obtain ⟨r, r1, r2, r3⟩ := read3 k b0 b1 b2
  refine ⟨r, ?_, ?_, r3⟩
  · have a : F98 (k + 40) (WT.m w) = bindO (iter (k + 40) (F98_b0 (k + 40)) ([], 0, 0, false, 0, WT.m w)) fun v0 => bindO (F25 (k + 40) (v0.1, 0)) fun v1 => some (v1.1, v1.2.1, v1.2.2.1, v1.2.2.2, v0.2.2.2.2) := rfl
    have hl : [] ++ toB [w8 v0] ++ toB [w8 v1] ++ toB [w8 v2] = [b0, b1, b2] := by rw [hb0, hb1, hb2]; rfl
    rw [a, ea]
    simp only [bindO_s]
    rw [hl, r1]
    rfl
  · have a : F100 (k + 40) (WT.m w) = bindO (iter (k + 40) (F100_b0 (k + 40)) (0, [], 0, false, 0, WT.m w)) fun v0 => bindO (F139 (k + 40) (toB v0.1, 0)) fun v1 => some v1 := rfl
    rw [a, eb]
    simp only [bindO_s]
    rw [hb, r2]
    rfl
end Go.U.Tryz
namespace Go.U.Tryz
open Go Go.U
set_option linter.unusedVariables false
set_option linter.unusedSimpArgs false
set_option maxRecDepth 20000
def setHalt (w : WT) (b : Bool) : WT := (w.1, w.2.1, w.2.2.1, w.2.2.2.1, w.2.2.2.2.1, w.2.2.2.2.2.1, w.2.2.2.2.2.2.1, w.2.2.2.2.2.2.2.1, w.2.2.2.2.2.2.2.2.1, w.2.2.2.2.2.2.2.2.2.1, w.2.2.2.2.2.2.2.2.2.2.1, b, w.2.2.2.2.2.2.2.2.2.2.2.2)
def spD (K : Nat) (c : Int) (cb : Bool) (imm : Int) (w : WT) : Option (Bool × WT) :=
  branch cb (bindO (F112 K (c, cb, imm, w)) fun r => some (false, r))
   (branch (decide (c < 64)) (F113 K (c, cb, imm, w))
    (branch (decide (c = 118)) (some (false, setHalt w true))
     (branch (decide (c < 128)) (bindO (F115 K (Int.tmod c 8, w)) fun v5 => bindO (F114 K (Int.tmod (w64 (Int.tdiv c 8)) 8, v5.1, w)) fun v6 => some (false, v6))
      (branch (decide (c < 192)) (bindO (F115 K (Int.tmod c 8, w)) fun v7 => bindO (F116 K (Int.tmod (w64 (Int.tdiv c 8)) 8, w.1, v7.1, w.2.1)) fun v8 => some (false, setAF w v8.1 v8.2))
       (F117 K (c, cb, imm, w))))))
theorem run_eq (K : Nat) (c : Int) (cb : Bool) (imm : Int) (w : WT) (h : WInv w) (hc : 0 ≤ c ∧ c ≤ 255) (hi : 0 ≤ imm ∧ imm ≤ 65535)
    (hv : cb = false → ¬ noC c ∧ ((c % 8 = 6 ∨ c = 224 ∨ c = 232 ∨ c = 240 ∨ c = 248) → imm ≤ 255)) :
    Al (!cb && condC c) w c cb imm (F110 K (A c cb imm w)) (spD K c cb imm w) := by
  have l : F110 K (A c cb imm w) = branch cb (bindO (F154 K (w64 (Int.tdiv c 64), Int.tmod (w64 (Int.tdiv c 8)) 8, Int.tmod c 8, A c cb imm w)) fun v0 => some (true, v0))
    (branch (decide (w64 (Int.tdiv c 64) = 0)) (bindO (F155 K (Int.tmod (w64 (Int.tdiv c 8)) 8, Int.tmod c 8, A c cb imm w)) fun v1 => some v1)
     (branch (decide (w64 (Int.tdiv c 64) = 3)) (bindO (F156 K (Int.tmod (w64 (Int.tdiv c 8)) 8, Int.tmod c 8, A c cb imm w)) fun v1 => some v1)
      (branch (decide (w64 (Int.tdiv c 64) = 2)) (bindO (F158 K (Int.tmod c 8, A c cb imm w)) fun v3 => bindO (F157 K (Int.tmod (w64 (Int.tdiv c 8)) 8, v3.1, A c cb imm w)) fun v4 => some (true, v4))
       (branch (decide (c = 118)) (some (true, A c cb imm (setHalt w true)))
        (bindO (F158 K (Int.tmod c 8, A c cb imm w)) fun v5 => bindO (F159 K (Int.tmod (w64 (Int.tdiv c 8)) 8, v5.1, A c cb imm w)) fun v6 => some (true, v6)))))) := rfl
  have d64 : w64 (Int.tdiv c 64) = c / 64 := by rw [Int.tdiv_eq_ediv_of_nonneg hc.1, w64_id (by omega) (by omega)]
  have d8 : Int.tmod (w64 (Int.tdiv c 8)) 8 = c / 8 % 8 := by rw [Int.tdiv_eq_ediv_of_nonneg hc.1, w64_id (by omega) (by omega), Int.tmod_eq_emod_of_nonneg (by omega)]
  have m8 : Int.tmod c 8 = c % 8 := Int.tmod_eq_emod_of_nonneg hc.1
  have hz : 0 ≤ c % 8 ∧ c % 8 ≤ 7 := by omega
  have hy : 0 ≤ c / 8 % 8 ∧ c / 8 % 8 ≤ 7 := by omega
  rw [l]
  unfold spD
  cases cb with
  | true =>
    rw [branch_t, branch_t, F154_eq K c true imm w h hc]
    exact Al.of (F112_t K w h c true imm hc) (fun _ => F112_cy) _ _
  | false =>
    obtain ⟨hn, h6⟩ := hv rfl
    rw [branch_f, branch_f, d64, d8, m8]
    by_cases g1 : c < 64
    · rw [decide_eq_true (show c / 64 = 0 by omega), decide_eq_true g1, branch_t, branch_t, bind_id]
      have e : c / 8 % 8 = c / 8 := by omega
      rw [e]
      exact low_eq K c false imm w h c ⟨hc.1, by omega⟩ hi fun g => h6 (.inl g)
    rw [decide_eq_false (show ¬ c / 64 = 0 by omega), decide_eq_false g1, branch_f, branch_f]
    by_cases g2 : c < 192
    · have nc : condC c = true → false = true := fun g => by have := of_decide_eq_true g; omega
      refine Al.weak c false imm (k := false) ?_ nc
      rw [decide_eq_false (show ¬ c / 64 = 3 by omega), branch_f]
      obtain ⟨⟨b, w'⟩, e, hb, hw'⟩ := F115_t K w h (c % 8) hz
      dsimp only at hb
      by_cases g3 : c < 128
      · rw [decide_eq_false (show ¬ c / 64 = 2 by omega), branch_f]
        by_cases g4 : c = 118
        · rw [decide_eq_true g4, branch_t, branch_t]
          exact Al.ret _ _ rfl fun e => by cases e
        · rw [decide_eq_false g4, branch_f, branch_f, decide_eq_true g3, branch_t, F158_eq K c false imm w h _ hz, e]
          simp only [bindO_s]
          rw [F159_eq K c false imm w h _ b hy hb]
          exact Al.of (F114_t K w h _ b hb) (fun _ => F114_cy) _ _
      · rw [decide_eq_true (show c / 64 = 2 by omega), decide_eq_false (show ¬ c = 118 by omega), decide_eq_false g3, decide_eq_true g2]
        simp only [branch_t, branch_f]
        rw [F158_eq K c false imm w h _ hz, e]
        simp only [bindO_s]
        obtain ⟨v, e2, _⟩ := F116_t K (c / 8 % 8) w.1 b w.2.1 h.a hb ⟨h.f.1, h.f.2.1⟩
        rw [F157_eq K c false imm w h _ b hy hb, e2]
        exact ⟨true, false, setAF w v.1 v.2, rfl, rfl, rfl, fun e => by cases e⟩
    · rw [decide_eq_true (show c / 64 = 3 by omega), decide_eq_false (show ¬ c = 118 by omega), decide_eq_false (show ¬ c < 128 by omega), decide_eq_false g2]
      simp only [branch_t, branch_f]
      rw [bind_id]
      exact high_eq K c false imm w h c ⟨by omega, hc.2⟩ hn hi h6
def D62 (K : Nat) (x : MT) (v1 : Int × Bool × Int × Int) : Option (Bool × Int × Int × Int × Int × Int × Int × Int × Int × Int × Int × Bool × Bool × (List UInt8) × Int × Int × (List UInt8) × Int × Bool × Int × (List UInt8) × (List UInt8) × (List Int) × Int × Bool × Int × Bool × Int × Int × Int × Int × Int × Int × Int × Int × Int × Int × Int × Bool × Bool × (List UInt8) × Int × Int × (List UInt8) × Int × Bool × Int × (List UInt8) × (List UInt8) × (List Int) × Int × Int × Int × Int × Int × Int × Int × Int × Int × Int × Int × Bool × Bool × (List UInt8) × Int × Int × (List UInt8) × Int × Bool × Int × (List UInt8) × (List UInt8) × (List Int) × Int) :=
  (branch v1.2.1
       (bindO (F112 K (v1.1, v1.2.1, v1.2.2.1, x.1, x.2.1, x.2.2.1, x.2.2.2.1, x.2.2.2.2.1, x.2.2.2.2.2.1, x.2.2.2.2.2.2.1, x.2.2.2.2.2.2.2.1, x.2.2.2.2.2.2.2.2.1, Int.tmod (w64 (x.2.2.2.2.2.2.2.2.2.1 + v1.2.2.2)) 65536, x.2.2.2.2.2.2.2.2.2.2.1, x.2.2.2.2.2.2.2.2.2.2.2.1, x.2.2.2.2.2.2.2.2.2.2.2.2.1, x.2.2.2.2.2.2.2.2.2.2.2.2.2.1, x.2.2.2.2.2.2.2.2.2.2.2.2.2.2.1, x.2.2.2.2.2.2.2.2.2.2.2.2.2.2.2.1, x.2.2.2.2.2.2.2.2.2.2.2.2.2.2.2.2.1, x.2.2.2.2.2.2.2.2.2.2.2.2.2.2.2.2.2.1, x.2.2.2.2.2.2.2.2.2.2.2.2.2.2.2.2.2.2.1, x.2.2.2.2.2.2.2.2.2.2.2.2.2.2.2.2.2.2.2.1, x.2.2.2.2.2.2.2.2.2.2.2.2.2.2.2.2.2.2.2.2.1, x.2.2.2.2.2.2.2.2.2.2.2.2.2.2.2.2.2.2.2.2.2.1, x.2.2.2.2.2.2.2.2.2.2.2.2.2.2.2.2.2.2.2.2.2.2, false)) fun v3 =>
       some (false, v3.1, v3.2.1, v3.2.2.1, v3.2.2.2.1, v3.2.2.2.2.1, v3.2.2.2.2.2.1, v3.2.2.2.2.2.2.1, v3.2.2.2.2.2.2.2.1, v3.2.2.2.2.2.2.2.2.1, v3.2.2.2.2.2.2.2.2.2.1, v3.2.2.2.2.2.2.2.2.2.2.1, v3.2.2.2.2.2.2.2.2.2.2.2.1, v3.2.2.2.2.2.2.2.2.2.2.2.2.1, v3.2.2.2.2.2.2.2.2.2.2.2.2.2.1, v3.2.2.2.2.2.2.2.2.2.2.2.2.2.2.1, v3.2.2.2.2.2.2.2.2.2.2.2.2.2.2.2.1, v3.2.2.2.2.2.2.2.2.2.2.2.2.2.2.2.2.1, v3.2.2.2.2.2.2.2.2.2.2.2.2.2.2.2.2.2.1, v3.2.2.2.2.2.2.2.2.2.2.2.2.2.2.2.2.2.2.1, v3.2.2.2.2.2.2.2.2.2.2.2.2.2.2.2.2.2.2.2.1, v3.2.2.2.2.2.2.2.2.2.2.2.2.2.2.2.2.2.2.2.2.1, v3.2.2.2.2.2.2.2.2.2.2.2.2.2.2.2.2.2.2.2.2.2.1, v3.2.2.2.2.2.2.2.2.2.2.2.2.2.2.2.2.2.2.2.2.2.2.1, v3.2.2.2.2.2.2.2.2.2.2.2.2.2.2.2.2.2.2.2.2.2.2.2, v1.1, v1.2.1, v1.2.2.1, 0, 0, 0, 0, 0, 0, 0, 0, 0, 0, false, false, [], 0, 0, [], 0, false, 0, [], [], [], 0, x))
       (branch (decide (v1.1 < 64))
        (bindO (F113 K (v1.1, v1.2.1, v1.2.2.1, x.1, x.2.1, x.2.2.1, x.2.2.2.1, x.2.2.2.2.1, x.2.2.2.2.2.1, x.2.2.2.2.2.2.1, x.2.2.2.2.2.2.2.1, x.2.2.2.2.2.2.2.2.1, Int.tmod (w64 (x.2.2.2.2.2.2.2.2.2.1 + v1.2.2.2)) 65536, x.2.2.2.2.2.2.2.2.2.2.1, x.2.2.2.2.2.2.2.2.2.2.2.1, x.2.2.2.2.2.2.2.2.2.2.2.2.1, x.2.2.2.2.2.2.2.2.2.2.2.2.2.1, x.2.2.2.2.2.2.2.2.2.2.2.2.2.2.1, x.2.2.2.2.2.2.2.2.2.2.2.2.2.2.2.1, x.2.2.2.2.2.2.2.2.2.2.2.2.2.2.2.2.1, x.2.2.2.2.2.2.2.2.2.2.2.2.2.2.2.2.2.1, x.2.2.2.2.2.2.2.2.2.2.2.2.2.2.2.2.2.2.1, x.2.2.2.2.2.2.2.2.2.2.2.2.2.2.2.2.2.2.2.1, x.2.2.2.2.2.2.2.2.2.2.2.2.2.2.2.2.2.2.2.2.1, x.2.2.2.2.2.2.2.2.2.2.2.2.2.2.2.2.2.2.2.2.2.1, x.2.2.2.2.2.2.2.2.2.2.2.2.2.2.2.2.2.2.2.2.2.2, false)) fun v4 =>
        some (v4.1, v4.2.1, v4.2.2.1, v4.2.2.2.1, v4.2.2.2.2.1, v4.2.2.2.2.2.1, v4.2.2.2.2.2.2.1, v4.2.2.2.2.2.2.2.1, v4.2.2.2.2.2.2.2.2.1, v4.2.2.2.2.2.2.2.2.2.1, v4.2.2.2.2.2.2.2.2.2.2.1, v4.2.2.2.2.2.2.2.2.2.2.2.1, v4.2.2.2.2.2.2.2.2.2.2.2.2.1, v4.2.2.2.2.2.2.2.2.2.2.2.2.2.1, v4.2.2.2.2.2.2.2.2.2.2.2.2.2.2.1, v4.2.2.2.2.2.2.2.2.2.2.2.2.2.2.2.1, v4.2.2.2.2.2.2.2.2.2.2.2.2.2.2.2.2.1, v4.2.2.2.2.2.2.2.2.2.2.2.2.2.2.2.2.2.1, v4.2.2.2.2.2.2.2.2.2.2.2.2.2.2.2.2.2.2.1, v4.2.2.2.2.2.2.2.2.2.2.2.2.2.2.2.2.2.2.2.1, v4.2.2.2.2.2.2.2.2.2.2.2.2.2.2.2.2.2.2.2.2.1, v4.2.2.2.2.2.2.2.2.2.2.2.2.2.2.2.2.2.2.2.2.2.1, v4.2.2.2.2.2.2.2.2.2.2.2.2.2.2.2.2.2.2.2.2.2.2.1, v4.2.2.2.2.2.2.2.2.2.2.2.2.2.2.2.2.2.2.2.2.2.2.2.1, v4.2.2.2.2.2.2.2.2.2.2.2.2.2.2.2.2.2.2.2.2.2.2.2.2, v1.1, v1.2.1, v1.2.2.1, 0, 0, 0, 0, 0, 0, 0, 0, 0, 0, false, false, [], 0, 0, [], 0, false, 0, [], [], [], 0, x))
        (branch (decide (v1.1 = 118))
         (some (false, x.1, x.2.1, x.2.2.1, x.2.2.2.1, x.2.2.2.2.1, x.2.2.2.2.2.1, x.2.2.2.2.2.2.1, x.2.2.2.2.2.2.2.1, x.2.2.2.2.2.2.2.2.1, Int.tmod (w64 (x.2.2.2.2.2.2.2.2.2.1 + v1.2.2.2)) 65536, x.2.2.2.2.2.2.2.2.2.2.1, true, x.2.2.2.2.2.2.2.2.2.2.2.2.1, x.2.2.2.2.2.2.2.2.2.2.2.2.2.1, x.2.2.2.2.2.2.2.2.2.2.2.2.2.2.1, x.2.2.2.2.2.2.2.2.2.2.2.2.2.2.2.1, x.2.2.2.2.2.2.2.2.2.2.2.2.2.2.2.2.1, x.2.2.2.2.2.2.2.2.2.2.2.2.2.2.2.2.2.1, x.2.2.2.2.2.2.2.2.2.2.2.2.2.2.2.2.2.2.1, x.2.2.2.2.2.2.2.2.2.2.2.2.2.2.2.2.2.2.2.1, x.2.2.2.2.2.2.2.2.2.2.2.2.2.2.2.2.2.2.2.2.1, x.2.2.2.2.2.2.2.2.2.2.2.2.2.2.2.2.2.2.2.2.2.1, x.2.2.2.2.2.2.2.2.2.2.2.2.2.2.2.2.2.2.2.2.2.2, false, v1.1, v1.2.1, v1.2.2.1, 0, 0, 0, 0, 0, 0, 0, 0, 0, 0, false, false, [], 0, 0, [], 0, false, 0, [], [], [], 0, x))
         (branch (decide (v1.1 < 128))
          (bindO (F115 K (Int.tmod v1.1 8, x.1, x.2.1, x.2.2.1, x.2.2.2.1, x.2.2.2.2.1, x.2.2.2.2.2.1, x.2.2.2.2.2.2.1, x.2.2.2.2.2.2.2.1, x.2.2.2.2.2.2.2.2.1, Int.tmod (w64 (x.2.2.2.2.2.2.2.2.2.1 + v1.2.2.2)) 65536, x.2.2.2.2.2.2.2.2.2.2.1, x.2.2.2.2.2.2.2.2.2.2.2.1, x.2.2.2.2.2.2.2.2.2.2.2.2.1, x.2.2.2.2.2.2.2.2.2.2.2.2.2.1, x.2.2.2.2.2.2.2.2.2.2.2.2.2.2.1, x.2.2.2.2.2.2.2.2.2.2.2.2.2.2.2.1, x.2.2.2.2.2.2.2.2.2.2.2.2.2.2.2.2.1, x.2.2.2.2.2.2.2.2.2.2.2.2.2.2.2.2.2.1, x.2.2.2.2.2.2.2.2.2.2.2.2.2.2.2.2.2.2.1, x.2.2.2.2.2.2.2.2.2.2.2.2.2.2.2.2.2.2.2.1, x.2.2.2.2.2.2.2.2.2.2.2.2.2.2.2.2.2.2.2.2.1, x.2.2.2.2.2.2.2.2.2.2.2.2.2.2.2.2.2.2.2.2.2.1, x.2.2.2.2.2.2.2.2.2.2.2.2.2.2.2.2.2.2.2.2.2.2, false)) fun v5 =>
          bindO (F114 K (Int.tmod (w64 (Int.tdiv v1.1 8)) 8, v5.1, x.1, x.2.1, x.2.2.1, x.2.2.2.1, x.2.2.2.2.1, x.2.2.2.2.2.1, x.2.2.2.2.2.2.1, x.2.2.2.2.2.2.2.1, x.2.2.2.2.2.2.2.2.1, Int.tmod (w64 (x.2.2.2.2.2.2.2.2.2.1 + v1.2.2.2)) 65536, x.2.2.2.2.2.2.2.2.2.2.1, x.2.2.2.2.2.2.2.2.2.2.2.1, x.2.2.2.2.2.2.2.2.2.2.2.2.1, x.2.2.2.2.2.2.2.2.2.2.2.2.2.1, x.2.2.2.2.2.2.2.2.2.2.2.2.2.2.1, x.2.2.2.2.2.2.2.2.2.2.2.2.2.2.2.1, x.2.2.2.2.2.2.2.2.2.2.2.2.2.2.2.2.1, x.2.2.2.2.2.2.2.2.2.2.2.2.2.2.2.2.2.1, x.2.2.2.2.2.2.2.2.2.2.2.2.2.2.2.2.2.2.1, x.2.2.2.2.2.2.2.2.2.2.2.2.2.2.2.2.2.2.2.1, x.2.2.2.2.2.2.2.2.2.2.2.2.2.2.2.2.2.2.2.2.1, x.2.2.2.2.2.2.2.2.2.2.2.2.2.2.2.2.2.2.2.2.2.1, x.2.2.2.2.2.2.2.2.2.2.2.2.2.2.2.2.2.2.2.2.2.2, false)) fun v6 =>
          some (false, v6.1, v6.2.1, v6.2.2.1, v6.2.2.2.1, v6.2.2.2.2.1, v6.2.2.2.2.2.1, v6.2.2.2.2.2.2.1, v6.2.2.2.2.2.2.2.1, v6.2.2.2.2.2.2.2.2.1, v6.2.2.2.2.2.2.2.2.2.1, v6.2.2.2.2.2.2.2.2.2.2.1, v6.2.2.2.2.2.2.2.2.2.2.2.1, v6.2.2.2.2.2.2.2.2.2.2.2.2.1, v6.2.2.2.2.2.2.2.2.2.2.2.2.2.1, v6.2.2.2.2.2.2.2.2.2.2.2.2.2.2.1, v6.2.2.2.2.2.2.2.2.2.2.2.2.2.2.2.1, v6.2.2.2.2.2.2.2.2.2.2.2.2.2.2.2.2.1, v6.2.2.2.2.2.2.2.2.2.2.2.2.2.2.2.2.2.1, v6.2.2.2.2.2.2.2.2.2.2.2.2.2.2.2.2.2.2.1, v6.2.2.2.2.2.2.2.2.2.2.2.2.2.2.2.2.2.2.2.1, v6.2.2.2.2.2.2.2.2.2.2.2.2.2.2.2.2.2.2.2.2.1, v6.2.2.2.2.2.2.2.2.2.2.2.2.2.2.2.2.2.2.2.2.2.1, v6.2.2.2.2.2.2.2.2.2.2.2.2.2.2.2.2.2.2.2.2.2.2.1, v6.2.2.2.2.2.2.2.2.2.2.2.2.2.2.2.2.2.2.2.2.2.2.2, v1.1, v1.2.1, v1.2.2.1, 0, 0, 0, 0, 0, 0, 0, 0, 0, 0, false, false, [], 0, 0, [], 0, false, 0, [], [], [], 0, x))
          (branch (decide (v1.1 < 192))
           (bindO (F115 K (Int.tmod v1.1 8, x.1, x.2.1, x.2.2.1, x.2.2.2.1, x.2.2.2.2.1, x.2.2.2.2.2.1, x.2.2.2.2.2.2.1, x.2.2.2.2.2.2.2.1, x.2.2.2.2.2.2.2.2.1, Int.tmod (w64 (x.2.2.2.2.2.2.2.2.2.1 + v1.2.2.2)) 65536, x.2.2.2.2.2.2.2.2.2.2.1, x.2.2.2.2.2.2.2.2.2.2.2.1, x.2.2.2.2.2.2.2.2.2.2.2.2.1, x.2.2.2.2.2.2.2.2.2.2.2.2.2.1, x.2.2.2.2.2.2.2.2.2.2.2.2.2.2.1, x.2.2.2.2.2.2.2.2.2.2.2.2.2.2.2.1, x.2.2.2.2.2.2.2.2.2.2.2.2.2.2.2.2.1, x.2.2.2.2.2.2.2.2.2.2.2.2.2.2.2.2.2.1, x.2.2.2.2.2.2.2.2.2.2.2.2.2.2.2.2.2.2.1, x.2.2.2.2.2.2.2.2.2.2.2.2.2.2.2.2.2.2.2.1, x.2.2.2.2.2.2.2.2.2.2.2.2.2.2.2.2.2.2.2.2.1, x.2.2.2.2.2.2.2.2.2.2.2.2.2.2.2.2.2.2.2.2.2.1, x.2.2.2.2.2.2.2.2.2.2.2.2.2.2.2.2.2.2.2.2.2.2, false)) fun v7 =>
           bindO (F116 K (Int.tmod (w64 (Int.tdiv v1.1 8)) 8, x.1, v7.1, x.2.1)) fun v8 =>
           some (false, v8.1, v8.2, x.2.2.1, x.2.2.2.1, x.2.2.2.2.1, x.2.2.2.2.2.1, x.2.2.2.2.2.2.1, x.2.2.2.2.2.2.2.1, x.2.2.2.2.2.2.2.2.1, Int.tmod (w64 (x.2.2.2.2.2.2.2.2.2.1 + v1.2.2.2)) 65536, x.2.2.2.2.2.2.2.2.2.2.1, x.2.2.2.2.2.2.2.2.2.2.2.1, x.2.2.2.2.2.2.2.2.2.2.2.2.1, x.2.2.2.2.2.2.2.2.2.2.2.2.2.1, x.2.2.2.2.2.2.2.2.2.2.2.2.2.2.1, x.2.2.2.2.2.2.2.2.2.2.2.2.2.2.2.1, x.2.2.2.2.2.2.2.2.2.2.2.2.2.2.2.2.1, x.2.2.2.2.2.2.2.2.2.2.2.2.2.2.2.2.2.1, x.2.2.2.2.2.2.2.2.2.2.2.2.2.2.2.2.2.2.1, x.2.2.2.2.2.2.2.2.2.2.2.2.2.2.2.2.2.2.2.1, x.2.2.2.2.2.2.2.2.2.2.2.2.2.2.2.2.2.2.2.2.1, x.2.2.2.2.2.2.2.2.2.2.2.2.2.2.2.2.2.2.2.2.2.1, x.2.2.2.2.2.2.2.2.2.2.2.2.2.2.2.2.2.2.2.2.2.2, false, v1.1, v1.2.1, v1.2.2.1, 0, 0, 0, 0, 0, 0, 0, 0, 0, 0, false, false, [], 0, 0, [], 0, false, 0, [], [], [], 0, x))
           (bindO (F117 K (v1.1, v1.2.1, v1.2.2.1, x.1, x.2.1, x.2.2.1, x.2.2.2.1, x.2.2.2.2.1, x.2.2.2.2.2.1, x.2.2.2.2.2.2.1, x.2.2.2.2.2.2.2.1, x.2.2.2.2.2.2.2.2.1, Int.tmod (w64 (x.2.2.2.2.2.2.2.2.2.1 + v1.2.2.2)) 65536, x.2.2.2.2.2.2.2.2.2.2.1, x.2.2.2.2.2.2.2.2.2.2.2.1, x.2.2.2.2.2.2.2.2.2.2.2.2.1, x.2.2.2.2.2.2.2.2.2.2.2.2.2.1, x.2.2.2.2.2.2.2.2.2.2.2.2.2.2.1, x.2.2.2.2.2.2.2.2.2.2.2.2.2.2.2.1, x.2.2.2.2.2.2.2.2.2.2.2.2.2.2.2.2.1, x.2.2.2.2.2.2.2.2.2.2.2.2.2.2.2.2.2.1, x.2.2.2.2.2.2.2.2.2.2.2.2.2.2.2.2.2.2.1, x.2.2.2.2.2.2.2.2.2.2.2.2.2.2.2.2.2.2.2.1, x.2.2.2.2.2.2.2.2.2.2.2.2.2.2.2.2.2.2.2.2.1, x.2.2.2.2.2.2.2.2.2.2.2.2.2.2.2.2.2.2.2.2.2.1, x.2.2.2.2.2.2.2.2.2.2.2.2.2.2.2.2.2.2.2.2.2.2, false)) fun v9 =>
           some (v9.1, v9.2.1, v9.2.2.1, v9.2.2.2.1, v9.2.2.2.2.1, v9.2.2.2.2.2.1, v9.2.2.2.2.2.2.1, v9.2.2.2.2.2.2.2.1, v9.2.2.2.2.2.2.2.2.1, v9.2.2.2.2.2.2.2.2.2.1, v9.2.2.2.2.2.2.2.2.2.2.1, v9.2.2.2.2.2.2.2.2.2.2.2.1, v9.2.2.2.2.2.2.2.2.2.2.2.2.1, v9.2.2.2.2.2.2.2.2.2.2.2.2.2.1, v9.2.2.2.2.2.2.2.2.2.2.2.2.2.2.1, v9.2.2.2.2.2.2.2.2.2.2.2.2.2.2.2.1, v9.2.2.2.2.2.2.2.2.2.2.2.2.2.2.2.2.1, v9.2.2.2.2.2.2.2.2.2.2.2.2.2.2.2.2.2.1, v9.2.2.2.2.2.2.2.2.2.2.2.2.2.2.2.2.2.2.1, v9.2.2.2.2.2.2.2.2.2.2.2.2.2.2.2.2.2.2.2.1, v9.2.2.2.2.2.2.2.2.2.2.2.2.2.2.2.2.2.2.2.2.1, v9.2.2.2.2.2.2.2.2.2.2.2.2.2.2.2.2.2.2.2.2.2.1, v9.2.2.2.2.2.2.2.2.2.2.2.2.2.2.2.2.2.2.2.2.2.2.1, v9.2.2.2.2.2.2.2.2.2.2.2.2.2.2.2.2.2.2.2.2.2.2.2.1, v9.2.2.2.2.2.2.2.2.2.2.2.2.2.2.2.2.2.2.2.2.2.2.2.2, v1.1, v1.2.1, v1.2.2.1, 0, 0, 0, 0, 0, 0, 0, 0, 0, 0, false, false, [], 0, 0, [], 0, false, 0, [], [], [], 0, x)))))))
def R62 (K : Nat) (v10 : Bool × Int × Int × Int × Int × Int × Int × Int × Int × Int × Int × Bool × Bool × (List UInt8) × Int × Int × (List UInt8) × Int × Bool × Int × (List UInt8) × (List UInt8) × (List Int) × Int × Bool × Int × Bool × Int × Int × Int × Int × Int × Int × Int × Int × Int × Int × Int × Bool × Bool × (List UInt8) × Int × Int × (List UInt8) × Int × Bool × Int × (List UInt8) × (List UInt8) × (List Int) × Int × Int × Int × Int × Int × Int × Int × Int × Int × Int × Int × Bool × Bool × (List UInt8) × Int × Int × (List UInt8) × Int × Bool × Int × (List UInt8) × (List UInt8) × (List Int) × Int) : Option (Int × Int × Int × Int × Int × Int × Int × Int × Int × Int × Bool × Bool × (List UInt8) × Int × Int × (List UInt8) × Int × Bool × Int × (List UInt8) × (List UInt8) × (List Int) × Int × Int) :=
    bindO (F118 K (v10.2.2.2.2.2.2.2.2.2.2.2.2.2.2.2.2.2.2.2.2.2.2.2.2.2.1, v10.2.2.2.2.2.2.2.2.2.2.2.2.2.2.2.2.2.2.2.2.2.2.2.2.2.2.1, v10.1)) fun v11 =>
    bindO (α := (Int × Int × Int × Int × Int × Int × Int × Int × Int × Int × Bool × Bool × (List UInt8) × Int × Int × (List UInt8) × Int × Bool × Int × (List UInt8) × (List UInt8) × (List Int) × Int × Int) ⊕ (Int × Int × Int × Int × Int × Int × Int × Int × Int × Int × Bool × Bool × (List UInt8) × Int × Int × (List UInt8) × Int × Bool × Int × (List UInt8) × (List UInt8) × (List Int) × Int × Bool × Int × Int × Int × Int × Int × Int × Int × Int × Int × Int × Bool × Bool × (List UInt8) × Int × Int × (List UInt8) × Int × Bool × Int × (List UInt8) × (List UInt8) × (List Int) × Int)) (bindO (α := Bool × Int × Int × Int × Int × Int × Int × Int × Int × Int × Int × Bool × Bool × (List UInt8) × Int × Int × (List UInt8) × Int × Bool × Int × (List UInt8) × (List UInt8) × (List Int) × Int × Bool × Int × Int × Int × Int × Int × Int × Int × Int × Int × Int × Bool × Bool × (List UInt8) × Int × Int × (List UInt8) × Int × Bool × Int × (List UInt8) × (List UInt8) × (List Int) × Int × Int × Int × Int × Int × Int × Int × Int × Int × Int × Int × Bool × Bool × (List UInt8) × Int × Int × (List UInt8) × Int × Bool × Int × (List UInt8) × (List UInt8) × (List Int) × Int) (branch v10.2.2.2.2.2.2.2.2.2.2.2.2.2.2.2.2.2.2.2.2.2.2.2.2.1
         (some (true, v10.2.1, v10.2.2.1, v10.2.2.2.1, v10.2.2.2.2.1, v10.2.2.2.2.2.1, v10.2.2.2.2.2.2.1, v10.2.2.2.2.2.2.2.1, v10.2.2.2.2.2.2.2.2.1, v10.2.2.2.2.2.2.2.2.2.1, v10.2.2.2.2.2.2.2.2.2.2.1, v10.2.2.2.2.2.2.2.2.2.2.2.1, v10.2.2.2.2.2.2.2.2.2.2.2.2.1, v10.2.2.2.2.2.2.2.2.2.2.2.2.2.1, v10.2.2.2.2.2.2.2.2.2.2.2.2.2.2.1, v10.2.2.2.2.2.2.2.2.2.2.2.2.2.2.2.1, v10.2.2.2.2.2.2.2.2.2.2.2.2.2.2.2.2.1, v10.2.2.2.2.2.2.2.2.2.2.2.2.2.2.2.2.2.1, v10.2.2.2.2.2.2.2.2.2.2.2.2.2.2.2.2.2.2.1, v10.2.2.2.2.2.2.2.2.2.2.2.2.2.2.2.2.2.2.2.1, v10.2.2.2.2.2.2.2.2.2.2.2.2.2.2.2.2.2.2.2.2.1, v10.2.2.2.2.2.2.2.2.2.2.2.2.2.2.2.2.2.2.2.2.2.1, v10.2.2.2.2.2.2.2.2.2.2.2.2.2.2.2.2.2.2.2.2.2.2.1, w64 (v10.2.2.2.2.2.2.2.2.2.2.2.2.2.2.2.2.2.2.2.2.2.2.2.2.2.2.2.2.2.2.2.2.2.2.2.2.2.2.2.2.2.2.2.2.2.2.2.2.2.2.2.2.2.2.2.2.2.2.2.2.2.2.2.2.2.2.2.2.2.2.2.2.2 + v11), v10.2.2.2.2.2.2.2.2.2.2.2.2.2.2.2.2.2.2.2.2.2.2.2.2.1, v10.2.2.2.2.2.2.2.2.2.2.2.2.2.2.2.2.2.2.2.2.2.2.2.2.2.2.2.2))
         (some (decide (1000000000 < (w64 (v10.2.2.2.2.2.2.2.2.2.2.2.2.2.2.2.2.2.2.2.2.2.2.2.2.2.2.2.2.2.2.2.2.2.2.2.2.2.2.2.2.2.2.2.2.2.2.2.2.2.2.2.2.2.2.2.2.2.2.2.2.2.2.2.2.2.2.2.2.2.2.2.2.2 + v11))), v10.2.1, v10.2.2.1, v10.2.2.2.1, v10.2.2.2.2.1, v10.2.2.2.2.2.1, v10.2.2.2.2.2.2.1, v10.2.2.2.2.2.2.2.1, v10.2.2.2.2.2.2.2.2.1, v10.2.2.2.2.2.2.2.2.2.1, v10.2.2.2.2.2.2.2.2.2.2.1, v10.2.2.2.2.2.2.2.2.2.2.2.1, v10.2.2.2.2.2.2.2.2.2.2.2.2.1, v10.2.2.2.2.2.2.2.2.2.2.2.2.2.1, v10.2.2.2.2.2.2.2.2.2.2.2.2.2.2.1, v10.2.2.2.2.2.2.2.2.2.2.2.2.2.2.2.1, v10.2.2.2.2.2.2.2.2.2.2.2.2.2.2.2.2.1, v10.2.2.2.2.2.2.2.2.2.2.2.2.2.2.2.2.2.1, v10.2.2.2.2.2.2.2.2.2.2.2.2.2.2.2.2.2.2.1, v10.2.2.2.2.2.2.2.2.2.2.2.2.2.2.2.2.2.2.2.1, v10.2.2.2.2.2.2.2.2.2.2.2.2.2.2.2.2.2.2.2.2.1, v10.2.2.2.2.2.2.2.2.2.2.2.2.2.2.2.2.2.2.2.2.2.1, v10.2.2.2.2.2.2.2.2.2.2.2.2.2.2.2.2.2.2.2.2.2.2.1, w64 (v10.2.2.2.2.2.2.2.2.2.2.2.2.2.2.2.2.2.2.2.2.2.2.2.2.2.2.2.2.2.2.2.2.2.2.2.2.2.2.2.2.2.2.2.2.2.2.2.2.2.2.2.2.2.2.2.2.2.2.2.2.2.2.2.2.2.2.2.2.2.2.2.2.2 + v11), v10.2.2.2.2.2.2.2.2.2.2.2.2.2.2.2.2.2.2.2.2.2.2.2.2.1, v10.2.2.2.2.2.2.2.2.2.2.2.2.2.2.2.2.2.2.2.2.2.2.2.2.2.2.2.2))) fun v12 =>
      branch v12.1
       (bindO (F89 K v12.2.2.2.2.2.2.2.2.2.2.2.2.2.2.2.2.2.2.2.2.2.2.2.2.2.2.2.2.2.2.2.2.2.2.2.2.2.2.2.2.2.2.2.2.2.2.2.2) fun v13 =>
       some (.inl (v13.1, v13.2.1, v13.2.2.1, v13.2.2.2.1, v13.2.2.2.2.1, v13.2.2.2.2.2.1, v13.2.2.2.2.2.2.1, v13.2.2.2.2.2.2.2.1, v13.2.2.2.2.2.2.2.2.1, v13.2.2.2.2.2.2.2.2.2.1, v13.2.2.2.2.2.2.2.2.2.2.1, v13.2.2.2.2.2.2.2.2.2.2.2.1, v13.2.2.2.2.2.2.2.2.2.2.2.2.1, v13.2.2.2.2.2.2.2.2.2.2.2.2.2.1, v13.2.2.2.2.2.2.2.2.2.2.2.2.2.2.1, v13.2.2.2.2.2.2.2.2.2.2.2.2.2.2.2.1, v13.2.2.2.2.2.2.2.2.2.2.2.2.2.2.2.2.1, v13.2.2.2.2.2.2.2.2.2.2.2.2.2.2.2.2.2.1, v13.2.2.2.2.2.2.2.2.2.2.2.2.2.2.2.2.2.2.1, v13.2.2.2.2.2.2.2.2.2.2.2.2.2.2.2.2.2.2.2.1, v13.2.2.2.2.2.2.2.2.2.2.2.2.2.2.2.2.2.2.2.2.1, v13.2.2.2.2.2.2.2.2.2.2.2.2.2.2.2.2.2.2.2.2.2.1, v13.2.2.2.2.2.2.2.2.2.2.2.2.2.2.2.2.2.2.2.2.2.2, 4)))
       (some (.inr (v12.2.1, v12.2.2.1, v12.2.2.2.1, v12.2.2.2.2.1, v12.2.2.2.2.2.1, v12.2.2.2.2.2.2.1, v12.2.2.2.2.2.2.2.1, v12.2.2.2.2.2.2.2.2.1, v12.2.2.2.2.2.2.2.2.2.1, v12.2.2.2.2.2.2.2.2.2.2.1, v12.2.2.2.2.2.2.2.2.2.2.2.1, v12.2.2.2.2.2.2.2.2.2.2.2.2.1, v12.2.2.2.2.2.2.2.2.2.2.2.2.2.1, v12.2.2.2.2.2.2.2.2.2.2.2.2.2.2.1, v12.2.2.2.2.2.2.2.2.2.2.2.2.2.2.2.1, v12.2.2.2.2.2.2.2.2.2.2.2.2.2.2.2.2.1, v12.2.2.2.2.2.2.2.2.2.2.2.2.2.2.2.2.2.1, v12.2.2.2.2.2.2.2.2.2.2.2.2.2.2.2.2.2.2.1, v12.2.2.2.2.2.2.2.2.2.2.2.2.2.2.2.2.2.2.2.1, v12.2.2.2.2.2.2.2.2.2.2.2.2.2.2.2.2.2.2.2.2.1, v12.2.2.2.2.2.2.2.2.2.2.2.2.2.2.2.2.2.2.2.2.2.1, v12.2.2.2.2.2.2.2.2.2.2.2.2.2.2.2.2.2.2.2.2.2.2.1, v12.2.2.2.2.2.2.2.2.2.2.2.2.2.2.2.2.2.2.2.2.2.2.2.1, v12.2.2.2.2.2.2.2.2.2.2.2.2.2.2.2.2.2.2.2.2.2.2.2.2.1, v12.2.2.2.2.2.2.2.2.2.2.2.2.2.2.2.2.2.2.2.2.2.2.2.2.2.1, v12.2.2.2.2.2.2.2.2.2.2.2.2.2.2.2.2.2.2.2.2.2.2.2.2.2.2.1, v12.2.2.2.2.2.2.2.2.2.2.2.2.2.2.2.2.2.2.2.2.2.2.2.2.2.2.2.1, v12.2.2.2.2.2.2.2.2.2.2.2.2.2.2.2.2.2.2.2.2.2.2.2.2.2.2.2.2.1, v12.2.2.2.2.2.2.2.2.2.2.2.2.2.2.2.2.2.2.2.2.2.2.2.2.2.2.2.2.2.1, v12.2.2.2.2.2.2.2.2.2.2.2.2.2.2.2.2.2.2.2.2.2.2.2.2.2.2.2.2.2.2.1, v12.2.2.2.2.2.2.2.2.2.2.2.2.2.2.2.2.2.2.2.2.2.2.2.2.2.2.2.2.2.2.2.1, v12.2.2.2.2.2.2.2.2.2.2.2.2.2.2.2.2.2.2.2.2.2.2.2.2.2.2.2.2.2.2.2.2.1, v12.2.2.2.2.2.2.2.2.2.2.2.2.2.2.2.2.2.2.2.2.2.2.2.2.2.2.2.2.2.2.2.2.2.1, v12.2.2.2.2.2.2.2.2.2.2.2.2.2.2.2.2.2.2.2.2.2.2.2.2.2.2.2.2.2.2.2.2.2.2.1, v12.2.2.2.2.2.2.2.2.2.2.2.2.2.2.2.2.2.2.2.2.2.2.2.2.2.2.2.2.2.2.2.2.2.2.2.1, v12.2.2.2.2.2.2.2.2.2.2.2.2.2.2.2.2.2.2.2.2.2.2.2.2.2.2.2.2.2.2.2.2.2.2.2.2.1, v12.2.2.2.2.2.2.2.2.2.2.2.2.2.2.2.2.2.2.2.2.2.2.2.2.2.2.2.2.2.2.2.2.2.2.2.2.2.1, v12.2.2.2.2.2.2.2.2.2.2.2.2.2.2.2.2.2.2.2.2.2.2.2.2.2.2.2.2.2.2.2.2.2.2.2.2.2.2.1, v12.2.2.2.2.2.2.2.2.2.2.2.2.2.2.2.2.2.2.2.2.2.2.2.2.2.2.2.2.2.2.2.2.2.2.2.2.2.2.2.1, v12.2.2.2.2.2.2.2.2.2.2.2.2.2.2.2.2.2.2.2.2.2.2.2.2.2.2.2.2.2.2.2.2.2.2.2.2.2.2.2.2.1, v12.2.2.2.2.2.2.2.2.2.2.2.2.2.2.2.2.2.2.2.2.2.2.2.2.2.2.2.2.2.2.2.2.2.2.2.2.2.2.2.2.2.1, v12.2.2.2.2.2.2.2.2.2.2.2.2.2.2.2.2.2.2.2.2.2.2.2.2.2.2.2.2.2.2.2.2.2.2.2.2.2.2.2.2.2.2.1, v12.2.2.2.2.2.2.2.2.2.2.2.2.2.2.2.2.2.2.2.2.2.2.2.2.2.2.2.2.2.2.2.2.2.2.2.2.2.2.2.2.2.2.2.1, v12.2.2.2.2.2.2.2.2.2.2.2.2.2.2.2.2.2.2.2.2.2.2.2.2.2.2.2.2.2.2.2.2.2.2.2.2.2.2.2.2.2.2.2.2.1, v12.2.2.2.2.2.2.2.2.2.2.2.2.2.2.2.2.2.2.2.2.2.2.2.2.2.2.2.2.2.2.2.2.2.2.2.2.2.2.2.2.2.2.2.2.2.1, v12.2.2.2.2.2.2.2.2.2.2.2.2.2.2.2.2.2.2.2.2.2.2.2.2.2.2.2.2.2.2.2.2.2.2.2.2.2.2.2.2.2.2.2.2.2.2.1, v12.2.2.2.2.2.2.2.2.2.2.2.2.2.2.2.2.2.2.2.2.2.2.2.2.2.2.2.2.2.2.2.2.2.2.2.2.2.2.2.2.2.2.2.2.2.2.2.1)))) fun v14 =>
    csO v14
     (fun v15 => some v15)
     (fun v16 => bindO (F89 K (v16.1, v16.2.1, v16.2.2.1, v16.2.2.2.1, v16.2.2.2.2.1, v16.2.2.2.2.2.1, v16.2.2.2.2.2.2.1, v16.2.2.2.2.2.2.2.1, v16.2.2.2.2.2.2.2.2.1, v16.2.2.2.2.2.2.2.2.2.1, v16.2.2.2.2.2.2.2.2.2.2.1, v16.2.2.2.2.2.2.2.2.2.2.2.1, v16.2.2.2.2.2.2.2.2.2.2.2.2.1, v16.2.2.2.2.2.2.2.2.2.2.2.2.2.1, v16.2.2.2.2.2.2.2.2.2.2.2.2.2.2.1, v16.2.2.2.2.2.2.2.2.2.2.2.2.2.2.2.1, v16.2.2.2.2.2.2.2.2.2.2.2.2.2.2.2.2.1, v16.2.2.2.2.2.2.2.2.2.2.2.2.2.2.2.2.2.1, v16.2.2.2.2.2.2.2.2.2.2.2.2.2.2.2.2.2.2.1, v16.2.2.2.2.2.2.2.2.2.2.2.2.2.2.2.2.2.2.2.1, v16.2.2.2.2.2.2.2.2.2.2.2.2.2.2.2.2.2.2.2.2.1, v16.2.2.2.2.2.2.2.2.2.2.2.2.2.2.2.2.2.2.2.2.2.1, v16.2.2.2.2.2.2.2.2.2.2.2.2.2.2.2.2.2.2.2.2.2.2.1)) fun v17 =>
     some (v17.1, v17.2.1, v17.2.2.1, v17.2.2.2.1, v17.2.2.2.2.1, v17.2.2.2.2.2.1, v17.2.2.2.2.2.2.1, v17.2.2.2.2.2.2.2.1, v17.2.2.2.2.2.2.2.2.1, v17.2.2.2.2.2.2.2.2.2.1, v17.2.2.2.2.2.2.2.2.2.2.1, v17.2.2.2.2.2.2.2.2.2.2.2.1, v17.2.2.2.2.2.2.2.2.2.2.2.2.1, v17.2.2.2.2.2.2.2.2.2.2.2.2.2.1, v17.2.2.2.2.2.2.2.2.2.2.2.2.2.2.1, v17.2.2.2.2.2.2.2.2.2.2.2.2.2.2.2.1, v17.2.2.2.2.2.2.2.2.2.2.2.2.2.2.2.2.1, v17.2.2.2.2.2.2.2.2.2.2.2.2.2.2.2.2.2.1, v17.2.2.2.2.2.2.2.2.2.2.2.2.2.2.2.2.2.2.1, v17.2.2.2.2.2.2.2.2.2.2.2.2.2.2.2.2.2.2.2.1, v17.2.2.2.2.2.2.2.2.2.2.2.2.2.2.2.2.2.2.2.2.1, v17.2.2.2.2.2.2.2.2.2.2.2.2.2.2.2.2.2.2.2.2.2.1, v17.2.2.2.2.2.2.2.2.2.2.2.2.2.2.2.2.2.2.2.2.2.2, 0))
def pack (t : Bool) (r : WT) (c : Int) (cb : Bool) (imm : Int) (x : MT) : Bool × Int × Int × Int × Int × Int × Int × Int × Int × Int × Int × Bool × Bool × (List UInt8) × Int × Int × (List UInt8) × Int × Bool × Int × (List UInt8) × (List UInt8) × (List Int) × Int × Bool × Int × Bool × Int × Int × Int × Int × Int × Int × Int × Int × Int × Int × Int × Bool × Bool × (List UInt8) × Int × Int × (List UInt8) × Int × Bool × Int × (List UInt8) × (List UInt8) × (List Int) × Int × Int × Int × Int × Int × Int × Int × Int × Int × Int × Int × Bool × Bool × (List UInt8) × Int × Int × (List UInt8) × Int × Bool × Int × (List UInt8) × (List UInt8) × (List Int) × Int := (t, r.1, r.2.1, r.2.2.1, r.2.2.2.1, r.2.2.2.2.1, r.2.2.2.2.2.1, r.2.2.2.2.2.2.1, r.2.2.2.2.2.2.2.1, r.2.2.2.2.2.2.2.2.1, r.2.2.2.2.2.2.2.2.2.1, r.2.2.2.2.2.2.2.2.2.2.1, r.2.2.2.2.2.2.2.2.2.2.2.1, r.2.2.2.2.2.2.2.2.2.2.2.2.1, r.2.2.2.2.2.2.2.2.2.2.2.2.2.1, r.2.2.2.2.2.2.2.2.2.2.2.2.2.2.1, r.2.2.2.2.2.2.2.2.2.2.2.2.2.2.2.1, r.2.2.2.2.2.2.2.2.2.2.2.2.2.2.2.2.1, r.2.2.2.2.2.2.2.2.2.2.2.2.2.2.2.2.2.1, r.2.2.2.2.2.2.2.2.2.2.2.2.2.2.2.2.2.2.1, r.2.2.2.2.2.2.2.2.2.2.2.2.2.2.2.2.2.2.2.1, r.2.2.2.2.2.2.2.2.2.2.2.2.2.2.2.2.2.2.2.2.1, r.2.2.2.2.2.2.2.2.2.2.2.2.2.2.2.2.2.2.2.2.2.1, cyc r, r.2.2.2.2.2.2.2.2.2.2.2.2.2.2.2.2.2.2.2.2.2.2.2, c, cb, imm, 0, 0, 0, 0, 0, 0, 0, 0, 0, 0, false, false, [], 0, 0, [], 0, false, 0, [], [], [], 0, x)
theorem D62_eq (K : Nat) (x : MT) (v1 : Int × Bool × Int × Int) : D62 K x v1 = bindO (spD K v1.1 v1.2.1 v1.2.2.1 (setPc x.w (Int.tmod (w64 (x.2.2.2.2.2.2.2.2.2.1 + v1.2.2.2)) 65536))) fun r => some (pack r.1 r.2 v1.1 v1.2.1 v1.2.2.1 x) := by
  unfold D62 spD
  cases v1.2.1 with
  | true => simp only [branch_t, bind_bind, bindO_s]; rfl
  | false =>
    simp only [branch_f]
    cases decide (v1.1 < 64) with
    | true => simp only [branch_t, bind_bind, bindO_s]; rfl
    | false =>
      simp only [branch_f]
      cases decide (v1.1 = 118) with
      | true => rfl
      | false =>
        simp only [branch_f]
        cases decide (v1.1 < 128) with
        | true => simp only [branch_t, bind_bind, bindO_s]; rfl
        | false =>
          simp only [branch_f]
          cases decide (v1.1 < 192) with
          | true => simp only [branch_t, bind_bind, bindO_s]; rfl
          | false => simp only [branch_f, bind_bind, bindO_s]; rfl
end Go.U.Tryz
namespace Go.U.Tryz
open Go Go.U
set_option linter.unusedVariables false
set_option linter.unusedSimpArgs false
set_option maxRecDepth 20000
def G60 (v0 : Int × Bool × Int × Int × Int × Int × Int × Int × Int × Int × Int × Int × Int × Int × Bool × Bool × (List UInt8) × Int × Int × (List UInt8) × Int × Bool × Int × (List UInt8) × (List UInt8) × (List Int) × Int) (v1 : Bool × AT) (v2 : Int) : Option (Int × Int × Int × Int × Int × Int × Int × Int × Int × Int × Bool × Bool × (List UInt8) × Int × Int × (List UInt8) × Int × Bool × Int × (List UInt8) × (List UInt8) × (List Int) × Int × Int) :=
  bindO (α := Bool × Int × Int × Int × Int × Int × Int × Int × Int × Int × Int × Bool × Bool × (List UInt8) × Int × Int × (List UInt8) × Int × Bool × Int × (List UInt8) × (List UInt8) × (List Int) × Int × Int × Int × Int × Int × Int × Int × Int × Int × Int × Int × Bool × Bool × (List UInt8) × Int × Int × (List UInt8) × Int × Bool × Int × (List UInt8) × (List UInt8) × (List Int) × Int × Int × Int × Int × Int × Int × Int × Int × Int × Int × Int × Bool × Bool × (List UInt8) × Int × Int × (List UInt8) × Int × Bool × Int × (List UInt8) × (List UInt8) × (List Int) × Int) (branch v1.2.2.2.2.1
       (some (true, v1.2.2.2.2.2.1, v1.2.2.2.2.2.2.1, v1.2.2.2.2.2.2.2.1, v1.2.2.2.2.2.2.2.2.1, v1.2.2.2.2.2.2.2.2.2.1, v1.2.2.2.2.2.2.2.2.2.2.1, v1.2.2.2.2.2.2.2.2.2.2.2.1, v1.2.2.2.2.2.2.2.2.2.2.2.2.1, v1.2.2.2.2.2.2.2.2.2.2.2.2.2.1, v1.2.2.2.2.2.2.2.2.2.2.2.2.2.2.1, v1.2.2.2.2.2.2.2.2.2.2.2.2.2.2.2.1, v1.2.2.2.2.2.2.2.2.2.2.2.2.2.2.2.2.1, v1.2.2.2.2.2.2.2.2.2.2.2.2.2.2.2.2.2.1, v1.2.2.2.2.2.2.2.2.2.2.2.2.2.2.2.2.2.2.1, v1.2.2.2.2.2.2.2.2.2.2.2.2.2.2.2.2.2.2.2.1, v1.2.2.2.2.2.2.2.2.2.2.2.2.2.2.2.2.2.2.2.2.1, v1.2.2.2.2.2.2.2.2.2.2.2.2.2.2.2.2.2.2.2.2.2.1, v1.2.2.2.2.2.2.2.2.2.2.2.2.2.2.2.2.2.2.2.2.2.2.1, v1.2.2.2.2.2.2.2.2.2.2.2.2.2.2.2.2.2.2.2.2.2.2.2.1, v1.2.2.2.2.2.2.2.2.2.2.2.2.2.2.2.2.2.2.2.2.2.2.2.2.1, v1.2.2.2.2.2.2.2.2.2.2.2.2.2.2.2.2.2.2.2.2.2.2.2.2.2.1, v1.2.2.2.2.2.2.2.2.2.2.2.2.2.2.2.2.2.2.2.2.2.2.2.2.2.2.1, w64 (v1.2.2.2.2.2.2.2.2.2.2.2.2.2.2.2.2.2.2.2.2.2.2.2.2.2.2.2 + v2), 0, 0, 0, 0, 0, 0, 0, 0, 0, 0, false, false, [], 0, 0, [], 0, false, 0, [], [], [], 0, v0.2.2.2.2))
       (some (decide (1000000000 < (w64 (v1.2.2.2.2.2.2.2.2.2.2.2.2.2.2.2.2.2.2.2.2.2.2.2.2.2.2.2 + v2))), v1.2.2.2.2.2.1, v1.2.2.2.2.2.2.1, v1.2.2.2.2.2.2.2.1, v1.2.2.2.2.2.2.2.2.1, v1.2.2.2.2.2.2.2.2.2.1, v1.2.2.2.2.2.2.2.2.2.2.1, v1.2.2.2.2.2.2.2.2.2.2.2.1, v1.2.2.2.2.2.2.2.2.2.2.2.2.1, v1.2.2.2.2.2.2.2.2.2.2.2.2.2.1, v1.2.2.2.2.2.2.2.2.2.2.2.2.2.2.1, v1.2.2.2.2.2.2.2.2.2.2.2.2.2.2.2.1, v1.2.2.2.2.2.2.2.2.2.2.2.2.2.2.2.2.1, v1.2.2.2.2.2.2.2.2.2.2.2.2.2.2.2.2.2.1, v1.2.2.2.2.2.2.2.2.2.2.2.2.2.2.2.2.2.2.1, v1.2.2.2.2.2.2.2.2.2.2.2.2.2.2.2.2.2.2.2.1, v1.2.2.2.2.2.2.2.2.2.2.2.2.2.2.2.2.2.2.2.2.1, v1.2.2.2.2.2.2.2.2.2.2.2.2.2.2.2.2.2.2.2.2.2.1, v1.2.2.2.2.2.2.2.2.2.2.2.2.2.2.2.2.2.2.2.2.2.2.1, v1.2.2.2.2.2.2.2.2.2.2.2.2.2.2.2.2.2.2.2.2.2.2.2.1, v1.2.2.2.2.2.2.2.2.2.2.2.2.2.2.2.2.2.2.2.2.2.2.2.2.1, v1.2.2.2.2.2.2.2.2.2.2.2.2.2.2.2.2.2.2.2.2.2.2.2.2.2.1, v1.2.2.2.2.2.2.2.2.2.2.2.2.2.2.2.2.2.2.2.2.2.2.2.2.2.2.1, w64 (v1.2.2.2.2.2.2.2.2.2.2.2.2.2.2.2.2.2.2.2.2.2.2.2.2.2.2.2 + v2), 0, 0, 0, 0, 0, 0, 0, 0, 0, 0, false, false, [], 0, 0, [], 0, false, 0, [], [], [], 0, v0.2.2.2.2))) fun v3 =>
    branch v3.1
     (some (v3.2.2.2.2.2.2.2.2.2.2.2.2.2.2.2.2.2.2.2.2.2.2.2.2.2.2.2.2.2.2.2.2.2.2.2.2.2.2.2.2.2.2.2.2.2.2.2.1, v3.2.2.2.2.2.2.2.2.2.2.2.2.2.2.2.2.2.2.2.2.2.2.2.2.2.2.2.2.2.2.2.2.2.2.2.2.2.2.2.2.2.2.2.2.2.2.2.2.1, v3.2.2.2.2.2.2.2.2.2.2.2.2.2.2.2.2.2.2.2.2.2.2.2.2.2.2.2.2.2.2.2.2.2.2.2.2.2.2.2.2.2.2.2.2.2.2.2.2.2.1, v3.2.2.2.2.2.2.2.2.2.2.2.2.2.2.2.2.2.2.2.2.2.2.2.2.2.2.2.2.2.2.2.2.2.2.2.2.2.2.2.2.2.2.2.2.2.2.2.2.2.2.1, v3.2.2.2.2.2.2.2.2.2.2.2.2.2.2.2.2.2.2.2.2.2.2.2.2.2.2.2.2.2.2.2.2.2.2.2.2.2.2.2.2.2.2.2.2.2.2.2.2.2.2.2.1, v3.2.2.2.2.2.2.2.2.2.2.2.2.2.2.2.2.2.2.2.2.2.2.2.2.2.2.2.2.2.2.2.2.2.2.2.2.2.2.2.2.2.2.2.2.2.2.2.2.2.2.2.2.1, v3.2.2.2.2.2.2.2.2.2.2.2.2.2.2.2.2.2.2.2.2.2.2.2.2.2.2.2.2.2.2.2.2.2.2.2.2.2.2.2.2.2.2.2.2.2.2.2.2.2.2.2.2.2.1, v3.2.2.2.2.2.2.2.2.2.2.2.2.2.2.2.2.2.2.2.2.2.2.2.2.2.2.2.2.2.2.2.2.2.2.2.2.2.2.2.2.2.2.2.2.2.2.2.2.2.2.2.2.2.2.1, v3.2.2.2.2.2.2.2.2.2.2.2.2.2.2.2.2.2.2.2.2.2.2.2.2.2.2.2.2.2.2.2.2.2.2.2.2.2.2.2.2.2.2.2.2.2.2.2.2.2.2.2.2.2.2.2.1, v3.2.2.2.2.2.2.2.2.2.2.2.2.2.2.2.2.2.2.2.2.2.2.2.2.2.2.2.2.2.2.2.2.2.2.2.2.2.2.2.2.2.2.2.2.2.2.2.2.2.2.2.2.2.2.2.2.1, v3.2.2.2.2.2.2.2.2.2.2.2.2.2.2.2.2.2.2.2.2.2.2.2.2.2.2.2.2.2.2.2.2.2.2.2.2.2.2.2.2.2.2.2.2.2.2.2.2.2.2.2.2.2.2.2.2.2.1, v3.2.2.2.2.2.2.2.2.2.2.2.2.2.2.2.2.2.2.2.2.2.2.2.2.2.2.2.2.2.2.2.2.2.2.2.2.2.2.2.2.2.2.2.2.2.2.2.2.2.2.2.2.2.2.2.2.2.2.1, v3.2.2.2.2.2.2.2.2.2.2.2.2.2.2.2.2.2.2.2.2.2.2.2.2.2.2.2.2.2.2.2.2.2.2.2.2.2.2.2.2.2.2.2.2.2.2.2.2.2.2.2.2.2.2.2.2.2.2.2.1, v3.2.2.2.2.2.2.2.2.2.2.2.2.2.2.2.2.2.2.2.2.2.2.2.2.2.2.2.2.2.2.2.2.2.2.2.2.2.2.2.2.2.2.2.2.2.2.2.2.2.2.2.2.2.2.2.2.2.2.2.2.1, v3.2.2.2.2.2.2.2.2.2.2.2.2.2.2.2.2.2.2.2.2.2.2.2.2.2.2.2.2.2.2.2.2.2.2.2.2.2.2.2.2.2.2.2.2.2.2.2.2.2.2.2.2.2.2.2.2.2.2.2.2.2.1, v3.2.2.2.2.2.2.2.2.2.2.2.2.2.2.2.2.2.2.2.2.2.2.2.2.2.2.2.2.2.2.2.2.2.2.2.2.2.2.2.2.2.2.2.2.2.2.2.2.2.2.2.2.2.2.2.2.2.2.2.2.2.2.1, v3.2.2.2.2.2.2.2.2.2.2.2.2.2.2.2.2.2.2.2.2.2.2.2.2.2.2.2.2.2.2.2.2.2.2.2.2.2.2.2.2.2.2.2.2.2.2.2.2.2.2.2.2.2.2.2.2.2.2.2.2.2.2.2.1, v3.2.2.2.2.2.2.2.2.2.2.2.2.2.2.2.2.2.2.2.2.2.2.2.2.2.2.2.2.2.2.2.2.2.2.2.2.2.2.2.2.2.2.2.2.2.2.2.2.2.2.2.2.2.2.2.2.2.2.2.2.2.2.2.2.1, v3.2.2.2.2.2.2.2.2.2.2.2.2.2.2.2.2.2.2.2.2.2.2.2.2.2.2.2.2.2.2.2.2.2.2.2.2.2.2.2.2.2.2.2.2.2.2.2.2.2.2.2.2.2.2.2.2.2.2.2.2.2.2.2.2.2.1, v3.2.2.2.2.2.2.2.2.2.2.2.2.2.2.2.2.2.2.2.2.2.2.2.2.2.2.2.2.2.2.2.2.2.2.2.2.2.2.2.2.2.2.2.2.2.2.2.2.2.2.2.2.2.2.2.2.2.2.2.2.2.2.2.2.2.2.1, v3.2.2.2.2.2.2.2.2.2.2.2.2.2.2.2.2.2.2.2.2.2.2.2.2.2.2.2.2.2.2.2.2.2.2.2.2.2.2.2.2.2.2.2.2.2.2.2.2.2.2.2.2.2.2.2.2.2.2.2.2.2.2.2.2.2.2.2.1, v3.2.2.2.2.2.2.2.2.2.2.2.2.2.2.2.2.2.2.2.2.2.2.2.2.2.2.2.2.2.2.2.2.2.2.2.2.2.2.2.2.2.2.2.2.2.2.2.2.2.2.2.2.2.2.2.2.2.2.2.2.2.2.2.2.2.2.2.2.1, v3.2.2.2.2.2.2.2.2.2.2.2.2.2.2.2.2.2.2.2.2.2.2.2.2.2.2.2.2.2.2.2.2.2.2.2.2.2.2.2.2.2.2.2.2.2.2.2.2.2.2.2.2.2.2.2.2.2.2.2.2.2.2.2.2.2.2.2.2.2, 4))
     (some (v3.2.1, v3.2.2.1, v3.2.2.2.1, v3.2.2.2.2.1, v3.2.2.2.2.2.1, v3.2.2.2.2.2.2.1, v3.2.2.2.2.2.2.2.1, v3.2.2.2.2.2.2.2.2.1, v3.2.2.2.2.2.2.2.2.2.1, v3.2.2.2.2.2.2.2.2.2.2.1, v3.2.2.2.2.2.2.2.2.2.2.2.1, v3.2.2.2.2.2.2.2.2.2.2.2.2.1, v3.2.2.2.2.2.2.2.2.2.2.2.2.2.1, v3.2.2.2.2.2.2.2.2.2.2.2.2.2.2.1, v3.2.2.2.2.2.2.2.2.2.2.2.2.2.2.2.1, v3.2.2.2.2.2.2.2.2.2.2.2.2.2.2.2.2.1, v3.2.2.2.2.2.2.2.2.2.2.2.2.2.2.2.2.2.1, v3.2.2.2.2.2.2.2.2.2.2.2.2.2.2.2.2.2.2.1, v3.2.2.2.2.2.2.2.2.2.2.2.2.2.2.2.2.2.2.2.1, v3.2.2.2.2.2.2.2.2.2.2.2.2.2.2.2.2.2.2.2.2.1, v3.2.2.2.2.2.2.2.2.2.2.2.2.2.2.2.2.2.2.2.2.2.1, v3.2.2.2.2.2.2.2.2.2.2.2.2.2.2.2.2.2.2.2.2.2.2.1, v3.2.2.2.2.2.2.2.2.2.2.2.2.2.2.2.2.2.2.2.2.2.2.2.1, 0))
def out (w : WT) (c : Int) : Int × Int × Int × Int × Int × Int × Int × Int × Int × Int × Bool × Bool × (List UInt8) × Int × Int × (List UInt8) × Int × Bool × Int × (List UInt8) × (List UInt8) × (List Int) × Int × Int := (w.1, w.2.1, w.2.2.1, w.2.2.2.1, w.2.2.2.2.1, w.2.2.2.2.2.1, w.2.2.2.2.2.2.1, w.2.2.2.2.2.2.2.1, w.2.2.2.2.2.2.2.2.1, w.2.2.2.2.2.2.2.2.2.1, w.2.2.2.2.2.2.2.2.2.2.1, w.2.2.2.2.2.2.2.2.2.2.2.1, w.2.2.2.2.2.2.2.2.2.2.2.2.1, w.2.2.2.2.2.2.2.2.2.2.2.2.2.1, w.2.2.2.2.2.2.2.2.2.2.2.2.2.2.1, w.2.2.2.2.2.2.2.2.2.2.2.2.2.2.2.1, w.2.2.2.2.2.2.2.2.2.2.2.2.2.2.2.2.1, w.2.2.2.2.2.2.2.2.2.2.2.2.2.2.2.2.2.1, w.2.2.2.2.2.2.2.2.2.2.2.2.2.2.2.2.2.2.1, w.2.2.2.2.2.2.2.2.2.2.2.2.2.2.2.2.2.2.2.1, w.2.2.2.2.2.2.2.2.2.2.2.2.2.2.2.2.2.2.2.2.1, w.2.2.2.2.2.2.2.2.2.2.2.2.2.2.2.2.2.2.2.2.2.1, w.2.2.2.2.2.2.2.2.2.2.2.2.2.2.2.2.2.2.2.2.2.2.1, c)
def fin (b : Bool) (w w' : WT) (n : Int) : Int × Int × Int × Int × Int × Int × Int × Int × Int × Int × Bool × Bool × (List UInt8) × Int × Int × (List UInt8) × Int × Bool × Int × (List UInt8) × (List UInt8) × (List Int) × Int × Int := cond b (out w 4) (out (setCyc w' n) 0)
theorem G60_eq (c : Int) (cb : Bool) (imm n l : Int) (t : Bool) (w w' : WT) (r : Int × Bool × Int) :
    G60 (r.1, r.2.1, r.2.2, l, WT.m w) (t, A c cb imm w') n = some (fin (w'.2.2.2.2.2.2.2.2.2.2.2.2.2.2.2.2.2.2.2.2.2.2.2 || decide (1000000000 < w64 (cyc w' + n))) w w' (w64 (cyc w' + n))) := by
  unfold G60
  dsimp only [A]
  generalize w'.2.2.2.2.2.2.2.2.2.2.2.2.2.2.2.2.2.2.2.2.2.2.2 = q
  cases q with
  | true => rfl
  | false =>
    simp only [branch_f, bindO_s, Bool.false_or]
    show branch (decide (1000000000 < w64 (cyc w' + n))) _ _ = _
    generalize decide (1000000000 < w64 (cyc w' + n)) = b
    cases b <;> rfl
theorem R62_eq (k : Nat) (c : Int) (cb : Bool) (imm n : Int) (t : Bool) (w w' : WT) (h : WInv w) (h' : WInv w') (e : F118 (k + 40) (c, cb, t) = some n) (ec : cyc w' = cyc w) :
    R62 (k + 40) (pack t w' c cb imm (WT.m w)) = some (fin (w'.2.2.2.2.2.2.2.2.2.2.2.2.2.2.2.2.2.2.2.2.2.2.2 || decide (1000000000 < w64 (cyc w' + n))) w w' (w64 (cyc w' + n))) := by
  have o1 : F89 (k + 40) (WT.m w) = some (WT.m w) := F89_eq (k + 40) (WT.m w) h.out.2
  have o2 : ∀ x, F89 (k + 40) (WT.m (setCyc w' x)) = some (WT.m (setCyc w' x)) := fun x => F89_eq (k + 40) (WT.m (setCyc w' x)) h'.out.2
  unfold R62
  refine (congrArg (fun z => bindO z _) e).trans ?_
  simp only [bindO_s]
  dsimp only [pack]
  rw [ec]
  generalize w'.2.2.2.2.2.2.2.2.2.2.2.2.2.2.2.2.2.2.2.2.2.2.2 = q
  cases q with
  | true =>
    simp only [branch_t, bindO_s, Bool.true_or]
    refine (congrArg (fun z => bindO (bindO z _) _) o1).trans ?_
    rfl
  | false =>
    simp only [branch_f, bindO_s, Bool.false_or]
    show bindO (branch (decide (1000000000 < w64 (cyc w + n))) _ _) _ = _
    generalize decide (1000000000 < w64 (cyc w + n)) = b
    cases b with
    | true =>
      simp only [branch_t]
      refine (congrArg (fun z => bindO (bindO z _) _) o1).trans ?_
      rfl
    | false =>
      simp only [branch_f, bindO_s, csO_r]
      refine (congrArg (fun z => bindO z _) (o2 (w64 (cyc w + n)))).trans ?_
      rfl
theorem spD_t (K : Nat) (c : Int) (cb : Bool) (imm : Int) (w : WT) (h : WInv w) (hc : 0 ≤ c ∧ c ≤ 255) (hi : 0 ≤ imm ∧ imm ≤ 65535) (h6 : cb = false → c % 8 = 6 → imm ≤ 255) :
    T (spD K c cb imm w) fun r => WInv r.2 := by
  have hz : 0 ≤ Int.tmod c 8 ∧ Int.tmod c 8 ≤ 7 := by (first | omega | ((simp (disch := omega) only [w64_id, w64u_id, Int.tmod_eq_emod_of_nonneg, Int.tdiv_eq_ediv_of_nonneg]); omega) | (simp (disch := omega) only [w64_id, w64u_id, Int.tmod_eq_emod_of_nonneg, Int.tdiv_eq_ediv_of_nonneg]) | (simp only [tm2, tm4, tm8, tm16, tm32, tm40, tm256, tm4096, tm65536, td2, td8, td16, td32, td64, td128, td256, w64_eq, decide_eq_true_eq, decide_eq_false_iff_not, not_and, Int.not_le, Int.not_lt] at *; omega))
  unfold spD
  refine T.br (fun _ => T.bind (F112_t _ _ h _ _ _ hc) fun r hr => T.ret hr) fun gcb => ?_
  refine T.br (fun g2 => F113_t _ _ h _ _ _ ⟨hc.1, by have := of_decide_eq_true g2; omega⟩ hi (h6 gcb)) fun _ => ?_
  refine T.br (fun _ => T.ret (h.set_halted true)) fun _ => ?_
  refine T.br (fun _ => T.bind (F115_t _ _ h _ hz) fun r hr => T.bind (F114_t _ _ h _ _ hr.1) fun r2 hr2 => T.ret hr2) fun _ => ?_
  refine T.br (fun _ => T.bind (F115_t _ _ h _ hz) fun r hr => T.bind (F116_t _ _ _ _ _ h.a hr.1 ⟨h.f.1, h.f.2.1⟩) fun r2 hr2 => T.ret (h.set_af hr2.1 hr2.2)) fun _ => ?_
  exact F117_t _ _ h _ _ _ hc hi (h6 gcb)
theorem step_eq (k : Nat) (w : WT) (h : WInv w) : F60 (k + 40) (WT.m w) = F62 (k + 40) (WT.m w) := by
  have o1 : F89 (k + 40) (WT.m w) = some (WT.m w) := F89_eq (k + 40) (WT.m w) h.out.2
  have l : F60 (k + 40) (WT.m w) = branch w.2.2.2.2.2.2.2.2.2.2.2.1 (some (out w 1)) (bindO (F98 (k + 40) (WT.m w)) fun v0 => branch (decide (v0.2.2.2.1 = 0)) (some (out (MT.w v0.2.2.2.2) 2)) (bindO (F110 (k + 40) (A v0.1 v0.2.1 v0.2.2.1 (setPc (MT.w v0.2.2.2.2) (bits .and .i64 (w64 (v0.2.2.2.2.2.2.2.2.2.2.2.2.2.1 + v0.2.2.2.1)) 65535)))) fun v1 => bindO (F26 (k + 40) (v0.1, v0.2.1, v1.1)) fun v2 => G60 v0 v1 v2)) := rfl
  have r : F62 (k + 40) (WT.m w) = branch w.2.2.2.2.2.2.2.2.2.2.2.1 (bindO (F89 (k + 40) (WT.m w)) fun v0 => some (out (MT.w v0) 1)) (bindO (F100 (k + 40) (WT.m w)) fun v1 => branch (decide (v1.2.2.2 = 0)) (bindO (F89 (k + 40) (WT.m w)) fun v2 => some (out (MT.w v2) 2)) (bindO (D62 (k + 40) (WT.m w) v1) fun v10 => R62 (k + 40) v10)) := rfl
  rw [l, r, o1]
  cases w.2.2.2.2.2.2.2.2.2.2.2.1 with
  | true => rfl
  | false =>
    simp only [branch_f]
    obtain ⟨⟨c, cb, imm, n⟩, e1, e2, e3⟩ := fetch3 k w h
    rw [e1, e2]
    simp only [bindO_s]
    by_cases g : n = 0
    · rw [decide_eq_true g]; rfl
    · rw [decide_eq_false g]
      simp only [branch_f]
      obtain ⟨hc, him, hn, hv⟩ : _ ∧ _ ∧ _ ∧ _ := e3.resolve_left g
      dsimp only at hc him hn hv
      have hp := h.pc
      have hm : Int.tmod (w64 (w.2.2.2.2.2.2.2.2.2.1 + n)) 65536 = bits .and .i64 (w64 (w.2.2.2.2.2.2.2.2.2.1 + n)) 65535 := by rw [w64_id (by omega) (by omega), and65535, Int.tmod_eq_emod_of_nonneg (by omega)]
      have hp2 : 0 ≤ bits .and .i64 (w64 (w.2.2.2.2.2.2.2.2.2.1 + n)) 65535 ∧ bits .and .i64 (w64 (w.2.2.2.2.2.2.2.2.2.1 + n)) 65535 ≤ 65535 := by rw [and65535]; omega
      rw [D62_eq]
      show bindO (F110 (k + 40) (A c cb imm (setPc (MT.w (WT.m w)) (bits .and .i64 (w64 (w.2.2.2.2.2.2.2.2.2.1 + n)) 65535)))) (fun v1 => bindO (F26 (k + 40) (c, cb, v1.1)) fun v2 => G60 (c, cb, imm, n, WT.m w) v1 v2) = bindO (bindO (spD (k + 40) c cb imm (setPc (MT.w (WT.m w)) (Int.tmod (w64 (w.2.2.2.2.2.2.2.2.2.1 + n)) 65536))) fun r => some (pack r.1 r.2 c cb imm (WT.m w))) fun v10 => R62 (k + 40) v10
      rw [hm]
      have hw : WInv (setPc (MT.w (WT.m w)) (bits .and .i64 (w64 (w.2.2.2.2.2.2.2.2.2.1 + n)) 65535)) := (h.set_full false).set_pc hp2
      obtain ⟨t, t', w', q1, q2, q3, q4⟩ := run_eq (k + 40) c cb imm _ hw hc him hv
      obtain ⟨⟨t2, w2⟩, q5, q6⟩ := spD_t (k + 40) c cb imm _ hw hc him (fun a b => (hv a).2 (.inl b))
      rw [q2] at q5
      have q7 := Option.some.inj q5
      have q8 : w' = w2 := congrArg Prod.snd q7
      have hw' : WInv w' := by rw [q8]; exact q6
      rw [q1, q2]
      simp only [bindO_s]
      obtain ⟨n6, z1, z2⟩ := F118_t k c cb t' hc
      have z3 := cyc2 k c cb hc (fun a => (hv a).1) t t' (fun a => q4 (by rw [a.1, a.2]; rfl))
      rw [z3, z1]
      simp only [bindO_s]
      rw [R62_eq k c cb imm n6 t' w w' h hw' z1 q3]
      exact G60_eq c cb imm n6 n t w w' (c, cb, imm)
end Go.U.Tryz
namespace Go.U.Tryz
open Go Go.U
set_option linter.unusedVariables false
set_option linter.unusedSimpArgs false
set_option maxRecDepth 20000
theorem F75_eq (K : Nat) (c0 c1 c2 c3 c4 c5 c6 c7 c8 c9 : Int) (b0 b1 : Bool) : F75 K (c0, c1, c2, c3, c4, c5, c6, c7, c8, c9, b0, b1, c0, c1, c2, c3, c4, c5, c6, c7, c8, c9, b0, b1) = some true := by simp [F75, branch_t, branch_f]
theorem F76_eq (K : Nat) (rom : List UInt8) (k1 k2 : Int) (ram : List UInt8) (k3 : Int) (kb : Bool) (k4 : Int) : F76 K (rom, k1, k2, ram, k3, kb, k4, rom, k1, k2, ram, k3, kb, k4) = some true := by simp [F76, branch_t, branch_f]
theorem F77_eq (K : Nat) (xs : List Int) (hl : xs.length ≤ maxLen) (hK : xs.length < K) : F77 K (xs, xs) = some true := by
  unfold maxLen at hl
  have h := loop_all (f := F77_b0 K) (fun i => (xs, xs, (i : Int))) xs (fun _ => true) (.inl false) (.inr ()) (fun i v hv hi => by
    have e1 : ((i : Int) < (xs.length : Int)) := by omega
    have e3 : w64 ((i : Int) + 1) = ((i + 1 : Nat) : Int) := by rw [w64_id (by omega) (by omega)]; omega
    simp only [F77_b0, branch_ite, if_pos e1, nth_s hv, e3, decide_true, Bool.not_true, branch_f, cond]) (by
    have e1 : ¬ ((xs.length : Int) < (xs.length : Int)) := by omega
    simp only [F77_b0, branch_ite, if_neg e1]) K hK
  replace h : iter K (F77_b0 K) (xs, xs, 0) = _ := h
  simp only [F77, decide_true, Bool.not_true, branch_f, h, bindO_s]
  rw [List.all_eq_true.2 (fun _ _ => rfl)]
  rfl
theorem F29_eq (K : Nat) (c0 c1 c2 c3 c4 c5 c6 c7 c8 c9 : Int) (b0 b1 : Bool) (rom : List UInt8) (k1 k2 : Int) (ram : List UInt8) (k3 : Int) (kb : Bool) (k4 : Int) (s1 s2 : List UInt8) (st : List Int) (n : Int) (hl : st.length ≤ maxLen) (hK : st.length + 8 < K) : F29 K (c0, c1, c2, c3, c4, c5, c6, c7, c8, c9, b0, b1, rom, k1, k2, ram, k3, kb, k4, s1, s2, st, n, c0, c1, c2, c3, c4, c5, c6, c7, c8, c9, b0, b1, rom, k1, k2, ram, k3, kb, k4, s1, s2, st, n) = some true := by
  simp only [F29, F75_eq, F76_eq, F77_eq K st hl (by omega), bindO_s, Bool.not_true, branch_f, decide_true]
theorem F74o_eq (K : Nat) (xs : List Int) (hl : xs.length ≤ 1048576) (hK : xs.length < K) : F74o K xs = some xs := by
  have h := loop_copy0 (f := F74o_b0 K) (fun i zs => (xs, (i : Int), zs)) xs id (fun i zs v hv hi hz => by
    have e1 : ((i : Int) < (xs.length : Int)) := by omega
    have e2 : (0 ≤ (i : Int) ∧ (i : Int) < (zs.length : Int)) := by omega
    have e3 : w64 ((i : Int) + 1) = ((i + 1 : Nat) : Int) := by rw [w64_id (by omega) (by omega)]; omega
    have e4 : zs[i]? = some zs[i] := List.getElem?_eq_getElem (by omega)
    simp only [F74o_b0, branch_ite, if_pos e1, nth_s hv, guard_dec e2, Int.toNat_natCast, nthN_s e4, e3, id]) (fun zs hz => by
    have e1 : ¬ ((xs.length : Int) < (xs.length : Int)) := by omega
    simp only [F74o_b0, branch_ite, if_neg e1]) K (List.replicate ((xs.length : Int).toNat) 0) (by simp) hK
  rw [List.map_id] at h
  replace h : iter K (F74o_b0 K) (xs, 0, List.replicate ((xs.length : Int).toNat) 0) = some xs := h
  unfold F74o
  rw [guard_dec ⟨rfl, by omega, by simp; omega⟩, h]
  rfl
theorem F28_eq (K : Nat) (c0 c1 c2 c3 c4 c5 c6 c7 c8 c9 : Int) (b0 b1 : Bool) (rom : List UInt8) (k1 k2 : Int) (ram : List UInt8) (k3 : Int) (kb : Bool) (k4 : Int) (s1 s2 : List UInt8) (st : List Int) (n : Int) (hl : st.length ≤ 1048576) (hK : st.length + 8 < K) : F28 K (c0, c1, c2, c3, c4, c5, c6, c7, c8, c9, b0, b1, rom, k1, k2, ram, k3, kb, k4, s1, s2, st, n) = some (c0, c1, c2, c3, c4, c5, c6, c7, c8, c9, b0, b1, rom, k1, k2, ram, k3, kb, k4, s1, s2, st, n) := by
  simp only [F28, F72, F73, F74o_eq K st hl (by omega), bindO_s]
theorem F28o_eq (K : Nat) (c0 c1 c2 c3 c4 c5 c6 c7 c8 c9 : Int) (b0 b1 : Bool) (rom : List UInt8) (k1 k2 : Int) (ram : List UInt8) (k3 : Int) (kb : Bool) (k4 : Int) (s1 s2 : List UInt8) (st : List Int) (n : Int) (hl : st.length ≤ 1048576) (hK : st.length + 8 < K) : F28o K (c0, c1, c2, c3, c4, c5, c6, c7, c8, c9, b0, b1, rom, k1, k2, ram, k3, kb, k4, s1, s2, st, n) = some (c0, c1, c2, c3, c4, c5, c6, c7, c8, c9, b0, b1, rom, k1, k2, ram, k3, kb, k4, s1, s2, n, st) := by
  simp only [F28o, F72, F73, F74o_eq K st hl (by omega), bindO_s]
theorem F70_eq (K : Nat) (rom : List UInt8) (k1 k2 : Int) (ram : List UInt8) (k3 : Int) (kb : Bool) (k4 m : Int) (h1 : rom.length ≤ maxLen) (h2 : ram.length ≤ maxLen) (hm : 0 ≤ m) (hm' : m ≤ 1048576) : ∃ r, F70 K (rom, k1, k2, ram, k3, kb, k4, m) = some r ∧ r ≤ 1048576 := by
  unfold maxLen at h1 h2
  have e1 : w64 (m - (rom.length : Int)) = m - (rom.length : Int) := w64_id (by omega) (by omega)
  simp only [F70, e1, branch_ite]
  split
  · exact ⟨_, rfl, by omega⟩
  · have e2 : w64 (m - (rom.length : Int) - (ram.length : Int)) = m - (rom.length : Int) - (ram.length : Int) := w64_id (by omega) (by omega)
    rw [e2]
    split
    · exact ⟨_, rfl, by omega⟩
    · exact ⟨_, rfl, by omega⟩
def marks (k : Int) (n : Nat) : List Int := (List.range n).map fun (i : Nat) => k + (i : Int)
theorem marks_length (k : Int) (n : Nat) : (marks k n).length = n := by simp [marks]
theorem marks_get (k : Int) (n i : Nat) (h : i < n) : (marks k n)[i]? = some (k + (i : Int)) := by
  simp [marks, h]
theorem F78_eq (K : Nat) (xs : List Int) (k : Int) (hk : 0 ≤ k ∧ k ≤ 1048576) (hl : xs.length ≤ 1048576) (hK : xs.length < K) : F78 K (k, xs) = some (k + (xs.length : Int), marks k xs.length) := by
  obtain ⟨b, h1, h2⟩ := iter_inv (f := F78_b0 K) (fun a => ∃ i : Nat, a.1 = k + (i : Int) ∧ a.2.1 = (i : Int) ∧ i ≤ xs.length ∧ a.2.2.length = xs.length ∧ ∀ j, j < i → a.2.2[j]? = some (k + (j : Int))) (fun a => (xs.length : Int).toNat - a.2.1.toNat) (fun b => b = (k + (xs.length : Int), marks k xs.length)) (fun a ⟨i, g0, g1, g2, g3, g4⟩ => by
    obtain ⟨a0, a1, zs⟩ := a
    simp only at g0 g1 g2 g3 g4
    subst g0 g1
    by_cases g : i < xs.length
    · have c : ((i : Int) < (zs.length : Int)) := by omega
      have c2 : (0 ≤ (i : Int) ∧ (i : Int) < (zs.length : Int)) := by omega
      have e4 : zs[i]? = some zs[i] := List.getElem?_eq_getElem (by omega)
      refine .inl ⟨(w64 (k + (i : Int) + 1), w64 ((i : Int) + 1), zs.set i (k + (i : Int))), ?_, ⟨i + 1, ?_, ?_, by omega, by simpa using g3, fun j hj => ?_⟩, ?_⟩
      · simp only [F78_b0, branch_ite, if_pos c, guard_dec c2, Int.toNat_natCast, nthN_s e4]
      · dsimp only; rw [w64_id (by omega) (by omega)]; omega
      · dsimp only; rw [w64_id (by omega) (by omega)]; omega
      · dsimp only
        rw [List.getElem?_set]
        split
        · rename_i e
          subst e
          rw [if_pos (by omega)]
        · exact g4 j (by omega)
      · dsimp only
        rw [w64_id (n := (i : Int) + 1) (by omega) (by omega)]
        omega
    · have c : ¬ ((i : Int) < (zs.length : Int)) := by omega
      have hi : i = xs.length := by omega
      refine .inr ⟨(k + (i : Int), zs), by simp only [F78_b0, branch_ite, if_neg c], ?_⟩
      subst hi
      congr 1
      apply List.ext_getElem?
      intro j
      by_cases hj : j < xs.length
      · rw [g4 j hj, marks_get k _ j hj]
      · rw [List.getElem?_eq_none (by omega), List.getElem?_eq_none (by rw [marks_length]; omega)]) K (k, 0, xs) ⟨0, by simp, rfl, Nat.zero_le _, rfl, fun j hj => by omega⟩ (by simp; omega)
  unfold F78
  refine (congrArg (fun z => bindO z _) h1).trans ?_
  rw [h2]; rfl
theorem F79_eq (K : Nat) (n : Nat) (k : Int) (hk : 0 ≤ k ∧ k ≤ 1048576) (hn : n ≤ 1048576) (hK : n < K) : F79 K (marks k n, k) = some (k + (n : Int)) := by
  have h := loop_all (f := F79_b0 K) (fun i => (marks k n, k + (i : Int), (i : Int))) (marks k n) (fun _ => true) (.inl (-1)) (.inr (k + (n : Int))) (fun i v hv hi => by
    rw [marks_length] at hi
    have hv' := hv
    rw [marks_get k n i hi] at hv'
    have hv2 := Option.some.inj hv'
    have e1 : ((i : Int) < ((marks k n).length : Int)) := by rw [marks_length]; omega
    have e3 : w64 ((i : Int) + 1) = ((i + 1 : Nat) : Int) := by rw [w64_id (by omega) (by omega)]; omega
    have e4 : w64 (k + (i : Int) + 1) = k + ((i + 1 : Nat) : Int) := by rw [w64_id (by omega) (by omega)]; omega
    simp only [F79_b0, branch_ite, if_pos e1, nth_s hv, ← hv2, e3, e4, decide_true, Bool.not_true, branch_f, cond]) (by
    have e1 : ¬ (((marks k n).length : Int) < ((marks k n).length : Int)) := by omega
    have e2 : ¬ ((n : Int) < (n : Int)) := by omega
    simp only [F79_b0, branch_ite, marks_length, if_neg e2]) K (by rw [marks_length]; exact hK)
  rw [List.all_eq_true.2 (fun _ _ => rfl)] at h
  unfold F79
  have e0 : k + ((0 : Nat) : Int) = k := by omega
  simp only [e0] at h
  refine (congrArg (fun z => bindO z _) h).trans ?_
  rfl
structure Sm (m : MT) : Prop where
  rom : m.2.2.2.2.2.2.2.2.2.2.2.2.1.length ≤ maxLen
  out : m.2.2.2.2.2.2.2.2.2.2.2.2.2.2.2.2.2.2.2.2.2.1.length ≤ 1048576
abbrev cat {α : Type} (m : MT) (t : α) := (m.1, m.2.1, m.2.2.1, m.2.2.2.1, m.2.2.2.2.1, m.2.2.2.2.2.1, m.2.2.2.2.2.2.1, m.2.2.2.2.2.2.2.1, m.2.2.2.2.2.2.2.2.1, m.2.2.2.2.2.2.2.2.2.1, m.2.2.2.2.2.2.2.2.2.2.1, m.2.2.2.2.2.2.2.2.2.2.2.1, m.2.2.2.2.2.2.2.2.2.2.2.2.1, m.2.2.2.2.2.2.2.2.2.2.2.2.2.1, m.2.2.2.2.2.2.2.2.2.2.2.2.2.2.1, m.2.2.2.2.2.2.2.2.2.2.2.2.2.2.2.1, m.2.2.2.2.2.2.2.2.2.2.2.2.2.2.2.2.1, m.2.2.2.2.2.2.2.2.2.2.2.2.2.2.2.2.2.1, m.2.2.2.2.2.2.2.2.2.2.2.2.2.2.2.2.2.2.1, m.2.2.2.2.2.2.2.2.2.2.2.2.2.2.2.2.2.2.2.1, m.2.2.2.2.2.2.2.2.2.2.2.2.2.2.2.2.2.2.2.2.1, m.2.2.2.2.2.2.2.2.2.2.2.2.2.2.2.2.2.2.2.2.2.1, m.2.2.2.2.2.2.2.2.2.2.2.2.2.2.2.2.2.2.2.2.2.2, t)
abbrev ocat {α : Type} (m : MT) (t : α) := (m.1, m.2.1, m.2.2.1, m.2.2.2.1, m.2.2.2.2.1, m.2.2.2.2.2.1, m.2.2.2.2.2.2.1, m.2.2.2.2.2.2.2.1, m.2.2.2.2.2.2.2.2.1, m.2.2.2.2.2.2.2.2.2.1, m.2.2.2.2.2.2.2.2.2.2.1, m.2.2.2.2.2.2.2.2.2.2.2.1, m.2.2.2.2.2.2.2.2.2.2.2.2.1, m.2.2.2.2.2.2.2.2.2.2.2.2.2.1, m.2.2.2.2.2.2.2.2.2.2.2.2.2.2.1, m.2.2.2.2.2.2.2.2.2.2.2.2.2.2.2.1, m.2.2.2.2.2.2.2.2.2.2.2.2.2.2.2.2.1, m.2.2.2.2.2.2.2.2.2.2.2.2.2.2.2.2.2.1, m.2.2.2.2.2.2.2.2.2.2.2.2.2.2.2.2.2.2.1, m.2.2.2.2.2.2.2.2.2.2.2.2.2.2.2.2.2.2.2.1, m.2.2.2.2.2.2.2.2.2.2.2.2.2.2.2.2.2.2.2.2.1, m.2.2.2.2.2.2.2.2.2.2.2.2.2.2.2.2.2.2.2.2.2.2, t)
abbrev outM (m : MT) : List Int := m.2.2.2.2.2.2.2.2.2.2.2.2.2.2.2.2.2.2.2.2.2.1
abbrev OT := Int × Int × Int × Int × Int × Int × Int × Int × Int × Int × Bool × Bool × (List UInt8) × Int × Int × (List UInt8) × Int × Bool × Int × (List UInt8) × (List UInt8) × Int × List Int
def ofO (m : MT) : OT := (m.1, m.2.1, m.2.2.1, m.2.2.2.1, m.2.2.2.2.1, m.2.2.2.2.2.1, m.2.2.2.2.2.2.1, m.2.2.2.2.2.2.2.1, m.2.2.2.2.2.2.2.2.1, m.2.2.2.2.2.2.2.2.2.1, m.2.2.2.2.2.2.2.2.2.2.1, m.2.2.2.2.2.2.2.2.2.2.2.1, m.2.2.2.2.2.2.2.2.2.2.2.2.1, m.2.2.2.2.2.2.2.2.2.2.2.2.2.1, m.2.2.2.2.2.2.2.2.2.2.2.2.2.2.1, m.2.2.2.2.2.2.2.2.2.2.2.2.2.2.2.1, m.2.2.2.2.2.2.2.2.2.2.2.2.2.2.2.2.1, m.2.2.2.2.2.2.2.2.2.2.2.2.2.2.2.2.2.1, m.2.2.2.2.2.2.2.2.2.2.2.2.2.2.2.2.2.2.1, m.2.2.2.2.2.2.2.2.2.2.2.2.2.2.2.2.2.2.2.1, m.2.2.2.2.2.2.2.2.2.2.2.2.2.2.2.2.2.2.2.2.1, m.2.2.2.2.2.2.2.2.2.2.2.2.2.2.2.2.2.2.2.2.2.2, m.2.2.2.2.2.2.2.2.2.2.2.2.2.2.2.2.2.2.2.2.2.1)
theorem F29_m (K : Nat) (m : MT) (h : m.2.2.2.2.2.2.2.2.2.2.2.2.2.2.2.2.2.2.2.2.2.1.length ≤ 1048576) (hK : m.2.2.2.2.2.2.2.2.2.2.2.2.2.2.2.2.2.2.2.2.2.1.length + 8 < K) : F29 K (m.1, m.2.1, m.2.2.1, m.2.2.2.1, m.2.2.2.2.1, m.2.2.2.2.2.1, m.2.2.2.2.2.2.1, m.2.2.2.2.2.2.2.1, m.2.2.2.2.2.2.2.2.1, m.2.2.2.2.2.2.2.2.2.1, m.2.2.2.2.2.2.2.2.2.2.1, m.2.2.2.2.2.2.2.2.2.2.2.1, m.2.2.2.2.2.2.2.2.2.2.2.2.1, m.2.2.2.2.2.2.2.2.2.2.2.2.2.1, m.2.2.2.2.2.2.2.2.2.2.2.2.2.2.1, m.2.2.2.2.2.2.2.2.2.2.2.2.2.2.2.1, m.2.2.2.2.2.2.2.2.2.2.2.2.2.2.2.2.1, m.2.2.2.2.2.2.2.2.2.2.2.2.2.2.2.2.2.1, m.2.2.2.2.2.2.2.2.2.2.2.2.2.2.2.2.2.2.1, m.2.2.2.2.2.2.2.2.2.2.2.2.2.2.2.2.2.2.2.1, m.2.2.2.2.2.2.2.2.2.2.2.2.2.2.2.2.2.2.2.2.1, m.2.2.2.2.2.2.2.2.2.2.2.2.2.2.2.2.2.2.2.2.2.1, m.2.2.2.2.2.2.2.2.2.2.2.2.2.2.2.2.2.2.2.2.2.2, m) = some true :=
  F29_eq K m.1 m.2.1 m.2.2.1 m.2.2.2.1 m.2.2.2.2.1 m.2.2.2.2.2.1 m.2.2.2.2.2.2.1 m.2.2.2.2.2.2.2.1 m.2.2.2.2.2.2.2.2.1 m.2.2.2.2.2.2.2.2.2.1 m.2.2.2.2.2.2.2.2.2.2.1 m.2.2.2.2.2.2.2.2.2.2.2.1 m.2.2.2.2.2.2.2.2.2.2.2.2.1 m.2.2.2.2.2.2.2.2.2.2.2.2.2.1 m.2.2.2.2.2.2.2.2.2.2.2.2.2.2.1 m.2.2.2.2.2.2.2.2.2.2.2.2.2.2.2.1 m.2.2.2.2.2.2.2.2.2.2.2.2.2.2.2.2.1 m.2.2.2.2.2.2.2.2.2.2.2.2.2.2.2.2.2.1 m.2.2.2.2.2.2.2.2.2.2.2.2.2.2.2.2.2.2.1 m.2.2.2.2.2.2.2.2.2.2.2.2.2.2.2.2.2.2.2.1 m.2.2.2.2.2.2.2.2.2.2.2.2.2.2.2.2.2.2.2.2.1 m.2.2.2.2.2.2.2.2.2.2.2.2.2.2.2.2.2.2.2.2.2.1 m.2.2.2.2.2.2.2.2.2.2.2.2.2.2.2.2.2.2.2.2.2.2 (by unfold maxLen; omega) hK
theorem F28_m (K : Nat) (m : MT) (h : m.2.2.2.2.2.2.2.2.2.2.2.2.2.2.2.2.2.2.2.2.2.1.length ≤ 1048576) (hK : m.2.2.2.2.2.2.2.2.2.2.2.2.2.2.2.2.2.2.2.2.2.1.length + 8 < K) : F28 K m = some m :=
  F28_eq K m.1 m.2.1 m.2.2.1 m.2.2.2.1 m.2.2.2.2.1 m.2.2.2.2.2.1 m.2.2.2.2.2.2.1 m.2.2.2.2.2.2.2.1 m.2.2.2.2.2.2.2.2.1 m.2.2.2.2.2.2.2.2.2.1 m.2.2.2.2.2.2.2.2.2.2.1 m.2.2.2.2.2.2.2.2.2.2.2.1 m.2.2.2.2.2.2.2.2.2.2.2.2.1 m.2.2.2.2.2.2.2.2.2.2.2.2.2.1 m.2.2.2.2.2.2.2.2.2.2.2.2.2.2.1 m.2.2.2.2.2.2.2.2.2.2.2.2.2.2.2.1 m.2.2.2.2.2.2.2.2.2.2.2.2.2.2.2.2.1 m.2.2.2.2.2.2.2.2.2.2.2.2.2.2.2.2.2.1 m.2.2.2.2.2.2.2.2.2.2.2.2.2.2.2.2.2.2.1 m.2.2.2.2.2.2.2.2.2.2.2.2.2.2.2.2.2.2.2.1 m.2.2.2.2.2.2.2.2.2.2.2.2.2.2.2.2.2.2.2.2.1 m.2.2.2.2.2.2.2.2.2.2.2.2.2.2.2.2.2.2.2.2.2.1 m.2.2.2.2.2.2.2.2.2.2.2.2.2.2.2.2.2.2.2.2.2.2 h hK
theorem F28o_m (K : Nat) (m : MT) (h : m.2.2.2.2.2.2.2.2.2.2.2.2.2.2.2.2.2.2.2.2.2.1.length ≤ 1048576) (hK : m.2.2.2.2.2.2.2.2.2.2.2.2.2.2.2.2.2.2.2.2.2.1.length + 8 < K) : F28o K m = some (ofO m) :=
  F28o_eq K m.1 m.2.1 m.2.2.1 m.2.2.2.1 m.2.2.2.2.1 m.2.2.2.2.2.1 m.2.2.2.2.2.2.1 m.2.2.2.2.2.2.2.1 m.2.2.2.2.2.2.2.2.1 m.2.2.2.2.2.2.2.2.2.1 m.2.2.2.2.2.2.2.2.2.2.1 m.2.2.2.2.2.2.2.2.2.2.2.1 m.2.2.2.2.2.2.2.2.2.2.2.2.1 m.2.2.2.2.2.2.2.2.2.2.2.2.2.1 m.2.2.2.2.2.2.2.2.2.2.2.2.2.2.1 m.2.2.2.2.2.2.2.2.2.2.2.2.2.2.2.1 m.2.2.2.2.2.2.2.2.2.2.2.2.2.2.2.2.1 m.2.2.2.2.2.2.2.2.2.2.2.2.2.2.2.2.2.1 m.2.2.2.2.2.2.2.2.2.2.2.2.2.2.2.2.2.2.1 m.2.2.2.2.2.2.2.2.2.2.2.2.2.2.2.2.2.2.2.1 m.2.2.2.2.2.2.2.2.2.2.2.2.2.2.2.2.2.2.2.2.1 m.2.2.2.2.2.2.2.2.2.2.2.2.2.2.2.2.2.2.2.2.2.1 m.2.2.2.2.2.2.2.2.2.2.2.2.2.2.2.2.2.2.2.2.2.2 h hK
theorem F33_m (K : Nat) (m : MT) (h : Sm m) (hK : m.2.2.2.2.2.2.2.2.2.2.2.2.2.2.2.2.2.2.2.2.2.1.length + 8 < K) : ∃ b, F33 K m = some b ∧ F32 K m = some b ∧ (b = true → WInv m.w) := by
  have h1 := h.rom
  have h2 : m.2.2.2.2.2.2.2.2.2.2.2.2.2.2.2.2.2.2.2.2.2.1.length ≤ maxLen := by have := h.out; unfold maxLen; omega
  refine ⟨_, F33_eq K m.1 m.2.1 m.2.2.1 m.2.2.2.1 m.2.2.2.2.1 m.2.2.2.2.2.1 m.2.2.2.2.2.2.1 m.2.2.2.2.2.2.2.1 m.2.2.2.2.2.2.2.2.1 m.2.2.2.2.2.2.2.2.2.1 m.2.2.2.2.2.2.2.2.2.2.1 m.2.2.2.2.2.2.2.2.2.2.2.1 m.2.2.2.2.2.2.2.2.2.2.2.2.1 m.2.2.2.2.2.2.2.2.2.2.2.2.2.1 m.2.2.2.2.2.2.2.2.2.2.2.2.2.2.1 m.2.2.2.2.2.2.2.2.2.2.2.2.2.2.2.1 m.2.2.2.2.2.2.2.2.2.2.2.2.2.2.2.2.1 m.2.2.2.2.2.2.2.2.2.2.2.2.2.2.2.2.2.1 m.2.2.2.2.2.2.2.2.2.2.2.2.2.2.2.2.2.2.1 m.2.2.2.2.2.2.2.2.2.2.2.2.2.2.2.2.2.2.2.1 m.2.2.2.2.2.2.2.2.2.2.2.2.2.2.2.2.2.2.2.2.1 m.2.2.2.2.2.2.2.2.2.2.2.2.2.2.2.2.2.2.2.2.2.1 m.2.2.2.2.2.2.2.2.2.2.2.2.2.2.2.2.2.2.2.2.2.2 h1 h2 hK, F32_eq K m.1 m.2.1 m.2.2.1 m.2.2.2.1 m.2.2.2.2.1 m.2.2.2.2.2.1 m.2.2.2.2.2.2.1 m.2.2.2.2.2.2.2.1 m.2.2.2.2.2.2.2.2.1 m.2.2.2.2.2.2.2.2.2.1 m.2.2.2.2.2.2.2.2.2.2.1 m.2.2.2.2.2.2.2.2.2.2.2.1 m.2.2.2.2.2.2.2.2.2.2.2.2.1 m.2.2.2.2.2.2.2.2.2.2.2.2.2.1 m.2.2.2.2.2.2.2.2.2.2.2.2.2.2.1 m.2.2.2.2.2.2.2.2.2.2.2.2.2.2.2.1 m.2.2.2.2.2.2.2.2.2.2.2.2.2.2.2.2.1 m.2.2.2.2.2.2.2.2.2.2.2.2.2.2.2.2.2.1 m.2.2.2.2.2.2.2.2.2.2.2.2.2.2.2.2.2.2.1 m.2.2.2.2.2.2.2.2.2.2.2.2.2.2.2.2.2.2.2.1 m.2.2.2.2.2.2.2.2.2.2.2.2.2.2.2.2.2.2.2.2.1 m.2.2.2.2.2.2.2.2.2.2.2.2.2.2.2.2.2.2.2.2.2.1 m.2.2.2.2.2.2.2.2.2.2.2.2.2.2.2.2.2.2.2.2.2.2 h1 h2 hK, fun e => WInv.of e false⟩
theorem F61o_m (K : Nat) (m : MT) (h : m.2.2.2.2.2.2.2.2.2.2.2.2.2.2.2.2.2.2.2.2.2.1.length ≤ 100) : F61o K m = some (ofO m) := by
  have e1 : F111 K m.2.2.2.2.2.2.2.2.2.2.2.2.2.2.2.2.2.2.2.2.2.1 = some m.2.2.2.2.2.2.2.2.2.2.2.2.2.2.2.2.2.2.2.2.2.1 := by
    unfold F111 cloneF
    exact guard_dec (by omega)
  unfold F61o
  rw [e1]
  rfl
def mOf (r : Int × Int × Int × Int × Int × Int × Int × Int × Int × Int × Bool × Bool × (List UInt8) × Int × Int × (List UInt8) × Int × Bool × Int × (List UInt8) × (List UInt8) × (List Int) × Int × Int) : MT := (r.1, r.2.1, r.2.2.1, r.2.2.2.1, r.2.2.2.2.1, r.2.2.2.2.2.1, r.2.2.2.2.2.2.1, r.2.2.2.2.2.2.2.1, r.2.2.2.2.2.2.2.2.1, r.2.2.2.2.2.2.2.2.2.1, r.2.2.2.2.2.2.2.2.2.2.1, r.2.2.2.2.2.2.2.2.2.2.2.1, r.2.2.2.2.2.2.2.2.2.2.2.2.1, r.2.2.2.2.2.2.2.2.2.2.2.2.2.1, r.2.2.2.2.2.2.2.2.2.2.2.2.2.2.1, r.2.2.2.2.2.2.2.2.2.2.2.2.2.2.2.1, r.2.2.2.2.2.2.2.2.2.2.2.2.2.2.2.2.1, r.2.2.2.2.2.2.2.2.2.2.2.2.2.2.2.2.2.1, r.2.2.2.2.2.2.2.2.2.2.2.2.2.2.2.2.2.2.1, r.2.2.2.2.2.2.2.2.2.2.2.2.2.2.2.2.2.2.2.1, r.2.2.2.2.2.2.2.2.2.2.2.2.2.2.2.2.2.2.2.2.1, r.2.2.2.2.2.2.2.2.2.2.2.2.2.2.2.2.2.2.2.2.2.1, r.2.2.2.2.2.2.2.2.2.2.2.2.2.2.2.2.2.2.2.2.2.2.1)
theorem F30_m (K : Nat) (m : MT) (k : Int) (xs : List Int) (hk : 0 ≤ k ∧ k ≤ 1048576) (hl : xs.length ≤ 1048576) (hK : xs.length < K) :
    F30 K (m.1, m.2.1, m.2.2.1, m.2.2.2.1, m.2.2.2.2.1, m.2.2.2.2.2.1, m.2.2.2.2.2.2.1, m.2.2.2.2.2.2.2.1, m.2.2.2.2.2.2.2.2.1, m.2.2.2.2.2.2.2.2.2.1, m.2.2.2.2.2.2.2.2.2.2.1, m.2.2.2.2.2.2.2.2.2.2.2.1, m.2.2.2.2.2.2.2.2.2.2.2.2.1, m.2.2.2.2.2.2.2.2.2.2.2.2.2.1, m.2.2.2.2.2.2.2.2.2.2.2.2.2.2.1, m.2.2.2.2.2.2.2.2.2.2.2.2.2.2.2.1, m.2.2.2.2.2.2.2.2.2.2.2.2.2.2.2.2.1, m.2.2.2.2.2.2.2.2.2.2.2.2.2.2.2.2.2.1, m.2.2.2.2.2.2.2.2.2.2.2.2.2.2.2.2.2.2.1, m.2.2.2.2.2.2.2.2.2.2.2.2.2.2.2.2.2.2.2.1, m.2.2.2.2.2.2.2.2.2.2.2.2.2.2.2.2.2.2.2.2.1, m.2.2.2.2.2.2.2.2.2.2.2.2.2.2.2.2.2.2.2.2.2.2, k, xs) = some (k + (xs.length : Int), marks k xs.length) := by
  unfold F30
  refine (congrArg (fun z => bindO z _) (F78_eq K xs k hk hl hK)).trans ?_
  rfl
theorem F31_m (K : Nat) (m : MT) (k : Int) (n : Nat) (hk : 0 ≤ k ∧ k ≤ 1048576) (hn : n ≤ 1048576) (hK : n < K) :
    F31 K (m.1, m.2.1, m.2.2.1, m.2.2.2.1, m.2.2.2.2.1, m.2.2.2.2.2.1, m.2.2.2.2.2.2.1, m.2.2.2.2.2.2.2.1, m.2.2.2.2.2.2.2.2.1, m.2.2.2.2.2.2.2.2.2.1, m.2.2.2.2.2.2.2.2.2.2.1, m.2.2.2.2.2.2.2.2.2.2.2.1, m.2.2.2.2.2.2.2.2.2.2.2.2.1, m.2.2.2.2.2.2.2.2.2.2.2.2.2.1, m.2.2.2.2.2.2.2.2.2.2.2.2.2.2.1, m.2.2.2.2.2.2.2.2.2.2.2.2.2.2.2.1, m.2.2.2.2.2.2.2.2.2.2.2.2.2.2.2.2.1, m.2.2.2.2.2.2.2.2.2.2.2.2.2.2.2.2.2.1, m.2.2.2.2.2.2.2.2.2.2.2.2.2.2.2.2.2.2.1, m.2.2.2.2.2.2.2.2.2.2.2.2.2.2.2.2.2.2.2.1, m.2.2.2.2.2.2.2.2.2.2.2.2.2.2.2.2.2.2.2.2.1, marks k n, m.2.2.2.2.2.2.2.2.2.2.2.2.2.2.2.2.2.2.2.2.2.2, k) = some (k + (n : Int)) := by
  unfold F31
  refine (congrArg (fun z => bindO z _) (F79_eq K n k hk hn hK)).trans ?_
  show branch (decide (k + (n : Int) < 0)) _ _ = _
  rw [decide_eq_false (by omega)]
  rfl
theorem ff {c : Int} (g : (!(decide (c = c))) = true) : False := by rw [decide_eq_true rfl] at g; cases g
def Z : MT := (0, 0, 0, 0, 0, 0, 0, 0, 0, 0, false, false, [], 0, 0, [], 0, false, 0, [], [], [], 0)
end Go.U.Tryz
namespace Go.U.Tryz
open Go Go.U
set_option linter.unusedVariables false
set_option linter.unusedSimpArgs false
set_option maxRecDepth 20000
theorem F131_eq (K : Nat) (rom : List UInt8) (k1 k2 : Int) (ram : List UInt8) (k3 : Int) (kb : Bool) (k4 : Int) (hr : rom.length ≤ maxLen) (h : cartOk rom k1 k2 ram k3 kb k4 = true) : F131 K (rom, k1, k2, ram, k3, kb, k4) = some (Int.tmod k2 (banks rom)) := by
  have hb : ¬ banks rom = 0 := fun e => by simp [cartOk, e] at h
  simp only [F131, F86_eq K rom k1 k2 ram k3 kb k4 hr, h, bindO_s, Bool.not_true, branch_f, F127_eq K rom hr, decide_eq_false hb, Bool.not_false, guard_t]
theorem F130_eq (K : Nat) (rom : List UInt8) (k1 k2 : Int) (ram : List UInt8) (k3 : Int) (kb : Bool) (k4 : Int) (hr : rom.length ≤ maxLen) (h : cartOk rom k1 k2 ram k3 kb k4 = true) : F130 K (rom, k1, k2, ram, k3, kb, k4) = some (Int.tmod k2 (banks rom)) := by
  have hb : ¬ banks rom = 0 := fun e => by simp [cartOk, e] at h
  have e : banks rom = ((rom.length / 256 : Nat) : Int) := by unfold banks at hb ⊢; split <;> simp_all
  rw [e] at hb ⊢
  simp only [F130, w64_len hr, decide_eq_false hb, Bool.not_false, guard_t]
end Go.U.Tryz
namespace Go.U.Tryz
open Go Go.U
set_option linter.unusedVariables false
set_option linter.unusedSimpArgs false
set_option maxRecDepth 20000
def hitB (xs : List (Int × Int)) (v : Int × Int) : Bool := xs.any fun s => decide (s.1 = v.1) && decide (s.2 = v.2)
def misses (v s : Int × Int) : Bool := !(decide (s.1 = v.1) && decide (s.2 = v.2))
theorem hit_all (xs : List (Int × Int)) (v : Int × Int) : xs.all (misses v) = !hitB xs v := by
  induction xs with
  | nil => rfl
  | cons s xs ih =>
    simp only [List.all_cons, ih, hitB, List.any_cons, Bool.not_or, misses]
theorem at_both (K : Nat) (m : MT) (h : WInv m.w) : ∃ v, F94 K m = some v ∧ F93 K m = some v := by
  have hc : CInv m.2.2.2.2.2.2.2.2.2.2.2.2.1 m.2.2.2.2.2.2.2.2.2.2.2.2.2.1 m.2.2.2.2.2.2.2.2.2.2.2.2.2.2.1 m.2.2.2.2.2.2.2.2.2.2.2.2.2.2.2.1 m.2.2.2.2.2.2.2.2.2.2.2.2.2.2.2.2.1 m.2.2.2.2.2.2.2.2.2.2.2.2.2.2.2.2.2.1 m.2.2.2.2.2.2.2.2.2.2.2.2.2.2.2.2.2.2.1 := h.cart
  have hr : m.2.2.2.2.2.2.2.2.2.2.2.2.1.length ≤ maxLen := by have := hc.hrom; unfold maxLen; omega
  have e1 := F131_eq K m.2.2.2.2.2.2.2.2.2.2.2.2.1 m.2.2.2.2.2.2.2.2.2.2.2.2.2.1 m.2.2.2.2.2.2.2.2.2.2.2.2.2.2.1 m.2.2.2.2.2.2.2.2.2.2.2.2.2.2.2.1 m.2.2.2.2.2.2.2.2.2.2.2.2.2.2.2.2.1 m.2.2.2.2.2.2.2.2.2.2.2.2.2.2.2.2.2.1 m.2.2.2.2.2.2.2.2.2.2.2.2.2.2.2.2.2.2.1 hr hc.ok
  have e2 := F130_eq K m.2.2.2.2.2.2.2.2.2.2.2.2.1 m.2.2.2.2.2.2.2.2.2.2.2.2.2.1 m.2.2.2.2.2.2.2.2.2.2.2.2.2.2.1 m.2.2.2.2.2.2.2.2.2.2.2.2.2.2.2.1 m.2.2.2.2.2.2.2.2.2.2.2.2.2.2.2.2.1 m.2.2.2.2.2.2.2.2.2.2.2.2.2.2.2.2.2.1 m.2.2.2.2.2.2.2.2.2.2.2.2.2.2.2.2.2.2.1 hr hc.ok
  unfold F94 F93
  cases decide (m.2.2.2.2.2.2.2.2.2.1 < 256) with
  | true => exact ⟨_, rfl, rfl⟩
  | false =>
    cases decide (m.2.2.2.2.2.2.2.2.2.1 < 512) with
    | true => simp only [branch_f, branch_t]; rw [e1, e2]; exact ⟨_, rfl, rfl⟩
    | false => exact ⟨_, rfl, rfl⟩
theorem F92_eq (K : Nat) (xs : List (Int × Int)) (v : Int × Int) (hl : xs.length ≤ 1000) (hK : xs.length < K) : F92 K (xs, v) = some (hitB xs v) := by
  obtain ⟨b, h1, h2⟩ := iter_inv (f := F129_b0 K) (fun a => ∃ i : Nat, a = (xs, (xs.length : Int), (i : Int), v) ∧ i ≤ xs.length ∧ (xs.take i).all (misses v) = true) (fun a => xs.length - a.2.2.1.toNat) (fun b => (b = .inr () ∧ hitB xs v = false) ∨ ∃ i : Nat, b = .inl (i : Int) ∧ hitB xs v = true) (fun a ⟨i, g0, g1, g2⟩ => by
    subst g0
    by_cases g : i < xs.length
    · have c : ((i : Int) < (xs.length : Int)) := by omega
      have ei : w64 ((i : Int) + 1) = ((i + 1 : Nat) : Int) := by rw [w64_id (by omega) (by omega)]; omega
      have e4 : xs[i]? = some xs[i] := List.getElem?_eq_getElem g
      have es : (decide (v.1 = xs[i].1) && decide (v.2 = xs[i].2)) = !misses v xs[i] := by
        rw [misses, Bool.not_not]
        congr 1 <;> exact decide_eq_decide.2 eq_comm
      have et : xs.take (i + 1) = xs.take i ++ [xs[i]] := by rw [List.take_add_one, e4]; rfl
      cases hm : misses v xs[i] with
      | true =>
        refine .inl ⟨(xs, (xs.length : Int), ((i + 1 : Nat) : Int), v), ?_, ⟨i + 1, rfl, by omega, ?_⟩, by simp only [Int.toNat_natCast]; omega⟩
        · simp only [F129_b0, branch_ite, if_pos c, nth_s e4, es, hm, Bool.not_true, branch_f, ei]
        · rw [et, List.all_append, g2]; simp [hm]
      | false =>
        refine .inr ⟨.inl (i : Int), ?_, .inr ⟨i, rfl, ?_⟩⟩
        · simp only [F129_b0, branch_ite, if_pos c, nth_s e4, es, hm, Bool.not_false, branch_t]
        · have := hit_all xs v
          cases hh : hitB xs v with
          | true => rfl
          | false =>
            rw [hh] at this
            have := List.all_eq_true.1 this xs[i] (List.getElem_mem g)
            rw [hm] at this; cases this
    · have c : ¬ ((i : Int) < (xs.length : Int)) := by omega
      refine .inr ⟨.inr (), by simp only [F129_b0, branch_ite, if_neg c], .inl ⟨rfl, ?_⟩⟩
      have hi : i = xs.length := by omega
      subst hi
      rw [List.take_length, hit_all] at g2
      simpa using g2) K (xs, (xs.length : Int), 0, v) ⟨0, rfl, Nat.zero_le _, by simp⟩ (by simp; omega)
  unfold F92 F129
  rcases h2 with ⟨rfl, e⟩ | ⟨i, rfl, e⟩
  · rw [e]
    refine (congrArg (fun z => bindO (bindO z _) _) h1).trans rfl
  · rw [e]
    refine (congrArg (fun z => bindO (bindO z _) _) h1).trans ?_
    show some (decide (0 ≤ (i : Int))) = _
    rw [decide_eq_true (by omega)]
theorem F91_eq (K : Nat) (m : MT) (xs : List (Int × Int)) (v : Int × Int) (e : F93 K m = some v) (hl : xs.length ≤ 1000) (hK : xs.length < K) : F91 K (cat m xs) = some (hitB xs v, xs) := by
  unfold F91
  refine (congrArg (fun z => bindO z _) e).trans ?_
  simp only [bindO_s]
  refine (congrArg (fun z => bindO z _) (F92_eq K xs v hl hK)).trans ?_
  rfl
theorem b1_eq (K : Nat) (xs : List (Int × Int)) (n i : Int) (m x : MT) (v : Int × Int) (e : F94 K m = some v) (hl : xs.length ≤ 1000) (hK : xs.length < K) :
    iter K (F38_b1 K) (xs, n, i, 0, cat m x) = some (cond (hitB xs v) (.inl (cat m (0, w64 (i + 1)))) (.inr (xs, n, i, cat m x))) := by
  have h := loop_all (f := F38_b1 K) (fun j => (xs, n, i, (j : Int), cat m x)) xs (misses v) (.inl (cat m (0, w64 (i + 1)))) (.inr (xs, n, i, cat m x)) (fun j s hs hj => by
    have c : ((j : Int) < (xs.length : Int)) := by omega
    have ej : w64 ((j : Int) + 1) = ((j + 1 : Nat) : Int) := by rw [w64_id (by omega) (by omega)]; omega
    have es : (decide (s.1 = v.1) && decide (s.2 = v.2)) = !misses v s := by rw [misses, Bool.not_not]
    show branch (decide ((j : Int) < (xs.length : Int))) (nth xs (j : Int) fun v0 => bindO (F94 K m) fun v1 => branch ((decide (v0.1 = v1.1)) && (decide (v0.2 = v1.2))) (some (Sum.inr (Sum.inl (cat m (0, w64 (i + 1)))))) (some (Sum.inl (xs, n, i, w64 ((j : Int) + 1), cat m x)))) _ = _
    rw [decide_eq_true c, branch_t, nth_s hs, e, bindO_s, es, ej]
    cases misses v s <;> rfl) (by
    show branch (decide ((xs.length : Int) < (xs.length : Int))) _ _ = _
    rw [decide_eq_false (by omega)]; rfl) K hK
  rw [hit_all] at h
  refine h.trans ?_
  cases hitB xs v <;> rfl
abbrev zst2 (n c i : Int) (m : MT) (xs : List (Int × Int)) : Int × Int × Int × Int × Int × Int × Int × Int × Int × Int × Int × Int × Int × Bool × Bool × (List UInt8) × Int × Int × (List UInt8) × Int × Bool × Int × (List UInt8) × (List UInt8) × (List Int) × Int × Int × Int × Int × Int × Int × Int × Int × Int × Int × Int × Bool × Bool × (List UInt8) × Int × Int × (List UInt8) × Int × Bool × Int × (List UInt8) × (List UInt8) × (List Int) × Int × List (Int × Int) := (n, c, i, 0, 0, 0, 0, 0, 0, 0, 0, 0, 0, false, false, [], 0, 0, [], 0, false, 0, [], [], [], 0, m.1, m.2.1, m.2.2.1, m.2.2.2.1, m.2.2.2.2.1, m.2.2.2.2.2.1, m.2.2.2.2.2.2.1, m.2.2.2.2.2.2.2.1, m.2.2.2.2.2.2.2.2.1, m.2.2.2.2.2.2.2.2.2.1, m.2.2.2.2.2.2.2.2.2.2.1, m.2.2.2.2.2.2.2.2.2.2.2.1, m.2.2.2.2.2.2.2.2.2.2.2.2.1, m.2.2.2.2.2.2.2.2.2.2.2.2.2.1, m.2.2.2.2.2.2.2.2.2.2.2.2.2.2.1, m.2.2.2.2.2.2.2.2.2.2.2.2.2.2.2.1, m.2.2.2.2.2.2.2.2.2.2.2.2.2.2.2.2.1, m.2.2.2.2.2.2.2.2.2.2.2.2.2.2.2.2.2.1, m.2.2.2.2.2.2.2.2.2.2.2.2.2.2.2.2.2.2.1, m.2.2.2.2.2.2.2.2.2.2.2.2.2.2.2.2.2.2.2.1, m.2.2.2.2.2.2.2.2.2.2.2.2.2.2.2.2.2.2.2.2.1, m.2.2.2.2.2.2.2.2.2.2.2.2.2.2.2.2.2.2.2.2.2.1, m.2.2.2.2.2.2.2.2.2.2.2.2.2.2.2.2.2.2.2.2.2.2, xs)
abbrev zrs2 (c i : Int) (m : MT) (xs : List (Int × Int)) : Int × Int × Int × Int × Int × Int × Int × Int × Int × Int × Int × Int × Bool × Bool × (List UInt8) × Int × Int × (List UInt8) × Int × Bool × Int × (List UInt8) × (List UInt8) × (List Int) × Int × Int × Int × Int × Int × Int × Int × Int × Int × Int × Int × Bool × Bool × (List UInt8) × Int × Int × (List UInt8) × Int × Bool × Int × (List UInt8) × (List UInt8) × (List Int) × Int × List (Int × Int) := (c, i, 0, 0, 0, 0, 0, 0, 0, 0, 0, 0, false, false, [], 0, 0, [], 0, false, 0, [], [], [], 0, m.1, m.2.1, m.2.2.1, m.2.2.2.1, m.2.2.2.2.1, m.2.2.2.2.2.1, m.2.2.2.2.2.2.1, m.2.2.2.2.2.2.2.1, m.2.2.2.2.2.2.2.2.1, m.2.2.2.2.2.2.2.2.2.1, m.2.2.2.2.2.2.2.2.2.2.1, m.2.2.2.2.2.2.2.2.2.2.2.1, m.2.2.2.2.2.2.2.2.2.2.2.2.1, m.2.2.2.2.2.2.2.2.2.2.2.2.2.1, m.2.2.2.2.2.2.2.2.2.2.2.2.2.2.1, m.2.2.2.2.2.2.2.2.2.2.2.2.2.2.2.1, m.2.2.2.2.2.2.2.2.2.2.2.2.2.2.2.2.1, m.2.2.2.2.2.2.2.2.2.2.2.2.2.2.2.2.2.1, m.2.2.2.2.2.2.2.2.2.2.2.2.2.2.2.2.2.2.1, m.2.2.2.2.2.2.2.2.2.2.2.2.2.2.2.2.2.2.2.1, m.2.2.2.2.2.2.2.2.2.2.2.2.2.2.2.2.2.2.2.2.1, m.2.2.2.2.2.2.2.2.2.2.2.2.2.2.2.2.2.2.2.2.2.1, m.2.2.2.2.2.2.2.2.2.2.2.2.2.2.2.2.2.2.2.2.2.2, xs)
theorem to_loop (k : Nat) (n : Int) (xs : List (Int × Int)) (x : MT) (hn : n ≤ 500) (hl : xs.length ≤ 1000) (hK : xs.length < k + 40) : ∀ (j : Nat) (N : Nat) (i : Int) (m : MT), 0 ≤ i → n - i = (j : Int) → WInv m.w → j < N →
    ∃ (m' : MT) (c cnt : Int), iter N (F55s_b0 (k + 40)) (zst2 n 0 i m xs) = some (zrs2 c cnt m' xs) ∧
      (iter N (F38_b0 (k + 40)) (xs, n, i, cat m x) = some (.inl (cat m' (c, cnt))) ∨ (iter N (F38_b0 (k + 40)) (xs, n, i, cat m x) = some (.inr (n, cat m' x)) ∧ c = 0 ∧ cnt = n)) ∧ m'.2.2.2.2.2.2.2.2.2.2.2.2.2.2.2.2.2.2.2.2.2.1.length ≤ 100
  | j, 0, i, m, h0, hj, hw, hN => absurd hN (Nat.not_lt_zero _)
  | 0, N + 1, i, m, h0, hj, hw, hN => by
    have g : ¬ i < n := by omega
    refine ⟨m, 0, i, iter_end ?_, .inr ⟨iter_end ?_, rfl, by omega⟩, hw.out.2⟩
    · show branch (decide (i < n)) _ _ = _
      rw [decide_eq_false g]; rfl
    · show branch (decide (i < n)) _ _ = _
      rw [decide_eq_false g]; rfl
  | j + 1, N + 1, i, m, h0, hj, hw, hN => by
    have g : i < n := by omega
    obtain ⟨v, e1, e2⟩ := F62_t k m hw
    have e3 : F60 (k + 40) m = some v := (step_eq k m.w hw).trans e1
    have ei : w64 (i + 1) = i + 1 := w64_id (by omega) (by omega)
    by_cases hc : v.2.2.2.2.2.2.2.2.2.2.2.2.2.2.2.2.2.2.2.2.2.2.2 = 0
    · have hw' : WInv (mOf v).w := e2.1
      obtain ⟨a, a1, a2⟩ := at_both (k + 40) (mOf v) hw'
      have p1 : F55s_b0 (k + 40) (zst2 n 0 i m xs) = some (cond (hitB xs a) (.inr (zrs2 0 (i + 1) (mOf v) xs)) (.inl (zst2 n 0 (i + 1) (mOf v) xs))) := by
        show branch (decide (i < n)) (bindO (F60 (k + 40) m) _) _ = _
        rw [decide_eq_true g, e3, branch_t]
        show branch (!(decide (v.2.2.2.2.2.2.2.2.2.2.2.2.2.2.2.2.2.2.2.2.2.2.2 = 0))) _ (bindO (F91 (k + 40) (cat (mOf v) xs)) fun v1 => branch v1.1 (some (Sum.inr (zrs2 v.2.2.2.2.2.2.2.2.2.2.2.2.2.2.2.2.2.2.2.2.2.2.2 (w64 (i + 1)) (mOf v) v1.2))) (some (Sum.inl (zst2 n v.2.2.2.2.2.2.2.2.2.2.2.2.2.2.2.2.2.2.2.2.2.2.2 (w64 (i + 1)) (mOf v) v1.2)))) = _
        rw [decide_eq_true hc, Bool.not_true, branch_f]
        refine (congrArg (fun z => bindO z _) (F91_eq (k + 40) (mOf v) xs a a2 hl hK)).trans ?_
        simp only [bindO_s]
        rw [hc, ei]
        cases hitB xs a <;> rfl
      have p2 : F38_b0 (k + 40) (xs, n, i, cat m x) = some (cond (hitB xs a) (.inr (.inl (cat (mOf v) (0, i + 1)))) (.inl (xs, n, i + 1, cat (mOf v) x))) := by
        show branch (decide (i < n)) (bindO (F62 (k + 40) m) _) _ = _
        rw [decide_eq_true g, e1, branch_t]
        show branch (!(decide (v.2.2.2.2.2.2.2.2.2.2.2.2.2.2.2.2.2.2.2.2.2.2.2 = 0))) _ (bindO (iter (k + 40) (F38_b1 (k + 40)) (xs, n, i, 0, cat (mOf v) x)) fun v1 => csO v1 (fun v2 => some (Sum.inr (Sum.inl v2))) (fun v3 => some (Sum.inl (v3.1, v3.2.1, w64 (v3.2.2.1 + 1), v3.2.2.2)))) = _
        rw [decide_eq_true hc, Bool.not_true, branch_f]
        refine (congrArg (fun z => bindO z _) (b1_eq (k + 40) xs n i (mOf v) x a a1 hl hK)).trans ?_
        simp only [bindO_s]
        rw [ei]
        cases hitB xs a with
        | true => rfl
        | false =>
          show some (Sum.inl (xs, n, w64 (i + 1), cat (mOf v) x)) = _
          rw [ei]; rfl
      cases hh : hitB xs a with
      | true =>
        rw [hh] at p1 p2
        exact ⟨mOf v, 0, i + 1, iter_end p1, .inl (iter_end p2), hw'.out.2⟩
      | false =>
        rw [hh] at p1 p2
        obtain ⟨m', c, cnt, q1, q2, q4⟩ := to_loop k n xs x hn hl hK j N (i + 1) (mOf v) (by omega) (by omega) hw' (by omega)
        refine ⟨m', c, cnt, (iter_go p1).trans q1, ?_, q4⟩
        rcases q2 with q2 | ⟨q2, q3⟩
        · exact .inl ((iter_go p2).trans q2)
        · exact .inr ⟨(iter_go p2).trans q2, q3⟩
    · refine ⟨m, v.2.2.2.2.2.2.2.2.2.2.2.2.2.2.2.2.2.2.2.2.2.2.2, i, iter_end ?_, .inl (iter_end ?_), hw.out.2⟩
      · show branch (decide (i < n)) (bindO (F60 (k + 40) m) _) _ = _
        rw [decide_eq_true g, e3, branch_t]
        show branch (!(decide (v.2.2.2.2.2.2.2.2.2.2.2.2.2.2.2.2.2.2.2.2.2.2.2 = 0))) _ _ = _
        rw [decide_eq_false hc]
        rfl
      · show branch (decide (i < n)) (bindO (F62 (k + 40) m) _) _ = _
        rw [decide_eq_true g, e1, branch_t]
        show branch (!(decide (v.2.2.2.2.2.2.2.2.2.2.2.2.2.2.2.2.2.2.2.2.2.2.2 = 0))) _ _ = _
        rw [decide_eq_false hc]
        rfl
theorem to_both (k : Nat) (m : MT) (xs : List (Int × Int)) (n : Int) (h : Sm m) (hK : m.2.2.2.2.2.2.2.2.2.2.2.2.2.2.2.2.2.2.2.2.2.1.length + 8 < k + 600 + 40) : ∃ (m' : MT) (c cnt : Int),
    F38 (k + 600 + 40) (cat m (xs, n)) = some (cat m' (c, cnt)) ∧ F37 (k + 600 + 40) (cat m (xs, n)) = some (ocat m' (c, cnt, outM m')) ∧ m'.2.2.2.2.2.2.2.2.2.2.2.2.2.2.2.2.2.2.2.2.2.1.length ≤ 100 := by
  obtain ⟨b, e1, e2, e3⟩ := F33_m (k + 600 + 40) m h hK
  have bad : ∀ {P : Prop}, (T (F38 (k + 600 + 40) (cat m (xs, n))) (fun r => r = (0, 0, 0, 0, 0, 0, 0, 0, 0, 0, false, false, [], 0, 0, [], 0, false, 0, [], [], [], 0, 3, 0))) → (T (F37 (k + 600 + 40) (cat m (xs, n))) (fun r => r = (0, 0, 0, 0, 0, 0, 0, 0, 0, 0, false, false, [], 0, 0, [], 0, false, 0, [], [], 0, 3, 0, []))) → ∃ (m' : MT) (c cnt : Int),
    F38 (k + 600 + 40) (cat m (xs, n)) = some (cat m' (c, cnt)) ∧ F37 (k + 600 + 40) (cat m (xs, n)) = some (ocat m' (c, cnt, outM m')) ∧ m'.2.2.2.2.2.2.2.2.2.2.2.2.2.2.2.2.2.2.2.2.2.1.length ≤ 100 := by
    rintro - ⟨r1, q1, rfl⟩ ⟨r2, q2, rfl⟩
    exact ⟨Z, 3, 0, q1, q2, by simp [Z]⟩
  cases b with
  | false =>
    refine bad (P := True) ?_ ?_
    · unfold F38
      exact T.bindbind (T.bindbind (T.eq e1 (T.bindbr (fun _ => T.binds (T.bindbr (fun _ => T.binds (T.csl (T.ret rfl))) nofun)) nofun)))
    · unfold F37
      exact T.bindbind (T.bindbind (T.eq e2 (T.bindbr (fun _ => T.binds (T.bindbr (fun _ => T.binds (T.csl (T.ret rfl))) nofun)) nofun)))
  | true =>
    have hw := e3 rfl
    have a1 := F87_in (k + 600 + 40) n 0 500
    have a2 := F54_in (k + 600 + 40) n 0 500
    by_cases hl : 20 < (xs.length : Int)
    · refine bad (P := True) ?_ ?_
      · unfold F38
        exact T.bindbind (T.bindbind (T.eq e1 (T.bindbr nofun fun _ => T.bindbr (fun _ => T.binds (T.bindbr (fun _ => T.binds (T.csl (T.ret rfl))) nofun)) fun g => absurd hl (of_decide_eq_false g))))
      · unfold F37
        refine T.bindbind (T.bindbind (T.eq e2 (T.bindbr nofun fun _ => T.bindbind (T.eq a2 ?_))))
        cases inR n 0 500 with
        | false => exact T.bindbr (fun _ => T.binds (T.bindbr (fun _ => T.binds (T.csl (T.ret rfl))) nofun)) nofun
        | true => exact T.bindbr nofun fun _ => T.binds (T.bindbr (fun _ => T.binds (T.csl (T.ret rfl))) fun g => absurd hl (of_decide_eq_false g))
    · cases hr : inR n 0 500 with
      | false =>
        rw [hr] at a1 a2
        refine bad (P := True) ?_ ?_
        · unfold F38
          exact T.bindbind (T.bindbind (T.eq e1 (T.bindbr nofun fun _ => T.bindbr (fun g => absurd (of_decide_eq_true g) hl) fun _ => T.bindbind (T.eq a1 (T.binds (T.bindbr (fun _ => T.binds (T.csl (T.ret rfl))) nofun))))))
        · unfold F37
          exact T.bindbind (T.bindbind (T.eq e2 (T.bindbr nofun fun _ => T.bindbind (T.eq a2 (T.bindbr (fun _ => T.binds (T.bindbr (fun _ => T.binds (T.csl (T.ret rfl))) nofun)) nofun)))))
      | true =>
        rw [hr] at a1 a2
        have hn : 0 ≤ n ∧ n ≤ 500 := of_decide_eq_true hr
        have o1 : F89 (k + 600 + 40) m = some m := F89_eq (k + 600 + 40) m hw.out.2
        obtain ⟨m', c, cnt, q1, q2, q4⟩ := to_loop (k + 600) n xs Z hn.2 (by omega) (by omega) n.toNat (k + 600 + 40) 0 m (Int.le_refl 0) (by omega) hw (by omega)
        have hout := F61o_m (k + 600 + 40) m' q4
        refine ⟨m', c, cnt, ?_, ?_, q4⟩
        · have t : T (F38 (k + 600 + 40) (cat m (xs, n))) (fun r => r = (cat m' (c, cnt))) := by
            unfold F38
            refine T.bindbind (T.bindbind (T.eq e1 (T.bindbr nofun fun _ => T.bindbr (fun g => absurd (of_decide_eq_true g) hl) fun _ => T.bindbind (T.eq a1 (T.binds (T.bindbr nofun fun _ => T.binds (T.csr (T.eq o1 ?_))))))))
            rcases q2 with q2 | ⟨q2, rfl, rfl⟩
            · exact T.eq q2 (T.csl (T.ret rfl))
            · exact T.eq q2 (T.csr (T.ret rfl))
          obtain ⟨r, er, rfl⟩ := t
          exact er
        · have t : T (F37 (k + 600 + 40) (cat m (xs, n))) (fun r => r = (ocat m' (c, cnt, outM m'))) := by
            unfold F37
            refine T.bindbind (T.bindbind (T.eq e2 (T.bindbr nofun fun _ => T.bindbind (T.eq a2 (T.bindbr nofun fun _ => T.binds (T.bindbr (fun g => absurd (of_decide_eq_true g) hl) fun _ => T.binds (T.csr ?_)))))))
            refine T.bind (S := fun r => r = (ocat m' (c, cnt, xs, outM m'))) ?_ fun r hr => ?_
            · unfold F55s
              exact T.eq q1 (T.eq hout (T.ret rfl))
            · subst hr; exact T.ret rfl
          obtain ⟨r, er, rfl⟩ := t
          exact er
theorem F41o_eq (K : Nat) (xs : List (Int × Int)) (hl : xs.length ≤ 1048576) (hK : xs.length < K) : F41o K xs = some xs := by
  have h := loop_copy0 (f := F41o_b0 K) (fun i zs => (xs, (i : Int), zs)) xs id (fun i zs v hv hi hz => by
    have e1 : ((i : Int) < (xs.length : Int)) := by omega
    have e2 : (0 ≤ (i : Int) ∧ (i : Int) < (zs.length : Int)) := by omega
    have e3 : w64 ((i : Int) + 1) = ((i + 1 : Nat) : Int) := by rw [w64_id (by omega) (by omega)]; omega
    have e4 : zs[i]? = some zs[i] := List.getElem?_eq_getElem (by omega)
    have e5 : F95 K v = some v := rfl
    simp only [F41o_b0, branch_ite, if_pos e1, nth_s hv, e5, bindO_s, guard_dec e2, Int.toNat_natCast, nthN_s e4, e3, id]) (fun zs hz => by
    have e1 : ¬ ((xs.length : Int) < (xs.length : Int)) := by omega
    simp only [F41o_b0, branch_ite, if_neg e1]) K (List.replicate ((xs.length : Int).toNat) (0, 0)) (by simp) hK
  rw [List.map_id] at h
  replace h : iter K (F41o_b0 K) (xs, 0, List.replicate ((xs.length : Int).toNat) (0, 0)) = some xs := h
  unfold F41o
  rw [guard_dec ⟨rfl, by omega, by simp; omega⟩, h]
  rfl
theorem F42_eq (K : Nat) (xs : List (Int × Int)) (hl : xs.length ≤ maxLen) (hK : xs.length < K) : F42 K (xs, xs) = some true := by
  unfold maxLen at hl
  have h := loop_all (f := F42_b0 K) (fun i => (xs, xs, (i : Int))) xs (fun _ => true) (.inl false) (.inr ()) (fun i v hv hi => by
    have e1 : ((i : Int) < (xs.length : Int)) := by omega
    have e3 : w64 ((i : Int) + 1) = ((i + 1 : Nat) : Int) := by rw [w64_id (by omega) (by omega)]; omega
    have e5 : F96 K (v.1, v.2, v) = some true := by simp [F96, branch_f]
    simp only [F42_b0, branch_ite, if_pos e1, nth_s hv, e3, e5, bindO_s, Bool.not_true, branch_f, cond]) (by
    have e1 : ¬ ((xs.length : Int) < (xs.length : Int)) := by omega
    simp only [F42_b0, branch_ite, if_neg e1]) K hK
  replace h : iter K (F42_b0 K) (xs, xs, 0) = _ := h
  simp only [F42, decide_true, Bool.not_true, branch_f, h, bindO_s]
  rw [List.all_eq_true.2 (fun _ _ => rfl)]
  rfl
theorem F43_t (K : Nat) (xs : List (Int × Int)) (k : Int) (hk : 0 ≤ k ∧ k ≤ 10000000) (hl : xs.length ≤ 1048576) (hK : xs.length < K) : T (F43 K (k, xs)) fun r => 0 ≤ r.1 := by
  obtain ⟨b, h1, h2⟩ := iter_inv (f := F43_b0 K) (fun a => ∃ i : Nat, a.1 = k + 2 * (i : Int) ∧ a.2.1 = (i : Int) ∧ i ≤ xs.length ∧ a.2.2.length = xs.length) (fun a => (xs.length : Int).toNat - a.2.1.toNat) (fun b => 0 ≤ b.1) (fun a ⟨i, g0, g1, g2, g3⟩ => by
    obtain ⟨a0, a1, zs⟩ := a
    simp only at g0 g1 g2 g3
    subst g0 g1
    by_cases g : i < xs.length
    · have c : ((i : Int) < (zs.length : Int)) := by omega
      have c2 : (0 ≤ (i : Int) ∧ (i : Int) < (zs.length : Int)) := by omega
      have e4 : zs[i]? = some zs[i] := List.getElem?_eq_getElem (by omega)
      have c3 : (0 ≤ (i : Int) ∧ (i : Int) < ((zs.set i (k + 2 * (i : Int), zs[i].2)).length : Int)) := by rw [List.length_set]; exact c2
      have e5 : (zs.set i (k + 2 * (i : Int), zs[i].2))[i]? = some (k + 2 * (i : Int), zs[i].2) := by rw [List.getElem?_set]; simp; omega
      refine .inl ⟨(w64 (w64 (k + 2 * (i : Int) + 1) + 1), w64 ((i : Int) + 1), (zs.set i (k + 2 * (i : Int), zs[i].2)).set i (k + 2 * (i : Int), w64 (k + 2 * (i : Int) + 1))), ?_, ⟨i + 1, ?_, ?_, by omega, by simpa using g3⟩, ?_⟩
      · simp only [F43_b0, branch_ite, if_pos c, guard_dec c2, Int.toNat_natCast, nthN_s e4, guard_dec c3, nthN_s e5]
      · dsimp only; rw [w64_id (n := k + 2 * (i : Int) + 1) (by omega) (by omega), w64_id (by omega) (by omega)]; omega
      · dsimp only; rw [w64_id (by omega) (by omega)]; omega
      · dsimp only
        rw [w64_id (n := (i : Int) + 1) (by omega) (by omega)]
        omega
    · have c : ¬ ((i : Int) < (zs.length : Int)) := by omega
      exact .inr ⟨(k + 2 * (i : Int), zs), by simp only [F43_b0, branch_ite, if_neg c], by dsimp only; omega⟩) K (k, 0, xs) ⟨0, by simp, rfl, Nat.zero_le _, rfl⟩ (by simp; omega)
  unfold F43
  exact T.eq h1 (T.ret h2)
theorem F27_le (K : Nat) (m : MT) (h1 : m.2.2.2.2.2.2.2.2.2.2.2.2.1.length ≤ maxLen) (h2 : m.2.2.2.2.2.2.2.2.2.2.2.2.2.2.2.1.length ≤ maxLen) (h3 : m.2.2.2.2.2.2.2.2.2.2.2.2.2.2.2.2.2.2.2.1.length ≤ maxLen) (h4 : m.2.2.2.2.2.2.2.2.2.2.2.2.2.2.2.2.2.2.2.2.1.length ≤ maxLen) (h5 : m.2.2.2.2.2.2.2.2.2.2.2.2.2.2.2.2.2.2.2.2.2.1.length ≤ maxLen) :
    ∃ r, F27 K (m.1, m.2.1, m.2.2.1, m.2.2.2.1, m.2.2.2.2.1, m.2.2.2.2.2.1, m.2.2.2.2.2.2.1, m.2.2.2.2.2.2.2.1, m.2.2.2.2.2.2.2.2.1, m.2.2.2.2.2.2.2.2.2.1, m.2.2.2.2.2.2.2.2.2.2.1, m.2.2.2.2.2.2.2.2.2.2.2.1, m.2.2.2.2.2.2.2.2.2.2.2.2.1, m.2.2.2.2.2.2.2.2.2.2.2.2.2.1, m.2.2.2.2.2.2.2.2.2.2.2.2.2.2.1, m.2.2.2.2.2.2.2.2.2.2.2.2.2.2.2.1, m.2.2.2.2.2.2.2.2.2.2.2.2.2.2.2.2.1, m.2.2.2.2.2.2.2.2.2.2.2.2.2.2.2.2.2.1, m.2.2.2.2.2.2.2.2.2.2.2.2.2.2.2.2.2.2.1, m.2.2.2.2.2.2.2.2.2.2.2.2.2.2.2.2.2.2.2.1, m.2.2.2.2.2.2.2.2.2.2.2.2.2.2.2.2.2.2.2.2.1, m.2.2.2.2.2.2.2.2.2.2.2.2.2.2.2.2.2.2.2.2.2.1, m.2.2.2.2.2.2.2.2.2.2.2.2.2.2.2.2.2.2.2.2.2.2, 1048576) = some r ∧ (0 ≤ r → m.2.2.2.2.2.2.2.2.2.2.2.2.2.2.2.2.2.2.2.2.2.1.length ≤ 1048576 ∧ r ≤ 1048576) := by
  obtain ⟨r, hr, hr'⟩ := F70_eq K m.2.2.2.2.2.2.2.2.2.2.2.2.1 m.2.2.2.2.2.2.2.2.2.2.2.2.2.1 m.2.2.2.2.2.2.2.2.2.2.2.2.2.2.1 m.2.2.2.2.2.2.2.2.2.2.2.2.2.2.2.1 m.2.2.2.2.2.2.2.2.2.2.2.2.2.2.2.2.1 m.2.2.2.2.2.2.2.2.2.2.2.2.2.2.2.2.2.1 m.2.2.2.2.2.2.2.2.2.2.2.2.2.2.2.2.2.2.1 1048576 h1 h2 (by omega) (by omega)
  unfold maxLen at h3 h4 h5
  simp only [F27, hr, bindO_s, branch_ite]
  split
  · exact ⟨_, rfl, by omega⟩
  · rename_i g1
    have g1' : ¬ r < 0 := by simpa using g1
    have e1 : w64 (r - (m.2.2.2.2.2.2.2.2.2.2.2.2.2.2.2.2.2.2.2.1.length : Int)) = r - (m.2.2.2.2.2.2.2.2.2.2.2.2.2.2.2.2.2.2.2.1.length : Int) := w64_id (by omega) (by omega)
    rw [e1]
    split
    · exact ⟨_, rfl, by omega⟩
    · have e2 : w64 (r - (m.2.2.2.2.2.2.2.2.2.2.2.2.2.2.2.2.2.2.2.1.length : Int) - (m.2.2.2.2.2.2.2.2.2.2.2.2.2.2.2.2.2.2.2.2.1.length : Int)) = r - (m.2.2.2.2.2.2.2.2.2.2.2.2.2.2.2.2.2.2.2.1.length : Int) - (m.2.2.2.2.2.2.2.2.2.2.2.2.2.2.2.2.2.2.2.2.1.length : Int) := w64_id (by omega) (by omega)
      rw [e2]
      split
      · exact ⟨_, rfl, by omega⟩
      · have e3 : w64 (r - (m.2.2.2.2.2.2.2.2.2.2.2.2.2.2.2.2.2.2.2.1.length : Int) - (m.2.2.2.2.2.2.2.2.2.2.2.2.2.2.2.2.2.2.2.2.1.length : Int) - (m.2.2.2.2.2.2.2.2.2.2.2.2.2.2.2.2.2.2.2.2.2.1.length : Int)) = r - (m.2.2.2.2.2.2.2.2.2.2.2.2.2.2.2.2.2.2.2.1.length : Int) - (m.2.2.2.2.2.2.2.2.2.2.2.2.2.2.2.2.2.2.2.2.1.length : Int) - (m.2.2.2.2.2.2.2.2.2.2.2.2.2.2.2.2.2.2.2.2.2.1.length : Int) := w64_id (by omega) (by omega)
        simp only [F71, e3, branch_ite]
        split
        · simp only [bindO_s, branch_ite]
          exact ⟨_, rfl, by omega⟩
        · simp only [bindO_s, branch_ite]
          split
          · exact ⟨_, rfl, by omega⟩
          · exact ⟨_, rfl, by omega⟩
theorem F12_true (m : MT) (xs : List (Int × Int)) (n : Int) (h1 : m.2.2.2.2.2.2.2.2.2.2.2.2.1.length ≤ maxLen) (h2 : m.2.2.2.2.2.2.2.2.2.2.2.2.2.2.2.1.length ≤ maxLen) (h3 : m.2.2.2.2.2.2.2.2.2.2.2.2.2.2.2.2.2.2.2.1.length ≤ maxLen) (h4 : m.2.2.2.2.2.2.2.2.2.2.2.2.2.2.2.2.2.2.2.2.1.length ≤ maxLen) (h5 : m.2.2.2.2.2.2.2.2.2.2.2.2.2.2.2.2.2.2.2.2.2.1.length ≤ maxLen) (h6 : xs.length ≤ maxLen) :
    T (F12 (m.2.2.2.2.2.2.2.2.2.2.2.2.2.2.2.2.2.2.2.2.2.1.length + xs.length + 600 + 40) (cat m (xs, n))) fun r => r = true := by
  obtain ⟨r, e0, hr⟩ := F27_le (m.2.2.2.2.2.2.2.2.2.2.2.2.2.2.2.2.2.2.2.2.2.1.length + xs.length + 600 + 40) m h1 h2 h3 h4 h5
  unfold F12
  refine T.eq e0 ?_
  refine T.br (fun _ => T.ret rfl) fun g => ?_
  have hr0 : 0 ≤ r := by have := of_decide_eq_false g; omega
  have hs : Sm m := ⟨h1, (hr hr0).1⟩
  have hrl := (hr hr0).2
  have e40 : T (F40 (m.2.2.2.2.2.2.2.2.2.2.2.2.2.2.2.2.2.2.2.2.2.1.length + xs.length + 600 + 40) (xs, r)) fun r => 0 ≤ r → xs.length ≤ 1048576 := by
    unfold maxLen at h6
    unfold F40
    have : w64 (r - (xs.length : Int)) = r - (xs.length : Int) := w64_id (by omega) (by omega)
    dsimp only
    rw [this]
    exact T.br (fun _ => T.ret fun h => by omega) fun g => T.ret fun h => by omega
  refine T.bind e40 fun r2 hr2 => T.br (fun _ => T.ret rfl) fun g2 => ?_
  have hxl := hr2 (by have := of_decide_eq_false g2; omega)
  have hK : m.2.2.2.2.2.2.2.2.2.2.2.2.2.2.2.2.2.2.2.2.2.1.length + 8 < m.2.2.2.2.2.2.2.2.2.2.2.2.2.2.2.2.2.2.2.2.2.1.length + xs.length + 600 + 40 := by omega
  obtain ⟨m', c, cnt, s1, s2, s3⟩ := to_both (m.2.2.2.2.2.2.2.2.2.2.2.2.2.2.2.2.2.2.2.2.2.1.length + xs.length) m xs n hs hK
  have hK' : m'.2.2.2.2.2.2.2.2.2.2.2.2.2.2.2.2.2.2.2.2.2.1.length + 8 < m.2.2.2.2.2.2.2.2.2.2.2.2.2.2.2.2.2.2.2.2.2.1.length + xs.length + 600 + 40 := by omega
  have a1 := F28o_m (m.2.2.2.2.2.2.2.2.2.2.2.2.2.2.2.2.2.2.2.2.2.1.length + xs.length + 600 + 40) m hs.out hK
  have a2 := F28_m (m.2.2.2.2.2.2.2.2.2.2.2.2.2.2.2.2.2.2.2.2.2.1.length + xs.length + 600 + 40) m hs.out hK
  have a3 := F29_m (m.2.2.2.2.2.2.2.2.2.2.2.2.2.2.2.2.2.2.2.2.2.1.length + xs.length + 600 + 40) m hs.out hK
  have b3 := F29_m (m.2.2.2.2.2.2.2.2.2.2.2.2.2.2.2.2.2.2.2.2.2.1.length + xs.length + 600 + 40) m' (by omega) hK'
  have a4 := F30_m (m.2.2.2.2.2.2.2.2.2.2.2.2.2.2.2.2.2.2.2.2.2.1.length + xs.length + 600 + 40) m 1 m.2.2.2.2.2.2.2.2.2.2.2.2.2.2.2.2.2.2.2.2.2.1 (by omega) hs.out (by omega)
  have b4 := F30_m (m.2.2.2.2.2.2.2.2.2.2.2.2.2.2.2.2.2.2.2.2.2.1.length + xs.length + 600 + 40) m' 1 m'.2.2.2.2.2.2.2.2.2.2.2.2.2.2.2.2.2.2.2.2.2.1 (by omega) (by omega) (by omega)
  have b5 := F31_m (m.2.2.2.2.2.2.2.2.2.2.2.2.2.2.2.2.2.2.2.2.2.1.length + xs.length + 600 + 40) m' 1 m'.2.2.2.2.2.2.2.2.2.2.2.2.2.2.2.2.2.2.2.2.2.1.length (by omega) (by omega) (by omega)
  have x1 := F41o_eq (m.2.2.2.2.2.2.2.2.2.2.2.2.2.2.2.2.2.2.2.2.2.1.length + xs.length + 600 + 40) xs hxl (by omega)
  have x2 := F42_eq (m.2.2.2.2.2.2.2.2.2.2.2.2.2.2.2.2.2.2.2.2.2.1.length + xs.length + 600 + 40) xs h6 (by omega)
  have hout := hs.out
  have x3 := F43_t (m.2.2.2.2.2.2.2.2.2.2.2.2.2.2.2.2.2.2.2.2.2.1.length + xs.length + 600 + 40) xs (1 + (m.2.2.2.2.2.2.2.2.2.2.2.2.2.2.2.2.2.2.2.2.2.1.length : Int)) (by omega) hxl (by omega)
  generalize m.2.2.2.2.2.2.2.2.2.2.2.2.2.2.2.2.2.2.2.2.2.1.length + xs.length + 600 + 40 = K at *
  refine T.eq a1 (T.eq x1 (T.eq s1 (T.eq a1 (T.eq x1 (T.eq s2 ?_)))))
  refine T.bindbind (T.bindbind (T.eq b3 (T.bindbr nofun fun _ => T.bindbr (fun g => (ff g).elim) fun _ => T.binds ?_)))
  refine T.bindbr (fun g => (ff g).elim) fun _ => T.binds (T.csr ?_)
  refine T.eq a2 (T.eq a3 (T.br nofun fun _ => ?_))
  refine T.eq x1 (T.eq x2 (T.br nofun fun _ => ?_))
  refine T.eq a4 (T.bind x3 fun r3 hr3 => ?_)
  refine T.bindbind (T.bindbr (fun g => absurd (of_decide_eq_true g) (by omega)) fun _ => ?_)
  refine T.bindbind (T.eq b3 (T.bindbr nofun fun _ => T.bindbr (fun g => (ff g).elim) fun _ => T.binds ?_))
  refine T.bindbr (fun g => (ff g).elim) fun _ => T.binds (T.csr ?_)
  refine T.eq b4 (T.eq b5 ?_)
  refine T.br (fun g => absurd (of_decide_eq_true g) (by omega)) fun _ => T.br (fun g => (ff g).elim) fun _ => ?_
  refine T.eq a1 (T.eq x1 (T.eq s2 ?_))
  refine T.bindbind (T.bindbind (T.eq b3 (T.bindbr nofun fun _ => T.bindbr (fun g => (ff g).elim) fun _ => T.binds ?_)))
  refine T.bindbr (fun g => (ff g).elim) fun _ => T.binds (T.csr ?_)
  refine T.eq b5 ?_
  refine T.br (fun g => absurd (of_decide_eq_true g) (by omega)) fun _ => T.br (fun g => (ff g).elim) fun _ => T.ret rfl
theorem to_law (a0 : T49.den) (a1 : T64.den) (a2 : T2.den) (h : T49.ok a0) (h' : T64.ok a1) (h'' : T2.ok a2) : ∃ K, A12 K a0 a1 a2 = some true := by
  obtain ⟨⟨c0, c1, c2, c3, c4, c5, c6, c7, c8, c9, b0, b1⟩, ⟨rom, k1, k2, ram, k3, kb, k4⟩, s1, s2, st, n⟩ := a0
  obtain ⟨-, ⟨h1, -, -, h2, -⟩, h3, h4, ⟨h5, -⟩, -⟩ := h
  obtain ⟨r, e, rfl⟩ := F12_true (c0, c1, c2, c3, c4, c5, c6, c7, c8, c9, b0, b1, rom, k1, k2, ram, k3, kb, k4, s1, s2, st, n) a1 a2 h1 h2 h3 h4 h5 h'.1
  exact ⟨_, e⟩
end Go.U.Tryz
