/- A part of the proof. No condition. -/
import Derived.Test.YtncclmpabjglmaaGreatDoorP3
import Derived.Test.YtncclmpabjglmaaGreatDoorP1
import Derived.Test.YtncclmpabjglmaaGreatDoorVMe
import Derived.Test.YtncclmpabjglmaaGreatDoorVMf
import Derived.Test.YtncclmpabjglmaaGreatDoorVMd
import Derived.KernelRfl
import Derived.Test.YtncclmpabjglmaaGreatDoorVMv
set_option linter.unusedVariables false
set_option linter.unusedSimpArgs false
set_option linter.unusedSectionVars false
namespace Go.U.Tryz
open Go Go.U
set_option maxRecDepth 20000
def noCb (n : Nat) : Bool := decide (n = 203 ∨ n = 211 ∨ n = 219 ∨ n = 227 ∨ n = 235 ∨ n = 228 ∨ n = 236 ∨ n = 244 ∨ n = 252 ∨ n = 221 ∨ n = 237 ∨ n = 253)
def len2Chk (k : Nat) (c : Nat) : Bool := match F196 (k + 40) ((c : Int), false) with
  | some n => decide (F65 (k + 40) ((c : Int), false) = some n) && decide (n = 0 ∨ n = 1 ∨ n = 2 ∨ n = 3) && (decide (n = 0) || noCb c == false) && (decide (n ≤ 2) || !(decide (c % 8 = 6 ∨ c = 224 ∨ c = 232 ∨ c = 240 ∨ c = 248)))
  | none => false
theorem len2All (k : Nat) : (List.range 256).all (fun c => decide (c = 203) || len2Chk k c) = true := by kernel_rfl
def cyc2Chk (k : Nat) (cb : Bool) (c : Nat) : Bool := decide (F26 (k + 40) ((c : Int), cb, true) = F118 (k + 40) ((c : Int), cb, true)) && decide (F26 (k + 40) ((c : Int), cb, false) = F118 (k + 40) ((c : Int), cb, false)) && (((!cb) && condC (c : Int)) || decide (F118 (k + 40) ((c : Int), cb, true) = F118 (k + 40) ((c : Int), cb, false)))
theorem cyc2All (k : Nat) (cb : Bool) : (List.range 256).all (fun c => (!cb && noCb c) || cyc2Chk k cb c) = true := by
  cases cb
  · kernel_rfl
  · kernel_rfl
theorem len2 (k : Nat) (c : Int) (hc : 0 ≤ c ∧ c ≤ 255) (h3 : c ≠ 203) : ∃ n, F65 (k + 40) (c, false) = some n ∧ F196 (k + 40) (c, false) = some n ∧ (n = 0 ∨ n = 1 ∨ n = 2 ∨ n = 3) ∧ (n ≠ 0 → ¬ noC c) ∧ ((c % 8 = 6 ∨ c = 224 ∨ c = 232 ∨ c = 240 ∨ c = 248) → n ≤ 2) := by
  obtain ⟨m, rfl⟩ : ∃ m : Nat, c = (m : Int) := ⟨c.toNat, by omega⟩
  have h := List.all_eq_true.1 (len2All k) m (List.mem_range.2 (by omega))
  have h3' : ¬ m = 203 := by omega
  rw [decide_eq_false h3', Bool.false_or] at h
  unfold len2Chk at h
  split at h
  · rename_i n hn
    simp only [Bool.and_eq_true, Bool.or_eq_true, decide_eq_true_eq, beq_iff_eq, Bool.not_eq_true', decide_eq_false_iff_not] at h
    obtain ⟨⟨⟨h1, h2⟩, h4⟩, h5⟩ := h
    refine ⟨n, h1, hn, h2, fun g => ?_, fun g => ?_⟩
    · have := of_decide_eq_false (h4.resolve_left g)
      unfold noC; omega
    · rcases h5 with h5 | h5
      · exact h5
      · omega
  · cases h
theorem cyc2 (k : Nat) (c : Int) (cb : Bool) (hc : 0 ≤ c ∧ c ≤ 255) (hv : cb = false → ¬ noC c) (t t' : Bool) (ht : (cb = false ∧ condC c = true) → t = t') :
    F26 (k + 40) (c, cb, t) = F118 (k + 40) (c, cb, t') := by
  obtain ⟨m, rfl⟩ : ∃ m : Nat, c = (m : Int) := ⟨c.toNat, by omega⟩
  have h := List.all_eq_true.1 (cyc2All k cb) m (List.mem_range.2 (by omega))
  have hn : (!cb && noCb m) = false := by
    cases cb
    · have := hv rfl
      exact decide_eq_false (by unfold noC at this; omega)
    · rfl
  rw [hn, Bool.false_or] at h
  unfold cyc2Chk at h
  simp only [Bool.and_eq_true, Bool.or_eq_true, decide_eq_true_eq, Bool.not_eq_true'] at h
  obtain ⟨⟨h1, h2⟩, h3⟩ := h
  have a : F26 (k + 40) ((m : Int), cb, t) = F118 (k + 40) ((m : Int), cb, t) := by cases t <;> assumption
  rw [a]
  rcases h3 with h3 | h3
  · rw [ht h3]
  · cases t <;> cases t' <;> first | rfl | exact h3 | exact h3.symm
def H25 (K : Nat) (S : List UInt8) (v3 : UInt8) (v4 : Int) : Option (Int × Bool × Int × Int) :=
    bindO (α := (Int × Bool × Int × Int) ⊕ ((List UInt8) × Int × Int × Bool × Int × Int × Bool × Int)) (bindO (α := (List UInt8) × Int × Bool × Int × Bool × Int × Int × Bool × Int) (branch (decide (v4 = 0))
         (some (S, v4, true, w64 (v3.toNat : Int), false, 0, 0, false, 0))
         (some (S, v4, decide (((S).length : Int) < v4), w64 (v3.toNat : Int), false, 0, 0, false, 0))) fun v5 =>
      branch v5.2.2.1
       (some (.inl (0, false, 0, 0)))
       (some (.inr (v5.1, v5.2.1, v5.2.2.2)))) fun v6 =>
    csO v6
     (fun v7 => some v7)
     (fun v8 => bindO (iter K (F25_b0 K) (v8.1, v8.2.1, w64 (v8.2.1 - 1), v8.2.2)) fun v9 =>
     some (v9.2.1, v9.2.2.1, v9.2.2.2.1, v9.1))
def H139 (K : Nat) (v3 : List UInt8 × Int × Int × Int × Bool × Int) (v4 v6 : Int) : Option (Int × Bool × Int × Int) :=
    bindO (α := (Int × Bool × Int × Int) ⊕ ((List UInt8) × Int × Int × Int × Bool × Int × Int × Bool × Int)) (bindO (α := (List UInt8) × Int × Int × Bool × Int × Bool × Int × Int × Bool × Int) (branch (decide (v6 = 0))
         (some (v3.1, v3.2.1, v6, true, v4, false, 0, v3.2.2.2))
         (some (v3.1, v3.2.1, v6, decide (v3.2.2.1 < v6), v4, false, 0, v3.2.2.2))) fun v7 =>
      branch v7.2.2.2.1
       (some (.inl (0, false, 0, 0)))
       (some (.inr (v7.1, v7.2.1, v7.2.2.1, v7.2.2.2.2)))) fun v8 =>
    csO v8
     (fun v9 => some v9)
     (fun v10 => bindO (α := (List UInt8) × Int × Int × Int × Bool × Int × Int × Bool × Int) (branch (decide (1 < v10.2.2.1))
        (bindO (F195 K (v10.1, w64 (v10.2.1 + 1))) fun v11 =>
        some (v10.1, v10.2.1, v10.2.2.1, v10.2.2.2.1, v10.2.2.2.2.1, v11, v10.2.2.2.2.2.2))
        (some v10)) fun v12 =>
     branch (decide (2 < v12.2.2.1))
      (bindO (F195 K (v12.1, w64 (v12.2.1 + 2))) fun v13 =>
      some (v12.2.2.2.1, v12.2.2.2.2.1, w64 (v12.2.2.2.2.2.1 + (w64 (256 * v13))), v12.2.2.1))
      (some (v12.2.2.2.1, v12.2.2.2.2.1, v12.2.2.2.2.2.1, v12.2.2.1)))
def Rd (r : Int × Bool × Int × Int) : Prop := r.2.2.2 = 0 ∨ ((0 ≤ r.1 ∧ r.1 ≤ 255) ∧ (0 ≤ r.2.2.1 ∧ r.2.2.1 ≤ 65535) ∧ (1 ≤ r.2.2.2 ∧ r.2.2.2 ≤ 3) ∧ (r.2.1 = false → ¬ noC r.1 ∧ ((r.1 % 8 = 6 ∨ r.1 = 224 ∨ r.1 = 232 ∨ r.1 = 240 ∨ r.1 = 248) → r.2.2.1 ≤ 255)))
theorem read3 (k : Nat) (b0 b1 b2 : UInt8) : ∃ r, F25 (k + 40) ([b0, b1, b2], 0) = some r ∧ F139 (k + 40) ([b0, b1, b2], 0) = some r ∧ Rd r := by
  have l : F25 (k + 40) ([b0, b1, b2], 0) = branch (decide ((b0.toNat : Int) = 203)) (some (w64 (b1.toNat : Int), true, 0, 2)) (bindO (F65 (k + 40) (w64 (b0.toNat : Int), false)) fun v4 => H25 (k + 40) [b0, b1, b2] b0 v4) := by kernel_rfl
  have r : F139 (k + 40) ([b0, b1, b2], 0) = branch (decide (w64 (b0.toNat : Int) = 203)) (some (w64 (b1.toNat : Int), true, 0, 2)) (bindO (F196 (k + 40) (w64 (b0.toNat : Int), false)) fun v6 => H139 (k + 40) ([b0, b1, b2], 0, 3, 0, false, 0) (w64 (b0.toNat : Int)) v6) := by kernel_rfl
  have g0 := byte_u8 b0
  have g1 := byte_u8 b1
  have g2 := byte_u8 b2
  have e0 : w64 (b0.toNat : Int) = (b0.toNat : Int) := w64_id (by omega) (by have := b0.toNat_lt; omega)
  rw [l, r]
  by_cases h : (b0.toNat : Int) = 203
  · rw [e0, decide_eq_true h]
    refine ⟨_, rfl, rfl, .inr ⟨g1, ⟨Int.le_refl 0, by dsimp only; omega⟩, ⟨by dsimp only; omega, by dsimp only; omega⟩, fun e => by cases e⟩⟩
  · have h' : ¬ w64 (b0.toNat : Int) = 203 := by rw [e0]; exact h
    rw [decide_eq_false h, decide_eq_false h']
    obtain ⟨n, e1, e2, hn, hv, h6⟩ := len2 k (w64 (b0.toNat : Int)) g0 h'
    rw [e1, e2]
    simp only [branch_f, bindO_s]
    rcases hn with rfl | rfl | rfl | rfl
    · exact ⟨(0, false, 0, 0), by kernel_rfl, by kernel_rfl, .inl rfl⟩
    · exact ⟨(w64 (b0.toNat : Int), false, 0, 1), by kernel_rfl, by kernel_rfl, .inr ⟨g0, ⟨Int.le_refl 0, by dsimp only; omega⟩, ⟨by dsimp only; omega, by dsimp only; omega⟩, fun _ => ⟨hv (by omega), fun _ => by dsimp only; omega⟩⟩⟩
    · refine ⟨(w64 (b0.toNat : Int), false, w64 (b1.toNat : Int), 2), ?_, by kernel_rfl, .inr ⟨g0, ⟨g1.1, by dsimp only; omega⟩, ⟨by dsimp only; omega, by dsimp only; omega⟩, fun _ => ⟨hv (by omega), fun _ => g1.2⟩⟩⟩
      refine Eq.trans (b := some (w64 (b0.toNat : Int), false, bits .or .i64 (shlI .i64 0 8) (w64 (b1.toNat : Int)), 2)) (by kernel_rfl) ?_
      have e := or_join 0 (w64 (b1.toNat : Int)) (by omega) (by omega) g1.1 g1.2
      rw [shl8 0 (by omega) (by omega), e]
      simp only [Int.mul_zero, Int.zero_add]
    · refine ⟨(w64 (b0.toNat : Int), false, w64 (w64 (b1.toNat : Int) + w64 (256 * w64 (b2.toNat : Int))), 3), ?_, by kernel_rfl, .inr ⟨g0, ?_, ⟨by dsimp only; omega, by dsimp only; omega⟩, fun _ => ⟨hv (by omega), fun g => absurd (h6 g) (by omega)⟩⟩⟩
      · refine Eq.trans (b := some (w64 (b0.toNat : Int), false, bits .or .i64 (shlI .i64 (bits .or .i64 (shlI .i64 0 8) (w64 (b2.toNat : Int))) 8) (w64 (b1.toNat : Int)), 3)) (by kernel_rfl) ?_
        have e := or_join 0 (w64 (b2.toNat : Int)) (by omega) (by omega) g2.1 g2.2
        have e' := or_join (w64 (b2.toNat : Int)) (w64 (b1.toNat : Int)) g2.1 (by omega) g1.1 g1.2
        rw [shl8 0 (by omega) (by omega), e]
        simp only [Int.mul_zero, Int.zero_add]
        rw [shl8 (w64 (b2.toNat : Int)) g2.1 (by omega), e', w64_id (n := 256 * w64 (b2.toNat : Int)) (by omega) (by omega), w64_id (n := w64 (b1.toNat : Int) + 256 * w64 (b2.toNat : Int)) (by omega) (by omega), Int.add_comm]
      · dsimp only
        rw [w64_id (n := 256 * w64 (b2.toNat : Int)) (by omega) (by omega), w64_id (n := w64 (b1.toNat : Int) + 256 * w64 (b2.toNat : Int)) (by omega) (by omega)]
        omega
theorem iter_go {α β : Type} {n : Nat} {f : α → Option (α ⊕ β)} {a a' : α} (h : f a = some (.inl a')) : iter (n + 1) f a = iter n f a' := by simp only [iter, h]
theorem iter_end {α β : Type} {n : Nat} {f : α → Option (α ⊕ β)} {a : α} {b : β} (h : f a = some (.inr b)) : iter (n + 1) f a = some b := by simp only [iter, h]
theorem F134_1 (k : Nat) (v : Int) : F134 (k + 40) (v, 1) = some (toB [w8 v]) := by kernel_rfl
theorem fetch3 (k : Nat) (w : WT) (h : WInv w) : ∃ r, F98 (k + 40) (WT.m w) = some (r.1, r.2.1, r.2.2.1, r.2.2.2, WT.m w) ∧ F100 (k + 40) (WT.m w) = some r ∧ Rd r := by
  have hp := h.pc
  obtain ⟨v0, e0, _⟩ := F138_t (k + 40) w h ((w.2.2.2.2.2.2.2.2.2.1 + 0) % 65536) (by omega)
  obtain ⟨v1, e1, _⟩ := F138_t (k + 40) w h ((w.2.2.2.2.2.2.2.2.2.1 + 1) % 65536) (by omega)
  obtain ⟨v2, e2, _⟩ := F138_t (k + 40) w h ((w.2.2.2.2.2.2.2.2.2.1 + 2) % 65536) (by omega)
  have n0 : w64 (w.2.2.2.2.2.2.2.2.2.1 + 0) = w.2.2.2.2.2.2.2.2.2.1 + 0 := w64_id (by omega) (by omega)
  have n1 : w64 (w.2.2.2.2.2.2.2.2.2.1 + 1) = w.2.2.2.2.2.2.2.2.2.1 + 1 := w64_id (by omega) (by omega)
  have n2 : w64 (w.2.2.2.2.2.2.2.2.2.1 + 2) = w.2.2.2.2.2.2.2.2.2.1 + 2 := w64_id (by omega) (by omega)
  have m0 : Int.tmod (w.2.2.2.2.2.2.2.2.2.1 + 0) 65536 = (w.2.2.2.2.2.2.2.2.2.1 + 0) % 65536 := tmE (by omega)
  have m1 : Int.tmod (w.2.2.2.2.2.2.2.2.2.1 + 1) 65536 = (w.2.2.2.2.2.2.2.2.2.1 + 1) % 65536 := tmE (by omega)
  have m2 : Int.tmod (w.2.2.2.2.2.2.2.2.2.1 + 2) 65536 = (w.2.2.2.2.2.2.2.2.2.1 + 2) % 65536 := tmE (by omega)
  have fa : ∀ (i : Int) (l : List UInt8) (v : Int), 0 ≤ i ∧ i < 3 → l.length ≤ 3 → F138 (k + 40) (w.1, w.2.1, w.2.2.1, w.2.2.2.1, w.2.2.2.2.1, w.2.2.2.2.2.1, w.2.2.2.2.2.2.1, w.2.2.2.2.2.2.2.1, w.2.2.2.2.2.2.2.2.1, w.2.2.2.2.2.2.2.2.2.1, w.2.2.2.2.2.2.2.2.2.2.1, w.2.2.2.2.2.2.2.2.2.2.2.1, w.2.2.2.2.2.2.2.2.2.2.2.2.1, w.2.2.2.2.2.2.2.2.2.2.2.2.2.1, w.2.2.2.2.2.2.2.2.2.2.2.2.2.2.1, w.2.2.2.2.2.2.2.2.2.2.2.2.2.2.2.1, w.2.2.2.2.2.2.2.2.2.2.2.2.2.2.2.2.1, w.2.2.2.2.2.2.2.2.2.2.2.2.2.2.2.2.2.1, w.2.2.2.2.2.2.2.2.2.2.2.2.2.2.2.2.2.2.1, w.2.2.2.2.2.2.2.2.2.2.2.2.2.2.2.2.2.2.2.1, w.2.2.2.2.2.2.2.2.2.2.2.2.2.2.2.2.2.2.2.2.1, w.2.2.2.2.2.2.2.2.2.2.2.2.2.2.2.2.2.2.2.2.2.1, w.2.2.2.2.2.2.2.2.2.2.2.2.2.2.2.2.2.2.2.2.2.2.1, (w.2.2.2.2.2.2.2.2.2.1 + i) % 65536) = some v → w64 (w.2.2.2.2.2.2.2.2.2.1 + i) = w.2.2.2.2.2.2.2.2.2.1 + i → F98_b0 (k + 40) (l, i, 0, false, 0, WT.m w) = some (.inl (l ++ toB [w8 v], w64 (i + 1), 0, false, 0, WT.m w)) := by
    intro i l v hi hl e en
    have a : F98_b0 (k + 40) (l, i, 0, false, 0, WT.m w) = branch (decide (i < 3)) (bindO (F64 (k + 40) (w64 (w.2.2.2.2.2.2.2.2.2.1 + i), WT.m w)) fun v0 => bindO (F134 (k + 40) (v0.1, 1)) fun v1 => guard (decide ((l.length + v1.length) ≤ 9223372036854775807)) <| some (.inl (l ++ v1, w64 (i + 1), 0, false, 0, WT.m w))) (some (.inr (l, 0, false, 0, WT.m w))) := rfl
    rw [a, decide_eq_true hi.2, branch_t, en, F64_w (k + 40) w h, e]
    simp only [bindO_s, F134_1]
    have : (l.length + (toB [w8 v]).length) ≤ 9223372036854775807 := by rw [toB_length]; simp; omega
    rw [decide_eq_true this, guard_t]
  have fb : ∀ (i : Int) (l : List Int) (v : Int), 0 ≤ i ∧ i < 3 → l.length ≤ 3 → F138 (k + 40) (w.1, w.2.1, w.2.2.1, w.2.2.2.1, w.2.2.2.2.1, w.2.2.2.2.2.1, w.2.2.2.2.2.2.1, w.2.2.2.2.2.2.2.1, w.2.2.2.2.2.2.2.2.1, w.2.2.2.2.2.2.2.2.2.1, w.2.2.2.2.2.2.2.2.2.2.1, w.2.2.2.2.2.2.2.2.2.2.2.1, w.2.2.2.2.2.2.2.2.2.2.2.2.1, w.2.2.2.2.2.2.2.2.2.2.2.2.2.1, w.2.2.2.2.2.2.2.2.2.2.2.2.2.2.1, w.2.2.2.2.2.2.2.2.2.2.2.2.2.2.2.1, w.2.2.2.2.2.2.2.2.2.2.2.2.2.2.2.2.1, w.2.2.2.2.2.2.2.2.2.2.2.2.2.2.2.2.2.1, w.2.2.2.2.2.2.2.2.2.2.2.2.2.2.2.2.2.2.1, w.2.2.2.2.2.2.2.2.2.2.2.2.2.2.2.2.2.2.2.1, w.2.2.2.2.2.2.2.2.2.2.2.2.2.2.2.2.2.2.2.2.1, w.2.2.2.2.2.2.2.2.2.2.2.2.2.2.2.2.2.2.2.2.2.1, w.2.2.2.2.2.2.2.2.2.2.2.2.2.2.2.2.2.2.2.2.2.2.1, (w.2.2.2.2.2.2.2.2.2.1 + i) % 65536) = some v → w64 (w.2.2.2.2.2.2.2.2.2.1 + i) = w.2.2.2.2.2.2.2.2.2.1 + i → Int.tmod (w.2.2.2.2.2.2.2.2.2.1 + i) 65536 = (w.2.2.2.2.2.2.2.2.2.1 + i) % 65536 → F100_b0 (k + 40) (i, l, 0, false, 0, WT.m w) = some (.inl (w64 (i + 1), l ++ [w8 v], 0, false, 0, WT.m w)) := by
    intro i l v hi hl e en em
    have a : F100_b0 (k + 40) (i, l, 0, false, 0, WT.m w) = branch (decide (i < 3)) (bindO (F138 (k + 40) (w.1, w.2.1, w.2.2.1, w.2.2.2.1, w.2.2.2.2.1, w.2.2.2.2.2.1, w.2.2.2.2.2.2.1, w.2.2.2.2.2.2.2.1, w.2.2.2.2.2.2.2.2.1, w.2.2.2.2.2.2.2.2.2.1, w.2.2.2.2.2.2.2.2.2.2.1, w.2.2.2.2.2.2.2.2.2.2.2.1, w.2.2.2.2.2.2.2.2.2.2.2.2.1, w.2.2.2.2.2.2.2.2.2.2.2.2.2.1, w.2.2.2.2.2.2.2.2.2.2.2.2.2.2.1, w.2.2.2.2.2.2.2.2.2.2.2.2.2.2.2.1, w.2.2.2.2.2.2.2.2.2.2.2.2.2.2.2.2.1, w.2.2.2.2.2.2.2.2.2.2.2.2.2.2.2.2.2.1, w.2.2.2.2.2.2.2.2.2.2.2.2.2.2.2.2.2.2.1, w.2.2.2.2.2.2.2.2.2.2.2.2.2.2.2.2.2.2.2.1, w.2.2.2.2.2.2.2.2.2.2.2.2.2.2.2.2.2.2.2.2.1, w.2.2.2.2.2.2.2.2.2.2.2.2.2.2.2.2.2.2.2.2.2.1, w.2.2.2.2.2.2.2.2.2.2.2.2.2.2.2.2.2.2.2.2.2.2.1, Int.tmod (w64 (w.2.2.2.2.2.2.2.2.2.1 + i)) 65536)) fun v0 => guard (fitN (l.length + [w8 v0].length) 1) <| some (.inl (w64 (i + 1), l ++ [w8 v0], 0, false, 0, WT.m w))) (some (.inr (l, 0, false, 0))) := rfl
    rw [a, decide_eq_true hi.2, branch_t, en, em, e]
    have : fitN (l.length + [w8 v].length) 1 = true := by unfold fitN; exact decide_eq_true (by simp; omega)
    simp only [bindO_s, this, guard_t]
  have ea : iter (k + 40) (F98_b0 (k + 40)) ([], 0, 0, false, 0, WT.m w) = some ([] ++ toB [w8 v0] ++ toB [w8 v1] ++ toB [w8 v2], 0, false, 0, WT.m w) := by
    refine (iter_go (n := k + 39) (fa 0 [] v0 (by omega) (by simp) e0 n0)).trans ?_
    refine (iter_go (n := k + 38) (fa 1 _ v1 (by omega) (by simp [toB_length]) e1 n1)).trans ?_
    refine (iter_go (n := k + 37) (fa 2 _ v2 (by omega) (by simp [toB_length]) e2 n2)).trans ?_
    exact iter_end (n := k + 36) rfl
  have eb : iter (k + 40) (F100_b0 (k + 40)) (0, [], 0, false, 0, WT.m w) = some ([] ++ [w8 v0] ++ [w8 v1] ++ [w8 v2], 0, false, 0) := by
    refine (iter_go (n := k + 39) (fb 0 [] v0 (by omega) (by simp) e0 n0 m0)).trans ?_
    refine (iter_go (n := k + 38) (fb 1 _ v1 (by omega) (by simp) e1 n1 m1)).trans ?_
    refine (iter_go (n := k + 37) (fb 2 _ v2 (by omega) (by simp) e2 n2 m2)).trans ?_
    exact iter_end (n := k + 36) rfl
  obtain ⟨b0, hb0⟩ : ∃ b, toB [w8 v0] = [b] := ⟨_, rfl⟩
  obtain ⟨b1, hb1⟩ : ∃ b, toB [w8 v1] = [b] := ⟨_, rfl⟩
  obtain ⟨b2, hb2⟩ : ∃ b, toB [w8 v2] = [b] := ⟨_, rfl⟩
  have hb : toB ([] ++ [w8 v0] ++ [w8 v1] ++ [w8 v2]) = [b0, b1, b2] := by
    have : toB ([] ++ [w8 v0] ++ [w8 v1] ++ [w8 v2]) = toB [w8 v0] ++ toB [w8 v1] ++ toB [w8 v2] := rfl
    rw [this, hb0, hb1, hb2]; rfl
  obtain ⟨r, r1, r2, r3⟩ := read3 k b0 b1 b2
  refine ⟨r, ?_, ?_, r3⟩
  · have a : F98 (k + 40) (WT.m w) = bindO (iter (k + 40) (F98_b0 (k + 40)) ([], 0, 0, false, 0, WT.m w)) fun v0 => bindO (F25 (k + 40) (v0.1, 0)) fun v1 => some (v1.1, v1.2.1, v1.2.2.1, v1.2.2.2, v0.2.2.2.2) := rfl
    have hl : [] ++ toB [w8 v0] ++ toB [w8 v1] ++ toB [w8 v2] = [b0, b1, b2] := by rw [hb0, hb1, hb2]; rfl
    rw [a, ea]
    simp only [bindO_s]
    rw [hl, r1]
    rfl
  · have a : F100 (k + 40) (WT.m w) = bindO (iter (k + 40) (F100_b0 (k + 40)) (0, [], 0, false, 0, WT.m w)) fun v0 => bindO (F139 (k + 40) (toB v0.1, 0)) fun v1 => some v1 := rfl
    rw [a, eb]
    simp only [bindO_s]
    rw [hb, r2]
    rfl
end Go.U.Tryz
namespace Go.U.Tryz
open Go Go.U
set_option maxRecDepth 20000
def setHalt (w : WT) (b : Bool) : WT := (w.1, w.2.1, w.2.2.1, w.2.2.2.1, w.2.2.2.2.1, w.2.2.2.2.2.1, w.2.2.2.2.2.2.1, w.2.2.2.2.2.2.2.1, w.2.2.2.2.2.2.2.2.1, w.2.2.2.2.2.2.2.2.2.1, w.2.2.2.2.2.2.2.2.2.2.1, b, w.2.2.2.2.2.2.2.2.2.2.2.2)
def spD (K : Nat) (c : Int) (cb : Bool) (imm : Int) (w : WT) : Option (Bool × WT) :=
  branch cb (bindO (F112 K (c, cb, imm, w)) fun r => some (false, r))
   (branch (decide (c < 64)) (F113 K (c, cb, imm, w))
    (branch (decide (c = 118)) (some (false, setHalt w true))
     (branch (decide (c < 128)) (bindO (F115 K (Int.tmod c 8, w)) fun v5 => bindO (F114 K (Int.tmod (w64 (Int.tdiv c 8)) 8, v5.1, w)) fun v6 => some (false, v6))
      (branch (decide (c < 192)) (bindO (F115 K (Int.tmod c 8, w)) fun v7 => bindO (F116 K (Int.tmod (w64 (Int.tdiv c 8)) 8, w.1, v7.1, w.2.1)) fun v8 => some (false, setAF w v8.1 v8.2))
       (F117 K (c, cb, imm, w))))))
theorem run_eq (K : Nat) (c : Int) (cb : Bool) (imm : Int) (w : WT) (h : WInv w) (hc : 0 ≤ c ∧ c ≤ 255) (hi : 0 ≤ imm ∧ imm ≤ 65535)
    (hv : cb = false → ¬ noC c ∧ ((c % 8 = 6 ∨ c = 224 ∨ c = 232 ∨ c = 240 ∨ c = 248) → imm ≤ 255)) :
    Al (!cb && condC c) w c cb imm (F110 K (A c cb imm w)) (spD K c cb imm w) := by
  have l : F110 K (A c cb imm w) = branch cb (bindO (F154 K (w64 (Int.tdiv c 64), Int.tmod (w64 (Int.tdiv c 8)) 8, Int.tmod c 8, A c cb imm w)) fun v0 => some (true, v0))
    (branch (decide (w64 (Int.tdiv c 64) = 0)) (bindO (F155 K (Int.tmod (w64 (Int.tdiv c 8)) 8, Int.tmod c 8, A c cb imm w)) fun v1 => some v1)
     (branch (decide (w64 (Int.tdiv c 64) = 3)) (bindO (F156 K (Int.tmod (w64 (Int.tdiv c 8)) 8, Int.tmod c 8, A c cb imm w)) fun v1 => some v1)
      (branch (decide (w64 (Int.tdiv c 64) = 2)) (bindO (F158 K (Int.tmod c 8, A c cb imm w)) fun v3 => bindO (F157 K (Int.tmod (w64 (Int.tdiv c 8)) 8, v3.1, A c cb imm w)) fun v4 => some (true, v4))
       (branch (decide (c = 118)) (some (true, A c cb imm (setHalt w true)))
        (bindO (F158 K (Int.tmod c 8, A c cb imm w)) fun v5 => bindO (F159 K (Int.tmod (w64 (Int.tdiv c 8)) 8, v5.1, A c cb imm w)) fun v6 => some (true, v6)))))) := rfl
  have d64 : w64 (Int.tdiv c 64) = c / 64 := by rw [tdE hc.1, w64_id (by omega) (by omega)]
  have d8 : Int.tmod (w64 (Int.tdiv c 8)) 8 = c / 8 % 8 := by rw [tdE hc.1, w64_id (by omega) (by omega), tmE (by omega)]
  have m8 : Int.tmod c 8 = c % 8 := tmE hc.1
  have hz : 0 ≤ c % 8 ∧ c % 8 ≤ 7 := by omega
  have hy : 0 ≤ c / 8 % 8 ∧ c / 8 % 8 ≤ 7 := by omega
  rw [l]
  unfold spD
  cases cb with
  | true =>
    rw [branch_t, branch_t, F154_eq K c true imm w h hc]
    exact Al.of (F112_t K w h c true imm hc) (fun _ => F112_cy) _ _
  | false =>
    obtain ⟨hn, h6⟩ := hv rfl
    rw [branch_f, branch_f, d64, d8, m8]
    by_cases g1 : c < 64
    · rw [decide_eq_true (show c / 64 = 0 by omega), decide_eq_true g1, branch_t, branch_t, bind_id]
      have e : c / 8 % 8 = c / 8 := by omega
      rw [e]
      exact low_eq K c false imm w h c ⟨hc.1, by omega⟩ hi fun g => h6 (.inl g)
    rw [decide_eq_false (show ¬ c / 64 = 0 by omega), decide_eq_false g1, branch_f, branch_f]
    by_cases g2 : c < 192
    · have nc : condC c = true → false = true := fun g => by have := of_decide_eq_true g; omega
      refine Al.weak c false imm (k := false) ?_ nc
      rw [decide_eq_false (show ¬ c / 64 = 3 by omega), branch_f]
      obtain ⟨⟨b, w'⟩, e, hb, hw'⟩ := F115_t K w h (c % 8) hz
      dsimp only at hb
      by_cases g3 : c < 128
      · rw [decide_eq_false (show ¬ c / 64 = 2 by omega), branch_f]
        by_cases g4 : c = 118
        · rw [decide_eq_true g4, branch_t, branch_t]
          exact Al.ret _ _ rfl fun e => by cases e
        · rw [decide_eq_false g4, branch_f, branch_f, decide_eq_true g3, branch_t, F158_eq K c false imm w h _ hz, e]
          simp only [bindO_s]
          rw [F159_eq K c false imm w h _ b hy hb]
          exact Al.of (F114_t K w h _ b hb) (fun _ => F114_cy) _ _
      · rw [decide_eq_true (show c / 64 = 2 by omega), decide_eq_false (show ¬ c = 118 by omega), decide_eq_false g3, decide_eq_true g2]
        simp only [branch_t, branch_f]
        rw [F158_eq K c false imm w h _ hz, e]
        simp only [bindO_s]
        obtain ⟨v, e2, _⟩ := F116_t K (c / 8 % 8) w.1 b w.2.1 h.a hb ⟨h.f.1, h.f.2.1⟩
        rw [F157_eq K c false imm w h _ b hy hb, e2]
        exact ⟨true, false, setAF w v.1 v.2, rfl, rfl, rfl, fun e => by cases e⟩
    · rw [decide_eq_true (show c / 64 = 3 by omega), decide_eq_false (show ¬ c = 118 by omega), decide_eq_false (show ¬ c < 128 by omega), decide_eq_false g2]
      simp only [branch_t, branch_f]
      rw [bind_id]
      exact high_eq K c false imm w h c ⟨by omega, hc.2⟩ hn hi h6
def D62 (K : Nat) (x : MT) (v1 : Int × Bool × Int × Int) : Option (Bool × MC (Bool × Int × Bool × Int × Int × Int × Int × Int × Int × Int × Int × Int × Int × Int × Bool × Bool × (List UInt8) × Int × Int × (List UInt8) × Int × Bool × Int × (List UInt8) × (List UInt8) × (List Int) × Int × Int × Int × Int × Int × Int × Int × Int × Int × Int × Int × Bool × Bool × (List UInt8) × Int × Int × (List UInt8) × Int × Bool × Int × (List UInt8) × (List UInt8) × (List Int) × Int)) :=
  (branch v1.2.1
       (bindO (F112 K (v1.1, v1.2.1, v1.2.2.1, x.1, x.2.1, x.2.2.1, x.2.2.2.1, pr4 x, pr5 x, pr6 x, pr7 x, pr8 x, Int.tmod (w64 ((pr9 x) + v1.2.2.2)) 65536, pr10 x, pr11 x, pr12 x, pr13 x, pr14 x, pr15 x, pr16 x, pr17 x, pr18 x, pr19 x, pr20 x, pr21 x, er22 x, false)) fun v3 =>
       some (false, v3.1, v3.2.1, v3.2.2.1, v3.2.2.2.1, pr4 v3, pr5 v3, pr6 v3, pr7 v3, pr8 v3, pr9 v3, pr10 v3, pr11 v3, pr12 v3, pr13 v3, pr14 v3, pr15 v3, pr16 v3, pr17 v3, pr18 v3, pr19 v3, pr20 v3, pr21 v3, pr22 v3, er23 v3, v1.1, v1.2.1, v1.2.2.1, 0, 0, 0, 0, 0, 0, 0, 0, 0, 0, false, false, [], 0, 0, [], 0, false, 0, [], [], [], 0, x))
       (branch (decide (v1.1 < 64))
        (bindO (F113 K (v1.1, v1.2.1, v1.2.2.1, x.1, x.2.1, x.2.2.1, x.2.2.2.1, pr4 x, pr5 x, pr6 x, pr7 x, pr8 x, Int.tmod (w64 ((pr9 x) + v1.2.2.2)) 65536, pr10 x, pr11 x, pr12 x, pr13 x, pr14 x, pr15 x, pr16 x, pr17 x, pr18 x, pr19 x, pr20 x, pr21 x, er22 x, false)) fun v4 =>
        some (v4.1, v4.2.1, v4.2.2.1, v4.2.2.2.1, pr4 v4, pr5 v4, pr6 v4, pr7 v4, pr8 v4, pr9 v4, pr10 v4, pr11 v4, pr12 v4, pr13 v4, pr14 v4, pr15 v4, pr16 v4, pr17 v4, pr18 v4, pr19 v4, pr20 v4, pr21 v4, pr22 v4, pr23 v4, er24 v4, v1.1, v1.2.1, v1.2.2.1, 0, 0, 0, 0, 0, 0, 0, 0, 0, 0, false, false, [], 0, 0, [], 0, false, 0, [], [], [], 0, x))
        (branch (decide (v1.1 = 118))
         (some (false, x.1, x.2.1, x.2.2.1, x.2.2.2.1, pr4 x, pr5 x, pr6 x, pr7 x, pr8 x, Int.tmod (w64 ((pr9 x) + v1.2.2.2)) 65536, pr10 x, true, pr12 x, pr13 x, pr14 x, pr15 x, pr16 x, pr17 x, pr18 x, pr19 x, pr20 x, pr21 x, er22 x, false, v1.1, v1.2.1, v1.2.2.1, 0, 0, 0, 0, 0, 0, 0, 0, 0, 0, false, false, [], 0, 0, [], 0, false, 0, [], [], [], 0, x))
         (branch (decide (v1.1 < 128))
          (bindO (F115 K (Int.tmod v1.1 8, x.1, x.2.1, x.2.2.1, x.2.2.2.1, pr4 x, pr5 x, pr6 x, pr7 x, pr8 x, Int.tmod (w64 ((pr9 x) + v1.2.2.2)) 65536, pr10 x, pr11 x, pr12 x, pr13 x, pr14 x, pr15 x, pr16 x, pr17 x, pr18 x, pr19 x, pr20 x, pr21 x, er22 x, false)) fun v5 =>
          bindO (F114 K (Int.tmod (w64 (Int.tdiv v1.1 8)) 8, v5.1, x.1, x.2.1, x.2.2.1, x.2.2.2.1, pr4 x, pr5 x, pr6 x, pr7 x, pr8 x, Int.tmod (w64 ((pr9 x) + v1.2.2.2)) 65536, pr10 x, pr11 x, pr12 x, pr13 x, pr14 x, pr15 x, pr16 x, pr17 x, pr18 x, pr19 x, pr20 x, pr21 x, er22 x, false)) fun v6 =>
          some (false, v6.1, v6.2.1, v6.2.2.1, v6.2.2.2.1, pr4 v6, pr5 v6, pr6 v6, pr7 v6, pr8 v6, pr9 v6, pr10 v6, pr11 v6, pr12 v6, pr13 v6, pr14 v6, pr15 v6, pr16 v6, pr17 v6, pr18 v6, pr19 v6, pr20 v6, pr21 v6, pr22 v6, er23 v6, v1.1, v1.2.1, v1.2.2.1, 0, 0, 0, 0, 0, 0, 0, 0, 0, 0, false, false, [], 0, 0, [], 0, false, 0, [], [], [], 0, x))
          (branch (decide (v1.1 < 192))
           (bindO (F115 K (Int.tmod v1.1 8, x.1, x.2.1, x.2.2.1, x.2.2.2.1, pr4 x, pr5 x, pr6 x, pr7 x, pr8 x, Int.tmod (w64 ((pr9 x) + v1.2.2.2)) 65536, pr10 x, pr11 x, pr12 x, pr13 x, pr14 x, pr15 x, pr16 x, pr17 x, pr18 x, pr19 x, pr20 x, pr21 x, er22 x, false)) fun v7 =>
           bindO (F116 K (Int.tmod (w64 (Int.tdiv v1.1 8)) 8, x.1, v7.1, x.2.1)) fun v8 =>
           some (false, v8.1, v8.2, x.2.2.1, x.2.2.2.1, pr4 x, pr5 x, pr6 x, pr7 x, pr8 x, Int.tmod (w64 ((pr9 x) + v1.2.2.2)) 65536, pr10 x, pr11 x, pr12 x, pr13 x, pr14 x, pr15 x, pr16 x, pr17 x, pr18 x, pr19 x, pr20 x, pr21 x, er22 x, false, v1.1, v1.2.1, v1.2.2.1, 0, 0, 0, 0, 0, 0, 0, 0, 0, 0, false, false, [], 0, 0, [], 0, false, 0, [], [], [], 0, x))
           (bindO (F117 K (v1.1, v1.2.1, v1.2.2.1, x.1, x.2.1, x.2.2.1, x.2.2.2.1, pr4 x, pr5 x, pr6 x, pr7 x, pr8 x, Int.tmod (w64 ((pr9 x) + v1.2.2.2)) 65536, pr10 x, pr11 x, pr12 x, pr13 x, pr14 x, pr15 x, pr16 x, pr17 x, pr18 x, pr19 x, pr20 x, pr21 x, er22 x, false)) fun v9 =>
           some (v9.1, v9.2.1, v9.2.2.1, v9.2.2.2.1, pr4 v9, pr5 v9, pr6 v9, pr7 v9, pr8 v9, pr9 v9, pr10 v9, pr11 v9, pr12 v9, pr13 v9, pr14 v9, pr15 v9, pr16 v9, pr17 v9, pr18 v9, pr19 v9, pr20 v9, pr21 v9, pr22 v9, pr23 v9, er24 v9, v1.1, v1.2.1, v1.2.2.1, 0, 0, 0, 0, 0, 0, 0, 0, 0, 0, false, false, [], 0, 0, [], 0, false, 0, [], [], [], 0, x)))))))
def R62 (K : Nat) (v10 : Bool × MC (Bool × Int × Bool × Int × Int × Int × Int × Int × Int × Int × Int × Int × Int × Int × Bool × Bool × (List UInt8) × Int × Int × (List UInt8) × Int × Bool × Int × (List UInt8) × (List UInt8) × (List Int) × Int × Int × Int × Int × Int × Int × Int × Int × Int × Int × Int × Bool × Bool × (List UInt8) × Int × Int × (List UInt8) × Int × Bool × Int × (List UInt8) × (List UInt8) × (List Int) × Int)) : Option (MC (Int)) :=
    bindO (F118 K ((q24 v10).2.1, (q24 v10).2.2.1, v10.1)) fun v11 =>
    bindO (α := (MC (Int)) ⊕ (MC (Bool × Int × Int × Int × Int × Int × Int × Int × Int × Int × Int × Bool × Bool × (List UInt8) × Int × Int × (List UInt8) × Int × Bool × Int × (List UInt8) × (List UInt8) × (List Int) × Int))) (bindO (α := Bool × MC (Bool × Int × Int × Int × Int × Int × Int × Int × Int × Int × Int × Bool × Bool × (List UInt8) × Int × Int × (List UInt8) × Int × Bool × Int × (List UInt8) × (List UInt8) × (List Int) × Int × Int × Int × Int × Int × Int × Int × Int × Int × Int × Int × Bool × Bool × (List UInt8) × Int × Int × (List UInt8) × Int × Bool × Int × (List UInt8) × (List UInt8) × (List Int) × Int)) (branch (pr24 v10)
         (some (true, v10.2.1, v10.2.2.1, v10.2.2.2.1, pr4 v10, pr5 v10, pr6 v10, pr7 v10, pr8 v10, pr9 v10, pr10 v10, pr11 v10, pr12 v10, pr13 v10, pr14 v10, pr15 v10, pr16 v10, pr17 v10, pr18 v10, pr19 v10, pr20 v10, pr21 v10, pr22 v10, w64 ((q24 (q24 (q24 v10))).2 + v11), pr24 v10, er4 (q24 v10)))
         (some (decide (1000000000 < (w64 ((q24 (q24 (q24 v10))).2 + v11))), v10.2.1, v10.2.2.1, v10.2.2.2.1, pr4 v10, pr5 v10, pr6 v10, pr7 v10, pr8 v10, pr9 v10, pr10 v10, pr11 v10, pr12 v10, pr13 v10, pr14 v10, pr15 v10, pr16 v10, pr17 v10, pr18 v10, pr19 v10, pr20 v10, pr21 v10, pr22 v10, w64 ((q24 (q24 (q24 v10))).2 + v11), pr24 v10, er4 (q24 v10)))) fun v12 =>
      branch v12.1
       (bindO (F89 K (er24 (q24 v12))) fun v13 =>
       some (.inl (v13.1, v13.2.1, v13.2.2.1, v13.2.2.2.1, pr4 v13, pr5 v13, pr6 v13, pr7 v13, pr8 v13, pr9 v13, pr10 v13, pr11 v13, pr12 v13, pr13 v13, pr14 v13, pr15 v13, pr16 v13, pr17 v13, pr18 v13, pr19 v13, pr20 v13, pr21 v13, er22 v13, 4)))
       (some (.inr (v12.2.1, v12.2.2.1, v12.2.2.2.1, pr4 v12, pr5 v12, pr6 v12, pr7 v12, pr8 v12, pr9 v12, pr10 v12, pr11 v12, pr12 v12, pr13 v12, pr14 v12, pr15 v12, pr16 v12, pr17 v12, pr18 v12, pr19 v12, pr20 v12, pr21 v12, pr22 v12, pr23 v12, pr24 v12, (q24 v12).2.1, (q24 v12).2.2.1, (q24 v12).2.2.2.1, pr4 (q24 v12), pr5 (q24 v12), pr6 (q24 v12), pr7 (q24 v12), pr8 (q24 v12), pr9 (q24 v12), pr10 (q24 v12), pr11 (q24 v12), pr12 (q24 v12), pr13 (q24 v12), pr14 (q24 v12), pr15 (q24 v12), pr16 (q24 v12), pr17 (q24 v12), pr18 (q24 v12), pr19 (q24 v12), pr20 (q24 v12), pr21 (q24 v12), pr22 (q24 v12), pr23 (q24 v12))))) fun v14 =>
    csO v14
     (fun v15 => some v15)
     (fun v16 => bindO (F89 K (v16.1, v16.2.1, v16.2.2.1, v16.2.2.2.1, pr4 v16, pr5 v16, pr6 v16, pr7 v16, pr8 v16, pr9 v16, pr10 v16, pr11 v16, pr12 v16, pr13 v16, pr14 v16, pr15 v16, pr16 v16, pr17 v16, pr18 v16, pr19 v16, pr20 v16, pr21 v16, pr22 v16)) fun v17 =>
     some (v17.1, v17.2.1, v17.2.2.1, v17.2.2.2.1, pr4 v17, pr5 v17, pr6 v17, pr7 v17, pr8 v17, pr9 v17, pr10 v17, pr11 v17, pr12 v17, pr13 v17, pr14 v17, pr15 v17, pr16 v17, pr17 v17, pr18 v17, pr19 v17, pr20 v17, pr21 v17, er22 v17, 0))
def pack (t : Bool) (r : WT) (c : Int) (cb : Bool) (imm : Int) (x : MT) : Bool × MC (Bool × Int × Bool × Int × Int × Int × Int × Int × Int × Int × Int × Int × Int × Int × Bool × Bool × (List UInt8) × Int × Int × (List UInt8) × Int × Bool × Int × (List UInt8) × (List UInt8) × (List Int) × Int × Int × Int × Int × Int × Int × Int × Int × Int × Int × Int × Bool × Bool × (List UInt8) × Int × Int × (List UInt8) × Int × Bool × Int × (List UInt8) × (List UInt8) × (List Int) × Int) := (t, r.1, r.2.1, r.2.2.1, r.2.2.2.1, r.2.2.2.2.1, r.2.2.2.2.2.1, r.2.2.2.2.2.2.1, r.2.2.2.2.2.2.2.1, r.2.2.2.2.2.2.2.2.1, r.2.2.2.2.2.2.2.2.2.1, r.2.2.2.2.2.2.2.2.2.2.1, r.2.2.2.2.2.2.2.2.2.2.2.1, r.2.2.2.2.2.2.2.2.2.2.2.2.1, r.2.2.2.2.2.2.2.2.2.2.2.2.2.1, r.2.2.2.2.2.2.2.2.2.2.2.2.2.2.1, r.2.2.2.2.2.2.2.2.2.2.2.2.2.2.2.1, r.2.2.2.2.2.2.2.2.2.2.2.2.2.2.2.2.1, r.2.2.2.2.2.2.2.2.2.2.2.2.2.2.2.2.2.1, r.2.2.2.2.2.2.2.2.2.2.2.2.2.2.2.2.2.2.1, r.2.2.2.2.2.2.2.2.2.2.2.2.2.2.2.2.2.2.2.1, r.2.2.2.2.2.2.2.2.2.2.2.2.2.2.2.2.2.2.2.2.1, r.2.2.2.2.2.2.2.2.2.2.2.2.2.2.2.2.2.2.2.2.2.1, cyc r, r.2.2.2.2.2.2.2.2.2.2.2.2.2.2.2.2.2.2.2.2.2.2.2, c, cb, imm, 0, 0, 0, 0, 0, 0, 0, 0, 0, 0, false, false, [], 0, 0, [], 0, false, 0, [], [], [], 0, x)
theorem D62_eq (K : Nat) (x : MT) (v1 : Int × Bool × Int × Int) : D62 K x v1 = bindO (spD K v1.1 v1.2.1 v1.2.2.1 (setPc x.w (Int.tmod (w64 (x.2.2.2.2.2.2.2.2.2.1 + v1.2.2.2)) 65536))) fun r => some (pack r.1 r.2 v1.1 v1.2.1 v1.2.2.1 x) := by
  unfold D62 spD
  cases v1.2.1 with
  | true => simp only [branch_t, bind_bind, bindO_s]; rfl
  | false =>
    simp only [branch_f]
    cases decide (v1.1 < 64) with
    | true => simp only [branch_t, bind_bind, bindO_s]; rfl
    | false =>
      simp only [branch_f]
      cases decide (v1.1 = 118) with
      | true => rfl
      | false =>
        simp only [branch_f]
        cases decide (v1.1 < 128) with
        | true => simp only [branch_t, bind_bind, bindO_s]; rfl
        | false =>
          simp only [branch_f]
          cases decide (v1.1 < 192) with
          | true => simp only [branch_t, bind_bind, bindO_s]; rfl
          | false => simp only [branch_f, bind_bind, bindO_s]; rfl
end Go.U.Tryz
namespace Go.U.Tryz
open Go Go.U
set_option maxRecDepth 20000
def G60 (v0 : Int × Bool × Int × Int × Int × Int × Int × Int × Int × Int × Int × Int × Int × Int × Bool × Bool × (List UInt8) × Int × Int × (List UInt8) × Int × Bool × Int × (List UInt8) × (List UInt8) × (List Int) × Int) (v1 : Bool × AT) (v2 : Int) : Option (MC (Int)) :=
  bindO (α := Bool × MC (Int × Int × Int × Int × Int × Int × Int × Int × Int × Int × Bool × Bool × (List UInt8) × Int × Int × (List UInt8) × Int × Bool × Int × (List UInt8) × (List UInt8) × (List Int) × Int × Int × Int × Int × Int × Int × Int × Int × Int × Int × Int × Bool × Bool × (List UInt8) × Int × Int × (List UInt8) × Int × Bool × Int × (List UInt8) × (List UInt8) × (List Int) × Int)) (branch (pr4 v1)
       (some (true, pr5 v1, pr6 v1, pr7 v1, pr8 v1, pr9 v1, pr10 v1, pr11 v1, pr12 v1, pr13 v1, pr14 v1, pr15 v1, pr16 v1, pr17 v1, pr18 v1, pr19 v1, pr20 v1, pr21 v1, pr22 v1, pr23 v1, pr24 v1, (q24 v1).2.1, (q24 v1).2.2.1, w64 ((q24 v1).2.2.2 + v2), 0, 0, 0, 0, 0, 0, 0, 0, 0, 0, false, false, [], 0, 0, [], 0, false, 0, [], [], [], 0, er4 v0))
       (some (decide (1000000000 < (w64 ((q24 v1).2.2.2 + v2))), pr5 v1, pr6 v1, pr7 v1, pr8 v1, pr9 v1, pr10 v1, pr11 v1, pr12 v1, pr13 v1, pr14 v1, pr15 v1, pr16 v1, pr17 v1, pr18 v1, pr19 v1, pr20 v1, pr21 v1, pr22 v1, pr23 v1, pr24 v1, (q24 v1).2.1, (q24 v1).2.2.1, w64 ((q24 v1).2.2.2 + v2), 0, 0, 0, 0, 0, 0, 0, 0, 0, 0, false, false, [], 0, 0, [], 0, false, 0, [], [], [], 0, er4 v0))) fun v3 =>
    branch v3.1
     (some (pr23 (q24 v3), pr24 (q24 v3), (q24 (q24 v3)).2.1, (q24 (q24 v3)).2.2.1, (q24 (q24 v3)).2.2.2.1, pr4 (q24 (q24 v3)), pr5 (q24 (q24 v3)), pr6 (q24 (q24 v3)), pr7 (q24 (q24 v3)), pr8 (q24 (q24 v3)), pr9 (q24 (q24 v3)), pr10 (q24 (q24 v3)), pr11 (q24 (q24 v3)), pr12 (q24 (q24 v3)), pr13 (q24 (q24 v3)), pr14 (q24 (q24 v3)), pr15 (q24 (q24 v3)), pr16 (q24 (q24 v3)), pr17 (q24 (q24 v3)), pr18 (q24 (q24 v3)), pr19 (q24 (q24 v3)), pr20 (q24 (q24 v3)), er21 (q24 (q24 v3)), 4))
     (some (v3.2.1, v3.2.2.1, v3.2.2.2.1, pr4 v3, pr5 v3, pr6 v3, pr7 v3, pr8 v3, pr9 v3, pr10 v3, pr11 v3, pr12 v3, pr13 v3, pr14 v3, pr15 v3, pr16 v3, pr17 v3, pr18 v3, pr19 v3, pr20 v3, pr21 v3, pr22 v3, pr23 v3, 0))
def out (w : WT) (c : Int) : MC (Int) := (w.1, w.2.1, w.2.2.1, w.2.2.2.1, w.2.2.2.2.1, w.2.2.2.2.2.1, w.2.2.2.2.2.2.1, w.2.2.2.2.2.2.2.1, w.2.2.2.2.2.2.2.2.1, w.2.2.2.2.2.2.2.2.2.1, w.2.2.2.2.2.2.2.2.2.2.1, w.2.2.2.2.2.2.2.2.2.2.2.1, w.2.2.2.2.2.2.2.2.2.2.2.2.1, w.2.2.2.2.2.2.2.2.2.2.2.2.2.1, w.2.2.2.2.2.2.2.2.2.2.2.2.2.2.1, w.2.2.2.2.2.2.2.2.2.2.2.2.2.2.2.1, w.2.2.2.2.2.2.2.2.2.2.2.2.2.2.2.2.1, w.2.2.2.2.2.2.2.2.2.2.2.2.2.2.2.2.2.1, w.2.2.2.2.2.2.2.2.2.2.2.2.2.2.2.2.2.2.1, w.2.2.2.2.2.2.2.2.2.2.2.2.2.2.2.2.2.2.2.1, w.2.2.2.2.2.2.2.2.2.2.2.2.2.2.2.2.2.2.2.2.1, w.2.2.2.2.2.2.2.2.2.2.2.2.2.2.2.2.2.2.2.2.2.1, w.2.2.2.2.2.2.2.2.2.2.2.2.2.2.2.2.2.2.2.2.2.2.1, c)
def fin (b : Bool) (w w' : WT) (n : Int) : MC (Int) := cond b (out w 4) (out (setCyc w' n) 0)
theorem G60_eq (c : Int) (cb : Bool) (imm n l : Int) (t : Bool) (w w' : WT) (r : Int × Bool × Int) :
    G60 (r.1, r.2.1, r.2.2, l, WT.m w) (t, A c cb imm w') n = some (fin (w'.2.2.2.2.2.2.2.2.2.2.2.2.2.2.2.2.2.2.2.2.2.2.2 || decide (1000000000 < w64 (cyc w' + n))) w w' (w64 (cyc w' + n))) := by
  unfold G60
  dsimp only [A, pr4, er4, pr5, er5, pr6, er6, pr7, pr8, pr9, pr10, pr11, pr12, pr13, pr14, er14, pr15, pr16, pr17, pr18, pr19, pr20, pr21, er21, pr22, er22, pr23, er23, pr24, er24, q24]
  generalize w'.2.2.2.2.2.2.2.2.2.2.2.2.2.2.2.2.2.2.2.2.2.2.2 = q
  cases q with
  | true => rfl
  | false =>
    simp only [branch_f, bindO_s, Bool.false_or]
    show branch (decide (1000000000 < w64 (cyc w' + n))) _ _ = _
    generalize decide (1000000000 < w64 (cyc w' + n)) = b
    cases b <;> rfl
theorem R62_eq (k : Nat) (c : Int) (cb : Bool) (imm n : Int) (t : Bool) (w w' : WT) (h : WInv w) (h' : WInv w') (e : F118 (k + 40) (c, cb, t) = some n) (ec : cyc w' = cyc w) :
    R62 (k + 40) (pack t w' c cb imm (WT.m w)) = some (fin (w'.2.2.2.2.2.2.2.2.2.2.2.2.2.2.2.2.2.2.2.2.2.2.2 || decide (1000000000 < w64 (cyc w' + n))) w w' (w64 (cyc w' + n))) := by
  have o1 : F89 (k + 40) (WT.m w) = some (WT.m w) := F89_eq (k + 40) (WT.m w) h.out.2
  have o2 : ∀ x, F89 (k + 40) (WT.m (setCyc w' x)) = some (WT.m (setCyc w' x)) := fun x => F89_eq (k + 40) (WT.m (setCyc w' x)) h'.out.2
  unfold R62
  refine (congrArg (fun z => bindO z _) e).trans ?_
  simp only [bindO_s]
  dsimp only [pack, pr4, er4, pr5, er5, pr6, er6, pr7, pr8, pr9, pr10, pr11, pr12, pr13, pr14, er14, pr15, pr16, pr17, pr18, pr19, pr20, pr21, er21, pr22, er22, pr23, er23, pr24, er24, q24]
  rw [ec]
  generalize w'.2.2.2.2.2.2.2.2.2.2.2.2.2.2.2.2.2.2.2.2.2.2.2 = q
  cases q with
  | true =>
    simp only [branch_t, bindO_s, Bool.true_or]
    refine (congrArg (fun z => bindO (bindO z _) _) o1).trans ?_
    rfl
  | false =>
    simp only [branch_f, bindO_s, Bool.false_or]
    show bindO (branch (decide (1000000000 < w64 (cyc w + n))) _ _) _ = _
    generalize decide (1000000000 < w64 (cyc w + n)) = b
    cases b with
    | true =>
      simp only [branch_t]
      refine (congrArg (fun z => bindO (bindO z _) _) o1).trans ?_
      rfl
    | false =>
      simp only [branch_f, bindO_s, csO_r]
      refine (congrArg (fun z => bindO z _) (o2 (w64 (cyc w + n)))).trans ?_
      rfl
theorem spD_t (K : Nat) (c : Int) (cb : Bool) (imm : Int) (w : WT) (h : WInv w) (hc : 0 ≤ c ∧ c ≤ 255) (hi : 0 ≤ imm ∧ imm ≤ 65535) (h6 : cb = false → c % 8 = 6 → imm ≤ 255) :
    T (spD K c cb imm w) fun r => WInv r.2 := by
  have hz : 0 ≤ Int.tmod c 8 ∧ Int.tmod c 8 ≤ 7 := by (((try (simp (disch := omega) only [w64_id, w64u_id, tmE, tdE])); first | omega | done))
  unfold spD
  refine T.br (fun _ => T.bind (F112_t _ _ h _ _ _ hc) fun r hr => T.ret hr) fun gcb => ?_
  refine T.br (fun g2 => F113_t _ _ h _ _ _ ⟨hc.1, by have := of_decide_eq_true g2; omega⟩ hi (h6 gcb)) fun _ => ?_
  refine T.br (fun _ => T.ret (h.set_halted true)) fun _ => ?_
  refine T.br (fun _ => T.bind (F115_t _ _ h _ hz) fun r hr => T.bind (F114_t _ _ h _ _ hr.1) fun r2 hr2 => T.ret hr2) fun _ => ?_
  refine T.br (fun _ => T.bind (F115_t _ _ h _ hz) fun r hr => T.bind (F116_t _ _ _ _ _ h.a hr.1 ⟨h.f.1, h.f.2.1⟩) fun r2 hr2 => T.ret (h.set_af hr2.1 hr2.2)) fun _ => ?_
  exact F117_t _ _ h _ _ _ hc hi (h6 gcb)
theorem step_eq (k : Nat) (w : WT) (h : WInv w) : F60 (k + 40) (WT.m w) = F62 (k + 40) (WT.m w) := by
  have o1 : F89 (k + 40) (WT.m w) = some (WT.m w) := F89_eq (k + 40) (WT.m w) h.out.2
  have l : F60 (k + 40) (WT.m w) = branch w.2.2.2.2.2.2.2.2.2.2.2.1 (some (out w 1)) (bindO (F98 (k + 40) (WT.m w)) fun v0 => branch (decide (v0.2.2.2.1 = 0)) (some (out (MT.w v0.2.2.2.2) 2)) (bindO (F110 (k + 40) (A v0.1 v0.2.1 v0.2.2.1 (setPc (MT.w v0.2.2.2.2) (bits .and .i64 (w64 (v0.2.2.2.2.2.2.2.2.2.2.2.2.2.1 + v0.2.2.2.1)) 65535)))) fun v1 => bindO (F26 (k + 40) (v0.1, v0.2.1, v1.1)) fun v2 => G60 v0 v1 v2)) := rfl
  have r : F62 (k + 40) (WT.m w) = branch w.2.2.2.2.2.2.2.2.2.2.2.1 (bindO (F89 (k + 40) (WT.m w)) fun v0 => some (out (MT.w v0) 1)) (bindO (F100 (k + 40) (WT.m w)) fun v1 => branch (decide (v1.2.2.2 = 0)) (bindO (F89 (k + 40) (WT.m w)) fun v2 => some (out (MT.w v2) 2)) (bindO (D62 (k + 40) (WT.m w) v1) fun v10 => R62 (k + 40) v10)) := rfl
  rw [l, r, o1]
  cases w.2.2.2.2.2.2.2.2.2.2.2.1 with
  | true => rfl
  | false =>
    simp only [branch_f]
    obtain ⟨⟨c, cb, imm, n⟩, e1, e2, e3⟩ := fetch3 k w h
    rw [e1, e2]
    simp only [bindO_s]
    by_cases g : n = 0
    · rw [decide_eq_true g]; rfl
    · rw [decide_eq_false g]
      simp only [branch_f]
      obtain ⟨hc, him, hn, hv⟩ : _ ∧ _ ∧ _ ∧ _ := e3.resolve_left g
      dsimp only at hc him hn hv
      have hp := h.pc
      have hm : Int.tmod (w64 (w.2.2.2.2.2.2.2.2.2.1 + n)) 65536 = bits .and .i64 (w64 (w.2.2.2.2.2.2.2.2.2.1 + n)) 65535 := by rw [w64_id (by omega) (by omega), and65535, tmE (by omega)]
      have hp2 : 0 ≤ bits .and .i64 (w64 (w.2.2.2.2.2.2.2.2.2.1 + n)) 65535 ∧ bits .and .i64 (w64 (w.2.2.2.2.2.2.2.2.2.1 + n)) 65535 ≤ 65535 := by rw [and65535]; omega
      rw [D62_eq]
      show bindO (F110 (k + 40) (A c cb imm (setPc (MT.w (WT.m w)) (bits .and .i64 (w64 (w.2.2.2.2.2.2.2.2.2.1 + n)) 65535)))) (fun v1 => bindO (F26 (k + 40) (c, cb, v1.1)) fun v2 => G60 (c, cb, imm, n, WT.m w) v1 v2) = bindO (bindO (spD (k + 40) c cb imm (setPc (MT.w (WT.m w)) (Int.tmod (w64 (w.2.2.2.2.2.2.2.2.2.1 + n)) 65536))) fun r => some (pack r.1 r.2 c cb imm (WT.m w))) fun v10 => R62 (k + 40) v10
      rw [hm]
      have hw : WInv (setPc (MT.w (WT.m w)) (bits .and .i64 (w64 (w.2.2.2.2.2.2.2.2.2.1 + n)) 65535)) := (h.set_full false).set_pc hp2
      obtain ⟨t, t', w', q1, q2, q3, q4⟩ := run_eq (k + 40) c cb imm _ hw hc him hv
      obtain ⟨⟨t2, w2⟩, q5, q6⟩ := spD_t (k + 40) c cb imm _ hw hc him (fun a b => (hv a).2 (.inl b))
      rw [q2] at q5
      have q7 := Option.some.inj q5
      have q8 : w' = w2 := congrArg Prod.snd q7
      have hw' : WInv w' := by rw [q8]; exact q6
      rw [q1, q2]
      simp only [bindO_s]
      obtain ⟨n6, z1, z2⟩ := F118_t k c cb t' hc
      have z3 := cyc2 k c cb hc (fun a => (hv a).1) t t' (fun a => q4 (by rw [a.1, a.2]; rfl))
      rw [z3, z1]
      simp only [bindO_s]
      rw [R62_eq k c cb imm n6 t' w w' h hw' z1 q3]
      exact G60_eq c cb imm n6 n t w w' (c, cb, imm)
end Go.U.Tryz
namespace Go.U.Tryz
open Go Go.U
set_option maxRecDepth 20000
theorem F77_eq (K : Nat) (xs : List Int) (hl : xs.length ≤ maxLen) (hK : xs.length < K) : F77 K (xs, xs) = some true := by
  unfold maxLen at hl
  have h := loop_all (f := F77_b0 K) (fun i => (xs, xs, (i : Int))) xs (fun _ => true) (.inl false) (.inr ()) (fun i v hv hi => by
    have e1 : ((i : Int) < (xs.length : Int)) := by omega
    have e3 : w64 ((i : Int) + 1) = ((i + 1 : Nat) : Int) := by rw [w64_id (by omega) (by omega)]; omega
    simp only [F77_b0, branch_ite, if_pos e1, nth_s hv, e3, decide_true, Bool.not_true, branch_f, cond]) (by
    have e1 : ¬ ((xs.length : Int) < (xs.length : Int)) := by omega
    simp only [F77_b0, branch_ite, if_neg e1]) K hK
  replace h : iter K (F77_b0 K) (xs, xs, 0) = _ := h
  simp only [F77, decide_true, Bool.not_true, branch_f, h, bindO_s]
  rw [List.all_eq_true.2 (fun _ _ => rfl)]
  rfl
structure Sm (m : MT) : Prop where
  rom : m.2.2.2.2.2.2.2.2.2.2.2.2.1.length ≤ maxLen
  out : m.2.2.2.2.2.2.2.2.2.2.2.2.2.2.2.2.2.2.2.2.2.1.length ≤ 1048576
abbrev cat {α : Type} (m : MT) (t : α) := (m.1, m.2.1, m.2.2.1, m.2.2.2.1, m.2.2.2.2.1, m.2.2.2.2.2.1, m.2.2.2.2.2.2.1, m.2.2.2.2.2.2.2.1, m.2.2.2.2.2.2.2.2.1, m.2.2.2.2.2.2.2.2.2.1, m.2.2.2.2.2.2.2.2.2.2.1, m.2.2.2.2.2.2.2.2.2.2.2.1, m.2.2.2.2.2.2.2.2.2.2.2.2.1, m.2.2.2.2.2.2.2.2.2.2.2.2.2.1, m.2.2.2.2.2.2.2.2.2.2.2.2.2.2.1, m.2.2.2.2.2.2.2.2.2.2.2.2.2.2.2.1, m.2.2.2.2.2.2.2.2.2.2.2.2.2.2.2.2.1, m.2.2.2.2.2.2.2.2.2.2.2.2.2.2.2.2.2.1, m.2.2.2.2.2.2.2.2.2.2.2.2.2.2.2.2.2.2.1, m.2.2.2.2.2.2.2.2.2.2.2.2.2.2.2.2.2.2.2.1, m.2.2.2.2.2.2.2.2.2.2.2.2.2.2.2.2.2.2.2.2.1, m.2.2.2.2.2.2.2.2.2.2.2.2.2.2.2.2.2.2.2.2.2.1, m.2.2.2.2.2.2.2.2.2.2.2.2.2.2.2.2.2.2.2.2.2.2, t)
abbrev ocat {α : Type} (m : MT) (t : α) := (m.1, m.2.1, m.2.2.1, m.2.2.2.1, m.2.2.2.2.1, m.2.2.2.2.2.1, m.2.2.2.2.2.2.1, m.2.2.2.2.2.2.2.1, m.2.2.2.2.2.2.2.2.1, m.2.2.2.2.2.2.2.2.2.1, m.2.2.2.2.2.2.2.2.2.2.1, m.2.2.2.2.2.2.2.2.2.2.2.1, m.2.2.2.2.2.2.2.2.2.2.2.2.1, m.2.2.2.2.2.2.2.2.2.2.2.2.2.1, m.2.2.2.2.2.2.2.2.2.2.2.2.2.2.1, m.2.2.2.2.2.2.2.2.2.2.2.2.2.2.2.1, m.2.2.2.2.2.2.2.2.2.2.2.2.2.2.2.2.1, m.2.2.2.2.2.2.2.2.2.2.2.2.2.2.2.2.2.1, m.2.2.2.2.2.2.2.2.2.2.2.2.2.2.2.2.2.2.1, m.2.2.2.2.2.2.2.2.2.2.2.2.2.2.2.2.2.2.2.1, m.2.2.2.2.2.2.2.2.2.2.2.2.2.2.2.2.2.2.2.2.1, m.2.2.2.2.2.2.2.2.2.2.2.2.2.2.2.2.2.2.2.2.2.2, t)
abbrev outM (m : MT) : List Int := m.2.2.2.2.2.2.2.2.2.2.2.2.2.2.2.2.2.2.2.2.2.1
abbrev OT := Int × Int × Int × Int × Int × Int × Int × Int × Int × Int × Bool × Bool × (List UInt8) × Int × Int × (List UInt8) × Int × Bool × Int × (List UInt8) × (List UInt8) × Int × List Int
def ofO (m : MT) : OT := (m.1, m.2.1, m.2.2.1, m.2.2.2.1, m.2.2.2.2.1, m.2.2.2.2.2.1, m.2.2.2.2.2.2.1, m.2.2.2.2.2.2.2.1, m.2.2.2.2.2.2.2.2.1, m.2.2.2.2.2.2.2.2.2.1, m.2.2.2.2.2.2.2.2.2.2.1, m.2.2.2.2.2.2.2.2.2.2.2.1, m.2.2.2.2.2.2.2.2.2.2.2.2.1, m.2.2.2.2.2.2.2.2.2.2.2.2.2.1, m.2.2.2.2.2.2.2.2.2.2.2.2.2.2.1, m.2.2.2.2.2.2.2.2.2.2.2.2.2.2.2.1, m.2.2.2.2.2.2.2.2.2.2.2.2.2.2.2.2.1, m.2.2.2.2.2.2.2.2.2.2.2.2.2.2.2.2.2.1, m.2.2.2.2.2.2.2.2.2.2.2.2.2.2.2.2.2.2.1, m.2.2.2.2.2.2.2.2.2.2.2.2.2.2.2.2.2.2.2.1, m.2.2.2.2.2.2.2.2.2.2.2.2.2.2.2.2.2.2.2.2.1, m.2.2.2.2.2.2.2.2.2.2.2.2.2.2.2.2.2.2.2.2.2.2, m.2.2.2.2.2.2.2.2.2.2.2.2.2.2.2.2.2.2.2.2.2.1)
theorem F33_m (K : Nat) (m : MT) (h : Sm m) (hK : m.2.2.2.2.2.2.2.2.2.2.2.2.2.2.2.2.2.2.2.2.2.1.length + 8 < K) : ∃ b, F33 K m = some b ∧ F32 K m = some b ∧ (b = true → WInv m.w) := by
  have h1 := h.rom
  have h2 : m.2.2.2.2.2.2.2.2.2.2.2.2.2.2.2.2.2.2.2.2.2.1.length ≤ maxLen := by have := h.out; unfold maxLen; omega
  refine ⟨_, F33_eq K m.1 m.2.1 m.2.2.1 m.2.2.2.1 m.2.2.2.2.1 m.2.2.2.2.2.1 m.2.2.2.2.2.2.1 m.2.2.2.2.2.2.2.1 m.2.2.2.2.2.2.2.2.1 m.2.2.2.2.2.2.2.2.2.1 m.2.2.2.2.2.2.2.2.2.2.1 m.2.2.2.2.2.2.2.2.2.2.2.1 m.2.2.2.2.2.2.2.2.2.2.2.2.1 m.2.2.2.2.2.2.2.2.2.2.2.2.2.1 m.2.2.2.2.2.2.2.2.2.2.2.2.2.2.1 m.2.2.2.2.2.2.2.2.2.2.2.2.2.2.2.1 m.2.2.2.2.2.2.2.2.2.2.2.2.2.2.2.2.1 m.2.2.2.2.2.2.2.2.2.2.2.2.2.2.2.2.2.1 m.2.2.2.2.2.2.2.2.2.2.2.2.2.2.2.2.2.2.1 m.2.2.2.2.2.2.2.2.2.2.2.2.2.2.2.2.2.2.2.1 m.2.2.2.2.2.2.2.2.2.2.2.2.2.2.2.2.2.2.2.2.1 m.2.2.2.2.2.2.2.2.2.2.2.2.2.2.2.2.2.2.2.2.2.1 m.2.2.2.2.2.2.2.2.2.2.2.2.2.2.2.2.2.2.2.2.2.2 h1 h2 hK, F32_eq K m.1 m.2.1 m.2.2.1 m.2.2.2.1 m.2.2.2.2.1 m.2.2.2.2.2.1 m.2.2.2.2.2.2.1 m.2.2.2.2.2.2.2.1 m.2.2.2.2.2.2.2.2.1 m.2.2.2.2.2.2.2.2.2.1 m.2.2.2.2.2.2.2.2.2.2.1 m.2.2.2.2.2.2.2.2.2.2.2.1 m.2.2.2.2.2.2.2.2.2.2.2.2.1 m.2.2.2.2.2.2.2.2.2.2.2.2.2.1 m.2.2.2.2.2.2.2.2.2.2.2.2.2.2.1 m.2.2.2.2.2.2.2.2.2.2.2.2.2.2.2.1 m.2.2.2.2.2.2.2.2.2.2.2.2.2.2.2.2.1 m.2.2.2.2.2.2.2.2.2.2.2.2.2.2.2.2.2.1 m.2.2.2.2.2.2.2.2.2.2.2.2.2.2.2.2.2.2.1 m.2.2.2.2.2.2.2.2.2.2.2.2.2.2.2.2.2.2.2.1 m.2.2.2.2.2.2.2.2.2.2.2.2.2.2.2.2.2.2.2.2.1 m.2.2.2.2.2.2.2.2.2.2.2.2.2.2.2.2.2.2.2.2.2.1 m.2.2.2.2.2.2.2.2.2.2.2.2.2.2.2.2.2.2.2.2.2.2 h1 h2 hK, fun e => WInv.of e false⟩
theorem F61o_m (K : Nat) (m : MT) (h : m.2.2.2.2.2.2.2.2.2.2.2.2.2.2.2.2.2.2.2.2.2.1.length ≤ 100) : F61o K m = some (ofO m) := by
  have e1 : F111 K m.2.2.2.2.2.2.2.2.2.2.2.2.2.2.2.2.2.2.2.2.2.1 = some m.2.2.2.2.2.2.2.2.2.2.2.2.2.2.2.2.2.2.2.2.2.1 := by
    unfold F111 cloneF
    exact guard_dec (by omega)
  unfold F61o
  rw [e1]
  rfl
def mOf (r : MC (Int)) : MT := (r.1, r.2.1, r.2.2.1, r.2.2.2.1, r.2.2.2.2.1, r.2.2.2.2.2.1, r.2.2.2.2.2.2.1, r.2.2.2.2.2.2.2.1, r.2.2.2.2.2.2.2.2.1, r.2.2.2.2.2.2.2.2.2.1, r.2.2.2.2.2.2.2.2.2.2.1, r.2.2.2.2.2.2.2.2.2.2.2.1, r.2.2.2.2.2.2.2.2.2.2.2.2.1, r.2.2.2.2.2.2.2.2.2.2.2.2.2.1, r.2.2.2.2.2.2.2.2.2.2.2.2.2.2.1, r.2.2.2.2.2.2.2.2.2.2.2.2.2.2.2.1, r.2.2.2.2.2.2.2.2.2.2.2.2.2.2.2.2.1, r.2.2.2.2.2.2.2.2.2.2.2.2.2.2.2.2.2.1, r.2.2.2.2.2.2.2.2.2.2.2.2.2.2.2.2.2.2.1, r.2.2.2.2.2.2.2.2.2.2.2.2.2.2.2.2.2.2.2.1, r.2.2.2.2.2.2.2.2.2.2.2.2.2.2.2.2.2.2.2.2.1, r.2.2.2.2.2.2.2.2.2.2.2.2.2.2.2.2.2.2.2.2.2.1, r.2.2.2.2.2.2.2.2.2.2.2.2.2.2.2.2.2.2.2.2.2.2.1)
theorem ff {c : Int} (g : (!(decide (c = c))) = true) : False := by rw [decide_eq_true rfl] at g; cases g
def Z : MT := (0, 0, 0, 0, 0, 0, 0, 0, 0, 0, false, false, [], 0, 0, [], 0, false, 0, [], [], [], 0)
end Go.U.Tryz
namespace Go.U.Tryz
open Go Go.U
set_option maxRecDepth 20000
abbrev zst (n c i : Int) (m : MT) : Int × Int × Int × MC (Int × Int × Int × Int × Int × Int × Int × Int × Int × Int × Bool × Bool × (List UInt8) × Int × Int × (List UInt8) × Int × Bool × Int × (List UInt8) × (List UInt8) × (List Int) × Int) := (n, c, i, 0, 0, 0, 0, 0, 0, 0, 0, 0, 0, false, false, [], 0, 0, [], 0, false, 0, [], [], [], 0, m)
abbrev zrs (c i : Int) (m : MT) : Int × Int × MC (Int × Int × Int × Int × Int × Int × Int × Int × Int × Int × Bool × Bool × (List UInt8) × Int × Int × (List UInt8) × Int × Bool × Int × (List UInt8) × (List UInt8) × (List Int) × Int) := (c, i, 0, 0, 0, 0, 0, 0, 0, 0, 0, 0, false, false, [], 0, 0, [], 0, false, 0, [], [], [], 0, m)
end Go.U.Tryz
namespace Go.U.Tryz
open Go Go.U
set_option maxRecDepth 20000
theorem F131_eq (K : Nat) (rom : List UInt8) (k1 k2 : Int) (ram : List UInt8) (k3 : Int) (kb : Bool) (k4 : Int) (hr : rom.length ≤ maxLen) (h : cartOk rom k1 k2 ram k3 kb k4 = true) : F131 K (rom, k1, k2, ram, k3, kb, k4) = some (Int.tmod k2 (banks rom)) := by
  have hb : ¬ banks rom = 0 := fun e => by simp [cartOk, e] at h
  simp only [F131, F86_eq K rom k1 k2 ram k3 kb k4 hr, h, bindO_s, Bool.not_true, branch_f, F127_eq K rom hr, decide_eq_false hb, Bool.not_false, guard_t]
theorem F130_eq (K : Nat) (rom : List UInt8) (k1 k2 : Int) (ram : List UInt8) (k3 : Int) (kb : Bool) (k4 : Int) (hr : rom.length ≤ maxLen) (h : cartOk rom k1 k2 ram k3 kb k4 = true) : F130 K (rom, k1, k2, ram, k3, kb, k4) = some (Int.tmod k2 (banks rom)) := by
  have hb : ¬ banks rom = 0 := fun e => by simp [cartOk, e] at h
  have e : banks rom = ((rom.length / 256 : Nat) : Int) := by unfold banks at hb ⊢; split <;> simp_all
  rw [e] at hb ⊢
  simp only [F130, w64_len hr, decide_eq_false hb, Bool.not_false, guard_t]
end Go.U.Tryz
namespace Go.U.Tryz
open Go Go.U
set_option maxRecDepth 20000
def hitB (xs : List (Int × Int)) (v : Int × Int) : Bool := xs.any fun s => decide (s.1 = v.1) && decide (s.2 = v.2)
def misses (v s : Int × Int) : Bool := !(decide (s.1 = v.1) && decide (s.2 = v.2))
theorem hit_all (xs : List (Int × Int)) (v : Int × Int) : xs.all (misses v) = !hitB xs v := by
  induction xs with
  | nil => rfl
  | cons s xs ih =>
    simp only [List.all_cons, ih, hitB, List.any_cons, Bool.not_or, misses]
theorem at_both (K : Nat) (m : MT) (h : WInv m.w) : ∃ v, F94 K m = some v ∧ F93 K m = some v := by
  have hc : CInv m.2.2.2.2.2.2.2.2.2.2.2.2.1 m.2.2.2.2.2.2.2.2.2.2.2.2.2.1 m.2.2.2.2.2.2.2.2.2.2.2.2.2.2.1 m.2.2.2.2.2.2.2.2.2.2.2.2.2.2.2.1 m.2.2.2.2.2.2.2.2.2.2.2.2.2.2.2.2.1 m.2.2.2.2.2.2.2.2.2.2.2.2.2.2.2.2.2.1 m.2.2.2.2.2.2.2.2.2.2.2.2.2.2.2.2.2.2.1 := h.cart
  have hr : m.2.2.2.2.2.2.2.2.2.2.2.2.1.length ≤ maxLen := by have := hc.hrom; unfold maxLen; omega
  have e1 := F131_eq K m.2.2.2.2.2.2.2.2.2.2.2.2.1 m.2.2.2.2.2.2.2.2.2.2.2.2.2.1 m.2.2.2.2.2.2.2.2.2.2.2.2.2.2.1 m.2.2.2.2.2.2.2.2.2.2.2.2.2.2.2.1 m.2.2.2.2.2.2.2.2.2.2.2.2.2.2.2.2.1 m.2.2.2.2.2.2.2.2.2.2.2.2.2.2.2.2.2.1 m.2.2.2.2.2.2.2.2.2.2.2.2.2.2.2.2.2.2.1 hr hc.ok
  have e2 := F130_eq K m.2.2.2.2.2.2.2.2.2.2.2.2.1 m.2.2.2.2.2.2.2.2.2.2.2.2.2.1 m.2.2.2.2.2.2.2.2.2.2.2.2.2.2.1 m.2.2.2.2.2.2.2.2.2.2.2.2.2.2.2.1 m.2.2.2.2.2.2.2.2.2.2.2.2.2.2.2.2.1 m.2.2.2.2.2.2.2.2.2.2.2.2.2.2.2.2.2.1 m.2.2.2.2.2.2.2.2.2.2.2.2.2.2.2.2.2.2.1 hr hc.ok
  unfold F94 F93
  cases decide (m.2.2.2.2.2.2.2.2.2.1 < 256) with
  | true => exact ⟨_, rfl, rfl⟩
  | false =>
    cases decide (m.2.2.2.2.2.2.2.2.2.1 < 512) with
    | true => simp only [branch_f, branch_t]; rw [e1, e2]; exact ⟨_, rfl, rfl⟩
    | false => exact ⟨_, rfl, rfl⟩
theorem F92_eq (K : Nat) (xs : List (Int × Int)) (v : Int × Int) (hl : xs.length ≤ 1000) (hK : xs.length < K) : F92 K (xs, v) = some (hitB xs v) := by
  obtain ⟨b, h1, h2⟩ := iter_inv (f := F129_b0 K) (fun a => ∃ i : Nat, a = (xs, (xs.length : Int), (i : Int), v) ∧ i ≤ xs.length ∧ (xs.take i).all (misses v) = true) (fun a => xs.length - a.2.2.1.toNat) (fun b => (b = .inr () ∧ hitB xs v = false) ∨ ∃ i : Nat, b = .inl (i : Int) ∧ hitB xs v = true) (fun a ⟨i, g0, g1, g2⟩ => by
    subst g0
    by_cases g : i < xs.length
    · have c : ((i : Int) < (xs.length : Int)) := by omega
      have ei : w64 ((i : Int) + 1) = ((i + 1 : Nat) : Int) := by rw [w64_id (by omega) (by omega)]; omega
      have e4 : xs[i]? = some xs[i] := List.getElem?_eq_getElem g
      have es : (decide (v.1 = xs[i].1) && decide (v.2 = xs[i].2)) = !misses v xs[i] := by
        rw [misses, Bool.not_not]
        congr 1 <;> exact decide_eq_decide.2 eq_comm
      have et : xs.take (i + 1) = xs.take i ++ [xs[i]] := by rw [List.take_add_one, e4]; rfl
      cases hm : misses v xs[i] with
      | true =>
        refine .inl ⟨(xs, (xs.length : Int), ((i + 1 : Nat) : Int), v), ?_, ⟨i + 1, rfl, by omega, ?_⟩, by simp only [Int.toNat_natCast]; omega⟩
        · simp only [F129_b0, branch_ite, if_pos c, nth_s e4, es, hm, Bool.not_true, branch_f, ei]
        · rw [et, List.all_append, g2]; simp [hm]
      | false =>
        refine .inr ⟨.inl (i : Int), ?_, .inr ⟨i, rfl, ?_⟩⟩
        · simp only [F129_b0, branch_ite, if_pos c, nth_s e4, es, hm, Bool.not_false, branch_t]
        · have := hit_all xs v
          cases hh : hitB xs v with
          | true => rfl
          | false =>
            rw [hh] at this
            have := List.all_eq_true.1 this xs[i] (List.getElem_mem g)
            rw [hm] at this; cases this
    · have c : ¬ ((i : Int) < (xs.length : Int)) := by omega
      refine .inr ⟨.inr (), by simp only [F129_b0, branch_ite, if_neg c], .inl ⟨rfl, ?_⟩⟩
      have hi : i = xs.length := by omega
      subst hi
      rw [List.take_length, hit_all] at g2
      simpa using g2) K (xs, (xs.length : Int), 0, v) ⟨0, rfl, Nat.zero_le _, by simp⟩ (by simp; omega)
  unfold F92 F129
  rcases h2 with ⟨rfl, e⟩ | ⟨i, rfl, e⟩
  · rw [e]
    refine (congrArg (fun z => bindO (bindO z _) _) h1).trans rfl
  · rw [e]
    refine (congrArg (fun z => bindO (bindO z _) _) h1).trans ?_
    show some (decide (0 ≤ (i : Int))) = _
    rw [decide_eq_true (by omega)]
theorem F91_eq (K : Nat) (m : MT) (xs : List (Int × Int)) (v : Int × Int) (e : F93 K m = some v) (hl : xs.length ≤ 1000) (hK : xs.length < K) : F91 K (cat m xs) = some (hitB xs v, xs) := by
  unfold F91
  refine (congrArg (fun z => bindO z _) e).trans ?_
  simp only [bindO_s]
  refine (congrArg (fun z => bindO z _) (F92_eq K xs v hl hK)).trans ?_
  rfl
theorem b1_eq (K : Nat) (xs : List (Int × Int)) (n i : Int) (m x : MT) (v : Int × Int) (e : F94 K m = some v) (hl : xs.length ≤ 1000) (hK : xs.length < K) :
    iter K (F38_b1 K) (xs, n, i, 0, cat m x) = some (cond (hitB xs v) (.inl (cat m (0, w64 (i + 1)))) (.inr (xs, n, i, cat m x))) := by
  have h := loop_all (f := F38_b1 K) (fun j => (xs, n, i, (j : Int), cat m x)) xs (misses v) (.inl (cat m (0, w64 (i + 1)))) (.inr (xs, n, i, cat m x)) (fun j s hs hj => by
    have c : ((j : Int) < (xs.length : Int)) := by omega
    have ej : w64 ((j : Int) + 1) = ((j + 1 : Nat) : Int) := by rw [w64_id (by omega) (by omega)]; omega
    have es : (decide (s.1 = v.1) && decide (s.2 = v.2)) = !misses v s := by rw [misses, Bool.not_not]
    show branch (decide ((j : Int) < (xs.length : Int))) (nth xs (j : Int) fun v0 => bindO (F94 K m) fun v1 => branch ((decide (v0.1 = v1.1)) && (decide (v0.2 = v1.2))) (some (Sum.inr (Sum.inl (cat m (0, w64 (i + 1)))))) (some (Sum.inl (xs, n, i, w64 ((j : Int) + 1), cat m x)))) _ = _
    rw [decide_eq_true c, branch_t, nth_s hs, e, bindO_s, es, ej]
    cases misses v s <;> rfl) (by
    show branch (decide ((xs.length : Int) < (xs.length : Int))) _ _ = _
    rw [decide_eq_false (by omega)]; rfl) K hK
  rw [hit_all] at h
  refine h.trans ?_
  cases hitB xs v <;> rfl
abbrev zst2 (n c i : Int) (m : MT) (xs : List (Int × Int)) : Int × Int × Int × Int × Int × Int × Int × Int × Int × Int × Int × Int × Int × Bool × Bool × (List UInt8) × Int × Int × (List UInt8) × Int × Bool × Int × (List UInt8) × (List UInt8) × (List Int) × Int × Int × Int × Int × Int × Int × Int × Int × Int × Int × Int × Bool × Bool × (List UInt8) × Int × Int × (List UInt8) × Int × Bool × Int × (List UInt8) × (List UInt8) × (List Int) × Int × List (Int × Int) := (n, c, i, 0, 0, 0, 0, 0, 0, 0, 0, 0, 0, false, false, [], 0, 0, [], 0, false, 0, [], [], [], 0, m.1, m.2.1, m.2.2.1, m.2.2.2.1, m.2.2.2.2.1, m.2.2.2.2.2.1, m.2.2.2.2.2.2.1, m.2.2.2.2.2.2.2.1, m.2.2.2.2.2.2.2.2.1, m.2.2.2.2.2.2.2.2.2.1, m.2.2.2.2.2.2.2.2.2.2.1, m.2.2.2.2.2.2.2.2.2.2.2.1, m.2.2.2.2.2.2.2.2.2.2.2.2.1, m.2.2.2.2.2.2.2.2.2.2.2.2.2.1, m.2.2.2.2.2.2.2.2.2.2.2.2.2.2.1, m.2.2.2.2.2.2.2.2.2.2.2.2.2.2.2.1, m.2.2.2.2.2.2.2.2.2.2.2.2.2.2.2.2.1, m.2.2.2.2.2.2.2.2.2.2.2.2.2.2.2.2.2.1, m.2.2.2.2.2.2.2.2.2.2.2.2.2.2.2.2.2.2.1, m.2.2.2.2.2.2.2.2.2.2.2.2.2.2.2.2.2.2.2.1, m.2.2.2.2.2.2.2.2.2.2.2.2.2.2.2.2.2.2.2.2.1, m.2.2.2.2.2.2.2.2.2.2.2.2.2.2.2.2.2.2.2.2.2.1, m.2.2.2.2.2.2.2.2.2.2.2.2.2.2.2.2.2.2.2.2.2.2, xs)
abbrev zrs2 (c i : Int) (m : MT) (xs : List (Int × Int)) : Int × Int × Int × Int × Int × Int × Int × Int × Int × Int × Int × Int × Bool × Bool × (List UInt8) × Int × Int × (List UInt8) × Int × Bool × Int × (List UInt8) × (List UInt8) × (List Int) × Int × Int × Int × Int × Int × Int × Int × Int × Int × Int × Int × Bool × Bool × (List UInt8) × Int × Int × (List UInt8) × Int × Bool × Int × (List UInt8) × (List UInt8) × (List Int) × Int × List (Int × Int) := (c, i, 0, 0, 0, 0, 0, 0, 0, 0, 0, 0, false, false, [], 0, 0, [], 0, false, 0, [], [], [], 0, m.1, m.2.1, m.2.2.1, m.2.2.2.1, m.2.2.2.2.1, m.2.2.2.2.2.1, m.2.2.2.2.2.2.1, m.2.2.2.2.2.2.2.1, m.2.2.2.2.2.2.2.2.1, m.2.2.2.2.2.2.2.2.2.1, m.2.2.2.2.2.2.2.2.2.2.1, m.2.2.2.2.2.2.2.2.2.2.2.1, m.2.2.2.2.2.2.2.2.2.2.2.2.1, m.2.2.2.2.2.2.2.2.2.2.2.2.2.1, m.2.2.2.2.2.2.2.2.2.2.2.2.2.2.1, m.2.2.2.2.2.2.2.2.2.2.2.2.2.2.2.1, m.2.2.2.2.2.2.2.2.2.2.2.2.2.2.2.2.1, m.2.2.2.2.2.2.2.2.2.2.2.2.2.2.2.2.2.1, m.2.2.2.2.2.2.2.2.2.2.2.2.2.2.2.2.2.2.1, m.2.2.2.2.2.2.2.2.2.2.2.2.2.2.2.2.2.2.2.1, m.2.2.2.2.2.2.2.2.2.2.2.2.2.2.2.2.2.2.2.2.1, m.2.2.2.2.2.2.2.2.2.2.2.2.2.2.2.2.2.2.2.2.2.1, m.2.2.2.2.2.2.2.2.2.2.2.2.2.2.2.2.2.2.2.2.2.2, xs)
theorem to_loop (k : Nat) (n : Int) (xs : List (Int × Int)) (x : MT) (hn : n ≤ 500) (hl : xs.length ≤ 1000) (hK : xs.length < k + 40) : ∀ (j : Nat) (N : Nat) (i : Int) (m : MT), 0 ≤ i → n - i = (j : Int) → WInv m.w → j < N →
    ∃ (m' : MT) (c cnt : Int), iter N (F55s_b0 (k + 40)) (zst2 n 0 i m xs) = some (zrs2 c cnt m' xs) ∧
      (iter N (F38_b0 (k + 40)) (xs, n, i, cat m x) = some (.inl (cat m' (c, cnt))) ∨ (iter N (F38_b0 (k + 40)) (xs, n, i, cat m x) = some (.inr (n, cat m' x)) ∧ c = 0 ∧ cnt = n)) ∧ m'.2.2.2.2.2.2.2.2.2.2.2.2.2.2.2.2.2.2.2.2.2.1.length ≤ 100
  | j, 0, i, m, h0, hj, hw, hN => absurd hN (Nat.not_lt_zero _)
  | 0, N + 1, i, m, h0, hj, hw, hN => by
    have g : ¬ i < n := by omega
    refine ⟨m, 0, i, iter_end ?_, .inr ⟨iter_end ?_, rfl, by omega⟩, hw.out.2⟩
    · show branch (decide (i < n)) _ _ = _
      rw [decide_eq_false g]; rfl
    · show branch (decide (i < n)) _ _ = _
      rw [decide_eq_false g]; rfl
  | j + 1, N + 1, i, m, h0, hj, hw, hN => by
    have g : i < n := by omega
    obtain ⟨v, e1, e2⟩ := F62_t k m hw
    have e3 : F60 (k + 40) m = some v := (step_eq k m.w hw).trans e1
    have ei : w64 (i + 1) = i + 1 := w64_id (by omega) (by omega)
    by_cases hc : v.2.2.2.2.2.2.2.2.2.2.2.2.2.2.2.2.2.2.2.2.2.2.2 = 0
    · have hw' : WInv (mOf v).w := e2.1
      obtain ⟨a, a1, a2⟩ := at_both (k + 40) (mOf v) hw'
      have p1 : F55s_b0 (k + 40) (zst2 n 0 i m xs) = some (cond (hitB xs a) (.inr (zrs2 0 (i + 1) (mOf v) xs)) (.inl (zst2 n 0 (i + 1) (mOf v) xs))) := by
        show branch (decide (i < n)) (bindO (F60 (k + 40) m) _) _ = _
        rw [decide_eq_true g, e3, branch_t]
        show branch (!(decide (v.2.2.2.2.2.2.2.2.2.2.2.2.2.2.2.2.2.2.2.2.2.2.2 = 0))) _ (bindO (F91 (k + 40) (cat (mOf v) xs)) fun v1 => branch v1.1 (some (Sum.inr (zrs2 v.2.2.2.2.2.2.2.2.2.2.2.2.2.2.2.2.2.2.2.2.2.2.2 (w64 (i + 1)) (mOf v) v1.2))) (some (Sum.inl (zst2 n v.2.2.2.2.2.2.2.2.2.2.2.2.2.2.2.2.2.2.2.2.2.2.2 (w64 (i + 1)) (mOf v) v1.2)))) = _
        rw [decide_eq_true hc, Bool.not_true, branch_f]
        refine (congrArg (fun z => bindO z _) (F91_eq (k + 40) (mOf v) xs a a2 hl hK)).trans ?_
        simp only [bindO_s]
        rw [hc, ei]
        cases hitB xs a <;> rfl
      have p2 : F38_b0 (k + 40) (xs, n, i, cat m x) = some (cond (hitB xs a) (.inr (.inl (cat (mOf v) (0, i + 1)))) (.inl (xs, n, i + 1, cat (mOf v) x))) := by
        show branch (decide (i < n)) (bindO (F62 (k + 40) m) _) _ = _
        rw [decide_eq_true g, e1, branch_t]
        show branch (!(decide (v.2.2.2.2.2.2.2.2.2.2.2.2.2.2.2.2.2.2.2.2.2.2.2 = 0))) _ (bindO (iter (k + 40) (F38_b1 (k + 40)) (xs, n, i, 0, cat (mOf v) x)) fun v1 => csO v1 (fun v2 => some (Sum.inr (Sum.inl v2))) (fun v3 => some (Sum.inl (v3.1, v3.2.1, w64 (v3.2.2.1 + 1), v3.2.2.2)))) = _
        rw [decide_eq_true hc, Bool.not_true, branch_f]
        refine (congrArg (fun z => bindO z _) (b1_eq (k + 40) xs n i (mOf v) x a a1 hl hK)).trans ?_
        simp only [bindO_s]
        rw [ei]
        cases hitB xs a with
        | true => rfl
        | false =>
          show some (Sum.inl (xs, n, w64 (i + 1), cat (mOf v) x)) = _
          rw [ei]; rfl
      cases hh : hitB xs a with
      | true =>
        rw [hh] at p1 p2
        exact ⟨mOf v, 0, i + 1, iter_end p1, .inl (iter_end p2), hw'.out.2⟩
      | false =>
        rw [hh] at p1 p2
        obtain ⟨m', c, cnt, q1, q2, q4⟩ := to_loop k n xs x hn hl hK j N (i + 1) (mOf v) (by omega) (by omega) hw' (by omega)
        refine ⟨m', c, cnt, (iter_go p1).trans q1, ?_, q4⟩
        rcases q2 with q2 | ⟨q2, q3⟩
        · exact .inl ((iter_go p2).trans q2)
        · exact .inr ⟨(iter_go p2).trans q2, q3⟩
    · refine ⟨m, v.2.2.2.2.2.2.2.2.2.2.2.2.2.2.2.2.2.2.2.2.2.2.2, i, iter_end ?_, .inl (iter_end ?_), hw.out.2⟩
      · show branch (decide (i < n)) (bindO (F60 (k + 40) m) _) _ = _
        rw [decide_eq_true g, e3, branch_t]
        show branch (!(decide (v.2.2.2.2.2.2.2.2.2.2.2.2.2.2.2.2.2.2.2.2.2.2.2 = 0))) _ _ = _
        rw [decide_eq_false hc]
        rfl
      · show branch (decide (i < n)) (bindO (F62 (k + 40) m) _) _ = _
        rw [decide_eq_true g, e1, branch_t]
        show branch (!(decide (v.2.2.2.2.2.2.2.2.2.2.2.2.2.2.2.2.2.2.2.2.2.2.2 = 0))) _ _ = _
        rw [decide_eq_false hc]
        rfl
theorem to_both (k : Nat) (m : MT) (xs : List (Int × Int)) (n : Int) (h : Sm m) (hK : m.2.2.2.2.2.2.2.2.2.2.2.2.2.2.2.2.2.2.2.2.2.1.length + 8 < k + 600 + 40) : ∃ (m' : MT) (c cnt : Int),
    F38 (k + 600 + 40) (cat m (xs, n)) = some (cat m' (c, cnt)) ∧ F37 (k + 600 + 40) (cat m (xs, n)) = some (ocat m' (c, cnt, outM m')) ∧ m'.2.2.2.2.2.2.2.2.2.2.2.2.2.2.2.2.2.2.2.2.2.1.length ≤ 100 := by
  obtain ⟨b, e1, e2, e3⟩ := F33_m (k + 600 + 40) m h hK
  have bad : ∀ {P : Prop}, (T (F38 (k + 600 + 40) (cat m (xs, n))) (fun r => r = (0, 0, 0, 0, 0, 0, 0, 0, 0, 0, false, false, [], 0, 0, [], 0, false, 0, [], [], [], 0, 3, 0))) → (T (F37 (k + 600 + 40) (cat m (xs, n))) (fun r => r = (0, 0, 0, 0, 0, 0, 0, 0, 0, 0, false, false, [], 0, 0, [], 0, false, 0, [], [], 0, 3, 0, []))) → ∃ (m' : MT) (c cnt : Int),
    F38 (k + 600 + 40) (cat m (xs, n)) = some (cat m' (c, cnt)) ∧ F37 (k + 600 + 40) (cat m (xs, n)) = some (ocat m' (c, cnt, outM m')) ∧ m'.2.2.2.2.2.2.2.2.2.2.2.2.2.2.2.2.2.2.2.2.2.1.length ≤ 100 := by
    rintro - ⟨r1, q1, rfl⟩ ⟨r2, q2, rfl⟩
    exact ⟨Z, 3, 0, q1, q2, by simp [Z]⟩
  cases b with
  | false =>
    refine bad (P := True) ?_ ?_
    · unfold F38
      exact T.bindbind (T.bindbind (T.eq e1 (T.bindbr (fun _ => T.binds (T.bindbr (fun _ => T.binds (T.csl (T.ret rfl))) nofun)) nofun)))
    · unfold F37
      exact T.bindbind (T.bindbind (T.eq e2 (T.bindbr (fun _ => T.binds (T.bindbr (fun _ => T.binds (T.csl (T.ret rfl))) nofun)) nofun)))
  | true =>
    have hw := e3 rfl
    have a1 := F87_in (k + 600 + 40) n 0 500
    have a2 := F54_in (k + 600 + 40) n 0 500
    by_cases hl : 20 < (xs.length : Int)
    · refine bad (P := True) ?_ ?_
      · unfold F38
        exact T.bindbind (T.bindbind (T.eq e1 (T.bindbr nofun fun _ => T.bindbr (fun _ => T.binds (T.bindbr (fun _ => T.binds (T.csl (T.ret rfl))) nofun)) fun g => absurd hl (of_decide_eq_false g))))
      · unfold F37
        refine T.bindbind (T.bindbind (T.eq e2 (T.bindbr nofun fun _ => T.bindbind (T.eq a2 ?_))))
        cases inR n 0 500 with
        | false => exact T.bindbr (fun _ => T.binds (T.bindbr (fun _ => T.binds (T.csl (T.ret rfl))) nofun)) nofun
        | true => exact T.bindbr nofun fun _ => T.binds (T.bindbr (fun _ => T.binds (T.csl (T.ret rfl))) fun g => absurd hl (of_decide_eq_false g))
    · cases hr : inR n 0 500 with
      | false =>
        rw [hr] at a1 a2
        refine bad (P := True) ?_ ?_
        · unfold F38
          exact T.bindbind (T.bindbind (T.eq e1 (T.bindbr nofun fun _ => T.bindbr (fun g => absurd (of_decide_eq_true g) hl) fun _ => T.bindbind (T.eq a1 (T.binds (T.bindbr (fun _ => T.binds (T.csl (T.ret rfl))) nofun))))))
        · unfold F37
          exact T.bindbind (T.bindbind (T.eq e2 (T.bindbr nofun fun _ => T.bindbind (T.eq a2 (T.bindbr (fun _ => T.binds (T.bindbr (fun _ => T.binds (T.csl (T.ret rfl))) nofun)) nofun)))))
      | true =>
        rw [hr] at a1 a2
        have hn : 0 ≤ n ∧ n ≤ 500 := of_decide_eq_true hr
        have o1 : F89 (k + 600 + 40) m = some m := F89_eq (k + 600 + 40) m hw.out.2
        obtain ⟨m', c, cnt, q1, q2, q4⟩ := to_loop (k + 600) n xs Z hn.2 (by omega) (by omega) n.toNat (k + 600 + 40) 0 m (Int.le_refl 0) (by omega) hw (by omega)
        have hout := F61o_m (k + 600 + 40) m' q4
        refine ⟨m', c, cnt, ?_, ?_, q4⟩
        · have t : T (F38 (k + 600 + 40) (cat m (xs, n))) (fun r => r = (cat m' (c, cnt))) := by
            unfold F38
            refine T.bindbind (T.bindbind (T.eq e1 (T.bindbr nofun fun _ => T.bindbr (fun g => absurd (of_decide_eq_true g) hl) fun _ => T.bindbind (T.eq a1 (T.binds (T.bindbr nofun fun _ => T.binds (T.csr (T.eq o1 ?_))))))))
            rcases q2 with q2 | ⟨q2, rfl, rfl⟩
            · exact T.eq q2 (T.csl (T.ret rfl))
            · exact T.eq q2 (T.csr (T.ret rfl))
          obtain ⟨r, er, rfl⟩ := t
          exact er
        · have t : T (F37 (k + 600 + 40) (cat m (xs, n))) (fun r => r = (ocat m' (c, cnt, outM m'))) := by
            unfold F37
            refine T.bindbind (T.bindbind (T.eq e2 (T.bindbr nofun fun _ => T.bindbind (T.eq a2 (T.bindbr nofun fun _ => T.binds (T.bindbr (fun g => absurd (of_decide_eq_true g) hl) fun _ => T.binds (T.csr ?_)))))))
            refine T.bind (S := fun r => r = (ocat m' (c, cnt, xs, outM m'))) ?_ fun r hr => ?_
            · unfold F55s
              exact T.eq q1 (T.eq hout (T.ret rfl))
            · subst hr; exact T.ret rfl
          obtain ⟨r, er, rfl⟩ := t
          exact er
end Go.U.Tryz
namespace Go.U.Tryz
open Go Go.U
set_option maxRecDepth 20000
def MSm (m : MT) : Prop := m.2.2.2.2.2.2.2.2.2.2.2.2.1.length ≤ maxLen ∧ m.2.2.2.2.2.2.2.2.2.2.2.2.2.2.2.2.2.2.2.2.2.1.length ≤ 100
theorem WInv.sm {m : MT} (h : WInv m.w) : MSm m := ⟨by have := h.cart.hrom; change _ ∧ _ ∧ m.2.2.2.2.2.2.2.2.2.2.2.2.1.length ≤ 4096 at this; unfold maxLen; omega, h.out.2⟩
def ROut (r : Int × Int × Int × Int × Int × Int × Int × Int × Int × Int × Bool × Bool × List UInt8 × Int × Int × List UInt8 × Int × Bool × Int × List UInt8 × List UInt8 × List Int × Int × Int × Int) : Prop := (r.2.2.2.2.2.2.2.2.2.2.2.2.2.2.2.2.2.2.2.2.2.2.2.1 = 3 ∧ MSm (r.1, r.2.1, r.2.2.1, r.2.2.2.1, r.2.2.2.2.1, r.2.2.2.2.2.1, r.2.2.2.2.2.2.1, r.2.2.2.2.2.2.2.1, r.2.2.2.2.2.2.2.2.1, r.2.2.2.2.2.2.2.2.2.1, r.2.2.2.2.2.2.2.2.2.2.1, r.2.2.2.2.2.2.2.2.2.2.2.1, r.2.2.2.2.2.2.2.2.2.2.2.2.1, r.2.2.2.2.2.2.2.2.2.2.2.2.2.1, r.2.2.2.2.2.2.2.2.2.2.2.2.2.2.1, r.2.2.2.2.2.2.2.2.2.2.2.2.2.2.2.1, r.2.2.2.2.2.2.2.2.2.2.2.2.2.2.2.2.1, r.2.2.2.2.2.2.2.2.2.2.2.2.2.2.2.2.2.1, r.2.2.2.2.2.2.2.2.2.2.2.2.2.2.2.2.2.2.1, r.2.2.2.2.2.2.2.2.2.2.2.2.2.2.2.2.2.2.2.1, r.2.2.2.2.2.2.2.2.2.2.2.2.2.2.2.2.2.2.2.2.1, r.2.2.2.2.2.2.2.2.2.2.2.2.2.2.2.2.2.2.2.2.2.1, r.2.2.2.2.2.2.2.2.2.2.2.2.2.2.2.2.2.2.2.2.2.2.1)) ∨ (WInv (r.1, r.2.1, r.2.2.1, r.2.2.2.1, r.2.2.2.2.1, r.2.2.2.2.2.1, r.2.2.2.2.2.2.1, r.2.2.2.2.2.2.2.1, r.2.2.2.2.2.2.2.2.1, r.2.2.2.2.2.2.2.2.2.1, r.2.2.2.2.2.2.2.2.2.2.1, r.2.2.2.2.2.2.2.2.2.2.2.1, r.2.2.2.2.2.2.2.2.2.2.2.2.1, r.2.2.2.2.2.2.2.2.2.2.2.2.2.1, r.2.2.2.2.2.2.2.2.2.2.2.2.2.2.1, r.2.2.2.2.2.2.2.2.2.2.2.2.2.2.2.1, r.2.2.2.2.2.2.2.2.2.2.2.2.2.2.2.2.1, r.2.2.2.2.2.2.2.2.2.2.2.2.2.2.2.2.2.1, r.2.2.2.2.2.2.2.2.2.2.2.2.2.2.2.2.2.2.1, r.2.2.2.2.2.2.2.2.2.2.2.2.2.2.2.2.2.2.2.1, r.2.2.2.2.2.2.2.2.2.2.2.2.2.2.2.2.2.2.2.2.1, r.2.2.2.2.2.2.2.2.2.2.2.2.2.2.2.2.2.2.2.2.2.1, r.2.2.2.2.2.2.2.2.2.2.2.2.2.2.2.2.2.2.2.2.2.2.1, false) ∧ 0 ≤ r.2.2.2.2.2.2.2.2.2.2.2.2.2.2.2.2.2.2.2.2.2.2.2.1 ∧ r.2.2.2.2.2.2.2.2.2.2.2.2.2.2.2.2.2.2.2.2.2.2.2.1 ≤ 4)
theorem F35_t (k : Nat) (m : MT) (n : Int) (hm : MSm m) : T (F35 (k + 600) (m.1, m.2.1, m.2.2.1, m.2.2.2.1, m.2.2.2.2.1, m.2.2.2.2.2.1, m.2.2.2.2.2.2.1, m.2.2.2.2.2.2.2.1, m.2.2.2.2.2.2.2.2.1, m.2.2.2.2.2.2.2.2.2.1, m.2.2.2.2.2.2.2.2.2.2.1, m.2.2.2.2.2.2.2.2.2.2.2.1, m.2.2.2.2.2.2.2.2.2.2.2.2.1, m.2.2.2.2.2.2.2.2.2.2.2.2.2.1, m.2.2.2.2.2.2.2.2.2.2.2.2.2.2.1, m.2.2.2.2.2.2.2.2.2.2.2.2.2.2.2.1, m.2.2.2.2.2.2.2.2.2.2.2.2.2.2.2.2.1, m.2.2.2.2.2.2.2.2.2.2.2.2.2.2.2.2.2.1, m.2.2.2.2.2.2.2.2.2.2.2.2.2.2.2.2.2.2.1, m.2.2.2.2.2.2.2.2.2.2.2.2.2.2.2.2.2.2.2.1, m.2.2.2.2.2.2.2.2.2.2.2.2.2.2.2.2.2.2.2.2.1, m.2.2.2.2.2.2.2.2.2.2.2.2.2.2.2.2.2.2.2.2.2.1, m.2.2.2.2.2.2.2.2.2.2.2.2.2.2.2.2.2.2.2.2.2.2, n)) ROut := by
  unfold F35
  refine T.bind (S := fun v => (∃ a, v = .inl a ∧ ROut a) ∨ (v = .inr (n, 0, 0, 0, 0, 0, 0, 0, 0, 0, 0, false, false, [], 0, 0, [], 0, false, 0, [], [], [], 0, m) ∧ WInv m.w ∧ 0 ≤ n ∧ n ≤ 500)) ?_ ?_
  · refine T.bind (S := fun v => ∃ b, v = (n, b, 0, 0, 0, 0, 0, 0, 0, 0, 0, 0, false, false, [], 0, 0, [], 0, false, 0, [], [], [], 0, m) ∧ (b = false → WInv m.w ∧ 0 ≤ n ∧ n ≤ 500)) ?_ ?_
    · have e8 : F33 (k + 600) (m.1, m.2.1, m.2.2.1, m.2.2.2.1, m.2.2.2.2.1, m.2.2.2.2.2.1, m.2.2.2.2.2.2.1, m.2.2.2.2.2.2.2.1, m.2.2.2.2.2.2.2.2.1, m.2.2.2.2.2.2.2.2.2.1, m.2.2.2.2.2.2.2.2.2.2.1, m.2.2.2.2.2.2.2.2.2.2.2.1, m.2.2.2.2.2.2.2.2.2.2.2.2.1, m.2.2.2.2.2.2.2.2.2.2.2.2.2.1, m.2.2.2.2.2.2.2.2.2.2.2.2.2.2.1, m.2.2.2.2.2.2.2.2.2.2.2.2.2.2.2.1, m.2.2.2.2.2.2.2.2.2.2.2.2.2.2.2.2.1, m.2.2.2.2.2.2.2.2.2.2.2.2.2.2.2.2.2.1, m.2.2.2.2.2.2.2.2.2.2.2.2.2.2.2.2.2.2.1, m.2.2.2.2.2.2.2.2.2.2.2.2.2.2.2.2.2.2.2.1, m.2.2.2.2.2.2.2.2.2.2.2.2.2.2.2.2.2.2.2.2.1, m.2.2.2.2.2.2.2.2.2.2.2.2.2.2.2.2.2.2.2.2.2.1, m.2.2.2.2.2.2.2.2.2.2.2.2.2.2.2.2.2.2.2.2.2.2) = _ := F33_eq (k + 600) m.1 m.2.1 m.2.2.1 m.2.2.2.1 m.2.2.2.2.1 m.2.2.2.2.2.1 m.2.2.2.2.2.2.1 m.2.2.2.2.2.2.2.1 m.2.2.2.2.2.2.2.2.1 m.2.2.2.2.2.2.2.2.2.1 m.2.2.2.2.2.2.2.2.2.2.1 m.2.2.2.2.2.2.2.2.2.2.2.1 m.2.2.2.2.2.2.2.2.2.2.2.2.1 m.2.2.2.2.2.2.2.2.2.2.2.2.2.1 m.2.2.2.2.2.2.2.2.2.2.2.2.2.2.1 m.2.2.2.2.2.2.2.2.2.2.2.2.2.2.2.1 m.2.2.2.2.2.2.2.2.2.2.2.2.2.2.2.2.1 m.2.2.2.2.2.2.2.2.2.2.2.2.2.2.2.2.2.1 m.2.2.2.2.2.2.2.2.2.2.2.2.2.2.2.2.2.2.1 m.2.2.2.2.2.2.2.2.2.2.2.2.2.2.2.2.2.2.2.1 m.2.2.2.2.2.2.2.2.2.2.2.2.2.2.2.2.2.2.2.2.1 m.2.2.2.2.2.2.2.2.2.2.2.2.2.2.2.2.2.2.2.2.2.1 m.2.2.2.2.2.2.2.2.2.2.2.2.2.2.2.2.2.2.2.2.2.2 hm.1 (by have := hm.2; unfold maxLen; omega) (by have := hm.2; omega)
      refine T.eq e8 ?_
      refine T.br (fun _ => T.ret ⟨true, rfl, fun e => by cases e⟩) fun g => ?_
      have hok : mOk m.1 m.2.1 m.2.2.1 m.2.2.2.1 m.2.2.2.2.1 m.2.2.2.2.2.1 m.2.2.2.2.2.2.1 m.2.2.2.2.2.2.2.1 m.2.2.2.2.2.2.2.2.1 m.2.2.2.2.2.2.2.2.2.1 m.2.2.2.2.2.2.2.2.2.2.1 m.2.2.2.2.2.2.2.2.2.2.2.1 m.2.2.2.2.2.2.2.2.2.2.2.2.1 m.2.2.2.2.2.2.2.2.2.2.2.2.2.1 m.2.2.2.2.2.2.2.2.2.2.2.2.2.2.1 m.2.2.2.2.2.2.2.2.2.2.2.2.2.2.2.1 m.2.2.2.2.2.2.2.2.2.2.2.2.2.2.2.2.1 m.2.2.2.2.2.2.2.2.2.2.2.2.2.2.2.2.2.1 m.2.2.2.2.2.2.2.2.2.2.2.2.2.2.2.2.2.2.1 m.2.2.2.2.2.2.2.2.2.2.2.2.2.2.2.2.2.2.2.1 m.2.2.2.2.2.2.2.2.2.2.2.2.2.2.2.2.2.2.2.2.1 m.2.2.2.2.2.2.2.2.2.2.2.2.2.2.2.2.2.2.2.2.2.1 m.2.2.2.2.2.2.2.2.2.2.2.2.2.2.2.2.2.2.2.2.2.2 = true := by simpa using g
      refine F87_t _ _ _ _ (fun g2 => T.ret ⟨false, rfl, fun _ => ⟨WInv.of hok false, g2⟩⟩) fun g2 => T.ret ⟨true, rfl, fun e => by cases e⟩
    · rintro _ ⟨b, rfl, hb⟩
      refine T.br (fun _ => T.ret (.inl ⟨_, rfl, .inl ⟨rfl, Nat.zero_le _, Nat.zero_le _⟩⟩)) fun g => T.ret (.inr ⟨rfl, hb g⟩)
  · rintro _ (⟨a, rfl, ha⟩ | ⟨rfl, hw, hn⟩)
    · exact T.csl (T.ret ha)
    refine T.csr ?_
    have e40 := F89_eq (k + 600) m hw.out.2
    refine T.eq e40 ?_
    obtain ⟨b, h1, h2⟩ := iter_inv (f := F35_b0 (k + 600)) (fun a => a.1 = n ∧ 0 ≤ a.2.1 ∧ a.2.1 ≤ n ∧ WInv (a.2.2.1, a.2.2.2.1, a.2.2.2.2.1, a.2.2.2.2.2.1, a.2.2.2.2.2.2.1, a.2.2.2.2.2.2.2.1, a.2.2.2.2.2.2.2.2.1, a.2.2.2.2.2.2.2.2.2.1, a.2.2.2.2.2.2.2.2.2.2.1, a.2.2.2.2.2.2.2.2.2.2.2.1, a.2.2.2.2.2.2.2.2.2.2.2.2.1, a.2.2.2.2.2.2.2.2.2.2.2.2.2.1, a.2.2.2.2.2.2.2.2.2.2.2.2.2.2.1, a.2.2.2.2.2.2.2.2.2.2.2.2.2.2.2.1, a.2.2.2.2.2.2.2.2.2.2.2.2.2.2.2.2.1, a.2.2.2.2.2.2.2.2.2.2.2.2.2.2.2.2.2.1, a.2.2.2.2.2.2.2.2.2.2.2.2.2.2.2.2.2.2.1, a.2.2.2.2.2.2.2.2.2.2.2.2.2.2.2.2.2.2.2.1, a.2.2.2.2.2.2.2.2.2.2.2.2.2.2.2.2.2.2.2.2.1, a.2.2.2.2.2.2.2.2.2.2.2.2.2.2.2.2.2.2.2.2.2.1, a.2.2.2.2.2.2.2.2.2.2.2.2.2.2.2.2.2.2.2.2.2.2.1, a.2.2.2.2.2.2.2.2.2.2.2.2.2.2.2.2.2.2.2.2.2.2.2.1, a.2.2.2.2.2.2.2.2.2.2.2.2.2.2.2.2.2.2.2.2.2.2.2.2.1, false)) (fun a => (n - a.2.1).toNat) (fun b => match b with | .inl a => ROut a | .inr a => WInv (a.2.1, a.2.2.1, a.2.2.2.1, a.2.2.2.2.1, a.2.2.2.2.2.1, a.2.2.2.2.2.2.1, a.2.2.2.2.2.2.2.1, a.2.2.2.2.2.2.2.2.1, a.2.2.2.2.2.2.2.2.2.1, a.2.2.2.2.2.2.2.2.2.2.1, a.2.2.2.2.2.2.2.2.2.2.2.1, a.2.2.2.2.2.2.2.2.2.2.2.2.1, a.2.2.2.2.2.2.2.2.2.2.2.2.2.1, a.2.2.2.2.2.2.2.2.2.2.2.2.2.2.1, a.2.2.2.2.2.2.2.2.2.2.2.2.2.2.2.1, a.2.2.2.2.2.2.2.2.2.2.2.2.2.2.2.2.1, a.2.2.2.2.2.2.2.2.2.2.2.2.2.2.2.2.2.1, a.2.2.2.2.2.2.2.2.2.2.2.2.2.2.2.2.2.2.1, a.2.2.2.2.2.2.2.2.2.2.2.2.2.2.2.2.2.2.2.1, a.2.2.2.2.2.2.2.2.2.2.2.2.2.2.2.2.2.2.2.2.1, a.2.2.2.2.2.2.2.2.2.2.2.2.2.2.2.2.2.2.2.2.2.1, a.2.2.2.2.2.2.2.2.2.2.2.2.2.2.2.2.2.2.2.2.2.2.1, a.2.2.2.2.2.2.2.2.2.2.2.2.2.2.2.2.2.2.2.2.2.2.2.1, false)) (fun a ⟨g0, g1, g2, g3⟩ => by
      obtain ⟨r, e, hr⟩ := F62_t (k + 560) (a.2.2.1, a.2.2.2.1, a.2.2.2.2.1, a.2.2.2.2.2.1, a.2.2.2.2.2.2.1, a.2.2.2.2.2.2.2.1, a.2.2.2.2.2.2.2.2.1, a.2.2.2.2.2.2.2.2.2.1, a.2.2.2.2.2.2.2.2.2.2.1, a.2.2.2.2.2.2.2.2.2.2.2.1, a.2.2.2.2.2.2.2.2.2.2.2.2.1, a.2.2.2.2.2.2.2.2.2.2.2.2.2.1, a.2.2.2.2.2.2.2.2.2.2.2.2.2.2.1, a.2.2.2.2.2.2.2.2.2.2.2.2.2.2.2.1, a.2.2.2.2.2.2.2.2.2.2.2.2.2.2.2.2.1, a.2.2.2.2.2.2.2.2.2.2.2.2.2.2.2.2.2.1, a.2.2.2.2.2.2.2.2.2.2.2.2.2.2.2.2.2.2.1, a.2.2.2.2.2.2.2.2.2.2.2.2.2.2.2.2.2.2.2.1, a.2.2.2.2.2.2.2.2.2.2.2.2.2.2.2.2.2.2.2.2.1, a.2.2.2.2.2.2.2.2.2.2.2.2.2.2.2.2.2.2.2.2.2.1, a.2.2.2.2.2.2.2.2.2.2.2.2.2.2.2.2.2.2.2.2.2.2.1, a.2.2.2.2.2.2.2.2.2.2.2.2.2.2.2.2.2.2.2.2.2.2.2.1, a.2.2.2.2.2.2.2.2.2.2.2.2.2.2.2.2.2.2.2.2.2.2.2.2.1) g3
      have e' : F62 (k + 600) (a.2.2.1, a.2.2.2.1, a.2.2.2.2.1, a.2.2.2.2.2.1, a.2.2.2.2.2.2.1, a.2.2.2.2.2.2.2.1, a.2.2.2.2.2.2.2.2.1, a.2.2.2.2.2.2.2.2.2.1, a.2.2.2.2.2.2.2.2.2.2.1, a.2.2.2.2.2.2.2.2.2.2.2.1, a.2.2.2.2.2.2.2.2.2.2.2.2.1, a.2.2.2.2.2.2.2.2.2.2.2.2.2.1, a.2.2.2.2.2.2.2.2.2.2.2.2.2.2.1, a.2.2.2.2.2.2.2.2.2.2.2.2.2.2.2.1, a.2.2.2.2.2.2.2.2.2.2.2.2.2.2.2.2.1, a.2.2.2.2.2.2.2.2.2.2.2.2.2.2.2.2.2.1, a.2.2.2.2.2.2.2.2.2.2.2.2.2.2.2.2.2.2.1, a.2.2.2.2.2.2.2.2.2.2.2.2.2.2.2.2.2.2.2.1, a.2.2.2.2.2.2.2.2.2.2.2.2.2.2.2.2.2.2.2.2.1, a.2.2.2.2.2.2.2.2.2.2.2.2.2.2.2.2.2.2.2.2.2.1, a.2.2.2.2.2.2.2.2.2.2.2.2.2.2.2.2.2.2.2.2.2.2.1, a.2.2.2.2.2.2.2.2.2.2.2.2.2.2.2.2.2.2.2.2.2.2.2.1, a.2.2.2.2.2.2.2.2.2.2.2.2.2.2.2.2.2.2.2.2.2.2.2.2.1) = some r := e
      by_cases g : a.2.1 < a.1
      · by_cases gc : r.2.2.2.2.2.2.2.2.2.2.2.2.2.2.2.2.2.2.2.2.2.2.2 = 0
        · refine .inl ⟨(a.1, a.2.1 + 1, r.1, r.2.1, r.2.2.1, r.2.2.2.1, r.2.2.2.2.1, r.2.2.2.2.2.1, r.2.2.2.2.2.2.1, r.2.2.2.2.2.2.2.1, r.2.2.2.2.2.2.2.2.1, r.2.2.2.2.2.2.2.2.2.1, r.2.2.2.2.2.2.2.2.2.2.1, r.2.2.2.2.2.2.2.2.2.2.2.1, r.2.2.2.2.2.2.2.2.2.2.2.2.1, r.2.2.2.2.2.2.2.2.2.2.2.2.2.1, r.2.2.2.2.2.2.2.2.2.2.2.2.2.2.1, r.2.2.2.2.2.2.2.2.2.2.2.2.2.2.2.1, r.2.2.2.2.2.2.2.2.2.2.2.2.2.2.2.2.1, r.2.2.2.2.2.2.2.2.2.2.2.2.2.2.2.2.2.1, r.2.2.2.2.2.2.2.2.2.2.2.2.2.2.2.2.2.2.1, r.2.2.2.2.2.2.2.2.2.2.2.2.2.2.2.2.2.2.2.1, r.2.2.2.2.2.2.2.2.2.2.2.2.2.2.2.2.2.2.2.2.1, r.2.2.2.2.2.2.2.2.2.2.2.2.2.2.2.2.2.2.2.2.2.1, r.2.2.2.2.2.2.2.2.2.2.2.2.2.2.2.2.2.2.2.2.2.2.1, a.2.2.2.2.2.2.2.2.2.2.2.2.2.2.2.2.2.2.2.2.2.2.2.2.2), ?_, ⟨g0, by dsimp only; omega, by dsimp only; omega, hr.1⟩, by dsimp only; omega⟩
          have e1 : w64 (a.2.1 + 1) = a.2.1 + 1 := w64_id (by omega) (by omega)
          simp only [F35_b0, branch_ite, if_pos g, e', bindO_s, branch_not, if_pos gc, e1]
        · refine .inr ⟨.inl (a.2.2.1, a.2.2.2.1, a.2.2.2.2.1, a.2.2.2.2.2.1, a.2.2.2.2.2.2.1, a.2.2.2.2.2.2.2.1, a.2.2.2.2.2.2.2.2.1, a.2.2.2.2.2.2.2.2.2.1, a.2.2.2.2.2.2.2.2.2.2.1, a.2.2.2.2.2.2.2.2.2.2.2.1, a.2.2.2.2.2.2.2.2.2.2.2.2.1, a.2.2.2.2.2.2.2.2.2.2.2.2.2.1, a.2.2.2.2.2.2.2.2.2.2.2.2.2.2.1, a.2.2.2.2.2.2.2.2.2.2.2.2.2.2.2.1, a.2.2.2.2.2.2.2.2.2.2.2.2.2.2.2.2.1, a.2.2.2.2.2.2.2.2.2.2.2.2.2.2.2.2.2.1, a.2.2.2.2.2.2.2.2.2.2.2.2.2.2.2.2.2.2.1, a.2.2.2.2.2.2.2.2.2.2.2.2.2.2.2.2.2.2.2.1, a.2.2.2.2.2.2.2.2.2.2.2.2.2.2.2.2.2.2.2.2.1, a.2.2.2.2.2.2.2.2.2.2.2.2.2.2.2.2.2.2.2.2.2.1, a.2.2.2.2.2.2.2.2.2.2.2.2.2.2.2.2.2.2.2.2.2.2.1, a.2.2.2.2.2.2.2.2.2.2.2.2.2.2.2.2.2.2.2.2.2.2.2.1, a.2.2.2.2.2.2.2.2.2.2.2.2.2.2.2.2.2.2.2.2.2.2.2.2.1, r.2.2.2.2.2.2.2.2.2.2.2.2.2.2.2.2.2.2.2.2.2.2.2, a.2.1), ?_, .inr ⟨g3, hr.2⟩⟩
          simp only [F35_b0, branch_ite, if_pos g, e', bindO_s, branch_not, if_neg gc]
      · exact .inr ⟨.inr (a.1, a.2.2), by simp only [F35_b0, branch_ite, if_neg g], g3⟩) (k + 600) (n, 0, m.1, m.2.1, m.2.2.1, m.2.2.2.1, m.2.2.2.2.1, m.2.2.2.2.2.1, m.2.2.2.2.2.2.1, m.2.2.2.2.2.2.2.1, m.2.2.2.2.2.2.2.2.1, m.2.2.2.2.2.2.2.2.2.1, m.2.2.2.2.2.2.2.2.2.2.1, m.2.2.2.2.2.2.2.2.2.2.2.1, m.2.2.2.2.2.2.2.2.2.2.2.2.1, m.2.2.2.2.2.2.2.2.2.2.2.2.2.1, m.2.2.2.2.2.2.2.2.2.2.2.2.2.2.1, m.2.2.2.2.2.2.2.2.2.2.2.2.2.2.2.1, m.2.2.2.2.2.2.2.2.2.2.2.2.2.2.2.2.1, m.2.2.2.2.2.2.2.2.2.2.2.2.2.2.2.2.2.1, m.2.2.2.2.2.2.2.2.2.2.2.2.2.2.2.2.2.2.1, m.2.2.2.2.2.2.2.2.2.2.2.2.2.2.2.2.2.2.2.1, m.2.2.2.2.2.2.2.2.2.2.2.2.2.2.2.2.2.2.2.2.1, m.2.2.2.2.2.2.2.2.2.2.2.2.2.2.2.2.2.2.2.2.2.1, m.2.2.2.2.2.2.2.2.2.2.2.2.2.2.2.2.2.2.2.2.2.2, 0, 0, 0, 0, 0, 0, 0, 0, 0, 0, false, false, [], 0, 0, [], 0, false, 0, [], [], [], 0) ⟨rfl, Int.le_refl 0, hn.1, hw⟩ (by dsimp only; omega)
    refine T.eq h1 ?_
    cases b with
    | inl a => exact T.csl (T.ret h2)
    | inr a => exact T.csr (T.ret (.inr ⟨h2, by dsimp only; omega, by dsimp only; omega⟩))
end Go.U.Tryz
namespace Go.U.Tryz
open Go Go.U
set_option maxRecDepth 20000
set_option maxHeartbeats 1000000
def RdOk (r : List Int × Int) : Prop := (∀ v ∈ r.1, 0 ≤ v ∧ v ≤ 255) ∧ r.1.length ≤ 1048576 ∧ 0 ≤ r.2 ∧ r.2 ≤ 1048576
theorem F128_t (K : Nat) (r : List Int × Int) (h : RdOk r) : T (F128 K r) fun v => (0 ≤ v.1 ∧ v.1 ≤ 255) ∧ RdOk v.2 := by
  obtain ⟨hb, hl, h0, h1⟩ := h
  unfold F128
  refine T.br (fun _ => T.ret ⟨by dsimp only; omega, hb, hl, h0, h1⟩) fun g => ?_
  have g' := of_decide_eq_false g
  have e1 : w64 (r.2 + 1) = r.2 + 1 := w64_id (by omega) (by omega)
  have e2 : w64 (r.2 + 1 - 1) = r.2 := by rw [w64_id (by omega) (by omega)]; omega
  rw [e1, e2]
  refine T.nth h0 (by omega) fun v hv _ => T.ret ⟨?_, hb, hl, by dsimp only; omega, by dsimp only; omega⟩
  have := hb v hv
  dsimp only
  rw [w64_id (by omega) (by omega)]
  exact this
theorem F88_t (K : Nat) (n : Int) (r : List Int × Int) (h : RdOk r) (hn : 1 ≤ n) (hn' : n ≤ 65536) : T (F88 K (n, r)) fun v => (0 ≤ v.1 ∧ v.1 < n) ∧ RdOk v.2 := by
  unfold F88
  refine T.br (fun _ => T.ret ⟨by dsimp only; omega, h⟩) fun g => T.br (fun _ => ?_) fun _ => ?_
  · refine T.bind (F128_t K r h) fun v hv => T.guard (nd0 (by dsimp only; omega)) (T.ret ⟨⟨Int.tmod_nonneg _ hv.1.1, Int.tmod_lt_of_pos _ (by omega)⟩, hv.2⟩)
  · refine T.bind (F128_t K r h) fun v hv => T.bind (F128_t K _ hv.2) fun v2 hv2 => T.guard (nd0 (by dsimp only; omega)) (T.ret ⟨⟨Int.tmod_nonneg _ ?_, Int.tmod_lt_of_pos _ (by omega)⟩, hv2.2⟩)
    have a1 := hv.1
    have a2 := hv2.1
    (((try (simp (disch := omega) only [w64_id, w64u_id, tmE, tdE])); first | omega | done))
theorem F108_t (K : Nat) (n : Int) (r : List Int × Int) (h : RdOk r) (hn : 1 ≤ n) (hn' : n ≤ 65536) : T (F108 K (n, r)) fun v => RdOk v.2 := by
  unfold F108
  exact T.bind (F88_t K n r h hn hn') fun v hv => T.ret hv.2
theorem F106_t (K : Nat) (r : List Int × Int) (h : RdOk r) : T (F106 K r) fun v => (0 ≤ v.1 ∧ v.1 ≤ 255) ∧ RdOk v.2 := by
  unfold F106
  refine T.bind (F108_t K 2 r h (by decide) (by decide)) fun v hv => T.br (fun _ => ?_) fun _ => ?_
  · refine T.bind (F88_t K 8 _ hv (by decide) (by decide)) fun v1 hv1 => T.guard (decide_eq_true hv1.1) (T.nthN (by have := hv1.1; simp; omega) fun x hx _ => T.ret ⟨?_, hv1.2⟩)
    simp only [List.mem_cons, List.not_mem_nil, or_false] at hx
    dsimp only
    omega
  · exact T.bind (F88_t K 256 _ hv (by decide) (by decide)) fun v1 hv1 => T.ret ⟨by have := hv1.1; omega, hv1.2⟩
theorem F208_t (K : Nat) (r : List Int × Int) (h : RdOk r) (hK : 8 < K) : T (F208 K r) fun v => RdOk v.2 := by
  obtain ⟨b, h1, h2⟩ := iter_inv (f := F208_b0 K) (fun a => 0 ≤ a.2.1 ∧ a.2.1 ≤ 8 ∧ RdOk a.2.2) (fun a => (8 - a.2.1).toNat) (fun b => RdOk b.2) (fun a ⟨g0, g1, g2⟩ => by
    by_cases g : a.2.1 < 8
    · obtain ⟨v, e, hv⟩ := F128_t K a.2.2 g2
      have e1 : w64 (a.2.1 + 1) = a.2.1 + 1 := w64_id (by omega) (by omega)
      refine .inl ⟨_, by simp only [F208_b0, branch_ite, if_pos g, e, bindO_s, e1] <;> rfl, ⟨by simp; omega, by simp; omega, hv.2⟩, by simp; omega⟩
    · exact .inr ⟨(a.1, a.2.2), by simp only [F208_b0, branch_ite, if_neg g] <;> rfl, g2⟩) K (0, 0, r) ⟨by simp, by simp, h⟩ (by simpa using hK)
  unfold F208
  exact T.eq h1 (T.ret h2)
theorem F153_t (K : Nat) (lo hi : Int) (r : List Int × Int) (h : RdOk r) (hK : 8 < K) (hlo : 0 ≤ lo) (hh : lo ≤ hi) (hi' : hi ≤ 65535) : T (F153 K (lo, hi, r)) fun v => RdOk v.2 := by
  unfold F153
  refine T.bind (F88_t K 8 r h (by decide) (by decide)) fun v hv => T.br (fun _ => T.ret hv.2) fun _ => T.br (fun _ => T.ret hv.2) fun _ => T.br (fun _ => T.ret hv.2) fun _ => ?_
  refine T.bind (F208_t K _ hv.2 hK) fun v2 hv2 => T.guard (nd0 ?_) (T.ret hv2)
  dsimp only
  have e3 : w64 (hi - lo) = hi - lo := w64_id (by omega) (by omega)
  have e4 : w64 (hi - lo + 1) = hi - lo + 1 := w64_id (by omega) (by omega)
  have e5 : w64u (hi - lo + 1) = hi - lo + 1 := w64u_id (by omega) (by omega)
  rw [e3, e4, e5]
  omega
theorem F109_t (K : Nat) (lo hi : Int) (r : List Int × Int) (h : RdOk r) (hK : 8 < K) (hlo : 0 ≤ lo) (hh : lo ≤ hi) (hi' : hi ≤ 65535) : T (F109 K (lo, hi, r)) fun v => RdOk v.2 := by
  unfold F109
  refine T.bind (F108_t K 24 r h (by decide) (by decide)) fun v hv => T.br (fun _ => ?_) fun _ => ?_
  · refine T.bind (F88_t K 4 _ hv (by decide) (by decide)) fun v1 hv1 => T.guard (decide_eq_true ⟨hv1.1.1, by have := hv1.1; simp; omega⟩) (T.nthN (by have := hv1.1; simp; omega) fun x hx _ => T.ret hv1.2)
  · exact T.bind (F153_t K lo hi _ hv hK hlo hh hi') fun v1 hv1 => T.ret hv1
def holeChk (k : Nat) (cb : Bool) (c : Nat) : Bool := match F141 (k + 40) ((c : Int), cb) with
  | some t => (F142 (k + 40) t).isSome
  | none => false
theorem holeAll (k : Nat) (cb : Bool) : (List.range 256).all (holeChk k cb) = true := by
  cases cb
  · kernel_rfl
  · kernel_rfl
theorem F141_t (k : Nat) (c : Int) (cb : Bool) (hc : 0 ≤ c ∧ c ≤ 255) : T (F141 (k + 40) (c, cb)) fun t => T (F142 (k + 40) t) fun _ => True := by
  obtain ⟨m, rfl⟩ : ∃ m : Nat, c = (m : Int) := ⟨c.toNat, by omega⟩
  have h := List.all_eq_true.1 (holeAll k cb) m (List.mem_range.2 (by omega))
  unfold holeChk at h
  split at h
  · rename_i t ht
    obtain ⟨x, hx⟩ := Option.isSome_iff_exists.1 h
    exact ⟨t, ht, x, hx, trivial⟩
  · cases h
theorem F207_t (k : Nat) (r : List Int × Int) (h : RdOk r) : T (F207 (k + 40) r) fun v => (0 ≤ v.1 ∧ v.1 ≤ 255) ∧ RdOk v.2.2.2 := by
  unfold F207
  refine T.bind (F88_t _ 256 r h (by decide) (by decide)) fun v hv => T.bind (F108_t _ 4 _ hv.2 (by decide) (by decide)) fun v1 hv1 => ?_
  have hc : 0 ≤ v.1 ∧ v.1 ≤ 255 := by have := hv.1; omega
  refine T.bind (F141_t k v.1 v1.1 hc) fun t ht => T.bind ht fun x _ => ?_
  refine T.bind (S := fun y => (0 ≤ y.1 ∧ y.1 ≤ 255) ∧ RdOk y.2.2.2.2.2.2) ?_ fun y hy => ?_
  · refine T.br (fun _ => T.bind (F88_t _ 65536 _ hv1 (by decide) (by decide)) fun z hz => T.ret ⟨hc, hz.2⟩) fun _ => ?_
    refine T.bind (S := fun y => (0 ≤ y.2.1 ∧ y.2.1 ≤ 255) ∧ RdOk y.2.2.2.2.2.2.2) ?_ fun y hy => ?_
    · exact T.br (fun _ => T.ret ⟨hc, hv1⟩) fun _ => T.ret ⟨hc, hv1⟩
    · exact T.br (fun _ => T.bind (F106_t _ _ hy.2) fun z hz => T.ret ⟨hy.1, hz.2⟩) fun _ => T.ret hy
  · refine T.bind (F108_t _ 40 _ hy.2 (by decide) (by decide)) fun z hz => T.br (fun _ => ?_) fun _ => T.ret ⟨hy.1, hz⟩
    exact T.bind (F109_t _ 0 255 _ hz (by omega) (by decide) (by decide) (by decide)) fun u hu => T.ret ⟨hy.1, hu⟩
theorem F140_t (k : Nat) (c : Int) (cb : Bool) (imm : Int) (hc : 0 ≤ c ∧ c ≤ 255) : T (F140 (k + 40) (c, cb, imm)) fun _ => True := by
  unfold F140
  refine T.bind (S := fun _ => True) ?_ fun n _ => T.br (fun _ => T.ret trivial) fun _ => ?_
  · unfold F175
    exact F87_t _ _ _ _ (fun _ => T.br nofun fun _ => T.bind (F196_t k c cb hc) fun n _ => T.ret trivial) fun g => absurd hc g
  refine T.bind (F141_t k c cb hc) fun t ht => T.bind ht fun x _ => T.br (fun _ => ?_) fun _ => ?_
  · exact F87_t _ _ _ _ (fun _ => T.ret trivial) fun _ => T.ret trivial
  · refine T.bindbr (fun _ => T.binds ?_) fun _ => T.binds ?_
    · exact T.br (fun _ => F87_t _ _ _ _ (fun _ => T.ret trivial) fun _ => T.ret trivial) fun _ => T.ret trivial
    · exact T.br (fun _ => F87_t _ _ _ _ (fun _ => T.ret trivial) fun _ => T.ret trivial) fun _ => T.ret trivial
theorem F151_t (k : Nat) (c : Int) (cb : Bool) (imm : Int) (hc : 0 ≤ c ∧ c ≤ 255) : T (F151 (k + 40) (c, cb, imm)) fun s => s.length ≤ 3 := by
  unfold F151
  refine T.bind (F140_t k c cb imm hc) fun b _ => T.br (fun _ => T.ret (by simp)) fun _ => T.br (fun _ => T.ret (by simp [toB_length])) fun _ => ?_
  refine T.bind (F196_t k c false hc) fun n _ => T.br (fun _ => T.ret (by simp [toB_length])) fun _ => T.br (fun _ => T.ret (by simp [toB_length])) fun _ => T.ret (by simp [toB_length])
theorem F152_t (k : Nat) (r : List Int × Int) (h : RdOk r) : T (F152 (k + 40) r) fun v => (0 ≤ v.1 ∧ v.1 ≤ 255) ∧ RdOk v.2.2.2 := by
  unfold F152
  refine T.bind (F207_t k r h) fun i hi => ?_
  refine T.bind (S := fun v => (∃ a, v = .inl a ∧ (0 ≤ a.1 ∧ a.1 ≤ 255) ∧ RdOk a.2.2.2) ∨ (∃ b, v = .inr b ∧ (0 ≤ b.1 ∧ b.1 ≤ 255) ∧ RdOk b.2.2.2.2.2.2)) ?_ ?_
  · refine T.bind (S := fun v => (0 ≤ v.2.1 ∧ v.2.1 ≤ 255) ∧ RdOk v.2.2.2.2.2.2.2) ?_ fun v hv => T.br (fun _ => T.ret (.inl ⟨_, rfl, hv⟩)) fun _ => T.ret (.inr ⟨_, rfl, hv⟩)
    exact T.br (fun _ => T.ret hi) fun _ => T.bind (F108_t _ 6 _ hi.2 (by decide) (by decide)) fun z hz => T.ret ⟨hi.1, hz⟩
  rintro _ (⟨a, rfl, ha⟩ | ⟨b, rfl, hb⟩)
  · exact T.csl (T.ret ha)
  refine T.csr (T.bind (F88_t _ 10 _ hb.2 (by decide) (by decide)) fun v hv => ?_)
  refine T.br (fun _ => T.bind (F106_t _ _ hv.2) fun z hz => T.ret ⟨by dsimp only; omega, hz.2⟩) fun _ => ?_
  refine T.br (fun _ => ?_) fun _ => ?_
  · refine T.bind (F88_t _ 5 _ hv.2 (by decide) (by decide)) fun v1 hv1 => T.guard (decide_eq_true hv1.1) (T.nthN (by have := hv1.1; simp; omega) fun x hx _ => T.ret ⟨by dsimp only; omega, hv1.2⟩)
  refine T.br (fun _ => T.ret ⟨by dsimp only; omega, hv.2⟩) fun _ => T.br (fun _ => T.ret ⟨by dsimp only; omega, hv.2⟩) fun _ => ?_
  refine T.br (fun _ => ?_) fun _ => ?_
  · refine T.bind (F88_t _ 6 _ hv.2 (by decide) (by decide)) fun v1 hv1 => T.guard (decide_eq_true hv1.1) (T.nthN (by have := hv1.1; simp; omega) fun x hx _ => T.ret ⟨by dsimp only; omega, hv1.2⟩)
  refine T.bind (S := fun y => (0 ≤ y.2.1 ∧ y.2.1 ≤ 255) ∧ RdOk y.2.2.2.2.2.2.2) ?_ fun y hy => T.br (fun _ => T.ret hy) fun _ => T.ret hy
  exact T.br (fun _ => T.ret ⟨hb.1, hv.2⟩) fun _ => T.ret ⟨hb.1, hv.2⟩
theorem F105_b1_t (k : Nat) (n kk i0 : Int) (b0 : List Int) (rd : List Int × Int) (h : RdOk rd) (hk : 0 ≤ kk ∧ kk < n ∧ n ≤ 4) (hi : 0 ≤ i0 ∧ i0 ≤ 16) (hb : (b0.length : Int) = n * 256) :
    T (iter (k + 40) (F105_b1 (k + 40)) (n, kk, kk * 256, i0, b0, rd)) fun r => r.1 = n ∧ r.2.1 = kk ∧ (r.2.2.1.length : Int) = n * 256 ∧ RdOk r.2.2.2 := by
  obtain ⟨b, h1, h2⟩ := iter_inv (f := F105_b1 (k + 40)) (fun a => a.1 = n ∧ a.2.1 = kk ∧ 0 ≤ a.2.2.2.1 ∧ a.2.2.2.1 ≤ i0 ∧ kk * 256 ≤ a.2.2.1 ∧ a.2.2.1 + 3 * a.2.2.2.1 ≤ kk * 256 + 3 * i0 ∧ (a.2.2.2.2.1.length : Int) = n * 256 ∧ RdOk a.2.2.2.2.2) (fun a => a.2.2.2.1.toNat) (fun r => r.1 = n ∧ r.2.1 = kk ∧ (r.2.2.1.length : Int) = n * 256 ∧ RdOk r.2.2.2) (fun a ⟨g1, g2, g3, g4, g5, g6, g7, g8⟩ => by
    obtain ⟨n', kk', at_, i, bb, rd'⟩ := a
    dsimp only at g1 g2 g3 g4 g5 g6 g7 g8
    subst g1 g2
    by_cases g : 0 < i
    · obtain ⟨v, e, hv⟩ := F152_t k rd' g8
      obtain ⟨s, e2, hs⟩ := F151_t k v.1 v.2.1 v.2.2.1 hv.1
      have q1 : w64 (kk' + 1) = kk' + 1 := w64_id (by omega) (by omega)
      have q2 : w64 ((kk' + 1) * 256) = (kk' + 1) * 256 := w64_id (by omega) (by omega)
      have q3 : w64 (at_ + (s.length : Int)) = at_ + (s.length : Int) := w64_id (by omega) (by omega)
      have q4 : w64 (i - 1) = i - 1 := w64_id (by omega) (by omega)
      have q5 : 0 ≤ at_ ∧ at_ ≤ (kk' + 1) * 256 ∧ (kk' + 1) * 256 ≤ (bb.length : Int) := ⟨by omega, by omega, by omega⟩
      have q6 : at_.toNat + (((kk' + 1) * 256).toNat - at_.toNat) ≤ bb.length := by omega
      refine .inl ⟨_, by simp only [F105_b1, branch_ite, if_pos g, e, e2, bindO_s, q1, q2, q3, q4, guard_dec q5, guard_dec q6] <;> rfl, ⟨rfl, rfl, by dsimp only; omega, by dsimp only; omega, by dsimp only; omega, by dsimp only; omega, ?_, hv.2⟩, by dsimp only; omega⟩
      dsimp only
      rw [List.length_append, List.length_append, List.length_take, List.length_take, List.length_drop, ofB_length]
      omega
    · exact .inr ⟨(n', kk', bb, rd'), by simp only [F105_b1, branch_ite, if_neg g], rfl, rfl, g7, g8⟩) (k + 40) (n, kk, kk * 256, i0, b0, rd) ⟨rfl, rfl, hi.1, Int.le_refl _, Int.le_refl _, Int.le_refl _, hb, h⟩ (by dsimp only; omega)
  exact ⟨b, h1, h2⟩
theorem F105_t (k : Nat) (r : List Int × Int) (h : RdOk r) : T (F105 (k + 40) r) fun v => v.1.length ≤ 1024 ∧ RdOk v.2 := by
  unfold F105
  refine T.bind (F88_t _ 3 r h (by decide) (by decide)) fun v hv => ?_
  have hv1 := hv.1
  have q1 : w64 (2 + v.1) = 2 + v.1 := w64_id (by omega) (by omega)
  have q2 : w64 ((2 + v.1) * 256) = (2 + v.1) * 256 := w64_id (by omega) (by omega)
  rw [q1, q2]
  refine T.guard (decide_eq_true ⟨rfl, by omega, by omega⟩) ?_
  generalize hn : 2 + v.1 = n
  obtain ⟨b, h1, h2⟩ := iter_inv (f := F105_b0 (k + 40)) (fun a => a.1 = n ∧ 0 ≤ a.2.1 ∧ a.2.1 ≤ n ∧ (a.2.2.1.length : Int) = n * 256 ∧ RdOk a.2.2.2) (fun a => (n - a.2.1).toNat) (fun r => (r.1.length : Int) = n * 256 ∧ RdOk r.2) (fun a ⟨g1, g2, g3, g4, g5⟩ => by
    obtain ⟨n', kk, bb, rd⟩ := a
    dsimp only at g1 g2 g3 g4 g5
    subst g1
    by_cases g : kk < n'
    · obtain ⟨u, e, hu⟩ := F88_t (k + 40) 16 rd g5 (by decide) (by decide)
      have hu1 := hu.1
      have q3 : w64 (kk * 256) = kk * 256 := w64_id (by omega) (by omega)
      have q4 : w64 (1 + u.1) = 1 + u.1 := w64_id (by omega) (by omega)
      obtain ⟨z, e2, z1, z2, z3, z4⟩ := F105_b1_t k n' kk (1 + u.1) bb u.2 hu.2 ⟨g2, g, by omega⟩ (by omega) g4
      have q5 : w64 (z.2.1 + 1) = kk + 1 := by rw [z2]; exact w64_id (by omega) (by omega)
      exact .inl ⟨(z.1, w64 (z.2.1 + 1), z.2.2), by simp only [F105_b0, branch_ite, if_pos g, e, bindO_s, q3, q4, e2], ⟨z1, by dsimp only; omega, by dsimp only; omega, z3, z4⟩, by dsimp only; omega⟩
    · exact .inr ⟨(bb, rd), by simp only [F105_b0, branch_ite, if_neg g], g4, g5⟩) (k + 40) (n, 0, List.replicate (n * 256).toNat 0, v.2) ⟨rfl, Int.le_refl 0, by dsimp only; omega, by dsimp only; rw [List.length_replicate]; omega, hv.2⟩ (by dsimp only; omega)
  refine T.eq h1 (T.bind (F108_t _ 30 _ h2.2 (by decide) (by decide)) fun x hx => T.br (fun _ => ?_) fun _ => T.ret ⟨by dsimp only; rw [toB_length]; omega, hx⟩)
  refine T.guard (decide_eq_true ⟨by decide, by omega⟩) (T.guard (decide_eq_true (by omega)) (T.ret ⟨?_, hx⟩))
  dsimp only
  rw [toB_length, List.length_take]
  omega
theorem F17_t (K : Nat) (rom : List UInt8) (kind : Int) (h : rom.length ≤ 1024) : T (F17 K (rom, kind)) fun v => MSm (v.1, v.2.1, v.2.2.1, v.2.2.2.1, v.2.2.2.2.1, v.2.2.2.2.2.1, v.2.2.2.2.2.2.1, v.2.2.2.2.2.2.2.1, v.2.2.2.2.2.2.2.2.1, v.2.2.2.2.2.2.2.2.2.1, v.2.2.2.2.2.2.2.2.2.2.1, v.2.2.2.2.2.2.2.2.2.2.2.1, v.2.2.2.2.2.2.2.2.2.2.2.2.1, v.2.2.2.2.2.2.2.2.2.2.2.2.2.1, v.2.2.2.2.2.2.2.2.2.2.2.2.2.2.1, v.2.2.2.2.2.2.2.2.2.2.2.2.2.2.2.1, v.2.2.2.2.2.2.2.2.2.2.2.2.2.2.2.2.1, v.2.2.2.2.2.2.2.2.2.2.2.2.2.2.2.2.2.1, v.2.2.2.2.2.2.2.2.2.2.2.2.2.2.2.2.2.2.1, v.2.2.2.2.2.2.2.2.2.2.2.2.2.2.2.2.2.2.2.1, v.2.2.2.2.2.2.2.2.2.2.2.2.2.2.2.2.2.2.2.2.1, v.2.2.2.2.2.2.2.2.2.2.2.2.2.2.2.2.2.2.2.2.2.1, v.2.2.2.2.2.2.2.2.2.2.2.2.2.2.2.2.2.2.2.2.2.2.1) := by
  unfold F17
  refine T.bind (S := fun v => v.1.length ≤ 1024) ?_ fun v hv => T.br (fun _ => T.ret ⟨Nat.zero_le _, Nat.zero_le _⟩) fun _ => T.ret ⟨by unfold maxLen; exact Nat.le_trans hv (by decide), Nat.zero_le _⟩
  unfold F53
  rw [F86_eq K rom kind 1 _ 0 false 0 (by unfold maxLen; exact Nat.le_trans h (by decide))]
  exact T.binds (T.br (fun _ => T.ret (Nat.zero_le _)) fun _ => T.ret h)
theorem F107_t (K : Nat) (r : List Int × Int) (h : RdOk r) : T (F107 K r) fun v => RdOk v.2 := by
  unfold F107
  exact T.bind (F88_t K 16 r h (by decide) (by decide)) fun v hv => T.ret hv.2
theorem F59_t (k : Nat) (most : Int) (r : List Int × Int) (h : RdOk r) (hm : 0 ≤ most ∧ most ≤ 100) : T (F59 (k + 600) (most, r)) fun v => MSm (v.1, v.2.1, v.2.2.1, v.2.2.2.1, v.2.2.2.2.1, v.2.2.2.2.2.1, v.2.2.2.2.2.2.1, v.2.2.2.2.2.2.2.1, v.2.2.2.2.2.2.2.2.1, v.2.2.2.2.2.2.2.2.2.1, v.2.2.2.2.2.2.2.2.2.2.1, v.2.2.2.2.2.2.2.2.2.2.2.1, v.2.2.2.2.2.2.2.2.2.2.2.2.1, v.2.2.2.2.2.2.2.2.2.2.2.2.2.1, v.2.2.2.2.2.2.2.2.2.2.2.2.2.2.1, v.2.2.2.2.2.2.2.2.2.2.2.2.2.2.2.1, v.2.2.2.2.2.2.2.2.2.2.2.2.2.2.2.2.1, v.2.2.2.2.2.2.2.2.2.2.2.2.2.2.2.2.2.1, v.2.2.2.2.2.2.2.2.2.2.2.2.2.2.2.2.2.2.1, v.2.2.2.2.2.2.2.2.2.2.2.2.2.2.2.2.2.2.2.1, v.2.2.2.2.2.2.2.2.2.2.2.2.2.2.2.2.2.2.2.2.1, v.2.2.2.2.2.2.2.2.2.2.2.2.2.2.2.2.2.2.2.2.2.1, v.2.2.2.2.2.2.2.2.2.2.2.2.2.2.2.2.2.2.2.2.2.2.1) ∧ RdOk v.2.2.2.2.2.2.2.2.2.2.2.2.2.2.2.2.2.2.2.2.2.2.2 := by
  unfold F59
  refine T.bind (F105_t (k + 560) r h) fun v0 h0 => T.bind (F88_t _ 3 _ h0.2 (by decide) (by decide)) fun v1 h1 => T.bind (F17_t _ v0.1 v1.1 h0.1) fun v2 h2 => ?_
  refine T.br (fun _ => T.ret ⟨h2, h1.2⟩) fun _ => ?_
  refine T.bind (F106_t _ _ h1.2) fun v3 h3 => T.bind (F107_t _ _ h3.2) fun v4 h4 => T.bind (F106_t _ _ h4) fun v5 h5 => T.bind (F106_t _ _ h5.2) fun v6 h6 => ?_
  refine T.bind (F88_t _ 5 _ h6.2 (by decide) (by decide)) fun v7 h7 => T.guard (decide_eq_true h7.1) (T.nthN (by have := h7.1; simp; omega) fun v8 _ _ => ?_)
  refine T.bind (F88_t _ 5 _ h7.2 (by decide) (by decide)) fun v9 h9 => T.guard (decide_eq_true h9.1) (T.nthN (by have := h9.1; simp; omega) fun v10 _ _ => ?_)
  have e1 : w64 (most + 1) = most + 1 := w64_id (by omega) (by omega)
  dsimp only
  rw [e1]
  refine T.bind (F88_t _ (most + 1) _ h9.2 (by omega) (by omega)) fun v11 h11 => ?_
  refine T.bind (F35_t k (v3.1, v4.1, v5.1, v2.2.2.2.1, v2.2.2.2.2.1, v2.2.2.2.2.2.1, v8, v6.1, v10, v2.2.2.2.2.2.2.2.2.2.1, v2.2.2.2.2.2.2.2.2.2.2.1, v2.2.2.2.2.2.2.2.2.2.2.2.1, v2.2.2.2.2.2.2.2.2.2.2.2.2.1, v2.2.2.2.2.2.2.2.2.2.2.2.2.2.1, v2.2.2.2.2.2.2.2.2.2.2.2.2.2.2.1, v2.2.2.2.2.2.2.2.2.2.2.2.2.2.2.2.1, v2.2.2.2.2.2.2.2.2.2.2.2.2.2.2.2.2.1, v2.2.2.2.2.2.2.2.2.2.2.2.2.2.2.2.2.2.1, v2.2.2.2.2.2.2.2.2.2.2.2.2.2.2.2.2.2.2.1, v2.2.2.2.2.2.2.2.2.2.2.2.2.2.2.2.2.2.2.2.1, v2.2.2.2.2.2.2.2.2.2.2.2.2.2.2.2.2.2.2.2.2.1, v2.2.2.2.2.2.2.2.2.2.2.2.2.2.2.2.2.2.2.2.2.2.1, v2.2.2.2.2.2.2.2.2.2.2.2.2.2.2.2.2.2.2.2.2.2.2.1) v11.1 h2) fun v12 h12 => ?_
  have hs : MSm (v12.1, v12.2.1, v12.2.2.1, v12.2.2.2.1, v12.2.2.2.2.1, v12.2.2.2.2.2.1, v12.2.2.2.2.2.2.1, v12.2.2.2.2.2.2.2.1, v12.2.2.2.2.2.2.2.2.1, v12.2.2.2.2.2.2.2.2.2.1, v12.2.2.2.2.2.2.2.2.2.2.1, v12.2.2.2.2.2.2.2.2.2.2.2.1, v12.2.2.2.2.2.2.2.2.2.2.2.2.1, v12.2.2.2.2.2.2.2.2.2.2.2.2.2.1, v12.2.2.2.2.2.2.2.2.2.2.2.2.2.2.1, v12.2.2.2.2.2.2.2.2.2.2.2.2.2.2.2.1, v12.2.2.2.2.2.2.2.2.2.2.2.2.2.2.2.2.1, v12.2.2.2.2.2.2.2.2.2.2.2.2.2.2.2.2.2.1, v12.2.2.2.2.2.2.2.2.2.2.2.2.2.2.2.2.2.2.1, v12.2.2.2.2.2.2.2.2.2.2.2.2.2.2.2.2.2.2.2.1, v12.2.2.2.2.2.2.2.2.2.2.2.2.2.2.2.2.2.2.2.2.1, v12.2.2.2.2.2.2.2.2.2.2.2.2.2.2.2.2.2.2.2.2.2.1, v12.2.2.2.2.2.2.2.2.2.2.2.2.2.2.2.2.2.2.2.2.2.2.1) := by
    rcases h12 with h12 | h12
    · exact h12.2
    · exact WInv.sm (m := (v12.1, v12.2.1, v12.2.2.1, v12.2.2.2.1, v12.2.2.2.2.1, v12.2.2.2.2.2.1, v12.2.2.2.2.2.2.1, v12.2.2.2.2.2.2.2.1, v12.2.2.2.2.2.2.2.2.1, v12.2.2.2.2.2.2.2.2.2.1, v12.2.2.2.2.2.2.2.2.2.2.1, v12.2.2.2.2.2.2.2.2.2.2.2.1, v12.2.2.2.2.2.2.2.2.2.2.2.2.1, v12.2.2.2.2.2.2.2.2.2.2.2.2.2.1, v12.2.2.2.2.2.2.2.2.2.2.2.2.2.2.1, v12.2.2.2.2.2.2.2.2.2.2.2.2.2.2.2.1, v12.2.2.2.2.2.2.2.2.2.2.2.2.2.2.2.2.1, v12.2.2.2.2.2.2.2.2.2.2.2.2.2.2.2.2.2.1, v12.2.2.2.2.2.2.2.2.2.2.2.2.2.2.2.2.2.2.1, v12.2.2.2.2.2.2.2.2.2.2.2.2.2.2.2.2.2.2.2.1, v12.2.2.2.2.2.2.2.2.2.2.2.2.2.2.2.2.2.2.2.2.1, v12.2.2.2.2.2.2.2.2.2.2.2.2.2.2.2.2.2.2.2.2.2.1, v12.2.2.2.2.2.2.2.2.2.2.2.2.2.2.2.2.2.2.2.2.2.2.1)) h12.1
  refine T.bind (S := fun v => MSm (v.1, v.2.1, v.2.2.1, v.2.2.2.1, v.2.2.2.2.1, v.2.2.2.2.2.1, v.2.2.2.2.2.2.1, v.2.2.2.2.2.2.2.1, v.2.2.2.2.2.2.2.2.1, v.2.2.2.2.2.2.2.2.2.1, v.2.2.2.2.2.2.2.2.2.2.1, v.2.2.2.2.2.2.2.2.2.2.2.1, v.2.2.2.2.2.2.2.2.2.2.2.2.1, v.2.2.2.2.2.2.2.2.2.2.2.2.2.1, v.2.2.2.2.2.2.2.2.2.2.2.2.2.2.1, v.2.2.2.2.2.2.2.2.2.2.2.2.2.2.2.1, v.2.2.2.2.2.2.2.2.2.2.2.2.2.2.2.2.1, v.2.2.2.2.2.2.2.2.2.2.2.2.2.2.2.2.2.1, v.2.2.2.2.2.2.2.2.2.2.2.2.2.2.2.2.2.2.1, v.2.2.2.2.2.2.2.2.2.2.2.2.2.2.2.2.2.2.2.1, v.2.2.2.2.2.2.2.2.2.2.2.2.2.2.2.2.2.2.2.2.1, v.2.2.2.2.2.2.2.2.2.2.2.2.2.2.2.2.2.2.2.2.2.1, v.2.2.2.2.2.2.2.2.2.2.2.2.2.2.2.2.2.2.2.2.2.2.1) ∧ RdOk v.2.2.2.2.2.2.2.2.2.2.2.2.2.2.2.2.2.2.2.2.2.2.2.2.2.2.2.2.2.2.2.2.2.2.2.2.2.2.2.2.2.2.2.2.2.2) ?_ fun v16 h16 => ?_
  · refine T.bind (F108_t _ 4 _ h11.2 (by decide) (by decide)) fun v13 h13 => T.br (fun _ => ?_) fun _ => T.ret ⟨hs, h13⟩
    exact T.bind (F88_t _ 4 _ h13 (by decide) (by decide)) fun v14 h14 => T.guard (decide_eq_true h14.1) (T.nthN (by have := h14.1; simp; omega) fun v15 _ _ => T.ret ⟨hs, h14.2⟩)
  refine T.bind (F88_t _ 30 _ h16.2 (by decide) (by decide)) fun v17 h17 => T.br (fun _ => ?_) fun _ => T.br (fun _ => ?_) fun _ => T.ret ⟨h16.1, h17.2⟩
  · exact T.bind (F109_t _ 0 255 _ h17.2 (by omega) (by decide) (by decide) (by decide)) fun v18 h18 => T.ret ⟨h16.1, h18⟩
  · exact T.bind (F109_t _ 0 65535 _ h17.2 (by omega) (by decide) (by decide) (by decide)) fun v18 h18 => T.ret ⟨h16.1, h18⟩
end Go.U.Tryz
namespace Go.U.Tryz
open Go Go.U
set_option maxRecDepth 20000
theorem ffc {P : Prop} (h : false = true) : P := nomatch h
def runN (k : Nat) : Nat → MT → Option (MT × Int × Int)
  | 0, m => some (m, 0, 0)
  | j + 1, m => bindO (F60 (k + 40) m) fun v => branch (decide (v.2.2.2.2.2.2.2.2.2.2.2.2.2.2.2.2.2.2.2.2.2.2.2 = 0)) (bindO (runN k j (mOf v)) fun r => some (r.1, r.2.1, r.2.2 + 1)) (some (m, v.2.2.2.2.2.2.2.2.2.2.2.2.2.2.2.2.2.2.2.2.2.2.2, 0))
theorem iter_none {α β : Type} {n : Nat} {f : α → Option (α ⊕ β)} {a : α} (h : f a = none) : iter (n + 1) f a = none := by simp only [iter, h]
theorem loop_runN (k : Nat) (n : Int) (hn : n ≤ 500) : ∀ (j N : Nat) (i : Int) (m : MT), 0 ≤ i → n - i = (j : Int) → j < N →
    iter N (F55n_b0 (k + 40)) (zst n 0 i m) = bindO (runN k j m) fun r => some (zrs r.2.1 (i + r.2.2) r.1)
  | j, 0, i, m, h0, hj, hN => absurd hN (Nat.not_lt_zero _)
  | 0, N + 1, i, m, h0, hj, hN => by
    have g : ¬ i < n := by omega
    have e : F55n_b0 (k + 40) (zst n 0 i m) = some (.inr (zrs 0 i m)) := by
      show branch (decide (i < n)) _ _ = _
      rw [decide_eq_false g]; rfl
    refine (iter_end e).trans ?_
    show _ = some (zrs 0 (i + 0) m)
    rw [Int.add_zero]
  | j + 1, N + 1, i, m, h0, hj, hN => by
    have g : i < n := by omega
    have ei : w64 (i + 1) = i + 1 := w64_id (by omega) (by omega)
    cases e1 : F60 (k + 40) m with
    | none =>
      have e : F55n_b0 (k + 40) (zst n 0 i m) = none := by
        show branch (decide (i < n)) (bindO (F60 (k + 40) m) _) _ = _
        rw [decide_eq_true g, e1]; rfl
      refine (iter_none e).trans ?_
      show _ = bindO (bindO (F60 (k + 40) m) _) _
      rw [e1]; rfl
    | some v =>
      by_cases hc : v.2.2.2.2.2.2.2.2.2.2.2.2.2.2.2.2.2.2.2.2.2.2.2 = 0
      · have e : F55n_b0 (k + 40) (zst n 0 i m) = some (.inl (zst n 0 (i + 1) (mOf v))) := by
          show branch (decide (i < n)) (bindO (F60 (k + 40) m) _) _ = _
          rw [decide_eq_true g, e1, branch_t]
          show branch (!(decide (v.2.2.2.2.2.2.2.2.2.2.2.2.2.2.2.2.2.2.2.2.2.2.2 = 0))) _ _ = _
          rw [decide_eq_true hc]
          show some (Sum.inl (zst n v.2.2.2.2.2.2.2.2.2.2.2.2.2.2.2.2.2.2.2.2.2.2.2 (w64 (i + 1)) (mOf v))) = _
          rw [hc, ei]
        refine (iter_go e).trans ((loop_runN k n hn j N (i + 1) (mOf v) (by omega) (by omega) (by omega)).trans ?_)
        show _ = bindO (bindO (F60 (k + 40) m) _) _
        rw [e1]
        show _ = bindO (branch (decide (v.2.2.2.2.2.2.2.2.2.2.2.2.2.2.2.2.2.2.2.2.2.2.2 = 0)) _ _) _
        rw [decide_eq_true hc, branch_t, bind_bind]
        cases runN k j (mOf v) with
        | none => rfl
        | some r =>
          show some (zrs r.2.1 (i + 1 + r.2.2) r.1) = some (zrs r.2.1 (i + (r.2.2 + 1)) r.1)
          rw [show i + 1 + r.2.2 = i + (r.2.2 + 1) by omega]
      · have e : F55n_b0 (k + 40) (zst n 0 i m) = some (.inr (zrs v.2.2.2.2.2.2.2.2.2.2.2.2.2.2.2.2.2.2.2.2.2.2.2 i m)) := by
          show branch (decide (i < n)) (bindO (F60 (k + 40) m) _) _ = _
          rw [decide_eq_true g, e1, branch_t]
          show branch (!(decide (v.2.2.2.2.2.2.2.2.2.2.2.2.2.2.2.2.2.2.2.2.2.2.2 = 0))) _ _ = _
          rw [decide_eq_false hc]
          rfl
        refine (iter_end e).trans ?_
        show _ = bindO (bindO (F60 (k + 40) m) _) _
        rw [e1]
        show _ = bindO (branch (decide (v.2.2.2.2.2.2.2.2.2.2.2.2.2.2.2.2.2.2.2.2.2.2.2 = 0)) _ _) _
        rw [decide_eq_false hc]
        show _ = some (zrs v.2.2.2.2.2.2.2.2.2.2.2.2.2.2.2.2.2.2.2.2.2.2.2 (i + 0) m)
        rw [Int.add_zero]
theorem runN_ok (k : Nat) : ∀ (j : Nat) (m : MT), WInv m.w → ∃ r, runN k j m = some r ∧ WInv r.1.w ∧ 0 ≤ r.2.2 ∧ r.2.2 ≤ (j : Int) ∧ (r.2.1 = 0 → r.2.2 = (j : Int))
  | 0, m, hw => ⟨_, rfl, hw, by dsimp only; omega, by dsimp only; omega, fun _ => rfl⟩
  | j + 1, m, hw => by
    obtain ⟨v, e1, e2⟩ := F62_t k m hw
    have e3 : F60 (k + 40) m = some v := (step_eq k m.w hw).trans e1
    show ∃ r, bindO (F60 (k + 40) m) _ = some r ∧ _
    rw [e3]
    by_cases hc : v.2.2.2.2.2.2.2.2.2.2.2.2.2.2.2.2.2.2.2.2.2.2.2 = 0
    · have hw' : WInv (mOf v).w := e2.1
      obtain ⟨r, q1, q2, q3, q4, q5⟩ := runN_ok k j (mOf v) hw'
      refine ⟨(r.1, r.2.1, r.2.2 + 1), ?_, q2, by dsimp only; omega, by dsimp only; omega, fun e => ?_⟩
      · show branch (decide (v.2.2.2.2.2.2.2.2.2.2.2.2.2.2.2.2.2.2.2.2.2.2.2 = 0)) _ _ = _
        rw [decide_eq_true hc, branch_t, q1]; rfl
      · have := q5 e; dsimp only; omega
    · refine ⟨(m, v.2.2.2.2.2.2.2.2.2.2.2.2.2.2.2.2.2.2.2.2.2.2.2, 0), ?_, hw, by dsimp only; omega, by dsimp only; omega, fun e => absurd e hc⟩
      show branch (decide (v.2.2.2.2.2.2.2.2.2.2.2.2.2.2.2.2.2.2.2.2.2.2.2 = 0)) _ _ = _
      rw [decide_eq_false hc]; rfl
theorem F32_ok (k : Nat) (m : MT) (h : WInv m.w) : F32 (k + 600 + 40) m = some true := by
  have hr := h.cart.hrom
  have hr' : m.2.2.2.2.2.2.2.2.2.2.2.2.1.length ≤ maxLen := by change _ ∧ _ ∧ m.2.2.2.2.2.2.2.2.2.2.2.2.1.length ≤ 4096 at hr; unfold maxLen; omega
  have ho : m.2.2.2.2.2.2.2.2.2.2.2.2.2.2.2.2.2.2.2.2.2.1.length ≤ 100 := h.out.2
  have q := F32_eq (k + 600 + 40) m.1 m.2.1 m.2.2.1 m.2.2.2.1 m.2.2.2.2.1 m.2.2.2.2.2.1 m.2.2.2.2.2.2.1 m.2.2.2.2.2.2.2.1 m.2.2.2.2.2.2.2.2.1 m.2.2.2.2.2.2.2.2.2.1 m.2.2.2.2.2.2.2.2.2.2.1 m.2.2.2.2.2.2.2.2.2.2.2.1 m.2.2.2.2.2.2.2.2.2.2.2.2.1 m.2.2.2.2.2.2.2.2.2.2.2.2.2.1 m.2.2.2.2.2.2.2.2.2.2.2.2.2.2.1 m.2.2.2.2.2.2.2.2.2.2.2.2.2.2.2.1 m.2.2.2.2.2.2.2.2.2.2.2.2.2.2.2.2.1 m.2.2.2.2.2.2.2.2.2.2.2.2.2.2.2.2.2.1 m.2.2.2.2.2.2.2.2.2.2.2.2.2.2.2.2.2.2.1 m.2.2.2.2.2.2.2.2.2.2.2.2.2.2.2.2.2.2.2.1 m.2.2.2.2.2.2.2.2.2.2.2.2.2.2.2.2.2.2.2.2.1 m.2.2.2.2.2.2.2.2.2.2.2.2.2.2.2.2.2.2.2.2.2.1 m.2.2.2.2.2.2.2.2.2.2.2.2.2.2.2.2.2.2.2.2.2.2 hr' (by unfold maxLen; omega) (by omega)
  exact q.trans (congrArg some (WInv.mok (q := m.w.2.2.2.2.2.2.2.2.2.2.2.2.2.2.2.2.2.2.2.2.2.2.2) h))
theorem F18_runN (k : Nat) (m : MT) (n : Int) (hw : WInv m.w) (hn : 0 ≤ n ∧ n ≤ 500) : ∃ r, runN (k + 600) n.toNat m = some r ∧ WInv r.1.w ∧ (r.2.1 = 0 → r.2.2 = n) ∧ 0 ≤ r.2.2 ∧ r.2.2 ≤ n ∧ F18 (k + 600 + 40) (cat m n) = some (ocat r.1 (r.2.1, r.2.2, outM r.1)) := by
  obtain ⟨r, e1, e2, e3, e4, e5⟩ := runN_ok (k + 600) n.toNat m hw
  have a2 : F54 (k + 600 + 40) (n, 0, 500) = some true := (F54_in _ _ _ _).trans (congrArg some (decide_eq_true hn))
  have hm := F32_ok k m hw
  have hout := F61o_m (k + 600 + 40) r.1 e2.out.2
  have it := loop_runN (k + 600) n hn.2 n.toNat (k + 600 + 40) 0 m (Int.le_refl 0) (by omega) (by omega)
  rw [e1] at it
  have it2 : iter (k + 600 + 40) (F55n_b0 (k + 600 + 40)) (zst n 0 0 m) = some (zrs r.2.1 r.2.2 r.1) := by
    refine it.trans ?_
    show some (zrs r.2.1 (0 + r.2.2) r.1) = _
    rw [Int.zero_add]
  refine ⟨r, e1, e2, fun e => by have := e5 e; omega, e3, by omega, ?_⟩
  have t : T (F18 (k + 600 + 40) (cat m n)) (fun x => x = (ocat r.1 (r.2.1, r.2.2, outM r.1))) := by
    unfold F18
    refine T.bindbind (T.bindbind (T.eq hm (T.bindbr nofun fun _ => T.bindbind (T.eq a2 (T.binds (T.bindbr nofun fun _ => T.binds (T.csr ?_)))))))
    refine T.bind (S := fun x => x = (ocat r.1 (r.2.1, r.2.2, outM r.1))) ?_ fun r hr => T.ret hr
    unfold F55n
    exact T.eq it2 (T.eq hout (T.ret rfl))
  obtain ⟨x, er, rfl⟩ := t
  exact er
end Go.U.Tryz
namespace Go.U.Tryz
open Go Go.U
set_option maxRecDepth 20000
set_option maxHeartbeats 1000000
theorem F19_eq (K : Nat) (xs : List Int) (hl : xs.length ≤ maxLen) (hK : xs.length < K) : F19 K (xs, xs) = some true := F77_eq K xs hl hK
theorem F20_m (K : Nat) (m : MT) (h : m.2.2.2.2.2.2.2.2.2.2.2.2.2.2.2.2.2.2.2.2.2.1.length ≤ 100) (hK : 100 < K) : F20 K (cat m m) = some true := by
  have e : F57 K (m.2.2.2.2.2.2.2.2.2.2.2.2.1, m.2.2.2.2.2.2.2.2.2.2.2.2.2.1, m.2.2.2.2.2.2.2.2.2.2.2.2.2.2.1, m.2.2.2.2.2.2.2.2.2.2.2.2.2.2.2.1, m.2.2.2.2.2.2.2.2.2.2.2.2.2.2.2.2.1, m.2.2.2.2.2.2.2.2.2.2.2.2.2.2.2.2.2.1, m.2.2.2.2.2.2.2.2.2.2.2.2.2.2.2.2.2.2.1, m.2.2.2.2.2.2.2.2.2.2.2.2.1, m.2.2.2.2.2.2.2.2.2.2.2.2.2.1, m.2.2.2.2.2.2.2.2.2.2.2.2.2.2.1, m.2.2.2.2.2.2.2.2.2.2.2.2.2.2.2.1, m.2.2.2.2.2.2.2.2.2.2.2.2.2.2.2.2.1, m.2.2.2.2.2.2.2.2.2.2.2.2.2.2.2.2.2.1, m.2.2.2.2.2.2.2.2.2.2.2.2.2.2.2.2.2.2.1) = some true := by
    unfold F57; simp only [decide_true, Bool.and_self]
  have e2 : F19 K (m.2.2.2.2.2.2.2.2.2.2.2.2.2.2.2.2.2.2.2.2.2.1, m.2.2.2.2.2.2.2.2.2.2.2.2.2.2.2.2.2.2.2.2.2.1) = some true := F19_eq K _ (by unfold maxLen; omega) (by omega)
  have t : T (F20 K (cat m m)) (fun r => r = true) := by
    unfold F20
    refine T.br (fun _ => T.eq e (T.br (fun _ => T.br (fun _ => T.br (fun _ => T.br (fun _ => T.eq e2 (T.ret rfl)) fun g => absurd rfl (of_decide_eq_false g)) fun g => absurd rfl (of_decide_eq_false g)) fun g => absurd rfl (of_decide_eq_false g)) nofun)) fun g => ?_
    exfalso
    dsimp only [cat] at g
    simp only [decide_true, Bool.and_self] at g
    cases g
  obtain ⟨r, er, rfl⟩ := t
  exact er
def mO (t : Int × Int × Int × Int × Int × Int × Int × Int × Int × Int × Bool × Bool × (List UInt8) × Int × Int × (List UInt8) × Int × Bool × Int × (List UInt8) × (List UInt8) × Int × Int × Int × List Int) : MT := (t.1, t.2.1, t.2.2.1, t.2.2.2.1, t.2.2.2.2.1, t.2.2.2.2.2.1, t.2.2.2.2.2.2.1, t.2.2.2.2.2.2.2.1, t.2.2.2.2.2.2.2.2.1, t.2.2.2.2.2.2.2.2.2.1, t.2.2.2.2.2.2.2.2.2.2.1, t.2.2.2.2.2.2.2.2.2.2.2.1, t.2.2.2.2.2.2.2.2.2.2.2.2.1, t.2.2.2.2.2.2.2.2.2.2.2.2.2.1, t.2.2.2.2.2.2.2.2.2.2.2.2.2.2.1, t.2.2.2.2.2.2.2.2.2.2.2.2.2.2.2.1, t.2.2.2.2.2.2.2.2.2.2.2.2.2.2.2.2.1, t.2.2.2.2.2.2.2.2.2.2.2.2.2.2.2.2.2.1, t.2.2.2.2.2.2.2.2.2.2.2.2.2.2.2.2.2.2.1, t.2.2.2.2.2.2.2.2.2.2.2.2.2.2.2.2.2.2.2.1, t.2.2.2.2.2.2.2.2.2.2.2.2.2.2.2.2.2.2.2.2.1, t.2.2.2.2.2.2.2.2.2.2.2.2.2.2.2.2.2.2.2.2.2.2.2.2, t.2.2.2.2.2.2.2.2.2.2.2.2.2.2.2.2.2.2.2.2.2.1)
theorem mO_inj {m m' : MT} {c c' n n' : Int} (h : ocat m (c, n, outM m) = ocat m' (c', n', outM m')) : m = m' ∧ c = c' ∧ n = n' :=
  ⟨congrArg mO h, congrArg (fun t => t.2.2.2.2.2.2.2.2.2.2.2.2.2.2.2.2.2.2.2.2.2.2.1) h, congrArg (fun t => t.2.2.2.2.2.2.2.2.2.2.2.2.2.2.2.2.2.2.2.2.2.2.2.1) h⟩
end Go.U.Tryz
namespace Go.U.Tryz
open Go Go.U
set_option maxRecDepth 20000
set_option maxHeartbeats 1000000
def Path (k : Nat) (xs : List (Int × Int)) : Nat → MT → MT → Prop
  | 0, m, m' => m = m'
  | s + 1, m, m' => ∃ v a, F60 (k + 40) m = some v ∧ v.2.2.2.2.2.2.2.2.2.2.2.2.2.2.2.2.2.2.2.2.2.2.2 = 0 ∧ WInv m.w ∧ WInv (mOf v).w ∧ F93 (k + 40) (mOf v) = some a ∧ (hitB xs a = true → s = 0) ∧ Path k xs s (mOf v) m'
theorem to_path (k : Nat) (n : Int) (xs : List (Int × Int)) (hn : n ≤ 500) (hl : xs.length ≤ 1000) (hK : xs.length < k + 40) : ∀ (j : Nat) (N : Nat) (i : Int) (m : MT), 0 ≤ i → n - i = (j : Int) → WInv m.w → j < N →
    ∃ (m' : MT) (c : Int) (s : Nat), iter N (F55s_b0 (k + 40)) (zst2 n 0 i m xs) = some (zrs2 c (i + (s : Int)) m' xs) ∧ Path k xs s m m' ∧ (outM m').length ≤ 100 ∧ s ≤ j ∧ (xs = [] → runN k j m = some (m', c, (s : Int)))
  | j, 0, i, m, h0, hj, hw, hN => absurd hN (Nat.not_lt_zero _)
  | 0, N + 1, i, m, h0, hj, hw, hN => by
    have g : ¬ i < n := by omega
    refine ⟨m, 0, 0, iter_end ?_, rfl, hw.out.2, Nat.le_refl _, fun _ => rfl⟩
    show branch (decide (i < n)) _ _ = _
    rw [decide_eq_false g]
    show some (Sum.inr (zrs2 0 i m xs)) = some (Sum.inr (zrs2 0 (i + 0) m xs))
    rw [Int.add_zero]
  | j + 1, N + 1, i, m, h0, hj, hw, hN => by
    have g : i < n := by omega
    obtain ⟨v, e1, e2⟩ := F62_t k m hw
    have e3 : F60 (k + 40) m = some v := (step_eq k m.w hw).trans e1
    have ei : w64 (i + 1) = i + 1 := w64_id (by omega) (by omega)
    by_cases hc : v.2.2.2.2.2.2.2.2.2.2.2.2.2.2.2.2.2.2.2.2.2.2.2 = 0
    · have hw' : WInv (mOf v).w := e2.1
      obtain ⟨a, a1, a2⟩ := at_both (k + 40) (mOf v) hw'
      have p1 : F55s_b0 (k + 40) (zst2 n 0 i m xs) = some (cond (hitB xs a) (.inr (zrs2 0 (i + 1) (mOf v) xs)) (.inl (zst2 n 0 (i + 1) (mOf v) xs))) := by
        show branch (decide (i < n)) (bindO (F60 (k + 40) m) _) _ = _
        rw [decide_eq_true g, e3, branch_t]
        show branch (!(decide (v.2.2.2.2.2.2.2.2.2.2.2.2.2.2.2.2.2.2.2.2.2.2.2 = 0))) _ (bindO (F91 (k + 40) (cat (mOf v) xs)) fun v1 => branch v1.1 (some (Sum.inr (zrs2 v.2.2.2.2.2.2.2.2.2.2.2.2.2.2.2.2.2.2.2.2.2.2.2 (w64 (i + 1)) (mOf v) v1.2))) (some (Sum.inl (zst2 n v.2.2.2.2.2.2.2.2.2.2.2.2.2.2.2.2.2.2.2.2.2.2.2 (w64 (i + 1)) (mOf v) v1.2)))) = _
        rw [decide_eq_true hc, Bool.not_true, branch_f]
        refine (congrArg (fun z => bindO z _) (F91_eq (k + 40) (mOf v) xs a a2 hl hK)).trans ?_
        simp only [bindO_s]
        rw [hc, ei]
        cases hitB xs a <;> rfl
      cases hh : hitB xs a with
      | true =>
        rw [hh] at p1
        refine ⟨mOf v, 0, 1, iter_end p1, ⟨v, a, e3, hc, hw, hw', a2, fun _ => rfl, rfl⟩, hw'.out.2, by omega, fun e => ?_⟩
        subst e; cases hh
      | false =>
        rw [hh] at p1
        obtain ⟨m', c, s, q1, q2, q3, q4, q5⟩ := to_path k n xs hn hl hK j N (i + 1) (mOf v) (by omega) (by omega) hw' (by omega)
        refine ⟨m', c, s + 1, (iter_go p1).trans (q1.trans ?_), ⟨v, a, e3, hc, hw, hw', a2, (fun e => by rw [hh] at e; cases e), q2⟩, q3, by omega, fun e => ?_⟩
        · rw [show i + 1 + (s : Int) = i + ((s + 1 : Nat) : Int) by omega]
        · show bindO (F60 (k + 40) m) _ = _
          rw [e3]
          show branch (decide (v.2.2.2.2.2.2.2.2.2.2.2.2.2.2.2.2.2.2.2.2.2.2.2 = 0)) _ _ = _
          rw [decide_eq_true hc, branch_t, q5 e]
          rfl
    · refine ⟨m, v.2.2.2.2.2.2.2.2.2.2.2.2.2.2.2.2.2.2.2.2.2.2.2, 0, iter_end ?_, rfl, hw.out.2, by omega, fun _ => ?_⟩
      · show branch (decide (i < n)) (bindO (F60 (k + 40) m) _) _ = _
        rw [decide_eq_true g, e3, branch_t]
        show branch (!(decide (v.2.2.2.2.2.2.2.2.2.2.2.2.2.2.2.2.2.2.2.2.2.2.2 = 0))) _ _ = _
        rw [decide_eq_false hc]
        show some (Sum.inr (zrs2 v.2.2.2.2.2.2.2.2.2.2.2.2.2.2.2.2.2.2.2.2.2.2.2 i m xs)) = some (Sum.inr (zrs2 v.2.2.2.2.2.2.2.2.2.2.2.2.2.2.2.2.2.2.2.2.2.2.2 (i + 0) m xs))
        rw [Int.add_zero]
      · show bindO (F60 (k + 40) m) _ = _
        rw [e3]
        show branch (decide (v.2.2.2.2.2.2.2.2.2.2.2.2.2.2.2.2.2.2.2.2.2.2.2 = 0)) _ _ = _
        rw [decide_eq_false hc]
        rfl
theorem F37_path (k : Nat) (m : MT) (xs : List (Int × Int)) (n : Int) (hw : WInv m.w) (hn : 0 ≤ n ∧ n ≤ 500) (hl : xs.length ≤ 20) : ∃ (m' : MT) (c : Int) (s : Nat),
    F37 (k + 600 + 40) (cat m (xs, n)) = some (ocat m' (c, (s : Int), outM m')) ∧ Path (k + 600) xs s m m' ∧ (outM m').length ≤ 100 ∧ (s : Int) ≤ n ∧ (xs = [] → runN (k + 600) n.toNat m = some (m', c, (s : Int))) := by
  obtain ⟨m', c, s, q1, q2, q3, q4, q5⟩ := to_path (k + 600) n xs hn.2 (by omega) (by omega) n.toNat (k + 600 + 40) 0 m (Int.le_refl 0) (by omega) hw (by omega)
  rw [Int.zero_add] at q1
  have a2 : F54 (k + 600 + 40) (n, 0, 500) = some true := (F54_in _ _ _ _).trans (congrArg some (decide_eq_true hn))
  have e2 := F32_ok k m hw
  have hout := F61o_m (k + 600 + 40) m' q3
  refine ⟨m', c, s, ?_, q2, q3, by omega, q5⟩
  have t : T (F37 (k + 600 + 40) (cat m (xs, n))) (fun r => r = (ocat m' (c, (s : Int), outM m'))) := by
    unfold F37
    refine T.bindbind (T.bindbind (T.eq e2 (T.bindbr nofun fun _ => T.bindbind (T.eq a2 (T.bindbr nofun fun _ => T.binds (T.bindbr (fun g => absurd (of_decide_eq_true g) (show ¬ (20 < (xs.length : Int)) by omega)) fun _ => T.binds (T.csr ?_)))))))
    refine T.bind (S := fun r => r = (ocat m' (c, (s : Int), xs, outM m'))) ?_ fun r hr => ?_
    · unfold F55s
      exact T.eq q1 (T.eq hout (T.ret rfl))
    · subst hr; exact T.ret rfl
  obtain ⟨r, er, rfl⟩ := t
  exact er
theorem F37_bad (k : Nat) (m : MT) (xs : List (Int × Int)) (n : Int) (hm : F32 k m = some false) : F37 k (cat m (xs, n)) = some (ocat Z (3, 0, outM Z)) := by
  have t : T (F37 k (cat m (xs, n))) (fun r => r = ocat Z (3, 0, outM Z)) := by
    unfold F37
    exact T.bindbind (T.bindbind (T.eq hm (T.bindbr (fun _ => T.binds (T.bindbr (fun _ => T.binds (T.csl (T.ret rfl))) nofun)) nofun)))
  obtain ⟨r, er, rfl⟩ := t
  exact er
theorem F22_v (k : Nat) (m : MT) (hw : WInv m.w) : ∃ v, F60 (k + 600 + 40) m = some v ∧ F22 (k + 600 + 40) m = some (ocat (mOf v) (v.2.2.2.2.2.2.2.2.2.2.2.2.2.2.2.2.2.2.2.2.2.2.2, outM (mOf v))) := by
  obtain ⟨v, q1, q2⟩ := F62_t (k + 600) m hw
  have q3 : F60 (k + 600 + 40) m = some v := (step_eq (k + 600) m.w hw).trans q1
  refine ⟨v, q3, ?_⟩
  unfold F22
  rw [F32_ok k m hw]
  simp only [bindO_s, Bool.not_true, branch_f]
  rw [q3]
  simp only [bindO_s]
  refine (congrArg (fun z => bindO z _) (F61o_m (k + 600 + 40) (mOf v) q2.1.out.2)).trans ?_
  rfl
theorem F39_v (k : Nat) (m : MT) (hw : WInv m.w) (a : Int × Int) (e : F93 (k + 600 + 40) m = some a) : F39 (k + 600 + 40) m = some a := by
  unfold F39
  rw [F32_ok k m hw]
  simp only [bindO_s, Bool.not_true, branch_f]
  rw [e]
  rfl
abbrev YT := Int × Int × Int × Int × Int × Int × Int × Int × Int × Int × Bool × Bool × (List UInt8) × Int × Int × (List UInt8) × Int × Bool × Int × (List UInt8) × (List UInt8) × Int × (List Int) × Int × Int × Int × Int × Int × Int × Int × Int × Int × Int × Bool × Bool × (List UInt8) × Int × Int × (List UInt8) × Int × Bool × Int × (List UInt8) × (List UInt8) × (List Int) × Int
theorem hit_loop (K : Nat) (xs : List (Int × Int)) (n many i : Int) (m : MT) (Y : YT) (a : Int × Int) (e : F39 K m = some a) (hl : xs.length ≤ 1000) : ∀ (d N p : Nat) (b : Bool), p + d = xs.length → d < N →
    iter N (F11_b1 K) (xs, n, many, i, b, (p : Int), cat m Y) = some (xs, n, many, i, b || hitB (xs.drop p) a, cat m Y)
  | d, 0, p, b, h, hN => absurd hN (Nat.not_lt_zero _)
  | 0, N + 1, p, b, h, hN => by
    have c : ¬ ((p : Int) < (xs.length : Int)) := by omega
    refine iter_end ?_
    show branch (decide ((p : Int) < (xs.length : Int))) _ _ = _
    rw [decide_eq_false c, List.drop_eq_nil_of_le (by omega)]
    cases b <;> rfl
  | d + 1, N + 1, p, b, h, hN => by
    have c : (p : Int) < (xs.length : Int) := by omega
    have hp : p < xs.length := by omega
    have ep : w64 ((p : Int) + 1) = ((p + 1 : Nat) : Int) := by rw [w64_id (by omega) (by omega)]; omega
    have ed : xs.drop p = xs[p] :: xs.drop (p + 1) := List.drop_eq_getElem_cons hp
    have eg : xs[p]? = some xs[p] := List.getElem?_eq_getElem hp
    cases b with
    | true =>
      have q : F11_b1 K (xs, n, many, i, true, (p : Int), cat m Y) = some (.inl (xs, n, many, i, true, ((p + 1 : Nat) : Int), cat m Y)) := by
        show branch (decide ((p : Int) < (xs.length : Int))) (branch true (some (Sum.inl (xs, n, many, i, true, w64 ((p : Int) + 1), cat m Y))) _) _ = _
        rw [decide_eq_true c, branch_t, branch_t, ep]
      exact (iter_go q).trans (hit_loop K xs n many i m Y a e hl d N (p + 1) true (by omega) (by omega))
    | false =>
      have q : F11_b1 K (xs, n, many, i, false, (p : Int), cat m Y) = some (.inl (xs, n, many, i, decide (xs[p].1 = a.1) && decide (xs[p].2 = a.2), ((p + 1 : Nat) : Int), cat m Y)) := by
        show branch (decide ((p : Int) < (xs.length : Int))) (branch false _ (nth xs (p : Int) fun v0 => bindO (F39 K m) fun v1 => some (Sum.inl (xs, n, many, i, (decide (v0.1 = v1.1)) && (decide (v0.2 = v1.2)), w64 ((p : Int) + 1), cat m Y)))) _ = _
        rw [decide_eq_true c, branch_t, branch_f, nth_s eg, e, bindO_s, ep]
      refine (iter_go q).trans ((hit_loop K xs n many i m Y a e hl d N (p + 1) _ (by omega) (by omega)).trans ?_)
      rw [ed]
      rfl
theorem path_loop (k : Nat) (xs : List (Int × Int)) (n many : Int) (Y : YT) (hl : xs.length ≤ 20) (hm : many ≤ 500) : ∀ (s N : Nat) (i : Int) (m m' : MT), 0 ≤ i → many - i = (s : Int) → s < N → Path (k + 600) xs s m m' →
    iter N (F11_b0 (k + 600 + 40)) (xs, n, many, i, cat m Y) = some (.inr (n, many, cat m' Y))
  | s, 0, i, m, m', h0, hi, hN, h => absurd hN (Nat.not_lt_zero _)
  | 0, N + 1, i, m, m', h0, hi, hN, h => by
    have e : m = m' := h
    subst e
    have g : ¬ i < many := by omega
    refine iter_end ?_
    show branch (decide (i < many)) _ _ = _
    rw [decide_eq_false g]; rfl
  | s + 1, N + 1, i, m, m', h0, hi, hN, ⟨v, a, e1, hc, hw, hw', e2, hh, h⟩ => by
    have g : i < many := by omega
    have ei : w64 (i + 1) = i + 1 := w64_id (by omega) (by omega)
    obtain ⟨v', q1, q2⟩ := F22_v k m hw
    have ev : v = v' := Option.some.inj (e1.symm.trans q1)
    subst ev
    have e39 := F39_v k (mOf v) hw' a e2
    have hit := hit_loop (k + 600 + 40) xs n many i (mOf v) Y a e39 (by omega) xs.length (k + 600 + 40) 0 false (by omega) (by omega)
    rw [Bool.false_or, List.drop_zero] at hit
    have q : F11_b0 (k + 600 + 40) (xs, n, many, i, cat m Y) = some (.inl (xs, n, many, i + 1, cat (mOf v) Y)) := by
      show branch (decide (i < many)) (bindO (F22 (k + 600 + 40) m) _) _ = _
      rw [decide_eq_true g, q2, branch_t, bindO_s]
      show branch (!(decide (v.2.2.2.2.2.2.2.2.2.2.2.2.2.2.2.2.2.2.2.2.2.2.2 = 0))) _ (bindO (iter (k + 600 + 40) (F11_b1 (k + 600 + 40)) (xs, n, many, i, false, 0, cat (mOf v) Y)) _) = _
      rw [decide_eq_true hc, Bool.not_true, branch_f]
      refine (congrArg (fun z => bindO z _) hit).trans ?_
      rw [bindO_s]
      show bindO (branch (hitB xs a) (some (xs, n, many, i, decide (w64 (i + 1) < many), cat (mOf v) Y)) (some (xs, n, many, i, false, cat (mOf v) Y))) (fun v2 => branch v2.2.2.2.2.1 (some (Sum.inr (Sum.inl false))) (some (Sum.inl (v2.1, v2.2.1, v2.2.2.1, w64 (v2.2.2.2.1 + 1), v2.2.2.2.2.2)))) = _
      cases hb : hitB xs a with
      | true =>
        have := hh hb
        rw [branch_t, bindO_s, ei, decide_eq_false (by omega)]
        rfl
      | false =>
        show some (Sum.inl (xs, n, many, w64 (i + 1), cat (mOf v) Y)) = _
        rw [ei]
    exact (iter_go q).trans (path_loop k xs n many Y hl hm s N (i + 1) (mOf v) m' (by omega) (by omega) (by omega) h)
theorem F90_t (K : Nat) (m : MT) (h : MSm m) (hK : 108 < K) : T (F90 K m) fun _ => True := by
  obtain ⟨b, f1, _, f3⟩ := F33_m K m ⟨h.1, Nat.le_trans h.2 (by decide)⟩ (by have := h.2; omega)
  unfold F90
  refine T.eq f1 (T.br (fun _ => T.ret trivial) fun g => ?_)
  have hb : b = true := by simpa using g
  obtain ⟨a, a1, _⟩ := at_both K m (f3 hb)
  exact T.eq a1 (T.ret trivial)
theorem draw_loop (k : Nat) (m : MT) (hm : MSm m) (dm : MT) : ∀ (j N : Nat) (xs : List (Int × Int)) (rd : List Int × Int), RdOk rd → xs.length + j ≤ 3 → j < N →
    T (iter N (F36_b0 (k + 600)) ((j : Int), xs, cat m (rd.1, rd.2, dm))) fun v => ∃ xs' rd', v = (xs', cat m (rd'.1, rd'.2, dm)) ∧ xs'.length ≤ 3 ∧ RdOk rd'
  | j, 0, xs, rd, hr, hx, hN => absurd hN (Nat.not_lt_zero _)
  | 0, N + 1, xs, rd, hr, hx, hN => by
    refine ⟨_, iter_end (b := (xs, cat m (rd.1, rd.2, dm))) ?_, xs, rd, rfl, by omega, hr⟩
    show branch (decide ((0 : Int) < ((0 : Nat) : Int))) _ _ = _
    rfl
  | j + 1, N + 1, xs, rd, hr, hx, hN => by
    have g : (0 : Int) < ((j + 1 : Nat) : Int) := by omega
    obtain ⟨v0, e0, h0, h0'⟩ := F88_t (k + 600) 8 rd hr (by decide) (by decide)
    obtain ⟨v1, e1, h1⟩ := F35_t k m (w64 (1 + v0.1)) hm
    have hs : MSm (v1.1, v1.2.1, v1.2.2.1, v1.2.2.2.1, v1.2.2.2.2.1, v1.2.2.2.2.2.1, v1.2.2.2.2.2.2.1, v1.2.2.2.2.2.2.2.1, v1.2.2.2.2.2.2.2.2.1, v1.2.2.2.2.2.2.2.2.2.1, v1.2.2.2.2.2.2.2.2.2.2.1, v1.2.2.2.2.2.2.2.2.2.2.2.1, v1.2.2.2.2.2.2.2.2.2.2.2.2.1, v1.2.2.2.2.2.2.2.2.2.2.2.2.2.1, v1.2.2.2.2.2.2.2.2.2.2.2.2.2.2.1, v1.2.2.2.2.2.2.2.2.2.2.2.2.2.2.2.1, v1.2.2.2.2.2.2.2.2.2.2.2.2.2.2.2.2.1, v1.2.2.2.2.2.2.2.2.2.2.2.2.2.2.2.2.2.1, v1.2.2.2.2.2.2.2.2.2.2.2.2.2.2.2.2.2.2.1, v1.2.2.2.2.2.2.2.2.2.2.2.2.2.2.2.2.2.2.2.1, v1.2.2.2.2.2.2.2.2.2.2.2.2.2.2.2.2.2.2.2.2.1, v1.2.2.2.2.2.2.2.2.2.2.2.2.2.2.2.2.2.2.2.2.2.1, v1.2.2.2.2.2.2.2.2.2.2.2.2.2.2.2.2.2.2.2.2.2.2.1) := by
      rcases h1 with h1 | h1
      · exact h1.2
      · exact WInv.sm (m := (v1.1, v1.2.1, v1.2.2.1, v1.2.2.2.1, v1.2.2.2.2.1, v1.2.2.2.2.2.1, v1.2.2.2.2.2.2.1, v1.2.2.2.2.2.2.2.1, v1.2.2.2.2.2.2.2.2.1, v1.2.2.2.2.2.2.2.2.2.1, v1.2.2.2.2.2.2.2.2.2.2.1, v1.2.2.2.2.2.2.2.2.2.2.2.1, v1.2.2.2.2.2.2.2.2.2.2.2.2.1, v1.2.2.2.2.2.2.2.2.2.2.2.2.2.1, v1.2.2.2.2.2.2.2.2.2.2.2.2.2.2.1, v1.2.2.2.2.2.2.2.2.2.2.2.2.2.2.2.1, v1.2.2.2.2.2.2.2.2.2.2.2.2.2.2.2.2.1, v1.2.2.2.2.2.2.2.2.2.2.2.2.2.2.2.2.2.1, v1.2.2.2.2.2.2.2.2.2.2.2.2.2.2.2.2.2.2.1, v1.2.2.2.2.2.2.2.2.2.2.2.2.2.2.2.2.2.2.2.1, v1.2.2.2.2.2.2.2.2.2.2.2.2.2.2.2.2.2.2.2.2.1, v1.2.2.2.2.2.2.2.2.2.2.2.2.2.2.2.2.2.2.2.2.2.1, v1.2.2.2.2.2.2.2.2.2.2.2.2.2.2.2.2.2.2.2.2.2.2.1)) h1.1
    obtain ⟨v2, e2, _⟩ := F90_t (k + 600) (v1.1, v1.2.1, v1.2.2.1, v1.2.2.2.1, v1.2.2.2.2.1, v1.2.2.2.2.2.1, v1.2.2.2.2.2.2.1, v1.2.2.2.2.2.2.2.1, v1.2.2.2.2.2.2.2.2.1, v1.2.2.2.2.2.2.2.2.2.1, v1.2.2.2.2.2.2.2.2.2.2.1, v1.2.2.2.2.2.2.2.2.2.2.2.1, v1.2.2.2.2.2.2.2.2.2.2.2.2.1, v1.2.2.2.2.2.2.2.2.2.2.2.2.2.1, v1.2.2.2.2.2.2.2.2.2.2.2.2.2.2.1, v1.2.2.2.2.2.2.2.2.2.2.2.2.2.2.2.1, v1.2.2.2.2.2.2.2.2.2.2.2.2.2.2.2.2.1, v1.2.2.2.2.2.2.2.2.2.2.2.2.2.2.2.2.2.1, v1.2.2.2.2.2.2.2.2.2.2.2.2.2.2.2.2.2.2.1, v1.2.2.2.2.2.2.2.2.2.2.2.2.2.2.2.2.2.2.2.1, v1.2.2.2.2.2.2.2.2.2.2.2.2.2.2.2.2.2.2.2.2.1, v1.2.2.2.2.2.2.2.2.2.2.2.2.2.2.2.2.2.2.2.2.2.1, v1.2.2.2.2.2.2.2.2.2.2.2.2.2.2.2.2.2.2.2.2.2.2.1) hs (by omega)
    have ej : w64 (((j + 1 : Nat) : Int) - 1) = (j : Int) := by rw [w64_id (by omega) (by omega)]; omega
    have hf : fitN (xs.length + [v2].length) 16 = true := by unfold fitN; exact decide_eq_true (by simp; omega)
    have q : F36_b0 (k + 600) (((j + 1 : Nat) : Int), xs, cat m (rd.1, rd.2, dm)) = some (.inl ((j : Int), xs ++ [v2], cat m (v0.2.1, v0.2.2, dm))) := by
      show branch (decide ((0 : Int) < ((j + 1 : Nat) : Int))) (bindO (F88 (k + 600) (8, rd)) _) _ = _
      rw [decide_eq_true g, branch_t, e0, bindO_s]
      refine (congrArg (fun z => bindO z _) e1).trans ?_
      rw [bindO_s]
      refine (congrArg (fun z => bindO z _) e2).trans ?_
      rw [bindO_s]
      show guard (fitN (xs.length + [v2].length) 16) (some (Sum.inl (w64 (((j + 1 : Nat) : Int) - 1), xs ++ [v2], cat m (v0.2.1, v0.2.2, dm)))) = _
      rw [hf, ej]; rfl
    obtain ⟨r, p1, p2⟩ := draw_loop k m hm dm j N (xs ++ [v2]) v0.2 h0' (by simp; omega) (by omega)
    exact ⟨r, (iter_go q).trans p1, p2⟩
theorem F36_t (k : Nat) (x : List Int) (hb : ∀ v ∈ x, 0 ≤ v ∧ v ≤ 255) (hl : x.length ≤ 1048576) : T (F36 (k + 600) x) fun v => ∃ (m : MT) (xs : List (Int × Int)) (n : Int), v = cat m (xs, n) ∧ MSm m ∧ xs.length ≤ 3 ∧ 0 ≤ n ∧ n < 20 := by
  unfold F36
  refine T.binds (T.bind (F59_t k 3 (x, 0) ⟨hb, hl, by dsimp only; omega, by dsimp only; omega⟩ (by decide)) fun v hv => T.bind (F88_t _ 4 _ hv.2 (by decide) (by decide)) fun u hu => ?_)
  obtain ⟨j, hj⟩ : ∃ j : Nat, u.1 = (j : Int) := ⟨u.1.toNat, by have := hu.1; omega⟩
  have hj3 : j ≤ 3 := by have := hu.1; omega
  obtain ⟨w, e, xs, rd, rfl, hx, hr⟩ := draw_loop k (v.1, v.2.1, v.2.2.1, v.2.2.2.1, v.2.2.2.2.1, v.2.2.2.2.2.1, v.2.2.2.2.2.2.1, v.2.2.2.2.2.2.2.1, v.2.2.2.2.2.2.2.2.1, v.2.2.2.2.2.2.2.2.2.1, v.2.2.2.2.2.2.2.2.2.2.1, v.2.2.2.2.2.2.2.2.2.2.2.1, v.2.2.2.2.2.2.2.2.2.2.2.2.1, v.2.2.2.2.2.2.2.2.2.2.2.2.2.1, v.2.2.2.2.2.2.2.2.2.2.2.2.2.2.1, v.2.2.2.2.2.2.2.2.2.2.2.2.2.2.2.1, v.2.2.2.2.2.2.2.2.2.2.2.2.2.2.2.2.1, v.2.2.2.2.2.2.2.2.2.2.2.2.2.2.2.2.2.1, v.2.2.2.2.2.2.2.2.2.2.2.2.2.2.2.2.2.2.1, v.2.2.2.2.2.2.2.2.2.2.2.2.2.2.2.2.2.2.2.1, v.2.2.2.2.2.2.2.2.2.2.2.2.2.2.2.2.2.2.2.2.1, v.2.2.2.2.2.2.2.2.2.2.2.2.2.2.2.2.2.2.2.2.2.1, v.2.2.2.2.2.2.2.2.2.2.2.2.2.2.2.2.2.2.2.2.2.2.1) hv.1 (0, 0, 0, 0, 0, 0, 0, 0, 0, 0, false, false, [], 0, 0, [], 0, false, 0, [], [], [], 0) j (k + 600) [] u.2 hu.2 (by simp; omega) (by omega)
  rw [← hj] at e
  refine T.eq e (T.bind (F88_t _ 20 _ hr (by decide) (by decide)) fun z hz => T.ret ⟨(v.1, v.2.1, v.2.2.1, v.2.2.2.1, v.2.2.2.2.1, v.2.2.2.2.2.1, v.2.2.2.2.2.2.1, v.2.2.2.2.2.2.2.1, v.2.2.2.2.2.2.2.2.1, v.2.2.2.2.2.2.2.2.2.1, v.2.2.2.2.2.2.2.2.2.2.1, v.2.2.2.2.2.2.2.2.2.2.2.1, v.2.2.2.2.2.2.2.2.2.2.2.2.1, v.2.2.2.2.2.2.2.2.2.2.2.2.2.1, v.2.2.2.2.2.2.2.2.2.2.2.2.2.2.1, v.2.2.2.2.2.2.2.2.2.2.2.2.2.2.2.1, v.2.2.2.2.2.2.2.2.2.2.2.2.2.2.2.2.1, v.2.2.2.2.2.2.2.2.2.2.2.2.2.2.2.2.2.1, v.2.2.2.2.2.2.2.2.2.2.2.2.2.2.2.2.2.2.1, v.2.2.2.2.2.2.2.2.2.2.2.2.2.2.2.2.2.2.2.1, v.2.2.2.2.2.2.2.2.2.2.2.2.2.2.2.2.2.2.2.2.1, v.2.2.2.2.2.2.2.2.2.2.2.2.2.2.2.2.2.2.2.2.2.1, v.2.2.2.2.2.2.2.2.2.2.2.2.2.2.2.2.2.2.2.2.2.2.1), xs, z.1, rfl, hv.1, hx, hz.1⟩)
theorem runto_law (k : Nat) (x : List Int) (hb : ∀ v ∈ x, 0 ≤ v ∧ v ≤ 255) : T (F11 (k + 600 + 40) x) fun r => r = true := by
  have e15 : F15 (k + 600 + 40) x = some (decide (1048576 < (x.length : Int))) := rfl
  unfold F11
  refine T.eq e15 (T.br (fun _ => T.ret rfl) fun g => ?_)
  have hl := of_decide_eq_false g
  obtain ⟨v, ev, m, xs, n, rfl, hm, hx, hn0, hn1⟩ := F36_t (k + 40) x hb (by omega)
  have ev' : F36 (k + 600 + 40) x = some (cat m (xs, n)) := by rw [show k + 600 + 40 = k + 40 + 600 by omega]; exact ev
  refine T.eq ev' ?_
  have hs : Sm m := ⟨hm.1, Nat.le_trans hm.2 (by decide)⟩
  have hK : (outM m).length + 8 < k + 600 + 40 := by have := hm.2; show (outM m).length + 8 < _; change (outM m).length ≤ 100 at this; omega
  obtain ⟨m', c, cnt, s1, s2, s3⟩ := to_both k m xs n hs hK
  have e20 := F20_m (k + 600 + 40) m' s3 (by omega)
  refine T.eq s2 (T.eq s1 (T.bindbind (T.bindbr (fun g => (ff (c := c) g).elim) fun _ => T.bindbr (fun g => (ff (c := cnt) g).elim) fun _ => T.bindbind (T.eq e20 (T.bindbr (fun h => ffc h) fun _ => T.binds ?_)))))
  refine T.bindbr (fun _ => T.bindbr (fun _ => T.bindbr (fun _ => T.bindbind (T.eq e20 (T.binds (T.csl (T.ret rfl))))) fun g => absurd rfl (of_decide_eq_false g)) fun g => absurd rfl (of_decide_eq_false g)) fun g3 => T.binds (T.csr ?_)
  have hc3 : ¬ c = 3 := of_decide_eq_false g3
  obtain ⟨b, f1, f2, f3⟩ := F33_m (k + 600 + 40) m hs hK
  cases b with
  | false =>
    have q := Option.some.inj ((F37_bad _ m xs n f2).symm.trans s2)
    exact absurd (mO_inj q).2.1.symm hc3
  | true =>
    have hw := f3 rfl
    obtain ⟨m1, c1, s, q1, q2, q3, q4, _⟩ := F37_path k m xs n hw ⟨hn0, by omega⟩ (by omega)
    obtain ⟨d1, d2, d3⟩ := mO_inj (Option.some.inj (q1.symm.trans s2))
    subst d1
    subst d3
    have it := path_loop k xs n (s : Int) (ocat m1 (outM m1, m)) (by omega) (by omega) s (k + 600 + 40) 0 m m1 (Int.le_refl 0) (by omega) (by omega) q2
    obtain ⟨m2, c2, s2', p1, _, p3, _, p5⟩ := F37_path k m [] n hw ⟨hn0, by omega⟩ (by simp)
    obtain ⟨r, r1, _, _, _, _, r6⟩ := F18_runN k m n hw ⟨hn0, by omega⟩
    have er : r = (m2, c2, (s2' : Int)) := Option.some.inj (r1.symm.trans (p5 rfl))
    subst er
    have e20b := F20_m (k + 600 + 40) m2 p3 (by omega)
    refine T.eq it (T.csr (T.eq p1 (T.eq r6 (T.br (fun _ => T.br (fun _ => T.br (fun _ => T.eq e20b (T.ret rfl)) fun g => absurd rfl (of_decide_eq_false g)) fun g => absurd rfl (of_decide_eq_false g)) fun _ => T.eq e20 (T.br (fun _ => T.br (fun _ => T.br (fun _ => T.eq e20b (T.ret rfl)) fun g => absurd rfl (of_decide_eq_false g)) fun g => absurd rfl (of_decide_eq_false g)) nofun)))))
theorem fnRunTo_law (a0 : T22.den) (h : T22.ok a0) : ∃ K, A11 K a0 = some true := by
  obtain ⟨r, e, rfl⟩ := runto_law 0 a0 (fun v hv => by have := h.2 v hv; simp only [Ty.ok] at this; exact ⟨this.1, this.2⟩)
  exact ⟨_, e⟩
end Go.U.Tryz
