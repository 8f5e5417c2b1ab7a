/- Where a machine is: both tell the same. No condition. -/
import Derived.Test.YtaplcmgnmkfgjaaVFa
set_option linter.unusedVariables false
set_option linter.unusedSimpArgs false
set_option linter.unusedSectionVars false
namespace Go.U.Try
open Go Go.U
set_option linter.unusedVariables false
set_option linter.unusedSimpArgs false

def inR (v lo hi : Int) : Bool := decide (lo ≤ v ∧ v ≤ hi)

theorem F18_eq (K : Nat) (v lo hi : Int) : F18 K (v, lo, hi) = some (inR v lo hi) := by
  simp only [F18, branch_ite, inR]
  split <;> simp_all <;> omega
theorem F33_eq (K : Nat) (v lo hi : Int) : F33 K (v, lo, hi) = some (inR v lo hi) := by
  simp only [F33, branch_ite, inR]
  split <;> simp_all <;> omega
theorem F15_eq (K : Nat) (v : Int) : F15 K v = some (inR v 0 255) := by simp only [F15, F18_eq, bindO_s]
theorem F29_eq (K : Nat) (v : Int) : F29 K v = some (inR v 0 255) := by simp only [F29, F33_eq, bindO_s]
theorem F16_eq (K : Nat) (v : Int) : F16 K v = some (inR v 0 65535) := by simp only [F16, F18_eq, bindO_s]
theorem F32_eq (K : Nat) (v : Int) : F32 K v = some (inR v 0 65535) := by simp only [F32, F33_eq, bindO_s]
theorem F31_eq (K : Nat) (v : Int) : F31 K v = some (!inR v 0 255) := by simp only [F31, F29_eq, bindO_s]

/-- How many banks a rom has, or none. -/
def banks (rom : List UInt8) : Int := if rom.length % 256 = 0 ∧ 2 ≤ rom.length / 256 ∧ rom.length / 256 ≤ 16 then ((rom.length / 256 : Nat) : Int) else 0

theorem tdiv_nat (n : Nat) : Int.tdiv (n : Int) 256 = ((n / 256 : Nat) : Int) := by rw [Int.tdiv_eq_ediv_of_nonneg (by omega)]; omega
theorem tmod_nat (n : Nat) : Int.tmod (n : Int) 256 = ((n % 256 : Nat) : Int) := by rw [Int.tmod_eq_emod_of_nonneg (by omega)]; omega
theorem w64_len {rom : List UInt8} (h : rom.length ≤ maxLen) : w64 (Int.tdiv (rom.length : Int) 256) = ((rom.length / 256 : Nat) : Int) := by
  rw [tdiv_nat]; unfold maxLen at h; exact w64_id (by omega) (by omega)

theorem F35_eq (K : Nat) (rom : List UInt8) (h : rom.length ≤ maxLen) : F35 K rom = some (banks rom) := by
  simp only [F35, w64_len h, tmod_nat, F18_eq, bindO_s, branch_not, branch_ite, inR, banks]
  by_cases h1 : rom.length % 256 = 0
  · have e : ((rom.length % 256 : Nat) : Int) = 0 := by omega
    rw [if_pos e]
    simp only [bindO_s, branch_not, branch_ite]
    by_cases h2 : 2 ≤ rom.length / 256 ∧ rom.length / 256 ≤ 16
    · rw [if_pos (by omega), if_pos ⟨h1, h2⟩]
    · rw [if_neg (by omega), if_neg (by omega)]
  · have e : ¬ ((rom.length % 256 : Nat) : Int) = 0 := by omega
    rw [if_neg e, if_neg (by omega)]
    simp only [bindO_s, branch_t]

def cartKind (kind a b : Int) (c : Bool) (d : Int) : Bool :=
  if kind = 0 then decide (a = 1) && decide (b = 0) && !c && decide (d = 0)
  else if kind = 1 then inR a 1 31 && inR b 0 3 && inR d 0 1
  else if kind = 2 then inR a 0 255 && inR b 0 3 && decide (d = 0) else false
def cartOk (rom : List UInt8) (kind a : Int) (ram : List UInt8) (b : Int) (c : Bool) (d : Int) : Bool :=
  !decide (banks rom = 0) && decide (ram.length = 256) && cartKind kind a b c d

theorem F17_eq (K : Nat) (rom : List UInt8) (kind a : Int) (ram : List UInt8) (b : Int) (c : Bool) (d : Int) (h : rom.length ≤ maxLen) : F17 K (rom, kind, a, ram, b, c, d) = some (cartOk rom kind a ram b c d) := by
  simp only [F17, F35_eq K rom h, bindO_s, branch_ite, cartOk, F18_eq, cartKind, branch_not]
  by_cases h1 : banks rom = 0
  · simp [h1, bindO_s, branch_t, csO_l]
  · by_cases h2 : ram.length = 256
    · simp [h1, h2, bindO_s, branch_f, csO_r]
      by_cases k0 : kind = 0
      · simp [k0]; by_cases a1 : a = 1 <;> simp [a1]; by_cases b1 : b = 0 <;> simp [b1]; cases c <;> simp [branch_t, branch_f]
      · by_cases k1 : kind = 1
        · simp [k0, k1]; cases inR a 1 31 <;> simp [branch_t, branch_f]; cases inR b 0 3 <;> simp [branch_t, branch_f]
        · by_cases k2 : kind = 2
          · simp [k0, k1, k2]; cases inR a 0 255 <;> simp [branch_t, branch_f]; cases inR b 0 3 <;> simp [branch_t, branch_f]
          · simp [k0, k1, k2]
    · have : ¬ ((ram.length : Int) = 256) := by omega
      simp [h1, h2, this, bindO_s, branch_t, csO_l]

theorem F19_eq (K : Nat) (rom : List UInt8) (kind a : Int) (ram : List UInt8) (b : Int) (c : Bool) (d : Int) (h : rom.length ≤ maxLen) : F19 K (rom, kind, a, ram, b, c, d) = some (cartOk rom kind a ram b c d) := by
  simp only [F19, w64_len h, tmod_nat, bindO_s, branch_ite, cartOk, F33_eq, F29_eq, cartKind, branch_not]
  have hb : (banks rom = 0) ↔ ¬ (rom.length % 256 = 0 ∧ 2 ≤ rom.length / 256 ∧ rom.length / 256 ≤ 16) := by unfold banks; split <;> omega
  generalize rom.length / 256 = q at hb ⊢
  generalize rom.length % 256 = m at hb ⊢
  by_cases h0 : m = 0
  · have e : ((m : Nat) : Int) = 0 := by omega
    rw [if_pos e]
    by_cases h1 : 2 ≤ q ∧ q ≤ 16
    · have e1 : inR ((q : Nat) : Int) 2 16 = true := by simp [inR]; omega
      have e2 : ¬ banks rom = 0 := fun x => hb.1 x ⟨h0, h1⟩
      by_cases h2 : ram.length = 256
      · simp [e1, e2, h2, bindO_s, branch_f, branch_t, csO_r]
        by_cases k0 : kind = 0
        · simp [k0]; by_cases a1 : a = 1 <;> simp [a1]; by_cases b1 : b = 0 <;> simp [b1]; by_cases d1 : d = 0 <;> simp [d1]
        · by_cases k1 : kind = 1
          · simp [k0, k1]; cases inR a 1 31 <;> simp [branch_t, branch_f]; cases inR b 0 3 <;> simp [branch_t, branch_f]
          · by_cases k2 : kind = 2
            · simp [k0, k1, k2]; cases inR a 0 255 <;> simp [branch_t, branch_f]; cases inR b 0 3 <;> simp [branch_t, branch_f]
            · simp [k0, k1, k2]
      · have : ¬ ((ram.length : Int) = 256) := by omega
        simp [e1, e2, h2, this, bindO_s, branch_t, csO_l]
    · have e1 : inR ((q : Nat) : Int) 2 16 = false := by simp [inR]; omega
      have e2 : banks rom = 0 := hb.2 fun x => h1 x.2
      simp [e1, e2, bindO_s, branch_t, branch_f, csO_l]
  · have e : ¬ ((m : Nat) : Int) = 0 := by omega
    have e2 : banks rom = 0 := hb.2 fun x => h0 x.1
    rw [if_neg e]
    simp [e2, bindO_s, branch_t, csO_l]

def byteB (v : Int) : Bool := inR v 0 255

theorem F8_b0_loop (K : Nat) (xs : List Int) {σ : Type} (hl : xs.length ≤ maxLen) (r : Int × Int × Int × Int × Int × Int × Int × Int × Int × Int × Bool × Bool × Int × Int × Int × Int × Int × Int × Int × Int × Int × Int × Bool × Bool × (List UInt8) × Int × Int × (List UInt8) × Int × Bool × Int × (List UInt8) × (List UInt8) × (List Int) × Int) (hK : xs.length < K) :
    iter K (F8_b0 K) (0, xs, r) = some (cond (xs.all byteB) (.inr r) (.inl false)) := by
  unfold maxLen at hl
  refine loop_all (f := F8_b0 K) (fun i => ((i : Int), xs, r)) xs byteB (.inl false) (.inr r) (fun i v hv hi => ?_) ?_ K hK
  · have e1 : ((i : Int) < (xs.length : Int)) := by omega
    have e2 : (0 ≤ (i : Int) ∧ (i : Int) < (xs.length : Int)) := by omega
    have e3 : w64 ((i : Int) + 1) = ((i + 1 : Nat) : Int) := by rw [w64_id (by omega) (by omega)]; omega
    simp only [F8_b0, branch_ite, if_pos e1, guard_dec e2, Int.toNat_natCast, nthN_s hv, F15_eq, bindO_s, e3, byteB]
    cases inR v 0 255 <;> rfl
  · have e1 : ¬ ((xs.length : Int) < (xs.length : Int)) := by omega
    simp only [F8_b0, branch_ite, if_neg e1]

theorem F8_b1_loop (K : Nat) (r : Int × Int × Int × Int × Int × Int × Int × Int × Int × Int × Bool × Bool × Int × Int × Int × Int × Int × Int × Int × Int × Int × Int × Bool × Bool × (List UInt8) × Int × Int × (List UInt8) × Int × Bool × Int × (List UInt8) × (List UInt8) × (List Int) × Int)
    (xs : List Int) (hx : r.2.2.2.2.2.2.2.2.2.2.2.2.2.2.2.2.2.2.2.2.2.2.2.2.2.2.2.2.2.2.2.2.2.1 = xs) (hl : xs.length ≤ maxLen) (hK : xs.length < K) :
    iter K (F8_b1 K) (0, r) = some (cond (xs.all byteB) (.inr r) (.inl false)) := by
  unfold maxLen at hl
  refine loop_all (f := F8_b1 K) (fun i => ((i : Int), r)) xs byteB (.inl false) (.inr r) (fun i v hv hi => ?_) ?_ K hK
  · have e1 : ((i : Int) < (xs.length : Int)) := by omega
    have e3 : w64 ((i : Int) + 1) = ((i + 1 : Nat) : Int) := by rw [w64_id (by omega) (by omega)]; omega
    simp only [F8_b1, hx, branch_ite, if_pos e1, nth_s hv, F15_eq, bindO_s, e3, byteB]
    cases inR v 0 255 <;> rfl
  · have e1 : ¬ ((xs.length : Int) < (xs.length : Int)) := by omega
    simp only [F8_b1, hx, branch_ite, if_neg e1]

theorem F12_b0_loop (K : Nat) (xs : List Int) (hl : xs.length ≤ maxLen) (r : Int × Int × Int × Int × Int × Int × Int × Int × Int × Int × Bool × Bool × Int × Int × Int × Int × Int × Int × Int × Int × Int × Int × Bool × Bool × (List UInt8) × Int × Int × (List UInt8) × Int × Bool × Int × (List UInt8) × (List UInt8) × (List Int) × Int) (hK : xs.length < K) :
    iter K (F12_b0 K) ((xs.length : Int), 0, xs, r) = some (cond (xs.all byteB) (.inr r) (.inl false)) := by
  unfold maxLen at hl
  refine loop_all (f := F12_b0 K) (fun i => ((xs.length : Int), (i : Int), xs, r)) xs byteB (.inl false) (.inr r) (fun i v hv hi => ?_) ?_ K hK
  · have e1 : ((i : Int) < (xs.length : Int)) := by omega
    have e2 : (0 ≤ (i : Int) ∧ (i : Int) < (xs.length : Int)) := by omega
    have e3 : w64 ((i : Int) + 1) = ((i + 1 : Nat) : Int) := by rw [w64_id (by omega) (by omega)]; omega
    simp only [F12_b0, branch_ite, if_pos e1, guard_dec e2, Int.toNat_natCast, nthN_s hv, F29_eq, bindO_s, e3, byteB]
    cases inR v 0 255 <;> rfl
  · have e1 : ¬ ((xs.length : Int) < (xs.length : Int)) := by omega
    simp only [F12_b0, branch_ite, if_neg e1]

theorem F43_eq (K : Nat) (xs : List Int) (hl : xs.length ≤ maxLen) (hK : xs.length < K) : ∃ n, F43 K xs = some n ∧ decide (0 ≤ n) = !xs.all byteB := by
  unfold maxLen at hl
  obtain ⟨b, h1, h2⟩ := iter_inv (f := F43_b0 K) (fun a => ∃ i : Nat, i ≤ xs.length ∧ a = (xs, (xs.length : Int), (i : Int)) ∧ (xs.take i).all byteB = true) (fun a => xs.length - a.2.2.toNat)
    (fun b => match b with | .inl n => 0 ≤ n ∧ xs.all byteB = false | .inr _ => xs.all byteB = true) (fun a ⟨i, hi, ha, hall⟩ => by
      subst ha
      rcases Nat.lt_or_ge i xs.length with hlt | hge
      · have hv := List.getElem?_eq_getElem hlt
        have e1 : ((i : Int) < (xs.length : Int)) := by omega
        have e3 : w64 ((i : Int) + 1) = ((i + 1 : Nat) : Int) := by rw [w64_id (by omega) (by omega)]; omega
        simp only [F43_b0, branch_ite, if_pos e1, nth_s hv, F31_eq, bindO_s, e3]
        by_cases hb : inR xs[i] 0 255 = true
        · rw [hb]
          refine .inl ⟨_, rfl, ⟨i + 1, by omega, rfl, ?_⟩, by simp; omega⟩
          rw [List.take_succ_eq_append_getElem hlt, List.all_append, hall]
          simp [byteB, hb]
        · rw [Bool.eq_false_iff.2 hb]
          refine .inr ⟨_, rfl, ⟨by omega, ?_⟩⟩
          rw [Bool.eq_false_iff]
          intro hh
          rw [List.all_eq_true] at hh
          exact hb (hh _ (List.getElem_mem hlt))
      · have : i = xs.length := by omega
        subst this
        have e1 : ¬ ((xs.length : Int) < (xs.length : Int)) := by omega
        simp only [F43_b0, branch_ite, if_neg e1]
        refine .inr ⟨_, rfl, ?_⟩
        simpa using hall) K (xs, (xs.length : Int), 0) ⟨0, Nat.zero_le _, rfl, rfl⟩ (by simpa using hK)
  simp only [F43, h1, bindO_s]
  cases b with
  | inl n => exact ⟨n, rfl, by rw [h2.2, decide_eq_true h2.1]; rfl⟩
  | inr u => exact ⟨-1, rfl, by have h3 : xs.all byteB = true := h2; rw [h3]; rfl⟩

theorem F30_eq (K : Nat) (xs : List Int) (hl : xs.length ≤ maxLen) (hK : xs.length < K) : F30 K xs = some (!xs.all byteB) := by
  obtain ⟨n, h1, h2⟩ := F43_eq K xs hl hK
  simp only [F30, h1, bindO_s, h2]

def restOk (c0 c1 c2 c3 c4 c5 c6 c7 c8 c9 : Int) (b0 b1 : Bool) (rom : List UInt8) (k1 k2 : Int) (ram : List UInt8) (k3 : Int) (kb : Bool) (k4 : Int) (s1 s2 : List UInt8) (st : List Int) (n : Int) : Bool :=
  decide (Int.tmod c1 16 = 0) && inR c8 0 65535 && inR c9 0 65535 && cartOk rom k1 k2 ram k3 kb k4 && decide ((s1.length : Int) = 256) && decide ((s2.length : Int) = 127) && decide ((st.length : Int) ≤ 100) && inR n 0 1000000000
def mOk (c0 c1 c2 c3 c4 c5 c6 c7 c8 c9 : Int) (b0 b1 : Bool) (rom : List UInt8) (k1 k2 : Int) (ram : List UInt8) (k3 : Int) (kb : Bool) (k4 : Int) (s1 s2 : List UInt8) (st : List Int) (n : Int) : Bool := [c0, c1, c2, c3, c4, c5, c6, c7].all byteB && st.all byteB && restOk c0 c1 c2 c3 c4 c5 c6 c7 c8 c9 b0 b1 rom k1 k2 ram k3 kb k4 s1 s2 st n

theorem F8_eq (K : Nat) (c0 c1 c2 c3 c4 c5 c6 c7 c8 c9 : Int) (b0 b1 : Bool) (rom : List UInt8) (k1 k2 : Int) (ram : List UInt8) (k3 : Int) (kb : Bool) (k4 : Int) (s1 s2 : List UInt8) (st : List Int) (n : Int) (hr : rom.length ≤ maxLen) (hl : st.length ≤ maxLen) (hK : st.length + 8 < K) : F8 K (c0, c1, c2, c3, c4, c5, c6, c7, c8, c9, b0, b1, rom, k1, k2, ram, k3, kb, k4, s1, s2, st, n) = some (mOk c0 c1 c2 c3 c4 c5 c6 c7 c8 c9 b0 b1 rom k1 k2 ram k3 kb k4 s1 s2 st n) := by
  unfold F8 mOk
  rw [F8_b0_loop K _ (σ := Unit) (by simp [maxLen]) _ (by simp; omega)]
  cases h1 : [c0, c1, c2, c3, c4, c5, c6, c7].all byteB with
  | false => rfl
  | true =>
    simp only [cond, bindO_s, csO_r]
    rw [F8_b1_loop K _ st rfl hl (by omega)]
    cases h2 : st.all byteB with
    | false => rfl
    | true =>
      simp only [cond, bindO_s, csO_r, F16_eq, F18_eq, F17_eq K rom k1 k2 ram k3 kb k4 hr, restOk, Bool.true_and]
      cases decide (Int.tmod c1 16 = 0) <;> cases inR c8 0 65535 <;> cases inR c9 0 65535 <;> cases cartOk rom k1 k2 ram k3 kb k4 <;> cases decide ((s1.length : Int) = 256) <;> cases decide ((s2.length : Int) = 127) <;> cases decide ((st.length : Int) ≤ 100) <;> rfl

theorem F12_eq (K : Nat) (c0 c1 c2 c3 c4 c5 c6 c7 c8 c9 : Int) (b0 b1 : Bool) (rom : List UInt8) (k1 k2 : Int) (ram : List UInt8) (k3 : Int) (kb : Bool) (k4 : Int) (s1 s2 : List UInt8) (st : List Int) (n : Int) (hr : rom.length ≤ maxLen) (hl : st.length ≤ maxLen) (hK : st.length + 8 < K) : F12 K (c0, c1, c2, c3, c4, c5, c6, c7, c8, c9, b0, b1, rom, k1, k2, ram, k3, kb, k4, s1, s2, st, n) = some (mOk c0 c1 c2 c3 c4 c5 c6 c7 c8 c9 b0 b1 rom k1 k2 ram k3 kb k4 s1 s2 st n) := by
  unfold F12 mOk
  rw [F12_b0_loop K _ (by simp [maxLen]) _ (by simp; omega)]
  cases h1 : [c0, c1, c2, c3, c4, c5, c6, c7].all byteB with
  | false => rfl
  | true =>
    simp only [cond, bindO_s, csO_r, F30_eq K st hl (by omega)]
    cases h2 : st.all byteB with
    | false => rfl
    | true =>
      simp only [Bool.not_true, branch_f, bindO_s, csO_r, F32_eq, F33_eq, F19_eq K rom k1 k2 ram k3 kb k4 hr, restOk, Bool.true_and]
      cases decide (Int.tmod c1 16 = 0) <;> cases inR c8 0 65535 <;> cases inR c9 0 65535 <;> cases cartOk rom k1 k2 ram k3 kb k4 <;> cases decide ((s1.length : Int) = 256) <;> cases decide ((s2.length : Int) = 127) <;> cases decide ((st.length : Int) ≤ 100) <;> rfl

theorem F34_eq (K : Nat) (rom : List UInt8) (k1 k2 : Int) (ram : List UInt8) (k3 : Int) (kb : Bool) (k4 : Int) (hr : rom.length ≤ maxLen) (h : cartOk rom k1 k2 ram k3 kb k4 = true) : F34 K (rom, k1, k2, ram, k3, kb, k4) = some (Int.tmod k2 (banks rom)) := by
  have hb : ¬ banks rom = 0 := fun e => by simp [cartOk, e] at h
  simp only [F34, F17_eq K rom k1 k2 ram k3 kb k4 hr, h, bindO_s, Bool.not_true, branch_f, F35_eq K rom hr, decide_eq_false hb, Bool.not_false, guard_t]
theorem F20_eq (K : Nat) (rom : List UInt8) (k1 k2 : Int) (ram : List UInt8) (k3 : Int) (kb : Bool) (k4 : Int) (hr : rom.length ≤ maxLen) (h : cartOk rom k1 k2 ram k3 kb k4 = true) : F20 K (rom, k1, k2, ram, k3, kb, k4) = some (Int.tmod k2 (banks rom)) := by
  have hb : ¬ banks rom = 0 := fun e => by simp [cartOk, e] at h
  have e : banks rom = ((rom.length / 256 : Nat) : Int) := by unfold banks at hb ⊢; split <;> simp_all
  rw [e] at hb ⊢
  simp only [F20, w64_len hr, decide_eq_false hb, Bool.not_false, guard_t]

theorem at_same (K : Nat) (c0 c1 c2 c3 c4 c5 c6 c7 c8 c9 : Int) (b0 b1 : Bool) (rom : List UInt8) (k1 k2 : Int) (ram : List UInt8) (k3 : Int) (kb : Bool) (k4 : Int) (s1 s2 : List UInt8) (st : List Int) (n : Int) (hr : rom.length ≤ maxLen) (hl : st.length ≤ maxLen) (hK : st.length + 8 < K) : ∃ r, F7 K (c0, c1, c2, c3, c4, c5, c6, c7, c8, c9, b0, b1, rom, k1, k2, ram, k3, kb, k4, s1, s2, st, n) = some r ∧ F6 K (c0, c1, c2, c3, c4, c5, c6, c7, c8, c9, b0, b1, rom, k1, k2, ram, k3, kb, k4, s1, s2, st, n) = some r := by
  simp only [F7, F6, F8_eq K c0 c1 c2 c3 c4 c5 c6 c7 c8 c9 b0 b1 rom k1 k2 ram k3 kb k4 s1 s2 st n hr hl hK, F12_eq K c0 c1 c2 c3 c4 c5 c6 c7 c8 c9 b0 b1 rom k1 k2 ram k3 kb k4 s1 s2 st n hr hl hK, bindO_s]
  cases hm : mOk c0 c1 c2 c3 c4 c5 c6 c7 c8 c9 b0 b1 rom k1 k2 ram k3 kb k4 s1 s2 st n with
  | false => exact ⟨_, rfl, rfl⟩
  | true =>
    have hc : cartOk rom k1 k2 ram k3 kb k4 = true := by
      simp only [mOk, restOk, Bool.and_eq_true] at hm
      exact hm.2.1.1.1.1.2
    simp only [Bool.not_true, branch_f, F14, F13, F34_eq K rom k1 k2 ram k3 kb k4 hr hc, F20_eq K rom k1 k2 ram k3 kb k4 hr hc, branch_ite, bindO_s]
    split
    · exact ⟨_, rfl, rfl⟩
    · split
      · exact ⟨_, rfl, rfl⟩
      · exact ⟨_, rfl, rfl⟩


end Go.U.Try
