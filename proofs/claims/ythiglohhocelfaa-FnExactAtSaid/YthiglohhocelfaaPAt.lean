/- The law of At, over the told functions. No condition. -/
import Derived.Test.YthiglohhocelfaaVAt
set_option linter.unusedVariables false
set_option linter.unusedSimpArgs false
namespace Go.U.Try
open Go Go.U
set_option linter.unusedVariables false
set_option linter.unusedSimpArgs false

def inR (v lo hi : Int) : Bool := decide (lo ≤ v ∧ v ≤ hi)

theorem F71_eq (K : Nat) (v lo hi : Int) : F71 K (v, lo, hi) = some (inR v lo hi) := by
  simp only [F71, branch_ite, inR]
  split <;> simp_all <;> omega
theorem F40_eq (K : Nat) (v lo hi : Int) : F40 K (v, lo, hi) = some (inR v lo hi) := by
  simp only [F40, branch_ite, inR]
  split <;> simp_all <;> omega
theorem F38_eq (K : Nat) (v : Int) : F38 K v = some (inR v 0 255) := by simp only [F38, F71_eq, bindO_s]
theorem F41_eq (K : Nat) (v : Int) : F41 K v = some (inR v 0 255) := by simp only [F41, F40_eq, bindO_s]
theorem F78_eq (K : Nat) (v : Int) : F78 K v = some (inR v 0 65535) := by simp only [F78, F71_eq, bindO_s]
theorem F83_eq (K : Nat) (v : Int) : F83 K v = some (inR v 0 65535) := by simp only [F83, F40_eq, bindO_s]
theorem F82_eq (K : Nat) (v : Int) : F82 K v = some (!inR v 0 255) := by simp only [F82, F41_eq, bindO_s]

/-- How many banks a rom has, or none. -/
def banks (rom : List UInt8) : Int := if rom.length % 256 = 0 ∧ 2 ≤ rom.length / 256 ∧ rom.length / 256 ≤ 16 then ((rom.length / 256 : Nat) : Int) else 0

theorem tdiv_nat (n : Nat) : Int.tdiv (n : Int) 256 = ((n / 256 : Nat) : Int) := by rw [Int.tdiv_eq_ediv_of_nonneg (by omega)]; omega
theorem tmod_nat (n : Nat) : Int.tmod (n : Int) 256 = ((n % 256 : Nat) : Int) := by rw [Int.tmod_eq_emod_of_nonneg (by omega)]; omega
theorem w64_len {rom : List UInt8} (h : rom.length ≤ maxLen) : w64 (Int.tdiv (rom.length : Int) 256) = ((rom.length / 256 : Nat) : Int) := by
  rw [tdiv_nat]; unfold maxLen at h; exact w64_id (by omega) (by omega)

theorem F91_eq (K : Nat) (rom : List UInt8) (h : rom.length ≤ maxLen) : F91 K rom = some (banks rom) := by
  simp only [F91, w64_len h, tmod_nat, F71_eq, bindO_s, branch_not, branch_ite, inR, banks]
  by_cases h1 : rom.length % 256 = 0
  · have e : ((rom.length % 256 : Nat) : Int) = 0 := by omega
    rw [if_pos e]
    simp only [bindO_s, branch_not, branch_ite]
    by_cases h2 : 2 ≤ rom.length / 256 ∧ rom.length / 256 ≤ 16
    · rw [if_pos (by omega), if_pos ⟨h1, h2⟩]
    · rw [if_neg (by omega), if_neg (by omega)]
  · have e : ¬ ((rom.length % 256 : Nat) : Int) = 0 := by omega
    rw [if_neg e, if_neg (by omega)]
    simp only [bindO_s, branch_t]

def cartKind (kind a b : Int) (c : Bool) (d : Int) : Bool :=
  if kind = 0 then decide (a = 1) && decide (b = 0) && !c && decide (d = 0)
  else if kind = 1 then inR a 1 31 && inR b 0 3 && inR d 0 1
  else if kind = 2 then inR a 0 255 && inR b 0 3 && decide (d = 0) else false
def cartOk (rom : List UInt8) (kind a : Int) (ram : List UInt8) (b : Int) (c : Bool) (d : Int) : Bool :=
  !decide (banks rom = 0) && decide (ram.length = 256) && cartKind kind a b c d

theorem F79_eq (K : Nat) (rom : List UInt8) (kind a : Int) (ram : List UInt8) (b : Int) (c : Bool) (d : Int) (h : rom.length ≤ maxLen) : F79 K (rom, kind, a, ram, b, c, d) = some (cartOk rom kind a ram b c d) := by
  simp only [F79, F91_eq K rom h, bindO_s, branch_ite, cartOk, F71_eq, cartKind, branch_not]
  by_cases h1 : banks rom = 0
  · simp [h1, bindO_s, branch_t, csO_l]
  · by_cases h2 : ram.length = 256
    · simp [h1, h2, bindO_s, branch_f, csO_r]
      by_cases k0 : kind = 0
      · simp [k0]; by_cases a1 : a = 1 <;> simp [a1]; by_cases b1 : b = 0 <;> simp [b1]; cases c <;> simp [branch_t, branch_f]
      · by_cases k1 : kind = 1
        · simp [k0, k1]; cases inR a 1 31 <;> simp [branch_t, branch_f]; cases inR b 0 3 <;> simp [branch_t, branch_f]
        · by_cases k2 : kind = 2
          · simp [k0, k1, k2]; cases inR a 0 255 <;> simp [branch_t, branch_f]; cases inR b 0 3 <;> simp [branch_t, branch_f]
          · simp [k0, k1, k2]
    · have : ¬ ((ram.length : Int) = 256) := by omega
      simp [h1, h2, this, bindO_s, branch_t, csO_l]

theorem F84_eq (K : Nat) (rom : List UInt8) (kind a : Int) (ram : List UInt8) (b : Int) (c : Bool) (d : Int) (h : rom.length ≤ maxLen) : F84 K (rom, kind, a, ram, b, c, d) = some (cartOk rom kind a ram b c d) := by
  simp only [F84, w64_len h, tmod_nat, bindO_s, branch_ite, cartOk, F40_eq, F41_eq, cartKind, branch_not]
  have hb : (banks rom = 0) ↔ ¬ (rom.length % 256 = 0 ∧ 2 ≤ rom.length / 256 ∧ rom.length / 256 ≤ 16) := by unfold banks; split <;> omega
  generalize rom.length / 256 = q at hb ⊢
  generalize rom.length % 256 = m at hb ⊢
  by_cases h0 : m = 0
  · have e : ((m : Nat) : Int) = 0 := by omega
    rw [if_pos e]
    by_cases h1 : 2 ≤ q ∧ q ≤ 16
    · have e1 : inR ((q : Nat) : Int) 2 16 = true := by simp [inR]; omega
      have e2 : ¬ banks rom = 0 := fun x => hb.1 x ⟨h0, h1⟩
      by_cases h2 : ram.length = 256
      · simp [e1, e2, h2, bindO_s, branch_f, branch_t, csO_r]
        by_cases k0 : kind = 0
        · simp [k0]; by_cases a1 : a = 1 <;> simp [a1]; by_cases b1 : b = 0 <;> simp [b1]; by_cases d1 : d = 0 <;> simp [d1]
        · by_cases k1 : kind = 1
          · simp [k0, k1]; cases inR a 1 31 <;> simp [branch_t, branch_f]; cases inR b 0 3 <;> simp [branch_t, branch_f]
          · by_cases k2 : kind = 2
            · simp [k0, k1, k2]; cases inR a 0 255 <;> simp [branch_t, branch_f]; cases inR b 0 3 <;> simp [branch_t, branch_f]
            · simp [k0, k1, k2]
      · have : ¬ ((ram.length : Int) = 256) := by omega
        simp [e1, e2, h2, this, bindO_s, branch_t, csO_l]
    · have e1 : inR ((q : Nat) : Int) 2 16 = false := by simp [inR]; omega
      have e2 : banks rom = 0 := hb.2 fun x => h1 x.2
      simp [e1, e2, bindO_s, branch_t, branch_f, csO_l]
  · have e : ¬ ((m : Nat) : Int) = 0 := by omega
    have e2 : banks rom = 0 := hb.2 fun x => h0 x.1
    rw [if_neg e]
    simp [e2, bindO_s, branch_t, csO_l]

def byteB (v : Int) : Bool := inR v 0 255

theorem F60_b0_loop (K : Nat) (xs : List Int) {σ : Type} (hl : xs.length ≤ maxLen) (r : Int × Int × Int × Int × Int × Int × Int × Int × Int × Int × Bool × Bool × Int × Int × Int × Int × Int × Int × Int × Int × Int × Int × Bool × Bool × (List UInt8) × Int × Int × (List UInt8) × Int × Bool × Int × (List UInt8) × (List UInt8) × (List Int) × Int) (hK : xs.length < K) :
    iter K (F60_b0 K) (0, xs, r) = some (cond (xs.all byteB) (.inr r) (.inl false)) := by
  unfold maxLen at hl
  refine loop_all (f := F60_b0 K) (fun i => ((i : Int), xs, r)) xs byteB (.inl false) (.inr r) (fun i v hv hi => ?_) ?_ K hK
  · have e1 : ((i : Int) < (xs.length : Int)) := by omega
    have e2 : (0 ≤ (i : Int) ∧ (i : Int) < (xs.length : Int)) := by omega
    have e3 : w64 ((i : Int) + 1) = ((i + 1 : Nat) : Int) := by rw [w64_id (by omega) (by omega)]; omega
    simp only [F60_b0, branch_ite, if_pos e1, guard_dec e2, Int.toNat_natCast, nthN_s hv, F38_eq, bindO_s, e3, byteB]
    cases inR v 0 255 <;> rfl
  · have e1 : ¬ ((xs.length : Int) < (xs.length : Int)) := by omega
    simp only [F60_b0, branch_ite, if_neg e1]

theorem F60_b1_loop (K : Nat) (r : Int × Int × Int × Int × Int × Int × Int × Int × Int × Int × Bool × Bool × Int × Int × Int × Int × Int × Int × Int × Int × Int × Int × Bool × Bool × (List UInt8) × Int × Int × (List UInt8) × Int × Bool × Int × (List UInt8) × (List UInt8) × (List Int) × Int)
    (xs : List Int) (hx : r.2.2.2.2.2.2.2.2.2.2.2.2.2.2.2.2.2.2.2.2.2.2.2.2.2.2.2.2.2.2.2.2.2.1 = xs) (hl : xs.length ≤ maxLen) (hK : xs.length < K) :
    iter K (F60_b1 K) (0, r) = some (cond (xs.all byteB) (.inr r) (.inl false)) := by
  unfold maxLen at hl
  refine loop_all (f := F60_b1 K) (fun i => ((i : Int), r)) xs byteB (.inl false) (.inr r) (fun i v hv hi => ?_) ?_ K hK
  · have e1 : ((i : Int) < (xs.length : Int)) := by omega
    have e3 : w64 ((i : Int) + 1) = ((i + 1 : Nat) : Int) := by rw [w64_id (by omega) (by omega)]; omega
    simp only [F60_b1, hx, branch_ite, if_pos e1, nth_s hv, F38_eq, bindO_s, e3, byteB]
    cases inR v 0 255 <;> rfl
  · have e1 : ¬ ((xs.length : Int) < (xs.length : Int)) := by omega
    simp only [F60_b1, hx, branch_ite, if_neg e1]

theorem F65_b0_loop (K : Nat) (xs : List Int) (hl : xs.length ≤ maxLen) (r : Int × Int × Int × Int × Int × Int × Int × Int × Int × Int × Bool × Bool × Int × Int × Int × Int × Int × Int × Int × Int × Int × Int × Bool × Bool × (List UInt8) × Int × Int × (List UInt8) × Int × Bool × Int × (List UInt8) × (List UInt8) × (List Int) × Int) (hK : xs.length < K) :
    iter K (F65_b0 K) ((xs.length : Int), 0, xs, r) = some (cond (xs.all byteB) (.inr r) (.inl false)) := by
  unfold maxLen at hl
  refine loop_all (f := F65_b0 K) (fun i => ((xs.length : Int), (i : Int), xs, r)) xs byteB (.inl false) (.inr r) (fun i v hv hi => ?_) ?_ K hK
  · have e1 : ((i : Int) < (xs.length : Int)) := by omega
    have e2 : (0 ≤ (i : Int) ∧ (i : Int) < (xs.length : Int)) := by omega
    have e3 : w64 ((i : Int) + 1) = ((i + 1 : Nat) : Int) := by rw [w64_id (by omega) (by omega)]; omega
    simp only [F65_b0, branch_ite, if_pos e1, guard_dec e2, Int.toNat_natCast, nthN_s hv, F41_eq, bindO_s, e3, byteB]
    cases inR v 0 255 <;> rfl
  · have e1 : ¬ ((xs.length : Int) < (xs.length : Int)) := by omega
    simp only [F65_b0, branch_ite, if_neg e1]

theorem F92_eq (K : Nat) (xs : List Int) (hl : xs.length ≤ maxLen) (hK : xs.length < K) : ∃ n, F92 K xs = some n ∧ decide (0 ≤ n) = !xs.all byteB := by
  unfold maxLen at hl
  obtain ⟨b, h1, h2⟩ := iter_inv (f := F92_b0 K) (fun a => ∃ i : Nat, i ≤ xs.length ∧ a = (xs, (xs.length : Int), (i : Int)) ∧ (xs.take i).all byteB = true) (fun a => xs.length - a.2.2.toNat)
    (fun b => match b with | .inl n => 0 ≤ n ∧ xs.all byteB = false | .inr _ => xs.all byteB = true) (fun a ⟨i, hi, ha, hall⟩ => by
      subst ha
      rcases Nat.lt_or_ge i xs.length with hlt | hge
      · have hv := List.getElem?_eq_getElem hlt
        have e1 : ((i : Int) < (xs.length : Int)) := by omega
        have e3 : w64 ((i : Int) + 1) = ((i + 1 : Nat) : Int) := by rw [w64_id (by omega) (by omega)]; omega
        simp only [F92_b0, branch_ite, if_pos e1, nth_s hv, F82_eq, bindO_s, e3]
        by_cases hb : inR xs[i] 0 255 = true
        · rw [hb]
          refine .inl ⟨_, rfl, ⟨i + 1, by omega, rfl, ?_⟩, by simp; omega⟩
          rw [List.take_succ_eq_append_getElem hlt, List.all_append, hall]
          simp [byteB, hb]
        · rw [Bool.eq_false_iff.2 hb]
          refine .inr ⟨_, rfl, ⟨by omega, ?_⟩⟩
          rw [Bool.eq_false_iff]
          intro hh
          rw [List.all_eq_true] at hh
          exact hb (hh _ (List.getElem_mem hlt))
      · have : i = xs.length := by omega
        subst this
        have e1 : ¬ ((xs.length : Int) < (xs.length : Int)) := by omega
        simp only [F92_b0, branch_ite, if_neg e1]
        refine .inr ⟨_, rfl, ?_⟩
        simpa using hall) K (xs, (xs.length : Int), 0) ⟨0, Nat.zero_le _, rfl, rfl⟩ (by simpa using hK)
  simp only [F92, h1, bindO_s]
  cases b with
  | inl n => exact ⟨n, rfl, by rw [h2.2, decide_eq_true h2.1]; rfl⟩
  | inr u => exact ⟨-1, rfl, by have h3 : xs.all byteB = true := h2; rw [h3]; rfl⟩

theorem F81_eq (K : Nat) (xs : List Int) (hl : xs.length ≤ maxLen) (hK : xs.length < K) : F81 K xs = some (!xs.all byteB) := by
  obtain ⟨n, h1, h2⟩ := F92_eq K xs hl hK
  simp only [F81, h1, bindO_s, h2]

def restOk (c0 c1 c2 c3 c4 c5 c6 c7 c8 c9 : Int) (b0 b1 : Bool) (rom : List UInt8) (k1 k2 : Int) (ram : List UInt8) (k3 : Int) (kb : Bool) (k4 : Int) (s1 s2 : List UInt8) (st : List Int) (n : Int) : Bool :=
  decide (Int.tmod c1 16 = 0) && inR c8 0 65535 && inR c9 0 65535 && cartOk rom k1 k2 ram k3 kb k4 && decide ((s1.length : Int) = 256) && decide ((s2.length : Int) = 127) && decide ((st.length : Int) ≤ 100) && inR n 0 1000000000
def mOk (c0 c1 c2 c3 c4 c5 c6 c7 c8 c9 : Int) (b0 b1 : Bool) (rom : List UInt8) (k1 k2 : Int) (ram : List UInt8) (k3 : Int) (kb : Bool) (k4 : Int) (s1 s2 : List UInt8) (st : List Int) (n : Int) : Bool := [c0, c1, c2, c3, c4, c5, c6, c7].all byteB && st.all byteB && restOk c0 c1 c2 c3 c4 c5 c6 c7 c8 c9 b0 b1 rom k1 k2 ram k3 kb k4 s1 s2 st n

theorem F60_eq (K : Nat) (c0 c1 c2 c3 c4 c5 c6 c7 c8 c9 : Int) (b0 b1 : Bool) (rom : List UInt8) (k1 k2 : Int) (ram : List UInt8) (k3 : Int) (kb : Bool) (k4 : Int) (s1 s2 : List UInt8) (st : List Int) (n : Int) (hr : rom.length ≤ maxLen) (hl : st.length ≤ maxLen) (hK : st.length + 8 < K) : F60 K (c0, c1, c2, c3, c4, c5, c6, c7, c8, c9, b0, b1, rom, k1, k2, ram, k3, kb, k4, s1, s2, st, n) = some (mOk c0 c1 c2 c3 c4 c5 c6 c7 c8 c9 b0 b1 rom k1 k2 ram k3 kb k4 s1 s2 st n) := by
  unfold F60 mOk
  rw [F60_b0_loop K _ (σ := Unit) (by simp [maxLen]) _ (by simp; omega)]
  cases h1 : [c0, c1, c2, c3, c4, c5, c6, c7].all byteB with
  | false => rfl
  | true =>
    simp only [cond, bindO_s, csO_r]
    rw [F60_b1_loop K _ st rfl hl (by omega)]
    cases h2 : st.all byteB with
    | false => rfl
    | true =>
      simp only [cond, bindO_s, csO_r, F78_eq, F71_eq, F79_eq K rom k1 k2 ram k3 kb k4 hr, restOk, Bool.true_and]
      cases decide (Int.tmod c1 16 = 0) <;> cases inR c8 0 65535 <;> cases inR c9 0 65535 <;> cases cartOk rom k1 k2 ram k3 kb k4 <;> cases decide ((s1.length : Int) = 256) <;> cases decide ((s2.length : Int) = 127) <;> cases decide ((st.length : Int) ≤ 100) <;> rfl

theorem F65_eq (K : Nat) (c0 c1 c2 c3 c4 c5 c6 c7 c8 c9 : Int) (b0 b1 : Bool) (rom : List UInt8) (k1 k2 : Int) (ram : List UInt8) (k3 : Int) (kb : Bool) (k4 : Int) (s1 s2 : List UInt8) (st : List Int) (n : Int) (hr : rom.length ≤ maxLen) (hl : st.length ≤ maxLen) (hK : st.length + 8 < K) : F65 K (c0, c1, c2, c3, c4, c5, c6, c7, c8, c9, b0, b1, rom, k1, k2, ram, k3, kb, k4, s1, s2, st, n) = some (mOk c0 c1 c2 c3 c4 c5 c6 c7 c8 c9 b0 b1 rom k1 k2 ram k3 kb k4 s1 s2 st n) := by
  unfold F65 mOk
  rw [F65_b0_loop K _ (by simp [maxLen]) _ (by simp; omega)]
  cases h1 : [c0, c1, c2, c3, c4, c5, c6, c7].all byteB with
  | false => rfl
  | true =>
    simp only [cond, bindO_s, csO_r, F81_eq K st hl (by omega)]
    cases h2 : st.all byteB with
    | false => rfl
    | true =>
      simp only [Bool.not_true, branch_f, bindO_s, csO_r, F83_eq, F40_eq, F84_eq K rom k1 k2 ram k3 kb k4 hr, restOk, Bool.true_and]
      cases decide (Int.tmod c1 16 = 0) <;> cases inR c8 0 65535 <;> cases inR c9 0 65535 <;> cases cartOk rom k1 k2 ram k3 kb k4 <;> cases decide ((s1.length : Int) = 256) <;> cases decide ((s2.length : Int) = 127) <;> cases decide ((st.length : Int) ≤ 100) <;> rfl

theorem F80_eq (K : Nat) (rom : List UInt8) (k1 k2 : Int) (ram : List UInt8) (k3 : Int) (kb : Bool) (k4 : Int) (hr : rom.length ≤ maxLen) (h : cartOk rom k1 k2 ram k3 kb k4 = true) : F80 K (rom, k1, k2, ram, k3, kb, k4) = some (Int.tmod k2 (banks rom)) := by
  have hb : ¬ banks rom = 0 := fun e => by simp [cartOk, e] at h
  simp only [F80, F79_eq K rom k1 k2 ram k3 kb k4 hr, h, bindO_s, Bool.not_true, branch_f, F91_eq K rom hr, decide_eq_false hb, Bool.not_false, guard_t]
theorem F85_eq (K : Nat) (rom : List UInt8) (k1 k2 : Int) (ram : List UInt8) (k3 : Int) (kb : Bool) (k4 : Int) (hr : rom.length ≤ maxLen) (h : cartOk rom k1 k2 ram k3 kb k4 = true) : F85 K (rom, k1, k2, ram, k3, kb, k4) = some (Int.tmod k2 (banks rom)) := by
  have hb : ¬ banks rom = 0 := fun e => by simp [cartOk, e] at h
  have e : banks rom = ((rom.length / 256 : Nat) : Int) := by unfold banks at hb ⊢; split <;> simp_all
  rw [e] at hb ⊢
  simp only [F85, w64_len hr, decide_eq_false hb, Bool.not_false, guard_t]

theorem at_same (K : Nat) (c0 c1 c2 c3 c4 c5 c6 c7 c8 c9 : Int) (b0 b1 : Bool) (rom : List UInt8) (k1 k2 : Int) (ram : List UInt8) (k3 : Int) (kb : Bool) (k4 : Int) (s1 s2 : List UInt8) (st : List Int) (n : Int) (hr : rom.length ≤ maxLen) (hl : st.length ≤ maxLen) (hK : st.length + 8 < K) : ∃ r, F31 K (c0, c1, c2, c3, c4, c5, c6, c7, c8, c9, b0, b1, rom, k1, k2, ram, k3, kb, k4, s1, s2, st, n) = some r ∧ F33 K (c0, c1, c2, c3, c4, c5, c6, c7, c8, c9, b0, b1, rom, k1, k2, ram, k3, kb, k4, s1, s2, st, n) = some r := by
  simp only [F31, F33, F60_eq K c0 c1 c2 c3 c4 c5 c6 c7 c8 c9 b0 b1 rom k1 k2 ram k3 kb k4 s1 s2 st n hr hl hK, F65_eq K c0 c1 c2 c3 c4 c5 c6 c7 c8 c9 b0 b1 rom k1 k2 ram k3 kb k4 s1 s2 st n hr hl hK, bindO_s]
  cases hm : mOk c0 c1 c2 c3 c4 c5 c6 c7 c8 c9 b0 b1 rom k1 k2 ram k3 kb k4 s1 s2 st n with
  | false => exact ⟨_, rfl, rfl⟩
  | true =>
    have hc : cartOk rom k1 k2 ram k3 kb k4 = true := by
      simp only [mOk, restOk, Bool.and_eq_true] at hm
      exact hm.2.1.1.1.1.2
    simp only [Bool.not_true, branch_f, F61, F66, F80_eq K rom k1 k2 ram k3 kb k4 hr hc, F85_eq K rom k1 k2 ram k3 kb k4 hr hc, branch_ite, bindO_s]
    split
    · exact ⟨_, rfl, rfl⟩
    · split
      · exact ⟨_, rfl, rfl⟩
      · exact ⟨_, rfl, rfl⟩

theorem F34_eq (K : Nat) (a b : Int) : F34 K (a, b, a, b) = some true := by simp [F34, branch_t, branch_f]
theorem F67_eq (K : Nat) (c0 c1 c2 c3 c4 c5 c6 c7 c8 c9 : Int) (b0 b1 : Bool) : F67 K (c0, c1, c2, c3, c4, c5, c6, c7, c8, c9, b0, b1, c0, c1, c2, c3, c4, c5, c6, c7, c8, c9, b0, b1) = some true := by simp [F67, branch_t, branch_f]
theorem F68_eq (K : Nat) (rom : List UInt8) (k1 k2 : Int) (ram : List UInt8) (k3 : Int) (kb : Bool) (k4 : Int) : F68 K (rom, k1, k2, ram, k3, kb, k4, rom, k1, k2, ram, k3, kb, k4) = some true := by simp [F68, branch_t, branch_f]
theorem F69_eq (K : Nat) (xs : List Int) (hl : xs.length ≤ maxLen) (hK : xs.length < K) : F69 K (xs, xs) = some true := by
  unfold maxLen at hl
  have h := loop_all (f := F69_b0 K) (fun i => (xs, xs, (i : Int))) xs (fun _ => true) (.inl false) (.inr ()) (fun i v hv hi => by
    have e1 : ((i : Int) < (xs.length : Int)) := by omega
    have e3 : w64 ((i : Int) + 1) = ((i + 1 : Nat) : Int) := by rw [w64_id (by omega) (by omega)]; omega
    simp only [F69_b0, branch_ite, if_pos e1, nth_s hv, e3, decide_true, Bool.not_true, branch_f, cond]) (by
    have e1 : ¬ ((xs.length : Int) < (xs.length : Int)) := by omega
    simp only [F69_b0, branch_ite, if_neg e1]) K hK
  replace h : iter K (F69_b0 K) (xs, xs, 0) = _ := h
  simp only [F69, decide_true, Bool.not_true, branch_f, h, bindO_s]
  rw [List.all_eq_true.2 (fun _ _ => rfl)]
  rfl
theorem F35_eq (K : Nat) (c0 c1 c2 c3 c4 c5 c6 c7 c8 c9 : Int) (b0 b1 : Bool) (rom : List UInt8) (k1 k2 : Int) (ram : List UInt8) (k3 : Int) (kb : Bool) (k4 : Int) (s1 s2 : List UInt8) (st : List Int) (n : Int) (hl : st.length ≤ maxLen) (hK : st.length + 8 < K) : F35 K (c0, c1, c2, c3, c4, c5, c6, c7, c8, c9, b0, b1, rom, k1, k2, ram, k3, kb, k4, s1, s2, st, n, c0, c1, c2, c3, c4, c5, c6, c7, c8, c9, b0, b1, rom, k1, k2, ram, k3, kb, k4, s1, s2, st, n) = some true := by
  simp only [F35, F67_eq, F68_eq, F69_eq K st hl (by omega), bindO_s, Bool.not_true, branch_f, decide_true]

theorem F64_eq (K : Nat) (xs : List Int) (hl : xs.length ≤ 1048576) (hK : xs.length < K) : F64 K xs = some xs := by
  have h := loop_copy0 (f := F64_b0 K) (fun i zs => (xs, (i : Int), zs)) xs id (fun i zs v hv hi hz => by
    have e1 : ((i : Int) < (xs.length : Int)) := by omega
    have e2 : (0 ≤ (i : Int) ∧ (i : Int) < (zs.length : Int)) := by omega
    have e3 : w64 ((i : Int) + 1) = ((i + 1 : Nat) : Int) := by rw [w64_id (by omega) (by omega)]; omega
    have e4 : zs[i]? = some zs[i] := List.getElem?_eq_getElem (by omega)
    simp only [F64_b0, branch_ite, if_pos e1, nth_s hv, guard_dec e2, Int.toNat_natCast, nthN_s e4, e3, id]) (fun zs hz => by
    have e1 : ¬ ((xs.length : Int) < (xs.length : Int)) := by omega
    simp only [F64_b0, branch_ite, if_neg e1]) K (List.replicate ((xs.length : Int).toNat) 0) (by simp) hK
  rw [List.map_id] at h
  replace h : iter K (F64_b0 K) (xs, 0, List.replicate ((xs.length : Int).toNat) 0) = some xs := h
  unfold F64
  rw [guard_dec ⟨rfl, by omega, by simp; omega⟩, h]
  rfl
theorem F32_eq (K : Nat) (c0 c1 c2 c3 c4 c5 c6 c7 c8 c9 : Int) (b0 b1 : Bool) (rom : List UInt8) (k1 k2 : Int) (ram : List UInt8) (k3 : Int) (kb : Bool) (k4 : Int) (s1 s2 : List UInt8) (st : List Int) (n : Int) (hl : st.length ≤ 1048576) (hK : st.length + 8 < K) : F32 K (c0, c1, c2, c3, c4, c5, c6, c7, c8, c9, b0, b1, rom, k1, k2, ram, k3, kb, k4, s1, s2, st, n) = some (c0, c1, c2, c3, c4, c5, c6, c7, c8, c9, b0, b1, rom, k1, k2, ram, k3, kb, k4, s1, s2, st, n) := by
  simp only [F32, F62, F63, F64_eq K st hl (by omega), bindO_s]

/-- The law's measure: told, and where it isn't less than nothing the stops are few. -/
theorem F58_eq (K : Nat) (rom : List UInt8) (k1 k2 : Int) (ram : List UInt8) (k3 : Int) (kb : Bool) (k4 m : Int) (h1 : rom.length ≤ maxLen) (h2 : ram.length ≤ maxLen) (hm : 0 ≤ m) (hm' : m ≤ 1048576) : ∃ r, F58 K (rom, k1, k2, ram, k3, kb, k4, m) = some r ∧ r ≤ 1048576 := by
  unfold maxLen at h1 h2
  have e1 : w64 (m - (rom.length : Int)) = m - (rom.length : Int) := w64_id (by omega) (by omega)
  simp only [F58, e1, branch_ite]
  split
  · exact ⟨_, rfl, by omega⟩
  · have e2 : w64 (m - (rom.length : Int) - (ram.length : Int)) = m - (rom.length : Int) - (ram.length : Int) := w64_id (by omega) (by omega)
    rw [e2]
    split
    · exact ⟨_, rfl, by omega⟩
    · exact ⟨_, rfl, by omega⟩
theorem F30_eq (K : Nat) (c0 c1 c2 c3 c4 c5 c6 c7 c8 c9 : Int) (b0 b1 : Bool) (rom : List UInt8) (k1 k2 : Int) (ram : List UInt8) (k3 : Int) (kb : Bool) (k4 : Int) (s1 s2 : List UInt8) (st : List Int) (n : Int) (h1 : rom.length ≤ maxLen) (h2 : ram.length ≤ maxLen) (h3 : s1.length ≤ maxLen) (h4 : s2.length ≤ maxLen) (h5 : st.length ≤ maxLen) :
    ∃ r, F30 K (c0, c1, c2, c3, c4, c5, c6, c7, c8, c9, b0, b1, rom, k1, k2, ram, k3, kb, k4, s1, s2, st, n, 1048576) = some r ∧ (0 ≤ r → st.length ≤ 1048576) := by
  obtain ⟨r, hr, hr'⟩ := F58_eq K rom k1 k2 ram k3 kb k4 1048576 h1 h2 (by omega) (by omega)
  unfold maxLen at h3 h4 h5
  simp only [F30, hr, bindO_s, branch_ite]
  split
  · exact ⟨_, rfl, by omega⟩
  · rename_i g1
    have g1' : ¬ r < 0 := by simpa using g1
    have e1 : w64 (r - (s1.length : Int)) = r - (s1.length : Int) := w64_id (by omega) (by omega)
    rw [e1]
    split
    · exact ⟨_, rfl, by omega⟩
    · have e2 : w64 (r - (s1.length : Int) - (s2.length : Int)) = r - (s1.length : Int) - (s2.length : Int) := w64_id (by omega) (by omega)
      rw [e2]
      split
      · exact ⟨_, rfl, by omega⟩
      · have e3 : w64 (r - (s1.length : Int) - (s2.length : Int) - (st.length : Int)) = r - (s1.length : Int) - (s2.length : Int) - (st.length : Int) := w64_id (by omega) (by omega)
        simp only [F59, e3, branch_ite]
        split
        · simp only [bindO_s, branch_ite]
          exact ⟨_, rfl, by omega⟩
        · simp only [bindO_s, branch_ite]
          split
          · exact ⟨_, rfl, by omega⟩
          · exact ⟨_, rfl, by omega⟩

theorem F11_true (c0 c1 c2 c3 c4 c5 c6 c7 c8 c9 : Int) (b0 b1 : Bool) (rom : List UInt8) (k1 k2 : Int) (ram : List UInt8) (k3 : Int) (kb : Bool) (k4 : Int) (s1 s2 : List UInt8) (st : List Int) (n : Int) (h1 : rom.length ≤ maxLen) (h2 : ram.length ≤ maxLen) (h3 : s1.length ≤ maxLen) (h4 : s2.length ≤ maxLen) (h5 : st.length ≤ maxLen) : F11 (st.length + 9) (c0, c1, c2, c3, c4, c5, c6, c7, c8, c9, b0, b1, rom, k1, k2, ram, k3, kb, k4, s1, s2, st, n) = some true := by
  obtain ⟨r, hr, hr'⟩ := F30_eq (st.length + 9) c0 c1 c2 c3 c4 c5 c6 c7 c8 c9 b0 b1 rom k1 k2 ram k3 kb k4 s1 s2 st n h1 h2 h3 h4 h5
  simp only [F11, hr, bindO_s, branch_ite]
  split
  · rfl
  · rename_i g
    have hs := hr' (by simpa using g)
    obtain ⟨⟨xa, xb⟩, e1, e2⟩ := at_same (st.length + 9) c0 c1 c2 c3 c4 c5 c6 c7 c8 c9 b0 b1 rom k1 k2 ram k3 kb k4 s1 s2 st n h1 h5 (by omega)
    simp only [F32_eq (st.length + 9) c0 c1 c2 c3 c4 c5 c6 c7 c8 c9 b0 b1 rom k1 k2 ram k3 kb k4 s1 s2 st n hs (by omega), bindO_s, e1, e2, F34_eq, Bool.not_true, branch_f, F35_eq (st.length + 9) c0 c1 c2 c3 c4 c5 c6 c7 c8 c9 b0 b1 rom k1 k2 ram k3 kb k4 s1 s2 st n h5 (by omega)]

/-- **The law.** -/
theorem at_law (a0 : T47.den) (h : T47.ok a0) : ∃ K, A11 K a0 = some true := by
  obtain ⟨⟨c0, c1, c2, c3, c4, c5, c6, c7, c8, c9, b0, b1⟩, ⟨rom, k1, k2, ram, k3, kb, k4⟩, s1, s2, st, n⟩ := a0
  obtain ⟨-, ⟨h1, -, -, h2, -⟩, h3, h4, ⟨h5, -⟩, -⟩ := h
  exact ⟨_, F11_true c0 c1 c2 c3 c4 c5 c6 c7 c8 c9 b0 b1 rom k1 k2 ram k3 kb k4 s1 s2 st n h1 h2 h3 h4 h5⟩

end Go.U.Try
