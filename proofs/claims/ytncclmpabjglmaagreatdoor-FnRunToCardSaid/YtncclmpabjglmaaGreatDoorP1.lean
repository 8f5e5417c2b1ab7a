/- A part of the proof. No condition. -/
import Derived.Test.YtncclmpabjglmaaGreatDoorVMe
import Derived.Test.YtncclmpabjglmaaGreatDoorP0
import Derived.KernelRfl
set_option linter.unusedVariables false
set_option linter.unusedSimpArgs false
set_option linter.unusedSectionVars false
namespace Go.U.Tryz
open Go Go.U
def inR (v lo hi : Int) : Bool := decide (lo ≤ v ∧ v ≤ hi)
theorem F87_eq (K : Nat) (v lo hi : Int) : F87 K (v, lo, hi) = some (inR v lo hi) := by
  simp only [F87, branch_ite, inR]
  split <;> simp_all <;> omega
theorem F54_eq (K : Nat) (v lo hi : Int) : F54 K (v, lo, hi) = some (inR v lo hi) := by
  simp only [F54, branch_ite, inR]
  split <;> simp_all <;> omega
theorem F84_eq (K : Nat) (v : Int) : F84 K v = some (inR v 0 255) := by simp only [F84, F87_eq, bindO_s]
theorem F80_eq (K : Nat) (v : Int) : F80 K v = some (inR v 0 255) := by simp only [F80, F54_eq, bindO_s]
theorem F85_eq (K : Nat) (v : Int) : F85 K v = some (inR v 0 65535) := by simp only [F85, F87_eq, bindO_s]
theorem F63_eq (K : Nat) (v : Int) : F63 K v = some (inR v 0 65535) := by simp only [F63, F54_eq, bindO_s]
theorem F82_eq (K : Nat) (v : Int) : F82 K v = some (!inR v 0 255) := by simp only [F82, F80_eq, bindO_s]
def banks (rom : List UInt8) : Int := if rom.length % 256 = 0 ∧ 2 ≤ rom.length / 256 ∧ rom.length / 256 ≤ 16 then ((rom.length / 256 : Nat) : Int) else 0
theorem tdiv_nat (n : Nat) : Int.tdiv (n : Int) 256 = ((n / 256 : Nat) : Int) := by rw [tdE (by omega)]; omega
theorem tmod_nat (n : Nat) : Int.tmod (n : Int) 256 = ((n % 256 : Nat) : Int) := by rw [tmE (by omega)]; omega
theorem w64_len {rom : List UInt8} (h : rom.length ≤ maxLen) : w64 (Int.tdiv (rom.length : Int) 256) = ((rom.length / 256 : Nat) : Int) := by
  rw [tdiv_nat]; unfold maxLen at h; exact w64_id (by omega) (by omega)
theorem F127_eq (K : Nat) (rom : List UInt8) (h : rom.length ≤ maxLen) : F127 K rom = some (banks rom) := by
  simp only [F127, w64_len h, tmod_nat, F87_eq, bindO_s, branch_not, branch_ite, inR, banks]
  by_cases h1 : rom.length % 256 = 0
  · have e : ((rom.length % 256 : Nat) : Int) = 0 := by omega
    rw [if_pos e]
    simp only [bindO_s, branch_not, branch_ite]
    by_cases h2 : 2 ≤ rom.length / 256 ∧ rom.length / 256 ≤ 16
    · rw [if_pos (by omega), if_pos ⟨h1, h2⟩]
    · rw [if_neg (by omega), if_neg (by omega)]
  · have e : ¬ ((rom.length % 256 : Nat) : Int) = 0 := by omega
    rw [if_neg e, if_neg (by omega)]
    simp only [bindO_s, branch_t]
def cartKind (kind a b : Int) (c : Bool) (d : Int) : Bool :=
  if kind = 0 then decide (a = 1) && decide (b = 0) && !c && decide (d = 0)
  else if kind = 1 then inR a 1 31 && inR b 0 3 && inR d 0 1
  else if kind = 2 then inR a 0 255 && inR b 0 3 && decide (d = 0) else false
def cartOk (rom : List UInt8) (kind a : Int) (ram : List UInt8) (b : Int) (c : Bool) (d : Int) : Bool :=
  !decide (banks rom = 0) && decide (ram.length = 256) && cartKind kind a b c d
theorem F86_eq (K : Nat) (rom : List UInt8) (kind a : Int) (ram : List UInt8) (b : Int) (c : Bool) (d : Int) (h : rom.length ≤ maxLen) : F86 K (rom, kind, a, ram, b, c, d) = some (cartOk rom kind a ram b c d) := by
  simp only [F86, F127_eq K rom h, bindO_s, branch_ite, cartOk, F87_eq, cartKind, branch_not]
  by_cases h1 : banks rom = 0
  · simp [h1, bindO_s, branch_t, csO_l]
  · by_cases h2 : ram.length = 256
    · simp [h1, h2, bindO_s, branch_f, csO_r]
      by_cases k0 : kind = 0
      · simp [k0]; by_cases a1 : a = 1 <;> simp [a1]; by_cases b1 : b = 0 <;> simp [b1]; cases c <;> simp [branch_t, branch_f]
      · by_cases k1 : kind = 1
        · simp [k0, k1]; cases inR a 1 31 <;> simp [branch_t, branch_f]; cases inR b 0 3 <;> simp [branch_t, branch_f]
        · by_cases k2 : kind = 2
          · simp [k0, k1, k2]; cases inR a 0 255 <;> simp [branch_t, branch_f]; cases inR b 0 3 <;> simp [branch_t, branch_f]
          · simp [k0, k1, k2]
    · have : ¬ ((ram.length : Int) = 256) := by omega
      simp [h1, h2, this, bindO_s, branch_t, csO_l]
theorem F83_eq (K : Nat) (rom : List UInt8) (kind a : Int) (ram : List UInt8) (b : Int) (c : Bool) (d : Int) (h : rom.length ≤ maxLen) : F83 K (rom, kind, a, ram, b, c, d) = some (cartOk rom kind a ram b c d) := by
  simp only [F83, w64_len h, tmod_nat, bindO_s, branch_ite, cartOk, F54_eq, F80_eq, cartKind, branch_not]
  have hb : (banks rom = 0) ↔ ¬ (rom.length % 256 = 0 ∧ 2 ≤ rom.length / 256 ∧ rom.length / 256 ≤ 16) := by unfold banks; split <;> omega
  generalize rom.length / 256 = q at hb ⊢
  generalize rom.length % 256 = m at hb ⊢
  by_cases h0 : m = 0
  · have e : ((m : Nat) : Int) = 0 := by omega
    rw [if_pos e]
    by_cases h1 : 2 ≤ q ∧ q ≤ 16
    · have e1 : inR ((q : Nat) : Int) 2 16 = true := by simp [inR]; omega
      have e2 : ¬ banks rom = 0 := fun x => hb.1 x ⟨h0, h1⟩
      by_cases h2 : ram.length = 256
      · simp [e1, e2, h2, bindO_s, branch_f, branch_t, csO_r]
        by_cases k0 : kind = 0
        · simp [k0]; by_cases a1 : a = 1 <;> simp [a1]; by_cases b1 : b = 0 <;> simp [b1]; by_cases d1 : d = 0 <;> simp [d1]
        · by_cases k1 : kind = 1
          · simp [k0, k1]; cases inR a 1 31 <;> simp [branch_t, branch_f]; cases inR b 0 3 <;> simp [branch_t, branch_f]
          · by_cases k2 : kind = 2
            · simp [k0, k1, k2]; cases inR a 0 255 <;> simp [branch_t, branch_f]; cases inR b 0 3 <;> simp [branch_t, branch_f]
            · simp [k0, k1, k2]
      · have : ¬ ((ram.length : Int) = 256) := by omega
        simp [e1, e2, h2, this, bindO_s, branch_t, csO_l]
    · have e1 : inR ((q : Nat) : Int) 2 16 = false := by simp [inR]; omega
      have e2 : banks rom = 0 := hb.2 fun x => h1 x.2
      simp [e1, e2, bindO_s, branch_t, branch_f, csO_l]
  · have e : ¬ ((m : Nat) : Int) = 0 := by omega
    have e2 : banks rom = 0 := hb.2 fun x => h0 x.1
    rw [if_neg e]
    simp [e2, bindO_s, branch_t, csO_l]
def byteB (v : Int) : Bool := inR v 0 255
theorem F33_b0_loop (K : Nat) (xs : List Int) {σ : Type} (hl : xs.length ≤ maxLen) (r : Int × Int × Int × Int × Int × Int × Int × Int × Int × Int × Bool × Bool × Int × Int × Int × Int × Int × Int × Int × Int × Int × Int × Bool × Bool × (List UInt8) × Int × Int × (List UInt8) × Int × Bool × Int × (List UInt8) × (List UInt8) × (List Int) × Int) (hK : xs.length < K) :
    iter K (F33_b0 K) (0, xs, r) = some (cond (xs.all byteB) (.inr r) (.inl false)) := by
  unfold maxLen at hl
  refine loop_all (f := F33_b0 K) (fun i => ((i : Int), xs, r)) xs byteB (.inl false) (.inr r) (fun i v hv hi => ?_) ?_ K hK
  · have e1 : ((i : Int) < (xs.length : Int)) := by omega
    have e2 : (0 ≤ (i : Int) ∧ (i : Int) < (xs.length : Int)) := by omega
    have e3 : w64 ((i : Int) + 1) = ((i + 1 : Nat) : Int) := by rw [w64_id (by omega) (by omega)]; omega
    simp only [F33_b0, branch_ite, if_pos e1, guard_dec e2, Int.toNat_natCast, nthN_s hv, F84_eq, bindO_s, e3, byteB]
    cases inR v 0 255 <;> rfl
  · have e1 : ¬ ((xs.length : Int) < (xs.length : Int)) := by omega
    simp only [F33_b0, branch_ite, if_neg e1]
theorem F33_b1_loop (K : Nat) (r : Int × Int × Int × Int × Int × Int × Int × Int × Int × Int × Bool × Bool × Int × Int × Int × Int × Int × Int × Int × Int × Int × Int × Bool × Bool × (List UInt8) × Int × Int × (List UInt8) × Int × Bool × Int × (List UInt8) × (List UInt8) × (List Int) × Int)
    (xs : List Int) (hx : r.2.2.2.2.2.2.2.2.2.2.2.2.2.2.2.2.2.2.2.2.2.2.2.2.2.2.2.2.2.2.2.2.2.1 = xs) (hl : xs.length ≤ maxLen) (hK : xs.length < K) :
    iter K (F33_b1 K) (0, r) = some (cond (xs.all byteB) (.inr r) (.inl false)) := by
  unfold maxLen at hl
  refine loop_all (f := F33_b1 K) (fun i => ((i : Int), r)) xs byteB (.inl false) (.inr r) (fun i v hv hi => ?_) ?_ K hK
  · have e1 : ((i : Int) < (xs.length : Int)) := by omega
    have e3 : w64 ((i : Int) + 1) = ((i + 1 : Nat) : Int) := by rw [w64_id (by omega) (by omega)]; omega
    simp only [F33_b1, hx, branch_ite, if_pos e1, nth_s hv, F84_eq, bindO_s, e3, byteB]
    cases inR v 0 255 <;> rfl
  · have e1 : ¬ ((xs.length : Int) < (xs.length : Int)) := by omega
    simp only [F33_b1, hx, branch_ite, if_neg e1]
theorem F32_b0_loop (K : Nat) (xs : List Int) (hl : xs.length ≤ maxLen) (r : Int × Int × Int × Int × Int × Int × Int × Int × Int × Int × Bool × Bool × Int × Int × Int × Int × Int × Int × Int × Int × Int × Int × Bool × Bool × (List UInt8) × Int × Int × (List UInt8) × Int × Bool × Int × (List UInt8) × (List UInt8) × (List Int) × Int) (hK : xs.length < K) :
    iter K (F32_b0 K) ((xs.length : Int), 0, xs, r) = some (cond (xs.all byteB) (.inr r) (.inl false)) := by
  unfold maxLen at hl
  refine loop_all (f := F32_b0 K) (fun i => ((xs.length : Int), (i : Int), xs, r)) xs byteB (.inl false) (.inr r) (fun i v hv hi => ?_) ?_ K hK
  · have e1 : ((i : Int) < (xs.length : Int)) := by omega
    have e2 : (0 ≤ (i : Int) ∧ (i : Int) < (xs.length : Int)) := by omega
    have e3 : w64 ((i : Int) + 1) = ((i + 1 : Nat) : Int) := by rw [w64_id (by omega) (by omega)]; omega
    simp only [F32_b0, branch_ite, if_pos e1, guard_dec e2, Int.toNat_natCast, nthN_s hv, F80_eq, bindO_s, e3, byteB]
    cases inR v 0 255 <;> rfl
  · have e1 : ¬ ((xs.length : Int) < (xs.length : Int)) := by omega
    simp only [F32_b0, branch_ite, if_neg e1]
theorem F126_eq (K : Nat) (xs : List Int) (hl : xs.length ≤ maxLen) (hK : xs.length < K) : ∃ n, F126 K xs = some n ∧ decide (0 ≤ n) = !xs.all byteB := by
  unfold maxLen at hl
  obtain ⟨b, h1, h2⟩ := iter_inv (f := F126_b0 K) (fun a => ∃ i : Nat, i ≤ xs.length ∧ a = (xs, (xs.length : Int), (i : Int)) ∧ (xs.take i).all byteB = true) (fun a => xs.length - a.2.2.toNat)
    (fun b => match b with | .inl n => 0 ≤ n ∧ xs.all byteB = false | .inr _ => xs.all byteB = true) (fun a ⟨i, hi, ha, hall⟩ => by
      subst ha
      rcases Nat.lt_or_ge i xs.length with hlt | hge
      · have hv := List.getElem?_eq_getElem hlt
        have e1 : ((i : Int) < (xs.length : Int)) := by omega
        have e3 : w64 ((i : Int) + 1) = ((i + 1 : Nat) : Int) := by rw [w64_id (by omega) (by omega)]; omega
        simp only [F126_b0, branch_ite, if_pos e1, nth_s hv, F82_eq, bindO_s, e3]
        by_cases hb : inR xs[i] 0 255 = true
        · rw [hb]
          refine .inl ⟨_, rfl, ⟨i + 1, by omega, rfl, ?_⟩, by simp; omega⟩
          rw [List.take_succ_eq_append_getElem hlt, List.all_append, hall]
          simp [byteB, hb]
        · rw [Bool.eq_false_iff.2 hb]
          refine .inr ⟨_, rfl, ⟨by omega, ?_⟩⟩
          rw [Bool.eq_false_iff]
          intro hh
          rw [List.all_eq_true] at hh
          exact hb (hh _ (List.getElem_mem hlt))
      · have : i = xs.length := by omega
        subst this
        have e1 : ¬ ((xs.length : Int) < (xs.length : Int)) := by omega
        simp only [F126_b0, branch_ite, if_neg e1]
        refine .inr ⟨_, rfl, ?_⟩
        simpa using hall) K (xs, (xs.length : Int), 0) ⟨0, Nat.zero_le _, rfl, rfl⟩ (by simpa using hK)
  simp only [F126, h1, bindO_s]
  cases b with
  | inl n => exact ⟨n, rfl, by rw [h2.2, decide_eq_true h2.1]; rfl⟩
  | inr u => exact ⟨-1, rfl, by have h3 : xs.all byteB = true := h2; rw [h3]; rfl⟩
theorem F81_eq (K : Nat) (xs : List Int) (hl : xs.length ≤ maxLen) (hK : xs.length < K) : F81 K xs = some (!xs.all byteB) := by
  obtain ⟨n, h1, h2⟩ := F126_eq K xs hl hK
  simp only [F81, h1, bindO_s, h2]
def restOk (c0 c1 c2 c3 c4 c5 c6 c7 c8 c9 : Int) (b0 b1 : Bool) (rom : List UInt8) (k1 k2 : Int) (ram : List UInt8) (k3 : Int) (kb : Bool) (k4 : Int) (s1 s2 : List UInt8) (st : List Int) (n : Int) : Bool :=
  decide (Int.tmod c1 16 = 0) && inR c8 0 65535 && inR c9 0 65535 && cartOk rom k1 k2 ram k3 kb k4 && decide ((s1.length : Int) = 256) && decide ((s2.length : Int) = 127) && decide ((st.length : Int) ≤ 100) && inR n 0 1000000000
def mOk (c0 c1 c2 c3 c4 c5 c6 c7 c8 c9 : Int) (b0 b1 : Bool) (rom : List UInt8) (k1 k2 : Int) (ram : List UInt8) (k3 : Int) (kb : Bool) (k4 : Int) (s1 s2 : List UInt8) (st : List Int) (n : Int) : Bool := [c0, c1, c2, c3, c4, c5, c6, c7].all byteB && st.all byteB && restOk c0 c1 c2 c3 c4 c5 c6 c7 c8 c9 b0 b1 rom k1 k2 ram k3 kb k4 s1 s2 st n
theorem F33_eq (K : Nat) (c0 c1 c2 c3 c4 c5 c6 c7 c8 c9 : Int) (b0 b1 : Bool) (rom : List UInt8) (k1 k2 : Int) (ram : List UInt8) (k3 : Int) (kb : Bool) (k4 : Int) (s1 s2 : List UInt8) (st : List Int) (n : Int) (hr : rom.length ≤ maxLen) (hl : st.length ≤ maxLen) (hK : st.length + 8 < K) : F33 K (c0, c1, c2, c3, c4, c5, c6, c7, c8, c9, b0, b1, rom, k1, k2, ram, k3, kb, k4, s1, s2, st, n) = some (mOk c0 c1 c2 c3 c4 c5 c6 c7 c8 c9 b0 b1 rom k1 k2 ram k3 kb k4 s1 s2 st n) := by
  unfold F33 mOk
  rw [F33_b0_loop K _ (σ := Unit) (by simp [maxLen]) _ (by simp; omega)]
  cases h1 : [c0, c1, c2, c3, c4, c5, c6, c7].all byteB with
  | false => rfl
  | true =>
    simp only [cond, bindO_s, csO_r]
    rw [F33_b1_loop K _ st rfl hl (by omega)]
    cases h2 : st.all byteB with
    | false => rfl
    | true =>
      simp only [cond, bindO_s, csO_r, F85_eq, F87_eq, F86_eq K rom k1 k2 ram k3 kb k4 hr, restOk, Bool.true_and]
      cases decide (Int.tmod c1 16 = 0) <;> cases inR c8 0 65535 <;> cases inR c9 0 65535 <;> cases cartOk rom k1 k2 ram k3 kb k4 <;> cases decide ((s1.length : Int) = 256) <;> cases decide ((s2.length : Int) = 127) <;> cases decide ((st.length : Int) ≤ 100) <;> rfl
theorem F32_eq (K : Nat) (c0 c1 c2 c3 c4 c5 c6 c7 c8 c9 : Int) (b0 b1 : Bool) (rom : List UInt8) (k1 k2 : Int) (ram : List UInt8) (k3 : Int) (kb : Bool) (k4 : Int) (s1 s2 : List UInt8) (st : List Int) (n : Int) (hr : rom.length ≤ maxLen) (hl : st.length ≤ maxLen) (hK : st.length + 8 < K) : F32 K (c0, c1, c2, c3, c4, c5, c6, c7, c8, c9, b0, b1, rom, k1, k2, ram, k3, kb, k4, s1, s2, st, n) = some (mOk c0 c1 c2 c3 c4 c5 c6 c7 c8 c9 b0 b1 rom k1 k2 ram k3 kb k4 s1 s2 st n) := by
  unfold F32 mOk
  rw [F32_b0_loop K _ (by simp [maxLen]) _ (by simp; omega)]
  cases h1 : [c0, c1, c2, c3, c4, c5, c6, c7].all byteB with
  | false => rfl
  | true =>
    simp only [cond, bindO_s, csO_r, F81_eq K st hl (by omega)]
    cases h2 : st.all byteB with
    | false => rfl
    | true =>
      simp only [Bool.not_true, branch_f, bindO_s, csO_r, F63_eq, F54_eq, F83_eq K rom k1 k2 ram k3 kb k4 hr, restOk, Bool.true_and]
      cases decide (Int.tmod c1 16 = 0) <;> cases inR c8 0 65535 <;> cases inR c9 0 65535 <;> cases cartOk rom k1 k2 ram k3 kb k4 <;> cases decide ((s1.length : Int) = 256) <;> cases decide ((s2.length : Int) = 127) <;> cases decide ((st.length : Int) ≤ 100) <;> rfl
end Go.U.Tryz
namespace Go.U.Tryz
open Go Go.U
set_option maxRecDepth 20000
abbrev WT := Int × Int × Int × Int × Int × Int × Int × Int × Int × Int × Bool × Bool × List UInt8 × Int × Int × List UInt8 × Int × Bool × Int × List UInt8 × List UInt8 × List Int × Int × Bool
structure CInv (rom : List UInt8) (kind bank : Int) (ram : List UInt8) (rb : Int) (on : Bool) (mode : Int) : Prop where
  hrom : rom.length % 256 = 0 ∧ 512 ≤ rom.length ∧ rom.length ≤ 4096
  hram : ram.length = 256
  hkind : kind = 0 ∨ kind = 1 ∨ kind = 2
  hbank : 0 ≤ bank ∧ bank ≤ 255
  hrb : 0 ≤ rb ∧ rb ≤ 3
  k0 : kind = 0 → bank = 1 ∧ rb = 0 ∧ mode = 0
  k1 : kind = 1 → 1 ≤ bank ∧ bank ≤ 31 ∧ 0 ≤ mode ∧ mode ≤ 1
  k2 : kind = 2 → mode = 0
  on0 : kind = 0 → on = false
theorem CInv.of {rom : List UInt8} {kind bank : Int} {ram : List UInt8} {rb : Int} {on : Bool} {mode : Int} (h : cartOk rom kind bank ram rb on mode = true) : CInv rom kind bank ram rb on mode := by
  simp only [cartOk, cartKind, Bool.and_eq_true, Bool.not_eq_true', decide_eq_true_eq, decide_eq_false_iff_not] at h
  obtain ⟨⟨h1, h2⟩, h3⟩ := h
  have hb : rom.length % 256 = 0 ∧ 2 ≤ rom.length / 256 ∧ rom.length / 256 ≤ 16 := by
    unfold banks at h1; split at h1
    · assumption
    · exact absurd rfl h1
  split at h3
  · simp [inR] at h3
    exact ⟨by omega, h2, by omega, by omega, by omega, fun _ => by omega, fun _ => by omega, fun _ => by omega, fun _ => h3.1.2⟩
  · split at h3
    · simp [inR] at h3
      exact ⟨by omega, h2, by omega, by omega, by omega, fun _ => by omega, fun _ => by omega, fun _ => by omega, fun _ => by omega⟩
    · split at h3
      · simp [inR] at h3
        exact ⟨by omega, h2, by omega, by omega, by omega, fun _ => by omega, fun _ => by omega, fun _ => by omega, fun _ => by omega⟩
      · cases h3
theorem CInv.ok {rom : List UInt8} {kind bank : Int} {ram : List UInt8} {rb : Int} {on : Bool} {mode : Int} (h : CInv rom kind bank ram rb on mode) : cartOk rom kind bank ram rb on mode = true := by
  obtain ⟨h1, h2, h3, h4, h5, h6, h7, h8, h9⟩ := h
  have hb : ¬ banks rom = 0 := by unfold banks; rw [if_pos ⟨h1.1, by omega, by omega⟩]; omega
  simp only [cartOk, cartKind, decide_eq_false hb, h2, Bool.not_false, Bool.true_and, decide_true]
  rcases h3 with rfl | rfl | rfl
  · obtain ⟨e1, e2, e3⟩ := h6 rfl
    have e4 := h9 rfl
    subst e1 e2 e3 e4; rfl
  · obtain ⟨e1, e2, e3, e4⟩ := h7 rfl
    simp [inR]; omega
  · have := h8 rfl
    simp [inR]; omega
theorem CInv.banks {rom : List UInt8} {kind bank : Int} {ram : List UInt8} {rb : Int} {on : Bool} {mode : Int} (h : CInv rom kind bank ram rb on mode) : banks rom = ((rom.length / 256 : Nat) : Int) := by
  have := h.hrom
  unfold Tryz.banks; rw [if_pos ⟨this.1, by omega, by omega⟩]
structure WInv (w : WT) : Prop where
  a : 0 ≤ w.1 ∧ w.1 ≤ 255
  f : 0 ≤ w.2.1 ∧ w.2.1 ≤ 255 ∧ w.2.1 % 16 = 0
  b : 0 ≤ w.2.2.1 ∧ w.2.2.1 ≤ 255
  c : 0 ≤ w.2.2.2.1 ∧ w.2.2.2.1 ≤ 255
  d : 0 ≤ w.2.2.2.2.1 ∧ w.2.2.2.2.1 ≤ 255
  e : 0 ≤ w.2.2.2.2.2.1 ∧ w.2.2.2.2.2.1 ≤ 255
  h : 0 ≤ w.2.2.2.2.2.2.1 ∧ w.2.2.2.2.2.2.1 ≤ 255
  l : 0 ≤ w.2.2.2.2.2.2.2.1 ∧ w.2.2.2.2.2.2.2.1 ≤ 255
  sp : 0 ≤ w.2.2.2.2.2.2.2.2.1 ∧ w.2.2.2.2.2.2.2.2.1 ≤ 65535
  pc : 0 ≤ w.2.2.2.2.2.2.2.2.2.1 ∧ w.2.2.2.2.2.2.2.2.2.1 ≤ 65535
  cart : CInv (w.2.2.2.2.2.2.2.2.2.2.2.2.1) (w.2.2.2.2.2.2.2.2.2.2.2.2.2.1) (w.2.2.2.2.2.2.2.2.2.2.2.2.2.2.1) (w.2.2.2.2.2.2.2.2.2.2.2.2.2.2.2.1) (w.2.2.2.2.2.2.2.2.2.2.2.2.2.2.2.2.1) (w.2.2.2.2.2.2.2.2.2.2.2.2.2.2.2.2.2.1) (w.2.2.2.2.2.2.2.2.2.2.2.2.2.2.2.2.2.2.1)
  work : w.2.2.2.2.2.2.2.2.2.2.2.2.2.2.2.2.2.2.2.1.length = 256
  high : w.2.2.2.2.2.2.2.2.2.2.2.2.2.2.2.2.2.2.2.2.1.length = 127
  out : w.2.2.2.2.2.2.2.2.2.2.2.2.2.2.2.2.2.2.2.2.2.1.all byteB = true ∧ w.2.2.2.2.2.2.2.2.2.2.2.2.2.2.2.2.2.2.2.2.2.1.length ≤ 100
  cyc : 0 ≤ w.2.2.2.2.2.2.2.2.2.2.2.2.2.2.2.2.2.2.2.2.2.2.1 ∧ w.2.2.2.2.2.2.2.2.2.2.2.2.2.2.2.2.2.2.2.2.2.2.1 ≤ 1000000000
theorem WInv.set_a {w : WT} (h : WInv w) {v : Int} (hv : 0 ≤ v ∧ v ≤ 255) : WInv (v, w.2) := ⟨hv, h.f, h.b, h.c, h.d, h.e, h.h, h.l, h.sp, h.pc, h.cart, h.work, h.high, h.out, h.cyc⟩
theorem WInv.set_f {w : WT} (h : WInv w) {v : Int} (hv : 0 ≤ v ∧ v ≤ 255 ∧ v % 16 = 0) : WInv (w.1, v, w.2.2) := ⟨h.a, hv, h.b, h.c, h.d, h.e, h.h, h.l, h.sp, h.pc, h.cart, h.work, h.high, h.out, h.cyc⟩
theorem WInv.set_b {w : WT} (h : WInv w) {v : Int} (hv : 0 ≤ v ∧ v ≤ 255) : WInv (w.1, w.2.1, v, w.2.2.2) := ⟨h.a, h.f, hv, h.c, h.d, h.e, h.h, h.l, h.sp, h.pc, h.cart, h.work, h.high, h.out, h.cyc⟩
theorem WInv.set_c {w : WT} (h : WInv w) {v : Int} (hv : 0 ≤ v ∧ v ≤ 255) : WInv (w.1, w.2.1, w.2.2.1, v, w.2.2.2.2) := ⟨h.a, h.f, h.b, hv, h.d, h.e, h.h, h.l, h.sp, h.pc, h.cart, h.work, h.high, h.out, h.cyc⟩
theorem WInv.set_d {w : WT} (h : WInv w) {v : Int} (hv : 0 ≤ v ∧ v ≤ 255) : WInv (w.1, w.2.1, w.2.2.1, w.2.2.2.1, v, w.2.2.2.2.2) := ⟨h.a, h.f, h.b, h.c, hv, h.e, h.h, h.l, h.sp, h.pc, h.cart, h.work, h.high, h.out, h.cyc⟩
theorem WInv.set_e {w : WT} (h : WInv w) {v : Int} (hv : 0 ≤ v ∧ v ≤ 255) : WInv (w.1, w.2.1, w.2.2.1, w.2.2.2.1, w.2.2.2.2.1, v, w.2.2.2.2.2.2) := ⟨h.a, h.f, h.b, h.c, h.d, hv, h.h, h.l, h.sp, h.pc, h.cart, h.work, h.high, h.out, h.cyc⟩
theorem WInv.set_h {w : WT} (h : WInv w) {v : Int} (hv : 0 ≤ v ∧ v ≤ 255) : WInv (w.1, w.2.1, w.2.2.1, w.2.2.2.1, w.2.2.2.2.1, w.2.2.2.2.2.1, v, w.2.2.2.2.2.2.2) := ⟨h.a, h.f, h.b, h.c, h.d, h.e, hv, h.l, h.sp, h.pc, h.cart, h.work, h.high, h.out, h.cyc⟩
theorem WInv.set_l {w : WT} (h : WInv w) {v : Int} (hv : 0 ≤ v ∧ v ≤ 255) : WInv (w.1, w.2.1, w.2.2.1, w.2.2.2.1, w.2.2.2.2.1, w.2.2.2.2.2.1, w.2.2.2.2.2.2.1, v, w.2.2.2.2.2.2.2.2) := ⟨h.a, h.f, h.b, h.c, h.d, h.e, h.h, hv, h.sp, h.pc, h.cart, h.work, h.high, h.out, h.cyc⟩
theorem WInv.set_sp {w : WT} (h : WInv w) {v : Int} (hv : 0 ≤ v ∧ v ≤ 65535) : WInv (w.1, w.2.1, w.2.2.1, w.2.2.2.1, w.2.2.2.2.1, w.2.2.2.2.2.1, w.2.2.2.2.2.2.1, w.2.2.2.2.2.2.2.1, v, w.2.2.2.2.2.2.2.2.2) := ⟨h.a, h.f, h.b, h.c, h.d, h.e, h.h, h.l, hv, h.pc, h.cart, h.work, h.high, h.out, h.cyc⟩
theorem WInv.set_pc {w : WT} (h : WInv w) {v : Int} (hv : 0 ≤ v ∧ v ≤ 65535) : WInv (w.1, w.2.1, w.2.2.1, w.2.2.2.1, w.2.2.2.2.1, w.2.2.2.2.2.1, w.2.2.2.2.2.2.1, w.2.2.2.2.2.2.2.1, w.2.2.2.2.2.2.2.2.1, v, w.2.2.2.2.2.2.2.2.2.2) := ⟨h.a, h.f, h.b, h.c, h.d, h.e, h.h, h.l, h.sp, hv, h.cart, h.work, h.high, h.out, h.cyc⟩
theorem WInv.set_af {w : WT} (h : WInv w) {v f : Int} (hv : 0 ≤ v ∧ v ≤ 255) (hf : 0 ≤ f ∧ f ≤ 255 ∧ f % 16 = 0) : WInv (v, f, w.2.2) := ⟨hv, hf, h.b, h.c, h.d, h.e, h.h, h.l, h.sp, h.pc, h.cart, h.work, h.high, h.out, h.cyc⟩
theorem WInv.set_work {w : WT} (h : WInv w) {v : List UInt8} (hv : v.length = 256) (q : Bool) : WInv (w.1, w.2.1, w.2.2.1, w.2.2.2.1, w.2.2.2.2.1, w.2.2.2.2.2.1, w.2.2.2.2.2.2.1, w.2.2.2.2.2.2.2.1, w.2.2.2.2.2.2.2.2.1, w.2.2.2.2.2.2.2.2.2.1, w.2.2.2.2.2.2.2.2.2.2.1, w.2.2.2.2.2.2.2.2.2.2.2.1, w.2.2.2.2.2.2.2.2.2.2.2.2.1, w.2.2.2.2.2.2.2.2.2.2.2.2.2.1, w.2.2.2.2.2.2.2.2.2.2.2.2.2.2.1, w.2.2.2.2.2.2.2.2.2.2.2.2.2.2.2.1, w.2.2.2.2.2.2.2.2.2.2.2.2.2.2.2.2.1, w.2.2.2.2.2.2.2.2.2.2.2.2.2.2.2.2.2.1, w.2.2.2.2.2.2.2.2.2.2.2.2.2.2.2.2.2.2.1, v, w.2.2.2.2.2.2.2.2.2.2.2.2.2.2.2.2.2.2.2.2.1, w.2.2.2.2.2.2.2.2.2.2.2.2.2.2.2.2.2.2.2.2.2.1, w.2.2.2.2.2.2.2.2.2.2.2.2.2.2.2.2.2.2.2.2.2.2.1, q) := ⟨h.a, h.f, h.b, h.c, h.d, h.e, h.h, h.l, h.sp, h.pc, h.cart, hv, h.high, h.out, h.cyc⟩
theorem WInv.set_high {w : WT} (h : WInv w) {v : List UInt8} (hv : v.length = 127) (q : Bool) : WInv (w.1, w.2.1, w.2.2.1, w.2.2.2.1, w.2.2.2.2.1, w.2.2.2.2.2.1, w.2.2.2.2.2.2.1, w.2.2.2.2.2.2.2.1, w.2.2.2.2.2.2.2.2.1, w.2.2.2.2.2.2.2.2.2.1, w.2.2.2.2.2.2.2.2.2.2.1, w.2.2.2.2.2.2.2.2.2.2.2.1, w.2.2.2.2.2.2.2.2.2.2.2.2.1, w.2.2.2.2.2.2.2.2.2.2.2.2.2.1, w.2.2.2.2.2.2.2.2.2.2.2.2.2.2.1, w.2.2.2.2.2.2.2.2.2.2.2.2.2.2.2.1, w.2.2.2.2.2.2.2.2.2.2.2.2.2.2.2.2.1, w.2.2.2.2.2.2.2.2.2.2.2.2.2.2.2.2.2.1, w.2.2.2.2.2.2.2.2.2.2.2.2.2.2.2.2.2.2.1, w.2.2.2.2.2.2.2.2.2.2.2.2.2.2.2.2.2.2.2.1, v, w.2.2.2.2.2.2.2.2.2.2.2.2.2.2.2.2.2.2.2.2.2.1, w.2.2.2.2.2.2.2.2.2.2.2.2.2.2.2.2.2.2.2.2.2.2.1, q) := ⟨h.a, h.f, h.b, h.c, h.d, h.e, h.h, h.l, h.sp, h.pc, h.cart, h.work, hv, h.out, h.cyc⟩
theorem WInv.set_out {w : WT} (h : WInv w) {v : List Int} (hv : v.all byteB = true ∧ v.length ≤ 100) (q : Bool) : WInv (w.1, w.2.1, w.2.2.1, w.2.2.2.1, w.2.2.2.2.1, w.2.2.2.2.2.1, w.2.2.2.2.2.2.1, w.2.2.2.2.2.2.2.1, w.2.2.2.2.2.2.2.2.1, w.2.2.2.2.2.2.2.2.2.1, w.2.2.2.2.2.2.2.2.2.2.1, w.2.2.2.2.2.2.2.2.2.2.2.1, w.2.2.2.2.2.2.2.2.2.2.2.2.1, w.2.2.2.2.2.2.2.2.2.2.2.2.2.1, w.2.2.2.2.2.2.2.2.2.2.2.2.2.2.1, w.2.2.2.2.2.2.2.2.2.2.2.2.2.2.2.1, w.2.2.2.2.2.2.2.2.2.2.2.2.2.2.2.2.1, w.2.2.2.2.2.2.2.2.2.2.2.2.2.2.2.2.2.1, w.2.2.2.2.2.2.2.2.2.2.2.2.2.2.2.2.2.2.1, w.2.2.2.2.2.2.2.2.2.2.2.2.2.2.2.2.2.2.2.1, w.2.2.2.2.2.2.2.2.2.2.2.2.2.2.2.2.2.2.2.2.1, v, w.2.2.2.2.2.2.2.2.2.2.2.2.2.2.2.2.2.2.2.2.2.2.1, q) := ⟨h.a, h.f, h.b, h.c, h.d, h.e, h.h, h.l, h.sp, h.pc, h.cart, h.work, h.high, hv, h.cyc⟩
theorem WInv.set_cart {w : WT} (h : WInv w) {c : List UInt8 × Int × Int × List UInt8 × Int × Bool × Int} (hv : CInv c.1 c.2.1 c.2.2.1 c.2.2.2.1 c.2.2.2.2.1 c.2.2.2.2.2.1 c.2.2.2.2.2.2) (q : Bool) : WInv (w.1, w.2.1, w.2.2.1, w.2.2.2.1, w.2.2.2.2.1, w.2.2.2.2.2.1, w.2.2.2.2.2.2.1, w.2.2.2.2.2.2.2.1, w.2.2.2.2.2.2.2.2.1, w.2.2.2.2.2.2.2.2.2.1, w.2.2.2.2.2.2.2.2.2.2.1, w.2.2.2.2.2.2.2.2.2.2.2.1, c.1, c.2.1, c.2.2.1, c.2.2.2.1, c.2.2.2.2.1, c.2.2.2.2.2.1, c.2.2.2.2.2.2, w.2.2.2.2.2.2.2.2.2.2.2.2.2.2.2.2.2.2.2.1, w.2.2.2.2.2.2.2.2.2.2.2.2.2.2.2.2.2.2.2.2.1, w.2.2.2.2.2.2.2.2.2.2.2.2.2.2.2.2.2.2.2.2.2.1, w.2.2.2.2.2.2.2.2.2.2.2.2.2.2.2.2.2.2.2.2.2.2.1, q) := ⟨h.a, h.f, h.b, h.c, h.d, h.e, h.h, h.l, h.sp, h.pc, hv, h.work, h.high, h.out, h.cyc⟩
theorem WInv.set_full {w : WT} (h : WInv w) (q : Bool) : WInv (w.1, w.2.1, w.2.2.1, w.2.2.2.1, w.2.2.2.2.1, w.2.2.2.2.2.1, w.2.2.2.2.2.2.1, w.2.2.2.2.2.2.2.1, w.2.2.2.2.2.2.2.2.1, w.2.2.2.2.2.2.2.2.2.1, w.2.2.2.2.2.2.2.2.2.2.1, w.2.2.2.2.2.2.2.2.2.2.2.1, w.2.2.2.2.2.2.2.2.2.2.2.2.1, w.2.2.2.2.2.2.2.2.2.2.2.2.2.1, w.2.2.2.2.2.2.2.2.2.2.2.2.2.2.1, w.2.2.2.2.2.2.2.2.2.2.2.2.2.2.2.1, w.2.2.2.2.2.2.2.2.2.2.2.2.2.2.2.2.1, w.2.2.2.2.2.2.2.2.2.2.2.2.2.2.2.2.2.1, w.2.2.2.2.2.2.2.2.2.2.2.2.2.2.2.2.2.2.1, w.2.2.2.2.2.2.2.2.2.2.2.2.2.2.2.2.2.2.2.1, w.2.2.2.2.2.2.2.2.2.2.2.2.2.2.2.2.2.2.2.2.1, w.2.2.2.2.2.2.2.2.2.2.2.2.2.2.2.2.2.2.2.2.2.1, w.2.2.2.2.2.2.2.2.2.2.2.2.2.2.2.2.2.2.2.2.2.2.1, q) := ⟨h.a, h.f, h.b, h.c, h.d, h.e, h.h, h.l, h.sp, h.pc, h.cart, h.work, h.high, h.out, h.cyc⟩
theorem WInv.set_ime {w : WT} (h : WInv w) (q : Bool) : WInv (w.1, w.2.1, w.2.2.1, w.2.2.2.1, w.2.2.2.2.1, w.2.2.2.2.2.1, w.2.2.2.2.2.2.1, w.2.2.2.2.2.2.2.1, w.2.2.2.2.2.2.2.2.1, w.2.2.2.2.2.2.2.2.2.1, q, w.2.2.2.2.2.2.2.2.2.2.2) := ⟨h.a, h.f, h.b, h.c, h.d, h.e, h.h, h.l, h.sp, h.pc, h.cart, h.work, h.high, h.out, h.cyc⟩
theorem WInv.set_halted {w : WT} (h : WInv w) (q : Bool) : WInv (w.1, w.2.1, w.2.2.1, w.2.2.2.1, w.2.2.2.2.1, w.2.2.2.2.2.1, w.2.2.2.2.2.2.1, w.2.2.2.2.2.2.2.1, w.2.2.2.2.2.2.2.2.1, w.2.2.2.2.2.2.2.2.2.1, w.2.2.2.2.2.2.2.2.2.2.1, q, w.2.2.2.2.2.2.2.2.2.2.2.2) := ⟨h.a, h.f, h.b, h.c, h.d, h.e, h.h, h.l, h.sp, h.pc, h.cart, h.work, h.high, h.out, h.cyc⟩
theorem WInv.set_cyc {w : WT} (h : WInv w) {v : Int} (hv : 0 ≤ v ∧ v ≤ 1000000000) (q : Bool) : WInv (w.1, w.2.1, w.2.2.1, w.2.2.2.1, w.2.2.2.2.1, w.2.2.2.2.2.1, w.2.2.2.2.2.2.1, w.2.2.2.2.2.2.2.1, w.2.2.2.2.2.2.2.2.1, w.2.2.2.2.2.2.2.2.2.1, w.2.2.2.2.2.2.2.2.2.2.1, w.2.2.2.2.2.2.2.2.2.2.2.1, w.2.2.2.2.2.2.2.2.2.2.2.2.1, w.2.2.2.2.2.2.2.2.2.2.2.2.2.1, w.2.2.2.2.2.2.2.2.2.2.2.2.2.2.1, w.2.2.2.2.2.2.2.2.2.2.2.2.2.2.2.1, w.2.2.2.2.2.2.2.2.2.2.2.2.2.2.2.2.1, w.2.2.2.2.2.2.2.2.2.2.2.2.2.2.2.2.2.1, w.2.2.2.2.2.2.2.2.2.2.2.2.2.2.2.2.2.2.1, w.2.2.2.2.2.2.2.2.2.2.2.2.2.2.2.2.2.2.2.1, w.2.2.2.2.2.2.2.2.2.2.2.2.2.2.2.2.2.2.2.2.1, w.2.2.2.2.2.2.2.2.2.2.2.2.2.2.2.2.2.2.2.2.2.1, v, q) := ⟨h.a, h.f, h.b, h.c, h.d, h.e, h.h, h.l, h.sp, h.pc, h.cart, h.work, h.high, h.out, hv⟩
theorem F87_t (K : Nat) (v lo hi : Int) {ρ : Type} {k : Bool → Option ρ} {Q : ρ → Prop} (h1 : lo ≤ v ∧ v ≤ hi → T (k true) Q) (h2 : ¬ (lo ≤ v ∧ v ≤ hi) → T (k false) Q) : T (bindO (F87 K (v, lo, hi)) k) Q := by
  rw [F87_eq, bindO_s]
  unfold inR
  by_cases h : lo ≤ v ∧ v ≤ hi
  · rw [decide_eq_true h]; exact h1 h
  · rw [decide_eq_false h]; exact h2 h
theorem F84_t (K : Nat) (v : Int) {ρ : Type} {k : Bool → Option ρ} {Q : ρ → Prop} (h1 : 0 ≤ v ∧ v ≤ 255 → T (k true) Q) (h2 : ¬ (0 ≤ v ∧ v ≤ 255) → T (k false) Q) : T (bindO (F84 K v) k) Q := by
  rw [F84_eq, bindO_s]
  unfold inR
  by_cases h : 0 ≤ v ∧ v ≤ 255
  · rw [decide_eq_true h]; exact h1 h
  · rw [decide_eq_false h]; exact h2 h
theorem F85_t (K : Nat) (v : Int) {ρ : Type} {k : Bool → Option ρ} {Q : ρ → Prop} (h1 : 0 ≤ v ∧ v ≤ 65535 → T (k true) Q) (h2 : ¬ (0 ≤ v ∧ v ≤ 65535) → T (k false) Q) : T (bindO (F85 K v) k) Q := by
  rw [F85_eq, bindO_s]
  unfold inR
  by_cases h : 0 ≤ v ∧ v ≤ 65535
  · rw [decide_eq_true h]; exact h1 h
  · rw [decide_eq_false h]; exact h2 h
def flagsOf (z n h c : Bool) : Int := cond z 128 0 + cond n 64 0 + cond h 32 0 + cond c 16 0
theorem flagsOf_ok (z n h c : Bool) : 0 ≤ flagsOf z n h c ∧ flagsOf z n h c ≤ 255 ∧ flagsOf z n h c % 16 = 0 := by
  cases z <;> cases n <;> cases h <;> cases c <;> simp [flagsOf]
theorem F161_eq (K : Nat) (z n h c : Bool) : F161 K (z, n, h, c) = some (flagsOf z n h c) := by
  cases z <;> cases n <;> cases h <;> cases c <;> rfl
theorem F162_eq (K : Nat) (f : Int) (h0 : 0 ≤ f) (h1 : f ≤ 255) : F162 K f = some (f / 16 % 2) := by
  unfold F162
  congr 1
  (((try (simp (disch := omega) only [w64_id, w64u_id, tmE, tdE])); first | omega | done))
theorem F160_t (K : Nat) (op v f : Int) (v0 : 0 ≤ v ∧ v ≤ 255) (f0 : 0 ≤ f ∧ f ≤ 255) : T (F160 K (op, v, f)) fun r => (0 ≤ r.1 ∧ r.1 ≤ 255) ∧ 0 ≤ r.2 ∧ r.2 ≤ 255 ∧ r.2 % 16 = 0 := by
  unfold F160
  refine T.bind (S := fun r => 0 ≤ r.1 ∧ r.1 ≤ 255) ?_ fun r hr => ?_
  · dsimp only
    rw [F162_eq K f f0.1 f0.2]
    refine T.br (fun _ => T.ret ?_) fun _ => T.br (fun _ => T.ret ?_) fun _ => T.br (fun _ => T.binds (T.ret ?_)) fun _ => T.br (fun _ => T.binds (T.ret ?_)) fun _ => T.br (fun _ => T.ret ?_) fun _ => T.br (fun _ => T.ret ?_) fun _ => T.br (fun _ => T.ret ?_) fun _ => T.ret ?_ <;> dsimp only <;> (((try (simp (disch := omega) only [w64_id, w64u_id, tmE, tdE])); first | omega | done))
  · rw [F161_eq]
    exact T.binds (T.ret ⟨hr, flagsOf_ok _ _ _ _⟩)
theorem byte_u8 (b : UInt8) : 0 ≤ w64 (b.toNat : Int) ∧ w64 (b.toNat : Int) ≤ 255 := by
  have := b.toNat_lt
  rw [w64_id (by omega) (by omega)]; omega
theorem F246_t (K : Nat) (rom : List UInt8) (kind bank : Int) (ram : List UInt8) (rb : Int) (on : Bool) (mode : Int) (h : CInv rom kind bank ram rb on mode) : T (F246 K (rom, kind, bank, ram, rb, on, mode)) fun r => 0 ≤ r ∧ r ≤ 3 := by
  unfold F246
  refine T.bindbr (fun _ => T.binds (T.br (fun _ => T.ret ?_) fun _ => T.ret ?_)) fun _ => T.binds (T.br (fun _ => T.ret ?_) fun _ => T.ret ?_) <;> first | exact h.hrb | (constructor <;> decide)
theorem F194_t (K : Nat) (rom : List UInt8) (kind bank : Int) (ram : List UInt8) (rb : Int) (on : Bool) (mode : Int) (h : CInv rom kind bank ram rb on mode) (addr : Int) (ha : 0 ≤ addr) : T (F194 K (rom, kind, bank, ram, rb, on, mode, addr)) fun r => 0 ≤ r ∧ r ≤ 255 := by
  have h1 := h.hrom
  have h2 := h.hbank
  have h4 := h.hram
  have h5 := h.hrb
  unfold F194
  refine F87_t _ _ _ _ (fun g => T.br (fun _ => T.nth ha (by dsimp only at g ⊢; omega) fun v _ _ => T.ret (byte_u8 v)) nofun) fun g => T.br nofun fun _ => ?_
  refine F87_t _ _ _ _ (fun g2 => T.br (fun _ => ?_) nofun) fun g2 => T.br nofun fun _ => ?_
  · have e : Tryz.banks rom = ((rom.length / 256 : Nat) : Int) := h.banks
    have hm : 0 ≤ Int.tmod bank ((rom.length / 256 : Nat) : Int) ∧ Int.tmod bank ((rom.length / 256 : Nat) : Int) < ((rom.length / 256 : Nat) : Int) := ⟨Int.tmod_nonneg _ h2.1, Int.tmod_lt_of_pos _ (by omega)⟩
    rw [F127_eq K rom (by unfold maxLen; omega), bindO_s, e]
    refine T.guard (nd0 (by omega)) ?_
    dsimp only at g2 ⊢
    generalize Int.tmod bank ((rom.length / 256 : Nat) : Int) = t at hm ⊢
    have e1 : w64 (w64 (w64 (t * 256) + addr) - 256) = t * 256 + addr - 256 := by (simp (disch := omega) only [w64_id, w64u_id, tmE, tdE])
    rw [e1]
    exact T.nth (by omega) (by omega) fun v _ _ => T.ret (byte_u8 v)
  · refine T.bindbr (fun gon => ?_) fun gon => ?_
    · refine T.bindbind ?_
      refine F87_t _ _ _ _ (fun g3 => T.binds (T.br (fun _ => ?_) nofun)) fun g3 => T.binds (T.br nofun fun _ => T.ret (by constructor <;> decide))
      refine T.bind (F246_t K rom kind bank ram rb on mode h) fun r hr => ?_
      dsimp only at g3 ⊢
      have e1 : w64 (w64 (w64 (r * 64) + addr) - 40960) = r * 64 + addr - 40960 := by (simp (disch := omega) only [w64_id, w64u_id, tmE, tdE])
      rw [e1]
      exact T.nth (by omega) (by omega) fun v _ _ => T.ret (byte_u8 v)
    · exact T.binds (T.br nofun fun _ => T.ret (by constructor <;> decide))
theorem F138_t (K : Nat) (w : WT) (h : WInv w) (addr : Int) (ha : 0 ≤ addr) : T (F138 K (w.1, w.2.1, w.2.2.1, w.2.2.2.1, w.2.2.2.2.1, w.2.2.2.2.2.1, w.2.2.2.2.2.2.1, w.2.2.2.2.2.2.2.1, w.2.2.2.2.2.2.2.2.1, w.2.2.2.2.2.2.2.2.2.1, w.2.2.2.2.2.2.2.2.2.2.1, w.2.2.2.2.2.2.2.2.2.2.2.1, w.2.2.2.2.2.2.2.2.2.2.2.2.1, w.2.2.2.2.2.2.2.2.2.2.2.2.2.1, w.2.2.2.2.2.2.2.2.2.2.2.2.2.2.1, w.2.2.2.2.2.2.2.2.2.2.2.2.2.2.2.1, w.2.2.2.2.2.2.2.2.2.2.2.2.2.2.2.2.1, w.2.2.2.2.2.2.2.2.2.2.2.2.2.2.2.2.2.1, w.2.2.2.2.2.2.2.2.2.2.2.2.2.2.2.2.2.2.1, w.2.2.2.2.2.2.2.2.2.2.2.2.2.2.2.2.2.2.2.1, w.2.2.2.2.2.2.2.2.2.2.2.2.2.2.2.2.2.2.2.2.1, w.2.2.2.2.2.2.2.2.2.2.2.2.2.2.2.2.2.2.2.2.2.1, w.2.2.2.2.2.2.2.2.2.2.2.2.2.2.2.2.2.2.2.2.2.2.1, addr)) fun r => 0 ≤ r ∧ r ≤ 255 := by
  have h1 := h.work
  have h2 := h.high
  unfold F138
  refine F87_t _ _ _ _ (fun g => T.br (fun _ => ?_) nofun) fun g => T.br nofun fun _ => ?_
  · dsimp only at g ⊢
    rw [w64_id (n := addr - 49152) (by omega) (by omega)]
    exact T.nth (by omega) (by omega) fun v _ _ => T.ret (byte_u8 v)
  refine F87_t _ _ _ _ (fun g => T.br (fun _ => ?_) nofun) fun g => T.br nofun fun _ => ?_
  · dsimp only at g ⊢
    rw [w64_id (n := addr - 65408) (by omega) (by omega)]
    exact T.nth (by omega) (by omega) fun v _ _ => T.ret (byte_u8 v)
  exact T.bind (F194_t K _ _ _ _ _ _ _ h.cart addr ha) fun r hr => T.ret hr
theorem ofB_length (l : List UInt8) : (ofB l).length = l.length := by unfold ofB; simp
theorem toB_length (l : List Int) : (toB l).length = l.length := by unfold toB; simp
theorem F255_t (K : Nat) (s : List UInt8) (at_ v : Int) (h0 : 0 ≤ at_) (h1 : at_ < (s.length : Int)) : T (F255 K (s, at_, v)) fun r => r.length = s.length := by
  unfold F255
  have e := ofB_length s
  refine T.guard (decide_eq_true ⟨h0, by dsimp only; omega⟩) (T.nthN (by dsimp only; omega) fun x _ _ => T.ret ?_)
  dsimp only
  rw [toB_length, List.length_set, e]
theorem F256_t (K : Nat) (rom : List UInt8) (kind bank : Int) (ram : List UInt8) (rb : Int) (on : Bool) (mode : Int) (h : CInv rom kind bank ram rb on mode) (addr v : Int) (ha : 0 ≤ addr) (hv : 0 ≤ v ∧ v ≤ 255) : T (F256 K (rom, kind, bank, ram, rb, on, mode, addr, v)) fun c => CInv c.1 c.2.1 c.2.2.1 c.2.2.2.1 c.2.2.2.2.1 c.2.2.2.2.2.1 c.2.2.2.2.2.2 := by
  obtain ⟨h1, h2, h3, h4, h5, h6, h7, h8, h9⟩ := h
  unfold F256
  have em32 : Int.tmod v 32 = v % 32 := tmE (by omega)
  have em4 : Int.tmod v 4 = v % 4 := tmE (by omega)
  have em2 : Int.tmod v 2 = v % 2 := tmE (by omega)
  refine T.br (fun g => T.ret ⟨h1, h2, h3, h4, h5, h6, h7, h8, h9⟩) fun g => ?_
  have g' : ¬ kind = 0 := of_decide_eq_false g
  refine T.br (fun g1 => T.ret ⟨h1, h2, h3, h4, h5, h6, h7, h8, fun e => absurd e g'⟩) fun g1 => ?_
  refine T.bindbr (fun g2 => T.binds ?_) fun g2 => T.binds ?_
  · refine T.br (fun g3 => T.ret ?_) fun g3 => T.br (fun _ => T.ret ?_) fun g4 => absurd (g2.symm.trans g4) (by simp)
    · have e2 : kind = 2 := of_decide_eq_true g3
      exact ⟨h1, h2, h3, hv, h5, fun e => absurd e g', fun e => by dsimp only at e; omega, h8, fun e => absurd e g'⟩
    · have e2 : ¬ kind = 2 := of_decide_eq_false g3
      dsimp only
      rw [em32]
      unfold mxI
      refine ⟨h1, h2, h3, ?_, h5, fun e => absurd e g', fun e => ?_, h8, fun e => absurd e g'⟩
      · split <;> omega
      · have := h7 e; split <;> omega
  · refine T.br nofun fun _ => T.br (fun g4 => absurd (g2.symm.trans g4) (by simp)) fun _ => ?_
    refine T.br (fun _ => T.ret ?_) fun _ => ?_
    · dsimp only
      rw [em4]
      exact ⟨h1, h2, h3, h4, by omega, fun e => absurd e g', h7, h8, fun e => absurd e g'⟩
    refine T.br (fun _ => T.br (fun g5 => T.ret ?_) fun g5 => T.ret ⟨h1, h2, h3, h4, h5, h6, h7, h8, h9⟩) fun _ => ?_
    · have e1 : kind = 1 := of_decide_eq_true g5
      dsimp only
      rw [em2]
      exact ⟨h1, h2, h3, h4, h5, fun e => absurd e g', fun e => by have := h7 e; omega, fun e => by omega, fun e => absurd e g'⟩
    · refine T.bindbr (fun gon => T.bindbind ?_) fun gon => T.binds (T.br nofun fun _ => T.ret ⟨h1, h2, h3, h4, h5, h6, h7, h8, h9⟩)
      refine F87_t _ _ _ _ (fun g6 => T.binds (T.br (fun _ => ?_) nofun)) fun g6 => T.binds (T.br nofun fun _ => T.ret ⟨h1, h2, h3, h4, h5, h6, h7, h8, h9⟩)
      refine T.bind (F246_t K _ _ _ _ _ _ _ ⟨h1, h2, h3, h4, h5, h6, h7, h8, h9⟩) fun r hr => ?_
      dsimp only at g6 ⊢
      have e1 : w64 (w64 (w64 (r * 64) + addr) - 40960) = r * 64 + addr - 40960 := by (simp (disch := omega) only [w64_id, w64u_id, tmE, tdE])
      rw [e1]
      refine T.bind (F255_t K ram _ v (by omega) (by omega)) fun x hx => T.ret ?_
      exact ⟨h1, by rw [hx]; exact h2, h3, h4, h5, h6, h7, h8, h9⟩
theorem F231_t (K : Nat) (w : WT) (h : WInv w) (addr v : Int) (ha : 0 ≤ addr) (hv : 0 ≤ v ∧ v ≤ 255) : T (F231 K (w.1, w.2.1, w.2.2.1, w.2.2.2.1, w.2.2.2.2.1, w.2.2.2.2.2.1, w.2.2.2.2.2.2.1, w.2.2.2.2.2.2.2.1, w.2.2.2.2.2.2.2.2.1, w.2.2.2.2.2.2.2.2.2.1, w.2.2.2.2.2.2.2.2.2.2.1, w.2.2.2.2.2.2.2.2.2.2.2.1, w.2.2.2.2.2.2.2.2.2.2.2.2.1, w.2.2.2.2.2.2.2.2.2.2.2.2.2.1, w.2.2.2.2.2.2.2.2.2.2.2.2.2.2.1, w.2.2.2.2.2.2.2.2.2.2.2.2.2.2.2.1, w.2.2.2.2.2.2.2.2.2.2.2.2.2.2.2.2.1, w.2.2.2.2.2.2.2.2.2.2.2.2.2.2.2.2.2.1, w.2.2.2.2.2.2.2.2.2.2.2.2.2.2.2.2.2.2.1, w.2.2.2.2.2.2.2.2.2.2.2.2.2.2.2.2.2.2.2.1, w.2.2.2.2.2.2.2.2.2.2.2.2.2.2.2.2.2.2.2.2.1, w.2.2.2.2.2.2.2.2.2.2.2.2.2.2.2.2.2.2.2.2.2.1, w.2.2.2.2.2.2.2.2.2.2.2.2.2.2.2.2.2.2.2.2.2.2.1, addr, v)) fun r => WInv r := by
  have h1 := h.work
  have h2 := h.high
  have h3 := h.out
  unfold F231
  refine F87_t _ _ _ _ (fun g => T.br (fun _ => ?_) nofun) fun g => T.br nofun fun _ => ?_
  · dsimp only at g ⊢
    rw [w64_id (n := addr - 49152) (by omega) (by omega)]
    exact T.bind (F255_t K _ _ v (by omega) (by omega)) fun r hr => T.ret (h.set_work (hr.trans h1) true)
  refine F87_t _ _ _ _ (fun g => T.br (fun _ => ?_) nofun) fun g => T.br nofun fun _ => ?_
  · dsimp only at g ⊢
    rw [w64_id (n := addr - 65408) (by omega) (by omega)]
    exact T.bind (F255_t K _ _ v (by omega) (by omega)) fun r hr => T.ret (h.set_high (hr.trans h2) true)
  refine T.br (fun _ => T.br (fun _ => T.ret (h.set_full false)) fun g3 => ?_) fun _ => ?_
  · have g4 := of_decide_eq_false g3
    dsimp only at g4 ⊢
    refine T.guard (by unfold fitN; exact decide_eq_true (by omega)) (T.guard (by unfold fitN; exact decide_eq_true (by simp; omega)) (T.ret (h.set_out ⟨?_, ?_⟩ true)))
    · rw [List.all_append, List.nil_append, h3.1]
      simp [byteB, inR]; omega
    · simp; omega
  · exact T.bind (F256_t K _ _ _ _ _ _ _ h.cart addr v ha hv) fun c hc => T.ret (h.set_cart hc true)
theorem F163_t (K : Nat) (w : WT) (h : WInv w) (addr v : Int) (ha : 0 ≤ addr) (hv : 0 ≤ v ∧ v ≤ 255) : T (F163 K (addr, v, w)) fun r => WInv r := by
  unfold F163
  refine T.bind (F231_t K w h (Int.tmod addr 65536) v (Int.tmod_nonneg _ ha) hv) fun r hr => T.br (fun _ => T.ret (hr.set_full _)) fun _ => T.ret (hr.set_full _)
theorem F167_eq (K : Nat) (w : WT) (h : WInv w) : F167 K w = some (256 * w.2.2.2.2.2.2.1 + w.2.2.2.2.2.2.2.1, w) := by
  have h1 := h.h
  have h2 := h.l
  unfold F167
  congr 2
  (simp (disch := omega) only [w64_id, w64u_id, tmE, tdE])
theorem F115_t (K : Nat) (w : WT) (h : WInv w) (k : Int) (hk : 0 ≤ k ∧ k ≤ 7) : T (F115 K (k, w)) fun r => (0 ≤ r.1 ∧ r.1 ≤ 255) ∧ r.2 = w := by
  unfold F115
  refine T.br (fun g => ?_) fun g => ?_
  · rw [F167_eq K w h, bindO_s]
    have h1 := h.h
    have h2 := h.l
    exact T.bind (F138_t K w h _ (by dsimp only; omega)) fun r hr => T.ret ⟨hr, rfl⟩
  · refine T.guard (decide_eq_true ⟨hk.1, by simp; omega⟩) (T.nthN (by simp; omega) fun v hv _ => T.ret ⟨?_, rfl⟩)
    simp only [List.mem_cons, List.not_mem_nil, or_false] at hv
    rcases hv with rfl | rfl | rfl | rfl | rfl | rfl | rfl | rfl
    · exact h.b
    · exact h.c
    · exact h.d
    · exact h.e
    · exact h.h
    · exact h.l
    · omega
    · exact h.a
theorem F114_t (K : Nat) (w : WT) (h : WInv w) (k v : Int) (hv : 0 ≤ v ∧ v ≤ 255) : T (F114 K (k, v, w)) fun r => WInv r := by
  unfold F114
  refine T.br (fun _ => T.ret (h.set_b hv)) fun _ => T.br (fun _ => T.ret (h.set_c hv)) fun _ => T.br (fun _ => T.ret (h.set_d hv)) fun _ => T.br (fun _ => T.ret (h.set_e hv)) fun _ => T.br (fun _ => T.ret (h.set_h hv)) fun _ => T.br (fun _ => T.ret (h.set_l hv)) fun _ => T.br (fun _ => ?_) fun _ => T.ret (h.set_a hv)
  rw [F167_eq K w h, bindO_s]
  have h1 := h.h
  have h2 := h.l
  exact T.bind (F163_t K w h _ v (by dsimp only; omega) hv) fun r hr => T.ret hr
theorem F164_t (K : Nat) (w : WT) (k : Int) : T (F164 K (k, w)) fun r => r.2 = w := by
  unfold F164
  refine T.bindbr (fun _ => T.binds (T.guard rfl (T.ret rfl))) fun _ => T.binds (T.guard rfl (T.ret rfl))
theorem F144_t (K : Nat) (x : Int) : T (F144 K x) fun r => -128 ≤ r ∧ r ≤ 127 := by
  unfold F144
  refine F87_t _ _ _ _ (fun g => T.br nofun fun _ => T.br (fun g2 => T.ret ?_) fun g2 => T.ret ?_) fun g => T.br (fun _ => T.ret (by omega)) nofun
  · have := of_decide_eq_true g2; (((try (simp (disch := omega) only [w64_id, w64u_id, tmE, tdE])); first | omega | done))
  · have := of_decide_eq_false g2; omega
theorem F165_t (K : Nat) (w : WT) (h : WInv w) (p v : Int) (af : Bool) (hv : 0 ≤ v ∧ v ≤ 65535) : T (F165 K (p, v, af, w)) fun r => WInv r := by
  unfold F165
  refine T.br (fun _ => ?_) fun _ => T.br (fun _ => T.ret ?_) fun _ => T.ret (h.set_sp hv)
  · refine T.bind (F114_t K w h _ _ ?_) fun r hr => T.bind (F114_t K r hr _ _ ?_) fun r2 hr2 => T.ret hr2 <;> dsimp only <;> (((try (simp (disch := omega) only [w64_id, w64u_id, tmE, tdE])); first | omega | done))
  · refine h.set_af ?_ ?_ <;> dsimp only <;> (((try (simp (disch := omega) only [w64_id, w64u_id, tmE, tdE])); first | omega | done))
theorem F168_t (K : Nat) (w : WT) (h : WInv w) (p : Int) (af : Bool) (hp : 0 ≤ p) : T (F168 K (p, af, w)) fun r => (0 ≤ r.1 ∧ r.1 ≤ 65535) ∧ r.2 = w := by
  unfold F168
  refine T.br (fun g => ?_) fun _ => T.br (fun _ => T.ret ⟨?_, rfl⟩) fun _ => T.ret ⟨h.sp, rfl⟩
  · have g1 := of_decide_eq_true g
    dsimp only at g1 ⊢
    refine T.bind (F115_t K w h (w64 (2 * p)) (by (((try (simp (disch := omega) only [w64_id, w64u_id, tmE, tdE])); first | omega | done)))) fun r hr => T.bind (F115_t K w h (w64 (w64 (2 * p) + 1)) (by (((try (simp (disch := omega) only [w64_id, w64u_id, tmE, tdE])); first | omega | done)))) fun r2 hr2 => T.ret ⟨?_, rfl⟩
    have e1 := hr.1
    have e2 := hr2.1
    (((try (simp (disch := omega) only [w64_id, w64u_id, tmE, tdE])); first | omega | done))
  · have e1 := h.a
    have e2 := h.f
    dsimp only
    (((try (simp (disch := omega) only [w64_id, w64u_id, tmE, tdE])); first | omega | done))
theorem F161_r {K : Nat} {z n h c : Bool} {ρ : Type} {k : Int → Option ρ} {Q : ρ → Prop} (hk : ∀ f, 0 ≤ f ∧ f ≤ 255 ∧ f % 16 = 0 → T (k f) Q) : T (bindO (F161 K (z, n, h, c)) k) Q := by
  rw [F161_eq]; exact T.binds (hk _ (flagsOf_ok _ _ _ _))
theorem F162_r {K : Nat} {f : Int} {ρ : Type} {k : Int → Option ρ} {Q : ρ → Prop} (hf : 0 ≤ f ∧ f ≤ 255) (hk : ∀ c, 0 ≤ c ∧ c ≤ 1 → T (k c) Q) : T (bindO (F162 K f) k) Q := by
  rw [F162_eq K f hf.1 hf.2]; exact T.binds (hk _ (by omega))
theorem F166_t (K : Nat) (a b f : Int) : T (F166 K (a, b, f)) fun r => (0 ≤ r.1 ∧ r.1 ≤ 65535) ∧ 0 ≤ r.2 ∧ r.2 ≤ 255 ∧ r.2 % 16 = 0 := by
  unfold F166
  (repeat' (with_reducible first | apply T.bindbind | (apply F85_t <;> intro _) | (apply F84_t <;> intro _) | (apply T.bindbr <;> intro _) | apply T.binds | (apply T.br <;> intro _) | apply T.csl | apply T.csr | (apply F161_r; intro _ _)))
  all_goals first
    | contradiction
    | exact T.ret ⟨by constructor <;> decide, by decide, by decide, by decide⟩
    | (refine T.ret ⟨?_, by assumption⟩; dsimp only at *; (((try (simp (disch := omega) only [w64_id, w64u_id, tmE, tdE])); first | omega | done)))
theorem F169_t (K : Nat) (v f : Int) (d : Bool) : T (F169 K (v, f, d)) fun r => (0 ≤ r.1 ∧ r.1 ≤ 255) ∧ 0 ≤ r.2 ∧ r.2 ≤ 255 ∧ r.2 % 16 = 0 := by
  unfold F169
  (repeat' (with_reducible first | apply T.bindbind | (apply F85_t <;> intro _) | (apply F84_t <;> intro _) | (apply T.bindbr <;> intro _) | apply T.binds | (apply T.br <;> intro _) | apply T.csl | apply T.csr | (apply F161_r; intro _ _)))
  all_goals first
    | contradiction
    | exact T.ret ⟨by constructor <;> decide, by decide, by decide, by decide⟩
    | skip
  all_goals
    refine F162_r (by dsimp only at *; omega) fun c hc => F161_r fun g hg => T.ret ⟨?_, hg⟩
    dsimp only at *
    (((try (simp (disch := omega) only [w64_id, w64u_id, tmE, tdE])); first | omega | done))
theorem F232_t (K : Nat) (a f : Int) : T (F232 K (a, f)) fun r => (0 ≤ r.1 ∧ r.1 ≤ 255) ∧ 0 ≤ r.2 ∧ r.2 ≤ 255 ∧ r.2 % 16 = 0 := by
  unfold F232
  (repeat' (with_reducible first | apply T.bindbind | (apply F85_t <;> intro _) | (apply F84_t <;> intro _) | (apply T.bindbr <;> intro _) | apply T.binds | (apply T.br <;> intro _) | apply T.csl | apply T.csr | (apply F161_r; intro _ _)))
  all_goals first
    | contradiction
    | exact T.ret ⟨by constructor <;> decide, by decide, by decide, by decide⟩
    | skip
  all_goals
    refine F162_r (by dsimp only at *; omega) fun c hc => ?_
    (repeat' (with_reducible first | apply T.bindbind | (apply F85_t <;> intro _) | (apply F84_t <;> intro _) | (apply T.bindbr <;> intro _) | apply T.binds | (apply T.br <;> intro _) | apply T.csl | apply T.csr | (apply F161_r; intro _ _)))
    all_goals first
      | contradiction
      | (refine T.ret ⟨?_, by assumption⟩; dsimp only at *; (((try (simp (disch := omega) only [w64_id, w64u_id, tmE, tdE])); first | omega | done)))
theorem F172_t (K : Nat) (a b : Int) : T (F172 K (a, b)) fun r => (0 ≤ r.1 ∧ r.1 ≤ 65535) ∧ 0 ≤ r.2 ∧ r.2 ≤ 255 ∧ r.2 % 16 = 0 := by
  unfold F172
  (repeat' (with_reducible first | apply T.bindbind | (apply F85_t <;> intro _) | (apply F84_t <;> intro _) | (apply T.bindbr <;> intro _) | apply T.binds | (apply T.br <;> intro _) | apply T.csl | apply T.csr | (apply F161_r; intro _ _)))
  all_goals first
    | contradiction
    | exact T.ret ⟨by constructor <;> decide, by decide, by decide, by decide⟩
    | (refine T.bind (F144_t K _) fun r hr => F161_r fun g hg => T.ret ⟨?_, hg⟩; dsimp only at *; (((try (simp (disch := omega) only [w64_id, w64u_id, tmE, tdE])); first | omega | done)))
theorem F116_t (K : Nat) (op a b f : Int) (ha : 0 ≤ a ∧ a ≤ 255) (hb : 0 ≤ b ∧ b ≤ 255) (hf : 0 ≤ f ∧ f ≤ 255) : T (F116 K (op, a, b, f)) fun r => (0 ≤ r.1 ∧ r.1 ≤ 255) ∧ 0 ≤ r.2 ∧ r.2 ≤ 255 ∧ r.2 % 16 = 0 := by
  have b1 := byte_bits .and (.inl rfl) a b ha.1 ha.2 hb.1 hb.2
  have b2 := byte_bits .or (.inr (.inl rfl)) a b ha.1 ha.2 hb.1 hb.2
  have b3 := byte_bits .xor (.inr (.inr (.inl rfl))) a b ha.1 ha.2 hb.1 hb.2
  unfold F116
  refine T.bind (S := fun x => x.1 = op ∧ x.2.1 = a ∧ x.2.2.1 = b ∧ 0 ≤ x.2.2.2 ∧ x.2.2.2 ≤ 1) ?_ fun x hx => ?_
  · (repeat' (with_reducible first | apply T.bindbind | (apply F85_t <;> intro _) | (apply F84_t <;> intro _) | (apply T.bindbr <;> intro _) | apply T.binds | (apply T.br <;> intro _) | apply T.csl | apply T.csr | (apply F161_r; intro _ _)))
    all_goals first
      | contradiction
      | exact T.ret ⟨rfl, rfl, rfl, by dsimp only; omega, by dsimp only; omega⟩
      | exact F162_r hf fun c hc => T.ret ⟨rfl, rfl, rfl, hc.1, hc.2⟩
  · obtain ⟨x1, x2, x3, x4⟩ := x
    obtain ⟨rfl, rfl, rfl, hc0, hc1⟩ := hx
    (repeat' (with_reducible first | apply T.bindbind | (apply F85_t <;> intro _) | (apply F84_t <;> intro _) | (apply T.bindbr <;> intro _) | apply T.binds | (apply T.br <;> intro _) | apply T.csl | apply T.csr | (apply F161_r; intro _ _)))
    all_goals first
      | contradiction
      | (refine T.ret ⟨?_, by assumption⟩; dsimp only at *; first | assumption | (((try (simp (disch := omega) only [w64_id, w64u_id, tmE, tdE])); first | omega | done)))
theorem F170_t (K : Nat) (w : WT) (h : WInv w) (y : Int) : T (F170 K (y, w)) fun r => WInv r := by
  have ha := h.a
  have hf : 0 ≤ w.2.1 ∧ w.2.1 ≤ 255 := ⟨h.f.1, h.f.2.1⟩
  unfold F170
  dsimp only
  rw [F162_eq K w.2.1 hf.1 hf.2, bindO_s]
  refine T.br (fun _ => T.bind (F232_t K _ _) fun r hr => T.ret (h.set_af hr.1 hr.2)) fun _ => ?_
  refine T.br (fun _ => ?_) fun _ => ?_
  · rw [F161_eq]
    refine T.binds (T.ret (h.set_af ?_ (flagsOf_ok _ _ _ _)))
    (((try (simp (disch := omega) only [w64_id, w64u_id, tmE, tdE])); first | omega | done))
  refine T.br (fun _ => ?_) fun _ => ?_
  · rw [F161_eq]
    exact T.binds (T.ret (h.set_f (flagsOf_ok _ _ _ _)))
  refine T.br (fun _ => ?_) fun _ => ?_
  · rw [F161_eq]
    exact T.binds (T.ret (h.set_f (flagsOf_ok _ _ _ _)))
  refine T.bind (F160_t K _ _ _ ha hf) fun r hr => ?_
  rw [F162_eq K r.2 hr.2.1 hr.2.2.1, bindO_s, F161_eq]
  exact T.binds (T.ret (h.set_af hr.1 (flagsOf_ok _ _ _ _)))
theorem F171_t (K : Nat) (w : WT) (h : WInv w) : T (F171 K w) fun r => (0 ≤ r.1 ∧ r.1 ≤ 65535) ∧ WInv r.2 := by
  have h1 := h.sp
  unfold F171
  have e : 0 ≤ Int.tmod (w64 (w.2.2.2.2.2.2.2.2.1 + 2)) 65536 ∧ Int.tmod (w64 (w.2.2.2.2.2.2.2.2.1 + 2)) 65536 ≤ 65535 := by (((try (simp (disch := omega) only [w64_id, w64u_id, tmE, tdE])); first | omega | done))
  refine T.bind (F138_t K _ (h.set_sp e) _ h1.1) fun r hr => T.bind (F138_t K _ (h.set_sp e) _ (by (((try (simp (disch := omega) only [w64_id, w64u_id, tmE, tdE])); first | omega | done)))) fun r2 hr2 => T.ret ⟨?_, h.set_sp e⟩
  dsimp only
  (((try (simp (disch := omega) only [w64_id, w64u_id, tmE, tdE])); first | omega | done))
theorem F173_t (K : Nat) (w : WT) (h : WInv w) (v : Int) (hv : 0 ≤ v ∧ v ≤ 65535) : T (F173 K (v, w)) fun r => WInv r := by
  have h1 := h.sp
  unfold F173
  refine T.bind (F163_t K w h _ _ (by (((try (simp (disch := omega) only [w64_id, w64u_id, tmE, tdE])); first | omega | done))) (by dsimp only; (((try (simp (disch := omega) only [w64_id, w64u_id, tmE, tdE])); first | omega | done)))) fun r hr => T.bind (F163_t K r hr _ _ (by (((try (simp (disch := omega) only [w64_id, w64u_id, tmE, tdE])); first | omega | done))) (by dsimp only; (((try (simp (disch := omega) only [w64_id, w64u_id, tmE, tdE])); first | omega | done)))) fun r2 hr2 => T.ret (hr2.set_sp ?_)
  dsimp only
  (((try (simp (disch := omega) only [w64_id, w64u_id, tmE, tdE])); first | omega | done))
theorem F174_t (K : Nat) (w : WT) (h : WInv w) (v : Int) (hv : 0 ≤ v ∧ v ≤ 65535) : T (F174 K (v, w)) fun r => WInv r := by
  unfold F174
  exact T.bind (F173_t K w h _ h.pc) fun r hr => T.ret (hr.set_pc hv)
end Go.U.Tryz
namespace Go.U.Tryz
open Go Go.U
set_option maxRecDepth 20000
def lenChk (k : Nat) (cb : Bool) (c : Nat) : Bool := match F196 (k + 40) ((c : Int), cb) with
  | some n => decide (0 ≤ n) && decide (n ≤ 3) && (cb || (decide (c % 8 ≠ 6) || decide (n ≤ 2)))
  | none => false
theorem lenAll (k : Nat) (cb : Bool) : (List.range 256).all (lenChk k cb) = true := by
  cases cb
  · kernel_rfl
  · kernel_rfl
def cycChk (k : Nat) (cb tk : Bool) (c : Nat) : Bool := match F118 (k + 40) ((c : Int), cb, tk) with
  | some n => decide (0 ≤ n) && decide (n ≤ 6)
  | none => false
theorem cycAll (k : Nat) (cb tk : Bool) : (List.range 256).all (cycChk k cb tk) = true := by
  cases cb <;> cases tk
  · kernel_rfl
  · kernel_rfl
  · kernel_rfl
  · kernel_rfl
theorem F196_t (k : Nat) (c : Int) (cb : Bool) (hc : 0 ≤ c ∧ c ≤ 255) : T (F196 (k + 40) (c, cb)) fun n => 0 ≤ n ∧ n ≤ 3 ∧ (cb = false → c % 8 = 6 → n ≤ 2) := by
  obtain ⟨m, rfl⟩ : ∃ m : Nat, c = (m : Int) := ⟨c.toNat, by omega⟩
  have h := List.all_eq_true.1 (lenAll k cb) m (List.mem_range.2 (by omega))
  unfold lenChk at h
  split at h
  · rename_i n hn
    simp only [Bool.and_eq_true, Bool.or_eq_true, decide_eq_true_eq] at h
    refine ⟨n, hn, h.1.1, h.1.2, fun e e2 => ?_⟩
    rcases h.2 with h | h | h
    · rw [e] at h; cases h
    · omega
    · exact h
  · cases h
theorem F118_t (k : Nat) (c : Int) (cb tk : Bool) (hc : 0 ≤ c ∧ c ≤ 255) : T (F118 (k + 40) (c, cb, tk)) fun n => 0 ≤ n ∧ n ≤ 6 := by
  obtain ⟨m, rfl⟩ : ∃ m : Nat, c = (m : Int) := ⟨c.toNat, by omega⟩
  have h := List.all_eq_true.1 (cycAll k cb tk) m (List.mem_range.2 (by omega))
  unfold cycChk at h
  split at h
  · rename_i n hn
    simp only [Bool.and_eq_true, decide_eq_true_eq] at h
    exact ⟨n, hn, h.1, h.2⟩
  · cases h
end Go.U.Tryz
namespace Go.U.Tryz
open Go Go.U
set_option maxRecDepth 20000
def InsRd (r : Int × Bool × Int × Int) : Prop := r.2.2.2 = 0 ∨ ((0 ≤ r.1 ∧ r.1 ≤ 255) ∧ (0 ≤ r.2.2.1 ∧ r.2.2.1 ≤ 65535) ∧ (1 ≤ r.2.2.2 ∧ r.2.2.2 ≤ 3) ∧ (r.2.1 = false → r.1 % 8 = 6 → r.2.2.1 ≤ 255))
theorem F195_t (K : Nat) (s : List UInt8) (i : Int) (h0 : 0 ≤ i) (h1 : i < (s.length : Int)) : T (F195 K (s, i)) fun r => 0 ≤ r ∧ r ≤ 255 := by
  unfold F195
  exact T.nth h0 h1 fun v _ _ => T.ret (byte_u8 v)
theorem F139_t (k : Nat) (s : List UInt8) (hs : s.length = 3) : T (F139 (k + 40) (s, 0)) InsRd := by
  have e3 : w64 ((s.length : Int) - 0) = 3 := by rw [hs]; rfl
  unfold F139
  dsimp only
  rw [e3]
  refine T.bind (S := fun v => v = .inr (s, 0, 3, 0, false, 0)) (by (repeat' (with_reducible first | apply T.bindbind | (apply F85_t <;> intro _) | (apply F84_t <;> intro _) | (apply T.bindbr <;> intro _) | apply T.binds | (apply T.br <;> intro _) | apply T.csl | apply T.csr | (apply F161_r; intro _ _))) <;> first | contradiction | exact T.ret rfl | simp_all) ?_
  rintro _ rfl
  refine T.csr (T.bind (F195_t _ s 0 (by decide) (by omega)) fun c hc => ?_)
  refine T.br (fun _ => T.br (fun g => absurd (of_decide_eq_true g) (by dsimp only; decide)) fun _ => ?_) fun _ => ?_
  · refine T.bind (F195_t _ s _ (by dsimp only; decide) (by show w64 (0 + 1) < _; rw [hs]; decide)) fun c2 hc2 => T.ret (.inr ⟨hc2, ⟨Int.le_refl 0, by dsimp only; omega⟩, ⟨by dsimp only; omega, by dsimp only; omega⟩, fun e => by cases e⟩)
  · refine T.bind (F196_t k c false hc) fun n hn => ?_
    refine T.bind (S := fun v => (v = .inl (0, false, 0, 0)) ∨ (v = .inr (s, 0, n, c, false, 0, 0, false, 0) ∧ ¬ n = 0)) ?_ ?_
    · refine T.bindbr (fun g => T.binds (T.br (fun _ => T.ret (.inl rfl)) nofun)) fun g => T.binds (T.br (fun _ => T.ret (.inl rfl)) fun _ => T.ret (.inr ⟨rfl, of_decide_eq_false g⟩))
    · rintro _ (rfl | ⟨rfl, hn0⟩)
      · exact T.csl (T.ret (.inl rfl))
      · refine T.csr (T.bind (S := fun v => ∃ i, v = (s, 0, n, c, false, i, 0, false, 0) ∧ 0 ≤ i ∧ i ≤ 255 ∧ (¬ 1 < n → i = 0)) ?_ ?_)
        · refine T.br (fun g => T.bind (F195_t _ s _ (by dsimp only; decide) (by show w64 (0 + 1) < _; rw [hs]; decide)) fun i hi => T.ret ⟨i, rfl, hi.1, hi.2, fun e => absurd (of_decide_eq_true g) e⟩) fun g => T.ret ⟨0, rfl, by decide, by decide, fun _ => rfl⟩
        · rintro _ ⟨i, rfl, hi0, hi1, _⟩
          refine T.br (fun g => ?_) fun g => T.ret (.inr ⟨hc, by dsimp only; omega, by dsimp only; omega, fun _ _ => by dsimp only; omega⟩)
          have g' : 2 < n := of_decide_eq_true g
          refine T.bind (F195_t _ s _ (by dsimp only; decide) (by show w64 (0 + 2) < _; rw [hs]; decide)) fun i2 hi2 => T.ret (.inr ⟨hc, ?_, by dsimp only; omega, fun e e2 => ?_⟩)
          · dsimp only; (((try (simp (disch := omega) only [w64_id, w64u_id, tmE, tdE])); first | omega | done))
          · have := hn.2.2 rfl e2; omega
abbrev MT := Int × Int × Int × Int × Int × Int × Int × Int × Int × Int × Bool × Bool × List UInt8 × Int × Int × List UInt8 × Int × Bool × Int × List UInt8 × List UInt8 × List Int × Int
def MT.w (m : MT) : WT := (m.1, m.2.1, m.2.2.1, m.2.2.2.1, m.2.2.2.2.1, m.2.2.2.2.2.1, m.2.2.2.2.2.2.1, m.2.2.2.2.2.2.2.1, m.2.2.2.2.2.2.2.2.1, m.2.2.2.2.2.2.2.2.2.1, m.2.2.2.2.2.2.2.2.2.2.1, m.2.2.2.2.2.2.2.2.2.2.2.1, m.2.2.2.2.2.2.2.2.2.2.2.2.1, m.2.2.2.2.2.2.2.2.2.2.2.2.2.1, m.2.2.2.2.2.2.2.2.2.2.2.2.2.2.1, m.2.2.2.2.2.2.2.2.2.2.2.2.2.2.2.1, m.2.2.2.2.2.2.2.2.2.2.2.2.2.2.2.2.1, m.2.2.2.2.2.2.2.2.2.2.2.2.2.2.2.2.2.1, m.2.2.2.2.2.2.2.2.2.2.2.2.2.2.2.2.2.2.1, m.2.2.2.2.2.2.2.2.2.2.2.2.2.2.2.2.2.2.2.1, m.2.2.2.2.2.2.2.2.2.2.2.2.2.2.2.2.2.2.2.2.1, m.2.2.2.2.2.2.2.2.2.2.2.2.2.2.2.2.2.2.2.2.2.1, m.2.2.2.2.2.2.2.2.2.2.2.2.2.2.2.2.2.2.2.2.2.2, false)
def WT.m (w : WT) : MT := (w.1, w.2.1, w.2.2.1, w.2.2.2.1, w.2.2.2.2.1, w.2.2.2.2.2.1, w.2.2.2.2.2.2.1, w.2.2.2.2.2.2.2.1, w.2.2.2.2.2.2.2.2.1, w.2.2.2.2.2.2.2.2.2.1, w.2.2.2.2.2.2.2.2.2.2.1, w.2.2.2.2.2.2.2.2.2.2.2.1, w.2.2.2.2.2.2.2.2.2.2.2.2.1, w.2.2.2.2.2.2.2.2.2.2.2.2.2.1, w.2.2.2.2.2.2.2.2.2.2.2.2.2.2.1, w.2.2.2.2.2.2.2.2.2.2.2.2.2.2.2.1, w.2.2.2.2.2.2.2.2.2.2.2.2.2.2.2.2.1, w.2.2.2.2.2.2.2.2.2.2.2.2.2.2.2.2.2.1, w.2.2.2.2.2.2.2.2.2.2.2.2.2.2.2.2.2.2.1, w.2.2.2.2.2.2.2.2.2.2.2.2.2.2.2.2.2.2.2.1, w.2.2.2.2.2.2.2.2.2.2.2.2.2.2.2.2.2.2.2.2.1, w.2.2.2.2.2.2.2.2.2.2.2.2.2.2.2.2.2.2.2.2.2.1, w.2.2.2.2.2.2.2.2.2.2.2.2.2.2.2.2.2.2.2.2.2.2.1)
theorem F100_t (k : Nat) (m : MT) (h : WInv m.w) : T (F100 (k + 40) m) InsRd := by
  obtain ⟨b, h1, h2⟩ := iter_inv (f := F100_b0 (k + 40)) (fun a => 0 ≤ a.1 ∧ a.1 ≤ 3 ∧ (a.2.1.length : Int) = a.1 ∧ a.2.2.2.2.2 = m) (fun a => (3 - a.1).toNat) (fun b => b.1.length = 3) (fun a ⟨g0, g1, g2, g3⟩ => by
    obtain ⟨i, l, c0, c1, c2, mm⟩ := a
    simp only at g0 g1 g2 g3
    subst g3
    by_cases g : i < 3
    · have hp := h.pc
      change 0 ≤ mm.2.2.2.2.2.2.2.2.2.1 ∧ mm.2.2.2.2.2.2.2.2.2.1 ≤ 65535 at hp
      obtain ⟨v, e, hv⟩ := F138_t (k + 40) (MT.w mm) h (Int.tmod (w64 (mm.2.2.2.2.2.2.2.2.2.1 + i)) 65536) (Int.tmod_nonneg _ (by (((try (simp (disch := omega) only [w64_id, w64u_id, tmE, tdE])); first | omega | done))))
      have e1 : w64 (i + 1) = i + 1 := w64_id (by omega) (by omega)
      refine .inl ⟨(i + 1, l ++ [w8 v], c0, c1, c2, mm), ?_, ⟨by simp; omega, by simp; omega, by simp; omega, rfl⟩, by simp; omega⟩
      simp only [F100_b0, branch_ite, if_pos g]
      refine (congrArg (fun x => bindO x _) e).trans ?_
      have : fitN (l.length + [w8 v].length) 1 = true := by unfold fitN; exact decide_eq_true (by simp; omega)
      simp only [bindO_s, this, guard_t, e1]
    · exact .inr ⟨(l, c0, c1, c2), by simp only [F100_b0, branch_ite, if_neg g], by simp; omega⟩) (k + 40) (0, [], 0, false, 0, m) ⟨by simp, by simp, by simp, rfl⟩ (by show 3 < _; omega)
  unfold F100
  rw [h1]
  refine T.binds (T.bind (F139_t k _ (by rw [toB_length]; exact h2)) fun r hr => T.ret hr)
theorem shl_byte (y : Int) (h0 : 0 ≤ y) (h1 : y ≤ 7) : 0 ≤ shlI .i64 1 y ∧ shlI .i64 1 y ≤ 255 := by
  have : y = 0 ∨ y = 1 ∨ y = 2 ∨ y = 3 ∨ y = 4 ∨ y = 5 ∨ y = 6 ∨ y = 7 := by omega
  rcases this with rfl | rfl | rfl | rfl | rfl | rfl | rfl | rfl <;> decide
theorem F112_t (K : Nat) (w : WT) (h : WInv w) (c : Int) (cb : Bool) (imm : Int) (hc : 0 ≤ c ∧ c ≤ 255) : T (F112 K (c, cb, imm, w)) WInv := by
  have hf : 0 ≤ w.2.1 ∧ w.2.1 ≤ 255 := ⟨h.f.1, h.f.2.1⟩
  unfold F112
  dsimp only
  have hz : 0 ≤ Int.tmod c 8 ∧ Int.tmod c 8 ≤ 7 := by (((try (simp (disch := omega) only [w64_id, w64u_id, tmE, tdE])); first | omega | done))
  have hy : 0 ≤ w64u (Int.tmod (w64 (Int.tdiv c 8)) 8) ∧ w64u (Int.tmod (w64 (Int.tdiv c 8)) 8) ≤ 7 := by (((try (simp (disch := omega) only [w64_id, w64u_id, tmE, tdE])); first | omega | done))
  generalize w64u (Int.tmod (w64 (Int.tdiv c 8)) 8) = yu at hy ⊢
  have hs := shl_byte yu hy.1 hy.2
  refine T.bind (F115_t K w h _ hz) fun r hr => ?_
  refine T.guard (decide_eq_true hy.1) ?_
  refine T.br (fun _ => ?_) fun _ => T.br (fun _ => ?_) fun _ => T.br (fun _ => ?_) fun _ => ?_
  · refine T.bind (F160_t K _ _ _ hr.1 hf) fun r1 hr1 => T.bind (F114_t K w h _ _ hr1.1) fun r2 hr2 => T.ret (hr2.set_f hr1.2)
  · rw [F162_eq K _ hf.1 hf.2, bindO_s]
    exact F161_r fun g hg => T.ret (h.set_f hg)
  · exact T.bind (F114_t K w h _ _ (byte_bits .andNot (.inr (.inr (.inr rfl))) _ _ hr.1.1 hr.1.2 hs.1 hs.2)) fun r2 hr2 => T.ret hr2
  · exact T.bind (F114_t K w h _ _ (byte_bits .or (.inr (.inl rfl)) _ _ hr.1.1 hr.1.2 hs.1 hs.2)) fun r2 hr2 => T.ret hr2
theorem F113_t (K : Nat) (w : WT) (h : WInv w) (c : Int) (cb : Bool) (imm : Int) (hc : 0 ≤ c ∧ c ≤ 63) (hi : 0 ≤ imm ∧ imm ≤ 65535) (h6 : c % 8 = 6 → imm ≤ 255) : T (F113 K (c, cb, imm, w)) fun r => WInv r.2 := by
  have hsp := h.sp
  have hpc := h.pc
  unfold F113
  dsimp only
  have hz : 0 ≤ Int.tmod c 8 ∧ Int.tmod c 8 ≤ 7 ∧ (Int.tmod c 8 = 6 → imm ≤ 255) := ⟨by (((try (simp (disch := omega) only [w64_id, w64u_id, tmE, tdE])); first | omega | done)), by (((try (simp (disch := omega) only [w64_id, w64u_id, tmE, tdE])); first | omega | done)), fun e => h6 (by rw [← tmE hc.1]; exact e)⟩
  have hy : 0 ≤ w64 (Int.tdiv c 8) ∧ w64 (Int.tdiv c 8) ≤ 7 := by (((try (simp (disch := omega) only [w64_id, w64u_id, tmE, tdE])); first | omega | done))
  generalize w64 (Int.tdiv c 8) = y at hy ⊢
  generalize Int.tmod c 8 = z at hz ⊢
  have hp : 0 ≤ w64 (Int.tdiv y 2) ∧ w64 (Int.tdiv y 2) ≤ 3 := by (((try (simp (disch := omega) only [w64_id, w64u_id, tmE, tdE])); first | omega | done))
  generalize w64 (Int.tdiv y 2) = p at hp ⊢
  refine T.bind (S := fun v => ∃ b, v = (y, z, p, b, c, cb, imm, w)) (by (repeat' (with_reducible first | apply T.bindbind | (apply F85_t <;> intro _) | (apply F84_t <;> intro _) | (apply T.bindbr <;> intro _) | apply T.binds | (apply T.br <;> intro _) | apply T.csl | apply T.csr | (apply F161_r; intro _ _))) <;> exact T.ret ⟨_, rfl⟩) ?_
  rintro _ ⟨b0, rfl⟩
  refine T.br (fun _ => ?_) fun _ => ?_
  · refine T.bind (F163_t K w h _ _ hi.1 (by (first | (dsimp only; (((try (simp (disch := omega) only [w64_id, w64u_id, tmE, tdE])); first | omega | done))) | (((try (simp (disch := omega) only [w64_id, w64u_id, tmE, tdE])); first | omega | done))))) fun r hr => ?_
    have hsp2 := hr.sp
    exact T.bind (F163_t K r hr _ _ (by (first | (dsimp only; (((try (simp (disch := omega) only [w64_id, w64u_id, tmE, tdE])); first | omega | done))) | (((try (simp (disch := omega) only [w64_id, w64u_id, tmE, tdE])); first | omega | done)))) (by (first | (dsimp only; (((try (simp (disch := omega) only [w64_id, w64u_id, tmE, tdE])); first | omega | done))) | (((try (simp (disch := omega) only [w64_id, w64u_id, tmE, tdE])); first | omega | done))))) fun r2 hr2 => T.ret hr2
  refine T.bind (S := fun v => ∃ b, v = (y, z, p, b, c, cb, imm, w)) ?_ ?_
  · refine T.bind (S := fun v => ∃ b, v = (y, z, p, b, c, cb, imm, w)) (by (repeat' (with_reducible first | apply T.bindbind | (apply F85_t <;> intro _) | (apply F84_t <;> intro _) | (apply T.bindbr <;> intro _) | apply T.binds | (apply T.br <;> intro _) | apply T.csl | apply T.csr | (apply F161_r; intro _ _))) <;> exact T.ret ⟨_, rfl⟩) ?_
    rintro _ ⟨b1, rfl⟩
    refine T.br (fun _ => T.ret ⟨_, rfl⟩) fun _ => T.br (fun _ => T.br (fun _ => T.bind (F164_t K w _) fun r hr => T.ret ⟨_, rfl⟩) fun _ => T.ret ⟨_, rfl⟩) fun _ => T.ret ⟨_, rfl⟩
  rintro _ ⟨b2, rfl⟩
  refine T.br (fun _ => ?_) fun _ => ?_
  · refine T.bind (F144_t K _) fun r hr => T.ret (h.set_pc ?_)
    dsimp only
    (((try (simp (disch := omega) only [w64_id, w64u_id, tmE, tdE])); first | omega | done))
  refine T.bind (S := fun v => ∃ b, v = (y, z, p, b, c, cb, imm, w)) (by (repeat' (with_reducible first | apply T.bindbind | (apply F85_t <;> intro _) | (apply F84_t <;> intro _) | (apply T.bindbr <;> intro _) | apply T.binds | (apply T.br <;> intro _) | apply T.csl | apply T.csr | (apply F161_r; intro _ _))) <;> exact T.ret ⟨_, rfl⟩) ?_
  rintro _ ⟨b3, rfl⟩
  refine T.br (fun _ => T.bind (F165_t K w h _ _ _ hi) fun r hr => T.ret hr) fun _ => ?_
  refine T.br (fun _ => ?_) fun _ => ?_
  · rw [F167_eq K w h, bindO_s]
    refine T.bind (F168_t K w h _ _ hp.1) fun r hr => T.bind (F166_t K _ _ _) fun r2 hr2 => T.bind (F165_t K w h _ _ _ hr2.1) fun r3 hr3 => T.ret (hr3.set_f hr2.2)
  refine T.br (fun _ => ?_) fun _ => ?_
  · refine T.bind (F168_t K w h _ _ (by dsimp only; unfold mnI; split <;> omega)) fun r hr => ?_
    refine T.bind (S := fun v => ∃ w2 : WT, v = (p, r.1, w2) ∧ WInv w2) ?_ ?_
    · refine T.br (fun _ => T.bind (F163_t K w h _ _ hr.1.1 h.a) fun r2 hr2 => T.ret ⟨_, rfl, hr2⟩) fun _ => T.bind (F138_t K w h _ hr.1.1) fun r2 hr2 => T.ret ⟨_, rfl, h.set_a hr2⟩
    · rintro _ ⟨w2, rfl, hw2⟩
      refine T.br (fun g => ?_) fun _ => T.ret hw2
      have g' : 1 < p := of_decide_eq_true g
      have e : w64 (p - 2) = p - 2 := w64_id (by omega) (by omega)
      dsimp only
      rw [e]
      refine T.guard (decide_eq_true ⟨by omega, by omega⟩) (T.nthN (by simp; omega) fun v hv _ => ?_)
      have hv' : v = 1 ∨ v = 65535 := by simpa using hv
      have hr1 := hr.1
      exact T.bind (F165_t K w2 hw2 _ _ _ (by rcases hv' with rfl | rfl <;> (((try (simp (disch := omega) only [w64_id, w64u_id, tmE, tdE])); first | omega | done)))) fun r3 hr3 => T.ret hr3
  refine T.br (fun _ => ?_) fun _ => ?_
  · refine T.bind (F168_t K w h _ _ hp.1) fun r hr => T.nth (by (first | (dsimp only; (((try (simp (disch := omega) only [w64_id, w64u_id, tmE, tdE])); first | omega | done))) | (((try (simp (disch := omega) only [w64_id, w64u_id, tmE, tdE])); first | omega | done)))) (by show Int.tmod y 2 < 2; (((try (simp (disch := omega) only [w64_id, w64u_id, tmE, tdE])); first | omega | done))) fun v hv _ => ?_
    have hv' : v = 1 ∨ v = 65535 := by simpa using hv
    have hr1 := hr.1
    exact T.bind (F165_t K w h _ _ _ (by rcases hv' with rfl | rfl <;> (((try (simp (disch := omega) only [w64_id, w64u_id, tmE, tdE])); first | omega | done)))) fun r3 hr3 => T.ret hr3
  refine T.bind (S := fun v => ∃ b, v = (y, z, b, c, cb, imm, w)) (by (repeat' (with_reducible first | apply T.bindbind | (apply F85_t <;> intro _) | (apply F84_t <;> intro _) | (apply T.bindbr <;> intro _) | apply T.binds | (apply T.br <;> intro _) | apply T.csl | apply T.csr | (apply F161_r; intro _ _))) <;> exact T.ret ⟨_, rfl⟩) ?_
  rintro _ ⟨b4, rfl⟩
  refine T.br (fun _ => ?_) fun _ => ?_
  · refine T.bind (F115_t K w h _ hy) fun r hr => T.bind (F169_t K _ _ _) fun r2 hr2 => T.bind (F114_t K w h _ _ hr2.1) fun r3 hr3 => T.ret (hr3.set_f hr2.2)
  refine T.br (fun g => ?_) fun _ => ?_
  · exact T.bind (F114_t K w h _ _ ⟨hi.1, hz.2.2 (of_decide_eq_true g)⟩) fun r hr => T.ret hr
  refine T.br (fun g => ?_) fun _ => T.ret h
  exact T.bind (F170_t K w h _) fun r hr => T.ret hr
end Go.U.Tryz
namespace Go.U.Tryz
open Go Go.U
set_option maxRecDepth 20000
set_option maxHeartbeats 2000000
theorem F117_t (K : Nat) (w : WT) (h : WInv w) (c : Int) (cb : Bool) (imm : Int) (hc : 0 ≤ c ∧ c ≤ 255) (hi : 0 ≤ imm ∧ imm ≤ 65535) (h6 : c % 8 = 6 → imm ≤ 255) : T (F117 K (c, cb, imm, w)) fun r => WInv r.2 := by
  have hsp := h.sp
  have hpc := h.pc
  have hcc := h.c
  have hh := h.h
  have hl := h.l
  unfold F117
  dsimp only
  have hz : 0 ≤ Int.tmod c 8 ∧ Int.tmod c 8 ≤ 7 ∧ (Int.tmod c 8 = 6 → imm ≤ 255) := ⟨by (((try (simp (disch := omega) only [w64_id, w64u_id, tmE, tdE])); first | omega | done)), by (((try (simp (disch := omega) only [w64_id, w64u_id, tmE, tdE])); first | omega | done)), fun e => h6 (by rw [← tmE hc.1]; exact e)⟩
  have hy : 0 ≤ Int.tmod (w64 (Int.tdiv c 8)) 8 ∧ Int.tmod (w64 (Int.tdiv c 8)) 8 ≤ 7 := by (((try (simp (disch := omega) only [w64_id, w64u_id, tmE, tdE])); first | omega | done))
  generalize Int.tmod (w64 (Int.tdiv c 8)) 8 = y at hy ⊢
  generalize Int.tmod c 8 = z at hz ⊢
  have hp : 0 ≤ w64 (Int.tdiv y 2) ∧ w64 (Int.tdiv y 2) ≤ 3 := by (((try (simp (disch := omega) only [w64_id, w64u_id, tmE, tdE])); first | omega | done))
  refine T.bind (S := fun v => ∃ b, v = (y, z, 65280, b, c, cb, imm, w)) ?_ ?_
  · refine T.bind (S := fun v => ∃ b, v = (y, z, 65280, b, c, cb, imm, w)) ?_ ?_
    · exact T.br (fun _ => T.br (fun _ => T.bind (F164_t K w _) fun r hr => T.ret ⟨_, rfl⟩) fun _ => T.ret ⟨_, rfl⟩) fun _ => T.ret ⟨_, rfl⟩
    · rintro _ ⟨b, rfl⟩
      exact T.br (fun _ => T.ret ⟨_, rfl⟩) fun _ => T.br (fun _ => T.ret ⟨_, rfl⟩) fun _ => T.ret ⟨_, rfl⟩
  rintro _ ⟨b0, rfl⟩
  refine T.br (fun _ => T.bind (F171_t K w h) fun r hr => T.br (fun _ => T.ret ((hr.2.set_pc hr.1).set_ime true)) fun _ => T.ret ((hr.2.set_pc hr.1).set_ime _)) fun _ => ?_
  refine T.br (fun _ => T.bind (F163_t K w h _ _ (by (first | (dsimp only; (((try (simp (disch := omega) only [w64_id, w64u_id, tmE, tdE])); first | omega | done))) | (((try (simp (disch := omega) only [w64_id, w64u_id, tmE, tdE])); first | omega | done)))) h.a) fun r hr => T.ret hr) fun _ => ?_
  refine T.br (fun _ => T.bind (F163_t K w h _ _ (by (first | (dsimp only; (((try (simp (disch := omega) only [w64_id, w64u_id, tmE, tdE])); first | omega | done))) | (((try (simp (disch := omega) only [w64_id, w64u_id, tmE, tdE])); first | omega | done)))) h.a) fun r hr => T.ret hr) fun _ => ?_
  refine T.br (fun _ => T.bind (F138_t K w h _ (by (first | (dsimp only; (((try (simp (disch := omega) only [w64_id, w64u_id, tmE, tdE])); first | omega | done))) | (((try (simp (disch := omega) only [w64_id, w64u_id, tmE, tdE])); first | omega | done))))) fun r hr => T.ret (h.set_a hr)) fun _ => ?_
  refine T.br (fun _ => T.bind (F138_t K w h _ (by (first | (dsimp only; (((try (simp (disch := omega) only [w64_id, w64u_id, tmE, tdE])); first | omega | done))) | (((try (simp (disch := omega) only [w64_id, w64u_id, tmE, tdE])); first | omega | done))))) fun r hr => T.ret (h.set_a hr)) fun _ => ?_
  refine T.br (fun _ => T.bind (F163_t K w h _ _ hi.1 h.a) fun r hr => T.ret hr) fun _ => ?_
  refine T.br (fun _ => T.bind (F138_t K w h _ hi.1) fun r hr => T.ret (h.set_a hr)) fun _ => ?_
  refine T.br (fun _ => T.bind (F172_t K _ _) fun r hr => T.ret ((h.set_f hr.2).set_sp hr.1)) fun _ => ?_
  refine T.br (fun _ => T.bind (F172_t K _ _) fun r hr => T.bind (F165_t K w h _ _ _ hr.1) fun r2 hr2 => T.ret (hr2.set_f hr.2)) fun _ => ?_
  refine T.br (fun _ => ?_) fun _ => ?_
  · rw [F167_eq K w h]
    exact T.binds (T.ret (h.set_sp (by (first | (dsimp only; (((try (simp (disch := omega) only [w64_id, w64u_id, tmE, tdE])); first | omega | done))) | (((try (simp (disch := omega) only [w64_id, w64u_id, tmE, tdE])); first | omega | done))))))
  refine T.br (fun _ => ?_) fun _ => ?_
  · rw [F167_eq K w h]
    exact T.binds (T.ret (h.set_pc (by (first | (dsimp only; (((try (simp (disch := omega) only [w64_id, w64u_id, tmE, tdE])); first | omega | done))) | (((try (simp (disch := omega) only [w64_id, w64u_id, tmE, tdE])); first | omega | done))))))
  refine T.bind (S := fun v => ∃ b, v = (y, z, b, c, cb, imm, w)) (by (repeat' (with_reducible first | apply T.bindbind | (apply F85_t <;> intro _) | (apply F84_t <;> intro _) | (apply T.bindbr <;> intro _) | apply T.binds | (apply T.br <;> intro _) | apply T.csl | apply T.csr | (apply F161_r; intro _ _))) <;> exact T.ret ⟨_, rfl⟩) ?_
  rintro _ ⟨b1, rfl⟩
  refine T.br (fun _ => T.bind (F171_t K w h) fun r hr => T.bind (F165_t K r.2 hr.2 _ _ _ hr.1) fun r2 hr2 => T.ret hr2) fun _ => ?_
  refine T.bind (S := fun v => ∃ b, v = (y, z, b, c, cb, imm, w)) (by (repeat' (with_reducible first | apply T.bindbind | (apply F85_t <;> intro _) | (apply F84_t <;> intro _) | (apply T.bindbr <;> intro _) | apply T.binds | (apply T.br <;> intro _) | apply T.csl | apply T.csr | (apply F161_r; intro _ _))) <;> exact T.ret ⟨_, rfl⟩) ?_
  rintro _ ⟨b2, rfl⟩
  refine T.br (fun _ => T.bind (F168_t K w h _ _ hp.1) fun r hr => T.bind (F173_t K w h _ hr.1) fun r2 hr2 => T.ret hr2) fun _ => ?_
  refine T.bind (S := fun v => ∃ b, v = (y, z, b, c, cb, imm, w)) ?_ ?_
  · refine T.bind (S := fun v => ∃ b, v = (y, z, b, c, cb, imm, w)) ?_ ?_
    · exact T.br (fun _ => T.br (fun _ => T.bind (F164_t K w _) fun r hr => T.ret ⟨_, rfl⟩) fun _ => T.ret ⟨_, rfl⟩) fun _ => T.ret ⟨_, rfl⟩
    · rintro _ ⟨b, rfl⟩
      exact T.br (fun _ => T.ret ⟨_, rfl⟩) fun _ => T.ret ⟨_, rfl⟩
  rintro _ ⟨b3, rfl⟩
  refine T.br (fun _ => T.ret (h.set_pc hi)) fun _ => ?_
  refine T.bind (S := fun v => ∃ b, v = (y, z, b, c, cb, imm, w)) (by (repeat' (with_reducible first | apply T.bindbind | (apply F85_t <;> intro _) | (apply F84_t <;> intro _) | (apply T.bindbr <;> intro _) | apply T.binds | (apply T.br <;> intro _) | apply T.csl | apply T.csr | (apply F161_r; intro _ _))) <;> exact T.ret ⟨_, rfl⟩) ?_
  rintro _ ⟨b4, rfl⟩
  refine T.br (fun _ => T.ret (h.set_ime _)) fun _ => ?_
  refine T.bind (S := fun v => ∃ b, v = (y, z, b, c, cb, imm, w)) ?_ ?_
  · refine T.bind (S := fun v => ∃ b, v = (y, z, b, c, cb, imm, w)) ?_ ?_
    · exact T.br (fun _ => T.bind (F164_t K w _) fun r hr => T.ret ⟨_, rfl⟩) fun _ => T.ret ⟨_, rfl⟩
    · rintro _ ⟨b, rfl⟩
      exact T.br (fun _ => T.ret ⟨_, rfl⟩) fun _ => T.ret ⟨_, rfl⟩
  rintro _ ⟨b5, rfl⟩
  refine T.br (fun _ => T.bind (F174_t K w h _ hi) fun r hr => T.ret hr) fun _ => ?_
  refine T.br (fun g => ?_) fun _ => ?_
  · have g' : z = 6 := of_decide_eq_true g
    exact T.bind (F116_t K _ _ _ _ h.a ⟨hi.1, hz.2.2 g'⟩ ⟨h.f.1, h.f.2.1⟩) fun r hr => T.ret (h.set_af hr.1 hr.2)
  refine T.br (fun _ => T.bind (F174_t K w h _ (by (first | (dsimp only; (((try (simp (disch := omega) only [w64_id, w64u_id, tmE, tdE])); first | omega | done))) | (((try (simp (disch := omega) only [w64_id, w64u_id, tmE, tdE])); first | omega | done))))) fun r hr => T.ret hr) fun _ => T.ret h
def MOut (r : Int × Int × Int × Int × Int × Int × Int × Int × Int × Int × Bool × Bool × List UInt8 × Int × Int × List UInt8 × Int × Bool × Int × List UInt8 × List UInt8 × List Int × Int × Int) : Prop := WInv (r.1, r.2.1, r.2.2.1, r.2.2.2.1, r.2.2.2.2.1, r.2.2.2.2.2.1, r.2.2.2.2.2.2.1, r.2.2.2.2.2.2.2.1, r.2.2.2.2.2.2.2.2.1, r.2.2.2.2.2.2.2.2.2.1, r.2.2.2.2.2.2.2.2.2.2.1, r.2.2.2.2.2.2.2.2.2.2.2.1, r.2.2.2.2.2.2.2.2.2.2.2.2.1, r.2.2.2.2.2.2.2.2.2.2.2.2.2.1, r.2.2.2.2.2.2.2.2.2.2.2.2.2.2.1, r.2.2.2.2.2.2.2.2.2.2.2.2.2.2.2.1, r.2.2.2.2.2.2.2.2.2.2.2.2.2.2.2.2.1, r.2.2.2.2.2.2.2.2.2.2.2.2.2.2.2.2.2.1, r.2.2.2.2.2.2.2.2.2.2.2.2.2.2.2.2.2.2.1, r.2.2.2.2.2.2.2.2.2.2.2.2.2.2.2.2.2.2.2.1, r.2.2.2.2.2.2.2.2.2.2.2.2.2.2.2.2.2.2.2.2.1, r.2.2.2.2.2.2.2.2.2.2.2.2.2.2.2.2.2.2.2.2.2.1, r.2.2.2.2.2.2.2.2.2.2.2.2.2.2.2.2.2.2.2.2.2.2.1, false) ∧ 0 ≤ r.2.2.2.2.2.2.2.2.2.2.2.2.2.2.2.2.2.2.2.2.2.2.2 ∧ r.2.2.2.2.2.2.2.2.2.2.2.2.2.2.2.2.2.2.2.2.2.2.2 ≤ 4
theorem F89_eq (K : Nat) (m : MT) (h : m.2.2.2.2.2.2.2.2.2.2.2.2.2.2.2.2.2.2.2.2.2.1.length ≤ 100) : F89 K m = some m := by
  unfold F89
  have : fitN (0 + m.2.2.2.2.2.2.2.2.2.2.2.2.2.2.2.2.2.2.2.2.2.1.length) 8 = true := by unfold fitN; exact decide_eq_true (by omega)
  rw [this]
  rfl
theorem F62_t (k : Nat) (m : MT) (h : WInv m.w) : T (F62 (k + 40) m) MOut := by
  have hout : m.2.2.2.2.2.2.2.2.2.2.2.2.2.2.2.2.2.2.2.2.2.1.length ≤ 100 := h.out.2
  have hpc : 0 ≤ m.2.2.2.2.2.2.2.2.2.1 ∧ m.2.2.2.2.2.2.2.2.2.1 ≤ 65535 := h.pc
  have hcy : 0 ≤ m.2.2.2.2.2.2.2.2.2.2.2.2.2.2.2.2.2.2.2.2.2.2 ∧ m.2.2.2.2.2.2.2.2.2.2.2.2.2.2.2.2.2.2.2.2.2.2 ≤ 1000000000 := h.cyc
  unfold F62
  refine T.br (fun _ => ?_) fun _ => ?_
  · rw [F89_eq _ m hout]
    exact T.binds (T.ret ⟨h, by dsimp only; omega, by dsimp only; omega⟩)
  refine T.bind (F100_t k m h) fun i hi => ?_
  refine T.br (fun _ => ?_) fun g => ?_
  · rw [F89_eq _ m hout]
    exact T.binds (T.ret ⟨h, by dsimp only; omega, by dsimp only; omega⟩)
  have g0 : ¬ i.2.2.2 = 0 := of_decide_eq_false g
  obtain ⟨hc, him, hn, h6⟩ : _ ∧ _ ∧ _ ∧ _ := hi.resolve_left g0
  have hp2 : 0 ≤ Int.tmod (w64 (m.2.2.2.2.2.2.2.2.2.1 + i.2.2.2)) 65536 ∧ Int.tmod (w64 (m.2.2.2.2.2.2.2.2.2.1 + i.2.2.2)) 65536 ≤ 65535 := by (((try (simp (disch := omega) only [w64_id, w64u_id, tmE, tdE])); first | omega | done))
  have h2 := h.set_pc hp2
  refine T.bind (S := fun v => WInv (v.2.1, v.2.2.1, v.2.2.2.1, v.2.2.2.2.1, v.2.2.2.2.2.1, v.2.2.2.2.2.2.1, v.2.2.2.2.2.2.2.1, v.2.2.2.2.2.2.2.2.1, v.2.2.2.2.2.2.2.2.2.1, v.2.2.2.2.2.2.2.2.2.2.1, v.2.2.2.2.2.2.2.2.2.2.2.1, v.2.2.2.2.2.2.2.2.2.2.2.2.1, v.2.2.2.2.2.2.2.2.2.2.2.2.2.1, v.2.2.2.2.2.2.2.2.2.2.2.2.2.2.1, v.2.2.2.2.2.2.2.2.2.2.2.2.2.2.2.1, v.2.2.2.2.2.2.2.2.2.2.2.2.2.2.2.2.1, v.2.2.2.2.2.2.2.2.2.2.2.2.2.2.2.2.2.1, v.2.2.2.2.2.2.2.2.2.2.2.2.2.2.2.2.2.2.1, v.2.2.2.2.2.2.2.2.2.2.2.2.2.2.2.2.2.2.2.1, v.2.2.2.2.2.2.2.2.2.2.2.2.2.2.2.2.2.2.2.2.1, v.2.2.2.2.2.2.2.2.2.2.2.2.2.2.2.2.2.2.2.2.2.1, v.2.2.2.2.2.2.2.2.2.2.2.2.2.2.2.2.2.2.2.2.2.2.1, v.2.2.2.2.2.2.2.2.2.2.2.2.2.2.2.2.2.2.2.2.2.2.2.1, v.2.2.2.2.2.2.2.2.2.2.2.2.2.2.2.2.2.2.2.2.2.2.2.2.1) ∧ v.2.2.2.2.2.2.2.2.2.2.2.2.2.2.2.2.2.2.2.2.2.2.2.2.2.1 = i.1 ∧ v.2.2.2.2.2.2.2.2.2.2.2.2.2.2.2.2.2.2.2.2.2.2.2.2.2.2.1 = i.2.1 ∧ v.2.2.2.2.2.2.2.2.2.2.2.2.2.2.2.2.2.2.2.2.2.2.2.2.2.2.2.2.2.2.2.2.2.2.2.2.2.2.2.2.2.2.2.2.2.2.2.2.2.2.2 = m) ?_ fun v10 hv10 => ?_
  · refine T.br (fun _ => T.bind (F112_t _ _ h2 _ _ _ hc) fun r hr => T.ret ⟨hr, rfl, rfl, rfl⟩) fun gcb => ?_
    refine T.br (fun g2 => T.bind (F113_t _ _ h2 _ _ _ ⟨hc.1, by have := of_decide_eq_true g2; omega⟩ him (h6 gcb)) fun r hr => T.ret ⟨hr, rfl, rfl, rfl⟩) fun _ => ?_
    refine T.br (fun _ => T.ret ⟨h2.set_halted true, rfl, rfl, rfl⟩) fun _ => ?_
    have hz : 0 ≤ Int.tmod i.1 8 ∧ Int.tmod i.1 8 ≤ 7 := by (((try (simp (disch := omega) only [w64_id, w64u_id, tmE, tdE])); first | omega | done))
    refine T.br (fun _ => T.bind (F115_t _ _ h2 _ hz) fun r hr => T.bind (F114_t _ _ h2 _ _ hr.1) fun r2 hr2 => T.ret ⟨hr2, rfl, rfl, rfl⟩) fun _ => ?_
    refine T.br (fun _ => T.bind (F115_t _ _ h2 _ hz) fun r hr => T.bind (F116_t _ _ _ _ _ h.a hr.1 ⟨h.f.1, h.f.2.1⟩) fun r2 hr2 => T.ret ⟨h2.set_af hr2.1 hr2.2, rfl, rfl, rfl⟩) fun _ => ?_
    exact T.bind (F117_t _ _ h2 _ _ _ hc him (h6 gcb)) fun r hr => T.ret ⟨hr, rfl, rfl, rfl⟩
  obtain ⟨hw, e1, e2, e3⟩ := hv10
  rw [e1, e2]
  refine T.bind (F118_t k _ _ _ hc) fun n hn6 => ?_
  have hcyc : w64 (m.2.2.2.2.2.2.2.2.2.2.2.2.2.2.2.2.2.2.2.2.2.2 + n) = m.2.2.2.2.2.2.2.2.2.2.2.2.2.2.2.2.2.2.2.2.2.2 + n := w64_id (by omega) (by omega)
  have e73 : v10.2.2.2.2.2.2.2.2.2.2.2.2.2.2.2.2.2.2.2.2.2.2.2.2.2.2.2.2.2.2.2.2.2.2.2.2.2.2.2.2.2.2.2.2.2.2.2.2.2.2.2.2.2.2.2.2.2.2.2.2.2.2.2.2.2.2.2.2.2.2.2.2.2 = m.2.2.2.2.2.2.2.2.2.2.2.2.2.2.2.2.2.2.2.2.2.2 := congrArg (fun m : MT => m.2.2.2.2.2.2.2.2.2.2.2.2.2.2.2.2.2.2.2.2.2.2) e3
  rw [e73, hcyc]
  refine T.bind (S := fun v => (∃ a, v = .inl a ∧ MOut a) ∨ (∃ b, v = .inr b ∧ WInv (b.1, b.2.1, b.2.2.1, b.2.2.2.1, b.2.2.2.2.1, b.2.2.2.2.2.1, b.2.2.2.2.2.2.1, b.2.2.2.2.2.2.2.1, b.2.2.2.2.2.2.2.2.1, b.2.2.2.2.2.2.2.2.2.1, b.2.2.2.2.2.2.2.2.2.2.1, b.2.2.2.2.2.2.2.2.2.2.2.1, b.2.2.2.2.2.2.2.2.2.2.2.2.1, b.2.2.2.2.2.2.2.2.2.2.2.2.2.1, b.2.2.2.2.2.2.2.2.2.2.2.2.2.2.1, b.2.2.2.2.2.2.2.2.2.2.2.2.2.2.2.1, b.2.2.2.2.2.2.2.2.2.2.2.2.2.2.2.2.1, b.2.2.2.2.2.2.2.2.2.2.2.2.2.2.2.2.2.1, b.2.2.2.2.2.2.2.2.2.2.2.2.2.2.2.2.2.2.1, b.2.2.2.2.2.2.2.2.2.2.2.2.2.2.2.2.2.2.2.1, b.2.2.2.2.2.2.2.2.2.2.2.2.2.2.2.2.2.2.2.2.1, b.2.2.2.2.2.2.2.2.2.2.2.2.2.2.2.2.2.2.2.2.2.1, b.2.2.2.2.2.2.2.2.2.2.2.2.2.2.2.2.2.2.2.2.2.2.1, false))) ?_ ?_
  · refine T.bind (S := fun v => WInv (v.2.1, v.2.2.1, v.2.2.2.1, v.2.2.2.2.1, v.2.2.2.2.2.1, v.2.2.2.2.2.2.1, v.2.2.2.2.2.2.2.1, v.2.2.2.2.2.2.2.2.1, v.2.2.2.2.2.2.2.2.2.1, v.2.2.2.2.2.2.2.2.2.2.1, v.2.2.2.2.2.2.2.2.2.2.2.1, v.2.2.2.2.2.2.2.2.2.2.2.2.1, v.2.2.2.2.2.2.2.2.2.2.2.2.2.1, v.2.2.2.2.2.2.2.2.2.2.2.2.2.2.1, v.2.2.2.2.2.2.2.2.2.2.2.2.2.2.2.1, v.2.2.2.2.2.2.2.2.2.2.2.2.2.2.2.2.1, v.2.2.2.2.2.2.2.2.2.2.2.2.2.2.2.2.2.1, v.2.2.2.2.2.2.2.2.2.2.2.2.2.2.2.2.2.2.1, v.2.2.2.2.2.2.2.2.2.2.2.2.2.2.2.2.2.2.2.1, v.2.2.2.2.2.2.2.2.2.2.2.2.2.2.2.2.2.2.2.2.1, v.2.2.2.2.2.2.2.2.2.2.2.2.2.2.2.2.2.2.2.2.2.1, v.2.2.2.2.2.2.2.2.2.2.2.2.2.2.2.2.2.2.2.2.2.2.1, 0, false) ∧ v.2.2.2.2.2.2.2.2.2.2.2.2.2.2.2.2.2.2.2.2.2.2.2.2.2.2.2.2.2.2.2.2.2.2.2.2.2.2.2.2.2.2.2.2.2.2.2.2 = m ∧ v.2.2.2.2.2.2.2.2.2.2.2.2.2.2.2.2.2.2.2.2.2.2.2.1 = m.2.2.2.2.2.2.2.2.2.2.2.2.2.2.2.2.2.2.2.2.2.2 + n ∧ (v.1 = false → m.2.2.2.2.2.2.2.2.2.2.2.2.2.2.2.2.2.2.2.2.2.2 + n ≤ 1000000000)) ?_ fun v12 hv12 => ?_
    · refine T.br (fun _ => T.ret ⟨hw.set_cyc ⟨Int.le_refl 0, by omega⟩ false, e3, rfl, fun e => by cases e⟩) fun _ => T.ret ⟨hw.set_cyc ⟨Int.le_refl 0, by omega⟩ false, e3, rfl, fun e => ?_⟩
      have := of_decide_eq_false e
      omega
    · obtain ⟨q1, q2, q3, q4⟩ := hv12
      refine T.br (fun _ => ?_) fun gq => ?_
      · dsimp only [q24, pr4, er4, pr5, er5, pr6, er6, pr7, pr8, pr9, pr10, pr11, pr12, pr13, pr14, er14, pr15, pr16, pr17, pr18, pr19, pr20, pr21, er21, pr22, er22, pr23, er23, pr24, er24]
        rw [q2, F89_eq _ m hout]
        exact T.binds (T.ret (.inl ⟨_, rfl, h, by dsimp only; omega, by dsimp only; omega⟩))
      · dsimp only [q24, pr4, er4, pr5, er5, pr6, er6, pr7, pr8, pr9, pr10, pr11, pr12, pr13, pr14, er14, pr15, pr16, pr17, pr18, pr19, pr20, pr21, er21, pr22, er22, pr23, er23, pr24, er24]
        rw [q3]
        exact T.ret (.inr ⟨_, rfl, q1.set_cyc ⟨by omega, q4 gq⟩ false⟩)
  · rintro _ (⟨a, rfl, ha⟩ | ⟨b, rfl, hb⟩)
    · exact T.csl (T.ret ha)
    · refine T.csr ?_
      exact T.eq (F89_eq _ (b.1, b.2.1, b.2.2.1, b.2.2.2.1, b.2.2.2.2.1, b.2.2.2.2.2.1, b.2.2.2.2.2.2.1, b.2.2.2.2.2.2.2.1, b.2.2.2.2.2.2.2.2.1, b.2.2.2.2.2.2.2.2.2.1, b.2.2.2.2.2.2.2.2.2.2.1, b.2.2.2.2.2.2.2.2.2.2.2.1, b.2.2.2.2.2.2.2.2.2.2.2.2.1, b.2.2.2.2.2.2.2.2.2.2.2.2.2.1, b.2.2.2.2.2.2.2.2.2.2.2.2.2.2.1, b.2.2.2.2.2.2.2.2.2.2.2.2.2.2.2.1, b.2.2.2.2.2.2.2.2.2.2.2.2.2.2.2.2.1, b.2.2.2.2.2.2.2.2.2.2.2.2.2.2.2.2.2.1, b.2.2.2.2.2.2.2.2.2.2.2.2.2.2.2.2.2.2.1, b.2.2.2.2.2.2.2.2.2.2.2.2.2.2.2.2.2.2.2.1, b.2.2.2.2.2.2.2.2.2.2.2.2.2.2.2.2.2.2.2.2.1, b.2.2.2.2.2.2.2.2.2.2.2.2.2.2.2.2.2.2.2.2.2.1, b.2.2.2.2.2.2.2.2.2.2.2.2.2.2.2.2.2.2.2.2.2.2.1) hb.out.2) (T.ret ⟨hb, by dsimp only; omega, by dsimp only; omega⟩)
theorem WInv.of {c0 c1 c2 c3 c4 c5 c6 c7 c8 c9 : Int} {b0 b1 : Bool} {rom : List UInt8} {k1 k2 : Int} {ram : List UInt8} {k3 : Int} {kb : Bool} {k4 : Int} {s1 s2 : List UInt8} {st : List Int} {n : Int} (h : mOk c0 c1 c2 c3 c4 c5 c6 c7 c8 c9 b0 b1 rom k1 k2 ram k3 kb k4 s1 s2 st n = true) (q : Bool) : WInv (c0, c1, c2, c3, c4, c5, c6, c7, c8, c9, b0, b1, rom, k1, k2, ram, k3, kb, k4, s1, s2, st, n, q) := by
  simp only [mOk, restOk, List.all_cons, List.all_nil, Bool.and_eq_true, Bool.and_true, byteB, inR, decide_eq_true_eq] at h
  obtain ⟨⟨⟨h0, h1, h2, h3, h4, h5, h6, h7⟩, hst⟩, ⟨⟨⟨⟨⟨⟨⟨hf, hsp⟩, hpc⟩, hca⟩, hwk⟩, hhi⟩, hle⟩, hcy⟩⟩ := h
  rw [tmE h1.1] at hf
  exact ⟨h0, ⟨h1.1, h1.2, hf⟩, h2, h3, h4, h5, h6, h7, hsp, hpc, CInv.of hca, by dsimp only; omega, by dsimp only; omega, ⟨hst, by dsimp only; omega⟩, hcy⟩
theorem WInv.mok {c0 c1 c2 c3 c4 c5 c6 c7 c8 c9 : Int} {b0 b1 : Bool} {rom : List UInt8} {k1 k2 : Int} {ram : List UInt8} {k3 : Int} {kb : Bool} {k4 : Int} {s1 s2 : List UInt8} {st : List Int} {n : Int} {q : Bool} (h : WInv (c0, c1, c2, c3, c4, c5, c6, c7, c8, c9, b0, b1, rom, k1, k2, ram, k3, kb, k4, s1, s2, st, n, q)) : mOk c0 c1 c2 c3 c4 c5 c6 c7 c8 c9 b0 b1 rom k1 k2 ram k3 kb k4 s1 s2 st n = true := by
  obtain ⟨h0, ⟨h1, h1', hf⟩, h2, h3, h4, h5, h6, h7, hsp, hpc, hca, hwk, hhi, ⟨hst, hle⟩, hcy⟩ := h
  dsimp only at *
  simp only [mOk, restOk, List.all_cons, List.all_nil, Bool.and_eq_true, Bool.and_true, byteB, inR, decide_eq_true_eq]
  exact ⟨⟨⟨h0, ⟨h1, h1'⟩, h2, h3, h4, h5, h6, h7⟩, hst⟩, ⟨⟨⟨⟨⟨⟨⟨by rw [tmE h1]; exact hf, hsp⟩, hpc⟩, hca.ok⟩, by omega⟩, by omega⟩, by omega⟩, hcy⟩⟩
end Go.U.Tryz
