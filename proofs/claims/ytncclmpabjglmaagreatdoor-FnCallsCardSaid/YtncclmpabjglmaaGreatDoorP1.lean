/- A part of the proof. No condition. -/
import Derived.Test.YtncclmpabjglmaaGreatDoorVMe
import Derived.Test.YtncclmpabjglmaaGreatDoorP0
import Derived.KernelRfl
set_option linter.unusedVariables false
set_option linter.unusedSimpArgs false
set_option linter.unusedSectionVars false
namespace Go.U.Tryz
open Go Go.U
set_option linter.unusedVariables false
set_option linter.unusedSimpArgs false
def inR (v lo hi : Int) : Bool := decide (lo ≤ v ∧ v ≤ hi)
theorem F87_eq (K : Nat) (v lo hi : Int) : F87 K (v, lo, hi) = some (inR v lo hi) := by
  simp only [F87, branch_ite, inR]
  split <;> simp_all <;> omega
theorem F54_eq (K : Nat) (v lo hi : Int) : F54 K (v, lo, hi) = some (inR v lo hi) := by
  simp only [F54, branch_ite, inR]
  split <;> simp_all <;> omega
theorem F80_eq (K : Nat) (v : Int) : F80 K v = some (inR v 0 255) := by simp only [F80, F54_eq, bindO_s]
theorem F63_eq (K : Nat) (v : Int) : F63 K v = some (inR v 0 65535) := by simp only [F63, F54_eq, bindO_s]
theorem F82_eq (K : Nat) (v : Int) : F82 K v = some (!inR v 0 255) := by simp only [F82, F80_eq, bindO_s]
def banks (rom : List UInt8) : Int := if rom.length % 256 = 0 ∧ 2 ≤ rom.length / 256 ∧ rom.length / 256 ≤ 16 then ((rom.length / 256 : Nat) : Int) else 0
theorem tdiv_nat (n : Nat) : Int.tdiv (n : Int) 256 = ((n / 256 : Nat) : Int) := by rw [Int.tdiv_eq_ediv_of_nonneg (by omega)]; omega
theorem tmod_nat (n : Nat) : Int.tmod (n : Int) 256 = ((n % 256 : Nat) : Int) := by rw [Int.tmod_eq_emod_of_nonneg (by omega)]; omega
theorem w64_len {rom : List UInt8} (h : rom.length ≤ maxLen) : w64 (Int.tdiv (rom.length : Int) 256) = ((rom.length / 256 : Nat) : Int) := by
  rw [tdiv_nat]; unfold maxLen at h; exact w64_id (by omega) (by omega)
theorem F127_eq (K : Nat) (rom : List UInt8) (h : rom.length ≤ maxLen) : F127 K rom = some (banks rom) := by
  simp only [F127, w64_len h, tmod_nat, F87_eq, bindO_s, branch_not, branch_ite, inR, banks]
  by_cases h1 : rom.length % 256 = 0
  · have e : ((rom.length % 256 : Nat) : Int) = 0 := by omega
    rw [if_pos e]
    simp only [bindO_s, branch_not, branch_ite]
    by_cases h2 : 2 ≤ rom.length / 256 ∧ rom.length / 256 ≤ 16
    · rw [if_pos (by omega), if_pos ⟨h1, h2⟩]
    · rw [if_neg (by omega), if_neg (by omega)]
  · have e : ¬ ((rom.length % 256 : Nat) : Int) = 0 := by omega
    rw [if_neg e, if_neg (by omega)]
    simp only [bindO_s, branch_t]
def cartKind (kind a b : Int) (c : Bool) (d : Int) : Bool :=
  if kind = 0 then decide (a = 1) && decide (b = 0) && !c && decide (d = 0)
  else if kind = 1 then inR a 1 31 && inR b 0 3 && inR d 0 1
  else if kind = 2 then inR a 0 255 && inR b 0 3 && decide (d = 0) else false
def cartOk (rom : List UInt8) (kind a : Int) (ram : List UInt8) (b : Int) (c : Bool) (d : Int) : Bool :=
  !decide (banks rom = 0) && decide (ram.length = 256) && cartKind kind a b c d
theorem F86_eq (K : Nat) (rom : List UInt8) (kind a : Int) (ram : List UInt8) (b : Int) (c : Bool) (d : Int) (h : rom.length ≤ maxLen) : F86 K (rom, kind, a, ram, b, c, d) = some (cartOk rom kind a ram b c d) := by
  simp only [F86, F127_eq K rom h, bindO_s, branch_ite, cartOk, F87_eq, cartKind, branch_not]
  by_cases h1 : banks rom = 0
  · simp [h1, bindO_s, branch_t, csO_l]
  · by_cases h2 : ram.length = 256
    · simp [h1, h2, bindO_s, branch_f, csO_r]
      by_cases k0 : kind = 0
      · simp [k0]; by_cases a1 : a = 1 <;> simp [a1]; by_cases b1 : b = 0 <;> simp [b1]; cases c <;> simp [branch_t, branch_f]
      · by_cases k1 : kind = 1
        · simp [k0, k1]; cases inR a 1 31 <;> simp [branch_t, branch_f]; cases inR b 0 3 <;> simp [branch_t, branch_f]
        · by_cases k2 : kind = 2
          · simp [k0, k1, k2]; cases inR a 0 255 <;> simp [branch_t, branch_f]; cases inR b 0 3 <;> simp [branch_t, branch_f]
          · simp [k0, k1, k2]
    · have : ¬ ((ram.length : Int) = 256) := by omega
      simp [h1, h2, this, bindO_s, branch_t, csO_l]
theorem F83_eq (K : Nat) (rom : List UInt8) (kind a : Int) (ram : List UInt8) (b : Int) (c : Bool) (d : Int) (h : rom.length ≤ maxLen) : F83 K (rom, kind, a, ram, b, c, d) = some (cartOk rom kind a ram b c d) := by
  simp only [F83, w64_len h, tmod_nat, bindO_s, branch_ite, cartOk, F54_eq, F80_eq, cartKind, branch_not]
  have hb : (banks rom = 0) ↔ ¬ (rom.length % 256 = 0 ∧ 2 ≤ rom.length / 256 ∧ rom.length / 256 ≤ 16) := by unfold banks; split <;> omega
  generalize rom.length / 256 = q at hb ⊢
  generalize rom.length % 256 = m at hb ⊢
  by_cases h0 : m = 0
  · have e : ((m : Nat) : Int) = 0 := by omega
    rw [if_pos e]
    by_cases h1 : 2 ≤ q ∧ q ≤ 16
    · have e1 : inR ((q : Nat) : Int) 2 16 = true := by simp [inR]; omega
      have e2 : ¬ banks rom = 0 := fun x => hb.1 x ⟨h0, h1⟩
      by_cases h2 : ram.length = 256
      · simp [e1, e2, h2, bindO_s, branch_f, branch_t, csO_r]
        by_cases k0 : kind = 0
        · simp [k0]; by_cases a1 : a = 1 <;> simp [a1]; by_cases b1 : b = 0 <;> simp [b1]; by_cases d1 : d = 0 <;> simp [d1]
        · by_cases k1 : kind = 1
          · simp [k0, k1]; cases inR a 1 31 <;> simp [branch_t, branch_f]; cases inR b 0 3 <;> simp [branch_t, branch_f]
          · by_cases k2 : kind = 2
            · simp [k0, k1, k2]; cases inR a 0 255 <;> simp [branch_t, branch_f]; cases inR b 0 3 <;> simp [branch_t, branch_f]
            · simp [k0, k1, k2]
      · have : ¬ ((ram.length : Int) = 256) := by omega
        simp [e1, e2, h2, this, bindO_s, branch_t, csO_l]
    · have e1 : inR ((q : Nat) : Int) 2 16 = false := by simp [inR]; omega
      have e2 : banks rom = 0 := hb.2 fun x => h1 x.2
      simp [e1, e2, bindO_s, branch_t, branch_f, csO_l]
  · have e : ¬ ((m : Nat) : Int) = 0 := by omega
    have e2 : banks rom = 0 := hb.2 fun x => h0 x.1
    rw [if_neg e]
    simp [e2, bindO_s, branch_t, csO_l]
def byteB (v : Int) : Bool := inR v 0 255
theorem F32_b0_loop (K : Nat) (xs : List Int) (hl : xs.length ≤ maxLen) (r : Int × Int × Int × Int × Int × Int × Int × Int × Int × Int × Bool × Bool × Int × Int × Int × Int × Int × Int × Int × Int × Int × Int × Bool × Bool × (List UInt8) × Int × Int × (List UInt8) × Int × Bool × Int × (List UInt8) × (List UInt8) × (List Int) × Int) (hK : xs.length < K) :
    iter K (F32_b0 K) ((xs.length : Int), 0, xs, r) = some (cond (xs.all byteB) (.inr r) (.inl false)) := by
  unfold maxLen at hl
  refine loop_all (f := F32_b0 K) (fun i => ((xs.length : Int), (i : Int), xs, r)) xs byteB (.inl false) (.inr r) (fun i v hv hi => ?_) ?_ K hK
  · have e1 : ((i : Int) < (xs.length : Int)) := by omega
    have e2 : (0 ≤ (i : Int) ∧ (i : Int) < (xs.length : Int)) := by omega
    have e3 : w64 ((i : Int) + 1) = ((i + 1 : Nat) : Int) := by rw [w64_id (by omega) (by omega)]; omega
    simp only [F32_b0, branch_ite, if_pos e1, guard_dec e2, Int.toNat_natCast, nthN_s hv, F80_eq, bindO_s, e3, byteB]
    cases inR v 0 255 <;> rfl
  · have e1 : ¬ ((xs.length : Int) < (xs.length : Int)) := by omega
    simp only [F32_b0, branch_ite, if_neg e1]
theorem F126_eq (K : Nat) (xs : List Int) (hl : xs.length ≤ maxLen) (hK : xs.length < K) : ∃ n, F126 K xs = some n ∧ decide (0 ≤ n) = !xs.all byteB := by
  unfold maxLen at hl
  obtain ⟨b, h1, h2⟩ := iter_inv (f := F126_b0 K) (fun a => ∃ i : Nat, i ≤ xs.length ∧ a = (xs, (xs.length : Int), (i : Int)) ∧ (xs.take i).all byteB = true) (fun a => xs.length - a.2.2.toNat)
    (fun b => match b with | .inl n => 0 ≤ n ∧ xs.all byteB = false | .inr _ => xs.all byteB = true) (fun a ⟨i, hi, ha, hall⟩ => by
      subst ha
      rcases Nat.lt_or_ge i xs.length with hlt | hge
      · have hv := List.getElem?_eq_getElem hlt
        have e1 : ((i : Int) < (xs.length : Int)) := by omega
        have e3 : w64 ((i : Int) + 1) = ((i + 1 : Nat) : Int) := by rw [w64_id (by omega) (by omega)]; omega
        simp only [F126_b0, branch_ite, if_pos e1, nth_s hv, F82_eq, bindO_s, e3]
        by_cases hb : inR xs[i] 0 255 = true
        · rw [hb]
          refine .inl ⟨_, rfl, ⟨i + 1, by omega, rfl, ?_⟩, by simp; omega⟩
          rw [List.take_succ_eq_append_getElem hlt, List.all_append, hall]
          simp [byteB, hb]
        · rw [Bool.eq_false_iff.2 hb]
          refine .inr ⟨_, rfl, ⟨by omega, ?_⟩⟩
          rw [Bool.eq_false_iff]
          intro hh
          rw [List.all_eq_true] at hh
          exact hb (hh _ (List.getElem_mem hlt))
      · have : i = xs.length := by omega
        subst this
        have e1 : ¬ ((xs.length : Int) < (xs.length : Int)) := by omega
        simp only [F126_b0, branch_ite, if_neg e1]
        refine .inr ⟨_, rfl, ?_⟩
        simpa using hall) K (xs, (xs.length : Int), 0) ⟨0, Nat.zero_le _, rfl, rfl⟩ (by simpa using hK)
  simp only [F126, h1, bindO_s]
  cases b with
  | inl n => exact ⟨n, rfl, by rw [h2.2, decide_eq_true h2.1]; rfl⟩
  | inr u => exact ⟨-1, rfl, by have h3 : xs.all byteB = true := h2; rw [h3]; rfl⟩
theorem F81_eq (K : Nat) (xs : List Int) (hl : xs.length ≤ maxLen) (hK : xs.length < K) : F81 K xs = some (!xs.all byteB) := by
  obtain ⟨n, h1, h2⟩ := F126_eq K xs hl hK
  simp only [F81, h1, bindO_s, h2]
def restOk (c0 c1 c2 c3 c4 c5 c6 c7 c8 c9 : Int) (b0 b1 : Bool) (rom : List UInt8) (k1 k2 : Int) (ram : List UInt8) (k3 : Int) (kb : Bool) (k4 : Int) (s1 s2 : List UInt8) (st : List Int) (n : Int) : Bool :=
  decide (Int.tmod c1 16 = 0) && inR c8 0 65535 && inR c9 0 65535 && cartOk rom k1 k2 ram k3 kb k4 && decide ((s1.length : Int) = 256) && decide ((s2.length : Int) = 127) && decide ((st.length : Int) ≤ 100) && inR n 0 1000000000
def mOk (c0 c1 c2 c3 c4 c5 c6 c7 c8 c9 : Int) (b0 b1 : Bool) (rom : List UInt8) (k1 k2 : Int) (ram : List UInt8) (k3 : Int) (kb : Bool) (k4 : Int) (s1 s2 : List UInt8) (st : List Int) (n : Int) : Bool := [c0, c1, c2, c3, c4, c5, c6, c7].all byteB && st.all byteB && restOk c0 c1 c2 c3 c4 c5 c6 c7 c8 c9 b0 b1 rom k1 k2 ram k3 kb k4 s1 s2 st n
theorem F32_eq (K : Nat) (c0 c1 c2 c3 c4 c5 c6 c7 c8 c9 : Int) (b0 b1 : Bool) (rom : List UInt8) (k1 k2 : Int) (ram : List UInt8) (k3 : Int) (kb : Bool) (k4 : Int) (s1 s2 : List UInt8) (st : List Int) (n : Int) (hr : rom.length ≤ maxLen) (hl : st.length ≤ maxLen) (hK : st.length + 8 < K) : F32 K (c0, c1, c2, c3, c4, c5, c6, c7, c8, c9, b0, b1, rom, k1, k2, ram, k3, kb, k4, s1, s2, st, n) = some (mOk c0 c1 c2 c3 c4 c5 c6 c7 c8 c9 b0 b1 rom k1 k2 ram k3 kb k4 s1 s2 st n) := by
  unfold F32 mOk
  rw [F32_b0_loop K _ (by simp [maxLen]) _ (by simp; omega)]
  cases h1 : [c0, c1, c2, c3, c4, c5, c6, c7].all byteB with
  | false => rfl
  | true =>
    simp only [cond, bindO_s, csO_r, F81_eq K st hl (by omega)]
    cases h2 : st.all byteB with
    | false => rfl
    | true =>
      simp only [Bool.not_true, branch_f, bindO_s, csO_r, F63_eq, F54_eq, F83_eq K rom k1 k2 ram k3 kb k4 hr, restOk, Bool.true_and]
      cases decide (Int.tmod c1 16 = 0) <;> cases inR c8 0 65535 <;> cases inR c9 0 65535 <;> cases cartOk rom k1 k2 ram k3 kb k4 <;> cases decide ((s1.length : Int) = 256) <;> cases decide ((s2.length : Int) = 127) <;> cases decide ((st.length : Int) ≤ 100) <;> rfl
end Go.U.Tryz
namespace Go.U.Tryz
open Go Go.U
set_option linter.unusedVariables false
set_option linter.unusedSimpArgs false
set_option maxRecDepth 20000
abbrev WT := Int × Int × Int × Int × Int × Int × Int × Int × Int × Int × Bool × Bool × List UInt8 × Int × Int × List UInt8 × Int × Bool × Int × List UInt8 × List UInt8 × List Int × Int × Bool
structure CInv (rom : List UInt8) (kind bank : Int) (ram : List UInt8) (rb : Int) (on : Bool) (mode : Int) : Prop where
  hrom : rom.length % 256 = 0 ∧ 512 ≤ rom.length ∧ rom.length ≤ 4096
  hram : ram.length = 256
  hkind : kind = 0 ∨ kind = 1 ∨ kind = 2
  hbank : 0 ≤ bank ∧ bank ≤ 255
  hrb : 0 ≤ rb ∧ rb ≤ 3
  k0 : kind = 0 → bank = 1 ∧ rb = 0 ∧ mode = 0
  k1 : kind = 1 → 1 ≤ bank ∧ bank ≤ 31 ∧ 0 ≤ mode ∧ mode ≤ 1
  k2 : kind = 2 → mode = 0
  on0 : kind = 0 → on = false
theorem CInv.of {rom : List UInt8} {kind bank : Int} {ram : List UInt8} {rb : Int} {on : Bool} {mode : Int} (h : cartOk rom kind bank ram rb on mode = true) : CInv rom kind bank ram rb on mode := by
  simp only [cartOk, cartKind, Bool.and_eq_true, Bool.not_eq_true', decide_eq_true_eq, decide_eq_false_iff_not] at h
  obtain ⟨⟨h1, h2⟩, h3⟩ := h
  have hb : rom.length % 256 = 0 ∧ 2 ≤ rom.length / 256 ∧ rom.length / 256 ≤ 16 := by
    unfold banks at h1; split at h1
    · assumption
    · exact absurd rfl h1
  split at h3
  · simp [inR] at h3
    exact ⟨by omega, h2, by omega, by omega, by omega, fun _ => by omega, fun _ => by omega, fun _ => by omega, fun _ => h3.1.2⟩
  · split at h3
    · simp [inR] at h3
      exact ⟨by omega, h2, by omega, by omega, by omega, fun _ => by omega, fun _ => by omega, fun _ => by omega, fun _ => by omega⟩
    · split at h3
      · simp [inR] at h3
        exact ⟨by omega, h2, by omega, by omega, by omega, fun _ => by omega, fun _ => by omega, fun _ => by omega, fun _ => by omega⟩
      · cases h3
theorem CInv.ok {rom : List UInt8} {kind bank : Int} {ram : List UInt8} {rb : Int} {on : Bool} {mode : Int} (h : CInv rom kind bank ram rb on mode) : cartOk rom kind bank ram rb on mode = true := by
  obtain ⟨h1, h2, h3, h4, h5, h6, h7, h8, h9⟩ := h
  have hb : ¬ banks rom = 0 := by unfold banks; rw [if_pos ⟨h1.1, by omega, by omega⟩]; omega
  simp only [cartOk, cartKind, decide_eq_false hb, h2, Bool.not_false, Bool.true_and, decide_true]
  rcases h3 with rfl | rfl | rfl
  · obtain ⟨e1, e2, e3⟩ := h6 rfl
    have e4 := h9 rfl
    subst e1 e2 e3 e4; rfl
  · obtain ⟨e1, e2, e3, e4⟩ := h7 rfl
    simp [inR]; omega
  · have := h8 rfl
    simp [inR]; omega
theorem CInv.banks {rom : List UInt8} {kind bank : Int} {ram : List UInt8} {rb : Int} {on : Bool} {mode : Int} (h : CInv rom kind bank ram rb on mode) : banks rom = ((rom.length / 256 : Nat) : Int) := by
  have := h.hrom
  unfold Tryz.banks; rw [if_pos ⟨this.1, by omega, by omega⟩]
structure WInv (w : WT) : Prop where
  a : 0 ≤ w.1 ∧ w.1 ≤ 255
  f : 0 ≤ w.2.1 ∧ w.2.1 ≤ 255 ∧ w.2.1 % 16 = 0
  b : 0 ≤ w.2.2.1 ∧ w.2.2.1 ≤ 255
  c : 0 ≤ w.2.2.2.1 ∧ w.2.2.2.1 ≤ 255
  d : 0 ≤ w.2.2.2.2.1 ∧ w.2.2.2.2.1 ≤ 255
  e : 0 ≤ w.2.2.2.2.2.1 ∧ w.2.2.2.2.2.1 ≤ 255
  h : 0 ≤ w.2.2.2.2.2.2.1 ∧ w.2.2.2.2.2.2.1 ≤ 255
  l : 0 ≤ w.2.2.2.2.2.2.2.1 ∧ w.2.2.2.2.2.2.2.1 ≤ 255
  sp : 0 ≤ w.2.2.2.2.2.2.2.2.1 ∧ w.2.2.2.2.2.2.2.2.1 ≤ 65535
  pc : 0 ≤ w.2.2.2.2.2.2.2.2.2.1 ∧ w.2.2.2.2.2.2.2.2.2.1 ≤ 65535
  cart : CInv (w.2.2.2.2.2.2.2.2.2.2.2.2.1) (w.2.2.2.2.2.2.2.2.2.2.2.2.2.1) (w.2.2.2.2.2.2.2.2.2.2.2.2.2.2.1) (w.2.2.2.2.2.2.2.2.2.2.2.2.2.2.2.1) (w.2.2.2.2.2.2.2.2.2.2.2.2.2.2.2.2.1) (w.2.2.2.2.2.2.2.2.2.2.2.2.2.2.2.2.2.1) (w.2.2.2.2.2.2.2.2.2.2.2.2.2.2.2.2.2.2.1)
  work : w.2.2.2.2.2.2.2.2.2.2.2.2.2.2.2.2.2.2.2.1.length = 256
  high : w.2.2.2.2.2.2.2.2.2.2.2.2.2.2.2.2.2.2.2.2.1.length = 127
  out : w.2.2.2.2.2.2.2.2.2.2.2.2.2.2.2.2.2.2.2.2.2.1.all byteB = true ∧ w.2.2.2.2.2.2.2.2.2.2.2.2.2.2.2.2.2.2.2.2.2.1.length ≤ 100
  cyc : 0 ≤ w.2.2.2.2.2.2.2.2.2.2.2.2.2.2.2.2.2.2.2.2.2.2.1 ∧ w.2.2.2.2.2.2.2.2.2.2.2.2.2.2.2.2.2.2.2.2.2.2.1 ≤ 1000000000
theorem toB_length (l : List Int) : (toB l).length = l.length := by unfold toB; simp
end Go.U.Tryz
namespace Go.U.Tryz
open Go Go.U
set_option linter.unusedVariables false
set_option linter.unusedSimpArgs false
set_option maxRecDepth 20000
end Go.U.Tryz
namespace Go.U.Tryz
open Go Go.U
set_option linter.unusedVariables false
set_option linter.unusedSimpArgs false
set_option maxRecDepth 20000
abbrev MT := Int × Int × Int × Int × Int × Int × Int × Int × Int × Int × Bool × Bool × List UInt8 × Int × Int × List UInt8 × Int × Bool × Int × List UInt8 × List UInt8 × List Int × Int
def MT.w (m : MT) : WT := (m.1, m.2.1, m.2.2.1, m.2.2.2.1, m.2.2.2.2.1, m.2.2.2.2.2.1, m.2.2.2.2.2.2.1, m.2.2.2.2.2.2.2.1, m.2.2.2.2.2.2.2.2.1, m.2.2.2.2.2.2.2.2.2.1, m.2.2.2.2.2.2.2.2.2.2.1, m.2.2.2.2.2.2.2.2.2.2.2.1, m.2.2.2.2.2.2.2.2.2.2.2.2.1, m.2.2.2.2.2.2.2.2.2.2.2.2.2.1, m.2.2.2.2.2.2.2.2.2.2.2.2.2.2.1, m.2.2.2.2.2.2.2.2.2.2.2.2.2.2.2.1, m.2.2.2.2.2.2.2.2.2.2.2.2.2.2.2.2.1, m.2.2.2.2.2.2.2.2.2.2.2.2.2.2.2.2.2.1, m.2.2.2.2.2.2.2.2.2.2.2.2.2.2.2.2.2.2.1, m.2.2.2.2.2.2.2.2.2.2.2.2.2.2.2.2.2.2.2.1, m.2.2.2.2.2.2.2.2.2.2.2.2.2.2.2.2.2.2.2.2.1, m.2.2.2.2.2.2.2.2.2.2.2.2.2.2.2.2.2.2.2.2.2.1, m.2.2.2.2.2.2.2.2.2.2.2.2.2.2.2.2.2.2.2.2.2.2, false)
def WT.m (w : WT) : MT := (w.1, w.2.1, w.2.2.1, w.2.2.2.1, w.2.2.2.2.1, w.2.2.2.2.2.1, w.2.2.2.2.2.2.1, w.2.2.2.2.2.2.2.1, w.2.2.2.2.2.2.2.2.1, w.2.2.2.2.2.2.2.2.2.1, w.2.2.2.2.2.2.2.2.2.2.1, w.2.2.2.2.2.2.2.2.2.2.2.1, w.2.2.2.2.2.2.2.2.2.2.2.2.1, w.2.2.2.2.2.2.2.2.2.2.2.2.2.1, w.2.2.2.2.2.2.2.2.2.2.2.2.2.2.1, w.2.2.2.2.2.2.2.2.2.2.2.2.2.2.2.1, w.2.2.2.2.2.2.2.2.2.2.2.2.2.2.2.2.1, w.2.2.2.2.2.2.2.2.2.2.2.2.2.2.2.2.2.1, w.2.2.2.2.2.2.2.2.2.2.2.2.2.2.2.2.2.2.1, w.2.2.2.2.2.2.2.2.2.2.2.2.2.2.2.2.2.2.2.1, w.2.2.2.2.2.2.2.2.2.2.2.2.2.2.2.2.2.2.2.2.1, w.2.2.2.2.2.2.2.2.2.2.2.2.2.2.2.2.2.2.2.2.2.1, w.2.2.2.2.2.2.2.2.2.2.2.2.2.2.2.2.2.2.2.2.2.2.1)
end Go.U.Tryz
namespace Go.U.Tryz
open Go Go.U
set_option linter.unusedVariables false
set_option linter.unusedSimpArgs false
set_option maxRecDepth 20000
set_option maxHeartbeats 2000000
theorem WInv.of {c0 c1 c2 c3 c4 c5 c6 c7 c8 c9 : Int} {b0 b1 : Bool} {rom : List UInt8} {k1 k2 : Int} {ram : List UInt8} {k3 : Int} {kb : Bool} {k4 : Int} {s1 s2 : List UInt8} {st : List Int} {n : Int} (h : mOk c0 c1 c2 c3 c4 c5 c6 c7 c8 c9 b0 b1 rom k1 k2 ram k3 kb k4 s1 s2 st n = true) (q : Bool) : WInv (c0, c1, c2, c3, c4, c5, c6, c7, c8, c9, b0, b1, rom, k1, k2, ram, k3, kb, k4, s1, s2, st, n, q) := by
  simp only [mOk, restOk, List.all_cons, List.all_nil, Bool.and_eq_true, Bool.and_true, byteB, inR, decide_eq_true_eq] at h
  obtain ⟨⟨⟨h0, h1, h2, h3, h4, h5, h6, h7⟩, hst⟩, ⟨⟨⟨⟨⟨⟨⟨hf, hsp⟩, hpc⟩, hca⟩, hwk⟩, hhi⟩, hle⟩, hcy⟩⟩ := h
  rw [Int.tmod_eq_emod_of_nonneg h1.1] at hf
  exact ⟨h0, ⟨h1.1, h1.2, hf⟩, h2, h3, h4, h5, h6, h7, hsp, hpc, CInv.of hca, by dsimp only; omega, by dsimp only; omega, ⟨hst, by dsimp only; omega⟩, hcy⟩
end Go.U.Tryz
