/- A part of the proof. No condition. -/
import Derived.Test.YtncclmpabjglmaaGreatDoorU1
import Derived.Laws.BitsLemmas
import Derived.KernelRfl
set_option linter.unusedVariables false
set_option linter.unusedSimpArgs false
set_option linter.unusedSectionVars false
namespace Go.U
open Go
theorem tmE {a b : Int} (h : 0 ≤ a) : Int.tmod a b = a % b := Int.tmod_eq_emod_of_nonneg h
theorem tdE {a b : Int} (h : 0 ≤ a) : Int.tdiv a b = a / b := Int.tdiv_eq_ediv_of_nonneg h
theorem and_mask (n : Int) (i : Nat) (m : Int) (hm : (BitVec.ofInt 64 m).toNat = 2 ^ i - 1) (hi : (BitVec.ofInt 64 n).toNat % 2 ^ i < 9223372036854775808) :
    bits .and .i64 n m = (((BitVec.ofInt 64 n).toNat % 2 ^ i : Nat) : Int) := by
  show IntKind.i64.wrap ((BitVec.ofInt 64 n &&& BitVec.ofInt 64 m).toNat : Nat) = _
  rw [BitVec.toNat_and, hm, Nat.and_two_pow_sub_one_eq_mod, IntKind.wrap_i64]
  omega
theorem and15 (n : Int) : bits .and .i64 n 15 = n % 16 := by
  rw [and_mask n 4 15 (by decide) (by omega), BitVec.toNat_ofInt]; omega
theorem and255 (n : Int) : bits .and .i64 n 255 = n % 256 := by
  rw [and_mask n 8 255 (by decide) (by omega), BitVec.toNat_ofInt]; omega
theorem and4095 (n : Int) : bits .and .i64 n 4095 = n % 4096 := by
  rw [and_mask n 12 4095 (by decide) (by omega), BitVec.toNat_ofInt]; omega
theorem and65535 (n : Int) : bits .and .i64 n 65535 = n % 65536 := by
  rw [and_mask n 16 65535 (by decide) (by omega), BitVec.toNat_ofInt]; omega
theorem and1 (n : Int) : bits .and .i64 n 1 = n % 2 := by
  rw [and_mask n 1 1 (by decide) (by omega), BitVec.toNat_ofInt]; omega
theorem or_nat (a b : Nat) (ha : a < 9223372036854775808) (hb : b < 9223372036854775808) : bits .or .i64 (a : Int) (b : Int) = ((a ||| b : Nat) : Int) := by
  have e1 : (BitVec.ofInt 64 (a : Int)).toNat = a := by rw [BitVec.toNat_ofInt]; omega
  have e2 : (BitVec.ofInt 64 (b : Int)).toNat = b := by rw [BitVec.toNat_ofInt]; omega
  have h := Nat.or_lt_two_pow (n := 63) (x := a) (y := b) ha hb
  show IntKind.i64.wrap ((BitVec.ofInt 64 (a : Int) ||| BitVec.ofInt 64 (b : Int)).toNat : Nat) = _
  rw [BitVec.toNat_or, e1, e2, IntKind.wrap_i64]
  omega
theorem or_join (h l : Int) (h0 : 0 ≤ h) (h1 : h ≤ 65535) (l0 : 0 ≤ l) (l1 : l ≤ 255) : bits .or .i64 (h * 256) l = 256 * h + l := by
  obtain ⟨a, rfl⟩ : ∃ a : Nat, h = (a : Int) := ⟨h.toNat, by omega⟩
  obtain ⟨b, rfl⟩ : ∃ b : Nat, l = (b : Int) := ⟨l.toNat, by omega⟩
  have e := or_nat (a * 256) b (by omega) (by omega)
  have e2 : ((a * 256 : Nat) : Int) = (a : Int) * 256 := by omega
  rw [e2] at e
  rw [e]
  have := Nat.shiftLeft_add_eq_or_of_lt (i := 8) (b := b) (by omega) a
  rw [Nat.shiftLeft_eq, show (2 : Nat) ^ 8 = 256 from rfl] at this
  omega
theorem or_join' (h l : Int) (h0 : 0 ≤ h) (h1 : h ≤ 65535) (l0 : 0 ≤ l) (l1 : l ≤ 255) : bits .or .i64 l (h * 256) = 256 * h + l := by
  have : bits .or .i64 l (h * 256) = bits .or .i64 (h * 256) l := by simp only [bits, BitVec.or_comm]
  rw [this, or_join h l h0 h1 l0 l1]
end Go.U
namespace Go.U
open Go
def T {ρ : Type} (x : Option ρ) (Q : ρ → Prop) : Prop := ∃ r, x = some r ∧ Q r
section
variable {α β ρ : Type} {Q R : ρ → Prop}
theorem T.ret {r : ρ} (h : Q r) : T (some r) Q := ⟨r, rfl, h⟩
theorem T.mono {x : Option ρ} (h : T x R) (hq : ∀ r, R r → Q r) : T x Q := let ⟨r, e, hr⟩ := h; ⟨r, e, hq r hr⟩
theorem T.bind {x : Option α} {k : α → Option ρ} {S : α → Prop} (h : T x S) (hk : ∀ r, S r → T (k r) Q) : T (bindO x k) Q := by
  obtain ⟨r, rfl, hr⟩ := h; exact hk r hr
theorem T.binds {x : α} {k : α → Option ρ} (h : T (k x) Q) : T (bindO (some x) k) Q := h
theorem T.eq {x : Option α} {y : α} {k : α → Option ρ} (h : x = some y) (hk : T (k y) Q) : T (bindO x k) Q := by subst h; exact hk
theorem T.bindbr {c : Bool} {a b : Option α} {k : α → Option ρ} (h1 : c = true → T (bindO a k) Q) (h2 : c = false → T (bindO b k) Q) : T (bindO (branch c a b) k) Q := by
  cases c
  · exact h2 rfl
  · exact h1 rfl
theorem T.bindbind {γ : Type} {x : Option γ} {f : γ → Option α} {k : α → Option ρ} (h : T (bindO x fun y => bindO (f y) k) Q) : T (bindO (bindO x f) k) Q := by
  cases x <;> exact h
theorem T.br {c : Bool} {a b : Option ρ} (h1 : c = true → T a Q) (h2 : c = false → T b Q) : T (branch c a b) Q := by
  cases c
  · exact h2 rfl
  · exact h1 rfl
theorem T.guard {c : Bool} {k : Option ρ} (h : c = true) (hk : T k Q) : T (guard c k) Q := by subst h; exact hk
theorem T.nthN {xs : List α} {n : Nat} {k : α → Option ρ} (h : n < xs.length) (hk : ∀ v, v ∈ xs → xs[n]? = some v → T (k v) Q) : T (nthN xs n k) Q := by
  have e := List.getElem?_eq_getElem h
  rw [nthN_s e]
  exact hk _ (List.getElem_mem h) e
theorem T.nth {xs : List α} {n : Int} {k : α → Option ρ} (h0 : 0 ≤ n) (h : n < (xs.length : Int)) (hk : ∀ v, v ∈ xs → xs[n.toNat]? = some v → T (k v) Q) : T (nth xs n k) Q := by
  have hl : n.toNat < xs.length := by omega
  have e := List.getElem?_eq_getElem hl
  rw [nth_z h0 e]
  exact hk _ (List.getElem_mem hl) e
theorem T.csl {x : α} {f : α → Option ρ} {g : β → Option ρ} (h : T (f x) Q) : T (csO (.inl x) f g) Q := h
theorem T.csr {x : β} {f : α → Option ρ} {g : β → Option ρ} (h : T (g x) Q) : T (csO (.inr x) f g) Q := h
theorem T.cs {v : α ⊕ β} {f : α → Option ρ} {g : β → Option ρ} (h1 : ∀ a, v = .inl a → T (f a) Q) (h2 : ∀ b, v = .inr b → T (g b) Q) : T (csO v f g) Q := by
  cases v
  · exact h1 _ rfl
  · exact h2 _ rfl
end
theorem nd0 {v : Int} (h : v ≠ 0) : (!(decide (v = 0))) = true := by rw [decide_eq_false h]; rfl
theorem byte_bits (op : BinOp) (hop : op = .and ∨ op = .or ∨ op = .xor ∨ op = .andNot) (a b : Int) (a0 : 0 ≤ a) (a1 : a ≤ 255) (b0 : 0 ≤ b) (b1 : b ≤ 255) : 0 ≤ bits op .i64 a b ∧ bits op .i64 a b ≤ 255 := by
  obtain ⟨x, rfl⟩ : ∃ x : Nat, a = (x : Int) := ⟨a.toNat, by omega⟩
  obtain ⟨y, rfl⟩ : ∃ y : Nat, b = (y : Int) := ⟨b.toNat, by omega⟩
  have ex : (BitVec.ofInt IntKind.i64.bits (x : Int)).toNat = x := by show (BitVec.ofInt 64 (x : Int)).toNat = x; rw [BitVec.toNat_ofInt]; omega
  have ey : (BitVec.ofInt IntKind.i64.bits (y : Int)).toNat = y := by show (BitVec.ofInt 64 (y : Int)).toNat = y; rw [BitVec.toNat_ofInt]; omega
  have key : ∀ n : Nat, n < 256 → 0 ≤ IntKind.i64.wrap (n : Int) ∧ IntKind.i64.wrap (n : Int) ≤ 255 := fun n hn => by rw [IntKind.wrap_i64]; omega
  rcases hop with rfl | rfl | rfl | rfl
  · refine key _ ?_
    rw [BitVec.toNat_and, ex, ey]
    exact Nat.lt_of_le_of_lt Nat.and_le_left (by omega)
  · refine key _ ?_
    rw [BitVec.toNat_or, ex, ey]
    exact Nat.or_lt_two_pow (n := 8) (by omega) (by omega)
  · refine key _ ?_
    rw [BitVec.toNat_xor, ex, ey]
    exact Nat.xor_lt_two_pow (n := 8) (by omega) (by omega)
  · refine key _ ?_
    rw [BitVec.toNat_and, ex]
    exact Nat.lt_of_le_of_lt Nat.and_le_left (by omega)
end Go.U
namespace Go.U
open Go
set_option maxRecDepth 20000
theorem shl8 (v : Int) (h0 : 0 ≤ v) (h1 : v ≤ 65535) : shlI .i64 v 8 = v * 256 := by
  show IntKind.i64.wrap (v * 2 ^ (min (8 : Int).toNat 64)) = _
  rw [show (min (8 : Int).toNat 64) = 8 from by decide, IntKind.wrap_i64]
  omega
theorem shr8 (v : Int) : shrI .i64 v 8 = v / 256 := by
  show v.fdiv (2 ^ (min (8 : Int).toNat 64)) = _
  rw [show (min (8 : Int).toNat 64) = 8 from by decide, Int.fdiv_eq_ediv_of_nonneg _ (by decide)]
  rfl
theorem bytes_all {p : Nat → Bool} (h : (List.range 256).all p = true) (v : Int) (h0 : 0 ≤ v) (h1 : v ≤ 255) : p v.toNat = true :=
  List.all_eq_true.1 h v.toNat (List.mem_range.2 (by omega))
theorem and240 (v : Int) (h0 : 0 ≤ v) (h1 : v ≤ 255) : bits .and .i64 v 240 = v / 16 * 16 := by
  have h := bytes_all (p := fun n => decide (bits .and .i64 (n : Int) 240 = (n : Int) / 16 * 16)) (by kernel_rfl) v h0 h1
  have e : ((v.toNat : Nat) : Int) = v := by omega
  rw [e] at h
  exact of_decide_eq_true h
theorem and128 (v : Int) (h0 : 0 ≤ v) (h1 : v ≤ 255) : bits .and .i64 v 128 = v / 128 * 128 := by
  have h := bytes_all (p := fun n => decide (bits .and .i64 (n : Int) 128 = (n : Int) / 128 * 128)) (by kernel_rfl) v h0 h1
  have e : ((v.toNat : Nat) : Int) = v := by omega
  rw [e] at h
  exact of_decide_eq_true h
theorem and16 (v : Int) (h0 : 0 ≤ v) (h1 : v ≤ 255) : bits .and .i64 v 16 = v / 16 % 2 * 16 := by
  have h := bytes_all (p := fun n => decide (bits .and .i64 (n : Int) 16 = (n : Int) / 16 % 2 * 16)) (by kernel_rfl) v h0 h1
  have e : ((v.toNat : Nat) : Int) = v := by omega
  rw [e] at h
  exact of_decide_eq_true h
theorem xor255 (v : Int) (h0 : 0 ≤ v) (h1 : v ≤ 255) : bits .xor .i64 v 255 = 255 - v := by
  have h := bytes_all (p := fun n => decide (bits .xor .i64 (n : Int) 255 = 255 - (n : Int))) (by kernel_rfl) v h0 h1
  have e : ((v.toNat : Nat) : Int) = v := by omega
  rw [e] at h
  exact of_decide_eq_true h
theorem byte_ofInt (a : Int) (a0 : 0 ≤ a) (a1 : a ≤ 255) : (BitVec.ofInt 64 a).toNat = a.toNat := by
  rw [BitVec.toNat_ofInt]; omega
theorem xor_zero (a b : Int) (a0 : 0 ≤ a) (a1 : a ≤ 255) (b0 : 0 ≤ b) (b1 : b ≤ 255) : (bits .xor .i64 a b = 0) ↔ a = b := by
  have ea := byte_ofInt a a0 a1
  have eb := byte_ofInt b b0 b1
  have hx : bits .xor .i64 a b = ((a.toNat ^^^ b.toNat : Nat) : Int) := by
    show IntKind.i64.wrap ((BitVec.ofInt 64 a ^^^ BitVec.ofInt 64 b).toNat : Nat) = _
    have hl := Nat.xor_lt_two_pow (n := 8) (x := a.toNat) (y := b.toNat) (by omega) (by omega)
    rw [BitVec.toNat_xor, ea, eb, IntKind.wrap_i64]
    omega
  rw [hx]
  constructor
  · intro h
    have h2 : a.toNat ^^^ b.toNat = 0 := by omega
    have h3 : a.toNat = b.toNat := by
      apply Nat.eq_of_testBit_eq
      intro i
      have h4 : (a.toNat ^^^ b.toNat).testBit i = false := by rw [h2]; exact Nat.zero_testBit i
      rw [Nat.testBit_xor] at h4
      revert h4
      cases a.toNat.testBit i <;> cases b.toNat.testBit i <;> simp
    omega
  · intro h
    rw [h, Nat.xor_self]; rfl
end Go.U
