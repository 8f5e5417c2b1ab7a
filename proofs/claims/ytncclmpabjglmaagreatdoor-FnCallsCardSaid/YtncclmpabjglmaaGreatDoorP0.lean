/- A part of the proof. No condition. -/
import Derived.Test.YtncclmpabjglmaaGreatDoorU1
import Derived.Laws.BitsLemmas
import Derived.KernelRfl
set_option linter.unusedVariables false
set_option linter.unusedSimpArgs false
set_option linter.unusedSectionVars false
namespace Go.U
open Go
theorem and_mask (n : Int) (i : Nat) (m : Int) (hm : (BitVec.ofInt 64 m).toNat = 2 ^ i - 1) (hi : (BitVec.ofInt 64 n).toNat % 2 ^ i < 9223372036854775808) :
    bits .and .i64 n m = (((BitVec.ofInt 64 n).toNat % 2 ^ i : Nat) : Int) := by
  show IntKind.i64.wrap ((BitVec.ofInt 64 n &&& BitVec.ofInt 64 m).toNat : Nat) = _
  rw [BitVec.toNat_and, hm, Nat.and_two_pow_sub_one_eq_mod, IntKind.wrap_i64]
  omega
theorem and65535 (n : Int) : bits .and .i64 n 65535 = n % 65536 := by
  rw [and_mask n 16 65535 (by decide) (by omega), BitVec.toNat_ofInt]; omega
theorem or_nat (a b : Nat) (ha : a < 9223372036854775808) (hb : b < 9223372036854775808) : bits .or .i64 (a : Int) (b : Int) = ((a ||| b : Nat) : Int) := by
  have e1 : (BitVec.ofInt 64 (a : Int)).toNat = a := by rw [BitVec.toNat_ofInt]; omega
  have e2 : (BitVec.ofInt 64 (b : Int)).toNat = b := by rw [BitVec.toNat_ofInt]; omega
  have h := Nat.or_lt_two_pow (n := 63) (x := a) (y := b) ha hb
  show IntKind.i64.wrap ((BitVec.ofInt 64 (a : Int) ||| BitVec.ofInt 64 (b : Int)).toNat : Nat) = _
  rw [BitVec.toNat_or, e1, e2, IntKind.wrap_i64]
  omega
theorem or_join (h l : Int) (h0 : 0 ≤ h) (h1 : h ≤ 65535) (l0 : 0 ≤ l) (l1 : l ≤ 255) : bits .or .i64 (h * 256) l = 256 * h + l := by
  obtain ⟨a, rfl⟩ : ∃ a : Nat, h = (a : Int) := ⟨h.toNat, by omega⟩
  obtain ⟨b, rfl⟩ : ∃ b : Nat, l = (b : Int) := ⟨l.toNat, by omega⟩
  have e := or_nat (a * 256) b (by omega) (by omega)
  have e2 : ((a * 256 : Nat) : Int) = (a : Int) * 256 := by omega
  rw [e2] at e
  rw [e]
  have := Nat.shiftLeft_add_eq_or_of_lt (i := 8) (b := b) (by omega) a
  rw [Nat.shiftLeft_eq, show (2 : Nat) ^ 8 = 256 from rfl] at this
  omega
end Go.U
namespace Go.U
open Go
def T {ρ : Type} (x : Option ρ) (Q : ρ → Prop) : Prop := ∃ r, x = some r ∧ Q r
section
variable {α β ρ : Type} {Q R : ρ → Prop}
theorem T.ret {r : ρ} (h : Q r) : T (some r) Q := ⟨r, rfl, h⟩
theorem T.mono {x : Option ρ} (h : T x R) (hq : ∀ r, R r → Q r) : T x Q := let ⟨r, e, hr⟩ := h; ⟨r, e, hq r hr⟩
theorem T.bind {x : Option α} {k : α → Option ρ} {S : α → Prop} (h : T x S) (hk : ∀ r, S r → T (k r) Q) : T (bindO x k) Q := by
  obtain ⟨r, rfl, hr⟩ := h; exact hk r hr
theorem T.binds {x : α} {k : α → Option ρ} (h : T (k x) Q) : T (bindO (some x) k) Q := h
theorem T.eq {x : Option α} {y : α} {k : α → Option ρ} (h : x = some y) (hk : T (k y) Q) : T (bindO x k) Q := by subst h; exact hk
theorem T.bindbr {c : Bool} {a b : Option α} {k : α → Option ρ} (h1 : c = true → T (bindO a k) Q) (h2 : c = false → T (bindO b k) Q) : T (bindO (branch c a b) k) Q := by
  cases c
  · exact h2 rfl
  · exact h1 rfl
theorem T.bindbind {γ : Type} {x : Option γ} {f : γ → Option α} {k : α → Option ρ} (h : T (bindO x fun y => bindO (f y) k) Q) : T (bindO (bindO x f) k) Q := by
  cases x <;> exact h
theorem T.br {c : Bool} {a b : Option ρ} (h1 : c = true → T a Q) (h2 : c = false → T b Q) : T (branch c a b) Q := by
  cases c
  · exact h2 rfl
  · exact h1 rfl
theorem T.guard {c : Bool} {k : Option ρ} (h : c = true) (hk : T k Q) : T (guard c k) Q := by subst h; exact hk
theorem T.nthN {xs : List α} {n : Nat} {k : α → Option ρ} (h : n < xs.length) (hk : ∀ v, v ∈ xs → xs[n]? = some v → T (k v) Q) : T (nthN xs n k) Q := by
  have e := List.getElem?_eq_getElem h
  rw [nthN_s e]
  exact hk _ (List.getElem_mem h) e
theorem T.nth {xs : List α} {n : Int} {k : α → Option ρ} (h0 : 0 ≤ n) (h : n < (xs.length : Int)) (hk : ∀ v, v ∈ xs → xs[n.toNat]? = some v → T (k v) Q) : T (nth xs n k) Q := by
  have hl : n.toNat < xs.length := by omega
  have e := List.getElem?_eq_getElem hl
  rw [nth_z h0 e]
  exact hk _ (List.getElem_mem hl) e
theorem T.csl {x : α} {f : α → Option ρ} {g : β → Option ρ} (h : T (f x) Q) : T (csO (.inl x) f g) Q := h
theorem T.csr {x : β} {f : α → Option ρ} {g : β → Option ρ} (h : T (g x) Q) : T (csO (.inr x) f g) Q := h
theorem T.cs {v : α ⊕ β} {f : α → Option ρ} {g : β → Option ρ} (h1 : ∀ a, v = .inl a → T (f a) Q) (h2 : ∀ b, v = .inr b → T (g b) Q) : T (csO v f g) Q := by
  cases v
  · exact h1 _ rfl
  · exact h2 _ rfl
end
end Go.U
namespace Go.U
open Go
set_option linter.unusedVariables false
set_option maxRecDepth 20000
theorem shl8 (v : Int) (h0 : 0 ≤ v) (h1 : v ≤ 65535) : shlI .i64 v 8 = v * 256 := by
  show IntKind.i64.wrap (v * 2 ^ (min (8 : Int).toNat 64)) = _
  rw [show (min (8 : Int).toNat 64) = 8 from by decide, IntKind.wrap_i64]
  omega
end Go.U
