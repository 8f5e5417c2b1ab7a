/- That something is answered, and what of it is so: rules that follow the text. No condition. -/
import Derived.Test.YtaplcmgnmkfgjaaPBt
set_option linter.unusedVariables false
set_option linter.unusedSimpArgs false
set_option linter.unusedSectionVars false
namespace Go.U
open Go

/-- It answers, and the answer is so. -/
def T {ρ : Type} (x : Option ρ) (Q : ρ → Prop) : Prop := ∃ r, x = some r ∧ Q r

section
variable {α β ρ : Type} {Q R : ρ → Prop}
theorem T.ret {r : ρ} (h : Q r) : T (some r) Q := ⟨r, rfl, h⟩
theorem T.mono {x : Option ρ} (h : T x R) (hq : ∀ r, R r → Q r) : T x Q := let ⟨r, e, hr⟩ := h; ⟨r, e, hq r hr⟩
theorem T.bind {x : Option α} {k : α → Option ρ} {S : α → Prop} (h : T x S) (hk : ∀ r, S r → T (k r) Q) : T (bindO x k) Q := by
  obtain ⟨r, rfl, hr⟩ := h; exact hk r hr
theorem T.binds {x : α} {k : α → Option ρ} (h : T (k x) Q) : T (bindO (some x) k) Q := h
theorem T.eq {x : Option α} {y : α} {k : α → Option ρ} (h : x = some y) (hk : T (k y) Q) : T (bindO x k) Q := by subst h; exact hk
theorem T.bindbr {c : Bool} {a b : Option α} {k : α → Option ρ} (h1 : c = true → T (bindO a k) Q) (h2 : c = false → T (bindO b k) Q) : T (bindO (branch c a b) k) Q := by
  cases c
  · exact h2 rfl
  · exact h1 rfl
theorem T.bindbind {γ : Type} {x : Option γ} {f : γ → Option α} {k : α → Option ρ} (h : T (bindO x fun y => bindO (f y) k) Q) : T (bindO (bindO x f) k) Q := by
  cases x <;> exact h
theorem T.br {c : Bool} {a b : Option ρ} (h1 : c = true → T a Q) (h2 : c = false → T b Q) : T (branch c a b) Q := by
  cases c
  · exact h2 rfl
  · exact h1 rfl
theorem T.guard {c : Bool} {k : Option ρ} (h : c = true) (hk : T k Q) : T (guard c k) Q := by subst h; exact hk
theorem T.nthN {xs : List α} {n : Nat} {k : α → Option ρ} (h : n < xs.length) (hk : ∀ v, v ∈ xs → xs[n]? = some v → T (k v) Q) : T (nthN xs n k) Q := by
  have e := List.getElem?_eq_getElem h
  rw [nthN_s e]
  exact hk _ (List.getElem_mem h) e
theorem T.nth {xs : List α} {n : Int} {k : α → Option ρ} (h0 : 0 ≤ n) (h : n < (xs.length : Int)) (hk : ∀ v, v ∈ xs → xs[n.toNat]? = some v → T (k v) Q) : T (nth xs n k) Q := by
  have hl : n.toNat < xs.length := by omega
  have e := List.getElem?_eq_getElem hl
  rw [nth_z h0 e]
  exact hk _ (List.getElem_mem hl) e
theorem T.csl {x : α} {f : α → Option ρ} {g : β → Option ρ} (h : T (f x) Q) : T (csO (.inl x) f g) Q := h
theorem T.csr {x : β} {f : α → Option ρ} {g : β → Option ρ} (h : T (g x) Q) : T (csO (.inr x) f g) Q := h
theorem T.cs {v : α ⊕ β} {f : α → Option ρ} {g : β → Option ρ} (h1 : ∀ a, v = .inl a → T (f a) Q) (h2 : ∀ b, v = .inr b → T (g b) Q) : T (csO v f g) Q := by
  cases v
  · exact h1 _ rfl
  · exact h2 _ rfl
end

theorem nd0 {v : Int} (h : v ≠ 0) : (!(decide (v = 0))) = true := by rw [decide_eq_false h]; rfl

/-! ### Whole numbers by parts -/

theorem tmod_ite (a n : Int) (hn : 0 < n) : Int.tmod a n = if 0 ≤ a then a % n else -((-a) % n) := by
  split
  · rw [Int.tmod_eq_emod_of_nonneg (by omega)]
  · have h : Int.tmod a n = -(Int.tmod (-a) n) := by rw [Int.neg_tmod, Int.neg_neg]
    rw [h, Int.tmod_eq_emod_of_nonneg (by omega)]
theorem tdiv_ite (a n : Int) (hn : 0 < n) : Int.tdiv a n = if 0 ≤ a then a / n else -((-a) / n) := by
  split
  · rw [Int.tdiv_eq_ediv_of_nonneg (by omega)]
  · have h : Int.tdiv a n = -(Int.tdiv (-a) n) := by rw [Int.neg_tdiv, Int.neg_neg]
    rw [h, Int.tdiv_eq_ediv_of_nonneg (by omega)]

theorem tm2 (a : Int) : Int.tmod a 2 = if 0 ≤ a then a % 2 else -((-a) % 2) := tmod_ite a 2 (by omega)
theorem tm4 (a : Int) : Int.tmod a 4 = if 0 ≤ a then a % 4 else -((-a) % 4) := tmod_ite a 4 (by omega)
theorem tm8 (a : Int) : Int.tmod a 8 = if 0 ≤ a then a % 8 else -((-a) % 8) := tmod_ite a 8 (by omega)
theorem tm16 (a : Int) : Int.tmod a 16 = if 0 ≤ a then a % 16 else -((-a) % 16) := tmod_ite a 16 (by omega)
theorem tm32 (a : Int) : Int.tmod a 32 = if 0 ≤ a then a % 32 else -((-a) % 32) := tmod_ite a 32 (by omega)
theorem tm40 (a : Int) : Int.tmod a 40 = if 0 ≤ a then a % 40 else -((-a) % 40) := tmod_ite a 40 (by omega)
theorem tm256 (a : Int) : Int.tmod a 256 = if 0 ≤ a then a % 256 else -((-a) % 256) := tmod_ite a 256 (by omega)
theorem tm4096 (a : Int) : Int.tmod a 4096 = if 0 ≤ a then a % 4096 else -((-a) % 4096) := tmod_ite a 4096 (by omega)
theorem tm65536 (a : Int) : Int.tmod a 65536 = if 0 ≤ a then a % 65536 else -((-a) % 65536) := tmod_ite a 65536 (by omega)
theorem td2 (a : Int) : Int.tdiv a 2 = if 0 ≤ a then a / 2 else -((-a) / 2) := tdiv_ite a 2 (by omega)
theorem td8 (a : Int) : Int.tdiv a 8 = if 0 ≤ a then a / 8 else -((-a) / 8) := tdiv_ite a 8 (by omega)
theorem td16 (a : Int) : Int.tdiv a 16 = if 0 ≤ a then a / 16 else -((-a) / 16) := tdiv_ite a 16 (by omega)
theorem td32 (a : Int) : Int.tdiv a 32 = if 0 ≤ a then a / 32 else -((-a) / 32) := tdiv_ite a 32 (by omega)
theorem td64 (a : Int) : Int.tdiv a 64 = if 0 ≤ a then a / 64 else -((-a) / 64) := tdiv_ite a 64 (by omega)
theorem td128 (a : Int) : Int.tdiv a 128 = if 0 ≤ a then a / 128 else -((-a) / 128) := tdiv_ite a 128 (by omega)
theorem td256 (a : Int) : Int.tdiv a 256 = if 0 ≤ a then a / 256 else -((-a) / 256) := tdiv_ite a 256 (by omega)
theorem w64_eq (n : Int) : w64 n = (n + 9223372036854775808) % 18446744073709551616 - 9223372036854775808 := by
  show IntKind.i64.wrap n = _
  rw [IntKind.wrap_i64]


theorem byte_bits (op : BinOp) (hop : op = .and ∨ op = .or ∨ op = .xor ∨ op = .andNot) (a b : Int) (a0 : 0 ≤ a) (a1 : a ≤ 255) (b0 : 0 ≤ b) (b1 : b ≤ 255) : 0 ≤ bits op .i64 a b ∧ bits op .i64 a b ≤ 255 := by
  obtain ⟨x, rfl⟩ : ∃ x : Nat, a = (x : Int) := ⟨a.toNat, by omega⟩
  obtain ⟨y, rfl⟩ : ∃ y : Nat, b = (y : Int) := ⟨b.toNat, by omega⟩
  have ex : (BitVec.ofInt IntKind.i64.bits (x : Int)).toNat = x := by show (BitVec.ofInt 64 (x : Int)).toNat = x; rw [BitVec.toNat_ofInt]; omega
  have ey : (BitVec.ofInt IntKind.i64.bits (y : Int)).toNat = y := by show (BitVec.ofInt 64 (y : Int)).toNat = y; rw [BitVec.toNat_ofInt]; omega
  have key : ∀ n : Nat, n < 256 → 0 ≤ IntKind.i64.wrap (n : Int) ∧ IntKind.i64.wrap (n : Int) ≤ 255 := fun n hn => by rw [IntKind.wrap_i64]; omega
  rcases hop with rfl | rfl | rfl | rfl
  · refine key _ ?_
    rw [BitVec.toNat_and, ex, ey]
    exact Nat.lt_of_le_of_lt Nat.and_le_left (by omega)
  · refine key _ ?_
    rw [BitVec.toNat_or, ex, ey]
    exact Nat.or_lt_two_pow (n := 8) (by omega) (by omega)
  · refine key _ ?_
    rw [BitVec.toNat_xor, ex, ey]
    exact Nat.xor_lt_two_pow (n := 8) (by omega) (by omega)
  · refine key _ ?_
    rw [BitVec.toNat_and, ex]
    exact Nat.lt_of_le_of_lt Nat.and_le_left (by omega)

end Go.U
