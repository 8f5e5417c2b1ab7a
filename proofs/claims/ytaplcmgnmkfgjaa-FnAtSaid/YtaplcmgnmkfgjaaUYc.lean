/- What the pieces of told functions come to: conditions, loops over a row, copies. No condition. -/
import Derived.Test.YtaplcmgnmkfgjaaUYb
set_option linter.unusedVariables false
set_option linter.unusedSimpArgs false
set_option linter.unusedSectionVars false
namespace Go.U
open Go

theorem w64_id {n : Int} (h : -9223372036854775808 ≤ n) (h' : n ≤ 9223372036854775807) : w64 n = n := by
  simp only [w64, IntKind.wrap, IntKind.bits, IntKind.signed]; simp; omega
theorem w8_id {n : Int} (h : 0 ≤ n) (h' : n ≤ 255) : w8 n = n := by
  simp only [w8, IntKind.wrap, IntKind.bits, IntKind.signed]; simp; omega
theorem w64u_id {n : Int} (h : 0 ≤ n) (h' : n ≤ 18446744073709551615) : w64u n = n := by
  simp only [w64u, IntKind.wrap, IntKind.bits, IntKind.signed]; simp; omega

section
variable {ρ α β : Type}
theorem guard_t {k : Option ρ} : guard true k = k := rfl
theorem guard_dec {p : Prop} [Decidable p] {k : Option ρ} (h : p) : guard (decide p) k = k := by rw [decide_eq_true h]; rfl
theorem branch_t {a b : Option ρ} : branch true a b = a := rfl
theorem branch_f {a b : Option ρ} : branch false a b = b := rfl
theorem branch_not {c : Bool} {a b : Option ρ} : branch (!c) a b = branch c b a := by cases c <;> rfl
theorem branch_ite {p : Prop} [Decidable p] {a b : Option ρ} : branch (decide p) a b = if p then a else b := by
  by_cases h : p
  · rw [decide_eq_true h, if_pos h]; rfl
  · rw [decide_eq_false h, if_neg h]; rfl
theorem branch_bool {c : Bool} {a b : Option ρ} : branch c a b = if c = true then a else b := by cases c <;> rfl
theorem bindO_s {x : α} {k : α → Option ρ} : bindO (some x) k = k x := rfl
theorem csO_l {x : α} {f : α → Option ρ} {g : β → Option ρ} : csO (.inl x) f g = f x := rfl
theorem csO_r {x : β} {f : α → Option ρ} {g : β → Option ρ} : csO (.inr x) f g = g x := rfl
theorem nthN_s {xs : List α} {n : Nat} {v : α} {k : α → Option ρ} (h : xs[n]? = some v) : nthN xs n k = k v := by simp only [nthN, h]
theorem nth_s {xs : List α} {n : Nat} {v : α} {k : α → Option ρ} (h : xs[n]? = some v) : nth xs (n : Int) k = k v := by
  have : decide (0 ≤ (n : Int)) = true := decide_eq_true (by omega)
  simp only [nth, this, Int.toNat_natCast]
  exact nthN_s h
theorem nth_z {xs : List α} {n : Int} {v : α} {k : α → Option ρ} (h0 : 0 ≤ n) (h : xs[n.toNat]? = some v) : nth xs n k = k v := by
  have : decide (0 ≤ n) = true := decide_eq_true h0
  simp only [nth, this]
  exact nthN_s h
theorem branch_somes {c : Bool} {a b : α} : branch c (some a) (some b) = some (if c = true then a else b) := by cases c <;> rfl
theorem bind_branch {c : Bool} {a b : Option α} {k : α → Option ρ} : bindO (branch c a b) k = branch c (bindO a k) (bindO b k) := by cases c <;> rfl
end

/-- A row gone through, with an end ahead of time. -/
def foldE {σ τ γ : Type} (step : σ → τ → σ ⊕ γ) (fin : σ → γ) : σ → List τ → γ
  | s, [] => fin s
  | s, v :: vs => match step s v with
    | .inl s' => foldE step fin s' vs
    | .inr r => r

/-- **A loop over a row.** -/
theorem loop_fold {α σ τ γ : Type} {f : α → Option (α ⊕ γ)} (mk : Nat → σ → α) (xs : List τ) (step : σ → τ → σ ⊕ γ) (fin : σ → γ) (I : Nat → σ → Prop)
    (hstep : ∀ i s v, I i s → xs[i]? = some v → f (mk i s) = some (match step s v with | .inl s' => .inl (mk (i + 1) s') | .inr r => .inr r) ∧ ∀ s', step s v = .inl s' → I (i + 1) s')
    (hend : ∀ s, I xs.length s → f (mk xs.length s) = some (.inr (fin s))) : ∀ (K i : Nat) (s : σ), I i s → i ≤ xs.length → xs.length - i < K → iter K f (mk i s) = some (foldE step fin s (xs.drop i))
  | 0, i, s, _, _, hK => absurd hK (Nat.not_lt_zero _)
  | K + 1, i, s, hI, hi, hK => by
    rcases Nat.lt_or_ge i xs.length with hlt | hge
    · have hv := List.getElem?_eq_getElem hlt
      obtain ⟨h1, h2⟩ := hstep i s _ hI hv
      rw [List.drop_eq_getElem_cons hlt]
      simp only [iter, h1, foldE]
      cases hs : step s xs[i] with
      | inl s' => exact loop_fold mk xs step fin I hstep hend K (i + 1) s' (h2 s' hs) hlt (by omega)
      | inr r => rfl
    · have : i = xs.length := by omega
      subst this
      simp only [iter, hend s hI, List.drop_length, foldE]

theorem loop_fold0 {α σ τ γ : Type} {f : α → Option (α ⊕ γ)} (mk : Nat → σ → α) (xs : List τ) (step : σ → τ → σ ⊕ γ) (fin : σ → γ)
    (hstep : ∀ i s v, xs[i]? = some v → i < xs.length → f (mk i s) = some (match step s v with | .inl s' => .inl (mk (i + 1) s') | .inr r => .inr r))
    (hend : ∀ s, f (mk xs.length s) = some (.inr (fin s))) (K : Nat) (s : σ) (hK : xs.length < K) : iter K f (mk 0 s) = some (foldE step fin s xs) := by
  have := loop_fold (f := f) mk xs step fin (fun _ _ => True) (fun i s v _ h => ⟨hstep i s v h (List.getElem?_eq_some_iff.1 h).1, fun _ _ => trivial⟩) (fun s _ => hend s) K 0 s trivial (Nat.zero_le _) (by omega)
  simpa using this

/-- Is it so of all? -/
theorem loop_all {α τ γ : Type} {f : α → Option (α ⊕ γ)} (mk : Nat → α) (xs : List τ) (p : τ → Bool) (bad good : γ)
    (hstep : ∀ i v, xs[i]? = some v → i < xs.length → f (mk i) = some (cond (p v) (.inl (mk (i + 1))) (.inr bad))) (hend : f (mk xs.length) = some (.inr good)) (K : Nat) (hK : xs.length < K) :
    iter K f (mk 0) = some (cond (xs.all p) good bad) := by
  have := loop_fold0 (f := f) (fun i (_ : Unit) => mk i) xs (fun _ v => cond (p v) (.inl ()) (.inr bad)) (fun _ => good) (fun i s v h1 h2 => by rw [hstep i v h1 h2]; cases p v <;> rfl) (fun _ => hend) K () hK
  rw [this]
  congr 1
  clear this hstep hend hK
  induction xs with
  | nil => rfl
  | cons x xs ih =>
    simp only [foldE, List.all_cons]
    cases h : p x with
    | true => exact ih
    | false => rfl

/-- A row copied into one of as many. -/
theorem loop_copy {α τ γ : Type} {f : α → Option (α ⊕ List γ)} (mk : Nat → List γ → α) (xs : List τ) (g : τ → γ)
    (hstep : ∀ i zs v, xs[i]? = some v → i < xs.length → zs.length = xs.length → f (mk i zs) = some (.inl (mk (i + 1) (zs.set i (g v))))) (hend : ∀ zs, zs.length = xs.length → f (mk xs.length zs) = some (.inr zs)) :
    ∀ (K i : Nat) (zs : List γ), i ≤ xs.length → zs.length = xs.length → (∀ j, j < i → zs[j]? = (xs.map g)[j]?) → xs.length - i < K → iter K f (mk i zs) = some (xs.map g)
  | 0, _, _, _, _, _, hK => absurd hK (Nat.not_lt_zero _)
  | K + 1, i, zs, hi, hl, hz, hK => by
    rcases Nat.lt_or_ge i xs.length with hlt | hge
    · have hv := List.getElem?_eq_getElem hlt
      simp only [iter, hstep i zs _ hv hlt hl]
      refine loop_copy mk xs g hstep hend K (i + 1) _ hlt (by rw [List.length_set, hl]) (fun j hj => ?_) (by omega)
      rw [List.getElem?_set]
      by_cases hij : i = j
      · subst hij
        rw [if_pos rfl, if_pos (by omega), List.getElem?_map, hv]
        rfl
      · rw [if_neg hij]; exact hz j (by omega)
    · have : i = xs.length := by omega
      subst this
      simp only [iter, hend zs hl]
      congr 1
      apply List.ext_getElem?
      intro j
      rcases Nat.lt_or_ge j xs.length with hj | hj
      · exact hz j hj
      · rw [List.getElem?_eq_none (by omega), List.getElem?_eq_none (by simp; omega)]
theorem loop_copy0 {α τ γ : Type} {f : α → Option (α ⊕ List γ)} (mk : Nat → List γ → α) (xs : List τ) (g : τ → γ)
    (hstep : ∀ i zs v, xs[i]? = some v → i < xs.length → zs.length = xs.length → f (mk i zs) = some (.inl (mk (i + 1) (zs.set i (g v))))) (hend : ∀ zs, zs.length = xs.length → f (mk xs.length zs) = some (.inr zs))
    (K : Nat) (zs : List γ) (hl : zs.length = xs.length) (hK : xs.length < K) : iter K f (mk 0 zs) = some (xs.map g) :=
  loop_copy mk xs g hstep hend K 0 zs (Nat.zero_le _) hl (fun j hj => absurd hj (Nat.not_lt_zero _)) (by omega)

end Go.U
