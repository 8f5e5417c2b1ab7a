/- A function whose contract is known, called from outside; loops, as far as they come to an end. No condition. -/
import Derived.Test.YtaplcmgnmkfgjaaUYa
import Derived.Below
set_option linter.unusedVariables false
set_option linter.unusedSimpArgs false
set_option linter.unusedSectionVars false
namespace Go.U
open Go Go.RowKit

section
variable {P : Program} [Gl P] {w : World} {β : Nat → Option BA}

theorem Opn.agg {vs : Array Value} {ty : Ty} {a : ty.den} {b : Nat} (h : Opn w vs.toList ty a b) : RS w β (fun k => k < w.heap.size) (.agg vs) (.agg ((ty.enc a).map SV.d)) := by
  refine .agg vs _ (by rw [List.length_map, Ty.enc_len, ← h.len, Array.length_toList]) fun i v c h1 h2 => ?_
  rw [List.getElem?_map] at h2
  cases hd : (ty.enc a)[i]? with
  | none => rw [hd] at h2; cases h2
  | some d =>
    rw [hd] at h2; cases h2
    exact .d (h.rd i v d (by simpa using h1) hd)

theorem Opn.one {v : Value} {ty : Ty} {a : ty.den} {b : Nat} {d : D} (h : Opn w [v] ty a b) (hd : ty.enc a = [d]) : RS w β (fun k => k < w.heap.size) v (.d d) :=
  .d (h.rd 0 v d rfl (by rw [hd]; rfl))

/-- A function called with data: what it hands back, and that what was there stays. -/
theorem calls_of {f : FuncId} {c : Ct} (hcon : CtOk P f c) (hcall : ∀ args w, (callFunc f args).run P w = .ok (.enter f args) w) {vs : Array Value} {args res : List SV}
    (hgl : GlOk P w fun k => k < w.heap.size) (hF : funOf c args [] = some (res, [])) (hsz : vs.size = args.length) (hvs : ∀ (i : Nat) v c, vs[i]? = some v → args[i]? = some c → RS w (fun _ => none) (fun k => k < w.heap.size) v c) :
    Calls P f vs w fun e w' => ∃ v β' S', e = .returned v ∧ RS w' β' S' v (retSV res) ∧ Below w.heap.size w w' := by
  have hpre : Pre P w (fun _ => none) (fun k => k < w.heap.size) vs args [] := ⟨hsz, hvs, by simp, by simp, by simp, fun k h => h, by simp, hgl⟩
  rcases hcon w _ _ vs args [] res [] hF hpre with ⟨_, h⟩ | ⟨v, w', h, _⟩
  · refine Calls.mono h ?_
    rintro e w' ⟨v, β', S', he, hpost⟩
    exact ⟨v, β', S', he, hpost.ret, hpost.os, hpost.tape, hpost.out, hpost.size, fun k hk => hpost.frame k hk (by simp)⟩
  · rw [hcall] at h; cases h

theorem calls_true {f : FuncId} {c : Ct} (hcon : CtOk P f c) (hcall : ∀ args w, (callFunc f args).run P w = .ok (.enter f args) w) {vs : Array Value} {args : List SV}
    (hgl : GlOk P w fun k => k < w.heap.size) (hF : funOf c args [] = some ([.d (.b true)], [])) (hsz : vs.size = args.length) (hvs : ∀ (i : Nat) v c, vs[i]? = some v → args[i]? = some c → RS w (fun _ => none) (fun k => k < w.heap.size) v c) :
    Calls P f vs w fun e w' => e = .returned (.bool true) ∧ Below w.heap.size w w' := by
  refine (calls_of hcon hcall hgl hF hsz hvs).mono ?_
  rintro e w' ⟨v, β', S', rfl, hr, hb⟩
  have hr' : RS w' β' S' v (.d (.b true)) := hr
  rw [hr'.inv_b]
  exact ⟨rfl, hb⟩

theorem vs1 {v0 : Value} {s0 : SV} {S : Nat → Prop} (h0 : RS w β S v0 s0) : ∀ (i : Nat) v c, (#[v0] : Array Value)[i]? = some v → ([s0] : List SV)[i]? = some c → RS w β S v c := fun i v c h1 h2 => by
  match i with
  | 0 => simp at h1 h2; subst h1; subst h2; exact h0
  | i + 1 => simp at h2
theorem vs2 {v0 v1 : Value} {s0 s1 : SV} {S : Nat → Prop} (h0 : RS w β S v0 s0) (h1 : RS w β S v1 s1) : ∀ (i : Nat) v c, (#[v0, v1] : Array Value)[i]? = some v → ([s0, s1] : List SV)[i]? = some c → RS w β S v c := fun i v c g1 g2 => by
  match i with
  | 0 => simp at g1 g2; subst g1; subst g2; exact h0
  | 1 => simp at g1 g2; subst g1; subst g2; exact h1
  | i + 2 => simp at g2
theorem vs3 {v0 v1 v2 : Value} {s0 s1 s2 : SV} {S : Nat → Prop} (h0 : RS w β S v0 s0) (h1 : RS w β S v1 s1) (h2 : RS w β S v2 s2) : ∀ (i : Nat) v c, (#[v0, v1, v2] : Array Value)[i]? = some v → ([s0, s1, s2] : List SV)[i]? = some c → RS w β S v c := fun i v c g1 g2 => by
  match i with
  | 0 => simp at g1 g2; subst g1; subst g2; exact h0
  | 1 => simp at g1 g2; subst g1; subst g2; exact h1
  | 2 => simp at g1 g2; subst g1; subst g2; exact h2
  | i + 3 => simp at g2
end

/-! ### Loops -/

theorem iter_inv {α γ : Type} {f : α → Option (α ⊕ γ)} (I : α → Prop) (μ : α → Nat) (Q : γ → Prop) (h : ∀ a, I a → (∃ a', f a = some (.inl a') ∧ I a' ∧ μ a' < μ a) ∨ ∃ b, f a = some (.inr b) ∧ Q b) :
    ∀ (K : Nat) (a : α), I a → μ a < K → ∃ b, iter K f a = some b ∧ Q b
  | 0, _, _, h0 => absurd h0 (Nat.not_lt_zero _)
  | K + 1, a, ha, hm => by
    rcases h a ha with ⟨a', h1, h2, h3⟩ | ⟨b, h1, h2⟩
    · obtain ⟨b, h4, h5⟩ := iter_inv I μ Q h K a' h2 (by omega)
      exact ⟨b, by simp only [iter, h1]; exact h4, h5⟩
    · exact ⟨b, by simp only [iter, h1], h2⟩

/-- .. where what comes out is known. -/
theorem iter_eq {α γ : Type} {f : α → Option (α ⊕ γ)} (I : α → Prop) (μ : α → Nat) (g : α → γ) (h : ∀ a, I a → (∃ a', f a = some (.inl a') ∧ I a' ∧ μ a' < μ a ∧ g a' = g a) ∨ f a = some (.inr (g a)))
    (K : Nat) (a : α) (ha : I a) (hm : μ a < K) : iter K f a = some (g a) := by
  obtain ⟨b, h1, h2⟩ := iter_inv (fun x => I x ∧ g x = g a) μ (fun b => b = g a) (fun x hx => by
    rcases h x hx.1 with ⟨a', h1, h2, h3, h4⟩ | h1
    · exact .inl ⟨a', h1, ⟨h2, h4.trans hx.2⟩, h3⟩
    · exact .inr ⟨_, h1, hx.2⟩) K a ⟨ha, rfl⟩ hm
  rw [h1, h2]

end Go.U
