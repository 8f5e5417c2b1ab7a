/- Functions of the library over texts and numbers, whose contracts the kit has: as told functions. No condition. -/
import Derived.Test.YtaplcmgnmkfgjaaUYf
set_option linter.unusedVariables false
set_option linter.unusedSimpArgs false
set_option linter.unusedSectionVars false
namespace Go.U
open Go Go.RowKit

theorem dsub_leaf {d : D} {t : Ty} {x : t.den} (h : DSub d (leafD t x)) (hl : ∀ u, t ≠ .l u) : d = leafD t x := by
  rcases h with h | ⟨_, _, h⟩
  · exact h.symm
  · cases t <;> first | exact absurd rfl (hl _) | cases h

/-- Two arguments that are data. -/
theorem grab2 {t u : Ty} {args : List SV} {a : List D} (h : grabShs [.l (.v t), .l (.v u)] args = some a) : ∃ d e, args = [.d d, .d e] ∧ a = [d, e] := by
  match args, h with
  | [p, q], h =>
    simp only [grabShs, grabSh] at h
    obtain ⟨a1, b1, h1, h2, h3⟩ := apO_some h
    obtain ⟨a2, b2, h4, h5, h6⟩ := apO_some h2
    obtain ⟨d0, rfl, rfl⟩ := grab_v h1
    obtain ⟨d1, rfl, rfl⟩ := grab_v h4
    cases h5
    exact ⟨d0, d1, rfl, by rw [h3, h6]; rfl⟩
  | [], h => cases h
  | [p], h =>
    simp only [grabShs, grabSh] at h
    obtain ⟨a1, b1, h1, h2, h3⟩ := apO_some h
    cases h2
  | p :: q :: r :: t, h =>
    simp only [grabShs, grabSh] at h
    obtain ⟨a1, b1, h1, h2, h3⟩ := apO_some h
    obtain ⟨a2, b2, h4, h5, h6⟩ := apO_some h2
    cases h5
theorem grab1 {t : Ty} {args : List SV} {a : List D} (h : grabShs [.l (.v t)] args = some a) : ∃ d, args = [.d d] ∧ a = [d] := by
  match args, h with
  | [p], h =>
    simp only [grabShs, grabSh] at h
    obtain ⟨a1, b1, h1, h2, h3⟩ := apO_some h
    obtain ⟨d0, rfl, rfl⟩ := grab_v h1
    cases h2
    exact ⟨d0, rfl, by rw [h3]; rfl⟩
  | [], h => cases h
  | p :: q :: t, h =>
    simp only [grabShs, grabSh] at h
    obtain ⟨a1, b1, h1, h2, h3⟩ := apO_some h
    cases h2
theorem grab0 {hs : List Blk} {b : List D} (h : grabBs [] hs = some b) : hs = [] ∧ b = [] := by
  match hs, h with
  | [], h => cases h; exact ⟨rfl, rfl⟩
  | _ :: _, h => cases h

/-- The new blocks, and what stays. -/
def Fresh (w w' : World) (k : Nat) : Prop := w.heap.size ≤ k ∧ k < w'.heap.size

theorem post_data {P : Program} [Gl P] {w w' : World} {β : Nat → Option BA} {S : Nat → Prop} {vs : Array Value} {args : List SV} {v : Value} {d : D} (hp : Pre P w β S vs args []) (hv : RD w' (Fresh w w') v d) (bel : Below w.heap.size w w') :
    Post w w' β β S (fun k => S k ∨ Fresh w w' k) [] [] v [.d d] := by
  refine ⟨.d (hv.mono (fun k hk => ⟨.inr hk, rfl⟩) (Nat.le_refl _)), by simp, fun j k hk => by simp at hk, fun j j' ba ba' h1 => by simp at h1, fun j ba h1 => by simp at h1, fun j ba h1 => by simp at h1, fun j k h1 => by simp at h1, fun _ h => .inl h,
    fun k hk => ?_, bel.os, bel.tape, bel.output, bel.size, fun k hk _ => bel.block k hk⟩
  rcases hk with hk | hk
  · exact ⟨Nat.lt_of_lt_of_le (hp.sbd k hk) bel.size, .inl hk⟩
  · exact ⟨hk.2, .inr hk.1⟩

section
variable {P : Program} [Gl P] {f : Nat} {rt : Ty}

theorem ct_ss (F : List UInt8 × List UInt8 → Option rt.den) (hent : ∀ args w, (callFunc f args).run P w = .ok (.enter f args) w)
    (h : ∀ l m r w, (∀ g, g ∈ Gl.l P → GlAt P w g) → F (l, m) = some r → Calls P f #[.string ⟨l.toArray⟩, .string ⟨m.toArray⟩] w fun e w' => ∃ v, e = .returned v ∧ RD w' (Fresh w w') v (leafD rt r) ∧ Below w.heap.size w w') :
    CtOk P f ⟨[.l (.v .s), .l (.v .s)], [], [.l (.v rt)], [], [], F⟩ := by
  intro w β S vs args hs res hs' hF hp
  unfold funOf at hF
  split at hF
  case h_2 => cases hF
  rename_i a b ha hb
  obtain ⟨d0, d1, rfl, rfl⟩ := grab2 ha
  obtain ⟨rfl, rfl⟩ := grab0 hb
  obtain ⟨⟨l, m⟩, hx, hd⟩ := unDs_spec _ _ _ hF
  have e0 : d0 = .str l := dsub_str hd.1
  have e1 : d1 = .str m := dsub_str hd.2.1
  subst e0 e1
  have hF' : (bindO (F (l, m)) fun r => some ([SV.d (leafD rt r)], ([] : List Blk))) = some (res, hs') := hx
  obtain ⟨r, hr, h2⟩ := bindO_some hF'
  cases h2
  have hsz := hp.sz
  obtain ⟨v0, v1, rfl⟩ : ∃ v0 v1, vs = #[v0, v1] := by
    have : vs.size = 2 := hsz
    refine ⟨vs[0]'(by omega), vs[1]'(by omega), ?_⟩
    apply Array.ext
    · simpa using this
    · intro i h1 h2
      simp at h2
      match i, h2 with
      | 0, _ => rfl
      | 1, _ => rfl
      | i + 2, h2 => omega
  have r0 := hp.args 0 v0 _ rfl rfl
  have r1 := hp.args 1 v1 _ rfl rfl
  have e0 : v0 = .string ⟨l.toArray⟩ := by cases r0 with | d h => cases h; rfl
  have e1 : v1 = .string ⟨m.toArray⟩ := by cases r1 with | d h => cases h; rfl
  subst e0 e1
  refine .inl ⟨hent _ _, (h l m r w (fun g hg => (hp.gl g hg).2) hr).mono fun e w' ⟨v, he, hv, bel⟩ => ⟨v, β, _, he, post_data hp hv bel⟩⟩

theorem ct_s (F : List UInt8 → Option rt.den) (hent : ∀ args w, (callFunc f args).run P w = .ok (.enter f args) w)
    (h : ∀ l r w, (∀ g, g ∈ Gl.l P → GlAt P w g) → F l = some r → Calls P f #[.string ⟨l.toArray⟩] w fun e w' => ∃ v, e = .returned v ∧ RD w' (Fresh w w') v (leafD rt r) ∧ Below w.heap.size w w') :
    CtOk P f ⟨[.l (.v .s)], [], [.l (.v rt)], [], [], F⟩ := by
  intro w β S vs args hs res hs' hF hp
  unfold funOf at hF
  split at hF
  case h_2 => cases hF
  rename_i a b ha hb
  obtain ⟨d0, rfl, rfl⟩ := grab1 ha
  obtain ⟨rfl, rfl⟩ := grab0 hb
  obtain ⟨l, hx, hd⟩ := unDs_spec _ _ _ hF
  have e0 : d0 = .str l := dsub_str hd.1
  subst e0
  have hF' : (bindO (F l) fun r => some ([SV.d (leafD rt r)], ([] : List Blk))) = some (res, hs') := hx
  obtain ⟨r, hr, h2⟩ := bindO_some hF'
  cases h2
  have hsz := hp.sz
  obtain ⟨v0, rfl⟩ : ∃ v0, vs = #[v0] := by
    have : vs.size = 1 := hsz
    refine ⟨vs[0]'(by omega), ?_⟩
    apply Array.ext
    · simpa using this
    · intro i h1 h2
      simp at h2
      subst h2; rfl
  have r0 := hp.args 0 v0 _ rfl rfl
  have e0 : v0 = .string ⟨l.toArray⟩ := by cases r0 with | d h => cases h; rfl
  subst e0
  refine .inl ⟨hent _ _, (h l r w (fun g hg => (hp.gl g hg).2) hr).mono fun e w' ⟨v, he, hv, bel⟩ => ⟨v, β, _, he, post_data hp hv bel⟩⟩

theorem ct_ii (F : Int × Int → Option rt.den) (hent : ∀ args w, (callFunc f args).run P w = .ok (.enter f args) w)
    (h : ∀ l m r w, (∀ g, g ∈ Gl.l P → GlAt P w g) → F (l, m) = some r → Calls P f #[.int .i64 l, .int .i64 m] w fun e w' => ∃ v, e = .returned v ∧ RD w' (Fresh w w') v (leafD rt r) ∧ Below w.heap.size w w') :
    CtOk P f ⟨[.l (.v (.i .i64)), .l (.v (.i .i64))], [], [.l (.v rt)], [], [], F⟩ := by
  intro w β S vs args hs res hs' hF hp
  unfold funOf at hF
  split at hF
  case h_2 => cases hF
  rename_i a b ha hb
  obtain ⟨d0, d1, rfl, rfl⟩ := grab2 ha
  obtain ⟨rfl, rfl⟩ := grab0 hb
  obtain ⟨⟨l, m⟩, hx, hd⟩ := unDs_spec _ _ _ hF
  have e0 : d0 = .i .i64 l := dsub_i hd.1
  have e1 : d1 = .i .i64 m := dsub_i hd.2.1
  subst e0 e1
  have hF' : (bindO (F (l, m)) fun r => some ([SV.d (leafD rt r)], ([] : List Blk))) = some (res, hs') := hx
  obtain ⟨r, hr, h2⟩ := bindO_some hF'
  cases h2
  have hsz := hp.sz
  obtain ⟨v0, v1, rfl⟩ : ∃ v0 v1, vs = #[v0, v1] := by
    have : vs.size = 2 := hsz
    refine ⟨vs[0]'(by omega), vs[1]'(by omega), ?_⟩
    apply Array.ext
    · simpa using this
    · intro i h1 h2
      simp at h2
      match i, h2 with
      | 0, _ => rfl
      | 1, _ => rfl
      | i + 2, h2 => omega
  have r0 := hp.args 0 v0 _ rfl rfl
  have r1 := hp.args 1 v1 _ rfl rfl
  have e0 : v0 = .int .i64 l := by cases r0 with | d h => cases h; rfl
  have e1 : v1 = .int .i64 m := by cases r1 with | d h => cases h; rfl
  subst e0 e1
  refine .inl ⟨hent _ _, (h l m r w (fun g hg => (hp.gl g hg).2) hr).mono fun e w' ⟨v, he, hv, bel⟩ => ⟨v, β, _, he, post_data hp hv bel⟩⟩

/-- Of a function nothing is told. -/
theorem ct_none {ps : List Sh} {hs : List BSh} {rs : List Sh} {hr : List BSh} {refs : List Bool} : CtOk P f ⟨ps, hs, rs, hr, refs, fun _ => none⟩ := by
  intro w β S vs args hs res hs' hF hp
  exfalso
  unfold funOf at hF
  split at hF
  case h_2 => cases hF
  obtain ⟨x, hx, _⟩ := unDs_spec _ _ _ hF
  cases hx

end
end Go.U
