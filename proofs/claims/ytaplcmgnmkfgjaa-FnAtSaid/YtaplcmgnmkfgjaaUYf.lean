/- A function of a text and a number that gives a text and leaves what was there: its contract. No condition. -/
import Derived.Test.YtaplcmgnmkfgjaaUYe
import Derived.Lib.Repeat
set_option linter.unusedVariables false
set_option linter.unusedSimpArgs false
set_option linter.unusedSectionVars false
namespace Go.U
open Go Go.RowKit

theorem grab_v {t : Ty} {v : SV} {l : List D} (h : grabL (.v t) v = some l) : ∃ d, v = .d d ∧ l = [d] := by
  cases v with
  | d x => exact ⟨x, rfl, (Option.some.inj h).symm⟩
  | _ => cases h
theorem dsub_str {d : D} {z : List UInt8} (h : DSub d (.str z)) : d = .str z := by
  rcases h with h | ⟨_, _, h⟩
  · exact h.symm
  · cases h
theorem dsub_i {d : D} {k : IntKind} {n : Int} (h : DSub d (.i k n)) : d = .i k n := by
  rcases h with h | ⟨_, _, h⟩
  · exact h.symm
  · cases h

theorem ct_sis {P : Program} [Gl P] {f : Nat} (F : List UInt8 × Int → Option (List UInt8)) (hent : ∀ args w, (callFunc f args).run P w = .ok (.enter f args) w)
    (h : ∀ l n r w, F (l, n) = some r → Calls P f #[.string ⟨l.toArray⟩, .int .i64 n] w fun e w' => e = .returned (.string ⟨r.toArray⟩) ∧ Below w.heap.size w w') :
    CtOk P f ⟨[.l (.v .s), .l (.v (.i .i64))], [], [.l (.v .s)], [], [], F⟩ := by
  intro w β S vs args hs res hs' hF hp
  unfold funOf at hF
  split at hF
  case h_2 => cases hF
  rename_i a b ha hb
  obtain ⟨d0, d1, rfl, rfl⟩ : ∃ d0 d1, args = [.d d0, .d d1] ∧ a = [d0, d1] := by
    match args, ha with
    | [p, q], ha =>
      simp only [grabShs, grabSh] at ha
      obtain ⟨a1, b1, h1, h2, h3⟩ := apO_some ha
      obtain ⟨a2, b2, h4, h5, h6⟩ := apO_some h2
      obtain ⟨d0, rfl, rfl⟩ := grab_v h1
      obtain ⟨d1, rfl, rfl⟩ := grab_v h4
      cases h5
      exact ⟨d0, d1, rfl, by rw [h3, h6]; rfl⟩
    | [], ha => cases ha
    | [p], ha =>
      simp only [grabShs, grabSh] at ha
      obtain ⟨a1, b1, h1, h2, h3⟩ := apO_some ha
      cases h2
    | p :: q :: r :: t, ha =>
      simp only [grabShs, grabSh] at ha
      obtain ⟨a1, b1, h1, h2, h3⟩ := apO_some ha
      obtain ⟨a2, b2, h4, h5, h6⟩ := apO_some h2
      cases h5
  obtain ⟨rfl, rfl⟩ : hs = [] ∧ b = [] := by
    match hs, hb with
    | [], hb => cases hb; exact ⟨rfl, rfl⟩
    | _ :: _, hb => cases hb
  obtain ⟨⟨l, n⟩, hx, hd⟩ := unDs_spec _ _ _ hF
  have e0 : d0 = .str l := dsub_str hd.1
  have e1 : d1 = .i .i64 n := dsub_i hd.2.1
  subst e0 e1
  have hF' : (bindO (F (l, n)) fun r => some ([SV.d (.str r)], ([] : List Blk))) = some (res, hs') := hx
  obtain ⟨r, hr, h2⟩ := bindO_some hF'
  cases h2
  have hsz := hp.sz
  obtain ⟨v0, v1, rfl⟩ : ∃ v0 v1, vs = #[v0, v1] := by
    have : vs.size = 2 := hsz
    refine ⟨vs[0]'(by omega), vs[1]'(by omega), ?_⟩
    apply Array.ext
    · simpa using this
    · intro i h1 h2
      simp at h2
      match i, h2 with
      | 0, _ => rfl
      | 1, _ => rfl
      | i + 2, h2 => omega
  have r0 := hp.args 0 v0 _ rfl rfl
  have r1 := hp.args 1 v1 _ rfl rfl
  have e0 : v0 = .string ⟨l.toArray⟩ := by cases r0 with | d h => cases h; rfl
  have e1 : v1 = .int .i64 n := by cases r1 with | d h => cases h; rfl
  subst e0 e1
  refine .inl ⟨hent _ _, (h l n r w hr).mono fun e w' ⟨he, bel⟩ => ⟨_, β, S, he, ?_⟩⟩
  exact ⟨.d (.str r), by simp, fun j k hk => by simp at hk, fun j j' ba ba' h1 => by simp at h1, fun j ba h1 => by simp at h1, fun j ba h1 => by simp at h1, fun j k h1 => by simp at h1, fun _ h => h,
    fun k hk => ⟨Nat.lt_of_lt_of_le (hp.sbd k hk) bel.size, .inl hk⟩, bel.os, bel.tape, bel.output, bel.size, fun k hk _ => bel.block k hk⟩

/-- What strings.Repeat gives, within one allocation. -/
def repF (x : List UInt8 × Int) : Option (List UInt8) := guard (decide (0 ≤ x.2 ∧ x.2 ≤ 9223372036854775807 ∧ x.1.length * x.2.toNat ≤ 140737488355328)) (some (Lib.repeatL x.1 x.2.toNat))

end Go.U
