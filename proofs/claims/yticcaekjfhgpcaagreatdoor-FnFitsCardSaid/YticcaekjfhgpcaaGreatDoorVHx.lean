/- A part of the proof. No condition. -/
import Derived.Test.YticcaekjfhgpcaaGreatDoorVHe
import Derived.Lib.Replace
set_option linter.unusedVariables false
set_option linter.unusedSimpArgs false
set_option linter.unusedSectionVars false
namespace Go.U
open Go Go.RowKit
theorem grab4 {t u p q : Ty} {args : List SV} {a : List D} (h : grabShs [.l (.v t), .l (.v u), .l (.v p), .l (.v q)] args = some a) : ∃ d0 d1 d2 d3, args = [.d d0, .d d1, .d d2, .d d3] ∧ a = [d0, d1, d2, d3] := by
  match args, h with
  | [], h => cases h
  | x0 :: l0, h =>
    simp only [grabShs, grabSh] at h
    obtain ⟨a1, b1, h1, h2, h3⟩ := apO_some h
    obtain ⟨d0, rfl, rfl⟩ := grab_v h1
    match l0, h2 with
    | [], h2 => cases h2
    | x1 :: l1, h2 =>
      simp only [grabShs, grabSh] at h2
      obtain ⟨a2, b2, h4, h5, h6⟩ := apO_some h2
      obtain ⟨d1, rfl, rfl⟩ := grab_v h4
      match l1, h5 with
      | [], h5 => cases h5
      | x2 :: l2, h5 =>
        simp only [grabShs, grabSh] at h5
        obtain ⟨a3, b3, h7, h8, h9⟩ := apO_some h5
        obtain ⟨d2, rfl, rfl⟩ := grab_v h7
        match l2, h8 with
        | [], h8 => cases h8
        | x3 :: l3, h8 =>
          simp only [grabShs, grabSh] at h8
          obtain ⟨a4, b4, h10, h11, h12⟩ := apO_some h8
          obtain ⟨d3, rfl, rfl⟩ := grab_v h10
          match l3, h11 with
          | [], h11 => cases h11; exact ⟨d0, d1, d2, d3, rfl, by rw [h3, h6, h9, h12]; rfl⟩
          | _ :: _, h11 => cases h11
section
variable {P : Program} [Gl P] {f : Nat} {rt : Ty}
theorem ct_sssi (F : List UInt8 × List UInt8 × List UInt8 × Int → Option rt.den) (hent : ∀ args w, (callFunc f args).run P w = .ok (.enter f args) w)
    (h : ∀ l m o n r w, (∀ g, g ∈ Gl.l P → GlAt P w g) → F (l, m, o, n) = some r → Calls P f #[.string ⟨l.toArray⟩, .string ⟨m.toArray⟩, .string ⟨o.toArray⟩, .int .i64 n] w fun e w' => ∃ v, e = .returned v ∧ RD w' (Fresh w w') v (leafD rt r) ∧ Below w.heap.size w w') :
    CtOk P f ⟨[.l (.v .s), .l (.v .s), .l (.v .s), .l (.v (.i .i64))], [], [.l (.v rt)], [], [], F⟩ := by
  intro w β S vs args hs res hs' hF hp
  unfold funOf at hF
  split at hF
  case h_2 => cases hF
  rename_i a b ha hb
  obtain ⟨d0, d1, d2, d3, rfl, rfl⟩ := grab4 ha
  obtain ⟨rfl, rfl⟩ := grab0 hb
  obtain ⟨⟨l, m, o, n⟩, hx, hd⟩ := unDs_spec _ _ _ hF
  have e0 : d0 = .str l := dsub_str hd.1
  have e1 : d1 = .str m := dsub_str hd.2.1
  have e2 : d2 = .str o := dsub_str hd.2.2.1
  have e3 : d3 = .i .i64 n := dsub_i hd.2.2.2.1
  subst e0 e1 e2 e3
  have hF' : (bindO (F (l, m, o, n)) fun r => some ([SV.d (leafD rt r)], ([] : List Blk))) = some (res, hs') := hx
  obtain ⟨r, hr, h2⟩ := bindO_some hF'
  cases h2
  have hsz := hp.sz
  obtain ⟨v0, v1, v2, v3, rfl⟩ : ∃ v0 v1 v2 v3, vs = #[v0, v1, v2, v3] := by
    have : vs.size = 4 := hsz
    refine ⟨vs[0]'(by omega), vs[1]'(by omega), vs[2]'(by omega), vs[3]'(by omega), ?_⟩
    apply Array.ext
    · simpa using this
    · intro i h1 h2
      simp at h2
      match i, h2 with
      | 0, _ => rfl
      | 1, _ => rfl
      | 2, _ => rfl
      | 3, _ => rfl
      | i + 4, h2 => omega
  have r0 := hp.args 0 v0 _ rfl rfl
  have r1 := hp.args 1 v1 _ rfl rfl
  have r2 := hp.args 2 v2 _ rfl rfl
  have r3 := hp.args 3 v3 _ rfl rfl
  have e0 : v0 = .string ⟨l.toArray⟩ := by cases r0 with | d h => cases h; rfl
  have e1 : v1 = .string ⟨m.toArray⟩ := by cases r1 with | d h => cases h; rfl
  have e2 : v2 = .string ⟨o.toArray⟩ := by cases r2 with | d h => cases h; rfl
  have e3 : v3 = .int .i64 n := by cases r3 with | d h => cases h; rfl
  subst e0 e1 e2 e3
  refine .inl ⟨hent _ _, (h l m o n r w (fun g hg => (hp.gl g hg).2) hr).mono fun e w' ⟨v, he, hv, bel⟩ => ⟨v, β, _, he, post_data hp hv bel⟩⟩
end
end Go.U
namespace Go.U.Tryz
open Go Go.U Go.Proofs Go.Proofs.Tryz
set_option maxRecDepth 100000
def rplF (x : List UInt8 × List UInt8 × List UInt8 × Int) : Option (List UInt8) := guard (decide (1 ≤ x.2.1.length ∧ x.1.length ≤ 1000 ∧ x.2.2.1.length ≤ 1000)) (some (Lib.replace x.1 x.2.1 x.2.2.1 x.2.2.2))
theorem c34 (K : Nat) : CtOk prog 34 ⟨[.l (.v .s), .l (.v .s), .l (.v .s), .l (.v (.i .i64))], [], [.l (.v .s)], [], [], rplF⟩ :=
  ct_sssi (rt := .s) rplF Tryz.call34 fun l m o n r w hg hr => by
    obtain ⟨h1, h2⟩ := guard_some hr
    obtain ⟨g0, g1, g2⟩ := of_decide_eq_true h1
    simp only at g0 g1 g2
    cases h2
    obtain ⟨x, hx⟩ := gl2 hg
    have hc := Lib.count_le l m
    have hm : Lib.count l m * o.length ≤ 1001 * 1000 := Nat.mul_le_mul (by omega) g2
    have b : l.length + Lib.count l m * o.length ≤ 140737488355328 := by omega
    refine (Tryz.strings_Replace ⟨l.toArray⟩ ⟨m.toArray⟩ ⟨o.toArray⟩ n x w (Nat.lt_of_le_of_lt g1 (by decide)) hx g0 b).mono ?_
    rintro e w' ⟨rfl, hb⟩
    exact ⟨_, rfl, .str _, hb⟩
def F34 (K : Nat) (x : List UInt8 × List UInt8 × List UInt8 × Int) : Option (List UInt8) := rplF x
def ct34 (K : Nat) : Ct := ⟨[.l (.v .s), .l (.v .s), .l (.v .s), .l (.v (.i .i64))], [], [.l (.v .s)], [], [], F34 K⟩
end Go.U.Tryz
