/- A builder whose first cell is nil or itself: one contract out of two. No condition. -/
import Derived.Test.YtaplcmgnmkfgjaaUYc
set_option linter.unusedVariables false
set_option linter.unusedSimpArgs false
set_option linter.unusedSectionVars false
namespace Go.U
open Go

def bldH (T e : Nat) (x : Lf) : List BSh := [⟨2, false, .mix (some T) [[.l x, .l (.bb 1)]]⟩, ⟨1, true, .row (.y e)⟩]

theorem HK.pon_cases {w : World} {β : Nat → Option BA} {S : Nat → Prop} {b : Nat} {s : Nat} {mv : Bool} {ty : Option TypeId} {y : SV} {b' : Nat} (h : HK w β S b ⟨s, mv, .mix ty [[.pon b' 0 0, y]]⟩) :
    HK w β S b ⟨s, mv, .mix ty [[.d .nilp, y]]⟩ ∨ HK w β S b ⟨s, mv, .mix ty [[.ptr b' 0 0, y]]⟩ := by
  rcases h with ⟨h1, _⟩ | ⟨ba, arr, ty', fz, h1, h2, h3, h4, h5, h6, h7, h8, h9⟩
  · cases h1
  · have key : ∀ x : SV, (∀ u, arr[ba.o + 0 * s + 0]? = some u → u.oneCell' = true → RS w β S u (.pon b' 0 0) → RS w β S u x) → HK w β S b ⟨s, mv, .mix ty [[x, y]]⟩ := fun x hx => by
      refine .inr ⟨ba, arr, ty', fz, h1, h2, h3, h4, h5.to rfl rfl rfl rfl, h6, h7, fun e l hl => h8 e l ?_, fun e c sv hc => ?_⟩
      · cases e with
        | zero => simpa [BC.lens?] using hl
        | succ e => simp [BC.lens?] at hl
      · cases e with
        | succ e => simp [BC.cell?] at hc
        | zero =>
          cases c with
          | zero =>
            simp [BC.cell?] at hc; subst hc
            obtain ⟨u, u1, u2, u3⟩ := h9 0 0 (.pon b' 0 0) (by simp [BC.cell?])
            exact ⟨u, u1, u2, hx u u1 u2 u3⟩
          | succ c => exact h9 0 (c + 1) sv (by simpa [BC.cell?] using hc)
    obtain ⟨u, u1, u2, u3⟩ := h9 0 0 (.pon b' 0 0) (by simp [BC.cell?])
    cases u3 with
    | pon0 => exact .inl (key _ fun u' q1 _ _ => by
        have e : u' = .pointer none := Option.some.inj (q1.symm.trans u1)
        rw [e]; exact .d .nilp)
    | pon b e c ba' hb => exact .inr (key _ fun u' q1 _ _ => by
        have e' : u' = _ := Option.some.inj (q1.symm.trans u1)
        rw [e']; exact .ptr _ 0 0 ba' hb)

theorem bld_inv {T e : Nat} {x : Lf} {hs : List Blk} {ds : List D} (h : grabBs (bldH T e x) hs = some ds) :
    ∃ s0 m0 t0 p q k1, hs = [⟨s0, m0, .mix t0 [[p, q]]⟩, k1] := by
  match hs, h with
  | [k0, k1], h =>
    simp only [bldH, grabBs] at h
    obtain ⟨a, b, h1, h2, _⟩ := apO_some h
    obtain ⟨s0, m0, c0⟩ := k0
    simp only [grabB] at h1
    split at h1
    · cases c0 with
      | row t xs => cases h1
      | mix t0 els =>
        simp only at h1
        split at h1
        · rcases els with _ | ⟨l, _ | ⟨_, _⟩⟩
          · cases h1
          · rcases l with _ | ⟨p, _ | ⟨q, _ | ⟨_, _⟩⟩⟩
            · simp [grabEs, grabShs, apO] at h1
            · simp [grabEs, grabShs, apO] at h1
            · exact ⟨s0, m0, t0, p, q, k1, rfl⟩
            · simp [grabEs, grabShs, apO] at h1
          · simp [grabEs, apO] at h1
        · cases h1
    · cases h1
  | [], h => cases h
  | [_], h =>
    simp only [bldH, grabBs] at h
    obtain ⟨a, b, h1, h2, _⟩ := apO_some h
    cases h2
  | _ :: _ :: _ :: _, h =>
    simp only [bldH, grabBs] at h
    obtain ⟨a, b, h1, h2, _⟩ := apO_some h
    obtain ⟨a', b', h3, h4, _⟩ := apO_some h2
    cases h4

theorem bld_head {T e : Nat} {s0 : Nat} {m0 : Bool} {t0 : Option TypeId} {p q : SV} {k1 : Blk} {ds : List D} (h : grabBs (bldH T e (.pon 0 0 0)) [⟨s0, m0, .mix t0 [[p, q]]⟩, k1] = some ds) : p = .ptr 0 0 0 ∨ p = .pon 0 0 0 ∨ p = .d .nilp := by
  simp only [bldH, grabBs] at h
  obtain ⟨a, b, h1, h2, _⟩ := apO_some h
  simp only [grabB] at h1
  split at h1
  · split at h1
    · simp only [grabEs] at h1
      obtain ⟨a1, b1, h3, _, _⟩ := apO_some h1
      simp only [grabShs, grabSh] at h3
      obtain ⟨a2, b2, h4, _, _⟩ := apO_some h3
      cases p with
      | ptr b e c =>
        simp only [grabL] at h4
        split at h4
        · rename_i e; obtain ⟨rfl, rfl, rfl⟩ := e; exact .inl rfl
        · cases h4
      | pon b e c =>
        simp only [grabL] at h4
        split at h4
        · rename_i e; obtain ⟨rfl, rfl, rfl⟩ := e; exact .inr (.inl rfl)
        · cases h4
      | d x =>
        cases x with
        | nilp => exact .inr (.inr rfl)
        | _ => cases h4
      | _ => cases h4
    · cases h1
  · cases h1

/-- **The one contract out of two.** -/
theorem ct_bld {P : Program} [Gl P] {f T e : Nat} {ps rs : List Sh} {hr : List BSh} {refs : List Bool} {F : tup (tysShs ps ++ [.l (.y e)]) → Option (tup (tysShs rs ++ tysBs hr))}
    (hA : CtOk P f ⟨ps, bldH T e .nilp, rs, hr, refs, F⟩) (hB : CtOk P f ⟨ps, bldH T e (.ptr 0 0 0), rs, hr, refs, F⟩) : CtOk P f ⟨ps, bldH T e (.pon 0 0 0), rs, hr, refs, F⟩ := by
  intro w β S vs args hs res hs' hF hp
  have hg : ∃ ds, grabBs (bldH T e (.pon 0 0 0)) hs = some ds := by
    unfold funOf at hF
    split at hF
    · exact ⟨_, by assumption⟩
    · cases hF
  obtain ⟨ds, hg⟩ := hg
  obtain ⟨s0, m0, t0, p, q, k1, rfl⟩ := bld_inv hg
  rcases bld_head hg with rfl | rfl | rfl
  · exact hB w β S vs args _ res hs' hF hp
  · have hk := hp.hp 0 _ rfl
    have sw : ∀ x : SV, HK w β S 0 ⟨s0, m0, .mix t0 [[x, q]]⟩ → Pre P w β S vs args [⟨s0, m0, .mix t0 [[x, q]]⟩, k1] := fun x hx =>
      ⟨hp.sz, hp.args, fun j k hj => by
        cases j with
        | zero => simp at hj; subst hj; exact ⟨hx, hk.2⟩
        | succ j => exact hp.hp (j + 1) k (by simpa using hj), hp.inj, hp.excl, hp.sbd, hp.n, hp.gl⟩
    have back : ∀ x : SV, (CallX P f vs w fun e w' => ∃ v β' S', e = .returned v ∧ Post w w' β β' S S' [⟨s0, m0, .mix t0 [[x, q]]⟩, k1] hs' v res) →
        CallX P f vs w fun e w' => ∃ v β' S', e = .returned v ∧ Post w w' β β' S S' [⟨s0, m0, .mix t0 [[.pon 0 0 0, q]]⟩, k1] hs' v res := fun x h =>
      h.mono fun e w' ⟨v, β', S', he, hq⟩ => ⟨v, β', S', he, hq.ret, hq.len, hq.hp, hq.inj, hq.excl, hq.loc, hq.fix, hq.sS, hq.s1, hq.os, hq.tape, hq.out, hq.size, hq.frame⟩
    rcases HK.pon_cases hk.1 with h | h
    · exact back (.d .nilp) (hA w β S vs args [⟨s0, m0, .mix t0 [[.d .nilp, q]]⟩, k1] res hs' hF (sw _ h))
    · exact back (.ptr 0 0 0) (hB w β S vs args [⟨s0, m0, .mix t0 [[.ptr 0 0 0, q]]⟩, k1] res hs' hF (sw _ h))
  · exact hA w β S vs args _ res hs' hF hp

end Go.U
