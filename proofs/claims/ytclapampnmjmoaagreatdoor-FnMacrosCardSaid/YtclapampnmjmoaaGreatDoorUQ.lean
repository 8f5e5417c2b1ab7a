/- A part of the proof. No condition. -/
import Derived.Test.YtclapampnmjmoaaGreatDoorUP
set_option linter.unusedVariables false
set_option linter.unusedSimpArgs false
set_option linter.unusedSectionVars false
namespace Go.U
open Go
mutual
def SV.pure : SV → Bool
  | .d _ | .undef => true
  | .agg cs => SV.pureL cs
  | .tup _ | .sl _ _ _ | .all _ | .ptr _ _ _ | .pon _ _ _ | .rptr _ | .clo _ _ | .bb _ => false
def SV.pureL : List SV → Bool
  | [] => true
  | c :: cs => SV.pure c && SV.pureL cs
end
def dataF (f : List SV → Option (List SV)) : Fun := fun args hs =>
  match SV.pureL args, hs with
  | true, [] => match f args with
    | some rs => if SV.pureL rs then some (rs, []) else none
    | none => none
  | _, _ => none
def retO (st : St) (dst : Option Nat) : Option (List SV) → Option St
  | some rs => if SV.pureL rs then some (st.put dst (retSV rs)) else none
  | none => none
def callD (f : List SV → Option (List SV)) (refs : List Bool) (st : St) (dst : Option Nat) (args : List SV) : Bool → Option St
  | true => retO st dst (f args)
  | false => opCall (dataF f) refs st dst args
mutual
theorem view_pure (hp : Nat → Option Blk) : ∀ (x : SV), x.pure = true → viewS hp x = some x ∧ x.slIds = [] ∧ x.ids = [] ∧ ∀ ρ, x.ren ρ = x
  | .d _, _ => ⟨rfl, rfl, rfl, fun _ => rfl⟩
  | .undef, _ => ⟨rfl, rfl, rfl, fun _ => rfl⟩
  | .agg cs, h => by
    obtain ⟨h1, h2, h3, h4⟩ := view_pureL hp cs h
    exact ⟨by simp [viewS, h1], h2, h3, fun ρ => by simp [SV.ren, h4]⟩
  | .tup _, h => by cases h
  | .sl _ _ _, h => by cases h
  | .all _, h => by cases h
  | .bb _, h => by cases h
  | .ptr _ _ _, h => by cases h
  | .pon _ _ _, h => by cases h
  | .rptr _, h => by cases h
  | .clo _ _, h => by cases h
theorem view_pureL (hp : Nat → Option Blk) : ∀ (cs : List SV), SV.pureL cs = true → viewL hp cs = some cs ∧ SV.slIdsL cs = [] ∧ SV.idsL cs = [] ∧ ∀ ρ, SV.renL ρ cs = cs
  | [], _ => ⟨rfl, rfl, rfl, fun _ => rfl⟩
  | c :: cs, h => by
    simp only [SV.pureL, Bool.and_eq_true] at h
    obtain ⟨h1, h2, h3, h4⟩ := view_pure hp c h.1
    obtain ⟨g1, g2, g3, g4⟩ := view_pureL hp cs h.2
    exact ⟨by simp [viewL, h1, g1], by simp [SV.slIdsL, h2, g2], by simp [SV.idsL, h3, g3], fun ρ => by simp [SV.renL, h4, g4]⟩
end
theorem prep_pure (hp : Nat → Option Blk) : ∀ (refs : List Bool) (cs : List SV), SV.pureL cs = true → prep hp refs cs = some (cs, [])
  | refs, [], _ => by cases refs with
    | nil => rfl
    | cons b l => cases b <;> rfl
  | [], c :: cs, h => by
    simp only [SV.pureL, Bool.and_eq_true] at h
    simp [prep, view_pure hp c h.1, prep_pure hp [] cs h.2]
  | true :: refs, c :: cs, h => by
    simp only [SV.pureL, Bool.and_eq_true] at h
    simp [prep, prep_pure hp refs cs h.2]
  | false :: refs, c :: cs, h => by
    simp only [SV.pureL, Bool.and_eq_true] at h
    simp [prep, view_pure hp c h.1, prep_pure hp refs cs h.2]
theorem opCall_dataF (f : List SV → Option (List SV)) (refs : List Bool) (st : St) (dst : Option Nat) (args : List SV) : opCall (dataF f) refs st dst args = callD f refs st dst args (SV.pureL args) := by
  cases hp : SV.pureL args with
  | false => rfl
  | true =>
    obtain ⟨_, _, h3, h4⟩ := view_pureL st.hp args hp
    unfold callD
    cases hf : f args with
    | none => simp [opCall, prep_pure st.hp refs args hp, h3, reach, h4, blocksOf, dataF, hp, hf, retO]
    | some rs =>
      cases hr : SV.pureL rs with
      | false => simp [opCall, prep_pure st.hp refs args hp, h3, reach, h4, blocksOf, dataF, hp, hf, retO, hr]
      | true =>
        obtain ⟨_, _, r3, r4⟩ := view_pureL st.hp rs hr
        simp [opCall, prep_pure st.hp refs args hp, h3, reach, h4, blocksOf, dataF, hp, hf, retO, hr, land, landOk, movedOf, news, landB, hsets, r3, r4]
section
variable {P : Program} [Gl P] {Y : TT P} {T : Tab}
def leL : List SV → List SV → Prop
  | [], [] => True
  | x :: xs, y :: ys => (y = .undef ∨ y = x) ∧ leL xs ys
  | _, _ => False
theorem leL_len : ∀ (l l' : List SV), leL l l' → l'.length = l.length
  | [], [], _ => rfl
  | x :: xs, y :: ys, h => by simp [leL_len xs ys h.2]
  | [], _ :: _, h => h.elim
  | _ :: _, [], h => h.elim
theorem leL_get : ∀ (l l' : List SV), leL l l' → ∀ (i : Nat) y, l'[i]? = some y → y = .undef ∨ l[i]? = some y
  | [], [], _, i, y, h => by simp at h
  | x :: xs, y :: ys, h, i, z, hz => by
    cases i with
    | zero => simp at hz; subst hz; rcases h.1 with h1 | h1; (· exact .inl h1); (· subst h1; exact .inr rfl)
    | succ i => simp at hz; simpa using leL_get xs ys h.2 i z hz
  | [], _ :: _, h, _, _, _ => h.elim
  | _ :: _, [], h, _, _, _ => h.elim
theorem Weak.drop {n0 : Nat} {st st' : St} (h : leL st.fr st'.fr) (hp : ∀ b k, st'.hp b = some k → st.hp b = some k) : Weak n0 st st' := by
  rintro P gP X a w _ _ ⟨hd, β, S, hr⟩
  refine ⟨hd, β, S, by rw [hr.size, leL_len _ _ h], fun t v sv h1 h2 => ?_, fun b k h1 => hr.hp b k (hp b k h1), fun b b' ba ba' k k' h1 h2 => hr.inj b b' ba ba' k k' (hp b k h1) (hp b' k' h2), fun b k ba h1 => hr.excl b k ba (hp b k h1), hr.sbd, hr.old, hr.os, hr.tape, hr.out, hr.grow, hr.s0, hr.s1, fun b k h0 h1 => hr.fix b k h0 (hp b k h1)⟩
  rcases leL_get _ _ h t sv h2 with rfl | h3
  · exact .undef v
  · exact hr.fr t v sv h1 h3
end
end Go.U
