/- Functions of pure data; the table of what functions do; less is known. No condition. -/
import Derived.Test.YthiglohhocelfaaVP
set_option linter.unusedVariables false
set_option linter.unusedSimpArgs false
namespace Go.V
open Go

mutual
/-- No block is met. -/
def SV.pure : SV → Bool
  | .d _ | .undef => true
  | .agg cs => SV.pureL cs
  | .tup _ | .sl _ _ _ | .ptr _ _ _ | .rptr _ | .clo _ _ => false
def SV.pureL : List SV → Bool
  | [] => true
  | c :: cs => SV.pure c && SV.pureL cs
end

/-- A function of data alone. -/
def dataF (f : List SV → Option (List SV)) : Fun := fun args hs =>
  match SV.pureL args, hs with
  | true, [] => match f args with
    | some rs => if SV.pureL rs then some (rs, []) else none
    | none => none
  | _, _ => none

/-- The table. -/
def tab : List (Nat × Fun × List Bool) → Tab
  | [], _ => none
  | (f, F, r) :: l, g => if g = f then some (F, r) else tab l g

theorem tab_nil (g : Nat) : tab [] g = none := rfl
theorem tab_cons (f : Nat) (F : Fun) (r : List Bool) (l : List (Nat × Fun × List Bool)) (g : Nat) : tab ((f, F, r) :: l) g = if g = f then some (F, r) else tab l g := rfl

theorem tabOk_nil {P : Program} : TabOk P (tab []) := fun _ _ _ h => by cases h
theorem tabOk_cons {P : Program} {f : Nat} {F : Fun} {r : List Bool} {l : List (Nat × Fun × List Bool)} (h : Con P f F) (hl : TabOk P (tab l)) : TabOk P (tab ((f, F, r) :: l)) := fun g G r' hg => by
  rw [tab_cons] at hg
  split at hg
  · rename_i e
    subst e
    cases hg; exact h
  · exact hl g G r' hg

/-- A call of a function of data. -/
def retO (st : St) (dst : Option Nat) : Option (List SV) → Option St
  | some rs => if SV.pureL rs then some (st.put dst (retSV rs)) else none
  | none => none

def callD (f : List SV → Option (List SV)) (refs : List Bool) (st : St) (dst : Option Nat) (args : List SV) : Bool → Option St
  | true => retO st dst (f args)
  | false => opCall (dataF f) refs st dst args

mutual
theorem view_pure (hp : Nat → Option Blk) : ∀ (x : SV), x.pure = true → viewS hp x = some x ∧ x.slIds = [] ∧ x.ids = [] ∧ ∀ ρ, x.ren ρ = x
  | .d _, _ => ⟨rfl, rfl, rfl, fun _ => rfl⟩
  | .undef, _ => ⟨rfl, rfl, rfl, fun _ => rfl⟩
  | .agg cs, h => by
    obtain ⟨h1, h2, h3, h4⟩ := view_pureL hp cs h
    exact ⟨by simp [viewS, h1], h2, h3, fun ρ => by simp [SV.ren, h4]⟩
  | .tup _, h => by cases h
  | .sl _ _ _, h => by cases h
  | .ptr _ _ _, h => by cases h
  | .rptr _, h => by cases h
  | .clo _ _, h => by cases h
theorem view_pureL (hp : Nat → Option Blk) : ∀ (cs : List SV), SV.pureL cs = true → viewL hp cs = some cs ∧ SV.slIdsL cs = [] ∧ SV.idsL cs = [] ∧ ∀ ρ, SV.renL ρ cs = cs
  | [], _ => ⟨rfl, rfl, rfl, fun _ => rfl⟩
  | c :: cs, h => by
    simp only [SV.pureL, Bool.and_eq_true] at h
    obtain ⟨h1, h2, h3, h4⟩ := view_pure hp c h.1
    obtain ⟨g1, g2, g3, g4⟩ := view_pureL hp cs h.2
    exact ⟨by simp [viewL, h1, g1], by simp [SV.slIdsL, h2, g2], by simp [SV.idsL, h3, g3], fun ρ => by simp [SV.renL, h4, g4]⟩
end

theorem prep_pure (hp : Nat → Option Blk) : ∀ (refs : List Bool) (cs : List SV), SV.pureL cs = true → prep hp refs cs = some (cs, [])
  | refs, [], _ => by cases refs with
    | nil => rfl
    | cons b l => cases b <;> rfl
  | [], c :: cs, h => by
    simp only [SV.pureL, Bool.and_eq_true] at h
    simp [prep, view_pure hp c h.1, prep_pure hp [] cs h.2]
  | true :: refs, c :: cs, h => by
    simp only [SV.pureL, Bool.and_eq_true] at h
    simp [prep, prep_pure hp refs cs h.2]
  | false :: refs, c :: cs, h => by
    simp only [SV.pureL, Bool.and_eq_true] at h
    simp [prep, view_pure hp c h.1, prep_pure hp refs cs h.2]

theorem opCall_dataF (f : List SV → Option (List SV)) (refs : List Bool) (st : St) (dst : Option Nat) (args : List SV) : opCall (dataF f) refs st dst args = callD f refs st dst args (SV.pureL args) := by
  cases hp : SV.pureL args with
  | false => rfl
  | true =>
    obtain ⟨_, _, h3, h4⟩ := view_pureL st.hp args hp
    unfold callD
    cases hf : f args with
    | none => simp [opCall, prep_pure st.hp refs args hp, h3, reach, h4, blocksOf, dataF, hp, hf, retO]
    | some rs =>
      cases hr : SV.pureL rs with
      | false => simp [opCall, prep_pure st.hp refs args hp, h3, reach, h4, blocksOf, dataF, hp, hf, retO, hr]
      | true =>
        obtain ⟨_, _, r3, r4⟩ := view_pureL st.hp rs hr
        simp [opCall, prep_pure st.hp refs args hp, h3, reach, h4, blocksOf, dataF, hp, hf, retO, hr, land, landOk, movedOf, news, landB, hsets, r3, r4]

section
variable {P : Program} {T : Tab}

/-- What is asked of a function of data. -/
def datQ (P : Program) (rvs : List ResultVar) (rs : List SV) : Qs := retQ P rvs 0 rs []

/-- W, closed: nothing looks into it by accident. -/
structure WP (P : Program) (T : Tab) (n0 : Nat) (c : Code) (Q : Qs) (st : St) : Prop where
  out : W P T n0 c Q st

theorem con_data {f : FuncId} {fn : Func} {rvs : List ResultVar} {nt : Nat} {F : List SV → Option (List SV)} (hf : P.funcs[f]? = some fn) (hname : (fn.name == "runtime.NumGoroutine") = false) (hb : fn.body.isSome = true)
    (hr : fn.results.toList = rvs) (hnt : fn.ntmps = nt) (hT : TabOk P T)
    (h : ∀ ds rs, F ds = some rs → SV.pureL rs = true → WP P T 0 (fn.body.getD .skip) (datQ P rvs rs) (st0 ds [] nt)) : Con P f (dataF F) := by
  subst hr; subst hnt
  refine con_of_W (c := fn.body.getD .skip) hf hname (by cases h : fn.body with | none => rw [h] at hb; cases hb | some c => rfl) hT fun args hs res hs' hF => ?_
  unfold dataF at hF
  cases hp : SV.pureL args with
  | false => rw [hp] at hF; cases hF
  | true =>
    rw [hp] at hF
    cases hs with
    | cons _ _ => cases hF
    | nil =>
      simp only at hF
      cases hf : F args with
      | none => rw [hf] at hF; cases hF
      | some rs =>
        rw [hf] at hF
        simp only at hF
        split at hF
        · rename_i hp
          cases hF
          exact (h args _ hf hp).out
        · cases hF

/-- What a function of data hands back. -/
theorem pack_data {rvs : List ResultVar} {st : St} {rs : List SV} (hp : SV.pureL rs = true) (h : resS P st rvs = some rs) : packS P rvs 0 st = some (rs, []) := by
  obtain ⟨_, _, h3, h4⟩ := view_pureL st.hp rs hp
  simp [packS, h, h3, h4, reach, packB]

theorem dat_r {rvs : List ResultVar} {st : St} {rs : List SV} (hp : SV.pureL rs = true) (h : resS P st rvs = some rs) : (datQ P rvs rs).r st := ⟨st, .refl 0 st, pack_data hp h⟩
theorem dat_n {rvs : List ResultVar} {st : St} {rs : List SV} (hp : SV.pureL rs = true) (h : resS P st rvs = some rs) : (datQ P rvs rs).n st := ⟨st, .refl 0 st, pack_data hp h⟩
theorem dat_rw {rvs : List ResultVar} {st st' : St} {rs : List SV} (hp : SV.pureL rs = true) (hw : Weak 0 st st') (h : resS P st' rvs = some rs) : (datQ P rvs rs).r st := ⟨st', hw, pack_data hp h⟩

/-! ### Less is known -/

def leL : List SV → List SV → Prop
  | [], [] => True
  | x :: xs, y :: ys => (y = .undef ∨ y = x) ∧ leL xs ys
  | _, _ => False

theorem leL_len : ∀ (l l' : List SV), leL l l' → l'.length = l.length
  | [], [], _ => rfl
  | x :: xs, y :: ys, h => by simp [leL_len xs ys h.2]
  | [], _ :: _, h => h.elim
  | _ :: _, [], h => h.elim

theorem leL_get : ∀ (l l' : List SV), leL l l' → ∀ (i : Nat) y, l'[i]? = some y → y = .undef ∨ l[i]? = some y
  | [], [], _, i, y, h => by simp at h
  | x :: xs, y :: ys, h, i, z, hz => by
    cases i with
    | zero => simp at hz; subst hz; rcases h.1 with h1 | h1; (· exact .inl h1); (· subst h1; exact .inr rfl)
    | succ i => simp at hz; simpa using leL_get xs ys h.2 i z hz
  | [], _ :: _, h, _, _, _ => h.elim
  | _ :: _, [], h, _, _, _ => h.elim

/-- Slots and blocks are let go. -/
theorem Weak.drop {n0 : Nat} {st st' : St} (h : leL st.fr st'.fr) (hp : ∀ b k, st'.hp b = some k → st.hp b = some k) : Weak n0 st st' := by
  rintro X a w _ _ ⟨hd, β, S, hr⟩
  refine ⟨hd, β, S, by rw [hr.size, leL_len _ _ h], fun t v sv h1 h2 => ?_, fun b k h1 => hr.hp b k (hp b k h1), fun b b' ba ba' k k' h1 h2 => hr.inj b b' ba ba' k k' (hp b k h1) (hp b' k' h2), fun b k ba h1 => hr.excl b k ba (hp b k h1), hr.sbd, hr.old, hr.os, hr.tape, hr.out, hr.grow, hr.s0, hr.s1, fun b k h0 h1 => hr.fix b k h0 (hp b k h1)⟩
  rcases leL_get _ _ h t sv h2 with rfl | h3
  · exact .undef v
  · exact hr.fr t v sv h1 h3

end
end Go.V
