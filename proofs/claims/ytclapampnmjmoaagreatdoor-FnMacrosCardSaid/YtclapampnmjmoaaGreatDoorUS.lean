/- A part of the proof. No condition. -/
import Derived.Test.YtclapampnmjmoaaGreatDoorUQ
set_option linter.unusedVariables false
set_option linter.unusedSimpArgs false
set_option linter.unusedSectionVars false
namespace Go.U
open Go
mutual
def SV.frz (b : Nat) (t : Ty) (xs : List t.den) : SV → SV
  | .sl b' off len => if b' = b then (if off + len ≤ xs.length then .d (.rov t ((xs.drop off).take len)) else .undef) else .sl b' off len
  | .all b' => if b' = b then .d (.rov t xs) else .all b'
  | .bb b' => if b' = b then .undef else .bb b'
  | .ptr b' e c => if b' = b then .undef else .ptr b' e c
  | .pon b' e c => if b' = b then .undef else .pon b' e c
  | .agg cs => .agg (SV.frzL b t xs cs)
  | .tup cs => .tup (SV.frzL b t xs cs)
  | .clo f caps => .clo f (SV.frzL b t xs caps)
  | .undef => .undef
  | .d x => .d x
  | .rptr cs => .rptr cs
def SV.frzL (b : Nat) (t : Ty) (xs : List t.den) : List SV → List SV
  | [] => []
  | c :: cs => SV.frz b t xs c :: SV.frzL b t xs cs
end
theorem SV.frzL_eq (b : Nat) (t : Ty) (xs : List t.den) (cs : List SV) : SV.frzL b t xs cs = cs.map (SV.frz b t xs) := by
  induction cs with
  | nil => rfl
  | cons c cs ih => simp only [SV.frzL, List.map_cons, ih]
def BC.frz (b : Nat) (t : Ty) (xs : List t.den) : BC → BC
  | .row t' r => .row t' r
  | .mix ty r => .mix ty (r.map (SV.frzL b t xs))
  | .map t' es => .map t' es
def Blk.frz (b : Nat) (t : Ty) (xs : List t.den) (k : Blk) : Blk := { k with c := k.c.frz b t xs }
theorem BC.len_frz (b : Nat) (t : Ty) (xs : List t.den) (c : BC) : (c.frz b t xs).len = c.len := by cases c <;> simp [BC.frz, BC.len]
theorem BC.ty_frz (b : Nat) (t : Ty) (xs : List t.den) (c : BC) : (c.frz b t xs).ty? = c.ty? := by cases c <;> rfl
theorem BC.lens_frz (b : Nat) (t : Ty) (xs : List t.den) (c : BC) (e : Nat) : (c.frz b t xs).lens? e = c.lens? e := by
  cases c with
  | row t' r => rfl
  | mix ty r => simp only [BC.frz, BC.lens?, List.getElem?_map]; cases r[e]? <;> simp [SV.frzL_eq]
  | map t' es => rfl
theorem BC.cell_frz (b : Nat) (t : Ty) (xs : List t.den) (c : BC) (e j : Nat) : (c.frz b t xs).cell? e j = (c.cell? e j).map (SV.frz b t xs) := by
  cases c with
  | row t' r =>
    simp only [BC.frz, BC.cell?]
    cases r[e]? with
    | none => rfl
    | some l => cases h : (t'.enc l)[j]? <;> simp [h, SV.frz]
  | mix ty r =>
    simp only [BC.frz, BC.cell?, List.getElem?_map]
    cases r[e]? with
    | none => rfl
    | some l => simp [SV.frzL_eq]
  | map t' es => rfl
def St.frz (st : St) (b : Nat) (t : Ty) (xs : List t.den) : St := { fr := st.fr.map (SV.frz b t xs), hp := fun x => if x = b then none else (st.hp x).map (Blk.frz b t xs) }
section
variable {P : Program} [Gl P] {X : Ctx P} {st : St} {tmps : Array Value} {w : World} {β : Nat → Option BA} {S : Nat → Prop}
theorem RS.frz {v : Value} {x : SV} {b s : Nat} {mv : Bool} {t : Ty} {xs : List t.den} {S' : Nat → Prop} (h : RS w β S v x) (hk : HK w β S b ⟨s, mv, .row t xs⟩) (hS : ∀ k, S k → S' k) (hb : ∀ ba, β b = some ba → S' ba.b) :
    RS w β S' v (x.frz b t xs) := by
  have key : ∀ (vs : Array Value) (cs : List SV), vs.size = cs.length → (∀ (i : Nat) v c, vs[i]? = some v → cs[i]? = some c → RS w β S' v (c.frz b t xs)) →
      vs.size = (SV.frzL b t xs cs).length ∧ ∀ (i : Nat) v c, vs[i]? = some v → (SV.frzL b t xs cs)[i]? = some c → RS w β S' v c := by
    intro vs cs hsz h
    rw [SV.frzL_eq]
    refine ⟨by simpa using hsz, fun i v c h1 h2 => ?_⟩
    rw [List.getElem?_map] at h2
    cases hc : cs[i]? with
    | none => rw [hc] at h2; cases h2
    | some c' => rw [hc] at h2; cases h2; exact h i v c' h1 hc
  induction h with
  | undef v => exact .undef v
  | d h => exact .d (h.wide hS)
  | agg vs cs hsz _ ih => have k := key vs cs hsz ih; exact .agg vs _ k.1 k.2
  | tup vs cs hsz _ ih => have k := key vs cs hsz ih; exact .tup vs _ k.1 k.2
  | sl0 A b' off =>
    simp only [SV.frz]
    split
    · split
      · simpa using RS.d (RD.rov0 (w := w) (S := S') A 0 t)
      · exact .undef _
    · exact .sl0 _ _ _
  | sl b' off len c ba hb' hc hn =>
    simp only [SV.frz]
    split
    · rename_i e
      subst e
      split
      · rename_i hle
        exact RD.own hk hb' hS (hb ba hb') hle hc
      · exact .undef _
    · exact .sl b' off len c ba hb' hc hn
  | all0 A b' hb' =>
    simp only [SV.frz]
    split
    · rename_i e
      subst e
      have h0 : xs = [] := List.length_eq_zero_iff.1 (hk.zero hb')
      subst h0
      exact .d (.rov0 _ _ _)
    · exact .all0 _ _ hb'
  | all b' c ba hb' hc hn =>
    simp only [SV.frz]
    split
    · rename_i e
      subst e
      have hl := (hk.facts hb').2
      simp only [BC.len] at hl
      rw [hl] at hc ⊢
      have := RD.own hk hb' (off := 0) (len := xs.length) (c := c) hS (hb ba hb') (by omega) hc
      simpa using this
    · exact .all b' c ba hb' hc hn
  | bb0 b' hb' =>
    simp only [SV.frz]; split
    · exact .undef _
    · exact .bb0 _ hb'
  | bb b' c ba hb' hc hn =>
    simp only [SV.frz]; split
    · exact .undef _
    · exact .bb b' c ba hb' hc hn
  | pon0 b' e c =>
    simp only [SV.frz]; split
    · exact .undef _
    · exact .pon0 _ _ _
  | pon b' e c ba hb' =>
    simp only [SV.frz]; split
    · exact .undef _
    · exact .pon b' e c ba hb'
  | ptr b' e c ba hb' =>
    simp only [SV.frz]; split
    · exact .undef _
    · exact .ptr b' e c ba hb'
  | rptr b o cs us h1 h2 h3 h4 => exact (RS.rptr b o cs us h1 h2 h3 h4).wide hS
  | clo f vs caps hf hsz _ ih => have k := key vs caps hsz ih; exact .clo f vs _ hf k.1 k.2
  | fsl b' o n c cs us h1 h2 h3 h4 h5 _ ih =>
    have hl : ∀ (j : Nat) y, (SV.frzL b t xs cs)[j]? = some y → ∃ x, cs[j]? = some x ∧ y = SV.frz b t xs x := fun j y g1 => by
      rw [SV.frzL_eq, List.getElem?_map] at g1
      cases hx : cs[j]? with
      | none => rw [hx] at g1; cases g1
      | some x => rw [hx] at g1; cases g1; exact ⟨x, rfl, rfl⟩
    refine .fsl b' o n c _ us (hS b' h1) h2 (by rw [SV.frzL_eq, List.length_map]; exact h3) h4 (fun j y g1 => ?_) (fun j y g1 => ?_)
    · obtain ⟨x, hx, rfl⟩ := hl j y g1; exact h5 j x hx
    · obtain ⟨x, hx, rfl⟩ := hl j y g1; exact ih j x hx
  | mp r x _ ih => exact .mp r _ ih
  | fpt b' o u x h1 h2 h3 _ ih => exact .fpt b' o u _ (hS b' h1) h2 h3 ih
theorem Weak.frz {n0 b s : Nat} {mv : Bool} {t : Ty} {xs : List t.den} (hb : st.hp b = some ⟨s, mv, .row t xs⟩) (hn : n0 ≤ b) (hj : ∀ j, j < n0 → ∃ k, st.hp j = some k ∧ k.mv = false) : Weak n0 st (st.frz b t xs) := by
  rintro P gP X a w h0 hok ⟨hd, β, S, hr⟩
  have hk := hr.hp b _ hb
  let S' : Nat → Prop := fun k => S k ∨ ∃ ba, β b = some ba ∧ ba.b = k
  have hS : ∀ k, S k → S' k := fun k h => .inl h
  have hbS : ∀ ba, β b = some ba → S' ba.b := fun ba h => .inr ⟨ba, h, rfl⟩
  have hget : ∀ {x k}, (st.frz b t xs).hp x = some k → x ≠ b ∧ ∃ k0, st.hp x = some k0 ∧ k = k0.frz b t xs := fun {x k} h => by
    simp only [St.frz] at h
    split at h
    · cases h
    · rename_i hx
      cases hh : st.hp x with
      | none => rw [hh] at h; cases h
      | some k0 => rw [hh] at h; cases h; exact ⟨hx, k0, rfl, rfl⟩
  refine ⟨hd, β, S', by simp [St.frz, hr.size], fun t v sv h1 h2 => ?_, fun x k h => ?_, fun x x' ba ba' k k' h1 h2 h3 h4 e => ?_, fun x k ba h1 h2 => ?_, fun k h => ?_, hr.old, hr.os, hr.tape, hr.out, hr.grow, fun k h h1 => ?_, fun k h => hS k (hr.s1 k h), fun x k hx h hmv => ?_⟩
  · simp only [St.frz, List.getElem?_map] at h2
    cases hf : st.fr[t]? with
    | none => rw [hf] at h2; cases h2
    | some sv0 => rw [hf] at h2; cases h2; exact (hr.fr t v sv0 h1 hf).frz hk hS hbS
  · obtain ⟨hx, k0, h1, rfl⟩ := hget h
    rcases hr.hp x k0 h1 with (⟨h2, h3⟩ | hm) | ⟨ba, arr, ty, fz, h2, h3, h4, h5, h6, h7, h8, h9, h10⟩
    · exact .inl (.inl ⟨by simpa [Blk.frz, BC.len_frz] using h2, h3⟩)
    · exact .inl (.inr (hm.to (fun t es e => by simp only [Blk.frz, e, BC.frz]) rfl rfl (fun _ _ => rfl) (fun k hk => ⟨hS k hk, rfl⟩) (Nat.le_refl _)))
    · refine .inr ⟨ba, arr, ty, fz, h2, by simpa [Blk.frz, BC.len_frz, BC.ty_frz] using h3, h4, h5, h6.to (by simp [Blk.frz, BC.ty_frz]) (by simp [Blk.frz, BC.len_frz]) rfl rfl, h7, by simpa [Blk.frz, BC.len_frz] using h8, by simpa [Blk.frz, BC.lens_frz] using h9, fun e c sv hc => ?_⟩
      simp only [Blk.frz, BC.cell_frz] at hc
      cases hcc : k0.c.cell? e c with
      | none => rw [hcc] at hc; cases hc
      | some sv0 =>
        rw [hcc] at hc; cases hc
        obtain ⟨u, u1, u2, u3⟩ := h10 e c sv0 hcc
        exact ⟨u, u1, u2, u3.frz hk hS hbS⟩
  · obtain ⟨_, k0, g1, _⟩ := hget h1
    obtain ⟨_, k0', g1', _⟩ := hget h2
    exact hr.inj x x' ba ba' k0 k0' g1 g1' h3 h4 e
  · obtain ⟨hx, k0, g1, _⟩ := hget h1
    refine ⟨?_, (hr.excl x k0 ba g1 h2).2⟩
    rintro (h3 | ⟨ba', h3, h4⟩)
    · exact (hr.excl x k0 ba g1 h2).1 h3
    · exact hx (hr.inj x b ba ba' k0 _ g1 hb h2 h3 h4.symm)
  · rcases h with h | ⟨ba, h1, rfl⟩
    · exact hr.sbd k h
    · exact HK.lt hk h1
  · rcases h with h | ⟨ba, h2, rfl⟩
    · exact hr.s0 k h h1
    · exfalso
      rcases (hr.excl b _ ba hb h2).2 with h3 | h3
      · omega
      · obtain ⟨j, ba', g1, g2, g3⟩ := hok _ h3
        rw [h0] at g1
        obtain ⟨k', g4, g5⟩ := hj j g1
        have g6 := hr.fix j k' (by omega) g4 g5
        rw [g2] at g6
        have := hr.inj j b ba' ba k' _ g4 hb g6 h2 g3
        omega
  · obtain ⟨_, k0, g1, rfl⟩ := hget h
    exact hr.fix x k0 hx g1 hmv
end
end Go.U
