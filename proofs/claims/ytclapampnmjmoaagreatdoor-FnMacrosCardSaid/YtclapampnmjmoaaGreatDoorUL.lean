/- A part of the proof. No condition. -/
import Derived.Test.YtclapampnmjmoaaGreatDoorUK
set_option linter.unusedVariables false
set_option linter.unusedSimpArgs false
set_option linter.unusedSectionVars false
namespace Go.U
open Go
mutual
def SV.ren (ρ : Nat → Nat) : SV → SV
  | .sl b off len => .sl (ρ b) off len
  | .all b => .all (ρ b)
  | .bb b => .bb (ρ b)
  | .ptr b e c => .ptr (ρ b) e c
  | .pon b e c => .pon (ρ b) e c
  | .agg cs => .agg (SV.renL ρ cs)
  | .tup cs => .tup (SV.renL ρ cs)
  | .clo f caps => .clo f (SV.renL ρ caps)
  | .undef => .undef
  | .d x => .d x
  | .rptr cs => .rptr cs
def SV.renL (ρ : Nat → Nat) : List SV → List SV
  | [] => []
  | c :: cs => SV.ren ρ c :: SV.renL ρ cs
end
mutual
def SV.ids : SV → List Nat
  | .sl b _ _ => [b]
  | .all b => [b]
  | .bb b => [b]
  | .ptr b _ _ => [b]
  | .pon b _ _ => [b]
  | .agg cs => SV.idsL cs
  | .tup cs => SV.idsL cs
  | .clo _ caps => SV.idsL caps
  | .undef => []
  | .d _ => []
  | .rptr _ => []
def SV.idsL : List SV → List Nat
  | [] => []
  | c :: cs => SV.ids c ++ SV.idsL cs
end
theorem SV.renL_eq (ρ : Nat → Nat) (cs : List SV) : SV.renL ρ cs = cs.map (SV.ren ρ) := by
  induction cs with
  | nil => rfl
  | cons c cs ih => simp only [SV.renL, List.map_cons, ih]
theorem SV.mem_idsL {b : Nat} {cs : List SV} {c : SV} (hc : c ∈ cs) (hb : b ∈ c.ids) : b ∈ SV.idsL cs := by
  induction cs with
  | nil => cases hc
  | cons x cs ih =>
    simp only [SV.idsL, List.mem_append]
    cases hc with
    | head => exact .inl hb
    | tail _ h => exact .inr (ih h)
theorem SV.mem_ids {b : Nat} {x : SV} (h : SV.Uses b x) : b ∈ x.ids := by
  induction h with
  | sl off len => simp [SV.ids]
  | all => simp [SV.ids]
  | bb => simp [SV.ids]
  | ptr e c => simp [SV.ids]
  | pon e c => simp [SV.ids]
  | agg hc _ ih => simp only [SV.ids]; exact SV.mem_idsL hc ih
  | tup hc _ ih => simp only [SV.ids]; exact SV.mem_idsL hc ih
  | clo hc _ ih => simp only [SV.ids]; exact SV.mem_idsL hc ih
theorem RS.ren {w : World} {β β' : Nat → Option BA} {S : Nat → Prop} {ρ : Nat → Nat} {v : Value} {x : SV} (h : RS w β S v x) (hβ : ∀ b, SV.Uses b x → β' (ρ b) = β b) : RS w β' S v (x.ren ρ) := by
  have key : ∀ (vs : Array Value) (cs : List SV), vs.size = cs.length → (∀ (i : Nat) v c, vs[i]? = some v → cs[i]? = some c → RS w β' S v (c.ren ρ)) →
      vs.size = (SV.renL ρ cs).length ∧ ∀ (i : Nat) v c, vs[i]? = some v → (SV.renL ρ cs)[i]? = some c → RS w β' S v c := by
    intro vs cs hsz h
    rw [SV.renL_eq]
    refine ⟨by simpa using hsz, fun i v c h1 h2 => ?_⟩
    rw [List.getElem?_map] at h2
    cases hc : cs[i]? with
    | none => rw [hc] at h2; cases h2
    | some c' => rw [hc] at h2; cases h2; exact h i v c' h1 hc
  induction h with
  | undef v => exact .undef v
  | d h => exact .d h
  | agg vs cs hsz _ ih => have k := key vs cs hsz fun i v c h1 h2 => ih i v c h1 h2 fun b hb => hβ b (.agg (List.mem_of_getElem? h2) hb); exact .agg vs _ k.1 k.2
  | tup vs cs hsz _ ih => have k := key vs cs hsz fun i v c h1 h2 => ih i v c h1 h2 fun b hb => hβ b (.tup (List.mem_of_getElem? h2) hb); exact .tup vs _ k.1 k.2
  | sl0 A b off => exact .sl0 A _ off
  | sl b off len c ba hb hc hn => exact .sl _ off len c ba ((hβ b (.sl off len)).trans hb) hc hn
  | all0 A b hb => exact .all0 A _ ((hβ b .all).trans hb)
  | all b c ba hb hc hn => exact .all _ c ba ((hβ b .all).trans hb) hc hn
  | bb0 b hb => exact .bb0 _ ((hβ b .bb).trans hb)
  | bb b c ba hb hc hn => exact .bb _ c ba ((hβ b .bb).trans hb) hc hn
  | ptr b e c ba hb => exact .ptr _ e c ba ((hβ b (.ptr e c)).trans hb)
  | pon0 b e c => exact .pon0 _ e c
  | pon b e c ba hb => exact .pon _ e c ba ((hβ b (.pon e c)).trans hb)
  | rptr b o cs us hS hb hcell hr => exact .rptr b o cs us hS hb hcell hr
  | mp r x _ ih => exact .mp r _ (ih fun b hb => hβ b (.clo (List.mem_cons_self ..) hb))
  | clo f vs caps hf hsz _ ih => have k := key vs caps hsz fun i v c h1 h2 => ih i v c h1 h2 fun b hb => hβ b (.clo (List.mem_of_getElem? h2) hb); exact .clo f vs _ hf k.1 k.2
  | fsl b o n c cs us hS hb hn hc hcell _ ih =>
    have hl : ∀ (j : Nat) y, (SV.renL ρ cs)[j]? = some y → ∃ x, cs[j]? = some x ∧ y = x.ren ρ := fun j y h1 => by
      rw [SV.renL_eq, List.getElem?_map] at h1
      cases hx : cs[j]? with
      | none => rw [hx] at h1; cases h1
      | some x => rw [hx] at h1; cases h1; exact ⟨x, rfl, rfl⟩
    refine .fsl b o n c _ us hS hb (by rw [SV.renL_eq, List.length_map]; exact hn) hc (fun j y h1 => ?_) (fun j y h1 => ?_)
    · obtain ⟨x, hx, rfl⟩ := hl j y h1; exact hcell j x hx
    · obtain ⟨x, hx, rfl⟩ := hl j y h1; exact ih j x hx fun b hb => hβ b (.clo (List.mem_of_getElem? hx) hb)
  | fpt b o u x hS hb hcell _ ih => exact .fpt b o u _ hS hb hcell (ih fun b hb => hβ b (.clo (List.mem_cons_self ..) hb))
def BC.ren (ρ : Nat → Nat) : BC → BC
  | .row t xs => .row t xs
  | .mix ty els => .mix ty (els.map (SV.renL ρ))
  | .map t es => .map t es
def BC.ids : BC → List Nat
  | .row _ _ => []
  | .mix _ els => els.flatMap SV.idsL
  | .map _ _ => []
mutual
theorem SV.ren_ren {f g : Nat → Nat} : ∀ (x : SV), (∀ b ∈ x.ids, g (f b) = b) → (x.ren f).ren g = x
  | .sl b _ _, h => by simp only [SV.ren]; rw [h b (by simp [SV.ids])]
  | .all b, h => by simp only [SV.ren]; rw [h b (by simp [SV.ids])]
  | .bb b, h => by simp only [SV.ren]; rw [h b (by simp [SV.ids])]
  | .ptr b _ _, h => by simp only [SV.ren]; rw [h b (by simp [SV.ids])]
  | .pon b _ _, h => by simp only [SV.ren]; rw [h b (by simp [SV.ids])]
  | .agg cs, h => by simp only [SV.ren]; rw [SV.renL_ren cs (by simpa [SV.ids] using h)]
  | .tup cs, h => by simp only [SV.ren]; rw [SV.renL_ren cs (by simpa [SV.ids] using h)]
  | .clo _ cs, h => by simp only [SV.ren]; rw [SV.renL_ren cs (by simpa [SV.ids] using h)]
  | .undef, _ => rfl
  | .d _, _ => rfl
  | .rptr _, _ => rfl
theorem SV.renL_ren {f g : Nat → Nat} : ∀ (cs : List SV), (∀ b ∈ SV.idsL cs, g (f b) = b) → SV.renL g (SV.renL f cs) = cs
  | [], _ => rfl
  | c :: cs, h => by
    simp only [SV.renL]
    rw [SV.ren_ren c fun b hb => h b (by simp [SV.idsL, hb]), SV.renL_ren cs fun b hb => h b (by simp [SV.idsL, hb])]
end
theorem BC.ren_ren {f g : Nat → Nat} (c : BC) (h : ∀ b ∈ c.ids, g (f b) = b) : (c.ren f).ren g = c := by
  cases c with
  | row t xs => rfl
  | mix ty els =>
    simp only [BC.ren, List.map_map]
    congr 1
    conv => rhs; rw [← List.map_id els]
    exact List.map_congr_left fun l hl => SV.renL_ren l fun b hb => h b (List.mem_flatMap.2 ⟨l, hl, hb⟩)
  | map t es => rfl
theorem BC.len_ren (ρ : Nat → Nat) (c : BC) : (c.ren ρ).len = c.len := by cases c <;> simp [BC.ren, BC.len]
theorem BC.ty_ren (ρ : Nat → Nat) (c : BC) : (c.ren ρ).ty? = c.ty? := by cases c <;> rfl
theorem BC.lens_ren (ρ : Nat → Nat) (c : BC) (e : Nat) : (c.ren ρ).lens? e = c.lens? e := by
  cases c with
  | row t xs => rfl
  | mix ty els => simp only [BC.ren, BC.lens?, List.getElem?_map]; cases els[e]? <;> simp [SV.renL_eq]
  | map t es => rfl
theorem BC.cell_ren (ρ : Nat → Nat) (c : BC) (e j : Nat) : (c.ren ρ).cell? e j = (c.cell? e j).map (SV.ren ρ) := by
  cases c with
  | row t xs =>
    simp only [BC.ren, BC.cell?]
    cases xs[e]? with
    | none => rfl
    | some l => cases h : (t.enc l)[j]? <;> simp [h, SV.ren]
  | mix ty els =>
    simp only [BC.ren, BC.cell?, List.getElem?_map]
    cases els[e]? with
    | none => rfl
    | some l => simp [SV.renL_eq]
  | map t es => rfl
theorem BC.mem_ids {c : BC} {e j : Nat} {sv : SV} {b : Nat} (h : c.cell? e j = some sv) (hu : SV.Uses b sv) : b ∈ c.ids := by
  cases c with
  | row t xs =>
    simp only [BC.cell?] at h
    cases he : xs[e]? with
    | none => rw [he] at h; cases h
    | some l =>
      rw [he] at h; simp at h
      obtain ⟨x, _, rfl⟩ := h
      cases hu
  | mix ty els =>
    simp only [BC.cell?] at h
    cases he : els[e]? with
    | none => rw [he] at h; cases h
    | some l =>
      rw [he] at h
      simp only [BC.ids, List.mem_flatMap]
      exact ⟨l, List.mem_of_getElem? he, SV.mem_idsL (List.mem_of_getElem? h) (SV.mem_ids hu)⟩
  | map t es => cases h
theorem HK.ren {w : World} {β β' : Nat → Option BA} {S : Nat → Prop} {ρ : Nat → Nat} {b b' : Nat} {k : Blk} (h : HK w β S b k) (hb : β' b' = β b) (hβ : ∀ x ∈ k.c.ids, β' (ρ x) = β x) (mv : Bool) :
    HK w β' S b' ⟨k.s, mv, k.c.ren ρ⟩ := by
  rcases h with (⟨h1, h2⟩ | hm) | ⟨ba, arr, ty, fz, h1, h2, h3, h4, h5, h6, h7, h8, h9⟩
  · exact .inl (.inl ⟨by simpa [BC.len_ren] using h1, hb.trans h2⟩)
  · exact .inl (.inr (hm.to (fun t es e => by simp only [e, BC.ren]) rfl hb (fun _ _ => rfl) (fun _ hk => ⟨hk, rfl⟩) (Nat.le_refl _)))
  · refine .inr ⟨ba, arr, ty, fz, hb.trans h1, by simpa [BC.len_ren, BC.ty_ren] using h2, h3, h4, h5.to (by simp [BC.ty_ren]) (by simp [BC.len_ren]) rfl rfl, h6, by simpa [BC.len_ren] using h7, by simpa [BC.lens_ren] using h8, fun e c sv hc => ?_⟩
    simp only [BC.cell_ren] at hc
    cases hcc : k.c.cell? e c with
    | none => rw [hcc] at hc; cases hc
    | some sv0 =>
      rw [hcc] at hc; cases hc
      obtain ⟨u, u1, u2, u3⟩ := h9 e c sv0 hcc
      exact ⟨u, u1, u2, u3.ren fun x hx => hβ x (BC.mem_ids hcc hx)⟩
def killAll (K : List Nat) (sv : SV) : SV := K.foldl (fun s b => s.kill b) sv
def Blk.killAll (K : List Nat) (k : Blk) : Blk := K.foldl (fun s b => s.kill b) k
theorem killAll_cons (b : Nat) (K : List Nat) (sv : SV) : killAll (b :: K) sv = killAll K (sv.kill b) := rfl
theorem Blk.killAll_cons (b : Nat) (K : List Nat) (k : Blk) : Blk.killAll (b :: K) k = Blk.killAll K (k.kill b) := rfl
theorem Blk.killAll_facts (K : List Nat) : ∀ k : Blk, (k.killAll K).s = k.s ∧ (k.killAll K).c.ty? = k.c.ty? ∧ (k.killAll K).mv = k.mv ∧ (k.killAll K).c.len = k.c.len ∧ (∀ e, (k.killAll K).c.lens? e = k.c.lens? e) ∧ ∀ e c, (k.killAll K).c.cell? e c = (k.c.cell? e c).map (Go.U.killAll K) := by
  induction K with
  | nil => intro k; exact ⟨rfl, rfl, rfl, rfl, fun _ => rfl, fun e c => by show k.c.cell? e c = Option.map (fun x => x) _; simp⟩
  | cons b K ih =>
    intro k
    obtain ⟨h1, h1', h2, h3, h4, h5⟩ := ih (k.kill b)
    refine ⟨h1, h1'.trans (by simp [Blk.kill, BC.ty_kill]), h2, h3.trans (by simp [Blk.kill, BC.len_kill]), fun e => (h4 e).trans (by simp [Blk.kill, BC.lens_kill]), fun e c => ?_⟩
    rw [Blk.killAll_cons, h5]
    simp only [Blk.kill, BC.cell_kill, Option.map_map]
    rfl
theorem Blk.killAll_map (K : List Nat) : ∀ (k : Blk) {t : Ty} {es : List (List UInt8 × t.den)}, k.c = .map t es → (k.killAll K).c = .map t es := by
  induction K with
  | nil => intro k t es h; exact h
  | cons b K ih => intro k t es h; rw [Blk.killAll_cons]; exact ih _ (by simp only [Blk.kill, h, BC.kill])
section
variable {P : Program} [Gl P] {Y : TT P} {X : Ctx P} {st : St} {a : Act} {tmps : Array Value} {w : World} {β : Nat → Option BA} {S : Nat → Prop}
theorem RS.killAll {w' : World} {S' : Nat → Prop} (hw : ∀ k, S k → S' k ∧ w'.heap[k]? = w.heap[k]?) (hs : w.heap.size ≤ w'.heap.size) {v : Value} (K : List Nat) : ∀ {β β' : Nat → Option BA} {x : SV},
    RS w β S v x → (∀ b, b ∉ K → β' b = β b) → RS w' β' S' v (killAll K x) := by
  have base : ∀ (K : List Nat) {β β' : Nat → Option BA} {x : SV}, RS w' β S' v x → (∀ b, b ∉ K → β' b = β b) → RS w' β' S' v (Go.U.killAll K x) := by
    intro K
    induction K with
    | nil => intro β β' x h hβ; exact h.mono (fun _ hk => ⟨hk, rfl⟩) (Nat.le_refl _) fun b _ => hβ b (by simp)
    | cons b K ih =>
      intro β β' x h hβ
      rw [killAll_cons]
      refine ih (β := fun y => if y = b then β' b else β y) (h.kill (fun _ hk => ⟨hk, rfl⟩) (Nat.le_refl _) fun b' hb' => if_neg hb') fun b' hb' => ?_
      by_cases e : b' = b
      · subst e; simp
      · simp only [e, if_false]; exact hβ b' (by simp [e, hb'])
  intro β β' x h hβ
  exact base K (h.mono hw hs fun _ _ => rfl) hβ
theorem Rel.many (hr : Rel X st tmps w β S) (U K : List Nat) (β1 : Nat → Option BA) (h1 : Nat → Option Blk) {w' : World} {S1 : Nat → Prop}
    (hos : w'.os = w.os) (htape : w'.tape = w.tape) (hout : w'.output = w.output) (hs : w.heap.size ≤ w'.heap.size)
    (hS : ∀ k, S k → S1 k) (hS1 : ∀ k, S1 k → k < w'.heap.size ∧ (S k ∨ w.heap.size ≤ k))
    (hother : ∀ j, j < w.heap.size → (∀ b ∈ U, ∀ ba k, st.hp b = some k → β b = some ba → j ≠ ba.b) → w'.heap[j]? = w.heap[j]?)
    (hβ : ∀ b, b ∉ K → β1 b = β b) (hKU : ∀ b ∈ K, b ∈ U)
    (hU : ∀ b ∈ U, ∃ k, h1 b = some k ∧ HK w' β1 S1 b k)
    (hinj : ∀ b ∈ U, ∀ b' ∈ U, ∀ ba ba', β1 b = some ba → β1 b' = some ba' → ba.b = ba'.b → b = b')
    (hloc : ∀ b ∈ U, ∀ ba, β1 b = some ba → (∃ b0 ∈ U, ∃ k0 ba0, st.hp b0 = some k0 ∧ β b0 = some ba0 ∧ ba0.b = ba.b) ∨ w.heap.size ≤ ba.b)
    (hexcl : ∀ b ∈ U, ∀ ba, β1 b = some ba → ¬ S1 ba.b)
    (hfix : ∀ b ∈ U, b < X.n0 → ∀ k, h1 b = some k → k.mv = false → β1 b = X.β0 b) :
    Rel X { fr := st.fr.map (killAll K), hp := fun x => if x ∈ U then h1 x else (st.hp x).map (Blk.killAll K) } tmps w' β1 S1 := by
  have hSw : ∀ k, S k → S1 k ∧ w'.heap[k]? = w.heap[k]? := fun k hk => ⟨hS k hk, hother k (hr.sbd k hk) fun b _ ba kk hb hba e => (hr.excl b kk ba hb hba).1 (e ▸ hk)⟩
  have hnU : ∀ {x k}, x ∉ U → (if x ∈ U then h1 x else (st.hp x).map (Blk.killAll K)) = some k → ∃ k0, st.hp x = some k0 ∧ k = k0.killAll K := fun {x k} hx h => by
    rw [if_neg hx] at h
    cases hh : st.hp x with
    | none => rw [hh] at h; cases h
    | some k0 => rw [hh] at h; cases h; exact ⟨k0, rfl, rfl⟩
  have hnK : ∀ {x}, x ∉ U → β1 x = β x := fun {x} hx => hβ x fun h => hx (hKU x h)
  have hfar : ∀ {x k ba}, x ∉ U → st.hp x = some k → β x = some ba → ∀ b ∈ U, ∀ ba' kk, st.hp b = some kk → β b = some ba' → ba.b ≠ ba'.b := fun {x k ba} hx hk hba b hb ba' kk hkk hba' e => hx (hr.inj x b ba ba' k kk hk hkk hba hba' e ▸ hb)
  refine ⟨by simp [hr.size], ?_, ?_, ?_, ?_, fun k hk => (hS1 k hk).1, ?_, hos.trans hr.os, htape.trans hr.tape, hout.trans hr.out, Nat.le_trans hr.grow hs, fun k hk hlt => ?_, fun k hk => hS k (hr.s1 k hk), ?_⟩
  · intro t v sv h2 h3
    rw [List.getElem?_map] at h3
    cases hc : st.fr[t]? with
    | none => rw [hc] at h3; cases h3
    | some c => rw [hc] at h3; cases h3; exact (hr.fr t v c h2 hc).killAll hSw hs K hβ
  · intro x k hx
    by_cases hxU : x ∈ U
    · simp only [hxU, if_true] at hx
      obtain ⟨k', hk1, hk2⟩ := hU x hxU
      rw [hx] at hk1; cases hk1; exact hk2
    · obtain ⟨k0, hk0, rfl⟩ := hnU hxU hx
      obtain ⟨f1, fty, f2, f3, f4, f5⟩ := Blk.killAll_facts K k0
      rcases hr.hp x k0 hk0 with (⟨a1, a2⟩ | hm) | ⟨ba, arr, ty, fz, g1, g2, g3, g4, g5, g6, g7, g8, g9⟩
      · exact .inl (.inl ⟨f3.trans a1, (hnK hxU).trans a2⟩)
      · exact .inl (.inr (hm.to (fun t es e => Blk.killAll_map K k0 e) f1 (hnK hxU) (fun ba g1 => hother ba.b (hm.lt g1) fun b hb ba' kk hkk hba' => hfar hxU hk0 g1 b hb ba' kk hkk hba') hSw hs))
      · refine .inr ⟨ba, arr, ty, fz, (hnK hxU).trans g1, by rw [f1, f3, fty]; exact g2, by rw [f1]; exact g3, ?_, g5.to fty f3 f1 rfl, g6, by rw [f1, f3]; exact g7, fun e l hl => by rw [f1]; exact g8 e l (by rw [← f4]; exact hl), fun e c sv hc => ?_⟩
        · rw [hother ba.b (Array.getElem?_eq_some_iff.1 g4).1 fun b hb ba' kk hkk hba' => hfar hxU hk0 g1 b hb ba' kk hkk hba']; exact g4
        · rw [f5] at hc
          cases hcc : k0.c.cell? e c with
          | none => rw [hcc] at hc; cases hc
          | some c0 =>
            rw [hcc] at hc; cases hc
            obtain ⟨u, u1, u2, u3⟩ := g9 e c c0 hcc
            exact ⟨u, by rw [f1]; exact u1, u2, u3.killAll hSw hs K hβ⟩
  · intro x x' ba ba' k k2 hx hx' hba hba' e
    by_cases hxU : x ∈ U
    · by_cases hxU' : x' ∈ U
      · exact hinj x hxU x' hxU' ba ba' hba hba' e
      · exfalso
        obtain ⟨k0, hk0, _⟩ := hnU hxU' hx'
        rw [hnK hxU'] at hba'
        rcases hloc x hxU ba hba with ⟨b0, hb0, k1, ba0, c1, c2, c3⟩ | hge
        · exact hfar hxU' hk0 hba' b0 hb0 ba0 k1 c1 c2 (by rw [← e, c3])
        · have := HK.lt (hr.hp x' k0 hk0) hba'; omega
    · obtain ⟨k0, hk0, _⟩ := hnU hxU hx
      rw [hnK hxU] at hba
      by_cases hxU' : x' ∈ U
      · exfalso
        rcases hloc x' hxU' ba' hba' with ⟨b0, hb0, k1, ba0, c1, c2, c3⟩ | hge
        · exact hfar hxU hk0 hba b0 hb0 ba0 k1 c1 c2 (by rw [e, c3])
        · have := HK.lt (hr.hp x k0 hk0) hba; omega
      · obtain ⟨k1, hk1, _⟩ := hnU hxU' hx'
        rw [hnK hxU'] at hba'
        exact hr.inj x x' ba ba' k0 k1 hk0 hk1 hba hba' e
  · intro x k ba hx hba
    by_cases hxU : x ∈ U
    · refine ⟨hexcl x hxU ba hba, ?_⟩
      rcases hloc x hxU ba hba with ⟨b0, hb0, k1, ba0, c1, c2, c3⟩ | hge
      · rw [← c3]; exact (hr.excl b0 k1 ba0 c1 c2).2
      · exact .inl (Nat.le_trans hr.grow hge)
    · obtain ⟨k0, hk0, _⟩ := hnU hxU hx
      rw [hnK hxU] at hba
      obtain ⟨e1, e2⟩ := hr.excl x k0 ba hk0 hba
      refine ⟨fun h => ?_, e2⟩
      rcases (hS1 _ h).2 with h | h
      · exact e1 h
      · have := HK.lt (hr.hp x k0 hk0) hba; omega
  · intro k hk ho
    refine (hother k (Nat.lt_of_lt_of_le hk hr.grow) fun b _ ba kk hb hba e => ?_).trans (hr.old k hk ho)
    rcases (hr.excl b kk ba hb hba).2 with hge | hown
    · omega
    · exact ho (e ▸ hown)
  · rcases (hS1 k hk).2 with h | h
    · exact hr.s0 k h hlt
    · have := hr.grow; omega
  · intro x k hx hk hmv
    by_cases hxU : x ∈ U
    · simp only [hxU, if_true] at hk
      exact hfix x hxU hx k hk hmv
    · obtain ⟨k0, hk0, rfl⟩ := hnU hxU hk
      rw [hnK hxU]
      exact hr.fix x k0 hx hk0 (by rw [← (Blk.killAll_facts K k0).2.2.1]; exact hmv)
end
end Go.U
