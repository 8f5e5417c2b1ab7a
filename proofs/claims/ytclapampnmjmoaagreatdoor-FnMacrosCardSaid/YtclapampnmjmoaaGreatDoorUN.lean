/- A part of the proof. No condition. -/
import Derived.Test.YtclapampnmjmoaaGreatDoorUM
set_option linter.unusedVariables false
set_option linter.unusedSimpArgs false
set_option linter.unusedSectionVars false
namespace Go.U
open Go
def D.flat : D → Bool
  | .rov _ _ => false
  | _ => true
mutual
def SV.flat : SV → Bool
  | .d x => x.flat
  | .agg cs => SV.flatL cs
  | .tup cs => SV.flatL cs
  | .clo f caps => (decide (f < 1000000) || decide (f = 1000000009)) && SV.flatL caps
  | .rptr _ => false
  | .undef | .sl _ _ _ | .all _ | .ptr _ _ _ | .pon _ _ _ | .bb _ => true
def SV.flatL : List SV → Bool
  | [] => true
  | c :: cs => SV.flat c && SV.flatL cs
end
def Ty.flat : Ty → Bool
  | .c a t => a.flat && t.flat
  | .l _ => false
  | _ => true
theorem Ty.flat_enc : ∀ (t : Ty) (x : t.den), t.flat = true → ∀ d ∈ t.enc x, d.flat = true
  | .y _, _, _, d, hd => by simp [Ty.enc] at hd; subst hd; rfl
  | .i _, _, _, d, hd => by simp [Ty.enc] at hd; subst hd; rfl
  | .b, _, _, d, hd => by simp [Ty.enc] at hd; subst hd; rfl
  | .s, _, _, d, hd => by simp [Ty.enc] at hd; subst hd; rfl
  | .e, _, _, d, hd => by simp [Ty.enc] at hd; subst hd; rfl
  | .c a t, p, h, d, hd => by
    simp only [Ty.flat, Bool.and_eq_true] at h
    simp only [Ty.enc, List.mem_append] at hd
    rcases hd with hd | hd
    · exact Ty.flat_enc a p.1 h.1 d hd
    · exact Ty.flat_enc t p.2 h.2 d hd
  | .l _, _, h, _, _ => by cases h
def BC.flat : BC → Bool
  | .row t _ => t.flat
  | .mix _ els => els.all SV.flatL
  | .map t _ => t.flat
def hsets (h : Nat → Option Blk) : List (Nat × Blk) → Nat → Option Blk
  | [] => h
  | (b, k) :: l => hset (hsets h l) b k
def landB (hp : Nat → Option Blk) (ρ : Nat → Nat) : List Nat → List Blk → List (Nat × Blk)
  | b :: U, k :: hs => (b, ⟨k.s, k.mv || (match hp b with | some k0 => k0.mv | none => false), k.c.ren ρ⟩) :: landB hp ρ U hs
  | _, _ => []
def movedOf : List Nat → List Blk → List Nat
  | b :: ids, k :: hs => if k.mv then b :: movedOf ids hs else movedOf ids hs
  | _, _ => []
def news (d : Nat) : Nat → List Nat
  | 0 => []
  | i + 1 => news d i ++ [newId d + i]
def landOk (d : Nat) (ids V : List Nat) (res : List SV) (hs' : List Blk) : Bool :=
  decide (ids.length ≤ hs'.length) && decide (hs'.length - ids.length < 1000) && ((SV.idsL res).all fun x => decide (x < hs'.length)) && (hs'.all fun k => k.c.ids.all fun x => decide (x < hs'.length)) &&
  (ids.all fun b => !(decide (newId d ≤ b) && decide (b < newId d + (hs'.length - ids.length)))) && (V.isEmpty || (SV.flatL res && hs'.all fun k => k.c.flat))
def land (st : St) (dst : Option Nat) (ids V : List Nat) (res : List SV) (hs' : List Blk) : Option St :=
  let d := dst.getD 999999
  if landOk d ids V res hs' then
    let N := news d (hs'.length - ids.length)
    let U := ids ++ N
    let ρ := fun j => U.getD j 0
    match movedOf ids hs' ++ N with
    | [] => some (St.put ⟨st.fr, hsets st.hp (landB st.hp ρ U hs')⟩ dst (retSV (SV.renL ρ res)))
    | b :: K => some (St.put ⟨st.fr.map (killAll (b :: K)), hsets (fun x => (st.hp x).map (Blk.killAll (b :: K))) (landB st.hp ρ U hs')⟩ dst (retSV (SV.renL ρ res)))
  else none
def opCall (F : Fun) (refs : List Bool) (st : St) (dst : Option Nat) (args : List SV) : Option St :=
  match prep st.hp refs args with
  | some (args1, V) => match reach st.hp 200 [] (SV.idsL args1) with
    | some ids =>
      if V.any (fun b => decide (b ∈ ids)) || decide (1000 < ids.length) then none else
      match F (SV.renL (idx ids) args1) (blocksOf st.hp ids 0 ids) with
      | some (res, hs') => land st dst ids V res hs'
      | none => none
    | none => none
  | none => none
section
variable {P : Program} [Gl P] {Y : TT P} {X : Ctx P} {st : St} {a : Act} {tmps : Array Value} {w : World} {β : Nat → Option BA} {S : Nat → Prop}
theorem RD.flat {v : Value} {x : D} {S' : Nat → Prop} (h : RD w S v x) (hf : x.flat = true) : RD w S' v x := by
  cases h with
  | i k n => exact .i k n
  | b x => exact .b x
  | str l => exact .str l
  | emp => exact .emp
  | emq A => exact .emq A
  | anyp p => exact .anyp p
  | nilp => exact .nilp
  | nili => exact .nili
  | ife t v => exact .ife t v
  | val v h1 => exact .val v h1
  | rov0 A c t => exact .rov0 A c t
  | rov b o c t xs us hS hb hne hc hcell hd => cases hf
theorem flatL_mem {cs : List SV} (h : SV.flatL cs = true) {c : SV} (hc : c ∈ cs) : c.flat = true := by
  induction cs with
  | nil => cases hc
  | cons x cs ih =>
    simp only [SV.flatL, Bool.and_eq_true] at h
    cases hc with
    | head => exact h.1
    | tail _ h2 => exact ih h.2 h2
theorem RS.flat {v : Value} {x : SV} {S' : Nat → Prop} (h : RS w β S v x) (hf : x.flat = true) : RS w β S' v x := by
  induction h with
  | undef v => exact .undef v
  | d h => exact .d (h.flat (by simpa [SV.flat] using hf))
  | agg vs cs hsz h ih => exact .agg vs cs hsz fun i v c h1 h2 => ih i v c h1 h2 (flatL_mem (by simpa [SV.flat] using hf) (List.mem_of_getElem? h2))
  | tup vs cs hsz h ih => exact .tup vs cs hsz fun i v c h1 h2 => ih i v c h1 h2 (flatL_mem (by simpa [SV.flat] using hf) (List.mem_of_getElem? h2))
  | sl0 A b off => exact .sl0 A b off
  | sl b off len c ba hb hc hn => exact .sl b off len c ba hb hc hn
  | all0 A b hb => exact .all0 A b hb
  | all b c ba hb hc hn => exact .all b c ba hb hc hn
  | bb0 b hb => exact .bb0 b hb
  | bb b c ba hb hc hn => exact .bb b c ba hb hc hn
  | pon0 b e c => exact .pon0 b e c
  | pon b e c ba hb => exact .pon b e c ba hb
  | ptr b e c ba hb => exact .ptr b e c ba hb
  | rptr b o cs us h1 h2 h3 h4 => simp [SV.flat] at hf
  | mp r x h ih => exact .mp r x (ih (flatL_mem (by simp [SV.flat] at hf; exact hf) (List.mem_cons_self ..)))
  | clo f vs caps hf6 hsz h ih => exact .clo f vs caps hf6 hsz fun i v c h1 h2 => ih i v c h1 h2 (flatL_mem (by simp [SV.flat] at hf; exact hf.2) (List.mem_of_getElem? h2))
  | fsl b o n c cs us h1 h2 h3 h4 h5 h6 ih => simp [SV.flat] at hf
  | fpt b o u x h1 h2 h3 h4 ih => simp [SV.flat] at hf
theorem BC.flat_cell {c : BC} (h : c.flat = true) {e j : Nat} {sv : SV} (hc : c.cell? e j = some sv) : sv.flat = true := by
  cases c with
  | row t xs =>
    simp only [BC.cell?] at hc
    cases he : xs[e]? with
    | none => rw [he] at hc; cases hc
    | some x =>
      rw [he] at hc
      simp at hc
      obtain ⟨y, hy, rfl⟩ := hc
      exact Ty.flat_enc t x h y (List.mem_of_getElem? hy)
  | mix ty els =>
    simp only [BC.cell?] at hc
    cases he : els[e]? with
    | none => rw [he] at hc; cases hc
    | some l =>
      rw [he] at hc
      simp only [BC.flat, List.all_eq_true] at h
      exact flatL_mem (h l (List.mem_of_getElem? he)) (List.mem_of_getElem? hc)
  | map t es => cases hc
theorem HK.flat {b : Nat} {k : Blk} {S' : Nat → Prop} (h : HK w β S b k) (hf : k.c.flat = true) : HK w β S' b k := by
  rcases h with (h | ⟨t, es, ba, ents, clock, h1, h2, h3, h4, es', h5, h6, h7⟩) | ⟨ba, arr, ty, fz, h1, h2, h3, h4, h5, h6, h7, h8, h9⟩
  · exact .inl (.inl h)
  · refine .inl (.inr ⟨t, es, ba, ents, clock, h1, h2, h3, h4, es', h5, fun i key x hx => ?_, h7⟩)
    obtain ⟨e, d, g1, g2, g3, g4⟩ := h6 i key x hx
    rw [h1] at hf
    exact ⟨e, d, g1, g2, g3, g4.flat (Ty.flat_enc t x hf d (by rw [g3]; exact List.mem_singleton.2 rfl))⟩
  · exact .inr ⟨ba, arr, ty, fz, h1, h2, h3, h4, h5, h6, h7, h8, fun e c sv hc => let ⟨u, u1, u2, u3⟩ := h9 e c sv hc; ⟨u, u1, u2, u3.flat (BC.flat_cell hf hc)⟩⟩
theorem hsets_not {h : Nat → Option Blk} {l : List (Nat × Blk)} {x : Nat} (hx : ∀ p ∈ l, p.1 ≠ x) : hsets h l x = h x := by
  induction l with
  | nil => rfl
  | cons p l ih =>
    obtain ⟨b, k⟩ := p
    simp only [hsets]
    rw [hset_ne (fun e => hx (b, k) (List.mem_cons_self ..) e.symm)]
    exact ih fun p hp => hx p (List.mem_cons_of_mem _ hp)
theorem landB_facts (hp : Nat → Option Blk) (ρ : Nat → Nat) : ∀ (U : List Nat) (hs : List Blk), U.length = hs.length →
    (∀ p ∈ landB hp ρ U hs, p.1 ∈ U) ∧ ∀ (base : Nat → Option Blk) (j : Nat) b k, U.Nodup → U[j]? = some b → hs[j]? = some k →
      hsets base (landB hp ρ U hs) b = some ⟨k.s, k.mv || (match hp b with | some k0 => k0.mv | none => false), k.c.ren ρ⟩
  | [], [], _ => by simp [landB]
  | b :: U, k :: hs, h => by
    obtain ⟨h1, h2⟩ := landB_facts hp ρ U hs (by simpa using h)
    simp only [landB]
    refine ⟨fun p hp => ?_, fun base j b' k' hn hb hk => ?_⟩
    · cases hp with
      | head => exact List.mem_cons_self ..
      | tail _ h3 => exact List.mem_cons_of_mem _ (h1 p h3)
    · rw [List.nodup_cons] at hn
      cases j with
      | zero => simp at hb hk; subst hb; subst hk; simp only [hsets, hset_same]
      | succ j =>
        simp at hb hk
        have hne : b' ≠ b := by rintro rfl; exact hn.1 (List.mem_of_getElem? hb)
        simp only [hsets, hset_ne hne]
        exact h2 base j b' k' hn.2 hb hk
  | [], _ :: _, h => by simp at h
  | _ :: _, [], h => by simp at h
theorem mem_news {d m x : Nat} : x ∈ news d m ↔ newId d ≤ x ∧ x < newId d + m := by
  induction m with
  | zero => simp [news]
  | succ m ih => simp only [news, List.mem_append, ih, List.mem_singleton]; omega
theorem news_nodup (d m : Nat) : (news d m).Nodup := by
  induction m with
  | zero => simp [news]
  | succ m ih =>
    simp only [news, List.nodup_append]
    exact ⟨ih, by simp, fun x hx y hy => by simp at hy; rw [mem_news] at hx; omega⟩
theorem news_length (d m : Nat) : (news d m).length = m := by induction m with | zero => rfl | succ m ih => simp [news, ih]
theorem mem_movedOf : ∀ {ids : List Nat} {hs : List Blk} {b : Nat}, b ∈ movedOf ids hs → b ∈ ids
  | [], _, b, h => by simp [movedOf] at h
  | _ :: _, [], b, h => by simp [movedOf] at h
  | x :: ids, k :: hs, b, h => by
    simp only [movedOf] at h
    split at h
    · cases h with
      | head => exact List.mem_cons_self ..
      | tail _ h2 => exact List.mem_cons_of_mem _ (mem_movedOf h2)
    · exact List.mem_cons_of_mem _ (mem_movedOf h)
theorem not_moved : ∀ {ids : List Nat} {hs : List Blk} {j b : Nat} {k : Blk}, ids[j]? = some b → hs[j]? = some k → b ∉ movedOf ids hs → k.mv = false
  | [], _, j, b, k, h1, _, _ => by simp at h1
  | _ :: _, [], j, b, k, _, h2, _ => by simp at h2
  | x :: ids, kk :: hs, j, b, k, h1, h2, h3 => by
    simp only [movedOf] at h3
    cases j with
    | zero =>
      simp at h1 h2; subst h1; subst h2
      cases hm : kk.mv with
      | false => rfl
      | true => rw [if_pos hm] at h3; exact absurd (List.mem_cons_self ..) h3
    | succ j =>
      simp at h1 h2
      refine not_moved h1 h2 fun hb => h3 ?_
      split
      · exact List.mem_cons_of_mem _ hb
      · exact hb
theorem opCall_sound {F : Fun} {refs : List Bool} {f : FuncId} {dst : Option Nat} {vs : Array Value} {args : List SV} {st' : St} (hn0 : X.n0 ≤ 1000) (hd : ∀ d, dst = some d → d < 999999) (hdf : a.defers = []) (hr : Rel X st a.tmps w β S)
    (hF : ∀ (w : World) (β : Nat → Option BA) (S : Nat → Prop) (vs : Array Value) (args : List SV) (hs : List Blk) (res : List SV) (hs' : List Blk), F args hs = some (res, hs') → Pre P w β S vs args hs →
      CallX P f vs w fun e w' => ∃ v β' S', e = .returned v ∧ Post w w' β β' S S' hs hs' v res)
    (hsz : vs.size = args.length) (hvs : ∀ (i : Nat) v c, vs[i]? = some v → args[i]? = some c → RS w β S v c) (h : opCall F refs st dst args = some st') :
    CallX P f vs w fun e w' => ∃ v, e = .returned v ∧ Good X st' (a.put dst v) w' := by
  unfold opCall at h
  split at h
  · rename_i args1 V hprep
    split at h
    · rename_i ids hreach
      split at h
      · cases h
      · rename_i hcond
        split at h
        · rename_i res hs' hFr
          simp only [Bool.or_eq_true, not_or, List.any_eq_true, decide_eq_true_eq, not_exists, not_and] at hcond
          obtain ⟨hVids, hlen1000⟩ := hcond
          obtain ⟨hnd, _, htodo, hclosed⟩ := reach_spec st.hp 200 [] _ ids hreach List.nodup_nil (by simp)
          obtain ⟨p1, p2⟩ := prep_get hr refs args args1 V hprep
          have hhp : ∀ b ∈ ids, ∃ k, st.hp b = some k := fun b hb => let ⟨k, hk, _⟩ := hclosed b hb; ⟨k, hk⟩
          obtain ⟨b1, b2⟩ := blocksOf_get (ids := ids) ids 0 hhp
          -- the names at the callee's side
          let β2 : Nat → Option BA := fun j => (ids[j]?).bind β
          have hβ2 : ∀ b ∈ ids, β2 (idx ids b) = β b := fun b hb => by simp only [β2, (idx_lt hb).2]; rfl
          have hβ2' : ∀ {j b}, ids[j]? = some b → β2 j = β b := fun {j b} hj => by simp only [β2, hj]; rfl
          have hpre : Pre P w β2 (lent st.hp β S V) vs (SV.renL (idx ids) args1) (blocksOf st.hp ids 0 ids) := by
            refine ⟨by rw [SV.renL_eq]; simp; omega, fun i v c hv hc => ?_, fun j k hj => ?_, fun j j' ba ba' hj hj' hba hba' e => ?_, fun j ba hj hba => ?_, fun k hk => ?_, by omega, fun g hg => ⟨.inl (hr.gl g hg).1, (hr.gl g hg).2⟩⟩
            · rw [SV.renL_eq, List.getElem?_map] at hc
              cases hx : args1[i]? with
              | none => rw [hx] at hc; cases hc
              | some x =>
                rw [hx] at hc; cases hc
                have hlt : i < args.length := by rw [← p1]; exact (List.getElem?_eq_some_iff.1 hx).1
                have hc0 := List.getElem?_eq_getElem hlt
                exact (p2 V (fun _ h => h) i _ x v hc0 hx (hvs i v _ hv hc0)).ren fun b hb => hβ2 b (htodo b (SV.mem_idsL (List.mem_of_getElem? hx) (SV.mem_ids hb)))
            · obtain ⟨b, k0, q1, q2, q3⟩ := b2 j k hj
              subst q3
              refine ⟨?_, rfl⟩
              obtain ⟨k1, q4, q5⟩ := hclosed b (List.mem_of_getElem? q1)
              rw [q2] at q4; cases q4
              exact ((hr.hp b k0 q2).wide fun k hk => .inl hk).ren (hβ2' q1) (fun x hx => hβ2 x (q5 x hx)) false
            · rw [b1] at hj hj'
              have q1 := List.getElem?_eq_getElem hj
              have q2 := List.getElem?_eq_getElem hj'
              obtain ⟨k1, k1h⟩ := hhp _ (List.mem_of_getElem? q1)
              obtain ⟨k2, k2h⟩ := hhp _ (List.mem_of_getElem? q2)
              rw [hβ2' q1] at hba
              rw [hβ2' q2] at hba'
              exact (List.getElem_inj hnd).1 (hr.inj _ _ _ _ _ _ k1h k2h hba hba' e)
            · rw [b1] at hj
              have q1 := List.getElem?_eq_getElem hj
              obtain ⟨k1, k1h⟩ := hhp _ (List.mem_of_getElem? q1)
              rw [hβ2' q1] at hba
              rintro (h1 | ⟨b, hb, kb, ba', h1, h2, h3⟩)
              · exact (hr.excl _ _ _ k1h hba).1 h1
              · have := hr.inj _ _ _ _ _ _ h1 k1h h2 hba h3
                exact hVids b hb (this ▸ List.mem_of_getElem? q1)
            · rcases hk with hk | ⟨b, hb, kb, ba, h1, h2, h3⟩
              · exact hr.sbd k hk
              · rw [← h3]; exact HK.lt (hr.hp b kb h1) h2
          refine (hF w β2 _ vs _ _ res hs' hFr hpre).mono ?_
          rintro e w' ⟨v, β', S', rfl, hpost⟩
          refine ⟨v, rfl, ?_⟩
          -- back
          unfold land at h
          simp only at h
          split at h
          · rename_i hok
            simp only [landOk, Bool.and_eq_true, decide_eq_true_eq, List.all_eq_true, Bool.not_eq_true', Bool.or_eq_true, Bool.and_eq_false_iff, decide_eq_false_iff_not] at hok
            obtain ⟨⟨⟨⟨⟨o1, o2⟩, o3⟩, o4⟩, o5⟩, o6⟩ := hok
            generalize hd' : dst.getD 999999 = d at *
            have hUnd : (ids ++ news d (hs'.length - ids.length)).Nodup := by
              rw [List.nodup_append]
              refine ⟨hnd, news_nodup _ _, fun x hx y hy => ?_⟩
              rw [mem_news] at hy
              have := o5 x hx
              omega
            generalize hU : ids ++ news d (hs'.length - ids.length) = U at *
            have hUl : U.length = hs'.length := by rw [← hU]; simp [news_length]; omega
            have hUget : ∀ {j b}, ids[j]? = some b → U[j]? = some b := fun {j b} hj => by rw [← hU, List.getElem?_append_left (List.getElem?_eq_some_iff.1 hj).1]; exact hj
            have hUnew : ∀ {j b}, U[j]? = some b → ids.length ≤ j → b ∈ news d (hs'.length - ids.length) := fun {j b} hj hge => by rw [← hU, List.getElem?_append_right hge] at hj; exact List.mem_of_getElem? hj
            obtain ⟨l1, l2⟩ := landB_facts st.hp (fun j => U.getD j 0) U hs' hUl
            -- stable blocks
            let S1 : Nat → Prop := if V = [] then S' else S
            have hlentS : V = [] → ∀ k, lent st.hp β S V k ↔ S k := fun hV k => by subst hV; simp [lent]
            have hSS1 : ∀ k, S k → S1 k := fun k hk => by
              simp only [S1]; split
              · rename_i hV; exact hpost.sS k (.inl hk)
              · exact hk
            have hS1 : ∀ k, S1 k → k < w'.heap.size ∧ (S k ∨ w.heap.size ≤ k) := fun k hk => by
              simp only [S1] at hk
              split at hk
              · rename_i hV
                obtain ⟨q1, q2⟩ := hpost.s1 k hk
                exact ⟨q1, q2.imp (hlentS hV k).1 id⟩
              · exact ⟨Nat.lt_of_lt_of_le (hr.sbd k hk) hpost.size, .inl hk⟩
            have hS1S' : ∀ k, S1 k → S' k := fun k hk => by
              simp only [S1] at hk
              split at hk
              · exact hk
              · exact hpost.sS k (.inl hk)
            have hflat : V ≠ [] → SV.flatL res = true ∧ ∀ k ∈ hs', k.c.flat = true := fun hV => by
              rcases o6 with o6 | o6
              · exact absurd (by simpa using o6) hV
              · exact o6
            let β1 : Nat → Option BA := fun b => if b ∈ U then β' (idx U b) else β b
            have hβ1 : ∀ {j b}, U[j]? = some b → β1 b = β' j := fun {j b} hj => by simp only [β1, List.mem_of_getElem? hj, if_true, idx_get hUnd hj]
            have hρ : ∀ j, j < hs'.length → β1 (U.getD j 0) = β' j := fun j hj => by
              have hj' : U[j]? = some U[j] := List.getElem?_eq_getElem (by omega)
              rw [List.getD_eq_getElem?_getD, hj']
              exact hβ1 hj'
            have hmem : ∀ b, b ∈ U → ∃ j, U[j]? = some b ∧ j < hs'.length := fun b hb => by
              obtain ⟨j, hj⟩ := List.getElem?_of_mem hb
              exact ⟨j, hj, by rw [← hUl]; exact (List.getElem?_eq_some_iff.1 hj).1⟩
            -- the caller's store, behind
            have main : ∀ (K : List Nat) (base : Nat → Option Blk), (K = movedOf ids hs' ++ news d (hs'.length - ids.length)) → (∀ x, base x = (st.hp x).map (Blk.killAll K)) →
                Rel X ⟨st.fr.map (killAll K), hsets base (landB st.hp (fun j => U.getD j 0) U hs')⟩ a.tmps w' β1 S1 := by
              intro K base hK hbase
              have hKU : ∀ b ∈ K, b ∈ U := fun b hb => by
                rw [hK, List.mem_append] at hb
                rw [← hU, List.mem_append]
                exact hb.imp mem_movedOf id
              have := hr.many (w' := w') (S1 := S1) U K β1 (hsets base (landB st.hp (fun j => U.getD j 0) U hs')) hpost.os hpost.tape hpost.out hpost.size hSS1 hS1 ?_ ?_ hKU ?_ ?_ ?_ ?_ ?_
              · have he : (fun x => if x ∈ U then hsets base (landB st.hp (fun j => U.getD j 0) U hs') x else (st.hp x).map (Blk.killAll K)) = hsets base (landB st.hp (fun j => U.getD j 0) U hs') := by
                  funext x
                  split
                  · rfl
                  · rename_i hx
                    rw [hsets_not (fun p hp e => hx (by have := l1 p hp; rw [e] at this; exact this)), hbase]
                rw [he] at this
                exact this
              · intro j hj hne
                refine hpost.frame j hj fun i ba hi hba => ?_
                rw [b1] at hi
                have q1 := List.getElem?_eq_getElem hi
                obtain ⟨k1, k1h⟩ := hhp _ (List.mem_of_getElem? q1)
                rw [hβ2' q1] at hba
                exact hne _ (List.mem_of_getElem? (hUget q1)) ba k1 k1h hba
              · intro b hb
                by_cases hbU : b ∈ U
                · obtain ⟨j, hj, hjl⟩ := hmem b hbU
                  rw [hK, List.mem_append, not_or] at hb
                  rcases Nat.lt_or_ge j ids.length with hjn | hjn
                  · have q1 := List.getElem?_eq_getElem hjn
                    have : ids[j] = b := by have := hUget q1; rw [hj] at this; exact (Option.some.inj this).symm
                    rw [this] at q1
                    rw [hβ1 hj, hpost.fix j _ (by rw [b1]; exact hjn) (List.getElem?_eq_getElem hjl) (not_moved q1 (List.getElem?_eq_getElem hjl) hb.1), hβ2' q1]
                  · exact absurd (hUnew hj hjn) hb.2
                · simp only [β1, hbU, if_false]
              · intro b hb
                obtain ⟨j, hj, hjl⟩ := hmem b hb
                have hk := List.getElem?_eq_getElem hjl
                refine ⟨_, l2 base j b _ hUnd hj hk, ?_⟩
                have h3 := hpost.hp j _ hk
                have h4 : HK w' β' S1 j hs'[j] := by
                  by_cases hV : V = []
                  · have : S1 = S' := by simp only [S1, hV, if_true]
                    rw [this]; exact h3
                  · exact h3.flat ((hflat hV).2 _ (List.getElem_mem hjl))
                exact h4.ren (hβ1 hj) (fun x hx => hρ x (o4 _ (List.getElem_mem hjl) x hx)) _
              · intro b hb b' hb' ba ba' hba hba' e
                obtain ⟨j, hj, hjl⟩ := hmem b hb
                obtain ⟨j', hj', hjl'⟩ := hmem b' hb'
                rw [hβ1 hj] at hba
                rw [hβ1 hj'] at hba'
                have := hpost.inj j j' ba ba' hjl hjl' hba hba' e
                subst this
                rw [hj] at hj'; exact Option.some.inj hj'
              · intro b hb ba hba
                obtain ⟨j, hj, hjl⟩ := hmem b hb
                rw [hβ1 hj] at hba
                rcases hpost.loc j ba hjl hba with ⟨i, ba0, hi, h2, h3⟩ | hge
                · rw [b1] at hi
                  have q1 := List.getElem?_eq_getElem hi
                  obtain ⟨k1, k1h⟩ := hhp _ (List.mem_of_getElem? q1)
                  rw [hβ2' q1] at h2
                  exact .inl ⟨_, List.mem_of_getElem? (hUget q1), k1, ba0, k1h, h2, h3⟩
                · exact .inr hge
              · intro b hb ba hba hS1b
                obtain ⟨j, hj, hjl⟩ := hmem b hb
                rw [hβ1 hj] at hba
                exact hpost.excl j ba hjl hba (hS1S' _ hS1b)
              · intro b hb hbn k hk hmv
                obtain ⟨j, hj, hjl⟩ := hmem b hb
                rcases Nat.lt_or_ge j ids.length with hjn | hjn
                · have q1 := List.getElem?_eq_getElem hjn
                  have e1 : ids[j] = b := by have := hUget q1; rw [hj] at this; exact (Option.some.inj this).symm
                  rw [e1] at q1
                  obtain ⟨k0, hk0⟩ := hhp b (List.mem_of_getElem? q1)
                  rw [l2 base j b _ hUnd hj (List.getElem?_eq_getElem hjl)] at hk
                  cases hk
                  simp only [Bool.or_eq_false_iff, hk0] at hmv
                  rw [hβ1 hj, hpost.fix j _ (by rw [b1]; exact hjn) (List.getElem?_eq_getElem hjl) hmv.1, hβ2' q1]
                  exact hr.fix b k0 hbn hk0 hmv.2
                · have := hUnew hj hjn
                  rw [mem_news] at this
                  unfold newId at this
                  omega
            have hret : RS w' β1 S1 v (retSV (SV.renL (fun j => U.getD j 0) res)) := by
              have h3 := hpost.ret
              have hids : ∀ b, SV.Uses b (retSV res) → b < hs'.length := fun b hb => by
                refine o3 b ?_
                cases res with
                | nil => have := SV.mem_ids hb; simp [retSV, SV.ids, SV.idsL] at this
                | cons r res => cases res with
                  | nil => simpa [retSV, SV.idsL] using SV.mem_ids hb
                  | cons r2 res => simpa [retSV, SV.ids] using SV.mem_ids hb
              have h4 := h3.ren (β' := β1) (ρ := fun j => U.getD j 0) fun b hb => hρ b (hids b hb)
              have h5 : (retSV res).ren (fun j => U.getD j 0) = retSV (SV.renL (fun j => U.getD j 0) res) := by
                cases res with
                | nil => rfl
                | cons r res => cases res with
                  | nil => rfl
                  | cons r2 res => rfl
              rw [h5] at h4
              by_cases hV : V = []
              · have : S1 = S' := by simp only [S1, hV, if_true]
                rw [this]; exact h4
              · have h6 := h3.flat (S' := S1) (by
                  have := (hflat hV).1
                  cases res with
                  | nil => rfl
                  | cons r res => cases res with
                    | nil => simpa [retSV, SV.flatL] using this
                    | cons r2 res => simpa [retSV, SV.flat] using this)
                have h7 := h6.ren (β' := β1) (ρ := fun j => U.getD j 0) fun b hb => hρ b (hids b hb)
                rw [h5] at h7
                exact h7
            split at h
            · rename_i hK
              cases h
              have hm := main [] st.hp hK.symm (fun x => by cases st.hp x <;> rfl)
              have he : st.fr.map (killAll []) = st.fr := by
                have : (killAll [] : SV → SV) = id := rfl
                rw [this, List.map_id]
              rw [he] at hm
              cases dst with
              | none => exact ⟨hdf, β1, S1, hm⟩
              | some d0 => exact ⟨hdf, β1, S1, hm.put d0 hret⟩
            · rename_i b K hK
              cases h
              have hm := main (b :: K) _ hK.symm (fun x => rfl)
              cases dst with
              | none => exact ⟨hdf, β1, S1, hm⟩
              | some d0 => exact ⟨hdf, β1, S1, hm.put d0 hret⟩
          · cases h
        · cases h
    · cases h
  · cases h
end
end Go.U
