/- A part of the proof. No condition. -/
import Derived.Test.YtclapampnmjmoaaGreatDoorUL
set_option linter.unusedVariables false
set_option linter.unusedSimpArgs false
set_option linter.unusedSectionVars false
namespace Go.U
open Go
abbrev Fun := List SV → List Blk → Option (List SV × List Blk)
def retSV : List SV → SV
  | [r] => r
  | rs => .tup rs
structure Pre (P : Program) [Gl P] (w : World) (β : Nat → Option BA) (S : Nat → Prop) (vs : Array Value) (args : List SV) (hs : List Blk) : Prop where
  sz : vs.size = args.length
  args : ∀ (i : Nat) v c, vs[i]? = some v → args[i]? = some c → RS w β S v c
  hp : ∀ (j : Nat) k, hs[j]? = some k → HK w β S j k ∧ k.mv = false
  inj : ∀ j j' ba ba', j < hs.length → j' < hs.length → β j = some ba → β j' = some ba' → ba.b = ba'.b → j = j'
  excl : ∀ j ba, j < hs.length → β j = some ba → ¬ S ba.b
  sbd : ∀ k, S k → k < w.heap.size
  n : hs.length ≤ 1000
  gl : GlOk P w S
structure Post (w w' : World) (β β' : Nat → Option BA) (S S' : Nat → Prop) (hs hs' : List Blk) (v : Value) (res : List SV) : Prop where
  ret : RS w' β' S' v (retSV res)
  len : hs.length ≤ hs'.length
  hp : ∀ (j : Nat) k, hs'[j]? = some k → HK w' β' S' j k
  inj : ∀ j j' ba ba', j < hs'.length → j' < hs'.length → β' j = some ba → β' j' = some ba' → ba.b = ba'.b → j = j'
  excl : ∀ j ba, j < hs'.length → β' j = some ba → ¬ S' ba.b
  loc : ∀ j ba, j < hs'.length → β' j = some ba → (∃ i ba0, i < hs.length ∧ β i = some ba0 ∧ ba0.b = ba.b) ∨ w.heap.size ≤ ba.b
  fix : ∀ (j : Nat) k, j < hs.length → hs'[j]? = some k → k.mv = false → β' j = β j
  sS : ∀ k, S k → S' k
  s1 : ∀ k, S' k → k < w'.heap.size ∧ (S k ∨ w.heap.size ≤ k)
  os : w'.os = w.os
  tape : w'.tape = w.tape
  out : w'.output = w.output
  size : w.heap.size ≤ w'.heap.size
  frame : ∀ k, k < w.heap.size → (∀ j ba, j < hs.length → β j = some ba → k ≠ ba.b) → w'.heap[k]? = w.heap[k]?
def CallX (P : Program) (f : FuncId) (vs : Array Value) (w : World) (R : Ending → World → Prop) : Prop :=
  ((callFunc f vs).run P w = .ok (.enter f vs) w ∧ Calls P f vs w R) ∨ ∃ v w', (callFunc f vs).run P w = .ok (.value v) w' ∧ R (.returned v) w'
theorem CallX.mono {P : Program} {f : FuncId} {vs : Array Value} {w : World} {R R' : Ending → World → Prop} (h : CallX P f vs w R) (hr : ∀ e w', R e w' → R' e w') : CallX P f vs w R' := by
  rcases h with ⟨h1, h2⟩ | ⟨v, w', h1, h2⟩
  · exact .inl ⟨h1, Calls.mono h2 hr⟩
  · exact .inr ⟨v, w', h1, hr _ _ h2⟩
def Con (P : Program) [Gl P] (f : FuncId) (F : Fun) : Prop :=
  ∀ (w : World) (β : Nat → Option BA) (S : Nat → Prop) (vs : Array Value) (args : List SV) (hs : List Blk) (res : List SV) (hs' : List Blk), F args hs = some (res, hs') → Pre P w β S vs args hs →
    CallX P f vs w fun e w' => ∃ v β' S', e = .returned v ∧ Post w w' β β' S S' hs hs' v res
mutual
def viewS (hp : Nat → Option Blk) : SV → Option SV
  | .sl b off len => match hp b with
    | some ⟨_, _, .row t xs⟩ => if off + len ≤ xs.length then some (.d (.rov t ((xs.drop off).take len))) else none
    | _ => none
  | .all b => match hp b with
    | some ⟨_, _, .row t xs⟩ => some (.d (.rov t xs))
    | _ => none
  | .agg cs => (viewL hp cs).map SV.agg
  | .bb _ => none
  | .undef => some .undef
  | .d x => some (.d x)
  | .tup cs => some (.tup cs)
  | .ptr b e c => some (.ptr b e c)
  | .pon b e c => some (.pon b e c)
  | .rptr cs => some (.rptr cs)
  | .clo f caps => some (.clo f caps)
def viewL (hp : Nat → Option Blk) : List SV → Option (List SV)
  | [] => some []
  | c :: cs => match viewS hp c, viewL hp cs with | some x, some xs => some (x :: xs) | _, _ => none
end
mutual
def SV.slIds : SV → List Nat
  | .sl b _ _ => [b]
  | .all b => [b]
  | .agg cs => SV.slIdsL cs
  | .undef | .d _ | .tup _ | .ptr _ _ _ | .pon _ _ _ | .rptr _ | .clo _ _ | .bb _ => []
def SV.slIdsL : List SV → List Nat
  | [] => []
  | c :: cs => SV.slIds c ++ SV.slIdsL cs
end
def prep (hp : Nat → Option Blk) : List Bool → List SV → Option (List SV × List Nat)
  | _, [] => some ([], [])
  | true :: refs, c :: cs => (prep hp refs cs).map fun r => (c :: r.1, r.2)
  | false :: refs, c :: cs => match viewS hp c, prep hp refs cs with
    | some x, some r => some (x :: r.1, c.slIds ++ r.2)
    | _, _ => none
  | [], c :: cs => match viewS hp c, prep hp [] cs with
    | some x, some r => some (x :: r.1, c.slIds ++ r.2)
    | _, _ => none
def reach (hp : Nat → Option Blk) : Nat → List Nat → List Nat → Option (List Nat)
  | _, acc, [] => some acc
  | 0, _, _ :: _ => none
  | n + 1, acc, b :: todo => if b ∈ acc then reach hp n acc todo else match hp b with
    | some k => reach hp n (acc ++ [b]) (todo ++ k.c.ids)
    | none => none
def idx : List Nat → Nat → Nat
  | [], _ => 0
  | x :: l, b => if b = x then 0 else idx l b + 1
def blocksOf (hp : Nat → Option Blk) (ids : List Nat) : Nat → List Nat → List Blk
  | _, [] => []
  | j, b :: l => match hp b with
    | some k => ⟨k.s, false, k.c.ren (idx ids)⟩ :: blocksOf hp ids (j + 1) l
    | none => blocksOf hp ids (j + 1) l
section
variable {P : Program} [Gl P] {Y : TT P} {X : Ctx P} {st : St} {a : Act} {tmps : Array Value} {w : World} {β : Nat → Option BA} {S : Nat → Prop}
theorem idx_lt {l : List Nat} {b : Nat} (h : b ∈ l) : idx l b < l.length ∧ l[idx l b]? = some b := by
  induction l with
  | nil => cases h
  | cons x l ih =>
    simp only [idx]
    split
    · rename_i e; subst e; simp
    · rename_i e
      have := ih (by cases h with | head => exact absurd rfl e | tail _ h => exact h)
      exact ⟨by simp; exact this.1, by simpa using this.2⟩
theorem idx_get {l : List Nat} (hn : l.Nodup) {j b : Nat} (h : l[j]? = some b) : idx l b = j := by
  have hm : b ∈ l := List.mem_of_getElem? h
  obtain ⟨h1, h2⟩ := idx_lt hm
  have hj : j < l.length := (List.getElem?_eq_some_iff.1 h).1
  rw [List.getElem?_eq_getElem h1] at h2
  rw [List.getElem?_eq_getElem hj] at h
  exact (List.getElem_inj hn).1 ((Option.some.inj h2).trans (Option.some.inj h).symm)
theorem reach_spec (hp : Nat → Option Blk) : ∀ (n : Nat) (acc todo ids : List Nat), reach hp n acc todo = some ids → acc.Nodup → (∀ b ∈ acc, ∃ k, hp b = some k ∧ ∀ x ∈ k.c.ids, x ∈ acc ∨ x ∈ todo) →
    ids.Nodup ∧ (∃ l, ids = acc ++ l) ∧ (∀ b ∈ todo, b ∈ ids) ∧ ∀ b ∈ ids, ∃ k, hp b = some k ∧ ∀ x ∈ k.c.ids, x ∈ ids
  | n, acc, [], ids, h, hn, hk => by
    have : acc = ids := by cases n <;> simpa [reach] using h
    subst this
    exact ⟨hn, ⟨[], by simp⟩, by simp, fun b hb => let ⟨k, h1, h2⟩ := hk b hb; ⟨k, h1, fun x hx => (h2 x hx).resolve_right (by simp)⟩⟩
  | 0, acc, b :: todo, ids, h, hn, hk => by simp [reach] at h
  | n + 1, acc, b :: todo, ids, h, hn, hk => by
    simp only [reach] at h
    split at h
    · rename_i hb
      obtain ⟨r1, r2, r3, r4⟩ := reach_spec hp n acc todo ids h hn fun b' hb' => let ⟨k, h1, h2⟩ := hk b' hb'; ⟨k, h1, fun x hx => by
        rcases h2 x hx with h3 | h3
        · exact .inl h3
        · cases h3 with
          | head => exact .inl hb
          | tail _ h4 => exact .inr h4⟩
      obtain ⟨l, hl⟩ := r2
      refine ⟨r1, ⟨l, hl⟩, fun x hx => ?_, r4⟩
      cases hx with
      | head => rw [hl]; exact List.mem_append_left _ hb
      | tail _ h4 => exact r3 x h4
    · rename_i hb
      split at h
      · rename_i k hkb
        obtain ⟨r1, r2, r3, r4⟩ := reach_spec hp n (acc ++ [b]) (todo ++ k.c.ids) ids h (by
          rw [List.nodup_append]
          exact ⟨hn, by simp, fun x hx y hy => by simp at hy; subst hy; rintro rfl; exact hb hx⟩) fun b' hb' => by
            rw [List.mem_append] at hb'
            rcases hb' with hb' | hb'
            · obtain ⟨k', h1, h2⟩ := hk b' hb'
              refine ⟨k', h1, fun x hx => ?_⟩
              rcases h2 x hx with h3 | h3
              · exact .inl (List.mem_append_left _ h3)
              · cases h3 with
                | head => exact .inl (by simp)
                | tail _ h4 => exact .inr (List.mem_append_left _ h4)
            · simp at hb'; subst hb'
              exact ⟨k, hkb, fun x hx => .inr (List.mem_append_right _ hx)⟩
        obtain ⟨l, hl⟩ := r2
        refine ⟨r1, ⟨b :: l, by rw [hl]; simp⟩, fun x hx => ?_, r4⟩
        cases hx with
        | head => rw [hl]; simp
        | tail _ h4 => exact r3 x (List.mem_append_left _ h4)
      · cases h
theorem blocksOf_get {hp : Nat → Option Blk} {ids : List Nat} : ∀ (l : List Nat) (i : Nat), (∀ b ∈ l, ∃ k, hp b = some k) →
    (blocksOf hp ids i l).length = l.length ∧ ∀ (j : Nat) k', (blocksOf hp ids i l)[j]? = some k' → ∃ b k, l[j]? = some b ∧ hp b = some k ∧ k' = ⟨k.s, false, k.c.ren (idx ids)⟩
  | [], i, _ => by simp [blocksOf]
  | b :: l, i, h => by
    obtain ⟨k, hk⟩ := h b (List.mem_cons_self ..)
    obtain ⟨h1, h2⟩ := blocksOf_get (ids := ids) l (i + 1) fun b hb => h b (List.mem_cons_of_mem _ hb)
    simp only [blocksOf, hk]
    refine ⟨by simp [h1], fun j k' hj => ?_⟩
    cases j with
    | zero => simp at hj; subst hj; exact ⟨b, k, rfl, hk, rfl⟩
    | succ j => simp at hj; simpa using h2 j k' hj
def lent (hp : Nat → Option Blk) (β : Nat → Option BA) (S : Nat → Prop) (V : List Nat) (k : Nat) : Prop := S k ∨ ∃ b ∈ V, ∃ kb ba, hp b = some kb ∧ β b = some ba ∧ ba.b = k
theorem RS.wide {v : Value} {x : SV} {S' : Nat → Prop} (h : RS w β S v x) (hS : ∀ k, S k → S' k) : RS w β S' v x := h.mono (fun k hk => ⟨hS k hk, rfl⟩) (Nat.le_refl _) fun _ _ => rfl
theorem RD.wide {v : Value} {x : D} {S' : Nat → Prop} (h : RD w S v x) (hS : ∀ k, S k → S' k) : RD w S' v x := h.mono (fun k hk => ⟨hS k hk, rfl⟩) (Nat.le_refl _)
theorem HK.wide {b : Nat} {k : Blk} {S' : Nat → Prop} (h : HK w β S b k) (hS : ∀ k, S k → S' k) : HK w β S' b k := by
  rcases h with (h | hm) | ⟨ba, arr, ty, fz, h1, h2, h3, h4, h5, h6, h7, h8, h9⟩
  · exact .inl (.inl h)
  · exact .inl (.inr (hm.to (fun _ _ e => e) rfl rfl (fun _ _ => rfl) (fun k hk => ⟨hS k hk, rfl⟩) (Nat.le_refl _)))
  · exact .inr ⟨ba, arr, ty, fz, h1, h2, h3, h4, h5, h6, h7, h8, fun e c sv hc => let ⟨u, u1, u2, u3⟩ := h9 e c sv hc; ⟨u, u1, u2, u3.wide hS⟩⟩
theorem view_get (hp : Nat → Option Blk) : ∀ (cs ys : List SV), viewL hp cs = some ys → ys.length = cs.length ∧ ∀ (i : Nat) c y, cs[i]? = some c → ys[i]? = some y → viewS hp c = some y
  | [], ys, h => by simp [viewL] at h; subst h; simp
  | c :: cs, ys, h => by
    simp only [viewL] at h
    split at h
    · rename_i x xs h1 h2
      cases h
      obtain ⟨r1, r2⟩ := view_get hp cs xs h2
      refine ⟨by simp [r1], fun i c' y hc hy => ?_⟩
      cases i with
      | zero => simp at hc hy; subst hc; subst hy; exact h1
      | succ i => simp at hc hy; exact r2 i c' y hc hy
    · cases h
theorem mem_slIdsL {b : Nat} {cs : List SV} {c : SV} (hc : c ∈ cs) (hb : b ∈ c.slIds) : b ∈ SV.slIdsL cs := by
  induction cs with
  | nil => cases hc
  | cons x cs ih =>
    simp only [SV.slIdsL, List.mem_append]
    cases hc with
    | head => exact .inl hb
    | tail _ h => exact .inr (ih h)
theorem RD.own {S' : Nat → Prop} {b : Nat} {s : Nat} {mv : Bool} {t : Ty} {xs : List t.den} (hk : HK w β S b ⟨s, mv, .row t xs⟩) {ba : BA} (hb : β b = some ba) {off len c : Nat} (hS : ∀ k, S k → S' k) (hone : S' ba.b) (hle : off + len ≤ xs.length) (hc : len ≤ c) :
    RS w β S' (.slice (some ⟨ba.b, ba.o + off * ba.s, none⟩) len c) (.d (.rov t ((xs.drop off).take len))) := by
  obtain ⟨g1, g2, g3, g4⟩ := hk.row hb
  have hlen : ((xs.drop off).take len).length = len := by simp; omega
  by_cases he : (xs.drop off).take len = []
  · rw [he]
    have : len = 0 := by rw [← hlen, he]; rfl
    subst this
    exact .d (.rov0 _ _ _)
  · have hs : s = t.size := by
      have hlt : 0 < xs.length := by
        rcases Nat.eq_zero_or_pos len with h0 | h0
        · rw [h0] at he; simp at he
        · omega
      have := g3 0 (t.enc xs[0]) (by rw [List.getElem?_map, List.getElem?_eq_getElem hlt]; rfl)
      rw [Ty.enc_len] at this; exact this.symm
    have hget : ∀ (e : Nat) el, ((xs.drop off).take len)[e]? = some el → xs[off + e]? = some el := fun e el he => by
      rw [List.getElem?_take] at he
      split at he
      · rwa [List.getElem?_drop] at he
      · cases he
    have hcell : ∀ e el (j : Nat) x, ((xs.drop off).take len)[e]? = some el → (t.enc el)[j]? = some x → ∃ u, w.cell? ⟨ba.b, ba.o + off * ba.s + e * t.size + j, none⟩ = some u ∧ RD w S u x := fun e el j x h1 h2 => by
      obtain ⟨u, u1, u2⟩ := g4 (off + e) (t.enc el) j x (by rw [List.getElem?_map, hget e el h1]; rfl) h2
      refine ⟨u, ?_, u2⟩
      rw [← u1, g1, hs, Nat.add_mul]; congr 2; omega
    refine .d ?_
    have := RD.rov (w := w) (S := S') ba.b (ba.o + off * ba.s) c t ((xs.drop off).take len) (fun e j => (w.cell? ⟨ba.b, ba.o + off * ba.s + e * t.size + j, none⟩).getD Go.undef) hone
      (HK.lt hk hb) he (by omega) (fun e el j x h1 h2 => by obtain ⟨u, u1, _⟩ := hcell e el j x h1 h2; rw [u1]; rfl)
      (fun e el j x h1 h2 => by obtain ⟨u, u1, u2⟩ := hcell e el j x h1 h2; rw [u1]; exact u2.wide hS)
    rw [hlen] at this
    exact this
theorem RS.view (hr : Rel X st tmps w β S) {v : Value} {x y : SV} {V : List Nat} (h : RS w β S v x) (hv : viewS st.hp x = some y) (hV : ∀ b ∈ x.slIds, b ∈ V) : RS w β (lent st.hp β S V) v y := by
  have hS : ∀ k, S k → lent st.hp β S V k := fun k hk => .inl hk
  induction h generalizing y with
  | agg vs cs hsz h ih =>
    simp only [viewS] at hv
    cases hl : viewL st.hp cs with
    | none => rw [hl] at hv; cases hv
    | some ys =>
      rw [hl] at hv; cases hv
      obtain ⟨r1, r2⟩ := view_get st.hp cs ys hl
      refine .agg vs ys (by omega) fun i v c h1 h2 => ?_
      have hlt : i < cs.length := by rw [← r1]; exact (List.getElem?_eq_some_iff.1 h2).1
      have hc := List.getElem?_eq_getElem hlt
      exact ih i v _ h1 hc (r2 i _ c hc h2) fun b hb => hV b (by simp only [SV.slIds]; exact mem_slIdsL (List.mem_of_getElem? hc) hb)
  | undef v => simp [viewS] at hv; subst hv; exact .undef v
  | d h => simp [viewS] at hv; subst hv; exact .d (h.wide hS)
  | tup vs cs hsz h ih => simp [viewS] at hv; subst hv; exact (RS.tup vs cs hsz h).wide hS
  | bb0 b hb => simp [viewS] at hv
  | bb b c ba hb hc hn => simp [viewS] at hv
  | ptr b e c ba hb => simp [viewS] at hv; subst hv; exact .ptr b e c ba hb
  | rptr b o cs us h1 h2 h3 h4 => simp [viewS] at hv; subst hv; exact (RS.rptr b o cs us h1 h2 h3 h4).wide hS
  | mp r x h ih => simp [viewS] at hv; subst hv; exact (RS.mp r x h).wide hS
  | clo f vs caps hf hsz h ih => simp [viewS] at hv; subst hv; exact (RS.clo f vs caps hf hsz h).wide hS
  | fsl b o n c cs us h1 h2 h3 h4 h5 h6 ih => simp [viewS] at hv; subst hv; exact (RS.fsl b o n c cs us h1 h2 h3 h4 h5 h6).wide hS
  | fpt b o u x h1 h2 h3 h4 ih => simp [viewS] at hv; subst hv; exact (RS.fpt b o u x h1 h2 h3 h4).wide hS
  | pon0 b e c => simp [viewS] at hv; subst hv; exact .pon0 b e c
  | pon b e c ba hb => simp [viewS] at hv; subst hv; exact .pon b e c ba hb
  | all0 A b hb =>
    simp only [viewS] at hv
    split at hv
    · rename_i s mv t xs hk
      cases hv
      have h0 : xs = [] := List.length_eq_zero_iff.1 ((hr.hp b _ hk).zero hb)
      subst h0
      exact .d (.rov0 A 0 _)
    · cases hv
  | all b c ba hb hc hn =>
    simp only [viewS] at hv
    split at hv
    · rename_i s mv t xs hk
      cases hv
      have hl := ((hr.hp b _ hk).facts hb).2
      simp only [BC.len] at hl
      rw [hl] at hc ⊢
      have := RD.own (hr.hp b _ hk) hb (off := 0) (len := xs.length) (c := c) hS (.inr ⟨b, hV b (by simp [SV.slIds]), _, ba, hk, hb, rfl⟩) (by omega) hc
      simpa using this
    · cases hv
  | sl0 A b off =>
    simp only [viewS] at hv
    split at hv
    · split at hv
      · cases hv; exact .d (by simpa using RD.rov0 A 0 _)
      · cases hv
    · cases hv
  | sl b off len c ba hb hc hn =>
    simp only [viewS] at hv
    split at hv
    · rename_i s mv t xs hk
      split at hv
      · rename_i hle
        cases hv
        exact RD.own (hr.hp b _ hk) hb hS (.inr ⟨b, hV b (by simp [SV.slIds]), _, ba, hk, hb, rfl⟩) hle hc
      · cases hv
    · cases hv
theorem prep_get (hr : Rel X st tmps w β S) : ∀ (refs : List Bool) (cs ys : List SV) (V : List Nat), prep st.hp refs cs = some (ys, V) →
    ys.length = cs.length ∧ ∀ (V' : List Nat), (∀ b ∈ V, b ∈ V') → ∀ (i : Nat) c y v, cs[i]? = some c → ys[i]? = some y → RS w β S v c → RS w β (lent st.hp β S V') v y := by
  intro refs cs
  induction cs generalizing refs with
  | nil => intro ys V h; cases refs <;> simp [prep] at h <;> (obtain ⟨rfl, rfl⟩ := h; simp) <;> (rename_i b _; cases b <;> simp [prep] at h <;> (obtain ⟨rfl, rfl⟩ := h; simp))
  | cons c cs ih =>
    intro ys V h
    have byval : ∀ refs', (match viewS st.hp c, prep st.hp refs' cs with | some x, some r => some (x :: r.1, c.slIds ++ r.2) | _, _ => none) = some (ys, V) →
        ys.length = (c :: cs).length ∧ ∀ (V' : List Nat), (∀ b ∈ V, b ∈ V') → ∀ (i : Nat) c' y v, (c :: cs)[i]? = some c' → ys[i]? = some y → RS w β S v c' → RS w β (lent st.hp β S V') v y := by
      intro refs' h
      split at h
      · rename_i x r hx hp
        cases h
        obtain ⟨r1, r2⟩ := ih refs' r.1 r.2 hp
        refine ⟨by simp [r1], fun V' hV' i c' y v hc hy hrs => ?_⟩
        cases i with
        | zero => simp at hc hy; subst hc; subst hy; exact hrs.view hr hx fun b hb => hV' b (List.mem_append_left _ hb)
        | succ i => simp at hc hy; exact r2 V' (fun b hb => hV' b (List.mem_append_right _ hb)) i c' y v hc hy hrs
      · cases h
    cases refs with
    | nil => exact byval [] (by simpa [prep] using h)
    | cons r refs =>
      cases r with
      | false => exact byval refs (by simpa [prep] using h)
      | true =>
        simp only [prep] at h
        cases hp : prep st.hp refs cs with
        | none => rw [hp] at h; cases h
        | some r =>
          rw [hp] at h; cases h
          obtain ⟨r1, r2⟩ := ih refs r.1 r.2 hp
          refine ⟨by simp [r1], fun V' hV' i c' y v hc hy hrs => ?_⟩
          cases i with
          | zero => simp at hc hy; subst hc; subst hy; exact hrs.wide fun k hk => .inl hk
          | succ i => simp at hc hy; exact r2 V' hV' i c' y v hc hy hrs
end
end Go.U
