/- A row that nobody writes any more becomes data. No condition. -/
import Derived.Test.YthiglohhocelfaaVR
set_option linter.unusedVariables false
set_option linter.unusedSimpArgs false
namespace Go.V
open Go

mutual
def SV.frz (b s : Nat) (els : List (List D)) : SV → SV
  | .sl b' off len => if b' = b then (if off + len ≤ els.length then .d (.rov s ((els.drop off).take len)) else .undef) else .sl b' off len
  | .ptr b' e c => if b' = b then .undef else .ptr b' e c
  | .agg cs => .agg (SV.frzL b s els cs)
  | .tup cs => .tup (SV.frzL b s els cs)
  | .clo f caps => .clo f (SV.frzL b s els caps)
  | .undef => .undef
  | .d x => .d x
  | .rptr cs => .rptr cs
def SV.frzL (b s : Nat) (els : List (List D)) : List SV → List SV
  | [] => []
  | c :: cs => SV.frz b s els c :: SV.frzL b s els cs
end

theorem SV.frzL_eq (b s : Nat) (els : List (List D)) (cs : List SV) : SV.frzL b s els cs = cs.map (SV.frz b s els) := by
  induction cs with
  | nil => rfl
  | cons c cs ih => simp only [SV.frzL, List.map_cons, ih]

def BC.frz (b s : Nat) (els : List (List D)) : BC → BC
  | .row r => .row r
  | .mix r => BC.ofSV (r.map (SV.frzL b s els))

def Blk.frz (b s : Nat) (els : List (List D)) (k : Blk) : Blk := { k with c := k.c.frz b s els }

theorem BC.len_frz (b s : Nat) (els : List (List D)) (c : BC) : (c.frz b s els).len = c.len := by
  cases c with
  | row r => rfl
  | mix r => show (BC.ofSV _).len = _; rw [BC.ofSV_len]; simp [BC.len]
theorem BC.lens_frz (b s : Nat) (els : List (List D)) (c : BC) (e : Nat) : (c.frz b s els).lens? e = c.lens? e := by
  cases c with
  | row r => rfl
  | mix r => show (BC.ofSV _).lens? e = _; rw [BC.ofSV_lens]; simp only [BC.lens?, List.getElem?_map]; cases r[e]? <;> simp [SV.frzL_eq]
theorem BC.cell_frz (b s : Nat) (els : List (List D)) (c : BC) (e j : Nat) : (c.frz b s els).cell? e j = (c.cell? e j).map (SV.frz b s els) := by
  cases c with
  | row r =>
    simp only [BC.frz, BC.cell?]
    cases r[e]? with
    | none => rfl
    | some l => cases h : l[j]? <;> simp [h, SV.frz]
  | mix r =>
    show (BC.ofSV _).cell? e j = _
    rw [BC.ofSV_cell]
    simp only [BC.cell?, List.getElem?_map]
    cases r[e]? with
    | none => rfl
    | some l => simp [SV.frzL_eq]

/-- The store with block b turned into data. -/
def St.frz (st : St) (b s : Nat) (els : List (List D)) : St := { fr := st.fr.map (SV.frz b s els), hp := fun x => if x = b then none else (st.hp x).map (Blk.frz b s els) }

section
variable {X : Ctx} {st : St} {tmps : Array Value} {w : World} {β : Nat → Option BA} {S : Nat → Prop}

theorem RS.frz {v : Value} {x : SV} {b s : Nat} {mv : Bool} {els : List (List D)} {S' : Nat → Prop} (h : RS w β S v x) (hk : HK w β S b ⟨s, mv, .row els⟩) (hS : ∀ k, S k → S' k) (hb : ∀ ba, β b = some ba → S' ba.b) :
    RS w β S' v (x.frz b s els) := by
  have key : ∀ (vs : Array Value) (cs : List SV), vs.size = cs.length → (∀ (i : Nat) v c, vs[i]? = some v → cs[i]? = some c → RS w β S' v (c.frz b s els)) →
      vs.size = (SV.frzL b s els cs).length ∧ ∀ (i : Nat) v c, vs[i]? = some v → (SV.frzL b s els cs)[i]? = some c → RS w β S' v c := by
    intro vs cs hsz h
    rw [SV.frzL_eq]
    refine ⟨by simpa using hsz, fun i v c h1 h2 => ?_⟩
    rw [List.getElem?_map] at h2
    cases hc : cs[i]? with
    | none => rw [hc] at h2; cases h2
    | some c' => rw [hc] at h2; cases h2; exact h i v c' h1 hc
  induction h with
  | undef v => exact .undef v
  | d h => exact .d (h.wide hS)
  | agg vs cs hsz _ ih => have k := key vs cs hsz ih; exact .agg vs _ k.1 k.2
  | tup vs cs hsz _ ih => have k := key vs cs hsz ih; exact .tup vs _ k.1 k.2
  | sl0 A b' off =>
    simp only [SV.frz]
    split
    · split
      · simpa using RS.d (RD.rov0 (w := w) (S := S') A 0 s)
      · exact .undef _
    · exact .sl0 _ _ _
  | sl b' off len c ba hb' hc hn =>
    simp only [SV.frz]
    split
    · rename_i e
      subst e
      split
      · rename_i hle
        obtain ⟨g1, g2, g3, g4⟩ := hk.row hb'
        have hlen : ((els.drop off).take len).length = len := by simp; omega
        by_cases he : (els.drop off).take len = []
        · rw [he]
          have : len = 0 := by rw [← hlen, he]; rfl
          subst this
          exact .d (.rov0 _ _ _)
        · have hget : ∀ (e : Nat) el, ((els.drop off).take len)[e]? = some el → els[off + e]? = some el := fun e el he => by
            rw [List.getElem?_take] at he
            split at he
            · rwa [List.getElem?_drop] at he
            · cases he
          have hcell : ∀ e el (j : Nat) x, ((els.drop off).take len)[e]? = some el → el[j]? = some x → ∃ u, w.cell? ⟨ba.b, ba.o + off * ba.s + e * s + j, none⟩ = some u ∧ RD w S u x := fun e el j x h1 h2 => by
            obtain ⟨u, u1, u2⟩ := g4 _ el j x (hget e el h1) h2
            refine ⟨u, ?_, u2⟩
            rw [← u1, g1, Nat.add_mul]; congr 2; omega
          refine .d ?_
          have := RD.rov (w := w) (S := S') ba.b (ba.o + off * ba.s) c s ((els.drop off).take len) (fun e j => (w.cell? ⟨ba.b, ba.o + off * ba.s + e * s + j, none⟩).getD Go.undef) (hb ba hb')
            (HK.lt hk hb') he (by omega) (fun e el h1 => g3 _ el (hget e el h1)) (fun e el j x h1 h2 => by obtain ⟨u, u1, _⟩ := hcell e el j x h1 h2; rw [u1]; rfl)
            (fun e el j x h1 h2 => by obtain ⟨u, u1, u2⟩ := hcell e el j x h1 h2; rw [u1]; exact u2.wide hS)
          rw [hlen] at this
          exact this
      · exact .undef _
    · exact .sl b' off len c ba hb' hc hn
  | ptr b' e c ba hb' =>
    simp only [SV.frz]; split
    · exact .undef _
    · exact .ptr b' e c ba hb'
  | rptr b o cs us h1 h2 h3 h4 => exact (RS.rptr b o cs us h1 h2 h3 h4).wide hS
  | clo f vs caps hsz _ ih => have k := key vs caps hsz ih; exact .clo f vs _ k.1 k.2

/-- **A row of the call's own becomes data.** -/
theorem Weak.frz {n0 b s : Nat} {mv : Bool} {els : List (List D)} (hb : st.hp b = some ⟨s, mv, .row els⟩) (hn : n0 ≤ b) (hj : ∀ j, j < n0 → ∃ k, st.hp j = some k ∧ k.mv = false) : Weak n0 st (st.frz b s els) := by
  rintro X a w h0 hok ⟨hd, β, S, hr⟩
  have hk := hr.hp b _ hb
  let S' : Nat → Prop := fun k => S k ∨ ∃ ba, β b = some ba ∧ ba.b = k
  have hS : ∀ k, S k → S' k := fun k h => .inl h
  have hbS : ∀ ba, β b = some ba → S' ba.b := fun ba h => .inr ⟨ba, h, rfl⟩
  have hget : ∀ {x k}, (st.frz b s els).hp x = some k → x ≠ b ∧ ∃ k0, st.hp x = some k0 ∧ k = k0.frz b s els := fun {x k} h => by
    simp only [St.frz] at h
    split at h
    · cases h
    · rename_i hx
      cases hh : st.hp x with
      | none => rw [hh] at h; cases h
      | some k0 => rw [hh] at h; cases h; exact ⟨hx, k0, rfl, rfl⟩
  refine ⟨hd, β, S', by simp [St.frz, hr.size], fun t v sv h1 h2 => ?_, fun x k h => ?_, fun x x' ba ba' k k' h1 h2 h3 h4 e => ?_, fun x k ba h1 h2 => ?_, fun k h => ?_, hr.old, hr.os, hr.tape, hr.out, hr.grow, fun k h h1 => ?_, fun k h => hS k (hr.s1 k h), fun x k hx h hmv => ?_⟩
  · simp only [St.frz, List.getElem?_map] at h2
    cases hf : st.fr[t]? with
    | none => rw [hf] at h2; cases h2
    | some sv0 => rw [hf] at h2; cases h2; exact (hr.fr t v sv0 h1 hf).frz hk hS hbS
  · obtain ⟨hx, k0, h1, rfl⟩ := hget h
    rcases hr.hp x k0 h1 with ⟨h2, h3⟩ | ⟨ba, arr, ty, fz, h2, h3, h4, h5, h6, h7, h8, h9, h10⟩
    · exact .inl ⟨by simpa [Blk.frz, BC.len_frz] using h2, h3⟩
    · refine .inr ⟨ba, arr, ty, fz, h2, h3, h4, h5, h6, h7, by simpa [Blk.frz, BC.len_frz] using h8, by simpa [Blk.frz, BC.lens_frz] using h9, fun e c sv hc => ?_⟩
      simp only [Blk.frz, BC.cell_frz] at hc
      cases hcc : k0.c.cell? e c with
      | none => rw [hcc] at hc; cases hc
      | some sv0 =>
        rw [hcc] at hc; cases hc
        obtain ⟨u, u1, u2, u3⟩ := h10 e c sv0 hcc
        exact ⟨u, u1, u2, u3.frz hk hS hbS⟩
  · obtain ⟨_, k0, g1, _⟩ := hget h1
    obtain ⟨_, k0', g1', _⟩ := hget h2
    exact hr.inj x x' ba ba' k0 k0' g1 g1' h3 h4 e
  · obtain ⟨hx, k0, g1, _⟩ := hget h1
    refine ⟨?_, (hr.excl x k0 ba g1 h2).2⟩
    rintro (h3 | ⟨ba', h3, h4⟩)
    · exact (hr.excl x k0 ba g1 h2).1 h3
    · exact hx (hr.inj x b ba ba' k0 _ g1 hb h2 h3 h4.symm)
  · rcases h with h | ⟨ba, h1, rfl⟩
    · exact hr.sbd k h
    · exact HK.lt hk h1
  · rcases h with h | ⟨ba, h2, rfl⟩
    · exact hr.s0 k h h1
    · exfalso
      rcases (hr.excl b _ ba hb h2).2 with h3 | h3
      · omega
      · obtain ⟨j, ba', g1, g2, g3⟩ := hok _ h3
        rw [h0] at g1
        obtain ⟨k', g4, g5⟩ := hj j g1
        have g6 := hr.fix j k' (by omega) g4 g5
        rw [g2] at g6
        have := hr.inj j b ba' ba k' _ g4 hb g6 h2 g3
        omega
  · obtain ⟨_, k0, g1, rfl⟩ := hget h
    exact hr.fix x k0 hx g1 hmv

end
end Go.V
