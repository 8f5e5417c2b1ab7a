/- A part of the proof. No condition. -/
import Derived.Test.YtclapampnmjmoaaGreatDoorUD
set_option linter.unusedVariables false
set_option linter.unusedSimpArgs false
set_option linter.unusedSectionVars false
namespace Go.U
open Go
section
variable {P : Program} [Gl P] {Y : TT P} {X : Ctx P} {st : St} {a : Act} {w : World} {β : Nat → Option BA} {S : Nat → Prop}
theorem szOf_some {t : TypeId} {s : Nat} (h : szOf Y t = some s) : ∃ j, P.info? t = some j ∧ j.size = s := by
  unfold szOf at h
  cases h1 : Y.f t with
  | none => rw [h1] at h; cases h
  | some i =>
    rw [h1] at h; cases h
    obtain ⟨j, d, z, h2, _, _, rfl⟩ := Y.info h1
    exact ⟨j, h2, rfl⟩
theorem run_sizeOf {t : TypeId} {s : Nat} (h : szOf Y t = some s) : (sizeOf t).run P w = .ok s w := by
  obtain ⟨j, h1, h2⟩ := szOf_some h
  simp [sizeOf, typeInfo, h1, h2]
theorem RS.agg_inv {v : Value} {cs : List SV} (h : RS w β S v (.agg cs)) : ∃ vs : Array Value, v = .agg vs ∧ vs.size = cs.length ∧ ∀ (i : Nat) u c, vs[i]? = some u → cs[i]? = some c → RS w β S u c := by
  cases h with | agg vs cs hsz h => exact ⟨vs, rfl, hsz, h⟩
theorem RS.tup_inv {v : Value} {cs : List SV} (h : RS w β S v (.tup cs)) : ∃ vs : Array Value, v = .tuple vs ∧ vs.size = cs.length ∧ ∀ (i : Nat) u c, vs[i]? = some u → cs[i]? = some c → RS w β S u c := by
  cases h with | tup vs cs hsz h => exact ⟨vs, rfl, hsz, h⟩
theorem vals_of {cs : List SV} {f : Nat → Option Value} (h : ∀ (j : Nat) c, cs[j]? = some c → ∃ u, f j = some u ∧ RS w β S u c) :
    ∃ us : List Value, us.length = cs.length ∧ (∀ (j : Nat) u, us[j]? = some u → f j = some u) ∧ ∀ (j : Nat) u c, us[j]? = some u → cs[j]? = some c → RS w β S u c := by
  refine ⟨(List.range cs.length).map fun j => (f j).getD undef, by simp, fun j u hu => ?_, fun j u c hu hc => ?_⟩
  · simp only [List.getElem?_map] at hu
    cases hr : (List.range cs.length)[j]? with
    | none => rw [hr] at hu; cases hu
    | some i =>
      rw [hr] at hu
      rw [List.getElem?_eq_some_iff] at hr
      obtain ⟨h1, h2⟩ := hr
      simp at h1 h2
      subst h2
      obtain ⟨u', h3, _⟩ := h j _ (List.getElem?_eq_getElem h1)
      simp only [Option.map_some, Option.some.injEq, h3, Option.getD_some] at hu
      rw [h3, hu]
  · simp only [List.getElem?_map] at hu
    cases hr : (List.range cs.length)[j]? with
    | none => rw [hr] at hu; cases hu
    | some i =>
      rw [hr] at hu
      rw [List.getElem?_eq_some_iff] at hr
      obtain ⟨h1, h2⟩ := hr
      simp at h1 h2
      subst h2
      obtain ⟨u', h3, h4⟩ := h j _ hc
      simp only [Option.map_some, Option.some.injEq, h3, Option.getD_some] at hu
      subst hu
      exact h4
theorem part_load {t : TypeId} {i : TI} {cs : List SV} {r : SV} {p : Addr} (hi : Y.f t = some i) (h : partS i.td i.size cs = some r)
    (hc : ∀ (j : Nat) c, cs[j]? = some c → ∃ u, w.cell? (p.add j) = some u ∧ RS w β S u c) : ∃ v, (loadVar t p).run P w = .ok v w ∧ RS w β S v r := by
  obtain ⟨j, d, z, h1, h2, h3, rfl⟩ := Y.info hi
  unfold partS at h
  have hagg : (isAgg t).run P w = .ok (isAggT (tdOf P d)) w := by
    simp only [isAgg, Sem.run_bind, run_underlying h2, Result.andThen_ok]
    cases d <;> rfl
  split at h
  · rename_i hA
    split at h
    · rename_i hle
      cases h
      obtain ⟨us, k1, k2, k3⟩ := vals_of (cs := cs.take j.size) (f := fun x => w.cell? (p.add x)) (fun x c hx => by
        rw [List.getElem?_take] at hx
        split at hx
        · exact hc x c hx
        · cases hx)
      have hl : us.length = j.size := by rw [k1, List.length_take]; exact Nat.min_eq_left hle
      have hrun := run_loadCells_list (P := P) w p us k2
      rw [hl] at hrun
      refine ⟨.agg us.toArray, ?_, .agg _ _ (by simp [k1]) fun x u c hu hcc => k3 x u c (by simpa using hu) hcc⟩
      simp [loadVar, hagg, hA, sizeOf, typeInfo, h1, hrun]
    · cases h
  · rename_i hA
    cases cs with
    | nil => cases h
    | cons c cs =>
      simp at h; subst h
      obtain ⟨u, hu, hr⟩ := hc 0 c rfl
      have hA' : isAggT (tdOf P d) = false := by simpa using hA
      refine ⟨u, ?_, hr⟩
      rw [Addr.add_zero'] at hu
      simp [loadVar, hagg, hA', run_load, hu]
theorem HK.at_ {b : Nat} {k : Blk} (h : HK w β S b k) {ba : BA} (hb : β b = some ba) {e c : Nat} {sv : SV} (hc : k.c.cell? e c = some sv) :
    ∃ u, w.cell? ⟨ba.b, ba.o + e * ba.s + c, none⟩ = some u ∧ u.oneCell' = true ∧ RS w β S u sv := by
  rcases h with (⟨h1, h2⟩ | hm) | ⟨ba', arr, ty, fz, h1, h2, h3, h4, h5, h6, h7, h8, h9⟩
  · rw [h2] at hb; cases hb
  · obtain ⟨t, es, ba', ents, clock, h1, _⟩ := hm
    rw [h1] at hc; cases hc
  · rw [h1] at hb; cases hb
    obtain ⟨u, a1, a2, a3⟩ := h9 e c sv hc
    refine ⟨u, ?_, a2, a3⟩
    rw [← h2.1] at a1
    simp [World.cell?, h4, a1]
theorem BC.cell_el {c : BC} {e : Nat} {cs : List SV} (h : c.el? e = some cs) (j : Nat) : c.cell? e j = cs[j]? := by
  cases c with
  | row t xs =>
    simp only [BC.el?] at h
    simp only [BC.cell?]
    cases he : xs[e]? with
    | none => rw [he] at h; cases h
    | some l => rw [he] at h; cases h; simp
  | mix ty els =>
    simp only [BC.el?] at h
    simp only [BC.cell?, h]; rfl
  | map t es => cases h
theorem addr_add (b o n : Nat) : (⟨b, o, none⟩ : Addr).add n = ⟨b, o + n, none⟩ := Addr.add_lit b o n
theorem loadS_sound {t : TypeId} {u : Value} {p r : SV} (hr : Rel X st a.tmps w β S) (hu : RS w β S u p) (h : loadS Y st.hp t p = some r) :
    ∃ v, (Instr.loadAt t u).run P w = .ok v w ∧ RS w β S v r := by
  unfold loadS at h
  split at h
  · rename_i i hi
    split at h
    · rename_i b e c
      split at h
      · rename_i k hk
        split at h
        · rename_i cs hcs
          cases hu with
          | ptr b e c ba hb =>
            obtain ⟨v, h1, h2⟩ := part_load (P := P) (w := w) (β := β) (S := S) (p := ⟨ba.b, ba.o + e * ba.s + c, none⟩) hi h (fun j sv hj => by
              rw [List.getElem?_drop, ← BC.cell_el hcs] at hj
              obtain ⟨u, a1, _, a3⟩ := (hr.hp b k hk).at_ hb hj
              exact ⟨u, by rw [addr_add, Nat.add_assoc]; exact a1, a3⟩)
            exact ⟨v, by simp [Instr.loadAt, Instr.sureAddr, h1], h2⟩
        · cases h
      · cases h
    · rename_i cs
      cases hu with
      | rptr b o cs us hS hb hcell hd =>
        obtain ⟨v, h1, h2⟩ := part_load (P := P) (w := w) (β := β) (S := S) (p := ⟨b, o, none⟩) hi h (fun j sv hj => by
          rw [List.getElem?_map] at hj
          cases hx : cs[j]? with
          | none => rw [hx] at hj; cases hj
          | some x => rw [hx] at hj; cases hj; exact ⟨us j, by rw [addr_add]; exact hcell j x hx, .d (hd j x hx)⟩)
        exact ⟨v, by simp [Instr.loadAt, Instr.sureAddr, h1], h2⟩
    · rename_i g cs
      split at h
      case isFalse => cases h
      rename_i hg
      subst hg
      cases hu with
      | clo f vs cs hf hsz hcs => exact absurd hf (by decide)
      | fpt b o u x hS hb hcell hd =>
        obtain ⟨v, h1, h2⟩ := part_load (P := P) (w := w) (β := β) (S := S) (p := ⟨b, o, none⟩) hi h (fun j sv hj => by
          match j, hj with
          | 0, hj => simp at hj; subst hj; exact ⟨u, by rw [addr_add]; exact hcell, hd⟩
          | j + 1, hj => simp at hj)
        exact ⟨v, by simp [Instr.loadAt, Instr.sureAddr, h1], h2⟩
    · cases h
  · cases h
theorem part_of {t : TypeId} {i : TI} {cs : List SV} {r : SV} {vs : Array Value} {off : Nat} (hi : Y.f t = some i) (h : partS i.td i.size (cs.drop off) = some r)
    (hsz : vs.size = cs.length) (hc : ∀ (j : Nat) u c, vs[j]? = some u → cs[j]? = some c → RS w β S u c) : ∃ v, (∀ w, (part t vs off).run P w = .ok v w) ∧ RS w β S v r := by
  obtain ⟨j, d, z, h1, h2, h3, rfl⟩ := Y.info hi
  unfold partS at h
  have hagg : ∀ w, (isAgg t).run P w = .ok (isAggT (tdOf P d)) w := by
    intro w
    simp only [isAgg, Sem.run_bind, run_underlying h2, Result.andThen_ok]
    cases d <;> rfl
  split at h
  · rename_i hA
    split at h
    · rename_i hle
      cases h
      simp at hle
      refine ⟨.agg (vs.extract off (off + j.size)), fun w => ?_, .agg _ _ (by simp; omega) fun x u c hu hcc => ?_⟩
      · simp [part, hagg, hA, sizeOf, typeInfo, h1]
      · rw [Array.getElem?_extract] at hu
        rw [List.getElem?_take, List.getElem?_drop] at hcc
        split at hu
        · split at hcc
          · exact hc (off + x) u c hu hcc
          · cases hcc
        · cases hu
    · cases h
  · rename_i hA
    have hA' : isAggT (tdOf P d) = false := by simpa using hA
    rw [List.head?_drop] at h
    have hlt : off < vs.size := by rw [hsz]; exact (List.getElem?_eq_some_iff.1 h).1
    have hv : vs[off]? = some vs[off] := Array.getElem?_eq_getElem hlt
    refine ⟨vs[off], fun w => ?_, hc off _ _ hv h⟩
    simp [part, hagg, hA', hv]
theorem fieldS_sound {t : TypeId} {u : Value} {p r : SV} {f : Nat} (hu : RS w β S u p) (h : fieldS Y t p f = some r) :
    ∃ v, (∀ w, (Instr.field t u f).run P w = .ok v w) ∧ RS w β S v r := by
  unfold fieldS at h
  split at h
  · rename_i fs cs ht
    obtain ⟨d', h1, h2⟩ := tdAt_some ht
    obtain ⟨gs, rfl, rfl⟩ := td_st h2
    obtain ⟨vs, rfl, hsz, hc⟩ := hu.agg_inv
    split at h
    · rename_i off ty x hf
      rw [List.getElem?_map] at hf
      cases hg : gs.toList[f]? with
      | none => rw [hg] at hf; cases hf
      | some g =>
        rw [hg] at hf
        simp at hf
        obtain ⟨rfl, rfl, rfl⟩ := hf
        split at h
        · rename_i i hi
          obtain ⟨v, k1, k2⟩ := part_of (P := P) hi h hsz hc
          refine ⟨v, fun w => ?_, k2⟩
          have hg' : gs[f]? = some g := by simpa using hg
          simp [Instr.field, run_underlying h1, hg', asAgg, k1]
        · cases h
    · cases h
  · cases h
theorem fieldAddrS_sound {t : TypeId} {u : Value} {p r : SV} {f : Nat} (hu : RS w β S u p) (h : fieldAddrS Y t p f = some r) :
    ∃ v, (∀ w, (Instr.fieldAt t u f).run P w = .ok v w) ∧ RS w β S v r := by
  unfold fieldAddrS at h
  split at h
  · rename_i fs ht
    obtain ⟨d', h1, h2⟩ := tdAt_some ht
    obtain ⟨gs, rfl, rfl⟩ := td_st h2
    split at h
    · rename_i off ty sz hf
      rw [List.getElem?_map] at hf
      cases hg : gs.toList[f]? with
      | none => rw [hg] at hf; cases hf
      | some g =>
        rw [hg] at hf
        simp at hf
        obtain ⟨rfl, rfl, rfl⟩ := hf
        have hg' : gs[f]? = some g := by simpa using hg
        split at h
        · cases h
        · rename_i hsz
          have hso : ∃ s, (∀ w, (sizeOf g.type).run P w = .ok s w) ∧ s ≠ 0 := by
            unfold Program.cellsOf at hsz
            cases hj : P.info? g.type with
            | none => rw [hj] at hsz; exact absurd rfl hsz
            | some j => rw [hj] at hsz; exact ⟨j.size, fun w => by simp [sizeOf, typeInfo, hj], by simpa using hsz⟩
          obtain ⟨s, hs1, hs2⟩ := hso
          split at h
          · rename_i b e c
            cases h
            cases hu with
            | ptr b e c ba hb =>
              refine ⟨_, fun w => ?_, RS.ptr b e (c + g.offset) ba hb⟩
              simp [Instr.fieldAt, run_underlying h1, hg', Instr.sureAddr, fieldPlace, hs1, hs2, addr_add, Nat.add_assoc]
          · rename_i cs
            cases h
            cases hu with
            | rptr b o cs us hS hb hcell hd =>
              refine ⟨_, fun w => ?_, RS.rptr b (o + g.offset) (cs.drop g.offset) (fun j => us (g.offset + j)) hS hb (fun j x hx => ?_) (fun j x hx => ?_)⟩
              · simp [Instr.fieldAt, run_underlying h1, hg', Instr.sureAddr, fieldPlace, hs1, hs2, addr_add]
              · rw [List.getElem?_drop] at hx; rw [Nat.add_assoc]; exact hcell _ x hx
              · rw [List.getElem?_drop] at hx; exact hd _ x hx
          · cases h
    · cases h
  · cases h
end
end Go.U
