/- A part of the proof. No condition. -/
import Derived.Test.YtclapampnmjmoaaGreatDoorUJ
set_option linter.unusedVariables false
set_option linter.unusedSimpArgs false
set_option linter.unusedSectionVars false
namespace Go.U
open Go
section
variable {P : Program} [Gl P] {Y : TT P} {X : Ctx P} {st : St} {a : Act} {w : World} {β : Nat → Option BA} {S : Nat → Prop}
theorem load_els {s : Nat} (hs : 0 < s) {els : List (List D)} {b o : Nat} (hl : ∀ (e : Nat) el, els[e]? = some el → el.length = s)
    (hc : ∀ (e : Nat) (el : List D) (c : Nat) (x : D), els[e]? = some el → el[c]? = some x → ∃ u, w.cell? ⟨b, o + e * s + c, none⟩ = some u ∧ RD w S u x) :
    ∃ nv : List Value, nv.length = els.length * s ∧ (∀ w' : World, w'.heap = w.heap → (loadCells ⟨b, o, none⟩ (els.length * s)).run P w' = .ok nv.toArray w') ∧
      (∀ u ∈ nv, u.oneCell' = true) ∧ ∀ (e : Nat) (el : List D) (c : Nat) (x : D), els[e]? = some el → el[c]? = some x → ∃ u, nv[e * s + c]? = some u ∧ RD w S u x := by
  let f : Nat → Value := fun i => (w.cell? ⟨b, o + i, none⟩).getD undef
  have key : ∀ i, i < els.length * s → ∃ el x u, els[i / s]? = some el ∧ el[i % s]? = some x ∧ w.cell? ⟨b, o + i, none⟩ = some u ∧ RD w S u x := fun i hi => by
    have h1 : i / s < els.length := (Nat.div_lt_iff_lt_mul hs).2 hi
    have he := List.getElem?_eq_getElem h1
    have h2 : i % s < (els[i / s]).length := by rw [hl _ _ he]; exact Nat.mod_lt _ hs
    have hx := List.getElem?_eq_getElem h2
    obtain ⟨u, u1, u2⟩ := hc _ _ _ _ he hx
    refine ⟨_, _, u, he, hx, ?_, u2⟩
    rw [← u1, Nat.add_assoc, Nat.mul_comm, Nat.div_add_mod]
  refine ⟨(List.range (els.length * s)).map f, by simp, fun w' hw => ?_, fun u hu => ?_, fun e el c x he hx => ?_⟩
  · refine run_loadCells w' ⟨b, o, none⟩ _ f fun j hj => ?_
    obtain ⟨el, x, u, _, _, h3, _⟩ := key j hj
    rw [addr_add]
    have : w'.cell? ⟨b, o + j, none⟩ = w.cell? ⟨b, o + j, none⟩ := by simp only [World.cell?, hw]
    rw [this, h3]
    simp only [f, h3, Option.getD_some]
  · simp only [List.mem_map, List.mem_range] at hu
    obtain ⟨j, hj, rfl⟩ := hu
    obtain ⟨el, x, u, _, _, h3, h4⟩ := key j hj
    simp only [f, h3, Option.getD_some]
    exact h4.one
  · obtain ⟨u, u1, u2⟩ := hc e el c x he hx
    refine ⟨u, ?_, u2⟩
    have h1 : e < els.length := (List.getElem?_eq_some_iff.1 he).1
    have h2 : c < s := by rw [← hl e el he]; exact (List.getElem?_eq_some_iff.1 hx).1
    have h3 := mul_add_lt h1 h2
    simp only [List.getElem?_map, List.getElem?_range h3, Option.map_some, f, ← Nat.add_assoc, u1, Option.getD_some]
theorem map_get {t : Ty} {xs : List t.den} {e : Nat} {el : List D} (h : (xs.map t.enc)[e]? = some el) : ∃ x, xs[e]? = some x ∧ el = t.enc x := by
  rw [List.getElem?_map] at h
  cases hx : xs[e]? with
  | none => rw [hx] at h; cases h
  | some x => rw [hx] at h; cases h; exact ⟨x, rfl, rfl⟩
theorem map_len {t : Ty} {xs : List t.den} (e : Nat) (el : List D) (h : (xs.map t.enc)[e]? = some el) : el.length = t.size := by
  obtain ⟨x, _, rfl⟩ := map_get h; exact Ty.enc_len t x
theorem row_cell {t : Ty} {xs : List t.den} (e c : Nat) : (BC.row t xs).cell? e c = ((xs.map t.enc)[e]?).bind fun l => (l[c]?).map SV.d := by
  simp only [BC.cell?, List.getElem?_map]; cases xs[e]? <;> rfl
theorem HK.row {b : Nat} {s : Nat} {mv : Bool} {t : Ty} {xs : List t.den} (h : HK w β S b ⟨s, mv, .row t xs⟩) {ba : BA} (hb : β b = some ba) :
    ba.s = s ∧ 0 < s ∧ (∀ (e : Nat) el, (xs.map t.enc)[e]? = some el → el.length = s) ∧
    ∀ (e : Nat) (el : List D) (c : Nat) (x : D), (xs.map t.enc)[e]? = some el → el[c]? = some x → ∃ u, w.cell? ⟨ba.b, ba.o + e * s + c, none⟩ = some u ∧ RD w S u x := by
  obtain ⟨arr, ty, fz, g1, g2, g3, g4, g5, g6, g7, g8⟩ := h.open_ hb
  refine ⟨g1.1, g2, fun e el he => ?_, fun e el c x he hx => ?_⟩
  · obtain ⟨y, hy, rfl⟩ := map_get he
    rw [Ty.enc_len]
    exact g7 e t.size (by simp [BC.lens?, hy])
  · obtain ⟨u, u1, _, u3⟩ := h.at_ hb (e := e) (c := c) (sv := .d x) (by rw [row_cell, he]; simp [hx])
    have g1 := g1.1
    simp only at g1
    rw [g1] at u1
    exact ⟨u, u1, u3.inv_d⟩
theorem RS.all_sl (hr : Rel X st a.tmps w β S) {b : Nat} {k : Blk} (hk : st.hp b = some k) {v : Value} (h : RS w β S v (.all b)) : RS w β S v (.sl b 0 k.c.len) := by
  cases h with
  | all0 A b hb => rw [(hr.hp b k hk).zero hb]; exact .sl0 _ _ _
  | all b c ba hb hc hn =>
    obtain ⟨h1, h2⟩ := (hr.hp b k hk).facts hb
    rw [← h2]
    have := RS.sl (w := w) (β := β) (S := S) b 0 ba.len c ba hb hc (by simpa using hn)
    simpa using this
def Src (P : Program) (w : World) (S : Nat → Prop) (t0 : Ty) (t : TypeId) (u : Value) (els : List t0.den) : Prop :=
    (∃ d, P.underlying t = some d ∧ (∀ k, d ≠ .int k)) ∧ (∀ w' : World, (Builtin.lenOf u).run P w' = .ok els.length w') ∧ ∀ m, m ≤ els.length →
    ∃ nv : List Value, nv.length = m * t0.size ∧ (∀ w' : World, w'.heap = w.heap → (Builtin.firstCells t0.size m u).run P w' = .ok nv.toArray w') ∧ (∀ u ∈ nv, u.oneCell' = true) ∧
      ∀ (e : Nat) (el : List D) (c : Nat) (x : D), e < m → (els.map t0.enc)[e]? = some el → el[c]? = some x → ∃ u, nv[e * t0.size + c]? = some u ∧ RD w S u x
theorem src_nil {t0 : Ty} {t : TypeId} {A : Option Addr} {c : Nat} (h : ∃ d, P.underlying t = some d ∧ (∀ k, d ≠ .int k)) : Src P w S t0 t (.slice A 0 c) [] := by
  refine ⟨h, fun w' => by simp [Builtin.lenOf], fun m hm => ⟨[], by simp at hm; simp [hm], fun w' _ => ?_, by simp, fun e el c x _ he => by simp at he⟩⟩
  simp at hm; subst hm
  cases A with
  | none => simp [Builtin.firstCells]
  | some A => simp [Builtin.firstCells, loadCells, loadCellsFrom]
theorem src_sl {t0 : Ty} {t : TypeId} {u : Value} {b off len : Nat} {s' : Nat} {mv : Bool} {xs : List t0.den} (hr : Rel X st a.tmps w β S) (hd : ∃ d, P.underlying t = some d ∧ (∀ k, d ≠ .int k)) (hu : RS w β S u (.sl b off len)) (hk : st.hp b = some ⟨s', mv, .row t0 xs⟩) (hle : off + len ≤ xs.length) :
    Src P w S t0 t u ((xs.drop off).take len) := by
  have hln : ((xs.drop off).take len).length = len := by simp; omega
  cases hu with
  | sl0 A b off => exact src_nil hd
  | sl b off len c ba hb hc hn =>
    rcases Nat.eq_zero_or_pos len with h0 | h0
    · subst h0; exact src_nil hd
    obtain ⟨g1, g2, g3, g4⟩ := (hr.hp b _ hk).row hb
    have hs' : s' = t0.size := by
      have hlt : 0 < xs.length := by omega
      have := g3 0 (t0.enc xs[0]) (by rw [List.getElem?_map, List.getElem?_eq_getElem hlt]; rfl)
      rw [Ty.enc_len] at this; exact this.symm
    refine ⟨hd, fun w' => by simp only [Builtin.lenOf, Sem.run_pure, hln], fun m hm => ?_⟩
    rw [hln] at hm
    have hsub : ∀ (e : Nat) el, (((xs.drop off).take m).map t0.enc)[e]? = some el → (xs.map t0.enc)[off + e]? = some el ∧ e < m := fun e el he => by
      obtain ⟨x, hx, rfl⟩ := map_get he
      rw [List.getElem?_take] at hx
      split at hx
      · rename_i hem
        rw [List.getElem?_drop] at hx
        exact ⟨by rw [List.getElem?_map, hx]; rfl, hem⟩
      · cases hx
    obtain ⟨nv, n1, n2, n3, n4⟩ := load_els (P := P) (w := w) (S := S) (Ty.size_pos t0) (els := ((xs.drop off).take m).map t0.enc) (b := ba.b) (o := ba.o + off * t0.size) (fun e el he => map_len e el he) (fun e el c x he hx => by
        obtain ⟨h1, _⟩ := hsub e el he
        obtain ⟨u, u1, u2⟩ := g4 _ el c x h1 hx
        exact ⟨u, by rw [← u1, hs', Nat.add_mul]; congr 2; omega, u2⟩)
    have hml : (((xs.drop off).take m).map t0.enc).length = m := by simp; omega
    rw [hml] at n1 n2
    refine ⟨nv, n1, fun w' hw => by simp only [Builtin.firstCells]; rw [g1, hs']; exact n2 w' hw, n3, fun e el c x hem he hx => n4 e el c x ?_ hx⟩
    obtain ⟨y, hy, rfl⟩ := map_get he
    rw [List.getElem?_take] at hy
    split at hy
    · rw [List.getElem?_map, List.getElem?_take, if_pos hem, hy]; rfl
    · cases hy
theorem src_sound {t0 : Ty} {t : TypeId} {u : Value} {x : SV} {els : List t0.den} (hr : Rel X st a.tmps w β S) (hu : RS w β S u x) (h : srcEls Y st.hp t0 t x = some els) : Src P w S t0 t u els := by
  unfold srcEls at h
  split at h
  · rename_i l ht
    obtain ⟨d', h1, h2⟩ := tdAt_some ht
    have := td_str h2; subst this
    obtain rfl := hu.inv_str
    split at h
    · cases h
      have hz : (ByteArray.mk l.toArray).size = l.length := by simp [ByteArray.size]
      have hl : (ofB l).length = l.length := by simp [ofB]
      refine ⟨⟨_, h1, fun k h => by cases h⟩, fun w' => ?_, fun m hm => ?_⟩
      · simp only [Builtin.lenOf, hz, Sem.run_pure]
        exact congrArg (fun n => Result.ok n w') hl.symm
      · replace hm : m ≤ l.length := by rw [← hl]; exact hm
        refine ⟨(l.take m).map fun b => .int .u8 b.toNat, by simp [Ty.size]; omega, fun w' _ => ?_, fun u hu => ?_, fun e el c x hem he hx => ?_⟩
        · have : ((ByteArray.mk l.toArray).extract 0 m) = ⟨(l.take m).toArray⟩ := by rw [ByteArray.extract_mk]; simp
          simp only [Builtin.firstCells, this, Sem.run_pure]
          congr 1
          simp
        · simp only [List.mem_map] at hu; obtain ⟨b, _, rfl⟩ := hu; rfl
        · obtain ⟨y, hy, rfl⟩ := map_get he
          replace hy : (l.map fun b => (b.toNat : Int))[e]? = some y := hy
          rw [List.getElem?_map] at hy
          cases hb : l[e]? with
          | none => rw [hb] at hy; cases hy
          | some b =>
            rw [hb] at hy; cases hy
            cases c with
            | zero =>
              simp [Ty.enc] at hx; subst hx
              refine ⟨_, ?_, .i _ _⟩
              simp only [Ty.size, Nat.mul_one, Nat.add_zero, List.getElem?_map, List.getElem?_take, if_pos hem, hb]; rfl
            | succ c => simp [Ty.enc] at hx
    · cases h
      have hz : (ByteArray.mk l.toArray).size = l.length := by simp [ByteArray.size]
      have hl : (ofB l).length = l.length := by simp [ofB]
      refine ⟨⟨_, h1, fun k h => by cases h⟩, fun w' => ?_, fun m hm => ?_⟩
      · simp only [Builtin.lenOf, hz, Sem.run_pure]
        exact congrArg (fun n => Result.ok n w') hl.symm
      · replace hm : m ≤ l.length := by rw [← hl]; exact hm
        refine ⟨(l.take m).map fun b => .int .u8 b.toNat, by simp [Ty.size]; omega, fun w' _ => ?_, fun u hu => ?_, fun e el c x hem he hx => ?_⟩
        · have : ((ByteArray.mk l.toArray).extract 0 m) = ⟨(l.take m).toArray⟩ := by rw [ByteArray.extract_mk]; simp
          simp only [Builtin.firstCells, this, Sem.run_pure]
          congr 1
          simp
        · simp only [List.mem_map] at hu; obtain ⟨b, _, rfl⟩ := hu; rfl
        · obtain ⟨y, hy, rfl⟩ := map_get he
          replace hy : (l.map fun b => (b.toNat : Int))[e]? = some y := hy
          rw [List.getElem?_map] at hy
          cases hb : l[e]? with
          | none => rw [hb] at hy; cases hy
          | some b =>
            rw [hb] at hy; cases hy
            cases c with
            | zero =>
              simp [Ty.enc] at hx; subst hx
              refine ⟨_, ?_, .i _ _⟩
              simp only [Ty.size, Nat.mul_one, Nat.add_zero, List.getElem?_map, List.getElem?_take, if_pos hem, hb]; rfl
            | succ c => simp [Ty.enc] at hx
    · cases h
  · rename_i e ht
    obtain ⟨d', h1, h2⟩ := tdAt_some ht
    have := td_sl h2; subst this
    cases h
    cases hu.inv_d with
    | emp => exact src_nil ⟨_, h1, fun k h => by cases h⟩
  · rename_i e t' xs ht
    obtain ⟨d', h1, h2⟩ := tdAt_some ht
    have := td_sl h2; subst this
    split at h
    · rename_i hss
      subst hss
      cases h
      cases hu.inv_d with
      | rov0 A c t => exact src_nil ⟨_, h1, fun k h => by cases h⟩
      | rov b o c t xs us hS hb hne hcc hcell hd =>
        refine ⟨⟨_, h1, fun k h => by cases h⟩, fun w' => by simp [Builtin.lenOf], fun m hm => ?_⟩
        replace hm : m ≤ xs.length := hm
        have hsub : ∀ (e : Nat) el, ((xs.take m).map t'.enc)[e]? = some el → ∃ x, xs[e]? = some x ∧ el = t'.enc x := fun e el he => by
          obtain ⟨x, hx, rfl⟩ := map_get he
          rw [List.getElem?_take] at hx
          split at hx
          · exact ⟨x, hx, rfl⟩
          · cases hx
        obtain ⟨nv, n1, n2, n3, n4⟩ := load_els (P := P) (w := w) (S := S) (Ty.size_pos t') (els := (xs.take m).map t'.enc) (b := b) (o := o) (fun e el he => map_len e el he) (fun e el c x he hx => by
          obtain ⟨y, hy, rfl⟩ := hsub e el he
          exact ⟨_, hcell e y c x hy hx, hd e y c x hy hx⟩)
        have hml : ((xs.take m).map t'.enc).length = m := by simp; omega
        rw [hml] at n1 n2
        refine ⟨nv, n1, n2, n3, fun e el c x hem he hx => n4 e el c x ?_ hx⟩
        obtain ⟨y, hy, rfl⟩ := map_get he
        rw [List.getElem?_map, List.getElem?_take, if_pos hem, hy]; rfl
    · cases h
  · rename_i e b ht
    obtain ⟨d', h1, h2⟩ := tdAt_some ht
    have := td_sl h2; subst this
    split at h
    · rename_i s' mv t' xs hk
      split at h
      · rename_i hss
        subst hss
        cases h
        have := src_sl (P := P) (t := t) hr ⟨_, h1, fun k h => by cases h⟩ (hu.all_sl hr hk) hk (by simp [BC.len])
        simpa [BC.len] using this
      · match t', t0, xs, els, hk, h with
        | .i .u8, .y T, xs, els, hk, h =>
          cases h
          have := src_sl (P := P) (t := t) hr ⟨_, h1, fun k h => by cases h⟩ (hu.all_sl hr hk) hk (by simp [BC.len])
          have h3 : Src P w S (.i .u8) t u xs := by simpa [BC.len] using this
          exact h3
    · cases h
  · rename_i e b off len ht
    obtain ⟨d', h1, h2⟩ := tdAt_some ht
    have := td_sl h2; subst this
    split at h
    · rename_i s' mv t' xs hk
      split at h
      · rename_i hss
        subst hss
        split at h
        · rename_i hle
          cases h
          exact src_sl (P := P) (t := t) hr ⟨_, h1, fun k h => by cases h⟩ hu hk hle
        · cases h
      · cases h
    · cases h
  · cases h
theorem run_sizeOf' {e : TypeId} {j : TypeInfo} {w : World} (hj : P.info? e = some j) : (sizeOf e).run P w = .ok j.size w := by simp [sizeOf, typeInfo, hj]
theorem run_append_room' {t u ty e : TypeId} {j : TypeInfo} {x : Value} {base : Option Addr} {sLen sCap m : Nat} {nv : List Value} (ht : P.underlying t = some (.slice e)) (hu : ∃ d, P.underlying u = some d ∧ ∀ k, d ≠ .int k)
    (hj : P.info? e = some j) (hl : (Builtin.lenOf x).run P w = .ok m w) (hf : (Builtin.firstCells j.size m x).run P w = .ok nv.toArray w) (hroom : sLen + m ≤ sCap) {w' : World}
    (hst : ∀ A, base = some A → (storeCells (A.add (sLen * j.size)) nv).run P w = .ok () w') (hnone : base = none → w' = w) :
    (Builtin.append_ #[t, u] ty #[.slice base sLen sCap, x]).run P w = .ok (.slice base (sLen + m) sCap) w' := by
  obtain ⟨d, hd, _⟩ := hu
  have hz : ((underlying u).run P w) = .ok d w := run_underlying hd w
  cases base with
  | none =>
    have := hnone rfl; subst this
    simp only [Builtin.append_, List.getElem?_toArray, List.getElem?_cons_zero, List.getElem?_cons_succ, Sem.run_bind, run_underlying ht, Result.andThen_ok, run_sizeOf' hj, hz, Sem.run_pure, Bool.false_eq_true, if_false, hl, Bool.not_false, if_true, hroom, hf]
  | some A =>
    simp only [Builtin.append_, List.getElem?_toArray, List.getElem?_cons_zero, List.getElem?_cons_succ, Sem.run_bind, run_underlying ht, Result.andThen_ok, run_sizeOf' hj, hz, Sem.run_pure, Bool.false_eq_true, if_false, hl, Bool.not_false, if_true, hroom, hf, hst A rfl]
theorem run_append_grow' {t u ty e : TypeId} {j : TypeInfo} {z : Value} {x : Value} {base : Option Addr} {sLen sCap m : Nat} {ov nv : List Value} (ht : P.underlying t = some (.slice e)) (hu : ∃ d, P.underlying u = some d ∧ ∀ k, d ≠ .int k)
    (hj : P.info? e = some j) (hz : j.zero = some z) (hl : (Builtin.lenOf x).run P w = .ok m w) (hf : (Builtin.firstCells j.size m x).run P w.drew = .ok nv.toArray w.drew)
    (hold : (Builtin.firstCells j.size sLen (.slice base sLen sCap)).run P w.drew = .ok ov.toArray w.drew) (hroom : sCap < sLen + m) (hmax : sLen + m ≤ maxSum) (hb : (sLen + m) * j.bytes ≤ 140737488355328) :
    ∃ cap, sLen + m ≤ cap ∧ (Builtin.append_ #[t, u] ty #[.slice base sLen sCap, x]).run P w = .ok (.slice (some ⟨w.heap.size, 0, none⟩) (sLen + m) cap)
      (w.drew.alloc (.cells (ov.toArray ++ nv.toArray ++ Builtin.zeroCells z.cells (cap - (sLen + m))) e)) := by
  obtain ⟨d, hd, hnk⟩ := hu
  have hzz : (underlying u).run P w = .ok d w := run_underlying hd w
  refine ⟨grownCap w (sLen + m) sCap e, grownCap_ge _ _ _ _, ?_⟩
  have hfit := growslice_fits hroom hb
  have h1 : ¬ sLen + m ≤ sCap := by omega
  have h2 : ¬ (9223372036854775807 < (sLen : Int) + (m : Int)) := by simp only [maxSum] at hmax; omega
  have h3 : ¬ (281474976710656 < Builtin.nextslicecap (sLen + m) sCap * j.bytes) := by omega
  have hcat : ∀ Z : Array Value, ov.toArray ++ (nv.toArray ++ Z) = ov.toArray ++ nv.toArray ++ Z := fun Z => by rw [Array.append_assoc]
  have key : ∀ (d' : TypeDesc), (∀ k, d' ≠ .int k) → (underlying u).run P w = .ok d' w → (Builtin.append_ #[t, u] ty #[.slice base sLen sCap, x]).run P w = .ok (.slice (some ⟨w.heap.size, 0, none⟩) (sLen + m) (grownCap w (sLen + m) sCap e))
      (w.drew.alloc (.cells (ov.toArray ++ nv.toArray ++ Builtin.zeroCells z.cells (grownCap w (sLen + m) sCap e - (sLen + m))) e)) := fun d' hnk hzz => by
    simp only [Builtin.append_, List.getElem?_toArray, List.getElem?_cons_zero, List.getElem?_cons_succ, Sem.run_bind, run_underlying ht, Result.andThen_ok, run_sizeOf' hj, hzz, Sem.run_pure, Bool.false_eq_true, if_false, hl, Bool.not_false, if_true, h1]
    cases d' <;> first
      | exact absurd rfl (hnk _)
      | (simp [typeInfo, hj, h2, h3, Question.forced, hold, hf, zeroValue, hz, newRow, grownCap, hcat]; done)
  exact key d hnk hzz
theorem Rel.virt (h : Rel X st a.tmps w β S) (b : Nat) (k : Blk) (hn : X.n0 ≤ b ∨ k.mv = true) (hk : k.c.len = 0) :
    Rel X (st.newB b k) a.tmps w (fun x => if x = b then none else β x) S := by
  refine h.upd b (k.kill b) _ rfl rfl rfl (Nat.le_refl _) (fun j _ _ => rfl) (fun b' hb' => if_neg hb') (.inl (.inl ⟨by simpa [Blk.kill, BC.len_kill] using hk, if_pos rfl⟩)) (fun ba' he => ?_) (fun hlt hmv => ?_)
  · simp at he
  · rcases hn with hn | hn
    · omega
    · simp only [Blk.kill] at hmv; rw [hn] at hmv; cases hmv
theorem row_cells {t : Ty} {xs : List t.den} {s : Nat} {A : Array Value} (hA : ∀ (e : Nat) (el : List D) (c : Nat) (x : D), (xs.map t.enc)[e]? = some el → el[c]? = some x → ∃ u, A[e * s + c]? = some u ∧ RD w S u x) :
    ∀ e c sv, (BC.row t xs).cell? e c = some sv → ∃ u, A[e * s + c]? = some u ∧ u.oneCell' = true ∧ RS w β S u sv := by
  intro e c sv hc
  rw [row_cell] at hc
  cases he : (xs.map t.enc)[e]? with
  | none => rw [he] at hc; cases hc
  | some el =>
    rw [he] at hc
    simp at hc
    obtain ⟨x, hx, rfl⟩ := hc
    obtain ⟨u, u1, u2⟩ := hA e el c x he hx
    exact ⟨u, u1, u2.one, .d u2⟩
theorem row_lens {t : Ty} {xs : List t.den} {s : Nat} (hs : t.size = s) : ∀ e l, (BC.row t xs).lens? e = some l → l = s := by
  intro e l h
  simp only [BC.lens?] at h
  cases he : xs[e]? with
  | none => rw [he] at h; cases h
  | some el => rw [he] at h; cases h; exact hs
theorem BC.ty_fits {tt : Ty} {xs : List tt.den} {e : TypeId} {t : TypeId × Bool} (hf : tt.fits e = true) (ht : (BC.row tt xs).ty? = some t) : e = t.1 ∧ t.2 = false := by
  cases tt <;> simp [BC.ty?] at ht
  subst ht
  simp [Ty.fits] at hf
  exact ⟨hf.symm, rfl⟩
theorem BC.ty_len {tt : Ty} {xs ys : List tt.den} : (BC.row tt xs).ty? = (BC.row tt ys).ty? := by cases tt <;> rfl
theorem BC.ty_false {tt : Ty} {xs : List tt.den} {t : TypeId × Bool} (h : (BC.row tt xs).ty? = some t) : t.2 = false := by
  cases tt <;> simp [BC.ty?] at h
  subst h; rfl
def refS (g : Bool) (b : Nat) : SV := match g with
  | true => .bb b
  | false => .all b
theorem RS.refS (g : Bool) {b c : Nat} {ba : BA} (hb : β b = some ba) (hc : ba.len ≤ c) (hn : ba.o + c * ba.s ≤ ba.n) : RS w β S (.slice (some ⟨ba.b, ba.o, none⟩) ba.len c) (refS g b) := by
  cases g
  · exact .all b c ba hb hc hn
  · exact .bb b c ba hb hc hn
theorem append_fresh {t u ty e : TypeId} {j : TypeInfo} {z : Value} {x : Value} {base : Option Addr} {sLen sCap : Nat} {ov nv : List Value} {tt : Ty} {olds news : List tt.den} (ht : P.underlying t = some (.slice e)) (hu : ∃ d, P.underlying u = some d ∧ ∀ k, d ≠ .int k)
    (hj : P.info? e = some j) (hz : j.zero = some z) (hzs : z.cells.size = j.size) (hs : 0 < j.size) (hts : tt.size = j.size) (hfit : tt.fits e = true) (hr : Rel X st a.tmps w β S) (g : Bool) (b : Nat) (mv : Bool) (hn : X.n0 ≤ b ∨ mv = true) (d : Nat)
    (hl : (Builtin.lenOf x).run P w = .ok news.length w) (hf : (Builtin.firstCells j.size news.length x).run P w.drew = .ok nv.toArray w.drew)
    (hold : (Builtin.firstCells j.size sLen (.slice base sLen sCap)).run P w.drew = .ok ov.toArray w.drew) (hroom : sCap < sLen + news.length) (hmax : sLen + news.length ≤ maxSum) (hb : (sLen + news.length) * j.bytes ≤ 140737488355328)
    (hol : olds.length = sLen) (hovl : ov.length = sLen * j.size) (hnvl : nv.length = news.length * j.size)
    (hoc : ∀ (e : Nat) (el : List D) (c : Nat) (x : D), (olds.map tt.enc)[e]? = some el → el[c]? = some x → ∃ u, ov[e * j.size + c]? = some u ∧ RD w S u x)
    (hnc : ∀ (e : Nat) (el : List D) (c : Nat) (x : D), (news.map tt.enc)[e]? = some el → el[c]? = some x → ∃ u, nv[e * j.size + c]? = some u ∧ RD w S u x) :
    ∃ v w', (Builtin.append_ #[t, u] ty #[.slice base sLen sCap, x]).run P w = .ok v w' ∧ ∃ β', Rel X ((st.newB b ⟨j.size, mv, .row tt (olds ++ news)⟩).put (some d) (refS g b)) (a.put (some d) v).tmps w' β' S := by
  obtain ⟨cap, hcap, hrun⟩ := run_append_grow' (P := P) (ty := ty) ht hu hj hz hl hf hold hroom hmax hb
  refine ⟨_, _, hrun, ?_⟩
  have hr' : Rel X st a.tmps w.drew β S := hr.drew (w.drawn + 1)
  have hsz : (ov.toArray ++ nv.toArray ++ Builtin.zeroCells z.cells (cap - (sLen + news.length))).size = cap * j.size := by
    simp only [Array.size_append, List.size_toArray, hovl, hnvl, size_zeroCells, hzs, ← Nat.add_mul]
    congr 1; omega
  have h1 := hr'.newB b ⟨j.size, mv, .row tt (olds ++ news)⟩ hn (ov.toArray ++ nv.toArray ++ Builtin.zeroCells z.cells (cap - (sLen + news.length))) e (0, 0) (by simp) (fun _ => rfl) hs (by rw [hsz]; simp only [BC.len, List.length_append, hol]; exact Nat.mul_le_mul_right _ hcap)
    (row_lens hts) (fun t ht => by obtain ⟨h1, h2⟩ := BC.ty_fits hfit ht; exact ⟨h1, fun h => by rw [h2] at h; cases h⟩)
    (row_cells (w := w.drew) fun e el c x he hx => by
      dsimp only
      have hcell : ∀ i, (ov.toArray ++ nv.toArray ++ Builtin.zeroCells z.cells (cap - (sLen + news.length)))[i]? = if i < sLen * j.size then ov[i]? else if i < (sLen + news.length) * j.size then nv[i - sLen * j.size]? else (Builtin.zeroCells z.cells (cap - (sLen + news.length)))[i - (sLen + news.length) * j.size]? := fun i => by
        rw [Array.getElem?_append, Array.getElem?_append]
        simp only [Array.size_append, List.size_toArray, hovl, hnvl, ← Nat.add_mul, List.getElem?_toArray]
        by_cases h2 : i < sLen * j.size
        · have h3 : i < (sLen + news.length) * j.size := by rw [Nat.add_mul]; omega
          rw [if_pos h3, if_pos h2, if_pos h2]
        · rw [if_neg h2, if_neg h2]
      rw [List.map_append, List.getElem?_append] at he
      rw [List.length_map] at he
      split at he
      · rename_i hlt
        have hc : c < j.size := by rw [← hts, ← map_len e el he]; exact (List.getElem?_eq_some_iff.1 hx).1
        obtain ⟨u, u1, u2⟩ := hoc e el c x he hx
        refine ⟨u, ?_, u2.drew _⟩
        rw [hcell, if_pos (mul_add_lt (by omega) hc)]
        exact u1
      · rename_i hlt
        have hen : e - olds.length < news.length := by simpa using (List.getElem?_eq_some_iff.1 he).1
        have hc : c < j.size := by rw [← hts, ← map_len _ el he]; exact (List.getElem?_eq_some_iff.1 hx).1
        obtain ⟨u, u1, u2⟩ := hnc _ el c x he hx
        refine ⟨u, ?_, u2.drew _⟩
        have e1 : e * j.size = sLen * j.size + (e - olds.length) * j.size := by rw [← Nat.add_mul]; congr 1; omega
        have h3 := mul_add_lt hen hc
        have e2 : (sLen + news.length) * j.size = sLen * j.size + news.length * j.size := Nat.add_mul ..
        rw [hcell, if_neg (by omega), if_pos (by omega), ← u1]
        congr 1; omega)
  refine ⟨_, h1.put d ?_⟩
  have hll : (olds ++ news).length = sLen + news.length := by rw [List.length_append, hol]
  have key : ∀ n, n = (BC.row tt (olds ++ news)).len → RS (w.drew.alloc (.cells (ov.toArray ++ nv.toArray ++ Builtin.zeroCells z.cells (cap - (sLen + news.length))) e))
    (fun x => if x = b then some ⟨w.drew.heap.size, 0, (ov.toArray ++ nv.toArray ++ Builtin.zeroCells z.cells (cap - (sLen + news.length))).size, j.size, (BC.row tt (olds ++ news)).len⟩ else β x) S (.slice (some ⟨w.drew.heap.size, 0, none⟩) n cap) (refS g b) := by
    rintro n rfl
    exact RS.refS g (c := cap) (ba := ⟨w.drew.heap.size, 0, (ov.toArray ++ nv.toArray ++ Builtin.zeroCells z.cells (cap - (sLen + news.length))).size, j.size, (BC.row tt (olds ++ news)).len⟩) (if_pos rfl) (by simp only [BC.len, hll]; exact hcap) (by simp only [Nat.zero_add]; rw [hsz]; exact Nat.le_refl _)
  exact key _ hll.symm
theorem append_sound {t u ty : TypeId} {d : Nat} {sv xv : Value} {s x : SV} {st' : St} (hn : X.n0 ≤ 1000) (hg : Good X st a w) (hs : ∀ β S, Rel X st a.tmps w β S → RS w β S sv s) (hx : ∀ β S, Rel X st a.tmps w β S → RS w β S xv x) (h : appendSt Y st d t u s x = some st') :
    ∃ v w', (Builtin.append_ #[t, u] ty #[sv, xv]).run P w = .ok v w' ∧ Good X st' (a.put (some d) v) w' := by
  obtain ⟨hdf, β, S, hr⟩ := hg
  replace hs := hs β S hr
  replace hx := hx β S hr
  unfold appendSt at h
  split at h
  case h_2 => cases h
  rename_i e ht
  split at h
  case h_2 => cases h
  rename_i i hi
  split at h
  case h_2 => cases h
  rename_i t0 hty
  split at h
  · cases h
  rename_i hszz
  have hfits : t0.fits e = true := by cases hh : t0.fits e with | true => rfl | false => exact absurd (.inr hh) hszz
  have hszz : i.size = t0.size := Decidable.byContradiction fun hh => hszz (.inl hh)
  have hsz : 0 < i.size := by rw [hszz]; exact Ty.size_pos t0
  split at h
  case h_2 => cases h
  rename_i news hnews
  obtain ⟨d', h1, h2⟩ := tdAt_some ht
  have := td_sl h2; subst this
  obtain ⟨j, z, z1, z2, z3, z4, z5, z6, z7⟩ := zero_cells hi
  obtain ⟨hu, hlen, hfirst⟩ := src_sound (P := P) hr hx hnews
  obtain ⟨nv, n1, n2, n3, n4⟩ := hfirst news.length (Nat.le_refl _)
  have hzs : z.cells.size = j.size := by omega
  have hjs : 0 < j.size := by omega
  have htj : t0.size = j.size := by omega
  rw [htj] at n1 n2 n4
  have n4' : ∀ (e : Nat) (el : List D) (c : Nat) (x : D), (news.map t0.enc)[e]? = some el → el[c]? = some x → ∃ u, nv[e * j.size + c]? = some u ∧ RD w S u x := fun e el c x he hx => n4 e el c x (by simpa using (List.getElem?_eq_some_iff.1 he).1) he hx
  -- nothing to append to: a slice without room
  have empty : ∀ (g : Bool) (A : Option Addr) (b : Nat) (mv : Bool), sv = .slice A 0 0 → (g = true → A = none) → (X.n0 ≤ b ∨ mv = true) → news.length * j.bytes ≤ 140737488355328 → news.length ≤ maxSum →
      ∃ v w', (Builtin.append_ #[t, u] ty #[sv, xv]).run P w = .ok v w' ∧ Good X ((st.newB b ⟨j.size, mv, .row t0 news⟩).put (some d) (refS g b)) (a.put (some d) v) w' := by
    intro g A b mv hsv hgA hb hby hmax
    subst hsv
    rcases Nat.eq_zero_or_pos news.length with h0 | h0
    · have hn0 : news = [] := List.eq_nil_of_length_eq_zero h0
      subst hn0
      have hnv : nv = [] := List.eq_nil_of_length_eq_zero (by simpa using n1)
      subst hnv
      refine ⟨_, _, run_append_room' (P := P) (ty := ty) h1 hu z1 (hlen w) (n2 w rfl) (by simp) (w' := w) (fun A _ => by simp [storeCells]) (fun _ => rfl), hdf, _, S, (hr.virt b ⟨j.size, mv, .row t0 []⟩ hb rfl).put d (by
        cases g
        · exact .all0 _ _ (if_pos rfl)
        · rw [hgA rfl]; exact .bb0 _ (if_pos rfl))⟩
    · obtain ⟨v, w', r1, β', r2⟩ := append_fresh (P := P) (ty := ty) (x := xv) (base := A) (sLen := 0) (sCap := 0) (ov := []) (nv := nv) (olds := []) (news := news) h1 hu z1 z2 hzs hjs htj hfits hr g b mv hb d (hlen w) (n2 w.drew rfl)
        (by cases A with
            | none => simp [Builtin.firstCells]
            | some A => simp [Builtin.firstCells, loadCells, loadCellsFrom]) (by omega) (by omega) (by simpa using hby) rfl (by simp) n1 (fun e el c x he => by simp at he) n4'
      exact ⟨v, w', r1, hdf, β', S, by simpa using r2⟩
  have coreS : ∀ (g : Bool) (b off len s' : Nat) (mv : Bool) (xs : List t0.den) (c : Nat) (ba : BA), st.hp b = some ⟨s', mv, .row t0 xs⟩ → β b = some ba → len ≤ c → ba.o + (off + c) * ba.s ≤ ba.n → sv = .slice (some ⟨ba.b, ba.o + off * ba.s, none⟩) len c → s' = i.size → off + len ≤ xs.length → (len + news.length) * i.bytes ≤ 140737488355328 → len + news.length ≤ maxSum →
      (∀ T, (BC.row t0 xs).ty? = some T → off = 0 ∧ len = xs.length) →
      ∃ v w', (Builtin.append_ #[t, u] ty #[sv, xv]).run P w = .ok v w' ∧ Good X ((st.newB b ⟨i.size, true, .row t0 ((xs.drop off).take len ++ news)⟩).put (some d) (refS g b)) (a.put (some d) v) w' := by
    intro g b off len s' mv xs c ba hk hb hc hnn hsv hs' hle hby hmax hgrow
    subst hsv
    have hoct : ((xs.drop off).take len).length = len := by simp; omega
    obtain ⟨g1, g2, g3, g4⟩ := (hr.hp b _ hk).row hb
    have hjs' : s' = j.size := by omega
    have hget : ∀ (e : Nat) el, (((xs.drop off).take len).map t0.enc)[e]? = some el → (xs.map t0.enc)[off + e]? = some el := fun e el he => by
      obtain ⟨y, hy, rfl⟩ := map_get he
      rw [List.getElem?_take] at hy
      split at hy
      · rw [List.getElem?_drop] at hy; rw [List.getElem?_map, hy]; rfl
      · cases hy
    have hos : ∀ (e : Nat) el, (((xs.drop off).take len).map t0.enc)[e]? = some el → el.length = j.size := fun e el he => by rw [← htj]; exact map_len e el he
    have hnl : ∀ (e : Nat) el, (news.map t0.enc)[e]? = some el → el.length = j.size := fun e el he => by rw [← htj]; exact map_len e el he
    have hocell : ∀ (e : Nat) (el : List D) (cc : Nat) (y : D), (((xs.drop off).take len).map t0.enc)[e]? = some el → el[cc]? = some y → ∃ u, w.cell? ⟨ba.b, ba.o + off * ba.s + e * j.size + cc, none⟩ = some u ∧ RD w S u y := fun e el cc y he hy => by
      obtain ⟨u, u1, u2⟩ := g4 _ el cc y (hget e el he) hy
      refine ⟨u, ?_, u2⟩
      rw [← u1, g1, ← hjs', Nat.add_mul]
      congr 2; omega
    by_cases hroom : len + news.length ≤ c
    · -- in place
      obtain ⟨arr, ty', fz, ⟨a1, _, a0⟩, a2, a3, a4, a5, a6, a7, a8⟩ := (hr.hp b _ hk).open_ hb
      simp only at a1 a2 a6 a7 a8
      have hfit : ba.o + (off + len) * j.size + nv.length ≤ arr.size := by
        have e1 : (off + (len + news.length)) * j.size ≤ (off + c) * ba.s := by rw [a1, hjs']; exact Nat.mul_le_mul_right _ (by omega)
        have e2 : (off + (len + news.length)) * j.size = (off + len) * j.size + news.length * j.size := by rw [← Nat.add_mul]; congr 1; omega
        omega
      obtain ⟨arr', q1, q2, q3, q4, q5, q6, q7, q8⟩ := setCells_heap ba.b nv (ba.o + (off + len) * j.size) w arr ty' fz a3 hfit
      have hst := run_storeCells_blk (P := P) (vs := nv) a3 (fun q hi1 hi2 => by
        cases hf : (fz.1 ≤ q && q < fz.2) with
        | false => rfl
        | true =>
          obtain ⟨⟨T, hT⟩, hlt⟩ := a4.at_ q hi2 hf
          exfalso
          have hll : (off + len) = xs.length := by have := hgrow _ hT; omega
          simp only [BC.len] at hlt
          rw [← hll, hs', ← z3] at hlt
          omega) hfit n3
      have hll : ((xs.drop off).take len ++ news).length = len + news.length := by rw [List.length_append, hoct]
      refine ⟨_, _, run_append_room' (P := P) (ty := ty) h1 hu z1 (hlen w) (n2 w rfl) hroom (w' := w.setCells ba.b (ba.o + (off + len) * j.size) nv) (fun A hA => ?_) (fun h => by cases h), hdf, fun y => if y = b then some { ba with o := ba.o + off * ba.s, len := len + news.length } else β y, S, ?_⟩
      · cases hA
        rw [addr_add, show ba.o + off * ba.s + len * j.size = ba.o + (off + len) * j.size by rw [a1, hjs', Nat.add_mul]; omega]
        exact hst
      · have hS : ∀ k, S k → S k ∧ (w.setCells ba.b (ba.o + (off + len) * j.size) nv).heap[k]? = w.heap[k]? := fun k hk' => ⟨hk', q4 k fun e => (hr.excl b _ ba hk hb).1 (e ▸ hk')⟩
        have hupd := hr.upd (w' := w.setCells ba.b (ba.o + (off + len) * j.size) nv) b (Blk.kill b ⟨i.size, true, .row t0 ((xs.drop off).take len ++ news)⟩) (fun y => if y = b then some { ba with o := ba.o + off * ba.s, len := len + news.length } else β y) q5 q6 q7 (by omega)
          (fun k hk' hne => q4 k (hne ba _ hk hb)) (fun b' hb' => if_neg hb') (.inr ⟨_, arr', ty', fz, if_pos rfl, ⟨by simp only [Blk.kill]; omega, by simp only [Blk.kill, BC.kill, BC.len]; exact hll.symm, fun t ht => by
            have ht' : (BC.row t0 xs).ty? = some t := (BC.ty_len (xs := xs)).trans ht
            obtain ⟨e1, e2, e3⟩ := a0 t ht'
            obtain ⟨e4, _⟩ := hgrow t ht'
            refine ⟨e1, by simp only; rw [e2, e4]; simp, fun h => ?_⟩
            rw [BC.ty_false ht'] at h; cases h⟩, by simp only [Blk.kill]; omega, q1, ⟨fun q hi hf => by
              obtain ⟨⟨T, hT⟩, hlt⟩ := a4.at_ q (by omega) hf
              obtain ⟨e4, e5⟩ := hgrow _ hT
              refine ⟨⟨T, (BC.ty_len (xs := xs)).symm.trans hT⟩, ?_⟩
              simp only [Blk.kill, BC.kill, BC.len] at hlt ⊢
              rw [hll]
              have : xs.length * s' ≤ (len + news.length) * i.size := by rw [hs']; exact Nat.mul_le_mul_right _ (by omega)
              omega, fun ⟨T, hT⟩ => by
              have hT' : (BC.row t0 xs).ty? = some (T, false) := (BC.ty_len (xs := xs)).trans hT
              obtain ⟨e4, e5⟩ := hgrow _ hT'
              rcases a4.y ⟨T, hT'⟩ with h | ⟨h1, h2⟩
              · exact .inl h
              · refine .inr ⟨h1, ?_⟩
                simp only [Blk.kill, BC.kill, BC.len] at h2 ⊢
                rw [hll]
                have : xs.length * s' ≤ (len + news.length) * i.size := by rw [hs']; exact Nat.mul_le_mul_right _ (by omega)
                omega⟩, by simp only; omega, ?_, ?_, ?_⟩)
          (fun ba' he => .inl ⟨ba, _, hk, hb, by simp at he; rw [← he]⟩) (fun _ hmv => by cases hmv)
        · exact hupd.put d (by
            have := RS.refS (w := w.setCells ba.b (ba.o + (off + len) * j.size) nv) (S := S) (β := fun y => if y = b then some { ba with o := ba.o + off * ba.s, len := len + news.length } else β y) g (b := b) (c := c) (if_pos rfl) hroom (by
              have : (off + c) * ba.s = off * ba.s + c * ba.s := Nat.add_mul ..
              simp only
              omega)
            simpa using this)
        · simp only [Blk.kill, BC.kill, BC.len, List.length_append, hoct]
          have e1 : (off + (len + news.length)) * i.size ≤ (off + c) * ba.s := by rw [a1, hs']; exact Nat.mul_le_mul_right _ (by omega)
          have e2 : (off + (len + news.length)) * i.size = off * ba.s + (len + news.length) * i.size := by rw [a1, hs', ← Nat.add_mul]
          omega
        · simp only [Blk.kill, BC.kill]
          exact row_lens (by omega)
        · simp only [Blk.kill, BC.kill]
          intro e cc svv hcell
          rw [row_cell] at hcell
          cases he : (((xs.drop off).take len ++ news).map t0.enc)[e]? with
          | none => rw [he] at hcell; cases hcell
          | some el =>
            rw [he] at hcell
            simp at hcell
            obtain ⟨y, hy, rfl⟩ := hcell
            rw [List.map_append, List.getElem?_append, List.length_map] at he
            have e0 : (off + len) * j.size = off * ba.s + len * j.size := by rw [a1, hjs', Nat.add_mul]
            rw [q3, ← z3]
            split at he
            · rename_i hlt
              rw [hoct] at hlt
              have hcc : cc < j.size := by rw [← hos e el he]; exact (List.getElem?_eq_some_iff.1 hy).1
              have := mul_add_lt hlt hcc
              rw [if_neg (by omega)]
              obtain ⟨u, u1, u2⟩ := hocell e el cc y he hy
              refine ⟨u, ?_, u2.one, .d (u2.mono hS (by omega))⟩
              simp only [World.cell?, a3] at u1
              simpa using u1
            · rename_i hlt
              rw [hoct] at hlt
              rw [hoct] at he
              have hen : e - len < news.length := by simpa using (List.getElem?_eq_some_iff.1 he).1
              have hcc : cc < j.size := by rw [← hnl _ el he]; exact (List.getElem?_eq_some_iff.1 hy).1
              have h3 := mul_add_lt hen hcc
              have e1 : e * j.size = len * j.size + (e - len) * j.size := by rw [← Nat.add_mul]; congr 1; omega
              rw [if_pos (by omega)]
              obtain ⟨u, u1, u2⟩ := n4' _ el cc y he hy
              refine ⟨u, ?_, u2.one, .d (u2.mono hS (by omega))⟩
              rw [← u1]; congr 1; omega
    · -- in new memory
      obtain ⟨ov, o1, o2, o3, o4⟩ := load_els (P := P) (w := w) (S := S) hjs (els := ((xs.drop off).take len).map t0.enc) (b := ba.b) (o := ba.o + off * ba.s) hos hocell
      rw [List.length_map, hoct] at o1 o2
      obtain ⟨v, w', r1, β', r2⟩ := append_fresh (P := P) (ty := ty) (x := xv) (base := some ⟨ba.b, ba.o + off * ba.s, none⟩) (sLen := len) (sCap := c) (ov := ov) (nv := nv) (olds := (xs.drop off).take len) (news := news) h1 hu z1 z2 hzs hjs htj hfits hr g b true (.inr rfl) d (hlen w) (n2 w.drew rfl)
        (by simp only [Builtin.firstCells]; exact o2 w.drew rfl) (by omega) hmax (by rw [z4]; exact hby) hoct o1 n1 o4 n4'
      rw [z3] at r2
      exact ⟨v, w', r1, hdf, β', S, r2⟩
  have core : ∀ (b off len s' : Nat) (mv : Bool) (xs : List t0.den), st.hp b = some ⟨s', mv, .row t0 xs⟩ → RS w β S sv (.sl b off len) → s' = i.size → off + len ≤ xs.length → (len + news.length) * i.bytes ≤ 140737488355328 → len + news.length ≤ maxSum →
      (∀ T, (BC.row t0 xs).ty? = some T → off = 0 ∧ len = xs.length) →
      ∃ v w', (Builtin.append_ #[t, u] ty #[sv, xv]).run P w = .ok v w' ∧ Good X ((st.newB b ⟨i.size, true, .row t0 ((xs.drop off).take len ++ news)⟩).put (some d) (.all b)) (a.put (some d) v) w' := by
    intro b off len s' mv xs hk hs hs' hle hby hmax hgrow
    cases hs with
    | sl0 A b off =>
      have := empty false A b true rfl (fun h => by cases h) (.inr rfl) (by rw [z4]; simpa using hby) (by simpa using hmax)
      rw [z3] at this
      simpa [refS] using this
    | sl b off len c ba hb hc hnn => exact coreS false b off len s' mv xs c ba hk hb hc hnn rfl hs' hle hby hmax hgrow
  split at h
  · split at h
    · rename_i hcond
      cases h
      cases hs.inv_d with
      | emp =>
        have := empty false none (newId d) false rfl (fun h => by cases h) (.inl (by unfold newId; omega)) (by rw [z4]; exact hcond.1) hcond.2
        rw [z3] at this; exact this
    · cases h
  · split at h
    · rename_i hcond
      cases h
      cases hs.inv_d with
      | emq A =>
        have := empty false A (newId d) false rfl (fun h => by cases h) (.inl (by unfold newId; omega)) (by rw [z4]; exact hcond.1) hcond.2
        rw [z3] at this; exact this
    · cases h
  · rename_i b
    split at h
    · rename_i s' mv t' xs hk
      split at h
      · rename_i htt
        subst htt
        split at h
        · rename_i hcond
          cases h
          cases hs with
          | bb0 b hb =>
            have h0 : xs = [] := List.length_eq_zero_iff.1 ((hr.hp b _ hk).zero hb)
            subst h0
            have := empty true none b true rfl (fun _ => rfl) (.inr rfl) (by rw [z4]; simpa using hcond.2.1) (by simpa using hcond.2.2)
            rw [z3] at this
            simpa [refS] using this
          | bb b c ba hb hc hnn =>
            have hl := ((hr.hp b _ hk).facts hb).2
            simp only [BC.len] at hl
            have := coreS true b 0 xs.length s' mv xs c ba hk hb (by omega) (by simpa using hnn) (by simp [hl]) hcond.1 (by omega) hcond.2.1 hcond.2.2 (fun _ _ => ⟨rfl, rfl⟩)
            simpa [refS] using this
        · cases h
      · cases h
    · cases h
  · rename_i b
    split at h
    · rename_i s' mv t' xs hk
      split at h
      · rename_i htt
        subst htt
        split at h
        · rename_i hcond
          cases h
          have := core b 0 xs.length s' mv xs hk (hs.all_sl hr hk) hcond.1 (by omega) hcond.2.1 hcond.2.2 (fun _ _ => ⟨rfl, rfl⟩)
          simpa using this
        · cases h
      · cases h
    · cases h
  · rename_i b off len
    split at h
    · rename_i s' mv t' xs hk
      split at h
      · rename_i htt
        subst htt
        split at h
        · rename_i hcond
          cases h
          exact core b off len s' mv xs hk hs hcond.1 hcond.2.1 hcond.2.2.1 hcond.2.2.2.1 (fun T hT => by rw [BC.ty_row hcond.2.2.2.2] at hT; cases hT)
        · cases h
      · cases h
    · cases h
  · cases h
theorem run_copy' {t u ty e : TypeId} {j : TypeInfo} {x : Value} {base : Option Addr} {dLen dCap m : Nat} {nv : List Value} {w' : World} (ht : P.underlying t = some (.slice e)) (hj : P.info? e = some j)
    (hl : (Builtin.lenOf x).run P w = .ok m w) (hf : (Builtin.firstCells j.size (min m dLen) x).run P w = .ok nv.toArray w)
    (hst : ∀ A, base = some A → (storeCells A nv).run P w = .ok () w') (hnone : base = none → w' = w) :
    (Builtin.copy_ #[t, u] ty #[.slice base dLen dCap, x]).run P w = .ok (.int .i64 (min m dLen : Nat)) w' := by
  have hf' : (Builtin.firstCells j.size (Nat.min m dLen) x).run P w = .ok nv.toArray w := hf
  cases base with
  | none =>
    have := hnone rfl; subst this
    simp only [Builtin.copy_, List.getElem?_toArray, List.getElem?_cons_zero, List.getElem?_cons_succ, Sem.run_bind, run_underlying ht, Result.andThen_ok, run_sizeOf' hj, Sem.run_pure, hl, hf', goInt]
  | some A =>
    simp only [Builtin.copy_, List.getElem?_toArray, List.getElem?_cons_zero, List.getElem?_cons_succ, Sem.run_bind, run_underlying ht, Result.andThen_ok, run_sizeOf' hj, Sem.run_pure, hl, hf', hst A rfl, goInt]
theorem hset_id {h : Nat → Option Blk} {b : Nat} {k : Blk} (hb : h b = some k) : hset h b k = h := by
  funext x
  unfold hset
  split
  · rename_i e; rw [e, hb]
  · rfl
theorem copy_sound {t u ty : TypeId} {sv xv : Value} {s x : SV} {r : St × Nat} (hr : Rel X st a.tmps w β S) (hs : RS w β S sv s) (hx : RS w β S xv x) (h : copySt Y st t u s x = some r) :
    ∃ w', (Builtin.copy_ #[t, u] ty #[sv, xv]).run P w = .ok (.int .i64 r.2) w' ∧ Rel X r.1 a.tmps w' β S := by
  have core : ∀ (e b off len s s' : Nat) (mv : Bool) (t0 : Ty) (xs news : List t0.den), tdAt Y t = some (.sl e) → szOf Y e = some s → st.hp b = some ⟨s', mv, .row t0 xs⟩ → ¬ (s ≠ t0.size ∨ s' ≠ s ∨ t0.isY = true) → srcEls Y st.hp t0 u x = some news → off + len ≤ xs.length → RS w β S sv (.sl b off len) →
      ∃ w', (Builtin.copy_ #[t, u] ty #[sv, xv]).run P w = .ok (.int .i64 (min news.length len : Nat)) w' ∧ Rel X { st with hp := hset st.hp b ⟨s', mv, .row t0 (xs.take off ++ news.take (min news.length len) ++ xs.drop (off + min news.length len))⟩ } a.tmps w' β S := by
    intro e b off len s s' mv t0 xs news ht hsz hk hcond hnews hle hs
    have hny : t0.isY = false := by cases hh : t0.isY with | false => rfl | true => exact absurd (.inr (.inr hh)) hcond
    have hss : s' = s := Decidable.byContradiction fun hh => hcond (.inr (.inl hh))
    have hst : t0.size = s := Decidable.byContradiction fun hh => hcond (.inl fun e => hh e.symm)
    subst hss
    obtain ⟨d', h1, h2⟩ := tdAt_some ht
    have := td_sl h2; subst this
    obtain ⟨j, j1, j2⟩ := szOf_some hsz
    obtain ⟨hu, hlen, hfirst⟩ := src_sound (P := P) hr hx hnews
    obtain ⟨nv, n1, n2, n3, n4⟩ := hfirst (min news.length len) (Nat.min_le_left _ _)
    rw [hst] at n1 n2 n4
    cases hs with
    | sl0 A b off =>
      have hm : min news.length 0 = 0 := by omega
      rw [hm] at n1
      have hnv : nv = [] := List.eq_nil_of_length_eq_zero (by simpa using n1)
      subst hnv
      refine ⟨w, run_copy' (P := P) (ty := ty) h1 j1 (hlen w) (by rw [j2]; exact n2 w rfl) (fun A _ => by simp [storeCells]) (fun _ => rfl), ?_⟩
      simp only [hm, List.take_zero, List.append_nil, Nat.add_zero, List.take_append_drop]
      rw [hset_id hk]; exact hr
    | sl b off len c ba hb hc hnn =>
      obtain ⟨g1, g2, g3, g4⟩ := (hr.hp b _ hk).row hb
      obtain ⟨arr, ty', fz, ⟨a1, _, _⟩, a2, a3, a4, a5, a6, a7, a8⟩ := (hr.hp b _ hk).open_ hb
      simp only [BC.len] at a6
      have hmle : off + min news.length len ≤ xs.length := by omega
      have hml : (off + min news.length len) * s' ≤ xs.length * s' := Nat.mul_le_mul_right _ hmle
      rw [Nat.add_mul] at hml
      have hto : (xs.take off).length = off := by simp; omega
      have htm : (news.take (min news.length len)).length = min news.length len := by simp
      obtain ⟨w', w1, w2⟩ := hr.write (P := P) hk hb (o := ba.o + off * s') (vs := nv) (by omega) n3 rfl
        ⟨s', mv, .row t0 (xs.take off ++ news.take (min news.length len) ++ xs.drop (off + min news.length len))⟩ rfl rfl (by simp only [BC.len, List.length_append, hto, htm, List.length_drop]; omega) BC.ty_len (fun T hT => by rw [BC.ty_row hny] at hT; cases hT)
        (row_lens hst)
        (fun e cc svv hcell => by
          rw [row_cell, List.append_assoc, List.map_append, List.getElem?_append, List.length_map, hto] at hcell
          have hrow : ∀ (ys : List t0.den) (e' : Nat), (((ys.map t0.enc)[e']?).bind fun l => (l[cc]?).map SV.d) = some svv → ∃ el y, (ys.map t0.enc)[e']? = some el ∧ el[cc]? = some y ∧ svv = .d y ∧ cc < s' := fun ys e' hh => by
            cases hel : (ys.map t0.enc)[e']? with
            | none => rw [hel] at hh; cases hh
            | some el =>
              rw [hel] at hh
              simp at hh
              obtain ⟨y, hy, rfl⟩ := hh
              exact ⟨el, y, rfl, hy, rfl, by rw [← hst, ← map_len e' el hel]; exact (List.getElem?_eq_some_iff.1 hy).1⟩
          split at hcell
          · rename_i hlt
            rw [List.map_take, List.getElem?_take, if_pos hlt] at hcell
            obtain ⟨el, y, q1, q2, q3, q4⟩ := hrow xs e hcell
            have := mul_add_lt hlt q4
            exact .inr ⟨by dsimp only; omega, svv, by rw [row_cell]; exact hcell, .refl _⟩
          · rename_i hlt
            rw [List.map_append, List.getElem?_append, List.length_map, htm] at hcell
            split at hcell
            · rename_i hlt2
              rw [List.map_take, List.getElem?_take, if_pos hlt2] at hcell
              obtain ⟨el, y, q1, q2, q3, q4⟩ := hrow news (e - off) hcell
              have h3 := mul_add_lt hlt2 q4
              have e1 : e * s' = off * s' + (e - off) * s' := by rw [← Nat.add_mul]; congr 1; omega
              obtain ⟨u, u1, u2⟩ := n4 (e - off) el cc y hlt2 q1 q2
              refine .inl ⟨by dsimp only; omega, by dsimp only; omega, u, ?_, q3 ▸ .d u2⟩
              rw [← u1]; congr 1; dsimp only; omega
            · rename_i hlt2
              rw [List.map_drop, List.getElem?_drop, show off + min news.length len + (e - off - min news.length len) = e by omega] at hcell
              obtain ⟨el, y, q1, q2, q3, q4⟩ := hrow xs e hcell
              have : (off + min news.length len) * s' ≤ e * s' := Nat.mul_le_mul_right _ (by omega)
              rw [Nat.add_mul] at this
              exact .inr ⟨by dsimp only; omega, svv, by rw [row_cell]; exact hcell, .refl _⟩)
      refine ⟨w', run_copy' (P := P) (ty := ty) h1 j1 (hlen w) (by rw [j2]; exact n2 w rfl) (fun A hA => ?_) (fun h => by cases h), w2⟩
      cases hA
      rw [g1]; exact w1
  unfold copySt at h
  split at h
  · rename_i e b off len ht
    split at h
    · rename_i s s' mv t0 xs hsz hk
      split at h
      · cases h
      · rename_i hcond
        split at h
        · rename_i news hnews
          split at h
          · rename_i hle
            cases h
            exact core e b off len s s' mv t0 xs news ht hsz hk hcond hnews hle hs
          · cases h
        · cases h
    · cases h
  · rename_i e b ht
    split at h
    · rename_i s s' mv t0 xs hsz hk
      split at h
      · cases h
      · rename_i hcond
        split at h
        · rename_i news hnews
          cases h
          have := core e b 0 xs.length s s' mv t0 xs news ht hsz hk hcond hnews (by omega) (hs.all_sl hr hk)
          simpa using this
        · cases h
    · cases h
  · cases h
theorem upd_sound {t : TypeId} {u v y : Value} {p q r : SV} {st' : St} (hr : Rel X st a.tmps w β S) (hu : RS w β S u p) (hv : RS w β S v q) (hy : RS w β S y r) (h : updS Y st t p q r = some st') :
    ∃ w', (Instr.mapUpdate t u v y).run P w = .ok () w' ∧ Rel X st' a.tmps w' β S := by
  unfold updS at h
  split at h
  · rename_i kt e g b s ht
    obtain ⟨d', h1, h2⟩ := tdAt_some ht
    have := td_map h2; subst this
    obtain rfl := hv.inv_str
    split at h
    · rename_i hg
      subst hg
      split at h
      · rename_i n mv T es hkt hb
        obtain ⟨d2, k1, k2⟩ := tdAt_some hkt
        have := td_str k2; subst this
        split at h
        · rename_i hT
          split at h
          · rename_i z hz
            cases h
            have hyd : RD w S y (leafD T z) := by
              obtain ⟨us, u1, u2, u3⟩ := dec_spec T _ _ _ hz
              rw [List.append_nil] at u1; subst u1
              obtain ⟨c, c1, c2, _⟩ := u3 0 (leafD T z) (by rw [leafD_enc T z hT]; rfl)
              simp at c1; subst c1
              exact (c2 _ _ _ _ hy).inv_d
            cases hu with
            | clo f vs caps hf hsz hc => exact absurd hf (by decide)
            | mp r0 x0 hx0 =>
              obtain ⟨ba, hβ, he0⟩ := hx0.ptr_at
              simp only [Value.pointer.injEq, Option.some.injEq, Addr.mk.injEq] at he0
              obtain ⟨rfl, _, _⟩ := he0
              rcases hr.hp b _ hb with (⟨_, hno⟩ | ⟨T', es', ba', ents, clock, m1, m2, m3, m4, es1, m5, m6, m7⟩) | ⟨ba', arr, ty, fz, g1, _, g3, _, _, _, _, g8, _⟩
              · rw [hβ] at hno; cases hno
              · cases m1
                rw [hβ] at m2; cases m2
                have hck := MapKept.run_checkKey (P := P) (w := w) k1 (k := .string ⟨s.toArray⟩) trivial false 9999
                have fin : ∀ (ents' : Array MapEntry) (clock' : Nat) (es2 : List (List UInt8 × T.den)), es2 = upL es1 s z → ents'.size = es2.length →
                    (∀ (i : Nat) key x, es2[i]? = some (key, x) → ∃ e d, ents'[i]? = some e ∧ e.key = .string ⟨key.toArray⟩ ∧ T.enc x = [d] ∧ RD w S e.val d) →
                    Rel X { st with hp := hset st.hp b ⟨n, mv, .map T (upM es s z)⟩ } a.tmps { w with heap := w.heap.setIfInBounds ba.b (.map ents' clock') } β S := fun ents' clock' es2 he2 hl hc => by
                  have hh := MapKept.heap_set (o' := .map ents' clock') m4
                  have hS : ∀ k, S k → S k ∧ ({ w with heap := w.heap.setIfInBounds ba.b (.map ents' clock') } : World).heap[k]? = w.heap[k]? := fun j hj => ⟨hj, hh.2 j fun e => (hr.excl b _ ba hb hβ).1 (e ▸ hj)⟩
                  refine hr.sto b _ _ hb ba hβ rfl rfl rfl (by simp) (fun j _ hj => hh.2 j hj) (.inl (.inr ⟨T, upM es s z, ba, ents', clock', rfl, hβ, m3, hh.1, es2, hl, fun i key x hx => ?_, fun q => by rw [he2, lkO_upL, lkO_upM, m7]⟩)) rfl
                  obtain ⟨e, d, c1, c2, c3, c4⟩ := hc i key x hx
                  exact ⟨e, d, c1, c2, c3, c4.mono hS (by simp)⟩
                rcases find_at (T := T) (w := w) (S := S) s es1 ents.toList 0 (by simpa using m5) (fun i key x hx => by simpa using m6 i key x hx) with ⟨g1, g2, g3⟩ | ⟨j, x', e', d', g1, g2, g3, g4, g5, g6, g7, g8⟩
                · have hfk := MapKept.run_findKey (P := P) (w := w) k1 g2
                  refine ⟨_, ?_, fin (ents.push ⟨.string ⟨s.toArray⟩, y, clock⟩) (clock + 1) _ rfl (by rw [g3]; simp [m5]) fun i key x hx => ?_⟩
                  · simp [Instr.mapUpdate, run_underlying h1, MapKept.run_getObj_map m4, hck, hfk, MapKept.run_setObj_map _ m4, Result.andThen]
                  · rw [g3, List.getElem?_append] at hx
                    split at hx
                    · rename_i hlt
                      obtain ⟨e, d, c1, c2, c3, c4⟩ := m6 i key x hx
                      exact ⟨e, d, by rw [Array.getElem?_push, if_neg (by omega)]; exact c1, c2, c3, c4⟩
                    · rename_i hge
                      have hi : i = es1.length := by
                        have := (List.getElem?_eq_some_iff.1 hx).1
                        simp at this; omega
                      subst hi
                      simp at hx
                      obtain ⟨rfl, rfl⟩ := hx
                      exact ⟨⟨.string ⟨s.toArray⟩, y, clock⟩, leafD T z, by rw [Array.getElem?_push, if_pos m5.symm], rfl, leafD_enc T z hT, hyd⟩
                · have hfk := MapKept.run_findKey (P := P) (w := w) k1 g7
                  rw [Nat.zero_add] at hfk
                  have hj : ents[j]? = some e' := by simpa using g3
                  have hkk : ((ents[j]?).map (·.key)).getD (.string ⟨s.toArray⟩) = .string ⟨s.toArray⟩ := by rw [hj]; simp [g4]
                  have hks := MapKept.run_keyThatStays (P := P) (w := w) (d := .string) (k := .string ⟨s.toArray⟩) trivial
                  refine ⟨_, ?_, fin (ents.modify j fun e => { e with key := .string ⟨s.toArray⟩, val := y }) clock _ rfl (by rw [g8]; simp [m5]) fun i key x hx => ?_⟩
                  · simp [Instr.mapUpdate, run_underlying h1, MapKept.run_getObj_map m4, hck, hfk, hj, g4, hks, MapKept.run_setObj_map _ m4, Result.andThen]
                  · rw [g8, List.getElem?_set] at hx
                    rw [Array.getElem?_modify]
                    split at hx
                    · rename_i hji
                      subst hji
                      try rw [if_pos g2] at hx
                      simp at hx
                      obtain ⟨rfl, rfl⟩ := hx
                      rw [if_pos rfl, hj]
                      exact ⟨_, leafD T z, rfl, rfl, leafD_enc T z hT, hyd⟩
                    · rename_i hji
                      obtain ⟨e, d, c1, c2, c3, c4⟩ := m6 i key x hx
                      rw [if_neg hji]
                      exact ⟨e, d, c1, c2, c3, c4⟩
              · have := g8 0 0 rfl
                simp only at this g3; omega
          · cases h
        · cases h
      · cases h
    · cases h
  · cases h
theorem opPut_sound {o : Oper} (hn : X.n0 ≤ 1000) (hg : Good X st a w) {st' : St} (h : opPut Y st o.dst o.op = some st') : Does P X a w o st' := by
  obtain ⟨dst, op, type, pos, after, guard⟩ := o
  simp only at h
  unfold opPut at h
  split at h
  · rename_i t p v
    cases hs : storeSt Y st t (ev st p) (ev st v) with
    | none => rw [hs] at h; cases h
    | some st1 =>
      rw [hs] at h; cases h
      obtain ⟨hdf, β, S, hr⟩ := hg
      obtain ⟨w', w1, w2⟩ := store_sound (P := P) hr (ev_sound hr p) (ev_sound hr v) hs
      have hg1 : Good X st1 a w' := ⟨hdf, β, S, w2⟩
      refine ⟨.skip, w', ?_, .inr ⟨rfl, hg1.put dst fun _ _ _ => .undef _⟩⟩
      simp only [execOp, Sem.run_bind, w1, Result.andThen_ok, Sem.run_pure]
  · rename_i t m k v
    cases hs : updS Y st t (ev st m) (ev st k) (ev st v) with
    | none => rw [hs] at h; cases h
    | some st1 =>
      rw [hs] at h; cases h
      obtain ⟨hdf, β, S, hr⟩ := hg
      obtain ⟨w', w1, w2⟩ := upd_sound (P := P) hr (ev_sound hr m) (ev_sound hr k) (ev_sound hr v) hs
      have hg1 : Good X st1 a w' := ⟨hdf, β, S, w2⟩
      refine ⟨.skip, w', ?_, .inr ⟨rfl, hg1.put dst fun _ _ _ => .undef _⟩⟩
      simp only [execOp, Sem.run_bind, w1, Result.andThen_ok, Sem.run_pure]
  · rename_i t m k v
    cases hs : updS Y st t (ev st m) (ev st k) (ev st v) with
    | none => rw [hs] at h; cases h
    | some st1 =>
      rw [hs] at h; cases h
      obtain ⟨hdf, β, S, hr⟩ := hg
      obtain ⟨w', w1, w2⟩ := upd_sound (P := P) hr (ev_sound hr m) (ev_sound hr k) (ev_sound hr v) hs
      have hg1 : Good X st1 a w' := ⟨hdf, β, S, w2⟩
      refine ⟨.skip, w', ?_, .inr ⟨rfl, hg1.put dst fun _ _ _ => .undef _⟩⟩
      simp only [execOp, Sem.run_bind, w1, Result.andThen_ok, Sem.run_pure]
  · rename_i args argTypes
    split at h
    · rename_i s x t u d hargs htys
      have e1 : args = #[s, x] := by simpa using congrArg List.toArray hargs
      have e2 : argTypes = #[t, u] := by simpa using congrArg List.toArray htys
      subst e1; subst e2
      obtain ⟨v, w', r1, r2⟩ := append_sound (P := P) (ty := type) hn hg (fun β S hr => ev_sound hr s) (fun β S hr => ev_sound hr x) h
      refine ⟨_, _, ?_, .inl ⟨v, rfl, r2⟩⟩
      simp only [execOp, resolve, invoke, builtin, Sem.run_bind, Sem.run_pure, Result.andThen_ok, List.map_toArray, List.map_cons, List.map_nil, r1]
    · cases h
  · rename_i args argTypes
    split at h
    · rename_i s x t u hargs htys
      have e1 : args = #[s, x] := by simpa using congrArg List.toArray hargs
      have e2 : argTypes = #[t, u] := by simpa using congrArg List.toArray htys
      subst e1; subst e2
      cases hc : copySt Y st t u (ev st s) (ev st x) with
      | none => rw [hc] at h; cases h
      | some r =>
        rw [hc] at h; cases h
        obtain ⟨hdf, β, S, hr⟩ := hg
        obtain ⟨w', w1, w2⟩ := copy_sound (P := P) (ty := type) hr (ev_sound hr s) (ev_sound hr x) hc
        have hg1 : Good X r.1 a w' := ⟨hdf, β, S, w2⟩
        refine ⟨_, _, ?_, .inl ⟨_, rfl, hg1.put dst fun _ _ _ => .d (.i _ _)⟩⟩
        simp only [execOp, resolve, invoke, builtin, Sem.run_bind, Sem.run_pure, Result.andThen_ok, List.map_toArray, List.map_cons, List.map_nil, w1]
    · cases h
  · cases h
end
end Go.U
