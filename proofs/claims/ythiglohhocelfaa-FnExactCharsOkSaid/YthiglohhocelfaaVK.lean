/- Append and copy. No condition. -/
import Derived.Test.YthiglohhocelfaaVJ
set_option linter.unusedVariables false
set_option linter.unusedSimpArgs false
namespace Go.V
open Go

section
variable {P : Program} {X : Ctx} {st : St} {a : Act} {w : World} {β : Nat → Option BA} {S : Nat → Prop}

/-- The cells of elements, read from one on. -/
theorem load_els {s : Nat} (hs : 0 < s) {els : List (List D)} {b o : Nat} (hl : ∀ (e : Nat) el, els[e]? = some el → el.length = s)
    (hc : ∀ (e : Nat) (el : List D) (c : Nat) (x : D), els[e]? = some el → el[c]? = some x → ∃ u, w.cell? ⟨b, o + e * s + c, none⟩ = some u ∧ RD w S u x) :
    ∃ nv : List Value, nv.length = els.length * s ∧ (∀ w' : World, w'.heap = w.heap → (loadCells ⟨b, o, none⟩ (els.length * s)).run P w' = .ok nv.toArray w') ∧
      (∀ u ∈ nv, u.oneCell' = true) ∧ ∀ (e : Nat) (el : List D) (c : Nat) (x : D), els[e]? = some el → el[c]? = some x → ∃ u, nv[e * s + c]? = some u ∧ RD w S u x := by
  let f : Nat → Value := fun i => (w.cell? ⟨b, o + i, none⟩).getD undef
  have key : ∀ i, i < els.length * s → ∃ el x u, els[i / s]? = some el ∧ el[i % s]? = some x ∧ w.cell? ⟨b, o + i, none⟩ = some u ∧ RD w S u x := fun i hi => by
    have h1 : i / s < els.length := (Nat.div_lt_iff_lt_mul hs).2 hi
    have he := List.getElem?_eq_getElem h1
    have h2 : i % s < (els[i / s]).length := by rw [hl _ _ he]; exact Nat.mod_lt _ hs
    have hx := List.getElem?_eq_getElem h2
    obtain ⟨u, u1, u2⟩ := hc _ _ _ _ he hx
    refine ⟨_, _, u, he, hx, ?_, u2⟩
    rw [← u1, Nat.add_assoc, Nat.mul_comm, Nat.div_add_mod]
  refine ⟨(List.range (els.length * s)).map f, by simp, fun w' hw => ?_, fun u hu => ?_, fun e el c x he hx => ?_⟩
  · refine run_loadCells w' ⟨b, o, none⟩ _ f fun j hj => ?_
    obtain ⟨el, x, u, _, _, h3, _⟩ := key j hj
    rw [addr_add]
    have : w'.cell? ⟨b, o + j, none⟩ = w.cell? ⟨b, o + j, none⟩ := by simp only [World.cell?, hw]
    rw [this, h3]
    simp only [f, h3, Option.getD_some]
  · simp only [List.mem_map, List.mem_range] at hu
    obtain ⟨j, hj, rfl⟩ := hu
    obtain ⟨el, x, u, _, _, h3, h4⟩ := key j hj
    simp only [f, h3, Option.getD_some]
    exact h4.one
  · obtain ⟨u, u1, u2⟩ := hc e el c x he hx
    refine ⟨u, ?_, u2⟩
    have h1 : e < els.length := (List.getElem?_eq_some_iff.1 he).1
    have h2 : c < s := by rw [← hl e el he]; exact (List.getElem?_eq_some_iff.1 hx).1
    have h3 := mul_add_lt h1 h2
    simp only [List.getElem?_map, List.getElem?_range h3, Option.map_some, f, ← Nat.add_assoc, u1, Option.getD_some]

theorem HK.row {b : Nat} {s : Nat} {mv : Bool} {els : List (List D)} (h : HK w β S b ⟨s, mv, .row els⟩) {ba : BA} (hb : β b = some ba) :
    ba.s = s ∧ 0 < s ∧ (∀ (e : Nat) el, els[e]? = some el → el.length = s) ∧
    ∀ (e : Nat) (el : List D) (c : Nat) (x : D), els[e]? = some el → el[c]? = some x → ∃ u, w.cell? ⟨ba.b, ba.o + e * s + c, none⟩ = some u ∧ RD w S u x := by
  obtain ⟨arr, ty, fz, g1, g2, g3, g4, g5, g6, g7, g8⟩ := h.open_ hb
  refine ⟨g1, g2, fun e el he => g7 e el.length (by simp [BC.lens?, he]), fun e el c x he hx => ?_⟩
  obtain ⟨u, u1, _, u3⟩ := h.at_ hb (e := e) (c := c) (sv := .d x) (by simp [BC.cell?, he, hx])
  simp only at g1
  rw [g1] at u1
  exact ⟨u, u1, u3.inv_d⟩

theorem src_sound {s : Nat} (hs : 0 < s) {t : TypeId} {u : Value} {x : SV} {els : List (List D)} (hr : Rel X st a.tmps w β S) (hu : RS w β S u x) (h : srcEls P st.hp s t x = some els) :
    (∃ d, P.underlying t = some d ∧ (∀ k, d ≠ .int k)) ∧ (∀ w' : World, (Builtin.lenOf u).run P w' = .ok els.length w') ∧ (∀ (e : Nat) el, els[e]? = some el → el.length = s) ∧ ∀ m, m ≤ els.length →
    ∃ nv : List Value, nv.length = m * s ∧ (∀ w' : World, w'.heap = w.heap → (Builtin.firstCells s m u).run P w' = .ok nv.toArray w') ∧ (∀ u ∈ nv, u.oneCell' = true) ∧
      ∀ (e : Nat) (el : List D) (c : Nat) (x : D), e < m → els[e]? = some el → el[c]? = some x → ∃ u, nv[e * s + c]? = some u ∧ RD w S u x := by
  unfold srcEls at h
  split at h
  · rename_i l ht
    obtain ⟨d', h1, h2⟩ := tdAt_some ht
    have := td_str h2; subst this
    obtain rfl := hu.inv_str
    split at h
    · rename_i hs1
      subst hs1
      cases h
      have hz : (ByteArray.mk l.toArray).size = l.length := by simp [ByteArray.size]
      refine ⟨⟨_, h1, fun k h => by cases h⟩, fun w' => by simp [Builtin.lenOf, hz], fun e el he => ?_, fun m hm => ?_⟩
      · rw [List.getElem?_map] at he
        cases hb : l[e]? with
        | none => rw [hb] at he; cases he
        | some b => rw [hb] at he; cases he; rfl
      · simp only [List.length_map] at hm
        refine ⟨(l.take m).map fun b => .int .u8 b.toNat, by simp; omega, fun w' _ => ?_, fun u hu => ?_, fun e el c x hem he hx => ?_⟩
        · have : ((ByteArray.mk l.toArray).extract 0 m) = ⟨(l.take m).toArray⟩ := by rw [ByteArray.extract_mk]; simp
          simp only [Builtin.firstCells, this, Sem.run_pure]
          congr 1
          simp
        · simp only [List.mem_map] at hu; obtain ⟨b, _, rfl⟩ := hu; rfl
        · rw [List.getElem?_map] at he
          cases hb : l[e]? with
          | none => rw [hb] at he; cases he
          | some b =>
            rw [hb] at he; cases he
            cases c with
            | zero =>
              simp at hx; subst hx
              refine ⟨_, ?_, .i _ _⟩
              rw [Nat.mul_one, Nat.add_zero, List.getElem?_map, List.getElem?_take, if_pos hem, hb]; rfl
            | succ c => simp at hx
    · cases h
  · rename_i e ht
    obtain ⟨d', h1, h2⟩ := tdAt_some ht
    have := td_sl h2; subst this
    cases h
    cases hu.inv_d with
    | emp A =>
      refine ⟨⟨_, h1, fun k h => by cases h⟩, fun w' => by simp [Builtin.lenOf], fun e el he => by simp at he, fun m hm => ⟨[], by simp at hm; simp [hm], fun w' _ => ?_, by simp, fun e el c x _ he => by simp at he⟩⟩
      simp at hm; subst hm
      cases A with
      | none => simp [Builtin.firstCells]
      | some A => simp [Builtin.firstCells, loadCells, loadCellsFrom]
  · rename_i e s' els' ht
    obtain ⟨d', h1, h2⟩ := tdAt_some ht
    have := td_sl h2; subst this
    split at h
    · rename_i hss
      subst hss
      cases h
      cases hu.inv_d with
      | rov0 A c s =>
        refine ⟨⟨_, h1, fun k h => by cases h⟩, fun w' => by simp [Builtin.lenOf], fun e el he => by simp at he, fun m hm => ⟨[], by simp at hm; simp [hm], fun w' _ => ?_, by simp, fun e el c x _ he => by simp at he⟩⟩
        simp at hm; subst hm
        cases A with
        | none => simp [Builtin.firstCells]
        | some A => simp [Builtin.firstCells, loadCells, loadCellsFrom]
      | rov b o c s els us hS hb hne hcc hl hcell hd =>
        refine ⟨⟨_, h1, fun k h => by cases h⟩, fun w' => by simp [Builtin.lenOf], hl, fun m hm => ?_⟩
        obtain ⟨nv, n1, n2, n3, n4⟩ := load_els (P := P) (w := w) (S := S) hs (els := els.take m) (b := b) (o := o) (fun e el he => hl e el (by rw [List.getElem?_take] at he; split at he; exact he; cases he)) (fun e el c x he hx => by
          rw [List.getElem?_take] at he
          split at he
          · exact ⟨_, hcell e el c x he hx, hd e el c x he hx⟩
          · cases he)
        have hml : (els.take m).length = m := by simp; omega
        rw [hml] at n1 n2
        exact ⟨nv, n1, n2, n3, fun e el c x hem he hx => n4 e el c x (by rw [List.getElem?_take, if_pos hem]; exact he) hx⟩
    · cases h
  · rename_i e b off len ht
    obtain ⟨d', h1, h2⟩ := tdAt_some ht
    have := td_sl h2; subst this
    split at h
    · rename_i s' mv els' hk
      split at h
      · rename_i hle
        obtain ⟨rfl, hle⟩ := hle
        cases h
        have hln : ((els'.drop off).take len).length = len := by simp; omega
        cases hu with
        | sl0 A b off =>
          refine ⟨⟨_, h1, fun k h => by cases h⟩, fun w' => by simp [Builtin.lenOf], fun e el he => by simp at he, fun m hm => ⟨[], by simp at hm; simp [hm], fun w' _ => ?_, by simp, fun e el c x _ he => by simp at he⟩⟩
          simp at hm; subst hm
          cases A with
          | none => simp [Builtin.firstCells]
          | some A => simp [Builtin.firstCells, loadCells, loadCellsFrom]
        | sl b off len c ba hb hc hn =>
          obtain ⟨g1, g2, g3, g4⟩ := (hr.hp b _ hk).row hb
          have hget : ∀ (e : Nat) el, ((els'.drop off).take len)[e]? = some el → els'[off + e]? = some el := fun e el he => by
            rw [List.getElem?_take] at he
            split at he
            · rwa [List.getElem?_drop] at he
            · cases he
          refine ⟨⟨_, h1, fun k h => by cases h⟩, fun w' => by simp only [Builtin.lenOf, Sem.run_pure, hln], fun e el he => g3 _ el (hget e el he), fun m hm => ?_⟩
          rw [hln] at hm
          obtain ⟨nv, n1, n2, n3, n4⟩ := load_els (P := P) (w := w) (S := S) hs (els := (els'.drop off).take m) (b := ba.b) (o := ba.o + off * s') (fun e el he => by
              rw [List.getElem?_take] at he
              split at he
              · rw [List.getElem?_drop] at he; exact g3 _ el he
              · cases he) (fun e el c x he hx => by
              rw [List.getElem?_take] at he
              split at he
              · rw [List.getElem?_drop] at he
                obtain ⟨u, u1, u2⟩ := g4 _ el c x he hx
                exact ⟨u, by rw [← u1, Nat.add_mul]; congr 2; omega, u2⟩
              · cases he)
          have hml : ((els'.drop off).take m).length = m := by simp; omega
          rw [hml] at n1 n2
          refine ⟨nv, n1, fun w' hw => by simp only [Builtin.firstCells]; rw [g1]; exact n2 w' hw, n3, fun e el c x hem he hx => n4 e el c x ?_ hx⟩
          rw [List.getElem?_take, if_pos hem, List.getElem?_drop]
          exact hget e el he
      · cases h
    · cases h
  · cases h

theorem run_sizeOf' {e : TypeId} {j : TypeInfo} {w : World} (hj : P.info? e = some j) : (sizeOf e).run P w = .ok j.size w := by simp [sizeOf, typeInfo, hj]

/-- Appending where there is room. -/
theorem run_append_room' {t u ty e : TypeId} {j : TypeInfo} {x : Value} {base : Option Addr} {sLen sCap m : Nat} {nv : List Value} (ht : P.underlying t = some (.slice e)) (hu : ∃ d, P.underlying u = some d ∧ ∀ k, d ≠ .int k)
    (hj : P.info? e = some j) (hl : (Builtin.lenOf x).run P w = .ok m w) (hf : (Builtin.firstCells j.size m x).run P w = .ok nv.toArray w) (hroom : sLen + m ≤ sCap) {w' : World}
    (hst : ∀ A, base = some A → (storeCells (A.add (sLen * j.size)) nv).run P w = .ok () w') (hnone : base = none → w' = w) :
    (Builtin.append_ #[t, u] ty #[.slice base sLen sCap, x]).run P w = .ok (.slice base (sLen + m) sCap) w' := by
  obtain ⟨d, hd, _⟩ := hu
  have hz : ((underlying u).run P w) = .ok d w := run_underlying hd w
  cases base with
  | none =>
    have := hnone rfl; subst this
    simp only [Builtin.append_, List.getElem?_toArray, List.getElem?_cons_zero, List.getElem?_cons_succ, Sem.run_bind, run_underlying ht, Result.andThen_ok, run_sizeOf' hj, hz, Sem.run_pure, Bool.false_eq_true, if_false, hl, Bool.not_false, if_true, hroom, hf]
  | some A =>
    simp only [Builtin.append_, List.getElem?_toArray, List.getElem?_cons_zero, List.getElem?_cons_succ, Sem.run_bind, run_underlying ht, Result.andThen_ok, run_sizeOf' hj, hz, Sem.run_pure, Bool.false_eq_true, if_false, hl, Bool.not_false, if_true, hroom, hf, hst A rfl]

/-- Appending where there is none. -/
theorem run_append_grow' {t u ty e : TypeId} {j : TypeInfo} {z : Value} {x : Value} {base : Option Addr} {sLen sCap m : Nat} {ov nv : List Value} (ht : P.underlying t = some (.slice e)) (hu : ∃ d, P.underlying u = some d ∧ ∀ k, d ≠ .int k)
    (hj : P.info? e = some j) (hz : j.zero = some z) (hl : (Builtin.lenOf x).run P w = .ok m w) (hf : (Builtin.firstCells j.size m x).run P w.drew = .ok nv.toArray w.drew)
    (hold : (Builtin.firstCells j.size sLen (.slice base sLen sCap)).run P w.drew = .ok ov.toArray w.drew) (hroom : sCap < sLen + m) (hmax : sLen + m ≤ maxSum) (hb : (sLen + m) * j.bytes ≤ 140737488355328) :
    ∃ cap, sLen + m ≤ cap ∧ (Builtin.append_ #[t, u] ty #[.slice base sLen sCap, x]).run P w = .ok (.slice (some ⟨w.heap.size, 0, none⟩) (sLen + m) cap)
      (w.drew.alloc (.cells (ov.toArray ++ nv.toArray ++ Builtin.zeroCells z.cells (cap - (sLen + m))) e)) := by
  obtain ⟨d, hd, hnk⟩ := hu
  have hzz : (underlying u).run P w = .ok d w := run_underlying hd w
  refine ⟨grownCap w (sLen + m) sCap e, grownCap_ge _ _ _ _, ?_⟩
  have hfit := growslice_fits hroom hb
  have h1 : ¬ sLen + m ≤ sCap := by omega
  have h2 : ¬ (9223372036854775807 < (sLen : Int) + (m : Int)) := by simp only [maxSum] at hmax; omega
  have h3 : ¬ (281474976710656 < Builtin.nextslicecap (sLen + m) sCap * j.bytes) := by omega
  have hcat : ∀ Z : Array Value, ov.toArray ++ (nv.toArray ++ Z) = ov.toArray ++ nv.toArray ++ Z := fun Z => by rw [Array.append_assoc]
  have key : ∀ (d' : TypeDesc), (∀ k, d' ≠ .int k) → (underlying u).run P w = .ok d' w → (Builtin.append_ #[t, u] ty #[.slice base sLen sCap, x]).run P w = .ok (.slice (some ⟨w.heap.size, 0, none⟩) (sLen + m) (grownCap w (sLen + m) sCap e))
      (w.drew.alloc (.cells (ov.toArray ++ nv.toArray ++ Builtin.zeroCells z.cells (grownCap w (sLen + m) sCap e - (sLen + m))) e)) := fun d' hnk hzz => by
    simp only [Builtin.append_, List.getElem?_toArray, List.getElem?_cons_zero, List.getElem?_cons_succ, Sem.run_bind, run_underlying ht, Result.andThen_ok, run_sizeOf' hj, hzz, Sem.run_pure, Bool.false_eq_true, if_false, hl, Bool.not_false, if_true, h1]
    cases d' <;> first
      | exact absurd rfl (hnk _)
      | (simp [typeInfo, hj, h2, h3, Question.forced, hold, hf, zeroValue, hz, newRow, grownCap, hcat]; done)
  exact key d hnk hzz

/-- A row of its own, nowhere. -/
theorem Rel.virt (h : Rel X st a.tmps w β S) (b : Nat) (k : Blk) (hn : X.n0 ≤ b ∨ k.mv = true) (hk : k.c.len = 0) :
    Rel X (st.newB b k) a.tmps w (fun x => if x = b then none else β x) S := by
  refine h.upd b (k.kill b) _ rfl rfl rfl (Nat.le_refl _) (fun j _ _ => rfl) (fun b' hb' => if_neg hb') (.inl ⟨by simpa [Blk.kill, BC.len_kill] using hk, if_pos rfl⟩) (fun ba' he => ?_) (fun hlt hmv => ?_)
  · simp at he
  · rcases hn with hn | hn
    · omega
    · simp only [Blk.kill] at hmv; rw [hn] at hmv; cases hmv

theorem row_cells {s : Nat} {els : List (List D)} {A : Array Value} (hA : ∀ (e : Nat) (el : List D) (c : Nat) (x : D), els[e]? = some el → el[c]? = some x → ∃ u, A[e * s + c]? = some u ∧ RD w S u x) :
    ∀ e c sv, (BC.row els).cell? e c = some sv → ∃ u, A[e * s + c]? = some u ∧ u.oneCell' = true ∧ RS w β S u sv := by
  intro e c sv hc
  simp only [row_cell] at hc
  cases he : els[e]? with
  | none => rw [he] at hc; cases hc
  | some el =>
    rw [he] at hc
    simp at hc
    obtain ⟨x, hx, rfl⟩ := hc
    obtain ⟨u, u1, u2⟩ := hA e el c x he hx
    exact ⟨u, u1, u2.one, .d u2⟩

theorem row_lens {s : Nat} {els : List (List D)} (hl : ∀ (e : Nat) el, els[e]? = some el → el.length = s) : ∀ e l, (BC.row els).lens? e = some l → l = s := by
  intro e l h
  simp only [BC.lens?] at h
  cases he : els[e]? with
  | none => rw [he] at h; cases h
  | some el => rw [he] at h; cases h; exact hl e el he

/-- The row that an append leaves, in new memory. -/
theorem append_fresh {t u ty e : TypeId} {j : TypeInfo} {z : Value} {x : Value} {base : Option Addr} {sLen sCap : Nat} {ov nv : List Value} {olds news : List (List D)} (ht : P.underlying t = some (.slice e)) (hu : ∃ d, P.underlying u = some d ∧ ∀ k, d ≠ .int k)
    (hj : P.info? e = some j) (hz : j.zero = some z) (hzs : z.cells.size = j.size) (hs : 0 < j.size) (hr : Rel X st a.tmps w β S) (b : Nat) (mv : Bool) (hn : X.n0 ≤ b ∨ mv = true) (d : Nat)
    (hl : (Builtin.lenOf x).run P w = .ok news.length w) (hf : (Builtin.firstCells j.size news.length x).run P w.drew = .ok nv.toArray w.drew)
    (hold : (Builtin.firstCells j.size sLen (.slice base sLen sCap)).run P w.drew = .ok ov.toArray w.drew) (hroom : sCap < sLen + news.length) (hmax : sLen + news.length ≤ maxSum) (hb : (sLen + news.length) * j.bytes ≤ 140737488355328)
    (hol : olds.length = sLen) (hovl : ov.length = sLen * j.size) (hnvl : nv.length = news.length * j.size) (hos : ∀ (e : Nat) el, olds[e]? = some el → el.length = j.size) (hns : ∀ (e : Nat) el, news[e]? = some el → el.length = j.size)
    (hoc : ∀ (e : Nat) (el : List D) (c : Nat) (x : D), olds[e]? = some el → el[c]? = some x → ∃ u, ov[e * j.size + c]? = some u ∧ RD w S u x)
    (hnc : ∀ (e : Nat) (el : List D) (c : Nat) (x : D), news[e]? = some el → el[c]? = some x → ∃ u, nv[e * j.size + c]? = some u ∧ RD w S u x) :
    ∃ v w', (Builtin.append_ #[t, u] ty #[.slice base sLen sCap, x]).run P w = .ok v w' ∧ ∃ β', Rel X ((st.newB b ⟨j.size, mv, .row (olds ++ news)⟩).put (some d) (.sl b 0 (sLen + news.length))) (a.put (some d) v).tmps w' β' S := by
  obtain ⟨cap, hcap, hrun⟩ := run_append_grow' (P := P) (ty := ty) ht hu hj hz hl hf hold hroom hmax hb
  refine ⟨_, _, hrun, ?_⟩
  have hr' : Rel X st a.tmps w.drew β S := hr.drew (w.drawn + 1)
  have hsz : (ov.toArray ++ nv.toArray ++ Builtin.zeroCells z.cells (cap - (sLen + news.length))).size = cap * j.size := by
    simp only [Array.size_append, List.size_toArray, hovl, hnvl, size_zeroCells, hzs, ← Nat.add_mul]
    congr 1; omega
  have h1 := hr'.newB b ⟨j.size, mv, .row (olds ++ news)⟩ hn (ov.toArray ++ nv.toArray ++ Builtin.zeroCells z.cells (cap - (sLen + news.length))) e (0, 0) (by simp) hs (by rw [hsz]; simp only [BC.len, List.length_append, hol]; exact Nat.mul_le_mul_right _ hcap)
    (row_lens fun e el he => by
      rw [List.getElem?_append] at he
      split at he
      · exact hos e el he
      · exact hns _ el he)
    (row_cells (w := w.drew) fun e el c x he hx => by
      dsimp only
      have hcell : ∀ i, (ov.toArray ++ nv.toArray ++ Builtin.zeroCells z.cells (cap - (sLen + news.length)))[i]? = if i < sLen * j.size then ov[i]? else if i < (sLen + news.length) * j.size then nv[i - sLen * j.size]? else (Builtin.zeroCells z.cells (cap - (sLen + news.length)))[i - (sLen + news.length) * j.size]? := fun i => by
        rw [Array.getElem?_append, Array.getElem?_append]
        simp only [Array.size_append, List.size_toArray, hovl, hnvl, ← Nat.add_mul, List.getElem?_toArray]
        by_cases h2 : i < sLen * j.size
        · have h3 : i < (sLen + news.length) * j.size := by rw [Nat.add_mul]; omega
          rw [if_pos h3, if_pos h2, if_pos h2]
        · rw [if_neg h2, if_neg h2]
      rw [List.getElem?_append] at he
      split at he
      · rename_i hlt
        have hc : c < j.size := by rw [← hos e el he]; exact (List.getElem?_eq_some_iff.1 hx).1
        obtain ⟨u, u1, u2⟩ := hoc e el c x he hx
        refine ⟨u, ?_, u2.drew _⟩
        rw [hcell, if_pos (mul_add_lt (by omega) hc)]
        exact u1
      · rename_i hlt
        have hen : e - olds.length < news.length := (List.getElem?_eq_some_iff.1 he).1
        have hc : c < j.size := by rw [← hns _ el he]; exact (List.getElem?_eq_some_iff.1 hx).1
        obtain ⟨u, u1, u2⟩ := hnc _ el c x he hx
        refine ⟨u, ?_, u2.drew _⟩
        have e1 : e * j.size = sLen * j.size + (e - olds.length) * j.size := by rw [← Nat.add_mul]; congr 1; omega
        have h3 := mul_add_lt hen hc
        have e2 : (sLen + news.length) * j.size = sLen * j.size + news.length * j.size := Nat.add_mul ..
        rw [hcell, if_neg (by omega), if_pos (by omega), ← u1]
        congr 1; omega)
  refine ⟨_, h1.put d ?_⟩
  have := RS.sl (w := w.drew.alloc (.cells (ov.toArray ++ nv.toArray ++ Builtin.zeroCells z.cells (cap - (sLen + news.length))) e)) (S := S)
    (β := fun x => if x = b then some ⟨w.drew.heap.size, 0, (ov.toArray ++ nv.toArray ++ Builtin.zeroCells z.cells (cap - (sLen + news.length))).size, j.size⟩ else β x) b 0 (sLen + news.length) cap _ (if_pos rfl) hcap (by simp only [Nat.zero_add]; rw [hsz]; exact Nat.le_refl _)
  simpa using this

theorem append_sound {t u ty : TypeId} {d : Nat} {sv xv : Value} {s x : SV} {st' : St} (hn : X.n0 ≤ 1000) (hg : Good X st a w) (hs : ∀ β S, Rel X st a.tmps w β S → RS w β S sv s) (hx : ∀ β S, Rel X st a.tmps w β S → RS w β S xv x) (h : appendSt P st d t u s x = some st') :
    ∃ v w', (Builtin.append_ #[t, u] ty #[sv, xv]).run P w = .ok v w' ∧ Good X st' (a.put (some d) v) w' := by
  obtain ⟨hdf, β, S, hr⟩ := hg
  replace hs := hs β S hr
  replace hx := hx β S hr
  unfold appendSt at h
  split at h
  · rename_i e ht
    split at h
    · rename_i i hi
      split at h
      · cases h
      · rename_i hsz
        have hsz : 0 < i.size := by omega
        split at h
        · rename_i news hnews
          obtain ⟨d', h1, h2⟩ := tdAt_some ht
          have := td_sl h2; subst this
          obtain ⟨j, z, z1, z2, z3, z4, z5, z6, z7⟩ := zero_cells hi
          obtain ⟨hu, hlen, hnl, hfirst⟩ := src_sound (P := P) hsz hr hx hnews
          obtain ⟨nv, n1, n2, n3, n4⟩ := hfirst news.length (Nat.le_refl _)
          have hzs : z.cells.size = j.size := by omega
          have hjs : 0 < j.size := by omega
          rw [← z3] at n1 n2 n4 hnl
          have n4' : ∀ (e : Nat) (el : List D) (c : Nat) (x : D), news[e]? = some el → el[c]? = some x → ∃ u, nv[e * j.size + c]? = some u ∧ RD w S u x := fun e el c x he hx => n4 e el c x (List.getElem?_eq_some_iff.1 he).1 he hx
          -- nothing to append to: a slice without room
          have empty : ∀ (A : Option Addr) (b : Nat) (mv : Bool), sv = .slice A 0 0 → (X.n0 ≤ b ∨ mv = true) → news.length * j.bytes ≤ 140737488355328 → news.length ≤ maxSum →
              ∃ v w', (Builtin.append_ #[t, u] ty #[sv, xv]).run P w = .ok v w' ∧ Good X ((st.newB b ⟨j.size, mv, .row news⟩).put (some d) (.sl b 0 news.length)) (a.put (some d) v) w' := by
            intro A b mv hsv hb hby hmax
            subst hsv
            rcases Nat.eq_zero_or_pos news.length with h0 | h0
            · have hn0 : news = [] := List.eq_nil_of_length_eq_zero h0
              subst hn0
              have hnv : nv = [] := List.eq_nil_of_length_eq_zero (by simpa using n1)
              subst hnv
              refine ⟨_, _, run_append_room' (P := P) (ty := ty) h1 hu z1 (hlen w) (n2 w rfl) (by simp) (w' := w) (fun A _ => by simp [storeCells]) (fun _ => rfl), hdf, _, S, (hr.virt b ⟨j.size, mv, .row []⟩ hb rfl).put d (.sl0 _ _ _)⟩
            · obtain ⟨v, w', r1, β', r2⟩ := append_fresh (P := P) (ty := ty) (x := xv) (base := A) (sLen := 0) (sCap := 0) (ov := []) (nv := nv) (olds := []) (news := news) h1 hu z1 z2 hzs hjs hr b mv hb d (hlen w) (n2 w.drew rfl)
                (by cases A with
                    | none => simp [Builtin.firstCells]
                    | some A => simp [Builtin.firstCells, loadCells, loadCellsFrom]) (by omega) (by omega) (by simpa using hby) rfl (by simp) n1 (fun e el he => by simp at he) hnl (fun e el c x he => by simp at he) n4'
              exact ⟨v, w', r1, hdf, β', S, by simpa using r2⟩
          split at h
          · split at h
            · rename_i hcond
              cases h
              cases hs.inv_d with
              | emp A =>
                have := empty A (newId d) false rfl (.inl (by unfold newId; omega)) (by rw [z4]; exact hcond.1) hcond.2
                rw [z3] at this; exact this
            · cases h
          · rename_i b off len
            split at h
            · rename_i s' mv els hk
              split at h
              · rename_i hcond
                obtain ⟨hs', hle, hby, hmax⟩ := hcond
                cases h
                have hoct : ((els.drop off).take len).length = len := by simp; omega
                cases hs with
                | sl0 A b off =>
                  have := empty A b true rfl (.inr rfl) (by rw [z4]; simpa using hby) (by simpa using hmax)
                  rw [z3] at this
                  simpa using this
                | sl b off len c ba hb hc hnn =>
                  obtain ⟨g1, g2, g3, g4⟩ := (hr.hp b _ hk).row hb
                  have hjs' : s' = j.size := by omega
                  have hget : ∀ (e : Nat) el, ((els.drop off).take len)[e]? = some el → els[off + e]? = some el := fun e el he => by
                    rw [List.getElem?_take] at he
                    split at he
                    · rwa [List.getElem?_drop] at he
                    · cases he
                  have hos : ∀ (e : Nat) el, ((els.drop off).take len)[e]? = some el → el.length = j.size := fun e el he => by rw [← hjs']; exact g3 _ el (hget e el he)
                  have hocell : ∀ (e : Nat) (el : List D) (cc : Nat) (y : D), ((els.drop off).take len)[e]? = some el → el[cc]? = some y → ∃ u, w.cell? ⟨ba.b, ba.o + off * ba.s + e * j.size + cc, none⟩ = some u ∧ RD w S u y := fun e el cc y he hy => by
                    obtain ⟨u, u1, u2⟩ := g4 _ el cc y (hget e el he) hy
                    refine ⟨u, ?_, u2⟩
                    rw [← u1, g1, ← hjs', Nat.add_mul]
                    congr 2; omega
                  by_cases hroom : len + news.length ≤ c
                  · -- in place
                    obtain ⟨arr, ty', fz, a1, a2, a3, a4, a5, a6, a7, a8⟩ := (hr.hp b _ hk).open_ hb
                    simp only at a1 a2 a6 a7 a8
                    have hfit : ba.o + (off + len) * j.size + nv.length ≤ arr.size := by
                      have e1 : (off + (len + news.length)) * j.size ≤ (off + c) * ba.s := by rw [a1, hjs']; exact Nat.mul_le_mul_right _ (by omega)
                      have e2 : (off + (len + news.length)) * j.size = (off + len) * j.size + news.length * j.size := by rw [← Nat.add_mul]; congr 1; omega
                      omega
                    obtain ⟨arr', q1, q2, q3, q4, q5, q6, q7, q8⟩ := setCells_heap ba.b nv (ba.o + (off + len) * j.size) w arr ty' fz a3 hfit
                    have hst := run_storeCells_blk (P := P) (vs := nv) a3 a4 hfit n3
                    refine ⟨_, _, run_append_room' (P := P) (ty := ty) h1 hu z1 (hlen w) (n2 w rfl) hroom (w' := w.setCells ba.b (ba.o + (off + len) * j.size) nv) (fun A hA => ?_) (fun h => by cases h), hdf, fun y => if y = b then some { ba with o := ba.o + off * ba.s } else β y, S, ?_⟩
                    · cases hA
                      rw [addr_add, show ba.o + off * ba.s + len * j.size = ba.o + (off + len) * j.size by rw [a1, hjs', Nat.add_mul]; omega]
                      exact hst
                    · have hS : ∀ k, S k → S k ∧ (w.setCells ba.b (ba.o + (off + len) * j.size) nv).heap[k]? = w.heap[k]? := fun k hk' => ⟨hk', q4 k fun e => (hr.excl b _ ba hk hb).1 (e ▸ hk')⟩
                      have hupd := hr.upd (w' := w.setCells ba.b (ba.o + (off + len) * j.size) nv) b (Blk.kill b ⟨i.size, true, .row ((els.drop off).take len ++ news)⟩) (fun y => if y = b then some { ba with o := ba.o + off * ba.s } else β y) q5 q6 q7 (by omega)
                        (fun k hk' hne => q4 k (hne ba _ hk hb)) (fun b' hb' => if_neg hb') (.inr ⟨_, arr', ty', fz, if_pos rfl, by simp only [Blk.kill]; omega, by simp only [Blk.kill]; omega, q1, fun i hi => a4 i (by omega), by simp only; omega, ?_, ?_, ?_⟩)
                        (fun ba' he => .inl ⟨ba, _, hk, hb, by simp at he; rw [← he]⟩) (fun _ hmv => by cases hmv)
                      · exact hupd.put d (by
                          have := RS.sl (w := w.setCells ba.b (ba.o + (off + len) * j.size) nv) (S := S) (β := fun y => if y = b then some { ba with o := ba.o + off * ba.s } else β y) b 0 (len + news.length) c _ (if_pos rfl) hroom (by
                            simp only [Nat.zero_add]
                            have : (off + c) * ba.s = off * ba.s + c * ba.s := Nat.add_mul ..
                            omega)
                          simpa using this)
                      · simp only [Blk.kill, BC.kill, BC.len, List.length_append, hoct]
                        have e1 : (off + (len + news.length)) * i.size ≤ (off + c) * ba.s := by rw [a1, hs']; exact Nat.mul_le_mul_right _ (by omega)
                        have e2 : (off + (len + news.length)) * i.size = off * ba.s + (len + news.length) * i.size := by rw [a1, hs', ← Nat.add_mul]
                        omega
                      · simp only [Blk.kill, BC.kill]
                        refine row_lens fun e el he => ?_
                        rw [List.getElem?_append] at he
                        split at he
                        · rw [hos e el he, z3]
                        · rw [hnl _ el he, z3]
                      · simp only [Blk.kill, BC.kill]
                        intro e cc svv hcell
                        simp only [row_cell] at hcell
                        cases he : ((els.drop off).take len ++ news)[e]? with
                        | none => rw [he] at hcell; cases hcell
                        | some el =>
                          rw [he] at hcell
                          simp at hcell
                          obtain ⟨y, hy, rfl⟩ := hcell
                          rw [List.getElem?_append] at he
                          have e0 : (off + len) * j.size = off * ba.s + len * j.size := by rw [a1, hjs', Nat.add_mul]
                          rw [q3, ← z3]
                          split at he
                          · rename_i hlt
                            rw [hoct] at hlt
                            have hcc : cc < j.size := by rw [← hos e el he]; exact (List.getElem?_eq_some_iff.1 hy).1
                            have := mul_add_lt hlt hcc
                            rw [if_neg (by omega)]
                            obtain ⟨u, u1, u2⟩ := hocell e el cc y he hy
                            refine ⟨u, ?_, u2.one, .d (u2.mono hS (by omega))⟩
                            simp only [World.cell?, a3] at u1
                            simpa using u1
                          · rename_i hlt
                            rw [hoct] at hlt
                            rw [hoct] at he
                            have hen : e - len < news.length := (List.getElem?_eq_some_iff.1 he).1
                            have hcc : cc < j.size := by rw [← hnl _ el he]; exact (List.getElem?_eq_some_iff.1 hy).1
                            have h3 := mul_add_lt hen hcc
                            have e1 : e * j.size = len * j.size + (e - len) * j.size := by rw [← Nat.add_mul]; congr 1; omega
                            rw [if_pos (by omega)]
                            obtain ⟨u, u1, u2⟩ := n4' _ el cc y he hy
                            refine ⟨u, ?_, u2.one, .d (u2.mono hS (by omega))⟩
                            rw [← u1]; congr 1; omega
                  · -- in new memory
                    have hocl : ∀ (e : Nat) el, ((els.drop off).take len)[e]? = some el → el.length = j.size := hos
                    obtain ⟨ov, o1, o2, o3, o4⟩ := load_els (P := P) (w := w) (S := S) hjs (els := (els.drop off).take len) (b := ba.b) (o := ba.o + off * ba.s) hos hocell
                    rw [hoct] at o1 o2
                    obtain ⟨v, w', r1, β', r2⟩ := append_fresh (P := P) (ty := ty) (x := xv) (base := some ⟨ba.b, ba.o + off * ba.s, none⟩) (sLen := len) (sCap := c) (ov := ov) (nv := nv) (olds := (els.drop off).take len) (news := news) h1 hu z1 z2 hzs hjs hr b true (.inr rfl) d (hlen w) (n2 w.drew rfl)
                      (by simp only [Builtin.firstCells]; exact o2 w.drew rfl) (by omega) hmax (by rw [z4]; exact hby) hoct o1 n1 hos hnl o4 n4'
                    rw [z3] at r2
                    exact ⟨v, w', r1, hdf, β', S, r2⟩
              · cases h
            · cases h
          · cases h
        · cases h
    · cases h
  · cases h

theorem run_copy' {t u ty e : TypeId} {j : TypeInfo} {x : Value} {base : Option Addr} {dLen dCap m : Nat} {nv : List Value} {w' : World} (ht : P.underlying t = some (.slice e)) (hj : P.info? e = some j)
    (hl : (Builtin.lenOf x).run P w = .ok m w) (hf : (Builtin.firstCells j.size (min m dLen) x).run P w = .ok nv.toArray w)
    (hst : ∀ A, base = some A → (storeCells A nv).run P w = .ok () w') (hnone : base = none → w' = w) :
    (Builtin.copy_ #[t, u] ty #[.slice base dLen dCap, x]).run P w = .ok (.int .i64 (min m dLen : Nat)) w' := by
  have hf' : (Builtin.firstCells j.size (Nat.min m dLen) x).run P w = .ok nv.toArray w := hf
  cases base with
  | none =>
    have := hnone rfl; subst this
    simp only [Builtin.copy_, List.getElem?_toArray, List.getElem?_cons_zero, List.getElem?_cons_succ, Sem.run_bind, run_underlying ht, Result.andThen_ok, run_sizeOf' hj, Sem.run_pure, hl, hf', goInt]
  | some A =>
    simp only [Builtin.copy_, List.getElem?_toArray, List.getElem?_cons_zero, List.getElem?_cons_succ, Sem.run_bind, run_underlying ht, Result.andThen_ok, run_sizeOf' hj, Sem.run_pure, hl, hf', hst A rfl, goInt]

theorem hset_id {h : Nat → Option Blk} {b : Nat} {k : Blk} (hb : h b = some k) : hset h b k = h := by
  funext x
  unfold hset
  split
  · rename_i e; rw [e, hb]
  · rfl

theorem copy_sound {t u ty : TypeId} {sv xv : Value} {s x : SV} {r : St × Nat} (hr : Rel X st a.tmps w β S) (hs : RS w β S sv s) (hx : RS w β S xv x) (h : copySt P st t u s x = some r) :
    ∃ w', (Builtin.copy_ #[t, u] ty #[sv, xv]).run P w = .ok (.int .i64 r.2) w' ∧ Rel X r.1 a.tmps w' β S := by
  unfold copySt at h
  split at h
  · rename_i e b off len ht
    split at h
    · rename_i s s' mv els hsz hk
      split at h
      · cases h
      · rename_i hcond
        have hs0 : 0 < s := by omega
        have hss : s' = s := by omega
        subst hss
        split at h
        · rename_i news hnews
          split at h
          · rename_i hle
            cases h
            obtain ⟨d', h1, h2⟩ := tdAt_some ht
            have := td_sl h2; subst this
            obtain ⟨j, j1, j2⟩ := szOf_some hsz
            obtain ⟨hu, hlen, hnl, hfirst⟩ := src_sound (P := P) hs0 hr hx hnews
            obtain ⟨nv, n1, n2, n3, n4⟩ := hfirst (min news.length len) (Nat.min_le_left _ _)
            cases hs with
            | sl0 A b off =>
              have hm : min news.length 0 = 0 := by omega
              rw [hm] at n1
              have hnv : nv = [] := List.eq_nil_of_length_eq_zero (by simpa using n1)
              subst hnv
              refine ⟨w, run_copy' (P := P) (ty := ty) h1 j1 (hlen w) (by rw [j2]; exact n2 w rfl) (fun A _ => by simp [storeCells]) (fun _ => rfl), ?_⟩
              simp only [hm, List.take_zero, List.append_nil, Nat.add_zero, List.take_append_drop]
              rw [hset_id hk]; exact hr
            | sl b off len c ba hb hc hnn =>
              obtain ⟨g1, g2, g3, g4⟩ := (hr.hp b _ hk).row hb
              obtain ⟨arr, ty', fz, a1, a2, a3, a4, a5, a6, a7, a8⟩ := (hr.hp b _ hk).open_ hb
              simp only [BC.len] at a6
              have hmle : off + min news.length len ≤ els.length := by omega
              have hml : (off + min news.length len) * s' ≤ els.length * s' := Nat.mul_le_mul_right _ hmle
              rw [Nat.add_mul] at hml
              have hto : (els.take off).length = off := by simp; omega
              have htm : (news.take (min news.length len)).length = min news.length len := by simp
              obtain ⟨w', w1, w2⟩ := hr.write (P := P) hk hb (o := ba.o + off * s') (vs := nv) (by omega) n3
                ⟨s', mv, .row (els.take off ++ news.take (min news.length len) ++ els.drop (off + min news.length len))⟩ rfl rfl (by simp only [BC.len, List.length_append, hto, htm, List.length_drop]; omega)
                (row_lens fun e el he => by
                  rw [List.append_assoc, List.getElem?_append] at he
                  split at he
                  · rw [List.getElem?_take] at he
                    split at he
                    · exact g3 e el he
                    · cases he
                  · rw [List.getElem?_append] at he
                    split at he
                    · rw [List.getElem?_take] at he
                      split at he
                      · exact hnl _ el he
                      · cases he
                    · rw [List.getElem?_drop] at he; exact g3 _ el he)
                (fun e cc svv hcell => by
                  simp only [row_cell] at hcell
                  rw [List.append_assoc, List.getElem?_append, hto] at hcell
                  have hrow : ∀ (els' : List (List D)) (e' : Nat), (∀ (e : Nat) el, els'[e]? = some el → el.length = s') → ((els'[e']?).bind fun l => (l[cc]?).map SV.d) = some svv → ∃ el y, els'[e']? = some el ∧ el[cc]? = some y ∧ svv = .d y ∧ cc < s' := fun els' e' hl' hh => by
                    cases hel : els'[e']? with
                    | none => rw [hel] at hh; cases hh
                    | some el =>
                      rw [hel] at hh
                      simp at hh
                      obtain ⟨y, hy, rfl⟩ := hh
                      exact ⟨el, y, rfl, hy, rfl, by rw [← hl' e' el hel]; exact (List.getElem?_eq_some_iff.1 hy).1⟩
                  split at hcell
                  · rename_i hlt
                    rw [List.getElem?_take, if_pos hlt] at hcell
                    obtain ⟨el, y, q1, q2, q3, q4⟩ := hrow els e g3 hcell
                    have := mul_add_lt hlt q4
                    exact .inr ⟨by dsimp only; omega, by simp only [row_cell]; exact hcell⟩
                  · rename_i hlt
                    rw [List.getElem?_append, htm] at hcell
                    split at hcell
                    · rename_i hlt2
                      rw [List.getElem?_take, if_pos hlt2] at hcell
                      obtain ⟨el, y, q1, q2, q3, q4⟩ := hrow news (e - off) hnl hcell
                      have h3 := mul_add_lt hlt2 q4
                      have e1 : e * s' = off * s' + (e - off) * s' := by rw [← Nat.add_mul]; congr 1; omega
                      obtain ⟨u, u1, u2⟩ := n4 (e - off) el cc y hlt2 q1 q2
                      refine .inl ⟨by dsimp only; omega, by dsimp only; omega, u, ?_, q3 ▸ .d u2⟩
                      rw [← u1]; congr 1; dsimp only; omega
                    · rename_i hlt2
                      rw [List.getElem?_drop, show off + min news.length len + (e - off - min news.length len) = e by omega] at hcell
                      obtain ⟨el, y, q1, q2, q3, q4⟩ := hrow els e g3 hcell
                      have : (off + min news.length len) * s' ≤ e * s' := Nat.mul_le_mul_right _ (by omega)
                      rw [Nat.add_mul] at this
                      exact .inr ⟨by dsimp only; omega, by simp only [row_cell]; exact hcell⟩)
              refine ⟨w', run_copy' (P := P) (ty := ty) h1 j1 (hlen w) (by rw [j2]; exact n2 w rfl) (fun A hA => ?_) (fun h => by cases h), w2⟩
              cases hA
              rw [g1]; exact w1
          · cases h
        · cases h
    · cases h
  · cases h

/-- **What writes does just that.** -/
theorem opPut_sound {o : Oper} (hn : X.n0 ≤ 1000) (hg : Good X st a w) {st' : St} (h : opPut P st o.dst o.op = some st') : Does P X a w o st' := by
  obtain ⟨dst, op, type, pos, after, guard⟩ := o
  simp only at h
  unfold opPut at h
  split at h
  · rename_i t p v
    cases hs : storeSt P st t (ev st p) (ev st v) with
    | none => rw [hs] at h; cases h
    | some st1 =>
      rw [hs] at h; cases h
      obtain ⟨hdf, β, S, hr⟩ := hg
      obtain ⟨w', w1, w2⟩ := store_sound (P := P) hr (ev_sound hr p) (ev_sound hr v) hs
      have hg1 : Good X st1 a w' := ⟨hdf, β, S, w2⟩
      refine ⟨.skip, w', ?_, .inr ⟨rfl, hg1.put dst fun _ _ _ => .undef _⟩⟩
      simp only [execOp, Sem.run_bind, w1, Result.andThen_ok, Sem.run_pure]
  · rename_i args argTypes
    split at h
    · rename_i s x t u d hargs htys
      have e1 : args = #[s, x] := by simpa using congrArg List.toArray hargs
      have e2 : argTypes = #[t, u] := by simpa using congrArg List.toArray htys
      subst e1; subst e2
      obtain ⟨v, w', r1, r2⟩ := append_sound (P := P) (ty := type) hn hg (fun β S hr => ev_sound hr s) (fun β S hr => ev_sound hr x) h
      refine ⟨_, _, ?_, .inl ⟨v, rfl, r2⟩⟩
      simp only [execOp, resolve, invoke, builtin, Sem.run_bind, Sem.run_pure, Result.andThen_ok, List.map_toArray, List.map_cons, List.map_nil, r1]
    · cases h
  · rename_i args argTypes
    split at h
    · rename_i s x t u hargs htys
      have e1 : args = #[s, x] := by simpa using congrArg List.toArray hargs
      have e2 : argTypes = #[t, u] := by simpa using congrArg List.toArray htys
      subst e1; subst e2
      cases hc : copySt P st t u (ev st s) (ev st x) with
      | none => rw [hc] at h; cases h
      | some r =>
        rw [hc] at h; cases h
        obtain ⟨hdf, β, S, hr⟩ := hg
        obtain ⟨w', w1, w2⟩ := copy_sound (P := P) (ty := type) hr (ev_sound hr s) (ev_sound hr x) hc
        have hg1 : Good X r.1 a w' := ⟨hdf, β, S, w2⟩
        refine ⟨_, _, ?_, .inl ⟨_, rfl, hg1.put dst fun _ _ _ => .d (.i _ _)⟩⟩
        simp only [execOp, resolve, invoke, builtin, Sem.run_bind, Sem.run_pure, Result.andThen_ok, List.map_toArray, List.map_cons, List.map_nil, w1]
    · cases h
  · cases h

end
end Go.V
