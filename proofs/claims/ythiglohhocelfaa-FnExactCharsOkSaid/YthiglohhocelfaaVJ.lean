/- The operations that write: a store, an append, a copy. No condition. -/
import Derived.Test.YthiglohhocelfaaVI
import Derived.Laws.IdiomCopy
set_option linter.unusedVariables false
set_option linter.unusedSimpArgs false
namespace Go.V
open Go

/-- An element with other cells. -/
def BC.setEl : BC → Nat → List SV → Option BC
  | .row els, e, cs => (allD cs).map fun l => .row (els.set e l)
  | .mix els, e, cs => some (.mix (els.set e cs))

def storeSt (P : Program) (st : St) (t : TypeId) (p v : SV) : Option St :=
  match szOf P t, p, v.cells with
  | some n, .ptr b e c, some xs =>
    if xs.length ≠ n then none else
    match st.hp b with
    | some k => match k.c.el? e with
      | some cs => if c + n ≤ cs.length then
          (k.c.setEl e (cs.take c ++ xs ++ cs.drop (c + n))).map fun bc => { st with hp := hset st.hp b { k with c := bc } }
        else none
      | none => none
    | none => none
  | _, _, _ => none

/-- The elements that are appended or copied. -/
def srcEls (P : Program) (hp : Nat → Option Blk) (s : Nat) (t : TypeId) (x : SV) : Option (List (List D)) :=
  match tdAt P t, x with
  | some .str, .d (.str l) => if s = 1 then some (l.map fun b => [.i .u8 b.toNat]) else none
  | some (.sl _), .d .emp => some []
  | some (.sl _), .d (.rov s' els) => if s' = s then some els else none
  | some (.sl _), .sl b off len => match hp b with
    | some ⟨s', _, .row els⟩ => if s' = s ∧ off + len ≤ els.length then some ((els.drop off).take len) else none
    | _ => none
  | _, _ => none

def appendSt (P : Program) (st : St) (d : Nat) (t u : TypeId) (s x : SV) : Option St :=
  match tdAt P t with
  | some (.sl e) => match tyOf P e with
    | some i => if i.size = 0 then none else match srcEls P st.hp i.size u x with
      | some news => match s with
        | .d .emp => if news.length * i.bytes ≤ 140737488355328 ∧ news.length ≤ maxSum then
            some ((st.newB (newId d) ⟨i.size, false, .row news⟩).put (some d) (.sl (newId d) 0 news.length)) else none
        | .sl b off len => match st.hp b with
          | some ⟨s', _, .row els⟩ => if s' = i.size ∧ off + len ≤ els.length ∧ (len + news.length) * i.bytes ≤ 140737488355328 ∧ len + news.length ≤ maxSum then
              some ((st.newB b ⟨i.size, true, .row ((els.drop off).take len ++ news)⟩).put (some d) (.sl b 0 (len + news.length))) else none
          | _ => none
        | _ => none
      | none => none
    | none => none
  | _ => none

/-- A block whose first elements are others. -/
def copySt (P : Program) (st : St) (t u : TypeId) (dst x : SV) : Option (St × Nat) :=
  match tdAt P t, dst with
  | some (.sl e), .sl b off len => match szOf P e, st.hp b with
    | some s, some ⟨s', mv, .row els⟩ => if s = 0 ∨ s' ≠ s then none else match srcEls P st.hp s u x with
      | some news => if off + len ≤ els.length then
          some ({ st with hp := hset st.hp b ⟨s', mv, .row (els.take off ++ news.take (min news.length len) ++ els.drop (off + min news.length len))⟩ }, min news.length len)
        else none
      | none => none
    | _, _ => none
  | _, _ => none

/-- What an operation that writes does. -/
def opPut (P : Program) (st : St) (dst : Option Nat) : Op → Option St
  | .store t p v => (storeSt P st t (ev st p) (ev st v)).map fun st' => st'.put dst .undef
  | .call { callee := .builtin .append, args, argTypes } =>
    match args.toList, argTypes.toList, dst with
    | [s, x], [t, u], some d => appendSt P st d t u (ev st s) (ev st x)
    | _, _, _ => none
  | .call { callee := .builtin .copy, args, argTypes } =>
    match args.toList, argTypes.toList with
    | [s, x], [t, u] => (copySt P st t u (ev st s) (ev st x)).map fun r => r.1.put dst (.d (.i .i64 r.2))
    | _, _ => none
  | _ => none

section
variable {P : Program} {X : Ctx} {st : St} {a : Act} {w : World} {β : Nat → Option BA} {S : Nat → Prop}

theorem setCells_heap (b : Nat) : ∀ (vs : List Value) (o : Nat) (w : World) (arr : Array Value) (ty : TypeId) (fz : Nat × Nat), w.heap[b]? = some (.cells arr ty fz) → o + vs.length ≤ arr.size →
    ∃ arr', (w.setCells b o vs).heap[b]? = some (.cells arr' ty fz) ∧ arr'.size = arr.size ∧ (∀ i, arr'[i]? = if o ≤ i ∧ i < o + vs.length then vs[i - o]? else arr[i]?) ∧
      (∀ j, j ≠ b → (w.setCells b o vs).heap[j]? = w.heap[j]?) ∧ (w.setCells b o vs).os = w.os ∧ (w.setCells b o vs).tape = w.tape ∧ (w.setCells b o vs).output = w.output ∧ (w.setCells b o vs).heap.size = w.heap.size
  | [], o, w, arr, ty, fz, h, _ => ⟨arr, h, rfl, fun i => by simp; intro h1 h2; omega, fun _ _ => rfl, rfl, rfl, rfl, rfl⟩
  | v :: vs, o, w, arr, ty, fz, h, hl => by
    simp only [List.length_cons] at hl
    have h1 : (w.setCell ⟨b, o, none⟩ v).heap[b]? = some (.cells (arr.setIfInBounds o v) ty fz) := by
      simp only [World.setCell, Array.getElem?_modify, if_true, h]; rfl
    obtain ⟨arr', q1, q2, q3, q4, q5, q6, q7, q8⟩ := setCells_heap b vs (o + 1) _ _ ty fz h1 (by simp; omega)
    refine ⟨arr', q1, by rw [q2]; simp, fun i => ?_, fun j hj => ?_, q5, q6, q7, ?_⟩
    · rw [q3 i]
      simp only [List.length_cons]
      by_cases hi : i = o
      · subst hi
        rw [if_neg (by omega), if_pos (by omega)]
        simp [Array.getElem?_setIfInBounds]; omega
      · by_cases h2 : o ≤ i ∧ i < o + (vs.length + 1)
        · rw [if_pos (by omega), if_pos h2]
          have : i - o = (i - (o + 1)) + 1 := by omega
          rw [this, List.getElem?_cons_succ]
        · rw [if_neg (by omega), if_neg h2, Array.getElem?_setIfInBounds, if_neg (by omega)]
    · rw [World.setCells, q4 j hj]
      simp only [World.setCell, Array.getElem?_modify]
      rw [if_neg (by omega)]
    · rw [World.setCells, q8]; simp

theorem run_storeCells_blk {b o : Nat} {vs : List Value} {arr : Array Value} {ty : TypeId} {fz : Nat × Nat} (h : w.heap[b]? = some (.cells arr ty fz)) (hfz : ∀ i, i < arr.size → (fz.1 ≤ i && i < fz.2) = false)
    (hl : o + vs.length ≤ arr.size) (h1 : ∀ v ∈ vs, v.oneCell' = true) : (storeCells ⟨b, o, none⟩ vs).run P w = .ok () (w.setCells b o vs) := by
  have := run_storeCells_cells (P := P) b o vs 0 w (fun j hj => ?_) (fun j hj => ?_) h1
  · simpa using this
  · have : o + 0 + j < arr.size := by omega
    simp [World.cell?, h]; omega
  · have : o + 0 + j < arr.size := by omega
    simp only [World.frozen?, h]
    exact hfz _ this

theorem HK.open_ {b : Nat} {k : Blk} {ba : BA} (h : HK w β S b k) (hb : β b = some ba) :
    ∃ (arr : Array Value) (ty : TypeId) (fz : Nat × Nat), ba.s = k.s ∧ 0 < k.s ∧ w.heap[ba.b]? = some (.cells arr ty fz) ∧ (∀ i, i < arr.size → (fz.1 ≤ i && i < fz.2) = false) ∧ arr.size = ba.n ∧
    ba.o + k.c.len * k.s ≤ ba.n ∧ (∀ e l, k.c.lens? e = some l → l = k.s) ∧ ∀ e c sv, k.c.cell? e c = some sv → ∃ u, arr[ba.o + e * k.s + c]? = some u ∧ u.oneCell' = true ∧ RS w β S u sv := by
  rcases h with ⟨_, h2⟩ | ⟨ba', arr, ty, fz, h1, rest⟩
  · rw [h2] at hb; cases hb
  · rw [h1] at hb; cases hb; exact ⟨arr, ty, fz, rest⟩

/-- Cells are written within a block of the call's own. -/
theorem Rel.write (hr : Rel X st a.tmps w β S) {b : Nat} {k : Blk} (hb : st.hp b = some k) {ba : BA} (hba : β b = some ba) {o : Nat} {vs : List Value} (hfit : o + vs.length ≤ ba.n) (h1 : ∀ v ∈ vs, v.oneCell' = true)
    (k' : Blk) (hs : k'.s = k.s) (hmv : k'.mv = k.mv) (hlen : k'.c.len = k.c.len) (hl : ∀ e l, k'.c.lens? e = some l → l = k.s)
    (hc : ∀ e c sv, k'.c.cell? e c = some sv → (o ≤ ba.o + e * k.s + c ∧ ba.o + e * k.s + c < o + vs.length ∧ ∃ u, vs[ba.o + e * k.s + c - o]? = some u ∧ RS w β S u sv) ∨
      (¬ (o ≤ ba.o + e * k.s + c ∧ ba.o + e * k.s + c < o + vs.length) ∧ k.c.cell? e c = some sv)) :
    ∃ w', (storeCells ⟨ba.b, o, none⟩ vs).run P w = .ok () w' ∧ Rel X { st with hp := hset st.hp b k' } a.tmps w' β S := by
  obtain ⟨arr, ty, fz, g1, g2, g3, g4, g5, g6, g7, g8⟩ := (hr.hp b k hb).open_ hba
  obtain ⟨arr', q1, q2, q3, q4, q5, q6, q7, q8⟩ := setCells_heap ba.b vs o w arr ty fz g3 (by omega)
  refine ⟨_, run_storeCells_blk g3 g4 (by omega) h1, hr.sto b k k' hb ba hba q5 q6 q7 (by omega) (fun j _ hj => q4 j hj) ?_ hmv⟩
  refine .inr ⟨ba, arr', ty, fz, hba, by rw [hs]; exact g1, by rw [hs]; exact g2, q1, fun i hi => g4 i (by omega), by omega, by rw [hs, hlen]; exact g6, by rw [hs]; exact hl, fun e c sv hcell => ?_⟩
  have hS : ∀ j, S j → S j ∧ (w.setCells ba.b o vs).heap[j]? = w.heap[j]? := fun j hj => ⟨hj, q4 j fun e => (hr.excl b k ba hb hba).1 (e ▸ hj)⟩
  rw [hs, q3]
  rcases hc e c sv hcell with ⟨c1, c2, u, u1, u2⟩ | ⟨c1, c2⟩
  · rw [if_pos ⟨c1, c2⟩]
    exact ⟨u, u1, h1 u (List.mem_of_getElem? u1), u2.mono hS (by omega) fun _ _ => rfl⟩
  · rw [if_neg c1]
    obtain ⟨u, u1, u2, u3⟩ := g8 e c sv c2
    exact ⟨u, u1, u2, u3.mono hS (by omega) fun _ _ => rfl⟩

theorem BC.setEl_len {c c' : BC} {e : Nat} {l : List SV} (h : c.setEl e l = some c') : c'.len = c.len := by
  cases c with
  | row els => simp only [BC.setEl] at h; cases hd : allD l with | none => rw [hd] at h; cases h | some d => rw [hd] at h; cases h; simp [BC.len]
  | mix els => simp only [BC.setEl, Option.some.injEq] at h; subst h; simp [BC.len]

theorem BC.setEl_lens {c c' : BC} {e : Nat} {l cs : List SV} (h : c.setEl e l = some c') (he : c.el? e = some cs) (hl : l.length = cs.length) (e' : Nat) : c'.lens? e' = c.lens? e' := by
  cases c with
  | row els =>
    simp only [BC.setEl] at h
    cases hd : allD l with
    | none => rw [hd] at h; cases h
    | some d =>
      rw [hd] at h; cases h
      have hm := allD_map hd
      simp only [BC.el?] at he
      cases hx : els[e]? with
      | none => rw [hx] at he; cases he
      | some x =>
        rw [hx] at he; cases he
        simp only [BC.lens?, List.getElem?_set]
        by_cases hee : e = e'
        · subst hee
          have hlt : e < els.length := (List.getElem?_eq_some_iff.1 hx).1
          rw [if_pos rfl, if_pos hlt, hx]
          simp only [Option.map_some, Option.some.injEq]
          rw [hm] at hl
          simpa using hl
        · rw [if_neg hee]
  | mix els =>
    simp only [BC.setEl, Option.some.injEq] at h
    subst h
    simp only [BC.el?] at he
    simp only [BC.lens?, List.getElem?_set]
    by_cases hee : e = e'
    · subst hee
      have hlt : e < els.length := (List.getElem?_eq_some_iff.1 he).1
      rw [if_pos rfl, if_pos hlt, he]
      simp [hl]
    · rw [if_neg hee]

theorem BC.setEl_cell {c c' : BC} {e : Nat} {l cs : List SV} (h : c.setEl e l = some c') (he : c.el? e = some cs) (e' j : Nat) : c'.cell? e' j = if e' = e then l[j]? else c.cell? e' j := by
  cases c with
  | row els =>
    simp only [BC.setEl] at h
    cases hd : allD l with
    | none => rw [hd] at h; cases h
    | some d =>
      rw [hd] at h; cases h
      have hm := allD_map hd
      simp only [BC.el?] at he
      cases hx : els[e]? with
      | none => rw [hx] at he; cases he
      | some x =>
        have hlt : e < els.length := (List.getElem?_eq_some_iff.1 hx).1
        simp only [BC.cell?, List.getElem?_set]
        by_cases hee : e' = e
        · subst hee
          rw [if_pos rfl, if_pos hlt, if_pos rfl, hm]
          simp
        · rw [if_neg (fun h => hee h.symm), if_neg hee]
  | mix els =>
    simp only [BC.setEl, Option.some.injEq] at h
    subst h
    simp only [BC.el?] at he
    have hlt : e < els.length := (List.getElem?_eq_some_iff.1 he).1
    simp only [BC.cell?, List.getElem?_set]
    by_cases hee : e' = e
    · subst hee
      rw [if_pos rfl, if_pos hlt, if_pos rfl]; rfl
    · rw [if_neg (fun h => hee h.symm), if_neg hee]

theorem BC.el_lens {c : BC} {e : Nat} {cs : List SV} (h : c.el? e = some cs) : c.lens? e = some cs.length := by
  cases c with
  | row els => simp only [BC.el?] at h; simp only [BC.lens?]; cases hx : els[e]? with | none => rw [hx] at h; cases h | some x => rw [hx] at h; cases h; simp
  | mix els => simp only [BC.el?] at h; simp only [BC.lens?, h]; rfl
theorem BC.el_lt {c : BC} {e : Nat} {cs : List SV} (h : c.el? e = some cs) : e < c.len := by
  cases c with
  | row els => simp only [BC.el?] at h; cases hx : els[e]? with | none => rw [hx] at h; cases h | some x => exact (List.getElem?_eq_some_iff.1 hx).1
  | mix els => exact (List.getElem?_eq_some_iff.1 h).1
theorem BC.cell_lens {c : BC} {e j : Nat} {sv : SV} (h : c.cell? e j = some sv) : ∃ l, c.lens? e = some l ∧ j < l := by
  cases c with
  | row els => simp only [BC.cell?] at h; simp only [BC.lens?]; cases hx : els[e]? with | none => rw [hx] at h; cases h | some x => rw [hx] at h; simp at h; obtain ⟨d, hd, _⟩ := h; exact ⟨_, rfl, (List.getElem?_eq_some_iff.1 hd).1⟩
  | mix els => simp only [BC.cell?] at h; simp only [BC.lens?]; cases hx : els[e]? with | none => rw [hx] at h; cases h | some x => rw [hx] at h; exact ⟨_, rfl, (List.getElem?_eq_some_iff.1 h).1⟩

theorem store_sound {t : TypeId} {u v : Value} {p q : SV} {st' : St} (hr : Rel X st a.tmps w β S) (hu : RS w β S u p) (hv : RS w β S v q) (h : storeSt P st t p q = some st') :
    ∃ w', (Instr.storeAt t u v).run P w = .ok () w' ∧ Rel X st' a.tmps w' β S := by
  unfold storeSt at h
  split at h
  · rename_i n b e c xs hn hxs
    split at h
    · cases h
    · rename_i hxl
      have hxl : xs.length = n := by omega
      split at h
      · rename_i k hk
        split at h
        · rename_i cs hcs
          split at h
          · rename_i hle
            cases hset : k.c.setEl e (cs.take c ++ xs ++ cs.drop (c + n)) with
            | none => rw [hset] at h; cases h
            | some bc =>
              rw [hset] at h; cases h
              cases hu with
              | ptr b e c ba hba =>
                obtain ⟨v1, v2⟩ := hv.cells hxs
                obtain ⟨arr, ty, fz, g1, g2, g3, g4, g5, g6, g7, g8⟩ := (hr.hp b k hk).open_ hba
                have hcsl : cs.length = k.s := g7 e _ (BC.el_lens hcs)
                have helt := BC.el_lt hcs
                have hb1 : e * k.s + k.s ≤ k.c.len * k.s := by
                  have : (e + 1) * k.s ≤ k.c.len * k.s := Nat.mul_le_mul_right _ helt
                  rwa [Nat.add_mul, Nat.one_mul] at this
                have hnl : (cs.take c ++ xs ++ cs.drop (c + n)).length = cs.length := by simp; omega
                have hcell := BC.setEl_cell hset hcs
                have hvs : v.cells.toList.length = n := by simp; omega
                obtain ⟨w', w1, w2⟩ := hr.write (P := P) hk hba (o := ba.o + e * k.s + c) (vs := v.cells.toList) (by omega) (fun u hu => by
                    obtain ⟨i, hi⟩ := List.getElem?_of_mem hu
                    have hi' : v.cells[i]? = some u := by simpa using hi
                    have hlt : i < xs.length := by rw [← v1]; exact (Array.getElem?_eq_some_iff.1 hi').1
                    exact (v2 i u _ hi' (List.getElem?_eq_getElem hlt)).2)
                  { k with c := bc } rfl rfl (BC.setEl_len hset) (fun e' l hl => g7 e' l (by rw [← BC.setEl_lens hset hcs hnl]; exact hl)) (fun e' j sv hsv => by
                    rw [hcell] at hsv
                    by_cases hee : e' = e
                    · subst hee
                      rw [if_pos rfl] at hsv
                      have htc : (cs.take c).length = c := by simp; omega
                      rcases Nat.lt_or_ge j c with hj | hj
                      · refine .inr ⟨by omega, ?_⟩
                        rw [List.append_assoc, List.getElem?_append_left (by omega), List.getElem?_take, if_pos hj] at hsv
                        rw [BC.cell_el hcs]; exact hsv
                      · rcases Nat.lt_or_ge j (c + n) with hj2 | hj2
                        · refine .inl ⟨by omega, by omega, ?_⟩
                          rw [List.append_assoc, List.getElem?_append_right (by omega), htc, List.getElem?_append_left (by omega)] at hsv
                          have hlt : j - c < v.cells.size := by omega
                          refine ⟨v.cells[j - c], ?_, (v2 (j - c) _ _ (Array.getElem?_eq_getElem hlt) hsv).1⟩
                          rw [show ba.o + e' * k.s + j - (ba.o + e' * k.s + c) = j - c by omega]
                          have : v.cells.toList[j - c]? = v.cells[j - c]? := by simp
                          rw [this]; exact Array.getElem?_eq_getElem hlt
                        · refine .inr ⟨by omega, ?_⟩
                          rw [List.append_assoc, List.getElem?_append_right (by omega), htc, List.getElem?_append_right (by omega), hxl, List.getElem?_drop, show c + n + (j - c - n) = j by omega] at hsv
                          rw [BC.cell_el hcs]; exact hsv
                    · rw [if_neg hee] at hsv
                      refine .inr ⟨?_, hsv⟩
                      obtain ⟨l, hl1, hl2⟩ := BC.cell_lens hsv
                      have := g7 e' l hl1
                      rcases Nat.lt_or_gt_of_ne hee with hlt | hgt
                      · have : (e' + 1) * k.s ≤ e * k.s := Nat.mul_le_mul_right _ hlt
                        rw [Nat.add_mul, Nat.one_mul] at this; omega
                      · have : (e + 1) * k.s ≤ e' * k.s := Nat.mul_le_mul_right _ hgt
                        rw [Nat.add_mul, Nat.one_mul] at this; omega)
                refine ⟨w', ?_, w2⟩
                have hsz : v.cells.size = n := by omega
                simp only [Instr.storeAt, Instr.sureAddr, pure_bind, storeVar, Sem.run_bind, run_sizeOf hn, Result.andThen_ok, hsz, ne_eq, not_true_eq_false, if_false, Sem.run_pure]
                rw [g1]; exact w1
          · cases h
        · cases h
      · cases h
  · cases h

end
end Go.V
