/- A part of the proof. No condition. -/
import Derived.Test.YtclapampnmjmoaaGreatDoorUI
import Derived.Laws.IdiomCopy
set_option linter.unusedVariables false
set_option linter.unusedSimpArgs false
set_option linter.unusedSectionVars false
namespace Go.U
open Go
def BC.setEl : BC → Nat → List SV → Option BC
  | .row t xs, e, cs => match dec t cs with
    | some (x, []) => some (.row t (xs.set e x))
    | _ => none
  | .mix ty els, e, cs => some (.mix ty (els.set e cs))
  | .map _ _, _, _ => none
def storeSt {P : Program} (Y : TT P) (st : St) (t : TypeId) (p v : SV) : Option St :=
  match szOf Y t, p, v.cells with
  | some n, .ptr b e c, some xs =>
    if xs.length ≠ n then none else
    match st.hp b with
    | some k => match k.c.el? e with
      | some cs => if c + n ≤ cs.length then
          (k.c.setEl e (cs.take c ++ xs ++ cs.drop (c + n))).map fun bc => { st with hp := hset st.hp b { k with c := bc } }
        else none
      | none => none
    | none => none
  | _, _, _ => none
def castU8 : (t' t0 : Ty) → List t'.den → Option (List t0.den)
  | .i .u8, .y _, xs => some xs
  | _, _, _ => none
def srcEls {P : Program} (Y : TT P) (hp : Nat → Option Blk) (t0 : Ty) (t : TypeId) (x : SV) : Option (List t0.den) :=
  match tdAt Y t, x with
  | some .str, .d (.str l) => match t0 with
    | .i .u8 => some (ofB l)
    | .y _ => some (ofB l)
    | _ => none
  | some (.sl _), .d .emp => some []
  | some (.sl _), .d (.rov t' xs) => if h : t' = t0 then some (h ▸ xs) else none
  | some (.sl _), .all b => match hp b with
    | some ⟨_, _, .row t' xs⟩ => if h : t' = t0 then some (h ▸ xs) else castU8 t' t0 xs
    | _ => none
  | some (.sl _), .sl b off len => match hp b with
    | some ⟨_, _, .row t' xs⟩ => if h : t' = t0 then (if off + len ≤ xs.length then some (h ▸ ((xs.drop off).take len)) else none) else none
    | _ => none
  | _, _ => none
def appTy (hp : Nat → Option Blk) (ty : Option Ty) (s : SV) : Option Ty := match s with
  | .bb b => match hp b with
    | some ⟨_, _, .row (.y T) _⟩ => match ty with
      | some (.i .u8) => some (.y T)
      | _ => none
    | _ => ty
  | _ => ty
def Ty.fits : Ty → TypeId → Bool
  | .y T, q => T == q
  | _, _ => true
def appendSt {P : Program} (Y : TT P) (st : St) (d : Nat) (t u : TypeId) (s x : SV) : Option St :=
  match tdAt Y t with
  | some (.sl e) => match Y.f e with
    | some i => match appTy st.hp i.ty s with
      | some t0 => if i.size ≠ t0.size ∨ t0.fits e = false then none else match srcEls Y st.hp t0 u x with
        | some news => match s with
          | .d .emp => if news.length * i.bytes ≤ 140737488355328 ∧ news.length ≤ maxSum then
              some ((st.newB (newId d) ⟨i.size, false, .row t0 news⟩).put (some d) (.all (newId d))) else none
          | .d .emq => if news.length * i.bytes ≤ 140737488355328 ∧ news.length ≤ maxSum then
              some ((st.newB (newId d) ⟨i.size, false, .row t0 news⟩).put (some d) (.all (newId d))) else none
          | .bb b => match st.hp b with
            | some ⟨s', _, .row t' xs⟩ => if h : t' = t0 then (if s' = i.size ∧ (xs.length + news.length) * i.bytes ≤ 140737488355328 ∧ xs.length + news.length ≤ maxSum then
                some ((st.newB b ⟨i.size, true, .row t0 ((h ▸ xs) ++ news)⟩).put (some d) (.bb b)) else none) else none
            | _ => none
          | .all b => match st.hp b with
            | some ⟨s', _, .row t' xs⟩ => if h : t' = t0 then (if s' = i.size ∧ (xs.length + news.length) * i.bytes ≤ 140737488355328 ∧ xs.length + news.length ≤ maxSum then
                some ((st.newB b ⟨i.size, true, .row t0 ((h ▸ xs) ++ news)⟩).put (some d) (.all b)) else none) else none
            | _ => none
          | .sl b off len => match st.hp b with
            | some ⟨s', _, .row t' xs⟩ => if h : t' = t0 then (if s' = i.size ∧ off + len ≤ xs.length ∧ (len + news.length) * i.bytes ≤ 140737488355328 ∧ len + news.length ≤ maxSum ∧ t0.isY = false then
                some ((st.newB b ⟨i.size, true, .row t0 (((h ▸ xs : List t0.den).drop off).take len ++ news)⟩).put (some d) (.all b)) else none) else none
            | _ => none
          | _ => none
        | none => none
      | none => none
    | none => none
  | _ => none
def copySt {P : Program} (Y : TT P) (st : St) (t u : TypeId) (dst x : SV) : Option (St × Nat) :=
  match tdAt Y t, dst with
  | some (.sl e), .sl b off len => match szOf Y e, st.hp b with
    | some s, some ⟨s', mv, .row t0 xs⟩ => if s ≠ t0.size ∨ s' ≠ s ∨ t0.isY = true then none else match srcEls Y st.hp t0 u x with
      | some news => if off + len ≤ xs.length then
          some ({ st with hp := hset st.hp b ⟨s', mv, .row t0 (xs.take off ++ news.take (min news.length len) ++ xs.drop (off + min news.length len))⟩ }, min news.length len)
        else none
      | none => none
    | _, _ => none
  | some (.sl e), .all b => match szOf Y e, st.hp b with
    | some s, some ⟨s', mv, .row t0 xs⟩ => if s ≠ t0.size ∨ s' ≠ s ∨ t0.isY = true then none else match srcEls Y st.hp t0 u x with
      | some news => some ({ st with hp := hset st.hp b ⟨s', mv, .row t0 (news.take (min news.length xs.length) ++ xs.drop (min news.length xs.length))⟩ }, min news.length xs.length)
      | none => none
    | _, _ => none
  | _, _ => none
def updS {P : Program} (Y : TT P) (st : St) (t : TypeId) (x key v : SV) : Option St :=
  match tdAt Y t, x, key with
  | some (.map kt _), .clo g [.ptr b 0 0], .d (.str s) =>
    if g = 1000000009 then match tdAt Y kt, st.hp b with
      | some .str, some ⟨n, mv, .map T es⟩ => if T.size = 1 then match dec T [v] with
          | some (y, []) => some { st with hp := hset st.hp b ⟨n, mv, .map T (upM es s y)⟩ }
          | _ => none
        else none
      | _, _ => none
    else none
  | _, _, _ => none
def opPut {P : Program} (Y : TT P) (st : St) (dst : Option Nat) : Op → Option St
  | .store t p v => (storeSt Y st t (ev st p) (ev st v)).map fun st' => st'.put dst .undef
  | .mapUpdate t m k v => (updS Y st t (ev st m) (ev st k) (ev st v)).map fun st' => st'.put dst .undef
  | .insert t m k v => (updS Y st t (ev st m) (ev st k) (ev st v)).map fun st' => st'.put dst .undef
  | .call { callee := .builtin .append, args, argTypes } =>
    match args.toList, argTypes.toList, dst with
    | [s, x], [t, u], some d => appendSt Y st d t u (ev st s) (ev st x)
    | _, _, _ => none
  | .call { callee := .builtin .copy, args, argTypes } =>
    match args.toList, argTypes.toList with
    | [s, x], [t, u] => (copySt Y st t u (ev st s) (ev st x)).map fun r => r.1.put dst (.d (.i .i64 r.2))
    | _, _ => none
  | _ => none
section
variable {P : Program} [Gl P] {Y : TT P} {X : Ctx P} {st : St} {a : Act} {w : World} {β : Nat → Option BA} {S : Nat → Prop}
theorem setCells_heap (b : Nat) : ∀ (vs : List Value) (o : Nat) (w : World) (arr : Array Value) (ty : TypeId) (fz : Nat × Nat), w.heap[b]? = some (.cells arr ty fz) → o + vs.length ≤ arr.size →
    ∃ arr', (w.setCells b o vs).heap[b]? = some (.cells arr' ty fz) ∧ arr'.size = arr.size ∧ (∀ i, arr'[i]? = if o ≤ i ∧ i < o + vs.length then vs[i - o]? else arr[i]?) ∧
      (∀ j, j ≠ b → (w.setCells b o vs).heap[j]? = w.heap[j]?) ∧ (w.setCells b o vs).os = w.os ∧ (w.setCells b o vs).tape = w.tape ∧ (w.setCells b o vs).output = w.output ∧ (w.setCells b o vs).heap.size = w.heap.size
  | [], o, w, arr, ty, fz, h, _ => ⟨arr, h, rfl, fun i => by simp; intro h1 h2; omega, fun _ _ => rfl, rfl, rfl, rfl, rfl⟩
  | v :: vs, o, w, arr, ty, fz, h, hl => by
    simp only [List.length_cons] at hl
    have h1 : (w.setCell ⟨b, o, none⟩ v).heap[b]? = some (.cells (arr.setIfInBounds o v) ty fz) := by
      simp only [World.setCell, Array.getElem?_modify, if_true, h]; rfl
    obtain ⟨arr', q1, q2, q3, q4, q5, q6, q7, q8⟩ := setCells_heap b vs (o + 1) _ _ ty fz h1 (by simp; omega)
    refine ⟨arr', q1, by rw [q2]; simp, fun i => ?_, fun j hj => ?_, q5, q6, q7, ?_⟩
    · rw [q3 i]
      simp only [List.length_cons]
      by_cases hi : i = o
      · subst hi
        rw [if_neg (by omega), if_pos (by omega)]
        simp [Array.getElem?_setIfInBounds]; omega
      · by_cases h2 : o ≤ i ∧ i < o + (vs.length + 1)
        · rw [if_pos (by omega), if_pos h2]
          have : i - o = (i - (o + 1)) + 1 := by omega
          rw [this, List.getElem?_cons_succ]
        · rw [if_neg (by omega), if_neg h2, Array.getElem?_setIfInBounds, if_neg (by omega)]
    · rw [World.setCells, q4 j hj]
      simp only [World.setCell, Array.getElem?_modify]
      rw [if_neg (by omega)]
    · rw [World.setCells, q8]; simp
theorem run_storeCells_blk {b o : Nat} {vs : List Value} {arr : Array Value} {ty : TypeId} {fz : Nat × Nat} (h : w.heap[b]? = some (.cells arr ty fz)) (hfz : ∀ i, o ≤ i → i < arr.size → (fz.1 ≤ i && i < fz.2) = false)
    (hl : o + vs.length ≤ arr.size) (h1 : ∀ v ∈ vs, v.oneCell' = true) : (storeCells ⟨b, o, none⟩ vs).run P w = .ok () (w.setCells b o vs) := by
  have := run_storeCells_cells (P := P) b o vs 0 w (fun j hj => ?_) (fun j hj => ?_) h1
  · simpa using this
  · have : o + 0 + j < arr.size := by omega
    simp [World.cell?, h]; omega
  · have : o + 0 + j < arr.size := by omega
    simp only [World.frozen?, h]
    exact hfz _ (by omega) this
theorem HK.open_ {b : Nat} {k : Blk} {ba : BA} (h : HK w β S b k) (hb : β b = some ba) (hm : k.c.isMap = false := by rfl) :
    ∃ (arr : Array Value) (ty : TypeId) (fz : Nat × Nat), (ba.s = k.s ∧ ba.len = k.c.len ∧ ∀ t, k.c.ty? = some t → ty = t.1 ∧ ba.o = 0 ∧ (t.2 = true → ba.n = k.s)) ∧ 0 < k.s ∧ w.heap[ba.b]? = some (.cells arr ty fz) ∧ FzOk k ba.o fz arr.size ∧ arr.size = ba.n ∧
    ba.o + k.c.len * k.s ≤ ba.n ∧ (∀ e l, k.c.lens? e = some l → l = k.s) ∧ ∀ e c sv, k.c.cell? e c = some sv → ∃ u, arr[ba.o + e * k.s + c]? = some u ∧ u.oneCell' = true ∧ RS w β S u sv := by
  rcases h with (⟨_, h2⟩ | ⟨_, _, _, _, _, h2, _⟩) | ⟨ba', arr, ty, fz, h1, rest⟩
  · rw [h2] at hb; cases hb
  · rw [h2] at hm; cases hm
  · rw [h1] at hb; cases hb; exact ⟨arr, ty, fz, rest⟩
theorem Rel.write (hr : Rel X st a.tmps w β S) {b : Nat} {k : Blk} (hb : st.hp b = some k) {ba : BA} (hba : β b = some ba) {o : Nat} {vs : List Value} (hfit : o + vs.length ≤ ba.n) (h1 : ∀ v ∈ vs, v.oneCell' = true) (hm : k.c.isMap = false)
    (k' : Blk) (hs : k'.s = k.s) (hmv : k'.mv = k.mv) (hlen : k'.c.len = k.c.len) (hty : k'.c.ty? = k.c.ty?) (hny : ∀ T, k.c.ty? ≠ some (T, false)) (hl : ∀ e l, k'.c.lens? e = some l → l = k.s)
    (hc : ∀ e c sv, k'.c.cell? e c = some sv → (o ≤ ba.o + e * k.s + c ∧ ba.o + e * k.s + c < o + vs.length ∧ ∃ u, vs[ba.o + e * k.s + c - o]? = some u ∧ RS w β S u sv) ∨
      (¬ (o ≤ ba.o + e * k.s + c ∧ ba.o + e * k.s + c < o + vs.length) ∧ ∃ sv0, k.c.cell? e c = some sv0 ∧ Sub sv0 sv)) :
    ∃ w', (storeCells ⟨ba.b, o, none⟩ vs).run P w = .ok () w' ∧ Rel X { st with hp := hset st.hp b k' } a.tmps w' β S := by
  obtain ⟨arr, ty, fz, g1, g2, g3, g4, g5, g6, g7, g8⟩ := (hr.hp b k hb).open_ hba hm
  obtain ⟨arr', q1, q2, q3, q4, q5, q6, q7, q8⟩ := setCells_heap ba.b vs o w arr ty fz g3 (by omega)
  refine ⟨_, run_storeCells_blk g3 (fun i _ hi => g4.none hny i hi) (by omega) h1, hr.sto b k k' hb ba hba q5 q6 q7 (by omega) (fun j _ hj => q4 j hj) ?_ hmv⟩
  refine .inr ⟨ba, arr', ty, fz, hba, by rw [hs, hlen, hty]; exact g1, by rw [hs]; exact g2, q1, g4.to hty hlen hs (by omega), by omega, by rw [hs, hlen]; exact g6, by rw [hs]; exact hl, fun e c sv hcell => ?_⟩
  have hS : ∀ j, S j → S j ∧ (w.setCells ba.b o vs).heap[j]? = w.heap[j]? := fun j hj => ⟨hj, q4 j fun e => (hr.excl b k ba hb hba).1 (e ▸ hj)⟩
  rw [hs, q3]
  rcases hc e c sv hcell with ⟨c1, c2, u, u1, u2⟩ | ⟨c1, sv0, c2, c3⟩
  · rw [if_pos ⟨c1, c2⟩]
    exact ⟨u, u1, h1 u (List.mem_of_getElem? u1), u2.mono hS (by omega) fun _ _ => rfl⟩
  · rw [if_neg c1]
    obtain ⟨u, u1, u2, u3⟩ := g8 e c sv0 c2
    exact ⟨u, u1, u2, c3 _ _ _ _ (u3.mono hS (by omega) fun _ _ => rfl)⟩
theorem BC.setEl_row {t : Ty} {xs : List t.den} {e : Nat} {l : List SV} {c' : BC} (h : (BC.row t xs).setEl e l = some c') : ∃ x, dec t l = some (x, []) ∧ c' = .row t (xs.set e x) := by
  simp only [BC.setEl] at h
  split at h
  · rename_i x hx; cases h; exact ⟨x, hx, rfl⟩
  · cases h
theorem BC.setEl_len {c c' : BC} {e : Nat} {l : List SV} (h : c.setEl e l = some c') : c'.len = c.len := by
  cases c with
  | row t xs => obtain ⟨x, _, rfl⟩ := BC.setEl_row h; simp [BC.len]
  | mix ty els => simp only [BC.setEl, Option.some.injEq] at h; subst h; simp [BC.len]
  | map t es => cases h
theorem BC.setEl_ty {c c' : BC} {e : Nat} {l : List SV} (h : c.setEl e l = some c') : c'.ty? = c.ty? := by
  cases c with
  | row t xs => obtain ⟨x, _, rfl⟩ := BC.setEl_row h; cases t <;> rfl
  | mix ty els => simp only [BC.setEl, Option.some.injEq] at h; subst h; rfl
  | map t es => cases h
theorem BC.setEl_ny {c c' : BC} {e : Nat} {l : List SV} (h : c.setEl e l = some c') : ∀ T, c.ty? ≠ some (T, false) := by
  intro T hT
  cases c with
  | row t xs =>
    obtain ⟨x, hx, _⟩ := BC.setEl_row h
    cases t with
    | y T' => cases l <;> simp [dec] at hx
    | _ => cases hT
  | mix ty els => cases ty <;> simp [BC.ty?] at hT
  | map t es => cases h
theorem BC.setEl_lens {c c' : BC} {e : Nat} {l cs : List SV} (h : c.setEl e l = some c') (he : c.el? e = some cs) (hl : l.length = cs.length) (e' : Nat) : c'.lens? e' = c.lens? e' := by
  cases c with
  | row t xs =>
    obtain ⟨x, _, rfl⟩ := BC.setEl_row h
    simp only [BC.lens?, List.getElem?_set]
    by_cases hee : e = e'
    · subst hee
      rw [if_pos rfl]
      split
      · rename_i hlt; rw [List.getElem?_eq_getElem hlt]; rfl
      · rename_i hlt; rw [List.getElem?_eq_none (by omega)]
    · rw [if_neg hee]
  | mix ty els =>
    simp only [BC.setEl, Option.some.injEq] at h
    subst h
    simp only [BC.el?] at he
    simp only [BC.lens?, List.getElem?_set]
    by_cases hee : e = e'
    · subst hee
      have hlt : e < els.length := (List.getElem?_eq_some_iff.1 he).1
      rw [if_pos rfl, if_pos hlt, he]
      simp [hl]
    · rw [if_neg hee]
  | map t es => cases h
theorem BC.setEl_cell {c c' : BC} {e : Nat} {l cs : List SV} (h : c.setEl e l = some c') (he : c.el? e = some cs) {e' j : Nat} {sv : SV} (hc : c'.cell? e' j = some sv) :
    (e' = e ∧ ∃ sv0, l[j]? = some sv0 ∧ Sub sv0 sv) ∨ (e' ≠ e ∧ c.cell? e' j = some sv) := by
  cases c with
  | row t xs =>
    obtain ⟨x, hx, rfl⟩ := BC.setEl_row h
    simp only [BC.el?] at he
    have hlt : e < xs.length := by
      cases hq : xs[e]? with
      | none => rw [hq] at he; cases he
      | some y => exact (List.getElem?_eq_some_iff.1 hq).1
    simp only [BC.cell?, List.getElem?_set] at hc
    by_cases hee : e' = e
    · subst hee
      rw [if_pos rfl, if_pos hlt] at hc
      simp only [Option.bind_some] at hc
      cases hy : (t.enc x)[j]? with
      | none => rw [hy] at hc; cases hc
      | some y =>
        rw [hy] at hc; cases hc
        obtain ⟨us, u1, _, u3⟩ := dec_spec _ _ _ _ hx
        rw [List.append_nil] at u1; subst u1
        obtain ⟨c0, k1, k2, _⟩ := u3 j y hy
        exact .inl ⟨rfl, c0, k1, k2⟩
    · rw [if_neg (fun h => hee h.symm)] at hc
      exact .inr ⟨hee, hc⟩
  | mix ty els =>
    simp only [BC.setEl, Option.some.injEq] at h
    subst h
    simp only [BC.el?] at he
    have hlt : e < els.length := (List.getElem?_eq_some_iff.1 he).1
    simp only [BC.cell?, List.getElem?_set] at hc
    by_cases hee : e' = e
    · subst hee
      rw [if_pos rfl, if_pos hlt] at hc
      exact .inl ⟨rfl, sv, hc, .refl _⟩
    · rw [if_neg (fun h => hee h.symm)] at hc
      exact .inr ⟨hee, hc⟩
  | map t es => cases h
theorem BC.el_lens {c : BC} {e : Nat} {cs : List SV} (h : c.el? e = some cs) : c.lens? e = some cs.length := by
  cases c with
  | row t xs => simp only [BC.el?] at h; simp only [BC.lens?]; cases hx : xs[e]? with | none => rw [hx] at h; cases h | some x => rw [hx] at h; cases h; simp [Ty.enc_len]
  | mix ty els => simp only [BC.el?] at h; simp only [BC.lens?, h]; rfl
  | map t es => cases h
theorem BC.el_lt {c : BC} {e : Nat} {cs : List SV} (h : c.el? e = some cs) : e < c.len := by
  cases c with
  | row t xs => simp only [BC.el?] at h; cases hx : xs[e]? with | none => rw [hx] at h; cases h | some x => exact (List.getElem?_eq_some_iff.1 hx).1
  | mix ty els => exact (List.getElem?_eq_some_iff.1 h).1
  | map t es => cases h
theorem BC.cell_lens {c : BC} {e j : Nat} {sv : SV} (h : c.cell? e j = some sv) : ∃ l, c.lens? e = some l ∧ j < l := by
  cases c with
  | row t xs => simp only [BC.cell?] at h; simp only [BC.lens?]; cases hx : xs[e]? with | none => rw [hx] at h; cases h | some x => rw [hx] at h; simp at h; obtain ⟨d, hd, _⟩ := h; exact ⟨_, rfl, by rw [← Ty.enc_len t x]; exact (List.getElem?_eq_some_iff.1 hd).1⟩
  | mix ty els => simp only [BC.cell?] at h; simp only [BC.lens?]; cases hx : els[e]? with | none => rw [hx] at h; cases h | some x => rw [hx] at h; exact ⟨_, rfl, (List.getElem?_eq_some_iff.1 h).1⟩
  | map t es => cases h
theorem BC.el_map {c : BC} {e : Nat} {cs : List SV} (h : c.el? e = some cs) : c.isMap = false := by
  cases c <;> first | rfl | cases h
theorem store_sound {t : TypeId} {u v : Value} {p q : SV} {st' : St} (hr : Rel X st a.tmps w β S) (hu : RS w β S u p) (hv : RS w β S v q) (h : storeSt Y st t p q = some st') :
    ∃ w', (Instr.storeAt t u v).run P w = .ok () w' ∧ Rel X st' a.tmps w' β S := by
  unfold storeSt at h
  split at h
  · rename_i n b e c xs hn hxs
    split at h
    · cases h
    · rename_i hxl
      have hxl : xs.length = n := by omega
      split at h
      · rename_i k hk
        split at h
        · rename_i cs hcs
          split at h
          · rename_i hle
            cases hset : k.c.setEl e (cs.take c ++ xs ++ cs.drop (c + n)) with
            | none => rw [hset] at h; cases h
            | some bc =>
              rw [hset] at h; cases h
              cases hu with
              | ptr b e c ba hba =>
                obtain ⟨v1, v2⟩ := hv.cells hxs
                obtain ⟨arr, ty, fz, g1, g2, g3, g4, g5, g6, g7, g8⟩ := (hr.hp b k hk).open_ hba (BC.el_map hcs)
                have hcsl : cs.length = k.s := g7 e _ (BC.el_lens hcs)
                have helt := BC.el_lt hcs
                have hb1 : e * k.s + k.s ≤ k.c.len * k.s := by
                  have : (e + 1) * k.s ≤ k.c.len * k.s := Nat.mul_le_mul_right _ helt
                  rwa [Nat.add_mul, Nat.one_mul] at this
                have hnl : (cs.take c ++ xs ++ cs.drop (c + n)).length = cs.length := by simp; omega
                have hvs : v.cells.toList.length = n := by simp; omega
                obtain ⟨w', w1, w2⟩ := hr.write (P := P) hk hba (o := ba.o + e * k.s + c) (vs := v.cells.toList) (by omega) (fun u hu => by
                    obtain ⟨i, hi⟩ := List.getElem?_of_mem hu
                    have hi' : v.cells[i]? = some u := by simpa using hi
                    have hlt : i < xs.length := by rw [← v1]; exact (Array.getElem?_eq_some_iff.1 hi').1
                    exact (v2 i u _ hi' (List.getElem?_eq_getElem hlt)).2) (BC.el_map hcs)
                  { k with c := bc } rfl rfl (BC.setEl_len hset) (BC.setEl_ty hset) (BC.setEl_ny hset) (fun e' l hl => g7 e' l (by rw [← BC.setEl_lens hset hcs hnl]; exact hl)) (fun e' j sv hsv => by
                    rcases BC.setEl_cell hset hcs hsv with ⟨rfl, sv0, hsv, hsub⟩ | ⟨hee, hsv⟩
                    · have htc : (cs.take c).length = c := by simp; omega
                      rcases Nat.lt_or_ge j c with hj | hj
                      · refine .inr ⟨by omega, sv0, ?_, hsub⟩
                        rw [List.append_assoc, List.getElem?_append_left (by omega), List.getElem?_take, if_pos hj] at hsv
                        rw [BC.cell_el hcs]; exact hsv
                      · rcases Nat.lt_or_ge j (c + n) with hj2 | hj2
                        · refine .inl ⟨by omega, by omega, ?_⟩
                          rw [List.append_assoc, List.getElem?_append_right (by omega), htc, List.getElem?_append_left (by omega)] at hsv
                          have hlt : j - c < v.cells.size := by omega
                          refine ⟨v.cells[j - c], ?_, hsub _ _ _ _ (v2 (j - c) _ _ (Array.getElem?_eq_getElem hlt) hsv).1⟩
                          rw [show ba.o + e' * k.s + j - (ba.o + e' * k.s + c) = j - c by omega]
                          have : v.cells.toList[j - c]? = v.cells[j - c]? := by simp
                          rw [this]; exact Array.getElem?_eq_getElem hlt
                        · refine .inr ⟨by omega, sv0, ?_, hsub⟩
                          rw [List.append_assoc, List.getElem?_append_right (by omega), htc, List.getElem?_append_right (by omega), hxl, List.getElem?_drop, show c + n + (j - c - n) = j by omega] at hsv
                          rw [BC.cell_el hcs]; exact hsv
                    · refine .inr ⟨?_, sv, hsv, .refl _⟩
                      obtain ⟨l, hl1, hl2⟩ := BC.cell_lens hsv
                      have := g7 e' l hl1
                      rcases Nat.lt_or_gt_of_ne hee with hlt | hgt
                      · have : (e' + 1) * k.s ≤ e * k.s := Nat.mul_le_mul_right _ hlt
                        rw [Nat.add_mul, Nat.one_mul] at this; omega
                      · have : (e + 1) * k.s ≤ e' * k.s := Nat.mul_le_mul_right _ hgt
                        rw [Nat.add_mul, Nat.one_mul] at this; omega)
                refine ⟨w', ?_, w2⟩
                have hsz : v.cells.size = n := by omega
                simp only [Instr.storeAt, Instr.sureAddr, pure_bind, storeVar, Sem.run_bind, run_sizeOf hn, Result.andThen_ok, hsz, ne_eq, not_true_eq_false, if_false, Sem.run_pure]
                rw [g1.1]; exact w1
          · cases h
        · cases h
      · cases h
  · cases h
end
end Go.U
