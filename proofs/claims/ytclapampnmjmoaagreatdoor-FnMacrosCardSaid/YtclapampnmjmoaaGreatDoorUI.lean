/- A part of the proof. No condition. -/
import Derived.Test.YtclapampnmjmoaaGreatDoorUH
import Derived.Laws.MakeOwn
import Derived.Laws.IdiomStrings
set_option linter.unusedVariables false
set_option linter.unusedSimpArgs false
set_option linter.unusedSectionVars false
namespace Go.U
open Go
def fillEls (s : Nat) : List (List SV) → List (Nat × SV) → Option (List (List SV))
  | els, [] => some els
  | els, (i, x) :: rest => match x.cells with
    | some xs => if xs.length = s ∧ i < els.length then fillEls s (els.set i xs) rest else none
    | none => none
def fillFs (fs : List (Nat × Nat × Nat)) : List SV → List (Nat × SV) → Option (List SV)
  | cs, [] => some cs
  | cs, (i, x) :: rest => match fs[i]?, x.cells with
    | some (off, _, sz), some xs => if xs.length = sz ∧ off + sz ≤ cs.length then fillFs fs (cs.take off ++ xs ++ cs.drop (off + sz)) rest else none
    | _, _ => none
def Ty.isY : Ty → Bool
  | .y _ => true
  | _ => false
theorem BC.ty_row {t : Ty} {xs : List t.den} (h : t.isY = false) : (BC.row t xs).ty? = none := by cases t <;> first | rfl | cases h
def dec : (t : Ty) → List SV → Option (t.den × List SV)
  | .i k, .d (.i k' n) :: r => if k' = k then some (n, r) else none
  | .b, .d (.b x) :: r => some (x, r)
  | .s, .d (.str x) :: r => some (x, r)
  | .e, .d (.er x) :: r => some (x, r)
  | .c a t, r => match dec a r with
    | some (x, r') => match dec t r' with
      | some (y, r'') => some ((x, y), r'')
      | none => none
    | none => none
  | .l t, .d (.rov t' xs) :: r => if h : t' = t then some (h ▸ xs, r) else none
  | .l _, .d .emp :: r => some ([], r)
  | _, _ => none
theorem dec_notY {t : Ty} {l : List SV} {p : t.den × List SV} (h : dec t l = some p) : t.isY = false := by
  cases t with
  | y T => cases l <;> simp [dec] at h
  | _ => rfl
def decL (t : Ty) : List (List SV) → Option (List t.den)
  | [] => some []
  | l :: ls => match dec t l with
    | some (x, []) => match decL t ls with
      | some xs => some (x :: xs)
      | none => none
    | _ => none
def Sub (c c' : SV) : Prop := ∀ (w : World) (β : Nat → Option BA) (S : Nat → Prop) (v : Value), RS w β S v c → RS w β S v c'
theorem Sub.refl (c : SV) : Sub c c := fun _ _ _ _ h => h
theorem Sub.emp (t : Ty) : Sub (.d .emp) (.d (.rov t [])) := fun _ _ _ _ h => by cases h.inv_d; exact .d (.rov0 _ _ _)
theorem dec_spec : ∀ (t : Ty) (cs : List SV) (x : t.den) (r : List SV), dec t cs = some (x, r) →
    ∃ us, cs = us ++ r ∧ us.length = t.size ∧ ∀ (j : Nat) y, (t.enc x)[j]? = some y → ∃ c, us[j]? = some c ∧ Sub c (.d y) ∧ c.one = true
  | .i k, cs, x, r, h => by
    match cs, h with
    | .d (.i k' n) :: r', h =>
      simp only [dec] at h
      split at h
      · rename_i e; subst e
        cases h
        refine ⟨[.d (.i k' n)], rfl, rfl, fun j y hj => ?_⟩
        cases j with
        | zero => simp [Ty.enc] at hj; subst hj; exact ⟨_, rfl, .refl _, rfl⟩
        | succ j => simp [Ty.enc] at hj
      · cases h
  | .b, cs, x, r, h => by
    match cs, h with
    | .d (.b n) :: r', h =>
      cases h
      refine ⟨[.d (.b x)], rfl, rfl, fun j y hj => ?_⟩
      cases j with
      | zero => simp [Ty.enc] at hj; subst hj; exact ⟨_, rfl, .refl _, rfl⟩
      | succ j => simp [Ty.enc] at hj
  | .s, cs, x, r, h => by
    match cs, h with
    | .d (.str n) :: r', h =>
      cases h
      refine ⟨[.d (.str x)], rfl, rfl, fun j y hj => ?_⟩
      cases j with
      | zero => simp [Ty.enc] at hj; subst hj; exact ⟨_, rfl, .refl _, rfl⟩
      | succ j => simp [Ty.enc] at hj
  | .e, cs, x, r, h => by
    match cs, h with
    | .d (.er n) :: r', h =>
      cases h
      refine ⟨[.d (.er x)], rfl, rfl, fun j y hj => ?_⟩
      cases j with
      | zero => simp [Ty.enc] at hj; subst hj; exact ⟨_, rfl, .refl _, rfl⟩
      | succ j => simp [Ty.enc] at hj
  | .c a t, cs, x, r, h => by
    simp only [dec] at h
    split at h
    · rename_i x1 r1 h1
      split at h
      · rename_i y1 r2 h2
        cases h
        obtain ⟨us, rfl, l1, g1⟩ := dec_spec a cs x1 r1 h1
        obtain ⟨us', rfl, l2, g2⟩ := dec_spec t r1 y1 r h2
        refine ⟨us ++ us', by simp, by simp [l1, l2, Ty.size], fun j y hj => ?_⟩
        simp only [Ty.enc] at hj
        rw [List.getElem?_append] at hj ⊢
        rw [Ty.enc_len] at hj
        rw [l1]
        split at hj
        · rename_i hlt; rw [if_pos hlt]; exact g1 j y hj
        · rename_i hlt; rw [if_neg hlt]; exact g2 _ y hj
      · cases h
    · cases h
  | .l t, cs, x, r, h => by
    match cs, h with
    | .d (.rov t' xs) :: r', h =>
      simp only [dec] at h
      split at h
      · rename_i e; subst e
        cases h
        refine ⟨[.d (.rov t' xs)], rfl, rfl, fun j y hj => ?_⟩
        cases j with
        | zero => simp [Ty.enc] at hj; subst hj; exact ⟨_, rfl, .refl _, rfl⟩
        | succ j => simp [Ty.enc] at hj
      · cases h
    | .d .emp :: r', h =>
      cases h
      refine ⟨[.d .emp], rfl, rfl, fun j y hj => ?_⟩
      cases j with
      | zero => simp [Ty.enc] at hj; subst hj; exact ⟨_, rfl, .emp t, rfl⟩
      | succ j => simp [Ty.enc] at hj
theorem decL_spec {t : Ty} : ∀ {cs : List (List SV)} {xs : List t.den}, decL t cs = some xs →
    xs.length = cs.length ∧ ∀ (e : Nat) x, xs[e]? = some x → ∃ us, cs[e]? = some us ∧ us.length = t.size ∧ ∀ (j : Nat) y, (t.enc x)[j]? = some y → ∃ c, us[j]? = some c ∧ Sub c (.d y) ∧ c.one = true := by
  intro cs
  induction cs with
  | nil => intro xs h; cases h; exact ⟨rfl, fun e x hx => by simp at hx⟩
  | cons l ls ih =>
    intro xs h
    simp only [decL] at h
    split at h
    · rename_i x h1
      split at h
      · rename_i xs' h2
        cases h
        obtain ⟨i1, i2⟩ := ih h2
        obtain ⟨us, e1, e2, e3⟩ := dec_spec t l x [] h1
        rw [List.append_nil] at e1; subst e1
        refine ⟨by simp [i1], fun e y hy => ?_⟩
        cases e with
        | zero => simp at hy; subst hy; exact ⟨_, rfl, e2, e3⟩
        | succ e => simp at hy; simpa using i2 e y hy
      · cases h
    · cases h
def BC.ofSV (t : Option Ty) (els : List (List SV)) : BC := match t with
  | some t => match t.isY, decL t els with
    | false, some xs => .row t xs
    | _, _ => .mix none els
  | none => .mix none els
theorem BC.ofSV_ty (t : Option Ty) (els : List (List SV)) : (BC.ofSV t els).ty? = none := by
  unfold BC.ofSV
  split
  · split
    · rename_i hy _; exact BC.ty_row hy
    · rfl
  · rfl
theorem BC.ofSV_len (t : Option Ty) (els : List (List SV)) : (BC.ofSV t els).len = els.length := by
  unfold BC.ofSV
  split
  · split
    · rename_i ds _ h; exact (decL_spec h).1
    · rfl
  · rfl
theorem BC.ofSV_lens (t : Option Ty) (els : List (List SV)) (e : Nat) : (BC.ofSV t els).lens? e = (els[e]?).map List.length := by
  unfold BC.ofSV
  split
  · split
    · rename_i ds _ h
      obtain ⟨h1, h2⟩ := decL_spec h
      simp only [BC.lens?]
      cases hx : ds[e]? with
      | none =>
        rw [List.getElem?_eq_none_iff] at hx
        rw [List.getElem?_eq_none (by omega)]
        rfl
      | some x => obtain ⟨us, u1, u2, _⟩ := h2 e x hx; rw [u1]; simp [u2]
    · rfl
  · rfl
theorem BC.ofSV_cell (t : Option Ty) (els : List (List SV)) (e c : Nat) (sv : SV) (h : (BC.ofSV t els).cell? e c = some sv) : ∃ el sv', els[e]? = some el ∧ el[c]? = some sv' ∧ Sub sv' sv := by
  have key : (els[e]?).bind (fun l => l[c]?) = some sv → ∃ el sv', els[e]? = some el ∧ el[c]? = some sv' ∧ Sub sv' sv := fun h => by
    cases he : els[e]? with
    | none => rw [he] at h; cases h
    | some el => rw [he] at h; exact ⟨el, sv, rfl, h, .refl _⟩
  unfold BC.ofSV at h
  split at h
  · split at h
    · rename_i ds _ hd
      obtain ⟨h1, h2⟩ := decL_spec hd
      simp only [BC.cell?] at h
      cases hx : ds[e]? with
      | none => rw [hx] at h; cases h
      | some x =>
        rw [hx] at h
        simp only [Option.bind_some] at h
        cases hy : (Ty.enc _ x)[c]? with
        | none => rw [hy] at h; cases h
        | some y =>
          rw [hy] at h; cases h
          obtain ⟨us, u1, _, u3⟩ := h2 e x hx
          obtain ⟨c', g1, g2, _⟩ := u3 c y hy
          exact ⟨us, c', u1, g1, g2⟩
    · exact key h
  · exact key h
def buildS {P : Program} (Y : TT P) (st : St) (t : TypeId) (parts : List (Nat × Operand)) : Option SV :=
  match Y.f t with
  | some i => match i.td with
    | .st fs => if fs.all (fun f => f.2.2 ≠ 0) then (fillFs fs (i.zero.map SV.d) (parts.map fun p => (p.1, ev st p.2))).map SV.agg else none
    | _ => none
  | none => none
def allU8 : List D → Bool
  | [] => true
  | .i .u8 n :: l => decide (n = 0) && allU8 l
  | _ => false
theorem allU8_get : ∀ {l : List D} {c : Nat} {x : D}, allU8 l = true → l[c]? = some x → x = .i .u8 0
  | [], _, _, _, h => by simp at h
  | d :: l, c, x, h, hx => by
    cases d with
    | i q n =>
      cases q <;> first | (simp [allU8] at h; done) | skip
      simp only [allU8, Bool.and_eq_true, decide_eq_true_eq] at h
      cases c with
      | zero => simp at hx; rw [← hx, h.1]
      | succ c => exact allU8_get h.2 (by simpa using hx)
    | _ => simp [allU8] at h
def longB (i : TI) : Bool := match i.td with | .arr n _ => decide (16 < n) && allU8 i.zero | _ => false
def allocB (i : TI) (t : TypeId) : Blk := if longB i = true then ⟨1, false, .row (.i .u8) (List.replicate i.size (0 : Int))⟩ else ⟨i.size, false, .mix (some t) [i.zero.map SV.d]⟩
def hintB : Option Operand → Bool
  | none => true
  | some (.const (.int _ _)) => true
  | _ => false
def opNew {P : Program} (Y : TT P) (st : St) (d : Nat) : Op → Option St
  | .alloc t => match Y.f t with
    | some i => if i.size = 0 then none else some ((st.newB (newId d) (allocB i t)).put (some d) (.ptr (newId d) 0 0))
    | none => none
  | .box t x => match (ev st x).cells with
    | some cs => if cs.length = 0 then none else some ((st.newB (newId d) ⟨cs.length, false, .mix (some t) [cs]⟩).put (some d) (.ptr (newId d) 0 0))
    | none => none
  | .build t parts => (buildS Y st t parts.toList).map fun sv => st.put (some d) sv
  | .buildSlice t n parts => match tdAt Y t with
    | some (.sl e) => match Y.f e with
      | some i => if i.size = 0 ∨ 16777216 < n * i.size then none else
        (fillEls i.size (List.replicate n (i.zero.map SV.d)) (parts.toList.map fun p => (p.1, ev st p.2))).map fun els =>
          (st.newB (newId d) ⟨i.size, false, BC.ofSV i.ty els⟩).put (some d) (.all (newId d))
      | none => none
    | _ => none
  | .makeSlice t l c => match tdAt Y t with
    | some (.sl e) => match Y.f e, ev st l, ev st c with
      | some i, .d (.i _ n), .d (.i _ m) => match i.ty with
        | some ty => match dec ty (i.zero.map SV.d) with
          | some (z, []) => if i.size = 0 ∨ i.bytes = 0 ∨ n ≠ m ∨ n < 0 ∨ 281474976710656 < i.bytes * n.toNat then none else
            some ((st.newB (newId d) ⟨i.size, false, .row ty (List.replicate n.toNat z)⟩).put (some d) (.all (newId d)))
          | _ => none
        | none => none
      | _, _, _ => none
    | _ => none
  | .convert src dst x => match tdAt Y src, tdAt Y dst, ev st x with
    | some .str, some (.sl e), .d (.str l) => match tdAt Y e with
      | some (.int .u8) => some ((st.newB (newId d) ⟨1, false, .row (.i .u8) (ofB l)⟩).put (some d) (.all (newId d)))
      | _ => none
    | _, _, _ => none
  | .makeMap t hint => if hintB hint = true then match tdAt Y t with
    | some (.map _ e) => match Y.f e with
      | some i => match i.ty with
        | some T => if T.size = 1 then some ((st.newB (newId d) ⟨1, false, .map T []⟩).put (some d) (.clo 1000000009 [.ptr (newId d) 0 0])) else none
        | none => none
      | none => none
    | _ => none else none
  | _ => none
def Does (P : Program) [Gl P] (X : Ctx P) (a : Act) (w : World) (o : Oper) (st' : St) : Prop :=
  ∃ nx w', (execOp a.eval o).run P w = .ok nx w' ∧ ((∃ v, nx = .value v ∧ Good X st' (a.put o.dst v) w') ∨ (nx = .skip ∧ Good X st' (a.put o.dst undef) w'))
section
variable {P : Program} [Gl P] {Y : TT P} {X : Ctx P} {st : St} {a : Act} {w : World} {β : Nat → Option BA} {S : Nat → Prop}
theorem run_lift {s : Sem Value} {v : Value} {w w' : World} (h : s.run P w = .ok v w') : (do pure (Next.value (← s)) : Sem Next).run P w = .ok (.value v) w' := by
  simp only [Sem.run_bind, h, Result.andThen_ok, Sem.run_pure]
theorem zero_cells {t : TypeId} {i : TI} (h : Y.f t = some i) : ∃ j z, P.info? t = some j ∧ j.zero = some z ∧ j.size = i.size ∧ j.bytes = i.bytes ∧ z.cells.size = i.size ∧ i.zero.length = i.size ∧
    ∀ (w : World) (S : Nat → Prop) (c : Nat) x, i.zero[c]? = some x → ∃ u, z.cells[c]? = some u ∧ u.oneCell' = true ∧ RD w S u x := by
  obtain ⟨j, d, z, h1, h2, ⟨h3, h4, h5⟩, rfl⟩ := Y.info h
  refine ⟨j, z, h1, h3, rfl, rfl, h5, by simp [h5], fun w S c x hx => ?_⟩
  rw [List.getElem?_map] at hx
  have he : z.cells.toList[c]? = z.cells[c]? := by simp
  rw [he] at hx
  cases hu : z.cells[c]? with
  | none => rw [hu] at hx; cases hx
  | some u =>
    rw [hu] at hx; cases hx
    have hm : u ∈ z.cells.toList := List.mem_of_getElem? (he.trans hu)
    exact ⟨u, rfl, h4 u hm, RD.ofVal w S u (h4 u hm)⟩
def Cor (w : World) (β : Nat → Option BA) (S : Nat → Prop) (s : Nat) (A : Array Value) (els : List (List SV)) : Prop :=
  A.size = els.length * s ∧ (∀ (e : Nat) el, els[e]? = some el → el.length = s) ∧ ∀ (e : Nat) el (c : Nat) sv, els[e]? = some el → el[c]? = some sv → ∃ u, A[e * s + c]? = some u ∧ u.oneCell' = true ∧ RS w β S u sv
theorem foldl_zip_size (off : Nat) : ∀ (l : List Value) (k : Nat) (A : Array Value), ((l.zipIdx k).foldl (fun cs (x : Value × Nat) => cs.setIfInBounds (off + x.2) x.1) A).size = A.size
  | [], k, A => rfl
  | x :: l, k, A => by simp only [List.zipIdx_cons, List.foldl_cons]; rw [foldl_zip_size off l]; simp
theorem foldl_zip_get (off : Nat) : ∀ (l : List Value) (k : Nat) (A : Array Value), off + k + l.length ≤ A.size → ∀ i,
    ((l.zipIdx k).foldl (fun cs (x : Value × Nat) => cs.setIfInBounds (off + x.2) x.1) A)[i]? = if off + k ≤ i ∧ i < off + k + l.length then l[i - (off + k)]? else A[i]?
  | [], k, A, _, i => by simp; intro h1 h2; omega
  | x :: l, k, A, h, i => by
    simp only [List.zipIdx_cons, List.foldl_cons]
    simp only [List.length_cons] at h
    rw [foldl_zip_get off l (k + 1) _ (by simp; omega) i]
    simp only [List.length_cons]
    by_cases h1 : i = off + k
    · subst h1
      rw [if_neg (by omega), if_pos (by omega)]
      simp [Array.getElem?_setIfInBounds]; omega
    · by_cases h2 : off + k ≤ i ∧ i < off + k + (l.length + 1)
      · rw [if_pos (by omega), if_pos h2]
        have : i - (off + k) = (i - (off + (k + 1))) + 1 := by omega
        rw [this, List.getElem?_cons_succ]
      · rw [if_neg (by omega), if_neg h2, Array.getElem?_setIfInBounds, if_neg (by omega)]
theorem fill_els {s : Nat} {parts : List (Nat × Operand)} (hr : Rel X st a.tmps w β S) : ∀ {A : Array Value} {els els' : List (List SV)}, Cor w β S s A els →
    fillEls s els (parts.map fun p => (p.1, ev st p.2)) = some els' →
    ∃ B, Instr.fill (fun i => some (i * s, s)) A (parts.map fun p => (p.1, a.eval p.2)) = some B ∧ Cor w β S s B els' ∧ els'.length = els.length := by
  induction parts with
  | nil =>
    intro A els els' hc h
    simp [fillEls] at h; subst h
    exact ⟨A, rfl, hc, rfl⟩
  | cons p parts ih =>
    intro A els els' hc h
    obtain ⟨i, x⟩ := p
    simp only [List.map_cons, fillEls] at h
    split at h
    · rename_i xs hxs
      split at h
      · rename_i hle
        obtain ⟨hl, hi⟩ := hle
        have hx := ev_sound hr x
        obtain ⟨c1, c2⟩ := hx.cells hxs
        obtain ⟨k1, k2, k3⟩ := hc
        have hb : i * s + s ≤ els.length * s := by
          have : (i + 1) * s ≤ els.length * s := Nat.mul_le_mul_right s hi
          rwa [Nat.add_mul, Nat.one_mul] at this
        have hsz : (a.eval x).cells.size = s := by rw [c1, hl]
        let B := (a.eval x).cells.zipIdx.foldl (fun cs (y : Value × Nat) => cs.setIfInBounds (i * s + y.2) y.1) A
        have hB : B = ((a.eval x).cells.toList.zipIdx 0).foldl (fun cs (y : Value × Nat) => cs.setIfInBounds (i * s + y.2) y.1) A := by
          simp only [B]
          rw [← Array.foldl_toList, Array.toList_zipIdx]
        have hBs : B.size = A.size := by rw [hB]; exact foldl_zip_size _ _ _ _
        have hBg : ∀ j, B[j]? = if i * s ≤ j ∧ j < i * s + s then (a.eval x).cells[j - i * s]? else A[j]? := fun j => by
          rw [hB, foldl_zip_get (i * s) _ 0 A (by simp [hsz]; omega) j]
          simp [hsz]
        have hcor : Cor w β S s B (els.set i xs) := by
          refine ⟨by rw [hBs, k1]; simp, fun e el he => ?_, fun e el c sv he hcc => ?_⟩
          · rw [List.getElem?_set] at he
            split at he
            · cases he; exact hl
            · exact k2 e el he
          · rw [List.getElem?_set] at he
            split at he
            · rename_i hei
              cases he
              subst hei
              have hcl : c < s := by rw [← hl]; exact (List.getElem?_eq_some_iff.1 hcc).1
              have hcl' : c < (a.eval x).cells.size := by omega
              have hu : (a.eval x).cells[c]? = some (a.eval x).cells[c] := Array.getElem?_eq_getElem hcl'
              obtain ⟨r1, r2⟩ := c2 c _ _ hu hcc
              refine ⟨_, ?_, r2, r1⟩
              rw [hBg, if_pos (by omega), show i * s + c - i * s = c by omega]
              exact hu
            · rename_i hei
              obtain ⟨u, u1, u2, u3⟩ := k3 e el c sv he hcc
              refine ⟨u, ?_, u2, u3⟩
              have hcl : c < s := by rw [← k2 e el he]; exact (List.getElem?_eq_some_iff.1 hcc).1
              rw [hBg, if_neg, u1]
              rintro ⟨q1, q2⟩
              rcases Nat.lt_or_gt_of_ne hei with hlt | hgt
              · have : (i + 1) * s ≤ e * s := Nat.mul_le_mul_right s hlt
                rw [Nat.add_mul, Nat.one_mul] at this
                omega
              · have : (e + 1) * s ≤ i * s := Nat.mul_le_mul_right s hgt
                rw [Nat.add_mul, Nat.one_mul] at this
                omega
        obtain ⟨B', q1, q2, q3⟩ := ih hcor h
        refine ⟨B', ?_, q2, by rw [q3]; simp⟩
        have hcond : ¬ ((a.eval x).cells.size ≠ s ∨ A.size < i * s + (a.eval x).cells.size) := by
          rw [hsz, k1]; omega
        simp only [List.map_cons, Instr.fill]
        rw [if_neg (by simpa using hcond)]
        exact q1
      · cases h
    · cases h
def Cor1 (w : World) (β : Nat → Option BA) (S : Nat → Prop) (A : Array Value) (cs : List SV) : Prop :=
  A.size = cs.length ∧ ∀ (c : Nat) sv, cs[c]? = some sv → ∃ u, A[c]? = some u ∧ RS w β S u sv
theorem fill_fs {fs : List (Nat × Nat × Nat)} {pl : Array (Nat × Nat)} (hpl : ∀ i : Nat, pl[i]? = (fs[i]?).map fun f => (f.1, f.2.2)) {parts : List (Nat × Operand)} (hr : Rel X st a.tmps w β S) :
    ∀ {A : Array Value} {cs cs' : List SV}, Cor1 w β S A cs → fillFs fs cs (parts.map fun p => (p.1, ev st p.2)) = some cs' →
    ∃ B, Instr.fill (pl[·]?) A (parts.map fun p => (p.1, a.eval p.2)) = some B ∧ Cor1 w β S B cs' := by
  induction parts with
  | nil =>
    intro A els els' hc h
    simp [fillFs] at h; subst h
    exact ⟨A, rfl, hc⟩
  | cons p parts ih =>
    intro A cs cs' hc h
    obtain ⟨i, x⟩ := p
    simp only [List.map_cons, fillFs] at h
    split at h
    · rename_i off ty sz xs hf hxs
      split at h
      · rename_i hle
        obtain ⟨hl, hi⟩ := hle
        have hx := ev_sound hr x
        obtain ⟨c1, c2⟩ := hx.cells hxs
        obtain ⟨k1, k3⟩ := hc
        have hsz : (a.eval x).cells.size = sz := by rw [c1, hl]
        let B := (a.eval x).cells.zipIdx.foldl (fun cs (y : Value × Nat) => cs.setIfInBounds (off + y.2) y.1) A
        have hB : B = ((a.eval x).cells.toList.zipIdx 0).foldl (fun cs (y : Value × Nat) => cs.setIfInBounds (off + y.2) y.1) A := by
          simp only [B]
          rw [← Array.foldl_toList, Array.toList_zipIdx]
        have hBs : B.size = A.size := by rw [hB]; exact foldl_zip_size _ _ _ _
        have hBg : ∀ j, B[j]? = if off ≤ j ∧ j < off + sz then (a.eval x).cells[j - off]? else A[j]? := fun j => by
          rw [hB, foldl_zip_get off _ 0 A (by simp [hsz]; omega) j]
          simp [hsz]
        have hcor : Cor1 w β S B (cs.take off ++ xs ++ cs.drop (off + sz)) := by
          have hto : (cs.take off).length = off := by simp; omega
          refine ⟨by rw [hBs, k1]; simp; omega, fun c sv hcc => ?_⟩
          rw [hBg]
          rcases Nat.lt_or_ge c off with h1 | h1
          · rw [if_neg (by omega)]
            rw [List.append_assoc, List.getElem?_append_left (by omega), List.getElem?_take, if_pos h1] at hcc
            exact k3 c sv hcc
          · rcases Nat.lt_or_ge c (off + sz) with h2 | h2
            · rw [if_pos ⟨h1, h2⟩]
              rw [List.append_assoc, List.getElem?_append_right (by omega), hto, List.getElem?_append_left (by omega)] at hcc
              have hlt : c - off < (a.eval x).cells.size := by omega
              obtain ⟨r1, _⟩ := c2 (c - off) _ _ (Array.getElem?_eq_getElem hlt) hcc
              exact ⟨_, Array.getElem?_eq_getElem hlt, r1⟩
            · rw [if_neg (by omega)]
              rw [List.append_assoc, List.getElem?_append_right (by omega), hto, List.getElem?_append_right (by omega), hl, List.getElem?_drop, show off + sz + (c - off - sz) = c by omega] at hcc
              exact k3 c sv hcc
        obtain ⟨B', q1, q2⟩ := ih hcor h
        refine ⟨B', ?_, q2⟩
        have hcond : ¬ ((a.eval x).cells.size ≠ sz ∨ A.size < off + (a.eval x).cells.size) := by
          rw [hsz, k1]; omega
        have hp1 : pl[i]? = some (off, sz) := by rw [hpl, hf]; rfl
        simp only [List.map_cons, Instr.fill, hp1]
        rw [if_neg (by simpa using hcond)]
        exact q1
      · cases h
    · cases h
theorem run_places {gs : Array Field} (h : ∀ f ∈ gs.toList, P.cellsOf f.type ≠ 0) :
    (gs.mapM fun f => do pure (f.offset, ← sizeOf f.type) : Sem (Array (Nat × Nat))).run P w = .ok (gs.map fun f => (f.offset, P.cellsOf f.type)) w := by
  rw [Array.mapM_eq_mapM_toList]
  have key : ∀ l : List Field, (∀ f ∈ l, P.cellsOf f.type ≠ 0) → (l.mapM fun f => do pure (f.offset, ← sizeOf f.type) : Sem (List (Nat × Nat))).run P w = .ok (l.map fun f => (f.offset, P.cellsOf f.type)) w := by
    intro l
    induction l with
    | nil => intro _; simp
    | cons f l ih =>
      intro h
      have hf := h f (List.mem_cons_self ..)
      have hj : ∃ j, P.info? f.type = some j := by
        unfold Program.cellsOf at hf
        cases hj : P.info? f.type with
        | none => rw [hj] at hf; exact absurd rfl hf
        | some j => exact ⟨j, rfl⟩
      obtain ⟨j, hj⟩ := hj
      have hs : (sizeOf f.type).run P w = .ok (P.cellsOf f.type) w := by simp [sizeOf, typeInfo, Program.cellsOf, hj]
      simp only [List.mapM_cons, Sem.run_bind, hs, Result.andThen_ok, Sem.run_pure, ih fun g hg => h g (List.mem_cons_of_mem _ hg), List.map_cons]
  rw [Sem.run_map, key gs.toList h, Result.andThen_ok, ← Array.toList_map]
theorem buildS_sound {t : TypeId} {parts : Array (Nat × Operand)} {r : SV} (hr : Rel X st a.tmps w β S) (h : buildS Y st t parts.toList = some r) :
    ∃ v, (Instr.build t (parts.map fun (i, x) => (i, a.eval x))).run P w = .ok v w ∧ RS w β S v r := by
  unfold buildS at h
  split at h
  · rename_i i hi
    split at h
    · rename_i fs htd
      split at h
      · rename_i hall
        obtain ⟨j, z, z1, z2, z3, z4, z5, z6, z7⟩ := zero_cells hi
        obtain ⟨j', d, z', h1, h2, h3, hi'⟩ := Y.info hi
        rw [z1] at h1; cases h1
        rw [z2] at h3; cases h3.1
        have htd' : tdOf P d = .st fs := by rw [hi'] at htd; exact htd
        obtain ⟨gs, rfl, rfl⟩ := td_st htd'
        cases hf : fillFs (gs.toList.map fun f => (f.offset, f.type, P.cellsOf f.type)) (i.zero.map SV.d) (parts.toList.map fun p => (p.1, ev st p.2)) with
        | none => rw [hf] at h; cases h
        | some cs =>
          rw [hf] at h; cases h
          obtain ⟨B, q1, q2, q3⟩ := fill_fs (pl := gs.map fun f => (f.offset, P.cellsOf f.type)) (fun i => by simp [List.getElem?_map, Function.comp_def]) hr (A := z.cells) (cs := i.zero.map SV.d) ⟨by simp [z5, z6], fun c sv hc => by
            rw [List.getElem?_map] at hc
            cases hx : i.zero[c]? with
            | none => rw [hx] at hc; cases hc
            | some x => rw [hx] at hc; cases hc; obtain ⟨u, u1, u2, u3⟩ := z7 w S c x hx; exact ⟨u, u1, .d u3⟩⟩ hf
          have hp := run_places (P := P) (w := w) (gs := gs) (fun f hf => by
            rw [List.all_eq_true] at hall
            have := hall _ (List.mem_map_of_mem hf)
            simpa using this)
          have hparts : (parts.map fun (x : Nat × Operand) => (x.1, a.eval x.2)).toList = parts.toList.map fun p => (p.1, a.eval p.2) := by simp
          refine ⟨.agg B, ?_, .agg _ _ q2 fun i v c hv hc => ?_⟩
          · simp only [Instr.build, Sem.run_bind, zeroValue, typeInfo, run_program, Result.andThen_ok, z1, Sem.run_pure, z2, run_underlying h2, hp, hparts]
            rw [q1]
            rfl
          · obtain ⟨u, u1, u2⟩ := q3 i c hc
            rw [u1] at hv; cases hv; exact u2
      · cases h
    · cases h
  · cases h
theorem getD_range {f : Nat → Value} {n i : Nat} (h : i < n) : ((Array.range n).map f)[i]? = some (f i) := by simp [h]
theorem mul_add_lt {e s c n : Nat} (he : e < n) (hc : c < s) : e * s + c < n * s := by
  have : (e + 1) * s ≤ n * s := Nat.mul_le_mul_right s he
  rw [Nat.add_mul, Nat.one_mul] at this; omega
theorem cor_zero {t : TypeId} {i : TI} (h : Y.f t = some i) (hs : 0 < i.size) {z : Array Value} (hz : ∀ (w : World) (S : Nat → Prop) (c : Nat) x, i.zero[c]? = some x → ∃ u, z[c]? = some u ∧ u.oneCell' = true ∧ RD w S u x) (hzs : z.size = i.size) (hzl : i.zero.length = i.size) (n : Nat) :
    Cor w β S i.size ((Array.range (n * i.size)).map (z[· % z.size]!)) (List.replicate n (i.zero.map SV.d)) := by
  refine ⟨by simp, fun e el he => ?_, fun e el c sv he hc => ?_⟩
  · rw [List.getElem?_replicate] at he
    split at he
    · cases he; simp [hzl]
    · cases he
  · rw [List.getElem?_replicate] at he
    split at he
    · rename_i hen
      cases he
      rw [List.getElem?_map] at hc
      cases hx : i.zero[c]? with
      | none => rw [hx] at hc; cases hc
      | some x =>
        rw [hx] at hc; cases hc
        have hcs : c < i.size := by rw [← hzl]; exact (List.getElem?_eq_some_iff.1 hx).1
        obtain ⟨u, u1, u2, u3⟩ := hz w S c x hx
        refine ⟨u, ?_, u2, .d u3⟩
        rw [getD_range (mul_add_lt hen hcs), hzs, Nat.add_comm, Nat.add_mul_mod_self_right, Nat.mod_eq_of_lt hcs]
        rw [getElem!_def, u1]
    · cases he
theorem opNew_sound {o : Oper} {d : Nat} (hd : o.dst = some d) (hn : X.n0 ≤ 1000) (hg : Good X st a w) {st' : St} (h : opNew Y st d o.op = some st') : Does P X a w o st' := by
  obtain ⟨dst, op, type, pos, after, guard⟩ := o
  simp only at h hd
  subst hd
  unfold opNew at h
  split at h
  · -- a variable
    rename_i t
    split at h
    · rename_i i hi
      split at h
      · cases h
      · rename_i hsz
        cases h
        obtain ⟨j, z, z1, z2, z3, z4, z5, z6, z7⟩ := zero_cells hi
        unfold allocB
        split
        · rename_i hlong
          have hall : allU8 i.zero = true := by
            unfold longB at hlong
            split at hlong
            · exact (Bool.and_eq_true _ _ ▸ hlong).2
            · cases hlong
          have hrep : ∀ (e : Nat) (x : Int), (List.replicate i.size (0 : Int))[e]? = some x → x = 0 ∧ e < i.size := fun e x hx => by
            rw [List.getElem?_replicate] at hx
            split at hx
            · rename_i he; exact ⟨(Option.some.inj hx).symm, he⟩
            · cases hx
          refine ⟨_, _, ?_, .inl ⟨_, rfl, hg.newPtr d hn ⟨1, false, .row (.i .u8) (List.replicate i.size (0 : Int))⟩ z.cells t Nat.one_pos (by show (List.replicate i.size (0 : Int)).length * 1 ≤ _; rw [z5, List.length_replicate]; omega) (fun e l hl => ?_) (fun t' ht' => by cases ht') (fun β S hr e c sv hc => ?_)⟩⟩
          · simp [execOp, Instr.alloc, zeroValue, typeInfo, z1, z2, newVar, newRow]
          · have hl' : ((List.replicate i.size (0 : Int))[e]?).map (fun _ => (Ty.i IntKind.u8).size) = some l := hl
            obtain ⟨x, hx, rfl⟩ := Option.map_eq_some_iff.1 hl'
            rfl
          · have hc' : ((List.replicate i.size (0 : Int))[e]?).bind (fun x => (((Ty.i IntKind.u8).enc x)[c]?).map SV.d) = some sv := hc
            obtain ⟨x, hx, hc2⟩ := Option.bind_eq_some_iff.1 hc'
            obtain ⟨rfl, he⟩ := hrep e x hx
            cases c with
            | succ c => cases hc2
            | zero =>
              cases hc2
              obtain ⟨x, hx⟩ : ∃ x, i.zero[e]? = some x := ⟨_, List.getElem?_eq_getElem (by omega)⟩
              obtain ⟨u, u1, u2, u3⟩ := z7 w S e x hx
              have := allU8_get hall hx
              subst this
              exact ⟨u, by simpa using u1, u2, .d u3⟩
        refine ⟨_, _, ?_, .inl ⟨_, rfl, hg.newPtr d hn ⟨i.size, false, .mix (some t) [i.zero.map SV.d]⟩ z.cells t (by simp only; omega) (by simp [BC.len, z5]) (fun e l hl => ?_) (fun t' ht' => by cases ht'; exact ⟨rfl, fun _ => z5⟩) (fun β S hr e c sv hc => ?_)⟩⟩
        · simp [execOp, Instr.alloc, zeroValue, typeInfo, z1, z2, newVar, newRow]
        · cases e with
          | zero => simp [BC.lens?, z6] at hl; exact hl.symm
          | succ e => simp [BC.lens?] at hl
        · cases e with
          | zero =>
            simp [BC.cell?, List.getElem?_map] at hc
            obtain ⟨x, hx, rfl⟩ := hc
            obtain ⟨u, u1, u2, u3⟩ := z7 w S c x hx
            exact ⟨u, by simpa using u1, u2, .d u3⟩
          | succ e => simp [BC.cell?] at hc
    · cases h
  · -- a boxed value
    rename_i t x
    split at h
    · rename_i cs hcs
      split at h
      · cases h
      · rename_i hsz
        cases h
        obtain ⟨_, β0, S0, hr0⟩ := id hg
        have h0 := (ev_sound hr0 x).cells hcs
        refine ⟨_, _, ?_, .inl ⟨_, rfl, hg.newPtr d hn ⟨cs.length, false, .mix (some t) [cs]⟩ (a.eval x).cells t (by simp only; omega) (by simp [BC.len, h0.1]) (fun e l hl => ?_) (fun t' ht' => by cases ht'; exact ⟨rfl, fun _ => h0.1⟩) (fun β S hr e c sv hc => ?_)⟩⟩
        · simp [execOp, Instr.box, newVar, newRow]
        · cases e with
          | zero => simp [BC.lens?] at hl; exact hl.symm
          | succ e => simp [BC.lens?] at hl
        · cases e with
          | zero =>
            simp [BC.cell?] at hc
            obtain ⟨c1, c2⟩ := (ev_sound hr x).cells hcs
            have hlt : c < (a.eval x).cells.size := by rw [c1]; exact (List.getElem?_eq_some_iff.1 hc).1
            obtain ⟨r1, r2⟩ := c2 c _ _ (Array.getElem?_eq_getElem hlt) hc
            exact ⟨_, by simp [Array.getElem?_eq_getElem hlt], r2, r1⟩
          | succ e => simp [BC.cell?] at hc
    · cases h
  · -- a struct
    rename_i t parts
    cases hb : buildS Y st t parts.toList with
    | none => rw [hb] at h; cases h
    | some r =>
      rw [hb] at h; cases h
      obtain ⟨hdf, β, S, hr⟩ := id hg
      obtain ⟨v, v1, v2⟩ := buildS_sound (P := P) hr hb
      exact ⟨_, _, run_lift v1, .inl ⟨v, rfl, hdf, β, S, hr.put d v2⟩⟩
  · -- a slice written out
    rename_i t n parts
    split at h
    · rename_i e ht
      split at h
      · rename_i i hi
        split at h
        · cases h
        · rename_i hsz
          have hs : 0 < i.size := by omega
          have hnn : n * i.size ≤ 16777216 := by omega
          cases hf : fillEls i.size (List.replicate n (i.zero.map SV.d)) (parts.toList.map fun p => (p.1, ev st p.2)) with
          | none => rw [hf] at h; cases h
          | some els =>
            rw [hf] at h; cases h
            obtain ⟨j, z, z1, z2, z3, z4, z5, z6, z7⟩ := zero_cells hi
            obtain ⟨d', h1, h2⟩ := tdAt_some ht
            have := td_sl h2; subst this
            obtain ⟨_, β0, S0, hr0⟩ := id hg
            obtain ⟨B, q1, q2, q3⟩ := fill_els hr0 (cor_zero hi hs (z := z.cells) z7 z5 z6 n) hf
            have hlen : els.length = n := by simpa using q3
            have hparts : (parts.map fun (x : Nat × Operand) => (x.1, a.eval x.2)).toList = parts.toList.map fun p => (p.1, a.eval p.2) := by simp
            have hol : (BC.ofSV i.ty els).len = n := by rw [BC.ofSV_len, hlen]
            refine ⟨.value (.slice (some ⟨w.heap.size, 0, none⟩) (BC.ofSV i.ty els).len n), w.alloc (.cells B e), ?_, .inl ⟨_, rfl, hg.newSl d hn ⟨i.size, false, BC.ofSV i.ty els⟩ B e (0, 0) (by simp) hs n (by rw [BC.ofSV_len, q2.1]; exact Nat.le_refl _) (by rw [BC.ofSV_len, hlen]; exact Nat.le_refl _) (by rw [q2.1, hlen]; exact Nat.le_refl _) (fun x l hl => ?_) (BC.ofSV_ty _ _) (fun β S hr x c sv hc => ?_)⟩⟩
            · rw [hol]
              have hnot : ¬ 16777216 < n * i.size := by omega
              rcases Nat.eq_zero_or_pos n with h0 | h0
              · subst h0
                have hz0 : (Array.map (fun x => z.cells[x % z.cells.size]!) (Array.range (0 * i.size))) = #[] := by simp [Array.range_zero']
                rw [hz0] at q1
                simp only [execOp, Instr.buildSlice, Sem.run_bind, run_underlying h1, Result.andThen_ok, sizeOf, typeInfo, run_program, z1, Sem.run_pure, z3, Nat.zero_mul]
                simp [hparts, q1, newRow, Array.range_zero']
              · have hnz : ¬ n * i.size = 0 := by have := Nat.mul_pos h0 hs; omega
                simp only [execOp, Instr.buildSlice, Sem.run_bind, run_underlying h1, Result.andThen_ok, sizeOf, typeInfo, run_program, z1, Sem.run_pure, z3]
                simp [hnot, hnz, hparts, q1, newRow, zeroValue, typeInfo, z1, z2]
            · simp only at hl ⊢
              rw [BC.ofSV_lens] at hl
              cases he : els[x]? with
              | none => rw [he] at hl; cases hl
              | some el => rw [he] at hl; cases hl; exact q2.2.1 x el he
            · simp only at hc ⊢
              obtain ⟨el, sv', he, hc', hsub⟩ := BC.ofSV_cell _ _ _ _ _ hc
              obtain ⟨B', p1, p2, p3⟩ := fill_els hr (cor_zero hi hs (z := z.cells) z7 z5 z6 n) hf
              rw [q1] at p1; cases p1
              obtain ⟨u, u1, u2, u3⟩ := p2.2.2 x el c sv' he hc'
              exact ⟨u, u1, u2, hsub _ _ _ _ u3⟩
      · cases h
    · cases h
  · -- make
    rename_i t l c
    split at h
    · rename_i e ht
      split at h
      · rename_i i k n k' m hi hl hc
        split at h
        · rename_i ty hty
          split at h
          · rename_i zd hzd
            split at h
            · cases h
            · rename_i hcond
              cases h
              have hs : 0 < i.size := by omega
              have hnm : n = m := by omega
              subst hnm
              have hn0 : 0 ≤ n := by omega
              obtain ⟨j, z, z1, z2, z3, z4, z5, z6, z7⟩ := zero_cells hi
              obtain ⟨d', h1, h2⟩ := tdAt_some ht
              have := td_sl h2; subst this
              obtain ⟨_, β0, S0, hr0⟩ := id hg
              have e1 := ev_sound hr0 l
              rw [hl] at e1
              have e2 := ev_sound hr0 c
              rw [hc] at e2
              have hb1 : i.bytes * n.toNat ≤ 281474976710656 := by omega
              have hb2 : 1 * n.toNat ≤ i.bytes * n.toNat := Nat.mul_le_mul_right _ (by omega)
              have hbI : (j.bytes : Int) * n ≤ 281474976710656 := by
                have : ((i.bytes * n.toNat : Nat) : Int) ≤ 281474976710656 := by omega
                rw [Int.natCast_mul, Int.toNat_of_nonneg hn0] at this
                rw [z4]; exact this
              have hrun := run_make (P := P) w t e j z h1 z1 z2 k k' n n hn0 (Int.le_refl _) hbI (by omega)
              have hcor := fun (β : Nat → Option BA) (S : Nat → Prop) => cor_zero (w := w) (β := β) (S := S) hi hs (z := z.cells) z7 z5 z6 n.toNat
              have hsz : (madeCells z.cells (n.toNat * i.size)).size = n.toNat * i.size := size_madeCells _ _
              rw [z3] at hrun
              obtain ⟨us, g1, g2, g3⟩ := dec_spec _ _ _ _ hzd
              rw [List.append_nil] at g1; subst g1
              have hts : ty.size = i.size := by rw [← g2]; simp [z6]
              have hrl : (BC.row ty (List.replicate n.toNat zd)).len = n.toNat := by simp [BC.len]
              refine ⟨.value (.slice (some ⟨w.heap.size, 0, none⟩) (BC.row ty (List.replicate n.toNat zd)).len n.toNat), _, run_lift (by rw [e1.inv_i, e2.inv_i, hrl]; exact hrun), .inl ⟨_, rfl, hg.newSl d hn ⟨i.size, false, .row ty (List.replicate n.toNat zd)⟩ _ e (0, 0) (by simp) hs n.toNat (by rw [hsz, hrl]; exact Nat.le_refl _) (by rw [hrl]; exact Nat.le_refl _) (by rw [hsz]; exact Nat.le_refl _) (fun x l hl => ?_) (BC.ty_row (dec_notY hzd)) (fun β S hr x c sv hc => ?_)⟩⟩
              · simp only [BC.lens?, List.getElem?_replicate] at hl
                split at hl
                · simp at hl; rw [← hl, hts]
                · cases hl
              · simp only [BC.cell?, List.getElem?_replicate] at hc
                split at hc
                · rename_i hx
                  simp only [Option.bind_some] at hc
                  cases hy : (ty.enc zd)[c]? with
                  | none => rw [hy] at hc; cases hc
                  | some y =>
                    rw [hy] at hc; cases hc
                    obtain ⟨c', k1, k2, _⟩ := g3 c y hy
                    obtain ⟨u, u1, u2, u3⟩ := (hcor β S).2.2 x (i.zero.map SV.d) c c' (by rw [List.getElem?_replicate, if_pos hx]) k1
                    exact ⟨u, u1, u2, k2 _ _ _ _ u3⟩
                · cases hc
          · cases h
        · cases h
      · cases h
    · cases h
  · -- bytes
    rename_i src dst x
    split at h
    · rename_i e l hs ht hx
      split at h
      · rename_i he
        cases h
        obtain ⟨d1, s1, s2⟩ := tdAt_some hs
        have := td_str s2; subst this
        obtain ⟨d2, t1, t2⟩ := tdAt_some ht
        have := td_sl t2; subst this
        obtain ⟨d3, e1, e2⟩ := tdAt_some he
        have := td_int e2; subst this
        obtain ⟨_, β0, S0, hr0⟩ := id hg
        have ex := ev_sound hr0 x
        rw [hx] at ex
        have hrun := run_bytes_of_string (P := P) w src dst e ⟨l.toArray⟩ s1 t1 e1
        have hsize : (ByteArray.mk l.toArray).size = l.length := by simp [ByteArray.size]
        rw [hsize] at hrun
        generalize hcap : grownCap w l.length 0 e = cap at hrun
        have hge : l.length ≤ cap := by rw [← hcap]; exact grownCap_ge w _ _ _
        have hbs : (bytesRow ⟨l.toArray⟩ cap).size = cap := by simp [bytesRow, hsize]; omega
        have hg' : Good X st a w.drew := hg.drew (w.drawn + 1)
        have hol : (ofB l).length = l.length := by simp [ofB]
        have hlen : (BC.row (.i .u8) (ofB l)).len = l.length := hol
        refine ⟨.value (.slice (some ⟨w.heap.size, 0, none⟩) (BC.row (.i .u8) (ofB l)).len cap), _, run_lift (by rw [ex.inv_str, hlen]; exact hrun), .inl ⟨_, rfl, hg'.newSl d hn ⟨1, false, .row (.i .u8) (ofB l)⟩ _ e _ (fun i hi => ?_) (by simp) cap (by rw [hbs, hlen]; simpa using hge) (by rw [hlen]; exact hge) (by rw [hbs]; simp) (fun x l' hl => ?_) rfl (fun β S hr x c sv hc => ?_)⟩⟩
        · simp; intro h; omega
        · simp only [BC.lens?] at hl
          cases hb : (ofB l)[x]? with
          | none => erw [hb] at hl; cases hl
          | some b => erw [hb] at hl; cases hl; rfl
        · have hc' : ((ofB l)[x]?).bind (fun y => ([D.i .u8 y][c]?).map SV.d) = some sv := hc
          simp only [ofB, List.getElem?_map] at hc'
          cases hb : l[x]? with
          | none => rw [hb] at hc'; cases hc'
          | some b =>
            rw [hb] at hc'
            cases c with
            | zero =>
              simp at hc'; subst hc'
              have hlt : x < l.length := (List.getElem?_eq_some_iff.1 hb).1
              have hbx : l[x] = b := (List.getElem?_eq_some_iff.1 hb).2
              refine ⟨_, ?_, rfl, .d (.i _ _)⟩
              rw [Nat.mul_one, Nat.add_zero, bytesRow_at ⟨l.toArray⟩ cap x (by simpa using hlt)]
              simp [hbx]
            | succ c => simp at hc'
      · cases h
    · cases h
  · -- a map
    rename_i t hint
    split at h
    · rename_i hh
      split at h
      · rename_i kt e ht
        split at h
        · rename_i i hi
          split at h
          · rename_i T hT
            split at h
            · cases h
              obtain ⟨d', h1, h2⟩ := tdAt_some ht
              have := td_map h2; subst this
              refine ⟨_, _, ?_, .inl ⟨_, rfl, hg.newMap d hn T⟩⟩
              cases hint with
              | none => simp [execOp, Instr.makeMap]
              | some o =>
                match o, hh with
                | .const (.int q n), _ => simp [execOp, Instr.makeMap, run_underlying h1, asInt, asIntOf, Act.eval]
            · cases h
          · cases h
        · cases h
      · cases h
    · cases h
  · cases h
end
end Go.U
