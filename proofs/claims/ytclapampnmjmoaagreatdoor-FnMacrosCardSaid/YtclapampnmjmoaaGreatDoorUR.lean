/- A part of the proof. No condition. -/
import Derived.Test.YtclapampnmjmoaaGreatDoorUS
import Derived.Lib.UnsafeStr
set_option linter.unusedVariables false
set_option linter.unusedSimpArgs false
set_option linter.unusedSectionVars false
namespace Go.U
open Go
def opFrz {P : Program} (Y : TT P) (st : St) (d : Nat) (rty : TypeId) : Op → Option St
  | .buildSlice t n parts => match tdAt Y t with
    | some (.sl e) => match Y.f e with
      | some i => match i.ty with
        | some ty => if i.size = 0 ∨ 16777216 < n * i.size ∨ ty.size ≠ i.size then none else
          match fillEls i.size (List.replicate n (i.zero.map SV.d)) (parts.toList.map fun p => (p.1, ev st p.2)) with
          | some els => match decL ty els with
            | some xs => some (st.put (some d) (.d (.rov ty xs)))
            | none => none
          | none => none
        | none => if i.size ≠ 1 ∨ 16777216 < n then none else
          match fillEls 1 (List.replicate n (i.zero.map SV.d)) (parts.toList.map fun p => (p.1, ev st p.2)) with
          | some els => some (st.put (some d) (.clo 1000000007 (els.map fun l => l.headD .undef)))
          | none => none
      | none => none
    | _ => none
  | .call { callee := .builtin .unsafeSliceData, args, .. } =>
    match args.toList, tdAt Y rty with
    | [x], some (.ptr _) => match ev st x with
      | .bb b => match st.hp b with
        | some ⟨_, _, .row (.y _) xs⟩ => some (st.put (some d) (if 0 < List.length (α := Int) xs then .ptr b 0 0 else .d .anyp))
        | _ => none
      | _ => none
    | _, _ => none
  | .call { callee := .builtin .unsafeString, args, argTypes } =>
    match args.toList, argTypes.toList with
    | [p, n], [pt, _] => match tdAt Y pt, ev st p, ev st n with
      | some (.ptr e), .ptr b 0 0, .d (.i .i64 m) => match st.hp b, szOf Y e with
        | some ⟨1, _, .row (.y T) xs⟩, some 1 => if T = e ∧ m = (List.length (α := Int) xs : Int) ∧ 0 < List.length (α := Int) xs ∧ List.length (α := Int) xs ≤ maxSum then some (st.put (some d) (.d (.str (toB xs)))) else none
        | _, _ => none
      | some (.ptr _), .d .anyp, .d (.i .i64 m) => if m = 0 then some (st.put (some d) (.d (.str []))) else none
      | _, _, _ => none
    | _, _ => none
  | .makeSlice t l c => match tdAt Y t with
    | some (.sl e) => match Y.f e, ev st l, ev st c with
      | some i, .d (.i _ n), .d (.i _ m) => match i.ty with
        | some ty => match dec ty (i.zero.map SV.d) with
          | some (z, []) => if i.size = 0 ∨ i.bytes = 0 ∨ n ≠ m ∨ n < 0 ∨ 281474976710656 < i.bytes * n.toNat then none else some (st.put (some d) (.d (.rov ty (List.replicate n.toNat z))))
          | _ => none
        | none => none
      | _, _, _ => none
    | _ => none
  | _ => none
section
variable {P : Program} [Gl P] {Y : TT P} {T : Tab} {X : Ctx P} {st : St} {a : Act} {tmps : Array Value} {w : World} {β : Nat → Option BA} {S : Nat → Prop}
theorem hset_id' {h : Nat → Option Blk} {b : Nat} {k : Blk} (hb : h b = some k) : hset h b k = h := hset_id hb
theorem Rel.stay (h : Rel X st tmps w β S) (o : Obj) : Rel X st tmps (w.alloc o) β (fun k => S k ∨ k = w.heap.size) := by
  have hold : ∀ k, k < w.heap.size → (w.alloc o).heap[k]? = w.heap[k]? := fun k hk => by
    show (w.heap.push o)[k]? = _
    rw [Array.getElem?_push, if_neg (by omega)]
  have hS : ∀ k, S k → (S k ∨ k = w.heap.size) ∧ (w.alloc o).heap[k]? = w.heap[k]? := fun k hk => ⟨.inl hk, hold k (h.sbd k hk)⟩
  have hsz : (w.alloc o).heap.size = w.heap.size + 1 := by show (w.heap.push o).size = _; simp
  refine ⟨h.size, fun t v sv h1 h2 => (h.fr t v sv h1 h2).mono hS (by omega) fun _ _ => rfl, fun b k hb => ?_, h.inj, fun b k ba h1 h2 => ⟨?_, (h.excl b k ba h1 h2).2⟩, fun k hk => ?_, fun k hk ho => (hold k (Nat.lt_of_lt_of_le hk h.grow)).trans (h.old k hk ho), h.os, h.tape, h.out, by have := h.grow; omega, fun k hk hlt => ?_, fun k hk => .inl (h.s1 k hk), h.fix⟩
  · rcases h.hp b k hb with (h1 | hm) | ⟨ba, arr, ty, fz, h1, h2, h3, h4, h5, h6, h7, h8, h9⟩
    · exact .inl (.inl h1)
    · exact .inl (.inr (hm.to (fun _ _ e => e) rfl rfl (fun ba h1 => hold _ (hm.lt h1)) hS (by omega)))
    · refine .inr ⟨ba, arr, ty, fz, h1, h2, h3, ?_, h5, h6, h7, h8, fun e c sv hc => ?_⟩
      · rw [hold _ (Array.getElem?_eq_some_iff.1 h4).1]; exact h4
      · obtain ⟨u, u1, u2, u3⟩ := h9 e c sv hc
        exact ⟨u, u1, u2, u3.mono hS (by omega) fun _ _ => rfl⟩
  · rintro (h3 | h3)
    · exact (h.excl b k ba h1 h2).1 h3
    · have := HK.lt (h.hp b k h1) h2; omega
  · rcases hk with hk | rfl
    · have := h.sbd k hk; omega
    · omega
  · rcases hk with hk | rfl
    · exact h.s0 k hk hlt
    · have := h.grow; omega
theorem run_loadInts : ∀ (l : List Int) (a : Addr) (acc : ByteArray), (∀ j x, l[j]? = some x → w.cell? (a.add j) = some (.int .u8 x)) →
    (loadBytes a acc l.length).run P w = .ok ⟨acc.data ++ (toB l).toArray⟩ w
  | [], a, acc, _ => by simp [loadBytes, toB]
  | x :: l, a, acc, h => by
    have h0 : w.cell? a = some (.int .u8 x) := by
      have := h 0 x rfl
      simpa [Addr.add] using this
    have ih := run_loadInts l (a.add 1) (acc.push x.toNat.toUInt8) (fun j y hy => by
      have := h (j + 1) y (by simpa using hy)
      have e : (a.add 1).add j = a.add (j + 1) := by
        unfold Addr.add
        by_cases hj : j = 0
        · subst hj; simp
        · simp [hj]; omega
      rw [e]; exact this)
    simp only [List.length_cons, loadBytes, Sem.run_bind, run_load, h0, Result.andThen]
    rw [ih]
    congr 1
    apply ByteArray.ext
    simp [ByteArray.push, toB]
theorem run_unsafeString_ints {pt it ty e : TypeId} (hp : P.underlying pt = some (.pointer e)) (hc : P.cellsOf e = 1) {g cells : Nat} (hsh : w.shape? g = some (e, cells)) {l : List Int} (h0 : 0 < l.length) (hn : l.length ≤ cells) (h63 : l.length ≤ 9223372036854775807)
    (hcell : ∀ j x, l[j]? = some x → w.cell? ((⟨g, 0, none⟩ : Addr).add j) = some (.int .u8 x)) :
    (Builtin.unsafeString_ #[pt, it] ty #[.pointer (some ⟨g, 0, none⟩), .int .i64 l.length]).run P w = .ok (.string ⟨(toB l).toArray⟩) (w.freeze ⟨g, 0, none⟩ l.length) := by
  have hl : ¬ l = [] := fun h => by rw [h] at h0; simp at h0
  have hlb := run_loadInts (P := P) (w := w) l ⟨g, 0, none⟩ .empty hcell
  have hlies := Lib.liesAt_bytes (P := P) hc (cells / P.cellsOf e) l.length (by rw [hc]; simpa using hn)
  have h63' : ¬ (9223372036854775807 : Int) < (l.length : Int) := by omega
  have hdef : Builtin.unsafeString_ #[pt, it] ty #[.pointer (some ⟨g, 0, none⟩), .int .i64 l.length] =
      (do
        let n ← asInt (.int .i64 l.length)
        if n < 0 then runtimePanic (.error "unsafe.String: len out of range")
        if n > IntKind.i64.max then unsupported (.unsafePointer "String: a length above the largest int")
        if n = 0 then pure (.string .empty)
        else if ← variablesAt ⟨g, 0, none⟩ (← elemOf pt) n.toNat then do
          let s ← loadBytes ⟨g, 0, none⟩ .empty n.toNat
          freeze ⟨g, 0, none⟩ n.toNat
          pure (.string s)
        else unsupported (.unsafePointer "String: not so many bytes at ptr")) := rfl
  rw [hdef]
  have hmax : IntKind.i64.max = 9223372036854775807 := rfl
  have hneg : ¬ (l.length : Int) < 0 := by omega
  simp [asInt, asIntOf, hmax, h63', hneg, hl, variablesAt, hsh, elemOf, run_underlying hp, hlies, hlb]
theorem Rel.frozen (h : Rel X st tmps w β S) {b : Nat} {s : Nat} {mv : Bool} {T' : Nat} {xs : List Int} (hb : st.hp b = some ⟨s, mv, .row (.y T') xs⟩) {ba : BA} (hba : β b = some ba) : Rel X st tmps (w.freeze ⟨ba.b, 0, none⟩ xs.length) β S := by
  by_cases h0 : xs.length = 0
  · unfold World.freeze; rw [if_pos h0]; exact h
  have hother : ∀ j, j ≠ ba.b → (w.freeze ⟨ba.b, 0, none⟩ xs.length).heap[j]? = w.heap[j]? := fun j hj => by
    unfold World.freeze; rw [if_neg h0]
    simp only [Array.getElem?_modify]
    rw [if_neg (fun e => hj e.symm)]
  have hsz : (w.freeze ⟨ba.b, 0, none⟩ xs.length).heap.size = w.heap.size := by unfold World.freeze; rw [if_neg h0]; simp
  have hw0 : (w.freeze ⟨ba.b, 0, none⟩ xs.length).os = w.os ∧ (w.freeze ⟨ba.b, 0, none⟩ xs.length).tape = w.tape ∧ (w.freeze ⟨ba.b, 0, none⟩ xs.length).output = w.output := by
    unfold World.freeze; rw [if_neg h0]; exact ⟨rfl, rfl, rfl⟩
  have hS : ∀ k, S k → S k ∧ (w.freeze ⟨ba.b, 0, none⟩ xs.length).heap[k]? = w.heap[k]? := fun k hk => ⟨hk, hother k fun e => (h.excl b _ ba hb hba).1 (e ▸ hk)⟩
  have := h.sto (w' := w.freeze ⟨ba.b, 0, none⟩ xs.length) b _ ⟨s, mv, .row (.y T') xs⟩ hb ba hba hw0.1 hw0.2.1 hw0.2.2 (by omega) (fun j _ hj => hother j hj) ?_ rfl
  · rw [hset_id' hb] at this; exact this
  · rcases h.hp b _ hb with (⟨_, hno⟩ | ⟨_, _, _, _, _, hm, _⟩) | ⟨ba', arr, ty, fz, g1, g2, g3, g4, g5, g6, g7, g8, g9⟩
    · rw [hba] at hno; cases hno
    · cases hm
    · rw [hba] at g1; cases g1
      obtain ⟨e1, e2, _⟩ := g2.2.2 (T', false) rfl
      have hlen1 : xs.length * 1 ≤ xs.length * s := Nat.mul_le_mul_left _ g3
      refine .inr ⟨ba, arr, ty, (if fz.1 == fz.2 then (0, 0 + xs.length) else (min fz.1 0, max fz.2 (0 + xs.length))), hba, g2, g3, ?_, ?_, g6, g7, g8, fun e c sv hc => let ⟨u, u1, u2, u3⟩ := g9 e c sv hc; ⟨u, u1, u2, u3.mono hS (by omega) fun _ _ => rfl⟩⟩
      · unfold World.freeze; rw [if_neg h0]
        simp only [Array.getElem?_modify, if_true, g4, Option.map_some]
      · have hy := g5.y ⟨T', rfl⟩
        have key : ∀ hi, hi ≤ List.length (α := Int) xs * s → FzOk ⟨s, mv, .row (.y T') xs⟩ ba.o (0, hi) arr.size := fun hi hhi => ⟨fun i _ hf => ⟨⟨T', rfl⟩, by
            simp only [Bool.and_eq_true, decide_eq_true_eq] at hf
            show i < ba.o + List.length (α := Int) xs * s
            omega⟩, fun _ => .inr ⟨rfl, by
            show hi ≤ ba.o + List.length (α := Int) xs * s
            omega⟩⟩
        by_cases heq : (fz.1 == fz.2) = true
        · rw [if_pos heq]; exact key _ (by omega)
        · rw [if_neg heq, Nat.min_zero]
          refine key _ ?_
          have hne : fz.1 ≠ fz.2 := by simpa using heq
          rcases hy with hy | ⟨_, hy⟩
          · exact absurd hy hne
          · have hy' : fz.2 ≤ ba.o + List.length (α := Int) xs * s := hy
            have e2' : ba.o = 0 := e2
            omega
theorem opFrz_sound {o : Oper} {d : Nat} (hd : o.dst = some d) (hg : Good X st a w) {st' : St} (h : opFrz Y st d o.type o.op = some st') : Does P X a w o st' := by
  obtain ⟨dst, op, type, pos, after, guard⟩ := o
  simp only at h hd
  subst hd
  unfold opFrz at h
  split at h
  case h_5 => cases h
  case h_4 =>
    rename_i t l c
    split at h
    case h_2 => cases h
    rename_i e ht
    split at h
    case h_2 => cases h
    rename_i i k n k' m hi hl hc
    split at h
    case h_2 => cases h
    rename_i ty hty
    split at h
    case h_2 => cases h
    rename_i zd hzd
    split at h
    · cases h
    rename_i hcond
    cases h
    have hs : 0 < i.size := by omega
    have hnm : n = m := by omega
    subst hnm
    have hn0 : 0 ≤ n := by omega
    obtain ⟨j, z, z1, z2, z3, z4, z5, z6, z7⟩ := zero_cells hi
    obtain ⟨d', h1, h2⟩ := tdAt_some ht
    have := td_sl h2; subst this
    obtain ⟨hdf, β, S, hr⟩ := hg
    have e1 := ev_sound hr l
    rw [hl] at e1
    have e2 := ev_sound hr c
    rw [hc] at e2
    have hb1 : i.bytes * n.toNat ≤ 281474976710656 := by omega
    have hb2 : 1 * n.toNat ≤ i.bytes * n.toNat := Nat.mul_le_mul_right _ (by omega)
    have hbI : (j.bytes : Int) * n ≤ 281474976710656 := by
      have : ((i.bytes * n.toNat : Nat) : Int) ≤ 281474976710656 := by omega
      rw [Int.natCast_mul, Int.toNat_of_nonneg hn0] at this
      rw [z4]; exact this
    have hrun := run_make (P := P) w t e j z h1 z1 z2 k k' n n hn0 (Int.le_refl _) hbI (by omega)
    have hcor := cor_zero (w := w) (β := β) (S := S) hi hs (z := z.cells) z7 z5 z6 n.toNat
    rw [z3] at hrun
    obtain ⟨us, g1, g2, g3⟩ := dec_spec _ _ _ _ hzd
    rw [List.append_nil] at g1; subst g1
    have hts : ty.size = i.size := by rw [← g2]; simp [z6]
    refine ⟨.value (.slice (some ⟨w.heap.size, 0, none⟩) n.toNat n.toNat), _, run_lift (by rw [e1.inv_i, e2.inv_i]; exact hrun), .inl ⟨_, rfl, hdf, β, _, (hr.stay _).put d (.d ?_)⟩⟩
    by_cases hx : n.toNat = 0
    · rw [hx]; exact .rov0 _ _ _
    · have hwa : ∀ (B : Array Value) k, (w.alloc (.cells B e)).cell? ⟨w.heap.size, k, none⟩ = B[k]? := fun B k => by
        have hh : (w.alloc (.cells B e)).heap[w.heap.size]? = some (.cells B e) := by show (w.heap.push _)[w.heap.size]? = _; simp
        unfold World.cell?; rw [hh]; rfl
      have hcell : ∀ (e' : Nat) (el : ty.den) (j' : Nat) (x : D), (List.replicate n.toNat zd)[e']? = some el → (ty.enc el)[j']? = some x → ∃ u, (w.alloc (.cells (madeCells z.cells (n.toNat * i.size)) e)).cell? ⟨w.heap.size, 0 + e' * ty.size + j', none⟩ = some u ∧ RD w S u x := fun e' el j' x h3 h4 => by
        rw [List.getElem?_replicate] at h3
        split at h3
        case isFalse => cases h3
        rename_i hlt
        cases h3
        obtain ⟨c', k1, k2, _⟩ := g3 j' x h4
        obtain ⟨u, u1, u2, u3⟩ := hcor.2.2 e' (i.zero.map SV.d) j' c' (by rw [List.getElem?_replicate, if_pos hlt]) k1
        exact ⟨u, by rw [hwa, hts, Nat.zero_add]; exact u1, (k2 _ _ _ _ u3).inv_d⟩
      have hne : List.replicate n.toNat zd ≠ [] := fun e => hx (by simpa using congrArg List.length e)
      have := RD.rov (w := w.alloc (.cells (madeCells z.cells (n.toNat * i.size)) e)) (S := fun k => S k ∨ k = w.heap.size) w.heap.size 0 n.toNat ty (List.replicate n.toNat zd) (fun e' j' => ((w.alloc (.cells (madeCells z.cells (n.toNat * i.size)) e)).cell? ⟨w.heap.size, 0 + e' * ty.size + j', none⟩).getD Go.undef) (.inr rfl) (by simp) hne (by simp)
        (fun e' el j' x h3 h4 => by obtain ⟨u, u1, _⟩ := hcell e' el j' x h3 h4; rw [u1]; rfl)
        (fun e' el j' x h3 h4 => by
          obtain ⟨u, u1, u2⟩ := hcell e' el j' x h3 h4
          rw [u1]
          exact u2.mono (fun k hk => ⟨.inl hk, by show (w.heap.push _)[k]? = _; rw [Array.getElem?_push, if_neg (by have := hr.sbd k hk; omega)]⟩) (by simp))
      rw [List.length_replicate] at this
      exact this
  case h_2 =>
    rename_i args argTypes
    split at h
    case h_2 => cases h
    rename_i x e hargs hty
    split at h
    case h_2 => cases h
    rename_i b hev
    split at h
    case h_2 => cases h
    rename_i s mv T' xs hk
    cases h
    obtain ⟨hdf, β, S, hr⟩ := hg
    obtain ⟨d', h1, h2⟩ := tdAt_some hty
    have := td_ptr h2; subst this
    have hx := ev_sound hr x
    rw [hev] at hx
    have hargs' : args.map a.eval = #[a.eval x] := by
      have : args = #[x] := by cases args; simp_all
      rw [this]; simp
    have fin : ∀ {v w'}, (Builtin.unsafeSliceData_ argTypes type #[a.eval x]).run P w = .ok v w' → Good X (st.put (some d) (if 0 < List.length (α := Int) xs then .ptr b 0 0 else .d .anyp)) (a.put (some d) v) w' →
        Does P X a w ⟨some d, .call { callee := .builtin .unsafeSliceData, args, argTypes }, type, pos, after, guard⟩ (st.put (some d) (if 0 < List.length (α := Int) xs then .ptr b 0 0 else .d .anyp)) := fun hrun hgood => by
      refine ⟨.value _, _, ?_, .inl ⟨_, rfl, hgood⟩⟩
      refine run_lift ?_
      show (Builtin.unsafeSliceData_ argTypes type (Array.map a.eval args)).run P w = _
      rw [hargs']; exact hrun
    cases hu : a.eval x with
    | slice A n c =>
      rw [hu] at hx fin
      cases hx with
      | bb0 b hb =>
        have h0 : xs = [] := List.length_eq_zero_iff.1 ((hr.hp b _ hk).zero hb)
        subst h0
        exact fin (Lib.run_unsafeSliceData_nil w _ _ _ _) ⟨hdf, β, S, hr.put d (.d (.anyp _))⟩
      | bb b c ba hb hc hn =>
        obtain ⟨hs1, hl⟩ := (hr.hp b _ hk).facts hb
        simp only [BC.len] at hl
        have hl' : ba.len = List.length (α := Int) xs := hl
        by_cases hpos : 0 < List.length (α := Int) xs
        · simp only [if_pos hpos] at fin ⊢
          refine fin (Lib.run_unsafeSliceData_row w _ _ _ _ _ (by omega)) ⟨hdf, β, S, hr.put d ?_⟩
          have := RS.ptr (w := w) (S := S) b 0 0 ba hb
          simpa using this
        · simp only [if_neg hpos] at fin ⊢
          by_cases hc0 : c = 0
          · subst hc0
            rcases hr.hp b _ hk with (⟨_, hno⟩ | ⟨_, _, _, _, _, hm, _⟩) | ⟨ba', arr, ty, fz, g1, g2, g3, g4, g5⟩
            · rw [hb] at hno; cases hno
            · cases hm
            · rw [hb] at g1; cases g1
              have hsh : w.shape? ba.b = some (ty, arr.size) := by simp [World.shape?, g4]
              exact fin (Lib.run_unsafeSliceData_zero w _ _ _ h1 _ _ _ hsh) ⟨hdf, β, _, (hr.stay _).put d (.d (.anyp _))⟩
          · exact fin (Lib.run_unsafeSliceData_row w _ _ _ _ _ hc0) ⟨hdf, β, S, hr.put d (.d (.anyp _))⟩
    | _ => rw [hu] at hx; cases hx
  case h_3 =>
    rename_i args argTypes
    split at h
    case h_2 => cases h
    rename_i p n pt it hargs hats
    have hargs' : args.map a.eval = #[a.eval p, a.eval n] := by
      have : args = #[p, n] := by cases args; simp_all
      rw [this]; simp
    have hats' : argTypes = #[pt, it] := by cases argTypes; simp_all
    subst hats'
    obtain ⟨hdf, β, S, hr⟩ := hg
    have hp := ev_sound hr p
    have hn := ev_sound hr n
    have fin : ∀ {v w' st2}, (Builtin.unsafeString_ #[pt, it] type #[a.eval p, a.eval n]).run P w = .ok v w' → Good X st2 (a.put (some d) v) w' →
        Does P X a w ⟨some d, .call { callee := .builtin .unsafeString, args, argTypes := #[pt, it] }, type, pos, after, guard⟩ st2 := fun hrun hgood => by
      refine ⟨.value _, _, ?_, .inl ⟨_, rfl, hgood⟩⟩
      refine run_lift ?_
      show (Builtin.unsafeString_ #[pt, it] type (Array.map a.eval args)).run P w = _
      rw [hargs']; exact hrun
    split at h
    · rename_i e b m hpt hep hen
      split at h
      · rename_i mv T' xs hk hsz
        split at h
        · rename_i hc
          obtain ⟨rfl, rfl, hpos, hmax⟩ := hc
          cases h
          rw [hep] at hp
          rw [hen] at hn
          obtain ⟨d', h1, h2⟩ := tdAt_some hpt
          have := td_ptr h2; subst this
          rw [hn.inv_i] at fin
          cases hu : a.eval p with
          | pointer q =>
            rw [hu] at hp fin
            cases hp with
            | ptr b e c ba hb =>
              obtain ⟨g1, g2, g3, g4⟩ := (hr.hp b _ hk).row hb
              rcases hr.hp b _ hk with (⟨_, hno⟩ | ⟨_, _, _, _, _, hm, _⟩) | ⟨ba', arr, ty, fz, f1, f2, f3, f4, f5, f6, f7, f8, f9⟩
              · rw [hb] at hno; cases hno
              · cases hm
              · rw [hb] at f1; cases f1
                obtain ⟨e1, e2, _⟩ := f2.2.2 (_, false) rfl
                simp only at e1 e2
                subst e1
                have hsh : w.shape? ba.b = some (ty, arr.size) := by simp [World.shape?, f4]
                obtain ⟨j, j1, j2⟩ := szOf_some hsz
                have hco : P.cellsOf ty = 1 := by simp [Program.cellsOf, j1, j2]
                simp only [BC.len, Nat.mul_one] at f7
                have f7' : ba.o + List.length (α := Int) xs ≤ ba.n := f7
                have hrun := run_unsafeString_ints (P := P) (w := w) (it := it) (ty := type) h1 hco hsh hpos (by omega) (by unfold maxSum at hmax; exact hmax) (fun j x hj => by
                  obtain ⟨u, u1, u2⟩ := g4 j [.i .u8 x] 0 (.i .u8 x) (by rw [List.getElem?_map]; exact congrArg (Option.map _) hj) rfl
                  rw [u2.inv_i] at u1
                  have e2' : ba.o = 0 := e2
                  have ha : (⟨ba.b, 0, none⟩ : Addr).add j = ⟨ba.b, ba.o + j * 1 + 0, none⟩ := by
                    unfold Addr.add
                    by_cases hj0 : j = 0
                    · subst hj0; simp [e2']
                    · simp [hj0, e2']
                  rw [ha]; exact u1)
                refine fin ?_ ⟨hdf, β, S, (hr.frozen hk hb).put d (.d (.str _))⟩
                rw [e2]
                simpa using hrun
          | _ => rw [hu] at hp; cases hp
        · cases h
      · cases h
    · rename_i e m hpt hep hen
      split at h
      · rename_i hm
        subst hm
        cases h
        rw [hep] at hp
        rw [hen] at hn
        rw [hn.inv_i] at fin
        cases hu : a.eval p with
        | pointer q =>
          rw [hu] at fin
          exact fin (Lib.run_unsafeString_none w _ _ _ _) ⟨hdf, β, S, hr.put d (.d (.str []))⟩
        | _ => rw [hu] at hp; cases hp.inv_d
      · cases h
    · cases h
  rename_i t n parts
  split at h
  case h_2 => cases h
  rename_i e ht
  split at h
  case h_2 => cases h
  rename_i i hi
  split at h
  case h_2 =>
    rename_i hty
    split at h
    · cases h
    rename_i hcond
    have hs1 : i.size = 1 := by omega
    have hs : 0 < i.size := by omega
    split at h
    case h_2 => cases h
    rename_i els hf
    cases h
    obtain ⟨j, z, z1, z2, z3, z4, z5, z6, z7⟩ := zero_cells hi
    obtain ⟨d', h1, h2⟩ := tdAt_some ht
    have := td_sl h2; subst this
    obtain ⟨hdf, β, S, hr⟩ := hg
    rw [← hs1] at hf
    obtain ⟨B, q1, q2, q3⟩ := fill_els hr (cor_zero hi hs (z := z.cells) z7 z5 z6 n) hf
    have hlen : els.length = n := by simpa using q3
    have hparts : (parts.map fun (x : Nat × Operand) => (x.1, a.eval x.2)).toList = parts.toList.map fun p => (p.1, a.eval p.2) := by simp
    have hwa : ∀ k, (w.alloc (.cells B e)).cell? ⟨w.heap.size, k, none⟩ = B[k]? := fun k => by
      have hh : (w.alloc (.cells B e)).heap[w.heap.size]? = some (.cells B e) := by show (w.heap.push _)[w.heap.size]? = _; simp
      unfold World.cell?; rw [hh]; rfl
    have hcell : ∀ (k : Nat) x, (els.map fun l => l.headD .undef)[k]? = some x → ∃ u, (w.alloc (.cells B e)).cell? ⟨w.heap.size, 0 + k, none⟩ = some u ∧ RS w β S u x := fun k x hx => by
      rw [List.getElem?_map] at hx
      cases hk : els[k]? with
      | none => rw [hk] at hx; cases hx
      | some l =>
        rw [hk] at hx
        have hlt : k < els.length := (List.getElem?_eq_some_iff.1 hk).1
        have hl1 : l.length = 1 := (q2.2.1 k l hk).trans hs1
        match l, hl1, hx with
        | [y], _, hx =>
          simp at hx
          subst hx
          obtain ⟨u, v1, _, v3⟩ := q2.2.2 k [y] 0 y hk rfl
          rw [hs1, Nat.mul_one, Nat.add_zero] at v1
          exact ⟨u, by rw [hwa, Nat.zero_add]; exact v1, v3⟩
    refine ⟨.value (.slice (some ⟨w.heap.size, 0, none⟩) n n), w.alloc (.cells B e), ?_, .inl ⟨_, rfl, hdf, β, _, (hr.stay _).put d ?_⟩⟩
    · have hnot : ¬ 16777216 < n * i.size := by rw [hs1]; omega
      rcases Nat.eq_zero_or_pos n with h0 | h0
      · subst h0
        have hz0 : (Array.map (fun x => z.cells[x % z.cells.size]!) (Array.range (0 * i.size))) = #[] := by simp [Array.range_zero']
        rw [hz0] at q1
        simp only [execOp, Instr.buildSlice, Sem.run_bind, run_underlying h1, Result.andThen_ok, sizeOf, typeInfo, run_program, z1, Sem.run_pure, z3, Nat.zero_mul]
        simp [hparts, q1, newRow, Array.range_zero']
      · have hnz : ¬ n * i.size = 0 := by have := Nat.mul_pos h0 hs; omega
        simp only [execOp, Instr.buildSlice, Sem.run_bind, run_underlying h1, Result.andThen_ok, sizeOf, typeInfo, run_program, z1, Sem.run_pure, z3]
        simp [hnot, hnz, hparts, q1, newRow, zeroValue, typeInfo, z1, z2]
    · refine RS.fsl w.heap.size 0 n n _ (fun k => ((w.alloc (.cells B e)).cell? ⟨w.heap.size, 0 + k, none⟩).getD Go.undef) (.inr rfl) (by simp) (by rw [List.length_map, hlen]) (Nat.le_refl _) (fun k x hx => ?_) (fun k x hx => ?_)
      · obtain ⟨u, u1, _⟩ := hcell k x hx; rw [u1]; rfl
      · obtain ⟨u, u1, u2⟩ := hcell k x hx
        rw [u1]
        exact u2.mono (fun k hk => ⟨.inl hk, by show (w.heap.push _)[k]? = _; rw [Array.getElem?_push, if_neg (by have := hr.sbd k hk; omega)]⟩) (by simp) fun _ _ => rfl
  rename_i ty hty
  split at h
  · cases h
  rename_i hcond
  have hs : 0 < i.size := by omega
  have hnn : n * i.size ≤ 16777216 := by omega
  have hts : ty.size = i.size := by omega
  split at h
  case h_2 => cases h
  rename_i els hf
  split at h
  case h_2 => cases h
  rename_i xs hdec
  cases h
  obtain ⟨j, z, z1, z2, z3, z4, z5, z6, z7⟩ := zero_cells hi
  obtain ⟨d', h1, h2⟩ := tdAt_some ht
  have := td_sl h2; subst this
  obtain ⟨hdf, β, S, hr⟩ := hg
  obtain ⟨B, q1, q2, q3⟩ := fill_els hr (cor_zero hi hs (z := z.cells) z7 z5 z6 n) hf
  have hlen : els.length = n := by simpa using q3
  have hparts : (parts.map fun (x : Nat × Operand) => (x.1, a.eval x.2)).toList = parts.toList.map fun p => (p.1, a.eval p.2) := by simp
  obtain ⟨dl, dc⟩ := decL_spec hdec
  refine ⟨.value (.slice (some ⟨w.heap.size, 0, none⟩) n n), w.alloc (.cells B e), ?_, .inl ⟨_, rfl, hdf, β, _, (hr.stay _).put d (.d ?_)⟩⟩
  · have hnot : ¬ 16777216 < n * i.size := by omega
    rcases Nat.eq_zero_or_pos n with h0 | h0
    · subst h0
      have hz0 : (Array.map (fun x => z.cells[x % z.cells.size]!) (Array.range (0 * i.size))) = #[] := by simp [Array.range_zero']
      rw [hz0] at q1
      simp only [execOp, Instr.buildSlice, Sem.run_bind, run_underlying h1, Result.andThen_ok, sizeOf, typeInfo, run_program, z1, Sem.run_pure, z3, Nat.zero_mul]
      simp [hparts, q1, newRow, Array.range_zero']
    · have hnz : ¬ n * i.size = 0 := by have := Nat.mul_pos h0 hs; omega
      simp only [execOp, Instr.buildSlice, Sem.run_bind, run_underlying h1, Result.andThen_ok, sizeOf, typeInfo, run_program, z1, Sem.run_pure, z3]
      simp [hnot, hnz, hparts, q1, newRow, zeroValue, typeInfo, z1, z2]
  · have hxl : xs.length = n := by omega
    by_cases hx : xs = []
    · subst hx
      have : n = 0 := by simpa using hxl.symm
      subst this
      exact .rov0 _ _ _
    · have hwa : ∀ k, (w.alloc (.cells B e)).cell? ⟨w.heap.size, k, none⟩ = B[k]? := fun k => by
        have hh : (w.alloc (.cells B e)).heap[w.heap.size]? = some (.cells B e) := by show (w.heap.push _)[w.heap.size]? = _; simp
        unfold World.cell?; rw [hh]; rfl
      have hcell : ∀ (e' : Nat) (el : ty.den) (j' : Nat) (x : D), xs[e']? = some el → (ty.enc el)[j']? = some x → ∃ u, (w.alloc (.cells B e)).cell? ⟨w.heap.size, 0 + e' * ty.size + j', none⟩ = some u ∧ RD w S u x := fun e' el j' x h3 h4 => by
        obtain ⟨us, u1, _, u3⟩ := dc e' el h3
        obtain ⟨c, c1, c2, _⟩ := u3 j' x h4
        obtain ⟨u, v1, _, v3⟩ := q2.2.2 e' us j' c u1 c1
        exact ⟨u, by rw [hwa, hts, Nat.zero_add]; exact v1, (c2 _ _ _ _ v3).inv_d⟩
      have := RD.rov (w := w.alloc (.cells B e)) (S := fun k => S k ∨ k = w.heap.size) w.heap.size 0 n ty xs (fun e' j' => ((w.alloc (.cells B e)).cell? ⟨w.heap.size, 0 + e' * ty.size + j', none⟩).getD Go.undef) (.inr rfl) (by simp) hx (by omega)
        (fun e' el j' x h3 h4 => by obtain ⟨u, u1, _⟩ := hcell e' el j' x h3 h4; rw [u1]; rfl)
        (fun e' el j' x h3 h4 => by
          obtain ⟨u, u1, u2⟩ := hcell e' el j' x h3 h4
          rw [u1]
          exact u2.mono (fun k hk => ⟨.inl hk, by show (w.heap.push _)[k]? = _; rw [Array.getElem?_push, if_neg (by have := hr.sbd k hk; omega)]⟩) (by simp))
      rw [hxl] at this
      exact this
end
end Go.U
