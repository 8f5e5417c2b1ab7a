/- The operations of a region in any order, where no two that are not in order touch the same; a slice that becomes data at once. No condition. -/
import Derived.Test.YthiglohhocelfaaUS
set_option linter.unusedVariables false
set_option linter.unusedSimpArgs false
namespace Go.U
open Go

/-- A slice written out, whose row nobody will write: data. -/
def opFrz {P : Program} (Y : TT P) (st : St) (d : Nat) : Op → Option St
  | .buildSlice t n parts => match tdAt Y t with
    | some (.sl e) => match Y.f e with
      | some i => match i.ty with
        | some ty => if i.size = 0 ∨ 16777216 < n * i.size ∨ ty.size ≠ i.size then none else
          match fillEls i.size (List.replicate n (i.zero.map SV.d)) (parts.toList.map fun p => (p.1, ev st p.2)) with
          | some els => match decL ty els with
            | some xs => some (st.put (some d) (.d (.rov ty xs)))
            | none => none
          | none => none
        | none => none
      | none => none
    | _ => none
  | _ => none

section
variable {P : Program} {Y : TT P} {T : Tab} {X : Ctx} {st : St} {a : Act} {tmps : Array Value} {w : World} {β : Nat → Option BA} {S : Nat → Prop}

theorem Rel.stay (h : Rel X st tmps w β S) (o : Obj) : Rel X st tmps (w.alloc o) β (fun k => S k ∨ k = w.heap.size) := by
  have hold : ∀ k, k < w.heap.size → (w.alloc o).heap[k]? = w.heap[k]? := fun k hk => by
    show (w.heap.push o)[k]? = _
    rw [Array.getElem?_push, if_neg (by omega)]
  have hS : ∀ k, S k → (S k ∨ k = w.heap.size) ∧ (w.alloc o).heap[k]? = w.heap[k]? := fun k hk => ⟨.inl hk, hold k (h.sbd k hk)⟩
  have hsz : (w.alloc o).heap.size = w.heap.size + 1 := by show (w.heap.push o).size = _; simp
  refine ⟨h.size, fun t v sv h1 h2 => (h.fr t v sv h1 h2).mono hS (by omega) fun _ _ => rfl, fun b k hb => ?_, h.inj, fun b k ba h1 h2 => ⟨?_, (h.excl b k ba h1 h2).2⟩, fun k hk => ?_, fun k hk ho => (hold k (Nat.lt_of_lt_of_le hk h.grow)).trans (h.old k hk ho), h.os, h.tape, h.out, by have := h.grow; omega, fun k hk hlt => ?_, fun k hk => .inl (h.s1 k hk), h.fix⟩
  · rcases h.hp b k hb with h1 | ⟨ba, arr, ty, fz, h1, h2, h3, h4, h5, h6, h7, h8, h9⟩
    · exact .inl h1
    · refine .inr ⟨ba, arr, ty, fz, h1, h2, h3, ?_, h5, h6, h7, h8, fun e c sv hc => ?_⟩
      · rw [hold _ (Array.getElem?_eq_some_iff.1 h4).1]; exact h4
      · obtain ⟨u, u1, u2, u3⟩ := h9 e c sv hc
        exact ⟨u, u1, u2, u3.mono hS (by omega) fun _ _ => rfl⟩
  · rintro (h3 | h3)
    · exact (h.excl b k ba h1 h2).1 h3
    · have := HK.lt (h.hp b k h1) h2; omega
  · rcases hk with hk | rfl
    · have := h.sbd k hk; omega
    · omega
  · rcases hk with hk | rfl
    · exact h.s0 k hk hlt
    · have := h.grow; omega

theorem opFrz_sound {o : Oper} {d : Nat} (hd : o.dst = some d) (hg : Good X st a w) {st' : St} (h : opFrz Y st d o.op = some st') : Does P X a w o st' := by
  obtain ⟨dst, op, type, pos, after, guard⟩ := o
  simp only at h hd
  subst hd
  unfold opFrz at h
  split at h
  case h_2 => cases h
  rename_i t n parts
  split at h
  case h_2 => cases h
  rename_i e ht
  split at h
  case h_2 => cases h
  rename_i i hi
  split at h
  case h_2 => cases h
  rename_i ty hty
  split at h
  · cases h
  rename_i hcond
  have hs : 0 < i.size := by omega
  have hnn : n * i.size ≤ 16777216 := by omega
  have hts : ty.size = i.size := by omega
  split at h
  case h_2 => cases h
  rename_i els hf
  split at h
  case h_2 => cases h
  rename_i xs hdec
  cases h
  obtain ⟨j, z, z1, z2, z3, z4, z5, z6, z7⟩ := zero_cells hi
  obtain ⟨d', h1, h2⟩ := tdAt_some ht
  have := td_sl h2; subst this
  obtain ⟨hdf, β, S, hr⟩ := hg
  obtain ⟨B, q1, q2, q3⟩ := fill_els hr (cor_zero hi hs (z := z.cells) z7 z5 z6 n) hf
  have hlen : els.length = n := by simpa using q3
  have hparts : (parts.map fun (x : Nat × Operand) => (x.1, a.eval x.2)).toList = parts.toList.map fun p => (p.1, a.eval p.2) := by simp
  obtain ⟨dl, dc⟩ := decL_spec hdec
  refine ⟨.value (.slice (some ⟨w.heap.size, 0, none⟩) n n), w.alloc (.cells B e), ?_, .inl ⟨_, rfl, hdf, β, _, (hr.stay _).put d (.d ?_)⟩⟩
  · have hnot : ¬ 16777216 < n * i.size := by omega
    rcases Nat.eq_zero_or_pos n with h0 | h0
    · subst h0
      have hz0 : (Array.map (fun x => z.cells[x % z.cells.size]!) (Array.range (0 * i.size))) = #[] := by simp [Array.range_zero']
      rw [hz0] at q1
      simp only [execOp, Instr.buildSlice, Sem.run_bind, run_underlying h1, Result.andThen_ok, sizeOf, typeInfo, run_program, z1, Sem.run_pure, z3, Nat.zero_mul]
      simp [hparts, q1, newRow, Array.range_zero']
    · have hnz : ¬ n * i.size = 0 := by have := Nat.mul_pos h0 hs; omega
      simp only [execOp, Instr.buildSlice, Sem.run_bind, run_underlying h1, Result.andThen_ok, sizeOf, typeInfo, run_program, z1, Sem.run_pure, z3]
      simp [hnot, hnz, hparts, q1, newRow, zeroValue, typeInfo, z1, z2]
  · have hxl : xs.length = n := by omega
    by_cases hx : xs = []
    · subst hx
      have : n = 0 := by simpa using hxl.symm
      subst this
      exact .rov0 _ _ _
    · have hwa : ∀ k, (w.alloc (.cells B e)).cell? ⟨w.heap.size, k, none⟩ = B[k]? := fun k => by
        have hh : (w.alloc (.cells B e)).heap[w.heap.size]? = some (.cells B e) := by show (w.heap.push _)[w.heap.size]? = _; simp
        unfold World.cell?; rw [hh]; rfl
      have hcell : ∀ (e' : Nat) (el : ty.den) (j' : Nat) (x : D), xs[e']? = some el → (ty.enc el)[j']? = some x → ∃ u, (w.alloc (.cells B e)).cell? ⟨w.heap.size, 0 + e' * ty.size + j', none⟩ = some u ∧ RD w S u x := fun e' el j' x h3 h4 => by
        obtain ⟨us, u1, _, u3⟩ := dc e' el h3
        obtain ⟨c, c1, c2, _⟩ := u3 j' x h4
        obtain ⟨u, v1, _, v3⟩ := q2.2.2 e' us j' c u1 c1
        exact ⟨u, by rw [hwa, hts, Nat.zero_add]; exact v1, (c2 _ _ _ _ v3).inv_d⟩
      have := RD.rov (w := w.alloc (.cells B e)) (S := fun k => S k ∨ k = w.heap.size) w.heap.size 0 n ty xs (fun e' j' => ((w.alloc (.cells B e)).cell? ⟨w.heap.size, 0 + e' * ty.size + j', none⟩).getD Go.undef) (.inr rfl) (by simp) hx (by omega)
        (fun e' el j' x h3 h4 => by obtain ⟨u, u1, _⟩ := hcell e' el j' x h3 h4; rw [u1]; rfl)
        (fun e' el j' x h3 h4 => by
          obtain ⟨u, u1, u2⟩ := hcell e' el j' x h3 h4
          rw [u1]
          exact u2.mono (fun k hk => ⟨.inl hk, by show (w.heap.push _)[k]? = _; rw [Array.getElem?_push, if_neg (by have := hr.sbd k hk; omega)]⟩) (by simp))
      rw [hxl] at this
      exact this

end
end Go.U
