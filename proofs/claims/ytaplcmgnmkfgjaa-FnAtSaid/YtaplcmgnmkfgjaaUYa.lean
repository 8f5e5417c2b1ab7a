/- An argument, opened: what its cells stand for, as data of its type's kind. No condition. -/
import Derived.Test.YtaplcmgnmkfgjaaUXg
import Derived.OpenShut
import Derived.ChangeSame
import Derived.Deep.Slices
set_option linter.unusedVariables false
set_option linter.unusedSimpArgs false
set_option linter.unusedSectionVars false
namespace Go.U
open Go Go.Deep

section
variable (P : Program)
mutual
/-- The kind of a type's values, where the cells lie as the kind says. -/
def tyL : Nat → TypeId → Option Ty
  | 0, _ => none
  | n + 1, t => match P.underlying t with
    | some (.int k) => some (.i k)
    | some .bool => some .b
    | some .string => some .s
    | some (.slice e) => match tyL n e with
      | some ty => if P.cellsOf e = ty.size then some (.l ty) else none
      | none => none
    | some (.struct fs) => match tyFs n 0 fs.toList with
      | some ty => if P.cellsOf t = ty.size then some ty else none
      | none => none
    | _ => none
def tyFs : Nat → Nat → List Field → Option Ty
  | 0, _, _ => none
  | _, _, [] => none
  | n + 1, off, [f] => match tyL n f.type with
    | some ty => if f.offset = off ∧ P.cellsOf f.type = ty.size then some ty else none
    | none => none
  | n + 1, off, f :: g :: fs => match tyL n f.type with
    | some a => if f.offset = off ∧ P.cellsOf f.type = a.size then (match tyFs n (off + a.size) (g :: fs) with | some t => some (.c a t) | none => none) else none
    | none => none
end
end

/-- Whole numbers within their kind, nothing longer than a length may be. -/
def Ty.ok : (t : Ty) → t.den → Prop
  | .i k, n => @LE.le Int _ k.min n ∧ @LE.le Int _ n k.max
  | .b, _ => True
  | .s, z => List.length (α := UInt8) z ≤ maxLen
  | .e, _ => True
  | .c a t, p => a.ok p.1 ∧ t.ok p.2
  | .y _, _ => True
  | .l t, xs => List.length (α := t.den) xs ≤ maxLen ∧ ∀ x : t.den, List.Mem x xs → t.ok x

def sumN : List Nat → Nat
  | [] => 0
  | n :: l => n + sumN l

/-- How many values and letters. -/
def Ty.bulk : (t : Ty) → t.den → Nat
  | .s, z => List.length (α := UInt8) z + 1
  | .c a t, p => a.bulk p.1 + t.bulk p.2
  | .l t, xs => sumN ((xs : List t.den).map t.bulk) + 1
  | _, _ => 1

mutual
def bulkG {H : Type} : DataW H → Nat
  | .lit (.string bytes) => bytes.length + 1
  | .lit _ => 1
  | .nil => 1
  | .ptr d => bulkG d + 1
  | .slice elems spare => bulkGAll elems + bulkGAll spare + 1
  | .agg parts => bulkGAll parts + 1
  | .iface _ d => bulkG d + 1
  | .map entries => bulkGEntries entries + 1
  | .held _ => 1
def bulkGAll {H : Type} : List (DataW H) → Nat
  | [] => 0
  | d :: r => bulkG d + bulkGAll r
def bulkGEntries {H : Type} : List (Lit × DataW H) → Nat
  | [] => 0
  | x :: r => bulkGEntry x + bulkGEntries r
def bulkGEntry {H : Type} : Lit × DataW H → Nat
  | (.string bytes, d) => bytes.length + bulkG d + 1
  | (_, d) => bulkG d + 1
end

/-- Cells that stand for data. -/
structure Opn (w : World) (cs : List Value) (ty : Ty) (a : ty.den) (bulk : Nat) : Prop where
  len : cs.length = ty.size
  rd : ∀ (j : Nat) v d, cs[j]? = some v → (ty.enc a)[j]? = some d → RD w (fun k => k < w.heap.size) v d
  ok : ty.ok a
  bulk : ty.bulk a ≤ bulk

section
variable {H : Type} {enc : TypeId × Value → H} {P : Program} {w : World} {base : Nat} {spare : Nat → Bool} {held : Bool}

theorem bulkG_map (l : List (DataW H)) : bulkGAll l = sumN (l.map bulkG) := by
  induction l with
  | nil => rfl
  | cons x l ih => simp only [bulkGAll, List.map_cons, sumN, ih]
theorem sumN_le {α β : Type} (f : α → Nat) (g : β → Nat) : ∀ (l : List α) (m : List β), l.length = m.length → (∀ (i : Nat) x y, l[i]? = some x → m[i]? = some y → f x ≤ g y) → sumN (l.map f) ≤ sumN (m.map g)
  | [], [], _, _ => Nat.le_refl _
  | x :: l, y :: m, hl, h => by
    simp only [List.map_cons, sumN]
    have h0 := h 0 x y rfl rfl
    have ih := sumN_le f g l m (by simpa using hl) fun i a b ha hb => h (i + 1) a b (by simpa using ha) (by simpa using hb)
    omega

theorem open_both : ∀ (n : Nat),
    (∀ (t : TypeId) (ty : Ty) (fuel : Nat) (cs : List Value) (x : DataW H × List MemPlace), tyL P n t = some ty → DataW.trod enc P w base spare held fuel t cs = some x → ∃ a : ty.den, Opn w cs ty a (bulkG x.1)) ∧
    (∀ (off : Nat) (fs : List Field) (ty : Ty) (fuel : Nat) (cs : List Value) (xs : List (DataW H × List MemPlace)), tyFs P n off fs = some ty → xs.length = fs.length →
      (∀ (i : Nat) (f : Field), fs[i]? = some f → DataW.trod enc P w base spare held fuel f.type ((cs.drop f.offset).take (P.cellsOf f.type)) = xs[i]?) →
      ∃ a : ty.den, off + ty.size ≤ cs.length ∧ (∀ (j : Nat) v d, cs[off + j]? = some v → (ty.enc a)[j]? = some d → RD w (fun k => k < w.heap.size) v d) ∧ ty.ok a ∧ ty.bulk a ≤ bulkGAll (xs.map (·.1)))
  | 0 => ⟨fun _ _ _ _ _ h => by simp [tyL] at h, fun _ fs _ _ _ _ h => by cases fs <;> simp [tyFs] at h⟩
  | n + 1 => by
    obtain ⟨ih1, ih2⟩ := open_both n
    refine ⟨fun t ty fuel cs x h hx => ?_, fun off fs ty fuel cs xs h hl hx => ?_⟩
    · simp only [tyL] at h
      split at h
      · rename_i k hu
        cases h
        obtain ⟨m, rfl, rfl, hw⟩ := DataW.trod_int hu hx
        simp only [Lit.wf, Bool.and_eq_true, decide_eq_true_eq] at hw
        refine ⟨m, rfl, fun j v d hv hd => ?_, hw, by simp [Ty.bulk, bulkG]⟩
        cases j with
        | zero => simp [Ty.enc] at hv hd; subst hv; subst hd; exact .i _ _
        | succ j => simp at hv
      · rename_i hu
        cases h
        obtain ⟨b, rfl, rfl⟩ := DataW.trod_bool hu hx
        refine ⟨b, rfl, fun j v d hv hd => ?_, trivial, by simp [Ty.bulk, bulkG]⟩
        cases j with
        | zero => simp [Ty.enc] at hv hd; subst hv; subst hd; exact .b _
        | succ j => simp at hv
      · rename_i hu
        cases h
        obtain ⟨s, rfl, rfl, hs⟩ := DataW.trod_string hu hx
        refine ⟨s.data.toList, rfl, fun j v d hv hd => ?_, (by show s.data.toList.length ≤ maxLen; rw [Array.length_toList]; exact hs), by simp [Ty.bulk, bulkG]⟩
        cases j with
        | zero => simp [Ty.enc] at hv hd; subst hv; subst hd; exact .str s.data.toList
        | succ j => simp at hv
      · rename_i e hu
        split at h
        · rename_i ty' he
          split at h
          · rename_i hce
            cases h
            rcases open_slice hu hx with ⟨rfl, rfl⟩ | ⟨a, len, cap, m, q, DD, Pl, rfl, hb, hlc, hm, hmm, rfl, hxs⟩
            · refine ⟨([] : List ty'.den), rfl, fun j v d hv hd => ?_, ⟨Nat.zero_le _, fun x hx => by cases hx⟩, by simp [Ty.bulk, bulkG, sumN]⟩
              cases j with
              | zero => simp [Ty.enc] at hv hd; subst hv; subst hd; exact .rov0 _ _ _
              | succ j => simp at hv
            · have hlm : len ≤ m := by rw [hmm]; split <;> omega
              have hex : ∀ i, i < len → ∃ a' : ty'.den, ∃ cs', w.cells? base (a.add (i * P.cellsOf e)) (P.cellsOf e) = some cs' ∧ Opn w cs' ty' a' (bulkG (DD i)) := fun i hi => by
                obtain ⟨cs', h1, h2⟩ := hxs i (by omega)
                obtain ⟨a', ha'⟩ := ih1 e ty' q cs' _ he h2
                exact ⟨a', cs', h1, ha'⟩
              let f : Fin len → ty'.den := fun i => (hex i i.2).choose
              have hf : ∀ (i : Fin len), ∃ cs', w.cells? base (a.add (i * P.cellsOf e)) (P.cellsOf e) = some cs' ∧ Opn w cs' ty' (f i) (bulkG (DD i)) := fun i => (hex i i.2).choose_spec
              have hfl : (List.ofFn f).length = len := by simp
              have hget : ∀ (e : Nat) el, (List.ofFn f)[e]? = some el → ∃ h : e < len, el = f ⟨e, h⟩ := fun e el he => by
                rw [List.getElem?_ofFn] at he
                split at he
                · rename_i hlt; cases he; exact ⟨hlt, rfl⟩
                · cases he
              have hlen : len ≤ maxLen := by omega
              refine ⟨(List.ofFn f : List ty'.den), rfl, fun j v d hv hd => ?_, ⟨by rw [hfl]; exact hlen, fun x hx => ?_⟩, ?_⟩
              · cases j with
                | succ j => simp at hv
                | zero =>
                  simp [Ty.enc] at hv hd
                  subst hv; subst hd
                  by_cases h0 : len = 0
                  · subst h0
                    have : (List.ofFn f : List ty'.den) = [] := List.length_eq_zero_iff.1 hfl
                    rw [this]
                    exact .rov0 _ _ _
                  · obtain ⟨cs0, h1, h2⟩ := hf ⟨0, by omega⟩
                    obtain ⟨_, _, hcell⟩ := World.cells?_some h1
                    have hc0 := hcell 0 (by rw [hce]; exact Ty.size_pos _)
                    have hne : ∃ c0, w.cell? ((a.add (0 * P.cellsOf e)).add 0) = some c0 := by
                      have hlt : 0 < cs0.length := by rw [h2.len]; exact Ty.size_pos _
                      exact ⟨cs0[0], by rw [hc0, List.getElem?_eq_getElem hlt]⟩
                    have hsp : a.spot = none ∧ a.block < w.heap.size := by
                      obtain ⟨c0, hne⟩ := hne
                      simp only [World.cell?, Addr.add] at hne
                      split at hne
                      · rename_i c _ _ hh
                        refine ⟨?_, ?_⟩
                        · cases hsp : a.spot with
                          | none => rfl
                          | some _ => simp [hsp] at hne
                        · have := (Array.getElem?_eq_some_iff.1 hh).1
                          simpa using this
                      · cases hne
                    obtain ⟨blk, o, spot⟩ := a
                    obtain ⟨rfl, hblk⟩ := hsp
                    have hcellr : ∀ (e' : Nat) (el : ty'.den) (j : Nat) (y : D), (List.ofFn f)[e']? = some el → (ty'.enc el)[j]? = some y → ∃ u, w.cell? ⟨blk, o + e' * ty'.size + j, none⟩ = some u ∧ RD w (fun k => k < w.heap.size) u y := fun e' el j y h3 h4 => by
                      obtain ⟨hlt, rfl⟩ := hget e' el h3
                      obtain ⟨cs', h5, h6⟩ := hf ⟨e', hlt⟩
                      obtain ⟨_, _, hcell⟩ := World.cells?_some h5
                      have hj : j < ty'.size := by rw [← Ty.enc_len ty' (f ⟨e', hlt⟩)]; exact (List.getElem?_eq_some_iff.1 h4).1
                      have hj' : j < cs'.length := by rw [h6.len]; exact hj
                      have h7 := hcell j (by rw [hce]; exact hj)
                      rw [List.getElem?_eq_getElem hj', Go.Deep.add_add, Addr.add_lit] at h7
                      rw [← hce, Nat.add_assoc]
                      exact ⟨_, h7, h6.rd j _ _ (List.getElem?_eq_getElem hj') h4⟩
                    have := RD.rov (w := w) (S := fun k => k < w.heap.size) blk o cap ty' (List.ofFn f) (fun e j => (w.cell? ⟨blk, o + e * ty'.size + j, none⟩).getD Go.undef) hblk hblk
                      (fun h => by rw [h] at hfl; simp at hfl; omega) (by rw [hfl]; exact hlc)
                      (fun e' el j y h3 h4 => by obtain ⟨u, h5, _⟩ := hcellr e' el j y h3 h4; rw [h5]; rfl)
                      (fun e' el j y h3 h4 => by obtain ⟨u, h5, h6⟩ := hcellr e' el j y h3 h4; rw [h5]; exact h6)
                    rw [hfl] at this
                    exact this
              · obtain ⟨i, hi⟩ := List.mem_iff_getElem?.1 hx
                obtain ⟨hlt, rfl⟩ := hget i x hi
                obtain ⟨_, _, h6⟩ := hf ⟨i, hlt⟩
                exact h6.ok
              · simp only [Ty.bulk, bulkG]
                have := sumN_le ty'.bulk bulkG (List.ofFn f) ((List.range len).map DD) (by simp) fun i x y h3 h4 => by
                  obtain ⟨hlt, rfl⟩ := hget i x h3
                  rw [List.getElem?_map, List.getElem?_range hlt] at h4
                  simp at h4; subst h4
                  obtain ⟨_, _, h6⟩ := hf ⟨i, hlt⟩
                  exact h6.bulk
                rw [bulkG_map]
                omega
          · cases h
        · cases h
      · rename_i fs hu
        split at h
        · rename_i ty' hfs
          split at h
          · rename_i hct
            cases h
            obtain ⟨xs, q, _, rfl, hl, hlen, hf⟩ := DataW.trod_struct hu hx
            obtain ⟨a, h1, h2, h3, h4⟩ := ih2 0 fs.toList ty q cs xs hfs (by simpa using hlen) fun i f hi => hf i f (by simpa using hi)
            refine ⟨a, by omega, fun j v d hv hd => h2 j v d (by simpa using hv) hd, h3, by simp only [bulkG]; omega⟩
          · cases h
        · cases h
      · cases h
    · match fs, xs, hl with
      | [], [], _ => simp [tyFs] at h
      | [f], [x], _ =>
        simp only [tyFs] at h
        split at h
        · rename_i ty' he
          split at h
          · rename_i hc
            cases h
            obtain ⟨a, ha⟩ := ih1 f.type ty fuel _ _ he (hx 0 f rfl)
            have hln := ha.len
            rw [hc.1, hc.2, List.length_take, List.length_drop] at hln
            refine ⟨a, by have := Ty.size_pos ty; omega, fun j v d hv hd => ha.rd j v d ?_ hd, ha.ok, by simpa [bulkGAll] using ha.bulk⟩
            have hj : j < ty.size := by rw [← Ty.enc_len ty a]; exact (List.getElem?_eq_some_iff.1 hd).1
            rw [hc.1, hc.2, List.getElem?_take, if_pos hj, List.getElem?_drop]
            exact hv
          · cases h
        · cases h
      | f :: g :: fs, x :: xs, hl =>
        simp only [tyFs] at h
        split at h
        · rename_i a' he
          split at h
          · rename_i hc
            split at h
            · rename_i t' ht
              cases h
              obtain ⟨a, ha⟩ := ih1 f.type a' fuel _ _ he (hx 0 f rfl)
              obtain ⟨b, h1, h2, h3, h4⟩ := ih2 (off + a'.size) (g :: fs) t' fuel cs xs ht (by simpa using hl) fun i f' hi => by simpa using hx (i + 1) f' (by simpa using hi)
              have hln := ha.len
              rw [hc.1, hc.2, List.length_take, List.length_drop] at hln
              refine ⟨(a, b), by simp only [Ty.size]; omega, fun j v d hv hd => ?_, ⟨ha.ok, h3⟩, by simp only [Ty.bulk, List.map_cons, bulkGAll]; have := ha.bulk; omega⟩
              simp only [Ty.enc] at hd
              rcases Nat.lt_or_ge j a'.size with hj | hj
              · rw [List.getElem?_append_left (by rw [Ty.enc_len]; exact hj)] at hd
                refine ha.rd j v d ?_ hd
                rw [hc.1, hc.2, List.getElem?_take, if_pos hj, List.getElem?_drop]
                exact hv
              · rw [List.getElem?_append_right (by rw [Ty.enc_len]; exact hj), Ty.enc_len] at hd
                refine h2 (j - a'.size) v d ?_ hd
                rw [← hv]; congr 1; omega
            · cases h
          · cases h
        · cases h

theorem open_ty {n : Nat} {t : TypeId} {ty : Ty} {fuel : Nat} {cs : List Value} {x : DataW H × List MemPlace} (h : tyL P n t = some ty) (hx : DataW.trod enc P w base spare held fuel t cs = some x) : ∃ a : ty.den, Opn w cs ty a (bulkG x.1) :=
  (open_both n).1 t ty fuel cs x h hx

end
end Go.U
