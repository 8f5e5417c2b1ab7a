/- A part of the proof. No condition. -/
import Derived.Test.YtclapampnmjmoaaGreatDoorUXg
import Derived.OpenShut
import Derived.ChangeSame
import Derived.Deep.Slices
import Derived.Below
import Derived.Lib.Repeat
import Derived.Laws.AppendOwn
set_option linter.unusedVariables false
set_option linter.unusedSimpArgs false
set_option linter.unusedSectionVars false
namespace Go.U
open Go Go.Deep
section
variable (P : Program)
mutual
def tyL : Nat → TypeId → Option Ty
  | 0, _ => none
  | n + 1, t => match P.underlying t with
    | some (.int k) => some (.i k)
    | some .bool => some .b
    | some .string => some .s
    | some (.slice e) => match tyL n e with
      | some ty => if P.cellsOf e = ty.size then some (.l ty) else none
      | none => none
    | some (.struct fs) => match tyFs n 0 fs.toList with
      | some ty => if P.cellsOf t = ty.size then some ty else none
      | none => none
    | _ => none
def tyFs : Nat → Nat → List Field → Option Ty
  | 0, _, _ => none
  | _, _, [] => none
  | n + 1, off, [f] => match tyL n f.type with
    | some ty => if f.offset = off ∧ P.cellsOf f.type = ty.size then some ty else none
    | none => none
  | n + 1, off, f :: g :: fs => match tyL n f.type with
    | some a => if f.offset = off ∧ P.cellsOf f.type = a.size then (match tyFs n (off + a.size) (g :: fs) with | some t => some (.c a t) | none => none) else none
    | none => none
end
end
def Ty.ok : (t : Ty) → t.den → Prop
  | .i k, n => @LE.le Int _ k.min n ∧ @LE.le Int _ n k.max
  | .b, _ => True
  | .s, z => List.length (α := UInt8) z ≤ maxLen
  | .e, _ => True
  | .c a t, p => a.ok p.1 ∧ t.ok p.2
  | .y _, _ => True
  | .l t, xs => List.length (α := t.den) xs ≤ maxLen ∧ ∀ x : t.den, List.Mem x xs → t.ok x
def sumN : List Nat → Nat
  | [] => 0
  | n :: l => n + sumN l
def Ty.bulk : (t : Ty) → t.den → Nat
  | .s, z => List.length (α := UInt8) z + 1
  | .c a t, p => a.bulk p.1 + t.bulk p.2
  | .l t, xs => sumN ((xs : List t.den).map t.bulk) + 1
  | _, _ => 1
mutual
def bulkG {H : Type} : DataW H → Nat
  | .lit (.string bytes) => bytes.length + 1
  | .lit _ => 1
  | .nil => 1
  | .ptr d => bulkG d + 1
  | .slice elems spare => bulkGAll elems + bulkGAll spare + 1
  | .agg parts => bulkGAll parts + 1
  | .iface _ d => bulkG d + 1
  | .map entries => bulkGEntries entries + 1
  | .held _ => 1
def bulkGAll {H : Type} : List (DataW H) → Nat
  | [] => 0
  | d :: r => bulkG d + bulkGAll r
def bulkGEntries {H : Type} : List (Lit × DataW H) → Nat
  | [] => 0
  | x :: r => bulkGEntry x + bulkGEntries r
def bulkGEntry {H : Type} : Lit × DataW H → Nat
  | (.string bytes, d) => bytes.length + bulkG d + 1
  | (_, d) => bulkG d + 1
end
structure Opn (w : World) (cs : List Value) (ty : Ty) (a : ty.den) (bulk : Nat) : Prop where
  len : cs.length = ty.size
  rd : ∀ (j : Nat) v d, cs[j]? = some v → (ty.enc a)[j]? = some d → RD w (fun k => k < w.heap.size) v d
  ok : ty.ok a
  bulk : ty.bulk a ≤ bulk
section
variable {H : Type} {enc : TypeId × Value → H} {P : Program} {w : World} {base : Nat} {spare : Nat → Bool} {held : Bool}
theorem bulkG_map (l : List (DataW H)) : bulkGAll l = sumN (l.map bulkG) := by
  induction l with
  | nil => rfl
  | cons x l ih => simp only [bulkGAll, List.map_cons, sumN, ih]
theorem sumN_le {α β : Type} (f : α → Nat) (g : β → Nat) : ∀ (l : List α) (m : List β), l.length = m.length → (∀ (i : Nat) x y, l[i]? = some x → m[i]? = some y → f x ≤ g y) → sumN (l.map f) ≤ sumN (m.map g)
  | [], [], _, _ => Nat.le_refl _
  | x :: l, y :: m, hl, h => by
    simp only [List.map_cons, sumN]
    have h0 := h 0 x y rfl rfl
    have ih := sumN_le f g l m (by simpa using hl) fun i a b ha hb => h (i + 1) a b (by simpa using ha) (by simpa using hb)
    omega
theorem open_both : ∀ (n : Nat),
    (∀ (t : TypeId) (ty : Ty) (fuel : Nat) (cs : List Value) (x : DataW H × List MemPlace), tyL P n t = some ty → DataW.trod enc P w base spare held fuel t cs = some x → ∃ a : ty.den, Opn w cs ty a (bulkG x.1)) ∧
    (∀ (off : Nat) (fs : List Field) (ty : Ty) (fuel : Nat) (cs : List Value) (xs : List (DataW H × List MemPlace)), tyFs P n off fs = some ty → xs.length = fs.length →
      (∀ (i : Nat) (f : Field), fs[i]? = some f → DataW.trod enc P w base spare held fuel f.type ((cs.drop f.offset).take (P.cellsOf f.type)) = xs[i]?) →
      ∃ a : ty.den, off + ty.size ≤ cs.length ∧ (∀ (j : Nat) v d, cs[off + j]? = some v → (ty.enc a)[j]? = some d → RD w (fun k => k < w.heap.size) v d) ∧ ty.ok a ∧ ty.bulk a ≤ bulkGAll (xs.map (·.1)))
  | 0 => ⟨fun _ _ _ _ _ h => by simp [tyL] at h, fun _ fs _ _ _ _ h => by cases fs <;> simp [tyFs] at h⟩
  | n + 1 => by
    obtain ⟨ih1, ih2⟩ := open_both n
    refine ⟨fun t ty fuel cs x h hx => ?_, fun off fs ty fuel cs xs h hl hx => ?_⟩
    · simp only [tyL] at h
      split at h
      · rename_i k hu
        cases h
        obtain ⟨m, rfl, rfl, hw⟩ := DataW.trod_int hu hx
        simp only [Lit.wf, Bool.and_eq_true, decide_eq_true_eq] at hw
        refine ⟨m, rfl, fun j v d hv hd => ?_, hw, by simp [Ty.bulk, bulkG]⟩
        cases j with
        | zero => simp [Ty.enc] at hv hd; subst hv; subst hd; exact .i _ _
        | succ j => simp at hv
      · rename_i hu
        cases h
        obtain ⟨b, rfl, rfl⟩ := DataW.trod_bool hu hx
        refine ⟨b, rfl, fun j v d hv hd => ?_, trivial, by simp [Ty.bulk, bulkG]⟩
        cases j with
        | zero => simp [Ty.enc] at hv hd; subst hv; subst hd; exact .b _
        | succ j => simp at hv
      · rename_i hu
        cases h
        obtain ⟨s, rfl, rfl, hs⟩ := DataW.trod_string hu hx
        refine ⟨s.data.toList, rfl, fun j v d hv hd => ?_, (by show s.data.toList.length ≤ maxLen; rw [Array.length_toList]; exact hs), by simp [Ty.bulk, bulkG]⟩
        cases j with
        | zero => simp [Ty.enc] at hv hd; subst hv; subst hd; exact .str s.data.toList
        | succ j => simp at hv
      · rename_i e hu
        split at h
        · rename_i ty' he
          split at h
          · rename_i hce
            cases h
            rcases open_slice hu hx with ⟨rfl, rfl⟩ | ⟨a, len, cap, m, q, DD, Pl, rfl, hb, hlc, hm, hmm, rfl, hxs⟩
            · refine ⟨([] : List ty'.den), rfl, fun j v d hv hd => ?_, ⟨Nat.zero_le _, fun x hx => by cases hx⟩, by simp [Ty.bulk, bulkG, sumN]⟩
              cases j with
              | zero => simp [Ty.enc] at hv hd; subst hv; subst hd; exact .rov0 _ _ _
              | succ j => simp at hv
            · have hlm : len ≤ m := by rw [hmm]; split <;> omega
              have hex : ∀ i, i < len → ∃ a' : ty'.den, ∃ cs', w.cells? base (a.add (i * P.cellsOf e)) (P.cellsOf e) = some cs' ∧ Opn w cs' ty' a' (bulkG (DD i)) := fun i hi => by
                obtain ⟨cs', h1, h2⟩ := hxs i (by omega)
                obtain ⟨a', ha'⟩ := ih1 e ty' q cs' _ he h2
                exact ⟨a', cs', h1, ha'⟩
              let f : Fin len → ty'.den := fun i => (hex i i.2).choose
              have hf : ∀ (i : Fin len), ∃ cs', w.cells? base (a.add (i * P.cellsOf e)) (P.cellsOf e) = some cs' ∧ Opn w cs' ty' (f i) (bulkG (DD i)) := fun i => (hex i i.2).choose_spec
              have hfl : (List.ofFn f).length = len := by simp
              have hget : ∀ (e : Nat) el, (List.ofFn f)[e]? = some el → ∃ h : e < len, el = f ⟨e, h⟩ := fun e el he => by
                rw [List.getElem?_ofFn] at he
                split at he
                · rename_i hlt; cases he; exact ⟨hlt, rfl⟩
                · cases he
              have hlen : len ≤ maxLen := by omega
              refine ⟨(List.ofFn f : List ty'.den), rfl, fun j v d hv hd => ?_, ⟨by rw [hfl]; exact hlen, fun x hx => ?_⟩, ?_⟩
              · cases j with
                | succ j => simp at hv
                | zero =>
                  simp [Ty.enc] at hv hd
                  subst hv; subst hd
                  by_cases h0 : len = 0
                  · subst h0
                    have : (List.ofFn f : List ty'.den) = [] := List.length_eq_zero_iff.1 hfl
                    rw [this]
                    exact .rov0 _ _ _
                  · obtain ⟨cs0, h1, h2⟩ := hf ⟨0, by omega⟩
                    obtain ⟨_, _, hcell⟩ := World.cells?_some h1
                    have hc0 := hcell 0 (by rw [hce]; exact Ty.size_pos _)
                    have hne : ∃ c0, w.cell? ((a.add (0 * P.cellsOf e)).add 0) = some c0 := by
                      have hlt : 0 < cs0.length := by rw [h2.len]; exact Ty.size_pos _
                      exact ⟨cs0[0], by rw [hc0, List.getElem?_eq_getElem hlt]⟩
                    have hsp : a.spot = none ∧ a.block < w.heap.size := by
                      obtain ⟨c0, hne⟩ := hne
                      simp only [World.cell?, Addr.add] at hne
                      split at hne
                      · rename_i c _ _ hh
                        refine ⟨?_, ?_⟩
                        · cases hsp : a.spot with
                          | none => rfl
                          | some _ => simp [hsp] at hne
                        · have := (Array.getElem?_eq_some_iff.1 hh).1
                          simpa using this
                      · cases hne
                    obtain ⟨blk, o, spot⟩ := a
                    obtain ⟨rfl, hblk⟩ := hsp
                    have hcellr : ∀ (e' : Nat) (el : ty'.den) (j : Nat) (y : D), (List.ofFn f)[e']? = some el → (ty'.enc el)[j]? = some y → ∃ u, w.cell? ⟨blk, o + e' * ty'.size + j, none⟩ = some u ∧ RD w (fun k => k < w.heap.size) u y := fun e' el j y h3 h4 => by
                      obtain ⟨hlt, rfl⟩ := hget e' el h3
                      obtain ⟨cs', h5, h6⟩ := hf ⟨e', hlt⟩
                      obtain ⟨_, _, hcell⟩ := World.cells?_some h5
                      have hj : j < ty'.size := by rw [← Ty.enc_len ty' (f ⟨e', hlt⟩)]; exact (List.getElem?_eq_some_iff.1 h4).1
                      have hj' : j < cs'.length := by rw [h6.len]; exact hj
                      have h7 := hcell j (by rw [hce]; exact hj)
                      rw [List.getElem?_eq_getElem hj', Go.Deep.add_add, Addr.add_lit] at h7
                      rw [← hce, Nat.add_assoc]
                      exact ⟨_, h7, h6.rd j _ _ (List.getElem?_eq_getElem hj') h4⟩
                    have := RD.rov (w := w) (S := fun k => k < w.heap.size) blk o cap ty' (List.ofFn f) (fun e j => (w.cell? ⟨blk, o + e * ty'.size + j, none⟩).getD Go.undef) hblk hblk
                      (fun h => by rw [h] at hfl; simp at hfl; omega) (by rw [hfl]; exact hlc)
                      (fun e' el j y h3 h4 => by obtain ⟨u, h5, _⟩ := hcellr e' el j y h3 h4; rw [h5]; rfl)
                      (fun e' el j y h3 h4 => by obtain ⟨u, h5, h6⟩ := hcellr e' el j y h3 h4; rw [h5]; exact h6)
                    rw [hfl] at this
                    exact this
              · obtain ⟨i, hi⟩ := List.mem_iff_getElem?.1 hx
                obtain ⟨hlt, rfl⟩ := hget i x hi
                obtain ⟨_, _, h6⟩ := hf ⟨i, hlt⟩
                exact h6.ok
              · simp only [Ty.bulk, bulkG]
                have := sumN_le ty'.bulk bulkG (List.ofFn f) ((List.range len).map DD) (by simp) fun i x y h3 h4 => by
                  obtain ⟨hlt, rfl⟩ := hget i x h3
                  rw [List.getElem?_map, List.getElem?_range hlt] at h4
                  simp at h4; subst h4
                  obtain ⟨_, _, h6⟩ := hf ⟨i, hlt⟩
                  exact h6.bulk
                rw [bulkG_map]
                omega
          · cases h
        · cases h
      · rename_i fs hu
        split at h
        · rename_i ty' hfs
          split at h
          · rename_i hct
            cases h
            obtain ⟨xs, q, _, rfl, hl, hlen, hf⟩ := DataW.trod_struct hu hx
            obtain ⟨a, h1, h2, h3, h4⟩ := ih2 0 fs.toList ty q cs xs hfs (by simpa using hlen) fun i f hi => hf i f (by simpa using hi)
            refine ⟨a, by omega, fun j v d hv hd => h2 j v d (by simpa using hv) hd, h3, by simp only [bulkG]; omega⟩
          · cases h
        · cases h
      · cases h
    · match fs, xs, hl with
      | [], [], _ => simp [tyFs] at h
      | [f], [x], _ =>
        simp only [tyFs] at h
        split at h
        · rename_i ty' he
          split at h
          · rename_i hc
            cases h
            obtain ⟨a, ha⟩ := ih1 f.type ty fuel _ _ he (hx 0 f rfl)
            have hln := ha.len
            rw [hc.1, hc.2, List.length_take, List.length_drop] at hln
            refine ⟨a, by have := Ty.size_pos ty; omega, fun j v d hv hd => ha.rd j v d ?_ hd, ha.ok, by simpa [bulkGAll] using ha.bulk⟩
            have hj : j < ty.size := by rw [← Ty.enc_len ty a]; exact (List.getElem?_eq_some_iff.1 hd).1
            rw [hc.1, hc.2, List.getElem?_take, if_pos hj, List.getElem?_drop]
            exact hv
          · cases h
        · cases h
      | f :: g :: fs, x :: xs, hl =>
        simp only [tyFs] at h
        split at h
        · rename_i a' he
          split at h
          · rename_i hc
            split at h
            · rename_i t' ht
              cases h
              obtain ⟨a, ha⟩ := ih1 f.type a' fuel _ _ he (hx 0 f rfl)
              obtain ⟨b, h1, h2, h3, h4⟩ := ih2 (off + a'.size) (g :: fs) t' fuel cs xs ht (by simpa using hl) fun i f' hi => by simpa using hx (i + 1) f' (by simpa using hi)
              have hln := ha.len
              rw [hc.1, hc.2, List.length_take, List.length_drop] at hln
              refine ⟨(a, b), by simp only [Ty.size]; omega, fun j v d hv hd => ?_, ⟨ha.ok, h3⟩, by simp only [Ty.bulk, List.map_cons, bulkGAll]; have := ha.bulk; omega⟩
              simp only [Ty.enc] at hd
              rcases Nat.lt_or_ge j a'.size with hj | hj
              · rw [List.getElem?_append_left (by rw [Ty.enc_len]; exact hj)] at hd
                refine ha.rd j v d ?_ hd
                rw [hc.1, hc.2, List.getElem?_take, if_pos hj, List.getElem?_drop]
                exact hv
              · rw [List.getElem?_append_right (by rw [Ty.enc_len]; exact hj), Ty.enc_len] at hd
                refine h2 (j - a'.size) v d ?_ hd
                rw [← hv]; congr 1; omega
            · cases h
          · cases h
        · cases h
theorem open_ty {n : Nat} {t : TypeId} {ty : Ty} {fuel : Nat} {cs : List Value} {x : DataW H × List MemPlace} (h : tyL P n t = some ty) (hx : DataW.trod enc P w base spare held fuel t cs = some x) : ∃ a : ty.den, Opn w cs ty a (bulkG x.1) :=
  (open_both n).1 t ty fuel cs x h hx
end
end Go.U
namespace Go.U
open Go Go.RowKit
section
variable {P : Program} [Gl P] {w : World} {β : Nat → Option BA}
theorem Opn.agg {vs : Array Value} {ty : Ty} {a : ty.den} {b : Nat} (h : Opn w vs.toList ty a b) : RS w β (fun k => k < w.heap.size) (.agg vs) (.agg ((ty.enc a).map SV.d)) := by
  refine .agg vs _ (by rw [List.length_map, Ty.enc_len, ← h.len, Array.length_toList]) fun i v c h1 h2 => ?_
  rw [List.getElem?_map] at h2
  cases hd : (ty.enc a)[i]? with
  | none => rw [hd] at h2; cases h2
  | some d =>
    rw [hd] at h2; cases h2
    exact .d (h.rd i v d (by simpa using h1) hd)
theorem Opn.one {v : Value} {ty : Ty} {a : ty.den} {b : Nat} {d : D} (h : Opn w [v] ty a b) (hd : ty.enc a = [d]) : RS w β (fun k => k < w.heap.size) v (.d d) :=
  .d (h.rd 0 v d rfl (by rw [hd]; rfl))
theorem calls_of {f : FuncId} {c : Ct} (hcon : CtOk P f c) (hcall : ∀ args w, (callFunc f args).run P w = .ok (.enter f args) w) {vs : Array Value} {args res : List SV}
    (hgl : GlOk P w fun k => k < w.heap.size) (hF : funOf c args [] = some (res, [])) (hsz : vs.size = args.length) (hvs : ∀ (i : Nat) v c, vs[i]? = some v → args[i]? = some c → RS w (fun _ => none) (fun k => k < w.heap.size) v c) :
    Calls P f vs w fun e w' => ∃ v β' S', e = .returned v ∧ RS w' β' S' v (retSV res) ∧ Below w.heap.size w w' := by
  have hpre : Pre P w (fun _ => none) (fun k => k < w.heap.size) vs args [] := ⟨hsz, hvs, by simp, by simp, by simp, fun k h => h, by simp, hgl⟩
  rcases hcon w _ _ vs args [] res [] hF hpre with ⟨_, h⟩ | ⟨v, w', h, _⟩
  · refine Calls.mono h ?_
    rintro e w' ⟨v, β', S', he, hpost⟩
    exact ⟨v, β', S', he, hpost.ret, hpost.os, hpost.tape, hpost.out, hpost.size, fun k hk => hpost.frame k hk (by simp)⟩
  · rw [hcall] at h; cases h
theorem calls_true {f : FuncId} {c : Ct} (hcon : CtOk P f c) (hcall : ∀ args w, (callFunc f args).run P w = .ok (.enter f args) w) {vs : Array Value} {args : List SV}
    (hgl : GlOk P w fun k => k < w.heap.size) (hF : funOf c args [] = some ([.d (.b true)], [])) (hsz : vs.size = args.length) (hvs : ∀ (i : Nat) v c, vs[i]? = some v → args[i]? = some c → RS w (fun _ => none) (fun k => k < w.heap.size) v c) :
    Calls P f vs w fun e w' => e = .returned (.bool true) ∧ Below w.heap.size w w' := by
  refine (calls_of hcon hcall hgl hF hsz hvs).mono ?_
  rintro e w' ⟨v, β', S', rfl, hr, hb⟩
  have hr' : RS w' β' S' v (.d (.b true)) := hr
  rw [hr'.inv_b]
  exact ⟨rfl, hb⟩
theorem vs1 {v0 : Value} {s0 : SV} {S : Nat → Prop} (h0 : RS w β S v0 s0) : ∀ (i : Nat) v c, (#[v0] : Array Value)[i]? = some v → ([s0] : List SV)[i]? = some c → RS w β S v c := fun i v c h1 h2 => by
  match i with
  | 0 => simp at h1 h2; subst h1; subst h2; exact h0
  | i + 1 => simp at h2
theorem vs2 {v0 v1 : Value} {s0 s1 : SV} {S : Nat → Prop} (h0 : RS w β S v0 s0) (h1 : RS w β S v1 s1) : ∀ (i : Nat) v c, (#[v0, v1] : Array Value)[i]? = some v → ([s0, s1] : List SV)[i]? = some c → RS w β S v c := fun i v c g1 g2 => by
  match i with
  | 0 => simp at g1 g2; subst g1; subst g2; exact h0
  | 1 => simp at g1 g2; subst g1; subst g2; exact h1
  | i + 2 => simp at g2
theorem vs3 {v0 v1 v2 : Value} {s0 s1 s2 : SV} {S : Nat → Prop} (h0 : RS w β S v0 s0) (h1 : RS w β S v1 s1) (h2 : RS w β S v2 s2) : ∀ (i : Nat) v c, (#[v0, v1, v2] : Array Value)[i]? = some v → ([s0, s1, s2] : List SV)[i]? = some c → RS w β S v c := fun i v c g1 g2 => by
  match i with
  | 0 => simp at g1 g2; subst g1; subst g2; exact h0
  | 1 => simp at g1 g2; subst g1; subst g2; exact h1
  | 2 => simp at g1 g2; subst g1; subst g2; exact h2
  | i + 3 => simp at g2
end
theorem iter_inv {α γ : Type} {f : α → Option (α ⊕ γ)} (I : α → Prop) (μ : α → Nat) (Q : γ → Prop) (h : ∀ a, I a → (∃ a', f a = some (.inl a') ∧ I a' ∧ μ a' < μ a) ∨ ∃ b, f a = some (.inr b) ∧ Q b) :
    ∀ (K : Nat) (a : α), I a → μ a < K → ∃ b, iter K f a = some b ∧ Q b
  | 0, _, _, h0 => absurd h0 (Nat.not_lt_zero _)
  | K + 1, a, ha, hm => by
    rcases h a ha with ⟨a', h1, h2, h3⟩ | ⟨b, h1, h2⟩
    · obtain ⟨b, h4, h5⟩ := iter_inv I μ Q h K a' h2 (by omega)
      exact ⟨b, by simp only [iter, h1]; exact h4, h5⟩
    · exact ⟨b, by simp only [iter, h1], h2⟩
theorem iter_eq {α γ : Type} {f : α → Option (α ⊕ γ)} (I : α → Prop) (μ : α → Nat) (g : α → γ) (h : ∀ a, I a → (∃ a', f a = some (.inl a') ∧ I a' ∧ μ a' < μ a ∧ g a' = g a) ∨ f a = some (.inr (g a)))
    (K : Nat) (a : α) (ha : I a) (hm : μ a < K) : iter K f a = some (g a) := by
  obtain ⟨b, h1, h2⟩ := iter_inv (fun x => I x ∧ g x = g a) μ (fun b => b = g a) (fun x hx => by
    rcases h x hx.1 with ⟨a', h1, h2, h3, h4⟩ | h1
    · exact .inl ⟨a', h1, ⟨h2, h4.trans hx.2⟩, h3⟩
    · exact .inr ⟨_, h1, hx.2⟩) K a ⟨ha, rfl⟩ hm
  rw [h1, h2]
end Go.U
namespace Go.U
open Go
theorem w64_id {n : Int} (h : -9223372036854775808 ≤ n) (h' : n ≤ 9223372036854775807) : w64 n = n := by
  simp only [w64, IntKind.wrap, IntKind.bits, IntKind.signed]; simp; omega
theorem w8_id {n : Int} (h : 0 ≤ n) (h' : n ≤ 255) : w8 n = n := by
  simp only [w8, IntKind.wrap, IntKind.bits, IntKind.signed]; simp; omega
theorem w64u_id {n : Int} (h : 0 ≤ n) (h' : n ≤ 18446744073709551615) : w64u n = n := by
  simp only [w64u, IntKind.wrap, IntKind.bits, IntKind.signed]; simp; omega
section
variable {ρ α β : Type}
theorem guard_t {k : Option ρ} : guard true k = k := rfl
theorem guard_dec {p : Prop} [Decidable p] {k : Option ρ} (h : p) : guard (decide p) k = k := by rw [decide_eq_true h]; rfl
theorem branch_t {a b : Option ρ} : branch true a b = a := rfl
theorem branch_f {a b : Option ρ} : branch false a b = b := rfl
theorem branch_not {c : Bool} {a b : Option ρ} : branch (!c) a b = branch c b a := by cases c <;> rfl
theorem branch_ite {p : Prop} [Decidable p] {a b : Option ρ} : branch (decide p) a b = if p then a else b := by
  by_cases h : p
  · rw [decide_eq_true h, if_pos h]; rfl
  · rw [decide_eq_false h, if_neg h]; rfl
theorem branch_bool {c : Bool} {a b : Option ρ} : branch c a b = if c = true then a else b := by cases c <;> rfl
theorem bindO_s {x : α} {k : α → Option ρ} : bindO (some x) k = k x := rfl
theorem csO_l {x : α} {f : α → Option ρ} {g : β → Option ρ} : csO (.inl x) f g = f x := rfl
theorem csO_r {x : β} {f : α → Option ρ} {g : β → Option ρ} : csO (.inr x) f g = g x := rfl
theorem nthN_s {xs : List α} {n : Nat} {v : α} {k : α → Option ρ} (h : xs[n]? = some v) : nthN xs n k = k v := by simp only [nthN, h]
theorem nth_s {xs : List α} {n : Nat} {v : α} {k : α → Option ρ} (h : xs[n]? = some v) : nth xs (n : Int) k = k v := by
  have : decide (0 ≤ (n : Int)) = true := decide_eq_true (by omega)
  simp only [nth, this, Int.toNat_natCast]
  exact nthN_s h
theorem nth_z {xs : List α} {n : Int} {v : α} {k : α → Option ρ} (h0 : 0 ≤ n) (h : xs[n.toNat]? = some v) : nth xs n k = k v := by
  have : decide (0 ≤ n) = true := decide_eq_true h0
  simp only [nth, this]
  exact nthN_s h
theorem branch_somes {c : Bool} {a b : α} : branch c (some a) (some b) = some (if c = true then a else b) := by cases c <;> rfl
theorem bind_branch {c : Bool} {a b : Option α} {k : α → Option ρ} : bindO (branch c a b) k = branch c (bindO a k) (bindO b k) := by cases c <;> rfl
end
def foldE {σ τ γ : Type} (step : σ → τ → σ ⊕ γ) (fin : σ → γ) : σ → List τ → γ
  | s, [] => fin s
  | s, v :: vs => match step s v with
    | .inl s' => foldE step fin s' vs
    | .inr r => r
theorem loop_fold {α σ τ γ : Type} {f : α → Option (α ⊕ γ)} (mk : Nat → σ → α) (xs : List τ) (step : σ → τ → σ ⊕ γ) (fin : σ → γ) (I : Nat → σ → Prop)
    (hstep : ∀ i s v, I i s → xs[i]? = some v → f (mk i s) = some (match step s v with | .inl s' => .inl (mk (i + 1) s') | .inr r => .inr r) ∧ ∀ s', step s v = .inl s' → I (i + 1) s')
    (hend : ∀ s, I xs.length s → f (mk xs.length s) = some (.inr (fin s))) : ∀ (K i : Nat) (s : σ), I i s → i ≤ xs.length → xs.length - i < K → iter K f (mk i s) = some (foldE step fin s (xs.drop i))
  | 0, i, s, _, _, hK => absurd hK (Nat.not_lt_zero _)
  | K + 1, i, s, hI, hi, hK => by
    rcases Nat.lt_or_ge i xs.length with hlt | hge
    · have hv := List.getElem?_eq_getElem hlt
      obtain ⟨h1, h2⟩ := hstep i s _ hI hv
      rw [List.drop_eq_getElem_cons hlt]
      simp only [iter, h1, foldE]
      cases hs : step s xs[i] with
      | inl s' => exact loop_fold mk xs step fin I hstep hend K (i + 1) s' (h2 s' hs) hlt (by omega)
      | inr r => rfl
    · have : i = xs.length := by omega
      subst this
      simp only [iter, hend s hI, List.drop_length, foldE]
theorem loop_fold0 {α σ τ γ : Type} {f : α → Option (α ⊕ γ)} (mk : Nat → σ → α) (xs : List τ) (step : σ → τ → σ ⊕ γ) (fin : σ → γ)
    (hstep : ∀ i s v, xs[i]? = some v → i < xs.length → f (mk i s) = some (match step s v with | .inl s' => .inl (mk (i + 1) s') | .inr r => .inr r))
    (hend : ∀ s, f (mk xs.length s) = some (.inr (fin s))) (K : Nat) (s : σ) (hK : xs.length < K) : iter K f (mk 0 s) = some (foldE step fin s xs) := by
  have := loop_fold (f := f) mk xs step fin (fun _ _ => True) (fun i s v _ h => ⟨hstep i s v h (List.getElem?_eq_some_iff.1 h).1, fun _ _ => trivial⟩) (fun s _ => hend s) K 0 s trivial (Nat.zero_le _) (by omega)
  simpa using this
theorem loop_all {α τ γ : Type} {f : α → Option (α ⊕ γ)} (mk : Nat → α) (xs : List τ) (p : τ → Bool) (bad good : γ)
    (hstep : ∀ i v, xs[i]? = some v → i < xs.length → f (mk i) = some (cond (p v) (.inl (mk (i + 1))) (.inr bad))) (hend : f (mk xs.length) = some (.inr good)) (K : Nat) (hK : xs.length < K) :
    iter K f (mk 0) = some (cond (xs.all p) good bad) := by
  have := loop_fold0 (f := f) (fun i (_ : Unit) => mk i) xs (fun _ v => cond (p v) (.inl ()) (.inr bad)) (fun _ => good) (fun i s v h1 h2 => by rw [hstep i v h1 h2]; cases p v <;> rfl) (fun _ => hend) K () hK
  rw [this]
  congr 1
  clear this hstep hend hK
  induction xs with
  | nil => rfl
  | cons x xs ih =>
    simp only [foldE, List.all_cons]
    cases h : p x with
    | true => exact ih
    | false => rfl
theorem loop_copy {α τ γ : Type} {f : α → Option (α ⊕ List γ)} (mk : Nat → List γ → α) (xs : List τ) (g : τ → γ)
    (hstep : ∀ i zs v, xs[i]? = some v → i < xs.length → zs.length = xs.length → f (mk i zs) = some (.inl (mk (i + 1) (zs.set i (g v))))) (hend : ∀ zs, zs.length = xs.length → f (mk xs.length zs) = some (.inr zs)) :
    ∀ (K i : Nat) (zs : List γ), i ≤ xs.length → zs.length = xs.length → (∀ j, j < i → zs[j]? = (xs.map g)[j]?) → xs.length - i < K → iter K f (mk i zs) = some (xs.map g)
  | 0, _, _, _, _, _, hK => absurd hK (Nat.not_lt_zero _)
  | K + 1, i, zs, hi, hl, hz, hK => by
    rcases Nat.lt_or_ge i xs.length with hlt | hge
    · have hv := List.getElem?_eq_getElem hlt
      simp only [iter, hstep i zs _ hv hlt hl]
      refine loop_copy mk xs g hstep hend K (i + 1) _ hlt (by rw [List.length_set, hl]) (fun j hj => ?_) (by omega)
      rw [List.getElem?_set]
      by_cases hij : i = j
      · subst hij
        rw [if_pos rfl, if_pos (by omega), List.getElem?_map, hv]
        rfl
      · rw [if_neg hij]; exact hz j (by omega)
    · have : i = xs.length := by omega
      subst this
      simp only [iter, hend zs hl]
      congr 1
      apply List.ext_getElem?
      intro j
      rcases Nat.lt_or_ge j xs.length with hj | hj
      · exact hz j hj
      · rw [List.getElem?_eq_none (by omega), List.getElem?_eq_none (by simp; omega)]
theorem loop_copy0 {α τ γ : Type} {f : α → Option (α ⊕ List γ)} (mk : Nat → List γ → α) (xs : List τ) (g : τ → γ)
    (hstep : ∀ i zs v, xs[i]? = some v → i < xs.length → zs.length = xs.length → f (mk i zs) = some (.inl (mk (i + 1) (zs.set i (g v))))) (hend : ∀ zs, zs.length = xs.length → f (mk xs.length zs) = some (.inr zs))
    (K : Nat) (zs : List γ) (hl : zs.length = xs.length) (hK : xs.length < K) : iter K f (mk 0 zs) = some (xs.map g) :=
  loop_copy mk xs g hstep hend K 0 zs (Nat.zero_le _) hl (fun j hj => absurd hj (Nat.not_lt_zero _)) (by omega)
end Go.U
namespace Go.U
open Go
def bldH (T e : Nat) (x : Lf) : List BSh := [⟨2, false, .mix (some T) [[.l x, .l (.bb 1)]]⟩, ⟨1, true, .row (.y e)⟩]
theorem HK.pon_cases {w : World} {β : Nat → Option BA} {S : Nat → Prop} {b : Nat} {s : Nat} {mv : Bool} {ty : Option TypeId} {y : SV} {b' : Nat} (h : HK w β S b ⟨s, mv, .mix ty [[.pon b' 0 0, y]]⟩) :
    HK w β S b ⟨s, mv, .mix ty [[.d .nilp, y]]⟩ ∨ HK w β S b ⟨s, mv, .mix ty [[.ptr b' 0 0, y]]⟩ := by
  rcases h with (⟨h1, _⟩ | ⟨_, _, _, _, _, h1, _⟩) | ⟨ba, arr, ty', fz, h1, h2, h3, h4, h5, h6, h7, h8, h9⟩
  · cases h1
  · cases h1
  · have key : ∀ x : SV, (∀ u, arr[ba.o + 0 * s + 0]? = some u → u.oneCell' = true → RS w β S u (.pon b' 0 0) → RS w β S u x) → HK w β S b ⟨s, mv, .mix ty [[x, y]]⟩ := fun x hx => by
      refine .inr ⟨ba, arr, ty', fz, h1, h2, h3, h4, h5.to rfl rfl rfl rfl, h6, h7, fun e l hl => h8 e l ?_, fun e c sv hc => ?_⟩
      · cases e with
        | zero => simpa [BC.lens?] using hl
        | succ e => simp [BC.lens?] at hl
      · cases e with
        | succ e => simp [BC.cell?] at hc
        | zero =>
          cases c with
          | zero =>
            simp [BC.cell?] at hc; subst hc
            obtain ⟨u, u1, u2, u3⟩ := h9 0 0 (.pon b' 0 0) (by simp [BC.cell?])
            exact ⟨u, u1, u2, hx u u1 u2 u3⟩
          | succ c => exact h9 0 (c + 1) sv (by simpa [BC.cell?] using hc)
    obtain ⟨u, u1, u2, u3⟩ := h9 0 0 (.pon b' 0 0) (by simp [BC.cell?])
    cases u3 with
    | pon0 => exact .inl (key _ fun u' q1 _ _ => by
        have e : u' = .pointer none := Option.some.inj (q1.symm.trans u1)
        rw [e]; exact .d .nilp)
    | pon b e c ba' hb => exact .inr (key _ fun u' q1 _ _ => by
        have e' : u' = _ := Option.some.inj (q1.symm.trans u1)
        rw [e']; exact .ptr _ 0 0 ba' hb)
theorem bld_inv {T e : Nat} {x : Lf} {hs : List Blk} {ds : List D} (h : grabBs (bldH T e x) hs = some ds) :
    ∃ s0 m0 t0 p q k1, hs = [⟨s0, m0, .mix t0 [[p, q]]⟩, k1] := by
  match hs, h with
  | [k0, k1], h =>
    simp only [bldH, grabBs] at h
    obtain ⟨a, b, h1, h2, _⟩ := apO_some h
    obtain ⟨s0, m0, c0⟩ := k0
    simp only [grabB] at h1
    split at h1
    · cases c0 with
      | row t xs => cases h1
      | map t xs => cases h1
      | mix t0 els =>
        simp only at h1
        split at h1
        · rcases els with _ | ⟨l, _ | ⟨_, _⟩⟩
          · cases h1
          · rcases l with _ | ⟨p, _ | ⟨q, _ | ⟨_, _⟩⟩⟩
            · simp [grabEs, grabShs, apO] at h1
            · simp [grabEs, grabShs, apO] at h1
            · exact ⟨s0, m0, t0, p, q, k1, rfl⟩
            · simp [grabEs, grabShs, apO] at h1
          · simp [grabEs, apO] at h1
        · cases h1
    · cases h1
  | [], h => cases h
  | [_], h =>
    simp only [bldH, grabBs] at h
    obtain ⟨a, b, h1, h2, _⟩ := apO_some h
    cases h2
  | _ :: _ :: _ :: _, h =>
    simp only [bldH, grabBs] at h
    obtain ⟨a, b, h1, h2, _⟩ := apO_some h
    obtain ⟨a', b', h3, h4, _⟩ := apO_some h2
    cases h4
theorem bld_head {T e : Nat} {s0 : Nat} {m0 : Bool} {t0 : Option TypeId} {p q : SV} {k1 : Blk} {ds : List D} (h : grabBs (bldH T e (.pon 0 0 0)) [⟨s0, m0, .mix t0 [[p, q]]⟩, k1] = some ds) : p = .ptr 0 0 0 ∨ p = .pon 0 0 0 ∨ p = .d .nilp := by
  simp only [bldH, grabBs] at h
  obtain ⟨a, b, h1, h2, _⟩ := apO_some h
  simp only [grabB] at h1
  split at h1
  · split at h1
    · simp only [grabEs] at h1
      obtain ⟨a1, b1, h3, _, _⟩ := apO_some h1
      simp only [grabShs, grabSh] at h3
      obtain ⟨a2, b2, h4, _, _⟩ := apO_some h3
      cases p with
      | ptr b e c =>
        simp only [grabL] at h4
        split at h4
        · rename_i e; obtain ⟨rfl, rfl, rfl⟩ := e; exact .inl rfl
        · cases h4
      | pon b e c =>
        simp only [grabL] at h4
        split at h4
        · rename_i e; obtain ⟨rfl, rfl, rfl⟩ := e; exact .inr (.inl rfl)
        · cases h4
      | d x =>
        cases x with
        | nilp => exact .inr (.inr rfl)
        | _ => cases h4
      | _ => cases h4
    · cases h1
  · cases h1
theorem ct_bld {P : Program} [Gl P] {f T e : Nat} {ps rs : List Sh} {hr : List BSh} {refs : List Bool} {F : tup (tysShs ps ++ [.l (.y e)]) → Option (tup (tysShs rs ++ tysBs hr))}
    (hA : CtOk P f ⟨ps, bldH T e .nilp, rs, hr, refs, F⟩) (hB : CtOk P f ⟨ps, bldH T e (.ptr 0 0 0), rs, hr, refs, F⟩) : CtOk P f ⟨ps, bldH T e (.pon 0 0 0), rs, hr, refs, F⟩ := by
  intro w β S vs args hs res hs' hF hp
  have hg : ∃ ds, grabBs (bldH T e (.pon 0 0 0)) hs = some ds := by
    unfold funOf at hF
    split at hF
    · exact ⟨_, by assumption⟩
    · cases hF
  obtain ⟨ds, hg⟩ := hg
  obtain ⟨s0, m0, t0, p, q, k1, rfl⟩ := bld_inv hg
  rcases bld_head hg with rfl | rfl | rfl
  · exact hB w β S vs args _ res hs' hF hp
  · have hk := hp.hp 0 _ rfl
    have sw : ∀ x : SV, HK w β S 0 ⟨s0, m0, .mix t0 [[x, q]]⟩ → Pre P w β S vs args [⟨s0, m0, .mix t0 [[x, q]]⟩, k1] := fun x hx =>
      ⟨hp.sz, hp.args, fun j k hj => by
        cases j with
        | zero => simp at hj; subst hj; exact ⟨hx, hk.2⟩
        | succ j => exact hp.hp (j + 1) k (by simpa using hj), hp.inj, hp.excl, hp.sbd, hp.n, hp.gl⟩
    have back : ∀ x : SV, (CallX P f vs w fun e w' => ∃ v β' S', e = .returned v ∧ Post w w' β β' S S' [⟨s0, m0, .mix t0 [[x, q]]⟩, k1] hs' v res) →
        CallX P f vs w fun e w' => ∃ v β' S', e = .returned v ∧ Post w w' β β' S S' [⟨s0, m0, .mix t0 [[.pon 0 0 0, q]]⟩, k1] hs' v res := fun x h =>
      h.mono fun e w' ⟨v, β', S', he, hq⟩ => ⟨v, β', S', he, hq.ret, hq.len, hq.hp, hq.inj, hq.excl, hq.loc, hq.fix, hq.sS, hq.s1, hq.os, hq.tape, hq.out, hq.size, hq.frame⟩
    rcases HK.pon_cases hk.1 with h | h
    · exact back (.d .nilp) (hA w β S vs args [⟨s0, m0, .mix t0 [[.d .nilp, q]]⟩, k1] res hs' hF (sw _ h))
    · exact back (.ptr 0 0 0) (hB w β S vs args [⟨s0, m0, .mix t0 [[.ptr 0 0 0, q]]⟩, k1] res hs' hF (sw _ h))
  · exact hA w β S vs args _ res hs' hF hp
end Go.U
namespace Go.U
open Go
theorem post_same {P : Program} [Gl P] {w : World} {β : Nat → Option BA} {S : Nat → Prop} {vs : Array Value} {args res : List SV} {hs hs' : List Blk} {v : Value} (hp : Pre P w β S vs args hs) (hsub : BSubs hs hs') (hv : RS w β S v (retSV res)) : Post w w β β S S hs hs' v res := by
  have hl := hsub.len
  refine ⟨hv, by omega, fun j k hk => ?_, fun j j' ba ba' h1 h2 => hp.inj j j' ba ba' (by omega) (by omega), fun j ba h1 => hp.excl j ba (by omega), fun j ba h1 h2 => .inl ⟨j, ba, by omega, h2, rfl⟩, fun _ _ _ _ _ => rfl, fun _ h => h, fun k hk => ⟨hp.sbd k hk, .inl hk⟩, rfl, rfl, rfl, Nat.le_refl _, fun _ _ _ => rfl⟩
  obtain ⟨k0, h1, h2⟩ := hsub.get j k hk
  exact (hp.hp j k0 h1).1.sub h2
def ctNoEscape (T e : Nat) : Ct := ⟨[.l (.ptr 0 0 0)], bldH T e .nilp, [.l (.ptr 0 0 0)], bldH T e .nilp, [], fun x => some x⟩
theorem ct_noEscape {P : Program} [Gl P] {f T e : Nat} (hrun : ∀ v w, (callFunc f #[v]).run P w = .ok (.value v) w) : CtOk P f (ctNoEscape T e) := by
  intro w β S vs args hs res hs' hF hp
  unfold funOf at hF
  split at hF
  case h_2 => cases hF
  rename_i a b ha hb
  obtain ⟨x, hx, hds⟩ := unDs_spec _ _ _ hF
  have hargs : args = [.ptr 0 0 0] ∧ a = [] := by
    match args, ha with
    | [p], ha =>
      simp only [ctNoEscape, grabShs, grabSh] at ha
      obtain ⟨a1, b1, h1, h2, h3⟩ := apO_some ha
      cases h2
      cases p with
      | ptr b e c =>
        simp only [grabL] at h1
        split at h1
        · rename_i q; obtain ⟨rfl, rfl, rfl⟩ := q; cases h1; exact ⟨rfl, h3⟩
        · cases h1
      | d x => cases x <;> cases h1
      | _ => cases h1
    | [], ha => cases ha
    | p :: q :: l, ha =>
      simp only [ctNoEscape, grabShs, grabSh] at ha
      obtain ⟨a1, b1, h1, h2, h3⟩ := apO_some ha
      cases h2
  obtain ⟨rfl, rfl⟩ := hargs
  have hx' : some (fillShs [Sh.l (.ptr 0 0 0)] (toDs _ x) fun vs ds => fillBs (bldH T e .nilp) ds fun ks _ => (vs, ks)) = some (res, hs') := hx
  simp only [fillShs, fillSh, fillL, Option.some.injEq] at hx'
  obtain ⟨ks, g1, g2⟩ := fillBs_grab hb (es := toDs _ x) hds [] fun ks _ => ([SV.ptr 0 0 0], ks)
  rw [List.append_nil] at g1
  have g3 : ([SV.ptr 0 0 0], ks) = (res, hs') := g1.symm.trans hx'
  cases g3
  have hsz := hp.sz
  obtain ⟨v, rfl⟩ : ∃ v, vs = #[v] := by
    refine ⟨vs[0]'(by simp at hsz; omega), ?_⟩
    apply Array.ext
    · simpa using hsz
    · intro i h1 h2
      simp at h2; subst h2; rfl
  exact .inr ⟨v, w, hrun v w, v, β, S, rfl, post_same hp g2 (hp.args 0 v _ rfl rfl)⟩
end Go.U
namespace Go.U
open Go Go.RowKit
theorem grab_v {t : Ty} {v : SV} {l : List D} (h : grabL (.v t) v = some l) : ∃ d, v = .d d ∧ l = [d] := by
  cases v with
  | d x => exact ⟨x, rfl, (Option.some.inj h).symm⟩
  | _ => cases h
theorem dsub_str {d : D} {z : List UInt8} (h : DSub d (.str z)) : d = .str z := by
  rcases h with h | ⟨_, _, h⟩
  · exact h.symm
  · cases h
theorem dsub_i {d : D} {k : IntKind} {n : Int} (h : DSub d (.i k n)) : d = .i k n := by
  rcases h with h | ⟨_, _, h⟩
  · exact h.symm
  · cases h
theorem ct_sis {P : Program} [Gl P] {f : Nat} (F : List UInt8 × Int → Option (List UInt8)) (hent : ∀ args w, (callFunc f args).run P w = .ok (.enter f args) w)
    (h : ∀ l n r w, F (l, n) = some r → Calls P f #[.string ⟨l.toArray⟩, .int .i64 n] w fun e w' => e = .returned (.string ⟨r.toArray⟩) ∧ Below w.heap.size w w') :
    CtOk P f ⟨[.l (.v .s), .l (.v (.i .i64))], [], [.l (.v .s)], [], [], F⟩ := by
  intro w β S vs args hs res hs' hF hp
  unfold funOf at hF
  split at hF
  case h_2 => cases hF
  rename_i a b ha hb
  obtain ⟨d0, d1, rfl, rfl⟩ : ∃ d0 d1, args = [.d d0, .d d1] ∧ a = [d0, d1] := by
    match args, ha with
    | [p, q], ha =>
      simp only [grabShs, grabSh] at ha
      obtain ⟨a1, b1, h1, h2, h3⟩ := apO_some ha
      obtain ⟨a2, b2, h4, h5, h6⟩ := apO_some h2
      obtain ⟨d0, rfl, rfl⟩ := grab_v h1
      obtain ⟨d1, rfl, rfl⟩ := grab_v h4
      cases h5
      exact ⟨d0, d1, rfl, by rw [h3, h6]; rfl⟩
    | [], ha => cases ha
    | [p], ha =>
      simp only [grabShs, grabSh] at ha
      obtain ⟨a1, b1, h1, h2, h3⟩ := apO_some ha
      cases h2
    | p :: q :: r :: t, ha =>
      simp only [grabShs, grabSh] at ha
      obtain ⟨a1, b1, h1, h2, h3⟩ := apO_some ha
      obtain ⟨a2, b2, h4, h5, h6⟩ := apO_some h2
      cases h5
  obtain ⟨rfl, rfl⟩ : hs = [] ∧ b = [] := by
    match hs, hb with
    | [], hb => cases hb; exact ⟨rfl, rfl⟩
    | _ :: _, hb => cases hb
  obtain ⟨⟨l, n⟩, hx, hd⟩ := unDs_spec _ _ _ hF
  have e0 : d0 = .str l := dsub_str hd.1
  have e1 : d1 = .i .i64 n := dsub_i hd.2.1
  subst e0 e1
  have hF' : (bindO (F (l, n)) fun r => some ([SV.d (.str r)], ([] : List Blk))) = some (res, hs') := hx
  obtain ⟨r, hr, h2⟩ := bindO_some hF'
  cases h2
  have hsz := hp.sz
  obtain ⟨v0, v1, rfl⟩ : ∃ v0 v1, vs = #[v0, v1] := by
    have : vs.size = 2 := hsz
    refine ⟨vs[0]'(by omega), vs[1]'(by omega), ?_⟩
    apply Array.ext
    · simpa using this
    · intro i h1 h2
      simp at h2
      match i, h2 with
      | 0, _ => rfl
      | 1, _ => rfl
      | i + 2, h2 => omega
  have r0 := hp.args 0 v0 _ rfl rfl
  have r1 := hp.args 1 v1 _ rfl rfl
  have e0 : v0 = .string ⟨l.toArray⟩ := by cases r0 with | d h => cases h; rfl
  have e1 : v1 = .int .i64 n := by cases r1 with | d h => cases h; rfl
  subst e0 e1
  refine .inl ⟨hent _ _, (h l n r w hr).mono fun e w' ⟨he, bel⟩ => ⟨_, β, S, he, ?_⟩⟩
  exact ⟨.d (.str r), by simp, fun j k hk => by simp at hk, fun j j' ba ba' h1 => by simp at h1, fun j ba h1 => by simp at h1, fun j ba h1 => by simp at h1, fun j k h1 => by simp at h1, fun _ h => h,
    fun k hk => ⟨Nat.lt_of_lt_of_le (hp.sbd k hk) bel.size, .inl hk⟩, bel.os, bel.tape, bel.output, bel.size, fun k hk _ => bel.block k hk⟩
def repF (x : List UInt8 × Int) : Option (List UInt8) := guard (decide (0 ≤ x.2 ∧ x.2 ≤ 9223372036854775807 ∧ x.1.length * x.2.toNat ≤ 140737488355328)) (some (Lib.repeatL x.1 x.2.toNat))
end Go.U
namespace Go.U
open Go Go.RowKit
theorem dsub_leaf {d : D} {t : Ty} {x : t.den} (h : DSub d (leafD t x)) (hl : ∀ u, t ≠ .l u) : d = leafD t x := by
  rcases h with h | ⟨_, _, h⟩
  · exact h.symm
  · cases t <;> first | exact absurd rfl (hl _) | cases h
theorem grab2 {t u : Ty} {args : List SV} {a : List D} (h : grabShs [.l (.v t), .l (.v u)] args = some a) : ∃ d e, args = [.d d, .d e] ∧ a = [d, e] := by
  match args, h with
  | [p, q], h =>
    simp only [grabShs, grabSh] at h
    obtain ⟨a1, b1, h1, h2, h3⟩ := apO_some h
    obtain ⟨a2, b2, h4, h5, h6⟩ := apO_some h2
    obtain ⟨d0, rfl, rfl⟩ := grab_v h1
    obtain ⟨d1, rfl, rfl⟩ := grab_v h4
    cases h5
    exact ⟨d0, d1, rfl, by rw [h3, h6]; rfl⟩
  | [], h => cases h
  | [p], h =>
    simp only [grabShs, grabSh] at h
    obtain ⟨a1, b1, h1, h2, h3⟩ := apO_some h
    cases h2
  | p :: q :: r :: t, h =>
    simp only [grabShs, grabSh] at h
    obtain ⟨a1, b1, h1, h2, h3⟩ := apO_some h
    obtain ⟨a2, b2, h4, h5, h6⟩ := apO_some h2
    cases h5
theorem grab1 {t : Ty} {args : List SV} {a : List D} (h : grabShs [.l (.v t)] args = some a) : ∃ d, args = [.d d] ∧ a = [d] := by
  match args, h with
  | [p], h =>
    simp only [grabShs, grabSh] at h
    obtain ⟨a1, b1, h1, h2, h3⟩ := apO_some h
    obtain ⟨d0, rfl, rfl⟩ := grab_v h1
    cases h2
    exact ⟨d0, rfl, by rw [h3]; rfl⟩
  | [], h => cases h
  | p :: q :: t, h =>
    simp only [grabShs, grabSh] at h
    obtain ⟨a1, b1, h1, h2, h3⟩ := apO_some h
    cases h2
theorem grab0 {hs : List Blk} {b : List D} (h : grabBs [] hs = some b) : hs = [] ∧ b = [] := by
  match hs, h with
  | [], h => cases h; exact ⟨rfl, rfl⟩
  | _ :: _, h => cases h
def Fresh (w w' : World) (k : Nat) : Prop := w.heap.size ≤ k ∧ k < w'.heap.size
theorem post_data {P : Program} [Gl P] {w w' : World} {β : Nat → Option BA} {S : Nat → Prop} {vs : Array Value} {args : List SV} {v : Value} {d : D} (hp : Pre P w β S vs args []) (hv : RD w' (Fresh w w') v d) (bel : Below w.heap.size w w') :
    Post w w' β β S (fun k => S k ∨ Fresh w w' k) [] [] v [.d d] := by
  refine ⟨.d (hv.mono (fun k hk => ⟨.inr hk, rfl⟩) (Nat.le_refl _)), by simp, fun j k hk => by simp at hk, fun j j' ba ba' h1 => by simp at h1, fun j ba h1 => by simp at h1, fun j ba h1 => by simp at h1, fun j k h1 => by simp at h1, fun _ h => .inl h,
    fun k hk => ?_, bel.os, bel.tape, bel.output, bel.size, fun k hk _ => bel.block k hk⟩
  rcases hk with hk | hk
  · exact ⟨Nat.lt_of_lt_of_le (hp.sbd k hk) bel.size, .inl hk⟩
  · exact ⟨hk.2, .inr hk.1⟩
section
variable {P : Program} [Gl P] {f : Nat} {rt : Ty}
theorem ct_ss (F : List UInt8 × List UInt8 → Option rt.den) (hent : ∀ args w, (callFunc f args).run P w = .ok (.enter f args) w)
    (h : ∀ l m r w, (∀ g, g ∈ Gl.l P → GlAt P w g) → F (l, m) = some r → Calls P f #[.string ⟨l.toArray⟩, .string ⟨m.toArray⟩] w fun e w' => ∃ v, e = .returned v ∧ RD w' (Fresh w w') v (leafD rt r) ∧ Below w.heap.size w w') :
    CtOk P f ⟨[.l (.v .s), .l (.v .s)], [], [.l (.v rt)], [], [], F⟩ := by
  intro w β S vs args hs res hs' hF hp
  unfold funOf at hF
  split at hF
  case h_2 => cases hF
  rename_i a b ha hb
  obtain ⟨d0, d1, rfl, rfl⟩ := grab2 ha
  obtain ⟨rfl, rfl⟩ := grab0 hb
  obtain ⟨⟨l, m⟩, hx, hd⟩ := unDs_spec _ _ _ hF
  have e0 : d0 = .str l := dsub_str hd.1
  have e1 : d1 = .str m := dsub_str hd.2.1
  subst e0 e1
  have hF' : (bindO (F (l, m)) fun r => some ([SV.d (leafD rt r)], ([] : List Blk))) = some (res, hs') := hx
  obtain ⟨r, hr, h2⟩ := bindO_some hF'
  cases h2
  have hsz := hp.sz
  obtain ⟨v0, v1, rfl⟩ : ∃ v0 v1, vs = #[v0, v1] := by
    have : vs.size = 2 := hsz
    refine ⟨vs[0]'(by omega), vs[1]'(by omega), ?_⟩
    apply Array.ext
    · simpa using this
    · intro i h1 h2
      simp at h2
      match i, h2 with
      | 0, _ => rfl
      | 1, _ => rfl
      | i + 2, h2 => omega
  have r0 := hp.args 0 v0 _ rfl rfl
  have r1 := hp.args 1 v1 _ rfl rfl
  have e0 : v0 = .string ⟨l.toArray⟩ := by cases r0 with | d h => cases h; rfl
  have e1 : v1 = .string ⟨m.toArray⟩ := by cases r1 with | d h => cases h; rfl
  subst e0 e1
  refine .inl ⟨hent _ _, (h l m r w (fun g hg => (hp.gl g hg).2) hr).mono fun e w' ⟨v, he, hv, bel⟩ => ⟨v, β, _, he, post_data hp hv bel⟩⟩
theorem ct_s (F : List UInt8 → Option rt.den) (hent : ∀ args w, (callFunc f args).run P w = .ok (.enter f args) w)
    (h : ∀ l r w, (∀ g, g ∈ Gl.l P → GlAt P w g) → F l = some r → Calls P f #[.string ⟨l.toArray⟩] w fun e w' => ∃ v, e = .returned v ∧ RD w' (Fresh w w') v (leafD rt r) ∧ Below w.heap.size w w') :
    CtOk P f ⟨[.l (.v .s)], [], [.l (.v rt)], [], [], F⟩ := by
  intro w β S vs args hs res hs' hF hp
  unfold funOf at hF
  split at hF
  case h_2 => cases hF
  rename_i a b ha hb
  obtain ⟨d0, rfl, rfl⟩ := grab1 ha
  obtain ⟨rfl, rfl⟩ := grab0 hb
  obtain ⟨l, hx, hd⟩ := unDs_spec _ _ _ hF
  have e0 : d0 = .str l := dsub_str hd.1
  subst e0
  have hF' : (bindO (F l) fun r => some ([SV.d (leafD rt r)], ([] : List Blk))) = some (res, hs') := hx
  obtain ⟨r, hr, h2⟩ := bindO_some hF'
  cases h2
  have hsz := hp.sz
  obtain ⟨v0, rfl⟩ : ∃ v0, vs = #[v0] := by
    have : vs.size = 1 := hsz
    refine ⟨vs[0]'(by omega), ?_⟩
    apply Array.ext
    · simpa using this
    · intro i h1 h2
      simp at h2
      subst h2; rfl
  have r0 := hp.args 0 v0 _ rfl rfl
  have e0 : v0 = .string ⟨l.toArray⟩ := by cases r0 with | d h => cases h; rfl
  subst e0
  refine .inl ⟨hent _ _, (h l r w (fun g hg => (hp.gl g hg).2) hr).mono fun e w' ⟨v, he, hv, bel⟩ => ⟨v, β, _, he, post_data hp hv bel⟩⟩
theorem ct_i {q : IntKind} (F : Int → Option rt.den) (hent : ∀ args w, (callFunc f args).run P w = .ok (.enter f args) w)
    (h : ∀ l r w, (∀ g, g ∈ Gl.l P → GlAt P w g) → F l = some r → Calls P f #[.int q l] w fun e w' => ∃ v, e = .returned v ∧ RD w' (Fresh w w') v (leafD rt r) ∧ Below w.heap.size w w') :
    CtOk P f ⟨[.l (.v (.i q))], [], [.l (.v rt)], [], [], F⟩ := by
  intro w β S vs args hs res hs' hF hp
  unfold funOf at hF
  split at hF
  case h_2 => cases hF
  rename_i a b ha hb
  obtain ⟨d0, rfl, rfl⟩ := grab1 ha
  obtain ⟨rfl, rfl⟩ := grab0 hb
  obtain ⟨l, hx, hd⟩ := unDs_spec _ _ _ hF
  have e0 : d0 = .i q l := dsub_i hd.1
  subst e0
  have hF' : (bindO (F l) fun r => some ([SV.d (leafD rt r)], ([] : List Blk))) = some (res, hs') := hx
  obtain ⟨r, hr, h2⟩ := bindO_some hF'
  cases h2
  have hsz := hp.sz
  obtain ⟨v0, rfl⟩ : ∃ v0, vs = #[v0] := by
    have : vs.size = 1 := hsz
    refine ⟨vs[0]'(by omega), ?_⟩
    apply Array.ext
    · simpa using this
    · intro i h1 h2
      simp at h2
      subst h2; rfl
  have r0 := hp.args 0 v0 _ rfl rfl
  have e0 : v0 = .int q l := by cases r0 with | d h => cases h; rfl
  subst e0
  refine .inl ⟨hent _ _, (h l r w (fun g hg => (hp.gl g hg).2) hr).mono fun e w' ⟨v, he, hv, bel⟩ => ⟨v, β, _, he, post_data hp hv bel⟩⟩
theorem ct_ii (F : Int × Int → Option rt.den) (hent : ∀ args w, (callFunc f args).run P w = .ok (.enter f args) w)
    (h : ∀ l m r w, (∀ g, g ∈ Gl.l P → GlAt P w g) → F (l, m) = some r → Calls P f #[.int .i64 l, .int .i64 m] w fun e w' => ∃ v, e = .returned v ∧ RD w' (Fresh w w') v (leafD rt r) ∧ Below w.heap.size w w') :
    CtOk P f ⟨[.l (.v (.i .i64)), .l (.v (.i .i64))], [], [.l (.v rt)], [], [], F⟩ := by
  intro w β S vs args hs res hs' hF hp
  unfold funOf at hF
  split at hF
  case h_2 => cases hF
  rename_i a b ha hb
  obtain ⟨d0, d1, rfl, rfl⟩ := grab2 ha
  obtain ⟨rfl, rfl⟩ := grab0 hb
  obtain ⟨⟨l, m⟩, hx, hd⟩ := unDs_spec _ _ _ hF
  have e0 : d0 = .i .i64 l := dsub_i hd.1
  have e1 : d1 = .i .i64 m := dsub_i hd.2.1
  subst e0 e1
  have hF' : (bindO (F (l, m)) fun r => some ([SV.d (leafD rt r)], ([] : List Blk))) = some (res, hs') := hx
  obtain ⟨r, hr, h2⟩ := bindO_some hF'
  cases h2
  have hsz := hp.sz
  obtain ⟨v0, v1, rfl⟩ : ∃ v0 v1, vs = #[v0, v1] := by
    have : vs.size = 2 := hsz
    refine ⟨vs[0]'(by omega), vs[1]'(by omega), ?_⟩
    apply Array.ext
    · simpa using this
    · intro i h1 h2
      simp at h2
      match i, h2 with
      | 0, _ => rfl
      | 1, _ => rfl
      | i + 2, h2 => omega
  have r0 := hp.args 0 v0 _ rfl rfl
  have r1 := hp.args 1 v1 _ rfl rfl
  have e0 : v0 = .int .i64 l := by cases r0 with | d h => cases h; rfl
  have e1 : v1 = .int .i64 m := by cases r1 with | d h => cases h; rfl
  subst e0 e1
  refine .inl ⟨hent _ _, (h l m r w (fun g hg => (hp.gl g hg).2) hr).mono fun e w' ⟨v, he, hv, bel⟩ => ⟨v, β, _, he, post_data hp hv bel⟩⟩
theorem ct_none {ps : List Sh} {hs : List BSh} {rs : List Sh} {hr : List BSh} {refs : List Bool} : CtOk P f ⟨ps, hs, rs, hr, refs, fun _ => none⟩ := by
  intro w β S vs args hs res hs' hF hp
  exfalso
  unfold funOf at hF
  split at hF
  case h_2 => cases hF
  obtain ⟨x, hx, _⟩ := unDs_spec _ _ _ hF
  cases hx
end
end Go.U
namespace Go.U
open Go
def okL : Lf → Bool
  | .v _ => true
  | .ptr _ _ _ => true
  | _ => false
def okSh : Sh → Bool
  | .l x => okL x
  | _ => false
def okB (b : BSh) : Bool := !b.mv && (match b.c with
  | .row _ => true
  | .mix (some _) els => els.all fun l => l.all okSh
  | _ => false)
theorem fillL_exact {α : Type} {x : Lf} {v : SV} {ds : List D} (h : grabL x v = some ds) (ho : okL x = true) (hv : exactV v = true) : (∀ (r : List D) (q : SV → List D → α), fillL x (ds ++ r) q = q v r) ∧ ∀ d ∈ ds, d ≠ .emp := by
  cases x with
  | v t =>
    obtain ⟨d, rfl, rfl⟩ := grab_v h
    refine ⟨fun r q => rfl, fun d' hd => ?_⟩
    simp at hd; subst hd
    intro e; subst e; cases hv
  | ptr b e c =>
    cases v with
    | ptr b' e' c' =>
      simp only [grabL] at h
      split at h
      · rename_i hh; obtain ⟨rfl, rfl, rfl⟩ := hh
        cases h
        exact ⟨fun r q => rfl, fun d hd => by simp at hd⟩
      · cases h
    | _ => simp [grabL] at h
  | _ => cases ho
theorem fillShs_exact {α : Type} : ∀ {xs : List Sh} {vs : List SV} {ds : List D}, grabShs xs vs = some ds → xs.all okSh = true → vs.all exactV = true → (∀ (r : List D) (q : List SV → List D → α), fillShs xs (ds ++ r) q = q vs r) ∧ ∀ d ∈ ds, d ≠ .emp
  | [], [], ds, h, _, _ => by cases h; exact ⟨fun r q => rfl, fun d hd => by simp at hd⟩
  | x :: xs, v :: vs, ds, h, ho, hv => by
    simp only [List.all_cons, Bool.and_eq_true] at ho hv
    obtain ⟨a, b, h1, h2, rfl⟩ := apO_some h
    cases x with
    | l x =>
      have g1 := fun (r : List D) (q : SV → List D → α) => (fillL_exact (α := α) h1 ho.1 hv.1).1 r q
      have g2 := (fillL_exact (α := α) h1 ho.1 hv.1).2
      obtain ⟨g3, g4⟩ := fillShs_exact (α := α) h2 ho.2 hv.2
      refine ⟨fun r q => ?_, fun d hd => ?_⟩
      · simp only [fillShs, fillSh, List.append_assoc]
        rw [g1, g3]
      · rw [List.mem_append] at hd
        exact hd.elim (g2 d) (g4 d)
    | _ => simp [okSh] at ho
  | [], _ :: _, _, h, _, _ => by cases h
  | _ :: _, [], _, h, _, _ => by cases h
theorem fillEs_exact {α : Type} : ∀ {xs : List (List Sh)} {vs : List (List SV)} {ds : List D}, grabEs xs vs = some ds → (xs.all fun l => l.all okSh) = true → (vs.all fun l => l.all exactV) = true → (∀ (r : List D) (q : List (List SV) → List D → α), fillEs xs (ds ++ r) q = q vs r) ∧ ∀ d ∈ ds, d ≠ .emp
  | [], [], ds, h, _, _ => by cases h; exact ⟨fun r q => rfl, fun d hd => by simp at hd⟩
  | x :: xs, v :: vs, ds, h, ho, hv => by
    simp only [List.all_cons, Bool.and_eq_true] at ho hv
    obtain ⟨a, b, h1, h2, rfl⟩ := apO_some h
    obtain ⟨g1, g2⟩ := fillShs_exact (α := α) h1 ho.1 hv.1
    obtain ⟨g3, g4⟩ := fillEs_exact (α := α) h2 ho.2 hv.2
    refine ⟨fun r q => ?_, fun d hd => ?_⟩
    · simp only [fillEs, List.append_assoc]
      rw [g1, g3]
    · rw [List.mem_append] at hd
      exact hd.elim (g2 d) (g4 d)
  | [], _ :: _, _, h, _, _ => by cases h
  | _ :: _, [], _, h, _, _ => by cases h
theorem fillB_exact {α : Type} {b : BSh} {k : Blk} {ds : List D} (h : grabB b k = some ds) (ho : okB b = true) (hv : exactB k = true) : (∀ (r : List D) (q : Blk → List D → α), fillB b (ds ++ r) q = q k r) ∧ ∀ d ∈ ds, d ≠ .emp := by
  obtain ⟨s, mv, c⟩ := b
  obtain ⟨s', mv', c'⟩ := k
  simp only [okB, exactB, Bool.and_eq_true, Bool.not_eq_true'] at ho hv
  obtain ⟨hm, ho⟩ := ho
  obtain ⟨hm', hv⟩ := hv
  subst hm hm'
  simp only [grabB] at h
  split at h
  case isFalse => cases h
  rename_i hs
  obtain ⟨rfl, _⟩ := hs
  cases c with
  | row t =>
    cases c' with
    | row t' xs =>
      simp only at h
      split at h
      · rename_i e; subst e; cases h
        exact ⟨fun r q => rfl, fun d hd => by simp at hd; subst hd; intro e; cases e⟩
      · cases h
    | mix => cases h
    | map => cases h
  | map t => simp at ho
  | mix ty els =>
    cases c' with
    | row => cases h
    | map => cases h
    | mix ty' vs =>
      cases ty with
      | none => simp at ho
      | some t =>
        simp only at h ho hv
        split at h
        case isFalse => cases h
        rename_i ht
        have : ty' = some t := by
          cases ty' with
          | none => cases ht
          | some t' => simp only [tyLe, beq_iff_eq] at ht; rw [ht]
        subst this
        obtain ⟨g1, g2⟩ := fillEs_exact (α := α) h ho hv
        refine ⟨fun r q => ?_, g2⟩
        simp only [fillB]
        rw [g1]
theorem fillBs_exact {α : Type} : ∀ {xs : List BSh} {ks : List Blk} {ds : List D}, grabBs xs ks = some ds → xs.all okB = true → ks.all exactB = true → (∀ (r : List D) (q : List Blk → List D → α), fillBs xs (ds ++ r) q = q ks r) ∧ ∀ d ∈ ds, d ≠ .emp
  | [], [], ds, h, _, _ => by cases h; exact ⟨fun r q => rfl, fun d hd => by simp at hd⟩
  | x :: xs, v :: vs, ds, h, ho, hv => by
    simp only [List.all_cons, Bool.and_eq_true] at ho hv
    obtain ⟨a, b, h1, h2, rfl⟩ := apO_some h
    obtain ⟨g1, g2⟩ := fillB_exact (α := α) h1 ho.1 hv.1
    obtain ⟨g3, g4⟩ := fillBs_exact (α := α) h2 ho.2 hv.2
    refine ⟨fun r q => ?_, fun d hd => ?_⟩
    · simp only [fillBs, List.append_assoc]
      rw [g1, g3]
    · rw [List.mem_append] at hd
      exact hd.elim (g2 d) (g4 d)
  | [], _ :: _, _, h, _, _ => by cases h
  | _ :: _, [], _, h, _, _ => by cases h
theorem DSubs.same : ∀ {a b : List D}, DSubs a b → (∀ d ∈ a, d ≠ .emp) → b = a
  | [], [], _, _ => rfl
  | x :: a, y :: b, h, hn => by
    have hx : y = x := by
      rcases h.1 with e | ⟨e, _⟩
      · exact e
      · exact absurd e (hn x (List.mem_cons_self ..))
    rw [hx, DSubs.same h.2 fun d hd => hn d (List.mem_cons_of_mem _ hd)]
  | [], _ :: _, h, _ => h.elim
  | _ :: _, [], h, _ => h.elim
theorem DSubs.leng : ∀ {a b : List D}, DSubs a b → b.length = a.length
  | [], [], _ => rfl
  | x :: a, y :: b, h => by simp [DSubs.leng h.2]
  | [], _ :: _, h => h.elim
  | _ :: _, [], h => h.elim
theorem grabL_len {x : Lf} {v : SV} {ds : List D} (h : grabL x v = some ds) : ds.length = x.tys.length := by
  unfold grabL at h
  split at h <;> first | (cases h; rfl) | (split at h <;> first | (cases h; rfl) | (cases h)) | cases h
theorem grabLs_len : ∀ {xs : List Lf} {vs : List SV} {ds : List D}, grabLs xs vs = some ds → ds.length = (tysLs xs).length
  | [], [], _, h => by cases h; rfl
  | x :: xs, v :: vs, ds, h => by
    obtain ⟨a, b, h1, h2, rfl⟩ := apO_some h
    simp [tysLs, grabL_len h1, grabLs_len h2]
  | [], _ :: _, _, h => by cases h
  | _ :: _, [], _, h => by cases h
theorem grabSh_len {x : Sh} {v : SV} {ds : List D} (h : grabSh x v = some ds) : ds.length = x.tys.length := by
  unfold grabSh at h
  split at h
  · exact grabL_len h
  · exact grabLs_len h
  · split at h
    · exact grabLs_len h
    · cases h
  · cases h
theorem grabShs_len : ∀ {xs : List Sh} {vs : List SV} {ds : List D}, grabShs xs vs = some ds → ds.length = (tysShs xs).length
  | [], [], _, h => by cases h; rfl
  | x :: xs, v :: vs, ds, h => by
    obtain ⟨a, b, h1, h2, rfl⟩ := apO_some h
    simp [tysShs, grabSh_len h1, grabShs_len h2]
  | [], _ :: _, _, h => by cases h
  | _ :: _, [], _, h => by cases h
theorem fillL_drop {α : Type} (x : Lf) (ds : List D) (k : SV → List D → α) : ∃ v, fillL x ds k = k v (ds.drop x.tys.length) := by
  cases x with
  | v t => cases ds with
    | nil => exact ⟨_, rfl⟩
    | cons d ds => exact ⟨_, rfl⟩
  | k q n => cases ds with
    | nil => exact ⟨_, rfl⟩
    | cons d ds => exact ⟨_, rfl⟩
  | _ => exact ⟨_, rfl⟩
theorem fillLs_drop {α : Type} : ∀ (xs : List Lf) (ds : List D) (k : List SV → List D → α), ∃ vs, fillLs xs ds k = k vs (ds.drop (tysLs xs).length)
  | [], ds, k => ⟨[], rfl⟩
  | x :: xs, ds, k => by
    obtain ⟨v, h1⟩ := fillL_drop x ds fun v ds => fillLs xs ds fun vs ds => k (v :: vs) ds
    obtain ⟨vs, h2⟩ := fillLs_drop xs (ds.drop x.tys.length) fun vs ds => k (v :: vs) ds
    refine ⟨v :: vs, ?_⟩
    simp only [fillLs]
    rw [h1, h2, List.drop_drop]
    simp [tysLs]
theorem fillSh_drop {α : Type} (x : Sh) (ds : List D) (k : SV → List D → α) : ∃ v, fillSh x ds k = k v (ds.drop x.tys.length) := by
  cases x with
  | l x => exact fillL_drop x ds k
  | agg xs => obtain ⟨vs, h⟩ := fillLs_drop xs ds fun vs ds => k (.agg vs) ds; exact ⟨_, h⟩
  | clo f xs => obtain ⟨vs, h⟩ := fillLs_drop xs ds fun vs ds => k (.clo f vs) ds; exact ⟨_, h⟩
theorem fillShs_drop {α : Type} : ∀ (xs : List Sh) (ds : List D) (k : List SV → List D → α), ∃ vs, fillShs xs ds k = k vs (ds.drop (tysShs xs).length)
  | [], ds, k => ⟨[], rfl⟩
  | x :: xs, ds, k => by
    obtain ⟨v, h1⟩ := fillSh_drop x ds fun v ds => fillShs xs ds fun vs ds => k (v :: vs) ds
    obtain ⟨vs, h2⟩ := fillShs_drop xs (ds.drop x.tys.length) fun vs ds => k (v :: vs) ds
    refine ⟨v :: vs, ?_⟩
    simp only [fillShs]
    rw [h1, h2, List.drop_drop]
    simp [tysShs]
def keepRefs : List Bool := [false, false, false, false, false, false, false, false, false, false, false, false, false, false, false, false, false, false, false, false, false, false, false, false, false, false, false, false, false, false, false, false, false, false, false, false, false, false, false, false, false, false, false, false, false, false, false, false, false, false, true]
theorem ct_keep {P : Program} [Gl P] {f : Nat} {c : Ct} (h : CtOk P f c) (hr : c.hr = c.hs) (ok : c.hs.all okB = true)
    (hF : ∀ x y, c.F x = some y → (toDs (tysShs c.rs ++ tysBs c.hr) y).drop (tysShs c.rs).length = (toDs (tysShs c.ps ++ tysBs c.hs) x).drop (tysShs c.ps).length) : CtKeep P f c := by
  intro w β S vs args hs res hs2 hFk hp
  unfold funOfK at hFk
  split at hFk
  case h_2 => cases hFk
  rename_i hex
  split at hFk
  case h_2 => cases hFk
  rename_i p hp0
  cases hFk
  have hp2 : p.2 = hs := by
    obtain ⟨a, b, ha, hb, x, y, hy, hds, hpp⟩ := funOf_some hp0
    obtain ⟨us, e⟩ := fillShs_drop c.rs (toDs (tysShs c.rs ++ tysBs c.hr) y) fun vs ds => fillBs c.hr ds fun ks _ => (vs, ks)
    rw [e, hF x y hy] at hpp
    obtain ⟨e1, e2, he, h3, h4⟩ := DSubs.split hds
    have hl : e1.length = (tysShs c.ps).length := by rw [h3.leng, grabShs_len ha]
    rw [he, ← hl, List.drop_left, hr] at hpp
    obtain ⟨g1, g2⟩ := fillBs_exact (α := List SV × List Blk) hb ok hex
    have hb2 := DSubs.same h4 g2
    subst hb2
    have := g1 [] fun ks _ => (us, ks)
    rw [List.append_nil] at this
    rw [this] at hpp
    rw [hpp]
  exact h w β S vs args hs p.1 hs (by rw [hp0]; cases p; simp only at hp2; subst hp2; rfl) hp
def tupDrop : (ts us : List Ty) → tup (ts ++ us) → tup us
  | [], _, x => x
  | _ :: _, [], _ => ()
  | [_], _ :: _, x => x.2
  | _ :: t :: ts, u :: us, x => tupDrop (t :: ts) (u :: us) x.2
theorem toDs_drop : ∀ (ts us : List Ty) (y : tup (ts ++ us)), (toDs (ts ++ us) y).drop ts.length = toDs us (tupDrop ts us y)
  | [], us, y => rfl
  | t :: ts, [], y => by
    have : ∀ (l : List Ty) (z : tup l), (toDs l z).length = l.length := fun l => by
      induction l with
      | nil => intro z; rfl
      | cons t l ih => cases l with
        | nil => intro z; rfl
        | cons u l => intro z; simp only [toDs, List.length_cons]; rw [ih z.2]; rfl
    rw [List.drop_eq_nil_of_le (by rw [this]; simp)]
    cases ts <;> rfl
  | [t], u :: us, y => rfl
  | t :: t' :: ts, u :: us, y => toDs_drop (t' :: ts) (u :: us) y.2
def KeepsF (ps : List Sh) (hs : List BSh) (rs : List Sh) (F : tup (tysShs ps ++ tysBs hs) → Option (tup (tysShs rs ++ tysBs hs))) : Prop :=
  ∀ x y, F x = some y → tupDrop (tysShs rs) (tysBs hs) y = tupDrop (tysShs ps) (tysBs hs) x
theorem ct_keep3 {P : Program} [Gl P] {f : Nat} {ps : List Sh} {hs : List BSh} {rs : List Sh} {refs : List Bool} {F : tup (tysShs ps ++ tysBs hs) → Option (tup (tysShs rs ++ tysBs hs))}
    (h : CtOk P f ⟨ps, hs, rs, hs, refs, F⟩) (ok : hs.all okB = true) (hF : KeepsF ps hs rs F) : CtKeep P f ⟨ps, hs, rs, hs, refs, F⟩ :=
  ct_keep h rfl ok fun x y hy => by
    show (toDs (tysShs rs ++ tysBs hs) y).drop (tysShs rs).length = (toDs (tysShs ps ++ tysBs hs) x).drop (tysShs ps).length
    rw [toDs_drop, toDs_drop, hF x y hy]
end Go.U
namespace Go.U
open Go Go.RowKit
def cloneF (x : List Int) : Option (List Int) := guard (decide (x.length * 8 ≤ 140737488355328)) (some x)
theorem hk_own {w : World} {β : Nat → Option BA} {S : Nat → Prop} {g cap : Nat} {cur : Array Value} {ty : TypeId} {xs : List Int} {j : Nat} (hβ : β j = some ⟨g, 0, cap * 1, 1, xs.length⟩) (hg : w.heap[g]? = some (.cells cur ty (0, 0))) (hn : xs.length ≤ cap) (hsz : cur.size = cap * 1)
    (ht : cur.toList.take (xs.length * 1) = xs.map (Value.int .i64)) : HK w β S j ⟨1, true, .row (.i .i64) xs⟩ := by
  refine .inr ⟨_, cur, ty, (0, 0), hβ, ⟨rfl, rfl, fun t h => by cases h⟩, Nat.one_pos, hg, FzOk.of (fun i _ => by simp) (fun ⟨T, h⟩ => by cases h), hsz, by show 0 + xs.length * 1 ≤ cap * 1; omega, fun e l h => ?_, fun e c sv h => ?_⟩
  · simp only [BC.lens?, Option.map_eq_some_iff] at h
    obtain ⟨_, _, rfl⟩ := h
    rfl
  · have h' : ((xs : List (Ty.i .i64).den)[e]?.bind fun x => ((Ty.i .i64).enc x)[c]?.map SV.d) = some sv := h
    obtain ⟨x, hx', h2⟩ := Option.bind_eq_some_iff.1 h'
    have hx : xs[e]? = some x := hx'
    cases c with
    | succ c => simp [Ty.enc] at h2
    | zero =>
      simp [Ty.enc] at h2
      subst h2
      have h1 : (cur.toList.take (xs.length * 1))[e]? = some (.int .i64 x) := by rw [ht, List.getElem?_map, hx]; rfl
      rw [List.getElem?_take] at h1
      split at h1
      · exact ⟨.int .i64 x, by simpa using h1, rfl, .d (.i _ _)⟩
      · cases h1
theorem ct_clone {P : Program} [Gl P] {f : Nat} {e : TypeId} (hent : ∀ args w, (callFunc f args).run P w = .ok (.enter f args) w)
    (h1 : ∀ (b off n c : Nat) (zs : List Int) (w : World), n ≤ zs.length → n * 8 ≤ 140737488355328 → (∀ j, j < zs.length → w.cell? ⟨b, off + j, none⟩ = some (.int .i64 (zs.getD j 0))) →
      Calls P f #[.slice (some ⟨b, off, none⟩) n c] w fun en w' => ∃ v', en = .returned v' ∧ w'.ownsRow w.heap.size e 1 v' n ((zs.take n).map (Value.int .i64)) ∧ v' ≠ .slice none 0 0 ∧ Below w.heap.size w w')
    (h2 : ∀ (n c : Nat) (w : World), Calls P f #[.slice none n c] w fun en w' => en = .returned (.slice none 0 0) ∧ w' = w)
    (h3 : ∀ (a : Addr) (c : Nat) (w : World), Calls P f #[.slice (some a) 0 c] w fun en w' => ∃ v', en = .returned v' ∧ w'.ownsRow w.heap.size e 1 v' 0 [] ∧ v' ≠ .slice none 0 0 ∧ Below w.heap.size w w') :
    CtOk P f ⟨[.l (.v (.l (.i .i64)))], [], [.l (.all 0)], [⟨1, true, .row (.i .i64)⟩], [], cloneF⟩ := by
  intro w β S vs args hs res hs' hF hp
  unfold funOf at hF
  split at hF
  case h_2 => cases hF
  rename_i a b ha hb
  obtain ⟨d0, rfl, rfl⟩ := grab1 ha
  obtain ⟨rfl, rfl⟩ := grab0 hb
  obtain ⟨xs, hx, hd⟩ := unDs_spec _ _ _ hF
  obtain ⟨r, hr, h4⟩ := bindO_some hx
  obtain ⟨hg, hr⟩ := guard_some hr
  cases hr
  cases h4
  have hlen := of_decide_eq_true hg
  have hsz := hp.sz
  obtain ⟨v0, rfl⟩ : ∃ v0, vs = #[v0] := by
    have : vs.size = 1 := hsz
    refine ⟨vs[0]'(by omega), ?_⟩
    apply Array.ext
    · simpa using this
    · intro i h1 h2
      simp at h2
      subst h2; rfl
  have r0 := (hp.args 0 v0 _ rfl rfl).inv_d
  have own : ∀ (w' : World) (v' : Value), w'.ownsRow w.heap.size e 1 v' xs.length (xs.map (Value.int .i64)) → v' ≠ .slice none 0 0 → Below w.heap.size w w' →
      ∃ β' S', Post w w' β β' S S' [] [⟨1, true, .row (.i .i64) xs⟩] v' [.all 0] := fun w' v' ho hne bel => by
    obtain ⟨_, ho⟩ := ho
    rcases ho with ⟨h, _⟩ | ⟨g, cap, cur, rfl, q1, q2, q3, q4, q5, q6⟩
    · exact absurd h hne
    have hβ : (fun x => if x = 0 then some (⟨g, 0, cap * 1, 1, xs.length⟩ : BA) else β x) 0 = some ⟨g, 0, cap * 1, 1, xs.length⟩ := if_pos rfl
    refine ⟨fun x => if x = 0 then some ⟨g, 0, cap * 1, 1, xs.length⟩ else β x, S, ⟨.all 0 cap ⟨g, 0, cap * 1, 1, xs.length⟩ hβ q3 (by simp), by simp, fun j k hk => ?_, fun j j' ba ba' g1 g2 _ _ _ => ?_, fun j ba g1 g2 => ?_, fun j ba g1 g2 => ?_, fun j k g1 => by simp at g1, fun _ h => h,
      fun k hk => ⟨Nat.lt_of_lt_of_le (hp.sbd k hk) bel.size, .inl hk⟩, bel.os, bel.tape, bel.output, bel.size, fun k hk _ => bel.block k hk⟩⟩
    · match j, hk with
      | 0, hk => simp at hk; subst hk; exact hk_own hβ q2 q3 q5 q6
      | j + 1, hk => simp at hk
    · have : j = 0 := by simpa using g1
      have : j' = 0 := by simpa using g2
      omega
    · have h0 : j = 0 := by simpa using g1
      subst h0
      rw [if_pos rfl] at g2
      cases g2
      intro hS
      have := hp.sbd _ hS
      simp only at this
      omega
    · have h0 : j = 0 := by simpa using g1
      subst h0
      rw [if_pos rfl] at g2
      cases g2
      exact .inr q1
  have nil : xs = [] → ∃ β' S', Post w w β β' S S' [] [⟨1, true, .row (.i .i64) xs⟩] (.slice none 0 0) [.all 0] := fun hnil => by
    subst hnil
    have hβ : (fun x => if x = 0 then (none : Option BA) else β x) 0 = none := if_pos rfl
    refine ⟨fun x => if x = 0 then none else β x, S, ⟨.all0 none 0 hβ, by simp, fun j k hk => ?_, fun j j' ba ba' g1 g2 _ _ _ => ?_, fun j ba g1 g2 => ?_, fun j ba g1 g2 => ?_, fun j k g1 => by simp at g1, fun _ h => h,
      fun k hk => ⟨hp.sbd k hk, .inl hk⟩, rfl, rfl, rfl, Nat.le_refl _, fun k hk _ => rfl⟩⟩
    · match j, hk with
      | 0, hk => simp at hk; subst hk; exact .inl (.inl ⟨rfl, hβ⟩)
      | j + 1, hk => simp at hk
    · have : j = 0 := by simpa using g1
      have : j' = 0 := by simpa using g2
      omega
    · have h0 : j = 0 := by simpa using g1
      subst h0
      rw [if_pos rfl] at g2
      cases g2
    · have h0 : j = 0 := by simpa using g1
      subst h0
      rw [if_pos rfl] at g2
      cases g2
  have hd1 := hd.1
  have fin0 : ∀ (A : Option Addr) (c : Nat), v0 = .slice A 0 c → xs = [] → CallX P f #[v0] w fun en w' => ∃ v β' S', en = .returned v ∧ Post w w' β β' S S' [] [⟨1, true, .row (.i .i64) xs⟩] v [.all 0] := fun A c hv hnil => by
    subst hv
    cases A with
    | none =>
      refine .inl ⟨hent _ _, (h2 0 c w).mono fun en w' ⟨he, hw⟩ => ?_⟩
      subst hw
      obtain ⟨β', S', hpost⟩ := nil hnil
      exact ⟨_, β', S', he, hpost⟩
    | some a =>
      refine .inl ⟨hent _ _, (h3 a c w).mono fun en w' ⟨v', he, ho, hne, bel⟩ => ?_⟩
      have ho' : w'.ownsRow w.heap.size e 1 v' xs.length (xs.map (Value.int .i64)) := by rw [hnil]; exact ho
      obtain ⟨β', S', hpost⟩ := own w' v' ho' hne bel
      exact ⟨_, β', S', he, hpost⟩
  have xsI : ∃ ys : List Int, ys = xs := ⟨xs, rfl⟩
  obtain ⟨ys, hys⟩ := xsI
  rcases hd1 with hd1 | ⟨hd1, t, hd2⟩
  · have hd1' : d0 = .rov (.i .i64) xs := hd1.symm
    subst hd1'
    rcases r0.rov_inv with ⟨A, c, rfl, hnil⟩ | ⟨b, o, c, us, rfl, hS, hbl, hne, hc, hcell, hrd⟩
    · exact fin0 A c rfl hnil
    · have hcl : ∀ j, j < ys.length → w.cell? ⟨b, o + j, none⟩ = some (.int .i64 (ys.getD j 0)) := fun j hj => by
        have hx : ys[j]? = some ys[j] := List.getElem?_eq_getElem hj
        have q1 := hcell j ys[j] 0 (.i .i64 ys[j]) (by rw [← hys]; exact hx) rfl
        have q2 := hrd j ys[j] 0 (.i .i64 ys[j]) (by rw [← hys]; exact hx) rfl
        rw [q2.inv_i] at q1
        rw [List.getD_eq_getElem?_getD, hx]
        simpa [Ty.size] using q1
      have hl : ys.length = List.length (α := Int) xs := congrArg List.length hys
      have hcall := h1 b o ys.length c ys w (Nat.le_refl _) (by rw [hl]; exact hlen) hcl
      rw [List.take_length] at hcall
      have e1 : (Value.slice (some ⟨b, o, none⟩) ys.length c) = .slice (some ⟨b, o, none⟩) (List.length (α := Int) xs) c := by rw [hl]
      rw [e1] at hcall
      refine .inl ⟨hent _ _, hcall.mono fun en w' ⟨v', he, ho, hne, bel⟩ => ?_⟩
      rw [hys] at ho
      obtain ⟨β', S', hpost⟩ := own w' v' ho hne bel
      exact ⟨_, β', S', he, hpost⟩
  · subst hd1
    have hnil : xs = [] := by
      have : D.rov (.i .i64) xs = .rov t [] := hd2
      cases this; rfl
    cases r0
    exact fin0 none 0 rfl hnil
end Go.U
