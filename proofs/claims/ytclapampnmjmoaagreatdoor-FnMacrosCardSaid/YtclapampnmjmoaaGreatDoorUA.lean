/- A part of the proof. No condition. -/
import Derived.Calls
import Derived.Laws.Entries
import Derived.Laws.Concat
import Derived.Laws.NewFold
set_option linter.unusedVariables false
set_option linter.unusedSimpArgs false
set_option linter.unusedSectionVars false
namespace Go.U
open Go
inductive Ty where
  | i (k : IntKind)
  | b
  | s
  | e
  | c (a t : Ty)
  | l (t : Ty)
  /-- bytes of a row that grows only, of a block of type T -/
  | y (T : Nat)
  deriving Inhabited, DecidableEq
def Ty.den : Ty → Type
  | .i _ => Int
  | .b => Bool
  | .s => List UInt8
  | .e => Bool
  | .c a t => a.den × t.den
  | .l t => List t.den
  | .y _ => Int
def Ty.size : Ty → Nat
  | .c a t => a.size + t.size
  | _ => 1
inductive D where
  | i (k : IntKind) (n : Int)
  | b (x : Bool)
  | str (l : List UInt8)
  /-- the slice that is nil -/
  | emp
  /-- a slice without room -/
  | emq
  | rov (t : Ty) (xs : List t.den)
  | nilp
  | er (x : Bool)
  /-- some pointer -/
  | anyp
  | val (v : Value)
  deriving Inhabited
def Ty.enc : (t : Ty) → t.den → List D
  | .i k, n => [.i k n]
  | .b, x => [.b x]
  | .s, x => [.str x]
  | .e, x => [.er x]
  | .c a t, p => a.enc p.1 ++ t.enc p.2
  | .l t, xs => [.rov t xs]
  | .y _, n => [.i .u8 n]
theorem Ty.enc_len : ∀ (t : Ty) (x : t.den), (t.enc x).length = t.size
  | .i _, _ => rfl
  | .b, _ => rfl
  | .s, _ => rfl
  | .e, _ => rfl
  | .c a t, p => by simp only [Ty.enc, Ty.size, List.length_append, Ty.enc_len a p.1, Ty.enc_len t p.2]
  | .l _, _ => rfl
  | .y _, _ => rfl
theorem Ty.size_pos : ∀ t : Ty, 0 < t.size
  | .i _ => Nat.one_pos
  | .b => Nat.one_pos
  | .s => Nat.one_pos
  | .e => Nat.one_pos
  | .c a t => by have := Ty.size_pos a; simp only [Ty.size]; omega
  | .l _ => Nat.one_pos
  | .y _ => Nat.one_pos
inductive SV where
  | undef
  | d (x : D)
  | agg (cs : List SV)
  | tup (cs : List SV)
  | sl (b off len : Nat)
  | all (b : Nat)
  /-- a whole row of the call's own; nil where it lies nowhere -/
  | bb (b : Nat)
  | ptr (b e c : Nat)
  | pon (b e c : Nat)
  | rptr (cs : List D)
  | clo (f : Nat) (caps : List SV)
  deriving Inhabited
inductive BC where
  | row (t : Ty) (xs : List t.den)
  | mix (ty : Option TypeId) (els : List (List SV))
  /-- a map from texts to data of a kind -/
  | map (t : Ty) (es : List (List UInt8 × t.den))
def BC.isMap : BC → Bool
  | .map _ _ => true
  | _ => false
structure Blk where
  s : Nat
  mv : Bool
  c : BC
def BC.len : BC → Nat
  | .row _ xs => xs.length
  | .mix _ els => els.length
  | .map _ _ => 1
def BC.ty? : BC → Option (TypeId × Bool)
  | .row (.y T) _ => some (T, false)
  | .row _ _ => none
  | .mix ty _ => ty.map fun t => (t, true)
  | .map _ _ => none
def BC.cell? : BC → Nat → Nat → Option SV
  | .row t xs, e, c => (xs[e]?).bind fun x => ((t.enc x)[c]?).map SV.d
  | .mix _ els, e, c => (els[e]?).bind fun l => l[c]?
  | .map _ _, _, _ => none
def BC.el? : BC → Nat → Option (List SV)
  | .row t xs, e => (xs[e]?).map fun x => (t.enc x).map SV.d
  | .mix _ els, e => els[e]?
  | .map _ _, _ => none
structure BA where
  b : Nat
  o : Nat
  n : Nat
  s : Nat
  len : Nat
structure St where
  fr : List SV
  hp : Nat → Option Blk
inductive RD (w : World) (S : Nat → Prop) : Value → D → Prop
  | i (k n) : RD w S (.int k n) (.i k n)
  | b (x) : RD w S (.bool x) (.b x)
  | str (l : List UInt8) : RD w S (.string ⟨l.toArray⟩) (.str l)
  | emp : RD w S (.slice none 0 0) .emp
  | emq (A) : RD w S (.slice A 0 0) .emq
  | nilp : RD w S (.pointer none) .nilp
  | nili : RD w S .nilIface (.er false)
  | ife (t v) : RD w S (.iface t v) (.er true)
  | anyp (p) : RD w S (.pointer p) .anyp
  | val (v) (h1 : v.oneCell' = true) : RD w S v (.val v)
  | rov0 (A c t) : RD w S (.slice A 0 c) (.rov t [])
  | rov (b o c : Nat) (t : Ty) (xs : List t.den) (us : Nat → Nat → Value) (hS : S b) (hb : b < w.heap.size) (hne : xs ≠ []) (hc : xs.length ≤ c)
      (hcell : ∀ (e : Nat) (el : t.den) (j : Nat) (x : D), xs[e]? = some el → (t.enc el)[j]? = some x → w.cell? ⟨b, o + e * t.size + j, none⟩ = some (us e j))
      (hr : ∀ (e : Nat) (el : t.den) (j : Nat) (x : D), xs[e]? = some el → (t.enc el)[j]? = some x → RD w S (us e j) x) :
      RD w S (.slice (some ⟨b, o, none⟩) xs.length c) (.rov t xs)
inductive RS (w : World) (β : Nat → Option BA) (S : Nat → Prop) : Value → SV → Prop
  | undef (v) : RS w β S v .undef
  | d {v x} (h : RD w S v x) : RS w β S v (.d x)
  | agg (vs : Array Value) (cs : List SV) (hsz : vs.size = cs.length) (h : ∀ (i : Nat) v c, vs[i]? = some v → cs[i]? = some c → RS w β S v c) : RS w β S (.agg vs) (.agg cs)
  | tup (vs : Array Value) (cs : List SV) (hsz : vs.size = cs.length) (h : ∀ (i : Nat) v c, vs[i]? = some v → cs[i]? = some c → RS w β S v c) : RS w β S (.tuple vs) (.tup cs)
  | sl0 (A b off) : RS w β S (.slice A 0 0) (.sl b off 0)
  | sl (b off len c ba) (hb : β b = some ba) (hc : len ≤ c) (hn : ba.o + (off + c) * ba.s ≤ ba.n) : RS w β S (.slice (some ⟨ba.b, ba.o + off * ba.s, none⟩) len c) (.sl b off len)
  | all0 (A b) (hb : β b = none) : RS w β S (.slice A 0 0) (.all b)
  | all (b c ba) (hb : β b = some ba) (hc : ba.len ≤ c) (hn : ba.o + c * ba.s ≤ ba.n) : RS w β S (.slice (some ⟨ba.b, ba.o, none⟩) ba.len c) (.all b)
  | bb0 (b) (hb : β b = none) : RS w β S (.slice none 0 0) (.bb b)
  | bb (b c ba) (hb : β b = some ba) (hc : ba.len ≤ c) (hn : ba.o + c * ba.s ≤ ba.n) : RS w β S (.slice (some ⟨ba.b, ba.o, none⟩) ba.len c) (.bb b)
  | ptr (b e c ba) (hb : β b = some ba) : RS w β S (.pointer (some ⟨ba.b, ba.o + e * ba.s + c, none⟩)) (.ptr b e c)
  | pon0 (b e c) : RS w β S (.pointer none) (.pon b e c)
  | pon (b e c ba) (hb : β b = some ba) : RS w β S (.pointer (some ⟨ba.b, ba.o + e * ba.s + c, none⟩)) (.pon b e c)
  | rptr (b o : Nat) (cs : List D) (us : Nat → Value) (hS : S b) (hb : b < w.heap.size) (hcell : ∀ (j : Nat) x, cs[j]? = some x → w.cell? ⟨b, o + j, none⟩ = some (us j))
      (hr : ∀ (j : Nat) x, cs[j]? = some x → RD w S (us j) x) : RS w β S (.pointer (some ⟨b, o, none⟩)) (.rptr cs)
  /-- a slice of one's own cells that nobody writes any more: what stands in each -/
  | fsl (b o n c : Nat) (cs : List SV) (us : Nat → Value) (hS : S b) (hb : b < w.heap.size) (hn : n = cs.length) (hc : n ≤ c) (hcell : ∀ (j : Nat) x, cs[j]? = some x → w.cell? ⟨b, o + j, none⟩ = some (us j))
      (h : ∀ (j : Nat) x, cs[j]? = some x → RS w β S (us j) x) : RS w β S (.slice (some ⟨b, o, none⟩) n c) (.clo 1000000007 cs)
  /-- where such a cell lies -/
  | fpt (b o : Nat) (u : Value) (x : SV) (hS : S b) (hb : b < w.heap.size) (hcell : w.cell? ⟨b, o, none⟩ = some u) (h : RS w β S u x) : RS w β S (.pointer (some ⟨b, o, none⟩)) (.clo 1000000008 [x])
  /-- a map -/
  | mp (r : Nat) (x : SV) (h : RS w β S (.pointer (some ⟨r, 0, none⟩)) x) : RS w β S (.map (some r)) (.clo 1000000009 [x])
  | clo (f) (vs : Array Value) (caps : List SV) (hf : f < 1000000) (hsz : vs.size = caps.length) (h : ∀ (i : Nat) v c, vs[i]? = some v → caps[i]? = some c → RS w β S v c) : RS w β S (.func (.func f) #[] vs) (.clo f caps)
theorem RD.mono {w w' : World} {S S' : Nat → Prop} (hw : ∀ k, S k → S' k ∧ w'.heap[k]? = w.heap[k]?) (hs : w.heap.size ≤ w'.heap.size) {v : Value} {x : D} (h : RD w S v x) : RD w' S' v x := by
  induction h with
  | i k n => exact .i k n
  | b x => exact .b x
  | str l => exact .str l
  | emp => exact .emp
  | emq A => exact .emq A
  | anyp p => exact .anyp p
  | nilp => exact .nilp
  | nili => exact .nili
  | ife t v => exact .ife t v
  | val v h1 => exact .val v h1
  | rov0 A c t => exact .rov0 A c t
  | rov b o c t xs us hS hb hne hc hcell _ ih =>
    refine .rov b o c t xs us (hw b hS).1 (Nat.lt_of_lt_of_le hb hs) hne hc (fun e el j x h1 h2 => ?_) ih
    rw [← hcell e el j x h1 h2]
    simp only [World.cell?, (hw b hS).2]
inductive SV.Uses (b : Nat) : SV → Prop
  | sl (off len) : SV.Uses b (.sl b off len)
  | all : SV.Uses b (.all b)
  | bb : SV.Uses b (.bb b)
  | ptr (e c) : SV.Uses b (.ptr b e c)
  | pon (e c) : SV.Uses b (.pon b e c)
  | agg {cs c} (h : c ∈ cs) (hu : SV.Uses b c) : SV.Uses b (.agg cs)
  | tup {cs c} (h : c ∈ cs) (hu : SV.Uses b c) : SV.Uses b (.tup cs)
  | clo {f caps c} (h : c ∈ caps) (hu : SV.Uses b c) : SV.Uses b (.clo f caps)
theorem RS.mono {w w' : World} {β β' : Nat → Option BA} {S S' : Nat → Prop} (hw : ∀ k, S k → S' k ∧ w'.heap[k]? = w.heap[k]?) (hs : w.heap.size ≤ w'.heap.size) {v : Value} {x : SV}
    (h : RS w β S v x) (hβ : ∀ b, SV.Uses b x → β' b = β b) : RS w' β' S' v x := by
  induction h with
  | undef v => exact .undef v
  | d h => exact .d (h.mono hw hs)
  | agg vs cs hsz _ ih => exact .agg vs cs hsz fun i v c h1 h2 => ih i v c h1 h2 fun b hb => hβ b (.agg (List.mem_of_getElem? h2) hb)
  | tup vs cs hsz _ ih => exact .tup vs cs hsz fun i v c h1 h2 => ih i v c h1 h2 fun b hb => hβ b (.tup (List.mem_of_getElem? h2) hb)
  | sl0 A b off => exact .sl0 A b off
  | sl b off len c ba hb hc hn => exact .sl b off len c ba ((hβ b (.sl off len)).trans hb) hc hn
  | all0 A b hb => exact .all0 A b ((hβ b .all).trans hb)
  | all b c ba hb hc hn => exact .all b c ba ((hβ b .all).trans hb) hc hn
  | bb0 b hb => exact .bb0 b ((hβ b .bb).trans hb)
  | bb b c ba hb hc hn => exact .bb b c ba ((hβ b .bb).trans hb) hc hn
  | ptr b e c ba hb => exact .ptr b e c ba ((hβ b (.ptr e c)).trans hb)
  | pon0 b e c => exact .pon0 b e c
  | pon b e c ba hb => exact .pon b e c ba ((hβ b (.pon e c)).trans hb)
  | rptr b o cs us hS hb hcell hr =>
    refine .rptr b o cs us (hw b hS).1 (Nat.lt_of_lt_of_le hb hs) (fun j x h1 => ?_) (fun j x h1 => (hr j x h1).mono hw hs)
    rw [← hcell j x h1]
    simp only [World.cell?, (hw b hS).2]
  | mp r x _ ih => exact .mp r x (ih fun b hb => hβ b (.clo (List.mem_cons_self ..) hb))
  | clo f vs caps hf hsz _ ih => exact .clo f vs caps hf hsz fun i v c h1 h2 => ih i v c h1 h2 fun b hb => hβ b (.clo (List.mem_of_getElem? h2) hb)
  | fsl b o n c cs us hS hb hn hc hcell _ ih =>
    refine .fsl b o n c cs us (hw b hS).1 (Nat.lt_of_lt_of_le hb hs) hn hc (fun j x h1 => ?_) (fun j x h1 => ih j x h1 fun b hb => hβ b (.clo (List.mem_of_getElem? h1) hb))
    rw [← hcell j x h1]
    simp only [World.cell?, (hw b hS).2]
  | fpt b o u x hS hb hcell _ ih =>
    refine .fpt b o u x (hw b hS).1 (Nat.lt_of_lt_of_le hb hs) ?_ (ih fun b hb => hβ b (.clo (List.mem_cons_self ..) hb))
    rw [← hcell]
    simp only [World.cell?, (hw b hS).2]
mutual
def SV.kill (b : Nat) : SV → SV
  | .sl b' off len => if b' = b then .undef else .sl b' off len
  | .all b' => if b' = b then .undef else .all b'
  | .bb b' => if b' = b then .undef else .bb b'
  | .ptr b' e c => if b' = b then .undef else .ptr b' e c
  | .pon b' e c => if b' = b then .undef else .pon b' e c
  | .agg cs => .agg (SV.killL b cs)
  | .tup cs => .tup (SV.killL b cs)
  | .clo f caps => .clo f (SV.killL b caps)
  | .undef => .undef
  | .d x => .d x
  | .rptr cs => .rptr cs
def SV.killL (b : Nat) : List SV → List SV
  | [] => []
  | c :: cs => SV.kill b c :: SV.killL b cs
end
theorem SV.killL_eq (b : Nat) (cs : List SV) : SV.killL b cs = cs.map (SV.kill b) := by
  induction cs with
  | nil => rfl
  | cons c cs ih => simp only [SV.killL, List.map_cons, ih]
theorem RS.kill {w w' : World} {β β' : Nat → Option BA} {S S' : Nat → Prop} (hw : ∀ k, S k → S' k ∧ w'.heap[k]? = w.heap[k]?) (hs : w.heap.size ≤ w'.heap.size) {v : Value} {x : SV} {b : Nat}
    (h : RS w β S v x) (hβ : ∀ b', b' ≠ b → β' b' = β b') : RS w' β' S' v (x.kill b) := by
  have key : ∀ (vs : Array Value) (cs : List SV), vs.size = cs.length → (∀ (i : Nat) v c, vs[i]? = some v → cs[i]? = some c → RS w' β' S' v (c.kill b)) →
      vs.size = (SV.killL b cs).length ∧ ∀ (i : Nat) v c, vs[i]? = some v → (SV.killL b cs)[i]? = some c → RS w' β' S' v c := by
    intro vs cs hsz h
    rw [SV.killL_eq]
    refine ⟨by simpa using hsz, fun i v c h1 h2 => ?_⟩
    rw [List.getElem?_map] at h2
    cases hc : cs[i]? with
    | none => rw [hc] at h2; cases h2
    | some c' => rw [hc] at h2; cases h2; exact h i v c' h1 hc
  induction h with
  | undef v => exact .undef v
  | d h => exact .d (h.mono hw hs)
  | agg vs cs hsz _ ih => have k := key vs cs hsz ih; exact .agg vs _ k.1 k.2
  | tup vs cs hsz _ ih => have k := key vs cs hsz ih; exact .tup vs _ k.1 k.2
  | sl0 A b' off => simp only [SV.kill]; split; exact .undef _; exact .sl0 _ _ _
  | sl b' off len c ba hb hc hn =>
    simp only [SV.kill]; split
    · exact .undef _
    · rename_i hne; exact .sl b' off len c ba ((hβ b' hne).trans hb) hc hn
  | all0 A b' hb =>
    simp only [SV.kill]; split
    · exact .undef _
    · rename_i hne; exact .all0 A b' ((hβ b' hne).trans hb)
  | all b' c ba hb hc hn =>
    simp only [SV.kill]; split
    · exact .undef _
    · rename_i hne; exact .all b' c ba ((hβ b' hne).trans hb) hc hn
  | bb0 b' hb =>
    simp only [SV.kill]; split
    · exact .undef _
    · rename_i hne; exact .bb0 b' ((hβ b' hne).trans hb)
  | bb b' c ba hb hc hn =>
    simp only [SV.kill]; split
    · exact .undef _
    · rename_i hne; exact .bb b' c ba ((hβ b' hne).trans hb) hc hn
  | ptr b' e c ba hb =>
    simp only [SV.kill]; split
    · exact .undef _
    · rename_i hne; exact .ptr b' e c ba ((hβ b' hne).trans hb)
  | pon0 b' e c =>
    simp only [SV.kill]; split
    · exact .undef _
    · exact .pon0 b' e c
  | pon b' e c ba hb =>
    simp only [SV.kill]; split
    · exact .undef _
    · rename_i hne; exact .pon b' e c ba ((hβ b' hne).trans hb)
  | rptr b o cs us hS hb hcell hr => exact RS.mono (β := β) hw hs (.rptr b o cs us hS hb hcell hr) (fun b hb => by cases hb)
  | mp r x _ ih => exact .mp r _ ih
  | clo f vs caps hf hsz _ ih => have k := key vs caps hsz ih; exact .clo f vs _ hf k.1 k.2
  | fsl b' o n c cs us hS hb hn hc hcell _ ih =>
    have hl : ∀ (j : Nat) y, (SV.killL b cs)[j]? = some y → ∃ x, cs[j]? = some x ∧ y = x.kill b := fun j y h1 => by
      rw [SV.killL_eq, List.getElem?_map] at h1
      cases hx : cs[j]? with
      | none => rw [hx] at h1; cases h1
      | some x => rw [hx] at h1; cases h1; exact ⟨x, rfl, rfl⟩
    refine .fsl b' o n c _ us (hw b' hS).1 (Nat.lt_of_lt_of_le hb hs) (by rw [SV.killL_eq, List.length_map]; exact hn) hc (fun j y h1 => ?_) (fun j y h1 => ?_)
    · obtain ⟨x, hx, rfl⟩ := hl j y h1
      rw [← hcell j x hx]
      simp only [World.cell?, (hw b' hS).2]
    · obtain ⟨x, hx, rfl⟩ := hl j y h1
      exact ih j x hx
  | fpt b' o u x hS hb hcell _ ih =>
    refine .fpt b' o u _ (hw b' hS).1 (Nat.lt_of_lt_of_le hb hs) ?_ ih
    rw [← hcell]
    simp only [World.cell?, (hw b' hS).2]
def BC.kill (b : Nat) : BC → BC
  | .row t xs => .row t xs
  | .mix ty els => .mix ty (els.map (SV.killL b))
  | .map t es => .map t es
theorem BC.ty_kill (b : Nat) (c : BC) : (c.kill b).ty? = c.ty? := by cases c <;> rfl
def Blk.kill (b : Nat) (k : Blk) : Blk := { k with c := k.c.kill b }
def St.kill (b : Nat) (st : St) : St := { fr := st.fr.map (SV.kill b), hp := fun x => (st.hp x).map (Blk.kill b) }
theorem BC.len_kill (b : Nat) (c : BC) : (c.kill b).len = c.len := by cases c <;> simp [BC.kill, BC.len]
theorem BC.cell_kill (b : Nat) (c : BC) (e j : Nat) : (c.kill b).cell? e j = (c.cell? e j).map (SV.kill b) := by
  cases c with
  | row t xs =>
    simp only [BC.kill, BC.cell?]
    cases xs[e]? with
    | none => rfl
    | some x => cases h : (t.enc x)[j]? <;> simp [h, SV.kill]
  | mix ty els =>
    simp only [BC.kill, BC.cell?, List.getElem?_map]
    cases els[e]? with
    | none => rfl
    | some l => simp [SV.killL_eq]
  | map t es => rfl
def BC.lens? : BC → Nat → Option Nat
  | .row t xs, e => (xs[e]?).map fun _ => t.size
  | .mix _ els, e => (els[e]?).map List.length
  | .map _ _, _ => some 0
theorem BC.lens_kill (b : Nat) (c : BC) (e : Nat) : (c.kill b).lens? e = c.lens? e := by
  cases c with
  | row t xs => rfl
  | mix ty els => simp only [BC.kill, BC.lens?, List.getElem?_map]; cases els[e]? <;> simp [SV.killL_eq]
  | map t es => rfl
structure FzOk (k : Blk) (o : Nat) (fz : Nat × Nat) (n : Nat) : Prop where
  at_ : ∀ i, i < n → (fz.1 ≤ i && i < fz.2) = true → (∃ T, k.c.ty? = some (T, false)) ∧ i < o + k.c.len * k.s
  y : (∃ T, k.c.ty? = some (T, false)) → fz.1 = fz.2 ∨ (fz.1 = 0 ∧ fz.2 ≤ o + k.c.len * k.s)
theorem FzOk.to {k k' : Blk} {o : Nat} {fz : Nat × Nat} {n n' : Nat} (h : FzOk k o fz n) (ht : k'.c.ty? = k.c.ty?) (hl : k'.c.len = k.c.len) (hs : k'.s = k.s) (hn : n' = n) : FzOk k' o fz n' := by
  subst hn
  exact ⟨fun i hi hf => by rw [ht, hl, hs]; exact h.at_ i hi hf, fun hy => by rw [hl, hs]; exact h.y (by rw [← ht]; exact hy)⟩
theorem FzOk.none {k : Blk} {o : Nat} {fz : Nat × Nat} {n : Nat} (h : FzOk k o fz n) (ht : ∀ T, k.c.ty? ≠ some (T, false)) : ∀ i, i < n → (fz.1 ≤ i && i < fz.2) = false := fun i hi => by
  cases hf : (fz.1 ≤ i && i < fz.2) with
  | false => rfl
  | true => obtain ⟨⟨T, hT⟩, _⟩ := h.at_ i hi hf; exact absurd hT (ht T)
theorem FzOk.of {k : Blk} {o : Nat} {fz : Nat × Nat} {n : Nat} (h : ∀ i, i < n → (fz.1 ≤ i && i < fz.2) = false) (hy : (∃ T, k.c.ty? = some (T, false)) → fz.1 = fz.2) : FzOk k o fz n where
  at_ i hi hf := by rw [h i hi] at hf; cases hf
  y hT := .inl (hy hT)
def lkO {α : Type} : List (List UInt8 × α) → List UInt8 → Option α
  | [], _ => none
  | p :: es, s => if s = p.1 then some p.2 else lkO es s
def HKm (w : World) (β : Nat → Option BA) (S : Nat → Prop) (b : Nat) (k : Blk) : Prop :=
  ∃ (t : Ty) (es : List (List UInt8 × t.den)) (ba : BA) (ents : Array MapEntry) (clock : Nat), k.c = .map t es ∧ β b = some ba ∧ (ba.s = k.s ∧ ba.len = 1 ∧ ba.o + ba.s ≤ ba.n) ∧ w.heap[ba.b]? = some (.map ents clock) ∧ ∃ es' : List (List UInt8 × t.den), ents.size = es'.length ∧
    (∀ (i : Nat) key x, es'[i]? = some (key, x) → ∃ e d, ents[i]? = some e ∧ e.key = .string ⟨key.toArray⟩ ∧ t.enc x = [d] ∧ RD w S e.val d) ∧ ∀ s, lkO es' s = lkO es s
def HK (w : World) (β : Nat → Option BA) (S : Nat → Prop) (b : Nat) (k : Blk) : Prop :=
  ((k.c.len = 0 ∧ β b = none) ∨ HKm w β S b k) ∨
  ∃ (ba : BA) (arr : Array Value) (ty : TypeId) (fz : Nat × Nat), β b = some ba ∧ (ba.s = k.s ∧ ba.len = k.c.len ∧ ∀ t, k.c.ty? = some t → ty = t.1 ∧ ba.o = 0 ∧ (t.2 = true → ba.n = k.s)) ∧ 0 < k.s ∧ w.heap[ba.b]? = some (.cells arr ty fz) ∧ FzOk k ba.o fz arr.size ∧ arr.size = ba.n ∧
    ba.o + k.c.len * k.s ≤ ba.n ∧ (∀ e l, k.c.lens? e = some l → l = k.s) ∧
    ∀ e c sv, k.c.cell? e c = some sv → ∃ u, arr[ba.o + e * k.s + c]? = some u ∧ u.oneCell' = true ∧ RS w β S u sv
class Gl (P : Program) where
  l : List Nat
  ok : Nat → Obj → Prop
def GlAt (P : Program) [Gl P] (w : World) (g : Nat) : Prop := ∃ o, w.heap[g]? = some o ∧ Gl.ok P g o
def GlOk (P : Program) [Gl P] (w : World) (S : Nat → Prop) : Prop := ∀ g, g ∈ Gl.l P → S g ∧ GlAt P w g
structure Ctx (P : Program) [Gl P] where
  w0 : World
  own0 : Nat → Prop
  β0 : Nat → Option BA
  n0 : Nat
  S0 : Nat → Prop
  gok : ∀ g, g ∈ Gl.l P → S0 g ∧ g < w0.heap.size ∧ ¬ own0 g ∧ GlAt P w0 g
structure Rel {P : Program} [Gl P] (X : Ctx P) (st : St) (tmps : Array Value) (w : World) (β : Nat → Option BA) (S : Nat → Prop) : Prop where
  size : tmps.size = st.fr.length
  fr : ∀ (t : Nat) v sv, tmps[t]? = some v → st.fr[t]? = some sv → RS w β S v sv
  hp : ∀ b k, st.hp b = some k → HK w β S b k
  inj : ∀ b b' ba ba' k k', st.hp b = some k → st.hp b' = some k' → β b = some ba → β b' = some ba' → ba.b = ba'.b → b = b'
  excl : ∀ b k ba, st.hp b = some k → β b = some ba → ¬ S ba.b ∧ (X.w0.heap.size ≤ ba.b ∨ X.own0 ba.b)
  sbd : ∀ k, S k → k < w.heap.size
  old : ∀ k, k < X.w0.heap.size → ¬ X.own0 k → w.heap[k]? = X.w0.heap[k]?
  os : w.os = X.w0.os
  tape : w.tape = X.w0.tape
  out : w.output = X.w0.output
  grow : X.w0.heap.size ≤ w.heap.size
  s0 : ∀ k, S k → k < X.w0.heap.size → X.S0 k
  s1 : ∀ k, X.S0 k → S k
  fix : ∀ b k, b < X.n0 → st.hp b = some k → k.mv = false → β b = X.β0 b
theorem Rel.gl {P : Program} [Gl P] {X : Ctx P} {st : St} {tmps : Array Value} {w : World} {β : Nat → Option BA} {S : Nat → Prop} (h : Rel X st tmps w β S) : GlOk P w S := fun g hg => by
  obtain ⟨h1, h2, h3, o, h4, h5⟩ := X.gok g hg
  exact ⟨h.s1 g h1, o, (h.old g h2 h3).trans h4, h5⟩
def Good {P : Program} [Gl P] (X : Ctx P) (st : St) (a : Act) (w : World) : Prop := a.defers = [] ∧ ∃ β S, Rel X st a.tmps w β S
end Go.U
