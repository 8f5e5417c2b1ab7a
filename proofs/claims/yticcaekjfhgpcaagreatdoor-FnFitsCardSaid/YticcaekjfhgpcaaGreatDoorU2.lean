/- A part of the proof. No condition. -/
import Derived.Test.YticcaekjfhgpcaaGreatDoorU1
import Derived.Sort.Row
import Derived.Sort.Grow
import Derived.Sort.EncStr
import Derived.Shelf.Spec.SlicesGrow
set_option linter.unusedVariables false
set_option linter.unusedSimpArgs false
set_option linter.unusedSectionVars false
namespace Go.U
open Go Go.RowKit Go.Sort Go.Proofs
structure Turn (w w' : World) (blk : Nat) (f : Array Value → Array Value) : Prop where
  at_ : ∀ arr ty fz, w.heap[blk]? = some (.cells arr ty fz) → w'.heap[blk]? = some (.cells (f arr) ty fz)
  off : ∀ k, k < w.heap.size → k ≠ blk → w'.heap[k]? = w.heap[k]?
  size : w.heap.size ≤ w'.heap.size
  os : w'.os = w.os
  tape : w'.tape = w.tape
  out : w'.output = w.output
theorem turn_of {α : Type} [Inhabited α] (enc : α → Value) (w : World) (n blk o : Nat) (d : Array α) (new : Array Obj) : Turn w (grow (putRow enc (Go.Sort.ahead w n) blk o d) new) blk (putCells enc o d) where
  at_ arr ty fz h := by
    have hlt : blk < w.heap.size := (Array.getElem?_eq_some_iff.1 h).1
    show ((w.heap.modify blk (onCells (putCells enc o d))) ++ new)[blk]? = _
    rw [Array.getElem?_append_left (by rw [Array.size_modify]; exact hlt), Array.getElem?_modify, if_pos rfl, h]
    rfl
  off k hk hne := by
    show ((w.heap.modify blk (onCells (putCells enc o d))) ++ new)[k]? = _
    rw [Array.getElem?_append_left (by rw [Array.size_modify]; exact hk), Array.getElem?_modify, if_neg (fun e => hne e.symm)]
  size := by
    show w.heap.size ≤ ((w.heap.modify blk (onCells (putCells enc o d))) ++ new).size
    rw [Array.size_append, Array.size_modify]; omega
  os := rfl
  tape := rfl
  out := rfl
theorem turn_put {α : Type} [Inhabited α] (enc : α → Value) (w : World) (n blk o : Nat) (d : Array α) : Turn w (putRow enc (Go.Sort.ahead w n) blk o d) blk (putCells enc o d) := by
  have := turn_of enc w n blk o d #[]
  rwa [grow_empty] at this
theorem grab_all {args : List SV} {a : List D} (h : grabShs [.l (.all 0)] args = some a) : args = [.all 0] ∧ a = [] := by
  match args, h with
  | [p], h =>
    simp only [grabShs, grabSh] at h
    obtain ⟨a1, b1, h1, h2, h3⟩ := apO_some h
    cases h2
    cases p <;> simp only [grabL] at h1 <;> try cases h1
    split at h1
    · rename_i e; subst e; cases h1; exact ⟨rfl, h3⟩
    · cases h1
  | [], h => cases h
  | _ :: _ :: _, h =>
    simp only [grabShs] at h
    obtain ⟨a1, b1, h1, h2, h3⟩ := apO_some h
    cases h2
theorem grab_row {hs : List Blk} {b : List D} (h : grabBs [⟨1, true, .row .s⟩] hs = some b) : ∃ (m : Bool) (xs : List (List UInt8)), hs = [⟨1, m, .row .s xs⟩] ∧ b = [.rov .s xs] := by
  match hs, h with
  | [p], h =>
    simp only [grabBs] at h
    obtain ⟨a1, b1, h1, h2, h3⟩ := apO_some h
    cases h2
    obtain ⟨s, mv, c⟩ := p
    unfold grabB at h1
    split at h1
    case isFalse => cases h1
    rename_i hc
    obtain ⟨e1, e2⟩ := hc
    have e1 : s = 1 := e1
    subst e1
    cases c with
    | row t xs =>
      simp only at h1
      split at h1
      · rename_i e; subst e; cases h1; exact ⟨mv, xs, rfl, h3⟩
      · cases h1
    | mix ty els => cases h1
  | [], h => cases h
  | _ :: _ :: _, h =>
    simp only [grabBs] at h
    obtain ⟨a1, b1, h1, h2, h3⟩ := apO_some h
    cases h2
theorem dsub_rov {t : Ty} {xs ys : List t.den} (h : DSub (.rov t xs) (.rov t ys)) : xs = ys := by
  rcases h with h | ⟨h, _⟩
  · cases h; rfl
  · cases h
theorem hk_texts {w : World} {β : Nat → Option BA} {S : Nat → Prop} {mv : Bool} {xs : List (List UInt8)} (h : HK w β S 0 ⟨1, mv, .row .s xs⟩) {ba : BA} (hb : β 0 = some ba) :
    ∃ (arr : Array Value) (ty : TypeId) (fz : Nat × Nat), ba.s = 1 ∧ ba.len = xs.length ∧ w.heap[ba.b]? = some (.cells arr ty fz) ∧ (∀ i, i < arr.size → (fz.1 ≤ i && i < fz.2) = false) ∧ arr.size = ba.n ∧ ba.o + xs.length ≤ ba.n ∧
      ∀ (e : Nat) x, xs[e]? = some x → arr[ba.o + e]? = some (encStr x) := by
  obtain ⟨arr, ty, fz, ⟨g1, g2, _⟩, _, g4, g5, g6, g7, g8, g9⟩ := h.open_ hb
  refine ⟨arr, ty, fz, g1, g2, g4, g5.none (fun T e => by cases e), g6, ?_, fun e x hx => ?_⟩
  · have : ba.o + xs.length * 1 ≤ ba.n := g7
    omega
  · have hc : (BC.row .s xs).cell? e 0 = some (.d (.str x)) := by
      exact (congrArg (fun z : Option (List UInt8) => z.bind fun y => (Ty.enc .s y)[0]?.map SV.d) hx).trans rfl
    obtain ⟨u, u1, _, u3⟩ := g9 e 0 _ hc
    have u1 : arr[ba.o + e * 1 + 0]? = some u := u1
    rw [show ba.o + e * 1 + 0 = ba.o + e by omega] at u1
    rw [u1]
    cases u3 with
    | d h => cases h; rfl
theorem hk_turned {w w' : World} {β β' : Nat → Option BA} {S : Nat → Prop} {mv mv' : Bool} {xs ys : List (List UInt8)} {d : Array (List UInt8)} (h : HK w β S 0 ⟨1, mv, .row .s xs⟩) {ba : BA} (hb : β 0 = some ba) (hb' : β' 0 = some { ba with len := ys.length })
    (ht : Turn w w' ba.b (putCells encStr ba.o d)) (hd : d.size = xs.length) (hy : ys.length ≤ xs.length) (hys : ∀ (e : Nat) y, ys[e]? = some y → d[e]! = y) : HK w' β' S 0 ⟨1, mv', .row .s ys⟩ := by
  obtain ⟨arr, ty, fz, k1, k2, k3, k4, k5, k6, k7⟩ := hk_texts h hb
  have hsz : (putCells encStr ba.o d arr).size = arr.size := by unfold putCells; rw [Array.size_mapIdx]
  refine .inr ⟨_, putCells encStr ba.o d arr, ty, fz, hb', ⟨k1, rfl, fun t h => by cases h⟩, Nat.one_pos, ht.at_ _ _ _ k3, FzOk.of (fun i hi => k4 i (by rw [hsz] at hi; exact hi)) (fun ⟨T, h⟩ => by cases h), by rw [hsz]; exact k5, by
    show ba.o + ys.length * 1 ≤ ba.n; omega, fun e l h => ?_, fun e c sv h => ?_⟩
  · simp only [BC.lens?, Option.map_eq_some_iff] at h
    obtain ⟨_, _, rfl⟩ := h
    rfl
  · have h' : ((ys : List Ty.s.den)[e]?.bind fun x => (Ty.s.enc x)[c]?.map SV.d) = some sv := h
    obtain ⟨x, hx', h2⟩ := Option.bind_eq_some_iff.1 h'
    have hx : ys[e]? = some x := hx'
    cases c with
    | succ c => simp [Ty.enc] at h2
    | zero =>
      simp [Ty.enc] at h2
      subst h2
      have he : e < ys.length := (List.getElem?_eq_some_iff.1 hx).1
      refine ⟨encStr x, ?_, rfl, .d ?_⟩
      · show (putCells encStr ba.o d arr)[ba.o + e * 1 + 0]? = _
        rw [show ba.o + e * 1 + 0 = ba.o + e by omega]
        unfold putCells
        rw [Array.getElem?_mapIdx]
        have hlt : ba.o + e < arr.size := by omega
        rw [Array.getElem?_eq_getElem hlt]
        simp only [Option.map_some]
        rw [if_pos ⟨by omega, by omega⟩, show ba.o + e - ba.o = e by omega, hys e x hx]
      · exact .str x
theorem holds_texts {w : World} {β : Nat → Option BA} {S : Nat → Prop} {mv : Bool} {xs : List (List UInt8)} (h : HK w β S 0 ⟨1, mv, .row .s xs⟩) {ba : BA} (hb : β 0 = some ba) : Holds encStr w ba.b ba.o xs.toArray ∧ ba.b < w.heap.size := by
  obtain ⟨arr, ty, fz, k1, k2, k3, k4, k5, k6, k7⟩ := hk_texts h hb
  refine ⟨fun j hj => ?_, (Array.getElem?_eq_some_iff.1 k3).1⟩
  rw [List.size_toArray] at hj
  have hx := List.getElem?_eq_getElem hj
  have hv := k7 j _ hx
  have e : xs.toArray[j]! = xs[j] := by simp [hj]
  refine ⟨?_, ?_⟩
  · simp only [World.cell?]; rw [k3]; simp only [e]; exact hv
  · simp only [World.frozen?]
    rw [k3]
    exact k4 _ (by omega)
section
variable {P : Program} [Gl P] {f : Nat} (G : List (List UInt8) → List (List UInt8))
theorem ct_turnS (hG : ∀ xs, (G xs).length = xs.length) (hent : ∀ args w, (callFunc f args).run P w = .ok (.enter f args) w)
    (h1 : ∀ (blk o cap : Nat) (ss : List (List UInt8)) (w : World), Holds encStr w blk o ss.toArray → blk < w.heap.size → ss.length < 4611686018427387904 →
      Calls P f #[.slice (some ⟨blk, o, none⟩) ss.length cap] w fun e w' => e = .returned (.tuple #[]) ∧ ∃ n os, w' = grow (putRow encStr (Go.Sort.ahead w n) blk o (G ss).toArray) os)
    (h0 : ∀ (A : Option Addr) (w : World), Calls P f #[.slice A 0 0] w fun e w' => e = .returned (.tuple #[]) ∧ ∃ n os, w' = grow (Go.Sort.ahead w n) os) :
    CtOk P f ⟨[.l (.all 0)], [⟨1, true, .row .s⟩], [], [⟨1, false, .row .s⟩], [], fun xs : List (List UInt8) => guard (decide (xs.length < 4611686018427387904)) (some (G xs))⟩ := by
  intro w β S vs args hs res hs' hF hp
  unfold funOf at hF
  split at hF
  case h_2 => cases hF
  rename_i a b ha hb
  obtain ⟨rfl, rfl⟩ := grab_all ha
  obtain ⟨mv0, xs0, rfl, rfl⟩ := grab_row hb
  obtain ⟨xs, hx, hd⟩ := unDs_spec _ _ _ hF
  have e0 : xs0 = xs := dsub_rov (t := .s) hd.1
  subst e0
  obtain ⟨r, hr, h2⟩ := bindO_some hx
  obtain ⟨hg, hr⟩ := guard_some hr
  cases hr
  have hlen : xs0.length < 4611686018427387904 := of_decide_eq_true hg
  cases h2
  have hsz := hp.sz
  obtain ⟨v0, rfl⟩ : ∃ v0, vs = #[v0] := by
    have : vs.size = 1 := hsz
    refine ⟨vs[0]'(by omega), ?_⟩
    apply Array.ext
    · simpa using this
    · intro i h1 h2
      simp at h2
      subst h2; rfl
  have r0 := hp.args 0 v0 _ rfl rfl
  obtain ⟨hk, _⟩ := hp.hp 0 _ rfl
  refine .inl ⟨hent _ _, ?_⟩
  cases r0 with
  | all0 A _ hb0 =>
    have hnil : xs0 = [] := by
      rcases hk with ⟨h, _⟩ | ⟨ba, _, _, _, h, _⟩
      · exact List.length_eq_zero_iff.1 h
      · rw [hb0] at h; cases h
    subst hnil
    have hGn : G [] = [] := List.length_eq_zero_iff.1 (hG [])
    refine (h0 A w).mono ?_
    rintro e w' ⟨rfl, n, os, rfl⟩
    refine ⟨_, β, S, rfl, ?_⟩
    have hsize : w.heap.size ≤ (grow (Go.Sort.ahead w n) os).heap.size := by show w.heap.size ≤ (w.heap ++ os).size; rw [Array.size_append]; omega
    exact {
      ret := .tup #[] [] rfl (fun i v c h _ => by simp at h)
      len := Nat.le_refl _
      hp := fun j k hk => by
        match j, hk with
        | 0, hk => cases hk; exact .inl ⟨by show (G []).length = 0; rw [hGn]; rfl, hb0⟩
      inj := fun j j' ba ba' g1 g2 _ _ _ => by have : j < 1 := g1; have : j' < 1 := g2; omega
      excl := hp.excl
      loc := fun j ba g1 g2 => .inl ⟨j, ba, g1, g2, rfl⟩
      fix := fun _ _ _ _ _ => rfl
      sS := fun _ h => h
      s1 := fun k hk => ⟨Nat.lt_of_lt_of_le (hp.sbd k hk) hsize, .inl hk⟩
      os := rfl
      tape := rfl
      out := rfl
      size := hsize
      frame := fun k hk _ => by
        show (w.heap ++ os)[k]? = _
        rw [Array.getElem?_append_left hk] }
  | all _ c ba hb0 hc hn =>
    obtain ⟨hH, hbl⟩ := holds_texts hk hb0
    obtain ⟨arr, ty, fz, k1, k2, k3, k4, k5, k6, k7⟩ := hk_texts hk hb0
    rw [k2]
    refine (h1 ba.b ba.o c xs0 w hH hbl hlen).mono ?_
    rintro e w' ⟨rfl, n, os, rfl⟩
    have ht := turn_of encStr w n ba.b ba.o (G xs0).toArray os
    refine ⟨_, β, S, rfl, ?_⟩
    exact {
      ret := .tup #[] [] rfl (fun i v c h _ => by simp at h)
      len := Nat.le_refl _
      hp := fun j k hk' => by
        match j, hk' with
        | 0, hk' =>
          cases hk'
          refine hk_turned hk hb0 ?_ ht (by simpa using hG xs0) (Nat.le_of_eq (hG xs0)) fun e y hy => ?_
          · rw [hb0, hG, ← k2]
          · obtain ⟨he, rfl⟩ := List.getElem?_eq_some_iff.1 hy
            simp [he]
      inj := fun j j' ba ba' g1 g2 _ _ _ => by have : j < 1 := g1; have : j' < 1 := g2; omega
      excl := hp.excl
      loc := fun j ba g1 g2 => .inl ⟨j, ba, g1, g2, rfl⟩
      fix := fun _ _ _ _ _ => rfl
      sS := fun _ h => h
      s1 := fun k hk => ⟨Nat.lt_of_lt_of_le (hp.sbd k hk) ht.size, .inl hk⟩
      os := ht.os
      tape := ht.tape
      out := ht.out
      size := ht.size
      frame := fun k hk hne => ht.off k hk (hne 0 ba Nat.one_pos hb0) }
theorem ct_shortS (hG : ∀ xs, (G xs).length ≤ xs.length) (hent : ∀ args w, (callFunc f args).run P w = .ok (.enter f args) w)
    (h1 : ∀ (blk o cap : Nat) (ss : List (List UInt8)) (w : World), Holds encStr w blk o ss.toArray → ss.length ≤ 9223372036854775807 → ss.length ≤ cap →
      Calls P f #[.slice (some ⟨blk, o, none⟩) ss.length cap] w fun e w' => e = .returned (.slice (some ⟨blk, o, none⟩) (G ss).length cap) ∧ ∃ q, w' = putRow encStr (Go.Sort.ahead w q) blk o (G ss ++ List.replicate (ss.length - (G ss).length) []).toArray)
    (h0 : ∀ (A : Option Addr) (cap : Nat) (w : World), Calls P f #[.slice A 0 cap] w fun e w' => e = .returned (.slice A 0 cap) ∧ w' = w) :
    CtOk P f ⟨[.l (.all 0)], [⟨1, true, .row .s⟩], [.l (.all 0)], [⟨1, true, .row .s⟩], [], fun xs : List (List UInt8) => guard (decide (xs.length < 4611686018427387904)) (some (G xs))⟩ := by
  intro w β S vs args hs res hs' hF hp
  unfold funOf at hF
  split at hF
  case h_2 => cases hF
  rename_i a b ha hb
  obtain ⟨rfl, rfl⟩ := grab_all ha
  obtain ⟨mv0, xs0, rfl, rfl⟩ := grab_row hb
  obtain ⟨xs, hx, hd⟩ := unDs_spec _ _ _ hF
  have e0 : xs0 = xs := dsub_rov (t := .s) hd.1
  subst e0
  obtain ⟨r, hr, h2⟩ := bindO_some hx
  obtain ⟨hg, hr⟩ := guard_some hr
  cases hr
  have hlen : xs0.length < 4611686018427387904 := of_decide_eq_true hg
  cases h2
  have hsz := hp.sz
  obtain ⟨v0, rfl⟩ : ∃ v0, vs = #[v0] := by
    have : vs.size = 1 := hsz
    refine ⟨vs[0]'(by omega), ?_⟩
    apply Array.ext
    · simpa using this
    · intro i h1 h2
      simp at h2
      subst h2; rfl
  have r0 := hp.args 0 v0 _ rfl rfl
  obtain ⟨hk, _⟩ := hp.hp 0 _ rfl
  refine .inl ⟨hent _ _, ?_⟩
  cases r0 with
  | all0 A _ hb0 =>
    have hnil : xs0 = [] := by
      rcases hk with ⟨h, _⟩ | ⟨ba, _, _, _, h, _⟩
      · exact List.length_eq_zero_iff.1 h
      · rw [hb0] at h; cases h
    subst hnil
    have hGn : G [] = [] := List.length_eq_zero_iff.1 (Nat.le_zero.1 (hG []))
    refine (h0 A 0 w).mono ?_
    rintro e w' ⟨rfl, rfl⟩
    refine ⟨_, β, S, rfl, ?_⟩
    exact {
      ret := .all0 A 0 hb0
      len := Nat.le_refl _
      hp := fun j k hk => by
        match j, hk with
        | 0, hk => cases hk; exact .inl ⟨by show (G []).length = 0; rw [hGn]; rfl, hb0⟩
      inj := fun j j' ba ba' g1 g2 _ _ _ => by have : j < 1 := g1; have : j' < 1 := g2; omega
      excl := hp.excl
      loc := fun j ba g1 g2 => .inl ⟨j, ba, g1, g2, rfl⟩
      fix := fun _ _ _ _ _ => rfl
      sS := fun _ h => h
      s1 := fun k hk => ⟨hp.sbd k hk, .inl hk⟩
      os := rfl
      tape := rfl
      out := rfl
      size := Nat.le_refl _
      frame := fun k hk _ => rfl }
  | all _ c ba hb0 hc hn =>
    obtain ⟨hH, hbl⟩ := holds_texts hk hb0
    obtain ⟨arr, ty, fz, k1, k2, k3, k4, k5, k6, k7⟩ := hk_texts hk hb0
    rw [k2] at hc ⊢
    refine (h1 ba.b ba.o c xs0 w hH (by omega) hc).mono ?_
    rintro e w' ⟨rfl, q, rfl⟩
    have ht := turn_put encStr w q ba.b ba.o (G xs0 ++ List.replicate (xs0.length - (G xs0).length) []).toArray
    have hb' : (fun x => if x = 0 then some { ba with len := (G xs0).length } else β x) 0 = some { ba with len := (G xs0).length } := if_pos rfl
    have hGl := hG xs0
    refine ⟨_, fun x => if x = 0 then some { ba with len := (G xs0).length } else β x, S, rfl, ?_⟩
    exact {
      ret := .all 0 c { ba with len := (G xs0).length } hb' (by show (G xs0).length ≤ c; omega) hn
      len := Nat.le_refl _
      hp := fun j k hk' => by
        match j, hk' with
        | 0, hk' =>
          cases hk'
          refine hk_turned hk hb0 hb' ht (by simp; omega) hGl fun e y hy => ?_
          obtain ⟨he, rfl⟩ := List.getElem?_eq_some_iff.1 hy
          have : e < (G xs0 ++ List.replicate (xs0.length - (G xs0).length) []).length := by rw [List.length_append]; omega
          simp only [List.getElem!_toArray]
          rw [getElem!_pos _ e this, List.getElem_append_left he]
      inj := fun j j' ba ba' g1 g2 _ _ _ => by have : j < 1 := g1; have : j' < 1 := g2; omega
      excl := fun j ba' g1 g2 => by
        have : j = 0 := by have : j < 1 := g1; omega
        subst this
        have g2 := Option.some.inj (hb'.symm.trans g2)
        subst g2
        exact hp.excl 0 ba g1 hb0
      loc := fun j ba' g1 g2 => by
        have : j = 0 := by have : j < 1 := g1; omega
        subst this
        have g2 := Option.some.inj (hb'.symm.trans g2)
        subst g2
        exact .inl ⟨0, ba, g1, hb0, rfl⟩
      fix := fun j k g1 g2 g3 => by
        match j, g2 with
        | 0, g2 => cases g2; cases g3
      sS := fun _ h => h
      s1 := fun k hk => ⟨Nat.lt_of_lt_of_le (hp.sbd k hk) ht.size, .inl hk⟩
      os := ht.os
      tape := ht.tape
      out := ht.out
      size := ht.size
      frame := fun k hk hne => ht.off k hk (hne 0 ba Nat.one_pos hb0) }
end
end Go.U
namespace Go.U
open Go Go.RowKit Go.Sort Go.Proofs
theorem post_ret {P : Program} [Gl P] {w w' : World} {β : Nat → Option BA} {S : Nat → Prop} {vs : Array Value} {args : List SV} {v : Value} {res : List SV} (hp : Pre P w β S vs args []) (hv : RS w' β S v (retSV res)) (bel : Below w.heap.size w w') :
    Post w w' β β S S [] [] v res where
  ret := hv
  len := Nat.le_refl _
  hp := fun j k hk => by simp at hk
  inj := fun j j' ba ba' h1 => by simp at h1
  excl := fun j ba h1 => by simp at h1
  loc := fun j ba h1 => by simp at h1
  fix := fun j k h1 => by simp at h1
  sS := fun _ h => h
  s1 := fun k hk => ⟨Nat.lt_of_lt_of_le (hp.sbd k hk) bel.size, .inl hk⟩
  os := bel.os
  tape := bel.tape
  out := bel.output
  size := bel.size
  frame := fun k hk _ => bel.block k hk
theorem rs_tup2 {w : World} {β : Nat → Option BA} {S : Nat → Prop} {a b : Value} {x y : D} (h1 : RD w S a x) (h2 : RD w S b y) : RS w β S (.tuple #[a, b]) (.tup [.d x, .d y]) :=
  .tup _ _ rfl fun i v c hv hc => by
    match i, hv, hc with
    | 0, hv, hc => simp at hv hc; subst hv hc; exact .d h1
    | 1, hv, hc => simp at hv hc; subst hv hc; exact .d h2
    | i + 2, hv, hc => simp at hc
theorem rs_tup3 {w : World} {β : Nat → Option BA} {S : Nat → Prop} {a b e : Value} {x y z : D} (h1 : RD w S a x) (h2 : RD w S b y) (h3 : RD w S e z) : RS w β S (.tuple #[a, b, e]) (.tup [.d x, .d y, .d z]) :=
  .tup _ _ rfl fun i v c hv hc => by
    match i, hv, hc with
    | 0, hv, hc => simp at hv hc; subst hv hc; exact .d h1
    | 1, hv, hc => simp at hv hc; subst hv hc; exact .d h2
    | 2, hv, hc => simp at hv hc; subst hv hc; exact .d h3
    | i + 3, hv, hc => simp at hc
section
variable {P : Program} [Gl P] {f : Nat}
theorem two_strings {w : World} {β : Nat → Option BA} {S : Nat → Prop} {vs : Array Value} {l m : List UInt8} {hs : List Blk} (hp : Pre P w β S vs [.d (.str l), .d (.str m)] hs) : vs = #[.string ⟨l.toArray⟩, .string ⟨m.toArray⟩] := by
  have hsz := hp.sz
  obtain ⟨v0, v1, rfl⟩ : ∃ v0 v1, vs = #[v0, v1] := by
    have : vs.size = 2 := hsz
    refine ⟨vs[0]'(by omega), vs[1]'(by omega), ?_⟩
    apply Array.ext
    · simpa using this
    · intro i h1 h2
      simp at h2
      match i, h2 with
      | 0, _ => rfl
      | 1, _ => rfl
      | i + 2, h2 => omega
  have r0 := hp.args 0 v0 _ rfl rfl
  have r1 := hp.args 1 v1 _ rfl rfl
  have e0 : v0 = .string ⟨l.toArray⟩ := by cases r0 with | d h => cases h; rfl
  have e1 : v1 = .string ⟨m.toArray⟩ := by cases r1 with | d h => cases h; rfl
  rw [e0, e1]
theorem ct_ss2 (F : List UInt8 × List UInt8 → Option (List UInt8 × Bool)) (hent : ∀ args w, (callFunc f args).run P w = .ok (.enter f args) w)
    (h : ∀ l m a b w, (∀ g, g ∈ Gl.l P → GlAt P w g) → F (l, m) = some (a, b) → Calls P f #[.string ⟨l.toArray⟩, .string ⟨m.toArray⟩] w fun e w' => e = .returned (.tuple #[.string ⟨a.toArray⟩, .bool b]) ∧ Below w.heap.size w w') :
    CtOk P f ⟨[.l (.v .s), .l (.v .s)], [], [.l (.v .s), .l (.v .b)], [], [], F⟩ := by
  intro w β S vs args hs res hs' hF hp
  unfold funOf at hF
  split at hF
  case h_2 => cases hF
  rename_i a b ha hb
  obtain ⟨d0, d1, rfl, rfl⟩ := grab2 ha
  obtain ⟨rfl, rfl⟩ := grab0 hb
  obtain ⟨⟨l, m⟩, hx, hd⟩ := unDs_spec _ _ _ hF
  have e0 : d0 = .str l := dsub_str hd.1
  have e1 : d1 = .str m := dsub_str hd.2.1
  subst e0 e1
  have hF' : (bindO (F (l, m)) fun r => some ([SV.d (.str r.1), SV.d (.b r.2)], ([] : List Blk))) = some (res, hs') := hx
  obtain ⟨⟨x, y⟩, hr, h2⟩ := bindO_some hF'
  cases h2
  obtain rfl := two_strings hp
  refine .inl ⟨hent _ _, (h l m x y w (fun g hg => (hp.gl g hg).2) hr).mono fun e w' ⟨he, bel⟩ => ⟨_, β, S, he, post_ret hp (rs_tup2 (.str _) (.b _)) bel⟩⟩
theorem ct_ss3 (F : List UInt8 × List UInt8 → Option (List UInt8 × List UInt8 × Bool)) (hent : ∀ args w, (callFunc f args).run P w = .ok (.enter f args) w)
    (h : ∀ l m a c b w, (∀ g, g ∈ Gl.l P → GlAt P w g) → F (l, m) = some (a, c, b) → Calls P f #[.string ⟨l.toArray⟩, .string ⟨m.toArray⟩] w fun e w' => e = .returned (.tuple #[.string ⟨a.toArray⟩, .string ⟨c.toArray⟩, .bool b]) ∧ Below w.heap.size w w') :
    CtOk P f ⟨[.l (.v .s), .l (.v .s)], [], [.l (.v .s), .l (.v .s), .l (.v .b)], [], [], F⟩ := by
  intro w β S vs args hs res hs' hF hp
  unfold funOf at hF
  split at hF
  case h_2 => cases hF
  rename_i a b ha hb
  obtain ⟨d0, d1, rfl, rfl⟩ := grab2 ha
  obtain ⟨rfl, rfl⟩ := grab0 hb
  obtain ⟨⟨l, m⟩, hx, hd⟩ := unDs_spec _ _ _ hF
  have e0 : d0 = .str l := dsub_str hd.1
  have e1 : d1 = .str m := dsub_str hd.2.1
  subst e0 e1
  have hF' : (bindO (F (l, m)) fun r => some ([SV.d (.str r.1), SV.d (.str r.2.1), SV.d (.b r.2.2)], ([] : List Blk))) = some (res, hs') := hx
  obtain ⟨⟨x, z, y⟩, hr, h2⟩ := bindO_some hF'
  cases h2
  obtain rfl := two_strings hp
  refine .inl ⟨hent _ _, (h l m x z y w (fun g hg => (hp.gl g hg).2) hr).mono fun e w' ⟨he, bel⟩ => ⟨_, β, S, he, post_ret hp (rs_tup3 (.str _) (.str _) (.b _)) bel⟩⟩
theorem grab_en {args : List SV} {a : List D} (h : grabShs [.l .emp, .l (.v (.i .i64))] args = some a) : ∃ d, args = [.d .emp, .d d] ∧ a = [d] := by
  match args, h with
  | [p, q], h =>
    simp only [grabShs, grabSh] at h
    obtain ⟨a1, b1, h1, h2, h3⟩ := apO_some h
    obtain ⟨a2, b2, h4, h5, h6⟩ := apO_some h2
    obtain ⟨d1, rfl, rfl⟩ := grab_v h4
    cases h5
    cases p with
    | d x =>
      cases x <;> simp only [grabL] at h1 <;> try cases h1
      exact ⟨d1, rfl, by rw [h3, h6]; rfl⟩
    | _ => simp only [grabL] at h1; cases h1
  | [], h => cases h
  | [_], h =>
    simp only [grabShs] at h
    obtain ⟨a1, b1, h1, h2, h3⟩ := apO_some h
    cases h2
  | _ :: _ :: _ :: _, h =>
    simp only [grabShs] at h
    obtain ⟨a1, b1, h1, h2, h3⟩ := apO_some h
    obtain ⟨a2, b2, h4, h5, h6⟩ := apO_some h2
    cases h5
def growF (n : Int) : Option (List (List UInt8)) := guard (decide (0 ≤ n ∧ n ≤ 1000)) (some [])
theorem ct_growS {ty : TypeId} {z : Value} (hz : z.cells.size = 1) (hent : ∀ args w, (callFunc f args).run P w = .ok (.enter f args) w)
    (h0 : ∀ w, Calls P f #[.slice none 0 0, .int .i64 0] w fun e w' => e = .returned (.slice none 0 0) ∧ w' = w)
    (h1 : ∀ (n : Nat) w, 0 < n → n ≤ 1000 → Calls P f #[.slice none 0 0, .int .i64 n] w fun e w' => ∃ c k, e = .returned (.slice (some ⟨w.heap.size, 0, none⟩) 0 c) ∧ c ≤ k ∧ w' = w.drew.alloc (.cells (Builtin.zeroCells z.cells k) ty)) :
    CtOk P f ⟨[.l .emp, .l (.v (.i .i64))], [], [.l (.all 0)], [⟨1, true, .row .s⟩], [], growF⟩ := by
  intro w β S vs args hs res hs' hF hp
  unfold funOf at hF
  split at hF
  case h_2 => cases hF
  rename_i a b ha hb
  obtain ⟨d0, rfl, rfl⟩ := grab_en ha
  obtain ⟨rfl, rfl⟩ := grab0 hb
  obtain ⟨(n : Int), hx, hd⟩ := unDs_spec _ _ _ hF
  have e0 : d0 = .i .i64 n := dsub_i hd.1
  subst e0
  obtain ⟨r, hr, h2⟩ := bindO_some hx
  obtain ⟨hg, hr⟩ := guard_some hr
  cases hr
  have hn : 0 ≤ n ∧ n ≤ 1000 := of_decide_eq_true hg
  cases h2
  have hsz := hp.sz
  obtain ⟨v0, v1, rfl⟩ : ∃ v0 v1, vs = #[v0, v1] := by
    have : vs.size = 2 := hsz
    refine ⟨vs[0]'(by omega), vs[1]'(by omega), ?_⟩
    apply Array.ext
    · simpa using this
    · intro i h1 h2
      simp at h2
      match i, h2 with
      | 0, _ => rfl
      | 1, _ => rfl
      | i + 2, h2 => omega
  have r0 := hp.args 0 v0 _ rfl rfl
  have r1 := hp.args 1 v1 _ rfl rfl
  have e0 : v0 = .slice none 0 0 := by cases r0 with | d h => cases h; rfl
  have e1 : v1 = .int .i64 n := by cases r1 with | d h => cases h; rfl
  subst e0 e1
  refine .inl ⟨hent _ _, ?_⟩
  obtain ⟨k, rfl⟩ : ∃ k : Nat, n = (k : Int) := ⟨n.toNat, by omega⟩
  by_cases hk : k = 0
  · subst hk
    refine (h0 w).mono ?_
    rintro e w' ⟨rfl, rfl⟩
    have hβ : (fun x => if x = 0 then none else β x) 0 = none := if_pos rfl
    refine ⟨_, fun x => if x = 0 then none else β x, S, rfl, ?_⟩
    exact {
      ret := .all0 none 0 hβ
      len := Nat.zero_le _
      hp := fun j k hk => by
        match j, hk with
        | 0, hk => cases hk; exact .inl ⟨rfl, hβ⟩
      inj := fun j j' ba ba' g1 g2 _ _ _ => by have : j < 1 := g1; have : j' < 1 := g2; omega
      excl := fun j ba g1 g2 => by
        have : j = 0 := by have : j < 1 := g1; omega
        subst this
        exact nomatch (hβ.symm.trans g2)
      loc := fun j ba g1 g2 => by
        have : j = 0 := by have : j < 1 := g1; omega
        subst this
        exact nomatch (hβ.symm.trans g2)
      fix := fun j k g1 => by simp at g1
      sS := fun _ h => h
      s1 := fun k hk => ⟨hp.sbd k hk, .inl hk⟩
      os := rfl
      tape := rfl
      out := rfl
      size := Nat.le_refl _
      frame := fun k hk _ => rfl }
  · refine (h1 k w (by omega) (by omega)).mono ?_
    rintro e w' ⟨c, q, rfl, hc, rfl⟩
    have hsize : (Builtin.zeroCells z.cells q).size = q := by rw [size_zeroCells, hz, Nat.mul_one]
    have hβ : (fun x => if x = 0 then some (⟨w.heap.size, 0, q, 1, 0⟩ : BA) else β x) 0 = some ⟨w.heap.size, 0, q, 1, 0⟩ := if_pos rfl
    have hat : (w.drew.alloc (.cells (Builtin.zeroCells z.cells q) ty)).heap[w.heap.size]? = some (.cells (Builtin.zeroCells z.cells q) ty) := by
      show (w.heap.push _)[w.heap.size]? = _
      rw [Array.getElem?_push_size]
    have hle : w.heap.size ≤ (w.drew.alloc (.cells (Builtin.zeroCells z.cells q) ty)).heap.size := by
      show w.heap.size ≤ (w.heap.push _).size
      rw [Array.size_push]; omega
    refine ⟨_, fun x => if x = 0 then some ⟨w.heap.size, 0, q, 1, 0⟩ else β x, S, rfl, ?_⟩
    exact {
      ret := .all 0 c ⟨w.heap.size, 0, q, 1, 0⟩ hβ (Nat.zero_le _) (by show 0 + c * 1 ≤ q; omega)
      len := Nat.zero_le _
      hp := fun j k hk => by
        match j, hk with
        | 0, hk =>
          cases hk
          refine .inr ⟨_, Builtin.zeroCells z.cells q, ty, _, hβ, ⟨rfl, rfl, fun t h => by cases h⟩, Nat.one_pos, hat, FzOk.of (fun i _ => by simp) (fun ⟨T, h⟩ => by cases h), hsize, by show 0 + 0 * 1 ≤ q; omega, fun e l h => ?_, fun e c sv h => ?_⟩
          · simp only [BC.lens?, Option.map_eq_some_iff] at h
            obtain ⟨_, _, rfl⟩ := h
            rfl
          · have h' : (([] : List Ty.s.den)[e]?.bind fun x => (Ty.s.enc x)[c]?.map SV.d) = some sv := h
            obtain ⟨x, hx', _⟩ := Option.bind_eq_some_iff.1 h'
            have hx : ([] : List (List UInt8))[e]? = some x := hx'
            simp at hx
      inj := fun j j' ba ba' g1 g2 _ _ _ => by have : j < 1 := g1; have : j' < 1 := g2; omega
      excl := fun j ba g1 g2 => by
        have : j = 0 := by have : j < 1 := g1; omega
        subst this
        have g2 := Option.some.inj (hβ.symm.trans g2)
        subst g2
        intro hS
        have := hp.sbd _ hS
        simp only at this
        omega
      loc := fun j ba g1 g2 => by
        have : j = 0 := by have : j < 1 := g1; omega
        subst this
        have g2 := Option.some.inj (hβ.symm.trans g2)
        subst g2
        exact .inr (Nat.le_refl _)
      fix := fun j k g1 => by simp at g1
      sS := fun _ h => h
      s1 := fun k hk => ⟨Nat.lt_of_lt_of_le (hp.sbd k hk) hle, .inl hk⟩
      os := rfl
      tape := rfl
      out := rfl
      size := hle
      frame := fun k hk _ => by
        show (w.heap.push _)[k]? = _
        rw [Array.getElem?_push_lt hk, Array.getElem?_eq_getElem hk] }
end
end Go.U
