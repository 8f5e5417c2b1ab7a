/- A part of the proof. No condition. -/
import Derived.Test.YtclapampnmjmoaaGreatDoorU1
import Derived.Sort.Row
import Derived.Sort.Grow
import Derived.Sort.EncStr
import Derived.Shelf.Spec.SlicesGrow
set_option linter.unusedVariables false
set_option linter.unusedSimpArgs false
set_option linter.unusedSectionVars false
namespace Go.U
open Go Go.RowKit Go.Sort Go.Proofs
structure Turn (w w' : World) (blk : Nat) (f : Array Value → Array Value) : Prop where
  at_ : ∀ arr ty fz, w.heap[blk]? = some (.cells arr ty fz) → w'.heap[blk]? = some (.cells (f arr) ty fz)
  off : ∀ k, k < w.heap.size → k ≠ blk → w'.heap[k]? = w.heap[k]?
  size : w.heap.size ≤ w'.heap.size
  os : w'.os = w.os
  tape : w'.tape = w.tape
  out : w'.output = w.output
theorem turn_of {α : Type} [Inhabited α] (enc : α → Value) (w : World) (n blk o : Nat) (d : Array α) (new : Array Obj) : Turn w (grow (putRow enc (Go.Sort.ahead w n) blk o d) new) blk (putCells enc o d) where
  at_ arr ty fz h := by
    have hlt : blk < w.heap.size := (Array.getElem?_eq_some_iff.1 h).1
    show ((w.heap.modify blk (onCells (putCells enc o d))) ++ new)[blk]? = _
    rw [Array.getElem?_append_left (by rw [Array.size_modify]; exact hlt), Array.getElem?_modify, if_pos rfl, h]
    rfl
  off k hk hne := by
    show ((w.heap.modify blk (onCells (putCells enc o d))) ++ new)[k]? = _
    rw [Array.getElem?_append_left (by rw [Array.size_modify]; exact hk), Array.getElem?_modify, if_neg (fun e => hne e.symm)]
  size := by
    show w.heap.size ≤ ((w.heap.modify blk (onCells (putCells enc o d))) ++ new).size
    rw [Array.size_append, Array.size_modify]; omega
  os := rfl
  tape := rfl
  out := rfl
theorem turn_put {α : Type} [Inhabited α] (enc : α → Value) (w : World) (n blk o : Nat) (d : Array α) : Turn w (putRow enc (Go.Sort.ahead w n) blk o d) blk (putCells enc o d) := by
  have := turn_of enc w n blk o d #[]
  rwa [grow_empty] at this
theorem grab_row {hs : List Blk} {b : List D} (h : grabBs [⟨1, true, .row .s⟩] hs = some b) : ∃ (m : Bool) (xs : List (List UInt8)), hs = [⟨1, m, .row .s xs⟩] ∧ b = [.rov .s xs] := by
  match hs, h with
  | [p], h =>
    simp only [grabBs] at h
    obtain ⟨a1, b1, h1, h2, h3⟩ := apO_some h
    cases h2
    obtain ⟨s, mv, c⟩ := p
    unfold grabB at h1
    split at h1
    case isFalse => cases h1
    rename_i hc
    obtain ⟨e1, e2⟩ := hc
    have e1 : s = 1 := e1
    subst e1
    cases c with
    | row t xs =>
      simp only at h1
      split at h1
      · rename_i e; subst e; cases h1; exact ⟨mv, xs, rfl, h3⟩
      · cases h1
    | mix ty els => cases h1
    | map t es => cases h1
  | [], h => cases h
  | _ :: _ :: _, h =>
    simp only [grabBs] at h
    obtain ⟨a1, b1, h1, h2, h3⟩ := apO_some h
    cases h2
theorem dsub_rov {t : Ty} {xs ys : List t.den} (h : DSub (.rov t xs) (.rov t ys)) : xs = ys := by
  rcases h with h | ⟨h, _⟩
  · cases h; rfl
  · cases h
theorem hk_texts {w : World} {β : Nat → Option BA} {S : Nat → Prop} {mv : Bool} {xs : List (List UInt8)} (h : HK w β S 0 ⟨1, mv, .row .s xs⟩) {ba : BA} (hb : β 0 = some ba) :
    ∃ (arr : Array Value) (ty : TypeId) (fz : Nat × Nat), ba.s = 1 ∧ ba.len = xs.length ∧ w.heap[ba.b]? = some (.cells arr ty fz) ∧ (∀ i, i < arr.size → (fz.1 ≤ i && i < fz.2) = false) ∧ arr.size = ba.n ∧ ba.o + xs.length ≤ ba.n ∧
      ∀ (e : Nat) x, xs[e]? = some x → arr[ba.o + e]? = some (encStr x) := by
  obtain ⟨arr, ty, fz, ⟨g1, g2, _⟩, _, g4, g5, g6, g7, g8, g9⟩ := h.open_ hb
  refine ⟨arr, ty, fz, g1, g2, g4, g5.none (fun T e => by cases e), g6, ?_, fun e x hx => ?_⟩
  · have : ba.o + xs.length * 1 ≤ ba.n := g7
    omega
  · have hc : (BC.row .s xs).cell? e 0 = some (.d (.str x)) := by
      exact (congrArg (fun z : Option (List UInt8) => z.bind fun y => (Ty.enc .s y)[0]?.map SV.d) hx).trans rfl
    obtain ⟨u, u1, _, u3⟩ := g9 e 0 _ hc
    have u1 : arr[ba.o + e * 1 + 0]? = some u := u1
    rw [show ba.o + e * 1 + 0 = ba.o + e by omega] at u1
    rw [u1]
    cases u3 with
    | d h => cases h; rfl
theorem hk_turned {w w' : World} {β β' : Nat → Option BA} {S : Nat → Prop} {mv mv' : Bool} {xs ys : List (List UInt8)} {d : Array (List UInt8)} (h : HK w β S 0 ⟨1, mv, .row .s xs⟩) {ba : BA} (hb : β 0 = some ba) (hb' : β' 0 = some { ba with len := ys.length })
    (ht : Turn w w' ba.b (putCells encStr ba.o d)) (hd : d.size = xs.length) (hy : ys.length ≤ xs.length) (hys : ∀ (e : Nat) y, ys[e]? = some y → d[e]! = y) : HK w' β' S 0 ⟨1, mv', .row .s ys⟩ := by
  obtain ⟨arr, ty, fz, k1, k2, k3, k4, k5, k6, k7⟩ := hk_texts h hb
  have hsz : (putCells encStr ba.o d arr).size = arr.size := by unfold putCells; rw [Array.size_mapIdx]
  refine .inr ⟨_, putCells encStr ba.o d arr, ty, fz, hb', ⟨k1, rfl, fun t h => by cases h⟩, Nat.one_pos, ht.at_ _ _ _ k3, FzOk.of (fun i hi => k4 i (by rw [hsz] at hi; exact hi)) (fun ⟨T, h⟩ => by cases h), by rw [hsz]; exact k5, by
    show ba.o + ys.length * 1 ≤ ba.n; omega, fun e l h => ?_, fun e c sv h => ?_⟩
  · simp only [BC.lens?, Option.map_eq_some_iff] at h
    obtain ⟨_, _, rfl⟩ := h
    rfl
  · have h' : ((ys : List Ty.s.den)[e]?.bind fun x => (Ty.s.enc x)[c]?.map SV.d) = some sv := h
    obtain ⟨x, hx', h2⟩ := Option.bind_eq_some_iff.1 h'
    have hx : ys[e]? = some x := hx'
    cases c with
    | succ c => simp [Ty.enc] at h2
    | zero =>
      simp [Ty.enc] at h2
      subst h2
      have he : e < ys.length := (List.getElem?_eq_some_iff.1 hx).1
      refine ⟨encStr x, ?_, rfl, .d ?_⟩
      · show (putCells encStr ba.o d arr)[ba.o + e * 1 + 0]? = _
        rw [show ba.o + e * 1 + 0 = ba.o + e by omega]
        unfold putCells
        rw [Array.getElem?_mapIdx]
        have hlt : ba.o + e < arr.size := by omega
        rw [Array.getElem?_eq_getElem hlt]
        simp only [Option.map_some]
        rw [if_pos ⟨by omega, by omega⟩, show ba.o + e - ba.o = e by omega, hys e x hx]
      · exact .str x
theorem holds_texts {w : World} {β : Nat → Option BA} {S : Nat → Prop} {mv : Bool} {xs : List (List UInt8)} (h : HK w β S 0 ⟨1, mv, .row .s xs⟩) {ba : BA} (hb : β 0 = some ba) : Holds encStr w ba.b ba.o xs.toArray ∧ ba.b < w.heap.size := by
  obtain ⟨arr, ty, fz, k1, k2, k3, k4, k5, k6, k7⟩ := hk_texts h hb
  refine ⟨fun j hj => ?_, (Array.getElem?_eq_some_iff.1 k3).1⟩
  rw [List.size_toArray] at hj
  have hx := List.getElem?_eq_getElem hj
  have hv := k7 j _ hx
  have e : xs.toArray[j]! = xs[j] := by simp [hj]
  refine ⟨?_, ?_⟩
  · simp only [World.cell?]; rw [k3]; simp only [e]; exact hv
  · simp only [World.frozen?]
    rw [k3]
    exact k4 _ (by omega)
section
variable {P : Program} [Gl P] {f : Nat} (G : List (List UInt8) → List (List UInt8))
end
end Go.U
namespace Go.U
open Go Go.RowKit Go.Sort Go.Proofs
theorem post_ret {P : Program} [Gl P] {w w' : World} {β : Nat → Option BA} {S : Nat → Prop} {vs : Array Value} {args : List SV} {v : Value} {res : List SV} (hp : Pre P w β S vs args []) (hv : RS w' β S v (retSV res)) (bel : Below w.heap.size w w') :
    Post w w' β β S S [] [] v res where
  ret := hv
  len := Nat.le_refl _
  hp := fun j k hk => by simp at hk
  inj := fun j j' ba ba' h1 => by simp at h1
  excl := fun j ba h1 => by simp at h1
  loc := fun j ba h1 => by simp at h1
  fix := fun j k h1 => by simp at h1
  sS := fun _ h => h
  s1 := fun k hk => ⟨Nat.lt_of_lt_of_le (hp.sbd k hk) bel.size, .inl hk⟩
  os := bel.os
  tape := bel.tape
  out := bel.output
  size := bel.size
  frame := fun k hk _ => bel.block k hk
theorem rs_tup3 {w : World} {β : Nat → Option BA} {S : Nat → Prop} {a b e : Value} {x y z : D} (h1 : RD w S a x) (h2 : RD w S b y) (h3 : RD w S e z) : RS w β S (.tuple #[a, b, e]) (.tup [.d x, .d y, .d z]) :=
  .tup _ _ rfl fun i v c hv hc => by
    match i, hv, hc with
    | 0, hv, hc => simp at hv hc; subst hv hc; exact .d h1
    | 1, hv, hc => simp at hv hc; subst hv hc; exact .d h2
    | 2, hv, hc => simp at hv hc; subst hv hc; exact .d h3
    | i + 3, hv, hc => simp at hc
section
variable {P : Program} [Gl P] {f : Nat}
theorem two_strings {w : World} {β : Nat → Option BA} {S : Nat → Prop} {vs : Array Value} {l m : List UInt8} {hs : List Blk} (hp : Pre P w β S vs [.d (.str l), .d (.str m)] hs) : vs = #[.string ⟨l.toArray⟩, .string ⟨m.toArray⟩] := by
  have hsz := hp.sz
  obtain ⟨v0, v1, rfl⟩ : ∃ v0 v1, vs = #[v0, v1] := by
    have : vs.size = 2 := hsz
    refine ⟨vs[0]'(by omega), vs[1]'(by omega), ?_⟩
    apply Array.ext
    · simpa using this
    · intro i h1 h2
      simp at h2
      match i, h2 with
      | 0, _ => rfl
      | 1, _ => rfl
      | i + 2, h2 => omega
  have r0 := hp.args 0 v0 _ rfl rfl
  have r1 := hp.args 1 v1 _ rfl rfl
  have e0 : v0 = .string ⟨l.toArray⟩ := by cases r0 with | d h => cases h; rfl
  have e1 : v1 = .string ⟨m.toArray⟩ := by cases r1 with | d h => cases h; rfl
  rw [e0, e1]
theorem ct_ss3 (F : List UInt8 × List UInt8 → Option (List UInt8 × List UInt8 × Bool)) (hent : ∀ args w, (callFunc f args).run P w = .ok (.enter f args) w)
    (h : ∀ l m a c b w, (∀ g, g ∈ Gl.l P → GlAt P w g) → F (l, m) = some (a, c, b) → Calls P f #[.string ⟨l.toArray⟩, .string ⟨m.toArray⟩] w fun e w' => e = .returned (.tuple #[.string ⟨a.toArray⟩, .string ⟨c.toArray⟩, .bool b]) ∧ Below w.heap.size w w') :
    CtOk P f ⟨[.l (.v .s), .l (.v .s)], [], [.l (.v .s), .l (.v .s), .l (.v .b)], [], [], F⟩ := by
  intro w β S vs args hs res hs' hF hp
  unfold funOf at hF
  split at hF
  case h_2 => cases hF
  rename_i a b ha hb
  obtain ⟨d0, d1, rfl, rfl⟩ := grab2 ha
  obtain ⟨rfl, rfl⟩ := grab0 hb
  obtain ⟨⟨l, m⟩, hx, hd⟩ := unDs_spec _ _ _ hF
  have e0 : d0 = .str l := dsub_str hd.1
  have e1 : d1 = .str m := dsub_str hd.2.1
  subst e0 e1
  have hF' : (bindO (F (l, m)) fun r => some ([SV.d (.str r.1), SV.d (.str r.2.1), SV.d (.b r.2.2)], ([] : List Blk))) = some (res, hs') := hx
  obtain ⟨⟨x, z, y⟩, hr, h2⟩ := bindO_some hF'
  cases h2
  obtain rfl := two_strings hp
  refine .inl ⟨hent _ _, (h l m x z y w (fun g hg => (hp.gl g hg).2) hr).mono fun e w' ⟨he, bel⟩ => ⟨_, β, S, he, post_ret hp (rs_tup3 (.str _) (.str _) (.b _)) bel⟩⟩
def growF (n : Int) : Option (List (List UInt8)) := guard (decide (0 ≤ n ∧ n ≤ 1000)) (some [])
end
end Go.U
namespace Go.U
open Go Go.RowKit Go.Sort Go.Proofs
theorem grab_allF {g : Nat} {args : List SV} {a : List D} (h : grabShs [.l (.all 0), .clo g []] args = some a) : args = [.all 0, .clo g []] ∧ a = [] := by
  match args, h with
  | [p, q], h =>
    simp only [grabShs] at h
    obtain ⟨a1, b1, h1, h2, h3⟩ := apO_some h
    obtain ⟨a2, b2, h4, h5, h6⟩ := apO_some h2
    cases h5
    have e1 : p = .all 0 ∧ a1 = [] := by
      simp only [grabSh] at h1
      cases p <;> simp only [grabL] at h1 <;> try cases h1
      split at h1
      · rename_i e; subst e; cases h1; exact ⟨rfl, rfl⟩
      · cases h1
    have e2 : q = .clo g [] ∧ a2 = [] := by
      cases q with
      | clo f' cs =>
        have h4' : (if f' = g then grabLs [] cs else none) = some a2 := h4
        split at h4'
        · rename_i e
          subst e
          cases cs with
          | nil => cases h4'; exact ⟨rfl, rfl⟩
          | cons c cs => cases h4'
        · cases h4'
      | _ => cases h4
    obtain ⟨rfl, rfl⟩ := e1
    obtain ⟨rfl, rfl⟩ := e2
    exact ⟨rfl, by rw [h3, h6]; rfl⟩
  | [], h => cases h
  | [_], h =>
    simp only [grabShs] at h
    obtain ⟨a1, b1, h1, h2, h3⟩ := apO_some h
    cases h2
  | _ :: _ :: _ :: _, h =>
    simp only [grabShs] at h
    obtain ⟨a1, b1, h1, h2, h3⟩ := apO_some h
    obtain ⟨a2, b2, h4, h5, h6⟩ := apO_some h2
    cases h5
section
variable {P : Program} [Gl P] {f : Nat} (G : List (List UInt8) → List (List UInt8))
theorem ct_shortSF {g : Nat} (hg6 : g < 1000000) (hG : ∀ xs, (G xs).length ≤ xs.length) (hent : ∀ args w, (callFunc f args).run P w = .ok (.enter f args) w)
    (h1 : ∀ (blk o cap : Nat) (ss : List (List UInt8)) (w : World), Holds encStr w blk o ss.toArray → ss.length ≤ 9223372036854775807 → ss.length ≤ cap →
      Calls P f #[.slice (some ⟨blk, o, none⟩) ss.length cap, .func (.func g) #[] #[]] w fun e w' => e = .returned (.slice (some ⟨blk, o, none⟩) (G ss).length cap) ∧ ∃ q, w' = putRow encStr (Go.Sort.ahead w q) blk o (G ss ++ List.replicate (ss.length - (G ss).length) []).toArray) :
    CtOk P f ⟨[.l (.all 0), .clo g []], [⟨1, true, .row .s⟩], [.l (.all 0)], [⟨1, true, .row .s⟩], [], fun xs : List (List UInt8) => guard (decide (0 < xs.length ∧ xs.length < 4611686018427387904)) (some (G xs))⟩ := by
  intro w β S vs args hs res hs' hF hp
  unfold funOf at hF
  split at hF
  case h_2 => cases hF
  rename_i a b ha hb
  obtain ⟨rfl, rfl⟩ := grab_allF ha
  obtain ⟨mv0, xs0, rfl, rfl⟩ := grab_row hb
  obtain ⟨xs, hx, hd⟩ := unDs_spec _ _ _ hF
  have e0 : xs0 = xs := dsub_rov (t := .s) hd.1
  subst e0
  obtain ⟨r, hr, h2⟩ := bindO_some hx
  obtain ⟨hg, hr⟩ := guard_some hr
  cases hr
  obtain ⟨hne, hlen⟩ : 0 < xs0.length ∧ xs0.length < 4611686018427387904 := of_decide_eq_true hg
  cases h2
  have hsz := hp.sz
  obtain ⟨v0, v1, rfl⟩ : ∃ v0 v1, vs = #[v0, v1] := by
    have : vs.size = 2 := hsz
    refine ⟨vs[0]'(by omega), vs[1]'(by omega), ?_⟩
    apply Array.ext
    · simpa using this
    · intro i h1 h2
      simp at h2
      match i, h2 with
      | 0, _ => rfl
      | 1, _ => rfl
      | i + 2, h2 => omega
  have r0 := hp.args 0 v0 _ rfl rfl
  have r1 := hp.args 1 v1 _ rfl rfl
  obtain rfl : v1 = .func (.func g) #[] #[] := by
    cases r1 with
    | clo f vs caps hf hsz h =>
      have : vs = #[] := Array.eq_empty_of_size_eq_zero (by simpa using hsz)
      rw [this]
    | fsl => omega
  obtain ⟨hk, _⟩ := hp.hp 0 _ rfl
  refine .inl ⟨hent _ _, ?_⟩
  cases r0 with
  | all0 A _ hb0 =>
    have h9 : xs0.length = 0 := hk.zero hb0
    omega
  | all _ c ba hb0 hc hn =>
    obtain ⟨hH, hbl⟩ := holds_texts hk hb0
    obtain ⟨arr, ty, fz, k1, k2, k3, k4, k5, k6, k7⟩ := hk_texts hk hb0
    rw [k2] at hc ⊢
    refine (h1 ba.b ba.o c xs0 w hH (by omega) hc).mono ?_
    rintro e w' ⟨rfl, q, rfl⟩
    have ht := turn_put encStr w q ba.b ba.o (G xs0 ++ List.replicate (xs0.length - (G xs0).length) []).toArray
    have hb' : (fun x => if x = 0 then some { ba with len := (G xs0).length } else β x) 0 = some { ba with len := (G xs0).length } := if_pos rfl
    have hGl := hG xs0
    refine ⟨_, fun x => if x = 0 then some { ba with len := (G xs0).length } else β x, S, rfl, ?_⟩
    exact {
      ret := .all 0 c { ba with len := (G xs0).length } hb' (by show (G xs0).length ≤ c; omega) hn
      len := Nat.le_refl _
      hp := fun j k hk' => by
        match j, hk' with
        | 0, hk' =>
          cases hk'
          refine hk_turned hk hb0 hb' ht (by simp; omega) hGl fun e y hy => ?_
          obtain ⟨he, rfl⟩ := List.getElem?_eq_some_iff.1 hy
          have : e < (G xs0 ++ List.replicate (xs0.length - (G xs0).length) []).length := by rw [List.length_append]; omega
          simp only [List.getElem!_toArray]
          rw [getElem!_pos _ e this, List.getElem_append_left he]
      inj := fun j j' ba ba' g1 g2 _ _ _ => by have : j < 1 := g1; have : j' < 1 := g2; omega
      excl := fun j ba' g1 g2 => by
        have : j = 0 := by have : j < 1 := g1; omega
        subst this
        have g2 := Option.some.inj (hb'.symm.trans g2)
        subst g2
        exact hp.excl 0 ba g1 hb0
      loc := fun j ba' g1 g2 => by
        have : j = 0 := by have : j < 1 := g1; omega
        subst this
        have g2 := Option.some.inj (hb'.symm.trans g2)
        subst g2
        exact .inl ⟨0, ba, g1, hb0, rfl⟩
      fix := fun j k g1 g2 g3 => by
        match j, g2 with
        | 0, g2 => cases g2; cases g3
      sS := fun _ h => h
      s1 := fun k hk => ⟨Nat.lt_of_lt_of_le (hp.sbd k hk) ht.size, .inl hk⟩
      os := ht.os
      tape := ht.tape
      out := ht.out
      size := ht.size
      frame := fun k hk hne => ht.off k hk (hne 0 ba Nat.one_pos hb0) }
end
section
variable {P : Program} [Gl P] {f : Nat}
theorem ct_ssO (F : List UInt8 × List UInt8 → Option (List (List UInt8))) (hent : ∀ args w, (callFunc f args).run P w = .ok (.enter f args) w)
    (h : ∀ l m r w, (∀ g, g ∈ Gl.l P → GlAt P w g) → F (l, m) = some r → Calls P f #[.string ⟨l.toArray⟩, .string ⟨m.toArray⟩] w fun e w' => ∃ (arr : Array Value) (ty : TypeId) (c : Nat),
      e = .returned (.slice (some ⟨w.heap.size, 0, none⟩) r.length c) ∧ w' = w.alloc (.cells arr ty) ∧ r.length ≤ c ∧ c ≤ arr.size ∧ ∀ (e : Nat) x, r[e]? = some x → arr[e]? = some (.string ⟨x.toArray⟩)) :
    CtOk P f ⟨[.l (.v .s), .l (.v .s)], [], [.l (.all 0)], [⟨1, true, .row .s⟩], [], F⟩ := by
  intro w β S vs args hs res hs' hF hp
  unfold funOf at hF
  split at hF
  case h_2 => cases hF
  rename_i a b ha hb
  obtain ⟨d0, d1, rfl, rfl⟩ := grab2 ha
  obtain ⟨rfl, rfl⟩ := grab0 hb
  obtain ⟨⟨l, m⟩, hx, hd⟩ := unDs_spec _ _ _ hF
  have e0 : d0 = .str l := dsub_str hd.1
  have e1 : d1 = .str m := dsub_str hd.2.1
  subst e0 e1
  obtain ⟨(r : List (List UInt8)), hr, h2⟩ := bindO_some hx
  cases h2
  obtain rfl := two_strings hp
  refine .inl ⟨hent _ _, (h l m r w (fun g hg => (hp.gl g hg).2) hr).mono ?_⟩
  rintro e w' ⟨arr, ty, c, rfl, rfl, hc, hca, hcell⟩
  have hβ : (fun x => if x = 0 then some (⟨w.heap.size, 0, arr.size, 1, r.length⟩ : BA) else β x) 0 = some ⟨w.heap.size, 0, arr.size, 1, r.length⟩ := if_pos rfl
  have hat : (w.alloc (.cells arr ty)).heap[w.heap.size]? = some (.cells arr ty) := by
    show (w.heap.push _)[w.heap.size]? = _
    rw [Array.getElem?_push_size]
  have hle : w.heap.size ≤ (w.alloc (.cells arr ty)).heap.size := by
    show w.heap.size ≤ (w.heap.push _).size
    rw [Array.size_push]; omega
  refine ⟨_, fun x => if x = 0 then some ⟨w.heap.size, 0, arr.size, 1, r.length⟩ else β x, S, rfl, ?_⟩
  exact {
    ret := .all 0 c ⟨w.heap.size, 0, arr.size, 1, r.length⟩ hβ hc (by show 0 + c * 1 ≤ arr.size; omega)
    len := Nat.zero_le _
    hp := fun j k hk => by
      match j, hk with
      | 0, hk =>
        cases hk
        refine .inr ⟨_, arr, ty, _, hβ, ⟨rfl, rfl, fun t h => by cases h⟩, Nat.one_pos, hat, FzOk.of (fun i _ => by simp) (fun ⟨T, h⟩ => by cases h), rfl, by show 0 + r.length * 1 ≤ arr.size; omega, fun e l h => ?_, fun e c sv h => ?_⟩
        · simp only [BC.lens?, Option.map_eq_some_iff] at h
          obtain ⟨_, _, rfl⟩ := h
          rfl
        · have h' : ((r : List Ty.s.den)[e]?.bind fun x => (Ty.s.enc x)[c]?.map SV.d) = some sv := h
          obtain ⟨x, hx', h2⟩ := Option.bind_eq_some_iff.1 h'
          have hx : (r : List (List UInt8))[e]? = some x := hx'
          cases c with
          | succ c => simp [Ty.enc] at h2
          | zero =>
            simp [Ty.enc] at h2
            subst h2
            exact ⟨_, by simpa using hcell e x hx, rfl, .d (.str x)⟩
    inj := fun j j' ba ba' g1 g2 _ _ _ => by have : j < 1 := g1; have : j' < 1 := g2; omega
    excl := fun j ba g1 g2 => by
      have : j = 0 := by have : j < 1 := g1; omega
      subst this
      have g2 := Option.some.inj (hβ.symm.trans g2)
      subst g2
      intro hS
      have := hp.sbd _ hS
      simp only at this
      omega
    loc := fun j ba g1 g2 => by
      have : j = 0 := by have : j < 1 := g1; omega
      subst this
      have g2 := Option.some.inj (hβ.symm.trans g2)
      subst g2
      exact .inr (Nat.le_refl _)
    fix := fun j k g1 => by simp at g1
    sS := fun _ h => h
    s1 := fun k hk => ⟨Nat.lt_of_lt_of_le (hp.sbd k hk) hle, .inl hk⟩
    os := rfl
    tape := rfl
    out := rfl
    size := hle
    frame := fun k hk _ => by
      show (w.heap.push _)[k]? = _
      rw [Array.getElem?_push_lt hk, Array.getElem?_eq_getElem hk] }
theorem ct_lsS (F : List (List UInt8) × List UInt8 → Option (List UInt8)) (hent : ∀ args w, (callFunc f args).run P w = .ok (.enter f args) w)
    (h1 : ∀ l m r w b o c, (∀ g, g ∈ Gl.l P → GlAt P w g) → F (l, m) = some r → b < w.heap.size → l.length ≤ c → (∀ (j : Nat) x, l[j]? = some x → w.cell? ⟨b, o + j, none⟩ = some (.string ⟨x.toArray⟩)) →
      Calls P f #[.slice (some ⟨b, o, none⟩) l.length c, .string ⟨m.toArray⟩] w fun e w' => e = .returned (.string ⟨r.toArray⟩) ∧ Below w.heap.size w w')
    (h0 : ∀ A c m r w, F ([], m) = some r → Calls P f #[.slice A 0 c, .string ⟨m.toArray⟩] w fun e w' => e = .returned (.string ⟨r.toArray⟩) ∧ Below w.heap.size w w') :
    CtOk P f ⟨[.l (.v (.l .s)), .l (.v .s)], [], [.l (.v .s)], [], [], F⟩ := by
  intro w β S vs args hs res hs' hF hp
  unfold funOf at hF
  split at hF
  case h_2 => cases hF
  rename_i a b ha hb
  obtain ⟨d0, d1, rfl, rfl⟩ := grab2 ha
  obtain ⟨rfl, rfl⟩ := grab0 hb
  obtain ⟨⟨l, m⟩, hx, hd⟩ := unDs_spec _ _ _ hF
  have e1 : d1 = .str m := dsub_str hd.2.1
  have e0 : DSub d0 (.rov .s l) := hd.1
  subst e1
  have hF' : (bindO (F (l, m)) fun r => some ([SV.d (.str r)], ([] : List Blk))) = some (res, hs') := hx
  obtain ⟨r, hr, h2⟩ := bindO_some hF'
  cases h2
  have hsz := hp.sz
  obtain ⟨v0, v1, rfl⟩ : ∃ v0 v1, vs = #[v0, v1] := by
    have : vs.size = 2 := hsz
    refine ⟨vs[0]'(by omega), vs[1]'(by omega), ?_⟩
    apply Array.ext
    · simpa using this
    · intro i h1 h2
      simp at h2
      match i, h2 with
      | 0, _ => rfl
      | 1, _ => rfl
      | i + 2, h2 => omega
  have r0 := e0.sub _ _ _ _ (hp.args 0 v0 _ rfl rfl)
  have r1 := hp.args 1 v1 _ rfl rfl
  have e1 : v1 = .string ⟨m.toArray⟩ := by cases r1 with | d h => cases h; rfl
  subst e1
  have fin : ∀ e w', (e = Ending.returned (.string ⟨r.toArray⟩) ∧ Below w.heap.size w w') → ∃ v β' S', e = .returned v ∧ Post w w' β β' S S' [] [] v [.d (.str r)] := fun e w' ⟨he, bel⟩ => ⟨_, β, S, he, post_ret hp (.d (.str _)) bel⟩
  rcases r0.inv_d.rov_inv with ⟨A, c, rfl, rfl⟩ | ⟨b, o, c, us, rfl, hS, hb, hne, hc, hcell, hd2⟩
  · exact .inl ⟨hent _ _, (h0 A c m r w hr).mono fin⟩
  · refine .inl ⟨hent _ _, (h1 l m r w b o c (fun g hg => (hp.gl g hg).2) hr hb hc fun j x hj => ?_).mono fin⟩
    have h3 := hcell j x 0 (.str x) hj rfl
    have h4 := (hd2 j x 0 (.str x) hj rfl).inv_str
    rw [h4] at h3
    simpa [Ty.size] using h3
end
end Go.U
