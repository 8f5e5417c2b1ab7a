/- A part of the proof. No condition. -/
import Derived.Test.YtclapampnmjmoaaGreatDoorUG
set_option linter.unusedVariables false
set_option linter.unusedSimpArgs false
set_option linter.unusedSectionVars false
namespace Go.U
open Go
def newId (d : Nat) : Nat := 1000 * (d + 1)
def St.newB (st : St) (b : Nat) (k : Blk) : St := { fr := st.fr.map (SV.kill b), hp := hset (st.kill b).hp b (k.kill b) }
def SV.one : SV → Bool
  | .undef | .agg _ | .tup _ => false
  | _ => true
def SV.cells : SV → Option (List SV)
  | .agg cs => if cs.all SV.one then some cs else none
  | x => if x.one then some [x] else none
section
variable {P : Program} [Gl P] {Y : TT P} {X : Ctx P} {st : St} {a : Act} {w : World} {β : Nat → Option BA} {S : Nat → Prop}
theorem RD.one {v : Value} {x : D} (h : RD w S v x) : v.oneCell' = true := by cases h <;> first | rfl | assumption
theorem RS.one {v : Value} {x : SV} (h : RS w β S v x) (h1 : x.one = true) : v.oneCell' = true := by
  cases h <;> first | (simp [SV.one] at h1; done) | rfl | (rename_i h; exact h.one)
theorem cells_one {v : Value} (h : v.oneCell' = true) : v.cells = #[v] := by cases v <;> first | rfl | (simp [Value.oneCell'] at h)
theorem RS.cells {v : Value} {x : SV} {cs : List SV} (h : RS w β S v x) (hc : x.cells = some cs) :
    v.cells.size = cs.length ∧ ∀ (i : Nat) u c, v.cells[i]? = some u → cs[i]? = some c → RS w β S u c ∧ u.oneCell' = true := by
  cases h with
  | agg vs cs' hsz h =>
    simp only [SV.cells] at hc
    split at hc
    · rename_i ha
      cases hc
      refine ⟨hsz, fun i u c hu hcc => ⟨h i u c hu hcc, (h i u c hu hcc).one (List.all_eq_true.1 ha c (List.mem_of_getElem? hcc))⟩⟩
    · cases hc
  | undef v => simp [SV.cells, SV.one] at hc
  | tup vs cs' hsz h => simp [SV.cells, SV.one] at hc
  | d h =>
    simp [SV.cells, SV.one] at hc; subst hc
    rw [cells_one h.one]
    refine ⟨rfl, fun i u c hu hcc => ?_⟩
    cases i with
    | zero => simp at hu hcc; subst hu; subst hcc; exact ⟨.d h, h.one⟩
    | succ i => simp at hcc
  | sl0 A b off =>
    simp [SV.cells, SV.one] at hc; subst hc
    refine ⟨rfl, fun i u c hu hcc => ?_⟩
    cases i with
    | zero => simp [Value.cells] at hu hcc; subst hu; subst hcc; exact ⟨.sl0 A b off, rfl⟩
    | succ i => simp at hcc
  | sl b off len c ba hb hcc hn =>
    simp [SV.cells, SV.one] at hc; subst hc
    refine ⟨rfl, fun i u c' hu hcc' => ?_⟩
    cases i with
    | zero => simp [Value.cells] at hu hcc'; subst hu; subst hcc'; exact ⟨.sl b off len c ba hb hcc hn, rfl⟩
    | succ i => simp at hcc'
  | ptr b e c ba hb =>
    simp [SV.cells, SV.one] at hc; subst hc
    refine ⟨rfl, fun i u c' hu hcc' => ?_⟩
    cases i with
    | zero => simp [Value.cells] at hu hcc'; subst hu; subst hcc'; exact ⟨.ptr b e c ba hb, rfl⟩
    | succ i => simp at hcc'
  | pon0 b e c =>
    simp [SV.cells, SV.one] at hc; subst hc
    refine ⟨rfl, fun i u c' hu hcc' => ?_⟩
    cases i with
    | zero => simp [Value.cells] at hu hcc'; subst hu; subst hcc'; exact ⟨.pon0 b e c, rfl⟩
    | succ i => simp at hcc'
  | pon b e c ba hb =>
    simp [SV.cells, SV.one] at hc; subst hc
    refine ⟨rfl, fun i u c' hu hcc' => ?_⟩
    cases i with
    | zero => simp [Value.cells] at hu hcc'; subst hu; subst hcc'; exact ⟨.pon b e c ba hb, rfl⟩
    | succ i => simp at hcc'
  | all0 A b hb =>
    simp [SV.cells, SV.one] at hc; subst hc
    refine ⟨rfl, fun i u c' hu hcc' => ?_⟩
    cases i with
    | zero => simp [Value.cells] at hu hcc'; subst hu; subst hcc'; exact ⟨.all0 A b hb, rfl⟩
    | succ i => simp at hcc'
  | all b c ba hb hcc hn =>
    simp [SV.cells, SV.one] at hc; subst hc
    refine ⟨rfl, fun i u c' hu hcc' => ?_⟩
    cases i with
    | zero => simp [Value.cells] at hu hcc'; subst hu; subst hcc'; exact ⟨.all b c ba hb hcc hn, rfl⟩
    | succ i => simp at hcc'
  | bb0 b hb =>
    simp [SV.cells, SV.one] at hc; subst hc
    refine ⟨rfl, fun i u c' hu hcc' => ?_⟩
    cases i with
    | zero => simp [Value.cells] at hu hcc'; subst hu; subst hcc'; exact ⟨.bb0 b hb, rfl⟩
    | succ i => simp at hcc'
  | bb b c ba hb hcc hn =>
    simp [SV.cells, SV.one] at hc; subst hc
    refine ⟨rfl, fun i u c' hu hcc' => ?_⟩
    cases i with
    | zero => simp [Value.cells] at hu hcc'; subst hu; subst hcc'; exact ⟨.bb b c ba hb hcc hn, rfl⟩
    | succ i => simp at hcc'
  | rptr b o cs' us hS hb hcell hr =>
    simp [SV.cells, SV.one] at hc; subst hc
    refine ⟨rfl, fun i u c' hu hcc' => ?_⟩
    cases i with
    | zero => simp [Value.cells] at hu hcc'; subst hu; subst hcc'; exact ⟨.rptr b o cs' us hS hb hcell hr, rfl⟩
    | succ i => simp at hcc'
  | clo f vs caps hf hsz h =>
    simp [SV.cells, SV.one] at hc; subst hc
    refine ⟨rfl, fun i u c' hu hcc' => ?_⟩
    cases i with
    | zero => simp [Value.cells] at hu hcc'; subst hu; subst hcc'; exact ⟨.clo f vs caps hf hsz h, rfl⟩
    | succ i => simp at hcc'
  | mp r x h =>
    simp [SV.cells, SV.one] at hc; subst hc
    refine ⟨rfl, fun i u c' hu hcc' => ?_⟩
    cases i with
    | zero => simp [Value.cells] at hu hcc'; subst hu; subst hcc'; exact ⟨.mp r x h, rfl⟩
    | succ i => simp at hcc'
  | fsl b o n c cs' us h1 h2 h3 h4 h5 h6 =>
    simp [SV.cells, SV.one] at hc; subst hc
    refine ⟨rfl, fun i u c' hu hcc' => ?_⟩
    cases i with
    | zero => simp [Value.cells] at hu hcc'; subst hu; subst hcc'; exact ⟨.fsl b o n c cs' us h1 h2 h3 h4 h5 h6, rfl⟩
    | succ i => simp at hcc'
  | fpt b o u' x h1 h2 h3 h4 =>
    simp [SV.cells, SV.one] at hc; subst hc
    refine ⟨rfl, fun i u c' hu hcc' => ?_⟩
    cases i with
    | zero => simp [Value.cells] at hu hcc'; subst hu; subst hcc'; exact ⟨.fpt b o u' x h1 h2 h3 h4, rfl⟩
    | succ i => simp at hcc'
theorem Rel.newB (h : Rel X st a.tmps w β S) (b : Nat) (k : Blk) (hn : X.n0 ≤ b ∨ k.mv = true) (arr : Array Value) (ty : TypeId) (fz : Nat × Nat) (hfz : ∀ i, i < arr.size → (fz.1 ≤ i && i < fz.2) = false) (hfy : (∃ T, k.c.ty? = some (T, false)) → fz.1 = fz.2)
    (hs : 0 < k.s) (hlen : k.c.len * k.s ≤ arr.size) (hl : ∀ e l, k.c.lens? e = some l → l = k.s) (hty : ∀ t, k.c.ty? = some t → ty = t.1 ∧ (t.2 = true → arr.size = k.s))
    (hc : ∀ e c sv, k.c.cell? e c = some sv → ∃ u, arr[e * k.s + c]? = some u ∧ u.oneCell' = true ∧ RS w β S u sv) :
    Rel X (st.newB b k) a.tmps (w.alloc (.cells arr ty fz)) (fun x => if x = b then some ⟨w.heap.size, 0, arr.size, k.s, k.c.len⟩ else β x) S := by
  refine h.new b (k.kill b) _ ⟨w.heap.size, 0, arr.size, k.s, k.c.len⟩ rfl hn (.inr ⟨_, arr, ty, fz, if_pos rfl, ⟨rfl, by simp [Blk.kill, BC.len_kill], fun t ht => ⟨(hty t (by simpa [Blk.kill, BC.ty_kill] using ht)).1, rfl, (hty t (by simpa [Blk.kill, BC.ty_kill] using ht)).2⟩⟩, hs, ?_, FzOk.of hfz (fun ⟨T, hT⟩ => hfy ⟨T, by simpa [Blk.kill, BC.ty_kill] using hT⟩), rfl, ?_, ?_, ?_⟩)
  · show (w.heap.push _)[w.heap.size]? = _
    simp
  · simpa [Blk.kill, BC.len_kill] using hlen
  · simpa [Blk.kill, BC.lens_kill] using hl
  · intro e c sv hcell
    simp only [Blk.kill, BC.cell_kill] at hcell
    cases hcc : k.c.cell? e c with
    | none => rw [hcc] at hcell; cases hcell
    | some sv0 =>
      rw [hcc] at hcell; cases hcell
      obtain ⟨u, a1, a2, a3⟩ := hc e c sv0 hcc
      refine ⟨u, by simpa [Blk.kill] using a1, a2, a3.kill (fun j hj => ⟨hj, ?_⟩) (by simp) (fun b' hb' => if_neg hb')⟩
      show (w.heap.push _)[j]? = _
      rw [Array.getElem?_push, if_neg (by have := h.sbd j hj; omega)]
theorem Good.newMap (h : Good X st a w) (d : Nat) (hn : X.n0 ≤ 1000) (T : Ty) :
    Good X ((st.newB (newId d) ⟨1, false, .map T []⟩).put (some d) (.clo 1000000009 [.ptr (newId d) 0 0])) (a.put (some d) (.map (some w.heap.size))) (w.alloc (.map #[] 0)) := by
  obtain ⟨hd, β, S, hr⟩ := h
  have h1 : Rel X (st.newB (newId d) ⟨1, false, .map T []⟩) a.tmps (w.alloc (.map #[] 0)) (fun x => if x = newId d then some ⟨w.heap.size, 0, 1, 1, 1⟩ else β x) S := by
    refine hr.new (newId d) ⟨1, false, .map T []⟩ _ ⟨w.heap.size, 0, 1, 1, 1⟩ rfl (.inl (by unfold newId; omega)) (.inl (.inr ⟨T, [], ⟨w.heap.size, 0, 1, 1, 1⟩, #[], 0, rfl, if_pos rfl, ⟨rfl, rfl, Nat.le_refl _⟩, ?_, [], rfl, fun i key x hx => by simp at hx, fun _ => rfl⟩))
    show (w.heap.push _)[w.heap.size]? = _
    simp
  refine ⟨hd, _, S, h1.put d ?_⟩
  have := RS.ptr (w := w.alloc (.map #[] 0)) (S := S) (β := fun x => if x = newId d then some ⟨w.heap.size, 0, 1, 1, 1⟩ else β x) (newId d) 0 0 _ (if_pos rfl)
  exact RS.mp _ _ (by simpa using this)
theorem Good.newPtr (h : Good X st a w) (d : Nat) (hn : X.n0 ≤ 1000) (k : Blk) (arr : Array Value) (ty : TypeId)
    (hs : 0 < k.s) (hlen : k.c.len * k.s ≤ arr.size) (hl : ∀ e l, k.c.lens? e = some l → l = k.s) (hty : ∀ t, k.c.ty? = some t → ty = t.1 ∧ (t.2 = true → arr.size = k.s))
    (hc : ∀ β S, Rel X st a.tmps w β S → ∀ e c sv, k.c.cell? e c = some sv → ∃ u, arr[e * k.s + c]? = some u ∧ u.oneCell' = true ∧ RS w β S u sv) :
    Good X ((st.newB (newId d) k).put (some d) (.ptr (newId d) 0 0)) (a.put (some d) (.pointer (some ⟨w.heap.size, 0, none⟩))) (w.alloc (.cells arr ty)) := by
  obtain ⟨hd, β, S, hr⟩ := h
  have h1 := hr.newB (newId d) k (.inl (by unfold newId; omega)) arr ty (0, 0) (by simp) (fun _ => rfl) hs hlen hl hty (hc β S hr)
  refine ⟨hd, _, S, h1.put d ?_⟩
  have := RS.ptr (w := w.alloc (.cells arr ty)) (S := S) (β := fun x => if x = newId d then some ⟨w.heap.size, 0, arr.size, k.s, k.c.len⟩ else β x) (newId d) 0 0 _ (if_pos rfl)
  simpa using this
theorem Good.newSl (h : Good X st a w) (d : Nat) (hn : X.n0 ≤ 1000) (k : Blk) (arr : Array Value) (ty : TypeId) (fz : Nat × Nat) (hfz : ∀ i, i < arr.size → (fz.1 ≤ i && i < fz.2) = false)
    (hs : 0 < k.s) (cap : Nat) (hk : k.c.len * k.s ≤ arr.size) (hlc : k.c.len ≤ cap) (hlen : cap * k.s ≤ arr.size) (hl : ∀ e l, k.c.lens? e = some l → l = k.s) (hty : k.c.ty? = none)
    (hc : ∀ β S, Rel X st a.tmps w β S → ∀ e c sv, k.c.cell? e c = some sv → ∃ u, arr[e * k.s + c]? = some u ∧ u.oneCell' = true ∧ RS w β S u sv) :
    Good X ((st.newB (newId d) k).put (some d) (.all (newId d))) (a.put (some d) (.slice (some ⟨w.heap.size, 0, none⟩) k.c.len cap)) (w.alloc (.cells arr ty fz)) := by
  obtain ⟨hd, β, S, hr⟩ := h
  have h1 := hr.newB (newId d) k (.inl (by unfold newId; omega)) arr ty fz hfz (fun ⟨T, hT⟩ => by rw [hty] at hT; cases hT) hs hk hl (by rw [hty]; intro t h; cases h) (hc β S hr)
  refine ⟨hd, _, S, h1.put d ?_⟩
  have := RS.all (w := w.alloc (.cells arr ty fz)) (S := S) (β := fun x => if x = newId d then some ⟨w.heap.size, 0, arr.size, k.s, k.c.len⟩ else β x) (newId d) cap _ (if_pos rfl) hlc (by simpa using hlen)
  simpa using this
end
end Go.U
