/- A part of the proof. No condition. -/
import Derived.Test.YtclapampnmjmoaaGreatDoorUXa
set_option linter.unusedVariables false
set_option linter.unusedSimpArgs false
set_option linter.unusedSectionVars false
namespace Go.U
open Go
structure Cmb where
  guard : {ρ : Type} → Bool → Option ρ → Option ρ
  branch : {ρ : Type} → Bool → Option ρ → Option ρ → Option ρ
  nth : {α ρ : Type} → List α → Int → (α → Option ρ) → Option ρ
  nthN : {α ρ : Type} → List α → Nat → (α → Option ρ) → Option ρ
  bind : {α ρ : Type} → Option α → (α → Option ρ) → Option ρ
  iter : {α β : Type} → Nat → (α → Option (α ⊕ β)) → α → Option β
  cs : {α β ρ : Type} → α ⊕ β → (α → Option ρ) → (β → Option ρ) → Option ρ
def guard {ρ : Type} (c : Bool) (k : Option ρ) : Option ρ := match c with | true => k | false => none
def branch {ρ : Type} (c : Bool) (a b : Option ρ) : Option ρ := match c with | true => a | false => b
def nthN {α ρ : Type} (xs : List α) (n : Nat) (k : α → Option ρ) : Option ρ := match xs[n]? with | some x => k x | none => none
def nth {α ρ : Type} (xs : List α) (n : Int) (k : α → Option ρ) : Option ρ := match decide (0 ≤ n) with | true => nthN xs n.toNat k | false => none
def bindO {α ρ : Type} (x : Option α) (k : α → Option ρ) : Option ρ := match x with | some x => k x | none => none
def iter {α β : Type} : Nat → (α → Option (α ⊕ β)) → α → Option β
  | 0, _, _ => none
  | n + 1, f, a => match f a with
    | some (.inl a') => iter n f a'
    | some (.inr b) => some b
    | none => none
def csO {α β ρ : Type} (x : α ⊕ β) (f : α → Option ρ) (g : β → Option ρ) : Option ρ := match x with | .inl a => f a | .inr b => g b
def std : Cmb := ⟨@guard, @branch, @nth, @nthN, @bindO, @iter, @csO⟩
theorem guard_some {ρ : Type} {c : Bool} {k : Option ρ} {r : ρ} (h : guard c k = some r) : c = true ∧ k = some r := by
  cases c
  · cases h
  · exact ⟨rfl, h⟩
theorem branch_some {ρ : Type} {c : Bool} {a b : Option ρ} {r : ρ} (h : branch c a b = some r) : (c = true ∧ a = some r) ∨ (c = false ∧ b = some r) := by
  cases c
  · exact .inr ⟨rfl, h⟩
  · exact .inl ⟨rfl, h⟩
theorem nthN_some {α ρ : Type} {xs : List α} {n : Nat} {k : α → Option ρ} {r : ρ} (h : nthN xs n k = some r) : ∃ x, xs[n]? = some x ∧ k x = some r := by
  unfold nthN at h
  split at h
  · rename_i x hx; exact ⟨x, hx, h⟩
  · cases h
theorem nth_some {α ρ : Type} {xs : List α} {n : Int} {k : α → Option ρ} {r : ρ} (h : nth xs n k = some r) : 0 ≤ n ∧ ∃ x, xs[n.toNat]? = some x ∧ k x = some r := by
  unfold nth at h
  split at h
  · rename_i hd; exact ⟨of_decide_eq_true hd, nthN_some h⟩
  · cases h
theorem bindO_some {α ρ : Type} {x : Option α} {k : α → Option ρ} {r : ρ} (h : bindO x k = some r) : ∃ y, x = some y ∧ k y = some r := by
  unfold bindO at h
  split at h
  · rename_i y; exact ⟨y, rfl, h⟩
  · cases h
def optK {α ρ : Type} (x : Option α) (k : α → Option ρ) : Option ρ := match x with | some x => k x | none => none
theorem optK_some {α ρ : Type} {x : Option α} {k : α → Option ρ} {r : ρ} (h : optK x k = some r) : ∃ y, x = some y ∧ k y = some r := by
  unfold optK at h
  split at h
  · rename_i y; exact ⟨y, rfl, h⟩
  · cases h
def hpL : List (Nat × Blk) → Nat → Option Blk
  | [], _ => none
  | (b, k) :: l, x => if x = b then some k else hpL l x
structure XSt where
  fr : List SV
  hp : List (Nat × Blk)
def XSt.st (s : XSt) : St := ⟨s.fr, hpL s.hp⟩
def collect (hp : Nat → Option Blk) : List Nat → List (Nat × Blk)
  | [] => []
  | b :: l => match hp b with
    | some k => (b, k) :: collect hp l
    | none => collect hp l
def St.toX (st : St) (ids : List Nat) : XSt := ⟨st.fr, collect st.hp ids⟩
theorem collect_exact {hp : Nat → Option Blk} : ∀ (ids : List Nat) (b : Nat), (hp b ≠ none → b ∈ ids) → hpL (collect hp ids) b = hp b
  | [], b, h => by
    cases hb : hp b with
    | none => rfl
    | some k => exact absurd (h (by rw [hb]; simp)) (by simp)
  | x :: l, b, h => by
    simp only [collect]
    by_cases hx : b = x
    · subst hx
      cases hb : hp b with
      | some k => simp [hpL]
      | none =>
        simp only
        rw [collect_exact l b (by rw [hb]; simp), hb]
    · have ih := collect_exact l b fun hn => by
        have := h hn
        rw [List.mem_cons] at this
        exact this.resolve_left hx
      cases hp x with
      | some k => simp only [hpL, hx, if_false, ih]
      | none => exact ih
theorem toX_st {st : St} {ids : List Nat} (h : ∀ b, st.hp b ≠ none → b ∈ ids) : (st.toX ids).st = st := by
  unfold St.toX XSt.st
  congr 1
  funext b
  exact collect_exact ids b (h b)
theorem hpL_keys : ∀ (l : List (Nat × Blk)) (b : Nat), hpL l b ≠ none → b ∈ l.map (·.1)
  | [], b, h => absurd rfl h
  | (x, k) :: l, b, h => by
    simp only [hpL] at h
    by_cases hx : b = x
    · simp [hx]
    · rw [if_neg hx] at h
      simp only [List.map_cons, List.mem_cons]
      exact .inr (hpL_keys l b h)
def forceD {α : Type} : D → (D → α) → α
  | .i q n, k => k (.i q n)
  | .b x, k => k (.b x)
  | .str l, k => k (.str l)
  | .emp, k => k .emp
  | .emq, k => k .emq
  | .anyp, k => k .anyp
  | .rov t xs, k => k (.rov t xs)
  | .nilp, k => k .nilp
  | .er x, k => k (.er x)
  | .val v, k => k (.val v)
theorem forceD_eq {α : Type} (d : D) (k : D → α) : forceD d k = k d := by cases d <;> rfl
def forceDs {α : Type} : List D → (List D → α) → α
  | [], k => k []
  | d :: ds, k => forceD d fun d => forceDs ds fun ds => k (d :: ds)
theorem forceDs_eq {α : Type} : ∀ (ds : List D) (k : List D → α), forceDs ds k = k ds
  | [], _ => rfl
  | d :: ds, k => by simp only [forceDs, forceD_eq, forceDs_eq ds]
mutual
def forceV {α : Type} : SV → (SV → α) → α
  | .undef, k => k .undef
  | .d x, k => forceD x fun x => k (.d x)
  | .agg cs, k => forceL cs fun cs => k (.agg cs)
  | .tup cs, k => forceL cs fun cs => k (.tup cs)
  | .sl b off len, k => k (.sl b off len)
  | .all b, k => k (.all b)
  | .bb b, k => k (.bb b)
  | .ptr b e c, k => k (.ptr b e c)
  | .pon b e c, k => k (.pon b e c)
  | .rptr cs, k => forceDs cs fun cs => k (.rptr cs)
  | .clo f cs, k => forceL cs fun cs => k (.clo f cs)
def forceL {α : Type} : List SV → (List SV → α) → α
  | [], k => k []
  | c :: cs, k => forceV c fun c => forceL cs fun cs => k (c :: cs)
end
mutual
theorem forceV_eq {α : Type} : ∀ (v : SV) (k : SV → α), forceV v k = k v
  | .undef, _ => rfl
  | .d x, k => by simp only [forceV, forceD_eq]
  | .agg cs, k => by simp only [forceV]; rw [forceL_eq cs]
  | .tup cs, k => by simp only [forceV]; rw [forceL_eq cs]
  | .sl _ _ _, _ => rfl
  | .all _, _ => rfl
  | .bb _, _ => rfl
  | .ptr _ _ _, _ => rfl
  | .pon _ _ _, _ => rfl
  | .rptr cs, k => by simp only [forceV, forceDs_eq]
  | .clo f cs, k => by simp only [forceV]; rw [forceL_eq cs]
theorem forceL_eq {α : Type} : ∀ (l : List SV) (k : List SV → α), forceL l k = k l
  | [], _ => rfl
  | c :: cs, k => by simp only [forceL]; rw [forceV_eq c, forceL_eq cs]
end
def forceLL {α : Type} : List (List SV) → (List (List SV) → α) → α
  | [], k => k []
  | c :: cs, k => forceL c fun c => forceLL cs fun cs => k (c :: cs)
theorem forceLL_eq {α : Type} : ∀ (l : List (List SV)) (k : List (List SV) → α), forceLL l k = k l
  | [], _ => rfl
  | c :: cs, k => by simp only [forceLL, forceL_eq, forceLL_eq cs]
def forceM {α : Type} : Bool → (Bool → α) → α
  | true, k => k true
  | false, k => k false
theorem forceM_eq {α : Type} (b : Bool) (k : Bool → α) : forceM b k = k b := by cases b <;> rfl
def forceC {α : Type} : BC → (BC → α) → α
  | .row t xs, k => k (.row t xs)
  | .mix ty els, k => forceLL els fun els => k (.mix ty els)
  | .map t es, k => k (.map t es)
theorem forceC_eq {α : Type} (c : BC) (k : BC → α) : forceC c k = k c := by cases c <;> simp only [forceC, forceLL_eq]
def forceH {α : Type} : List (Nat × Blk) → (List (Nat × Blk) → α) → α
  | [], k => k []
  | (b, ⟨s, mv, c⟩) :: l, k => forceM mv fun mv => forceC c fun c => forceH l fun l => k ((b, ⟨s, mv, c⟩) :: l)
theorem forceH_eq {α : Type} : ∀ (l : List (Nat × Blk)) (k : List (Nat × Blk) → α), forceH l k = k l
  | [], _ => rfl
  | (b, ⟨s, mv, c⟩) :: l, k => by simp only [forceH, forceM_eq, forceC_eq, forceH_eq l]
def forceX {α : Type} (s : XSt) (k : XSt → α) : α := forceL s.fr fun fr => forceH s.hp fun hp => k ⟨fr, hp⟩
theorem forceX_eq {α : Type} (s : XSt) (k : XSt → α) : forceX s k = k s := by simp only [forceX, forceL_eq, forceH_eq]
def setL {α : Type} : List SV → Nat → SV → (List SV → α) → α
  | [], _, _, k => k []
  | _ :: l, 0, v, k => k (v :: l)
  | x :: l, n + 1, v, k => setL l n v fun l => k (x :: l)
theorem setL_eq {α : Type} : ∀ (l : List SV) (n : Nat) (v : SV) (k : List SV → α), setL l n v k = k (l.set n v)
  | [], _, _, _ => rfl
  | _ :: _, 0, _, _ => rfl
  | x :: l, n + 1, v, k => by simp only [setL, setL_eq l n v, List.set_cons_succ]
def putK {α : Type} (s : XSt) (dst : Option Nat) (v : SV) (k : XSt → α) : α := match dst with
  | none => k s
  | some d => forceV v fun v => setL s.fr d v fun fr => k ⟨fr, s.hp⟩
theorem putK_eq {α : Type} (s : XSt) (dst : Option Nat) (v : SV) (k : XSt → α) : ∃ s', putK s dst v k = k s' ∧ s'.st = s.st.put dst v := by
  cases dst with
  | none => exact ⟨s, rfl, rfl⟩
  | some d => exact ⟨⟨s.fr.set d v, s.hp⟩, by simp only [putK, forceV_eq, setL_eq], rfl⟩
def insN (b : Nat) (l : List Nat) : List Nat := if l.contains b then l else b :: l
theorem insN_mem {b : Nat} {l : List Nat} {x : Nat} (h : x = b ∨ x ∈ l) : x ∈ insN b l := by
  unfold insN
  split
  · rename_i hc
    rcases h with rfl | h
    · simpa using hc
    · exact h
  · rcases h with rfl | h
    · simp
    · simp [h]
def insNs : List Nat → List Nat → List Nat
  | [], l => l
  | b :: bs, l => insN b (insNs bs l)
theorem insNs_mem : ∀ {bs l : List Nat} {x : Nat}, x ∈ bs ∨ x ∈ l → x ∈ insNs bs l
  | [], l, x, h => by simpa [insNs] using h
  | b :: bs, l, x, h => by
    simp only [List.mem_cons, or_assoc] at h
    exact insN_mem (h.imp id fun h => insNs_mem h)
def doneK {α : Type} (bs : List Nat) (s : XSt) (st' : St) (k : XSt → α) : α := forceX (st'.toX (insNs bs (s.hp.map (·.1)))) k
theorem doneK_eq {α : Type} {bs : List Nat} {s : XSt} {st' : St} {k : XSt → α} (h : ∀ b, st'.hp b ≠ none → b ∈ bs ∨ s.st.hp b ≠ none) : ∃ s', doneK bs s st' k = k s' ∧ s'.st = st' :=
  ⟨_, forceX_eq _ _, toX_st fun b hb => insNs_mem ((h b hb).imp id fun h => hpL_keys _ _ h)⟩
def mxI (x y : Int) : Int := if y > x then y else x
def mnI (x y : Int) : Int := if y < x then y else x
def shlI (q : IntKind) (x y : Int) : Int := q.wrap (x * 2 ^ (min y.toNat q.bits))
def shrI (q : IntKind) (x y : Int) : Int := x.fdiv (2 ^ (min y.toNat q.bits))
def subL {α : Type} (l : List α) (a b : Int) : List α := (l.drop a.toNat).take (b.toNat - a.toNat)
def tkL {α : Type} (l : List α) (b : Int) : List α := l.take b.toNat
def dpL {α : Type} (l : List α) (a : Int) : List α := l.drop a.toNat
def binK {ρ : Type} (C : Cmb) {P : Program} (Y : TT P) (op : BinOp) (t : TypeId) (y : Operand) (p q : SV) (k : SV → Option ρ) : Option ρ :=
  match op, p, q with
  | .quo, .d (.i a x), .d (.i b z) => if a = b then C.guard (!decide (z = 0)) (k (.d (.i a (a.wrap (x.tdiv z))))) else none
  | .rem, .d (.i a x), .d (.i b z) => if a = b then C.guard (!decide (z = 0)) (k (.d (.i a (x.tmod z)))) else none
  | .shl, .d (.i a x), .d (.i _ z) => C.guard (decide (0 ≤ z)) (k (.d (.i a (shlI a x z))))
  | .shr, .d (.i a x), .d (.i _ z) => C.guard (decide (0 ≤ z)) (k (.d (.i a (shrI a x z))))
  | .add, .d (.str x), .d (.str z) => C.guard (decide (x.length + z.length ≤ maxSum)) (k (.d (.str (x ++ z))))
  | op, p, q => optK (binS Y op t y p q) k
def sliceK {ρ : Type} (C : Cmb) {P : Program} (Y : TT P) (hp : Nat → Option Blk) (t : TypeId) (x : SV) (lo hi mx : Option SV) (k : SV → Option ρ) : Option ρ :=
  match tdAt Y t, x, mx with
  | some .str, .d (.str l), none =>
    match lo, hi with
    | none, none => k (.d (.str l))
    | some (.d (.i _ a)), none => C.guard (decide (0 ≤ a ∧ a ≤ (l.length : Int))) (k (.d (.str (dpL l a))))
    | none, some (.d (.i _ b)) => C.guard (decide (0 ≤ b ∧ b ≤ (l.length : Int))) (k (.d (.str (tkL l b))))
    | some (.d (.i _ a)), some (.d (.i _ b)) => C.guard (decide (0 ≤ a ∧ a ≤ b ∧ b ≤ (l.length : Int))) (k (.d (.str (subL l a b))))
    | _, _ => none
  | some (.sl e), .d (.rov ty xs), none =>
    if szOf Y e = some ty.size then
      match lo, hi with
      | none, none => k (.d (.rov ty xs))
      | some (.d (.i _ a)), none => C.guard (decide (0 ≤ a ∧ a ≤ (xs.length : Int))) (k (.d (.rov ty (dpL xs a))))
      | none, some (.d (.i _ b)) => C.guard (decide (0 ≤ b ∧ b ≤ (xs.length : Int))) (k (.d (.rov ty (tkL xs b))))
      | some (.d (.i _ a)), some (.d (.i _ b)) => C.guard (decide (0 ≤ a ∧ a ≤ b ∧ b ≤ (xs.length : Int))) (k (.d (.rov ty (subL xs a b))))
      | _, _ => none
    else none
  | some (.sl e), .all b, none =>
    match hp b with
    | some kb =>
      if szOf Y e = some kb.s then
        match lo, hi with
        | none, none => k (.sl b 0 kb.c.len)
        | some (.d (.i _ a)), none => C.guard (decide (0 ≤ a ∧ a ≤ (kb.c.len : Int))) (k (.sl b a.toNat (kb.c.len - a.toNat)))
        | none, some (.d (.i _ c)) => C.guard (decide (0 ≤ c ∧ c ≤ (kb.c.len : Int))) (k (.sl b 0 c.toNat))
        | some (.d (.i _ a)), some (.d (.i _ c)) => C.guard (decide (0 ≤ a ∧ a ≤ c ∧ c ≤ (kb.c.len : Int))) (k (.sl b a.toNat (c.toNat - a.toNat)))
        | _, _ => none
      else none
    | none => none
  | some (.sl e), .sl b off len, none =>
    match hp b with
    | some kb =>
      if szOf Y e = some kb.s then
        match lo, hi with
        | none, none => k (.sl b off len)
        | some (.d (.i _ a)), none => C.guard (decide (0 ≤ a ∧ a ≤ (len : Int))) (k (.sl b (off + a.toNat) (len - a.toNat)))
        | none, some (.d (.i _ c)) => C.guard (decide (0 ≤ c ∧ c ≤ (len : Int))) (k (.sl b off c.toNat))
        | some (.d (.i _ a)), some (.d (.i _ c)) => C.guard (decide (0 ≤ a ∧ a ≤ c ∧ c ≤ (len : Int))) (k (.sl b (off + a.toNat) (c.toNat - a.toNat)))
        | _, _ => none
      else none
    | none => none
  | some (.arr m e), .ptr b el c, none =>
    match hp b with
    | some kb =>
      if szOf Y e = some kb.s ∧ el = 0 ∧ c = 0 then
        C.guard (decide (m = kb.c.len)) (match lo, hi with
        | none, none => k (.sl b 0 m)
        | some (.d (.i _ a)), none => C.guard (decide (0 ≤ a ∧ a ≤ (m : Int))) (k (.sl b a.toNat (m - a.toNat)))
        | none, some (.d (.i _ c)) => C.guard (decide (0 ≤ c ∧ c ≤ (m : Int))) (k (.sl b 0 c.toNat))
        | some (.d (.i _ a)), some (.d (.i _ c)) => C.guard (decide (0 ≤ a ∧ a ≤ c ∧ c ≤ (m : Int))) (k (.sl b a.toNat (c.toNat - a.toNat)))
        | _, _ => none)
      else none
    | none => none
  | _, _, _ => optK (sliceS Y hp t x lo hi mx) k
def indexK {ρ : Type} (C : Cmb) {P : Program} (Y : TT P) (t : TypeId) (x ix : SV) (k : SV → Option ρ) : Option ρ :=
  match tdAt Y t, x, ix with
  | some .str, .d (.str l), .d (.i _ n) => C.nth l n fun b => k (.d (.i .u8 (b.toNat : Int)))
  | _, _, _ => none
def indexAddrK {ρ : Type} (C : Cmb) {P : Program} (Y : TT P) (hp : Nat → Option Blk) (t : TypeId) (x ix : SV) (k : SV → Option ρ) : Option ρ :=
  match tdAt Y t, x, ix with
  | some (.sl e), .d (.rov ty xs), .d (.i _ n) => if szOf Y e = some ty.size then C.nth xs n fun y => k (.rptr (ty.enc y)) else none
  | some (.sl e), .all b, .d (.i _ n) =>
    match hp b with
    | some kb => if szOf Y e = some kb.s then C.guard (decide (0 ≤ n ∧ n < (kb.c.len : Int))) (k (.ptr b n.toNat 0)) else none
    | none => none
  | some (.sl e), .sl b off len, .d (.i _ n) =>
    match hp b with
    | some kb => if szOf Y e = some kb.s then C.guard (decide (0 ≤ n ∧ n < (len : Int))) (k (.ptr b (off + n.toNat) 0)) else none
    | none => none
  | some (.arr m e), .ptr b el c, .d (.i _ n) =>
    match szOf Y e with
    | some s => C.guard (decide (0 ≤ n ∧ n < (m : Int))) (k (arrPtr hp b el c s n.toNat))
    | none => none
  | _, _, _ => optK (indexAddrS Y hp t x ix) k
def loadK {ρ : Type} (C : Cmb) {P : Program} (Y : TT P) (hp : Nat → Option Blk) (t : TypeId) (x : SV) (k : SV → Option ρ) : Option ρ :=
  match x with
  | .ptr b e c => match hp b with
    | some ⟨_, _, .row ty xs⟩ => match Y.f t with
      | some i => C.nthN xs e fun y => optK (partS i.td i.size (((ty.enc y).map SV.d).drop c)) k
      | none => none
    | _ => optK (loadS Y hp t (.ptr b e c)) k
  | x => optK (loadS Y hp t x) k
def mmK {ρ : Type} (isMax : Bool) (l : List SV) (k : SV → Option ρ) : Option ρ :=
  match l with
  | [.d (.i a x), .d (.i b y)] => if a = b then (match isMax with | true => k (.d (.i a (mxI x y))) | false => k (.d (.i a (mnI x y)))) else none
  | _ => none
def convK {ρ : Type} (C : Cmb) {P : Program} (Y : TT P) (hp : Nat → Option Blk) (src dst : TypeId) (x : SV) (k : SV → Option ρ) : Option ρ :=
  match tdAt Y src, tdAt Y dst, x with
  | some (.sl e), some .str, .sl b off len => match tdAt Y e, hp b with
    | some (.int .u8), some ⟨1, _, .row (.i .u8) xs⟩ => C.guard (decide (off + len ≤ List.length xs)) (k (.d (.str (toB ((List.drop off xs).take len)))))
    | _, _ => none
  | _, _, _ => optK (convS Y hp src dst x) k
def opValK {ρ : Type} (C : Cmb) {P : Program} (Y : TT P) (st : St) (op : Op) (k : SV → Option ρ) : Option ρ :=
  match op with
  | .binOp op t x y _ => binK C Y op t y (ev st x) (ev st y) k
  | .pick c a b => match ev st c with
    | .d (.b x) => C.branch x (k (ev st a)) (k (ev st b))
    | _ => none
  | .slice t x lo hi mx => sliceK C Y st.hp t (ev st x) (lo.map (ev st)) (hi.map (ev st)) (mx.map (ev st)) k
  | .index t x i => indexK C Y t (ev st x) (ev st i) k
  | .indexAddr t x i => indexAddrK C Y st.hp t (ev st x) (ev st i) k
  | .load t x => loadK C Y st.hp t (ev st x) k
  | .convert src dst x => convK C Y st.hp src dst (ev st x) k
  | .call { callee := .builtin .min, args, argTypes := _ } => mmK false (args.toList.map (ev st)) k
  | .call { callee := .builtin .max, args, argTypes := _ } => mmK true (args.toList.map (ev st)) k
  | op => optK (opVal Y st op) k
section
variable {P : Program} {Y : TT P} {ρ : Type} {r : ρ} {k : SV → Option ρ}
theorem binK_some {op : BinOp} {t : TypeId} {y : Operand} {p q : SV} (h : binK std Y op t y p q k = some r) : ∃ v, binS Y op t y p q = some v ∧ k v = some r := by
  unfold binK at h
  split at h
  · split at h
    · rename_i a x b z e
      subst e
      obtain ⟨h1, h2⟩ := guard_some h
      have hz : ¬ z = 0 := by simpa using h1
      exact ⟨_, by simp only [binS, binD, ne_eq, not_true_eq_false, if_false, hz], h2⟩
    · cases h
  · split at h
    · rename_i a x b z e
      subst e
      obtain ⟨h1, h2⟩ := guard_some h
      have hz : ¬ z = 0 := by simpa using h1
      exact ⟨_, by simp only [binS, binD, ne_eq, not_true_eq_false, if_false, hz], h2⟩
    · cases h
  · obtain ⟨h1, h2⟩ := guard_some h
    have hz := of_decide_eq_true h1
    exact ⟨_, by simp only [binS, binD, hz, if_true]; rfl, h2⟩
  · obtain ⟨h1, h2⟩ := guard_some h
    have hz := of_decide_eq_true h1
    exact ⟨_, by simp only [binS, binD, hz, if_true]; rfl, h2⟩
  · obtain ⟨h1, h2⟩ := guard_some h
    have hz := of_decide_eq_true h1
    exact ⟨_, by simp only [binS, binD, hz, if_true], h2⟩
  · exact optK_some h
theorem bnd_i {n : Int} {q : IntKind} {d : Nat} (h : 0 ≤ n) : bnd d (some (.d (.i q n))) = some n.toNat := by simp [bnd, h]
theorem sliceK_some {hp : Nat → Option Blk} {t : TypeId} {x : SV} {lo hi mx : Option SV} (h : sliceK std Y hp t x lo hi mx k = some r) : ∃ v, sliceS Y hp t x lo hi mx = some v ∧ k v = some r := by
  unfold sliceK at h
  split at h
  · rename_i l ht
    unfold sliceS
    simp only [ht]
    split at h
    · exact ⟨_, by simp [bnd], h⟩
    · obtain ⟨h1, h2⟩ := guard_some h
      have hz := of_decide_eq_true h1
      refine ⟨_, ?_, h2⟩
      simp only [bnd_i hz.1]
      simp only [bnd]
      rw [if_pos (by omega)]
      simp only [dpL]
      congr 3
      exact List.take_of_length_le (by simp)
    · obtain ⟨h1, h2⟩ := guard_some h
      have hz := of_decide_eq_true h1
      refine ⟨_, ?_, h2⟩
      simp only [bnd_i hz.1]
      simp only [bnd]
      rw [if_pos (by omega)]
      simp [tkL]
    · obtain ⟨h1, h2⟩ := guard_some h
      have hz := of_decide_eq_true h1
      refine ⟨_, ?_, h2⟩
      simp only [bnd_i hz.1, bnd_i (Int.le_trans hz.1 hz.2.1)]
      rw [if_pos (by omega)]
      rfl
    · cases h
  · rename_i e ty xs ht
    unfold sliceS
    simp only [ht]
    split at h
    case isFalse => cases h
    rename_i hs
    split at h
    · exact ⟨_, by simp [bnd, hs], h⟩
    · obtain ⟨h1, h2⟩ := guard_some h
      have hz := of_decide_eq_true h1
      refine ⟨_, ?_, h2⟩
      simp only [bnd_i hz.1]
      simp only [bnd]
      rw [if_pos ⟨by omega, by omega, hs⟩]
      simp only [dpL]
      congr 3
      exact List.take_of_length_le (by simp)
    · obtain ⟨h1, h2⟩ := guard_some h
      have hz := of_decide_eq_true h1
      refine ⟨_, ?_, h2⟩
      simp only [bnd_i hz.1]
      simp only [bnd]
      rw [if_pos ⟨by omega, by omega, hs⟩]
      simp [tkL]
    · obtain ⟨h1, h2⟩ := guard_some h
      have hz := of_decide_eq_true h1
      refine ⟨_, ?_, h2⟩
      simp only [bnd_i hz.1, bnd_i (Int.le_trans hz.1 hz.2.1)]
      rw [if_pos ⟨by omega, by omega, hs⟩]
      rfl
    · cases h
  · rename_i e b ht
    unfold sliceS
    simp only [ht]
    split at h
    case h_2 => cases h
    rename_i kb hk
    simp only [hk]
    split at h
    case isFalse => cases h
    rename_i hs
    split at h
    · exact ⟨_, by simp [bnd, hs], h⟩
    · obtain ⟨h1, h2⟩ := guard_some h
      have hz := of_decide_eq_true h1
      refine ⟨_, ?_, h2⟩
      simp only [bnd_i hz.1]
      simp only [bnd]
      rw [if_pos ⟨by omega, by omega, hs⟩]
    · obtain ⟨h1, h2⟩ := guard_some h
      have hz := of_decide_eq_true h1
      refine ⟨_, ?_, h2⟩
      simp only [bnd_i hz.1]
      simp only [bnd]
      rw [if_pos ⟨by omega, by omega, hs⟩]
      simp
    · obtain ⟨h1, h2⟩ := guard_some h
      have hz := of_decide_eq_true h1
      refine ⟨_, ?_, h2⟩
      simp only [bnd_i hz.1, bnd_i (Int.le_trans hz.1 hz.2.1)]
      rw [if_pos ⟨by omega, by omega, hs⟩]
    · cases h
  · rename_i e b off len ht
    unfold sliceS
    simp only [ht]
    split at h
    case h_2 => cases h
    rename_i kb hk
    simp only [hk]
    split at h
    case isFalse => cases h
    rename_i hs
    split at h
    · exact ⟨_, by simp [bnd, hs], h⟩
    · obtain ⟨h1, h2⟩ := guard_some h
      have hz := of_decide_eq_true h1
      refine ⟨_, ?_, h2⟩
      simp only [bnd_i hz.1]
      simp only [bnd]
      rw [if_pos ⟨by omega, by omega, hs⟩]
    · obtain ⟨h1, h2⟩ := guard_some h
      have hz := of_decide_eq_true h1
      refine ⟨_, ?_, h2⟩
      simp only [bnd_i hz.1]
      simp only [bnd]
      rw [if_pos ⟨by omega, by omega, hs⟩]
      simp
    · obtain ⟨h1, h2⟩ := guard_some h
      have hz := of_decide_eq_true h1
      refine ⟨_, ?_, h2⟩
      simp only [bnd_i hz.1, bnd_i (Int.le_trans hz.1 hz.2.1)]
      rw [if_pos ⟨by omega, by omega, hs⟩]
    · cases h
  · rename_i m e b el c ht
    unfold sliceS
    simp only [ht]
    split at h
    case h_2 => cases h
    rename_i kb hk
    simp only [hk]
    split at h
    case isFalse => cases h
    rename_i hs0
    obtain ⟨hm0, h⟩ := guard_some h
    have hs : szOf Y e = some kb.s ∧ el = 0 ∧ c = 0 ∧ m = kb.c.len := ⟨hs0.1, hs0.2.1, hs0.2.2, of_decide_eq_true hm0⟩
    split at h
    · refine ⟨_, ?_, h⟩
      simp only [bnd]
      rw [if_pos ⟨by omega, by omega, hs⟩]
      rfl
    · obtain ⟨h1, h2⟩ := guard_some h
      have hz := of_decide_eq_true h1
      refine ⟨_, ?_, h2⟩
      simp only [bnd_i hz.1]
      simp only [bnd]
      rw [if_pos ⟨by omega, by omega, hs⟩]
    · obtain ⟨h1, h2⟩ := guard_some h
      have hz := of_decide_eq_true h1
      refine ⟨_, ?_, h2⟩
      simp only [bnd_i hz.1]
      simp only [bnd]
      rw [if_pos ⟨by omega, by omega, hs⟩]
      rfl
    · obtain ⟨h1, h2⟩ := guard_some h
      have hz := of_decide_eq_true h1
      refine ⟨_, ?_, h2⟩
      simp only [bnd_i hz.1, bnd_i (Int.le_trans hz.1 hz.2.1)]
      rw [if_pos ⟨by omega, by omega, hs⟩]
    · cases h
  · exact optK_some h
theorem indexK_some {t : TypeId} {x ix : SV} (h : indexK std Y t x ix k = some r) : ∃ v, indexS Y t x ix = some v ∧ k v = some r := by
  unfold indexK at h
  split at h
  · rename_i l q n ht
    obtain ⟨h0, b, hb, h1⟩ := nth_some h
    exact ⟨_, by unfold indexS; simp only [ht, if_pos h0, hb]; rfl, h1⟩
  · cases h
theorem indexAddrK_some {hp : Nat → Option Blk} {t : TypeId} {x ix : SV} (h : indexAddrK std Y hp t x ix k = some r) : ∃ v, indexAddrS Y hp t x ix = some v ∧ k v = some r := by
  unfold indexAddrK at h
  split at h
  · rename_i e ty xs q n ht
    split at h
    case isFalse => cases h
    rename_i hs
    obtain ⟨h0, y, hy, h1⟩ := nth_some h
    exact ⟨_, by unfold indexAddrS; simp only [ht, if_pos (And.intro h0 hs), hy]; rfl, h1⟩
  · rename_i e b q n ht
    split at h
    case h_2 => cases h
    rename_i kb hk
    split at h
    case isFalse => cases h
    rename_i hs
    obtain ⟨h0, h1⟩ := guard_some h
    have hz := of_decide_eq_true h0
    exact ⟨_, by unfold indexAddrS; simp only [ht, hk]; rw [if_pos ⟨by omega, by omega, hs⟩], h1⟩
  · rename_i e b off len q n ht
    split at h
    case h_2 => cases h
    rename_i kb hk
    split at h
    case isFalse => cases h
    rename_i hs
    obtain ⟨h0, h1⟩ := guard_some h
    have hz := of_decide_eq_true h0
    exact ⟨_, by unfold indexAddrS; simp only [ht, hk]; rw [if_pos ⟨by omega, by omega, hs⟩], h1⟩
  · rename_i m e b el c q n ht
    split at h
    case h_2 => cases h
    rename_i s hs
    obtain ⟨h0, h1⟩ := guard_some h
    have hz := of_decide_eq_true h0
    exact ⟨_, by unfold indexAddrS; simp only [ht, hs]; rw [if_pos ⟨by omega, by omega⟩], h1⟩
  · exact optK_some h
theorem loadK_some {hp : Nat → Option Blk} {t : TypeId} {x : SV} (h : loadK std Y hp t x k = some r) : ∃ v, loadS Y hp t x = some v ∧ k v = some r := by
  unfold loadK at h
  split at h
  · rename_i b e c
    split at h
    · rename_i s mv ty xs hk
      split at h
      · rename_i i hi
        obtain ⟨y, hy, h1⟩ := nthN_some h
        obtain ⟨v, hv, h2⟩ := optK_some h1
        exact ⟨v, by unfold loadS; simp only [hi, hk, BC.el?, hy, Option.map_some]; exact hv, h2⟩
      · cases h
    · exact optK_some h
  · exact optK_some h
theorem mmK_some {isMax : Bool} {l : List SV} (h : mmK isMax l k = some r) : ∃ v, minMaxS isMax l = some v ∧ k v = some r := by
  unfold mmK at h
  split at h
  · split at h
    · rename_i e
      subst e
      split at h
      · exact ⟨_, by simp only [minMaxS, if_true]; rfl, h⟩
      · exact ⟨_, by simp only [minMaxS, if_true]; rfl, h⟩
    · cases h
  · cases h
theorem convK_some {hp : Nat → Option Blk} {src dst : TypeId} {x : SV} (h : convK std Y hp src dst x k = some r) : ∃ v, convS Y hp src dst x = some v ∧ k v = some r := by
  unfold convK at h
  split at h
  · rename_i e b off len hs hd
    split at h
    · rename_i mv xs he hk
      obtain ⟨h1, h2⟩ := guard_some h
      have hz := of_decide_eq_true h1
      refine ⟨_, ?_, h2⟩
      unfold convS
      simp only [hs, hd, he, hk]
      exact if_pos hz
    · cases h
  · exact optK_some h
theorem opValK_some {st : St} {op : Op} (h : opValK std Y st op k = some r) : ∃ v, opVal Y st op = some v ∧ k v = some r := by
  unfold opValK at h
  split at h
  · exact binK_some h
  · split at h
    · rename_i x hx
      rcases branch_some h with ⟨rfl, h1⟩ | ⟨rfl, h1⟩
      · exact ⟨_, by simp only [opVal, hx]; rfl, h1⟩
      · exact ⟨_, by simp only [opVal, hx]; rfl, h1⟩
    · cases h
  · exact sliceK_some h
  · exact indexK_some h
  · exact indexAddrK_some h
  · exact loadK_some h
  · obtain ⟨v, h1, h2⟩ := convK_some h
    exact ⟨v, h1, h2⟩
  · exact mmK_some h
  · exact mmK_some h
  · exact optK_some h
end
end Go.U
