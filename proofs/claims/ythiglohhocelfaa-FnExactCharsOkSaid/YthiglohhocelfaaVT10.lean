/- A part of the proof: what functions of the program do, walked. No condition. -/
import Derived.Test.YthiglohhocelfaaVT9
import Derived.Test.YthiglohhocelfaaRows
import Derived.WalkKit
import Derived.ProofKit
import Derived.OpenShut
import Derived.ShutString
import Derived.ChangeOld
import Derived.Below
import Derived.Carry
import Derived.SizedLaws
import Derived.Deep.Slices
import Derived.ChangeSame
set_option linter.unusedVariables false
set_option linter.unusedSimpArgs false
namespace Go.V.Try
open Go Go.V Go.Proofs.Try Go.RowKit
set_option maxRecDepth 20000
set_option linter.unusedSimpArgs false

/-- A function of data, called: what it hands back, and that what was there stays. -/
theorem calls_data {P : Program} {f : FuncId} {F : List SV → Option (List SV)} (hcon : Con P f (dataF F)) (hcall : ∀ args w, (callFunc f args).run P w = .ok (.enter f args) w) {w : World} {vs : Array Value} {args rs : List SV}
    (hF : F args = some rs) (hp : SV.pureL args = true) (hr : SV.pureL rs = true) (hsz : vs.size = args.length) (hvs : ∀ (i : Nat) v c, vs[i]? = some v → args[i]? = some c → RS w (fun _ => none) (fun k => k < w.heap.size) v c) :
    Calls P f vs w fun e w' => ∃ v β' S', e = .returned v ∧ RS w' β' S' v (retSV rs) ∧ Below w.heap.size w w' := by
  have hd : dataF F args [] = some (rs, []) := by simp [dataF, hp, hF, hr]
  have hpre : Pre w (fun _ => none) (fun k => k < w.heap.size) vs args [] := ⟨hsz, hvs, by simp, by simp, by simp, fun k h => h, by simp⟩
  rcases hcon w _ _ vs args [] rs [] hd hpre with ⟨_, h⟩ | ⟨v, w', h, _⟩
  · refine Calls.mono h ?_
    rintro e w' ⟨v, β', S', he, hpost⟩
    exact ⟨v, β', S', he, hpost.ret, hpost.os, hpost.tape, hpost.out, hpost.size, fun k hk => hpost.frame k hk (by simp)⟩
  · rw [hcall] at h; cases h

theorem law3 (w : World) (A : Option Addr) (len cap : Nat) (ps : List (List UInt8 × Int)) (hl : ps.length < lim) (h : RD w (fun k => k < w.heap.size) (.slice A len cap) (.rov 2 (ps.map pD))) :
    Calls prog 3 #[.slice A len cap] w fun e w' => e = .returned (.bool true) ∧ Below w.heap.size w w' := by
  refine Calls.mono (calls_data con3 call3 (args := [R ps]) (rs := [B true]) (by simp only [F3, unP_map, hl, if_true]) rfl rfl rfl fun i v c hv hc => ?_) ?_
  · cases i with
    | zero => simp at hv hc; subst hv; subst hc; exact .d h
    | succ i => simp at hc
  · rintro e w' ⟨v, β', S', rfl, hr, hb⟩
    have hr' : RS w' β' S' v (.d (.b true)) := hr
    rw [hr'.inv_b]
    exact ⟨rfl, hb⟩

section
variable {H : Type} {enc : TypeId × Value → H} {w : World} {base : Nat} {spare : Nat → Bool} {held : Bool}
open Go.ChangeShapes Go.WideShapes Go.Deep

theorem open_pairs {t e ts ti : TypeId} {n0 n1 p0 p1 q0 q1 : String} {b0 b1 : Nat} {m0 m1 : Bool} {fuel : Nat} {cs : List Value} {x : DataW H × List MemPlace} (ht : prog.underlying t = some (.slice e))
    (he : prog.underlying e = some (.struct #[⟨n0, ts, 0, m0, p0, q0, b0⟩, ⟨n1, ti, 1, m1, p1, q1, b1⟩])) (hs : prog.underlying ts = some .string) (hi : prog.underlying ti = some (.int .i64)) (hC : prog.cellsOf e = 2) (hCs : prog.cellsOf ts = 1) (hCi : prog.cellsOf ti = 1)
    (h : DataW.trod enc prog w base spare held fuel t cs = some x) :
    ∃ (A : Option Addr) (len cap : Nat) (ps : List (List UInt8 × Int)) (els sp : List (DataW H)), cs = [.slice A len cap] ∧ x.1 = (if A = none then .nil else .slice els sp) ∧ (A = none → len = 0) ∧ (A ≠ none → els.length = len) ∧ ps.length = len ∧ RD w (fun k => k < w.heap.size) (.slice A len cap) (.rov 2 (ps.map pD)) := by
  rcases open_slice ht h with ⟨rfl, rfl⟩ | ⟨a, len, cap, m, n, D, Pl, rfl, hb, hl, hm, hmm, rfl, hx⟩
  · exact ⟨none, 0, 0, [], [], [], rfl, rfl, fun _ => rfl, fun h => absurd rfl h, rfl, .rov0 _ _ _⟩
  · have hlm : len ≤ m := by rw [hmm]; split <;> omega
    obtain ⟨f, hf⟩ := choose_lt (α := List UInt8 × Int) (n := len) (p := fun i p => w.cell? (a.add (i * 2)) = some (.string ⟨p.1.toArray⟩) ∧ w.cell? (a.add (i * 2 + 1)) = some (.int .i64 p.2)) (fun i hil => by
      obtain ⟨cs', h1, h2⟩ := hx i (by omega)
      obtain ⟨y0, y1, n', _, hlen, h3, h4⟩ := trod_struct2 he h2
      rw [hC] at hlen h1
      obtain ⟨_, _, hcell⟩ := World.cells?_some h1
      match cs', hlen with
      | [u0, u1], _ =>
        simp only [hCs, hCi, List.drop_zero, List.drop_succ_cons, List.take_succ_cons, List.take_zero] at h3 h4
        obtain ⟨s, e1, _, _⟩ := DataW.trod_string hs h3
        obtain ⟨z, e2, _, _⟩ := DataW.trod_int hi h4
        cases e1; cases e2
        have c0 := hcell 0 (by omega)
        have c1 := hcell 1 (by omega)
        refine ⟨(s.data.toList, z), ?_, ?_⟩
        · rw [Go.Deep.add_add] at c0; exact c0
        · rw [Go.Deep.add_add] at c1; exact c1)
    refine ⟨some a, len, cap, (List.range len).map f, _, _, rfl, (if_neg (by simp)).symm, by simp, fun _ => by simp, by simp, ?_⟩
    by_cases h0 : len = 0
    · subst h0; exact .rov0 _ _ _
    · have hg : ∀ (e : Nat) el, (((List.range len).map f).map pD)[e]? = some el → e < len ∧ el = pD (f e) := fun e el he => by
        simp only [List.map_map, List.getElem?_map] at he
        rcases Nat.lt_or_ge e len with h1 | h1
        · rw [List.getElem?_range h1] at he
          simp at he
          exact ⟨h1, he.symm⟩
        · rw [List.getElem?_eq_none (by simpa using h1)] at he; cases he
      have hc0 := (hf 0 (by omega)).1
      have hsp : a.spot = none ∧ a.block < w.heap.size := by
        simp only [World.cell?, Addr.add] at hc0
        split at hc0
        · rename_i c _ _ hh
          refine ⟨?_, ?_⟩
          · cases hsp : a.spot with
            | none => rfl
            | some _ => simp [hsp] at hc0
          · exact (Array.getElem?_eq_some_iff.1 hh).1
        · cases hc0
      obtain ⟨blk, off, spot⟩ := a
      obtain ⟨rfl, hblk⟩ := hsp
      have hln : (((List.range len).map f).map pD).length = len := by simp
      have := RD.rov (w := w) (S := fun k => k < w.heap.size) blk off cap 2 (((List.range len).map f).map pD) (fun e j => (w.cell? ⟨blk, off + e * 2 + j, none⟩).getD Go.undef) hblk hblk (by intro h; rw [h] at hln; simp at hln; omega) (by rw [hln]; exact hl)
        (fun e el he => by obtain ⟨_, rfl⟩ := hg e el he; rfl)
        (fun e el j y he hj => by
          obtain ⟨h1, rfl⟩ := hg e el he
          obtain ⟨c0, c1⟩ := hf e h1
          match j, hj with
          | 0, _ => have h3 : w.cell? ⟨blk, off + e * 2 + 0, none⟩ = some (.string ⟨(f e).1.toArray⟩) := by rw [Addr.add_lit] at c0; exact c0
                    rw [h3]; rfl
          | 1, _ => have h3 : w.cell? ⟨blk, off + e * 2 + 1, none⟩ = some (.int .i64 (f e).2) := by rw [Addr.add_lit] at c1; exact c1
                    rw [h3]; rfl
          | j + 2, hj => simp [pD] at hj)
        (fun e el j y he hj => by
          obtain ⟨h1, rfl⟩ := hg e el he
          obtain ⟨c0, c1⟩ := hf e h1
          match j, hj with
          | 0, hj => have h2 : w.cell? ⟨blk, off + e * 2 + 0, none⟩ = some (.string ⟨(f e).1.toArray⟩) := by rw [Addr.add_lit] at c0; exact c0
                     rw [h2]; simp [pD] at hj; subst hj; exact .str _
          | 1, hj => have h2 : w.cell? ⟨blk, off + e * 2 + 1, none⟩ = some (.int .i64 (f e).2) := by rw [Addr.add_lit] at c1; exact c1
                     rw [h2]; simp [pD] at hj; subst hj; exact .i _ _
          | j + 2, hj => simp [pD] at hj)
      rw [hln] at this
      exact this
end
end Go.V.Try
