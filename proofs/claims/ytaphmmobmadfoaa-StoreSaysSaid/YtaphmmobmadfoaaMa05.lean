/- Put together: Open, OpenB, OpenC, OpenU, OpenD, OpenS, Ml, OpenM. -/
import Derived.Test.YtaphmmobmadfoaaMa03
import Derived.Deep.Slices
import Derived.Deep.Fields
import Derived.ChangeSame
import Derived.Test.YtaphmmobmadfoaaProg
import Derived.Test.YtaphmmobmadfoaaMa04
import Derived.Lib.SmallJoins
import Derived.Test.YtaphmmobmadfoaaMa01
import Derived.HandedShaped
import Derived.Shelf.Vars
/- How an argument that reads as data lies in memory: slices of structs, opened to lists. -/
namespace Go.Proofs.Ytaphmmobmadfoaa
open Go Go.RowKit Go.ChangeShapes Go.WideShapes Go.Deep
section
variable {H : Type} {enc : TypeId × Value → H} {P : Program} {w : World} {base : Nat} {spare : Nat → Bool} {held : Bool}
theorem list_of {α : Type} : ∀ (n : Nat) (R : Nat → α → Prop), (∀ i, i < n → ∃ x, R i x) → ∃ xs : List α, xs.length = n ∧ ∀ k x, xs[k]? = some x → R k x
  | 0, _, _ => ⟨[], rfl, fun k x h => by simp at h⟩
  | n + 1, R, h => by
    obtain ⟨xs, hl, hx⟩ := list_of n R fun i hi => h i (by omega)
    obtain ⟨y, hy⟩ := h n (by omega)
    refine ⟨xs ++ [y], by simp [hl], fun k x hk => ?_⟩
    by_cases hkn : k < n
    · rw [List.getElem?_append_left (by omega)] at hk; exact hx k x hk
    · have : k = n := by
        have := (List.getElem?_eq_some_iff.1 hk).1
        simp [hl] at this; omega
      subst this
      rw [List.getElem?_append_right (by omega)] at hk
      simp [hl] at hk
      subst hk; exact hy
/-- Fields of structs that lie in a slice. -/
theorem open_fields {t e : TypeId} {fs : Array Field} {fuel : Nat} {v0 : Value} {x : DataW H × List MemPlace} (ht : P.underlying t = some (.slice e)) (he : P.underlying e = some (.struct fs))
    (hone : oneCellFields P fs = true) (hC : P.cellsOf e = fs.size) (h : DataW.trod enc P w base (fun _ => true) held fuel t [v0] = some x) :
    v0 = .slice none 0 0 ∨
    ∃ (a : Addr) (len cap : Nat), v0 = .slice (some a) len cap ∧ len ≤ cap ∧ cap ≤ maxLen ∧
      ∀ i, i < cap → ∃ n, ∀ (j : Nat) (f : Field), fs[j]? = some f → ∃ (v : Value) (y : DataW H × List MemPlace), w.cell? (a.add (i * fs.size + j)) = some v ∧ DataW.trod enc P w base (fun _ => true) held n f.type [v] = some y := by
  rcases open_slice ht h with ⟨h0, _⟩ | ⟨a, len, cap, m, n, D, Pl, hcs, _, hl, hm, hmm, _, hi⟩
  · injection h0 with h0; exact .inl h0
  · injection hcs with hcs
    refine .inr ⟨a, len, cap, hcs, hl, hm, fun i hi' => ?_⟩
    obtain ⟨cs', hc, ht'⟩ := hi i (by simpa [hmm] using hi')
    rw [hC] at hc
    obtain ⟨ys, n', hn', hy, hlen, hyl, hf⟩ := DataW.trod_struct he ht'
    obtain ⟨_, hcl, hat⟩ := World.cells?_some hc
    refine ⟨n', fun j f hj => ?_⟩
    obtain ⟨ho, hk⟩ := hone_of hone j f hj
    have hjl : j < fs.size := (Array.getElem?_eq_some_iff.1 hj).1
    have hcell := hat j hjl
    have hv : cs'[j]? = some (cs'[j]'(by omega)) := List.getElem?_eq_getElem (by omega)
    have h1 := hf j f hj
    rw [ho, hk] at h1
    have hone' : (cs'.drop j).take 1 = [cs'[j]'(by omega)] := by
      rw [List.drop_eq_getElem_cons (by omega)]
      rfl
    rw [hone'] at h1
    have hys : ys[j]? = some (ys[j]'(by omega)) := List.getElem?_eq_getElem (by omega)
    refine ⟨_, _, ?_, h1.trans hys⟩
    rw [← Go.Deep.add_add, hcell, hv]
theorem slice_cap {t e : TypeId} {fuel : Nat} {A : Option Addr} {n c : Nat} {x : DataW H × List MemPlace} (ht : P.underlying t = some (.slice e)) (h : DataW.trod enc P w base (fun _ => true) held fuel t [.slice A n c] = some x) : n ≤ c ∧ c ≤ maxLen := by
  rcases open_slice ht h with ⟨h0, _⟩ | ⟨a, len, cap, m, k, D, Pl, hcs, _, hl, hm, _⟩
  · injection h0 with h0
    injection h0 with h1 h2 h3
    subst h2; subst h3
    exact ⟨Nat.le_refl _, Nat.zero_le _⟩
  · injection hcs with hcs
    injection hcs with h1 h2 h3
    subst h2; subst h3
    exact ⟨hl, hm⟩
/-- A slice of structs reads as a list: 'dec': what one struct's fields are. -/
theorem open_flat {α : Type} {T : Flat α} {t e : TypeId} {fs : Array Field} {fuel : Nat} {v0 : Value} {x : DataW H × List MemPlace} (ht : P.underlying t = some (.slice e)) (he : P.underlying e = some (.struct fs))
    (hone : oneCellFields P fs = true) (hC : P.cellsOf e = fs.size) (hT : fs.size = T.size) (hpos : 0 < T.size) (good : α → Prop)
    (dec : ∀ (n : Nat) (c : Nat → Option Value), (∀ (j : Nat) (f : Field), fs[j]? = some f → ∃ (v : Value) (y : DataW H × List MemPlace), c j = some v ∧ DataW.trod enc P w base (fun _ => true) held n f.type [v] = some y) →
      ∃ x : α, good x ∧ ∀ j u, (T.enc x)[j]? = some u → c j = some u)
    (h : DataW.trod enc P w base (fun _ => true) held fuel t [v0] = some x) :
    ∃ A n c xs, v0 = .slice A n c ∧ SlR T w A n xs ∧ (∀ x ∈ xs, good x) ∧ n ≤ maxLen := by
  rcases open_fields ht he hone hC h with rfl | ⟨a, len, cap, rfl, hl, hm, hf⟩
  · exact ⟨none, 0, 0, [], rfl, SlR.none_, (fun x hx => by cases hx), Nat.zero_le _⟩
  · obtain ⟨xs, hxl, hx⟩ := list_of len (fun i x => good x ∧ ∀ j u, (T.enc x)[j]? = some u → w.cell? (a.add (i * fs.size + j)) = some u) fun i hi => by
      obtain ⟨n, hn⟩ := hf i (by omega)
      exact dec n (fun j => w.cell? (a.add (i * fs.size + j))) hn
    refine ⟨some a, len, cap, xs, rfl, ⟨hxl, fun h0 => ?_⟩, fun x hx' => ?_, by omega⟩
    · have hx0 := hx 0 (xs[0]'(by omega)) (List.getElem?_eq_getElem (by omega))
      have hlen := T.len (xs[0]'(by omega))
      have h0' := hx0.2 0 ((T.enc (xs[0]'(by omega)))[0]'(by omega)) (List.getElem?_eq_getElem (by omega))
      obtain ⟨b, o, s⟩ := a
      have hs : s = none := by simpa [Addr.add] using World.cell?_spot h0'
      subst hs
      refine ⟨b, o, rfl, by simpa [Addr.add] using World.block_lt_of_cell? _ _ h0', fun k x hk j u hu => ?_⟩
      have := (hx k x hk).2 j u hu
      rw [hT] at this
      rw [Nat.add_assoc]
      by_cases hz : k * T.size + j = 0
      · rw [hz] at this ⊢
        simpa [Addr.add] using this
      · unfold Addr.add at this
        rw [if_neg hz] at this
        exact this
    · obtain ⟨k, hk⟩ := List.getElem?_of_mem hx'
      exact (hx k x hk).1
theorem open_str {t : TypeId} {n : Nat} {v : Value} {y : DataW H × List MemPlace} (ht : P.underlying t = some .string) (h : DataW.trod enc P w base spare held n t [v] = some y) : ∃ s : Str, v = S s ∧ s.length ≤ maxLen := by
  obtain ⟨s, hc, _, hl⟩ := DataW.trod_string ht h
  injection hc with hc
  exact ⟨s.data.toList, by rw [hc], hl⟩
theorem open_i {t : TypeId} {k : IntKind} {n : Nat} {v : Value} {y : DataW H × List MemPlace} (ht : P.underlying t = some (.int k)) (h : DataW.trod enc P w base spare held n t [v] = some y) : ∃ i : Int, v = .int k i ∧ (Lit.int k i).wf = true := by
  obtain ⟨i, hc, _, hw⟩ := DataW.trod_int ht h
  injection hc with hc
  exact ⟨i, hc, hw⟩
theorem open_b {t : TypeId} {n : Nat} {v : Value} {y : DataW H × List MemPlace} (ht : P.underlying t = some .bool) (h : DataW.trod enc P w base spare held n t [v] = some y) : ∃ b : Bool, v = .bool b := by
  obtain ⟨b, hc, _⟩ := DataW.trod_bool ht h
  injection hc with hc
  exact ⟨b, hc⟩
end
end Go.Proofs.Ytaphmmobmadfoaa

/- Arguments: numbers and texts. -/
namespace Go.Proofs.Ytaphmmobmadfoaa
open Go Go.RowKit Go.ChangeShapes Go.WideShapes Go.Deep
section
variable {H : Type} {enc : TypeId × Value → H} {w : World} {base : Nat} {held : Bool}
abbrev allP : Nat → Bool := fun _ => true
set_option maxRecDepth 100000 in
theorem wf_i64 {a : Int} (h : (Lit.int .i64 a).wf = true) : -9223372036854775808 ≤ a ∧ a ≤ 9223372036854775807 := by
  simp [Lit.wf, IntKind.min, IntKind.max, IntKind.signed, IntKind.bits] at h; omega
set_option maxRecDepth 100000 in
theorem wf_u64 {a : Int} (h : (Lit.int .u64 a).wf = true) : 0 ≤ a ∧ a ≤ 18446744073709551615 := by
  simp [Lit.wf, IntKind.min, IntKind.max, IntKind.signed, IntKind.bits] at h; omega
set_option maxRecDepth 100000 in
theorem arg_int {r : Reach} {b0 : Nat} {v : Value} {d : DataW H} {p : List MemPlace} (hv : Value.okWide Try.prog w r b0 3 v) (h : DataW.Trod enc Try.prog w base allP held 3 v d p) :
    ∃ a : Int, v = .int .i64 a ∧ -9223372036854775808 ≤ a ∧ a ≤ 9223372036854775807 := by
  obtain ⟨a, h1, _, _, h2⟩ := open_int Try.underlying3 hv h
  exact ⟨a, h1, wf_i64 h2⟩
set_option maxRecDepth 100000 in
theorem arg_str {r : Reach} {b0 : Nat} {v : Value} {d : DataW H} {p : List MemPlace} (hv : Value.okWide Try.prog w r b0 9 v) (h : DataW.Trod enc Try.prog w base allP held 9 v d p) :
    ∃ s : Str, v = S s ∧ s.length ≤ maxLen := by
  obtain ⟨s, rfl⟩ := okWide_string Try.underlying9 hv
  obtain ⟨fuel, hf⟩ := h
  exact open_str Try.underlying9 (v := .string s) hf
end
end Go.Proofs.Ytaphmmobmadfoaa

/- Changes as arguments. -/
namespace Go.Proofs.Ytaphmmobmadfoaa
open Go Go.RowKit Go.ChangeShapes Go.WideShapes Go.Deep
section
variable {H : Type} {enc : TypeId × Value → H} {w : World} {base : Nat} {held : Bool}
set_option maxRecDepth 100000 in
theorem open_chs {fuel : Nat} {v0 : Value} {x : DataW H × List MemPlace} (h : DataW.trod enc Try.prog w base allP held fuel 36 [v0] = some x) :
    ∃ A n c xs, v0 = .slice A n c ∧ SlR chF w A n xs ∧ n ≤ maxLen := by
  obtain ⟨A, n, c, xs, h1, h2, _, h3⟩ := open_flat (T := chF) Try.underlying36 Try.underlying61 (by kernel_rfl) (by kernel_rfl) rfl (by decide) (fun _ => True) (fun n c hf => by
    obtain ⟨v0, y0, c0, h0⟩ := hf 0 _ rfl
    obtain ⟨v1, y1, c1, h1⟩ := hf 1 _ rfl
    obtain ⟨v2, y2, c2, h2⟩ := hf 2 _ rfl
    obtain ⟨s0, rfl, _⟩ := open_str Try.underlying9 h0
    obtain ⟨s1, rfl, _⟩ := open_str Try.underlying9 h1
    obtain ⟨b2, rfl⟩ := open_b Try.underlying4 h2
    refine ⟨(s0, s1, b2), trivial, fun j u hu => ?_⟩
    match j, hu with
    | 0, hu => injection hu with hu; rw [c0, hu]
    | 1, hu => injection hu with hu; rw [c1, hu]
    | 2, hu => injection hu with hu; rw [c2, hu]) h
  exact ⟨A, n, c, xs, h1, h2, h3⟩
set_option maxRecDepth 100000 in
theorem arg_chs {r : Reach} {b0 : Nat} {v : Value} {d : DataW H} {p : List MemPlace} (hv : Value.okWide Try.prog w r b0 36 v) (h : DataW.Trod enc Try.prog w base allP held 36 v d p) :
    ∃ A n c xs, v = .slice A n c ∧ SlR chF w A n xs ∧ n ≤ maxLen := by
  obtain ⟨A, n, c, rfl⟩ := okWide_slice Try.underlying36 hv
  obtain ⟨fuel, hf⟩ := h
  exact open_chs (v0 := .slice A n c) hf
set_option maxRecDepth 100000 in
theorem arg_chsc {r : Reach} {b0 : Nat} {v : Value} {d : DataW H} {p : List MemPlace} (hv : Value.okWide Try.prog w r b0 36 v) (h : DataW.Trod enc Try.prog w base allP held 36 v d p) :
    ∃ A n c xs, v = .slice A n c ∧ SlR chF w A n xs ∧ n ≤ c ∧ c ≤ maxLen := by
  obtain ⟨A, n, c, xs, rfl, hs, _⟩ := arg_chs hv h
  obtain ⟨fuel, hf⟩ := h
  exact ⟨A, n, c, xs, rfl, hs, slice_cap Try.underlying36 (show DataW.trod enc Try.prog w base allP held fuel _ [.slice A n c] = some _ from hf)⟩
set_option maxRecDepth 100000 in
theorem arg_ch {r : Reach} {b0 : Nat} {v : Value} {d : DataW H} {p : List MemPlace} (hv : Value.okWide Try.prog w r b0 61 v) (h : DataW.Trod enc Try.prog w base allP held 61 v d p) :
    ∃ c : Ch, v = .agg #[S c.1, S c.2.1, .bool c.2.2] ∧ c.1.length ≤ maxLen ∧ c.2.1.length ≤ maxLen := by
  obtain ⟨v0, v1, v2, y0, y1, y2, n, rfl, _, _, h0, h1, h2⟩ := Joins.open_agg3 Try.underlying61 (by kernel_rfl) (by kernel_rfl) hv h
  obtain ⟨s0, rfl, l0⟩ := open_str Try.underlying9 h0
  obtain ⟨s1, rfl, l1⟩ := open_str Try.underlying9 h1
  obtain ⟨g, rfl⟩ := open_b Try.underlying4 h2
  exact ⟨(s0, s1, g), rfl, l0, l1⟩
end
end Go.Proofs.Ytaphmmobmadfoaa

/- Arguments: uint64. -/
namespace Go.Proofs.Ytaphmmobmadfoaa
open Go Go.RowKit Go.ChangeShapes Go.WideShapes Go.Deep
section
variable {H : Type} {enc : TypeId × Value → H} {w : World} {base : Nat} {held : Bool}
set_option maxRecDepth 100000 in
theorem arg_u64 {r : Reach} {b0 : Nat} {v : Value} {d : DataW H} {p : List MemPlace} (hv : Value.okWide Try.prog w r b0 39 v) (h : DataW.Trod enc Try.prog w base allP held 39 v d p) :
    ∃ k : Nat, v = .int .u64 (k : Int) ∧ k < 18446744073709551616 := by
  obtain ⟨a, h1, _, _, h2⟩ := open_int Try.underlying39 hv h
  have := wf_u64 h2
  exact ⟨a.toNat, by rw [h1]; congr 1; omega, by omega⟩
end
end Go.Proofs.Ytaphmmobmadfoaa

/- Deeds and changes as arguments. -/
namespace Go.Proofs.Ytaphmmobmadfoaa
open Go Go.RowKit Go.ChangeShapes Go.WideShapes Go.Deep
section
variable {H : Type} {enc : TypeId × Value → H} {w : World} {base : Nat} {held : Bool}
set_option maxRecDepth 100000 in
theorem open_deeds {fuel : Nat} {v0 : Value} {x : DataW H × List MemPlace} (h : DataW.trod enc Try.prog w base allP held fuel 22 [v0] = some x) :
    ∃ A n c xs, v0 = .slice A n c ∧ DeedsR w A n xs ∧ n ≤ maxLen := by
  obtain ⟨A, n, c, xs, h1, h2, hg, h3⟩ := open_flat (T := ddF) Try.underlying22 Try.underlying41 (by kernel_rfl) (by kernel_rfl) rfl (by decide)
    (fun d => SlR chF w d.ca d.cn d.ch ∧ (-9223372036854775808 ≤ d.a ∧ d.a ≤ 9223372036854775807) ∧ d.k < 18446744073709551616) (fun n c hf => by
    obtain ⟨v0, y0, c0, h0⟩ := hf 0 _ rfl
    obtain ⟨v1, y1, c1, h1⟩ := hf 1 _ rfl
    obtain ⟨v2, y2, c2, h2⟩ := hf 2 _ rfl
    obtain ⟨v3, y3, c3, h3⟩ := hf 3 _ rfl
    obtain ⟨v4, y4, c4, h4⟩ := hf 4 _ rfl
    obtain ⟨v5, y5, c5, h5⟩ := hf 5 _ rfl
    obtain ⟨s0, rfl, _⟩ := open_str Try.underlying9 h0
    obtain ⟨s1, rfl, _⟩ := open_str Try.underlying9 h1
    obtain ⟨s2, rfl, _⟩ := open_str Try.underlying9 h2
    obtain ⟨i3, rfl, w3⟩ := open_i Try.underlying3 h3
    obtain ⟨i4, rfl, w4⟩ := open_i Try.underlying39 h4
    obtain ⟨ca, cn, cc, xs, rfl, hx, _⟩ := open_chs h5
    have w3 := wf_i64 w3
    have w4 := wf_u64 w4
    obtain ⟨k, rfl⟩ : ∃ k : Nat, i4 = (k : Int) := ⟨i4.toNat, by omega⟩
    refine ⟨⟨s0, s1, s2, i3, k, ca, cn, cc, xs⟩, ⟨hx, w3, by show k < _; omega⟩, fun j u hu => ?_⟩
    match j, hu with
    | 0, hu => injection hu with hu; rw [c0, hu]
    | 1, hu => injection hu with hu; rw [c1, hu]
    | 2, hu => injection hu with hu; rw [c2, hu]
    | 3, hu => injection hu with hu; rw [c3, hu]
    | 4, hu => injection hu with hu; rw [c4, hu]
    | 5, hu => injection hu with hu; rw [c5, hu]) h
  exact ⟨A, n, c, xs, h1, ⟨h2, fun d hd => (hg d hd).1, fun d hd => (hg d hd).2.1, fun d hd => (hg d hd).2.2⟩, h3⟩
set_option maxRecDepth 100000 in
theorem arg_deeds {r : Reach} {b0 : Nat} {v : Value} {d : DataW H} {p : List MemPlace} (hv : Value.okWide Try.prog w r b0 22 v) (h : DataW.Trod enc Try.prog w base allP held 22 v d p) :
    ∃ A n c xs, v = .slice A n c ∧ DeedsR w A n xs ∧ n ≤ maxLen := by
  obtain ⟨A, n, c, rfl⟩ := okWide_slice Try.underlying22 hv
  obtain ⟨fuel, hf⟩ := h
  exact open_deeds (v0 := .slice A n c) hf
end
end Go.Proofs.Ytaphmmobmadfoaa

/- Arguments: slices of texts. -/
namespace Go.Proofs.Ytaphmmobmadfoaa
open Go Go.RowKit Go.ChangeShapes Go.WideShapes Go.Deep
section
variable {H : Type} {enc : TypeId × Value → H} {w : World} {base : Nat} {held : Bool}
set_option maxRecDepth 100000 in
theorem open_strs_ {fuel : Nat} {v0 : Value} {x : DataW H × List MemPlace} (h : DataW.trod enc Try.prog w base allP held fuel 64 [v0] = some x) :
    ∃ A n c xs, v0 = .slice A n c ∧ SlR strF w A n xs ∧ n ≤ maxLen := by
  rcases open_slice Try.underlying64 h with ⟨h0, _⟩ | ⟨a, len, cap, m, n, D, Pl, hcs, _, hl, hm, hmm, _, hi⟩
  · injection h0 with h0; exact ⟨none, 0, 0, [], h0, SlR.none_, Nat.zero_le _⟩
  · injection hcs with hcs
    obtain ⟨xs, hxl, hx⟩ := list_of len (fun i (s : Str) => w.cell? (a.add i) = some (S s)) fun i hi' => by
      obtain ⟨cs', hc, ht'⟩ := hi i (by rw [hmm]; simp only [allP, if_true]; omega)
      have hC : Try.prog.cellsOf 9 = 1 := by kernel_rfl
      rw [hC] at hc
      obtain ⟨s, hs, _⟩ := DataW.trod_string Try.underlying9 ht'
      obtain ⟨_, hcl, hat⟩ := World.cells?_some hc
      refine ⟨s.data.toList, ?_⟩
      have := hat 0 (by omega)
      rw [hs] at this
      simpa [add_add] using this
    refine ⟨some a, len, cap, xs, hcs, ⟨hxl, fun h0 => ?_⟩, by omega⟩
    have hx0 := hx 0 (xs[0]'(by omega)) (List.getElem?_eq_getElem (by omega))
    obtain ⟨b, o, s⟩ := a
    have hs : s = none := by simpa [Addr.add] using World.cell?_spot hx0
    subst hs
    refine ⟨b, o, rfl, by simpa [Addr.add] using World.block_lt_of_cell? _ _ hx0, fun k x hk j u hu => ?_⟩
    have := hx k x hk
    match j, hu with
    | 0, hu =>
      injection hu with hu
      rw [← hu, Nat.add_zero, show strF.size = 1 from rfl, Nat.mul_one]
      unfold Addr.add at this
      split at this
      · rename_i e; subst e; simpa using this
      · exact this
set_option maxRecDepth 100000 in
theorem arg_strs {r : Reach} {b0 : Nat} {v : Value} {d : DataW H} {p : List MemPlace} (hv : Value.okWide Try.prog w r b0 64 v) (h : DataW.Trod enc Try.prog w base allP held 64 v d p) :
    ∃ A n c xs, v = .slice A n c ∧ SlR strF w A n xs ∧ n ≤ maxLen := by
  obtain ⟨A, n, c, rfl⟩ := okWide_slice Try.underlying64 hv
  obtain ⟨fuel, hf⟩ := h
  exact open_strs_ (v0 := .slice A n c) hf
end
end Go.Proofs.Ytaphmmobmadfoaa

/- The library's variable that strings.Index reads. -/
namespace Go.Proofs.Ytaphmmobmadfoaa
open Go Go.RowKit
/-- The library's variable internal/bytealg.MaxLen holds some number. -/
def Ml (w : World) : Prop := ∃ m, w.cell? ⟨0, 0, none⟩ = some (.int .i64 m)
theorem Ml.only {w v : World} {F : Nat → Prop} (h : Ml w) (hx : Only F w v) (hF : ¬ F 0) : Ml v := by
  obtain ⟨m, hm⟩ := h
  exact ⟨m, (hx.cell (World.block_lt_of_cell? _ _ hm) hF).trans hm⟩
theorem Ml.ext {w v : World} (h : Ml w) (hx : Ext w v) : Ml v := h.only hx id
end Go.Proofs.Ytaphmmobmadfoaa

/- The library's variable that strings.Index reads holds some number in every world that a claim speaks of. -/
namespace Go.Proofs.Ytaphmmobmadfoaa
open Go Go.RowKit
set_option maxRecDepth 100000 in
theorem ml_shaped {W : World} (h : W.ShapedOpen Try.prog) : Ml W :=
  cell_of_shapedOpen_int (t := 3) (zero := #[.int .i64 0]) h (of_decide_eq_true (by kernel_rfl)) (by kernel_rfl) rfl (by kernel_rfl) (by kernel_rfl) Try.underlying3
end Go.Proofs.Ytaphmmobmadfoaa
