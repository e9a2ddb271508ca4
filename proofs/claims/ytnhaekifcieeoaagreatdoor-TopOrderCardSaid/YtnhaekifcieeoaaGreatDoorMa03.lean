/- Put together: Data, Open, OpenB, OpenF, OpenS, Mem. -/
import Derived.Test.YtnhaekifcieeoaaGreatDoorMa02
import Derived.Deep.Slices
import Derived.Deep.Fields
import Derived.ChangeSame
import Derived.Test.YtnhaekifcieeoaaGreatDoorProg
import Derived.Lib.SmallJoins
import Derived.Laws.OwnMore
import Derived.Maps.AppendAt
import Derived.Deep.AppendLies
/- How the data of this program lie in memory: strings, and slices whose elements are laid in cells. -/
namespace Go.Proofs.YtnhaekifcieeoaaGreatDoor
open Go Go.RowKit
/-- How one element is laid in cells. -/
structure Flat (α : Type) where
  size : Nat
  enc : α → List Value
  len : ∀ x, (enc x).length = size
abbrev File := Str × Str
def strF : Flat Str := ⟨1, fun s => [S s], fun _ => rfl⟩
def fileF : Flat File := ⟨2, fun f => [S f.1, S f.2], fun _ => rfl⟩
/-- The slice value '.slice A n c' reads as 'xs', in blocks below 'w''s size. -/
def SlR {α : Type} (T : Flat α) (w : World) (A : Option Addr) (n : Nat) (xs : List α) : Prop :=
  xs.length = n ∧ (0 < n → ∃ b o, A = some ⟨b, o, none⟩ ∧ b < w.heap.size ∧ ∀ k x, xs[k]? = some x → ∀ j u, (T.enc x)[j]? = some u → w.cell? ⟨b, o + k * T.size + j, none⟩ = some u)
section
variable {α : Type} {T : Flat α} {w v : World} {A : Option Addr} {n : Nat} {xs : List α}
theorem SlR.get (h : SlR T w A n xs) {k : Nat} (hk : k < n) : ∃ b o x, A = some ⟨b, o, none⟩ ∧ b < w.heap.size ∧ xs[k]? = some x ∧
    ∀ j u, (T.enc x)[j]? = some u → w.cell? ⟨b, o + k * T.size + j, none⟩ = some u := by
  obtain ⟨b, o, e, hb, hc⟩ := h.2 (by omega)
  have hl : k < xs.length := by rw [h.1]; exact hk
  exact ⟨b, o, xs[k], e, hb, List.getElem?_eq_getElem hl, hc k _ (List.getElem?_eq_getElem hl)⟩
theorem SlR.none_ : SlR T w none 0 [] := ⟨rfl, fun h => absurd h (by omega)⟩
theorem SlR.nil_ (h : SlR T w A 0 xs) : xs = [] := List.eq_nil_of_length_eq_zero h.1
theorem SlR.keep (h : SlR T w A n xs) (hs : w.heap.size ≤ v.heap.size) (hk : ∀ p : Addr, p.block < w.heap.size → v.cell? p = w.cell? p) : SlR T v A n xs :=
  ⟨h.1, fun hn => by
    obtain ⟨b, o, e, hb, hc⟩ := h.2 hn
    exact ⟨b, o, e, by omega, fun k x hx j u hu => (hk _ hb).trans (hc k x hx j u hu)⟩⟩
theorem SlR.ext (h : SlR T w A n xs) (hx : Ext w v) : SlR T v A n xs := h.keep hx.size fun _ hp => hx.cell hp id
end
theorem files_get {w : World} {A : Option Addr} {n : Nat} {xs : List File} (h : SlR fileF w A n xs) {k : Nat} (hk : k < n) :
    ∃ b o f, A = some ⟨b, o, none⟩ ∧ xs[k]? = some f ∧ (∀ ξ : X w No, ξ.v.cell? ⟨b, o + k * 2, none⟩ = some (S f.1)) ∧ (∀ ξ : X w No, ξ.v.cell? ⟨b, o + k * 2 + 1, none⟩ = some (S f.2)) := by
  obtain ⟨b, o, x, e, hb, hx, hc⟩ := h.get hk
  exact ⟨b, o, x, e, hx, fun ξ => (ξ.h.cell hb id).trans (hc 0 _ rfl), fun ξ => (ξ.h.cell hb id).trans (hc 1 _ rfl)⟩
theorem strs_get {w : World} {A : Option Addr} {n : Nat} {xs : List Str} (h : SlR strF w A n xs) {k : Nat} (hk : k < n) :
    ∃ b o s, A = some ⟨b, o, none⟩ ∧ xs[k]? = some s ∧ (∀ ξ : X w No, ξ.v.cell? ⟨b, o + k, none⟩ = some (S s)) := by
  obtain ⟨b, o, x, e, hb, hx, hc⟩ := h.get hk
  exact ⟨b, o, x, e, hx, fun ξ => (ξ.h.cell hb id).trans (by simpa [strF] using hc 0 _ rfl)⟩
theorem take_grow {α : Type} {xs ys : List α} {k : Nat} {x y : α} (h : xs.take k = ys.take k) (hx : xs[k]? = some x) (hy : ys[k]? = some y) (e : x = y) : xs.take (k + 1) = ys.take (k + 1) := by
  rw [List.take_add_one, List.take_add_one, h, hx, hy, e]
theorem ne_at {α : Type} {xs ys : List α} {k : Nat} {x y : α} (hx : xs[k]? = some x) (hy : ys[k]? = some y) (e : x ≠ y) : xs ≠ ys := by
  intro h; subst h; rw [hx] at hy; exact e (Option.some.inj hy)
theorem eq_of_take {α : Type} {xs ys : List α} {k n : Nat} (h : xs.take k = ys.take k) (hx : xs.length = n) (hy : ys.length = n) (hk : n ≤ k) : xs = ys := by
  rw [List.take_of_length_le (by omega), List.take_of_length_le (by omega)] at h; exact h
theorem ret_bool {a b : Bool} (h : a = b) : Ending.returned (.bool a) = .returned (.bool b) := by rw [h]
end Go.Proofs.YtnhaekifcieeoaaGreatDoor

/- How an argument that reads as data lies in memory: slices of structs, opened to lists. -/
namespace Go.Proofs.YtnhaekifcieeoaaGreatDoor
open Go Go.RowKit Go.ChangeShapes Go.WideShapes Go.Deep
section
variable {H : Type} {enc : TypeId × Value → H} {P : Program} {w : World} {base : Nat} {spare : Nat → Bool} {held : Bool}
theorem list_of {α : Type} : ∀ (n : Nat) (R : Nat → α → Prop), (∀ i, i < n → ∃ x, R i x) → ∃ xs : List α, xs.length = n ∧ ∀ k x, xs[k]? = some x → R k x
  | 0, _, _ => ⟨[], rfl, fun k x h => by simp at h⟩
  | n + 1, R, h => by
    obtain ⟨xs, hl, hx⟩ := list_of n R fun i hi => h i (by omega)
    obtain ⟨y, hy⟩ := h n (by omega)
    refine ⟨xs ++ [y], by simp [hl], fun k x hk => ?_⟩
    by_cases hkn : k < n
    · rw [List.getElem?_append_left (by omega)] at hk; exact hx k x hk
    · have : k = n := by
        have := (List.getElem?_eq_some_iff.1 hk).1
        simp [hl] at this; omega
      subst this
      rw [List.getElem?_append_right (by omega)] at hk
      simp [hl] at hk
      subst hk; exact hy
/-- Fields of structs that lie in a slice. -/
theorem open_fields {t e : TypeId} {fs : Array Field} {fuel : Nat} {v0 : Value} {x : DataW H × List MemPlace} (ht : P.underlying t = some (.slice e)) (he : P.underlying e = some (.struct fs))
    (hone : oneCellFields P fs = true) (hC : P.cellsOf e = fs.size) (h : DataW.trod enc P w base (fun _ => true) held fuel t [v0] = some x) :
    v0 = .slice none 0 0 ∨
    ∃ (a : Addr) (len cap : Nat), v0 = .slice (some a) len cap ∧ len ≤ cap ∧ cap ≤ maxLen ∧
      ∀ i, i < cap → ∃ n, ∀ (j : Nat) (f : Field), fs[j]? = some f → ∃ (v : Value) (y : DataW H × List MemPlace), w.cell? (a.add (i * fs.size + j)) = some v ∧ DataW.trod enc P w base (fun _ => true) held n f.type [v] = some y := by
  rcases open_slice ht h with ⟨h0, _⟩ | ⟨a, len, cap, m, n, D, Pl, hcs, _, hl, hm, hmm, _, hi⟩
  · injection h0 with h0; exact .inl h0
  · injection hcs with hcs
    refine .inr ⟨a, len, cap, hcs, hl, hm, fun i hi' => ?_⟩
    obtain ⟨cs', hc, ht'⟩ := hi i (by simpa [hmm] using hi')
    rw [hC] at hc
    obtain ⟨ys, n', hn', hy, hlen, hyl, hf⟩ := DataW.trod_struct he ht'
    obtain ⟨_, hcl, hat⟩ := World.cells?_some hc
    refine ⟨n', fun j f hj => ?_⟩
    obtain ⟨ho, hk⟩ := hone_of hone j f hj
    have hjl : j < fs.size := (Array.getElem?_eq_some_iff.1 hj).1
    have hcell := hat j hjl
    have hv : cs'[j]? = some (cs'[j]'(by omega)) := List.getElem?_eq_getElem (by omega)
    have h1 := hf j f hj
    rw [ho, hk] at h1
    have hone' : (cs'.drop j).take 1 = [cs'[j]'(by omega)] := by
      rw [List.drop_eq_getElem_cons (by omega)]
      rfl
    rw [hone'] at h1
    have hys : ys[j]? = some (ys[j]'(by omega)) := List.getElem?_eq_getElem (by omega)
    refine ⟨_, _, ?_, h1.trans hys⟩
    rw [← Go.Deep.add_add, hcell, hv]
theorem slice_cap {t e : TypeId} {fuel : Nat} {A : Option Addr} {n c : Nat} {x : DataW H × List MemPlace} (ht : P.underlying t = some (.slice e)) (h : DataW.trod enc P w base (fun _ => true) held fuel t [.slice A n c] = some x) : n ≤ c ∧ c ≤ maxLen := by
  rcases open_slice ht h with ⟨h0, _⟩ | ⟨a, len, cap, m, k, D, Pl, hcs, _, hl, hm, _⟩
  · injection h0 with h0
    injection h0 with h1 h2 h3
    subst h2; subst h3
    exact ⟨Nat.le_refl _, Nat.zero_le _⟩
  · injection hcs with hcs
    injection hcs with h1 h2 h3
    subst h2; subst h3
    exact ⟨hl, hm⟩
/-- A slice of structs reads as a list: 'dec': what one struct's fields are. -/
theorem open_flat {α : Type} {T : Flat α} {t e : TypeId} {fs : Array Field} {fuel : Nat} {v0 : Value} {x : DataW H × List MemPlace} (ht : P.underlying t = some (.slice e)) (he : P.underlying e = some (.struct fs))
    (hone : oneCellFields P fs = true) (hC : P.cellsOf e = fs.size) (hT : fs.size = T.size) (hpos : 0 < T.size) (good : α → Prop)
    (dec : ∀ (n : Nat) (c : Nat → Option Value), (∀ (j : Nat) (f : Field), fs[j]? = some f → ∃ (v : Value) (y : DataW H × List MemPlace), c j = some v ∧ DataW.trod enc P w base (fun _ => true) held n f.type [v] = some y) →
      ∃ x : α, good x ∧ ∀ j u, (T.enc x)[j]? = some u → c j = some u)
    (h : DataW.trod enc P w base (fun _ => true) held fuel t [v0] = some x) :
    ∃ A n c xs, v0 = .slice A n c ∧ SlR T w A n xs ∧ (∀ x ∈ xs, good x) ∧ n ≤ maxLen := by
  rcases open_fields ht he hone hC h with rfl | ⟨a, len, cap, rfl, hl, hm, hf⟩
  · exact ⟨none, 0, 0, [], rfl, SlR.none_, (fun x hx => by cases hx), Nat.zero_le _⟩
  · obtain ⟨xs, hxl, hx⟩ := list_of len (fun i x => good x ∧ ∀ j u, (T.enc x)[j]? = some u → w.cell? (a.add (i * fs.size + j)) = some u) fun i hi => by
      obtain ⟨n, hn⟩ := hf i (by omega)
      exact dec n (fun j => w.cell? (a.add (i * fs.size + j))) hn
    refine ⟨some a, len, cap, xs, rfl, ⟨hxl, fun h0 => ?_⟩, fun x hx' => ?_, by omega⟩
    · have hx0 := hx 0 (xs[0]'(by omega)) (List.getElem?_eq_getElem (by omega))
      have hlen := T.len (xs[0]'(by omega))
      have h0' := hx0.2 0 ((T.enc (xs[0]'(by omega)))[0]'(by omega)) (List.getElem?_eq_getElem (by omega))
      obtain ⟨b, o, s⟩ := a
      have hs : s = none := by simpa [Addr.add] using World.cell?_spot h0'
      subst hs
      refine ⟨b, o, rfl, by simpa [Addr.add] using World.block_lt_of_cell? _ _ h0', fun k x hk j u hu => ?_⟩
      have := (hx k x hk).2 j u hu
      rw [hT] at this
      rw [Nat.add_assoc]
      by_cases hz : k * T.size + j = 0
      · rw [hz] at this ⊢
        simpa [Addr.add] using this
      · unfold Addr.add at this
        rw [if_neg hz] at this
        exact this
    · obtain ⟨k, hk⟩ := List.getElem?_of_mem hx'
      exact (hx k x hk).1
theorem open_str {t : TypeId} {n : Nat} {v : Value} {y : DataW H × List MemPlace} (ht : P.underlying t = some .string) (h : DataW.trod enc P w base spare held n t [v] = some y) : ∃ s : Str, v = S s ∧ s.length ≤ maxLen := by
  obtain ⟨s, hc, _, hl⟩ := DataW.trod_string ht h
  injection hc with hc
  exact ⟨s.data.toList, by rw [hc], hl⟩
theorem open_i {t : TypeId} {k : IntKind} {n : Nat} {v : Value} {y : DataW H × List MemPlace} (ht : P.underlying t = some (.int k)) (h : DataW.trod enc P w base spare held n t [v] = some y) : ∃ i : Int, v = .int k i ∧ (Lit.int k i).wf = true := by
  obtain ⟨i, hc, _, hw⟩ := DataW.trod_int ht h
  injection hc with hc
  exact ⟨i, hc, hw⟩
theorem open_b {t : TypeId} {n : Nat} {v : Value} {y : DataW H × List MemPlace} (ht : P.underlying t = some .bool) (h : DataW.trod enc P w base spare held n t [v] = some y) : ∃ b : Bool, v = .bool b := by
  obtain ⟨b, hc, _⟩ := DataW.trod_bool ht h
  injection hc with hc
  exact ⟨b, hc⟩
end
end Go.Proofs.YtnhaekifcieeoaaGreatDoor

/- Arguments: numbers and texts. -/
namespace Go.Proofs.YtnhaekifcieeoaaGreatDoor
open Go Go.RowKit Go.ChangeShapes Go.WideShapes Go.Deep
section
variable {H : Type} {enc : TypeId × Value → H} {w : World} {base : Nat} {held : Bool}
abbrev allP : Nat → Bool := fun _ => true
set_option maxRecDepth 100000 in
theorem wf_i64 {a : Int} (h : (Lit.int .i64 a).wf = true) : -9223372036854775808 ≤ a ∧ a ≤ 9223372036854775807 := by
  simp [Lit.wf, IntKind.min, IntKind.max, IntKind.signed, IntKind.bits] at h; omega
set_option maxRecDepth 100000 in
theorem wf_u64 {a : Int} (h : (Lit.int .u64 a).wf = true) : 0 ≤ a ∧ a ≤ 18446744073709551615 := by
  simp [Lit.wf, IntKind.min, IntKind.max, IntKind.signed, IntKind.bits] at h; omega
set_option maxRecDepth 100000 in
theorem arg_int {r : Reach} {b0 : Nat} {v : Value} {d : DataW H} {p : List MemPlace} (hv : Value.okWide Tryz.prog w r b0 3 v) (h : DataW.Trod enc Tryz.prog w base allP held 3 v d p) :
    ∃ a : Int, v = .int .i64 a ∧ -9223372036854775808 ≤ a ∧ a ≤ 9223372036854775807 := by
  obtain ⟨a, h1, _, _, h2⟩ := open_int Tryz.underlying3 hv h
  exact ⟨a, h1, wf_i64 h2⟩
set_option maxRecDepth 100000 in
theorem arg_str {r : Reach} {b0 : Nat} {v : Value} {d : DataW H} {p : List MemPlace} (hv : Value.okWide Tryz.prog w r b0 9 v) (h : DataW.Trod enc Tryz.prog w base allP held 9 v d p) :
    ∃ s : Str, v = S s ∧ s.length ≤ maxLen := by
  obtain ⟨s, rfl⟩ := okWide_string Tryz.underlying9 hv
  obtain ⟨fuel, hf⟩ := h
  exact open_str Tryz.underlying9 (v := .string s) hf
end
end Go.Proofs.YtnhaekifcieeoaaGreatDoor

/- Arguments: files. -/
namespace Go.Proofs.YtnhaekifcieeoaaGreatDoor
open Go Go.RowKit Go.ChangeShapes Go.WideShapes Go.Deep
section
variable {H : Type} {enc : TypeId × Value → H} {w : World} {base : Nat} {held : Bool}
set_option maxRecDepth 100000 in
theorem open_files {fuel : Nat} {v0 : Value} {x : DataW H × List MemPlace} (h : DataW.trod enc Tryz.prog w base allP held fuel 22 [v0] = some x) :
    ∃ A n c xs, v0 = .slice A n c ∧ SlR fileF w A n xs ∧ n ≤ maxLen := by
  obtain ⟨A, n, c, xs, h1, h2, _, h3⟩ := open_flat (T := fileF) Tryz.underlying22 Tryz.underlying75 (by kernel_rfl) (by kernel_rfl) rfl (by decide) (fun x => x.1.length ≤ maxLen ∧ x.2.length ≤ maxLen) (fun n c hf => by
    obtain ⟨v0, y0, c0, h0⟩ := hf 0 _ rfl
    obtain ⟨v1, y1, c1, h1⟩ := hf 1 _ rfl
    obtain ⟨s0, rfl, l0⟩ := open_str Tryz.underlying9 h0
    obtain ⟨s1, rfl, l1⟩ := open_str Tryz.underlying9 h1
    refine ⟨(s0, s1), ⟨l0, l1⟩, fun j u hu => ?_⟩
    match j, hu with
    | 0, hu => injection hu with hu; rw [c0, hu]
    | 1, hu => injection hu with hu; rw [c1, hu]) h
  exact ⟨A, n, c, xs, h1, h2, h3⟩
set_option maxRecDepth 100000 in
theorem arg_files {r : Reach} {b0 : Nat} {v : Value} {d : DataW H} {p : List MemPlace} (hv : Value.okWide Tryz.prog w r b0 22 v) (h : DataW.Trod enc Tryz.prog w base allP held 22 v d p) :
    ∃ A n c xs, v = .slice A n c ∧ SlR fileF w A n xs ∧ n ≤ maxLen := by
  obtain ⟨A, n, c, rfl⟩ := okWide_slice Tryz.underlying22 hv
  obtain ⟨fuel, hf⟩ := h
  exact open_files (v0 := .slice A n c) hf
set_option maxRecDepth 100000 in
theorem arg_file {r : Reach} {b0 : Nat} {v : Value} {d : DataW H} {p : List MemPlace} (hv : Value.okWide Tryz.prog w r b0 75 v) (h : DataW.Trod enc Tryz.prog w base allP held 75 v d p) :
    ∃ f : File, v = .agg #[S f.1, S f.2] ∧ f.1.length ≤ maxLen ∧ f.2.length ≤ maxLen := by
  obtain ⟨v0, v1, y0, y1, n, rfl, _, _, h0, h1⟩ := Joins.open_agg2 Tryz.underlying75 (by kernel_rfl) (by kernel_rfl) hv h
  obtain ⟨s0, rfl, l0⟩ := open_str Tryz.underlying9 h0
  obtain ⟨s1, rfl, l1⟩ := open_str Tryz.underlying9 h1
  exact ⟨(s0, s1), rfl, l0, l1⟩
end
end Go.Proofs.YtnhaekifcieeoaaGreatDoor

/- Arguments: slices of texts. -/
namespace Go.Proofs.YtnhaekifcieeoaaGreatDoor
open Go Go.RowKit Go.ChangeShapes Go.WideShapes Go.Deep
section
variable {H : Type} {enc : TypeId × Value → H} {w : World} {base : Nat} {held : Bool}
set_option maxRecDepth 100000 in
theorem open_strs_ {fuel : Nat} {v0 : Value} {x : DataW H × List MemPlace} (h : DataW.trod enc Tryz.prog w base allP held fuel 27 [v0] = some x) :
    ∃ A n c xs, v0 = .slice A n c ∧ SlR strF w A n xs ∧ n ≤ maxLen := by
  rcases open_slice Tryz.underlying27 h with ⟨h0, _⟩ | ⟨a, len, cap, m, n, D, Pl, hcs, _, hl, hm, hmm, _, hi⟩
  · injection h0 with h0; exact ⟨none, 0, 0, [], h0, SlR.none_, Nat.zero_le _⟩
  · injection hcs with hcs
    obtain ⟨xs, hxl, hx⟩ := list_of len (fun i (s : Str) => w.cell? (a.add i) = some (S s)) fun i hi' => by
      obtain ⟨cs', hc, ht'⟩ := hi i (by rw [hmm]; simp only [allP, if_true]; omega)
      have hC : Tryz.prog.cellsOf 9 = 1 := by kernel_rfl
      rw [hC] at hc
      obtain ⟨s, hs, _⟩ := DataW.trod_string Tryz.underlying9 ht'
      obtain ⟨_, hcl, hat⟩ := World.cells?_some hc
      refine ⟨s.data.toList, ?_⟩
      have := hat 0 (by omega)
      rw [hs] at this
      simpa [add_add] using this
    refine ⟨some a, len, cap, xs, hcs, ⟨hxl, fun h0 => ?_⟩, by omega⟩
    have hx0 := hx 0 (xs[0]'(by omega)) (List.getElem?_eq_getElem (by omega))
    obtain ⟨b, o, s⟩ := a
    have hs : s = none := by simpa [Addr.add] using World.cell?_spot hx0
    subst hs
    refine ⟨b, o, rfl, by simpa [Addr.add] using World.block_lt_of_cell? _ _ hx0, fun k x hk j u hu => ?_⟩
    have := hx k x hk
    match j, hu with
    | 0, hu =>
      injection hu with hu
      rw [← hu, Nat.add_zero, show strF.size = 1 from rfl, Nat.mul_one]
      unfold Addr.add at this
      split at this
      · rename_i e; subst e; simpa using this
      · exact this
set_option maxRecDepth 100000 in
theorem arg_strs {r : Reach} {b0 : Nat} {v : Value} {d : DataW H} {p : List MemPlace} (hv : Value.okWide Tryz.prog w r b0 27 v) (h : DataW.Trod enc Tryz.prog w base allP held 27 v d p) :
    ∃ A n c xs, v = .slice A n c ∧ SlR strF w A n xs ∧ n ≤ maxLen := by
  obtain ⟨A, n, c, rfl⟩ := okWide_slice Tryz.underlying27 hv
  obtain ⟨fuel, hf⟩ := h
  exact open_strs_ (v0 := .slice A n c) hf
set_option maxRecDepth 100000 in
theorem strs_cap {fuel : Nat} {A : Option Addr} {n c : Nat} {x : DataW H × List MemPlace} (h : DataW.trod enc Tryz.prog w base allP held fuel 27 [.slice A n c] = some x) : n ≤ c := by
  rcases open_slice Tryz.underlying27 h with ⟨h0, _⟩ | ⟨a, len, cap, m, n', D, Pl, hcs, _, hl, _⟩
  · injection h0 with h0
    injection h0 with h1 h2 h3
    omega
  · injection hcs with hcs
    injection hcs with h1 h2 h3
    omega
set_option maxRecDepth 100000 in
theorem arg_strsc {r : Reach} {b0 : Nat} {v : Value} {d : DataW H} {p : List MemPlace} (hv : Value.okWide Tryz.prog w r b0 27 v) (h : DataW.Trod enc Tryz.prog w base allP held 27 v d p) :
    ∃ A n c xs, v = .slice A n c ∧ SlR strF w A n xs ∧ n ≤ maxLen ∧ n ≤ c := by
  obtain ⟨A, n, c, rfl⟩ := okWide_slice Tryz.underlying27 hv
  obtain ⟨fuel, hf⟩ := h
  obtain ⟨A', n', c', xs, e, h1, h2⟩ := open_strs_ (v0 := .slice A n c) hf
  injection e with e1 e2 e3
  subst e1; subst e2; subst e3
  exact ⟨_, _, _, xs, rfl, h1, h2, strs_cap hf⟩
end
end Go.Proofs.YtnhaekifcieeoaaGreatDoor

/- Blocks that are known whole, and rows that the call owns. -/
namespace Go.Proofs.YtnhaekifcieeoaaGreatDoor
open Go Go.RowKit
/-- Block 'g' is just the cells 'cs' of element type 't', none frozen. -/
def Cs (w : World) (g : Nat) (t : TypeId) (cs : Array Value) : Prop := w.heap[g]? = some (.cells cs t (0, 0))
section
variable {w v : World} {g : Nat} {t : TypeId} {cs : Array Value} {F : Nat → Prop}
theorem Cs.lt (h : Cs w g t cs) : g < w.heap.size := by
  rcases Nat.lt_or_ge g w.heap.size with hlt | hge
  · exact hlt
  · unfold Cs at h; rw [Array.getElem?_eq_none hge] at h; cases h
theorem Cs.cell (h : Cs w g t cs) (i : Nat) : w.cell? ⟨g, i, none⟩ = cs[i]? := cell_of_row w g i cs t (0, 0) h
theorem Cs.frozen (h : Cs w g t cs) (i : Nat) : w.frozen? ⟨g, i, none⟩ = false := by
  unfold Cs at h
  simp [World.frozen?, h]
theorem Cs.new (w : World) (t : TypeId) (cs : Array Value) : Cs (w.alloc (.cells cs t)) w.heap.size t cs := heap_alloc_new w _
theorem Cs.drew (h : Cs w g t cs) : Cs w.drew g t cs := h
theorem Cs.drewN (h : Cs w g t cs) (n : Nat) : Cs (w.drewN n) g t cs := h
theorem Cs.alloc (h : Cs w g t cs) (o : Obj) : Cs (w.alloc o) g t cs := (Below.heap_alloc w o g h.lt).trans h
theorem Cs.set_ (h : Cs w g t cs) (i : Nat) (u : Value) : Cs (w.setCell ⟨g, i, none⟩ u) g t (cs.setIfInBounds i u) := by
  unfold Cs at h ⊢
  simp [World.setCell, Array.getElem?_modify, h]
theorem Cs.far (h : Cs w g t cs) {p : Addr} (hp : g ≠ p.block) (u : Value) : Cs (w.setCell p u) g t cs := (Below.heap_setCell w p u g hp).trans h
theorem Cs.keep (h : Cs w g t cs) (hx : Only F w v) (hg : ¬ F g) : Cs v g t cs := (hx.block g h.lt hg).trans h
theorem Cs.ne_ {g' : Nat} {t' : TypeId} {cs' : Array Value} (h : Cs w g t cs) (h' : Cs w g' t' cs') (hne : t ≠ t') : g ≠ g' := by
  rintro rfl
  unfold Cs at h h'
  rw [h] at h'
  injection h' with h'
  injection h' with _ ht
  exact hne ht
end
theorem own_keep {w v : World} {F : Nat → Prop} {B : Nat} {e : TypeId} {size n : Nat} {x : Value} {xs : List Value} (h : w.ownsRow B e size x n xs) (hx : Only F w v) (hn : ∀ g, x.ownBlock = some g → ¬ F g) : v.ownsRow B e size x n xs := by
  obtain ⟨h1, h2⟩ := h
  refine ⟨h1, ?_⟩
  rcases h2 with h2 | ⟨g, cap, cur, hv, hg, hh, r⟩
  · exact Or.inl h2
  · refine Or.inr ⟨g, cap, cur, hv, hg, ?_, r⟩
    rw [hx.block g (Array.getElem?_eq_some_iff.1 hh).1 (hn g (by rw [hv]; rfl))]
    exact hh
theorem Cs.x {w : World} {g : Nat} {t : TypeId} {cs : Array Value} {F : Nat → Prop} (h : Cs w g t cs) (hg : ¬ F g) (i : Nat) : ∀ ξ : X w F, ξ.v.cell? ⟨g, i, none⟩ = cs[i]? := fun ξ => (h.keep ξ.h hg).cell i
/-- Storing over one element of a row of the call's own (elements of one cell). -/
theorem Cs.of_own {w : World} {B : Nat} {e : TypeId} {size g n cap : Nat} {xs : List Value} (h : w.ownsRow B e size (.slice (some ⟨g, 0, none⟩) n cap) n xs) : ∃ cur, Cs w g e cur := by
  rcases h.2 with ⟨h2, _⟩ | ⟨g', cap', cur, hv, hb, hh, _⟩
  · cases h2
  · injection hv with hv1 hv2 hv3
    injection hv1 with hv1
    injection hv1 with hv1
    subst hv1
    exact ⟨cur, hh⟩
theorem own_set {w : World} {B : Nat} {e : TypeId} {g n cap : Nat} {xs : List Value} (h : w.ownsRow B e 1 (.slice (some ⟨g, 0, none⟩) n cap) n xs) (k : Nat) (hk : k < n) (u : Value) :
    (w.setCell ⟨g, k, none⟩ u).ownsRow B e 1 (.slice (some ⟨g, 0, none⟩) n cap) n (xs.set k u) := by
  obtain ⟨h1, h2⟩ := h
  refine ⟨by simpa using h1, .inr ?_⟩
  rcases h2 with ⟨h2, _⟩ | ⟨g', cap', cur, hv, hb, hh, hn, hc, hs, ht⟩
  · cases h2
  · injection hv with hv1 hv2 hv3
    injection hv1 with hv1
    injection hv1 with hv1
    subst hv1; subst hv3
    refine ⟨g, cap, cur.setIfInBounds k u, rfl, hb, ?_, hn, hc, by simpa using hs, ?_⟩
    · simp [World.setCell, Array.getElem?_modify, hh]
    · rw [Array.toList_setIfInBounds, List.take_set, ht]
end Go.Proofs.YtnhaekifcieeoaaGreatDoor
