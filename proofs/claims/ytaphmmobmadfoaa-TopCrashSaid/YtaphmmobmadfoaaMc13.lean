/- Put together: Lg3, Open, OpenB, OpenC, OpenL, OpenU, OpenM. -/
import Derived.Test.YtaphmmobmadfoaaMc10
import Derived.Test.YtaphmmobmadfoaaMc11
import Derived.Test.YtaphmmobmadfoaaMc12
import Derived.Test.YtaphmmobmadfoaaMc03
import Derived.Deep.Slices
import Derived.Deep.Fields
import Derived.ChangeSame
import Derived.Test.YtaphmmobmadfoaaProg
import Derived.Test.YtaphmmobmadfoaaMc07
import Derived.Lib.SmallJoins
import Derived.HandedShaped
import Derived.Shelf.Vars
/- Deeds in memory: rows of rows of changes. Plain: what a log's sectors say. -/
namespace Go.Proofs.Ytaphmmobmadfoaa
open Go Go.RowKit
abbrev chT : TypeId := 61
abbrev deedT : TypeId := 36
abbrev DeedV := (Option Addr × Nat) × List Ch
def dedF : Flat DeedV := ⟨1, fun x => [.slice x.1.1 x.2.length x.1.2], fun _ => rfl⟩
/-- What a log's sectors say: the deeds that are closed, how many sectors these take. -/
def scanF (first : Nat) : List Str → Nat → List Ch → List (List Ch) → Nat → List (List Ch) × Nat
  | [], _, _, out, nx => (out, nx)
  | s :: r, i, deed, out, nx => match lookF s (first + i) with
    | none => (out, nx)
    | some (k, t) =>
      if k = 99 then (if t = fourF deed.length then scanF first r (i + 1) [] (out ++ [deed]) (i + 1) else (out, nx))
      else match chGood t with
        | none => (out, nx)
        | some c => scanF first r (i + 1) (deed ++ [c]) out nx
structure Deds (w wB : World) (A : Option Addr) (c : Nat) (ys : List DeedV) : Prop where
  row : Fresh dedF deedT w wB A c ys
  own : ∀ y ∈ ys, wB.ownsRow 0 chT 3 (.slice y.1.1 y.2.length y.1.2) y.2.length (y.2.flatMap chF.enc)
section
variable {w wB wr u : World} {A : Option Addr} {c : Nat} {ys : List DeedV}
theorem Deds.nil (h : Ext w u) : Deds w u none 0 [] := ⟨Fresh.nil _ _ _ _ h, fun y hy => by cases hy⟩
theorem Deds.ext (h : Deds w wB A c ys) (hx : Ext wB u) : Deds w u A c ys := ⟨h.row.on hx, fun y hy => own_ext (h.own y hy) hx⟩
theorem Deds.keep (h : Deds w wB A c ys) {g : Nat} {t : TypeId} {cs : Array Value} (hc : Cs wB g t cs) (h1 : deedT ≠ t) (h2 : chT ≠ t) (hO : Only (fun b => b = g) wB u) (hg : w.heap.size ≤ g) : Deds w u A c ys :=
  ⟨h.row.keep hO (h.row.ext.trans hO fun b hb e => by have e : b = g := e; omega) (own_ne_cs h.row.own hc h1), fun y hy => own_keep (h.own y hy) hO (own_ne_cs (h.own y hy) hc h2)⟩
/-- One deed more. -/
theorem Deds.grow {dA : Option Addr} {dc : Nat} {deed : List Ch} (h : Deds w wB A c ys) (hd : wB.ownsRow 0 chT 3 (.slice dA deed.length dc) deed.length (deed.flatMap chF.enc)) {A' : Option Addr} {c' : Nat} {w5 : World}
    (hown : w5.ownsRow 0 deedT 1 (.slice A' (ys.length + 1 : Nat) c') (ys.length + 1) (ys.flatMap dedF.enc ++ [((dA, dc), deed)].flatMap dedF.enc)) (hg : wB.grownBy w5 (Value.slice A ys.length c).ownBlock)
    (hb : (Value.slice A' (ys.length + 1 : Nat) c').ownBlock = (Value.slice A ys.length c).ownBlock ∨ (Value.slice A' (ys.length + 1 : Nat) c').ownBlock = some wB.heap.size) :
    Deds w w5 A' c' (ys ++ [((dA, dc), deed)]) := by
  have O5 : Only (fun b => (Value.slice A ys.length c).ownBlock = some b) wB w5 := (Only.refl _ _).grown hg fun g e => .inr e
  have F5 := h.row.grow (ys := [((dA, dc), deed)]) rfl hown hg hb
  refine ⟨F5, fun y hy => ?_⟩
  rcases List.mem_append.1 hy with hy | hy
  · exact own_keep (h.own y hy) O5 fun g h1 h2 => own_ne_own (h.own y hy) h.row.own (by decide) g h1 h2
  · obtain rfl := List.mem_singleton.1 hy
    exact own_keep hd O5 fun g h1 h2 => own_ne_own hd h.row.own (by decide) g h1 h2
end
/-- Deeds that read. -/
def DedR (w : World) (A : Option Addr) (n : Nat) (ys : List DeedV) : Prop := SlR dedF w A n ys ∧ ∀ y ∈ ys, SlR chF w y.1.1 y.2.length y.2
theorem Deds.red {w wB : World} {A : Option Addr} {c : Nat} {ys : List DeedV} (h : Deds w wB A c ys) : DedR wB A ys.length ys := ⟨h.row.row (by decide), fun y hy => SlR.of_own (T := chF) (by decide) (h.own y hy)⟩
theorem dd_info : (Try.prog.info? deedT).map (fun i => (i.zero, i.size, i.bytes)) = some (some (.slice none 0 0), 1, 24) := by kernel_rfl
theorem dd_ty : Ety Try.prog 49 deedT 1 := Ety.mk' Try.underlying49 dd_info rfl (by omega) (by omega)
theorem cg_info : (Try.prog.info? chT).map (fun i => (i.zero, i.size, i.bytes)) = some (some (.agg #[.string ⟨#[]⟩, .string ⟨#[]⟩, .bool false]), 3, 40) := by kernel_rfl
theorem cg_ty : Ety Try.prog 36 chT 3 := Ety.mk' Try.underlying36 cg_info rfl (by omega) (by omega)
theorem ch_enc1 (xs : List Ch) : ∀ u ∈ xs.flatMap chF.enc, u.oneCell' = true := by
  intro u hu
  obtain ⟨x, _, hx⟩ := List.mem_flatMap.1 hu
  simp only [chF, List.mem_cons, List.not_mem_nil, or_false] at hx
  rcases hx with rfl | rfl | rfl <;> rfl
theorem rd_cs {w : World} {g : Nat} {t : TypeId} {cs : List Value} (h : Cs w g t cs.toArray) : Rd w (some ⟨g, 0, none⟩) 1 cs.length cs := by
  refine ⟨by simp, fun _ => ⟨g, 0, rfl, fun j u hu => ?_⟩⟩
  rw [Nat.zero_add, h.cell]
  simpa using hu
theorem scanF_cons (first : Nat) (s : Str) (r : List Str) (i : Nat) (deed : List Ch) (out : List (List Ch)) (nx : Nat) : scanF first (s :: r) i deed out nx = match lookF s (first + i) with
    | none => (out, nx)
    | some (k, t) =>
      if k = 99 then (if t = fourF deed.length then scanF first r (i + 1) [] (out ++ [deed]) (i + 1) else (out, nx))
      else match chGood t with
        | none => (out, nx)
        | some c => scanF first r (i + 1) (deed ++ [c]) out nx := rfl
theorem lookF_kind {s : Str} {n : Nat} {k : UInt8} {t : Str} (h : lookF s n = some (k, t)) : k = 111 ∨ k = 99 := by
  unfold lookF at h
  split at h
  · rename_i hh
    injection h with h
    injection h with h1 h2
    rw [← h1]; exact hh.2.1
  · cases h
theorem lookF_len {s : Str} {n : Nat} {k : UInt8} {t : Str} (h : lookF s n = some (k, t)) : t.length ≤ s.length := by
  unfold lookF at h
  split at h
  · injection h with h
    injection h with h1 h2
    rw [← h2, List.length_drop, List.length_take]
    omega
  · cases h
end Go.Proofs.Ytaphmmobmadfoaa

/- How an argument that reads as data lies in memory: slices of structs, opened to lists. -/
namespace Go.Proofs.Ytaphmmobmadfoaa
open Go Go.RowKit Go.ChangeShapes Go.WideShapes Go.Deep
section
variable {H : Type} {enc : TypeId × Value → H} {P : Program} {w : World} {base : Nat} {spare : Nat → Bool} {held : Bool}
theorem list_of {α : Type} : ∀ (n : Nat) (R : Nat → α → Prop), (∀ i, i < n → ∃ x, R i x) → ∃ xs : List α, xs.length = n ∧ ∀ k x, xs[k]? = some x → R k x
  | 0, _, _ => ⟨[], rfl, fun k x h => by simp at h⟩
  | n + 1, R, h => by
    obtain ⟨xs, hl, hx⟩ := list_of n R fun i hi => h i (by omega)
    obtain ⟨y, hy⟩ := h n (by omega)
    refine ⟨xs ++ [y], by simp [hl], fun k x hk => ?_⟩
    by_cases hkn : k < n
    · rw [List.getElem?_append_left (by omega)] at hk; exact hx k x hk
    · have : k = n := by
        have := (List.getElem?_eq_some_iff.1 hk).1
        simp [hl] at this; omega
      subst this
      rw [List.getElem?_append_right (by omega)] at hk
      simp [hl] at hk
      subst hk; exact hy
/-- Fields of structs that lie in a slice. -/
theorem open_fields {t e : TypeId} {fs : Array Field} {fuel : Nat} {v0 : Value} {x : DataW H × List MemPlace} (ht : P.underlying t = some (.slice e)) (he : P.underlying e = some (.struct fs))
    (hone : oneCellFields P fs = true) (hC : P.cellsOf e = fs.size) (h : DataW.trod enc P w base (fun _ => true) held fuel t [v0] = some x) :
    v0 = .slice none 0 0 ∨
    ∃ (a : Addr) (len cap : Nat), v0 = .slice (some a) len cap ∧ len ≤ cap ∧ cap ≤ maxLen ∧
      ∀ i, i < cap → ∃ n, ∀ (j : Nat) (f : Field), fs[j]? = some f → ∃ (v : Value) (y : DataW H × List MemPlace), w.cell? (a.add (i * fs.size + j)) = some v ∧ DataW.trod enc P w base (fun _ => true) held n f.type [v] = some y := by
  rcases open_slice ht h with ⟨h0, _⟩ | ⟨a, len, cap, m, n, D, Pl, hcs, _, hl, hm, hmm, _, hi⟩
  · injection h0 with h0; exact .inl h0
  · injection hcs with hcs
    refine .inr ⟨a, len, cap, hcs, hl, hm, fun i hi' => ?_⟩
    obtain ⟨cs', hc, ht'⟩ := hi i (by simpa [hmm] using hi')
    rw [hC] at hc
    obtain ⟨ys, n', hn', hy, hlen, hyl, hf⟩ := DataW.trod_struct he ht'
    obtain ⟨_, hcl, hat⟩ := World.cells?_some hc
    refine ⟨n', fun j f hj => ?_⟩
    obtain ⟨ho, hk⟩ := hone_of hone j f hj
    have hjl : j < fs.size := (Array.getElem?_eq_some_iff.1 hj).1
    have hcell := hat j hjl
    have hv : cs'[j]? = some (cs'[j]'(by omega)) := List.getElem?_eq_getElem (by omega)
    have h1 := hf j f hj
    rw [ho, hk] at h1
    have hone' : (cs'.drop j).take 1 = [cs'[j]'(by omega)] := by
      rw [List.drop_eq_getElem_cons (by omega)]
      rfl
    rw [hone'] at h1
    have hys : ys[j]? = some (ys[j]'(by omega)) := List.getElem?_eq_getElem (by omega)
    refine ⟨_, _, ?_, h1.trans hys⟩
    rw [← Go.Deep.add_add, hcell, hv]
theorem slice_cap {t e : TypeId} {fuel : Nat} {A : Option Addr} {n c : Nat} {x : DataW H × List MemPlace} (ht : P.underlying t = some (.slice e)) (h : DataW.trod enc P w base (fun _ => true) held fuel t [.slice A n c] = some x) : n ≤ c ∧ c ≤ maxLen := by
  rcases open_slice ht h with ⟨h0, _⟩ | ⟨a, len, cap, m, k, D, Pl, hcs, _, hl, hm, _⟩
  · injection h0 with h0
    injection h0 with h1 h2 h3
    subst h2; subst h3
    exact ⟨Nat.le_refl _, Nat.zero_le _⟩
  · injection hcs with hcs
    injection hcs with h1 h2 h3
    subst h2; subst h3
    exact ⟨hl, hm⟩
/-- A slice of structs reads as a list: 'dec': what one struct's fields are. -/
theorem open_flat {α : Type} {T : Flat α} {t e : TypeId} {fs : Array Field} {fuel : Nat} {v0 : Value} {x : DataW H × List MemPlace} (ht : P.underlying t = some (.slice e)) (he : P.underlying e = some (.struct fs))
    (hone : oneCellFields P fs = true) (hC : P.cellsOf e = fs.size) (hT : fs.size = T.size) (hpos : 0 < T.size) (good : α → Prop)
    (dec : ∀ (n : Nat) (c : Nat → Option Value), (∀ (j : Nat) (f : Field), fs[j]? = some f → ∃ (v : Value) (y : DataW H × List MemPlace), c j = some v ∧ DataW.trod enc P w base (fun _ => true) held n f.type [v] = some y) →
      ∃ x : α, good x ∧ ∀ j u, (T.enc x)[j]? = some u → c j = some u)
    (h : DataW.trod enc P w base (fun _ => true) held fuel t [v0] = some x) :
    ∃ A n c xs, v0 = .slice A n c ∧ SlR T w A n xs ∧ (∀ x ∈ xs, good x) ∧ n ≤ maxLen := by
  rcases open_fields ht he hone hC h with rfl | ⟨a, len, cap, rfl, hl, hm, hf⟩
  · exact ⟨none, 0, 0, [], rfl, SlR.none_, (fun x hx => by cases hx), Nat.zero_le _⟩
  · obtain ⟨xs, hxl, hx⟩ := list_of len (fun i x => good x ∧ ∀ j u, (T.enc x)[j]? = some u → w.cell? (a.add (i * fs.size + j)) = some u) fun i hi => by
      obtain ⟨n, hn⟩ := hf i (by omega)
      exact dec n (fun j => w.cell? (a.add (i * fs.size + j))) hn
    refine ⟨some a, len, cap, xs, rfl, ⟨hxl, fun h0 => ?_⟩, fun x hx' => ?_, by omega⟩
    · have hx0 := hx 0 (xs[0]'(by omega)) (List.getElem?_eq_getElem (by omega))
      have hlen := T.len (xs[0]'(by omega))
      have h0' := hx0.2 0 ((T.enc (xs[0]'(by omega)))[0]'(by omega)) (List.getElem?_eq_getElem (by omega))
      obtain ⟨b, o, s⟩ := a
      have hs : s = none := by simpa [Addr.add] using World.cell?_spot h0'
      subst hs
      refine ⟨b, o, rfl, by simpa [Addr.add] using World.block_lt_of_cell? _ _ h0', fun k x hk j u hu => ?_⟩
      have := (hx k x hk).2 j u hu
      rw [hT] at this
      rw [Nat.add_assoc]
      by_cases hz : k * T.size + j = 0
      · rw [hz] at this ⊢
        simpa [Addr.add] using this
      · unfold Addr.add at this
        rw [if_neg hz] at this
        exact this
    · obtain ⟨k, hk⟩ := List.getElem?_of_mem hx'
      exact (hx k x hk).1
theorem open_str {t : TypeId} {n : Nat} {v : Value} {y : DataW H × List MemPlace} (ht : P.underlying t = some .string) (h : DataW.trod enc P w base spare held n t [v] = some y) : ∃ s : Str, v = S s ∧ s.length ≤ maxLen := by
  obtain ⟨s, hc, _, hl⟩ := DataW.trod_string ht h
  injection hc with hc
  exact ⟨s.data.toList, by rw [hc], hl⟩
theorem open_i {t : TypeId} {k : IntKind} {n : Nat} {v : Value} {y : DataW H × List MemPlace} (ht : P.underlying t = some (.int k)) (h : DataW.trod enc P w base spare held n t [v] = some y) : ∃ i : Int, v = .int k i ∧ (Lit.int k i).wf = true := by
  obtain ⟨i, hc, _, hw⟩ := DataW.trod_int ht h
  injection hc with hc
  exact ⟨i, hc, hw⟩
theorem open_b {t : TypeId} {n : Nat} {v : Value} {y : DataW H × List MemPlace} (ht : P.underlying t = some .bool) (h : DataW.trod enc P w base spare held n t [v] = some y) : ∃ b : Bool, v = .bool b := by
  obtain ⟨b, hc, _⟩ := DataW.trod_bool ht h
  injection hc with hc
  exact ⟨b, hc⟩
end
end Go.Proofs.Ytaphmmobmadfoaa

/- Arguments: numbers and texts. -/
namespace Go.Proofs.Ytaphmmobmadfoaa
open Go Go.RowKit Go.ChangeShapes Go.WideShapes Go.Deep
section
variable {H : Type} {enc : TypeId × Value → H} {w : World} {base : Nat} {held : Bool}
abbrev allP : Nat → Bool := fun _ => true
set_option maxRecDepth 100000 in
theorem wf_i64 {a : Int} (h : (Lit.int .i64 a).wf = true) : -9223372036854775808 ≤ a ∧ a ≤ 9223372036854775807 := by
  simp [Lit.wf, IntKind.min, IntKind.max, IntKind.signed, IntKind.bits] at h; omega
set_option maxRecDepth 100000 in
theorem wf_u64 {a : Int} (h : (Lit.int .u64 a).wf = true) : 0 ≤ a ∧ a ≤ 18446744073709551615 := by
  simp [Lit.wf, IntKind.min, IntKind.max, IntKind.signed, IntKind.bits] at h; omega
set_option maxRecDepth 100000 in
theorem arg_int {r : Reach} {b0 : Nat} {v : Value} {d : DataW H} {p : List MemPlace} (hv : Value.okWide Try.prog w r b0 3 v) (h : DataW.Trod enc Try.prog w base allP held 3 v d p) :
    ∃ a : Int, v = .int .i64 a ∧ -9223372036854775808 ≤ a ∧ a ≤ 9223372036854775807 := by
  obtain ⟨a, h1, _, _, h2⟩ := open_int Try.underlying3 hv h
  exact ⟨a, h1, wf_i64 h2⟩
set_option maxRecDepth 100000 in
theorem arg_str {r : Reach} {b0 : Nat} {v : Value} {d : DataW H} {p : List MemPlace} (hv : Value.okWide Try.prog w r b0 9 v) (h : DataW.Trod enc Try.prog w base allP held 9 v d p) :
    ∃ s : Str, v = S s ∧ s.length ≤ maxLen := by
  obtain ⟨s, rfl⟩ := okWide_string Try.underlying9 hv
  obtain ⟨fuel, hf⟩ := h
  exact open_str Try.underlying9 (v := .string s) hf
end
end Go.Proofs.Ytaphmmobmadfoaa

/- Changes as arguments. -/
namespace Go.Proofs.Ytaphmmobmadfoaa
open Go Go.RowKit Go.ChangeShapes Go.WideShapes Go.Deep
section
variable {H : Type} {enc : TypeId × Value → H} {w : World} {base : Nat} {held : Bool}
set_option maxRecDepth 100000 in
theorem open_chs {fuel : Nat} {v0 : Value} {x : DataW H × List MemPlace} (h : DataW.trod enc Try.prog w base allP held fuel 36 [v0] = some x) :
    ∃ A n c xs, v0 = .slice A n c ∧ SlR chF w A n xs ∧ n ≤ maxLen := by
  obtain ⟨A, n, c, xs, h1, h2, _, h3⟩ := open_flat (T := chF) Try.underlying36 Try.underlying61 (by kernel_rfl) (by kernel_rfl) rfl (by decide) (fun _ => True) (fun n c hf => by
    obtain ⟨v0, y0, c0, h0⟩ := hf 0 _ rfl
    obtain ⟨v1, y1, c1, h1⟩ := hf 1 _ rfl
    obtain ⟨v2, y2, c2, h2⟩ := hf 2 _ rfl
    obtain ⟨s0, rfl, _⟩ := open_str Try.underlying9 h0
    obtain ⟨s1, rfl, _⟩ := open_str Try.underlying9 h1
    obtain ⟨b2, rfl⟩ := open_b Try.underlying4 h2
    refine ⟨(s0, s1, b2), trivial, fun j u hu => ?_⟩
    match j, hu with
    | 0, hu => injection hu with hu; rw [c0, hu]
    | 1, hu => injection hu with hu; rw [c1, hu]
    | 2, hu => injection hu with hu; rw [c2, hu]) h
  exact ⟨A, n, c, xs, h1, h2, h3⟩
set_option maxRecDepth 100000 in
theorem arg_chs {r : Reach} {b0 : Nat} {v : Value} {d : DataW H} {p : List MemPlace} (hv : Value.okWide Try.prog w r b0 36 v) (h : DataW.Trod enc Try.prog w base allP held 36 v d p) :
    ∃ A n c xs, v = .slice A n c ∧ SlR chF w A n xs ∧ n ≤ maxLen := by
  obtain ⟨A, n, c, rfl⟩ := okWide_slice Try.underlying36 hv
  obtain ⟨fuel, hf⟩ := h
  exact open_chs (v0 := .slice A n c) hf
set_option maxRecDepth 100000 in
theorem arg_chsc {r : Reach} {b0 : Nat} {v : Value} {d : DataW H} {p : List MemPlace} (hv : Value.okWide Try.prog w r b0 36 v) (h : DataW.Trod enc Try.prog w base allP held 36 v d p) :
    ∃ A n c xs, v = .slice A n c ∧ SlR chF w A n xs ∧ n ≤ c ∧ c ≤ maxLen := by
  obtain ⟨A, n, c, xs, rfl, hs, _⟩ := arg_chs hv h
  obtain ⟨fuel, hf⟩ := h
  exact ⟨A, n, c, xs, rfl, hs, slice_cap Try.underlying36 (show DataW.trod enc Try.prog w base allP held fuel _ [.slice A n c] = some _ from hf)⟩
set_option maxRecDepth 100000 in
theorem arg_ch {r : Reach} {b0 : Nat} {v : Value} {d : DataW H} {p : List MemPlace} (hv : Value.okWide Try.prog w r b0 61 v) (h : DataW.Trod enc Try.prog w base allP held 61 v d p) :
    ∃ c : Ch, v = .agg #[S c.1, S c.2.1, .bool c.2.2] ∧ c.1.length ≤ maxLen ∧ c.2.1.length ≤ maxLen := by
  obtain ⟨v0, v1, v2, y0, y1, y2, n, rfl, _, _, h0, h1, h2⟩ := Joins.open_agg3 Try.underlying61 (by kernel_rfl) (by kernel_rfl) hv h
  obtain ⟨s0, rfl, l0⟩ := open_str Try.underlying9 h0
  obtain ⟨s1, rfl, l1⟩ := open_str Try.underlying9 h1
  obtain ⟨g, rfl⟩ := open_b Try.underlying4 h2
  exact ⟨(s0, s1, g), rfl, l0, l1⟩
end
end Go.Proofs.Ytaphmmobmadfoaa

/- Rows of rows of changes, as arguments. -/
namespace Go.Proofs.Ytaphmmobmadfoaa
open Go Go.RowKit Go.ChangeShapes Go.WideShapes Go.Deep
section
variable {H : Type} {enc : TypeId × Value → H} {w : World} {base : Nat} {held : Bool}
set_option maxRecDepth 100000 in
theorem open_deds {fuel : Nat} {v0 : Value} {x : DataW H × List MemPlace} (h : DataW.trod enc Try.prog w base allP held fuel 49 [v0] = some x) :
    ∃ A n c xs, v0 = .slice A n c ∧ DedR w A n xs ∧ n ≤ maxLen := by
  rcases open_slice Try.underlying49 h with ⟨h0, _⟩ | ⟨a, len, cap, m, n, D, Pl, hcs, _, hl, hm, hmm, _, hi⟩
  · injection h0 with h0; exact ⟨none, 0, 0, [], h0, ⟨SlR.none_, fun y hy => by cases hy⟩, Nat.zero_le _⟩
  · injection hcs with hcs
    obtain ⟨xs, hxl, hx⟩ := list_of len (fun i (s : DeedV) => w.cell? (a.add i) = some (.slice s.1.1 s.2.length s.1.2) ∧ SlR chF w s.1.1 s.2.length s.2) fun i hi' => by
      obtain ⟨cs', hc, ht'⟩ := hi i (by rw [hmm]; simp only [allP, if_true]; omega)
      have hC : Try.prog.cellsOf 36 = 1 := by kernel_rfl
      rw [hC] at hc
      obtain ⟨_, hcl, hat⟩ := World.cells?_some hc
      obtain ⟨v0, rfl⟩ : ∃ v, cs' = [v] := List.length_eq_one_iff.1 hcl
      obtain ⟨ca, cn, cc, ys, rfl, hy, _⟩ := open_chs ht'
      obtain rfl : ys.length = cn := hy.1
      refine ⟨((ca, cc), ys), ?_, hy⟩
      have := hat 0 (by omega)
      simpa [add_add] using this
    refine ⟨some a, len, cap, xs, hcs, ⟨⟨hxl, fun h0 => ?_⟩, fun y hy => ?_⟩, by omega⟩
    · have hx0 := (hx 0 (xs[0]'(by omega)) (List.getElem?_eq_getElem (by omega))).1
      obtain ⟨b, o, s⟩ := a
      have hs : s = none := by simpa [Addr.add] using World.cell?_spot hx0
      subst hs
      refine ⟨b, o, rfl, by simpa [Addr.add] using World.block_lt_of_cell? _ _ hx0, fun k x hk j u hu => ?_⟩
      have := (hx k x hk).1
      match j, hu with
      | 0, hu =>
        injection hu with hu
        rw [← hu, Nat.add_zero, show dedF.size = 1 from rfl, Nat.mul_one]
        by_cases hz : k = 0
        · subst hz
          simpa [Addr.add] using this
        · unfold Addr.add at this
          rw [if_neg hz] at this
          exact this
    · obtain ⟨k, hk⟩ := List.getElem?_of_mem hy
      exact (hx k y hk).2
set_option maxRecDepth 100000 in
theorem arg_deds {r : Reach} {b0 : Nat} {v : Value} {d : DataW H} {p : List MemPlace} (hv : Value.okWide Try.prog w r b0 49 v) (h : DataW.Trod enc Try.prog w base allP held 49 v d p) :
    ∃ A n c xs, v = .slice A n c ∧ DedR w A n xs ∧ n ≤ maxLen := by
  obtain ⟨A, n, c, rfl⟩ := okWide_slice Try.underlying49 hv
  obtain ⟨fuel, hf⟩ := h
  exact open_deds (v0 := .slice A n c) hf
end
end Go.Proofs.Ytaphmmobmadfoaa

/- Arguments: uint64. -/
namespace Go.Proofs.Ytaphmmobmadfoaa
open Go Go.RowKit Go.ChangeShapes Go.WideShapes Go.Deep
section
variable {H : Type} {enc : TypeId × Value → H} {w : World} {base : Nat} {held : Bool}
set_option maxRecDepth 100000 in
theorem arg_u64 {r : Reach} {b0 : Nat} {v : Value} {d : DataW H} {p : List MemPlace} (hv : Value.okWide Try.prog w r b0 39 v) (h : DataW.Trod enc Try.prog w base allP held 39 v d p) :
    ∃ k : Nat, v = .int .u64 (k : Int) ∧ k < 18446744073709551616 := by
  obtain ⟨a, h1, _, _, h2⟩ := open_int Try.underlying39 hv h
  have := wf_u64 h2
  exact ⟨a.toNat, by rw [h1]; congr 1; omega, by omega⟩
end
end Go.Proofs.Ytaphmmobmadfoaa

/- The library's variable that strings.Index reads holds some number in every world that a claim speaks of. -/
namespace Go.Proofs.Ytaphmmobmadfoaa
open Go Go.RowKit
set_option maxRecDepth 100000 in
theorem ml_shaped {W : World} (h : W.ShapedOpen Try.prog) : Ml W :=
  cell_of_shapedOpen_int (t := 3) (zero := #[.int .i64 0]) h (of_decide_eq_true (by kernel_rfl)) (by kernel_rfl) rfl (by kernel_rfl) (by kernel_rfl) Try.underlying3
end Go.Proofs.Ytaphmmobmadfoaa
