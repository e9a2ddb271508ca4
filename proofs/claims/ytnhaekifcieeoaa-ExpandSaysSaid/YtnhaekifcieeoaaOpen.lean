/- How an argument that reads as data lies in memory: slices of structs, opened to lists. -/
import Derived.Test.YtnhaekifcieeoaaData
import Derived.Deep.Slices
import Derived.Deep.Fields
import Derived.ChangeSame
namespace Go.Proofs.Ytnhaekifcieeoaa
open Go Go.RowKit Go.ChangeShapes Go.WideShapes Go.Deep
section
variable {H : Type} {enc : TypeId × Value → H} {P : Program} {w : World} {base : Nat} {spare : Nat → Bool} {held : Bool}
theorem list_of {α : Type} : ∀ (n : Nat) (R : Nat → α → Prop), (∀ i, i < n → ∃ x, R i x) → ∃ xs : List α, xs.length = n ∧ ∀ k x, xs[k]? = some x → R k x
  | 0, _, _ => ⟨[], rfl, fun k x h => by simp at h⟩
  | n + 1, R, h => by
    obtain ⟨xs, hl, hx⟩ := list_of n R fun i hi => h i (by omega)
    obtain ⟨y, hy⟩ := h n (by omega)
    refine ⟨xs ++ [y], by simp [hl], fun k x hk => ?_⟩
    by_cases hkn : k < n
    · rw [List.getElem?_append_left (by omega)] at hk; exact hx k x hk
    · have : k = n := by
        have := (List.getElem?_eq_some_iff.1 hk).1
        simp [hl] at this; omega
      subst this
      rw [List.getElem?_append_right (by omega)] at hk
      simp [hl] at hk
      subst hk; exact hy
/-- Fields of structs that lie in a slice. -/
theorem open_fields {t e : TypeId} {fs : Array Field} {fuel : Nat} {v0 : Value} {x : DataW H × List MemPlace} (ht : P.underlying t = some (.slice e)) (he : P.underlying e = some (.struct fs))
    (hone : oneCellFields P fs = true) (hC : P.cellsOf e = fs.size) (h : DataW.trod enc P w base (fun _ => true) held fuel t [v0] = some x) :
    v0 = .slice none 0 0 ∨
    ∃ (a : Addr) (len cap : Nat), v0 = .slice (some a) len cap ∧ len ≤ cap ∧ cap ≤ maxLen ∧
      ∀ i, i < cap → ∃ n, ∀ (j : Nat) (f : Field), fs[j]? = some f → ∃ (v : Value) (y : DataW H × List MemPlace), w.cell? (a.add (i * fs.size + j)) = some v ∧ DataW.trod enc P w base (fun _ => true) held n f.type [v] = some y := by
  rcases open_slice ht h with ⟨h0, _⟩ | ⟨a, len, cap, m, n, D, Pl, hcs, _, hl, hm, hmm, _, hi⟩
  · injection h0 with h0; exact .inl h0
  · injection hcs with hcs
    refine .inr ⟨a, len, cap, hcs, hl, hm, fun i hi' => ?_⟩
    obtain ⟨cs', hc, ht'⟩ := hi i (by simpa [hmm] using hi')
    rw [hC] at hc
    obtain ⟨ys, n', hn', hy, hlen, hyl, hf⟩ := DataW.trod_struct he ht'
    obtain ⟨_, hcl, hat⟩ := World.cells?_some hc
    refine ⟨n', fun j f hj => ?_⟩
    obtain ⟨ho, hk⟩ := hone_of hone j f hj
    have hjl : j < fs.size := (Array.getElem?_eq_some_iff.1 hj).1
    have hcell := hat j hjl
    have hv : cs'[j]? = some (cs'[j]'(by omega)) := List.getElem?_eq_getElem (by omega)
    have h1 := hf j f hj
    rw [ho, hk] at h1
    have hone' : (cs'.drop j).take 1 = [cs'[j]'(by omega)] := by
      rw [List.drop_eq_getElem_cons (by omega)]
      rfl
    rw [hone'] at h1
    have hys : ys[j]? = some (ys[j]'(by omega)) := List.getElem?_eq_getElem (by omega)
    refine ⟨_, _, ?_, h1.trans hys⟩
    rw [← Go.Deep.add_add, hcell, hv]
theorem slice_cap {t e : TypeId} {fuel : Nat} {A : Option Addr} {n c : Nat} {x : DataW H × List MemPlace} (ht : P.underlying t = some (.slice e)) (h : DataW.trod enc P w base (fun _ => true) held fuel t [.slice A n c] = some x) : n ≤ c ∧ c ≤ maxLen := by
  rcases open_slice ht h with ⟨h0, _⟩ | ⟨a, len, cap, m, k, D, Pl, hcs, _, hl, hm, _⟩
  · injection h0 with h0
    injection h0 with h1 h2 h3
    subst h2; subst h3
    exact ⟨Nat.le_refl _, Nat.zero_le _⟩
  · injection hcs with hcs
    injection hcs with h1 h2 h3
    subst h2; subst h3
    exact ⟨hl, hm⟩
/-- A slice of structs reads as a list: 'dec': what one struct's fields are. -/
theorem open_flat {α : Type} {T : Flat α} {t e : TypeId} {fs : Array Field} {fuel : Nat} {v0 : Value} {x : DataW H × List MemPlace} (ht : P.underlying t = some (.slice e)) (he : P.underlying e = some (.struct fs))
    (hone : oneCellFields P fs = true) (hC : P.cellsOf e = fs.size) (hT : fs.size = T.size) (hpos : 0 < T.size) (good : α → Prop)
    (dec : ∀ (n : Nat) (c : Nat → Option Value), (∀ (j : Nat) (f : Field), fs[j]? = some f → ∃ (v : Value) (y : DataW H × List MemPlace), c j = some v ∧ DataW.trod enc P w base (fun _ => true) held n f.type [v] = some y) →
      ∃ x : α, good x ∧ ∀ j u, (T.enc x)[j]? = some u → c j = some u)
    (h : DataW.trod enc P w base (fun _ => true) held fuel t [v0] = some x) :
    ∃ A n c xs, v0 = .slice A n c ∧ SlR T w A n xs ∧ (∀ x ∈ xs, good x) ∧ n ≤ maxLen := by
  rcases open_fields ht he hone hC h with rfl | ⟨a, len, cap, rfl, hl, hm, hf⟩
  · exact ⟨none, 0, 0, [], rfl, SlR.none_, (fun x hx => by cases hx), Nat.zero_le _⟩
  · obtain ⟨xs, hxl, hx⟩ := list_of len (fun i x => good x ∧ ∀ j u, (T.enc x)[j]? = some u → w.cell? (a.add (i * fs.size + j)) = some u) fun i hi => by
      obtain ⟨n, hn⟩ := hf i (by omega)
      exact dec n (fun j => w.cell? (a.add (i * fs.size + j))) hn
    refine ⟨some a, len, cap, xs, rfl, ⟨hxl, fun h0 => ?_⟩, fun x hx' => ?_, by omega⟩
    · have hx0 := hx 0 (xs[0]'(by omega)) (List.getElem?_eq_getElem (by omega))
      have hlen := T.len (xs[0]'(by omega))
      have h0' := hx0.2 0 ((T.enc (xs[0]'(by omega)))[0]'(by omega)) (List.getElem?_eq_getElem (by omega))
      obtain ⟨b, o, s⟩ := a
      have hs : s = none := by simpa [Addr.add] using World.cell?_spot h0'
      subst hs
      refine ⟨b, o, rfl, by simpa [Addr.add] using World.block_lt_of_cell? _ _ h0', fun k x hk j u hu => ?_⟩
      have := (hx k x hk).2 j u hu
      rw [hT] at this
      rw [Nat.add_assoc]
      by_cases hz : k * T.size + j = 0
      · rw [hz] at this ⊢
        simpa [Addr.add] using this
      · unfold Addr.add at this
        rw [if_neg hz] at this
        exact this
    · obtain ⟨k, hk⟩ := List.getElem?_of_mem hx'
      exact (hx k x hk).1
theorem open_str {t : TypeId} {n : Nat} {v : Value} {y : DataW H × List MemPlace} (ht : P.underlying t = some .string) (h : DataW.trod enc P w base spare held n t [v] = some y) : ∃ s : Str, v = S s ∧ s.length ≤ maxLen := by
  obtain ⟨s, hc, _, hl⟩ := DataW.trod_string ht h
  injection hc with hc
  exact ⟨s.data.toList, by rw [hc], hl⟩
theorem open_i {t : TypeId} {k : IntKind} {n : Nat} {v : Value} {y : DataW H × List MemPlace} (ht : P.underlying t = some (.int k)) (h : DataW.trod enc P w base spare held n t [v] = some y) : ∃ i : Int, v = .int k i ∧ (Lit.int k i).wf = true := by
  obtain ⟨i, hc, _, hw⟩ := DataW.trod_int ht h
  injection hc with hc
  exact ⟨i, hc, hw⟩
theorem open_b {t : TypeId} {n : Nat} {v : Value} {y : DataW H × List MemPlace} (ht : P.underlying t = some .bool) (h : DataW.trod enc P w base spare held n t [v] = some y) : ∃ b : Bool, v = .bool b := by
  obtain ⟨b, hc, _⟩ := DataW.trod_bool ht h
  injection hc with hc
  exact ⟨b, hc⟩
end
end Go.Proofs.Ytnhaekifcieeoaa
