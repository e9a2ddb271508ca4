/- Arguments: slices of texts. -/
import Derived.Test.YtnhaekifcieeoaaOpenB
namespace Go.Proofs.Ytnhaekifcieeoaa
open Go Go.RowKit Go.ChangeShapes Go.WideShapes Go.Deep
section
variable {H : Type} {enc : TypeId × Value → H} {w : World} {base : Nat} {held : Bool}
set_option maxRecDepth 100000 in
theorem open_strs_ {fuel : Nat} {v0 : Value} {x : DataW H × List MemPlace} (h : DataW.trod enc Try.prog w base allP held fuel 23 [v0] = some x) :
    ∃ A n c xs, v0 = .slice A n c ∧ SlR strF w A n xs ∧ n ≤ maxLen := by
  rcases open_slice Try.underlying23 h with ⟨h0, _⟩ | ⟨a, len, cap, m, n, D, Pl, hcs, _, hl, hm, hmm, _, hi⟩
  · injection h0 with h0; exact ⟨none, 0, 0, [], h0, SlR.none_, Nat.zero_le _⟩
  · injection hcs with hcs
    obtain ⟨xs, hxl, hx⟩ := list_of len (fun i (s : Str) => w.cell? (a.add i) = some (S s)) fun i hi' => by
      obtain ⟨cs', hc, ht'⟩ := hi i (by rw [hmm]; simp only [allP, if_true]; omega)
      have hC : Try.prog.cellsOf 9 = 1 := by kernel_rfl
      rw [hC] at hc
      obtain ⟨s, hs, _⟩ := DataW.trod_string Try.underlying9 ht'
      obtain ⟨_, hcl, hat⟩ := World.cells?_some hc
      refine ⟨s.data.toList, ?_⟩
      have := hat 0 (by omega)
      rw [hs] at this
      simpa [add_add] using this
    refine ⟨some a, len, cap, xs, hcs, ⟨hxl, fun h0 => ?_⟩, by omega⟩
    have hx0 := hx 0 (xs[0]'(by omega)) (List.getElem?_eq_getElem (by omega))
    obtain ⟨b, o, s⟩ := a
    have hs : s = none := by simpa [Addr.add] using World.cell?_spot hx0
    subst hs
    refine ⟨b, o, rfl, by simpa [Addr.add] using World.block_lt_of_cell? _ _ hx0, fun k x hk j u hu => ?_⟩
    have := hx k x hk
    match j, hu with
    | 0, hu =>
      injection hu with hu
      rw [← hu, Nat.add_zero, show strF.size = 1 from rfl, Nat.mul_one]
      unfold Addr.add at this
      split at this
      · rename_i e; subst e; simpa using this
      · exact this
set_option maxRecDepth 100000 in
theorem arg_strs {r : Reach} {b0 : Nat} {v : Value} {d : DataW H} {p : List MemPlace} (hv : Value.okWide Try.prog w r b0 23 v) (h : DataW.Trod enc Try.prog w base allP held 23 v d p) :
    ∃ A n c xs, v = .slice A n c ∧ SlR strF w A n xs ∧ n ≤ maxLen := by
  obtain ⟨A, n, c, rfl⟩ := okWide_slice Try.underlying23 hv
  obtain ⟨fuel, hf⟩ := h
  exact open_strs_ (v0 := .slice A n c) hf
set_option maxRecDepth 100000 in
theorem strs_cap {fuel : Nat} {A : Option Addr} {n c : Nat} {x : DataW H × List MemPlace} (h : DataW.trod enc Try.prog w base allP held fuel 23 [.slice A n c] = some x) : n ≤ c := by
  rcases open_slice Try.underlying23 h with ⟨h0, _⟩ | ⟨a, len, cap, m, n', D, Pl, hcs, _, hl, _⟩
  · injection h0 with h0
    injection h0 with h1 h2 h3
    omega
  · injection hcs with hcs
    injection hcs with h1 h2 h3
    omega
set_option maxRecDepth 100000 in
theorem arg_strsc {r : Reach} {b0 : Nat} {v : Value} {d : DataW H} {p : List MemPlace} (hv : Value.okWide Try.prog w r b0 23 v) (h : DataW.Trod enc Try.prog w base allP held 23 v d p) :
    ∃ A n c xs, v = .slice A n c ∧ SlR strF w A n xs ∧ n ≤ maxLen ∧ n ≤ c := by
  obtain ⟨A, n, c, rfl⟩ := okWide_slice Try.underlying23 hv
  obtain ⟨fuel, hf⟩ := h
  obtain ⟨A', n', c', xs, e, h1, h2⟩ := open_strs_ (v0 := .slice A n c) hf
  injection e with e1 e2 e3
  subst e1; subst e2; subst e3
  exact ⟨_, _, _, xs, rfl, h1, h2, strs_cap hf⟩
end
end Go.Proofs.Ytnhaekifcieeoaa
