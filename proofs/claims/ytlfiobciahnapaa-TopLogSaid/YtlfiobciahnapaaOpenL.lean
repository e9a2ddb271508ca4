/- Rows of rows of changes, as arguments. -/
import Derived.Test.YtlfiobciahnapaaLg3
import Derived.Test.YtlfiobciahnapaaOpenC
namespace Go.Proofs.Ytlfiobciahnapaa
open Go Go.RowKit Go.ChangeShapes Go.WideShapes Go.Deep
section
variable {H : Type} {enc : TypeId × Value → H} {w : World} {base : Nat} {held : Bool}
set_option maxRecDepth 100000 in
theorem open_deds {fuel : Nat} {v0 : Value} {x : DataW H × List MemPlace} (h : DataW.trod enc Try.prog w base allP held fuel 33 [v0] = some x) :
    ∃ A n c xs, v0 = .slice A n c ∧ DedR w A n xs ∧ n ≤ maxLen := by
  rcases open_slice Try.underlying33 h with ⟨h0, _⟩ | ⟨a, len, cap, m, n, D, Pl, hcs, _, hl, hm, hmm, _, hi⟩
  · injection h0 with h0; exact ⟨none, 0, 0, [], h0, ⟨SlR.none_, fun y hy => by cases hy⟩, Nat.zero_le _⟩
  · injection hcs with hcs
    obtain ⟨xs, hxl, hx⟩ := list_of len (fun i (s : DeedV) => w.cell? (a.add i) = some (.slice s.1.1 s.2.length s.1.2) ∧ SlR chF w s.1.1 s.2.length s.2) fun i hi' => by
      obtain ⟨cs', hc, ht'⟩ := hi i (by rw [hmm]; simp only [allP, if_true]; omega)
      have hC : Try.prog.cellsOf 44 = 1 := by kernel_rfl
      rw [hC] at hc
      obtain ⟨_, hcl, hat⟩ := World.cells?_some hc
      obtain ⟨v0, rfl⟩ : ∃ v, cs' = [v] := List.length_eq_one_iff.1 hcl
      obtain ⟨ca, cn, cc, ys, rfl, hy, _⟩ := open_chs ht'
      obtain rfl : ys.length = cn := hy.1
      refine ⟨((ca, cc), ys), ?_, hy⟩
      have := hat 0 (by omega)
      simpa [add_add] using this
    refine ⟨some a, len, cap, xs, hcs, ⟨⟨hxl, fun h0 => ?_⟩, fun y hy => ?_⟩, by omega⟩
    · have hx0 := (hx 0 (xs[0]'(by omega)) (List.getElem?_eq_getElem (by omega))).1
      obtain ⟨b, o, s⟩ := a
      have hs : s = none := by simpa [Addr.add] using World.cell?_spot hx0
      subst hs
      refine ⟨b, o, rfl, by simpa [Addr.add] using World.block_lt_of_cell? _ _ hx0, fun k x hk j u hu => ?_⟩
      have := (hx k x hk).1
      match j, hu with
      | 0, hu =>
        injection hu with hu
        rw [← hu, Nat.add_zero, show dedF.size = 1 from rfl, Nat.mul_one]
        by_cases hz : k = 0
        · subst hz
          simpa [Addr.add] using this
        · unfold Addr.add at this
          rw [if_neg hz] at this
          exact this
    · obtain ⟨k, hk⟩ := List.getElem?_of_mem hy
      exact (hx k y hk).2
theorem arg_deds {r : Reach} {b0 : Nat} {v : Value} {d : DataW H} {p : List MemPlace} (hv : Value.okWide Try.prog w r b0 33 v) (h : DataW.Trod enc Try.prog w base allP held 33 v d p) :
    ∃ A n c xs, v = .slice A n c ∧ DedR w A n xs ∧ n ≤ maxLen := by
  obtain ⟨A, n, c, rfl⟩ := okWide_slice Try.underlying33 hv
  obtain ⟨fuel, hf⟩ := h
  exact open_deds (v0 := .slice A n c) hf
end
end Go.Proofs.Ytlfiobciahnapaa
