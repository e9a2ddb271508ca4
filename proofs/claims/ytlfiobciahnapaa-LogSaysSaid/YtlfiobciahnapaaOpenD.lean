/- Deeds and changes as arguments. -/
import Derived.Test.YtlfiobciahnapaaDeeds
import Derived.Test.YtlfiobciahnapaaOpenC
import Derived.Test.YtlfiobciahnapaaOpenU
namespace Go.Proofs.Ytlfiobciahnapaa
open Go Go.RowKit Go.ChangeShapes Go.WideShapes Go.Deep
section
variable {H : Type} {enc : TypeId × Value → H} {w : World} {base : Nat} {held : Bool}
set_option maxRecDepth 100000 in
theorem open_deeds {fuel : Nat} {v0 : Value} {x : DataW H × List MemPlace} (h : DataW.trod enc Try.prog w base allP held fuel 23 [v0] = some x) :
    ∃ A n c xs, v0 = .slice A n c ∧ DeedsR w A n xs ∧ n ≤ maxLen := by
  obtain ⟨A, n, c, xs, h1, h2, hg, h3⟩ := open_flat (T := ddF) Try.underlying23 Try.underlying46 (by kernel_rfl) (by kernel_rfl) rfl (by decide)
    (fun d => SlR chF w d.ca d.cn d.ch ∧ (-9223372036854775808 ≤ d.a ∧ d.a ≤ 9223372036854775807) ∧ d.k < 18446744073709551616) (fun n c hf => by
    obtain ⟨v0, y0, c0, h0⟩ := hf 0 _ rfl
    obtain ⟨v1, y1, c1, h1⟩ := hf 1 _ rfl
    obtain ⟨v2, y2, c2, h2⟩ := hf 2 _ rfl
    obtain ⟨v3, y3, c3, h3⟩ := hf 3 _ rfl
    obtain ⟨v4, y4, c4, h4⟩ := hf 4 _ rfl
    obtain ⟨v5, y5, c5, h5⟩ := hf 5 _ rfl
    obtain ⟨s0, rfl, _⟩ := open_str Try.underlying9 h0
    obtain ⟨s1, rfl, _⟩ := open_str Try.underlying9 h1
    obtain ⟨s2, rfl, _⟩ := open_str Try.underlying9 h2
    obtain ⟨i3, rfl, w3⟩ := open_i Try.underlying3 h3
    obtain ⟨i4, rfl, w4⟩ := open_i Try.underlying43 h4
    obtain ⟨ca, cn, cc, xs, rfl, hx, _⟩ := open_chs h5
    have w3 := wf_i64 w3
    have w4 := wf_u64 w4
    obtain ⟨k, rfl⟩ : ∃ k : Nat, i4 = (k : Int) := ⟨i4.toNat, by omega⟩
    refine ⟨⟨s0, s1, s2, i3, k, ca, cn, cc, xs⟩, ⟨hx, w3, by show k < _; omega⟩, fun j u hu => ?_⟩
    match j, hu with
    | 0, hu => injection hu with hu; rw [c0, hu]
    | 1, hu => injection hu with hu; rw [c1, hu]
    | 2, hu => injection hu with hu; rw [c2, hu]
    | 3, hu => injection hu with hu; rw [c3, hu]
    | 4, hu => injection hu with hu; rw [c4, hu]
    | 5, hu => injection hu with hu; rw [c5, hu]) h
  exact ⟨A, n, c, xs, h1, ⟨h2, fun d hd => (hg d hd).1, fun d hd => (hg d hd).2.1, fun d hd => (hg d hd).2.2⟩, h3⟩
set_option maxRecDepth 100000 in
theorem arg_deeds {r : Reach} {b0 : Nat} {v : Value} {d : DataW H} {p : List MemPlace} (hv : Value.okWide Try.prog w r b0 23 v) (h : DataW.Trod enc Try.prog w base allP held 23 v d p) :
    ∃ A n c xs, v = .slice A n c ∧ DeedsR w A n xs ∧ n ≤ maxLen := by
  obtain ⟨A, n, c, rfl⟩ := okWide_slice Try.underlying23 hv
  obtain ⟨fuel, hf⟩ := h
  exact open_deeds (v0 := .slice A n c) hf
end
end Go.Proofs.Ytlfiobciahnapaa
