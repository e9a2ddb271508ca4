/- Arguments: actions. -/
import Derived.Test.YtgdabmfdfgdlkaaOpenB
import Derived.Test.YtgdabmfdfgdlkaaActs
namespace Go.Proofs.Ytgdabmfdfgdlkaa
open Go Go.RowKit Go.ChangeShapes Go.WideShapes Go.Deep
section
variable {H : Type} {enc : TypeId × Value → H} {w : World} {base : Nat} {held : Bool}
set_option maxRecDepth 100000 in
theorem arg_acts {r : Reach} {b0 : Nat} {v : Value} {d : DataW H} {p : List MemPlace} (hv : Value.okWide Try.prog w r b0 41 v) (h : DataW.Trod enc Try.prog w base allP held 41 v d p) :
    ∃ A n c xs, v = .slice A n c ∧ SlR actF w A n xs ∧ n ≤ maxLen := by
  obtain ⟨A, n, c, rfl⟩ := okWide_slice Try.underlying41 hv
  obtain ⟨fuel, hf⟩ := h
  obtain ⟨A', n', c', xs, h1, h2, _, h3⟩ := open_flat (T := actF) Try.underlying41 Try.underlying50 (by kernel_rfl) (by kernel_rfl) rfl (by decide) (fun _ => True) (fun n c hf => by
    obtain ⟨v0, y0, c0, h0⟩ := hf 0 _ rfl
    obtain ⟨v1, y1, c1, h1⟩ := hf 1 _ rfl
    obtain ⟨v2, y2, c2, h2⟩ := hf 2 _ rfl
    obtain ⟨s0, rfl, _⟩ := open_str Try.underlying9 h0
    obtain ⟨s1, rfl, _⟩ := open_str Try.underlying9 h1
    obtain ⟨s2, rfl, _⟩ := open_str Try.underlying9 h2
    refine ⟨(s0, s1, s2), trivial, fun j u hu => ?_⟩
    match j, hu with
    | 0, hu => injection hu with hu; rw [c0, hu]
    | 1, hu => injection hu with hu; rw [c1, hu]
    | 2, hu => injection hu with hu; rw [c2, hu]) (show DataW.trod enc Try.prog w base allP held fuel _ [.slice A n c] = some _ from hf)
  exact ⟨A', n', c', xs, h1, h2, h3⟩
end
end Go.Proofs.Ytgdabmfdfgdlkaa
