/- Arguments: what stands for names. -/
import Derived.Test.YtnhaekifcieeoaaOpenB
import Derived.Lib.SmallJoins
namespace Go.Proofs.Ytnhaekifcieeoaa
open Go Go.RowKit Go.ChangeShapes Go.WideShapes Go.Deep
section
variable {H : Type} {enc : TypeId × Value → H} {w : World} {base : Nat} {held : Bool}
set_option maxRecDepth 100000 in
theorem open_vars {fuel : Nat} {v0 : Value} {x : DataW H × List MemPlace} (h : DataW.trod enc Try.prog w base allP held fuel 22 [v0] = some x) :
    ∃ A n c xs, v0 = .slice A n c ∧ SlR fileF w A n xs ∧ n ≤ maxLen ∧ ∀ f ∈ xs, f.1.length ≤ maxLen ∧ f.2.length ≤ maxLen := by
  obtain ⟨A, n, c, xs, h1, h2, hg, h3⟩ := open_flat (T := fileF) Try.underlying22 Try.underlying27 (by kernel_rfl) (by kernel_rfl) rfl (by decide) (fun x => x.1.length ≤ maxLen ∧ x.2.length ≤ maxLen) (fun n c hf => by
    obtain ⟨v0, y0, c0, h0⟩ := hf 0 _ rfl
    obtain ⟨v1, y1, c1, h1⟩ := hf 1 _ rfl
    obtain ⟨s0, rfl, l0⟩ := open_str Try.underlying9 h0
    obtain ⟨s1, rfl, l1⟩ := open_str Try.underlying9 h1
    refine ⟨(s0, s1), ⟨l0, l1⟩, fun j u hu => ?_⟩
    match j, hu with
    | 0, hu => injection hu with hu; rw [c0, hu]
    | 1, hu => injection hu with hu; rw [c1, hu]) h
  exact ⟨A, n, c, xs, h1, h2, h3, hg⟩
set_option maxRecDepth 100000 in
theorem arg_vars {r : Reach} {b0 : Nat} {v : Value} {d : DataW H} {p : List MemPlace} (hv : Value.okWide Try.prog w r b0 22 v) (h : DataW.Trod enc Try.prog w base allP held 22 v d p) :
    ∃ A n c xs, v = .slice A n c ∧ SlR fileF w A n xs ∧ n ≤ maxLen ∧ ∀ f ∈ xs, f.1.length ≤ maxLen ∧ f.2.length ≤ maxLen := by
  obtain ⟨A, n, c, rfl⟩ := okWide_slice Try.underlying22 hv
  obtain ⟨fuel, hf⟩ := h
  exact open_vars (v0 := .slice A n c) hf
end
end Go.Proofs.Ytnhaekifcieeoaa
