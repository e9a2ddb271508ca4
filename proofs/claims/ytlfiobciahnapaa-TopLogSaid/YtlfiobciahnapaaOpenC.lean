/- Changes as arguments. -/
import Derived.Test.YtlfiobciahnapaaChs
import Derived.Test.YtlfiobciahnapaaOpenB
import Derived.Lib.SmallJoins
namespace Go.Proofs.Ytlfiobciahnapaa
open Go Go.RowKit Go.ChangeShapes Go.WideShapes Go.Deep
section
variable {H : Type} {enc : TypeId × Value → H} {w : World} {base : Nat} {held : Bool}
set_option maxRecDepth 100000 in
theorem open_chs {fuel : Nat} {v0 : Value} {x : DataW H × List MemPlace} (h : DataW.trod enc Try.prog w base allP held fuel 44 [v0] = some x) :
    ∃ A n c xs, v0 = .slice A n c ∧ SlR chF w A n xs ∧ n ≤ maxLen := by
  obtain ⟨A, n, c, xs, h1, h2, _, h3⟩ := open_flat (T := chF) Try.underlying44 Try.underlying49 (by kernel_rfl) (by kernel_rfl) rfl (by decide) (fun _ => True) (fun n c hf => by
    obtain ⟨v0, y0, c0, h0⟩ := hf 0 _ rfl
    obtain ⟨v1, y1, c1, h1⟩ := hf 1 _ rfl
    obtain ⟨v2, y2, c2, h2⟩ := hf 2 _ rfl
    obtain ⟨s0, rfl, _⟩ := open_str Try.underlying9 h0
    obtain ⟨s1, rfl, _⟩ := open_str Try.underlying9 h1
    obtain ⟨b2, rfl⟩ := open_b Try.underlying4 h2
    refine ⟨(s0, s1, b2), trivial, fun j u hu => ?_⟩
    match j, hu with
    | 0, hu => injection hu with hu; rw [c0, hu]
    | 1, hu => injection hu with hu; rw [c1, hu]
    | 2, hu => injection hu with hu; rw [c2, hu]) h
  exact ⟨A, n, c, xs, h1, h2, h3⟩
set_option maxRecDepth 100000 in
theorem arg_chs {r : Reach} {b0 : Nat} {v : Value} {d : DataW H} {p : List MemPlace} (hv : Value.okWide Try.prog w r b0 44 v) (h : DataW.Trod enc Try.prog w base allP held 44 v d p) :
    ∃ A n c xs, v = .slice A n c ∧ SlR chF w A n xs ∧ n ≤ maxLen := by
  obtain ⟨A, n, c, rfl⟩ := okWide_slice Try.underlying44 hv
  obtain ⟨fuel, hf⟩ := h
  exact open_chs (v0 := .slice A n c) hf
set_option maxRecDepth 100000 in
theorem arg_chsc {r : Reach} {b0 : Nat} {v : Value} {d : DataW H} {p : List MemPlace} (hv : Value.okWide Try.prog w r b0 44 v) (h : DataW.Trod enc Try.prog w base allP held 44 v d p) :
    ∃ A n c xs, v = .slice A n c ∧ SlR chF w A n xs ∧ n ≤ c ∧ c ≤ maxLen := by
  obtain ⟨A, n, c, xs, rfl, hs, _⟩ := arg_chs hv h
  obtain ⟨fuel, hf⟩ := h
  exact ⟨A, n, c, xs, rfl, hs, slice_cap Try.underlying44 (show DataW.trod enc Try.prog w base allP held fuel _ [.slice A n c] = some _ from hf)⟩
set_option maxRecDepth 100000 in
theorem arg_ch {r : Reach} {b0 : Nat} {v : Value} {d : DataW H} {p : List MemPlace} (hv : Value.okWide Try.prog w r b0 49 v) (h : DataW.Trod enc Try.prog w base allP held 49 v d p) :
    ∃ c : Ch, v = .agg #[S c.1, S c.2.1, .bool c.2.2] ∧ c.1.length ≤ maxLen ∧ c.2.1.length ≤ maxLen := by
  obtain ⟨v0, v1, v2, y0, y1, y2, n, rfl, _, _, h0, h1, h2⟩ := Joins.open_agg3 Try.underlying49 (by kernel_rfl) (by kernel_rfl) hv h
  obtain ⟨s0, rfl, l0⟩ := open_str Try.underlying9 h0
  obtain ⟨s1, rfl, l1⟩ := open_str Try.underlying9 h1
  obtain ⟨g, rfl⟩ := open_b Try.underlying4 h2
  exact ⟨(s0, s1, g), rfl, l0, l1⟩
end
end Go.Proofs.Ytlfiobciahnapaa
