/- Arguments: files. -/
import Derived.Test.YtfbpiafhgkhoiaaDoorOpenB
import Derived.Lib.SmallJoins
namespace Go.Proofs.YtfbpiafhgkhoiaaDoor
open Go Go.RowKit Go.ChangeShapes Go.WideShapes Go.Deep
section
variable {H : Type} {enc : TypeId × Value → H} {w : World} {base : Nat} {held : Bool}
set_option maxRecDepth 100000 in
theorem open_files {fuel : Nat} {v0 : Value} {x : DataW H × List MemPlace} (h : DataW.trod enc Tryd.prog w base allP held fuel 25 [v0] = some x) :
    ∃ A n c xs, v0 = .slice A n c ∧ SlR fileF w A n xs ∧ n ≤ maxLen := by
  obtain ⟨A, n, c, xs, h1, h2, _, h3⟩ := open_flat (T := fileF) Tryd.underlying25 Tryd.underlying45 (by kernel_rfl) (by kernel_rfl) rfl (by decide) (fun x => x.1.length ≤ maxLen ∧ x.2.length ≤ maxLen) (fun n c hf => by
    obtain ⟨v0, y0, c0, h0⟩ := hf 0 _ rfl
    obtain ⟨v1, y1, c1, h1⟩ := hf 1 _ rfl
    obtain ⟨s0, rfl, l0⟩ := open_str Tryd.underlying9 h0
    obtain ⟨s1, rfl, l1⟩ := open_str Tryd.underlying9 h1
    refine ⟨(s0, s1), ⟨l0, l1⟩, fun j u hu => ?_⟩
    match j, hu with
    | 0, hu => injection hu with hu; rw [c0, hu]
    | 1, hu => injection hu with hu; rw [c1, hu]) h
  exact ⟨A, n, c, xs, h1, h2, h3⟩
set_option maxRecDepth 100000 in
theorem arg_files {r : Reach} {b0 : Nat} {v : Value} {d : DataW H} {p : List MemPlace} (hv : Value.okWide Tryd.prog w r b0 25 v) (h : DataW.Trod enc Tryd.prog w base allP held 25 v d p) :
    ∃ A n c xs, v = .slice A n c ∧ SlR fileF w A n xs ∧ n ≤ maxLen := by
  obtain ⟨A, n, c, rfl⟩ := okWide_slice Tryd.underlying25 hv
  obtain ⟨fuel, hf⟩ := h
  exact open_files (v0 := .slice A n c) hf
set_option maxRecDepth 100000 in
theorem arg_file {r : Reach} {b0 : Nat} {v : Value} {d : DataW H} {p : List MemPlace} (hv : Value.okWide Tryd.prog w r b0 45 v) (h : DataW.Trod enc Tryd.prog w base allP held 45 v d p) :
    ∃ f : File, v = .agg #[S f.1, S f.2] ∧ f.1.length ≤ maxLen ∧ f.2.length ≤ maxLen := by
  obtain ⟨v0, v1, y0, y1, n, rfl, _, _, h0, h1⟩ := Joins.open_agg2 Tryd.underlying45 (by kernel_rfl) (by kernel_rfl) hv h
  obtain ⟨s0, rfl, l0⟩ := open_str Tryd.underlying9 h0
  obtain ⟨s1, rfl, l1⟩ := open_str Tryd.underlying9 h1
  exact ⟨(s0, s1), rfl, l0, l1⟩
end
end Go.Proofs.YtfbpiafhgkhoiaaDoor
