/- Arguments: uint64. -/
import Derived.Test.YtlfiobciahnapaaOpenB
namespace Go.Proofs.Ytlfiobciahnapaa
open Go Go.RowKit Go.ChangeShapes Go.WideShapes Go.Deep
section
variable {H : Type} {enc : TypeId × Value → H} {w : World} {base : Nat} {held : Bool}
set_option maxRecDepth 100000 in
theorem arg_u64 {r : Reach} {b0 : Nat} {v : Value} {d : DataW H} {p : List MemPlace} (hv : Value.okWide Try.prog w r b0 43 v) (h : DataW.Trod enc Try.prog w base allP held 43 v d p) :
    ∃ k : Nat, v = .int .u64 (k : Int) ∧ k < 18446744073709551616 := by
  obtain ⟨a, h1, _, _, h2⟩ := open_int Try.underlying43 hv h
  have := wf_u64 h2
  exact ⟨a.toNat, by rw [h1]; congr 1; omega, by omega⟩
end
end Go.Proofs.Ytlfiobciahnapaa
