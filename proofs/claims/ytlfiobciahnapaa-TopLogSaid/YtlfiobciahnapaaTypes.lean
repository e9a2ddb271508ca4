/- Facts on this program's own types: how two values of a struct type compare, how one is built. -/
import Derived.Test.YtlfiobciahnapaaProg
import Derived.Test.YtlfiobciahnapaaData
namespace Go.Proofs.Ytlfiobciahnapaa
open Go Go.RowKit
def fileB (x y x' y' : Str) : Bool := decide (x = x' ∧ y = y')
theorem fileB_true {f g : File} (h : fileB f.1 f.2 g.1 g.2 = true) : f = g := by
  unfold fileB at h; have := of_decide_eq_true h; exact Prod.ext this.1 this.2
theorem fileB_false {f g : File} (h : fileB f.1 f.2 g.1 g.2 = false) : f ≠ g := by
  unfold fileB at h; have := of_decide_eq_false h; intro e; subst e; exact this ⟨rfl, rfl⟩
end Go.Proofs.Ytlfiobciahnapaa
