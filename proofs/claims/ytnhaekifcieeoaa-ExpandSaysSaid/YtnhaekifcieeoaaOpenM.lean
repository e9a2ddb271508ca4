/- The library's variable that strings.Index reads holds some number in every world that a claim speaks of. -/
import Derived.Test.YtnhaekifcieeoaaMl
import Derived.HandedShaped
import Derived.Shelf.Vars
namespace Go.Proofs.Ytnhaekifcieeoaa
open Go Go.RowKit
set_option maxRecDepth 100000 in
theorem ml_shaped {W : World} (h : W.ShapedOpen Try.prog) : Ml W :=
  cell_of_shapedOpen_int (t := 3) (zero := #[.int .i64 0]) h (of_decide_eq_true (by kernel_rfl)) (by kernel_rfl) rfl (by kernel_rfl) (by kernel_rfl) Try.underlying3
end Go.Proofs.Ytnhaekifcieeoaa
