/- Errors by their numbers. -/
import Derived.Test.YtnhaekifcieeoaaProg
import Derived.Test.YtnhaekifcieeoaaOwn
namespace Go.Proofs.Ytnhaekifcieeoaa
open Go Go.RowKit
/-- An error that is one of the package's numbers. -/
abbrev E (n : Int) : Value := .iface 72 (.int .i64 n)
abbrev pt (g : Nat) : Value := .pointer (some ⟨g, 0, none⟩)
/-- The error value of a number. -/
def errV (n : Int) : Value := if n = 0 then .nilIface else E n
theorem errV_zero : errV 0 = .nilIface := rfl
theorem errV_pos {n : Int} (h : n ≠ 0) : errV n = E n := if_neg h
end Go.Proofs.Ytnhaekifcieeoaa
