/- Facts on this program's own types: how two values of a struct type compare, how one is built. -/
import Derived.Test.YtnhaekifcieeoaaProg
import Derived.Test.YtnhaekifcieeoaaData
namespace Go.Proofs.Ytnhaekifcieeoaa
open Go Go.RowKit
theorem file_stood : Try.prog.stoodInHeld 82 = false := by kernel_rfl
@[go_sem] theorem file_guard : Try.prog.eqGuardType Try.prog.depth 82 = false := by kernel_rfl
theorem file_under : Try.prog.underlying 82 = some (.struct (Try.prog.fieldsOf 82)) := by kernel_rfl
def fileB (x y x' y' : Str) : Bool := decide (x = x' ∧ y = y')
theorem fileB_true {f g : File} (h : fileB f.1 f.2 g.1 g.2 = true) : f = g := by
  unfold fileB at h; have := of_decide_eq_true h; exact Prod.ext this.1 this.2
theorem fileB_false {f g : File} (h : fileB f.1 f.2 g.1 g.2 = false) : f ≠ g := by
  unfold fileB at h; have := of_decide_eq_false h; intro e; subst e; exact this ⟨rfl, rfl⟩
theorem file_eqIn (a b c d : Str) (w : World) : (Op.equalIn 10000 82 (.agg #[S a, S b]) (.agg #[S c, S d])).run Try.prog w = .ok (fileB a b c d) w := by
  have u3 := Try.underlying9
  have a3 := Try.isAgg9
  have z3 := Try.sizeOf9
  unfold fileB
  rw [show (10000 : Nat) = 9999 + 1 from rfl, run_equalIn_agg w 9999 82 _ _ file_under file_stood]
  simp only [Program.fieldsOf, Try.underlying82]
  go_simp
  by_cases h1 : a = c <;> by_cases h2 : b = d <;> simp [h1, h2]
@[go_sem high] theorem file_eql (a b c d : Str) (w : World) : (binOp .eql 82 (.agg #[S a, S b]) (.agg #[S c, S d])).run Try.prog w = .ok (.bool (fileB a b c d)) w := by
  rw [run_eql_struct, file_eqIn]; rfl
@[go_sem high] theorem file_neq (a b c d : Str) (w : World) : (binOp .neq 82 (.agg #[S a, S b]) (.agg #[S c, S d])).run Try.prog w = .ok (.bool (!fileB a b c d)) w := by
  rw [run_neq_struct, file_eqIn]; rfl
@[go_sem] theorem file_build (a b : ByteArray) (w : World) : (Instr.build 82 #[(0, .string a), (1, .string b)]).run Try.prog w = .ok (.agg #[.string a, .string b]) w := run_build w 82 _ _ (by kernel_rfl)
end Go.Proofs.Ytnhaekifcieeoaa
