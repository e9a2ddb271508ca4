/- A command comes to the last rule. -/
import Derived.Test.YtnhaekifcieeoaaMkH
import Derived.Test.YtnhaekifcieeoaaDeep
import Derived.Test.YtnhaekifcieeoaaErrs
namespace Go.Proofs.Ytnhaekifcieeoaa
open Go Go.RowKit
theorem st_info : (Try.prog.info? 9).map (fun i => (i.zero, i.size, i.bytes)) = some (some (.string ⟨#[]⟩), 1, 16) := by kernel_rfl
theorem st_ty : Ety Try.prog 23 9 1 := Ety.mk' Try.underlying23 st_info rfl (by omega) (by omega)
theorem vr_info : (Try.prog.info? varT).map (fun i => (i.zero, i.size, i.bytes)) = some (some (.agg #[.string ⟨#[]⟩, .string ⟨#[]⟩]), 2, 32) := by kernel_rfl
theorem vr_ty : Ety Try.prog 22 varT 2 := Ety.mk' Try.underlying22 vr_info rfl (by omega) (by omega)
theorem ru_info : (Try.prog.info? ruleT).map (fun i => (i.zero, i.size, i.bytes)) = some (some (.agg #[.slice none 0 0, .slice none 0 0, .slice none 0 0]), 3, 72) := by kernel_rfl
theorem ru_ty : Ety Try.prog 49 ruleT 3 := Ety.mk' Try.underlying49 ru_info rfl (by omega) (by omega)
section
variable {Q : List SRow} {w wr : World} {g : Nat} {v : MkV} {rs : List (RulA × Rul)} {m : Mk}
def MkRes (Q : List SRow) (w : World) (g : Nat) (R : Mk × Int) (e : Ending) (w' : World) : Prop := ∃ v rs, e = .returned (errV R.2) ∧ MAt Q w w' g v rs R.1
theorem MAt.text (hm : Ml w) (h : MAt Q w wr g v rs m) (hv : m.vars.length ≤ 6) (ht : ∀ x ∈ m.vars, x.1.length ≤ 600 ∧ x.2.length ≤ 600) (s : Str) (hs : s.length ≤ 600) :
    Calls Try.prog 7 #[.slice v.vA m.vars.length v.vc, S s] wr fun e w' => e = .returned (.tuple #[S (exp m.vars 6 s).1, errV (exp m.vars 6 s).2]) ∧ Ext wr w' :=
  Text_c (hm.ext h.x) (h.fv.row (by decide)) (by omega) (fun f hf => by have := (ht f hf).2; omega) s (by omega)
end
end Go.Proofs.Ytnhaekifcieeoaa
