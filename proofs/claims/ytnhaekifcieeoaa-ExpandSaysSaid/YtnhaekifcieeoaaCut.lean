/- strings.Cut. -/
import Derived.Test.YtnhaekifcieeoaaShelf
import Derived.Test.YtnhaekifcieeoaaMl
import Derived.Test.YtnhaekifcieeoaaCutB
namespace Go.Proofs.Ytnhaekifcieeoaa
open Go Go.RowKit
theorem SCut_c (s sep : Str) (hs : s.length < 4294967281) {w : World} (hm : Ml w) :
    Calls Try.prog 31 #[S s, S sep] w fun e w' => e = .returned (.tuple #[S (Lib.cut s sep).1, S (Lib.cut s sep).2.1, .bool (Lib.cut s sep).2.2]) ∧ Ext w w' := by
  obtain ⟨m, hm⟩ := hm
  refine (Try.strings_Cut ⟨s.toArray⟩ ⟨sep.toArray⟩ m w hs hm).mono ?_
  rintro e w' ⟨rfl, n, rfl⟩
  exact ⟨rfl, (Only.refl No w).drewN n⟩
theorem BCut_c (s : Str) (c : UInt8) (hs : s.length < 4294967281) {w : World} (hm : Ml w) :
    Calls Try.prog 31 #[S s, S [c]] w fun e w' => e = .returned (.tuple #[S (cutB c s).1, S (cutB c s).2.1, .bool (cutB c s).2.2]) ∧ Ext w w' := by
  have := SCut_c s [c] hs hm
  rwa [cut_byte] at this
theorem cutB_len (c : UInt8) : ∀ s : Str, (cutB c s).1.length + (cutB c s).2.1.length ≤ s.length
  | [] => by simp [cutB]
  | x :: s => by
    have := cutB_len c s
    unfold cutB
    split
    · simp
    · simp only [List.length_cons]; omega
end Go.Proofs.Ytnhaekifcieeoaa
