/- A text cut at a byte: plain lists. -/
import Derived.Test.YtnhaekifcieeoaaBase
import Derived.Lib.IndexMore
namespace Go.Proofs.Ytnhaekifcieeoaa
open Go Go.RowKit
/-- A text cut at a byte. -/
def cutB (c : UInt8) : Str → Str × Str × Bool
  | [] => ([], [], false)
  | x :: s => if x = c then ([], s, true) else (x :: (cutB c s).1, (cutB c s).2.1, (cutB c s).2.2)
theorem index_byte_cons (c x : UInt8) (s : Str) : Lib.index (x :: s) [c] = if x = c then 0 else if Lib.index s [c] = -1 then -1 else Lib.index s [c] + 1 := by
  have e : List.isPrefixOf [c] (x :: s) = decide (x = c) := by
    simp only [List.isPrefixOf, Bool.and_true]
    by_cases h : x = c
    · simp [h]
    · simp [h, Ne.symm h]
  rw [Lib.index, e]
  simp
theorem cut_byte (c : UInt8) : ∀ s : Str, Lib.cut s [c] = cutB c s
  | [] => by simp [Lib.cut, Lib.index, cutB]
  | x :: s => by
    have ih := cut_byte c s
    have hg := Lib.index_ge s [c]
    unfold Lib.cut at ih ⊢
    rw [index_byte_cons]
    unfold cutB
    by_cases h : x = c
    · simp [h]
    · rw [if_neg h, if_neg h, ← ih]
      by_cases h1 : Lib.index s [c] = -1
      · rw [h1]; simp
      · rw [if_neg h1]
        obtain ⟨i, hi⟩ : ∃ i : Nat, Lib.index s [c] = i := ⟨(Lib.index s [c]).toNat, by omega⟩
        rw [hi]
        have e1 : (0 : Int) ≤ (i : Int) + 1 := by omega
        have e2 : (0 : Int) ≤ (i : Int) := by omega
        have e3 : ((i : Int) + 1).toNat = i + 1 := by omega
        simp [e1, e2, e3]
end Go.Proofs.Ytnhaekifcieeoaa
