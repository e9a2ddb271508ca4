/- What a text with names comes to. Plain: no program. -/
import Derived.Test.YtnhaekifcieeoaaFnd
import Derived.Test.YtnhaekifcieeoaaCutB
import Derived.Test.YtnhaekifcieeoaaCut
namespace Go.Proofs.Ytnhaekifcieeoaa
open Go Go.RowKit
def varB (s : Str) : Bool := (s.all fun c => decide (65 ≤ c.toNat) && decide (c.toNat ≤ 90)) && !(s == []) && decide (s.length ≤ 4)
abbrev dlr : Str := [36, 40]
/-- D1: one level; 'rec': what a text below comes to. -/
def expL (l : List File) (rec : Str → Str × Int) : Nat → Str → Str → Str × Int
  | 0, _, _ => ([], 0)
  | f + 1, s, out =>
    if (Lib.cut s dlr).2.2 = false then (if 600 < (out ++ (Lib.cut s dlr).1).length then ([], 2) else (out ++ (Lib.cut s dlr).1, 0))
    else if (cutB 41 (Lib.cut s dlr).2.1).2.2 = false ∨ varB (cutB 41 (Lib.cut s dlr).2.1).1 = false then ([], 4)
    else match fndL (cutB 41 (Lib.cut s dlr).2.1).1 l with
      | none => ([], 5)
      | some v => if (rec v.2).2 ≠ 0 then ([], (rec v.2).2) else if 600 < (out ++ (Lib.cut s dlr).1 ++ (rec v.2).1).length then ([], 2) else expL l rec f (cutB 41 (Lib.cut s dlr).2.1).2.1 (out ++ (Lib.cut s dlr).1 ++ (rec v.2).1)
def exp (l : List File) : Nat → Str → Str × Int
  | 0, _ => ([], 9)
  | d + 1, s => expL l (exp l d) (s.length + 1) s []
theorem cut_len (s sep : Str) : (Lib.cut s sep).1.length + (Lib.cut s sep).2.1.length ≤ s.length := by
  unfold Lib.cut
  split
  · rename_i h
    simp only [List.length_take, List.length_drop]
    have : (Lib.index s sep).toNat ≤ s.length ∨ s.length < (Lib.index s sep).toNat := by omega
    rcases this with h1 | h1
    · omega
    · omega
  · simp
theorem cut_lt {s sep : Str} (hsep : sep ≠ []) (h : (Lib.cut s sep).2.2 = true) : (Lib.cut s sep).2.1.length < s.length := by
  have hp : 0 < sep.length := List.length_pos_iff.2 hsep
  unfold Lib.cut at h ⊢
  split
  · rename_i hi
    simp only [List.length_drop]
    have hs : 0 < s.length := by
      cases s with
      | nil =>
        exfalso
        unfold Lib.index at hi
        rw [if_neg (by simpa using hsep)] at hi
        omega
      | cons _ _ => simp
    omega
  · rename_i hi
    rw [if_neg hi] at h
    cases h
theorem cutB_lt {c : UInt8} {s : Str} (h : (cutB c s).2.2 = true) : (cutB c s).2.1.length < s.length := by
  have h1 := cut_lt (s := s) (sep := [c]) (by simp) (by rw [cut_byte]; exact h)
  rwa [cut_byte] at h1
theorem expL_bound {l : List File} {rec : Str → Str × Int} : ∀ (f : Nat) (s out : Str), (expL l rec f s out).1.length ≤ 600
  | 0, _, _ => by simp [expL]
  | f + 1, s, out => by
    unfold expL
    split
    · split
      · simp
      · rename_i h; show (out ++ (Lib.cut s dlr).1).length ≤ 600; omega
    · split
      · simp
      · split
        · simp
        · split
          · simp
          · split
            · simp
            · exact expL_bound f _ _
theorem exp_bound (l : List File) : ∀ (d : Nat) (s : Str), (exp l d s).1.length ≤ 600
  | 0, _ => by simp [exp]
  | d + 1, s => expL_bound _ _ _
theorem expL_nonneg {l : List File} {rec : Str → Str × Int} (hr : ∀ s, 0 ≤ (rec s).2) : ∀ (f : Nat) (s out : Str), 0 ≤ (expL l rec f s out).2
  | 0, _, _ => by simp [expL]
  | f + 1, s, out => by
    unfold expL
    split
    · split <;> simp
    · split
      · simp
      · split
        · simp
        · split
          · exact hr _
          · split
            · simp
            · exact expL_nonneg hr f _ _
theorem exp_nonneg (l : List File) : ∀ (d : Nat) (s : Str), 0 ≤ (exp l d s).2
  | 0, _ => by simp [exp]
  | d + 1, s => expL_nonneg (exp_nonneg l d) _ _ _
end Go.Proofs.Ytnhaekifcieeoaa
