/- A text split at a byte. Plain lists. -/
import Derived.Test.YtnhaekifcieeoaaCutB
import Derived.Lib.SplitLaws
namespace Go.Proofs.Ytnhaekifcieeoaa
open Go Go.RowKit
def splB (c : UInt8) : Str → List Str
  | [] => [[]]
  | x :: s => if x = c then [] :: splB c s else match splB c s with
    | h :: t => (x :: h) :: t
    | [] => [[x]]
theorem splB_ne (c : UInt8) : ∀ s : Str, splB c s ≠ []
  | [] => by simp [splB]
  | x :: s => by
    unfold splB
    split
    · simp
    · split <;> simp
theorem splB_cons (c x : UInt8) (s : Str) : splB c (x :: s) = if x = c then [] :: splB c s else match splB c s with
    | h :: t => (x :: h) :: t
    | [] => [[x]] := rfl
theorem cutB_cons (c x : UInt8) (s : Str) : cutB c (x :: s) = if x = c then ([], s, true) else (x :: (cutB c s).1, (cutB c s).2.1, (cutB c s).2.2) := rfl
theorem splB_cut (c : UInt8) : ∀ s : Str, splB c s = if (cutB c s).2.2 then (cutB c s).1 :: splB c (cutB c s).2.1 else [s]
  | [] => by simp [splB, cutB]
  | x :: s => by
    have ih := splB_cut c s
    rw [splB_cons, cutB_cons]
    by_cases h : x = c
    · simp [h]
    · rw [if_neg h, if_neg h, ih]
      cases (cutB c s).2.2 <;> simp
theorem cut_parts (c : UInt8) : ∀ s : Str, (cutB c s).2.2 = true → s = (cutB c s).1 ++ c :: (cutB c s).2.1
  | [], h => by simp [cutB] at h
  | x :: s, h => by
    unfold cutB at h ⊢
    by_cases hx : x = c
    · simp [hx]
    · rw [if_neg hx] at h ⊢
      rw [List.cons_append, ← cut_parts c s h]
theorem index_cut (c : UInt8) (s : Str) : Lib.index s [c] = if (cutB c s).2.2 then ((cutB c s).1.length : Int) else -1 := by
  have h := cut_byte c s
  have hg := Lib.index_ge s [c]
  unfold Lib.cut at h
  by_cases h0 : 0 ≤ Lib.index s [c]
  · rw [if_pos h0] at h
    rw [← h]
    have := Lib.index_room s [c] h0
    simp only [List.length_take, if_true, List.length_cons, List.length_nil] at this ⊢
    omega
  · rw [if_neg h0] at h
    rw [← h]
    simp; omega
theorem splitK_byte (c : UInt8) : ∀ (n : Nat) (s : Str), s.length ≤ n → Lib.splitK [c] 0 (Lib.count s [c]) s = splB c s ∧ Lib.count s [c] + 1 = (splB c s).length
  | n, s, hn => by
    have hi := index_cut c s
    rw [splB_cut]
    by_cases hb : (cutB c s).2.2 = true
    · rw [if_pos hb] at hi
      rw [if_pos hb]
      have hp := cut_parts c s hb
      have hl : ∀ a b : Str, s = a ++ c :: b → s.length = a.length + b.length + 1 ∧ s.drop (a.length + 1) = b ∧ s.take a.length = a := by
        rintro a b rfl
        refine ⟨by simp; omega, ?_, List.take_left⟩
        rw [← List.drop_drop, List.drop_left]; rfl
      obtain ⟨hlen, hd, ht⟩ := hl _ _ hp
      match n, hn with
      | 0, hn => omega
      | n + 1, hn =>
        have hc : Lib.count s [c] = Lib.count (cutB c s).2.1 [c] + 1 := by
          rw [Lib.count_hit (by simp) hi, List.length_singleton, hd, Nat.add_comm]
        have ih := splitK_byte c n (cutB c s).2.1 (by omega)
        rw [hc]
        refine ⟨?_, by rw [List.length_cons, ← ih.2]⟩
        have hm : ¬ (Lib.index s [c] == -1) = true := fun e => by have := beq_iff_eq.1 e; omega
        have e1 : (Lib.index s [c]).toNat = (cutB c s).1.length := by omega
        rw [Lib.splitK, if_neg hm, e1, Nat.add_zero, List.length_singleton, ht, hd, ih.1]
    · rw [if_neg hb] at hi
      rw [if_neg hb, Lib.count_miss hi]
      exact ⟨rfl, rfl⟩
end Go.Proofs.Ytnhaekifcieeoaa
