/- Put together: Exp, Spl. -/
import Derived.Test.YtnhaekifcieeoaaGreatDoorMa05
import Derived.Lib.SplitLaws
/- What a text with names comes to. Plain: no program. -/
namespace Go.Proofs.YtnhaekifcieeoaaGreatDoor
open Go Go.RowKit
def varB (s : Str) : Bool := (s.all fun c => decide (65 ≤ c.toNat) && decide (c.toNat ≤ 90)) && !(s == []) && decide (s.length ≤ 4)
abbrev dlr : Str := [36, 40]
/-- D1: one level; 'rec': what a text below comes to. -/
def expL (l : List File) (rec : Str → Str × Int) : Nat → Str → Str → Str × Int
  | 0, _, _ => ([], 0)
  | f + 1, s, out =>
    if (Lib.cut s dlr).2.2 = false then (if 600 < (out ++ (Lib.cut s dlr).1).length then ([], 2) else (out ++ (Lib.cut s dlr).1, 0))
    else if (cutB 41 (Lib.cut s dlr).2.1).2.2 = false ∨ varB (cutB 41 (Lib.cut s dlr).2.1).1 = false then ([], 4)
    else match fndL (cutB 41 (Lib.cut s dlr).2.1).1 l with
      | none => ([], 5)
      | some v => if (rec v.2).2 ≠ 0 then ([], (rec v.2).2) else if 600 < (out ++ (Lib.cut s dlr).1 ++ (rec v.2).1).length then ([], 2) else expL l rec f (cutB 41 (Lib.cut s dlr).2.1).2.1 (out ++ (Lib.cut s dlr).1 ++ (rec v.2).1)
def exp (l : List File) : Nat → Str → Str × Int
  | 0, _ => ([], 9)
  | d + 1, s => expL l (exp l d) (s.length + 1) s []
theorem cut_len (s sep : Str) : (Lib.cut s sep).1.length + (Lib.cut s sep).2.1.length ≤ s.length := by
  unfold Lib.cut
  split
  · rename_i h
    simp only [List.length_take, List.length_drop]
    have : (Lib.index s sep).toNat ≤ s.length ∨ s.length < (Lib.index s sep).toNat := by omega
    rcases this with h1 | h1
    · omega
    · omega
  · simp
theorem cut_lt {s sep : Str} (hsep : sep ≠ []) (h : (Lib.cut s sep).2.2 = true) : (Lib.cut s sep).2.1.length < s.length := by
  have hp : 0 < sep.length := List.length_pos_iff.2 hsep
  unfold Lib.cut at h ⊢
  split
  · rename_i hi
    simp only [List.length_drop]
    have hs : 0 < s.length := by
      cases s with
      | nil =>
        exfalso
        unfold Lib.index at hi
        rw [if_neg (by simpa using hsep)] at hi
        omega
      | cons _ _ => simp
    omega
  · rename_i hi
    rw [if_neg hi] at h
    cases h
theorem cutB_lt {c : UInt8} {s : Str} (h : (cutB c s).2.2 = true) : (cutB c s).2.1.length < s.length := by
  have h1 := cut_lt (s := s) (sep := [c]) (by simp) (by rw [cut_byte]; exact h)
  rwa [cut_byte] at h1
theorem expL_bound {l : List File} {rec : Str → Str × Int} : ∀ (f : Nat) (s out : Str), (expL l rec f s out).1.length ≤ 600
  | 0, _, _ => by simp [expL]
  | f + 1, s, out => by
    unfold expL
    split
    · split
      · simp
      · rename_i h; show (out ++ (Lib.cut s dlr).1).length ≤ 600; omega
    · split
      · simp
      · split
        · simp
        · split
          · simp
          · split
            · simp
            · exact expL_bound f _ _
theorem exp_bound (l : List File) : ∀ (d : Nat) (s : Str), (exp l d s).1.length ≤ 600
  | 0, _ => by simp [exp]
  | d + 1, s => expL_bound _ _ _
theorem expL_nonneg {l : List File} {rec : Str → Str × Int} (hr : ∀ s, 0 ≤ (rec s).2) : ∀ (f : Nat) (s out : Str), 0 ≤ (expL l rec f s out).2
  | 0, _, _ => by simp [expL]
  | f + 1, s, out => by
    unfold expL
    split
    · split <;> simp
    · split
      · simp
      · split
        · simp
        · split
          · exact hr _
          · split
            · simp
            · exact expL_nonneg hr f _ _
theorem exp_nonneg (l : List File) : ∀ (d : Nat) (s : Str), 0 ≤ (exp l d s).2
  | 0, _ => by simp [exp]
  | d + 1, s => expL_nonneg (exp_nonneg l d) _ _ _
end Go.Proofs.YtnhaekifcieeoaaGreatDoor

/- A text split at a byte. Plain lists. -/
namespace Go.Proofs.YtnhaekifcieeoaaGreatDoor
open Go Go.RowKit
def splB (c : UInt8) : Str → List Str
  | [] => [[]]
  | x :: s => if x = c then [] :: splB c s else match splB c s with
    | h :: t => (x :: h) :: t
    | [] => [[x]]
theorem splB_ne (c : UInt8) : ∀ s : Str, splB c s ≠ []
  | [] => by simp [splB]
  | x :: s => by
    unfold splB
    split
    · simp
    · split <;> simp
theorem splB_cons (c x : UInt8) (s : Str) : splB c (x :: s) = if x = c then [] :: splB c s else match splB c s with
    | h :: t => (x :: h) :: t
    | [] => [[x]] := rfl
theorem cutB_cons (c x : UInt8) (s : Str) : cutB c (x :: s) = if x = c then ([], s, true) else (x :: (cutB c s).1, (cutB c s).2.1, (cutB c s).2.2) := rfl
theorem splB_cut (c : UInt8) : ∀ s : Str, splB c s = if (cutB c s).2.2 then (cutB c s).1 :: splB c (cutB c s).2.1 else [s]
  | [] => by simp [splB, cutB]
  | x :: s => by
    have ih := splB_cut c s
    rw [splB_cons, cutB_cons]
    by_cases h : x = c
    · simp [h]
    · rw [if_neg h, if_neg h, ih]
      cases (cutB c s).2.2 <;> simp
theorem cut_parts (c : UInt8) : ∀ s : Str, (cutB c s).2.2 = true → s = (cutB c s).1 ++ c :: (cutB c s).2.1
  | [], h => by simp [cutB] at h
  | x :: s, h => by
    unfold cutB at h ⊢
    by_cases hx : x = c
    · simp [hx]
    · rw [if_neg hx] at h ⊢
      rw [List.cons_append, ← cut_parts c s h]
theorem index_cut (c : UInt8) (s : Str) : Lib.index s [c] = if (cutB c s).2.2 then ((cutB c s).1.length : Int) else -1 := by
  have h := cut_byte c s
  have hg := Lib.index_ge s [c]
  unfold Lib.cut at h
  by_cases h0 : 0 ≤ Lib.index s [c]
  · rw [if_pos h0] at h
    rw [← h]
    have := Lib.index_room s [c] h0
    simp only [List.length_take, if_true, List.length_cons, List.length_nil] at this ⊢
    omega
  · rw [if_neg h0] at h
    rw [← h]
    simp; omega
theorem splitK_byte (c : UInt8) : ∀ (n : Nat) (s : Str), s.length ≤ n → Lib.splitK [c] 0 (Lib.count s [c]) s = splB c s ∧ Lib.count s [c] + 1 = (splB c s).length
  | n, s, hn => by
    have hi := index_cut c s
    rw [splB_cut]
    by_cases hb : (cutB c s).2.2 = true
    · rw [if_pos hb] at hi
      rw [if_pos hb]
      have hp := cut_parts c s hb
      have hl : ∀ a b : Str, s = a ++ c :: b → s.length = a.length + b.length + 1 ∧ s.drop (a.length + 1) = b ∧ s.take a.length = a := by
        rintro a b rfl
        refine ⟨by simp; omega, ?_, List.take_left⟩
        rw [← List.drop_drop, List.drop_left]; rfl
      obtain ⟨hlen, hd, ht⟩ := hl _ _ hp
      match n, hn with
      | 0, hn => omega
      | n + 1, hn =>
        have hc : Lib.count s [c] = Lib.count (cutB c s).2.1 [c] + 1 := by
          rw [Lib.count_hit (by simp) hi, List.length_singleton, hd, Nat.add_comm]
        have ih := splitK_byte c n (cutB c s).2.1 (by omega)
        rw [hc]
        refine ⟨?_, by rw [List.length_cons, ← ih.2]⟩
        have hm : ¬ (Lib.index s [c] == -1) = true := fun e => by have := beq_iff_eq.1 e; omega
        have e1 : (Lib.index s [c]).toNat = (cutB c s).1.length := by omega
        rw [Lib.splitK, if_neg hm, e1, Nat.add_zero, List.length_singleton, ht, hd, ih.1]
    · rw [if_neg hb] at hi
      rw [if_neg hb, Lib.count_miss hi]
      exact ⟨rfl, rfl⟩
end Go.Proofs.YtnhaekifcieeoaaGreatDoor
