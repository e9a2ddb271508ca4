/- Put together: Ord, Txt. -/
import Derived.Test.YtnhaekifcieeoaaGreatDoorMa03
import Derived.Lib.Bytealg
/- The order of texts, and lists that rise by a key. -/
namespace Go.Proofs.YtnhaekifcieeoaaGreatDoor
open Go Go.RowKit
theorem slt_trans {a b c : Str} (h : a < b) (k : b < c) : a < c := List.lt_trans h k
theorem slt_irrefl (a : Str) : ¬ a < a := List.lt_irrefl a
theorem slt_asymm {a b : Str} (h : a < b) : ¬ b < a := List.lt_asymm h
theorem sle_iff {a b : Str} : a ≤ b ↔ ¬ b < a := List.not_lt.symm
theorem seq_of {a b : Str} (h : ¬ a < b) (k : ¬ b < a) : a = b := List.le_antisymm (List.not_lt.1 k) (List.not_lt.1 h)
theorem slt_of_le_ne {a b : Str} (h : a ≤ b) (k : a ≠ b) : a < b := by
  by_cases hl : a < b
  · exact hl
  · exact absurd (seq_of hl (sle_iff.1 h)) k
theorem slt_ne {a b : Str} (h : a < b) : a ≠ b := fun e => slt_irrefl b (e ▸ h)
theorem sle_lt_trans {a b c : Str} (h : a ≤ b) (k : b < c) : a < c := by
  by_cases e : a = b
  · exact e ▸ k
  · exact slt_trans (slt_of_le_ne h e) k
theorem slt_le_trans {a b c : Str} (h : a < b) (k : b ≤ c) : a < c := by
  by_cases e : b = c
  · exact e ▸ h
  · exact slt_trans h (slt_of_le_ne k e)
theorem cmp_cases : ∀ a b : Str, (Lib.compareBytes a b = -1 ∧ a < b) ∨ (Lib.compareBytes a b = 0 ∧ a = b) ∨ (Lib.compareBytes a b = 1 ∧ b < a)
  | [], [] => .inr (.inl ⟨rfl, rfl⟩)
  | [], _ :: _ => .inl ⟨rfl, by simp⟩
  | _ :: _, [] => .inr (.inr ⟨rfl, by simp⟩)
  | x :: a, y :: b => by
    unfold Lib.compareBytes
    by_cases h : x < y
    · exact .inl ⟨if_pos h, List.cons_lt_cons_iff.2 (.inl h)⟩
    · rw [if_neg h]
      by_cases h' : y < x
      · exact .inr (.inr ⟨if_pos h', List.cons_lt_cons_iff.2 (.inl h')⟩)
      · rw [if_neg h']
        obtain rfl : x = y := UInt8.le_antisymm (UInt8.not_lt.1 h') (UInt8.not_lt.1 h)
        rcases cmp_cases a b with ⟨h1, h2⟩ | ⟨h1, h2⟩ | ⟨h1, h2⟩
        · exact .inl ⟨h1, List.cons_lt_cons_iff.2 (.inr ⟨rfl, h2⟩)⟩
        · exact .inr (.inl ⟨h1, by rw [h2]⟩)
        · exact .inr (.inr ⟨h1, List.cons_lt_cons_iff.2 (.inr ⟨rfl, h2⟩)⟩)
/-- What strings.Compare returns. -/
def cmpS (a b : Str) : Int := Lib.compareBytes a b
theorem cmpS_lt (a b : Str) : decide (cmpS a b < 0) = decide (a < b) := by
  unfold cmpS
  rcases cmp_cases a b with ⟨h1, h2⟩ | ⟨h1, h2⟩ | ⟨h1, h2⟩ <;> rw [h1]
  · simp [h2]
  · subst h2; simp [slt_irrefl]
  · simp [slt_asymm h2]
theorem cmpS_eq (a b : Str) : (cmpS a b == 0) = decide (a = b) := by
  unfold cmpS
  rcases cmp_cases a b with ⟨h1, h2⟩ | ⟨h1, h2⟩ | ⟨h1, h2⟩ <;> rw [h1]
  · simp [slt_ne h2]
  · simp [h2]
  · simp [(slt_ne h2).symm]
theorem cmpS_bd (a b : Str) : -1 ≤ cmpS a b ∧ cmpS a b ≤ 1 := by
  unfold cmpS
  rcases cmp_cases a b with ⟨h1, h2⟩ | ⟨h1, h2⟩ | ⟨h1, h2⟩ <;> omega
theorem bytesLess_eq : ∀ a b : Str, Op.bytesLess a b = decide (a < b)
  | [], [] => by simp [Op.bytesLess]
  | [], _ :: _ => by simp [Op.bytesLess]
  | _ :: _, [] => by simp [Op.bytesLess]
  | x :: a, y :: b => by
    unfold Op.bytesLess
    rw [bytesLess_eq a b, Bool.eq_iff_iff]
    simp [List.cons_lt_cons_iff]
/-- a < b, a ≤ b, as the walk has them. -/
def ltB (a b : Str) : Bool := decide (a < b)
def leB (a b : Str) : Bool := decide (a ≤ b)
theorem ltB_true {a b : Str} (h : ltB a b = true) : a < b := of_decide_eq_true h
theorem ltB_false {a b : Str} (h : ltB a b = false) : ¬ a < b := of_decide_eq_false h
theorem leB_true {a b : Str} (h : leB a b = true) : a ≤ b := of_decide_eq_true h
theorem leB_false {a b : Str} (h : leB a b = false) : b < a := by
  have := of_decide_eq_false h
  rw [sle_iff] at this
  exact Classical.not_not.1 this
theorem toList_loop (b : ByteArray) (i : Nat) (r : List UInt8) : ByteArray.toList.loop b i r = r.reverse ++ b.data.toList.drop i := by
  rw [ByteArray.toList.loop]
  split
  · rename_i h
    rw [toList_loop b (i+1)]
    have hi : i < b.data.toList.length := by simpa using h
    rw [List.drop_eq_getElem_cons hi]
    have : b.get! i = b.data.toList[i] := by
      simp [ByteArray.get!]
      rw [getElem!_pos b.data i (by simpa using hi)]
    simp [this]
  · rename_i h
    rw [List.drop_eq_nil_of_le (by simpa using h)]; simp
termination_by b.size - i
theorem toList_S (a : List UInt8) : ByteArray.toList ⟨a.toArray⟩ = a := by
  unfold ByteArray.toList
  rw [toList_loop]; simp
@[go_sem high] theorem lss_S (t : TypeId) (a b : Str) : binOp .lss t (.string ⟨a.toArray⟩) (.string ⟨b.toArray⟩) = pure (.bool (ltB a b)) := by
  simp [binOp, Op.stringOp, toList_S, bytesLess_eq, ltB]
@[go_sem high] theorem leq_S (t : TypeId) (a b : Str) : binOp .leq t (.string ⟨a.toArray⟩) (.string ⟨b.toArray⟩) = pure (.bool (leB a b)) := by
  have : (decide (a < b) || a == b) = leB a b := by
    unfold leB
    rw [Bool.eq_iff_iff]
    simp only [Bool.or_eq_true, decide_eq_true_eq, beq_iff_eq]
    constructor
    · rintro (h | rfl)
      · exact sle_iff.2 (slt_asymm h)
      · exact sle_iff.2 (slt_irrefl _)
    · intro h
      by_cases e : a = b
      · exact .inr e
      · exact .inl (slt_of_le_ne h e)
  simp [binOp, Op.stringOp, toList_S, bytesLess_eq, this]
section
variable {α : Type} (key : α → Str)
/-- The list rises by its key. -/
def Rise (l : List α) : Prop := l.Pairwise fun a b => key a < key b
/-- How many stand ahead of a key. -/
def posOf (l : List α) (k : Str) : Nat := (l.takeWhile fun x => ltB (key x) k).length
variable {key}
theorem Rise.at_lt {l : List α} (h : Rise key l) {i j : Nat} (hij : i < j) {x y : α} (hx : l[i]? = some x) (hy : l[j]? = some y) : key x < key y := by
  obtain ⟨hi, rfl⟩ := List.getElem?_eq_some_iff.1 hx
  obtain ⟨hj, rfl⟩ := List.getElem?_eq_some_iff.1 hy
  exact List.pairwise_iff_getElem.1 h i j hi hj hij
theorem posOf_le (l : List α) (k : Str) : posOf key l k ≤ l.length := by
  unfold posOf
  induction l with
  | nil => simp
  | cons x l ih =>
    rw [List.takeWhile_cons]
    split
    · simp; exact ih
    · simp
/-- What a binary search ends at. -/
theorem posOf_of {l : List α} {k : Str} {i : Nat} (hi : i ≤ l.length) (h1 : ∀ j x, j < i → l[j]? = some x → key x < k) (h2 : ∀ x, l[i]? = some x → ¬ key x < k) : posOf key l k = i := by
  unfold posOf
  induction l generalizing i with
  | nil => simp at hi; simp [hi]
  | cons x l ih =>
    rw [List.takeWhile_cons]
    cases i with
    | zero =>
      have : ltB (key x) k = false := decide_eq_false (h2 x rfl)
      simp [this]
    | succ i =>
      have : ltB (key x) k = true := decide_eq_true (h1 0 x (by omega) rfl)
      simp only [this, if_true, List.length_cons]
      rw [ih (by simpa using hi) (fun j y hj hy => h1 (j + 1) y (by omega) (by simpa using hy)) (fun y hy => h2 y (by simpa using hy))]
end
end Go.Proofs.YtnhaekifcieeoaaGreatDoor

/- Parts of texts, as the walk has them. -/
namespace Go.Proofs.YtnhaekifcieeoaaGreatDoor
open Go Go.RowKit
theorem S_extract (l : Str) (i j : Nat) : (⟨l.toArray⟩ : ByteArray).extract i j = ⟨((l.take j).drop i).toArray⟩ := by
  apply ByteArray.ext
  rw [ByteArray.data_extract]
  simp
  rw [List.drop_take]
theorem eql_lit (l : Str) (k : List UInt8) : ((⟨l.toArray⟩ : ByteArray).toList == k) = (l == k) := by rw [toList_S]
attribute [go_sem] S_extract eql_lit List.take_succ_cons List.drop_succ_cons List.drop_zero List.take_zero List.take_length
end Go.Proofs.YtnhaekifcieeoaaGreatDoor
