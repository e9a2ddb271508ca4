/- What a file that was put, or dropped, changes: plain lists. -/
import Derived.Test.YtgdabmfdfgdlkaaFilesL
namespace Go.Proofs.Ytgdabmfdfgdlkaa
open Go Go.RowKit
section
variable {α : Type} {key : α → Str}
theorem getL_cons (k : Str) (x : α) (l : List α) : getL key k (x :: l) = if key x = k then some x else getL key k l := by
  unfold getL
  rw [List.find?_cons]
  by_cases h : key x = k <;> simp [h]
theorem getL_filter {k k' : Str} (hne : k ≠ k') (l : List α) : getL key k (l.filter fun y => decide (key y ≠ k')) = getL key k l := by
  induction l with
  | nil => rfl
  | cons x l ih =>
    rw [List.filter_cons, getL_cons]
    by_cases h : key x = k
    · have : key x ≠ k' := fun e => hne (h ▸ e)
      rw [if_pos (by simpa using this), getL_cons, if_pos h, if_pos h]
    · rw [if_neg h]
      split
      · rw [getL_cons, if_neg h, ih]
      · exact ih
theorem getL_put (f : α) (l : List α) : getL key (key f) (putL key f l) = some f := by
  induction l with
  | nil => simp [putL, getL]
  | cons x l ih =>
    unfold putL
    split
    · rw [getL_cons, if_pos rfl]
    · rename_i h
      rw [getL_cons, if_neg (slt_ne (leB_false (by simpa using h))), ih]
theorem getL_put_ne {k : Str} (f : α) (hne : k ≠ key f) (l : List α) : getL key k (putL key f l) = getL key k l := by
  induction l with
  | nil => simp [putL, getL, Ne.symm hne]
  | cons x l ih =>
    unfold putL
    split
    · rw [getL_cons, if_neg (Ne.symm hne), getL_filter hne]
    · rw [getL_cons, getL_cons, ih]
theorem dropL_cons' (k : Str) (x : α) (l : List α) : dropL key k (x :: l) = if key x = k then dropL key k l else x :: dropL key k l := by
  unfold dropL
  rw [List.filter_cons]
  by_cases h : key x = k <;> simp [h]
theorem dropL_dropL (k : Str) (l : List α) : dropL key k (dropL key k l) = dropL key k l := by
  unfold dropL; rw [List.filter_filter]; simp
theorem dropL_put (f : α) (l : List α) : dropL key (key f) (putL key f l) = dropL key (key f) l := by
  induction l with
  | nil => simp [putL, dropL]
  | cons x l ih =>
    unfold putL
    split
    · rw [show (x :: l).filter (fun y => decide (key y ≠ key f)) = dropL key (key f) (x :: l) from rfl, dropL_cons', if_pos rfl, dropL_dropL]
    · rw [dropL_cons', dropL_cons', ih]
theorem getL_drop (k : Str) (l : List α) : getL key k (dropL key k l) = none := by
  unfold getL dropL
  rw [List.find?_eq_none]
  intro y hy
  have := (List.mem_filter.1 hy).2
  simpa using this
theorem length_put_drop (f : α) (l : List α) : (putL key f l).length = (dropL key (key f) l).length + 1 := by
  induction l with
  | nil => simp [putL, dropL]
  | cons x l ih =>
    unfold putL
    split
    · rfl
    · rename_i h
      rw [dropL_cons', if_neg (slt_ne (leB_false (by simpa using h))), List.length_cons, List.length_cons, ih]
theorem put_drop (f : α) {l : List α} (hr : Rise key l) : putL key f (dropL key (key f) l) = putL key f l := by
  induction l with
  | nil => simp [dropL]
  | cons x l ih =>
    by_cases hle : leB (key f) (key x) = true
    · rw [dropL_cons']
      by_cases h : key x = key f
      · have hab : ∀ y ∈ l, key f < key y := fun y hy => h ▸ hr.head y hy
        have hd : dropL key (key f) l = l := filter_above hab
        rw [if_pos h, hd]
        have e1 : putL key f (x :: l) = f :: l := by
          rw [putL, if_pos hle, show (x :: l).filter (fun y => decide (key y ≠ key f)) = dropL key (key f) (x :: l) from rfl, dropL_cons', if_pos h, hd]
        rw [e1]
        cases l with
        | nil => rfl
        | cons y l =>
          have hy := hab y List.mem_cons_self
          rw [putL, if_pos (show leB (key f) (key y) = true from decide_eq_true (sle_iff.2 (slt_asymm hy)))]
          rw [show (y :: l).filter (fun y => decide (key y ≠ key f)) = dropL key (key f) (y :: l) from rfl, hd]
      · have hd : dropL key (key f) l = l := filter_above fun y hy => slt_trans (slt_of_le_ne (leB_true hle) (Ne.symm h)) (hr.head y hy)
        rw [if_neg h, hd]
    · have hlt : key x < key f := leB_false (by simpa using hle)
      rw [dropL_cons', if_neg (slt_ne hlt), putL, if_neg hle, putL, if_neg hle, ih hr.tail]
end
end Go.Proofs.Ytgdabmfdfgdlkaa
