/- Patterns among the targets. -/
import Derived.Test.YtnhaekifcieeoaaMkM
import Derived.Test.YtnhaekifcieeoaaStrs
namespace Go.Proofs.Ytnhaekifcieeoaa
open Go Go.RowKit
theorem SlR.take {α : Type} {T : Flat α} {w : World} {A : Option Addr} {n k : Nat} {xs : List α} (h : SlR T w A n xs) (hk : k ≤ n) : SlR T w A k (xs.take k) := by
  refine ⟨by rw [List.length_take, h.1]; omega, fun hn => ?_⟩
  obtain ⟨b, o, e, hb, hc⟩ := h.2 (by omega)
  refine ⟨b, o, e, hb, fun i x hx j u hu => ?_⟩
  rw [List.getElem?_take] at hx
  split at hx
  · exact hc i x hx j u hu
  · cases hx
theorem splB_mem (c : UInt8) : ∀ (s : Str), ∀ l ∈ splB c s, l.length ≤ s.length
  | [], l, h => by
    have h2 : l ∈ [([] : Str)] := h
    simp at h2
    subst h2
    exact Nat.le_refl _
  | x :: s, l, h => by
    have ih := splB_mem c s
    rw [splB_app] at h
    split at h
    · rcases List.mem_cons.1 h with rfl | h
      · exact Nat.zero_le _
      · have := ih l h
        simp only [List.length_cons]; omega
    · cases hL : splB c s with
      | nil => exact absurd hL (splB_ne c s)
      | cons a t =>
        rw [hL] at h ih
        simp only [headApp, List.mem_cons] at h
        rcases h with rfl | h
        · have := ih a (by simp)
          simp only [List.length_append, List.length_cons, List.length_nil]; omega
        · have := ih l (List.mem_cons_of_mem _ h)
          simp only [List.length_cons]; omega
theorem fieldsF_mem {s l : Str} (h : l ∈ fieldsF s) : l.length ≤ s.length := splB_mem 32 s l (List.mem_filter.1 h).1
theorem fieldsF_le (s : Str) : (fieldsF s).length ≤ s.length + 1 := Nat.le_trans (List.length_filter_le _ _) (splB_le 32 s)
theorem okFrom_cons (p : Bool) (seen r : List Str) (x : Str) : okFrom p seen (x :: r) = (wordB x && !inS seen x && (p || !patB x) && okFrom p (seen ++ [x]) r) := rfl
theorem take_succ_get {α : Type} {xs : List α} {k : Nat} {x : α} (hx : xs[k]? = some x) : xs.take (k + 1) = xs.take k ++ [x] := by rw [List.take_add_one, hx]; rfl
theorem drop_get {α : Type} {xs : List α} {k : Nat} {x : α} (hx : xs[k]? = some x) : xs.drop k = x :: xs.drop (k + 1) := by
  obtain ⟨hk, rfl⟩ := List.getElem?_eq_some_iff.1 hx
  exact List.drop_eq_getElem_cons hk
theorem any_take_succ {α : Type} (p : α → Bool) {xs : List α} {k : Nat} {x : α} (hx : xs[k]? = some x) : (xs.take (k + 1)).any p = ((xs.take k).any p || p x) := by
  rw [List.take_add_one, List.any_append, hx]
  simp
end Go.Proofs.Ytnhaekifcieeoaa
