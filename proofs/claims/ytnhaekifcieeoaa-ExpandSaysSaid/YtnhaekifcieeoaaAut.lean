/- D2: what stands for the marks of a command. Plain: no program. -/
import Derived.Test.YtnhaekifcieeoaaData
namespace Go.Proofs.Ytnhaekifcieeoaa
open Go Go.RowKit
/-- The text for the byte behind '$', if there is one. -/
abbrev KeyV := UInt8 → Option Str
def keyV (t f n k : Str) : KeyV := fun c => if c = 64 then some t else if c = 60 then some f else if c = 94 then some n else if c = 42 then some k else none
def autoF (v : KeyV) : Str → Str
  | [] => []
  | [x] => [x]
  | x :: y :: r => if x = 36 then (match v y with | some t => t ++ autoF v r | none => x :: autoF v (y :: r)) else x :: autoF v (y :: r)
def lookF (v : KeyV) : Str → Option Str
  | x :: y :: _ => if x = 36 then v y else none
  | _ => none
def joinSp : List Str → Str
  | [] => []
  | [x] => x
  | x :: y :: r => x ++ 32 :: joinSp (y :: r)
theorem autoF_look (v : KeyV) (x : UInt8) (r : Str) : autoF v (x :: r) = match lookF v (x :: r) with | some t => t ++ autoF v (r.drop 1) | none => x :: autoF v r := by
  cases r with
  | nil => rfl
  | cons y r =>
    by_cases hx : x = 36
    · cases h : v y <;> simp [autoF, lookF, hx, h]
    · simp [autoF, lookF, hx]
theorem autoF_drop_hit {v : KeyV} {s t : Str} {i : Nat} (h : lookF v (s.drop i) = some t) : autoF v (s.drop i) = t ++ autoF v (s.drop (i + 2)) ∧ i + 2 ≤ s.length := by
  cases hs : s.drop i with
  | nil => rw [hs] at h; cases h
  | cons x r =>
    rw [hs] at h
    have hl : r ≠ [] := by
      rintro rfl
      cases h
    have h2 : s.drop (i + 2) = r.drop 1 := by
      rw [Nat.add_comm i 2, ← List.drop_drop, List.drop_drop, Nat.add_comm 2 i, ← List.drop_drop, hs]
      rfl
    rw [autoF_look, h, h2]
    refine ⟨rfl, ?_⟩
    have := congrArg List.length hs
    have hr := List.length_pos_iff.2 hl
    simp only [List.length_drop, List.length_cons] at this
    omega
theorem autoF_drop_miss {v : KeyV} {s : Str} {i : Nat} (h : lookF v (s.drop i) = none) (hi : i < s.length) : autoF v (s.drop i) = s[i] :: autoF v (s.drop (i + 1)) := by
  rw [List.drop_eq_getElem_cons hi] at h ⊢
  rw [autoF_look, h]
theorem autoF_len {v : KeyV} {K : Nat} (hv : ∀ c t, v c = some t → t.length ≤ K) : ∀ s : Str, (autoF v s).length ≤ s.length * (K + 1)
  | [] => by simp [autoF]
  | [x] => by simp [autoF]
  | x :: y :: r => by
    have h1 := autoF_len hv (y :: r)
    have h2 := autoF_len hv r
    rw [autoF_look]
    have e1 : (x :: y :: r).length * (K + 1) = r.length * (K + 1) + (K + 1) + (K + 1) := by simp only [List.length_cons, Nat.succ_mul]
    have e2 : (y :: r).length * (K + 1) = r.length * (K + 1) + (K + 1) := by simp only [List.length_cons, Nat.succ_mul]
    rw [e2] at h1
    rw [e1]
    cases h : lookF v (x :: y :: r) with
    | none => simp only [List.length_cons]; omega
    | some t =>
      have : t.length ≤ K := by
        by_cases hx : x = 36
        · simp only [lookF, hx, if_true] at h
          exact hv _ _ h
        · simp [lookF, hx] at h
      simp only [List.length_append, List.drop_succ_cons, List.drop_zero]
      omega
theorem keyV_len {t f n k : Str} {K : Nat} (h1 : t.length ≤ K) (h2 : f.length ≤ K) (h3 : n.length ≤ K) (h4 : k.length ≤ K) : ∀ c u, keyV t f n k c = some u → u.length ≤ K := by
  intro c u h
  unfold keyV at h
  split at h
  · cases h; exact h1
  · split at h
    · cases h; exact h2
    · split at h
      · cases h; exact h3
      · split at h
        · cases h; exact h4
        · cases h
theorem joinSp_len {K : Nat} : ∀ {l : List Str}, (∀ x ∈ l, x.length ≤ K) → (joinSp l).length ≤ l.length * (K + 1)
  | [], _ => by simp [joinSp]
  | [x], h => by have := h x (by simp); simp [joinSp]; omega
  | x :: y :: r, h => by
    have h1 := joinSp_len (l := y :: r) (fun z hz => h z (List.mem_cons_of_mem _ hz))
    have h2 := h x (by simp)
    have e1 : (x :: y :: r).length * (K + 1) = (y :: r).length * (K + 1) + (K + 1) := by rw [List.length_cons, Nat.succ_mul]
    rw [e1]
    simp only [joinSp, List.length_append, List.length_cons] at h1 ⊢
    omega
theorem joinSp_snoc : ∀ (l : List Str) (x : Str), l ≠ [] → joinSp (l ++ [x]) = joinSp l ++ 32 :: x
  | [], _, h => absurd rfl h
  | [y], x, _ => rfl
  | y :: z :: r, x, _ => by
    have := joinSp_snoc (z :: r) x (by simp)
    show y ++ 32 :: joinSp (z :: r ++ [x]) = (y ++ 32 :: joinSp (z :: r)) ++ 32 :: x
    rw [this]
    simp
end Go.Proofs.Ytnhaekifcieeoaa
