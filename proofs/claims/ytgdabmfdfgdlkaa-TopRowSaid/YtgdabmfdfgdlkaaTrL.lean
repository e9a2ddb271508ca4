/- Plain laws on rows: what was encoded is decoded; the last change of a key counts. -/
import Derived.Test.YtgdabmfdfgdlkaaRow9
import Derived.Test.YtgdabmfdfgdlkaaFilesM
namespace Go.Proofs.Ytgdabmfdfgdlkaa
open Go Go.RowKit
theorem mem_of_getL {l : List Ch} {k : Str} {x : Ch} (h : getL ck k l = some x) : x ∈ l ∧ ck x = k := by
  unfold getL at h
  have h1 := List.mem_of_find?_eq_some h
  have h2 := List.find?_some h
  exact ⟨h1, by simpa using h2⟩
theorem getL_of_mem {l : List Ch} (h : Rise ck l) {x : Ch} (hx : x ∈ l) : getL ck (ck x) l = some x := by
  induction l with
  | nil => cases hx
  | cons y l ih =>
    rw [getL_cons]
    rcases List.mem_cons.1 hx with rfl | hx
    · rw [if_pos rfl]
    · rw [if_neg (slt_ne (h.head x hx)), ih h.tail hx]
theorem rise_ext : ∀ {l m : List Ch}, Rise ck l → Rise ck m → (∀ k, getL ck k l = getL ck k m) → l = m
  | [], [], _, _, _ => rfl
  | [], y :: m, _, _, h => by
    have := h (ck y)
    rw [getL_cons, if_pos rfl] at this
    simp [getL] at this
  | x :: l, [], _, _, h => by
    have := h (ck x)
    rw [getL_cons, if_pos rfl] at this
    simp [getL] at this
  | x :: l, y :: m, hl, hm, h => by
    have hxy : ck x = ck y := by
      by_cases h1 : ck x = ck y
      · exact h1
      · exfalso
        have e1 := h (ck x)
        rw [getL_cons, if_pos rfl, getL_cons, if_neg (Ne.symm h1)] at e1
        have e2 := h (ck y)
        rw [getL_cons, if_neg h1, getL_cons, if_pos rfl] at e2
        have m1 := mem_of_getL e1.symm
        have m2 := mem_of_getL e2
        have l1 := hm.head _ m1.1
        have l2 := hl.head _ m2.1
        exact slt_asymm l1 l2
    have e : x = y := by
      have e1 := h (ck x)
      rw [getL_cons, if_pos rfl, getL_cons, if_pos hxy.symm] at e1
      exact Option.some.inj e1
    subst e
    congr 1
    refine rise_ext hl.tail hm.tail fun k => ?_
    have e1 := h k
    rw [getL_cons, getL_cons] at e1
    by_cases hk : ck x = k
    · have n1 : getL ck k l = none := by
        cases hg : getL ck k l with
        | none => rfl
        | some z =>
          have hz := mem_of_getL hg
          have := hl.head z hz.1
          exact absurd (hk.trans hz.2.symm) (slt_ne this)
      have n2 : getL ck k m = none := by
        cases hg : getL ck k m with
        | none => rfl
        | some z =>
          have hz := mem_of_getL hg
          have := hm.head z hz.1
          exact absurd (hk.trans hz.2.symm) (slt_ne this)
      rw [n1, n2]
    · rw [if_neg hk, if_neg hk] at e1
      exact e1
theorem getL_apply1 (rows : List Ch) (c : Ch) (k : Str) : getL ck k (apply1 rows c) = if k = c.1 then (if c.2.2 then none else some c) else getL ck k rows := by
  unfold apply1
  by_cases hk : k = c.1
  · subst hk
    rw [if_pos rfl]
    cases c.2.2 with
    | true => exact getL_drop _ _
    | false => exact getL_put c rows
  · rw [if_neg hk]
    cases c.2.2 with
    | true => exact getL_filter hk rows
    | false => exact getL_put_ne c hk rows
theorem apply_last {rows : List Ch} (h : Rise ck rows) (a b : Ch) (e : a.1 = b.1) : applyL rows [a, b] = applyL rows [b] := by
  refine rise_ext (applyL_rise h _) (applyL_rise h _) fun k => ?_
  show getL ck k (apply1 (apply1 rows a) b) = getL ck k (apply1 rows b)
  rw [getL_apply1, getL_apply1, getL_apply1, e]
  by_cases hk : k = b.1
  · rw [if_pos hk, if_pos hk]
  · rw [if_neg hk, if_neg hk, if_neg hk]
theorem apply_swap {rows : List Ch} (h : Rise ck rows) (a b : Ch) (e : a.1 ≠ b.1) : applyL rows [a, b] = applyL rows [b, a] := by
  refine rise_ext (applyL_rise h _) (applyL_rise h _) fun k => ?_
  show getL ck k (apply1 (apply1 rows a) b) = getL ck k (apply1 (apply1 rows b) a)
  rw [getL_apply1, getL_apply1, getL_apply1, getL_apply1]
  by_cases hk : k = b.1
  · subst hk
    rw [if_pos rfl, if_neg (Ne.symm e), if_pos rfl]
  · rw [if_neg hk, if_neg hk]
theorem chBad_key {c : Ch} (h : chBad c = 0) : c.1.length ≤ 10 := by
  unfold chBad at h
  split at h
  · rename_i hs
    unfold chShape at hs
    match hc : c.1, hs with
    | k :: s :: n, hs =>
      simp only [Bool.and_eq_true] at hs
      have hn := hs.1.2
      unfold nameB at hn
      simp only [Bool.and_eq_true, decide_eq_true_eq] at hn
      simp only [List.length_cons]; omega
    | [], hs => simp
    | [_], hs => simp
  · cases h
theorem bt_nat {n : Nat} (h : n < 256) : (bt ((n : Int) % 256)).toNat = n := by
  have e : ((n : Int) % 256).toNat = n := by omega
  unfold bt
  rw [e]
  simp
  omega
theorem chDec_enc {c : Ch} (h : chBad c = 0) : chDec (chEnc c) = some c := by
  have hk := chBad_key h
  have h2 : (bt ((c.1.length : Int) % 256)).toNat = c.1.length := bt_nat (by omega)
  have h1 : (bt (if c.2.2 then 1 else 0)).toNat ≤ 1 := by cases c.2.2 <;> decide
  have h3 : (bt (if c.2.2 then 1 else 0) == 1) = c.2.2 := by cases c.2.2 <;> decide
  unfold chEnc chDec
  simp only [h2, h3]
  rw [if_pos ⟨h1, by simp⟩, List.take_left' rfl, List.drop_left' rfl]
theorem chOf_enc {c : Ch} (h : chBad c = 0) : chTxt c = chEnc c ∧ chOf (chEnc c) = c ∧ chOfF (chEnc c) = 0 := by
  have hg : chGood (chEnc c) = some c := by
    unfold chGood
    rw [chDec_enc h]
    simp [Option.filter, h]
  exact ⟨if_pos h, (chOf_some hg).1, (chOf_some hg).2⟩
theorem chEnc_len {c : Ch} : (chEnc c).length = c.1.length + c.2.1.length + 2 := by
  simp [chEnc]
end Go.Proofs.Ytgdabmfdfgdlkaa
