/- D1: the expansion of two texts, one behind the other. Plain. -/
import Derived.Test.YtfbpiafhgkhoiaaExp
namespace Go.Proofs.Ytfbpiafhgkhoiaa
open Go Go.RowKit
def noDollar (a : Str) : Prop := a.getLast? ≠ some 36
theorem index_two_cons (x : UInt8) (s : Str) : Lib.index (x :: s) dlr = if x = 36 ∧ s.head? = some 40 then 0 else if Lib.index s dlr = -1 then -1 else Lib.index s dlr + 1 := by
  have e : List.isPrefixOf dlr (x :: s) = decide (x = 36 ∧ s.head? = some 40) := by
    cases s with
    | nil => simp [List.isPrefixOf]
    | cons y s =>
      simp only [List.isPrefixOf, Bool.and_true, List.head?_cons, Option.some.injEq]
      rw [Bool.eq_iff_iff]
      simp only [Bool.and_eq_true, beq_iff_eq, decide_eq_true_eq]
      constructor
      · rintro ⟨h1, h2⟩; exact ⟨h1.symm, h2.symm⟩
      · rintro ⟨h1, h2⟩; exact ⟨h1.symm, h2.symm⟩
  rw [Lib.index, e]
  simp
/-- The cut, by recursion. -/
def cut2 : Str → Str × Str × Bool
  | [] => ([], [], false)
  | x :: s => if x = 36 ∧ s.head? = some 40 then ([], s.tail, true) else (x :: (cut2 s).1, (cut2 s).2.1, (cut2 s).2.2)
theorem cut2_cons (x : UInt8) (s : Str) : cut2 (x :: s) = if x = 36 ∧ s.head? = some 40 then ([], s.tail, true) else (x :: (cut2 s).1, (cut2 s).2.1, (cut2 s).2.2) := rfl
theorem cut_two : ∀ s : Str, Lib.cut s dlr = cut2 s
  | [] => by simp [Lib.cut, Lib.index, cut2]
  | x :: s => by
    have ih := cut_two s
    have hg := Lib.index_ge s dlr
    unfold Lib.cut at ih ⊢
    rw [index_two_cons]
    unfold cut2
    by_cases h : x = 36 ∧ s.head? = some 40
    · simp only [h, and_self, if_true]
      simp
    · rw [if_neg h, if_neg h, ← ih]
      by_cases h1 : Lib.index s dlr = -1
      · rw [h1]; simp
      · rw [if_neg h1]
        obtain ⟨i, hi⟩ : ∃ i : Nat, Lib.index s dlr = i := ⟨(Lib.index s dlr).toNat, by omega⟩
        rw [hi]
        have e1 : (0 : Int) ≤ (i : Int) + 1 := by omega
        have e2 : (0 : Int) ≤ (i : Int) := by omega
        have e3 : ((i : Int) + 1).toNat = i + 1 := by omega
        simp [e1, e2, e3, Nat.add_right_comm]
theorem noDollar_tail {x y : UInt8} {s : Str} (h : noDollar (x :: y :: s)) : noDollar (y :: s) := by
  unfold noDollar at *
  rwa [List.getLast?_cons_cons] at h
theorem cut2_app_hit (b : Str) : ∀ a : Str, (cut2 a).2.2 = true → cut2 (a ++ b) = ((cut2 a).1, (cut2 a).2.1 ++ b, true)
  | [], h => by simp [cut2] at h
  | x :: a, h => by
    rw [List.cons_append]
    unfold cut2 at h ⊢
    by_cases h1 : x = 36 ∧ a.head? = some 40
    · rw [if_pos h1]
      have h2 : (a ++ b).head? = some 40 := by rw [List.head?_append, h1.2]; rfl
      rw [if_pos ⟨h1.1, h2⟩]
      cases a with
      | nil => simp at h1
      | cons y a => rfl
    · rw [if_neg h1] at h ⊢
      have ih := cut2_app_hit b a h
      have h2 : ¬(x = 36 ∧ (a ++ b).head? = some 40) := by
        rintro ⟨e1, e2⟩
        cases a with
        | nil => simp [cut2] at h
        | cons y a => exact h1 ⟨e1, e2⟩
      rw [if_neg h2, ih]
theorem cut2_app_miss (b : Str) : ∀ a : Str, (cut2 a).2.2 = false → noDollar a → cut2 (a ++ b) = (a ++ (cut2 b).1, (cut2 b).2.1, (cut2 b).2.2)
  | [], _, _ => rfl
  | x :: a, h, hd => by
    rw [List.cons_append]
    rw [cut2_cons] at h ⊢
    by_cases h1 : x = 36 ∧ a.head? = some 40
    · rw [if_pos h1] at h; cases h
    · rw [if_neg h1] at h
      cases a with
      | nil =>
        have hx : x ≠ 36 := by
          intro e; apply hd; rw [e]; rfl
        rw [if_neg (fun e => hx e.1)]
        rfl
      | cons y a =>
        have ih := cut2_app_miss b (y :: a) h (noDollar_tail hd)
        have h1' : ¬(x = 36 ∧ (y :: a ++ b).head? = some 40) := h1
        rw [if_neg h1', ih]
        rfl
theorem cut2_miss_all : ∀ a : Str, (cut2 a).2.2 = false → (cut2 a).1 = a
  | [], _ => rfl
  | x :: a, h => by
    unfold cut2 at h ⊢
    by_cases h1 : x = 36 ∧ a.head? = some 40
    · rw [if_pos h1] at h; cases h
    · rw [if_neg h1] at h ⊢
      rw [cut2_miss_all a h]
theorem cutB_app_hit (c : UInt8) (b : Str) : ∀ a : Str, (cutB c a).2.2 = true → cutB c (a ++ b) = ((cutB c a).1, (cutB c a).2.1 ++ b, true)
  | [], h => by simp [cutB] at h
  | x :: a, h => by
    rw [List.cons_append]
    unfold cutB at h ⊢
    by_cases h1 : x = c
    · rw [if_pos h1, if_pos h1]
    · rw [if_neg h1] at h
      rw [if_neg h1, if_neg h1, cutB_app_hit c b a h]
theorem suffix_noDollar {a p s : Str} (h : noDollar a) (e : a = p ++ s) : noDollar s := by
  subst e
  unfold noDollar at *
  intro h2
  apply h
  rw [List.getLast?_append, h2]
  rfl
theorem cut2_suffix : ∀ a : Str, ∃ p, a = p ++ (cut2 a).2.1
  | [] => ⟨[], by simp [cut2]⟩
  | x :: a => by
    unfold cut2
    by_cases h1 : x = 36 ∧ a.head? = some 40
    · rw [if_pos h1]
      cases a with
      | nil => simp at h1
      | cons y a => exact ⟨[x, y], rfl⟩
    · rw [if_neg h1]
      obtain ⟨p, hp⟩ := cut2_suffix a
      exact ⟨x :: p, congrArg (x :: ·) hp⟩
theorem cutB_suffix (c : UInt8) : ∀ a : Str, ∃ p, a = p ++ (cutB c a).2.1
  | [] => ⟨[], by simp [cutB]⟩
  | x :: a => by
    unfold cutB
    by_cases h1 : x = c
    · rw [if_pos h1]; exact ⟨[x], rfl⟩
    · rw [if_neg h1]
      obtain ⟨p, hp⟩ := cutB_suffix c a
      exact ⟨x :: p, congrArg (x :: ·) hp⟩
section
variable {l : List File} {rec : Str → Str × Int}
theorem expL_step (f : Nat) (s out : Str) : expL l rec (f + 1) s out =
    if (cut2 s).2.2 = false then (if 600 < (out ++ (cut2 s).1).length then ([], 2) else (out ++ (cut2 s).1, 0))
    else if (cutB 41 (cut2 s).2.1).2.2 = false ∨ varB (cutB 41 (cut2 s).2.1).1 = false then ([], 4)
    else match fndL (cutB 41 (cut2 s).2.1).1 l with
      | none => ([], 5)
      | some v => if (rec v.2).2 ≠ 0 then ([], (rec v.2).2) else if 600 < (out ++ (cut2 s).1 ++ (rec v.2).1).length then ([], 2) else expL l rec f (cutB 41 (cut2 s).2.1).2.1 (out ++ (cut2 s).1 ++ (rec v.2).1) := by
  rw [expL, cut_two]
  rfl
theorem expL_fuel : ∀ (f g : Nat) (s out : Str), s.length < f → s.length < g → expL l rec f s out = expL l rec g s out
  | 0, _, s, _, h, _ => by omega
  | _, 0, s, _, _, h => by omega
  | f + 1, g + 1, s, out, hf, hg => by
    rw [expL_step, expL_step]
    have h1 := cut_len s dlr
    have h2 := cutB_len 41 (cut2 s).2.1
    rw [cut_two] at h1
    by_cases hc : (cut2 s).2.2 = false
    · rw [if_pos hc, if_pos hc]
    · rw [if_neg hc, if_neg hc]
      have h3 := cut_lt (s := s) (sep := dlr) (by simp) (by rw [cut_two]; simpa using hc)
      rw [cut_two] at h3
      split
      · rfl
      · split
        · rfl
        · split
          · rfl
          · split
            · rfl
            · exact expL_fuel f g _ _ (by omega) (by omega)
theorem expL_grow : ∀ (f : Nat) (s out y : Str), s.length < f → expL l rec f s out = (y, 0) → out.length ≤ y.length
  | 0, s, _, _, h, _ => by omega
  | f + 1, s, out, y, hf, h => by
    rw [expL_step] at h
    by_cases hc : (cut2 s).2.2 = false
    · rw [if_pos hc] at h
      split at h
      · simp at h
      · injection h with h _
        rw [← h, List.length_append]; omega
    · rw [if_neg hc] at h
      have h3 := cut_lt (s := s) (sep := dlr) (by simp) (by rw [cut_two]; simpa using hc)
      rw [cut_two] at h3
      have h2 := cutB_len 41 (cut2 s).2.1
      split at h
      · simp at h
      · split at h
        · simp at h
        · split at h
          · rename_i hne; injection h with _ h; exact absurd h hne
          · split at h
            · simp at h
            · have := expL_grow f _ _ _ (by omega) h
              simp only [List.length_append] at this
              omega
theorem expL_shift (p : Str) : ∀ (f : Nat) (s out y : Str), s.length < f → expL l rec f s out = (y, 0) → p.length + y.length ≤ 600 → expL l rec f s (p ++ out) = (p ++ y, 0)
  | 0, s, _, _, h, _, _ => by omega
  | f + 1, s, out, y, hf, h, hl => by
    rw [expL_step] at h ⊢
    by_cases hc : (cut2 s).2.2 = false
    · rw [if_pos hc] at h ⊢
      split at h
      · simp at h
      · injection h with h _
        subst h
        rw [if_neg (by simp only [List.length_append] at hl ⊢; omega), List.append_assoc]
    · rw [if_neg hc] at h ⊢
      have h3 := cut_lt (s := s) (sep := dlr) (by simp) (by rw [cut_two]; simpa using hc)
      rw [cut_two] at h3
      have h2 := cutB_len 41 (cut2 s).2.1
      split at h
      · simp at h
      · rename_i hn
        rw [if_neg hn]
        split at h
        · simp at h
        · rename_i v hv
          split at h
          · rename_i hne; injection h with _ h; exact absurd h hne
          · rename_i hz
            rw [if_neg hz]
            split at h
            · simp at h
            · have hg := expL_grow f _ _ _ (by omega) h
              simp only [List.length_append] at hg
              rw [if_neg (by simp only [List.length_append]; omega)]
              have := expL_shift p f _ _ _ (by omega) h hl
              simpa only [List.append_assoc] using this
theorem expL_app (b y : Str) (fb : Nat) (hfb : b.length < fb) (hb : expL l rec fb b [] = (y, 0)) : ∀ (f : Nat) (a out x : Str), a.length < f → noDollar a → expL l rec f a out = (x, 0) → x.length + y.length ≤ 600 → ∀ g, (a ++ b).length < g → expL l rec g (a ++ b) out = (x ++ y, 0)
  | 0, a, _, _, h, _, _, _, _, _ => by omega
  | f + 1, a, out, x, hf, hd, h, hl, g, hg => by
    obtain ⟨g, rfl⟩ : ∃ k, g = k + 1 := ⟨g - 1, by omega⟩
    rw [expL_step] at h
    by_cases hc : (cut2 a).2.2 = false
    · rw [if_pos hc] at h
      split at h
      · simp at h
      · injection h with h _
        rw [cut2_miss_all a hc] at h
        subst h
        have h1 := expL_shift (out ++ a) fb b [] y hfb hb hl
        rw [List.append_nil] at h1
        rw [← h1]
        rw [List.length_append] at hg
        rw [expL_fuel fb (g + 1) b (out ++ a) hfb (by omega), expL_step, expL_step, cut2_app_miss b a hc hd]
        simp only [List.append_assoc]
    · rw [if_neg hc] at h
      have hct : (cut2 a).2.2 = true := by simpa using hc
      have h3 := cut_lt (s := a) (sep := dlr) (by simp) (by rw [cut_two]; exact hct)
      rw [cut_two] at h3
      have h2 := cutB_len 41 (cut2 a).2.1
      rw [expL_step, cut2_app_hit b a hct]
      dsimp only
      rw [if_neg (by simp)]
      split at h
      · simp at h
      · rename_i hn
        have hn1 : (cutB 41 (cut2 a).2.1).2.2 = true := by
          cases hq : (cutB 41 (cut2 a).2.1).2.2 with
          | true => rfl
          | false => exact absurd (Or.inl hq) hn
        rw [cutB_app_hit 41 b _ hn1]
        dsimp only
        rw [if_neg (fun e => e.elim (fun e => by cases e) (fun e => hn (.inr e)))]
        split at h
        · simp at h
        · split at h
          · rename_i hne; injection h with _ h; exact absurd h hne
          · rename_i hz
            rw [if_neg hz]
            split at h
            · simp at h
            · rename_i hlen
              rw [if_neg hlen]
              obtain ⟨p1, e1⟩ := cut2_suffix a
              obtain ⟨p2, e2⟩ := cutB_suffix 41 (cut2 a).2.1
              refine expL_app b y fb hfb hb f _ _ _ (by omega) (suffix_noDollar (suffix_noDollar hd e1) e2) h hl g ?_
              simp only [List.length_append] at hg ⊢
              omega
end
theorem exp_app {l : List File} {d : Nat} {a b x y : Str} (hd : noDollar a) (ha : exp l (d + 1) a = (x, 0)) (hb : exp l (d + 1) b = (y, 0)) (hl : x.length + y.length ≤ 600) : exp l (d + 1) (a ++ b) = (x ++ y, 0) :=
  expL_app b y (b.length + 1) (Nat.lt_succ_self _) hb (a.length + 1) a [] x (Nat.lt_succ_self _) hd ha hl _ (Nat.lt_succ_self _)
end Go.Proofs.Ytfbpiafhgkhoiaa
