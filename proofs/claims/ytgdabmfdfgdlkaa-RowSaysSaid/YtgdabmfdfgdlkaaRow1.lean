/- A change: what is wrong with it; strings.Cut. -/
import Derived.Test.YtgdabmfdfgdlkaaName
import Derived.Test.YtgdabmfdfgdlkaaErrs
import Derived.Test.YtgdabmfdfgdlkaaShelf
import Derived.Test.YtgdabmfdfgdlkaaChs
import Derived.Lib.IndexMore
namespace Go.Proofs.Ytgdabmfdfgdlkaa
open Go Go.RowKit
/-- The library's variable internal/bytealg.MaxLen holds some number. -/
def Ml (w : World) : Prop := ∃ m, w.cell? ⟨0, 0, none⟩ = some (.int .i64 m)
theorem Ml.only {w v : World} {F : Nat → Prop} (h : Ml w) (hx : Only F w v) (hF : ¬ F 0) : Ml v := by
  obtain ⟨m, hm⟩ := h
  exact ⟨m, (hx.cell (World.block_lt_of_cell? _ _ hm) hF).trans hm⟩
theorem Ml.ext {w v : World} (h : Ml w) (hx : Ext w v) : Ml v := h.only hx id
theorem Cut_c (s sep : Str) (hs : s.length < 4294967281) {w : World} (hm : Ml w) :
    Calls Try.prog 53 #[S s, S sep] w fun e w' => e = .returned (.tuple #[S (Lib.cut s sep).1, S (Lib.cut s sep).2.1, .bool (Lib.cut s sep).2.2]) ∧ Ext w w' := by
  obtain ⟨m, hm⟩ := hm
  refine (Try.strings_Cut ⟨s.toArray⟩ ⟨sep.toArray⟩ m w hs hm).mono ?_
  rintro e w' ⟨rfl, n, rfl⟩
  exact ⟨rfl, (Only.refl No w).drewN n⟩
/-- A text cut at a byte. -/
def cutB (c : UInt8) : Str → Str × Str × Bool
  | [] => ([], [], false)
  | x :: s => if x = c then ([], s, true) else (x :: (cutB c s).1, (cutB c s).2.1, (cutB c s).2.2)
theorem index_byte_cons (c x : UInt8) (s : Str) : Lib.index (x :: s) [c] = if x = c then 0 else if Lib.index s [c] = -1 then -1 else Lib.index s [c] + 1 := by
  have e : List.isPrefixOf [c] (x :: s) = decide (x = c) := by
    simp only [List.isPrefixOf, Bool.and_true]
    by_cases h : x = c
    · simp [h]
    · simp [h, Ne.symm h]
  rw [Lib.index, e]
  simp
theorem cut_byte (c : UInt8) : ∀ s : Str, Lib.cut s [c] = cutB c s
  | [] => by simp [Lib.cut, Lib.index, cutB]
  | x :: s => by
    have ih := cut_byte c s
    have hg := Lib.index_ge s [c]
    unfold Lib.cut at ih ⊢
    rw [index_byte_cons]
    unfold cutB
    by_cases h : x = c
    · simp [h]
    · rw [if_neg h, if_neg h, ← ih]
      by_cases h1 : Lib.index s [c] = -1
      · rw [h1]; simp
      · rw [if_neg h1]
        obtain ⟨i, hi⟩ : ∃ i : Nat, Lib.index s [c] = i := ⟨(Lib.index s [c]).toNat, by omega⟩
        rw [hi]
        have e1 : (0 : Int) ≤ (i : Int) + 1 := by omega
        have e2 : (0 : Int) ≤ (i : Int) := by omega
        have e3 : ((i : Int) + 1).toNat = i + 1 := by omega
        simp [e1, e2, e3]
/-- K1: what is wrong with a change. -/
def keyKind : Str → UInt8
  | k :: _ => k
  | [] => 0
def chShape (c : Ch) : Bool := (match c.1 with | k :: s :: n => (k == 102 || k == 100) && s == 47 && nameB n | _ => false) && !(c.2.2 && !(c.2.1 == []))
def chBad (c : Ch) : Int := if chShape c then (if 300 < c.2.1.length ∨ (keyKind c.1 = 102 ∧ 20 < c.2.1.length) then 2 else 0) else 3
theorem chBad_nonneg (c : Ch) : 0 ≤ chBad c := by unfold chBad; split <;> (try split) <;> omega
theorem cut_slash (key : Str) : ((cutB 47 key).2.2 = true → ((cutB 47 key).1 = [102] ∨ (cutB 47 key).1 = [100]) → ∃ k, (k = 102 ∨ k = 100) ∧ (cutB 47 key).1 = [k] ∧ key = k :: 47 :: (cutB 47 key).2.1) ∧
    (∀ k n, (k = 102 ∨ k = 100) → key = k :: 47 :: n → cutB 47 key = ([k], n, true)) := by
  constructor
  · intro h1 h2
    match key with
    | [] => simp [cutB] at h1
    | x :: s =>
      by_cases hx : x = 47
      · subst hx
        rcases h2 with h2 | h2 <;> simp [cutB] at h2
      · unfold cutB at h1 h2 ⊢
        rw [if_neg hx] at h1 h2 ⊢
        match s with
        | [] => simp [cutB] at h1
        | y :: s =>
          by_cases hy : y = 47
          · subst hy
            simp [cutB] at h2 ⊢
            exact h2
          · exfalso
            unfold cutB at h2
            rw [if_neg hy] at h2
            simp at h2
  · rintro k n hk rfl
    rcases hk with rfl | rfl <;> simp [cutB]
end Go.Proofs.Ytgdabmfdfgdlkaa
