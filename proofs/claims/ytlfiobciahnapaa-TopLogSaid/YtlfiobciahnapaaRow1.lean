/- A change: what is wrong with it; strings.Cut. -/
import Derived.Test.YtlfiobciahnapaaName
import Derived.Test.YtlfiobciahnapaaErrs
import Derived.Test.YtlfiobciahnapaaShelf
import Derived.Test.YtlfiobciahnapaaChs
import Derived.Test.YtlfiobciahnapaaMl
import Derived.Test.YtlfiobciahnapaaCutB
namespace Go.Proofs.Ytlfiobciahnapaa
open Go Go.RowKit
theorem Cut_c (s sep : Str) (hs : s.length < 4294967281) {w : World} (hm : Ml w) :
    Calls Try.prog 43 #[S s, S sep] w fun e w' => e = .returned (.tuple #[S (Lib.cut s sep).1, S (Lib.cut s sep).2.1, .bool (Lib.cut s sep).2.2]) ∧ Ext w w' := by
  obtain ⟨m, hm⟩ := hm
  refine (Try.strings_Cut ⟨s.toArray⟩ ⟨sep.toArray⟩ m w hs hm).mono ?_
  rintro e w' ⟨rfl, n, rfl⟩
  exact ⟨rfl, (Only.refl No w).drewN n⟩
/-- K1: what is wrong with a change. -/
def keyKind : Str → UInt8
  | k :: _ => k
  | [] => 0
def chShape (c : Ch) : Bool := (match c.1 with | k :: s :: n => (k == 102 || k == 100) && s == 47 && nameB n | _ => false) && !(c.2.2 && !(c.2.1 == []))
def chBad (c : Ch) : Int := if chShape c then (if 300 < c.2.1.length ∨ (keyKind c.1 = 102 ∧ 20 < c.2.1.length) then 2 else 0) else 3
theorem chBad_nonneg (c : Ch) : 0 ≤ chBad c := by unfold chBad; split <;> (try split) <;> omega
theorem cut_slash (key : Str) : ((cutB 47 key).2.2 = true → ((cutB 47 key).1 = [102] ∨ (cutB 47 key).1 = [100]) → ∃ k, (k = 102 ∨ k = 100) ∧ (cutB 47 key).1 = [k] ∧ key = k :: 47 :: (cutB 47 key).2.1) ∧
    (∀ k n, (k = 102 ∨ k = 100) → key = k :: 47 :: n → cutB 47 key = ([k], n, true)) := by
  constructor
  · intro h1 h2
    match key with
    | [] => simp [cutB] at h1
    | x :: s =>
      by_cases hx : x = 47
      · subst hx
        rcases h2 with h2 | h2 <;> simp [cutB] at h2
      · unfold cutB at h1 h2 ⊢
        rw [if_neg hx] at h1 h2 ⊢
        match s with
        | [] => simp [cutB] at h1
        | y :: s =>
          by_cases hy : y = 47
          · subst hy
            simp [cutB] at h2 ⊢
            exact h2
          · exfalso
            unfold cutB at h2
            rw [if_neg hy] at h2
            simp at h2
  · rintro k n hk rfl
    rcases hk with rfl | rfl <;> simp [cutB]
end Go.Proofs.Ytlfiobciahnapaa
