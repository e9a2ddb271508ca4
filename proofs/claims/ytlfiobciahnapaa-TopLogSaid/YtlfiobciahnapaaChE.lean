/- A change's bytes are read as they were written. -/
import Derived.Test.YtlfiobciahnapaaRow5
namespace Go.Proofs.Ytlfiobciahnapaa
open Go Go.RowKit
theorem chBad_key {c : Ch} (h : chBad c = 0) : c.1.length ≤ 10 := by
  unfold chBad at h
  split at h
  · rename_i hs
    unfold chShape at hs
    match hc : c.1, hs with
    | k :: s :: n, hs =>
      simp only [Bool.and_eq_true] at hs
      have hn := hs.1.2
      unfold nameB at hn
      simp only [Bool.and_eq_true, decide_eq_true_eq] at hn
      simp only [List.length_cons]; omega
    | [], hs => simp
    | [_], hs => simp
  · cases h
theorem bt_nat {n : Nat} (h : n < 256) : (bt ((n : Int) % 256)).toNat = n := by
  have e : ((n : Int) % 256).toNat = n := by omega
  unfold bt
  rw [e]
  simp
  omega
theorem chDec_enc {c : Ch} (h : chBad c = 0) : chDec (chEnc c) = some c := by
  have hk := chBad_key h
  have h2 : (bt ((c.1.length : Int) % 256)).toNat = c.1.length := bt_nat (by omega)
  have h1 : (bt (if c.2.2 then 1 else 0)).toNat ≤ 1 := by cases c.2.2 <;> decide
  have h3 : (bt (if c.2.2 then 1 else 0) == 1) = c.2.2 := by cases c.2.2 <;> decide
  unfold chEnc chDec
  simp only [h2, h3]
  rw [if_pos ⟨h1, by simp⟩, List.take_left' rfl, List.drop_left' rfl]
theorem chOf_enc {c : Ch} (h : chBad c = 0) : chTxt c = chEnc c ∧ chOf (chEnc c) = c ∧ chOfF (chEnc c) = 0 := by
  have hg : chGood (chEnc c) = some c := by
    unfold chGood
    rw [chDec_enc h]
    simp [Option.filter, h]
  exact ⟨if_pos h, (chOf_some hg).1, (chOf_some hg).2⟩
theorem chGood_enc {c : Ch} (h : chBad c = 0) : chGood (chEnc c) = some c := by
  unfold chGood
  rw [chDec_enc h]
  simp [Option.filter, h]
theorem chBad_val {c : Ch} (h : chBad c = 0) : c.2.1.length ≤ 300 := by
  unfold chBad at h
  split at h
  · split at h
    · cases h
    · omega
  · cases h
end Go.Proofs.Ytlfiobciahnapaa
