/- Put together: Ml, CutB, Row1, Row2, Row3, Row4, Row5. -/
import Derived.Test.YtaphmmobmadfoaaProg
import Derived.Test.YtaphmmobmadfoaaMc01
import Derived.Lib.IndexMore
import Derived.Test.YtaphmmobmadfoaaMc10
import Derived.Test.YtaphmmobmadfoaaMc07
import Derived.Test.YtaphmmobmadfoaaShelf
import Derived.Test.YtaphmmobmadfoaaMc03
import Derived.Test.YtaphmmobmadfoaaMc04
import Derived.Laws.ResultCell
/- The library's variable that strings.Index reads. -/
namespace Go.Proofs.Ytaphmmobmadfoaa
open Go Go.RowKit
/-- The library's variable internal/bytealg.MaxLen holds some number. -/
def Ml (w : World) : Prop := ∃ m, w.cell? ⟨0, 0, none⟩ = some (.int .i64 m)
theorem Ml.only {w v : World} {F : Nat → Prop} (h : Ml w) (hx : Only F w v) (hF : ¬ F 0) : Ml v := by
  obtain ⟨m, hm⟩ := h
  exact ⟨m, (hx.cell (World.block_lt_of_cell? _ _ hm) hF).trans hm⟩
theorem Ml.ext {w v : World} (h : Ml w) (hx : Ext w v) : Ml v := h.only hx id
end Go.Proofs.Ytaphmmobmadfoaa

/- A text cut at a byte: plain lists. -/
namespace Go.Proofs.Ytaphmmobmadfoaa
open Go Go.RowKit
/-- A text cut at a byte. -/
def cutB (c : UInt8) : Str → Str × Str × Bool
  | [] => ([], [], false)
  | x :: s => if x = c then ([], s, true) else (x :: (cutB c s).1, (cutB c s).2.1, (cutB c s).2.2)
theorem index_byte_cons (c x : UInt8) (s : Str) : Lib.index (x :: s) [c] = if x = c then 0 else if Lib.index s [c] = -1 then -1 else Lib.index s [c] + 1 := by
  have e : List.isPrefixOf [c] (x :: s) = decide (x = c) := by
    simp only [List.isPrefixOf, Bool.and_true]
    by_cases h : x = c
    · simp [h]
    · simp [h, Ne.symm h]
  rw [Lib.index, e]
  simp
theorem cut_byte (c : UInt8) : ∀ s : Str, Lib.cut s [c] = cutB c s
  | [] => by simp [Lib.cut, Lib.index, cutB]
  | x :: s => by
    have ih := cut_byte c s
    have hg := Lib.index_ge s [c]
    unfold Lib.cut at ih ⊢
    rw [index_byte_cons]
    unfold cutB
    by_cases h : x = c
    · simp [h]
    · rw [if_neg h, if_neg h, ← ih]
      by_cases h1 : Lib.index s [c] = -1
      · rw [h1]; simp
      · rw [if_neg h1]
        obtain ⟨i, hi⟩ : ∃ i : Nat, Lib.index s [c] = i := ⟨(Lib.index s [c]).toNat, by omega⟩
        rw [hi]
        have e1 : (0 : Int) ≤ (i : Int) + 1 := by omega
        have e2 : (0 : Int) ≤ (i : Int) := by omega
        have e3 : ((i : Int) + 1).toNat = i + 1 := by omega
        simp [e1, e2, e3]
end Go.Proofs.Ytaphmmobmadfoaa

/- A change: what is wrong with it; strings.Cut. -/
namespace Go.Proofs.Ytaphmmobmadfoaa
open Go Go.RowKit
theorem Cut_c (s sep : Str) (hs : s.length < 4294967281) {w : World} (hm : Ml w) :
    Calls Try.prog 60 #[S s, S sep] w fun e w' => e = .returned (.tuple #[S (Lib.cut s sep).1, S (Lib.cut s sep).2.1, .bool (Lib.cut s sep).2.2]) ∧ Ext w w' := by
  obtain ⟨m, hm⟩ := hm
  refine (Try.strings_Cut ⟨s.toArray⟩ ⟨sep.toArray⟩ m w hs hm).mono ?_
  rintro e w' ⟨rfl, n, rfl⟩
  exact ⟨rfl, (Only.refl No w).drewN n⟩
/-- K1: what is wrong with a change. -/
def keyKind : Str → UInt8
  | k :: _ => k
  | [] => 0
def chShape (c : Ch) : Bool := (match c.1 with | k :: s :: n => (k == 102 || k == 100) && s == 47 && nameB n | _ => false) && !(c.2.2 && !(c.2.1 == []))
def chBad (c : Ch) : Int := if chShape c then (if 300 < c.2.1.length ∨ (keyKind c.1 = 102 ∧ 20 < c.2.1.length) then 2 else 0) else 3
theorem chBad_nonneg (c : Ch) : 0 ≤ chBad c := by unfold chBad; split <;> (try split) <;> omega
theorem cut_slash (key : Str) : ((cutB 47 key).2.2 = true → ((cutB 47 key).1 = [102] ∨ (cutB 47 key).1 = [100]) → ∃ k, (k = 102 ∨ k = 100) ∧ (cutB 47 key).1 = [k] ∧ key = k :: 47 :: (cutB 47 key).2.1) ∧
    (∀ k n, (k = 102 ∨ k = 100) → key = k :: 47 :: n → cutB 47 key = ([k], n, true)) := by
  constructor
  · intro h1 h2
    match key with
    | [] => simp [cutB] at h1
    | x :: s =>
      by_cases hx : x = 47
      · subst hx
        rcases h2 with h2 | h2 <;> simp [cutB] at h2
      · unfold cutB at h1 h2 ⊢
        rw [if_neg hx] at h1 h2 ⊢
        match s with
        | [] => simp [cutB] at h1
        | y :: s =>
          by_cases hy : y = 47
          · subst hy
            simp [cutB] at h2 ⊢
            exact h2
          · exfalso
            unfold cutB at h2
            rw [if_neg hy] at h2
            simp at h2
  · rintro k n hk rfl
    rcases hk with rfl | rfl <;> simp [cutB]
end Go.Proofs.Ytaphmmobmadfoaa

/- row.Check, the document's fault of a change. -/
namespace Go.Proofs.Ytaphmmobmadfoaa
open Go Go.RowKit
theorem length_cutB (c : UInt8) : ∀ s : Str, (cutB c s).1.length + (cutB c s).2.1.length ≤ s.length
  | [] => by simp [cutB]
  | x :: s => by
    have ih := length_cutB c s
    unfold cutB
    split
    · simp
    · simp; omega
theorem chBad_cut (key val : Str) (gone : Bool) : chBad (key, val, gone) = if (cutB 47 key).2.2 && ((cutB 47 key).1 == [102] || (cutB 47 key).1 == [100]) && nameB (cutB 47 key).2.1 && !(gone && !(val == [])) then
    (if ((cutB 47 key).1 == [102] && decide (20 < val.length)) || decide (300 < val.length) then 2 else 0) else 3 := by
  obtain ⟨h1, h2⟩ := cut_slash key
  by_cases hk : ∃ k n, (k = 102 ∨ k = 100) ∧ key = k :: 47 :: n
  · obtain ⟨k, n, hk, rfl⟩ := hk
    rw [h2 k n hk rfl]
    unfold chBad chShape keyKind
    rcases hk with rfl | rfl <;> simp [Or.comm]
  · have e1 : chShape (key, val, gone) = false := by
      unfold chShape
      match key with
      | [] => rfl
      | [_] => rfl
      | x :: y :: n =>
        simp only [Bool.and_eq_false_iff]
        left; left
        by_cases hy : y = 47
        · subst hy
          left
          have : ¬ (x = 102 ∨ x = 100) := fun h => hk ⟨x, n, h, rfl⟩
          simpa using this
        · right; simpa using hy
    have e2 : ((cutB 47 key).2.2 && ((cutB 47 key).1 == [102] || (cutB 47 key).1 == [100])) = false := by
      rw [Bool.eq_false_iff]
      intro h
      simp only [Bool.and_eq_true, Bool.or_eq_true, beq_iff_eq] at h
      obtain ⟨k, hk', _, e⟩ := h1 h.1 h.2
      exact hk ⟨k, _, hk', e⟩
    unfold chBad
    rw [e1, e2]
    rfl
set_option maxRecDepth 100000 in
set_option maxHeartbeats 1000000 in
theorem Check_row (c : Ch) (h1 : c.1.length ≤ 10000) (h2 : c.2.1.length ≤ 1000000) {w : World} (hm : Ml w) :
    Calls Try.prog 39 #[chV c] w fun e w' => e = .returned (errV (chBad c)) ∧ Ext w w' := by
  obtain ⟨key, val, gone⟩ := c
  obtain ⟨w0, hw0⟩ : ∃ w0, w0 = w.alloc (.cells #[S key, S val, .bool gone] 61) := ⟨_, rfl⟩
  have hx0 : Ext w w0 := by rw [hw0]; exact (Only.refl No w).alloc _
  have hB : Cs w0 w.heap.size 61 #[S key, S val, .bool gone] := by rw [hw0]; exact Cs.new _ _ _
  have d0 : w0.cell? ⟨w.heap.size, 0, none⟩ = some (S key) := hB.cell 0
  have d1 : ∀ ξ : X w0 No, ξ.v.cell? ⟨w.heap.size, 1, none⟩ = some (S val) := hB.x id 1
  have d2 : ∀ ξ : X w0 No, ξ.v.cell? ⟨w.heap.size, 2, none⟩ = some (.bool gone) := hB.x id 2
  have HC := Lib.hid (Cut_c key [47] (by simp at h1; omega) (hm.ext hx0))
  rw [cut_byte] at HC
  have hbad := chBad_cut key val gone
  have hlen := length_cutB 47 key
  generalize cutB 47 key = q at HC hbad hlen
  obtain ⟨kd, nm, b⟩ := q
  simp only at h1 h2 hlen HC hbad
  have HN := Lib.hid (fun v => Name_c nm v (by omega))
  have HX0 := Lib.hid hx0
  have HBAD := Lib.hid hbad
  generalize nameB nm = nb at HN HBAD
  clear hbad hlen hB hm hx0
  show Calls Try.prog 39 #[.agg #[S key, S val, .bool gone]] w _
  go_enter Try.func39, Try.ntmps39
  go_upto_region 1 with fail
  rw [← hw0]
  clear hw0
  go_wp2_with (first | ((first | refine Mix.wpList_guarded rfl ?_ | refine Mix.wp_still (by kernel_rfl) (by kernel_rfl) ?_); (repeat' (first | (refine Mix.lex_quiet0 rfl rfl rfl ?_; intro K hK; go_big_quiet_op; go_big_quiet_on) | (refine Mix.lex_quietG rfl rfl rfl (by with_reducible rfl) rfl rfl ?_; intro K hK; go_big_quiet_op; go_big_quiet_on) | ((first | refine Mix.lex_skipT rfl rfl rfl (by with_reducible rfl) ?_ | refine Mix.lex_skipF rfl rfl rfl (by with_reducible rfl) ?_ | refine Mix.lex_skipU rfl rfl rfl (by with_reducible rfl) ?_); simp only [Act.put, List.setIfInBounds_toArray, List.set_cons_succ, List.set_cons_zero]) | (refine Mix.lex_part rfl rfl rfl rfl (fun hq => ?_) (fun hq => ?_) <;> (fail_if_success (guard_hyp hq :ₛ true = true)) <;> (fail_if_success (guard_hyp hq :ₛ false = false)) <;> first | (exfalso; cases hq; done) | (exfalso; simp only [decide_eq_true_eq, decide_eq_false_iff_not, beq_iff_eq, beq_eq_false_iff_ne, ne_eq, Int.not_lt, Int.not_le] at hq; omega) | simp only [Act.put, List.setIfInBounds_toArray, List.set_cons_succ, List.set_cons_zero]))); all_goals (refine Mix.lex_nil ?_)))
  refine (HC.out).mono ?_; rintro e uu ⟨rfl, hu⟩; obtain ⟨ξ1, hnew⟩ : ∃ ξ : X w0 No, ξ.v = uu := ⟨⟨uu, (X.here w0 No).h.then_ext hu⟩, rfl⟩; subst hnew; have Hξ1 := Lib.hid hu; clear hu
  clear HC
  go_upto_region 2 with fail
  cases b with
  | false =>
    go_wp2_with (first | ((first | refine Mix.wpList_guarded rfl ?_ | refine Mix.wp_still (by kernel_rfl) (by kernel_rfl) ?_); (repeat' (first | (refine Mix.lex_quiet0 rfl rfl rfl ?_; intro K hK; go_big_quiet_op; go_big_quiet_on) | (refine Mix.lex_quietG rfl rfl rfl (by with_reducible rfl) rfl rfl ?_; intro K hK; go_big_quiet_op; go_big_quiet_on) | ((first | refine Mix.lex_skipT rfl rfl rfl (by with_reducible rfl) ?_ | refine Mix.lex_skipF rfl rfl rfl (by with_reducible rfl) ?_ | refine Mix.lex_skipU rfl rfl rfl (by with_reducible rfl) ?_); simp only [Act.put, List.setIfInBounds_toArray, List.set_cons_succ, List.set_cons_zero]) | (refine Mix.lex_part rfl rfl rfl rfl (fun hq => ?_) (fun hq => ?_) <;> (fail_if_success (guard_hyp hq :ₛ true = true)) <;> (fail_if_success (guard_hyp hq :ₛ false = false)) <;> first | (exfalso; cases hq; done) | (exfalso; simp only [decide_eq_true_eq, decide_eq_false_iff_not, beq_iff_eq, beq_eq_false_iff_ne, ne_eq, Int.not_lt, Int.not_le] at hq; omega) | simp only [Act.put, List.setIfInBounds_toArray, List.set_cons_succ, List.set_cons_zero]))); all_goals (refine Mix.lex_nil ?_)))
    go_ret
    exact ⟨by rw [HBAD.out]; rfl, HX0.out.then_ext ξ1.h⟩
  | true =>
  obtain ⟨k1, hk1⟩ : ∃ k, (kd == ([102] : Str)) = k := ⟨_, rfl⟩
  obtain ⟨k2, hk2⟩ : ∃ k, (kd == ([100] : Str)) = k := ⟨_, rfl⟩
  obtain ⟨v, hv⟩ : ∃ v, (val == ([] : Str)) = v := ⟨_, rfl⟩
  rw [hk1, hk2, hv] at HBAD
  have fin : ∀ k : Bool, k1 = k → k1 || k2 = true → Calls Try.prog 39 #[.agg #[S key, S val, .bool gone]] w (fun e w' => True) → True := fun _ _ _ _ => trivial
  clear fin
  by_cases hk : (k1 || k2) = false
  · obtain ⟨rfl, rfl⟩ : k1 = false ∧ k2 = false := by simpa using hk
    go_wp2_with (first | ((first | refine Mix.wpList_guarded rfl ?_ | refine Mix.wp_still (by kernel_rfl) (by kernel_rfl) ?_); (repeat' (first | (refine Mix.lex_quiet0 rfl rfl rfl ?_; intro K hK; go_big_quiet_op; go_big_quiet_on) | (refine Mix.lex_quietG rfl rfl rfl (by with_reducible rfl) rfl rfl ?_; intro K hK; go_big_quiet_op; go_big_quiet_on) | ((first | refine Mix.lex_skipT rfl rfl rfl (by with_reducible rfl) ?_ | refine Mix.lex_skipF rfl rfl rfl (by with_reducible rfl) ?_ | refine Mix.lex_skipU rfl rfl rfl (by with_reducible rfl) ?_); simp only [Act.put, List.setIfInBounds_toArray, List.set_cons_succ, List.set_cons_zero]) | (refine Mix.lex_part rfl rfl rfl rfl (fun hq => ?_) (fun hq => ?_) <;> (fail_if_success (guard_hyp hq :ₛ true = true)) <;> (fail_if_success (guard_hyp hq :ₛ false = false)) <;> first | (exfalso; cases hq; done) | (exfalso; simp only [decide_eq_true_eq, decide_eq_false_iff_not, beq_iff_eq, beq_eq_false_iff_ne, ne_eq, Int.not_lt, Int.not_le] at hq; omega) | simp only [Act.put, List.setIfInBounds_toArray, List.set_cons_succ, List.set_cons_zero]))); all_goals (refine Mix.lex_nil ?_)))
    go_ret
    exact ⟨by rw [HBAD.out]; rfl, HX0.out.then_ext ξ1.h⟩
  have HK : Hid ((k1 || k2) = true) := by unfold Hid; revert hk; cases k1 <;> cases k2 <;> simp
  clear hk
  refine Mix.wp_plain [12] (Cl w0 No) (Cl.of ξ1.h) ?_
  cases k1 with
  | true =>
    clear HK hk2
    (repeat' (first | (refine Mix.lex_quiet0 rfl rfl rfl ?_; intro K hK; go_big_quiet_op; go_big_quiet_on) | (refine Mix.lex_quietG rfl rfl rfl (by with_reducible rfl) rfl rfl ?_; intro K hK; go_big_quiet_op; go_big_quiet_on) | ((first | refine Mix.lex_skipT rfl rfl rfl (by with_reducible rfl) ?_ | refine Mix.lex_skipF rfl rfl rfl (by with_reducible rfl) ?_ | refine Mix.lex_skipU rfl rfl rfl (by with_reducible rfl) ?_); simp only [Act.put, List.setIfInBounds_toArray, List.set_cons_succ, List.set_cons_zero]) | (refine Mix.lex_part rfl rfl rfl rfl (fun hq => ?_) (fun hq => ?_) <;> (fail_if_success (guard_hyp hq :ₛ true = true)) <;> (fail_if_success (guard_hyp hq :ₛ false = false)) <;> first | (exfalso; cases hq; done) | (exfalso; simp only [decide_eq_true_eq, decide_eq_false_iff_not, beq_iff_eq, beq_eq_false_iff_ne, ne_eq, Int.not_lt, Int.not_le] at hq; omega) | simp only [Act.put, List.setIfInBounds_toArray, List.set_cons_succ, List.set_cons_zero])))
    cases nb with
    | false =>
      ((first | refine Mix.lex_goes0 rfl rfl ?_ | refine Mix.lex_goesG rfl rfl rfl (by with_reducible rfl) rfl ?_); intro K hK; go_simp); refine (HN.out _).mono ?_; rintro e uu ⟨rfl, hu⟩; obtain ⟨ξ2, hnew⟩ : ∃ ξ : X w0 No, ξ.v = uu := ⟨⟨uu, ξ1.h.then_ext hu⟩, rfl⟩; subst hnew; have Hξ2 := Lib.hid hu; refine ⟨_, rfl, hK _ _ (fun _ => ⟨ξ2, rfl⟩) ?_⟩; clear hK K hu; simp only [Act.put, List.setIfInBounds_toArray, List.set_cons_succ, List.set_cons_zero]; (repeat' (first | (refine Mix.lex_quiet0 rfl rfl rfl ?_; intro K hK; go_big_quiet_op; go_big_quiet_on) | (refine Mix.lex_quietG rfl rfl rfl (by with_reducible rfl) rfl rfl ?_; intro K hK; go_big_quiet_op; go_big_quiet_on) | ((first | refine Mix.lex_skipT rfl rfl rfl (by with_reducible rfl) ?_ | refine Mix.lex_skipF rfl rfl rfl (by with_reducible rfl) ?_ | refine Mix.lex_skipU rfl rfl rfl (by with_reducible rfl) ?_); simp only [Act.put, List.setIfInBounds_toArray, List.set_cons_succ, List.set_cons_zero]) | (refine Mix.lex_part rfl rfl rfl rfl (fun hq => ?_) (fun hq => ?_) <;> (fail_if_success (guard_hyp hq :ₛ true = true)) <;> (fail_if_success (guard_hyp hq :ₛ false = false)) <;> first | (exfalso; cases hq; done) | (exfalso; simp only [decide_eq_true_eq, decide_eq_false_iff_not, beq_iff_eq, beq_eq_false_iff_ne, ne_eq, Int.not_lt, Int.not_le] at hq; omega) | simp only [Act.put, List.setIfInBounds_toArray, List.set_cons_succ, List.set_cons_zero])))
      refine Mix.lex_nil ?_
      go_wp2_with (first | ((first | refine Mix.wpList_guarded rfl ?_ | refine Mix.wp_still (by kernel_rfl) (by kernel_rfl) ?_); (repeat' (first | (refine Mix.lex_quiet0 rfl rfl rfl ?_; intro K hK; go_big_quiet_op; go_big_quiet_on) | (refine Mix.lex_quietG rfl rfl rfl (by with_reducible rfl) rfl rfl ?_; intro K hK; go_big_quiet_op; go_big_quiet_on) | ((first | refine Mix.lex_skipT rfl rfl rfl (by with_reducible rfl) ?_ | refine Mix.lex_skipF rfl rfl rfl (by with_reducible rfl) ?_ | refine Mix.lex_skipU rfl rfl rfl (by with_reducible rfl) ?_); simp only [Act.put, List.setIfInBounds_toArray, List.set_cons_succ, List.set_cons_zero]) | (refine Mix.lex_part rfl rfl rfl rfl (fun hq => ?_) (fun hq => ?_) <;> (fail_if_success (guard_hyp hq :ₛ true = true)) <;> (fail_if_success (guard_hyp hq :ₛ false = false)) <;> first | (exfalso; cases hq; done) | (exfalso; simp only [decide_eq_true_eq, decide_eq_false_iff_not, beq_iff_eq, beq_eq_false_iff_ne, ne_eq, Int.not_lt, Int.not_le] at hq; omega) | simp only [Act.put, List.setIfInBounds_toArray, List.set_cons_succ, List.set_cons_zero]))); all_goals (refine Mix.lex_nil ?_)))
      go_ret
      exact ⟨by rw [HBAD.out]; rfl, HX0.out.then_ext ξ2.h⟩
    | true =>
      cases gone <;> cases v <;>
      · ((first | refine Mix.lex_goes0 rfl rfl ?_ | refine Mix.lex_goesG rfl rfl rfl (by with_reducible rfl) rfl ?_); intro K hK; go_simp); refine (HN.out _).mono ?_; rintro e uu ⟨rfl, hu⟩; obtain ⟨ξ2, hnew⟩ : ∃ ξ : X w0 No, ξ.v = uu := ⟨⟨uu, ξ1.h.then_ext hu⟩, rfl⟩; subst hnew; have Hξ2 := Lib.hid hu; refine ⟨_, rfl, hK _ _ (fun _ => ⟨ξ2, rfl⟩) ?_⟩; clear hK K hu; simp only [Act.put, List.setIfInBounds_toArray, List.set_cons_succ, List.set_cons_zero]; (repeat' (first | (refine Mix.lex_quiet0 rfl rfl rfl ?_; intro K hK; go_big_quiet_op; go_big_quiet_on) | (refine Mix.lex_quietG rfl rfl rfl (by with_reducible rfl) rfl rfl ?_; intro K hK; go_big_quiet_op; go_big_quiet_on) | ((first | refine Mix.lex_skipT rfl rfl rfl (by with_reducible rfl) ?_ | refine Mix.lex_skipF rfl rfl rfl (by with_reducible rfl) ?_ | refine Mix.lex_skipU rfl rfl rfl (by with_reducible rfl) ?_); simp only [Act.put, List.setIfInBounds_toArray, List.set_cons_succ, List.set_cons_zero]) | (refine Mix.lex_part rfl rfl rfl rfl (fun hq => ?_) (fun hq => ?_) <;> (fail_if_success (guard_hyp hq :ₛ true = true)) <;> (fail_if_success (guard_hyp hq :ₛ false = false)) <;> first | (exfalso; cases hq; done) | (exfalso; simp only [decide_eq_true_eq, decide_eq_false_iff_not, beq_iff_eq, beq_eq_false_iff_ne, ne_eq, Int.not_lt, Int.not_le] at hq; omega) | simp only [Act.put, List.setIfInBounds_toArray, List.set_cons_succ, List.set_cons_zero])))
        refine Mix.lex_nil ?_
        go_wp2_with (first | ((first | refine Mix.wpList_guarded rfl ?_ | refine Mix.wp_still (by kernel_rfl) (by kernel_rfl) ?_); (repeat' (first | (refine Mix.lex_quiet0 rfl rfl rfl ?_; intro K hK; go_big_quiet_op; go_big_quiet_on) | (refine Mix.lex_quietG rfl rfl rfl (by with_reducible rfl) rfl rfl ?_; intro K hK; go_big_quiet_op; go_big_quiet_on) | ((first | refine Mix.lex_skipT rfl rfl rfl (by with_reducible rfl) ?_ | refine Mix.lex_skipF rfl rfl rfl (by with_reducible rfl) ?_ | refine Mix.lex_skipU rfl rfl rfl (by with_reducible rfl) ?_); simp only [Act.put, List.setIfInBounds_toArray, List.set_cons_succ, List.set_cons_zero]) | (refine Mix.lex_part rfl rfl rfl rfl (fun hq => ?_) (fun hq => ?_) <;> (fail_if_success (guard_hyp hq :ₛ true = true)) <;> (fail_if_success (guard_hyp hq :ₛ false = false)) <;> first | (exfalso; cases hq; done) | (exfalso; simp only [decide_eq_true_eq, decide_eq_false_iff_not, beq_iff_eq, beq_eq_false_iff_ne, ne_eq, Int.not_lt, Int.not_le] at hq; omega) | simp only [Act.put, List.setIfInBounds_toArray, List.set_cons_succ, List.set_cons_zero]))); all_goals (refine Mix.lex_nil ?_)))
        all_goals
          go_ret
          refine ⟨?_, HX0.out.then_ext ξ2.h⟩
          rw [HBAD.out]
          clear HBAD
          by_cases hl1 : 20 < val.length <;> by_cases hl2 : 300 < val.length <;> first | (simp [hl1, hl2, errV]; done) | (exfalso; simp only [decide_eq_true_eq, decide_eq_false_iff_not, beq_iff_eq, beq_eq_false_iff_ne, ne_eq, Int.not_lt, Int.not_le, Bool.not_eq_true, Bool.not_eq_false, Bool.or_eq_true, Bool.or_eq_false_iff, Bool.and_eq_true, Bool.and_eq_false_iff, Bool.not_eq_eq_eq_not, Bool.not_true, Bool.not_false] at *; omega)
  | false =>
    obtain rfl : k2 = true := by simpa [Hid] using HK.out
    clear HK
    (repeat' (first | (refine Mix.lex_quiet0 rfl rfl rfl ?_; intro K hK; go_big_quiet_op; go_big_quiet_on) | (refine Mix.lex_quietG rfl rfl rfl (by with_reducible rfl) rfl rfl ?_; intro K hK; go_big_quiet_op; go_big_quiet_on) | ((first | refine Mix.lex_skipT rfl rfl rfl (by with_reducible rfl) ?_ | refine Mix.lex_skipF rfl rfl rfl (by with_reducible rfl) ?_ | refine Mix.lex_skipU rfl rfl rfl (by with_reducible rfl) ?_); simp only [Act.put, List.setIfInBounds_toArray, List.set_cons_succ, List.set_cons_zero]) | (refine Mix.lex_part rfl rfl rfl rfl (fun hq => ?_) (fun hq => ?_) <;> (fail_if_success (guard_hyp hq :ₛ true = true)) <;> (fail_if_success (guard_hyp hq :ₛ false = false)) <;> first | (exfalso; cases hq; done) | (exfalso; simp only [decide_eq_true_eq, decide_eq_false_iff_not, beq_iff_eq, beq_eq_false_iff_ne, ne_eq, Int.not_lt, Int.not_le] at hq; omega) | simp only [Act.put, List.setIfInBounds_toArray, List.set_cons_succ, List.set_cons_zero])))
    cases nb with
    | false =>
      ((first | refine Mix.lex_goes0 rfl rfl ?_ | refine Mix.lex_goesG rfl rfl rfl (by with_reducible rfl) rfl ?_); intro K hK; go_simp); refine (HN.out _).mono ?_; rintro e uu ⟨rfl, hu⟩; obtain ⟨ξ2, hnew⟩ : ∃ ξ : X w0 No, ξ.v = uu := ⟨⟨uu, ξ1.h.then_ext hu⟩, rfl⟩; subst hnew; have Hξ2 := Lib.hid hu; refine ⟨_, rfl, hK _ _ (fun _ => ⟨ξ2, rfl⟩) ?_⟩; clear hK K hu; simp only [Act.put, List.setIfInBounds_toArray, List.set_cons_succ, List.set_cons_zero]; (repeat' (first | (refine Mix.lex_quiet0 rfl rfl rfl ?_; intro K hK; go_big_quiet_op; go_big_quiet_on) | (refine Mix.lex_quietG rfl rfl rfl (by with_reducible rfl) rfl rfl ?_; intro K hK; go_big_quiet_op; go_big_quiet_on) | ((first | refine Mix.lex_skipT rfl rfl rfl (by with_reducible rfl) ?_ | refine Mix.lex_skipF rfl rfl rfl (by with_reducible rfl) ?_ | refine Mix.lex_skipU rfl rfl rfl (by with_reducible rfl) ?_); simp only [Act.put, List.setIfInBounds_toArray, List.set_cons_succ, List.set_cons_zero]) | (refine Mix.lex_part rfl rfl rfl rfl (fun hq => ?_) (fun hq => ?_) <;> (fail_if_success (guard_hyp hq :ₛ true = true)) <;> (fail_if_success (guard_hyp hq :ₛ false = false)) <;> first | (exfalso; cases hq; done) | (exfalso; simp only [decide_eq_true_eq, decide_eq_false_iff_not, beq_iff_eq, beq_eq_false_iff_ne, ne_eq, Int.not_lt, Int.not_le] at hq; omega) | simp only [Act.put, List.setIfInBounds_toArray, List.set_cons_succ, List.set_cons_zero])))
      refine Mix.lex_nil ?_
      go_wp2_with (first | ((first | refine Mix.wpList_guarded rfl ?_ | refine Mix.wp_still (by kernel_rfl) (by kernel_rfl) ?_); (repeat' (first | (refine Mix.lex_quiet0 rfl rfl rfl ?_; intro K hK; go_big_quiet_op; go_big_quiet_on) | (refine Mix.lex_quietG rfl rfl rfl (by with_reducible rfl) rfl rfl ?_; intro K hK; go_big_quiet_op; go_big_quiet_on) | ((first | refine Mix.lex_skipT rfl rfl rfl (by with_reducible rfl) ?_ | refine Mix.lex_skipF rfl rfl rfl (by with_reducible rfl) ?_ | refine Mix.lex_skipU rfl rfl rfl (by with_reducible rfl) ?_); simp only [Act.put, List.setIfInBounds_toArray, List.set_cons_succ, List.set_cons_zero]) | (refine Mix.lex_part rfl rfl rfl rfl (fun hq => ?_) (fun hq => ?_) <;> (fail_if_success (guard_hyp hq :ₛ true = true)) <;> (fail_if_success (guard_hyp hq :ₛ false = false)) <;> first | (exfalso; cases hq; done) | (exfalso; simp only [decide_eq_true_eq, decide_eq_false_iff_not, beq_iff_eq, beq_eq_false_iff_ne, ne_eq, Int.not_lt, Int.not_le] at hq; omega) | simp only [Act.put, List.setIfInBounds_toArray, List.set_cons_succ, List.set_cons_zero]))); all_goals (refine Mix.lex_nil ?_)))
      go_ret
      exact ⟨by rw [HBAD.out]; rfl, HX0.out.then_ext ξ2.h⟩
    | true =>
      cases gone <;> cases v <;>
      · ((first | refine Mix.lex_goes0 rfl rfl ?_ | refine Mix.lex_goesG rfl rfl rfl (by with_reducible rfl) rfl ?_); intro K hK; go_simp); refine (HN.out _).mono ?_; rintro e uu ⟨rfl, hu⟩; obtain ⟨ξ2, hnew⟩ : ∃ ξ : X w0 No, ξ.v = uu := ⟨⟨uu, ξ1.h.then_ext hu⟩, rfl⟩; subst hnew; have Hξ2 := Lib.hid hu; refine ⟨_, rfl, hK _ _ (fun _ => ⟨ξ2, rfl⟩) ?_⟩; clear hK K hu; simp only [Act.put, List.setIfInBounds_toArray, List.set_cons_succ, List.set_cons_zero]; (repeat' (first | (refine Mix.lex_quiet0 rfl rfl rfl ?_; intro K hK; go_big_quiet_op; go_big_quiet_on) | (refine Mix.lex_quietG rfl rfl rfl (by with_reducible rfl) rfl rfl ?_; intro K hK; go_big_quiet_op; go_big_quiet_on) | ((first | refine Mix.lex_skipT rfl rfl rfl (by with_reducible rfl) ?_ | refine Mix.lex_skipF rfl rfl rfl (by with_reducible rfl) ?_ | refine Mix.lex_skipU rfl rfl rfl (by with_reducible rfl) ?_); simp only [Act.put, List.setIfInBounds_toArray, List.set_cons_succ, List.set_cons_zero]) | (refine Mix.lex_part rfl rfl rfl rfl (fun hq => ?_) (fun hq => ?_) <;> (fail_if_success (guard_hyp hq :ₛ true = true)) <;> (fail_if_success (guard_hyp hq :ₛ false = false)) <;> first | (exfalso; cases hq; done) | (exfalso; simp only [decide_eq_true_eq, decide_eq_false_iff_not, beq_iff_eq, beq_eq_false_iff_ne, ne_eq, Int.not_lt, Int.not_le] at hq; omega) | simp only [Act.put, List.setIfInBounds_toArray, List.set_cons_succ, List.set_cons_zero])))
        refine Mix.lex_nil ?_
        go_wp2_with (first | ((first | refine Mix.wpList_guarded rfl ?_ | refine Mix.wp_still (by kernel_rfl) (by kernel_rfl) ?_); (repeat' (first | (refine Mix.lex_quiet0 rfl rfl rfl ?_; intro K hK; go_big_quiet_op; go_big_quiet_on) | (refine Mix.lex_quietG rfl rfl rfl (by with_reducible rfl) rfl rfl ?_; intro K hK; go_big_quiet_op; go_big_quiet_on) | ((first | refine Mix.lex_skipT rfl rfl rfl (by with_reducible rfl) ?_ | refine Mix.lex_skipF rfl rfl rfl (by with_reducible rfl) ?_ | refine Mix.lex_skipU rfl rfl rfl (by with_reducible rfl) ?_); simp only [Act.put, List.setIfInBounds_toArray, List.set_cons_succ, List.set_cons_zero]) | (refine Mix.lex_part rfl rfl rfl rfl (fun hq => ?_) (fun hq => ?_) <;> (fail_if_success (guard_hyp hq :ₛ true = true)) <;> (fail_if_success (guard_hyp hq :ₛ false = false)) <;> first | (exfalso; cases hq; done) | (exfalso; simp only [decide_eq_true_eq, decide_eq_false_iff_not, beq_iff_eq, beq_eq_false_iff_ne, ne_eq, Int.not_lt, Int.not_le] at hq; omega) | simp only [Act.put, List.setIfInBounds_toArray, List.set_cons_succ, List.set_cons_zero]))); all_goals (refine Mix.lex_nil ?_)))
        all_goals
          go_ret
          refine ⟨?_, HX0.out.then_ext ξ2.h⟩
          rw [HBAD.out]
          clear HBAD
          by_cases hl2 : 300 < val.length <;> first | (simp [hl2, errV]; done) | (exfalso; simp only [decide_eq_true_eq, decide_eq_false_iff_not, beq_iff_eq, beq_eq_false_iff_ne, ne_eq, Int.not_lt, Int.not_le, Bool.not_eq_true, Bool.not_eq_false, Bool.or_eq_true, Bool.or_eq_false_iff, Bool.and_eq_true, Bool.and_eq_false_iff, Bool.not_eq_eq_eq_not, Bool.not_true, Bool.not_false] at *; omega)
end Go.Proofs.Ytaphmmobmadfoaa

/- The document's fault of a change. -/
namespace Go.Proofs.Ytaphmmobmadfoaa
open Go Go.RowKit
theorem ret_int {a b : Int} (h : a = b) : Ending.returned (.int .i64 a) = .returned (.int .i64 b) := by rw [h]
set_option maxRecDepth 100000 in
set_option maxHeartbeats 1000000 in
theorem RFault_row (c : Ch) (h1 : c.1.length ≤ 10000) (h2 : c.2.1.length ≤ 1000000) {w : World} :
    Calls Try.prog 43 #[chV c] w fun e w' => e = .returned (.int .i64 (chBad c)) ∧ Ext w w' := by
  obtain ⟨key, val, gone⟩ := c
  obtain ⟨w0, hw0⟩ : ∃ w0, w0 = w.alloc (.cells #[S key, S val, .bool gone] 61) := ⟨_, rfl⟩
  have hx0 : Ext w w0 := by rw [hw0]; exact (Only.refl No w).alloc _
  have hB : Cs w0 w.heap.size 61 #[S key, S val, .bool gone] := by rw [hw0]; exact Cs.new _ _ _
  have d0 : w0.cell? ⟨w.heap.size, 0, none⟩ = some (S key) := hB.cell 0
  have d1 : w0.cell? ⟨w.heap.size, 1, none⟩ = some (S val) := hB.cell 1
  have d2 : w0.cell? ⟨w.heap.size, 2, none⟩ = some (.bool gone) := hB.cell 2
  have e0 : ∀ ξ : X w0 No, ξ.v.cell? ⟨w.heap.size, 0, none⟩ = some (S key) := hB.x id 0
  have e1 : ∀ ξ : X w0 No, ξ.v.cell? ⟨w.heap.size, 1, none⟩ = some (S val) := hB.x id 1
  simp only at h1 h2
  show Calls Try.prog 43 #[.agg #[S key, S val, .bool gone]] w _
  have HX0 := Lib.hid hx0
  clear hB hx0
  go_enter Try.func43, Try.ntmps43
  go_upto_region 1 with fail
  rw [← hw0]
  clear hw0
  by_cases hl : key.length < 3
  · have HBAD : Hid (chBad (key, val, gone) = 3) := by
      unfold Hid chBad
      rw [if_neg]
      unfold chShape
      match key, hl with
      | [], _ => simp
      | [_], _ => simp
      | [a, b], _ => simp [nameB]
      | _ :: _ :: _ :: _, hl => simp at hl; omega
    go_wp2_with (first | ((first | refine Mix.wpList_guarded rfl ?_ | refine Mix.wp_still (by kernel_rfl) (by kernel_rfl) ?_); (repeat' (first | (refine Mix.lex_quiet0 rfl rfl rfl ?_; intro K hK; go_big_quiet_op; go_big_quiet_on) | (refine Mix.lex_quietG rfl rfl rfl (by with_reducible rfl) rfl rfl ?_; intro K hK; go_big_quiet_op; go_big_quiet_on) | ((first | refine Mix.lex_skipT rfl rfl rfl (by with_reducible rfl) ?_ | refine Mix.lex_skipF rfl rfl rfl (by with_reducible rfl) ?_ | refine Mix.lex_skipU rfl rfl rfl (by with_reducible rfl) ?_); simp only [Act.put, List.setIfInBounds_toArray, List.set_cons_succ, List.set_cons_zero]) | (refine Mix.lex_part rfl rfl rfl rfl (fun hq => ?_) (fun hq => ?_) <;> (fail_if_success (guard_hyp hq :ₛ true = true)) <;> (fail_if_success (guard_hyp hq :ₛ false = false)) <;> first | (exfalso; cases hq; done) | (exfalso; simp only [decide_eq_true_eq, decide_eq_false_iff_not, beq_iff_eq, beq_eq_false_iff_ne, ne_eq, Int.not_lt, Int.not_le] at hq; omega) | simp only [Act.put, List.setIfInBounds_toArray, List.set_cons_succ, List.set_cons_zero]))); all_goals (refine Mix.lex_nil ?_)))
    all_goals
      go_ret
      exact ⟨ret_int HBAD.out.symm, HX0.out⟩
  · obtain ⟨a, b, n, rfl⟩ : ∃ a b n, key = a :: b :: n := by
      match key, hl with
      | a :: b :: n, _ => exact ⟨a, b, n, rfl⟩
      | [], hl => simp at hl
      | [_], hl => simp at hl
    have HN := Lib.hid (fun v => NameMay_c n v (by simp at h1; omega))
    have HBAD : Hid (chBad (a :: b :: n, val, gone) = if (a == 102 || a == 100) && b == 47 && nameB n && !(gone && !(val == [])) then (if 300 < val.length ∨ (a = 102 ∧ 20 < val.length) then 2 else 0) else 3) := rfl
    generalize nameB n = nb at HN HBAD
    have hl : 3 ≤ (a :: b :: n).length := by omega
    go_wp2_with (first | ((first | refine Mix.wpList_guarded rfl ?_ | refine Mix.wp_still (by kernel_rfl) (by kernel_rfl) ?_); (repeat' (first | (refine Mix.lex_quiet0 rfl rfl rfl ?_; intro K hK; go_big_quiet_op; go_big_quiet_on) | (refine Mix.lex_quietG rfl rfl rfl (by with_reducible rfl) rfl rfl ?_; intro K hK; go_big_quiet_op; go_big_quiet_on) | ((first | refine Mix.lex_skipT rfl rfl rfl (by with_reducible rfl) ?_ | refine Mix.lex_skipF rfl rfl rfl (by with_reducible rfl) ?_ | refine Mix.lex_skipU rfl rfl rfl (by with_reducible rfl) ?_); simp only [Act.put, List.setIfInBounds_toArray, List.set_cons_succ, List.set_cons_zero]) | (refine Mix.lex_part rfl rfl rfl rfl (fun hq => ?_) (fun hq => ?_) <;> (fail_if_success (guard_hyp hq :ₛ true = true)) <;> (fail_if_success (guard_hyp hq :ₛ false = false)) <;> first | (exfalso; cases hq; done) | (exfalso; simp only [decide_eq_true_eq, decide_eq_false_iff_not, beq_iff_eq, beq_eq_false_iff_ne, ne_eq, Int.not_lt, Int.not_le] at hq; omega) | simp only [Act.put, List.setIfInBounds_toArray, List.set_cons_succ, List.set_cons_zero]))); all_goals (refine Mix.lex_nil ?_)))
    all_goals first
      | (go_ret
         refine ⟨ret_int ?_, HX0.out⟩
         rw [HBAD.out]
         clear HBAD HN HX0 d0 d1 d2 e0 e1
         by_cases ha : a = 102 <;> by_cases hb : b = 47 <;> by_cases hc : a = 100 <;> simp_all <;> omega)
      | (refine (HN.out _).mono ?_; rintro e uu ⟨rfl, hu⟩; obtain ⟨ξ1, hnew⟩ : ∃ ξ : X w0 No, ξ.v = uu := ⟨⟨uu, (X.here w0 No).h.then_ext hu⟩, rfl⟩; subst hnew; have Hξ1 := Lib.hid hu; clear hu
         cases nb with
         | false =>
           go_wp2_with (first | ((first | refine Mix.wpList_guarded rfl ?_ | refine Mix.wp_still (by kernel_rfl) (by kernel_rfl) ?_); (repeat' (first | (refine Mix.lex_quiet0 rfl rfl rfl ?_; intro K hK; go_big_quiet_op; go_big_quiet_on) | (refine Mix.lex_quietG rfl rfl rfl (by with_reducible rfl) rfl rfl ?_; intro K hK; go_big_quiet_op; go_big_quiet_on) | ((first | refine Mix.lex_skipT rfl rfl rfl (by with_reducible rfl) ?_ | refine Mix.lex_skipF rfl rfl rfl (by with_reducible rfl) ?_ | refine Mix.lex_skipU rfl rfl rfl (by with_reducible rfl) ?_); simp only [Act.put, List.setIfInBounds_toArray, List.set_cons_succ, List.set_cons_zero]) | (refine Mix.lex_part rfl rfl rfl rfl (fun hq => ?_) (fun hq => ?_) <;> (fail_if_success (guard_hyp hq :ₛ true = true)) <;> (fail_if_success (guard_hyp hq :ₛ false = false)) <;> first | (exfalso; cases hq; done) | (exfalso; simp only [decide_eq_true_eq, decide_eq_false_iff_not, beq_iff_eq, beq_eq_false_iff_ne, ne_eq, Int.not_lt, Int.not_le] at hq; omega) | simp only [Act.put, List.setIfInBounds_toArray, List.set_cons_succ, List.set_cons_zero]))); all_goals (refine Mix.lex_nil ?_)))
           go_ret
           exact ⟨ret_int (by rw [HBAD.out]; simp), HX0.out.then_ext ξ1.h⟩
         | true =>
           go_wp2_with (first | ((first | refine Mix.wpList_guarded rfl ?_ | refine Mix.wp_still (by kernel_rfl) (by kernel_rfl) ?_); (repeat' (first | (refine Mix.lex_quiet0 rfl rfl rfl ?_; intro K hK; go_big_quiet_op; go_big_quiet_on) | (refine Mix.lex_quietG rfl rfl rfl (by with_reducible rfl) rfl rfl ?_; intro K hK; go_big_quiet_op; go_big_quiet_on) | ((first | refine Mix.lex_skipT rfl rfl rfl (by with_reducible rfl) ?_ | refine Mix.lex_skipF rfl rfl rfl (by with_reducible rfl) ?_ | refine Mix.lex_skipU rfl rfl rfl (by with_reducible rfl) ?_); simp only [Act.put, List.setIfInBounds_toArray, List.set_cons_succ, List.set_cons_zero]) | (refine Mix.lex_part rfl rfl rfl rfl (fun hq => ?_) (fun hq => ?_) <;> (fail_if_success (guard_hyp hq :ₛ true = true)) <;> (fail_if_success (guard_hyp hq :ₛ false = false)) <;> first | (exfalso; cases hq; done) | (exfalso; simp only [decide_eq_true_eq, decide_eq_false_iff_not, beq_iff_eq, beq_eq_false_iff_ne, ne_eq, Int.not_lt, Int.not_le] at hq; omega) | simp only [Act.put, List.setIfInBounds_toArray, List.set_cons_succ, List.set_cons_zero]))); all_goals (refine Mix.lex_nil ?_)))
           all_goals
             go_ret
             refine ⟨ret_int ?_, HX0.out.then_ext ξ1.h⟩
             rw [HBAD.out]
             clear HBAD HN Hξ1 HX0 d0 d1 d2 e0 e1
             by_cases ha : a = 102 <;> by_cases hb : b = 47 <;> by_cases hc : a = 100 <;> simp_all <;> omega)
end Go.Proofs.Ytaphmmobmadfoaa

/- Bytes of a change. -/
namespace Go.Proofs.Ytaphmmobmadfoaa
open Go Go.RowKit
/-- K2. -/
def chEnc (c : Ch) : Str := bt (if c.2.2 then 1 else 0) :: bt (c.1.length % 256 : Int) :: (c.1 ++ c.2.1)
def chTxt (c : Ch) : Str := if chBad c = 0 then chEnc c else []
set_option maxRecDepth 100000 in
set_option maxHeartbeats 1000000 in
theorem Bytes_row (c : Ch) (h1 : c.1.length ≤ 10000) (h2 : c.2.1.length ≤ 1000000) {w : World} (hm : Ml w) :
    Calls Try.prog 76 #[chV c] w fun e w' => e = .returned (.tuple #[S (chTxt c), errV (chBad c)]) ∧ Ext w w' := by
  obtain ⟨key, val, gone⟩ := c
  obtain ⟨w0, hw0⟩ : ∃ w0, w0 = w.alloc (.cells #[S key, S val, .bool gone] 61) := ⟨_, rfl⟩
  have hx0 : Ext w w0 := by rw [hw0]; exact (Only.refl No w).alloc _
  have hB : Cs w0 w.heap.size 61 #[S key, S val, .bool gone] := by rw [hw0]; exact Cs.new _ _ _
  have d0 : w0.cell? ⟨w.heap.size, 0, none⟩ = some (S key) := hB.cell 0
  have d1 : w0.cell? ⟨w.heap.size, 1, none⟩ = some (S val) := hB.cell 1
  have d2 : w0.cell? ⟨w.heap.size, 2, none⟩ = some (.bool gone) := hB.cell 2
  have HB0 := Lib.hid hB
  have HC := Lib.hid (Check_row (key, val, gone) h1 h2 (hm.ext hx0))
  have HT : Hid (chTxt (key, val, gone) = if chBad (key, val, gone) = 0 then chEnc (key, val, gone) else []) := rfl
  have hb0 := chBad_nonneg (key, val, gone)
  generalize chBad (key, val, gone) = bad at HC HT hb0
  simp only at h1 h2
  show Calls Try.prog 76 #[.agg #[S key, S val, .bool gone]] w _
  have HX0 := Lib.hid hx0
  clear hB hx0 hm
  go_enter Try.func76, Try.ntmps76
  go_upto_region 1 with fail
  rw [← hw0]
  clear hw0
  go_wp2_with (first | ((first | refine Mix.wpList_guarded rfl ?_ | refine Mix.wp_still (by kernel_rfl) (by kernel_rfl) ?_); (repeat' (first | (refine Mix.lex_quiet0 rfl rfl rfl ?_; intro K hK; go_big_quiet_op; go_big_quiet_on) | (refine Mix.lex_quietG rfl rfl rfl (by with_reducible rfl) rfl rfl ?_; intro K hK; go_big_quiet_op; go_big_quiet_on) | ((first | refine Mix.lex_skipT rfl rfl rfl (by with_reducible rfl) ?_ | refine Mix.lex_skipF rfl rfl rfl (by with_reducible rfl) ?_ | refine Mix.lex_skipU rfl rfl rfl (by with_reducible rfl) ?_); simp only [Act.put, List.setIfInBounds_toArray, List.set_cons_succ, List.set_cons_zero]) | (refine Mix.lex_part rfl rfl rfl rfl (fun hq => ?_) (fun hq => ?_) <;> (fail_if_success (guard_hyp hq :ₛ true = true)) <;> (fail_if_success (guard_hyp hq :ₛ false = false)) <;> first | (exfalso; cases hq; done) | (exfalso; simp only [decide_eq_true_eq, decide_eq_false_iff_not, beq_iff_eq, beq_eq_false_iff_ne, ne_eq, Int.not_lt, Int.not_le] at hq; omega) | simp only [Act.put, List.setIfInBounds_toArray, List.set_cons_succ, List.set_cons_zero]))); all_goals (refine Mix.lex_nil ?_)))
  refine (HC.out).mono ?_; rintro e uu ⟨rfl, hu⟩; obtain ⟨ξ1, hnew⟩ : ∃ ξ : X w0 No, ξ.v = uu := ⟨⟨uu, (X.here w0 No).h.then_ext hu⟩, rfl⟩; subst hnew; have Hξ1 := Lib.hid hu; clear hu
  clear HC
  have e2 : ξ1.v.cell? ⟨w.heap.size, 2, none⟩ = some (.bool gone) := (HB0.out.keep ξ1.h id).cell 2
  have e0 : ξ1.v.cell? ⟨w.heap.size, 0, none⟩ = some (S key) := (HB0.out.keep ξ1.h id).cell 0
  have f0 : ∀ o, (ξ1.v.alloc o).cell? ⟨w.heap.size, 0, none⟩ = some (S key) := fun o => (HB0.out.keep (ξ1.h.alloc o) id).cell 0
  have f1 : ∀ o, (ξ1.v.alloc o).cell? ⟨w.heap.size, 1, none⟩ = some (S val) := fun o => (HB0.out.keep (ξ1.h.alloc o) id).cell 1
  by_cases hb : bad = 0
  · have HT2 : Hid (chTxt (key, val, gone) = chEnc (key, val, gone)) := by rw [Hid, HT.out, if_pos hb]
    subst hb
    clear HT
    try rw [errV_zero]
    cases gone <;>
    · go_wp2_with (first | ((first | refine Mix.wpList_guarded rfl ?_ | refine Mix.wp_still (by kernel_rfl) (by kernel_rfl) ?_); (repeat' (first | (refine Mix.lex_quiet0 rfl rfl rfl ?_; intro K hK; go_big_quiet_op; go_big_quiet_on) | (refine Mix.lex_quietG rfl rfl rfl (by with_reducible rfl) rfl rfl ?_; intro K hK; go_big_quiet_op; go_big_quiet_on) | ((first | refine Mix.lex_skipT rfl rfl rfl (by with_reducible rfl) ?_ | refine Mix.lex_skipF rfl rfl rfl (by with_reducible rfl) ?_ | refine Mix.lex_skipU rfl rfl rfl (by with_reducible rfl) ?_); simp only [Act.put, List.setIfInBounds_toArray, List.set_cons_succ, List.set_cons_zero]) | (refine Mix.lex_part rfl rfl rfl rfl (fun hq => ?_) (fun hq => ?_) <;> (fail_if_success (guard_hyp hq :ₛ true = true)) <;> (fail_if_success (guard_hyp hq :ₛ false = false)) <;> first | (exfalso; cases hq; done) | (exfalso; simp only [decide_eq_true_eq, decide_eq_false_iff_not, beq_iff_eq, beq_eq_false_iff_ne, ne_eq, Int.not_lt, Int.not_le] at hq; omega) | simp only [Act.put, List.setIfInBounds_toArray, List.set_cons_succ, List.set_cons_zero]))); all_goals (refine Mix.lex_nil ?_)))
      go_ret2
      exact ⟨by rw [HT2.out]; simp [chEnc, errV], HX0.out.then_ext (ξ1.h.alloc _)⟩
  · have HT2 : Hid (chTxt (key, val, gone) = []) := by rw [Hid, HT.out, if_neg hb]
    clear HT
    try rw [errV_pos hb]
    have HE : Hid (errV bad = E bad) := errV_pos hb
    have hb1 : 0 < bad := by omega
    clear hb hb0
    go_wp2_with (first | ((first | refine Mix.wpList_guarded rfl ?_ | refine Mix.wp_still (by kernel_rfl) (by kernel_rfl) ?_); (repeat' (first | (refine Mix.lex_quiet0 rfl rfl rfl ?_; intro K hK; go_big_quiet_op; go_big_quiet_on) | (refine Mix.lex_quietG rfl rfl rfl (by with_reducible rfl) rfl rfl ?_; intro K hK; go_big_quiet_op; go_big_quiet_on) | ((first | refine Mix.lex_skipT rfl rfl rfl (by with_reducible rfl) ?_ | refine Mix.lex_skipF rfl rfl rfl (by with_reducible rfl) ?_ | refine Mix.lex_skipU rfl rfl rfl (by with_reducible rfl) ?_); simp only [Act.put, List.setIfInBounds_toArray, List.set_cons_succ, List.set_cons_zero]) | (refine Mix.lex_part rfl rfl rfl rfl (fun hq => ?_) (fun hq => ?_) <;> (fail_if_success (guard_hyp hq :ₛ true = true)) <;> (fail_if_success (guard_hyp hq :ₛ false = false)) <;> first | (exfalso; cases hq; done) | (exfalso; simp only [decide_eq_true_eq, decide_eq_false_iff_not, beq_iff_eq, beq_eq_false_iff_ne, ne_eq, Int.not_lt, Int.not_le] at hq; omega) | simp only [Act.put, List.setIfInBounds_toArray, List.set_cons_succ, List.set_cons_zero]))); all_goals (refine Mix.lex_nil ?_)))
    go_ret2
    first
      | exact ⟨by rw [HT2.out, HE.out]; rfl, HX0.out.then_ext ξ1.h⟩
      | exact ⟨by rw [HT2.out]; rfl, HX0.out.then_ext ξ1.h⟩
end Go.Proofs.Ytaphmmobmadfoaa

/- A change out of bytes. -/
namespace Go.Proofs.Ytaphmmobmadfoaa
open Go Go.RowKit
/-- K2: what a text is, as a change. -/
def chDec (s : Str) : Option Ch :=
  match s with
  | g :: n :: r => if g.toNat ≤ 1 ∧ n.toNat ≤ r.length then some (r.take n.toNat, r.drop n.toNat, g == 1) else none
  | _ => none
def chGood (s : Str) : Option Ch := (chDec s).filter fun c => chBad c == 0
def chOf (s : Str) : Ch := (chGood s).getD ([], [], false)
def chOfF (s : Str) : Int := if (chGood s).isSome then 0 else 4
theorem chOf_none {s : Str} (h : chGood s = none) : chV (chOf s) = .agg #[S [], S [], .bool false] ∧ chOfF s = 4 := by
  unfold chOf chOfF; rw [h]; exact ⟨rfl, rfl⟩
theorem chOf_some {s : Str} {c : Ch} (h : chGood s = some c) : chOf s = c ∧ chOfF s = 0 := by
  unfold chOf chOfF; rw [h]; exact ⟨rfl, rfl⟩
theorem ret_two {a b c d : Value} (h : a = c) (k : b = d) : Ending.returned (.tuple #[a, b]) = .returned (.tuple #[c, d]) := by rw [h, k]
theorem bodyPost_cell {P : Program} {fn : Func} {R : Ending → World → Prop} {a : Act} {w : World} {p u : Tmp} {ty : TypeId} {ad : Addr} {v : Value} (h : fn.results = #[.cell p ty, .tmp u])
    (hp : a.tmps.getD p undef = .pointer (some ad)) (hd : a.defers = []) (hl : (loadVar ty ad).run P w = .ok v w) (hR : R (.returned (.tuple #[v, a.tmps.getD u undef])) w) : bodyPost P fn R .ret a w := by
  refine bodyPost_ret (v := .tuple #[v, a.tmps.getD u undef]) ?_ hd hR
  rw [results_cell_tmp h, hp]
  simp [asAddr, Sem.run_pure, Result.andThen, hl]
theorem load_ch {w : World} {b : Nat} {x y z : Value} (h : Cs w b 61 #[x, y, z]) : (loadVar 61 ⟨b, 0, none⟩).run Try.prog w = .ok (.agg #[x, y, z]) w := by
  have c0 := h.cell 0
  have c1 := h.cell 1
  have c2 := h.cell 2
  simp only [List.getElem?_toArray, List.getElem?_cons_succ, List.getElem?_cons_zero] at c0 c1 c2
  go_simp
set_option maxRecDepth 100000 in
set_option maxHeartbeats 1000000 in
theorem Parse_row (s : Str) (h1 : s.length ≤ 10000) {w : World} (hm : Ml w) :
    Calls Try.prog 52 #[S s] w fun e w' => e = .returned (.tuple #[chV (chOf s), errV (chOfF s)]) ∧ Ext w w' := by
  have hx0 : Ext w (w.alloc (.cells #[S [], S [], .bool false] 61)) := (Only.refl No w).alloc _
  by_cases hl : s.length < 2
  · have HD := Lib.hid (chOf_none (s := s) (by
      match s, hl with
      | [], _ => rfl
      | [_], _ => rfl
      | _ :: _ :: _, hl => simp at hl; omega))
    have HX0 := Lib.hid hx0
    clear hx0
    go_enter Try.func52, Try.ntmps52
    go_wp2_with (first | ((first | refine Mix.wpList_guarded rfl ?_ | refine Mix.wp_still (by kernel_rfl) (by kernel_rfl) ?_); (repeat' (first | (refine Mix.lex_quiet0 rfl rfl rfl ?_; intro K hK; go_big_quiet_op; go_big_quiet_on) | (refine Mix.lex_quietG rfl rfl rfl (by with_reducible rfl) rfl rfl ?_; intro K hK; go_big_quiet_op; go_big_quiet_on) | ((first | refine Mix.lex_skipT rfl rfl rfl (by with_reducible rfl) ?_ | refine Mix.lex_skipF rfl rfl rfl (by with_reducible rfl) ?_ | refine Mix.lex_skipU rfl rfl rfl (by with_reducible rfl) ?_); simp only [Act.put, List.setIfInBounds_toArray, List.set_cons_succ, List.set_cons_zero]) | (refine Mix.lex_part rfl rfl rfl rfl (fun hq => ?_) (fun hq => ?_) <;> (fail_if_success (guard_hyp hq :ₛ true = true)) <;> (fail_if_success (guard_hyp hq :ₛ false = false)) <;> first | (exfalso; cases hq; done) | (exfalso; simp only [decide_eq_true_eq, decide_eq_false_iff_not, beq_iff_eq, beq_eq_false_iff_ne, ne_eq, Int.not_lt, Int.not_le] at hq; omega) | simp only [Act.put, List.setIfInBounds_toArray, List.set_cons_succ, List.set_cons_zero]))); all_goals (refine Mix.lex_nil ?_)))
    refine bodyPost_cell rfl rfl rfl (load_ch (Cs.new w _ _)) ?_
    exact ⟨ret_two HD.out.1.symm (by rw [HD.out.2]; rfl), HX0.out⟩
  · obtain ⟨g, n, r, rfl⟩ : ∃ g n r, s = g :: n :: r := by
      match s, hl with
      | g :: n :: r, _ => exact ⟨g, n, r, rfl⟩
      | [], hl => simp at hl
      | [_], hl => simp at hl
    simp only [List.length_cons] at h1 hl
    have HX0 := Lib.hid hx0
    have hn := n.toNat_lt
    have hgt := g.toNat_lt
    clear hx0
    by_cases hb : g.toNat ≤ 1 ∧ n.toNat ≤ r.length
    · have HDec : Hid (chDec (g :: n :: r) = some (r.take n.toNat, r.drop n.toNat, g == 1)) := if_pos hb
      obtain ⟨hb1, hb2⟩ := hb
      have hgb : ((g.toNat : Int) == 1) = (g == 1) := by
        rw [Bool.eq_iff_iff, beq_iff_eq, beq_iff_eq]
        constructor
        · intro h; exact UInt8.toNat_inj.1 (show g.toNat = (1 : UInt8).toNat by simp; omega)
        · rintro rfl; rfl
      obtain ⟨k, hk⟩ : ∃ k, n.toNat = k := ⟨_, rfl⟩
      rw [hk] at HDec hn hb2
      have ht1 : List.drop 2 (List.take (2 + k) (g :: n :: r)) = r.take k := by rw [Nat.add_comm]; rfl
      have ht2 : List.drop (2 + k) (g :: n :: r) = r.drop k := by rw [Nat.add_comm]; rfl
      obtain ⟨w1, hw1⟩ : ∃ w1, w1 = w.alloc (.cells #[S [], S [], .bool false] 61) := ⟨_, rfl⟩
      rw [← hw1] at HX0
      have HB0 : Hid (Cs w1 w.heap.size 61 #[S [], S [], .bool false]) := by rw [hw1]; exact Cs.new _ _ _
      have HM1 := Lib.hid (hm.ext HX0.out)
      clear hm
      obtain ⟨p, hp⟩ : ∃ p, p = w.heap.size := ⟨_, rfl⟩
      rw [← hp] at HB0
      have HC : Hid (∀ v, Ext w1 v → Calls Try.prog 39 #[.agg #[S (r.take k), S (r.drop k), .bool (g == 1)]] v fun e w' => e = .returned (errV (chBad (r.take k, r.drop k, g == 1))) ∧ Ext v w') := fun v hv => Check_row (w := v) (r.take k, r.drop k, g == 1) (by simp; omega) (by simp; omega) (HM1.out.ext hv)
      have hb0 := chBad_nonneg (r.take k, r.drop k, g == 1)
      have HG : Hid (chGood (g :: n :: r) = if chBad (r.take k, r.drop k, g == 1) = 0 then some (r.take k, r.drop k, g == 1) else none) := by
        unfold Hid chGood
        rw [HDec.out]
        by_cases h : chBad (r.take k, r.drop k, g == 1) = 0 <;> simp [h, Option.filter]
      generalize chBad (r.take k, r.drop k, g == 1) = bad at HC HG hb0
      obtain ⟨gb, hgb2⟩ : ∃ gb, gb = (g == 1) := ⟨_, rfl⟩
      rw [← hgb2] at HC HG hgb
      clear hgb2 HDec
      have HP : Hid (w.heap.size ≤ p) := by rw [Hid, hp]; exact Nat.le_refl _
      go_enter Try.func52, Try.ntmps52
      go_upto_region 1 with fail
      rw [show w.alloc (Obj.cells #[Value.string ⟨#[]⟩, Value.string ⟨#[]⟩, Value.bool false] 61) = w1 from hw1.symm, ← hp]
      clear hw1 hp
      go_wp2_with (first | ((first | refine Mix.wpList_guarded rfl ?_ | refine Mix.wp_still (by kernel_rfl) (by kernel_rfl) ?_); (repeat' (first | (refine Mix.lex_quiet0 rfl rfl rfl ?_; intro K hK; go_big_quiet_op; go_big_quiet_on) | (refine Mix.lex_quietG rfl rfl rfl (by with_reducible rfl) rfl rfl ?_; intro K hK; go_big_quiet_op; go_big_quiet_on) | ((first | refine Mix.lex_skipT rfl rfl rfl (by with_reducible rfl) ?_ | refine Mix.lex_skipF rfl rfl rfl (by with_reducible rfl) ?_ | refine Mix.lex_skipU rfl rfl rfl (by with_reducible rfl) ?_); simp only [Act.put, List.setIfInBounds_toArray, List.set_cons_succ, List.set_cons_zero]) | (refine Mix.lex_part rfl rfl rfl rfl (fun hq => ?_) (fun hq => ?_) <;> (fail_if_success (guard_hyp hq :ₛ true = true)) <;> (fail_if_success (guard_hyp hq :ₛ false = false)) <;> first | (exfalso; cases hq; done) | (exfalso; simp only [decide_eq_true_eq, decide_eq_false_iff_not, beq_iff_eq, beq_eq_false_iff_ne, ne_eq, Int.not_lt, Int.not_le] at hq; omega) | simp only [Act.put, List.setIfInBounds_toArray, List.set_cons_succ, List.set_cons_zero]))); all_goals (refine Mix.lex_nil ?_)))
      refine Mix.wp_draw [10, 11] 11 (Cl w1 No) (by kernel_rfl) (by kernel_rfl) (Cl.of (Only.refl _ _).drew) ?_
      (repeat' (first | (refine Mix.lex_quiet0 rfl rfl rfl ?_; intro K hK; go_big_quiet_op; go_big_quiet_on) | (refine Mix.lex_quietG rfl rfl rfl (by with_reducible rfl) rfl rfl ?_; intro K hK; go_big_quiet_op; go_big_quiet_on) | ((first | refine Mix.lex_skipT rfl rfl rfl (by with_reducible rfl) ?_ | refine Mix.lex_skipF rfl rfl rfl (by with_reducible rfl) ?_ | refine Mix.lex_skipU rfl rfl rfl (by with_reducible rfl) ?_); simp only [Act.put, List.setIfInBounds_toArray, List.set_cons_succ, List.set_cons_zero]) | (refine Mix.lex_part rfl rfl rfl rfl (fun hq => ?_) (fun hq => ?_) <;> (fail_if_success (guard_hyp hq :ₛ true = true)) <;> (fail_if_success (guard_hyp hq :ₛ false = false)) <;> first | (exfalso; cases hq; done) | (exfalso; simp only [decide_eq_true_eq, decide_eq_false_iff_not, beq_iff_eq, beq_eq_false_iff_ne, ne_eq, Int.not_lt, Int.not_le] at hq; omega) | simp only [Act.put, List.setIfInBounds_toArray, List.set_cons_succ, List.set_cons_zero])))
      ((first | refine Mix.lex_goes0 rfl rfl ?_ | refine Mix.lex_goesG rfl rfl rfl (by with_reducible rfl) rfl ?_); intro K hK; go_simp)
      refine hK _ _ (fun _ => Cl.of ((Only.refl No w1).drew.alloc _)) ?_
      clear hK K
      simp only [Act.put, List.setIfInBounds_toArray, List.set_cons_succ, List.set_cons_zero]
      ((first | refine Mix.lex_goes0 rfl rfl ?_ | refine Mix.lex_goesG rfl rfl rfl (by with_reducible rfl) rfl ?_); intro K hK; go_simp)
      refine hK _ _ (fun hne => absurd rfl hne) ?_
      clear hK K
      simp only [Act.put, List.setIfInBounds_toArray, List.set_cons_succ, List.set_cons_zero]
      refine Mix.lex_nil ?_
      obtain ⟨w2, hw2⟩ : ∃ w2, w2 = (w1.alloc (.cells #[S (r.take k), S (r.drop k), .bool gb] 61)).drew := ⟨_, rfl⟩
      have HC2 : Hid (Cs w2 w1.heap.size 61 #[S (r.take k), S (r.drop k), .bool gb]) := by rw [hw2]; exact Cs.new _ _ _
      have X2 : Hid (Ext w1 w2) := by rw [hw2]; exact ((Only.refl No w1).alloc _).drew
      have HBN : Hid (w1.heap.size ≠ p) := by have := HB0.out.lt; unfold Hid; omega
      rw [← hw2]
      clear hw2
      have d0 := HC2.out.cell 0
      have d1 := HC2.out.cell 1
      have d2 := HC2.out.cell 2
      simp only [List.getElem?_toArray, List.getElem?_cons_succ, List.getElem?_cons_zero] at d0 d1 d2
      clear ht1 ht2 hgb
      go_wp2_with (first | ((first | refine Mix.wpList_guarded rfl ?_ | refine Mix.wp_still (by kernel_rfl) (by kernel_rfl) ?_); (repeat' (first | (refine Mix.lex_quiet0 rfl rfl rfl ?_; intro K hK; go_big_quiet_op; go_big_quiet_on) | (refine Mix.lex_quietG rfl rfl rfl (by with_reducible rfl) rfl rfl ?_; intro K hK; go_big_quiet_op; go_big_quiet_on) | ((first | refine Mix.lex_skipT rfl rfl rfl (by with_reducible rfl) ?_ | refine Mix.lex_skipF rfl rfl rfl (by with_reducible rfl) ?_ | refine Mix.lex_skipU rfl rfl rfl (by with_reducible rfl) ?_); simp only [Act.put, List.setIfInBounds_toArray, List.set_cons_succ, List.set_cons_zero]) | (refine Mix.lex_part rfl rfl rfl rfl (fun hq => ?_) (fun hq => ?_) <;> (fail_if_success (guard_hyp hq :ₛ true = true)) <;> (fail_if_success (guard_hyp hq :ₛ false = false)) <;> first | (exfalso; cases hq; done) | (exfalso; simp only [decide_eq_true_eq, decide_eq_false_iff_not, beq_iff_eq, beq_eq_false_iff_ne, ne_eq, Int.not_lt, Int.not_le] at hq; omega) | simp only [Act.put, List.setIfInBounds_toArray, List.set_cons_succ, List.set_cons_zero]))); all_goals (refine Mix.lex_nil ?_)))
      obtain ⟨ξ0, rfl⟩ : ∃ ξ : X w1 No, w2 = ξ.v := ⟨⟨w2, X2.out⟩, rfl⟩
      refine (HC.out _ X2.out).mono ?_; rintro e uu ⟨rfl, hu⟩; obtain ⟨ξ1, hnew⟩ : ∃ ξ : X w1 No, ξ.v = uu := ⟨⟨uu, ξ0.h.then_ext hu⟩, rfl⟩; subst hnew; have Hξ1 := Lib.hid hu; clear hu
      clear HC d0 d1 d2
      have HB1 := Lib.hid (HB0.out.keep ξ1.h id)
      have HC3 := Lib.hid (HC2.out.keep Hξ1.out id)
      have d0 := HC3.out.cell 0
      have d1 := HC3.out.cell 1
      have d2 := HC3.out.cell 2
      have b0 := HB1.out.cell 0
      have b1 := HB1.out.cell 1
      have b2 := HB1.out.cell 2
      have z0 := HB1.out.frozen 0
      have z1 := HB1.out.frozen 1
      have z2 := HB1.out.frozen 2
      simp only [List.getElem?_toArray, List.getElem?_cons_succ, List.getElem?_cons_zero] at d0 d1 d2 b0 b1 b2
      have HS : Hid (∀ x y z, Cs (((ξ1.v.setCell ⟨p, 0, none⟩ x).setCell ⟨p, 1, none⟩ y).setCell ⟨p, 2, none⟩ z) p 61 #[x, y, z]) := fun x y z => ((HB1.out.set_ 0 x).set_ 1 y).set_ 2 z
      have HO : Hid (∀ x y z, Ext w (((ξ1.v.setCell ⟨p, 0, none⟩ x).setCell ⟨p, 1, none⟩ y).setCell ⟨p, 2, none⟩ z)) := fun x y z => (((HX0.out.then_ext ξ1.h).setCell (p := ⟨p, 0, none⟩) (.inl HP.out) x).setCell (p := ⟨p, 1, none⟩) (.inl HP.out) y).setCell (p := ⟨p, 2, none⟩) (.inl HP.out) z
      have hne := HBN.out
      have hne2 : (p ≠ w1.heap.size) := Ne.symm hne
      by_cases hb : bad = 0
      · have HD := Lib.hid (chOf_some (HG.out.trans (if_pos hb)))
        subst hb
        try rw [errV_zero]
        clear HG
        go_wp2_with (first | ((first | refine Mix.wpList_guarded rfl ?_ | refine Mix.wp_still (by kernel_rfl) (by kernel_rfl) ?_); (repeat' (first | (refine Mix.lex_quiet0 rfl rfl rfl ?_; intro K hK; go_big_quiet_op; go_big_quiet_on) | (refine Mix.lex_quietG rfl rfl rfl (by with_reducible rfl) rfl rfl ?_; intro K hK; go_big_quiet_op; go_big_quiet_on) | ((first | refine Mix.lex_skipT rfl rfl rfl (by with_reducible rfl) ?_ | refine Mix.lex_skipF rfl rfl rfl (by with_reducible rfl) ?_ | refine Mix.lex_skipU rfl rfl rfl (by with_reducible rfl) ?_); simp only [Act.put, List.setIfInBounds_toArray, List.set_cons_succ, List.set_cons_zero]) | (refine Mix.lex_part rfl rfl rfl rfl (fun hq => ?_) (fun hq => ?_) <;> (fail_if_success (guard_hyp hq :ₛ true = true)) <;> (fail_if_success (guard_hyp hq :ₛ false = false)) <;> first | (exfalso; cases hq; done) | (exfalso; simp only [decide_eq_true_eq, decide_eq_false_iff_not, beq_iff_eq, beq_eq_false_iff_ne, ne_eq, Int.not_lt, Int.not_le] at hq; omega) | simp only [Act.put, List.setIfInBounds_toArray, List.set_cons_succ, List.set_cons_zero]))); all_goals (refine Mix.lex_nil ?_)))
        refine bodyPost_cell rfl rfl rfl (load_ch (HS.out _ _ _)) ?_
        exact ⟨ret_two (by rw [HD.out.1]) (by rw [HD.out.2]; rfl), HO.out _ _ _⟩
      · have HD := Lib.hid (chOf_none (HG.out.trans (if_neg hb)))
        try rw [errV_pos hb]
        have hb1 : 0 < bad := by omega
        clear HG hb hb0
        go_wp2_with (first | ((first | refine Mix.wpList_guarded rfl ?_ | refine Mix.wp_still (by kernel_rfl) (by kernel_rfl) ?_); (repeat' (first | (refine Mix.lex_quiet0 rfl rfl rfl ?_; intro K hK; go_big_quiet_op; go_big_quiet_on) | (refine Mix.lex_quietG rfl rfl rfl (by with_reducible rfl) rfl rfl ?_; intro K hK; go_big_quiet_op; go_big_quiet_on) | ((first | refine Mix.lex_skipT rfl rfl rfl (by with_reducible rfl) ?_ | refine Mix.lex_skipF rfl rfl rfl (by with_reducible rfl) ?_ | refine Mix.lex_skipU rfl rfl rfl (by with_reducible rfl) ?_); simp only [Act.put, List.setIfInBounds_toArray, List.set_cons_succ, List.set_cons_zero]) | (refine Mix.lex_part rfl rfl rfl rfl (fun hq => ?_) (fun hq => ?_) <;> (fail_if_success (guard_hyp hq :ₛ true = true)) <;> (fail_if_success (guard_hyp hq :ₛ false = false)) <;> first | (exfalso; cases hq; done) | (exfalso; simp only [decide_eq_true_eq, decide_eq_false_iff_not, beq_iff_eq, beq_eq_false_iff_ne, ne_eq, Int.not_lt, Int.not_le] at hq; omega) | simp only [Act.put, List.setIfInBounds_toArray, List.set_cons_succ, List.set_cons_zero]))); all_goals (refine Mix.lex_nil ?_)))
        refine bodyPost_cell rfl rfl rfl (load_ch (HS.out _ _ _)) ?_
        exact ⟨ret_two HD.out.1.symm (by rw [HD.out.2]; rfl), HO.out _ _ _⟩
    · have HD := Lib.hid (chOf_none (s := g :: n :: r) (by
        have : chDec (g :: n :: r) = none := if_neg hb
        unfold chGood; rw [this]; rfl))
      go_enter Try.func52, Try.ntmps52
      go_wp2_with (first | ((first | refine Mix.wpList_guarded rfl ?_ | refine Mix.wp_still (by kernel_rfl) (by kernel_rfl) ?_); (repeat' (first | (refine Mix.lex_quiet0 rfl rfl rfl ?_; intro K hK; go_big_quiet_op; go_big_quiet_on) | (refine Mix.lex_quietG rfl rfl rfl (by with_reducible rfl) rfl rfl ?_; intro K hK; go_big_quiet_op; go_big_quiet_on) | ((first | refine Mix.lex_skipT rfl rfl rfl (by with_reducible rfl) ?_ | refine Mix.lex_skipF rfl rfl rfl (by with_reducible rfl) ?_ | refine Mix.lex_skipU rfl rfl rfl (by with_reducible rfl) ?_); simp only [Act.put, List.setIfInBounds_toArray, List.set_cons_succ, List.set_cons_zero]) | (refine Mix.lex_part rfl rfl rfl rfl (fun hq => ?_) (fun hq => ?_) <;> (fail_if_success (guard_hyp hq :ₛ true = true)) <;> (fail_if_success (guard_hyp hq :ₛ false = false)) <;> first | (exfalso; cases hq; done) | (exfalso; simp only [decide_eq_true_eq, decide_eq_false_iff_not, beq_iff_eq, beq_eq_false_iff_ne, ne_eq, Int.not_lt, Int.not_le] at hq; omega) | simp only [Act.put, List.setIfInBounds_toArray, List.set_cons_succ, List.set_cons_zero]))); all_goals (refine Mix.lex_nil ?_)))
      all_goals first
        | (exfalso; simp only [decide_eq_true_eq, decide_eq_false_iff_not, beq_iff_eq, beq_eq_false_iff_ne, ne_eq, Int.not_lt, Int.not_le, Bool.not_eq_true, Bool.not_eq_false, Bool.or_eq_true, Bool.or_eq_false_iff, Bool.and_eq_true, Bool.and_eq_false_iff, Bool.not_eq_eq_eq_not, Bool.not_true, Bool.not_false] at *; omega)
        | (refine bodyPost_cell rfl rfl rfl (load_ch (Cs.new w _ _)) ?_
           exact ⟨ret_two HD.out.1.symm (by rw [HD.out.2]; rfl), HX0.out⟩)
end Go.Proofs.Ytaphmmobmadfoaa
