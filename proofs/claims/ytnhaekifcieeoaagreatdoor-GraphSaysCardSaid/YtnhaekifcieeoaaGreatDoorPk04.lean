/- Put together: Stem, FilesL, Find, Files1, Grf, Own3. -/
import Derived.Test.YtnhaekifcieeoaaGreatDoorPk01
import Derived.Test.YtnhaekifcieeoaaGreatDoorPk02
import Derived.Test.YtnhaekifcieeoaaGreatDoorPk03
import Derived.Test.YtnhaekifcieeoaaGreatDoorPkS
namespace Go.Proofs.YtnhaekifcieeoaaGreatDoor
open Go Go.RowKit
def preB (s p : Str) : Bool := decide (p.length ≤ s.length) && (s.take p.length == p)
def sufB (s p : Str) : Bool := decide (p.length ≤ s.length) && (s.drop (s.length - p.length) == p)
def stemL (pat name : Str) : Str × Bool :=
  if (cutB 37 pat).2.2 = true ∧ (cutB 37 pat).1.length + (cutB 37 pat).2.1.length < name.length ∧ preB name (cutB 37 pat).1 = true ∧ sufB name (cutB 37 pat).2.1 = true
  then ((name.take (name.length - (cutB 37 pat).2.1.length)).drop (cutB 37 pat).1.length, true) else ([], false)
theorem SLHasPrefix_c (s p : Str) (hs : s.length ≤ maxLen) (hp : p.length ≤ maxLen) (w : World) :
    Calls Tryz.prog 128 #[S s, S p] w fun e w' => e = .returned (.bool (preB s p)) ∧ Ext w w' := by
  unfold maxLen at hs hp
  have HB : Hid (preB s p = (decide (p.length ≤ s.length) && (s.take p.length == p))) := rfl
  by_cases hl : p.length ≤ s.length
  · rw [decide_eq_true hl] at HB
    have HT : Hid ((s.take p.length == p) = preB s p) := by rw [Hid, HB.out]; rfl
    have g1 : decide ((p.length : Int) ≤ (s.length : Int)) = true := by rw [decide_eq_true_iff]; omega
    generalize preB s p = b at HT ⊢
    clear HB
    go_enter Tryz.func128, Tryz.ntmps128
    go_wp2_with fail
    all_goals (go_ret; exact ⟨by rw [← HT.out]; try rfl, Only.refl _ _⟩)
  · have HT : Hid (preB s p = false) := by rw [Hid, HB.out, decide_eq_false hl]; rfl
    have g1 : decide ((p.length : Int) ≤ (s.length : Int)) = false := by rw [decide_eq_false_iff_not]; omega
    rw [HT.out]
    go_enter Tryz.func128, Tryz.ntmps128
    go_wp2_with fail
    all_goals (go_ret; exact ⟨rfl, Only.refl _ _⟩)
theorem HasPrefix_c (s p : Str) (hs : s.length ≤ maxLen) (hp : p.length ≤ maxLen) (w : World) :
    Calls Tryz.prog 119 #[S s, S p] w fun e w' => e = .returned (.bool (preB s p)) ∧ Ext w w' := by
  have HC := Lib.hid (SLHasPrefix_c s p hs hp w)
  go_enter Tryz.func119, Tryz.ntmps119
  go_wp2_with fail
  refine (HC.out).mono ?_; rintro e uu ⟨rfl, hu⟩; obtain ⟨ξ1, hnew⟩ : ∃ ξ : X w No, ξ.v = uu := ⟨⟨uu, (X.here w No).h.then_ext hu⟩, rfl⟩; subst hnew; have Hξ1 := Lib.hid hu; clear hu
  go_wp2_with fail
  go_ret
  exact ⟨rfl, ξ1.h⟩
theorem SLHasSuffix_c (s p : Str) (hs : s.length ≤ maxLen) (hp : p.length ≤ maxLen) (w : World) :
    Calls Tryz.prog 151 #[S s, S p] w fun e w' => e = .returned (.bool (sufB s p)) ∧ Ext w w' := by
  unfold maxLen at hs hp
  have HB : Hid (sufB s p = (decide (p.length ≤ s.length) && (s.drop (s.length - p.length) == p))) := rfl
  by_cases hl : p.length ≤ s.length
  · rw [decide_eq_true hl] at HB
    have HT : Hid ((s.drop (s.length - p.length) == p) = sufB s p) := by rw [Hid, HB.out]; rfl
    have g1 : decide ((p.length : Int) ≤ (s.length : Int)) = true := by rw [decide_eq_true_iff]; omega
    generalize sufB s p = b at HT ⊢
    clear HB
    go_enter Tryz.func151, Tryz.ntmps151
    go_wp2_with fail
    all_goals (go_ret; exact ⟨by rw [← HT.out]; try rfl, Only.refl _ _⟩)
  · have HT : Hid (sufB s p = false) := by rw [Hid, HB.out, decide_eq_false hl]; rfl
    have g1 : decide ((p.length : Int) ≤ (s.length : Int)) = false := by rw [decide_eq_false_iff_not]; omega
    rw [HT.out]
    go_enter Tryz.func151, Tryz.ntmps151
    go_wp2_with fail
    all_goals (go_ret; exact ⟨rfl, Only.refl _ _⟩)
theorem HasSuffix_c (s p : Str) (hs : s.length ≤ maxLen) (hp : p.length ≤ maxLen) (w : World) :
    Calls Tryz.prog 120 #[S s, S p] w fun e w' => e = .returned (.bool (sufB s p)) ∧ Ext w w' := by
  have HC := Lib.hid (SLHasSuffix_c s p hs hp w)
  go_enter Tryz.func120, Tryz.ntmps120
  go_wp2_with fail
  refine (HC.out).mono ?_; rintro e uu ⟨rfl, hu⟩; obtain ⟨ξ1, hnew⟩ : ∃ ξ : X w No, ξ.v = uu := ⟨⟨uu, (X.here w No).h.then_ext hu⟩, rfl⟩; subst hnew; have Hξ1 := Lib.hid hu; clear hu
  go_wp2_with fail
  go_ret
  exact ⟨rfl, ξ1.h⟩
set_option maxHeartbeats 1000000 in
theorem Stem_c (pat name : Str) (hp : pat.length ≤ 100000) (hn : name.length ≤ 100000) {w : World} (hm : Ml w) :
    Calls Tryz.prog 87 #[S pat, S name] w fun e w' => e = .returned (.tuple #[S (stemL pat name).1, .bool (stemL pat name).2]) ∧ Ext w w' := by
  have HC := Lib.hid (BCut_c pat 37 (by omega) hm)
  have hl := cutB_len 37 pat
  have HD : Hid (stemL pat name = if (cutB 37 pat).2.2 = true ∧ (cutB 37 pat).1.length + (cutB 37 pat).2.1.length < name.length ∧ preB name (cutB 37 pat).1 = true ∧ sufB name (cutB 37 pat).2.1 = true then ((name.take (name.length - (cutB 37 pat).2.1.length)).drop (cutB 37 pat).1.length, true) else ([], false)) := rfl
  generalize stemL pat name = R at HD ⊢
  generalize cutB 37 pat = q at HC hl HD
  obtain ⟨a, b, is⟩ := q
  dsimp only at HC hl HD
  have HP := Lib.hid (fun v => HasPrefix_c name a (by unfold maxLen; omega) (by unfold maxLen; omega) v)
  have HS := Lib.hid (fun v => HasSuffix_c name b (by unfold maxLen; omega) (by unfold maxLen; omega) v)
  generalize preB name a = pb at HP HD
  generalize sufB name b = sb at HS HD
  clear hm
  go_enter Tryz.func87, Tryz.ntmps87
  go_wp2_with fail
  refine (HC.out).mono ?_; rintro e uu ⟨rfl, hu⟩; obtain ⟨ξ1, hnew⟩ : ∃ ξ : X w No, ξ.v = uu := ⟨⟨uu, (X.here w No).h.then_ext hu⟩, rfl⟩; subst hnew; have Hξ1 := Lib.hid hu; clear hu
  clear HC
  cases is with
  | false =>
    have HR : Hid (R = ([], false)) := by rw [Hid, HD.out]; exact if_neg (fun h => by simp at h)
    go_wp2_with fail
    go_ret2
    rw [HR.out]
    exact ⟨rfl, ξ1.h⟩
  | true =>
  by_cases hlt : a.length + b.length < name.length
  · have g1 : decide ((name.length : Int) ≤ (a.length : Int) + (b.length : Int)) = false := by rw [decide_eq_false_iff_not]; omega
    cases pb with
    | false =>
      have HR : Hid (R = ([], false)) := by rw [Hid, HD.out]; exact if_neg (fun h => by simp at h)
      go_upto_region 2 with fail
      refine Mix.wp_plain [15] (Cl w No) (Cl.of ξ1.h) ?_
      (repeat' (first | (refine Mix.lex_quiet0 rfl rfl rfl ?_; intro K hK; go_big_quiet_op; go_big_quiet_on) | (refine Mix.lex_quietG rfl rfl rfl (by with_reducible rfl) rfl rfl ?_; intro K hK; go_big_quiet_op; go_big_quiet_on) | ((first | refine Mix.lex_skipT rfl rfl rfl (by with_reducible rfl) ?_ | refine Mix.lex_skipF rfl rfl rfl (by with_reducible rfl) ?_ | refine Mix.lex_skipU rfl rfl rfl (by with_reducible rfl) ?_); simp only [Act.put, List.setIfInBounds_toArray, List.set_cons_succ, List.set_cons_zero]) | (refine Mix.lex_part rfl rfl rfl rfl (fun hq => ?_) (fun hq => ?_) <;> (fail_if_success (guard_hyp hq :ₛ true = true)) <;> (fail_if_success (guard_hyp hq :ₛ false = false)) <;> first | (exfalso; cases hq; done) | (exfalso; simp only [decide_eq_true_eq, decide_eq_false_iff_not, beq_iff_eq, beq_eq_false_iff_ne, ne_eq, Int.not_lt, Int.not_le] at hq; omega) | simp only [Act.put, List.setIfInBounds_toArray, List.set_cons_succ, List.set_cons_zero])))
      ((first | refine Mix.lex_goes0 rfl rfl ?_ | refine Mix.lex_goesG rfl rfl rfl (by with_reducible rfl) rfl ?_); intro K hK; go_simp); refine (HP.out _).mono ?_; rintro e uu ⟨rfl, hu⟩; obtain ⟨ξ2, hnew⟩ : ∃ ξ : X w No, ξ.v = uu := ⟨⟨uu, ξ1.h.then_ext hu⟩, rfl⟩; subst hnew; have Hξ2 := Lib.hid hu; refine ⟨_, rfl, hK _ _ (fun _ => ⟨ξ2, rfl⟩) ?_⟩; clear hK K hu; simp only [Act.put, List.setIfInBounds_toArray, List.set_cons_succ, List.set_cons_zero]; (repeat' (first | (refine Mix.lex_quiet0 rfl rfl rfl ?_; intro K hK; go_big_quiet_op; go_big_quiet_on) | (refine Mix.lex_quietG rfl rfl rfl (by with_reducible rfl) rfl rfl ?_; intro K hK; go_big_quiet_op; go_big_quiet_on) | ((first | refine Mix.lex_skipT rfl rfl rfl (by with_reducible rfl) ?_ | refine Mix.lex_skipF rfl rfl rfl (by with_reducible rfl) ?_ | refine Mix.lex_skipU rfl rfl rfl (by with_reducible rfl) ?_); simp only [Act.put, List.setIfInBounds_toArray, List.set_cons_succ, List.set_cons_zero]) | (refine Mix.lex_part rfl rfl rfl rfl (fun hq => ?_) (fun hq => ?_) <;> (fail_if_success (guard_hyp hq :ₛ true = true)) <;> (fail_if_success (guard_hyp hq :ₛ false = false)) <;> first | (exfalso; cases hq; done) | (exfalso; simp only [decide_eq_true_eq, decide_eq_false_iff_not, beq_iff_eq, beq_eq_false_iff_ne, ne_eq, Int.not_lt, Int.not_le] at hq; omega) | simp only [Act.put, List.setIfInBounds_toArray, List.set_cons_succ, List.set_cons_zero])))
      refine Mix.lex_nil ?_
      go_wp2_with fail
      go_ret2
      rw [HR.out]
      exact ⟨rfl, ξ2.h⟩
    | true =>
      cases sb with
      | false =>
        have HR : Hid (R = ([], false)) := by rw [Hid, HD.out]; exact if_neg (fun h => by simp at h)
        go_upto_region 2 with fail
        refine Mix.wp_plain [15, 21] (Cl w No) (Cl.of ξ1.h) ?_
        (repeat' (first | (refine Mix.lex_quiet0 rfl rfl rfl ?_; intro K hK; go_big_quiet_op; go_big_quiet_on) | (refine Mix.lex_quietG rfl rfl rfl (by with_reducible rfl) rfl rfl ?_; intro K hK; go_big_quiet_op; go_big_quiet_on) | ((first | refine Mix.lex_skipT rfl rfl rfl (by with_reducible rfl) ?_ | refine Mix.lex_skipF rfl rfl rfl (by with_reducible rfl) ?_ | refine Mix.lex_skipU rfl rfl rfl (by with_reducible rfl) ?_); simp only [Act.put, List.setIfInBounds_toArray, List.set_cons_succ, List.set_cons_zero]) | (refine Mix.lex_part rfl rfl rfl rfl (fun hq => ?_) (fun hq => ?_) <;> (fail_if_success (guard_hyp hq :ₛ true = true)) <;> (fail_if_success (guard_hyp hq :ₛ false = false)) <;> first | (exfalso; cases hq; done) | (exfalso; simp only [decide_eq_true_eq, decide_eq_false_iff_not, beq_iff_eq, beq_eq_false_iff_ne, ne_eq, Int.not_lt, Int.not_le] at hq; omega) | simp only [Act.put, List.setIfInBounds_toArray, List.set_cons_succ, List.set_cons_zero])))
        ((first | refine Mix.lex_goes0 rfl rfl ?_ | refine Mix.lex_goesG rfl rfl rfl (by with_reducible rfl) rfl ?_); intro K hK; go_simp); refine (HP.out _).mono ?_; rintro e uu ⟨rfl, hu⟩; obtain ⟨ξ2, hnew⟩ : ∃ ξ : X w No, ξ.v = uu := ⟨⟨uu, ξ1.h.then_ext hu⟩, rfl⟩; subst hnew; have Hξ2 := Lib.hid hu; refine ⟨_, rfl, hK _ _ (fun _ => ⟨ξ2, rfl⟩) ?_⟩; clear hK K hu; simp only [Act.put, List.setIfInBounds_toArray, List.set_cons_succ, List.set_cons_zero]; (repeat' (first | (refine Mix.lex_quiet0 rfl rfl rfl ?_; intro K hK; go_big_quiet_op; go_big_quiet_on) | (refine Mix.lex_quietG rfl rfl rfl (by with_reducible rfl) rfl rfl ?_; intro K hK; go_big_quiet_op; go_big_quiet_on) | ((first | refine Mix.lex_skipT rfl rfl rfl (by with_reducible rfl) ?_ | refine Mix.lex_skipF rfl rfl rfl (by with_reducible rfl) ?_ | refine Mix.lex_skipU rfl rfl rfl (by with_reducible rfl) ?_); simp only [Act.put, List.setIfInBounds_toArray, List.set_cons_succ, List.set_cons_zero]) | (refine Mix.lex_part rfl rfl rfl rfl (fun hq => ?_) (fun hq => ?_) <;> (fail_if_success (guard_hyp hq :ₛ true = true)) <;> (fail_if_success (guard_hyp hq :ₛ false = false)) <;> first | (exfalso; cases hq; done) | (exfalso; simp only [decide_eq_true_eq, decide_eq_false_iff_not, beq_iff_eq, beq_eq_false_iff_ne, ne_eq, Int.not_lt, Int.not_le] at hq; omega) | simp only [Act.put, List.setIfInBounds_toArray, List.set_cons_succ, List.set_cons_zero])))
        ((first | refine Mix.lex_goes0 rfl rfl ?_ | refine Mix.lex_goesG rfl rfl rfl (by with_reducible rfl) rfl ?_); intro K hK; go_simp); refine (HS.out _).mono ?_; rintro e uu ⟨rfl, hu⟩; obtain ⟨ξ3, hnew⟩ : ∃ ξ : X w No, ξ.v = uu := ⟨⟨uu, ξ2.h.then_ext hu⟩, rfl⟩; subst hnew; have Hξ3 := Lib.hid hu; refine ⟨_, rfl, hK _ _ (fun _ => ⟨ξ3, rfl⟩) ?_⟩; clear hK K hu; simp only [Act.put, List.setIfInBounds_toArray, List.set_cons_succ, List.set_cons_zero]; (repeat' (first | (refine Mix.lex_quiet0 rfl rfl rfl ?_; intro K hK; go_big_quiet_op; go_big_quiet_on) | (refine Mix.lex_quietG rfl rfl rfl (by with_reducible rfl) rfl rfl ?_; intro K hK; go_big_quiet_op; go_big_quiet_on) | ((first | refine Mix.lex_skipT rfl rfl rfl (by with_reducible rfl) ?_ | refine Mix.lex_skipF rfl rfl rfl (by with_reducible rfl) ?_ | refine Mix.lex_skipU rfl rfl rfl (by with_reducible rfl) ?_); simp only [Act.put, List.setIfInBounds_toArray, List.set_cons_succ, List.set_cons_zero]) | (refine Mix.lex_part rfl rfl rfl rfl (fun hq => ?_) (fun hq => ?_) <;> (fail_if_success (guard_hyp hq :ₛ true = true)) <;> (fail_if_success (guard_hyp hq :ₛ false = false)) <;> first | (exfalso; cases hq; done) | (exfalso; simp only [decide_eq_true_eq, decide_eq_false_iff_not, beq_iff_eq, beq_eq_false_iff_ne, ne_eq, Int.not_lt, Int.not_le] at hq; omega) | simp only [Act.put, List.setIfInBounds_toArray, List.set_cons_succ, List.set_cons_zero])))
        refine Mix.lex_nil ?_
        go_wp2_with fail
        go_ret2
        rw [HR.out]
        exact ⟨rfl, ξ3.h⟩
      | true =>
        have HR : Hid (R = ((name.take (name.length - b.length)).drop a.length, true)) := by rw [Hid, HD.out]; exact if_pos ⟨rfl, hlt, rfl, rfl⟩
        go_upto_region 2 with fail
        refine Mix.wp_plain [15, 21] (Cl w No) (Cl.of ξ1.h) ?_
        (repeat' (first | (refine Mix.lex_quiet0 rfl rfl rfl ?_; intro K hK; go_big_quiet_op; go_big_quiet_on) | (refine Mix.lex_quietG rfl rfl rfl (by with_reducible rfl) rfl rfl ?_; intro K hK; go_big_quiet_op; go_big_quiet_on) | ((first | refine Mix.lex_skipT rfl rfl rfl (by with_reducible rfl) ?_ | refine Mix.lex_skipF rfl rfl rfl (by with_reducible rfl) ?_ | refine Mix.lex_skipU rfl rfl rfl (by with_reducible rfl) ?_); simp only [Act.put, List.setIfInBounds_toArray, List.set_cons_succ, List.set_cons_zero]) | (refine Mix.lex_part rfl rfl rfl rfl (fun hq => ?_) (fun hq => ?_) <;> (fail_if_success (guard_hyp hq :ₛ true = true)) <;> (fail_if_success (guard_hyp hq :ₛ false = false)) <;> first | (exfalso; cases hq; done) | (exfalso; simp only [decide_eq_true_eq, decide_eq_false_iff_not, beq_iff_eq, beq_eq_false_iff_ne, ne_eq, Int.not_lt, Int.not_le] at hq; omega) | simp only [Act.put, List.setIfInBounds_toArray, List.set_cons_succ, List.set_cons_zero])))
        ((first | refine Mix.lex_goes0 rfl rfl ?_ | refine Mix.lex_goesG rfl rfl rfl (by with_reducible rfl) rfl ?_); intro K hK; go_simp); refine (HP.out _).mono ?_; rintro e uu ⟨rfl, hu⟩; obtain ⟨ξ2, hnew⟩ : ∃ ξ : X w No, ξ.v = uu := ⟨⟨uu, ξ1.h.then_ext hu⟩, rfl⟩; subst hnew; have Hξ2 := Lib.hid hu; refine ⟨_, rfl, hK _ _ (fun _ => ⟨ξ2, rfl⟩) ?_⟩; clear hK K hu; simp only [Act.put, List.setIfInBounds_toArray, List.set_cons_succ, List.set_cons_zero]; (repeat' (first | (refine Mix.lex_quiet0 rfl rfl rfl ?_; intro K hK; go_big_quiet_op; go_big_quiet_on) | (refine Mix.lex_quietG rfl rfl rfl (by with_reducible rfl) rfl rfl ?_; intro K hK; go_big_quiet_op; go_big_quiet_on) | ((first | refine Mix.lex_skipT rfl rfl rfl (by with_reducible rfl) ?_ | refine Mix.lex_skipF rfl rfl rfl (by with_reducible rfl) ?_ | refine Mix.lex_skipU rfl rfl rfl (by with_reducible rfl) ?_); simp only [Act.put, List.setIfInBounds_toArray, List.set_cons_succ, List.set_cons_zero]) | (refine Mix.lex_part rfl rfl rfl rfl (fun hq => ?_) (fun hq => ?_) <;> (fail_if_success (guard_hyp hq :ₛ true = true)) <;> (fail_if_success (guard_hyp hq :ₛ false = false)) <;> first | (exfalso; cases hq; done) | (exfalso; simp only [decide_eq_true_eq, decide_eq_false_iff_not, beq_iff_eq, beq_eq_false_iff_ne, ne_eq, Int.not_lt, Int.not_le] at hq; omega) | simp only [Act.put, List.setIfInBounds_toArray, List.set_cons_succ, List.set_cons_zero])))
        ((first | refine Mix.lex_goes0 rfl rfl ?_ | refine Mix.lex_goesG rfl rfl rfl (by with_reducible rfl) rfl ?_); intro K hK; go_simp); refine (HS.out _).mono ?_; rintro e uu ⟨rfl, hu⟩; obtain ⟨ξ3, hnew⟩ : ∃ ξ : X w No, ξ.v = uu := ⟨⟨uu, ξ2.h.then_ext hu⟩, rfl⟩; subst hnew; have Hξ3 := Lib.hid hu; refine ⟨_, rfl, hK _ _ (fun _ => ⟨ξ3, rfl⟩) ?_⟩; clear hK K hu; simp only [Act.put, List.setIfInBounds_toArray, List.set_cons_succ, List.set_cons_zero]; (repeat' (first | (refine Mix.lex_quiet0 rfl rfl rfl ?_; intro K hK; go_big_quiet_op; go_big_quiet_on) | (refine Mix.lex_quietG rfl rfl rfl (by with_reducible rfl) rfl rfl ?_; intro K hK; go_big_quiet_op; go_big_quiet_on) | ((first | refine Mix.lex_skipT rfl rfl rfl (by with_reducible rfl) ?_ | refine Mix.lex_skipF rfl rfl rfl (by with_reducible rfl) ?_ | refine Mix.lex_skipU rfl rfl rfl (by with_reducible rfl) ?_); simp only [Act.put, List.setIfInBounds_toArray, List.set_cons_succ, List.set_cons_zero]) | (refine Mix.lex_part rfl rfl rfl rfl (fun hq => ?_) (fun hq => ?_) <;> (fail_if_success (guard_hyp hq :ₛ true = true)) <;> (fail_if_success (guard_hyp hq :ₛ false = false)) <;> first | (exfalso; cases hq; done) | (exfalso; simp only [decide_eq_true_eq, decide_eq_false_iff_not, beq_iff_eq, beq_eq_false_iff_ne, ne_eq, Int.not_lt, Int.not_le] at hq; omega) | simp only [Act.put, List.setIfInBounds_toArray, List.set_cons_succ, List.set_cons_zero])))
        refine Mix.lex_nil ?_
        go_wp2_with fail
        go_ret2
        rw [HR.out]
        exact ⟨rfl, ξ3.h⟩
  · have HR : Hid (R = ([], false)) := by rw [Hid, HD.out]; exact if_neg (fun h => hlt h.2.1)
    have g1 : decide ((name.length : Int) ≤ (a.length : Int) + (b.length : Int)) = true := by rw [decide_eq_true_iff]; omega
    go_wp2_with fail
    go_ret2
    rw [HR.out]
    exact ⟨rfl, ξ1.h⟩
def hasAt {α : Type} (key : α → Str) (l : List α) (k : Str) : Bool := match l[posOf key l k]? with | some x => decide (key x = k) | none => false
section
variable {α : Type} (key : α → Str)
def getL (k : Str) (l : List α) : Option α := l.find? fun y => decide (key y = k)
variable {key}
theorem posOf_cons_lt {x : α} {l : List α} {k : Str} (h : key x < k) : posOf key (x :: l) k = posOf key l k + 1 := by
  unfold posOf
  rw [List.takeWhile_cons, if_pos (show ltB (key x) k = true from decide_eq_true h)]
  rfl
theorem posOf_cons_ge {x : α} {l : List α} {k : Str} (h : ¬ key x < k) : posOf key (x :: l) k = 0 := by
  unfold posOf
  rw [List.takeWhile_cons, if_neg (by show ¬ ltB (key x) k = true; rw [show ltB (key x) k = false from decide_eq_false h]; simp)]
  rfl
theorem hasAt_cons_lt {x : α} {l : List α} {k : Str} (h : key x < k) : hasAt key (x :: l) k = hasAt key l k := by
  unfold hasAt; rw [posOf_cons_lt h, List.getElem?_cons_succ]
theorem hasAt_cons_ge {x : α} {l : List α} {k : Str} (h : ¬ key x < k) : hasAt key (x :: l) k = decide (key x = k) := by
  unfold hasAt; rw [posOf_cons_ge h]; rfl
theorem Rise.tail {x : α} {l : List α} (h : Rise key (x :: l)) : Rise key l := (List.pairwise_cons.1 h).2
theorem Rise.head {x : α} {l : List α} (h : Rise key (x :: l)) : ∀ y ∈ l, key x < key y := (List.pairwise_cons.1 h).1
theorem getL_at {l : List α} (h : Rise key l) (k : Str) : getL key k l = if hasAt key l k then l[posOf key l k]? else none := by
  induction l with
  | nil => simp [getL, hasAt]
  | cons x l ih =>
    by_cases hx : key x < k
    · rw [hasAt_cons_lt hx, posOf_cons_lt hx, List.getElem?_cons_succ, ← ih h.tail]
      unfold getL
      rw [List.find?_cons_of_neg (by simpa using slt_ne hx)]
    · rw [hasAt_cons_ge hx, posOf_cons_ge hx]
      by_cases e : key x = k
      · simp [getL, e]
      · have hk : k < key x := by
          by_cases hl : k < key x
          · exact hl
          · exact absurd (seq_of hx hl) e
        have : getL key k (x :: l) = none := by
          unfold getL
          rw [List.find?_eq_none]
          intro y hy
          rcases List.mem_cons.1 hy with rfl | hy
          · simpa using e
          · have := slt_ne (slt_trans hk (h.head y hy))
            simp [Ne.symm this]
        rw [this]
        simp [e]
def riseB (key : α → Str) : List α → Bool
  | [] => true
  | [_] => true
  | x :: y :: l => ltB (key x) (key y) && riseB key (y :: l)
theorem rise_of {l : List α} (h : riseB key l = true) : Rise key l := by
  induction l with
  | nil => simp [Rise]
  | cons x l ih =>
    cases l with
    | nil => simp [Rise]
    | cons y l =>
      simp only [riseB, Bool.and_eq_true] at h
      have hr := ih h.2
      refine List.pairwise_cons.2 ⟨fun z hz => ?_, hr⟩
      have hxy := ltB_true h.1
      rcases List.mem_cons.1 hz with rfl | hz
      · exact hxy
      · exact slt_trans hxy (hr.head z hz)
theorem riseB_iff {l : List α} : riseB key l = true ↔ ∀ i x y, l[i]? = some x → l[i + 1]? = some y → key x < key y := by
  induction l with
  | nil => simp [riseB]
  | cons a l ih =>
    cases l with
    | nil => simp [riseB]
    | cons b l =>
      simp only [riseB, Bool.and_eq_true]
      constructor
      · rintro ⟨h1, h2⟩ i x y hx hy
        cases i with
        | zero =>
          simp at hx hy
          subst hx; subst hy
          exact ltB_true h1
        | succ i => exact ih.1 h2 i x y (by simpa using hx) (by simpa using hy)
      · intro h
        exact ⟨decide_eq_true (h 0 a b rfl rfl), ih.2 fun i x y hx hy => h (i + 1) x y (by simpa using hx) (by simpa using hy)⟩
end
theorem Compare_c (a b : Str) (w : World) : Calls Tryz.prog 72 #[S a, S b] w fun e w' => e = .returned (.int .i64 (cmpS a b)) ∧ Ext w w' := by
  refine (Tryz.strings_Compare _ _ w).mono ?_
  rintro e w' ⟨rfl, rfl⟩
  exact ⟨rfl, Only.refl _ _⟩
theorem find1_c (f : File) (k : Str) (w : World) : Calls Tryz.prog 71 #[.agg #[S f.1, S f.2], S k] w fun e w' => e = .returned (.int .i64 (cmpS f.1 k)) ∧ Ext w w' := by
  go_enter Tryz.func71, Tryz.ntmps71
  go_wp2_with fail
  refine (Compare_c f.1 k _).mono ?_
  rintro e u ⟨rfl, hu⟩
  go_wp2_with fail
  go_ret
  exact ⟨rfl, ((Only.refl No w).alloc _).then_ext hu⟩
set_option maxRecDepth 100000 in
set_option maxHeartbeats 1000000 in
theorem BsFile_c {w : World} {A : Option Addr} {n c : Nat} {xs : List File} (h : SlR fileF w A n xs) (hn : n ≤ 1000000) (k : Str) (hr : Rise (·.1) xs) :
    Calls Tryz.prog 70 #[.slice A n c, S k, .func (.func 71) #[] #[]] w fun e w' => e = .returned (.tuple #[.int .i64 (posOf (·.1) xs k : Nat), .bool (hasAt (·.1) xs k)]) ∧ Ext w w' := by
  have HR := Lib.hid hr
  clear hr
  go_enter Tryz.func70, Tryz.ntmps70
  go_wp2_with (first | ((first | refine Mix.wpList_guarded rfl ?_ | refine Mix.wp_still (by kernel_rfl) (by kernel_rfl) ?_); (repeat' (first | (refine Mix.lex_quiet0 rfl rfl rfl ?_; intro K hK; go_big_quiet_op; go_big_quiet_on) | (refine Mix.lex_quietG rfl rfl rfl (by with_reducible rfl) rfl rfl ?_; intro K hK; go_big_quiet_op; go_big_quiet_on) | ((first | refine Mix.lex_skipT rfl rfl rfl (by with_reducible rfl) ?_ | refine Mix.lex_skipF rfl rfl rfl (by with_reducible rfl) ?_ | refine Mix.lex_skipU rfl rfl rfl (by with_reducible rfl) ?_); simp only [Act.put, List.setIfInBounds_toArray, List.set_cons_succ, List.set_cons_zero]) | (refine Mix.lex_part rfl rfl rfl rfl (fun hq => ?_) (fun hq => ?_) <;> (fail_if_success (guard_hyp hq :ₛ true = true)) <;> (fail_if_success (guard_hyp hq :ₛ false = false)) <;> first | (exfalso; cases hq; done) | (exfalso; simp only [decide_eq_true_eq, decide_eq_false_iff_not, beq_iff_eq, beq_eq_false_iff_ne, ne_eq, Int.not_lt, Int.not_le] at hq; omega) | simp only [Act.put, List.setIfInBounds_toArray, List.set_cons_succ, List.set_cons_zero]))); all_goals (refine Mix.lex_nil ?_)))
  go_loopw [9, 10] (fun i j wr => ∃ a b : Nat, a ≤ b ∧ b ≤ n ∧ i = .int .i64 a ∧ j = .int .i64 b ∧ (∀ p x, p < a → xs[p]? = some x → x.1 < k) ∧ (∀ p x, b ≤ p → xs[p]? = some x → ¬ x.1 < k) ∧ ∃ ξ : X w No, wr = ξ.v) (fun i j _ => (intOf j - intOf i).toNat)
  case atStart => exact ⟨0, n, Nat.zero_le _, Nat.le_refl _, rfl, rfl, fun p x hp => by omega, fun p x hp hx => (by have := (List.getElem?_eq_some_iff.1 hx).1; have := h.1; omega), X.here _ _, rfl⟩
  case round =>
    obtain ⟨a, b, hab, hbn, rfl, rfl, h1, h2, ξ, rfl⟩ := hrel
    have H1 := Lib.hid h1
    have H2 := Lib.hid h2
    clear h1 h2
    by_cases hlt : a < b
    · obtain ⟨bk, o, x, rfl, hx, c0, c1⟩ := files_get h (k := (a + b) / 2) (by omega)
      have HX := Lib.hid hx
      clear hx
      have hd := cmpS_lt x.1 k
      have HF := Lib.hid (fun w => find1_c x k w)
      obtain ⟨m, hm⟩ : ∃ m, m = cmpS x.1 k := ⟨_, rfl⟩
      rw [← hm] at hd HF
      clear hm
      by_cases hxk : x.1 < k
      · rw [decide_eq_true hxk] at hd
        have HK := Lib.hid hxk
        clear hxk
        go_wp2_with (first | ((first | refine Mix.wpList_guarded rfl ?_ | refine Mix.wp_still (by kernel_rfl) (by kernel_rfl) ?_); (repeat' (first | (refine Mix.lex_quiet0 rfl rfl rfl ?_; intro K hK; go_big_quiet_op; go_big_quiet_on) | (refine Mix.lex_quietG rfl rfl rfl (by with_reducible rfl) rfl rfl ?_; intro K hK; go_big_quiet_op; go_big_quiet_on) | ((first | refine Mix.lex_skipT rfl rfl rfl (by with_reducible rfl) ?_ | refine Mix.lex_skipF rfl rfl rfl (by with_reducible rfl) ?_ | refine Mix.lex_skipU rfl rfl rfl (by with_reducible rfl) ?_); simp only [Act.put, List.setIfInBounds_toArray, List.set_cons_succ, List.set_cons_zero]) | (refine Mix.lex_part rfl rfl rfl rfl (fun hq => ?_) (fun hq => ?_) <;> (fail_if_success (guard_hyp hq :ₛ true = true)) <;> (fail_if_success (guard_hyp hq :ₛ false = false)) <;> first | (exfalso; cases hq; done) | (exfalso; simp only [decide_eq_true_eq, decide_eq_false_iff_not, beq_iff_eq, beq_eq_false_iff_ne, ne_eq, Int.not_lt, Int.not_le] at hq; omega) | simp only [Act.put, List.setIfInBounds_toArray, List.set_cons_succ, List.set_cons_zero]))); all_goals (refine Mix.lex_nil ?_)))
        refine (HF.out _).mono ?_
        rintro e u ⟨rfl, hu⟩
        have U := Lib.hid (ξ.h.then_ext hu)
        clear hu
        go_wp2_with (first | ((first | refine Mix.wpList_guarded rfl ?_ | refine Mix.wp_still (by kernel_rfl) (by kernel_rfl) ?_); (repeat' (first | (refine Mix.lex_quiet0 rfl rfl rfl ?_; intro K hK; go_big_quiet_op; go_big_quiet_on) | (refine Mix.lex_quietG rfl rfl rfl (by with_reducible rfl) rfl rfl ?_; intro K hK; go_big_quiet_op; go_big_quiet_on) | ((first | refine Mix.lex_skipT rfl rfl rfl (by with_reducible rfl) ?_ | refine Mix.lex_skipF rfl rfl rfl (by with_reducible rfl) ?_ | refine Mix.lex_skipU rfl rfl rfl (by with_reducible rfl) ?_); simp only [Act.put, List.setIfInBounds_toArray, List.set_cons_succ, List.set_cons_zero]) | (refine Mix.lex_part rfl rfl rfl rfl (fun hq => ?_) (fun hq => ?_) <;> (fail_if_success (guard_hyp hq :ₛ true = true)) <;> (fail_if_success (guard_hyp hq :ₛ false = false)) <;> first | (exfalso; cases hq; done) | (exfalso; simp only [decide_eq_true_eq, decide_eq_false_iff_not, beq_iff_eq, beq_eq_false_iff_ne, ne_eq, Int.not_lt, Int.not_le] at hq; omega) | simp only [Act.put, List.setIfInBounds_toArray, List.set_cons_succ, List.set_cons_zero]))); all_goals (refine Mix.lex_nil ?_)))
        go_roundw
        case rel =>
          refine ⟨(a + b) / 2 + 1, b, by omega, hbn, by go_num, rfl, fun p y hp hy => ?_, H2.out, ⟨_, U.out⟩, rfl⟩
          by_cases e : p = (a + b) / 2
          · subst e
            rw [HX.out] at hy
            injection hy with hy
            exact hy ▸ HK.out
          · exact slt_trans (HR.out.at_lt (show p < (a + b) / 2 by omega) hy HX.out) HK.out
        case measure => simp [intOf]; omega
      · rw [decide_eq_false hxk] at hd
        have HK := Lib.hid hxk
        clear hxk
        go_wp2_with (first | ((first | refine Mix.wpList_guarded rfl ?_ | refine Mix.wp_still (by kernel_rfl) (by kernel_rfl) ?_); (repeat' (first | (refine Mix.lex_quiet0 rfl rfl rfl ?_; intro K hK; go_big_quiet_op; go_big_quiet_on) | (refine Mix.lex_quietG rfl rfl rfl (by with_reducible rfl) rfl rfl ?_; intro K hK; go_big_quiet_op; go_big_quiet_on) | ((first | refine Mix.lex_skipT rfl rfl rfl (by with_reducible rfl) ?_ | refine Mix.lex_skipF rfl rfl rfl (by with_reducible rfl) ?_ | refine Mix.lex_skipU rfl rfl rfl (by with_reducible rfl) ?_); simp only [Act.put, List.setIfInBounds_toArray, List.set_cons_succ, List.set_cons_zero]) | (refine Mix.lex_part rfl rfl rfl rfl (fun hq => ?_) (fun hq => ?_) <;> (fail_if_success (guard_hyp hq :ₛ true = true)) <;> (fail_if_success (guard_hyp hq :ₛ false = false)) <;> first | (exfalso; cases hq; done) | (exfalso; simp only [decide_eq_true_eq, decide_eq_false_iff_not, beq_iff_eq, beq_eq_false_iff_ne, ne_eq, Int.not_lt, Int.not_le] at hq; omega) | simp only [Act.put, List.setIfInBounds_toArray, List.set_cons_succ, List.set_cons_zero]))); all_goals (refine Mix.lex_nil ?_)))
        refine (HF.out _).mono ?_
        rintro e u ⟨rfl, hu⟩
        have U := Lib.hid (ξ.h.then_ext hu)
        clear hu
        go_wp2_with (first | ((first | refine Mix.wpList_guarded rfl ?_ | refine Mix.wp_still (by kernel_rfl) (by kernel_rfl) ?_); (repeat' (first | (refine Mix.lex_quiet0 rfl rfl rfl ?_; intro K hK; go_big_quiet_op; go_big_quiet_on) | (refine Mix.lex_quietG rfl rfl rfl (by with_reducible rfl) rfl rfl ?_; intro K hK; go_big_quiet_op; go_big_quiet_on) | ((first | refine Mix.lex_skipT rfl rfl rfl (by with_reducible rfl) ?_ | refine Mix.lex_skipF rfl rfl rfl (by with_reducible rfl) ?_ | refine Mix.lex_skipU rfl rfl rfl (by with_reducible rfl) ?_); simp only [Act.put, List.setIfInBounds_toArray, List.set_cons_succ, List.set_cons_zero]) | (refine Mix.lex_part rfl rfl rfl rfl (fun hq => ?_) (fun hq => ?_) <;> (fail_if_success (guard_hyp hq :ₛ true = true)) <;> (fail_if_success (guard_hyp hq :ₛ false = false)) <;> first | (exfalso; cases hq; done) | (exfalso; simp only [decide_eq_true_eq, decide_eq_false_iff_not, beq_iff_eq, beq_eq_false_iff_ne, ne_eq, Int.not_lt, Int.not_le] at hq; omega) | simp only [Act.put, List.setIfInBounds_toArray, List.set_cons_succ, List.set_cons_zero]))); all_goals (refine Mix.lex_nil ?_)))
        go_roundw
        case rel =>
          refine ⟨a, (a + b) / 2, by omega, by omega, rfl, by go_num, H1.out, fun p y hp hy => ?_, ⟨_, U.out⟩, rfl⟩
          by_cases e : p = (a + b) / 2
          · subst e
            rw [HX.out] at hy
            injection hy with hy
            exact hy ▸ HK.out
          · exact fun hl => HK.out (slt_trans (HR.out.at_lt (show (a + b) / 2 < p by omega) HX.out hy) hl)
        case measure => simp [intOf]; omega
    · obtain rfl : a = b := by omega
      have HP : Hid (posOf (·.1) xs k = a) := posOf_of (by rw [h.1]; exact hbn) H1.out (fun x hx => H2.out a x (Nat.le_refl _) hx)
      have HB : Hid (hasAt (·.1) xs k = match xs[a]? with | some x => decide (x.1 = k) | none => false) := by unfold Hid hasAt; rw [HP.out]; cases xs[a]? <;> rfl
      clear H1 H2
      by_cases han : a < n
      · obtain ⟨bk, o, x, rfl, hx, c0, c1⟩ := files_get h han
        have HB' : Hid (hasAt (·.1) xs k = decide (x.1 = k)) := by unfold Hid; rw [HB.out, hx]
        clear hx HB
        have hd := cmpS_eq x.1 k
        have HF := Lib.hid (fun w => find1_c x k w)
        obtain ⟨m, hm⟩ : ∃ m, m = cmpS x.1 k := ⟨_, rfl⟩
        rw [← hm] at hd HF
        obtain ⟨bb, hbb⟩ : ∃ bb, bb = decide (x.1 = k) := ⟨_, rfl⟩
        rw [← hbb] at hd HB'
        clear hm hbb
        have hk : decide ((a : Int) < (n : Int)) = true := by simp; omega
        go_upto_region 8 with fail
        refine Mix.wp_plain [11] (Cl w No) (Cl.of ξ.h) ?_
        (repeat' (first | (refine Mix.lex_quiet0 rfl rfl rfl ?_; intro K hK; go_big_quiet_op; go_big_quiet_on) | (refine Mix.lex_quietG rfl rfl rfl (by with_reducible rfl) rfl rfl ?_; intro K hK; go_big_quiet_op; go_big_quiet_on) | ((first | refine Mix.lex_skipT rfl rfl rfl (by with_reducible rfl) ?_ | refine Mix.lex_skipF rfl rfl rfl (by with_reducible rfl) ?_ | refine Mix.lex_skipU rfl rfl rfl (by with_reducible rfl) ?_); simp only [Act.put, List.setIfInBounds_toArray, List.set_cons_succ, List.set_cons_zero]) | (refine Mix.lex_part rfl rfl rfl rfl (fun hq => ?_) (fun hq => ?_) <;> (fail_if_success (guard_hyp hq :ₛ true = true)) <;> (fail_if_success (guard_hyp hq :ₛ false = false)) <;> first | (exfalso; cases hq; done) | (exfalso; simp only [decide_eq_true_eq, decide_eq_false_iff_not, beq_iff_eq, beq_eq_false_iff_ne, ne_eq, Int.not_lt, Int.not_le] at hq; omega) | simp only [Act.put, List.setIfInBounds_toArray, List.set_cons_succ, List.set_cons_zero])))
        ((first | refine Mix.lex_goes0 rfl rfl ?_ | refine Mix.lex_goesG rfl rfl rfl (by with_reducible rfl) rfl ?_); intro K hK; go_simp)
        refine (HF.out _).mono ?_
        rintro e u ⟨rfl, hu⟩
        have U := Lib.hid (ξ.h.then_ext hu)
        refine ⟨_, rfl, hK _ _ (fun _ => Cl.of U.out) ?_⟩
        clear hK K hu
        simp only [Act.put, List.setIfInBounds_toArray, List.set_cons_succ, List.set_cons_zero]
        (repeat' (first | (refine Mix.lex_quiet0 rfl rfl rfl ?_; intro K hK; go_big_quiet_op; go_big_quiet_on) | (refine Mix.lex_quietG rfl rfl rfl (by with_reducible rfl) rfl rfl ?_; intro K hK; go_big_quiet_op; go_big_quiet_on) | ((first | refine Mix.lex_skipT rfl rfl rfl (by with_reducible rfl) ?_ | refine Mix.lex_skipF rfl rfl rfl (by with_reducible rfl) ?_ | refine Mix.lex_skipU rfl rfl rfl (by with_reducible rfl) ?_); simp only [Act.put, List.setIfInBounds_toArray, List.set_cons_succ, List.set_cons_zero]) | (refine Mix.lex_part rfl rfl rfl rfl (fun hq => ?_) (fun hq => ?_) <;> (fail_if_success (guard_hyp hq :ₛ true = true)) <;> (fail_if_success (guard_hyp hq :ₛ false = false)) <;> first | (exfalso; cases hq; done) | (exfalso; simp only [decide_eq_true_eq, decide_eq_false_iff_not, beq_iff_eq, beq_eq_false_iff_ne, ne_eq, Int.not_lt, Int.not_le] at hq; omega) | simp only [Act.put, List.setIfInBounds_toArray, List.set_cons_succ, List.set_cons_zero])))
        refine Mix.lex_nil ?_
        go_wp2_with (first | ((first | refine Mix.wpList_guarded rfl ?_ | refine Mix.wp_still (by kernel_rfl) (by kernel_rfl) ?_); (repeat' (first | (refine Mix.lex_quiet0 rfl rfl rfl ?_; intro K hK; go_big_quiet_op; go_big_quiet_on) | (refine Mix.lex_quietG rfl rfl rfl (by with_reducible rfl) rfl rfl ?_; intro K hK; go_big_quiet_op; go_big_quiet_on) | ((first | refine Mix.lex_skipT rfl rfl rfl (by with_reducible rfl) ?_ | refine Mix.lex_skipF rfl rfl rfl (by with_reducible rfl) ?_ | refine Mix.lex_skipU rfl rfl rfl (by with_reducible rfl) ?_); simp only [Act.put, List.setIfInBounds_toArray, List.set_cons_succ, List.set_cons_zero]) | (refine Mix.lex_part rfl rfl rfl rfl (fun hq => ?_) (fun hq => ?_) <;> (fail_if_success (guard_hyp hq :ₛ true = true)) <;> (fail_if_success (guard_hyp hq :ₛ false = false)) <;> first | (exfalso; cases hq; done) | (exfalso; simp only [decide_eq_true_eq, decide_eq_false_iff_not, beq_iff_eq, beq_eq_false_iff_ne, ne_eq, Int.not_lt, Int.not_le] at hq; omega) | simp only [Act.put, List.setIfInBounds_toArray, List.set_cons_succ, List.set_cons_zero]))); all_goals (refine Mix.lex_nil ?_)))
        go_ret2
        exact ⟨(by rw [HP.out, HB'.out]; try rfl), U.out⟩
      · have hk : decide ((a : Int) < (n : Int)) = false := by simp; omega
        have HB' : Hid (hasAt (·.1) xs k = false) := by
          have : xs[a]? = none := List.getElem?_eq_none (by rw [h.1]; omega)
          unfold Hid
          rw [HB.out, this]
        clear HB
        go_wp2_with (first | ((first | refine Mix.wpList_guarded rfl ?_ | refine Mix.wp_still (by kernel_rfl) (by kernel_rfl) ?_); (repeat' (first | (refine Mix.lex_quiet0 rfl rfl rfl ?_; intro K hK; go_big_quiet_op; go_big_quiet_on) | (refine Mix.lex_quietG rfl rfl rfl (by with_reducible rfl) rfl rfl ?_; intro K hK; go_big_quiet_op; go_big_quiet_on) | ((first | refine Mix.lex_skipT rfl rfl rfl (by with_reducible rfl) ?_ | refine Mix.lex_skipF rfl rfl rfl (by with_reducible rfl) ?_ | refine Mix.lex_skipU rfl rfl rfl (by with_reducible rfl) ?_); simp only [Act.put, List.setIfInBounds_toArray, List.set_cons_succ, List.set_cons_zero]) | (refine Mix.lex_part rfl rfl rfl rfl (fun hq => ?_) (fun hq => ?_) <;> (fail_if_success (guard_hyp hq :ₛ true = true)) <;> (fail_if_success (guard_hyp hq :ₛ false = false)) <;> first | (exfalso; cases hq; done) | (exfalso; simp only [decide_eq_true_eq, decide_eq_false_iff_not, beq_iff_eq, beq_eq_false_iff_ne, ne_eq, Int.not_lt, Int.not_le] at hq; omega) | simp only [Act.put, List.setIfInBounds_toArray, List.set_cons_succ, List.set_cons_zero]))); all_goals (refine Mix.lex_nil ?_)))
        all_goals (go_ret2; exact ⟨(by rw [HP.out, HB'.out]; try rfl), ξ.h⟩)
theorem find_c {w : World} {A : Option Addr} {n c : Nat} {xs : List File} (h : SlR fileF w A n xs) (hn : n ≤ 1000000) (k : Str) (hr : Rise (·.1) xs) :
    Calls Tryz.prog 46 #[.slice A n c, S k] w fun e w' => e = .returned (.tuple #[.int .i64 (posOf (·.1) xs k : Nat), .bool (hasAt (·.1) xs k)]) ∧ Ext w w' := by
  go_enter Tryz.func46, Tryz.ntmps46
  go_wp2_with fail
  refine (BsFile_c h hn k hr).mono ?_
  rintro e u ⟨rfl, hu⟩
  go_wp2_with fail
  go_ret2
  exact ⟨rfl, hu⟩
abbrev fk : File → Str := fun f => f.1
def getT (k : Str) (xs : List File) : Str := ((getL fk k xs).map (·.2)).getD []
def getB (k : Str) (xs : List File) : Bool := (getL fk k xs).isSome
theorem Get_c {w : World} {A : Option Addr} {n c : Nat} {xs : List File} (h : SlR fileF w A n xs) (hn : n ≤ 1000000) (k : Str) (hr : Rise fk xs) :
    Calls Tryz.prog 19 #[.slice A n c, S k] w fun e w' => e = .returned (.tuple #[S (getT k xs), .bool (getB k xs)]) ∧ Ext w w' := by
  have hF := find_c (c := c) h hn k hr
  have hG := getL_at hr k
  have hP := posOf_le (key := fk) xs k
  obtain ⟨b, hb⟩ : ∃ b, b = hasAt fk xs k := ⟨_, rfl⟩
  rw [← hb] at hF hG
  have HB := Lib.hid hb
  clear hb
  cases b with
  | false =>
    have HG : Hid (getL fk k xs = none) := by simpa [Hid] using hG
    clear hG
    go_enter Tryz.func19, Tryz.ntmps19
    go_wp2_with fail
    refine hF.mono ?_
    rintro e u ⟨rfl, hu⟩
    go_wp2_with fail
    go_ret2
    exact ⟨by rw [getT, getB, HG.out]; rfl, hu⟩
  | true =>
    obtain ⟨p, hp⟩ : ∃ p, p = posOf fk xs k := ⟨_, rfl⟩
    rw [← hp] at hF hG hP
    have hlt : p < n := by
      have h1 := HB.out
      unfold hasAt at h1
      rw [← hp] at h1
      rw [← h.1]
      by_cases hl : p < xs.length
      · exact hl
      · rw [List.getElem?_eq_none (by omega)] at h1; cases h1
    obtain ⟨bk, o, x, rfl, hx, c0, c1⟩ := files_get h hlt
    have HG : Hid (getL fk k xs = some x) := by rw [Hid, hG, hx]; rfl
    have HP := Lib.hid hp
    clear hG hp hx hP
    go_enter Tryz.func19, Tryz.ntmps19
    go_wp2_with fail
    refine hF.mono ?_
    rintro e u ⟨rfl, hu⟩
    have c1' : u.cell? ⟨bk, o + p * 2 + 1, none⟩ = some (S x.2) := c1 ⟨u, hu⟩
    have U := Lib.hid hu
    clear hF hu c0 c1
    go_wp2_with fail
    go_ret2
    exact ⟨by rw [getT, getB, HG.out]; rfl, U.out⟩
theorem find?_take_none {α : Type} {p : α → Bool} {xs : List α} {k : Nat} {x : α} (h : (xs.take k).find? p = none) (hx : xs[k]? = some x) : (xs.take (k + 1)).find? p = if p x then some x else none := by
  rw [List.take_add_one, hx, List.find?_append, h]
  cases hp : p x <;> simp [hp]
theorem find?_of_take {α : Type} {p : α → Bool} {xs : List α} {k : Nat} {x : α} (h : (xs.take k).find? p = some x) : xs.find? p = some x := by
  rw [← List.take_append_drop k xs, List.find?_append, h]; rfl
theorem RGet_c {w : World} {A : Option Addr} {n c : Nat} {xs : List File} (h : SlR fileF w A n xs) (hn : n ≤ 1000000) (k : Str) :
    Calls Tryz.prog 62 #[.slice A n c, S k] w fun e w' => e = .returned (.tuple #[S (getT k xs), .bool (getB k xs)]) ∧ Ext w w' := by
  go_enter Tryz.func62, Tryz.ntmps62
  go_wp2_with fail
  go_loopw [6] (fun i wr => ∃ j : Nat, j ≤ n ∧ i = .int .i64 j ∧ getL fk k (xs.take j) = none ∧ ∃ ξ : X w No, wr = ξ.v) (fun i _ => n - (intOf i).toNat)
  case atStart => exact ⟨0, Nat.zero_le _, rfl, rfl, X.here _ _, rfl⟩
  case round =>
    obtain ⟨j, hj, rfl, hT, ξ, rfl⟩ := hrel
    have HT := Lib.hid hT
    clear hT
    by_cases hlt : j < n
    · obtain ⟨b, o, x, rfl, hx, c0, c1⟩ := files_get h hlt
      have HX := Lib.hid hx
      clear hx
      have HS : Hid (getL fk k (xs.take (j + 1)) = if decide (x.1 = k) then some x else none) := find?_take_none HT.out HX.out
      by_cases hk : x.1 = k
      · have HG : Hid (getL fk k xs = some x) := find?_of_take (k := j + 1) (by have := HS.out; unfold getL at this; rw [this]; simp [hk])
        have hd : (x.1 == k) = true := by simpa using hk
        clear hk
        go_wp2_with fail
        go_ret2
        exact ⟨by rw [getT, getB, HG.out]; rfl, ξ.h⟩
      · have hd : (x.1 == k) = false := by simpa using hk
        have HG : Hid (getL fk k (xs.take (j + 1)) = none) := by rw [Hid, HS.out]; simp [hk]
        clear hk
        go_wp2_with fail
        go_roundw
        case rel => exact ⟨j + 1, by omega, by go_num, HG.out, ξ, rfl⟩
        case measure => simp [intOf]; omega
    · go_wp2_with fail
      go_ret2
      have hT := HT.out
      rw [List.take_of_length_le (by rw [h.1]; omega)] at hT
      exact ⟨by rw [getT, getB, hT]; rfl, ξ.h⟩
structure Grp where
  targets : List Str
  needs : List Str
  cmds : List Str
  phony : Bool
  deriving DecidableEq
def cmdOf (ts ns : List Str) (stem c : Str) : Str := autoF (keyV (ts.headD []) (ns.headD []) (joinSp ns) stem) c
def tgtOf (r : Rul) (name stem : Str) : List Str := if stem = [] then r.targets else [name]
def ndsOf (r : Rul) (stem : Str) : List Str := r.needs.map fun n => onceF n stem
def groupF (m : Mk) (r : Rul) (name stem : Str) : Grp :=
  ⟨tgtOf r name stem, ndsOf r stem, r.cmds.map (cmdOf (tgtOf r name stem) (ndsOf r stem) stem), inS m.phony (r.targets.headD [])⟩
def explF (rs : List Rul) (name : Str) : Option Rul := rs.find? fun r => inS r.targets name
abbrev isF (l : List File) (n : Str) : Bool := getB n l
def hereB (m : Mk) (l : List File) (n : Str) : Bool := isF l n || (explF m.rules n).isSome
def patF (m : Mk) (l : List File) (name : Str) : List Rul → Option Grp
  | [] => none
  | r :: rs =>
    if (stemL (r.targets.headD []) name).2 = false then patF m l name rs
    else if (groupF m r name (stemL (r.targets.headD []) name).1).needs.all (hereB m l) = true then some (groupF m r name (stemL (r.targets.headD []) name).1)
    else patF m l name rs
def ruleF (m : Mk) (l : List File) (name : Str) : Option Grp :=
  match explF m.rules name with
  | some r => some (groupF m r name [])
  | none => patF m l name m.rules
def makerF (out : List Grp) (n : Str) : Option Nat := out.findIdx? fun g => inS g.targets n
def needsF (rec : List Grp → Str → List Grp × Int) : List Grp → List Str → List Grp × Int
  | out, [] => (out, 0)
  | out, n :: ns => if (rec out n).2 ≠ 0 then rec out n else needsF rec (rec out n).1 ns
def visitF (m : Mk) (l : List File) : Nat → List Str → List Grp → Str → List Grp × Int
  | 0, _, out, _ => (out, 8)
  | f + 1, way, out, name =>
    if inS way name = true then (out, 8)
    else if (makerF out name).isSome = true then (out, 0)
    else match ruleF m l name with
      | none => if isF l name = true then (out, 0) else (out, 5)
      | some g =>
        if (needsF (visitF m l f (way ++ g.targets)) out g.needs).2 ≠ 0 then needsF (visitF m l f (way ++ g.targets)) out g.needs
        else if (needsF (visitF m l f (way ++ g.targets)) out g.needs).1.length = 10 then ((needsF (visitF m l f (way ++ g.targets)) out g.needs).1, 2)
        else ((needsF (visitF m l f (way ++ g.targets)) out g.needs).1 ++ [g], 0)
def groupsF (m : Mk) (l : List File) (goal : Str) : List Grp × Int :=
  if nameB goal = false then ([], 3)
  else if (visitF m l 100 [] [] goal).2 ≠ 0 then ([], (visitF m l 100 [] [] goal).2)
  else ((visitF m l 100 [] [] goal).1, 0)
def candF (m : Mk) (l : List File) (goal : Str) : List Str := goal :: l.map (·.1) ++ m.rules.flatMap (·.targets) ++ m.rules.flatMap (fun r => ndsOf r [])
def leftF (c way : List Str) : Nat := (c.filter fun n => !inS way n).length
theorem leftF_lt {c way ts : List Str} {n : Str} (hn : n ∈ c) (hw : inS way n = false) (ht : n ∈ ts) : leftF c (way ++ ts) < leftF c way := by
  unfold leftF
  have hsub : ∀ x, (!inS (way ++ ts) x) = true → (!inS way x) = true := by
    intro x hx
    simp only [inS, Bool.not_eq_true', decide_eq_false_iff_not, List.mem_append, not_or] at hx ⊢
    exact hx.1
  have hs : inS (way ++ ts) n = true := by simp [inS, ht]
  induction c with
  | nil => cases hn
  | cons x xs ih =>
    have hle : ((xs.filter fun n => !inS (way ++ ts) n)).length ≤ (xs.filter fun n => !inS way n).length := by
      clear ih hn
      induction xs with
      | nil => simp
      | cons y ys ih =>
        simp only [List.filter_cons]
        by_cases h1 : (!inS (way ++ ts) y) = true
        · rw [if_pos h1, if_pos (hsub y h1)]; simp only [List.length_cons]; omega
        · rw [if_neg h1]; split <;> (try simp only [List.length_cons]) <;> omega
    simp only [List.filter_cons]
    by_cases hx : x = n
    · subst hx
      rw [if_neg (by rw [hs]; decide), if_pos (by rw [hw]; rfl)]
      simp only [List.length_cons]; omega
    · have hn' : n ∈ xs := by
        rcases List.mem_cons.1 hn with h | h
        · exact absurd h.symm hx
        · exact h
      have := ih hn'
      by_cases h1 : (!inS (way ++ ts) x) = true
      · rw [if_pos h1, if_pos (hsub x h1)]; simp only [List.length_cons]; omega
      · rw [if_neg h1]; split <;> (try simp only [List.length_cons]) <;> omega
theorem explF_some {rs : List Rul} {n : Str} {r : Rul} (h : explF rs n = some r) : r ∈ rs ∧ n ∈ r.targets := by
  unfold explF at h
  have h2 := List.find?_some h
  exact ⟨List.mem_of_find?_eq_some h, by simpa [inS] using h2⟩
theorem patF_some {m : Mk} {l : List File} {n : Str} {g : Grp} : ∀ {rs : List Rul}, patF m l n rs = some g → ∃ r ∈ rs, (stemL (r.targets.headD []) n).2 = true ∧ g = groupF m r n (stemL (r.targets.headD []) n).1 ∧ g.needs.all (hereB m l) = true
  | [], h => by cases h
  | r :: rs, h => by
    unfold patF at h
    split at h
    · obtain ⟨r', h1, h2⟩ := patF_some h
      exact ⟨r', List.mem_cons_of_mem _ h1, h2⟩
    · rename_i h1
      split at h
      · rename_i h2
        cases h
        exact ⟨r, by simp, by simpa using h1, rfl, h2⟩
      · obtain ⟨r', h1, h2⟩ := patF_some h
        exact ⟨r', List.mem_cons_of_mem _ h1, h2⟩
theorem stemL_ne {p n : Str} (h : (stemL p n).2 = true) : (stemL p n).1 ≠ [] := by
  unfold stemL at h ⊢
  split
  · rename_i h1
    rw [if_pos h1] at h
    intro e
    have := congrArg List.length e
    simp only [List.length_drop, List.length_take, List.length_nil] at this
    omega
  · rename_i h1
    rw [if_neg h1] at h
    cases h
theorem ruleF_some {m : Mk} {l : List File} {n : Str} {g : Grp} (h : ruleF m l n = some g) :
    (∃ r, explF m.rules n = some r ∧ g = groupF m r n []) ∨ (explF m.rules n = none ∧ ∃ r ∈ m.rules, (stemL (r.targets.headD []) n).2 = true ∧ g = groupF m r n (stemL (r.targets.headD []) n).1 ∧ g.needs.all (hereB m l) = true) := by
  unfold ruleF at h
  split at h
  · rename_i r hr; cases h; exact .inl ⟨r, hr, rfl⟩
  · rename_i hr; exact .inr ⟨hr, patF_some h⟩
theorem ruleF_own {m : Mk} {l : List File} {n : Str} {g : Grp} (h : ruleF m l n = some g) : n ∈ g.targets := by
  rcases ruleF_some h with ⟨r, hr, rfl⟩ | ⟨_, r, _, hs, rfl, _⟩
  · exact (explF_some hr).2
  · show n ∈ tgtOf r n _
    unfold tgtOf
    rw [if_neg (stemL_ne hs)]
    simp
theorem ruleF_cand {m : Mk} {l : List File} {goal n : Str} {g : Grp} (h : ruleF m l n = some g) : ∀ k ∈ g.needs, k ∈ candF m l goal := by
  intro k hk
  unfold candF
  rcases ruleF_some h with ⟨r, hr, rfl⟩ | ⟨_, r, _, hs, rfl, ha⟩
  · exact List.mem_append_right _ (List.mem_flatMap.2 ⟨r, (explF_some hr).1, hk⟩)
  · have := List.all_eq_true.1 ha k hk
    simp only [hereB, Bool.or_eq_true] at this
    rcases this with h1 | h1
    · have hm : k ∈ l.map (·.1) := by
        obtain ⟨x, hx⟩ := Option.isSome_iff_exists.1 h1
        unfold getL at hx
        have e := List.find?_some hx
        simp only [decide_eq_true_eq] at e
        exact e ▸ List.mem_map_of_mem (List.mem_of_find?_eq_some hx)
      exact List.mem_append_left _ (List.mem_append_left _ (List.mem_cons_of_mem _ hm))
    · obtain ⟨r', hr'⟩ := Option.isSome_iff_exists.1 h1
      have := explF_some hr'
      exact List.mem_append_left _ (List.mem_append_right _ (List.mem_flatMap.2 ⟨r', this.1, this.2⟩))
theorem own_cs {w : World} {B : Nat} {e : TypeId} {size n : Nat} {x : Value} {xs : List Value} (h : w.ownsRow B e size x n xs) {g : Nat} (hg : x.ownBlock = some g) : ∃ cur, Cs w g e cur := by
  rcases h.2 with ⟨rfl, _⟩ | ⟨g', cap, cur, rfl, hb, hh, _⟩
  · simp [Value.ownBlock] at hg
  · simp [Value.ownBlock] at hg
    subst hg
    exact ⟨cur, hh⟩
theorem own_ne_cs {w : World} {B : Nat} {e t : TypeId} {size n g : Nat} {x : Value} {xs : List Value} {cs : Array Value} (h : w.ownsRow B e size x n xs) (hc : Cs w g t cs) (hne : e ≠ t) : ∀ b, x.ownBlock = some b → ¬ b = g := by
  rintro b hb rfl
  obtain ⟨cur, h1⟩ := own_cs h hb
  exact Cs.ne_ h1 hc hne rfl
theorem own_ne_own {w : World} {B B' : Nat} {e t : TypeId} {size size' n n' : Nat} {x y : Value} {xs ys : List Value} (h : w.ownsRow B e size x n xs) (h' : w.ownsRow B' t size' y n' ys) (hne : e ≠ t) : ∀ b, x.ownBlock = some b → y.ownBlock ≠ some b := by
  intro b hb hb'
  obtain ⟨cur, h1⟩ := own_cs h hb
  obtain ⟨cur', h2⟩ := own_cs h' hb'
  exact Cs.ne_ h1 h2 hne rfl
theorem Fresh.keep {α : Type} {T : Flat α} {t : TypeId} {w wr u : World} {A : Option Addr} {c : Nat} {xs : List α} {F : Nat → Prop} (h : Fresh T t w wr A c xs) (hx : Only F wr u) (hE : Ext w u) (hn : ∀ g, (Value.slice A xs.length c).ownBlock = some g → ¬ F g) : Fresh T t w u A c xs := ⟨own_keep h.own hx hn, hE, h.new⟩
end Go.Proofs.YtnhaekifcieeoaaGreatDoor
