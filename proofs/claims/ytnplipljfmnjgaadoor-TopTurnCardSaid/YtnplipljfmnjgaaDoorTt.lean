/- TopTurn: the walk. -/
import Derived.Test.YtnplipljfmnjgaaDoorNum
namespace Go.Proofs.YtnplipljfmnjgaaDoor
open Go Go.RowKit
theorem All_one {w : World} (hm : Ml w) {b p q r n : Nat} (t : Str) (ht : t.length ≤ maxLen) (g : Grp) (hc : 1 ≤ n) (h1 : SlR fileF w (some ⟨b, 0, none⟩) 1 [([97], t)]) (h2 : SlR strF w (some ⟨p, 0, none⟩) 2 g.targets) (h3 : SlR strF w (some ⟨q, 0, none⟩) 1 g.needs) (h4 : SlR strF w (some ⟨r, 0, none⟩) 2 g.cmds)
    (hl : g.Lim) (hx : t.length ≤ 1000 ∨ ∀ c ∈ g.cmds, wd c 0 = kTurn) :
    Calls Tryd.prog 10 #[.slice (some ⟨b, 0, none⟩) 1 1, .agg #[.slice (some ⟨p, 0, none⟩) 2 2, .slice (some ⟨q, 0, none⟩) 1 1, .slice (some ⟨r, 0, none⟩) 2 2, .bool g.phony]] w fun e w' => ∃ A' c', e = .returned (.tuple #[.slice A' (allF [([97], t)] g).1.length c', errV (allF [([97], t)] g).2]) ∧ Fresh fileF 47 w w' A' c' (allF [([97], t)] g).1 := by
  have e2 := h2.1; have e3 := h3.1; have e4 := h4.1
  have := All_c' (c := 1) hm h1 (by omega) (by simp [Rise]) (by simpa using ht) (v := ⟨some ⟨p, 0, none⟩, 2, some ⟨q, 0, none⟩, 1, some ⟨r, 0, none⟩, 2⟩) (g := g) ⟨by rw [e2]; exact h2, by rw [e3]; exact h3, by rw [e4]; exact h4⟩ hl (hx.imp (fun h => by simpa using h) id)
  simp only [grpV, grpCs, e2, e3, e4] at this
  exact this
theorem SlR.two_ {α : Type} (T : Flat α) (w : World) (t : TypeId) (x y : α) {cs : Array Value} (hcs : (T.enc x ++ T.enc y).toArray = cs) : SlR T (w.alloc (.cells cs t)) (some ⟨w.heap.size, 0, none⟩) 2 [x, y] := by
  subst hcs
  refine ⟨rfl, fun _ => ⟨w.heap.size, 0, rfl, by simp, fun k z hk j u hu => ?_⟩⟩
  have hj : j < T.size := by rw [← T.len z]; exact (List.getElem?_eq_some_iff.1 hu).1
  rw [(Cs.new w t _).cell, List.getElem?_toArray]
  match k, hk with
  | 0, hk =>
    injection hk with hk
    subst hk
    rw [Nat.zero_mul, Nat.add_zero, Nat.zero_add, List.getElem?_append_left (by rw [T.len]; exact hj)]
    exact hu
  | 1, hk =>
    injection hk with hk
    subst hk
    rw [Nat.one_mul, Nat.zero_add, List.getElem?_append_right (by rw [T.len]; omega), T.len, Nat.add_sub_cancel_left]
    exact hu
theorem gTurn_lim : gTurn.Lim := ⟨by decide, by decide, by decide, by simp [gTurn]⟩
theorem gCopy_lim : gCopy.Lim := ⟨by decide, by decide, by decide, by simp [gCopy]⟩
abbrev tn1 : Str := [116, 117, 114, 110, 32, 97, 32, 98]
abbrev tn2 : Str := [116, 117, 114, 110, 32, 98, 32, 99]
abbrev cp1 : Str := [99, 111, 112, 121, 32, 97, 32, 98]
abbrev cp2 : Str := [106, 111, 105, 110, 32, 99, 32, 97]
set_option maxRecDepth 100000 in
set_option maxHeartbeats 4000000 in
theorem TopTurn_all {w : World} (hm : Ml w) (t : Str) (ht : t.length ≤ maxLen) :
    Calls Tryd.prog 5 #[S t] w fun e w' => e = .returned (.bool true) ∧ Ext w w' := by
  obtain ⟨w1, hw1⟩ : ∃ w1, w1 = w.alloc (.cells #[S [97], S t] 47) := ⟨_, rfl⟩
  obtain ⟨w2, hw2⟩ : ∃ w2, w2 = w1.alloc (.cells #[S [98], S [99]] 9) := ⟨_, rfl⟩
  obtain ⟨w3, hw3⟩ : ∃ w3, w3 = w2.alloc (.cells #[S [97]] 9) := ⟨_, rfl⟩
  obtain ⟨w4, hw4⟩ : ∃ w4, w4 = w3.alloc (.cells #[S tn1, S tn2] 9) := ⟨_, rfl⟩
  obtain ⟨w5, hw5⟩ : ∃ w5, w5 = w4.alloc (.cells #[.slice (some ⟨w.heap.size + 1, 0, none⟩) 2 2, .slice (some ⟨w.heap.size + 1 + 1, 0, none⟩) 1 1, .slice (some ⟨w.heap.size + 1 + 1 + 1, 0, none⟩) 2 2, .bool false] 25) := ⟨_, rfl⟩
  have x1 : Ext w w1 := by rw [hw1]; exact (Only.refl No _).alloc _
  have x2 : Ext w1 w2 := by rw [hw2]; exact (Only.refl No _).alloc _
  have x3 : Ext w2 w3 := by rw [hw3]; exact (Only.refl No _).alloc _
  have x4 : Ext w3 w4 := by rw [hw4]; exact (Only.refl No _).alloc _
  have x5 : Ext w4 w5 := by rw [hw5]; exact (Only.refl No _).alloc _
  have hz1 : w1.heap.size = w.heap.size + 1 := by rw [hw1]; simp
  have hz2 : w2.heap.size = w.heap.size + 1 + 1 := by rw [hw2]; simp [hz1]
  have hz3 : w3.heap.size = w.heap.size + 1 + 1 + 1 := by rw [hw3]; simp [hz2]
  have hz4 : w4.heap.size = w.heap.size + 1 + 1 + 1 + 1 := by rw [hw4]; simp [hz3]
  have s1 : SlR fileF w1 (some ⟨w.heap.size, 0, none⟩) 1 [([97], t)] := by rw [hw1]; exact SlR.one fileF _ _ _ rfl
  have s2 : SlR strF w2 (some ⟨w.heap.size + 1, 0, none⟩) 2 gTurn.targets := by
    have := SlR.two_ strF w1 9 [98] [99] (cs := #[S [98], S [99]]) rfl
    rw [← hw2, hz1] at this
    exact this
  have s3 : SlR strF w3 (some ⟨w.heap.size + 1 + 1, 0, none⟩) 1 gTurn.needs := by
    have := SlR.one strF w2 9 [97] (cs := #[S [97]]) rfl
    rw [← hw3, hz2] at this
    exact this
  have s4 : SlR strF w4 (some ⟨w.heap.size + 1 + 1 + 1, 0, none⟩) 2 gTurn.cmds := by
    have := SlR.two_ strF w3 9 tn1 tn2 (cs := #[S tn1, S tn2]) rfl
    rw [← hw4, hz3] at this
    exact this
  have HX4 := Lib.hid (((x1.then_ext x2).then_ext x3).then_ext x4)
  have HX5 := Lib.hid x5
  have HM := Lib.hid (hm.ext HX4.out)
  have HF := Lib.hid (((s1.ext x2).ext x3).ext x4)
  have HT := Lib.hid ((s2.ext x3).ext x4)
  have HN := Lib.hid (s3.ext x4)
  have HBx : Hid (Cs w5 (w.heap.size + 1 + 1 + 1 + 1) 25 #[.slice (some ⟨w.heap.size + 1, 0, none⟩) 2 2, .slice (some ⟨w.heap.size + 1 + 1, 0, none⟩) 1 1, .slice (some ⟨w.heap.size + 1 + 1 + 1, 0, none⟩) 2 2, .bool false]) := by
    rw [hw5, ← hz4]; exact Cs.new _ _ _
  have HA : Hid (∀ v, Ext w4 v → Calls Tryd.prog 10 #[.slice (some ⟨w.heap.size, 0, none⟩) 1 1, .agg #[.slice (some ⟨w.heap.size + 1, 0, none⟩) 2 2, .slice (some ⟨w.heap.size + 1 + 1, 0, none⟩) 1 1, .slice (some ⟨w.heap.size + 1 + 1 + 1, 0, none⟩) 2 2, .bool false]] v fun e w' => ∃ A' c', e = .returned (.tuple #[.slice A' (allF [([97], t)] gTurn).1.length c', errV (allF [([97], t)] gTurn).2]) ∧ Fresh fileF 47 v w' A' c' (allF [([97], t)] gTurn).1) := fun v hv =>
    All_one (n := 1) (HM.out.ext hv) t ht gTurn (Nat.le_refl _) (HF.out.ext hv) (HT.out.ext hv) (HN.out.ext hv) (s4.ext hv) gTurn_lim (.inr (by decide))
  have HC : Hid (∀ v r, Ext w4 v → SlR strF v (some ⟨r, 0, none⟩) 2 gCopy.cmds → t.length ≤ 20 → Calls Tryd.prog 10 #[.slice (some ⟨w.heap.size, 0, none⟩) 1 1, .agg #[.slice (some ⟨w.heap.size + 1, 0, none⟩) 2 2, .slice (some ⟨w.heap.size + 1 + 1, 0, none⟩) 1 1, .slice (some ⟨r, 0, none⟩) 2 2, .bool false]] v fun e w' => ∃ A' c', e = .returned (.tuple #[.slice A' 2 c', .nilIface]) ∧ Fresh fileF 47 v w' A' c' [([98], t), ([99], t)]) := fun v r hv h4 hl => by
    have := All_one (n := 1) (HM.out.ext hv) t ht gCopy (Nat.le_refl _) (HF.out.ext hv) (HT.out.ext hv) (HN.out.ext hv) h4 gCopy_lim (.inl (by omega))
    rw [copy_join t (by omega)] at this
    exact this
  have HN2 := Lib.hid (fun v => number_c 2 (by decide) v)
  have E2 : errV 2 = E 2 := errV_pos (by decide)
  rw [E2] at HN2
  rw [turn_twice] at HA
  unfold maxLen at ht
  clear x1 x2 x3 x4 x5 s1 s2 s3 s4 hz1 hz2 hz3 hm
  go_enter Tryd.func5, Tryd.ntmps5
  go_upto_region 3 with fail
  rw [← hw1, ← hw2, ← hw3, ← hw4, ← hw5]
  clear hw1 hw2 hw3 hw4 hw5
  obtain ⟨ξ5, rfl⟩ : ∃ ξ : X w4 No, w5 = ξ.v := ⟨⟨w5, HX5.out⟩, rfl⟩
  have d0 : ∀ ξ : X ξ5.v No, ξ.v.cell? ⟨w.heap.size + 1 + 1 + 1 + 1, 0, none⟩ = some (.slice (some ⟨w.heap.size + 1, 0, none⟩) 2 2) := HBx.out.x id 0
  have c0 := d0 (X.here _ _)
  have c1 : ξ5.v.cell? ⟨w.heap.size + 1 + 1 + 1 + 1, 1, none⟩ = some (.slice (some ⟨w.heap.size + 1 + 1, 0, none⟩) 1 1) := HBx.out.cell 1
  have c2 : ξ5.v.cell? ⟨w.heap.size + 1 + 1 + 1 + 1, 2, none⟩ = some (.slice (some ⟨w.heap.size + 1 + 1 + 1, 0, none⟩) 2 2) := HBx.out.cell 2
  have c3 : ξ5.v.cell? ⟨w.heap.size + 1 + 1 + 1 + 1, 3, none⟩ = some (.bool false) := HBx.out.cell 3
  change ξ5.v.cell? ⟨w.heap.size + 1 + 1 + 1 + 1, 0, none⟩ = some (.slice (some ⟨w.heap.size + 1, 0, none⟩) 2 2) at c0
  rcases Nat.lt_or_ge 20 t.length with hl | hl
  · rw [if_pos hl] at HA
    have HA2 : Hid (∀ v, Ext w4 v → Calls Tryd.prog 10 #[.slice (some ⟨w.heap.size, 0, none⟩) 1 1, .agg #[.slice (some ⟨w.heap.size + 1, 0, none⟩) 2 2, .slice (some ⟨w.heap.size + 1 + 1, 0, none⟩) 1 1, .slice (some ⟨w.heap.size + 1 + 1 + 1, 0, none⟩) 2 2, .bool false]] v fun e w' => ∃ A' c', e = .returned (.tuple #[.slice A' 0 c', E 2]) ∧ Fresh fileF 47 v w' A' c' []) := fun v hv => by
      have := HA.out v hv
      rw [E2] at this
      exact this
    have g1 : decide ((20 : Int) < (t.length : Int)) = true := by rw [decide_eq_true_iff]; omega
    clear HA
    go_wp2_with (first | (refine Mix.wpList_guarded rfl ?_; (repeat' (first | (refine Mix.lex_quiet0 rfl rfl rfl ?_; intro K hK; go_big_quiet_op; go_big_quiet_on) | (refine Mix.lex_quietG rfl rfl rfl (by with_reducible rfl) rfl rfl ?_; intro K hK; go_big_quiet_op; go_big_quiet_on) | ((first | refine Mix.lex_skipT rfl rfl rfl (by with_reducible rfl) ?_ | refine Mix.lex_skipF rfl rfl rfl (by with_reducible rfl) ?_ | refine Mix.lex_skipU rfl rfl rfl (by with_reducible rfl) ?_); simp only [Act.put, List.setIfInBounds_toArray, List.set_cons_succ, List.set_cons_zero]) | (refine Mix.lex_part rfl rfl rfl rfl (fun hq => ?_) (fun hq => ?_) <;> (fail_if_success (guard_hyp hq :ₛ true = true)) <;> (fail_if_success (guard_hyp hq :ₛ false = false)) <;> first | (exfalso; cases hq; done) | (exfalso; simp only [decide_eq_true_eq, decide_eq_false_iff_not, beq_iff_eq, beq_eq_false_iff_ne, ne_eq, Int.not_lt, Int.not_le] at hq; omega) | simp only [Act.put, List.setIfInBounds_toArray, List.set_cons_succ, List.set_cons_zero]))); all_goals (refine Mix.lex_nil ?_)) | (refine Mix.wp_still (by kernel_rfl) (by kernel_rfl) ?_; (repeat' (first | (refine Mix.lex_quiet0 rfl rfl rfl ?_; intro K hK; go_big_quiet_op; go_big_quiet_on) | (refine Mix.lex_quietG rfl rfl rfl (by with_reducible rfl) rfl rfl ?_; intro K hK; go_big_quiet_op; go_big_quiet_on) | ((first | refine Mix.lex_skipT rfl rfl rfl (by with_reducible rfl) ?_ | refine Mix.lex_skipF rfl rfl rfl (by with_reducible rfl) ?_ | refine Mix.lex_skipU rfl rfl rfl (by with_reducible rfl) ?_); simp only [Act.put, List.setIfInBounds_toArray, List.set_cons_succ, List.set_cons_zero]) | (refine Mix.lex_part rfl rfl rfl rfl (fun hq => ?_) (fun hq => ?_) <;> (fail_if_success (guard_hyp hq :ₛ true = true)) <;> (fail_if_success (guard_hyp hq :ₛ false = false)) <;> first | (exfalso; cases hq; done) | (exfalso; simp only [decide_eq_true_eq, decide_eq_false_iff_not, beq_iff_eq, beq_eq_false_iff_ne, ne_eq, Int.not_lt, Int.not_le] at hq; omega) | simp only [Act.put, List.setIfInBounds_toArray, List.set_cons_succ, List.set_cons_zero]))); all_goals (refine Mix.lex_nil ?_)))
    refine (HA2.out _ ξ5.h).mono ?_; rintro e uu ⟨A, c, rfl, hf⟩; obtain ⟨ξ6, hnew⟩ : ∃ ξ : X w4 No, ξ.v = uu := ⟨⟨uu, ξ5.h.then_ext hf.ext⟩, rfl⟩; subst hnew; have Hξ6 := Lib.hid hf.ext; have F := Lib.hid hf; clear hf
    go_wp2_with (first | (refine Mix.wpList_guarded rfl ?_; (repeat' (first | (refine Mix.lex_quiet0 rfl rfl rfl ?_; intro K hK; go_big_quiet_op; go_big_quiet_on) | (refine Mix.lex_quietG rfl rfl rfl (by with_reducible rfl) rfl rfl ?_; intro K hK; go_big_quiet_op; go_big_quiet_on) | ((first | refine Mix.lex_skipT rfl rfl rfl (by with_reducible rfl) ?_ | refine Mix.lex_skipF rfl rfl rfl (by with_reducible rfl) ?_ | refine Mix.lex_skipU rfl rfl rfl (by with_reducible rfl) ?_); simp only [Act.put, List.setIfInBounds_toArray, List.set_cons_succ, List.set_cons_zero]) | (refine Mix.lex_part rfl rfl rfl rfl (fun hq => ?_) (fun hq => ?_) <;> (fail_if_success (guard_hyp hq :ₛ true = true)) <;> (fail_if_success (guard_hyp hq :ₛ false = false)) <;> first | (exfalso; cases hq; done) | (exfalso; simp only [decide_eq_true_eq, decide_eq_false_iff_not, beq_iff_eq, beq_eq_false_iff_ne, ne_eq, Int.not_lt, Int.not_le] at hq; omega) | simp only [Act.put, List.setIfInBounds_toArray, List.set_cons_succ, List.set_cons_zero]))); all_goals (refine Mix.lex_nil ?_)) | (refine Mix.wp_still (by kernel_rfl) (by kernel_rfl) ?_; (repeat' (first | (refine Mix.lex_quiet0 rfl rfl rfl ?_; intro K hK; go_big_quiet_op; go_big_quiet_on) | (refine Mix.lex_quietG rfl rfl rfl (by with_reducible rfl) rfl rfl ?_; intro K hK; go_big_quiet_op; go_big_quiet_on) | ((first | refine Mix.lex_skipT rfl rfl rfl (by with_reducible rfl) ?_ | refine Mix.lex_skipF rfl rfl rfl (by with_reducible rfl) ?_ | refine Mix.lex_skipU rfl rfl rfl (by with_reducible rfl) ?_); simp only [Act.put, List.setIfInBounds_toArray, List.set_cons_succ, List.set_cons_zero]) | (refine Mix.lex_part rfl rfl rfl rfl (fun hq => ?_) (fun hq => ?_) <;> (fail_if_success (guard_hyp hq :ₛ true = true)) <;> (fail_if_success (guard_hyp hq :ₛ false = false)) <;> first | (exfalso; cases hq; done) | (exfalso; simp only [decide_eq_true_eq, decide_eq_false_iff_not, beq_iff_eq, beq_eq_false_iff_ne, ne_eq, Int.not_lt, Int.not_le] at hq; omega) | simp only [Act.put, List.setIfInBounds_toArray, List.set_cons_succ, List.set_cons_zero]))); all_goals (refine Mix.lex_nil ?_)))
    refine (HN2.out _).mono ?_; rintro e uu ⟨rfl, hu⟩; obtain ⟨ξ7, hnew⟩ : ∃ ξ : X w4 No, ξ.v = uu := ⟨⟨uu, ξ6.h.then_ext hu⟩, rfl⟩; subst hnew; have Hξ7 := Lib.hid hu; clear hu
    go_wp2_with (first | (refine Mix.wpList_guarded rfl ?_; (repeat' (first | (refine Mix.lex_quiet0 rfl rfl rfl ?_; intro K hK; go_big_quiet_op; go_big_quiet_on) | (refine Mix.lex_quietG rfl rfl rfl (by with_reducible rfl) rfl rfl ?_; intro K hK; go_big_quiet_op; go_big_quiet_on) | ((first | refine Mix.lex_skipT rfl rfl rfl (by with_reducible rfl) ?_ | refine Mix.lex_skipF rfl rfl rfl (by with_reducible rfl) ?_ | refine Mix.lex_skipU rfl rfl rfl (by with_reducible rfl) ?_); simp only [Act.put, List.setIfInBounds_toArray, List.set_cons_succ, List.set_cons_zero]) | (refine Mix.lex_part rfl rfl rfl rfl (fun hq => ?_) (fun hq => ?_) <;> (fail_if_success (guard_hyp hq :ₛ true = true)) <;> (fail_if_success (guard_hyp hq :ₛ false = false)) <;> first | (exfalso; cases hq; done) | (exfalso; simp only [decide_eq_true_eq, decide_eq_false_iff_not, beq_iff_eq, beq_eq_false_iff_ne, ne_eq, Int.not_lt, Int.not_le] at hq; omega) | simp only [Act.put, List.setIfInBounds_toArray, List.set_cons_succ, List.set_cons_zero]))); all_goals (refine Mix.lex_nil ?_)) | (refine Mix.wp_still (by kernel_rfl) (by kernel_rfl) ?_; (repeat' (first | (refine Mix.lex_quiet0 rfl rfl rfl ?_; intro K hK; go_big_quiet_op; go_big_quiet_on) | (refine Mix.lex_quietG rfl rfl rfl (by with_reducible rfl) rfl rfl ?_; intro K hK; go_big_quiet_op; go_big_quiet_on) | ((first | refine Mix.lex_skipT rfl rfl rfl (by with_reducible rfl) ?_ | refine Mix.lex_skipF rfl rfl rfl (by with_reducible rfl) ?_ | refine Mix.lex_skipU rfl rfl rfl (by with_reducible rfl) ?_); simp only [Act.put, List.setIfInBounds_toArray, List.set_cons_succ, List.set_cons_zero]) | (refine Mix.lex_part rfl rfl rfl rfl (fun hq => ?_) (fun hq => ?_) <;> (fail_if_success (guard_hyp hq :ₛ true = true)) <;> (fail_if_success (guard_hyp hq :ₛ false = false)) <;> first | (exfalso; cases hq; done) | (exfalso; simp only [decide_eq_true_eq, decide_eq_false_iff_not, beq_iff_eq, beq_eq_false_iff_ne, ne_eq, Int.not_lt, Int.not_le] at hq; omega) | simp only [Act.put, List.setIfInBounds_toArray, List.set_cons_succ, List.set_cons_zero]))); all_goals (refine Mix.lex_nil ?_)))
    go_ret
    exact ⟨rfl, HX4.out.then_ext ξ7.h⟩
  · rw [if_neg (by omega)] at HA
    have HA2 : Hid (∀ v, Ext w4 v → Calls Tryd.prog 10 #[.slice (some ⟨w.heap.size, 0, none⟩) 1 1, .agg #[.slice (some ⟨w.heap.size + 1, 0, none⟩) 2 2, .slice (some ⟨w.heap.size + 1 + 1, 0, none⟩) 1 1, .slice (some ⟨w.heap.size + 1 + 1 + 1, 0, none⟩) 2 2, .bool false]] v fun e w' => ∃ A' c', e = .returned (.tuple #[.slice A' 2 c', .nilIface]) ∧ Fresh fileF 47 v w' A' c' [([98], t.reverse), ([99], t)]) := HA.out
    have g1 : decide ((20 : Int) < (t.length : Int)) = false := by rw [decide_eq_false_iff_not]; omega
    clear HA
    go_wp2_with (first | (refine Mix.wpList_guarded rfl ?_; (repeat' (first | (refine Mix.lex_quiet0 rfl rfl rfl ?_; intro K hK; go_big_quiet_op; go_big_quiet_on) | (refine Mix.lex_quietG rfl rfl rfl (by with_reducible rfl) rfl rfl ?_; intro K hK; go_big_quiet_op; go_big_quiet_on) | ((first | refine Mix.lex_skipT rfl rfl rfl (by with_reducible rfl) ?_ | refine Mix.lex_skipF rfl rfl rfl (by with_reducible rfl) ?_ | refine Mix.lex_skipU rfl rfl rfl (by with_reducible rfl) ?_); simp only [Act.put, List.setIfInBounds_toArray, List.set_cons_succ, List.set_cons_zero]) | (refine Mix.lex_part rfl rfl rfl rfl (fun hq => ?_) (fun hq => ?_) <;> (fail_if_success (guard_hyp hq :ₛ true = true)) <;> (fail_if_success (guard_hyp hq :ₛ false = false)) <;> first | (exfalso; cases hq; done) | (exfalso; simp only [decide_eq_true_eq, decide_eq_false_iff_not, beq_iff_eq, beq_eq_false_iff_ne, ne_eq, Int.not_lt, Int.not_le] at hq; omega) | simp only [Act.put, List.setIfInBounds_toArray, List.set_cons_succ, List.set_cons_zero]))); all_goals (refine Mix.lex_nil ?_)) | (refine Mix.wp_still (by kernel_rfl) (by kernel_rfl) ?_; (repeat' (first | (refine Mix.lex_quiet0 rfl rfl rfl ?_; intro K hK; go_big_quiet_op; go_big_quiet_on) | (refine Mix.lex_quietG rfl rfl rfl (by with_reducible rfl) rfl rfl ?_; intro K hK; go_big_quiet_op; go_big_quiet_on) | ((first | refine Mix.lex_skipT rfl rfl rfl (by with_reducible rfl) ?_ | refine Mix.lex_skipF rfl rfl rfl (by with_reducible rfl) ?_ | refine Mix.lex_skipU rfl rfl rfl (by with_reducible rfl) ?_); simp only [Act.put, List.setIfInBounds_toArray, List.set_cons_succ, List.set_cons_zero]) | (refine Mix.lex_part rfl rfl rfl rfl (fun hq => ?_) (fun hq => ?_) <;> (fail_if_success (guard_hyp hq :ₛ true = true)) <;> (fail_if_success (guard_hyp hq :ₛ false = false)) <;> first | (exfalso; cases hq; done) | (exfalso; simp only [decide_eq_true_eq, decide_eq_false_iff_not, beq_iff_eq, beq_eq_false_iff_ne, ne_eq, Int.not_lt, Int.not_le] at hq; omega) | simp only [Act.put, List.setIfInBounds_toArray, List.set_cons_succ, List.set_cons_zero]))); all_goals (refine Mix.lex_nil ?_)))
    refine (HA2.out _ ξ5.h).mono ?_; rintro e uu ⟨A6, k6, rfl, hf⟩; obtain ⟨ξ6, hnew⟩ : ∃ ξ : X w4 No, ξ.v = uu := ⟨⟨uu, ξ5.h.then_ext hf.ext⟩, rfl⟩; subst hnew; have Hξ6 := Lib.hid hf.ext; have F6 := Lib.hid hf; clear hf
    obtain ⟨b, o, f, rfl, hf, e0, e1⟩ := files_get (F6.out.row (by decide)) (k := 1) (by simp)
    obtain rfl : ([99], t) = f := by injection hf
    have e1' := e1 (X.here _ _)
    change ξ6.v.cell? ⟨b, o + 1 * 2 + 1, none⟩ = some (S t) at e1'
    have HB6 := Lib.hid (HBx.out.keep Hξ6.out id)
    obtain ⟨u7, hu7⟩ : ∃ u, u = ξ6.v.alloc (.cells #[S cp1, S cp2] 9) := ⟨_, rfl⟩
    have HB7 : Hid (Cs u7 (w.heap.size + 1 + 1 + 1 + 1) 25 #[.slice (some ⟨w.heap.size + 1, 0, none⟩) 2 2, .slice (some ⟨w.heap.size + 1 + 1, 0, none⟩) 1 1, .slice (some ⟨w.heap.size + 1 + 1 + 1, 0, none⟩) 2 2, .bool false]) := by rw [hu7]; exact HB6.out.alloc _
    have S7 : Hid (SlR strF u7 (some ⟨ξ6.v.heap.size, 0, none⟩) 2 gCopy.cmds) := by
      rw [hu7]; exact SlR.two_ strF ξ6.v 9 cp1 cp2 rfl
    have X7 : Hid (Ext w4 u7) := by rw [hu7]; exact ξ6.h.alloc _
    have z2 := HB7.out.frozen 2
    have y2 : u7.cell? ⟨w.heap.size + 1 + 1 + 1 + 1, 2, none⟩ = some (.slice (some ⟨w.heap.size + 1 + 1 + 1, 0, none⟩) 2 2) := HB7.out.cell 2
    have hz6 : w4.heap.size ≤ ξ6.v.heap.size := ξ6.h.size
    clear hf e0 e1 HA2 d0
    have HB8 : Hid (Cs (u7.setCell ⟨w.heap.size + 1 + 1 + 1 + 1, 2, none⟩ (.slice (some ⟨ξ6.v.heap.size, 0, none⟩) 2 2)) (w.heap.size + 1 + 1 + 1 + 1) 25 #[.slice (some ⟨w.heap.size + 1, 0, none⟩) 2 2, .slice (some ⟨w.heap.size + 1 + 1, 0, none⟩) 1 1, .slice (some ⟨ξ6.v.heap.size, 0, none⟩) 2 2, .bool false]) := HB7.out.set_ 2 _
    obtain ⟨u8, hu8⟩ : ∃ u, u = u7.setCell ⟨w.heap.size + 1 + 1 + 1 + 1, 2, none⟩ (.slice (some ⟨ξ6.v.heap.size, 0, none⟩) 2 2) := ⟨_, rfl⟩
    have hz4' : w4.heap.size = w.heap.size + 1 + 1 + 1 + 1 := hz4
    have X8 : Hid (Ext w4 u8) := by rw [hu8]; exact X7.out.setCell (p := ⟨w.heap.size + 1 + 1 + 1 + 1, 2, none⟩) (.inl (by show w4.heap.size ≤ w.heap.size + 1 + 1 + 1 + 1; omega)) _
    have S8 : Hid (SlR strF u8 (some ⟨ξ6.v.heap.size, 0, none⟩) 2 gCopy.cmds) := by
      have hne : ξ6.v.heap.size ≠ w.heap.size + 1 + 1 + 1 + 1 := by have := HB6.out.lt; omega
      rw [hu8]
      refine S7.out.keep_far ((Only.refl (fun b => b = w.heap.size + 1 + 1 + 1 + 1) u7).at_ 2 _) ?_
      rintro b o he _ hb
      injection he with he
      injection he with he1 he2
      exact hne (he1.trans hb)
    rw [← hu8] at HB8
    have q0 : u8.cell? ⟨w.heap.size + 1 + 1 + 1 + 1, 0, none⟩ = some (.slice (some ⟨w.heap.size + 1, 0, none⟩) 2 2) := HB8.out.cell 0
    have q1 : u8.cell? ⟨w.heap.size + 1 + 1 + 1 + 1, 1, none⟩ = some (.slice (some ⟨w.heap.size + 1 + 1, 0, none⟩) 1 1) := HB8.out.cell 1
    have q2 : u8.cell? ⟨w.heap.size + 1 + 1 + 1 + 1, 2, none⟩ = some (.slice (some ⟨ξ6.v.heap.size, 0, none⟩) 2 2) := HB8.out.cell 2
    have q3 : u8.cell? ⟨w.heap.size + 1 + 1 + 1 + 1, 3, none⟩ = some (.bool false) := HB8.out.cell 3
    obtain ⟨ξ7, hξ7⟩ : ∃ ξ : X w4 No, u7 = ξ.v := ⟨⟨u7, X7.out⟩, rfl⟩
    obtain ⟨ξ8, hξ8⟩ : ∃ ξ : X w4 No, u8 = ξ.v := ⟨⟨u8, X8.out⟩, rfl⟩
    go_upto_region 9 with fail
    refine Mix.wp_plain [0, 2] (Cl w4 No) (Cl.of ξ6.h) ?_
    clear c0 c1 c2 c3 e1'
    ((first | refine Mix.lex_goes0 rfl rfl ?_ | refine Mix.lex_goesG rfl rfl rfl (by with_reducible rfl) rfl ?_); intro K hK; go_simp)
    rw [← hu7]
    refine hK _ _ (fun _ => ⟨ξ7, hξ7⟩) ?_
    clear hK K hu7 hξ7
    simp only [Act.put, List.setIfInBounds_toArray, List.set_cons_succ, List.set_cons_zero]
    (repeat' (first | (refine Mix.lex_quiet0 rfl rfl rfl ?_; intro K hK; go_big_quiet_op; go_big_quiet_on) | (refine Mix.lex_quietG rfl rfl rfl (by with_reducible rfl) rfl rfl ?_; intro K hK; go_big_quiet_op; go_big_quiet_on) | ((first | refine Mix.lex_skipT rfl rfl rfl (by with_reducible rfl) ?_ | refine Mix.lex_skipF rfl rfl rfl (by with_reducible rfl) ?_ | refine Mix.lex_skipU rfl rfl rfl (by with_reducible rfl) ?_); simp only [Act.put, List.setIfInBounds_toArray, List.set_cons_succ, List.set_cons_zero]) | (refine Mix.lex_part rfl rfl rfl rfl (fun hq => ?_) (fun hq => ?_) <;> (fail_if_success (guard_hyp hq :ₛ true = true)) <;> (fail_if_success (guard_hyp hq :ₛ false = false)) <;> first | (exfalso; cases hq; done) | (exfalso; simp only [decide_eq_true_eq, decide_eq_false_iff_not, beq_iff_eq, beq_eq_false_iff_ne, ne_eq, Int.not_lt, Int.not_le] at hq; omega) | simp only [Act.put, List.setIfInBounds_toArray, List.set_cons_succ, List.set_cons_zero])))
    ((first | refine Mix.lex_goes0 rfl rfl ?_ | refine Mix.lex_goesG rfl rfl rfl (by with_reducible rfl) rfl ?_); intro K hK; go_simp)
    rw [← hu8]
    refine hK _ _ (fun _ => ⟨ξ8, hξ8⟩) ?_
    clear hK K z2 y2 hu8 hξ8
    simp only [Act.put, List.setIfInBounds_toArray, List.set_cons_succ, List.set_cons_zero]
    refine Mix.lex_nil ?_
    have HC2 := Lib.hid (HC.out u8 ξ6.v.heap.size X8.out S8.out (by omega))
    clear HC
    go_wp2_with (first | (refine Mix.wpList_guarded rfl ?_; (repeat' (first | (refine Mix.lex_quiet0 rfl rfl rfl ?_; intro K hK; go_big_quiet_op; go_big_quiet_on) | (refine Mix.lex_quietG rfl rfl rfl (by with_reducible rfl) rfl rfl ?_; intro K hK; go_big_quiet_op; go_big_quiet_on) | ((first | refine Mix.lex_skipT rfl rfl rfl (by with_reducible rfl) ?_ | refine Mix.lex_skipF rfl rfl rfl (by with_reducible rfl) ?_ | refine Mix.lex_skipU rfl rfl rfl (by with_reducible rfl) ?_); simp only [Act.put, List.setIfInBounds_toArray, List.set_cons_succ, List.set_cons_zero]) | (refine Mix.lex_part rfl rfl rfl rfl (fun hq => ?_) (fun hq => ?_) <;> (fail_if_success (guard_hyp hq :ₛ true = true)) <;> (fail_if_success (guard_hyp hq :ₛ false = false)) <;> first | (exfalso; cases hq; done) | (exfalso; simp only [decide_eq_true_eq, decide_eq_false_iff_not, beq_iff_eq, beq_eq_false_iff_ne, ne_eq, Int.not_lt, Int.not_le] at hq; omega) | simp only [Act.put, List.setIfInBounds_toArray, List.set_cons_succ, List.set_cons_zero]))); all_goals (refine Mix.lex_nil ?_)) | (refine Mix.wp_still (by kernel_rfl) (by kernel_rfl) ?_; (repeat' (first | (refine Mix.lex_quiet0 rfl rfl rfl ?_; intro K hK; go_big_quiet_op; go_big_quiet_on) | (refine Mix.lex_quietG rfl rfl rfl (by with_reducible rfl) rfl rfl ?_; intro K hK; go_big_quiet_op; go_big_quiet_on) | ((first | refine Mix.lex_skipT rfl rfl rfl (by with_reducible rfl) ?_ | refine Mix.lex_skipF rfl rfl rfl (by with_reducible rfl) ?_ | refine Mix.lex_skipU rfl rfl rfl (by with_reducible rfl) ?_); simp only [Act.put, List.setIfInBounds_toArray, List.set_cons_succ, List.set_cons_zero]) | (refine Mix.lex_part rfl rfl rfl rfl (fun hq => ?_) (fun hq => ?_) <;> (fail_if_success (guard_hyp hq :ₛ true = true)) <;> (fail_if_success (guard_hyp hq :ₛ false = false)) <;> first | (exfalso; cases hq; done) | (exfalso; simp only [decide_eq_true_eq, decide_eq_false_iff_not, beq_iff_eq, beq_eq_false_iff_ne, ne_eq, Int.not_lt, Int.not_le] at hq; omega) | simp only [Act.put, List.setIfInBounds_toArray, List.set_cons_succ, List.set_cons_zero]))); all_goals (refine Mix.lex_nil ?_)))
    refine HC2.out.mono ?_
    rintro e u ⟨A9, k9, rfl, hf⟩
    have F9 := Lib.hid hf
    obtain ⟨ξ9, rfl⟩ : ∃ ξ : X w4 No, u = ξ.v := ⟨⟨u, X8.out.then_ext hf.ext⟩, rfl⟩
    clear hf HC2
    obtain ⟨b2, o2, f, rfl, hf, e0, e1⟩ := files_get (F9.out.row (by decide)) (k := 1) (by simp)
    obtain rfl : ([99], t) = f := by injection hf
    have e1' := e1 (X.here _ _)
    change ξ9.v.cell? ⟨b2, o2 + 1 * 2 + 1, none⟩ = some (S t) at e1'
    obtain ⟨b3, o3, f, he, hf, e2, e3⟩ := files_get (F9.out.row (by decide)) (k := 0) (by simp)
    obtain rfl : ([98], t) = f := by injection hf
    injection he with he
    injection he with he1 he2
    subst he1; subst he2
    have e3' := e3 (X.here _ _)
    change ξ9.v.cell? ⟨b2, o2 + 0 * 2 + 1, none⟩ = some (S t) at e3'
    rw [Nat.zero_mul, Nat.add_zero] at e3'
    clear e0 e1 e2 e3 hf
    go_wp2_with (first | (refine Mix.wpList_guarded rfl ?_; (repeat' (first | (refine Mix.lex_quiet0 rfl rfl rfl ?_; intro K hK; go_big_quiet_op; go_big_quiet_on) | (refine Mix.lex_quietG rfl rfl rfl (by with_reducible rfl) rfl rfl ?_; intro K hK; go_big_quiet_op; go_big_quiet_on) | ((first | refine Mix.lex_skipT rfl rfl rfl (by with_reducible rfl) ?_ | refine Mix.lex_skipF rfl rfl rfl (by with_reducible rfl) ?_ | refine Mix.lex_skipU rfl rfl rfl (by with_reducible rfl) ?_); simp only [Act.put, List.setIfInBounds_toArray, List.set_cons_succ, List.set_cons_zero]) | (refine Mix.lex_part rfl rfl rfl rfl (fun hq => ?_) (fun hq => ?_) <;> (fail_if_success (guard_hyp hq :ₛ true = true)) <;> (fail_if_success (guard_hyp hq :ₛ false = false)) <;> first | (exfalso; cases hq; done) | (exfalso; simp only [decide_eq_true_eq, decide_eq_false_iff_not, beq_iff_eq, beq_eq_false_iff_ne, ne_eq, Int.not_lt, Int.not_le] at hq; omega) | simp only [Act.put, List.setIfInBounds_toArray, List.set_cons_succ, List.set_cons_zero]))); all_goals (refine Mix.lex_nil ?_)) | (refine Mix.wp_still (by kernel_rfl) (by kernel_rfl) ?_; (repeat' (first | (refine Mix.lex_quiet0 rfl rfl rfl ?_; intro K hK; go_big_quiet_op; go_big_quiet_on) | (refine Mix.lex_quietG rfl rfl rfl (by with_reducible rfl) rfl rfl ?_; intro K hK; go_big_quiet_op; go_big_quiet_on) | ((first | refine Mix.lex_skipT rfl rfl rfl (by with_reducible rfl) ?_ | refine Mix.lex_skipF rfl rfl rfl (by with_reducible rfl) ?_ | refine Mix.lex_skipU rfl rfl rfl (by with_reducible rfl) ?_); simp only [Act.put, List.setIfInBounds_toArray, List.set_cons_succ, List.set_cons_zero]) | (refine Mix.lex_part rfl rfl rfl rfl (fun hq => ?_) (fun hq => ?_) <;> (fail_if_success (guard_hyp hq :ₛ true = true)) <;> (fail_if_success (guard_hyp hq :ₛ false = false)) <;> first | (exfalso; cases hq; done) | (exfalso; simp only [decide_eq_true_eq, decide_eq_false_iff_not, beq_iff_eq, beq_eq_false_iff_ne, ne_eq, Int.not_lt, Int.not_le] at hq; omega) | simp only [Act.put, List.setIfInBounds_toArray, List.set_cons_succ, List.set_cons_zero]))); all_goals (refine Mix.lex_nil ?_)))
    go_ret
    exact ⟨rfl, HX4.out.then_ext ξ9.h⟩
end Go.Proofs.YtnplipljfmnjgaaDoor
