/- RecipeSays: the walk. -/
import Derived.Test.YtnplipljfmnjgaaDoorRec7
namespace Go.Proofs.YtnplipljfmnjgaaDoor
open Go Go.RowKit
theorem lightT_facts {many long : Nat} {l : List Str} (h : lightT many long l = true) : l.length ≤ many ∧ ∀ s ∈ l, s.length ≤ long := by
  simp only [lightT, Bool.and_eq_true, decide_eq_true_eq, List.all_eq_true] at h
  exact h
theorem lightG_lim {g : Grp} (h : lightG g = true) : g.Lim := by
  simp only [lightG, Bool.and_eq_true] at h
  have h1 := lightT_facts h.1.1
  have h2 := lightT_facts h.1.2
  have h3 := lightT_facts h.2
  exact ⟨by omega, by omega, by omega, fun x hx => by have := h3.2 x hx; omega⟩
def gRc : Grp := ⟨[[98]], [[97]], [[116, 117, 114, 110, 32, 97, 32, 98]], false⟩
theorem gRc_all : allF [([97], [120, 121])] gRc = ([([98], [121, 120])], 0) := by kernel_rfl
set_option maxRecDepth 100000 in
theorem recipes_c {w : World} (hm : Ml w) : Calls Tryd.prog 7 #[] w fun e w' => e = .returned (.bool true) ∧ Ext w w' := by
  obtain ⟨w1, hw1⟩ : ∃ w1, w1 = w.alloc (.cells #[S [97], S [120, 121]] 47) := ⟨_, rfl⟩
  obtain ⟨w2, hw2⟩ : ∃ w2, w2 = w1.alloc (.cells #[S [98]] 9) := ⟨_, rfl⟩
  obtain ⟨w3, hw3⟩ : ∃ w3, w3 = w2.alloc (.cells #[S [97]] 9) := ⟨_, rfl⟩
  obtain ⟨w4, hw4⟩ : ∃ w4, w4 = w3.alloc (.cells #[S [116, 117, 114, 110, 32, 97, 32, 98]] 9) := ⟨_, rfl⟩
  have x1 : Ext w w1 := by rw [hw1]; exact (Only.refl No _).alloc _
  have x2 : Ext w1 w2 := by rw [hw2]; exact (Only.refl No _).alloc _
  have x3 : Ext w2 w3 := by rw [hw3]; exact (Only.refl No _).alloc _
  have x4 : Ext w3 w4 := by rw [hw4]; exact (Only.refl No _).alloc _
  have hz1 : w1.heap.size = w.heap.size + 1 := by rw [hw1]; simp
  have hz2 : w2.heap.size = w.heap.size + 2 := by rw [hw2]; simp [hz1]
  have hz3 : w3.heap.size = w.heap.size + 3 := by rw [hw3]; simp [hz2]
  have s1 : SlR fileF w1 (some ⟨w.heap.size, 0, none⟩) 1 [([97], [120, 121])] := by rw [hw1]; exact SlR.one fileF _ _ _ rfl
  have s2 : SlR strF w2 (some ⟨w.heap.size + 1, 0, none⟩) 1 [[98]] := by
    have := SlR.one strF w1 9 [98] (cs := #[S [98]]) rfl
    rw [← hw2, hz1] at this
    exact this
  have s3 : SlR strF w3 (some ⟨w.heap.size + 2, 0, none⟩) 1 [[97]] := by
    have := SlR.one strF w2 9 [97] (cs := #[S [97]]) rfl
    rw [← hw3, hz2] at this
    exact this
  have s4 : SlR strF w4 (some ⟨w.heap.size + 3, 0, none⟩) 1 [[116, 117, 114, 110, 32, 97, 32, 98]] := by
    have := SlR.one strF w3 9 [116, 117, 114, 110, 32, 97, 32, 98] (cs := #[S [116, 117, 114, 110, 32, 97, 32, 98]]) rfl
    rw [← hw4, hz3] at this
    exact this
  have HX := Lib.hid (((x1.then_ext x2).then_ext x3).then_ext x4)
  have hA := All_c (c := 1) (hm.ext HX.out) (((s1.ext x2).ext x3).ext x4) (by omega) (by simp [Rise]) (by simp) (v := ⟨some ⟨w.heap.size + 1, 0, none⟩, 1, some ⟨w.heap.size + 2, 0, none⟩, 1, some ⟨w.heap.size + 3, 0, none⟩, 1⟩) (g := gRc) ⟨(s2.ext x3).ext x4, s3.ext x4, s4⟩ ⟨by decide, by decide, by decide, by simp [gRc]⟩
  rw [gRc_all] at hA
  have HA : Hid (Calls Tryd.prog 10 #[.slice (some ⟨w.heap.size, 0, none⟩) 1 1, .agg #[.slice (some ⟨w.heap.size + 1, 0, none⟩) 1 1, .slice (some ⟨w.heap.size + 2, 0, none⟩) 1 1, .slice (some ⟨w.heap.size + 3, 0, none⟩) 1 1, .bool false]] w4 fun e w' => ∃ A' c', e = .returned (.tuple #[.slice A' 1 c', .nilIface]) ∧ Fresh fileF 47 w4 w' A' c' [([98], [121, 120])]) := hA
  have HS1 : Hid (∀ v, Calls Tryd.prog 12 #[.nilIface, .int .i64 0] v fun e w' => e = .returned (.bool true) ∧ Ext v w') := fun v => same_nil 0 v
  have HS2 : Hid (∀ (v u : World) (A' : Option Addr) (c' : Nat), Fresh fileF 47 w4 v A' c' [([98], [121, 120])] → u = v.alloc (.cells #[S [98], S [121, 120]] 47) → Calls Tryd.prog 13 #[.slice A' 1 c', .slice (some ⟨v.heap.size, 0, none⟩) 1 1] u fun e w' => e = .returned (.bool true) ∧ Ext u w') := fun v u A' c' hf hu => by
    subst hu
    have := SameFiles_c (c := c') (d := 1) ((hf.row (by decide)).ext ((Only.refl No _).alloc _)) (SlR.one fileF v 47 ([98], [121, 120]) (cs := #[S [98], S [121, 120]]) rfl) (by decide) (by decide)
    rwa [decide_eq_true rfl] at this
  clear x1 x2 x3 x4 s1 s2 s3 s4 hm hA hz2 hz3
  go_enter Tryd.func7, Tryd.ntmps7
  go_wp2_with fail
  rw [← hw1, ← hw2, ← hw3, ← hw4]
  clear hw1 hw2 hw3 hw4
  refine HA.out.mono ?_
  rintro e u ⟨A', c', rfl, hf⟩
  have F := Lib.hid hf
  obtain ⟨ξ1, rfl⟩ : ∃ ξ : X w No, u = ξ.v := ⟨⟨u, HX.out.then_ext hf.ext⟩, rfl⟩
  clear hf HA HX
  go_upto_region 2 with fail
  refine Mix.wp_plain [1, 5, 6] (Cl w No) (Cl.of ξ1.h) ?_
  (repeat' (first | (refine Mix.lex_quiet0 rfl rfl rfl ?_; intro K hK; go_big_quiet_op; go_big_quiet_on) | (refine Mix.lex_quietG rfl rfl rfl (by with_reducible rfl) rfl rfl ?_; intro K hK; go_big_quiet_op; go_big_quiet_on) | ((first | refine Mix.lex_skipT rfl rfl rfl (by with_reducible rfl) ?_ | refine Mix.lex_skipF rfl rfl rfl (by with_reducible rfl) ?_ | refine Mix.lex_skipU rfl rfl rfl (by with_reducible rfl) ?_); simp only [Act.put, List.setIfInBounds_toArray, List.set_cons_succ, List.set_cons_zero]) | (refine Mix.lex_part rfl rfl rfl rfl (fun hq => ?_) (fun hq => ?_) <;> (fail_if_success (guard_hyp hq :ₛ true = true)) <;> (fail_if_success (guard_hyp hq :ₛ false = false)) <;> first | (exfalso; cases hq; done) | (exfalso; simp only [decide_eq_true_eq, decide_eq_false_iff_not, beq_iff_eq, beq_eq_false_iff_ne, ne_eq, Int.not_lt, Int.not_le] at hq; omega) | simp only [Act.put, List.setIfInBounds_toArray, List.set_cons_succ, List.set_cons_zero])))
  ((first | refine Mix.lex_goes0 rfl rfl ?_ | refine Mix.lex_goesG rfl rfl rfl (by with_reducible rfl) rfl ?_); intro K hK; go_simp); refine (HS1.out _).mono ?_; rintro e uu ⟨rfl, hu⟩; obtain ⟨ξ2, hnew⟩ : ∃ ξ : X w No, ξ.v = uu := ⟨⟨uu, ξ1.h.then_ext hu⟩, rfl⟩; subst hnew; have Hξ2 := Lib.hid hu; refine ⟨_, rfl, hK _ _ (fun _ => ⟨ξ2, rfl⟩) ?_⟩; clear hK K hu; simp only [Act.put, List.setIfInBounds_toArray, List.set_cons_succ, List.set_cons_zero]; (repeat' (first | (refine Mix.lex_quiet0 rfl rfl rfl ?_; intro K hK; go_big_quiet_op; go_big_quiet_on) | (refine Mix.lex_quietG rfl rfl rfl (by with_reducible rfl) rfl rfl ?_; intro K hK; go_big_quiet_op; go_big_quiet_on) | ((first | refine Mix.lex_skipT rfl rfl rfl (by with_reducible rfl) ?_ | refine Mix.lex_skipF rfl rfl rfl (by with_reducible rfl) ?_ | refine Mix.lex_skipU rfl rfl rfl (by with_reducible rfl) ?_); simp only [Act.put, List.setIfInBounds_toArray, List.set_cons_succ, List.set_cons_zero]) | (refine Mix.lex_part rfl rfl rfl rfl (fun hq => ?_) (fun hq => ?_) <;> (fail_if_success (guard_hyp hq :ₛ true = true)) <;> (fail_if_success (guard_hyp hq :ₛ false = false)) <;> first | (exfalso; cases hq; done) | (exfalso; simp only [decide_eq_true_eq, decide_eq_false_iff_not, beq_iff_eq, beq_eq_false_iff_ne, ne_eq, Int.not_lt, Int.not_le] at hq; omega) | simp only [Act.put, List.setIfInBounds_toArray, List.set_cons_succ, List.set_cons_zero])))
  have F2 := Lib.hid (F.out.on Hξ2.out)
  ((first | refine Mix.lex_goes0 rfl rfl ?_ | refine Mix.lex_goesG rfl rfl rfl (by with_reducible rfl) rfl ?_); intro K hK; go_simp)
  obtain ⟨u3, hu3⟩ : ∃ u3, u3 = ξ2.v.alloc (.cells #[S [98], S [121, 120]] 47) := ⟨_, rfl⟩
  have x3 : Ext ξ2.v u3 := by rw [hu3]; exact (Only.refl No _).alloc _
  have HS3 := Lib.hid (HS2.out _ _ _ _ F2.out hu3)
  rw [← hu3]
  obtain ⟨ξ3, rfl⟩ : ∃ ξ : X w No, u3 = ξ.v := ⟨⟨u3, ξ2.h.then_ext x3⟩, rfl⟩
  refine hK _ _ (fun _ => ⟨ξ3, rfl⟩) ?_
  clear hK K hu3 x3
  simp only [Act.put, List.setIfInBounds_toArray, List.set_cons_succ, List.set_cons_zero]
  (repeat' (first | (refine Mix.lex_quiet0 rfl rfl rfl ?_; intro K hK; go_big_quiet_op; go_big_quiet_on) | (refine Mix.lex_quietG rfl rfl rfl (by with_reducible rfl) rfl rfl ?_; intro K hK; go_big_quiet_op; go_big_quiet_on) | ((first | refine Mix.lex_skipT rfl rfl rfl (by with_reducible rfl) ?_ | refine Mix.lex_skipF rfl rfl rfl (by with_reducible rfl) ?_ | refine Mix.lex_skipU rfl rfl rfl (by with_reducible rfl) ?_); simp only [Act.put, List.setIfInBounds_toArray, List.set_cons_succ, List.set_cons_zero]) | (refine Mix.lex_part rfl rfl rfl rfl (fun hq => ?_) (fun hq => ?_) <;> (fail_if_success (guard_hyp hq :ₛ true = true)) <;> (fail_if_success (guard_hyp hq :ₛ false = false)) <;> first | (exfalso; cases hq; done) | (exfalso; simp only [decide_eq_true_eq, decide_eq_false_iff_not, beq_iff_eq, beq_eq_false_iff_ne, ne_eq, Int.not_lt, Int.not_le] at hq; omega) | simp only [Act.put, List.setIfInBounds_toArray, List.set_cons_succ, List.set_cons_zero])))
  ((first | refine Mix.lex_goes0 rfl rfl ?_ | refine Mix.lex_goesG rfl rfl rfl (by with_reducible rfl) rfl ?_); intro K hK; go_simp); refine (HS3.out).mono ?_; rintro e uu ⟨rfl, hu⟩; obtain ⟨ξ4, hnew⟩ : ∃ ξ : X w No, ξ.v = uu := ⟨⟨uu, ξ3.h.then_ext hu⟩, rfl⟩; subst hnew; have Hξ4 := Lib.hid hu; refine ⟨_, rfl, hK _ _ (fun _ => ⟨ξ4, rfl⟩) ?_⟩; clear hK K hu; simp only [Act.put, List.setIfInBounds_toArray, List.set_cons_succ, List.set_cons_zero]; (repeat' (first | (refine Mix.lex_quiet0 rfl rfl rfl ?_; intro K hK; go_big_quiet_op; go_big_quiet_on) | (refine Mix.lex_quietG rfl rfl rfl (by with_reducible rfl) rfl rfl ?_; intro K hK; go_big_quiet_op; go_big_quiet_on) | ((first | refine Mix.lex_skipT rfl rfl rfl (by with_reducible rfl) ?_ | refine Mix.lex_skipF rfl rfl rfl (by with_reducible rfl) ?_ | refine Mix.lex_skipU rfl rfl rfl (by with_reducible rfl) ?_); simp only [Act.put, List.setIfInBounds_toArray, List.set_cons_succ, List.set_cons_zero]) | (refine Mix.lex_part rfl rfl rfl rfl (fun hq => ?_) (fun hq => ?_) <;> (fail_if_success (guard_hyp hq :ₛ true = true)) <;> (fail_if_success (guard_hyp hq :ₛ false = false)) <;> first | (exfalso; cases hq; done) | (exfalso; simp only [decide_eq_true_eq, decide_eq_false_iff_not, beq_iff_eq, beq_eq_false_iff_ne, ne_eq, Int.not_lt, Int.not_le] at hq; omega) | simp only [Act.put, List.setIfInBounds_toArray, List.set_cons_succ, List.set_cons_zero])))
  refine Mix.lex_nil ?_
  go_wp2_with (first | (refine Mix.wpList_guarded rfl ?_; (repeat' (first | (refine Mix.lex_quiet0 rfl rfl rfl ?_; intro K hK; go_big_quiet_op; go_big_quiet_on) | (refine Mix.lex_quietG rfl rfl rfl (by with_reducible rfl) rfl rfl ?_; intro K hK; go_big_quiet_op; go_big_quiet_on) | ((first | refine Mix.lex_skipT rfl rfl rfl (by with_reducible rfl) ?_ | refine Mix.lex_skipF rfl rfl rfl (by with_reducible rfl) ?_ | refine Mix.lex_skipU rfl rfl rfl (by with_reducible rfl) ?_); simp only [Act.put, List.setIfInBounds_toArray, List.set_cons_succ, List.set_cons_zero]) | (refine Mix.lex_part rfl rfl rfl rfl (fun hq => ?_) (fun hq => ?_) <;> (fail_if_success (guard_hyp hq :ₛ true = true)) <;> (fail_if_success (guard_hyp hq :ₛ false = false)) <;> first | (exfalso; cases hq; done) | (exfalso; simp only [decide_eq_true_eq, decide_eq_false_iff_not, beq_iff_eq, beq_eq_false_iff_ne, ne_eq, Int.not_lt, Int.not_le] at hq; omega) | simp only [Act.put, List.setIfInBounds_toArray, List.set_cons_succ, List.set_cons_zero]))); all_goals (refine Mix.lex_nil ?_)) | (refine Mix.wp_still (by kernel_rfl) (by kernel_rfl) ?_; (repeat' (first | (refine Mix.lex_quiet0 rfl rfl rfl ?_; intro K hK; go_big_quiet_op; go_big_quiet_on) | (refine Mix.lex_quietG rfl rfl rfl (by with_reducible rfl) rfl rfl ?_; intro K hK; go_big_quiet_op; go_big_quiet_on) | ((first | refine Mix.lex_skipT rfl rfl rfl (by with_reducible rfl) ?_ | refine Mix.lex_skipF rfl rfl rfl (by with_reducible rfl) ?_ | refine Mix.lex_skipU rfl rfl rfl (by with_reducible rfl) ?_); simp only [Act.put, List.setIfInBounds_toArray, List.set_cons_succ, List.set_cons_zero]) | (refine Mix.lex_part rfl rfl rfl rfl (fun hq => ?_) (fun hq => ?_) <;> (fail_if_success (guard_hyp hq :ₛ true = true)) <;> (fail_if_success (guard_hyp hq :ₛ false = false)) <;> first | (exfalso; cases hq; done) | (exfalso; simp only [decide_eq_true_eq, decide_eq_false_iff_not, beq_iff_eq, beq_eq_false_iff_ne, ne_eq, Int.not_lt, Int.not_le] at hq; omega) | simp only [Act.put, List.setIfInBounds_toArray, List.set_cons_succ, List.set_cons_zero]))); all_goals (refine Mix.lex_nil ?_)))
  go_ret
  exact ⟨rfl, ξ4.h⟩
end Go.Proofs.YtnplipljfmnjgaaDoor
