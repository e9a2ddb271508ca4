/- TopRow: the walk. -/
import Derived.Test.YtgdabmfdfgdlkaaTrL
import Derived.Test.YtgdabmfdfgdlkaaSaid
import Derived.Test.YtgdabmfdfgdlkaaTree
namespace Go.Proofs.Ytgdabmfdfgdlkaa
open Go Go.RowKit
theorem SlR.two {α : Type} (T : Flat α) (w : World) (t : TypeId) (x y : α) {cs : Array Value} (hcs : (T.enc x ++ T.enc y).toArray = cs) : SlR T (w.alloc (.cells cs t)) (some ⟨w.heap.size, 0, none⟩) 2 [x, y] := by
  subst hcs
  refine ⟨rfl, fun _ => ⟨w.heap.size, 0, rfl, by simp, fun k z hk j u hu => ?_⟩⟩
  have hj : j < T.size := by rw [← T.len z]; exact (List.getElem?_eq_some_iff.1 hu).1
  rw [(Cs.new w t _).cell, List.getElem?_toArray]
  match k, hk with
  | 0, hk =>
    injection hk with hk
    subst hk
    rw [Nat.zero_mul, Nat.add_zero, Nat.zero_add, List.getElem?_append_left (by rw [T.len]; exact hj)]
    exact hu
  | 1, hk =>
    injection hk with hk
    subst hk
    rw [Nat.one_mul, Nat.zero_add, List.getElem?_append_right (by rw [T.len]; omega), T.len, Nat.add_sub_cancel_left]
    exact hu
theorem SlR.sub1 {w : World} {b o n : Nat} {xs : List Ch} (h : SlR chF w (some ⟨b, o, none⟩) n xs) {k : Nat} {x : Ch} (hx : xs[k]? = some x) : SlR chF w (some ⟨b, o + k * 3, none⟩) 1 [x] := by
  have hk : k < n := by rw [← h.1]; exact (List.getElem?_eq_some_iff.1 hx).1
  obtain ⟨b', o', he, hb, hc⟩ := h.2 (by omega)
  injection he with he
  injection he with e1 e2
  subst e1; subst e2
  refine ⟨rfl, fun _ => ⟨b, o + k * 3, rfl, hb, fun j y hj i u hu => ?_⟩⟩
  match j, hj with
  | 0, hj =>
    injection hj with hj
    subst hj
    have := hc k x hx i u hu
    rw [show chF.size = 3 from rfl] at this ⊢
    rw [Nat.zero_mul, Nat.add_zero]
    exact this
set_option maxRecDepth 100000 in
set_option maxHeartbeats 8000000 in
theorem TopRow_all {w : World} (hm : Ml w) {A : Option Addr} {n c : Nat} {xs : List Ch} (h1 : SlR chF w A n xs) (hnc : n ≤ c) (hcm : c ≤ maxLen) (a b : Ch) (ha1 : a.1.length ≤ maxLen) (ha2 : a.2.1.length ≤ maxLen) (hb1 : b.1.length ≤ maxLen) (hb2 : b.2.1.length ≤ maxLen) :
    Calls Try.prog 7 #[.slice A n c, .agg #[S a.1, S a.2.1, .bool a.2.2], .agg #[S b.1, S b.2.1, .bool b.2.2]] w fun e w' => e = .returned (.bool true) ∧ Ext w w' := by
  obtain ⟨w1, hw1⟩ : ∃ w1, w1 = w.alloc (.cells #[S a.1, S a.2.1, .bool a.2.2] 61) := ⟨_, rfl⟩
  obtain ⟨w0, hw0⟩ : ∃ w0, w0 = w1.alloc (.cells #[S b.1, S b.2.1, .bool b.2.2] 61) := ⟨_, rfl⟩
  have hx1 : Ext w w1 := by rw [hw1]; exact (Only.refl No w).alloc _
  have hx2 : Ext w1 w0 := by rw [hw0]; exact (Only.refl No w1).alloc _
  obtain ⟨qa, hqa⟩ : ∃ q, q = w.heap.size := ⟨_, rfl⟩
  obtain ⟨qb, hqb⟩ : ∃ q, q = w.heap.size + 1 := ⟨_, rfl⟩
  have hs1 : w1.heap.size = w.heap.size + 1 := by rw [hw1]; simp
  have hA : Cs w0 qa 61 #[S a.1, S a.2.1, .bool a.2.2] := by
    have : Cs w1 qa 61 #[S a.1, S a.2.1, .bool a.2.2] := by rw [hw1, hqa]; exact Cs.new _ _ _
    exact this.keep hx2 id
  have hB : Cs w0 qb 61 #[S b.1, S b.2.1, .bool b.2.2] := by rw [hw0, hqb, ← hs1]; exact Cs.new _ _ _
  have a0 : ∀ ξ : X w0 No, ξ.v.cell? ⟨qa, 0, none⟩ = some (S a.1) := hA.x id 0
  have a1 : ∀ ξ : X w0 No, ξ.v.cell? ⟨qa, 1, none⟩ = some (S a.2.1) := hA.x id 1
  have a2 : ∀ ξ : X w0 No, ξ.v.cell? ⟨qa, 2, none⟩ = some (.bool a.2.2) := hA.x id 2
  have b0 : ∀ ξ : X w0 No, ξ.v.cell? ⟨qb, 0, none⟩ = some (S b.1) := hB.x id 0
  have b1 : ∀ ξ : X w0 No, ξ.v.cell? ⟨qb, 1, none⟩ = some (S b.2.1) := hB.x id 1
  have b2 : ∀ ξ : X w0 No, ξ.v.cell? ⟨qb, 2, none⟩ = some (.bool b.2.2) := hB.x id 2
  have HX0 := Lib.hid (hx1.then_ext hx2)
  have HM := Lib.hid (hm.ext HX0.out)
  have HS1 : Hid (SlR chF w0 A n xs) := h1.ext HX0.out
  have HL1 : Hid (∀ v, Ext w0 v → Calls Try.prog 32 #[.slice A n c, .int .i64 30] v fun e w' => e = .returned (.bool (lightC 30 xs)) ∧ Ext v w') := fun v hv => LightChanges_c (HS1.out.ext hv) 30 (by omega)
  have HL2 : Hid (∀ v : World, Calls Try.prog 32 #[.slice (some ⟨v.heap.size, 0, none⟩) 2 2, .int .i64 2] (v.alloc (.cells #[S a.1, S a.2.1, .bool a.2.2, S b.1, S b.2.1, .bool b.2.2] 61)) fun e w' => e = .returned (.bool (lightC 2 [a, b])) ∧ Ext (v.alloc (.cells #[S a.1, S a.2.1, .bool a.2.2, S b.1, S b.2.1, .bool b.2.2] 61)) w') := fun v => LightChanges_c (SlR.two chF v 61 a b rfl) 2 (by omega)
  have HF1 : Hid (lightC 30 xs = true → n ≤ 30 ∧ ∀ x ∈ xs, x.1.length ≤ 20 ∧ x.2.1.length ≤ 400) := fun h => ⟨by have := (lightC_facts h).1; rw [h1.1] at this; exact this, (lightC_facts h).2⟩
  have HF2 : Hid (lightC 2 [a, b] = true → (a.1.length ≤ 20 ∧ a.2.1.length ≤ 400) ∧ b.1.length ≤ 20 ∧ b.2.1.length ≤ 400) := fun h => ⟨(lightC_facts h).2 a List.mem_cons_self, (lightC_facts h).2 b (List.mem_cons_of_mem _ List.mem_cons_self)⟩
  generalize lightC 30 xs = l1 at HL1 HF1
  generalize lightC 2 [a, b] = l2 at HL2 HF2
  have hb : Hid (∀ v, Ext w0 v → Calls Try.prog 33 #[.agg #[S [102, 47, 97], S [], .bool true]] v fun e w' => e = .returned (.tuple #[S [1, 3, 102, 47, 97], .nilIface]) ∧ Ext v w') := fun v hv =>
    Bytes_row ([102, 47, 97], [], true) (by decide) (by decide) (HM.out.ext hv)
  unfold maxLen at ha1 ha2 hb1 hb2 hcm
  clear hA hB h1 hm hx1 hx2
  go_enter Try.func7, Try.ntmps7
  go_upto_region 1 with fail
  rw [← hw1, ← hw0, ← hqb, ← hqa]
  clear hw0 hw1 hqa hqb hs1
  go_wp2_with (first | (refine Mix.wpList_guarded rfl ?_; (repeat' (first | (refine Mix.lex_quiet0 rfl rfl rfl ?_; intro K hK; go_big_quiet_op; go_big_quiet_on) | (refine Mix.lex_quietG rfl rfl rfl (by with_reducible rfl) rfl rfl ?_; intro K hK; go_big_quiet_op; go_big_quiet_on) | ((first | refine Mix.lex_skipT rfl rfl rfl (by with_reducible rfl) ?_ | refine Mix.lex_skipF rfl rfl rfl (by with_reducible rfl) ?_ | refine Mix.lex_skipU rfl rfl rfl (by with_reducible rfl) ?_); simp only [Act.put, List.setIfInBounds_toArray, List.set_cons_succ, List.set_cons_zero]) | (refine Mix.lex_part rfl rfl rfl rfl (fun hq => ?_) (fun hq => ?_) <;> (fail_if_success (guard_hyp hq :ₛ true = true)) <;> (fail_if_success (guard_hyp hq :ₛ false = false)) <;> first | (exfalso; cases hq; done) | (exfalso; simp only [decide_eq_true_eq, decide_eq_false_iff_not, beq_iff_eq, beq_eq_false_iff_ne, ne_eq, Int.not_lt, Int.not_le] at hq; omega) | simp only [Act.put, List.setIfInBounds_toArray, List.set_cons_succ, List.set_cons_zero]))); all_goals (refine Mix.lex_nil ?_)) | (refine Mix.wp_still (by kernel_rfl) (by kernel_rfl) ?_; (repeat' (first | (refine Mix.lex_quiet0 rfl rfl rfl ?_; intro K hK; go_big_quiet_op; go_big_quiet_on) | (refine Mix.lex_quietG rfl rfl rfl (by with_reducible rfl) rfl rfl ?_; intro K hK; go_big_quiet_op; go_big_quiet_on) | ((first | refine Mix.lex_skipT rfl rfl rfl (by with_reducible rfl) ?_ | refine Mix.lex_skipF rfl rfl rfl (by with_reducible rfl) ?_ | refine Mix.lex_skipU rfl rfl rfl (by with_reducible rfl) ?_); simp only [Act.put, List.setIfInBounds_toArray, List.set_cons_succ, List.set_cons_zero]) | (refine Mix.lex_part rfl rfl rfl rfl (fun hq => ?_) (fun hq => ?_) <;> (fail_if_success (guard_hyp hq :ₛ true = true)) <;> (fail_if_success (guard_hyp hq :ₛ false = false)) <;> first | (exfalso; cases hq; done) | (exfalso; simp only [decide_eq_true_eq, decide_eq_false_iff_not, beq_iff_eq, beq_eq_false_iff_ne, ne_eq, Int.not_lt, Int.not_le] at hq; omega) | simp only [Act.put, List.setIfInBounds_toArray, List.set_cons_succ, List.set_cons_zero]))); all_goals (refine Mix.lex_nil ?_)))
  refine (hb.out _ (Only.refl _ _)).mono ?_; rintro e uu ⟨rfl, hu⟩; obtain ⟨ξ1, hnew⟩ : ∃ ξ : X w0 No, ξ.v = uu := ⟨⟨uu, (X.here w0 No).h.then_ext hu⟩, rfl⟩; subst hnew; have Hξ1 := Lib.hid hu; clear hu
  clear hb
  go_upto_region 4 with fail
  refine Mix.wp_plain [1, 6, 7, 12, 17] (Cl w0 No) (Cl.of ξ1.h) ?_
  (repeat' (first | (refine Mix.lex_quiet0 rfl rfl rfl ?_; intro K hK; go_big_quiet_op; go_big_quiet_on) | (refine Mix.lex_quietG rfl rfl rfl (by with_reducible rfl) rfl rfl ?_; intro K hK; go_big_quiet_op; go_big_quiet_on) | ((first | refine Mix.lex_skipT rfl rfl rfl (by with_reducible rfl) ?_ | refine Mix.lex_skipF rfl rfl rfl (by with_reducible rfl) ?_ | refine Mix.lex_skipU rfl rfl rfl (by with_reducible rfl) ?_); simp only [Act.put, List.setIfInBounds_toArray, List.set_cons_succ, List.set_cons_zero]) | (refine Mix.lex_part rfl rfl rfl rfl (fun hq => ?_) (fun hq => ?_) <;> (fail_if_success (guard_hyp hq :ₛ true = true)) <;> (fail_if_success (guard_hyp hq :ₛ false = false)) <;> first | (exfalso; cases hq; done) | (exfalso; simp only [decide_eq_true_eq, decide_eq_false_iff_not, beq_iff_eq, beq_eq_false_iff_ne, ne_eq, Int.not_lt, Int.not_le] at hq; omega) | simp only [Act.put, List.setIfInBounds_toArray, List.set_cons_succ, List.set_cons_zero])))
  cases l1 with
  | false =>
    ((first | refine Mix.lex_goes0 rfl rfl ?_ | refine Mix.lex_goesG rfl rfl rfl (by with_reducible rfl) rfl ?_); intro K hK; go_simp); refine (HL1.out _ ξ1.h).mono ?_; rintro e uu ⟨rfl, hu⟩; obtain ⟨ξ2, hnew⟩ : ∃ ξ : X w0 No, ξ.v = uu := ⟨⟨uu, ξ1.h.then_ext hu⟩, rfl⟩; subst hnew; have Hξ2 := Lib.hid hu; refine ⟨_, rfl, hK _ _ (fun _ => ⟨ξ2, rfl⟩) ?_⟩; clear hK K hu; simp only [Act.put, List.setIfInBounds_toArray, List.set_cons_succ, List.set_cons_zero]; (repeat' (first | (refine Mix.lex_quiet0 rfl rfl rfl ?_; intro K hK; go_big_quiet_op; go_big_quiet_on) | (refine Mix.lex_quietG rfl rfl rfl (by with_reducible rfl) rfl rfl ?_; intro K hK; go_big_quiet_op; go_big_quiet_on) | ((first | refine Mix.lex_skipT rfl rfl rfl (by with_reducible rfl) ?_ | refine Mix.lex_skipF rfl rfl rfl (by with_reducible rfl) ?_ | refine Mix.lex_skipU rfl rfl rfl (by with_reducible rfl) ?_); simp only [Act.put, List.setIfInBounds_toArray, List.set_cons_succ, List.set_cons_zero]) | (refine Mix.lex_part rfl rfl rfl rfl (fun hq => ?_) (fun hq => ?_) <;> (fail_if_success (guard_hyp hq :ₛ true = true)) <;> (fail_if_success (guard_hyp hq :ₛ false = false)) <;> first | (exfalso; cases hq; done) | (exfalso; simp only [decide_eq_true_eq, decide_eq_false_iff_not, beq_iff_eq, beq_eq_false_iff_ne, ne_eq, Int.not_lt, Int.not_le] at hq; omega) | simp only [Act.put, List.setIfInBounds_toArray, List.set_cons_succ, List.set_cons_zero])))
    refine Mix.lex_nil ?_
    go_wp2_with (first | (refine Mix.wpList_guarded rfl ?_; (repeat' (first | (refine Mix.lex_quiet0 rfl rfl rfl ?_; intro K hK; go_big_quiet_op; go_big_quiet_on) | (refine Mix.lex_quietG rfl rfl rfl (by with_reducible rfl) rfl rfl ?_; intro K hK; go_big_quiet_op; go_big_quiet_on) | ((first | refine Mix.lex_skipT rfl rfl rfl (by with_reducible rfl) ?_ | refine Mix.lex_skipF rfl rfl rfl (by with_reducible rfl) ?_ | refine Mix.lex_skipU rfl rfl rfl (by with_reducible rfl) ?_); simp only [Act.put, List.setIfInBounds_toArray, List.set_cons_succ, List.set_cons_zero]) | (refine Mix.lex_part rfl rfl rfl rfl (fun hq => ?_) (fun hq => ?_) <;> (fail_if_success (guard_hyp hq :ₛ true = true)) <;> (fail_if_success (guard_hyp hq :ₛ false = false)) <;> first | (exfalso; cases hq; done) | (exfalso; simp only [decide_eq_true_eq, decide_eq_false_iff_not, beq_iff_eq, beq_eq_false_iff_ne, ne_eq, Int.not_lt, Int.not_le] at hq; omega) | simp only [Act.put, List.setIfInBounds_toArray, List.set_cons_succ, List.set_cons_zero]))); all_goals (refine Mix.lex_nil ?_)) | (refine Mix.wp_still (by kernel_rfl) (by kernel_rfl) ?_; (repeat' (first | (refine Mix.lex_quiet0 rfl rfl rfl ?_; intro K hK; go_big_quiet_op; go_big_quiet_on) | (refine Mix.lex_quietG rfl rfl rfl (by with_reducible rfl) rfl rfl ?_; intro K hK; go_big_quiet_op; go_big_quiet_on) | ((first | refine Mix.lex_skipT rfl rfl rfl (by with_reducible rfl) ?_ | refine Mix.lex_skipF rfl rfl rfl (by with_reducible rfl) ?_ | refine Mix.lex_skipU rfl rfl rfl (by with_reducible rfl) ?_); simp only [Act.put, List.setIfInBounds_toArray, List.set_cons_succ, List.set_cons_zero]) | (refine Mix.lex_part rfl rfl rfl rfl (fun hq => ?_) (fun hq => ?_) <;> (fail_if_success (guard_hyp hq :ₛ true = true)) <;> (fail_if_success (guard_hyp hq :ₛ false = false)) <;> first | (exfalso; cases hq; done) | (exfalso; simp only [decide_eq_true_eq, decide_eq_false_iff_not, beq_iff_eq, beq_eq_false_iff_ne, ne_eq, Int.not_lt, Int.not_le] at hq; omega) | simp only [Act.put, List.setIfInBounds_toArray, List.set_cons_succ, List.set_cons_zero]))); all_goals (refine Mix.lex_nil ?_)))
    go_ret
    exact ⟨rfl, HX0.out.then_ext ξ2.h⟩
  | true =>
  ((first | refine Mix.lex_goes0 rfl rfl ?_ | refine Mix.lex_goesG rfl rfl rfl (by with_reducible rfl) rfl ?_); intro K hK; go_simp); refine (HL1.out _ ξ1.h).mono ?_; rintro e uu ⟨rfl, hu⟩; obtain ⟨ξ2, hnew⟩ : ∃ ξ : X w0 No, ξ.v = uu := ⟨⟨uu, ξ1.h.then_ext hu⟩, rfl⟩; subst hnew; have Hξ2 := Lib.hid hu; refine ⟨_, rfl, hK _ _ (fun _ => ⟨ξ2, rfl⟩) ?_⟩; clear hK K hu; simp only [Act.put, List.setIfInBounds_toArray, List.set_cons_succ, List.set_cons_zero]; (repeat' (first | (refine Mix.lex_quiet0 rfl rfl rfl ?_; intro K hK; go_big_quiet_op; go_big_quiet_on) | (refine Mix.lex_quietG rfl rfl rfl (by with_reducible rfl) rfl rfl ?_; intro K hK; go_big_quiet_op; go_big_quiet_on) | ((first | refine Mix.lex_skipT rfl rfl rfl (by with_reducible rfl) ?_ | refine Mix.lex_skipF rfl rfl rfl (by with_reducible rfl) ?_ | refine Mix.lex_skipU rfl rfl rfl (by with_reducible rfl) ?_); simp only [Act.put, List.setIfInBounds_toArray, List.set_cons_succ, List.set_cons_zero]) | (refine Mix.lex_part rfl rfl rfl rfl (fun hq => ?_) (fun hq => ?_) <;> (fail_if_success (guard_hyp hq :ₛ true = true)) <;> (fail_if_success (guard_hyp hq :ₛ false = false)) <;> first | (exfalso; cases hq; done) | (exfalso; simp only [decide_eq_true_eq, decide_eq_false_iff_not, beq_iff_eq, beq_eq_false_iff_ne, ne_eq, Int.not_lt, Int.not_le] at hq; omega) | simp only [Act.put, List.setIfInBounds_toArray, List.set_cons_succ, List.set_cons_zero])))
  ((first | refine Mix.lex_goes0 rfl rfl ?_ | refine Mix.lex_goesG rfl rfl rfl (by with_reducible rfl) rfl ?_); intro K hK; go_simp)
  refine hK _ _ (fun _ => Cl.of (ξ2.h.alloc _)) ?_
  clear hK K
  simp only [Act.put, List.setIfInBounds_toArray, List.set_cons_succ, List.set_cons_zero]
  cases l2 with
  | false =>
    ((first | refine Mix.lex_goes0 rfl rfl ?_ | refine Mix.lex_goesG rfl rfl rfl (by with_reducible rfl) rfl ?_); intro K hK; go_simp)
    refine (HL2.out _).mono ?_
    rintro e uu ⟨rfl, hu⟩
    obtain ⟨ξ3, hnew⟩ : ∃ ξ : X w0 No, ξ.v = uu := ⟨⟨uu, (ξ2.h.alloc _).then_ext hu⟩, rfl⟩
    subst hnew
    refine ⟨_, rfl, hK _ _ (fun _ => ⟨ξ3, rfl⟩) ?_⟩
    clear hK K hu
    simp only [Act.put, List.setIfInBounds_toArray, List.set_cons_succ, List.set_cons_zero]
    (repeat' (first | (refine Mix.lex_quiet0 rfl rfl rfl ?_; intro K hK; go_big_quiet_op; go_big_quiet_on) | (refine Mix.lex_quietG rfl rfl rfl (by with_reducible rfl) rfl rfl ?_; intro K hK; go_big_quiet_op; go_big_quiet_on) | ((first | refine Mix.lex_skipT rfl rfl rfl (by with_reducible rfl) ?_ | refine Mix.lex_skipF rfl rfl rfl (by with_reducible rfl) ?_ | refine Mix.lex_skipU rfl rfl rfl (by with_reducible rfl) ?_); simp only [Act.put, List.setIfInBounds_toArray, List.set_cons_succ, List.set_cons_zero]) | (refine Mix.lex_part rfl rfl rfl rfl (fun hq => ?_) (fun hq => ?_) <;> (fail_if_success (guard_hyp hq :ₛ true = true)) <;> (fail_if_success (guard_hyp hq :ₛ false = false)) <;> first | (exfalso; cases hq; done) | (exfalso; simp only [decide_eq_true_eq, decide_eq_false_iff_not, beq_iff_eq, beq_eq_false_iff_ne, ne_eq, Int.not_lt, Int.not_le] at hq; omega) | simp only [Act.put, List.setIfInBounds_toArray, List.set_cons_succ, List.set_cons_zero])))
    refine Mix.lex_nil ?_
    go_wp2_with (first | (refine Mix.wpList_guarded rfl ?_; (repeat' (first | (refine Mix.lex_quiet0 rfl rfl rfl ?_; intro K hK; go_big_quiet_op; go_big_quiet_on) | (refine Mix.lex_quietG rfl rfl rfl (by with_reducible rfl) rfl rfl ?_; intro K hK; go_big_quiet_op; go_big_quiet_on) | ((first | refine Mix.lex_skipT rfl rfl rfl (by with_reducible rfl) ?_ | refine Mix.lex_skipF rfl rfl rfl (by with_reducible rfl) ?_ | refine Mix.lex_skipU rfl rfl rfl (by with_reducible rfl) ?_); simp only [Act.put, List.setIfInBounds_toArray, List.set_cons_succ, List.set_cons_zero]) | (refine Mix.lex_part rfl rfl rfl rfl (fun hq => ?_) (fun hq => ?_) <;> (fail_if_success (guard_hyp hq :ₛ true = true)) <;> (fail_if_success (guard_hyp hq :ₛ false = false)) <;> first | (exfalso; cases hq; done) | (exfalso; simp only [decide_eq_true_eq, decide_eq_false_iff_not, beq_iff_eq, beq_eq_false_iff_ne, ne_eq, Int.not_lt, Int.not_le] at hq; omega) | simp only [Act.put, List.setIfInBounds_toArray, List.set_cons_succ, List.set_cons_zero]))); all_goals (refine Mix.lex_nil ?_)) | (refine Mix.wp_still (by kernel_rfl) (by kernel_rfl) ?_; (repeat' (first | (refine Mix.lex_quiet0 rfl rfl rfl ?_; intro K hK; go_big_quiet_op; go_big_quiet_on) | (refine Mix.lex_quietG rfl rfl rfl (by with_reducible rfl) rfl rfl ?_; intro K hK; go_big_quiet_op; go_big_quiet_on) | ((first | refine Mix.lex_skipT rfl rfl rfl (by with_reducible rfl) ?_ | refine Mix.lex_skipF rfl rfl rfl (by with_reducible rfl) ?_ | refine Mix.lex_skipU rfl rfl rfl (by with_reducible rfl) ?_); simp only [Act.put, List.setIfInBounds_toArray, List.set_cons_succ, List.set_cons_zero]) | (refine Mix.lex_part rfl rfl rfl rfl (fun hq => ?_) (fun hq => ?_) <;> (fail_if_success (guard_hyp hq :ₛ true = true)) <;> (fail_if_success (guard_hyp hq :ₛ false = false)) <;> first | (exfalso; cases hq; done) | (exfalso; simp only [decide_eq_true_eq, decide_eq_false_iff_not, beq_iff_eq, beq_eq_false_iff_ne, ne_eq, Int.not_lt, Int.not_le] at hq; omega) | simp only [Act.put, List.setIfInBounds_toArray, List.set_cons_succ, List.set_cons_zero]))); all_goals (refine Mix.lex_nil ?_)))
    go_ret
    exact ⟨rfl, HX0.out.then_ext ξ3.h⟩
  | true =>
  ((first | refine Mix.lex_goes0 rfl rfl ?_ | refine Mix.lex_goesG rfl rfl rfl (by with_reducible rfl) rfl ?_); intro K hK; go_simp)
  refine (HL2.out _).mono ?_
  rintro e uu ⟨rfl, hu⟩
  obtain ⟨ξ3, hnew⟩ : ∃ ξ : X w0 No, ξ.v = uu := ⟨⟨uu, (ξ2.h.alloc _).then_ext hu⟩, rfl⟩
  subst hnew
  refine ⟨_, rfl, hK _ _ (fun _ => ⟨ξ3, rfl⟩) ?_⟩
  clear hK K hu
  simp only [Act.put, List.setIfInBounds_toArray, List.set_cons_succ, List.set_cons_zero]
  (repeat' (first | (refine Mix.lex_quiet0 rfl rfl rfl ?_; intro K hK; go_big_quiet_op; go_big_quiet_on) | (refine Mix.lex_quietG rfl rfl rfl (by with_reducible rfl) rfl rfl ?_; intro K hK; go_big_quiet_op; go_big_quiet_on) | ((first | refine Mix.lex_skipT rfl rfl rfl (by with_reducible rfl) ?_ | refine Mix.lex_skipF rfl rfl rfl (by with_reducible rfl) ?_ | refine Mix.lex_skipU rfl rfl rfl (by with_reducible rfl) ?_); simp only [Act.put, List.setIfInBounds_toArray, List.set_cons_succ, List.set_cons_zero]) | (refine Mix.lex_part rfl rfl rfl rfl (fun hq => ?_) (fun hq => ?_) <;> (fail_if_success (guard_hyp hq :ₛ true = true)) <;> (fail_if_success (guard_hyp hq :ₛ false = false)) <;> first | (exfalso; cases hq; done) | (exfalso; simp only [decide_eq_true_eq, decide_eq_false_iff_not, beq_iff_eq, beq_eq_false_iff_ne, ne_eq, Int.not_lt, Int.not_le] at hq; omega) | simp only [Act.put, List.setIfInBounds_toArray, List.set_cons_succ, List.set_cons_zero])))
  obtain ⟨hn30, hxs⟩ := HF1.out rfl
  obtain ⟨⟨ka, va⟩, kb, vb⟩ := HF2.out rfl
  have HXs := Lib.hid hxs
  clear HF1 HF2 HL1 HL2 hxs
  have CA : Hid (∀ v, Ext w0 v → Calls Try.prog 37 #[.agg #[S a.1, S a.2.1, .bool a.2.2]] v fun e w' => e = .returned (errV (chBad a)) ∧ Ext v w') := fun v hv => Check_row a (by omega) (by omega) (HM.out.ext hv)
  have CB : Hid (∀ v, Ext w0 v → Calls Try.prog 37 #[.agg #[S b.1, S b.2.1, .bool b.2.2]] v fun e w' => e = .returned (errV (chBad b)) ∧ Ext v w') := fun v hv => Check_row b (by omega) (by omega) (HM.out.ext hv)
  by_cases hba : chBad a = 0
  · have HBA := Lib.hid hba
    rw [hba, errV_zero] at CA
    clear hba
    ((first | refine Mix.lex_goes0 rfl rfl ?_ | refine Mix.lex_goesG rfl rfl rfl (by with_reducible rfl) rfl ?_); intro K hK; go_simp); refine (CA.out _ ξ3.h).mono ?_; rintro e uu ⟨rfl, hu⟩; obtain ⟨ξ4, hnew⟩ : ∃ ξ : X w0 No, ξ.v = uu := ⟨⟨uu, ξ3.h.then_ext hu⟩, rfl⟩; subst hnew; have Hξ4 := Lib.hid hu; refine ⟨_, rfl, hK _ _ (fun _ => ⟨ξ4, rfl⟩) ?_⟩; clear hK K hu; simp only [Act.put, List.setIfInBounds_toArray, List.set_cons_succ, List.set_cons_zero]; (repeat' (first | (refine Mix.lex_quiet0 rfl rfl rfl ?_; intro K hK; go_big_quiet_op; go_big_quiet_on) | (refine Mix.lex_quietG rfl rfl rfl (by with_reducible rfl) rfl rfl ?_; intro K hK; go_big_quiet_op; go_big_quiet_on) | ((first | refine Mix.lex_skipT rfl rfl rfl (by with_reducible rfl) ?_ | refine Mix.lex_skipF rfl rfl rfl (by with_reducible rfl) ?_ | refine Mix.lex_skipU rfl rfl rfl (by with_reducible rfl) ?_); simp only [Act.put, List.setIfInBounds_toArray, List.set_cons_succ, List.set_cons_zero]) | (refine Mix.lex_part rfl rfl rfl rfl (fun hq => ?_) (fun hq => ?_) <;> (fail_if_success (guard_hyp hq :ₛ true = true)) <;> (fail_if_success (guard_hyp hq :ₛ false = false)) <;> first | (exfalso; cases hq; done) | (exfalso; simp only [decide_eq_true_eq, decide_eq_false_iff_not, beq_iff_eq, beq_eq_false_iff_ne, ne_eq, Int.not_lt, Int.not_le] at hq; omega) | simp only [Act.put, List.setIfInBounds_toArray, List.set_cons_succ, List.set_cons_zero])))
    by_cases hbb : chBad b = 0
    · have HBB := Lib.hid hbb
      rw [hbb, errV_zero] at CB
      clear hbb
      ((first | refine Mix.lex_goes0 rfl rfl ?_ | refine Mix.lex_goesG rfl rfl rfl (by with_reducible rfl) rfl ?_); intro K hK; go_simp); refine (CB.out _ ξ4.h).mono ?_; rintro e uu ⟨rfl, hu⟩; obtain ⟨ξ5, hnew⟩ : ∃ ξ : X w0 No, ξ.v = uu := ⟨⟨uu, ξ4.h.then_ext hu⟩, rfl⟩; subst hnew; have Hξ5 := Lib.hid hu; refine ⟨_, rfl, hK _ _ (fun _ => ⟨ξ5, rfl⟩) ?_⟩; clear hK K hu; simp only [Act.put, List.setIfInBounds_toArray, List.set_cons_succ, List.set_cons_zero]; (repeat' (first | (refine Mix.lex_quiet0 rfl rfl rfl ?_; intro K hK; go_big_quiet_op; go_big_quiet_on) | (refine Mix.lex_quietG rfl rfl rfl (by with_reducible rfl) rfl rfl ?_; intro K hK; go_big_quiet_op; go_big_quiet_on) | ((first | refine Mix.lex_skipT rfl rfl rfl (by with_reducible rfl) ?_ | refine Mix.lex_skipF rfl rfl rfl (by with_reducible rfl) ?_ | refine Mix.lex_skipU rfl rfl rfl (by with_reducible rfl) ?_); simp only [Act.put, List.setIfInBounds_toArray, List.set_cons_succ, List.set_cons_zero]) | (refine Mix.lex_part rfl rfl rfl rfl (fun hq => ?_) (fun hq => ?_) <;> (fail_if_success (guard_hyp hq :ₛ true = true)) <;> (fail_if_success (guard_hyp hq :ₛ false = false)) <;> first | (exfalso; cases hq; done) | (exfalso; simp only [decide_eq_true_eq, decide_eq_false_iff_not, beq_iff_eq, beq_eq_false_iff_ne, ne_eq, Int.not_lt, Int.not_le] at hq; omega) | simp only [Act.put, List.setIfInBounds_toArray, List.set_cons_succ, List.set_cons_zero])))
      refine Mix.lex_nil ?_
      obtain ⟨ht, ho, hf⟩ := chOf_enc HBA.out
      have hk10 := chBad_key HBA.out
      have C1 : Hid (∀ v, Ext w0 v → Calls Try.prog 33 #[.agg #[S a.1, S a.2.1, .bool a.2.2]] v fun e w' => e = .returned (.tuple #[S (chEnc a), .nilIface]) ∧ Ext v w') := fun v hv => by
        have := Bytes_row a (by omega) (by omega) (HM.out.ext hv)
        rw [HBA.out, ht, errV_zero] at this
        exact this
      have C2 : Hid (∀ v, Ext w0 v → Calls Try.prog 35 #[S (chEnc a)] v fun e w' => e = .returned (.tuple #[.agg #[S a.1, S a.2.1, .bool a.2.2], .nilIface]) ∧ Ext v w') := fun v hv => by
        have := Parse_row (chEnc a) (by rw [chEnc_len]; omega) (HM.out.ext hv)
        rw [ho, hf, errV_zero] at this
        exact this
      generalize chEnc a = ea at C1 C2
      clear ht ho hf hk10 CA CB
      go_wp2_with (first | (refine Mix.wpList_guarded rfl ?_; (repeat' (first | (refine Mix.lex_quiet0 rfl rfl rfl ?_; intro K hK; go_big_quiet_op; go_big_quiet_on) | (refine Mix.lex_quietG rfl rfl rfl (by with_reducible rfl) rfl rfl ?_; intro K hK; go_big_quiet_op; go_big_quiet_on) | ((first | refine Mix.lex_skipT rfl rfl rfl (by with_reducible rfl) ?_ | refine Mix.lex_skipF rfl rfl rfl (by with_reducible rfl) ?_ | refine Mix.lex_skipU rfl rfl rfl (by with_reducible rfl) ?_); simp only [Act.put, List.setIfInBounds_toArray, List.set_cons_succ, List.set_cons_zero]) | (refine Mix.lex_part rfl rfl rfl rfl (fun hq => ?_) (fun hq => ?_) <;> (fail_if_success (guard_hyp hq :ₛ true = true)) <;> (fail_if_success (guard_hyp hq :ₛ false = false)) <;> first | (exfalso; cases hq; done) | (exfalso; simp only [decide_eq_true_eq, decide_eq_false_iff_not, beq_iff_eq, beq_eq_false_iff_ne, ne_eq, Int.not_lt, Int.not_le] at hq; omega) | simp only [Act.put, List.setIfInBounds_toArray, List.set_cons_succ, List.set_cons_zero]))); all_goals (refine Mix.lex_nil ?_)) | (refine Mix.wp_still (by kernel_rfl) (by kernel_rfl) ?_; (repeat' (first | (refine Mix.lex_quiet0 rfl rfl rfl ?_; intro K hK; go_big_quiet_op; go_big_quiet_on) | (refine Mix.lex_quietG rfl rfl rfl (by with_reducible rfl) rfl rfl ?_; intro K hK; go_big_quiet_op; go_big_quiet_on) | ((first | refine Mix.lex_skipT rfl rfl rfl (by with_reducible rfl) ?_ | refine Mix.lex_skipF rfl rfl rfl (by with_reducible rfl) ?_ | refine Mix.lex_skipU rfl rfl rfl (by with_reducible rfl) ?_); simp only [Act.put, List.setIfInBounds_toArray, List.set_cons_succ, List.set_cons_zero]) | (refine Mix.lex_part rfl rfl rfl rfl (fun hq => ?_) (fun hq => ?_) <;> (fail_if_success (guard_hyp hq :ₛ true = true)) <;> (fail_if_success (guard_hyp hq :ₛ false = false)) <;> first | (exfalso; cases hq; done) | (exfalso; simp only [decide_eq_true_eq, decide_eq_false_iff_not, beq_iff_eq, beq_eq_false_iff_ne, ne_eq, Int.not_lt, Int.not_le] at hq; omega) | simp only [Act.put, List.setIfInBounds_toArray, List.set_cons_succ, List.set_cons_zero]))); all_goals (refine Mix.lex_nil ?_)))
      refine (C1.out _ ξ5.h).mono ?_; rintro e uu ⟨rfl, hu⟩; obtain ⟨ξ6, hnew⟩ : ∃ ξ : X w0 No, ξ.v = uu := ⟨⟨uu, ξ5.h.then_ext hu⟩, rfl⟩; subst hnew; have Hξ6 := Lib.hid hu; clear hu
      go_wp2_with (first | (refine Mix.wpList_guarded rfl ?_; (repeat' (first | (refine Mix.lex_quiet0 rfl rfl rfl ?_; intro K hK; go_big_quiet_op; go_big_quiet_on) | (refine Mix.lex_quietG rfl rfl rfl (by with_reducible rfl) rfl rfl ?_; intro K hK; go_big_quiet_op; go_big_quiet_on) | ((first | refine Mix.lex_skipT rfl rfl rfl (by with_reducible rfl) ?_ | refine Mix.lex_skipF rfl rfl rfl (by with_reducible rfl) ?_ | refine Mix.lex_skipU rfl rfl rfl (by with_reducible rfl) ?_); simp only [Act.put, List.setIfInBounds_toArray, List.set_cons_succ, List.set_cons_zero]) | (refine Mix.lex_part rfl rfl rfl rfl (fun hq => ?_) (fun hq => ?_) <;> (fail_if_success (guard_hyp hq :ₛ true = true)) <;> (fail_if_success (guard_hyp hq :ₛ false = false)) <;> first | (exfalso; cases hq; done) | (exfalso; simp only [decide_eq_true_eq, decide_eq_false_iff_not, beq_iff_eq, beq_eq_false_iff_ne, ne_eq, Int.not_lt, Int.not_le] at hq; omega) | simp only [Act.put, List.setIfInBounds_toArray, List.set_cons_succ, List.set_cons_zero]))); all_goals (refine Mix.lex_nil ?_)) | (refine Mix.wp_still (by kernel_rfl) (by kernel_rfl) ?_; (repeat' (first | (refine Mix.lex_quiet0 rfl rfl rfl ?_; intro K hK; go_big_quiet_op; go_big_quiet_on) | (refine Mix.lex_quietG rfl rfl rfl (by with_reducible rfl) rfl rfl ?_; intro K hK; go_big_quiet_op; go_big_quiet_on) | ((first | refine Mix.lex_skipT rfl rfl rfl (by with_reducible rfl) ?_ | refine Mix.lex_skipF rfl rfl rfl (by with_reducible rfl) ?_ | refine Mix.lex_skipU rfl rfl rfl (by with_reducible rfl) ?_); simp only [Act.put, List.setIfInBounds_toArray, List.set_cons_succ, List.set_cons_zero]) | (refine Mix.lex_part rfl rfl rfl rfl (fun hq => ?_) (fun hq => ?_) <;> (fail_if_success (guard_hyp hq :ₛ true = true)) <;> (fail_if_success (guard_hyp hq :ₛ false = false)) <;> first | (exfalso; cases hq; done) | (exfalso; simp only [decide_eq_true_eq, decide_eq_false_iff_not, beq_iff_eq, beq_eq_false_iff_ne, ne_eq, Int.not_lt, Int.not_le] at hq; omega) | simp only [Act.put, List.setIfInBounds_toArray, List.set_cons_succ, List.set_cons_zero]))); all_goals (refine Mix.lex_nil ?_)))
      refine (C2.out _ ξ6.h).mono ?_; rintro e uu ⟨rfl, hu⟩; obtain ⟨ξ7, hnew⟩ : ∃ ξ : X w0 No, ξ.v = uu := ⟨⟨uu, ξ6.h.then_ext hu⟩, rfl⟩; subst hnew; have Hξ7 := Lib.hid hu; clear hu
      clear C1 C2
      go_upto_region 10 with fail
      obtain ⟨q1, hq1⟩ : ∃ q, q = ξ7.v.heap.size := ⟨_, rfl⟩
      obtain ⟨v1, hv1⟩ : ∃ v, v = ξ7.v.alloc (.cells #[S a.1, S a.2.1, .bool a.2.2] 61) := ⟨_, rfl⟩
      have K1 : Hid (Cs v1 q1 61 #[S a.1, S a.2.1, .bool a.2.2]) := by rw [hv1, hq1]; exact Cs.new _ _ _
      have X1 : Hid (Ext w0 v1) := by rw [hv1]; exact ξ7.h.alloc _
      rw [← hv1, ← hq1]
      clear hv1 hq1
      obtain ⟨ζ1, rfl⟩ : ∃ ξ : X w0 No, v1 = ξ.v := ⟨⟨v1, X1.out⟩, rfl⟩
      have k0 : ζ1.v.cell? ⟨q1, 0, none⟩ = some (S a.1) := K1.out.cell 0
      have k1 : ζ1.v.cell? ⟨q1, 1, none⟩ = some (S a.2.1) := K1.out.cell 1
      have k2 : ζ1.v.cell? ⟨q1, 2, none⟩ = some (.bool a.2.2) := K1.out.cell 2
      have hself := chEqB_self a.1 a.2.1 a.2.2
      go_wp2_with (first | (refine Mix.wpList_guarded rfl ?_; (repeat' (first | (refine Mix.lex_quiet0 rfl rfl rfl ?_; intro K hK; go_big_quiet_op; go_big_quiet_on) | (refine Mix.lex_quietG rfl rfl rfl (by with_reducible rfl) rfl rfl ?_; intro K hK; go_big_quiet_op; go_big_quiet_on) | ((first | refine Mix.lex_skipT rfl rfl rfl (by with_reducible rfl) ?_ | refine Mix.lex_skipF rfl rfl rfl (by with_reducible rfl) ?_ | refine Mix.lex_skipU rfl rfl rfl (by with_reducible rfl) ?_); simp only [Act.put, List.setIfInBounds_toArray, List.set_cons_succ, List.set_cons_zero]) | (refine Mix.lex_part rfl rfl rfl rfl (fun hq => ?_) (fun hq => ?_) <;> (fail_if_success (guard_hyp hq :ₛ true = true)) <;> (fail_if_success (guard_hyp hq :ₛ false = false)) <;> first | (exfalso; cases hq; done) | (exfalso; simp only [decide_eq_true_eq, decide_eq_false_iff_not, beq_iff_eq, beq_eq_false_iff_ne, ne_eq, Int.not_lt, Int.not_le] at hq; omega) | simp only [Act.put, List.setIfInBounds_toArray, List.set_cons_succ, List.set_cons_zero]))); all_goals (refine Mix.lex_nil ?_)) | (refine Mix.wp_still (by kernel_rfl) (by kernel_rfl) ?_; (repeat' (first | (refine Mix.lex_quiet0 rfl rfl rfl ?_; intro K hK; go_big_quiet_op; go_big_quiet_on) | (refine Mix.lex_quietG rfl rfl rfl (by with_reducible rfl) rfl rfl ?_; intro K hK; go_big_quiet_op; go_big_quiet_on) | ((first | refine Mix.lex_skipT rfl rfl rfl (by with_reducible rfl) ?_ | refine Mix.lex_skipF rfl rfl rfl (by with_reducible rfl) ?_ | refine Mix.lex_skipU rfl rfl rfl (by with_reducible rfl) ?_); simp only [Act.put, List.setIfInBounds_toArray, List.set_cons_succ, List.set_cons_zero]) | (refine Mix.lex_part rfl rfl rfl rfl (fun hq => ?_) (fun hq => ?_) <;> (fail_if_success (guard_hyp hq :ₛ true = true)) <;> (fail_if_success (guard_hyp hq :ₛ false = false)) <;> first | (exfalso; cases hq; done) | (exfalso; simp only [decide_eq_true_eq, decide_eq_false_iff_not, beq_iff_eq, beq_eq_false_iff_ne, ne_eq, Int.not_lt, Int.not_le] at hq; omega) | simp only [Act.put, List.setIfInBounds_toArray, List.set_cons_succ, List.set_cons_zero]))); all_goals (refine Mix.lex_nil ?_)))
      clear k0 k1 k2 hself K1 X1
      go_loopw [10, 11] (fun l i wr => ∃ k : Nat, k ≤ n ∧ i = .int .i64 k ∧ ∃ L A' c', L = applyL [] (xs.take k) ∧ l = .slice A' L.length c' ∧ L.length ≤ k ∧ Rise ck L ∧ Fresh chF 61 w0 wr A' c' L) (fun _ i _ => n - (intOf i).toNat)
      case atStart => exact ⟨0, Nat.zero_le _, rfl, [], none, 0, rfl, rfl, Nat.le_refl _, by simp [Rise], Fresh.nil _ _ _ _ ζ1.h⟩
      case round =>
        obtain ⟨k, hk, rfl, L, A1, c1, hL, rfl, hLn, hLr, hf⟩ := hrel
        have F1 := Lib.hid hf
        have HL := Lib.hid hL
        have HLr := Lib.hid hLr
        obtain ⟨ξ, rfl⟩ : ∃ ξ : X w0 No, wr = ξ.v := ⟨⟨wr, hf.ext⟩, rfl⟩
        clear hf hL hLr
        by_cases hlt : k < n
        · obtain ⟨b', o, y, rfl, hy, d0, d1, d2⟩ := chs_get HS1.out hlt
          have hyl := HXs.out y (List.mem_of_getElem? hy)
          have HY := Lib.hid hy
          have CY : Hid (∀ v, Ext w0 v → Calls Try.prog 37 #[.agg #[S y.1, S y.2.1, .bool y.2.2]] v fun e w' => e = .returned (errV (chBad y)) ∧ Ext v w') := fun v hv => Check_row y (by omega) (by omega) (HM.out.ext hv)
          clear hy hyl
          by_cases hby : chBad y = 0
          · rw [hby, errV_zero] at CY
            clear hby
            have hkc : k < c := by omega
            have HAp : Hid (∀ v (hv : Ext ξ.v v), Calls Try.prog 41 #[.slice A1 L.length c1, .slice (some ⟨b', o + k * 3, none⟩) 1 (c - k)] v fun e w' => ∃ A' c', e = .returned (.slice A' (apply1 L y).length c') ∧ Fresh chF 61 v w' A' c' (apply1 L y)) := fun v hv =>
              Apply_c ((F1.out.row (by decide)).ext hv) (SlR.sub1 (HS1.out.ext (ξ.h.then_ext hv)) HY.out) (by omega) (by omega) HLr.out
            have HSn : Hid (applyL [] (xs.take (k + 1)) = apply1 L y) := by rw [Hid, applyL_snoc _ _ HY.out, HL.out]
            have hl1 := apply1_len L y
            have HR1 := Lib.hid (apply1_rise HLr.out y)
            generalize apply1 L y = L2 at HAp HSn hl1 HR1
            go_wp2_with (first | (refine Mix.wpList_guarded rfl ?_; (repeat' (first | (refine Mix.lex_quiet0 rfl rfl rfl ?_; intro K hK; go_big_quiet_op; go_big_quiet_on) | (refine Mix.lex_quietG rfl rfl rfl (by with_reducible rfl) rfl rfl ?_; intro K hK; go_big_quiet_op; go_big_quiet_on) | ((first | refine Mix.lex_skipT rfl rfl rfl (by with_reducible rfl) ?_ | refine Mix.lex_skipF rfl rfl rfl (by with_reducible rfl) ?_ | refine Mix.lex_skipU rfl rfl rfl (by with_reducible rfl) ?_); simp only [Act.put, List.setIfInBounds_toArray, List.set_cons_succ, List.set_cons_zero]) | (refine Mix.lex_part rfl rfl rfl rfl (fun hq => ?_) (fun hq => ?_) <;> (fail_if_success (guard_hyp hq :ₛ true = true)) <;> (fail_if_success (guard_hyp hq :ₛ false = false)) <;> first | (exfalso; cases hq; done) | (exfalso; simp only [decide_eq_true_eq, decide_eq_false_iff_not, beq_iff_eq, beq_eq_false_iff_ne, ne_eq, Int.not_lt, Int.not_le] at hq; omega) | simp only [Act.put, List.setIfInBounds_toArray, List.set_cons_succ, List.set_cons_zero]))); all_goals (refine Mix.lex_nil ?_)) | (refine Mix.wp_still (by kernel_rfl) (by kernel_rfl) ?_; (repeat' (first | (refine Mix.lex_quiet0 rfl rfl rfl ?_; intro K hK; go_big_quiet_op; go_big_quiet_on) | (refine Mix.lex_quietG rfl rfl rfl (by with_reducible rfl) rfl rfl ?_; intro K hK; go_big_quiet_op; go_big_quiet_on) | ((first | refine Mix.lex_skipT rfl rfl rfl (by with_reducible rfl) ?_ | refine Mix.lex_skipF rfl rfl rfl (by with_reducible rfl) ?_ | refine Mix.lex_skipU rfl rfl rfl (by with_reducible rfl) ?_); simp only [Act.put, List.setIfInBounds_toArray, List.set_cons_succ, List.set_cons_zero]) | (refine Mix.lex_part rfl rfl rfl rfl (fun hq => ?_) (fun hq => ?_) <;> (fail_if_success (guard_hyp hq :ₛ true = true)) <;> (fail_if_success (guard_hyp hq :ₛ false = false)) <;> first | (exfalso; cases hq; done) | (exfalso; simp only [decide_eq_true_eq, decide_eq_false_iff_not, beq_iff_eq, beq_eq_false_iff_ne, ne_eq, Int.not_lt, Int.not_le] at hq; omega) | simp only [Act.put, List.setIfInBounds_toArray, List.set_cons_succ, List.set_cons_zero]))); all_goals (refine Mix.lex_nil ?_)))
            refine (CY.out _ ξ.h).mono ?_; rintro e uu ⟨rfl, hu⟩; obtain ⟨ξ9, hnew⟩ : ∃ ξ : X w0 No, ξ.v = uu := ⟨⟨uu, ξ.h.then_ext hu⟩, rfl⟩; subst hnew; have Hξ9 := Lib.hid hu; clear hu
            clear CY
            go_wp2_with (first | (refine Mix.wpList_guarded rfl ?_; (repeat' (first | (refine Mix.lex_quiet0 rfl rfl rfl ?_; intro K hK; go_big_quiet_op; go_big_quiet_on) | (refine Mix.lex_quietG rfl rfl rfl (by with_reducible rfl) rfl rfl ?_; intro K hK; go_big_quiet_op; go_big_quiet_on) | ((first | refine Mix.lex_skipT rfl rfl rfl (by with_reducible rfl) ?_ | refine Mix.lex_skipF rfl rfl rfl (by with_reducible rfl) ?_ | refine Mix.lex_skipU rfl rfl rfl (by with_reducible rfl) ?_); simp only [Act.put, List.setIfInBounds_toArray, List.set_cons_succ, List.set_cons_zero]) | (refine Mix.lex_part rfl rfl rfl rfl (fun hq => ?_) (fun hq => ?_) <;> (fail_if_success (guard_hyp hq :ₛ true = true)) <;> (fail_if_success (guard_hyp hq :ₛ false = false)) <;> first | (exfalso; cases hq; done) | (exfalso; simp only [decide_eq_true_eq, decide_eq_false_iff_not, beq_iff_eq, beq_eq_false_iff_ne, ne_eq, Int.not_lt, Int.not_le] at hq; omega) | simp only [Act.put, List.setIfInBounds_toArray, List.set_cons_succ, List.set_cons_zero]))); all_goals (refine Mix.lex_nil ?_)) | (refine Mix.wp_still (by kernel_rfl) (by kernel_rfl) ?_; (repeat' (first | (refine Mix.lex_quiet0 rfl rfl rfl ?_; intro K hK; go_big_quiet_op; go_big_quiet_on) | (refine Mix.lex_quietG rfl rfl rfl (by with_reducible rfl) rfl rfl ?_; intro K hK; go_big_quiet_op; go_big_quiet_on) | ((first | refine Mix.lex_skipT rfl rfl rfl (by with_reducible rfl) ?_ | refine Mix.lex_skipF rfl rfl rfl (by with_reducible rfl) ?_ | refine Mix.lex_skipU rfl rfl rfl (by with_reducible rfl) ?_); simp only [Act.put, List.setIfInBounds_toArray, List.set_cons_succ, List.set_cons_zero]) | (refine Mix.lex_part rfl rfl rfl rfl (fun hq => ?_) (fun hq => ?_) <;> (fail_if_success (guard_hyp hq :ₛ true = true)) <;> (fail_if_success (guard_hyp hq :ₛ false = false)) <;> first | (exfalso; cases hq; done) | (exfalso; simp only [decide_eq_true_eq, decide_eq_false_iff_not, beq_iff_eq, beq_eq_false_iff_ne, ne_eq, Int.not_lt, Int.not_le] at hq; omega) | simp only [Act.put, List.setIfInBounds_toArray, List.set_cons_succ, List.set_cons_zero]))); all_goals (refine Mix.lex_nil ?_)))
            refine (HAp.out _ Hξ9.out).mono ?_
            rintro e u ⟨A2, c2, rfl, hf⟩
            have F2 := Lib.hid (hf.from ξ9.h)
            obtain ⟨ζ2, rfl⟩ : ∃ ξ : X w0 No, u = ξ.v := ⟨⟨u, F2.out.ext⟩, rfl⟩
            clear hf HAp
            go_wp2_with (first | (refine Mix.wpList_guarded rfl ?_; (repeat' (first | (refine Mix.lex_quiet0 rfl rfl rfl ?_; intro K hK; go_big_quiet_op; go_big_quiet_on) | (refine Mix.lex_quietG rfl rfl rfl (by with_reducible rfl) rfl rfl ?_; intro K hK; go_big_quiet_op; go_big_quiet_on) | ((first | refine Mix.lex_skipT rfl rfl rfl (by with_reducible rfl) ?_ | refine Mix.lex_skipF rfl rfl rfl (by with_reducible rfl) ?_ | refine Mix.lex_skipU rfl rfl rfl (by with_reducible rfl) ?_); simp only [Act.put, List.setIfInBounds_toArray, List.set_cons_succ, List.set_cons_zero]) | (refine Mix.lex_part rfl rfl rfl rfl (fun hq => ?_) (fun hq => ?_) <;> (fail_if_success (guard_hyp hq :ₛ true = true)) <;> (fail_if_success (guard_hyp hq :ₛ false = false)) <;> first | (exfalso; cases hq; done) | (exfalso; simp only [decide_eq_true_eq, decide_eq_false_iff_not, beq_iff_eq, beq_eq_false_iff_ne, ne_eq, Int.not_lt, Int.not_le] at hq; omega) | simp only [Act.put, List.setIfInBounds_toArray, List.set_cons_succ, List.set_cons_zero]))); all_goals (refine Mix.lex_nil ?_)) | (refine Mix.wp_still (by kernel_rfl) (by kernel_rfl) ?_; (repeat' (first | (refine Mix.lex_quiet0 rfl rfl rfl ?_; intro K hK; go_big_quiet_op; go_big_quiet_on) | (refine Mix.lex_quietG rfl rfl rfl (by with_reducible rfl) rfl rfl ?_; intro K hK; go_big_quiet_op; go_big_quiet_on) | ((first | refine Mix.lex_skipT rfl rfl rfl (by with_reducible rfl) ?_ | refine Mix.lex_skipF rfl rfl rfl (by with_reducible rfl) ?_ | refine Mix.lex_skipU rfl rfl rfl (by with_reducible rfl) ?_); simp only [Act.put, List.setIfInBounds_toArray, List.set_cons_succ, List.set_cons_zero]) | (refine Mix.lex_part rfl rfl rfl rfl (fun hq => ?_) (fun hq => ?_) <;> (fail_if_success (guard_hyp hq :ₛ true = true)) <;> (fail_if_success (guard_hyp hq :ₛ false = false)) <;> first | (exfalso; cases hq; done) | (exfalso; simp only [decide_eq_true_eq, decide_eq_false_iff_not, beq_iff_eq, beq_eq_false_iff_ne, ne_eq, Int.not_lt, Int.not_le] at hq; omega) | simp only [Act.put, List.setIfInBounds_toArray, List.set_cons_succ, List.set_cons_zero]))); all_goals (refine Mix.lex_nil ?_)))
            go_roundw
            case rel => exact ⟨k + 1, by omega, by go_num, L2, A2, c2, HSn.out.symm, rfl, by omega, HR1.out, F2.out⟩
            case measure => simp [intOf]; omega
          · rw [errV_pos hby] at CY
            clear hby
            go_wp2_with (first | (refine Mix.wpList_guarded rfl ?_; (repeat' (first | (refine Mix.lex_quiet0 rfl rfl rfl ?_; intro K hK; go_big_quiet_op; go_big_quiet_on) | (refine Mix.lex_quietG rfl rfl rfl (by with_reducible rfl) rfl rfl ?_; intro K hK; go_big_quiet_op; go_big_quiet_on) | ((first | refine Mix.lex_skipT rfl rfl rfl (by with_reducible rfl) ?_ | refine Mix.lex_skipF rfl rfl rfl (by with_reducible rfl) ?_ | refine Mix.lex_skipU rfl rfl rfl (by with_reducible rfl) ?_); simp only [Act.put, List.setIfInBounds_toArray, List.set_cons_succ, List.set_cons_zero]) | (refine Mix.lex_part rfl rfl rfl rfl (fun hq => ?_) (fun hq => ?_) <;> (fail_if_success (guard_hyp hq :ₛ true = true)) <;> (fail_if_success (guard_hyp hq :ₛ false = false)) <;> first | (exfalso; cases hq; done) | (exfalso; simp only [decide_eq_true_eq, decide_eq_false_iff_not, beq_iff_eq, beq_eq_false_iff_ne, ne_eq, Int.not_lt, Int.not_le] at hq; omega) | simp only [Act.put, List.setIfInBounds_toArray, List.set_cons_succ, List.set_cons_zero]))); all_goals (refine Mix.lex_nil ?_)) | (refine Mix.wp_still (by kernel_rfl) (by kernel_rfl) ?_; (repeat' (first | (refine Mix.lex_quiet0 rfl rfl rfl ?_; intro K hK; go_big_quiet_op; go_big_quiet_on) | (refine Mix.lex_quietG rfl rfl rfl (by with_reducible rfl) rfl rfl ?_; intro K hK; go_big_quiet_op; go_big_quiet_on) | ((first | refine Mix.lex_skipT rfl rfl rfl (by with_reducible rfl) ?_ | refine Mix.lex_skipF rfl rfl rfl (by with_reducible rfl) ?_ | refine Mix.lex_skipU rfl rfl rfl (by with_reducible rfl) ?_); simp only [Act.put, List.setIfInBounds_toArray, List.set_cons_succ, List.set_cons_zero]) | (refine Mix.lex_part rfl rfl rfl rfl (fun hq => ?_) (fun hq => ?_) <;> (fail_if_success (guard_hyp hq :ₛ true = true)) <;> (fail_if_success (guard_hyp hq :ₛ false = false)) <;> first | (exfalso; cases hq; done) | (exfalso; simp only [decide_eq_true_eq, decide_eq_false_iff_not, beq_iff_eq, beq_eq_false_iff_ne, ne_eq, Int.not_lt, Int.not_le] at hq; omega) | simp only [Act.put, List.setIfInBounds_toArray, List.set_cons_succ, List.set_cons_zero]))); all_goals (refine Mix.lex_nil ?_)))
            refine (CY.out _ ξ.h).mono ?_; rintro e uu ⟨rfl, hu⟩; obtain ⟨ξ9, hnew⟩ : ∃ ξ : X w0 No, ξ.v = uu := ⟨⟨uu, ξ.h.then_ext hu⟩, rfl⟩; subst hnew; have Hξ9 := Lib.hid hu; clear hu
            go_wp2_with (first | (refine Mix.wpList_guarded rfl ?_; (repeat' (first | (refine Mix.lex_quiet0 rfl rfl rfl ?_; intro K hK; go_big_quiet_op; go_big_quiet_on) | (refine Mix.lex_quietG rfl rfl rfl (by with_reducible rfl) rfl rfl ?_; intro K hK; go_big_quiet_op; go_big_quiet_on) | ((first | refine Mix.lex_skipT rfl rfl rfl (by with_reducible rfl) ?_ | refine Mix.lex_skipF rfl rfl rfl (by with_reducible rfl) ?_ | refine Mix.lex_skipU rfl rfl rfl (by with_reducible rfl) ?_); simp only [Act.put, List.setIfInBounds_toArray, List.set_cons_succ, List.set_cons_zero]) | (refine Mix.lex_part rfl rfl rfl rfl (fun hq => ?_) (fun hq => ?_) <;> (fail_if_success (guard_hyp hq :ₛ true = true)) <;> (fail_if_success (guard_hyp hq :ₛ false = false)) <;> first | (exfalso; cases hq; done) | (exfalso; simp only [decide_eq_true_eq, decide_eq_false_iff_not, beq_iff_eq, beq_eq_false_iff_ne, ne_eq, Int.not_lt, Int.not_le] at hq; omega) | simp only [Act.put, List.setIfInBounds_toArray, List.set_cons_succ, List.set_cons_zero]))); all_goals (refine Mix.lex_nil ?_)) | (refine Mix.wp_still (by kernel_rfl) (by kernel_rfl) ?_; (repeat' (first | (refine Mix.lex_quiet0 rfl rfl rfl ?_; intro K hK; go_big_quiet_op; go_big_quiet_on) | (refine Mix.lex_quietG rfl rfl rfl (by with_reducible rfl) rfl rfl ?_; intro K hK; go_big_quiet_op; go_big_quiet_on) | ((first | refine Mix.lex_skipT rfl rfl rfl (by with_reducible rfl) ?_ | refine Mix.lex_skipF rfl rfl rfl (by with_reducible rfl) ?_ | refine Mix.lex_skipU rfl rfl rfl (by with_reducible rfl) ?_); simp only [Act.put, List.setIfInBounds_toArray, List.set_cons_succ, List.set_cons_zero]) | (refine Mix.lex_part rfl rfl rfl rfl (fun hq => ?_) (fun hq => ?_) <;> (fail_if_success (guard_hyp hq :ₛ true = true)) <;> (fail_if_success (guard_hyp hq :ₛ false = false)) <;> first | (exfalso; cases hq; done) | (exfalso; simp only [decide_eq_true_eq, decide_eq_false_iff_not, beq_iff_eq, beq_eq_false_iff_ne, ne_eq, Int.not_lt, Int.not_le] at hq; omega) | simp only [Act.put, List.setIfInBounds_toArray, List.set_cons_succ, List.set_cons_zero]))); all_goals (refine Mix.lex_nil ?_)))
            go_ret
            exact ⟨rfl, HX0.out.then_ext ξ9.h⟩
        · have hL := HL.out
          rw [List.take_of_length_le (by rw [HS1.out.1]; omega)] at hL
          have HAp : Hid (∀ v, Ext w0 v → Calls Try.prog 41 #[.slice none 0 0, .slice A n c] v fun e w' => ∃ A' c', e = .returned (.slice A' L.length c') ∧ Fresh chF 61 v w' A' c' L) := fun v hv => by
            have := Apply_c (c := 0) (SlR.none_ (T := chF) (w := v)) (HS1.out.ext hv) (by omega) (by omega) (by simp [Rise]) (d := c)
            rw [← hL] at this
            exact this
          clear hL HL
          go_upto_region 19 with fail
          refine Mix.wp_plain [1, 3] (Cl w0 No) (Cl.of ξ.h) ?_
          (repeat' (first | (refine Mix.lex_quiet0 rfl rfl rfl ?_; intro K hK; go_big_quiet_op; go_big_quiet_on) | (refine Mix.lex_quietG rfl rfl rfl (by with_reducible rfl) rfl rfl ?_; intro K hK; go_big_quiet_op; go_big_quiet_on) | ((first | refine Mix.lex_skipT rfl rfl rfl (by with_reducible rfl) ?_ | refine Mix.lex_skipF rfl rfl rfl (by with_reducible rfl) ?_ | refine Mix.lex_skipU rfl rfl rfl (by with_reducible rfl) ?_); simp only [Act.put, List.setIfInBounds_toArray, List.set_cons_succ, List.set_cons_zero]) | (refine Mix.lex_part rfl rfl rfl rfl (fun hq => ?_) (fun hq => ?_) <;> (fail_if_success (guard_hyp hq :ₛ true = true)) <;> (fail_if_success (guard_hyp hq :ₛ false = false)) <;> first | (exfalso; cases hq; done) | (exfalso; simp only [decide_eq_true_eq, decide_eq_false_iff_not, beq_iff_eq, beq_eq_false_iff_ne, ne_eq, Int.not_lt, Int.not_le] at hq; omega) | simp only [Act.put, List.setIfInBounds_toArray, List.set_cons_succ, List.set_cons_zero])))
          ((first | refine Mix.lex_goes0 rfl rfl ?_ | refine Mix.lex_goesG rfl rfl rfl (by with_reducible rfl) rfl ?_); intro K hK; go_simp); refine (HAp.out _ ξ.h).mono ?_; rintro e uu ⟨A2, c2, rfl, hf⟩; obtain ⟨ξ8, hnew⟩ : ∃ ξ : X w0 No, ξ.v = uu := ⟨⟨uu, ξ.h.then_ext hf.ext⟩, rfl⟩; subst hnew; have Hξ8 := Lib.hid hf.ext; have F2 := Lib.hid hf; refine ⟨_, rfl, hK _ _ (fun _ => ⟨ξ8, rfl⟩) ?_⟩; clear hK K hf; simp only [Act.put, List.setIfInBounds_toArray, List.set_cons_succ, List.set_cons_zero]; (repeat' (first | (refine Mix.lex_quiet0 rfl rfl rfl ?_; intro K hK; go_big_quiet_op; go_big_quiet_on) | (refine Mix.lex_quietG rfl rfl rfl (by with_reducible rfl) rfl rfl ?_; intro K hK; go_big_quiet_op; go_big_quiet_on) | ((first | refine Mix.lex_skipT rfl rfl rfl (by with_reducible rfl) ?_ | refine Mix.lex_skipF rfl rfl rfl (by with_reducible rfl) ?_ | refine Mix.lex_skipU rfl rfl rfl (by with_reducible rfl) ?_); simp only [Act.put, List.setIfInBounds_toArray, List.set_cons_succ, List.set_cons_zero]) | (refine Mix.lex_part rfl rfl rfl rfl (fun hq => ?_) (fun hq => ?_) <;> (fail_if_success (guard_hyp hq :ₛ true = true)) <;> (fail_if_success (guard_hyp hq :ₛ false = false)) <;> first | (exfalso; cases hq; done) | (exfalso; simp only [decide_eq_true_eq, decide_eq_false_iff_not, beq_iff_eq, beq_eq_false_iff_ne, ne_eq, Int.not_lt, Int.not_le] at hq; omega) | simp only [Act.put, List.setIfInBounds_toArray, List.set_cons_succ, List.set_cons_zero])))
          have HSm := Lib.hid (SameChanges_c (c := c2) (d := c1) (F2.out.row (by decide)) ((F1.out.on Hξ8.out).row (by decide)) (by omega) (by omega))
          rw [decide_eq_true (rfl : L = L)] at HSm
          ((first | refine Mix.lex_goes0 rfl rfl ?_ | refine Mix.lex_goesG rfl rfl rfl (by with_reducible rfl) rfl ?_); intro K hK; go_simp); refine (HSm.out).mono ?_; rintro e uu ⟨rfl, hu⟩; obtain ⟨ξ9, hnew⟩ : ∃ ξ : X w0 No, ξ.v = uu := ⟨⟨uu, ξ8.h.then_ext hu⟩, rfl⟩; subst hnew; have Hξ9 := Lib.hid hu; refine ⟨_, rfl, hK _ _ (fun _ => ⟨ξ9, rfl⟩) ?_⟩; clear hK K hu; simp only [Act.put, List.setIfInBounds_toArray, List.set_cons_succ, List.set_cons_zero]; (repeat' (first | (refine Mix.lex_quiet0 rfl rfl rfl ?_; intro K hK; go_big_quiet_op; go_big_quiet_on) | (refine Mix.lex_quietG rfl rfl rfl (by with_reducible rfl) rfl rfl ?_; intro K hK; go_big_quiet_op; go_big_quiet_on) | ((first | refine Mix.lex_skipT rfl rfl rfl (by with_reducible rfl) ?_ | refine Mix.lex_skipF rfl rfl rfl (by with_reducible rfl) ?_ | refine Mix.lex_skipU rfl rfl rfl (by with_reducible rfl) ?_); simp only [Act.put, List.setIfInBounds_toArray, List.set_cons_succ, List.set_cons_zero]) | (refine Mix.lex_part rfl rfl rfl rfl (fun hq => ?_) (fun hq => ?_) <;> (fail_if_success (guard_hyp hq :ₛ true = true)) <;> (fail_if_success (guard_hyp hq :ₛ false = false)) <;> first | (exfalso; cases hq; done) | (exfalso; simp only [decide_eq_true_eq, decide_eq_false_iff_not, beq_iff_eq, beq_eq_false_iff_ne, ne_eq, Int.not_lt, Int.not_le] at hq; omega) | simp only [Act.put, List.setIfInBounds_toArray, List.set_cons_succ, List.set_cons_zero])))
          refine Mix.lex_nil ?_
          have F3 := Lib.hid ((F1.out.on Hξ8.out).on Hξ9.out)
          clear HAp HSm F2 F1
          obtain ⟨e, he⟩ : ∃ e, (a.1 == b.1) = e := ⟨_, rfl⟩
          cases e with
          | true =>
            go_upto_region 22 with fail
            obtain ⟨ys1, hys1⟩ : ∃ y, y = [a, b] := ⟨_, rfl⟩
            obtain ⟨ys2, hys2⟩ : ∃ y, y = [b] := ⟨_, rfl⟩
            obtain ⟨cs1, hcs1⟩ : ∃ y : Array Value, y = #[S a.1, S a.2.1, .bool a.2.2, S b.1, S b.2.1, .bool b.2.2] := ⟨_, rfl⟩
            obtain ⟨cs2, hcs2⟩ : ∃ y : Array Value, y = #[S b.1, S b.2.1, .bool b.2.2] := ⟨_, rfl⟩
            have HT1 : Hid (∀ v : World, SlR chF (v.alloc (.cells cs1 61)) (some ⟨v.heap.size, 0, none⟩) ys1.length ys1) := fun v => by rw [hcs1, hys1]; exact SlR.two chF v 61 a b rfl
            have HT2 : Hid (∀ v : World, SlR chF (v.alloc (.cells cs2 61)) (some ⟨v.heap.size, 0, none⟩) ys2.length ys2) := fun v => by rw [hcs2, hys2]; exact SlR.one chF v 61 b rfl
            have HEq : applyL L ys2 = applyL L [a, b] := by rw [hys2]; exact apply_last HLr.out a b (by simpa using he) |>.symm
            have hZl := applyL_len L [a, b]
            obtain ⟨Z, hZ⟩ : ∃ Z, Z = applyL L [a, b] := ⟨_, rfl⟩
            rw [← hZ] at HEq hZl
            have hZl2 : Z.length ≤ 10000 := by simp at hZl; omega
            have HA1 : Hid (∀ v q (_ : Fresh chF 61 w0 v A1 c1 L) (_ : SlR chF v (some ⟨q, 0, none⟩) ys1.length ys1), Calls Try.prog 41 #[.slice A1 L.length c1, .slice (some ⟨q, 0, none⟩) 2 2] v fun e w' => ∃ A' c', e = .returned (.slice A' Z.length c') ∧ Fresh chF 61 v w' A' c' Z) := fun v q hf hs => by
              rw [hys1] at hs
              rw [hZ]
              exact Apply_c (hf.row (by decide)) hs (by omega) (by decide) HLr.out
            have HA2 : Hid (∀ v q (_ : Fresh chF 61 w0 v A1 c1 L) (_ : SlR chF v (some ⟨q, 0, none⟩) ys2.length ys2), Calls Try.prog 41 #[.slice A1 L.length c1, .slice (some ⟨q, 0, none⟩) 1 1] v fun e w' => ∃ A' c', e = .returned (.slice A' Z.length c') ∧ Fresh chF 61 v w' A' c' Z) := fun v q hf hs => by
              rw [← HEq]
              rw [hys2] at hs ⊢
              exact Apply_c (hf.row (by decide)) hs (by omega) (by decide) HLr.out
            clear HEq hZ hZl
            refine Mix.wp_tree 11 [3, 4, 7, 8, 9] (Cl w0 No) rfl (by kernel_rfl) (by kernel_rfl) (Cl.of ξ9.h.drew) ?_
            obtain ⟨μ0, hμ0⟩ : ∃ μ0 : X w0 No, μ0.v = ξ9.v.drew := ⟨⟨_, ξ9.h.drew⟩, rfl⟩
            have F4 : Hid (Fresh chF 61 w0 μ0.v A1 c1 L) := by rw [hμ0]; exact F3.out.on (Only.refl No _).drew
            rw [← hμ0]
            clear hμ0
            (refine Mix.tree_quiet (i := 0) (by kernel_rfl) rfl rfl rfl rfl ?_; intro K hK; go_big_quiet_op; go_big_quiet_on); (refine Mix.tree_quiet (i := 1) (by kernel_rfl) rfl rfl rfl rfl ?_; intro K hK; go_big_quiet_op; go_big_quiet_on); (refine Mix.tree_quiet (i := 2) (by kernel_rfl) rfl rfl rfl rfl ?_; intro K hK; go_big_quiet_op; go_big_quiet_on); (refine Mix.tree_quiet (i := 5) (by kernel_rfl) rfl rfl rfl rfl ?_; intro K hK; go_big_quiet_op; go_big_quiet_on); (refine Mix.tree_quiet (i := 6) (by kernel_rfl) rfl rfl rfl rfl ?_; intro K hK; go_big_quiet_op; go_big_quiet_on)
            refine Mix.tree_two (i := 3) (j := 7) (by kernel_rfl) (by kernel_rfl) rfl rfl rfl rfl rfl rfl ?_ ?_
            · intro K hK
              go_simp
              obtain ⟨p1, hp1⟩ : ∃ q, q = μ0.v.heap.size := ⟨_, rfl⟩
              obtain ⟨u1, hu1⟩ : ∃ v, v = μ0.v.alloc (.cells cs1 61) := ⟨_, rfl⟩
              have T1 : Hid (SlR chF u1 (some ⟨p1, 0, none⟩) ys1.length ys1) := by rw [hu1, hp1]; exact HT1.out μ0.v
              have x1 : Hid (Ext μ0.v u1) := by rw [hu1]; exact (Only.refl No _).alloc _
              have y1 : Hid (Ext w0 u1) := μ0.h.then_ext x1.out
              refine hK _ _ ?cl ?_
              case cl => exact Cl.of (μ0.h.alloc _)
              clear hK K
              simp only [Act.put, List.setIfInBounds_toArray, List.set_cons_succ, List.set_cons_zero]
              rw [hcs1] at hu1
              rw [← hu1, ← hp1]
              clear hu1 hp1
              obtain ⟨ν1, rfl⟩ : ∃ ξ : X w0 No, u1 = ξ.v := ⟨⟨u1, y1.out⟩, rfl⟩
              have F_1 := Lib.hid (F4.out.on x1.out)
              refine Mix.tree_two (i := 4) (j := 7) (by kernel_rfl) (by kernel_rfl) rfl rfl rfl rfl rfl rfl ?_ ?_
              · intro K hK
                go_simp
                refine (HA1.out _ _ F_1.out T1.out).mono ?_
                rintro e u ⟨B1, d1, rfl, hf⟩
                have x2 := Lib.hid hf.ext
                have R1 := Lib.hid hf
                have y2 : Hid (Ext w0 u) := ν1.h.then_ext x2.out
                refine ⟨_, rfl, hK _ _ (Cl.of y2.out) ?_⟩
                clear hK K hf
                simp only [Act.put, List.setIfInBounds_toArray, List.set_cons_succ, List.set_cons_zero]
                obtain ⟨ν2, rfl⟩ : ∃ ξ : X w0 No, u = ξ.v := ⟨⟨u, y2.out⟩, rfl⟩
                have F_2 := Lib.hid (F_1.out.on x2.out)
                have T1x := Lib.hid (T1.out.ext x2.out)
                refine Mix.tree_one (i := 7) (by kernel_rfl) (by kernel_rfl) rfl rfl rfl ?_
                intro K hK
                go_simp
                obtain ⟨p2, hp2⟩ : ∃ q, q = ν2.v.heap.size := ⟨_, rfl⟩
                obtain ⟨u2, hu2⟩ : ∃ v, v = ν2.v.alloc (.cells cs2 61) := ⟨_, rfl⟩
                have T2 : Hid (SlR chF u2 (some ⟨p2, 0, none⟩) ys2.length ys2) := by rw [hu2, hp2]; exact HT2.out ν2.v
                have x3 : Hid (Ext ν2.v u2) := by rw [hu2]; exact (Only.refl No _).alloc _
                have y3 : Hid (Ext w0 u2) := ν2.h.then_ext x3.out
                refine hK _ _ ?cl ?_
                case cl => exact Cl.of (ν2.h.alloc _)
                clear hK K
                simp only [Act.put, List.setIfInBounds_toArray, List.set_cons_succ, List.set_cons_zero]
                rw [hcs2] at hu2
                rw [← hu2, ← hp2]
                clear hu2 hp2
                obtain ⟨ν3, rfl⟩ : ∃ ξ : X w0 No, u2 = ξ.v := ⟨⟨u2, y3.out⟩, rfl⟩
                have F_3 := Lib.hid (F_2.out.on x3.out)
                have T1xx := Lib.hid (T1x.out.ext x3.out)
                have R1x := Lib.hid (R1.out.on x3.out)
                refine Mix.tree_one (i := 8) (by kernel_rfl) (by kernel_rfl) rfl rfl rfl ?_
                intro K hK
                go_simp
                refine (HA2.out _ _ F_3.out T2.out).mono ?_
                rintro e u ⟨B2, d2, rfl, hf⟩
                have x4 := Lib.hid hf.ext
                have R2 := Lib.hid hf
                have y4 : Hid (Ext w0 u) := ν3.h.then_ext x4.out
                refine ⟨_, rfl, hK _ _ (Cl.of y4.out) ?_⟩
                clear hK K hf
                simp only [Act.put, List.setIfInBounds_toArray, List.set_cons_succ, List.set_cons_zero]
                obtain ⟨ν4, rfl⟩ : ∃ ξ : X w0 No, u = ξ.v := ⟨⟨u, y4.out⟩, rfl⟩
                have F_4 := Lib.hid (F_3.out.on x4.out)
                have T1xxx := Lib.hid (T1xx.out.ext x4.out)
                have T2x := Lib.hid (T2.out.ext x4.out)
                have R1xx := Lib.hid (R1x.out.on x4.out)
                refine Mix.tree_one (i := 9) (by kernel_rfl) (by kernel_rfl) rfl rfl rfl ?_
                intro K hK
                go_simp
                have HSm := Lib.hid (SameChanges_c (c := d1) (d := d2) (R1xx.out.row (by decide)) (R2.out.row (by decide)) (by omega) (by omega))
                rw [decide_eq_true (rfl : Z = Z)] at HSm
                refine HSm.out.mono ?_
                rintro e u ⟨rfl, hu⟩
                have y5 : Hid (Ext w0 u) := ν4.h.then_ext hu
                refine ⟨_, rfl, hK _ _ (Cl.of y5.out) ?_⟩
                clear hK K hu
                simp only [Act.put, List.setIfInBounds_toArray, List.set_cons_succ, List.set_cons_zero]
                obtain ⟨ν5, rfl⟩ : ∃ ξ : X w0 No, u = ξ.v := ⟨⟨u, y5.out⟩, rfl⟩
                (refine Mix.tree_quiet (i := 10) (by kernel_rfl) rfl rfl rfl rfl ?_; intro K hK; go_big_quiet_op; go_big_quiet_on)
                refine Mix.tree_nil ?_
                go_wp2_with (first | (refine Mix.wpList_guarded rfl ?_; (repeat' (first | (refine Mix.lex_quiet0 rfl rfl rfl ?_; intro K hK; go_big_quiet_op; go_big_quiet_on) | (refine Mix.lex_quietG rfl rfl rfl (by with_reducible rfl) rfl rfl ?_; intro K hK; go_big_quiet_op; go_big_quiet_on) | ((first | refine Mix.lex_skipT rfl rfl rfl (by with_reducible rfl) ?_ | refine Mix.lex_skipF rfl rfl rfl (by with_reducible rfl) ?_ | refine Mix.lex_skipU rfl rfl rfl (by with_reducible rfl) ?_); simp only [Act.put, List.setIfInBounds_toArray, List.set_cons_succ, List.set_cons_zero]) | (refine Mix.lex_part rfl rfl rfl rfl (fun hq => ?_) (fun hq => ?_) <;> (fail_if_success (guard_hyp hq :ₛ true = true)) <;> (fail_if_success (guard_hyp hq :ₛ false = false)) <;> first | (exfalso; cases hq; done) | (exfalso; simp only [decide_eq_true_eq, decide_eq_false_iff_not, beq_iff_eq, beq_eq_false_iff_ne, ne_eq, Int.not_lt, Int.not_le] at hq; omega) | simp only [Act.put, List.setIfInBounds_toArray, List.set_cons_succ, List.set_cons_zero]))); all_goals (refine Mix.lex_nil ?_)) | (refine Mix.wp_still (by kernel_rfl) (by kernel_rfl) ?_; (repeat' (first | (refine Mix.lex_quiet0 rfl rfl rfl ?_; intro K hK; go_big_quiet_op; go_big_quiet_on) | (refine Mix.lex_quietG rfl rfl rfl (by with_reducible rfl) rfl rfl ?_; intro K hK; go_big_quiet_op; go_big_quiet_on) | ((first | refine Mix.lex_skipT rfl rfl rfl (by with_reducible rfl) ?_ | refine Mix.lex_skipF rfl rfl rfl (by with_reducible rfl) ?_ | refine Mix.lex_skipU rfl rfl rfl (by with_reducible rfl) ?_); simp only [Act.put, List.setIfInBounds_toArray, List.set_cons_succ, List.set_cons_zero]) | (refine Mix.lex_part rfl rfl rfl rfl (fun hq => ?_) (fun hq => ?_) <;> (fail_if_success (guard_hyp hq :ₛ true = true)) <;> (fail_if_success (guard_hyp hq :ₛ false = false)) <;> first | (exfalso; cases hq; done) | (exfalso; simp only [decide_eq_true_eq, decide_eq_false_iff_not, beq_iff_eq, beq_eq_false_iff_ne, ne_eq, Int.not_lt, Int.not_le] at hq; omega) | simp only [Act.put, List.setIfInBounds_toArray, List.set_cons_succ, List.set_cons_zero]))); all_goals (refine Mix.lex_nil ?_)))
                go_ret
                exact ⟨rfl, HX0.out.then_ext ν5.h⟩
              · intro K hK
                go_simp
                obtain ⟨p2, hp2⟩ : ∃ q, q = ν1.v.heap.size := ⟨_, rfl⟩
                obtain ⟨u2, hu2⟩ : ∃ v, v = ν1.v.alloc (.cells cs2 61) := ⟨_, rfl⟩
                have T2 : Hid (SlR chF u2 (some ⟨p2, 0, none⟩) ys2.length ys2) := by rw [hu2, hp2]; exact HT2.out ν1.v
                have x2 : Hid (Ext ν1.v u2) := by rw [hu2]; exact (Only.refl No _).alloc _
                have y2 : Hid (Ext w0 u2) := ν1.h.then_ext x2.out
                refine hK _ _ ?cl ?_
                case cl => exact Cl.of (ν1.h.alloc _)
                clear hK K
                simp only [Act.put, List.setIfInBounds_toArray, List.set_cons_succ, List.set_cons_zero]
                rw [hcs2] at hu2
                rw [← hu2, ← hp2]
                clear hu2 hp2
                obtain ⟨ν2, rfl⟩ : ∃ ξ : X w0 No, u2 = ξ.v := ⟨⟨u2, y2.out⟩, rfl⟩
                have F_2 := Lib.hid (F_1.out.on x2.out)
                have T1x := Lib.hid (T1.out.ext x2.out)
                refine Mix.tree_one (i := 4) (by kernel_rfl) (by kernel_rfl) rfl rfl rfl ?_
                intro K hK
                go_simp
                refine (HA1.out _ _ F_2.out T1x.out).mono ?_
                rintro e u ⟨B1, d1, rfl, hf⟩
                have x3 := Lib.hid hf.ext
                have R1 := Lib.hid hf
                have y3 : Hid (Ext w0 u) := ν2.h.then_ext x3.out
                refine ⟨_, rfl, hK _ _ (Cl.of y3.out) ?_⟩
                clear hK K hf
                simp only [Act.put, List.setIfInBounds_toArray, List.set_cons_succ, List.set_cons_zero]
                obtain ⟨ν3, rfl⟩ : ∃ ξ : X w0 No, u = ξ.v := ⟨⟨u, y3.out⟩, rfl⟩
                have F_3 := Lib.hid (F_2.out.on x3.out)
                have T1xx := Lib.hid (T1x.out.ext x3.out)
                have T2x := Lib.hid (T2.out.ext x3.out)
                refine Mix.tree_one (i := 8) (by kernel_rfl) (by kernel_rfl) rfl rfl rfl ?_
                intro K hK
                go_simp
                refine (HA2.out _ _ F_3.out T2x.out).mono ?_
                rintro e u ⟨B2, d2, rfl, hf⟩
                have x4 := Lib.hid hf.ext
                have R2 := Lib.hid hf
                have y4 : Hid (Ext w0 u) := ν3.h.then_ext x4.out
                refine ⟨_, rfl, hK _ _ (Cl.of y4.out) ?_⟩
                clear hK K hf
                simp only [Act.put, List.setIfInBounds_toArray, List.set_cons_succ, List.set_cons_zero]
                obtain ⟨ν4, rfl⟩ : ∃ ξ : X w0 No, u = ξ.v := ⟨⟨u, y4.out⟩, rfl⟩
                have F_4 := Lib.hid (F_3.out.on x4.out)
                have T1xxx := Lib.hid (T1xx.out.ext x4.out)
                have T2xx := Lib.hid (T2x.out.ext x4.out)
                have R1x := Lib.hid (R1.out.on x4.out)
                refine Mix.tree_one (i := 9) (by kernel_rfl) (by kernel_rfl) rfl rfl rfl ?_
                intro K hK
                go_simp
                have HSm := Lib.hid (SameChanges_c (c := d1) (d := d2) (R1x.out.row (by decide)) (R2.out.row (by decide)) (by omega) (by omega))
                rw [decide_eq_true (rfl : Z = Z)] at HSm
                refine HSm.out.mono ?_
                rintro e u ⟨rfl, hu⟩
                have y5 : Hid (Ext w0 u) := ν4.h.then_ext hu
                refine ⟨_, rfl, hK _ _ (Cl.of y5.out) ?_⟩
                clear hK K hu
                simp only [Act.put, List.setIfInBounds_toArray, List.set_cons_succ, List.set_cons_zero]
                obtain ⟨ν5, rfl⟩ : ∃ ξ : X w0 No, u = ξ.v := ⟨⟨u, y5.out⟩, rfl⟩
                (refine Mix.tree_quiet (i := 10) (by kernel_rfl) rfl rfl rfl rfl ?_; intro K hK; go_big_quiet_op; go_big_quiet_on)
                refine Mix.tree_nil ?_
                go_wp2_with (first | (refine Mix.wpList_guarded rfl ?_; (repeat' (first | (refine Mix.lex_quiet0 rfl rfl rfl ?_; intro K hK; go_big_quiet_op; go_big_quiet_on) | (refine Mix.lex_quietG rfl rfl rfl (by with_reducible rfl) rfl rfl ?_; intro K hK; go_big_quiet_op; go_big_quiet_on) | ((first | refine Mix.lex_skipT rfl rfl rfl (by with_reducible rfl) ?_ | refine Mix.lex_skipF rfl rfl rfl (by with_reducible rfl) ?_ | refine Mix.lex_skipU rfl rfl rfl (by with_reducible rfl) ?_); simp only [Act.put, List.setIfInBounds_toArray, List.set_cons_succ, List.set_cons_zero]) | (refine Mix.lex_part rfl rfl rfl rfl (fun hq => ?_) (fun hq => ?_) <;> (fail_if_success (guard_hyp hq :ₛ true = true)) <;> (fail_if_success (guard_hyp hq :ₛ false = false)) <;> first | (exfalso; cases hq; done) | (exfalso; simp only [decide_eq_true_eq, decide_eq_false_iff_not, beq_iff_eq, beq_eq_false_iff_ne, ne_eq, Int.not_lt, Int.not_le] at hq; omega) | simp only [Act.put, List.setIfInBounds_toArray, List.set_cons_succ, List.set_cons_zero]))); all_goals (refine Mix.lex_nil ?_)) | (refine Mix.wp_still (by kernel_rfl) (by kernel_rfl) ?_; (repeat' (first | (refine Mix.lex_quiet0 rfl rfl rfl ?_; intro K hK; go_big_quiet_op; go_big_quiet_on) | (refine Mix.lex_quietG rfl rfl rfl (by with_reducible rfl) rfl rfl ?_; intro K hK; go_big_quiet_op; go_big_quiet_on) | ((first | refine Mix.lex_skipT rfl rfl rfl (by with_reducible rfl) ?_ | refine Mix.lex_skipF rfl rfl rfl (by with_reducible rfl) ?_ | refine Mix.lex_skipU rfl rfl rfl (by with_reducible rfl) ?_); simp only [Act.put, List.setIfInBounds_toArray, List.set_cons_succ, List.set_cons_zero]) | (refine Mix.lex_part rfl rfl rfl rfl (fun hq => ?_) (fun hq => ?_) <;> (fail_if_success (guard_hyp hq :ₛ true = true)) <;> (fail_if_success (guard_hyp hq :ₛ false = false)) <;> first | (exfalso; cases hq; done) | (exfalso; simp only [decide_eq_true_eq, decide_eq_false_iff_not, beq_iff_eq, beq_eq_false_iff_ne, ne_eq, Int.not_lt, Int.not_le] at hq; omega) | simp only [Act.put, List.setIfInBounds_toArray, List.set_cons_succ, List.set_cons_zero]))); all_goals (refine Mix.lex_nil ?_)))
                go_ret
                exact ⟨rfl, HX0.out.then_ext ν5.h⟩
            · intro K hK
              go_simp
              obtain ⟨p2, hp2⟩ : ∃ q, q = μ0.v.heap.size := ⟨_, rfl⟩
              obtain ⟨u2, hu2⟩ : ∃ v, v = μ0.v.alloc (.cells cs2 61) := ⟨_, rfl⟩
              have T2 : Hid (SlR chF u2 (some ⟨p2, 0, none⟩) ys2.length ys2) := by rw [hu2, hp2]; exact HT2.out μ0.v
              have x1 : Hid (Ext μ0.v u2) := by rw [hu2]; exact (Only.refl No _).alloc _
              have y1 : Hid (Ext w0 u2) := μ0.h.then_ext x1.out
              refine hK _ _ ?cl ?_
              case cl => exact Cl.of (μ0.h.alloc _)
              clear hK K
              simp only [Act.put, List.setIfInBounds_toArray, List.set_cons_succ, List.set_cons_zero]
              rw [hcs2] at hu2
              rw [← hu2, ← hp2]
              clear hu2 hp2
              obtain ⟨ν1, rfl⟩ : ∃ ξ : X w0 No, u2 = ξ.v := ⟨⟨u2, y1.out⟩, rfl⟩
              have F_1 := Lib.hid (F4.out.on x1.out)
              refine Mix.tree_one (i := 3) (by kernel_rfl) (by kernel_rfl) rfl rfl rfl ?_
              intro K hK
              go_simp
              obtain ⟨p1, hp1⟩ : ∃ q, q = ν1.v.heap.size := ⟨_, rfl⟩
              obtain ⟨u1, hu1⟩ : ∃ v, v = ν1.v.alloc (.cells cs1 61) := ⟨_, rfl⟩
              have T1 : Hid (SlR chF u1 (some ⟨p1, 0, none⟩) ys1.length ys1) := by rw [hu1, hp1]; exact HT1.out ν1.v
              have x2 : Hid (Ext ν1.v u1) := by rw [hu1]; exact (Only.refl No _).alloc _
              have y2 : Hid (Ext w0 u1) := ν1.h.then_ext x2.out
              refine hK _ _ ?cl ?_
              case cl => exact Cl.of (ν1.h.alloc _)
              clear hK K
              simp only [Act.put, List.setIfInBounds_toArray, List.set_cons_succ, List.set_cons_zero]
              rw [hcs1] at hu1
              rw [← hu1, ← hp1]
              clear hu1 hp1
              obtain ⟨ν2, rfl⟩ : ∃ ξ : X w0 No, u1 = ξ.v := ⟨⟨u1, y2.out⟩, rfl⟩
              have F_2 := Lib.hid (F_1.out.on x2.out)
              have T2x := Lib.hid (T2.out.ext x2.out)
              refine Mix.tree_one (i := 4) (by kernel_rfl) (by kernel_rfl) rfl rfl rfl ?_
              intro K hK
              go_simp
              refine (HA1.out _ _ F_2.out T1.out).mono ?_
              rintro e u ⟨B1, d1, rfl, hf⟩
              have x3 := Lib.hid hf.ext
              have R1 := Lib.hid hf
              have y3 : Hid (Ext w0 u) := ν2.h.then_ext x3.out
              refine ⟨_, rfl, hK _ _ (Cl.of y3.out) ?_⟩
              clear hK K hf
              simp only [Act.put, List.setIfInBounds_toArray, List.set_cons_succ, List.set_cons_zero]
              obtain ⟨ν3, rfl⟩ : ∃ ξ : X w0 No, u = ξ.v := ⟨⟨u, y3.out⟩, rfl⟩
              have F_3 := Lib.hid (F_2.out.on x3.out)
              have T2xx := Lib.hid (T2x.out.ext x3.out)
              have T1x := Lib.hid (T1.out.ext x3.out)
              refine Mix.tree_one (i := 8) (by kernel_rfl) (by kernel_rfl) rfl rfl rfl ?_
              intro K hK
              go_simp
              refine (HA2.out _ _ F_3.out T2xx.out).mono ?_
              rintro e u ⟨B2, d2, rfl, hf⟩
              have x4 := Lib.hid hf.ext
              have R2 := Lib.hid hf
              have y4 : Hid (Ext w0 u) := ν3.h.then_ext x4.out
              refine ⟨_, rfl, hK _ _ (Cl.of y4.out) ?_⟩
              clear hK K hf
              simp only [Act.put, List.setIfInBounds_toArray, List.set_cons_succ, List.set_cons_zero]
              obtain ⟨ν4, rfl⟩ : ∃ ξ : X w0 No, u = ξ.v := ⟨⟨u, y4.out⟩, rfl⟩
              have F_4 := Lib.hid (F_3.out.on x4.out)
              have T2xxx := Lib.hid (T2xx.out.ext x4.out)
              have T1xx := Lib.hid (T1x.out.ext x4.out)
              have R1x := Lib.hid (R1.out.on x4.out)
              refine Mix.tree_one (i := 9) (by kernel_rfl) (by kernel_rfl) rfl rfl rfl ?_
              intro K hK
              go_simp
              have HSm := Lib.hid (SameChanges_c (c := d1) (d := d2) (R1x.out.row (by decide)) (R2.out.row (by decide)) (by omega) (by omega))
              rw [decide_eq_true (rfl : Z = Z)] at HSm
              refine HSm.out.mono ?_
              rintro e u ⟨rfl, hu⟩
              have y5 : Hid (Ext w0 u) := ν4.h.then_ext hu
              refine ⟨_, rfl, hK _ _ (Cl.of y5.out) ?_⟩
              clear hK K hu
              simp only [Act.put, List.setIfInBounds_toArray, List.set_cons_succ, List.set_cons_zero]
              obtain ⟨ν5, rfl⟩ : ∃ ξ : X w0 No, u = ξ.v := ⟨⟨u, y5.out⟩, rfl⟩
              (refine Mix.tree_quiet (i := 10) (by kernel_rfl) rfl rfl rfl rfl ?_; intro K hK; go_big_quiet_op; go_big_quiet_on)
              refine Mix.tree_nil ?_
              go_wp2_with (first | (refine Mix.wpList_guarded rfl ?_; (repeat' (first | (refine Mix.lex_quiet0 rfl rfl rfl ?_; intro K hK; go_big_quiet_op; go_big_quiet_on) | (refine Mix.lex_quietG rfl rfl rfl (by with_reducible rfl) rfl rfl ?_; intro K hK; go_big_quiet_op; go_big_quiet_on) | ((first | refine Mix.lex_skipT rfl rfl rfl (by with_reducible rfl) ?_ | refine Mix.lex_skipF rfl rfl rfl (by with_reducible rfl) ?_ | refine Mix.lex_skipU rfl rfl rfl (by with_reducible rfl) ?_); simp only [Act.put, List.setIfInBounds_toArray, List.set_cons_succ, List.set_cons_zero]) | (refine Mix.lex_part rfl rfl rfl rfl (fun hq => ?_) (fun hq => ?_) <;> (fail_if_success (guard_hyp hq :ₛ true = true)) <;> (fail_if_success (guard_hyp hq :ₛ false = false)) <;> first | (exfalso; cases hq; done) | (exfalso; simp only [decide_eq_true_eq, decide_eq_false_iff_not, beq_iff_eq, beq_eq_false_iff_ne, ne_eq, Int.not_lt, Int.not_le] at hq; omega) | simp only [Act.put, List.setIfInBounds_toArray, List.set_cons_succ, List.set_cons_zero]))); all_goals (refine Mix.lex_nil ?_)) | (refine Mix.wp_still (by kernel_rfl) (by kernel_rfl) ?_; (repeat' (first | (refine Mix.lex_quiet0 rfl rfl rfl ?_; intro K hK; go_big_quiet_op; go_big_quiet_on) | (refine Mix.lex_quietG rfl rfl rfl (by with_reducible rfl) rfl rfl ?_; intro K hK; go_big_quiet_op; go_big_quiet_on) | ((first | refine Mix.lex_skipT rfl rfl rfl (by with_reducible rfl) ?_ | refine Mix.lex_skipF rfl rfl rfl (by with_reducible rfl) ?_ | refine Mix.lex_skipU rfl rfl rfl (by with_reducible rfl) ?_); simp only [Act.put, List.setIfInBounds_toArray, List.set_cons_succ, List.set_cons_zero]) | (refine Mix.lex_part rfl rfl rfl rfl (fun hq => ?_) (fun hq => ?_) <;> (fail_if_success (guard_hyp hq :ₛ true = true)) <;> (fail_if_success (guard_hyp hq :ₛ false = false)) <;> first | (exfalso; cases hq; done) | (exfalso; simp only [decide_eq_true_eq, decide_eq_false_iff_not, beq_iff_eq, beq_eq_false_iff_ne, ne_eq, Int.not_lt, Int.not_le] at hq; omega) | simp only [Act.put, List.setIfInBounds_toArray, List.set_cons_succ, List.set_cons_zero]))); all_goals (refine Mix.lex_nil ?_)))
              go_ret
              exact ⟨rfl, HX0.out.then_ext ν5.h⟩
          | false =>
            go_upto_region 23 with fail
            obtain ⟨ys1, hys1⟩ : ∃ y, y = [a, b] := ⟨_, rfl⟩
            obtain ⟨ys2, hys2⟩ : ∃ y, y = [b, a] := ⟨_, rfl⟩
            obtain ⟨cs1, hcs1⟩ : ∃ y : Array Value, y = #[S a.1, S a.2.1, .bool a.2.2, S b.1, S b.2.1, .bool b.2.2] := ⟨_, rfl⟩
            obtain ⟨cs2, hcs2⟩ : ∃ y : Array Value, y = #[S b.1, S b.2.1, .bool b.2.2, S a.1, S a.2.1, .bool a.2.2] := ⟨_, rfl⟩
            have HT1 : Hid (∀ v : World, SlR chF (v.alloc (.cells cs1 61)) (some ⟨v.heap.size, 0, none⟩) ys1.length ys1) := fun v => by rw [hcs1, hys1]; exact SlR.two chF v 61 a b rfl
            have HT2 : Hid (∀ v : World, SlR chF (v.alloc (.cells cs2 61)) (some ⟨v.heap.size, 0, none⟩) ys2.length ys2) := fun v => by rw [hcs2, hys2]; exact SlR.two chF v 61 b a rfl
            have HEq : applyL L ys2 = applyL L [a, b] := by rw [hys2]; exact apply_swap HLr.out a b (by simpa using he) |>.symm
            have hZl := applyL_len L [a, b]
            obtain ⟨Z, hZ⟩ : ∃ Z, Z = applyL L [a, b] := ⟨_, rfl⟩
            rw [← hZ] at HEq hZl
            have hZl2 : Z.length ≤ 10000 := by simp at hZl; omega
            have HA1 : Hid (∀ v q (_ : Fresh chF 61 w0 v A1 c1 L) (_ : SlR chF v (some ⟨q, 0, none⟩) ys1.length ys1), Calls Try.prog 41 #[.slice A1 L.length c1, .slice (some ⟨q, 0, none⟩) 2 2] v fun e w' => ∃ A' c', e = .returned (.slice A' Z.length c') ∧ Fresh chF 61 v w' A' c' Z) := fun v q hf hs => by
              rw [hys1] at hs
              rw [hZ]
              exact Apply_c (hf.row (by decide)) hs (by omega) (by decide) HLr.out
            have HA2 : Hid (∀ v q (_ : Fresh chF 61 w0 v A1 c1 L) (_ : SlR chF v (some ⟨q, 0, none⟩) ys2.length ys2), Calls Try.prog 41 #[.slice A1 L.length c1, .slice (some ⟨q, 0, none⟩) 2 2] v fun e w' => ∃ A' c', e = .returned (.slice A' Z.length c') ∧ Fresh chF 61 v w' A' c' Z) := fun v q hf hs => by
              rw [← HEq]
              rw [hys2] at hs ⊢
              exact Apply_c (hf.row (by decide)) hs (by omega) (by decide) HLr.out
            clear HEq hZ hZl
            refine Mix.wp_tree 12 [3, 4, 8, 9, 10] (Cl w0 No) rfl (by kernel_rfl) (by kernel_rfl) (Cl.of ξ9.h.drew) ?_
            obtain ⟨μ0, hμ0⟩ : ∃ μ0 : X w0 No, μ0.v = ξ9.v.drew := ⟨⟨_, ξ9.h.drew⟩, rfl⟩
            have F4 : Hid (Fresh chF 61 w0 μ0.v A1 c1 L) := by rw [hμ0]; exact F3.out.on (Only.refl No _).drew
            rw [← hμ0]
            clear hμ0
            (refine Mix.tree_quiet (i := 0) (by kernel_rfl) rfl rfl rfl rfl ?_; intro K hK; go_big_quiet_op; go_big_quiet_on); (refine Mix.tree_quiet (i := 1) (by kernel_rfl) rfl rfl rfl rfl ?_; intro K hK; go_big_quiet_op; go_big_quiet_on); (refine Mix.tree_quiet (i := 2) (by kernel_rfl) rfl rfl rfl rfl ?_; intro K hK; go_big_quiet_op; go_big_quiet_on); (refine Mix.tree_quiet (i := 5) (by kernel_rfl) rfl rfl rfl rfl ?_; intro K hK; go_big_quiet_op; go_big_quiet_on); (refine Mix.tree_quiet (i := 6) (by kernel_rfl) rfl rfl rfl rfl ?_; intro K hK; go_big_quiet_op; go_big_quiet_on); (refine Mix.tree_quiet (i := 7) (by kernel_rfl) rfl rfl rfl rfl ?_; intro K hK; go_big_quiet_op; go_big_quiet_on)
            refine Mix.tree_two (i := 3) (j := 8) (by kernel_rfl) (by kernel_rfl) rfl rfl rfl rfl rfl rfl ?_ ?_
            · intro K hK
              go_simp
              obtain ⟨p1, hp1⟩ : ∃ q, q = μ0.v.heap.size := ⟨_, rfl⟩
              obtain ⟨u1, hu1⟩ : ∃ v, v = μ0.v.alloc (.cells cs1 61) := ⟨_, rfl⟩
              have T1 : Hid (SlR chF u1 (some ⟨p1, 0, none⟩) ys1.length ys1) := by rw [hu1, hp1]; exact HT1.out μ0.v
              have x1 : Hid (Ext μ0.v u1) := by rw [hu1]; exact (Only.refl No _).alloc _
              have y1 : Hid (Ext w0 u1) := μ0.h.then_ext x1.out
              refine hK _ _ ?cl ?_
              case cl => exact Cl.of (μ0.h.alloc _)
              clear hK K
              simp only [Act.put, List.setIfInBounds_toArray, List.set_cons_succ, List.set_cons_zero]
              rw [hcs1] at hu1
              rw [← hu1, ← hp1]
              clear hu1 hp1
              obtain ⟨ν1, rfl⟩ : ∃ ξ : X w0 No, u1 = ξ.v := ⟨⟨u1, y1.out⟩, rfl⟩
              have F_1 := Lib.hid (F4.out.on x1.out)
              refine Mix.tree_two (i := 4) (j := 8) (by kernel_rfl) (by kernel_rfl) rfl rfl rfl rfl rfl rfl ?_ ?_
              · intro K hK
                go_simp
                refine (HA1.out _ _ F_1.out T1.out).mono ?_
                rintro e u ⟨B1, d1, rfl, hf⟩
                have x2 := Lib.hid hf.ext
                have R1 := Lib.hid hf
                have y2 : Hid (Ext w0 u) := ν1.h.then_ext x2.out
                refine ⟨_, rfl, hK _ _ (Cl.of y2.out) ?_⟩
                clear hK K hf
                simp only [Act.put, List.setIfInBounds_toArray, List.set_cons_succ, List.set_cons_zero]
                obtain ⟨ν2, rfl⟩ : ∃ ξ : X w0 No, u = ξ.v := ⟨⟨u, y2.out⟩, rfl⟩
                have F_2 := Lib.hid (F_1.out.on x2.out)
                have T1x := Lib.hid (T1.out.ext x2.out)
                refine Mix.tree_one (i := 8) (by kernel_rfl) (by kernel_rfl) rfl rfl rfl ?_
                intro K hK
                go_simp
                obtain ⟨p2, hp2⟩ : ∃ q, q = ν2.v.heap.size := ⟨_, rfl⟩
                obtain ⟨u2, hu2⟩ : ∃ v, v = ν2.v.alloc (.cells cs2 61) := ⟨_, rfl⟩
                have T2 : Hid (SlR chF u2 (some ⟨p2, 0, none⟩) ys2.length ys2) := by rw [hu2, hp2]; exact HT2.out ν2.v
                have x3 : Hid (Ext ν2.v u2) := by rw [hu2]; exact (Only.refl No _).alloc _
                have y3 : Hid (Ext w0 u2) := ν2.h.then_ext x3.out
                refine hK _ _ ?cl ?_
                case cl => exact Cl.of (ν2.h.alloc _)
                clear hK K
                simp only [Act.put, List.setIfInBounds_toArray, List.set_cons_succ, List.set_cons_zero]
                rw [hcs2] at hu2
                rw [← hu2, ← hp2]
                clear hu2 hp2
                obtain ⟨ν3, rfl⟩ : ∃ ξ : X w0 No, u2 = ξ.v := ⟨⟨u2, y3.out⟩, rfl⟩
                have F_3 := Lib.hid (F_2.out.on x3.out)
                have T1xx := Lib.hid (T1x.out.ext x3.out)
                have R1x := Lib.hid (R1.out.on x3.out)
                refine Mix.tree_one (i := 9) (by kernel_rfl) (by kernel_rfl) rfl rfl rfl ?_
                intro K hK
                go_simp
                refine (HA2.out _ _ F_3.out T2.out).mono ?_
                rintro e u ⟨B2, d2, rfl, hf⟩
                have x4 := Lib.hid hf.ext
                have R2 := Lib.hid hf
                have y4 : Hid (Ext w0 u) := ν3.h.then_ext x4.out
                refine ⟨_, rfl, hK _ _ (Cl.of y4.out) ?_⟩
                clear hK K hf
                simp only [Act.put, List.setIfInBounds_toArray, List.set_cons_succ, List.set_cons_zero]
                obtain ⟨ν4, rfl⟩ : ∃ ξ : X w0 No, u = ξ.v := ⟨⟨u, y4.out⟩, rfl⟩
                have F_4 := Lib.hid (F_3.out.on x4.out)
                have T1xxx := Lib.hid (T1xx.out.ext x4.out)
                have T2x := Lib.hid (T2.out.ext x4.out)
                have R1xx := Lib.hid (R1x.out.on x4.out)
                refine Mix.tree_one (i := 10) (by kernel_rfl) (by kernel_rfl) rfl rfl rfl ?_
                intro K hK
                go_simp
                have HSm := Lib.hid (SameChanges_c (c := d1) (d := d2) (R1xx.out.row (by decide)) (R2.out.row (by decide)) (by omega) (by omega))
                rw [decide_eq_true (rfl : Z = Z)] at HSm
                refine HSm.out.mono ?_
                rintro e u ⟨rfl, hu⟩
                have y5 : Hid (Ext w0 u) := ν4.h.then_ext hu
                refine ⟨_, rfl, hK _ _ (Cl.of y5.out) ?_⟩
                clear hK K hu
                simp only [Act.put, List.setIfInBounds_toArray, List.set_cons_succ, List.set_cons_zero]
                obtain ⟨ν5, rfl⟩ : ∃ ξ : X w0 No, u = ξ.v := ⟨⟨u, y5.out⟩, rfl⟩
                (refine Mix.tree_quiet (i := 11) (by kernel_rfl) rfl rfl rfl rfl ?_; intro K hK; go_big_quiet_op; go_big_quiet_on)
                refine Mix.tree_nil ?_
                go_wp2_with (first | (refine Mix.wpList_guarded rfl ?_; (repeat' (first | (refine Mix.lex_quiet0 rfl rfl rfl ?_; intro K hK; go_big_quiet_op; go_big_quiet_on) | (refine Mix.lex_quietG rfl rfl rfl (by with_reducible rfl) rfl rfl ?_; intro K hK; go_big_quiet_op; go_big_quiet_on) | ((first | refine Mix.lex_skipT rfl rfl rfl (by with_reducible rfl) ?_ | refine Mix.lex_skipF rfl rfl rfl (by with_reducible rfl) ?_ | refine Mix.lex_skipU rfl rfl rfl (by with_reducible rfl) ?_); simp only [Act.put, List.setIfInBounds_toArray, List.set_cons_succ, List.set_cons_zero]) | (refine Mix.lex_part rfl rfl rfl rfl (fun hq => ?_) (fun hq => ?_) <;> (fail_if_success (guard_hyp hq :ₛ true = true)) <;> (fail_if_success (guard_hyp hq :ₛ false = false)) <;> first | (exfalso; cases hq; done) | (exfalso; simp only [decide_eq_true_eq, decide_eq_false_iff_not, beq_iff_eq, beq_eq_false_iff_ne, ne_eq, Int.not_lt, Int.not_le] at hq; omega) | simp only [Act.put, List.setIfInBounds_toArray, List.set_cons_succ, List.set_cons_zero]))); all_goals (refine Mix.lex_nil ?_)) | (refine Mix.wp_still (by kernel_rfl) (by kernel_rfl) ?_; (repeat' (first | (refine Mix.lex_quiet0 rfl rfl rfl ?_; intro K hK; go_big_quiet_op; go_big_quiet_on) | (refine Mix.lex_quietG rfl rfl rfl (by with_reducible rfl) rfl rfl ?_; intro K hK; go_big_quiet_op; go_big_quiet_on) | ((first | refine Mix.lex_skipT rfl rfl rfl (by with_reducible rfl) ?_ | refine Mix.lex_skipF rfl rfl rfl (by with_reducible rfl) ?_ | refine Mix.lex_skipU rfl rfl rfl (by with_reducible rfl) ?_); simp only [Act.put, List.setIfInBounds_toArray, List.set_cons_succ, List.set_cons_zero]) | (refine Mix.lex_part rfl rfl rfl rfl (fun hq => ?_) (fun hq => ?_) <;> (fail_if_success (guard_hyp hq :ₛ true = true)) <;> (fail_if_success (guard_hyp hq :ₛ false = false)) <;> first | (exfalso; cases hq; done) | (exfalso; simp only [decide_eq_true_eq, decide_eq_false_iff_not, beq_iff_eq, beq_eq_false_iff_ne, ne_eq, Int.not_lt, Int.not_le] at hq; omega) | simp only [Act.put, List.setIfInBounds_toArray, List.set_cons_succ, List.set_cons_zero]))); all_goals (refine Mix.lex_nil ?_)))
                go_ret
                exact ⟨rfl, HX0.out.then_ext ν5.h⟩
              · intro K hK
                go_simp
                obtain ⟨p2, hp2⟩ : ∃ q, q = ν1.v.heap.size := ⟨_, rfl⟩
                obtain ⟨u2, hu2⟩ : ∃ v, v = ν1.v.alloc (.cells cs2 61) := ⟨_, rfl⟩
                have T2 : Hid (SlR chF u2 (some ⟨p2, 0, none⟩) ys2.length ys2) := by rw [hu2, hp2]; exact HT2.out ν1.v
                have x2 : Hid (Ext ν1.v u2) := by rw [hu2]; exact (Only.refl No _).alloc _
                have y2 : Hid (Ext w0 u2) := ν1.h.then_ext x2.out
                refine hK _ _ ?cl ?_
                case cl => exact Cl.of (ν1.h.alloc _)
                clear hK K
                simp only [Act.put, List.setIfInBounds_toArray, List.set_cons_succ, List.set_cons_zero]
                rw [hcs2] at hu2
                rw [← hu2, ← hp2]
                clear hu2 hp2
                obtain ⟨ν2, rfl⟩ : ∃ ξ : X w0 No, u2 = ξ.v := ⟨⟨u2, y2.out⟩, rfl⟩
                have F_2 := Lib.hid (F_1.out.on x2.out)
                have T1x := Lib.hid (T1.out.ext x2.out)
                refine Mix.tree_one (i := 4) (by kernel_rfl) (by kernel_rfl) rfl rfl rfl ?_
                intro K hK
                go_simp
                refine (HA1.out _ _ F_2.out T1x.out).mono ?_
                rintro e u ⟨B1, d1, rfl, hf⟩
                have x3 := Lib.hid hf.ext
                have R1 := Lib.hid hf
                have y3 : Hid (Ext w0 u) := ν2.h.then_ext x3.out
                refine ⟨_, rfl, hK _ _ (Cl.of y3.out) ?_⟩
                clear hK K hf
                simp only [Act.put, List.setIfInBounds_toArray, List.set_cons_succ, List.set_cons_zero]
                obtain ⟨ν3, rfl⟩ : ∃ ξ : X w0 No, u = ξ.v := ⟨⟨u, y3.out⟩, rfl⟩
                have F_3 := Lib.hid (F_2.out.on x3.out)
                have T1xx := Lib.hid (T1x.out.ext x3.out)
                have T2x := Lib.hid (T2.out.ext x3.out)
                refine Mix.tree_one (i := 9) (by kernel_rfl) (by kernel_rfl) rfl rfl rfl ?_
                intro K hK
                go_simp
                refine (HA2.out _ _ F_3.out T2x.out).mono ?_
                rintro e u ⟨B2, d2, rfl, hf⟩
                have x4 := Lib.hid hf.ext
                have R2 := Lib.hid hf
                have y4 : Hid (Ext w0 u) := ν3.h.then_ext x4.out
                refine ⟨_, rfl, hK _ _ (Cl.of y4.out) ?_⟩
                clear hK K hf
                simp only [Act.put, List.setIfInBounds_toArray, List.set_cons_succ, List.set_cons_zero]
                obtain ⟨ν4, rfl⟩ : ∃ ξ : X w0 No, u = ξ.v := ⟨⟨u, y4.out⟩, rfl⟩
                have F_4 := Lib.hid (F_3.out.on x4.out)
                have T1xxx := Lib.hid (T1xx.out.ext x4.out)
                have T2xx := Lib.hid (T2x.out.ext x4.out)
                have R1x := Lib.hid (R1.out.on x4.out)
                refine Mix.tree_one (i := 10) (by kernel_rfl) (by kernel_rfl) rfl rfl rfl ?_
                intro K hK
                go_simp
                have HSm := Lib.hid (SameChanges_c (c := d1) (d := d2) (R1x.out.row (by decide)) (R2.out.row (by decide)) (by omega) (by omega))
                rw [decide_eq_true (rfl : Z = Z)] at HSm
                refine HSm.out.mono ?_
                rintro e u ⟨rfl, hu⟩
                have y5 : Hid (Ext w0 u) := ν4.h.then_ext hu
                refine ⟨_, rfl, hK _ _ (Cl.of y5.out) ?_⟩
                clear hK K hu
                simp only [Act.put, List.setIfInBounds_toArray, List.set_cons_succ, List.set_cons_zero]
                obtain ⟨ν5, rfl⟩ : ∃ ξ : X w0 No, u = ξ.v := ⟨⟨u, y5.out⟩, rfl⟩
                (refine Mix.tree_quiet (i := 11) (by kernel_rfl) rfl rfl rfl rfl ?_; intro K hK; go_big_quiet_op; go_big_quiet_on)
                refine Mix.tree_nil ?_
                go_wp2_with (first | (refine Mix.wpList_guarded rfl ?_; (repeat' (first | (refine Mix.lex_quiet0 rfl rfl rfl ?_; intro K hK; go_big_quiet_op; go_big_quiet_on) | (refine Mix.lex_quietG rfl rfl rfl (by with_reducible rfl) rfl rfl ?_; intro K hK; go_big_quiet_op; go_big_quiet_on) | ((first | refine Mix.lex_skipT rfl rfl rfl (by with_reducible rfl) ?_ | refine Mix.lex_skipF rfl rfl rfl (by with_reducible rfl) ?_ | refine Mix.lex_skipU rfl rfl rfl (by with_reducible rfl) ?_); simp only [Act.put, List.setIfInBounds_toArray, List.set_cons_succ, List.set_cons_zero]) | (refine Mix.lex_part rfl rfl rfl rfl (fun hq => ?_) (fun hq => ?_) <;> (fail_if_success (guard_hyp hq :ₛ true = true)) <;> (fail_if_success (guard_hyp hq :ₛ false = false)) <;> first | (exfalso; cases hq; done) | (exfalso; simp only [decide_eq_true_eq, decide_eq_false_iff_not, beq_iff_eq, beq_eq_false_iff_ne, ne_eq, Int.not_lt, Int.not_le] at hq; omega) | simp only [Act.put, List.setIfInBounds_toArray, List.set_cons_succ, List.set_cons_zero]))); all_goals (refine Mix.lex_nil ?_)) | (refine Mix.wp_still (by kernel_rfl) (by kernel_rfl) ?_; (repeat' (first | (refine Mix.lex_quiet0 rfl rfl rfl ?_; intro K hK; go_big_quiet_op; go_big_quiet_on) | (refine Mix.lex_quietG rfl rfl rfl (by with_reducible rfl) rfl rfl ?_; intro K hK; go_big_quiet_op; go_big_quiet_on) | ((first | refine Mix.lex_skipT rfl rfl rfl (by with_reducible rfl) ?_ | refine Mix.lex_skipF rfl rfl rfl (by with_reducible rfl) ?_ | refine Mix.lex_skipU rfl rfl rfl (by with_reducible rfl) ?_); simp only [Act.put, List.setIfInBounds_toArray, List.set_cons_succ, List.set_cons_zero]) | (refine Mix.lex_part rfl rfl rfl rfl (fun hq => ?_) (fun hq => ?_) <;> (fail_if_success (guard_hyp hq :ₛ true = true)) <;> (fail_if_success (guard_hyp hq :ₛ false = false)) <;> first | (exfalso; cases hq; done) | (exfalso; simp only [decide_eq_true_eq, decide_eq_false_iff_not, beq_iff_eq, beq_eq_false_iff_ne, ne_eq, Int.not_lt, Int.not_le] at hq; omega) | simp only [Act.put, List.setIfInBounds_toArray, List.set_cons_succ, List.set_cons_zero]))); all_goals (refine Mix.lex_nil ?_)))
                go_ret
                exact ⟨rfl, HX0.out.then_ext ν5.h⟩
            · intro K hK
              go_simp
              obtain ⟨p2, hp2⟩ : ∃ q, q = μ0.v.heap.size := ⟨_, rfl⟩
              obtain ⟨u2, hu2⟩ : ∃ v, v = μ0.v.alloc (.cells cs2 61) := ⟨_, rfl⟩
              have T2 : Hid (SlR chF u2 (some ⟨p2, 0, none⟩) ys2.length ys2) := by rw [hu2, hp2]; exact HT2.out μ0.v
              have x1 : Hid (Ext μ0.v u2) := by rw [hu2]; exact (Only.refl No _).alloc _
              have y1 : Hid (Ext w0 u2) := μ0.h.then_ext x1.out
              refine hK _ _ ?cl ?_
              case cl => exact Cl.of (μ0.h.alloc _)
              clear hK K
              simp only [Act.put, List.setIfInBounds_toArray, List.set_cons_succ, List.set_cons_zero]
              rw [hcs2] at hu2
              rw [← hu2, ← hp2]
              clear hu2 hp2
              obtain ⟨ν1, rfl⟩ : ∃ ξ : X w0 No, u2 = ξ.v := ⟨⟨u2, y1.out⟩, rfl⟩
              have F_1 := Lib.hid (F4.out.on x1.out)
              refine Mix.tree_one (i := 3) (by kernel_rfl) (by kernel_rfl) rfl rfl rfl ?_
              intro K hK
              go_simp
              obtain ⟨p1, hp1⟩ : ∃ q, q = ν1.v.heap.size := ⟨_, rfl⟩
              obtain ⟨u1, hu1⟩ : ∃ v, v = ν1.v.alloc (.cells cs1 61) := ⟨_, rfl⟩
              have T1 : Hid (SlR chF u1 (some ⟨p1, 0, none⟩) ys1.length ys1) := by rw [hu1, hp1]; exact HT1.out ν1.v
              have x2 : Hid (Ext ν1.v u1) := by rw [hu1]; exact (Only.refl No _).alloc _
              have y2 : Hid (Ext w0 u1) := ν1.h.then_ext x2.out
              refine hK _ _ ?cl ?_
              case cl => exact Cl.of (ν1.h.alloc _)
              clear hK K
              simp only [Act.put, List.setIfInBounds_toArray, List.set_cons_succ, List.set_cons_zero]
              rw [hcs1] at hu1
              rw [← hu1, ← hp1]
              clear hu1 hp1
              obtain ⟨ν2, rfl⟩ : ∃ ξ : X w0 No, u1 = ξ.v := ⟨⟨u1, y2.out⟩, rfl⟩
              have F_2 := Lib.hid (F_1.out.on x2.out)
              have T2x := Lib.hid (T2.out.ext x2.out)
              refine Mix.tree_one (i := 4) (by kernel_rfl) (by kernel_rfl) rfl rfl rfl ?_
              intro K hK
              go_simp
              refine (HA1.out _ _ F_2.out T1.out).mono ?_
              rintro e u ⟨B1, d1, rfl, hf⟩
              have x3 := Lib.hid hf.ext
              have R1 := Lib.hid hf
              have y3 : Hid (Ext w0 u) := ν2.h.then_ext x3.out
              refine ⟨_, rfl, hK _ _ (Cl.of y3.out) ?_⟩
              clear hK K hf
              simp only [Act.put, List.setIfInBounds_toArray, List.set_cons_succ, List.set_cons_zero]
              obtain ⟨ν3, rfl⟩ : ∃ ξ : X w0 No, u = ξ.v := ⟨⟨u, y3.out⟩, rfl⟩
              have F_3 := Lib.hid (F_2.out.on x3.out)
              have T2xx := Lib.hid (T2x.out.ext x3.out)
              have T1x := Lib.hid (T1.out.ext x3.out)
              refine Mix.tree_one (i := 9) (by kernel_rfl) (by kernel_rfl) rfl rfl rfl ?_
              intro K hK
              go_simp
              refine (HA2.out _ _ F_3.out T2xx.out).mono ?_
              rintro e u ⟨B2, d2, rfl, hf⟩
              have x4 := Lib.hid hf.ext
              have R2 := Lib.hid hf
              have y4 : Hid (Ext w0 u) := ν3.h.then_ext x4.out
              refine ⟨_, rfl, hK _ _ (Cl.of y4.out) ?_⟩
              clear hK K hf
              simp only [Act.put, List.setIfInBounds_toArray, List.set_cons_succ, List.set_cons_zero]
              obtain ⟨ν4, rfl⟩ : ∃ ξ : X w0 No, u = ξ.v := ⟨⟨u, y4.out⟩, rfl⟩
              have F_4 := Lib.hid (F_3.out.on x4.out)
              have T2xxx := Lib.hid (T2xx.out.ext x4.out)
              have T1xx := Lib.hid (T1x.out.ext x4.out)
              have R1x := Lib.hid (R1.out.on x4.out)
              refine Mix.tree_one (i := 10) (by kernel_rfl) (by kernel_rfl) rfl rfl rfl ?_
              intro K hK
              go_simp
              have HSm := Lib.hid (SameChanges_c (c := d1) (d := d2) (R1x.out.row (by decide)) (R2.out.row (by decide)) (by omega) (by omega))
              rw [decide_eq_true (rfl : Z = Z)] at HSm
              refine HSm.out.mono ?_
              rintro e u ⟨rfl, hu⟩
              have y5 : Hid (Ext w0 u) := ν4.h.then_ext hu
              refine ⟨_, rfl, hK _ _ (Cl.of y5.out) ?_⟩
              clear hK K hu
              simp only [Act.put, List.setIfInBounds_toArray, List.set_cons_succ, List.set_cons_zero]
              obtain ⟨ν5, rfl⟩ : ∃ ξ : X w0 No, u = ξ.v := ⟨⟨u, y5.out⟩, rfl⟩
              (refine Mix.tree_quiet (i := 11) (by kernel_rfl) rfl rfl rfl rfl ?_; intro K hK; go_big_quiet_op; go_big_quiet_on)
              refine Mix.tree_nil ?_
              go_wp2_with (first | (refine Mix.wpList_guarded rfl ?_; (repeat' (first | (refine Mix.lex_quiet0 rfl rfl rfl ?_; intro K hK; go_big_quiet_op; go_big_quiet_on) | (refine Mix.lex_quietG rfl rfl rfl (by with_reducible rfl) rfl rfl ?_; intro K hK; go_big_quiet_op; go_big_quiet_on) | ((first | refine Mix.lex_skipT rfl rfl rfl (by with_reducible rfl) ?_ | refine Mix.lex_skipF rfl rfl rfl (by with_reducible rfl) ?_ | refine Mix.lex_skipU rfl rfl rfl (by with_reducible rfl) ?_); simp only [Act.put, List.setIfInBounds_toArray, List.set_cons_succ, List.set_cons_zero]) | (refine Mix.lex_part rfl rfl rfl rfl (fun hq => ?_) (fun hq => ?_) <;> (fail_if_success (guard_hyp hq :ₛ true = true)) <;> (fail_if_success (guard_hyp hq :ₛ false = false)) <;> first | (exfalso; cases hq; done) | (exfalso; simp only [decide_eq_true_eq, decide_eq_false_iff_not, beq_iff_eq, beq_eq_false_iff_ne, ne_eq, Int.not_lt, Int.not_le] at hq; omega) | simp only [Act.put, List.setIfInBounds_toArray, List.set_cons_succ, List.set_cons_zero]))); all_goals (refine Mix.lex_nil ?_)) | (refine Mix.wp_still (by kernel_rfl) (by kernel_rfl) ?_; (repeat' (first | (refine Mix.lex_quiet0 rfl rfl rfl ?_; intro K hK; go_big_quiet_op; go_big_quiet_on) | (refine Mix.lex_quietG rfl rfl rfl (by with_reducible rfl) rfl rfl ?_; intro K hK; go_big_quiet_op; go_big_quiet_on) | ((first | refine Mix.lex_skipT rfl rfl rfl (by with_reducible rfl) ?_ | refine Mix.lex_skipF rfl rfl rfl (by with_reducible rfl) ?_ | refine Mix.lex_skipU rfl rfl rfl (by with_reducible rfl) ?_); simp only [Act.put, List.setIfInBounds_toArray, List.set_cons_succ, List.set_cons_zero]) | (refine Mix.lex_part rfl rfl rfl rfl (fun hq => ?_) (fun hq => ?_) <;> (fail_if_success (guard_hyp hq :ₛ true = true)) <;> (fail_if_success (guard_hyp hq :ₛ false = false)) <;> first | (exfalso; cases hq; done) | (exfalso; simp only [decide_eq_true_eq, decide_eq_false_iff_not, beq_iff_eq, beq_eq_false_iff_ne, ne_eq, Int.not_lt, Int.not_le] at hq; omega) | simp only [Act.put, List.setIfInBounds_toArray, List.set_cons_succ, List.set_cons_zero]))); all_goals (refine Mix.lex_nil ?_)))
              go_ret
              exact ⟨rfl, HX0.out.then_ext ν5.h⟩
    · have HE := Lib.hid (errV_pos hbb)
      rw [errV_pos hbb] at CB
      clear hbb HE
      ((first | refine Mix.lex_goes0 rfl rfl ?_ | refine Mix.lex_goesG rfl rfl rfl (by with_reducible rfl) rfl ?_); intro K hK; go_simp); refine (CB.out _ ξ4.h).mono ?_; rintro e uu ⟨rfl, hu⟩; obtain ⟨ξ5, hnew⟩ : ∃ ξ : X w0 No, ξ.v = uu := ⟨⟨uu, ξ4.h.then_ext hu⟩, rfl⟩; subst hnew; have Hξ5 := Lib.hid hu; refine ⟨_, rfl, hK _ _ (fun _ => ⟨ξ5, rfl⟩) ?_⟩; clear hK K hu; simp only [Act.put, List.setIfInBounds_toArray, List.set_cons_succ, List.set_cons_zero]; (repeat' (first | (refine Mix.lex_quiet0 rfl rfl rfl ?_; intro K hK; go_big_quiet_op; go_big_quiet_on) | (refine Mix.lex_quietG rfl rfl rfl (by with_reducible rfl) rfl rfl ?_; intro K hK; go_big_quiet_op; go_big_quiet_on) | ((first | refine Mix.lex_skipT rfl rfl rfl (by with_reducible rfl) ?_ | refine Mix.lex_skipF rfl rfl rfl (by with_reducible rfl) ?_ | refine Mix.lex_skipU rfl rfl rfl (by with_reducible rfl) ?_); simp only [Act.put, List.setIfInBounds_toArray, List.set_cons_succ, List.set_cons_zero]) | (refine Mix.lex_part rfl rfl rfl rfl (fun hq => ?_) (fun hq => ?_) <;> (fail_if_success (guard_hyp hq :ₛ true = true)) <;> (fail_if_success (guard_hyp hq :ₛ false = false)) <;> first | (exfalso; cases hq; done) | (exfalso; simp only [decide_eq_true_eq, decide_eq_false_iff_not, beq_iff_eq, beq_eq_false_iff_ne, ne_eq, Int.not_lt, Int.not_le] at hq; omega) | simp only [Act.put, List.setIfInBounds_toArray, List.set_cons_succ, List.set_cons_zero])))
      refine Mix.lex_nil ?_
      go_wp2_with (first | (refine Mix.wpList_guarded rfl ?_; (repeat' (first | (refine Mix.lex_quiet0 rfl rfl rfl ?_; intro K hK; go_big_quiet_op; go_big_quiet_on) | (refine Mix.lex_quietG rfl rfl rfl (by with_reducible rfl) rfl rfl ?_; intro K hK; go_big_quiet_op; go_big_quiet_on) | ((first | refine Mix.lex_skipT rfl rfl rfl (by with_reducible rfl) ?_ | refine Mix.lex_skipF rfl rfl rfl (by with_reducible rfl) ?_ | refine Mix.lex_skipU rfl rfl rfl (by with_reducible rfl) ?_); simp only [Act.put, List.setIfInBounds_toArray, List.set_cons_succ, List.set_cons_zero]) | (refine Mix.lex_part rfl rfl rfl rfl (fun hq => ?_) (fun hq => ?_) <;> (fail_if_success (guard_hyp hq :ₛ true = true)) <;> (fail_if_success (guard_hyp hq :ₛ false = false)) <;> first | (exfalso; cases hq; done) | (exfalso; simp only [decide_eq_true_eq, decide_eq_false_iff_not, beq_iff_eq, beq_eq_false_iff_ne, ne_eq, Int.not_lt, Int.not_le] at hq; omega) | simp only [Act.put, List.setIfInBounds_toArray, List.set_cons_succ, List.set_cons_zero]))); all_goals (refine Mix.lex_nil ?_)) | (refine Mix.wp_still (by kernel_rfl) (by kernel_rfl) ?_; (repeat' (first | (refine Mix.lex_quiet0 rfl rfl rfl ?_; intro K hK; go_big_quiet_op; go_big_quiet_on) | (refine Mix.lex_quietG rfl rfl rfl (by with_reducible rfl) rfl rfl ?_; intro K hK; go_big_quiet_op; go_big_quiet_on) | ((first | refine Mix.lex_skipT rfl rfl rfl (by with_reducible rfl) ?_ | refine Mix.lex_skipF rfl rfl rfl (by with_reducible rfl) ?_ | refine Mix.lex_skipU rfl rfl rfl (by with_reducible rfl) ?_); simp only [Act.put, List.setIfInBounds_toArray, List.set_cons_succ, List.set_cons_zero]) | (refine Mix.lex_part rfl rfl rfl rfl (fun hq => ?_) (fun hq => ?_) <;> (fail_if_success (guard_hyp hq :ₛ true = true)) <;> (fail_if_success (guard_hyp hq :ₛ false = false)) <;> first | (exfalso; cases hq; done) | (exfalso; simp only [decide_eq_true_eq, decide_eq_false_iff_not, beq_iff_eq, beq_eq_false_iff_ne, ne_eq, Int.not_lt, Int.not_le] at hq; omega) | simp only [Act.put, List.setIfInBounds_toArray, List.set_cons_succ, List.set_cons_zero]))); all_goals (refine Mix.lex_nil ?_)))
      go_ret
      exact ⟨rfl, HX0.out.then_ext ξ5.h⟩
  · rw [errV_pos hba] at CA
    clear hba
    ((first | refine Mix.lex_goes0 rfl rfl ?_ | refine Mix.lex_goesG rfl rfl rfl (by with_reducible rfl) rfl ?_); intro K hK; go_simp); refine (CA.out _ ξ3.h).mono ?_; rintro e uu ⟨rfl, hu⟩; obtain ⟨ξ4, hnew⟩ : ∃ ξ : X w0 No, ξ.v = uu := ⟨⟨uu, ξ3.h.then_ext hu⟩, rfl⟩; subst hnew; have Hξ4 := Lib.hid hu; refine ⟨_, rfl, hK _ _ (fun _ => ⟨ξ4, rfl⟩) ?_⟩; clear hK K hu; simp only [Act.put, List.setIfInBounds_toArray, List.set_cons_succ, List.set_cons_zero]; (repeat' (first | (refine Mix.lex_quiet0 rfl rfl rfl ?_; intro K hK; go_big_quiet_op; go_big_quiet_on) | (refine Mix.lex_quietG rfl rfl rfl (by with_reducible rfl) rfl rfl ?_; intro K hK; go_big_quiet_op; go_big_quiet_on) | ((first | refine Mix.lex_skipT rfl rfl rfl (by with_reducible rfl) ?_ | refine Mix.lex_skipF rfl rfl rfl (by with_reducible rfl) ?_ | refine Mix.lex_skipU rfl rfl rfl (by with_reducible rfl) ?_); simp only [Act.put, List.setIfInBounds_toArray, List.set_cons_succ, List.set_cons_zero]) | (refine Mix.lex_part rfl rfl rfl rfl (fun hq => ?_) (fun hq => ?_) <;> (fail_if_success (guard_hyp hq :ₛ true = true)) <;> (fail_if_success (guard_hyp hq :ₛ false = false)) <;> first | (exfalso; cases hq; done) | (exfalso; simp only [decide_eq_true_eq, decide_eq_false_iff_not, beq_iff_eq, beq_eq_false_iff_ne, ne_eq, Int.not_lt, Int.not_le] at hq; omega) | simp only [Act.put, List.setIfInBounds_toArray, List.set_cons_succ, List.set_cons_zero])))
    refine Mix.lex_nil ?_
    go_wp2_with (first | (refine Mix.wpList_guarded rfl ?_; (repeat' (first | (refine Mix.lex_quiet0 rfl rfl rfl ?_; intro K hK; go_big_quiet_op; go_big_quiet_on) | (refine Mix.lex_quietG rfl rfl rfl (by with_reducible rfl) rfl rfl ?_; intro K hK; go_big_quiet_op; go_big_quiet_on) | ((first | refine Mix.lex_skipT rfl rfl rfl (by with_reducible rfl) ?_ | refine Mix.lex_skipF rfl rfl rfl (by with_reducible rfl) ?_ | refine Mix.lex_skipU rfl rfl rfl (by with_reducible rfl) ?_); simp only [Act.put, List.setIfInBounds_toArray, List.set_cons_succ, List.set_cons_zero]) | (refine Mix.lex_part rfl rfl rfl rfl (fun hq => ?_) (fun hq => ?_) <;> (fail_if_success (guard_hyp hq :ₛ true = true)) <;> (fail_if_success (guard_hyp hq :ₛ false = false)) <;> first | (exfalso; cases hq; done) | (exfalso; simp only [decide_eq_true_eq, decide_eq_false_iff_not, beq_iff_eq, beq_eq_false_iff_ne, ne_eq, Int.not_lt, Int.not_le] at hq; omega) | simp only [Act.put, List.setIfInBounds_toArray, List.set_cons_succ, List.set_cons_zero]))); all_goals (refine Mix.lex_nil ?_)) | (refine Mix.wp_still (by kernel_rfl) (by kernel_rfl) ?_; (repeat' (first | (refine Mix.lex_quiet0 rfl rfl rfl ?_; intro K hK; go_big_quiet_op; go_big_quiet_on) | (refine Mix.lex_quietG rfl rfl rfl (by with_reducible rfl) rfl rfl ?_; intro K hK; go_big_quiet_op; go_big_quiet_on) | ((first | refine Mix.lex_skipT rfl rfl rfl (by with_reducible rfl) ?_ | refine Mix.lex_skipF rfl rfl rfl (by with_reducible rfl) ?_ | refine Mix.lex_skipU rfl rfl rfl (by with_reducible rfl) ?_); simp only [Act.put, List.setIfInBounds_toArray, List.set_cons_succ, List.set_cons_zero]) | (refine Mix.lex_part rfl rfl rfl rfl (fun hq => ?_) (fun hq => ?_) <;> (fail_if_success (guard_hyp hq :ₛ true = true)) <;> (fail_if_success (guard_hyp hq :ₛ false = false)) <;> first | (exfalso; cases hq; done) | (exfalso; simp only [decide_eq_true_eq, decide_eq_false_iff_not, beq_iff_eq, beq_eq_false_iff_ne, ne_eq, Int.not_lt, Int.not_le] at hq; omega) | simp only [Act.put, List.setIfInBounds_toArray, List.set_cons_succ, List.set_cons_zero]))); all_goals (refine Mix.lex_nil ?_)))
    go_ret
    exact ⟨rfl, HX0.out.then_ext ξ4.h⟩
end Go.Proofs.Ytgdabmfdfgdlkaa
