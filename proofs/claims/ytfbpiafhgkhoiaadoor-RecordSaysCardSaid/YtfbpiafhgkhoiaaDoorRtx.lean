/- The document's Decimal and RecordText. -/
import Derived.Test.YtfbpiafhgkhoiaaDoorEnv
import Derived.Lib.ItoaLen
import Derived.Test.YtfbpiafhgkhoiaaDoorByt
import Derived.Test.YtfbpiafhgkhoiaaDoorTree
import Derived.Test.YtfbpiafhgkhoiaaDoorRcd
import Derived.Test.YtfbpiafhgkhoiaaDoorPrs
namespace Go.Proofs.YtfbpiafhgkhoiaaDoor
open Go Go.RowKit
theorem conv1 {w : World} {b : Nat} {a : Int} (h : w.cell? ⟨b, 0, none⟩ = some (.int .u8 a)) : (convert 70 9 (.slice (some ⟨b, 0, none⟩) 1 1)).run Tryd.prog w = .ok (S [bt a]) w := by
  rw [run_convert_bytes_arg _ 70 5 Tryd.underlying70 Tryd.underlying5 b 0 1 1 [a] rfl (fun i hi => ?_) 9 Tryd.underlying9]
  · rfl
  · match i, hi with
    | 0, _ => exact h
theorem bt_nat (n : Nat) : bt (48 + (n : Int)) = UInt8.ofNat (48 + n) := by
  unfold bt
  congr 1
set_option maxRecDepth 100000 in
set_option maxHeartbeats 2000000 in
theorem Decimal_c : ∀ (k n : Nat), n < k → n ≤ 1000000 → ∀ w : World, Calls Tryd.prog 30 #[.int .i64 (n : Int)] w fun e w' => e = .returned (S (Lib.itoa (n : Int))) ∧ Ext w w'
  | 0, n, h, _, w => absurd h (Nat.not_lt_zero _)
  | k + 1, n, hk, hn, w => by
    have g0 : decide ((n : Int) < 0) = false := by rw [decide_eq_false_iff_not]; omega
    by_cases h1 : n < 10
    · have g1 : decide ((n : Int) < 10) = true := by rw [decide_eq_true_iff]; omega
      have HI : Hid (Lib.itoa (n : Int) = [UInt8.ofNat (48 + n)]) := by rw [Hid, Lib.itoa_nonneg, Lib.decDigits, dif_pos h1]
      go_enter Tryd.func30, Tryd.ntmps30
      go_wp2_with (first | (refine Mix.wpList_guarded rfl ?_; (repeat' (first | (refine Mix.lex_quiet0 rfl rfl rfl ?_; intro K hK; go_big_quiet_op; go_big_quiet_on) | (refine Mix.lex_quietG rfl rfl rfl (by with_reducible rfl) rfl rfl ?_; intro K hK; go_big_quiet_op; go_big_quiet_on) | ((first | refine Mix.lex_skipT rfl rfl rfl (by with_reducible rfl) ?_ | refine Mix.lex_skipF rfl rfl rfl (by with_reducible rfl) ?_ | refine Mix.lex_skipU rfl rfl rfl (by with_reducible rfl) ?_); simp only [Act.put, List.setIfInBounds_toArray, List.set_cons_succ, List.set_cons_zero]) | (refine Mix.lex_part rfl rfl rfl rfl (fun hq => ?_) (fun hq => ?_) <;> (fail_if_success (guard_hyp hq :ₛ true = true)) <;> (fail_if_success (guard_hyp hq :ₛ false = false)) <;> first | (exfalso; cases hq; done) | (exfalso; simp only [decide_eq_true_eq, decide_eq_false_iff_not, beq_iff_eq, beq_eq_false_iff_ne, ne_eq, Int.not_lt, Int.not_le] at hq; omega) | simp only [Act.put, List.setIfInBounds_toArray, List.set_cons_succ, List.set_cons_zero]))); all_goals (refine Mix.lex_nil ?_)) | (refine Mix.wp_still (by kernel_rfl) (by kernel_rfl) ?_; (repeat' (first | (refine Mix.lex_quiet0 rfl rfl rfl ?_; intro K hK; go_big_quiet_op; go_big_quiet_on) | (refine Mix.lex_quietG rfl rfl rfl (by with_reducible rfl) rfl rfl ?_; intro K hK; go_big_quiet_op; go_big_quiet_on) | ((first | refine Mix.lex_skipT rfl rfl rfl (by with_reducible rfl) ?_ | refine Mix.lex_skipF rfl rfl rfl (by with_reducible rfl) ?_ | refine Mix.lex_skipU rfl rfl rfl (by with_reducible rfl) ?_); simp only [Act.put, List.setIfInBounds_toArray, List.set_cons_succ, List.set_cons_zero]) | (refine Mix.lex_part rfl rfl rfl rfl (fun hq => ?_) (fun hq => ?_) <;> (fail_if_success (guard_hyp hq :ₛ true = true)) <;> (fail_if_success (guard_hyp hq :ₛ false = false)) <;> first | (exfalso; cases hq; done) | (exfalso; simp only [decide_eq_true_eq, decide_eq_false_iff_not, beq_iff_eq, beq_eq_false_iff_ne, ne_eq, Int.not_lt, Int.not_le] at hq; omega) | simp only [Act.put, List.setIfInBounds_toArray, List.set_cons_succ, List.set_cons_zero]))); all_goals (refine Mix.lex_nil ?_)))
      go_ret
      exact ⟨by rw [HI.out, ← bt_nat]; rfl, (Only.refl No w).alloc _⟩
    · have g1 : decide ((n : Int) < 10) = false := by rw [decide_eq_false_iff_not]; omega
      have HI : Hid (Lib.itoa (n : Int) = Lib.itoa ((n / 10 : Nat) : Int) ++ [UInt8.ofNat (48 + n % 10)]) := by rw [Hid, Lib.itoa_nonneg, Lib.decDigits, dif_neg h1, Lib.itoa_nonneg]
      have HD := Lib.hid (Decimal_c k (n / 10) (by omega) (by omega))
      go_enter Tryd.func30, Tryd.ntmps30
      have hil := Lib.itoa_length_le ((n / 10 : Nat) : Int) (by omega) (by omega)
      generalize Lib.itoa ((n / 10 : Nat) : Int) = il at HI HD hil
      have HI2 : Hid (Lib.itoa (n : Int) = il ++ [bt (48 + (n : Int) % 10)]) := by
        rw [Hid, HI.out, show (48 : Int) + (n : Int) % 10 = 48 + ((n % 10 : Nat) : Int) by omega, bt_nat]
      have HD2 : Hid (∀ w : World, Calls Tryd.prog 30 #[.int .i64 ((n : Int) / 10)] w fun e w' => e = .returned (S il) ∧ Ext w w') := by
        have := HD.out
        rw [show ((n / 10 : Nat) : Int) = (n : Int) / 10 by omega] at this
        exact this
      clear HI HD
      generalize Lib.itoa (n : Int) = R at HI2 ⊢
      go_upto_region 5 with fail
      refine Mix.wp_tree 11 [2, 7, 8] (Cl w No) rfl (by kernel_rfl) (by kernel_rfl) (Cl.of (Only.refl _ _).drew) ?_
      obtain ⟨μ0, hμ0⟩ : ∃ μ0 : X w No, μ0.v = w.drew := ⟨⟨_, (Only.refl _ _).drew⟩, rfl⟩
      rw [← hμ0]
      clear hμ0
      (refine Mix.tree_quiet (i := 0) (by kernel_rfl) rfl rfl rfl rfl ?_; intro K hK; go_big_quiet_op; go_big_quiet_on); (refine Mix.tree_quiet (i := 1) (by kernel_rfl) rfl rfl rfl rfl ?_; intro K hK; go_big_quiet_op; go_big_quiet_on); (refine Mix.tree_quiet (i := 3) (by kernel_rfl) rfl rfl rfl rfl ?_; intro K hK; go_big_quiet_op; go_big_quiet_on); (refine Mix.tree_quiet (i := 4) (by kernel_rfl) rfl rfl rfl rfl ?_; intro K hK; go_big_quiet_op; go_big_quiet_on); (refine Mix.tree_quiet (i := 5) (by kernel_rfl) rfl rfl rfl rfl ?_; intro K hK; go_big_quiet_op; go_big_quiet_on); (refine Mix.tree_quiet (i := 6) (by kernel_rfl) rfl rfl rfl rfl ?_; intro K hK; go_big_quiet_op; go_big_quiet_on)
      refine Mix.tree_two (i := 2) (j := 7) (by kernel_rfl) (by kernel_rfl) rfl rfl rfl rfl rfl rfl ?_ ?_
      · intro K hK
        go_simp
        refine (HD2.out _).mono ?_
        rintro e u ⟨rfl, hu⟩
        obtain ⟨μ1, rfl⟩ : ∃ ξ : X w No, u = ξ.v := ⟨⟨u, μ0.h.then_ext hu⟩, rfl⟩
        refine ⟨_, rfl, hK _ _ ⟨μ1, rfl⟩ ?_⟩
        clear hK K hu
        simp only [Act.put, List.setIfInBounds_toArray, List.set_cons_succ, List.set_cons_zero]
        obtain ⟨v2, hv2⟩ : ∃ u, u = μ1.v.alloc (.cells #[.int .u8 (48 + (n : Int) % 10)] 5) := ⟨_, rfl⟩
        (refine Mix.tree_one (i := 7) (by kernel_rfl) (by kernel_rfl) rfl rfl rfl ?_; intro K hK; go_simp)
        rw [← hv2]
        have hc2 : v2.cell? ⟨μ1.v.heap.size, 0, none⟩ = some (.int .u8 (48 + (n : Int) % 10)) := by rw [hv2]; exact (Cs.new μ1.v 5 #[.int .u8 (48 + (n : Int) % 10)]).cell 0
        obtain ⟨μ2, hμ2⟩ : ∃ ξ : X w No, v2 = ξ.v := ⟨⟨v2, by rw [hv2]; exact μ1.h.alloc _⟩, rfl⟩
        refine hK _ _ ⟨μ2, hμ2⟩ ?_
        clear hK K hv2
        subst hμ2
        have hcv := conv1 hc2
        clear hc2
        simp only [Act.put, List.setIfInBounds_toArray, List.set_cons_succ, List.set_cons_zero]
        (refine Mix.tree_one (i := 8) (by kernel_rfl) (by kernel_rfl) rfl rfl rfl ?_; intro K hK; go_simp)
        refine hK _ _ ⟨μ2, rfl⟩ ?_
        clear hK K hcv
        simp only [Act.put, List.setIfInBounds_toArray, List.set_cons_succ, List.set_cons_zero]
        (refine Mix.tree_quiet (i := 9) (by kernel_rfl) rfl rfl rfl rfl ?_; intro K hK; go_big_quiet_op; go_big_quiet_on); (refine Mix.tree_quiet (i := 10) (by kernel_rfl) rfl rfl rfl rfl ?_; intro K hK; go_big_quiet_op; go_big_quiet_on)
        refine Mix.tree_nil ?_
        go_wp2_with (first | (refine Mix.wpList_guarded rfl ?_; (repeat' (first | (refine Mix.lex_quiet0 rfl rfl rfl ?_; intro K hK; go_big_quiet_op; go_big_quiet_on) | (refine Mix.lex_quietG rfl rfl rfl (by with_reducible rfl) rfl rfl ?_; intro K hK; go_big_quiet_op; go_big_quiet_on) | ((first | refine Mix.lex_skipT rfl rfl rfl (by with_reducible rfl) ?_ | refine Mix.lex_skipF rfl rfl rfl (by with_reducible rfl) ?_ | refine Mix.lex_skipU rfl rfl rfl (by with_reducible rfl) ?_); simp only [Act.put, List.setIfInBounds_toArray, List.set_cons_succ, List.set_cons_zero]) | (refine Mix.lex_part rfl rfl rfl rfl (fun hq => ?_) (fun hq => ?_) <;> (fail_if_success (guard_hyp hq :ₛ true = true)) <;> (fail_if_success (guard_hyp hq :ₛ false = false)) <;> first | (exfalso; cases hq; done) | (exfalso; simp only [decide_eq_true_eq, decide_eq_false_iff_not, beq_iff_eq, beq_eq_false_iff_ne, ne_eq, Int.not_lt, Int.not_le] at hq; omega) | simp only [Act.put, List.setIfInBounds_toArray, List.set_cons_succ, List.set_cons_zero]))); all_goals (refine Mix.lex_nil ?_)) | (refine Mix.wp_still (by kernel_rfl) (by kernel_rfl) ?_; (repeat' (first | (refine Mix.lex_quiet0 rfl rfl rfl ?_; intro K hK; go_big_quiet_op; go_big_quiet_on) | (refine Mix.lex_quietG rfl rfl rfl (by with_reducible rfl) rfl rfl ?_; intro K hK; go_big_quiet_op; go_big_quiet_on) | ((first | refine Mix.lex_skipT rfl rfl rfl (by with_reducible rfl) ?_ | refine Mix.lex_skipF rfl rfl rfl (by with_reducible rfl) ?_ | refine Mix.lex_skipU rfl rfl rfl (by with_reducible rfl) ?_); simp only [Act.put, List.setIfInBounds_toArray, List.set_cons_succ, List.set_cons_zero]) | (refine Mix.lex_part rfl rfl rfl rfl (fun hq => ?_) (fun hq => ?_) <;> (fail_if_success (guard_hyp hq :ₛ true = true)) <;> (fail_if_success (guard_hyp hq :ₛ false = false)) <;> first | (exfalso; cases hq; done) | (exfalso; simp only [decide_eq_true_eq, decide_eq_false_iff_not, beq_iff_eq, beq_eq_false_iff_ne, ne_eq, Int.not_lt, Int.not_le] at hq; omega) | simp only [Act.put, List.setIfInBounds_toArray, List.set_cons_succ, List.set_cons_zero]))); all_goals (refine Mix.lex_nil ?_)))
        go_ret
        exact ⟨by rw [HI2.out]; rfl, μ2.h⟩
      · intro K hK
        obtain ⟨v1, hv1⟩ : ∃ u, u = μ0.v.alloc (.cells #[.int .u8 (48 + (n : Int) % 10)] 5) := ⟨_, rfl⟩
        go_simp
        rw [← hv1]
        have hc1 : Cs v1 μ0.v.heap.size 5 #[.int .u8 (48 + (n : Int) % 10)] := by rw [hv1]; exact Cs.new _ _ _
        obtain ⟨μ1, hμ1⟩ : ∃ ξ : X w No, v1 = ξ.v := ⟨⟨v1, by rw [hv1]; exact μ0.h.alloc _⟩, rfl⟩
        refine hK _ _ ⟨μ1, hμ1⟩ ?_
        clear hK K hv1
        subst hμ1
        have HC := Lib.hid hc1
        clear hc1
        simp only [Act.put, List.setIfInBounds_toArray, List.set_cons_succ, List.set_cons_zero]
        refine Mix.tree_two (i := 2) (j := 8) (by kernel_rfl) (by kernel_rfl) rfl rfl rfl rfl rfl rfl ?_ ?_
        · intro K hK
          go_simp
          refine (HD2.out _).mono ?_
          rintro e u ⟨rfl, hu⟩
          have hcv := conv1 ((HC.out.keep hu id).cell 0)
          obtain ⟨μ2, rfl⟩ : ∃ ξ : X w No, u = ξ.v := ⟨⟨u, μ1.h.then_ext hu⟩, rfl⟩
          refine ⟨_, rfl, hK _ _ ⟨μ2, rfl⟩ ?_⟩
          clear hK K hu
          simp only [Act.put, List.setIfInBounds_toArray, List.set_cons_succ, List.set_cons_zero]
          (refine Mix.tree_one (i := 8) (by kernel_rfl) (by kernel_rfl) rfl rfl rfl ?_; intro K hK; go_simp)
          refine hK _ _ ⟨μ2, rfl⟩ ?_
          clear hK K hcv
          simp only [Act.put, List.setIfInBounds_toArray, List.set_cons_succ, List.set_cons_zero]
          (refine Mix.tree_quiet (i := 9) (by kernel_rfl) rfl rfl rfl rfl ?_; intro K hK; go_big_quiet_op; go_big_quiet_on); (refine Mix.tree_quiet (i := 10) (by kernel_rfl) rfl rfl rfl rfl ?_; intro K hK; go_big_quiet_op; go_big_quiet_on)
          refine Mix.tree_nil ?_
          go_wp2_with (first | (refine Mix.wpList_guarded rfl ?_; (repeat' (first | (refine Mix.lex_quiet0 rfl rfl rfl ?_; intro K hK; go_big_quiet_op; go_big_quiet_on) | (refine Mix.lex_quietG rfl rfl rfl (by with_reducible rfl) rfl rfl ?_; intro K hK; go_big_quiet_op; go_big_quiet_on) | ((first | refine Mix.lex_skipT rfl rfl rfl (by with_reducible rfl) ?_ | refine Mix.lex_skipF rfl rfl rfl (by with_reducible rfl) ?_ | refine Mix.lex_skipU rfl rfl rfl (by with_reducible rfl) ?_); simp only [Act.put, List.setIfInBounds_toArray, List.set_cons_succ, List.set_cons_zero]) | (refine Mix.lex_part rfl rfl rfl rfl (fun hq => ?_) (fun hq => ?_) <;> (fail_if_success (guard_hyp hq :ₛ true = true)) <;> (fail_if_success (guard_hyp hq :ₛ false = false)) <;> first | (exfalso; cases hq; done) | (exfalso; simp only [decide_eq_true_eq, decide_eq_false_iff_not, beq_iff_eq, beq_eq_false_iff_ne, ne_eq, Int.not_lt, Int.not_le] at hq; omega) | simp only [Act.put, List.setIfInBounds_toArray, List.set_cons_succ, List.set_cons_zero]))); all_goals (refine Mix.lex_nil ?_)) | (refine Mix.wp_still (by kernel_rfl) (by kernel_rfl) ?_; (repeat' (first | (refine Mix.lex_quiet0 rfl rfl rfl ?_; intro K hK; go_big_quiet_op; go_big_quiet_on) | (refine Mix.lex_quietG rfl rfl rfl (by with_reducible rfl) rfl rfl ?_; intro K hK; go_big_quiet_op; go_big_quiet_on) | ((first | refine Mix.lex_skipT rfl rfl rfl (by with_reducible rfl) ?_ | refine Mix.lex_skipF rfl rfl rfl (by with_reducible rfl) ?_ | refine Mix.lex_skipU rfl rfl rfl (by with_reducible rfl) ?_); simp only [Act.put, List.setIfInBounds_toArray, List.set_cons_succ, List.set_cons_zero]) | (refine Mix.lex_part rfl rfl rfl rfl (fun hq => ?_) (fun hq => ?_) <;> (fail_if_success (guard_hyp hq :ₛ true = true)) <;> (fail_if_success (guard_hyp hq :ₛ false = false)) <;> first | (exfalso; cases hq; done) | (exfalso; simp only [decide_eq_true_eq, decide_eq_false_iff_not, beq_iff_eq, beq_eq_false_iff_ne, ne_eq, Int.not_lt, Int.not_le] at hq; omega) | simp only [Act.put, List.setIfInBounds_toArray, List.set_cons_succ, List.set_cons_zero]))); all_goals (refine Mix.lex_nil ?_)))
          go_ret
          exact ⟨by rw [HI2.out]; rfl, μ2.h⟩
        · intro K hK
          have hcv := conv1 (HC.out.cell 0)
          go_simp
          refine hK _ _ ⟨μ1, rfl⟩ ?_
          clear hK K hcv
          simp only [Act.put, List.setIfInBounds_toArray, List.set_cons_succ, List.set_cons_zero]
          (refine Mix.tree_one (i := 2) (by kernel_rfl) (by kernel_rfl) rfl rfl rfl ?_; intro K hK; go_simp)
          refine (HD2.out _).mono ?_
          rintro e u ⟨rfl, hu⟩
          obtain ⟨μ2, rfl⟩ : ∃ ξ : X w No, u = ξ.v := ⟨⟨u, μ1.h.then_ext hu⟩, rfl⟩
          refine ⟨_, rfl, hK _ _ ⟨μ2, rfl⟩ ?_⟩
          clear hK K hu
          simp only [Act.put, List.setIfInBounds_toArray, List.set_cons_succ, List.set_cons_zero]
          (refine Mix.tree_quiet (i := 9) (by kernel_rfl) rfl rfl rfl rfl ?_; intro K hK; go_big_quiet_op; go_big_quiet_on); (refine Mix.tree_quiet (i := 10) (by kernel_rfl) rfl rfl rfl rfl ?_; intro K hK; go_big_quiet_op; go_big_quiet_on)
          refine Mix.tree_nil ?_
          go_wp2_with (first | (refine Mix.wpList_guarded rfl ?_; (repeat' (first | (refine Mix.lex_quiet0 rfl rfl rfl ?_; intro K hK; go_big_quiet_op; go_big_quiet_on) | (refine Mix.lex_quietG rfl rfl rfl (by with_reducible rfl) rfl rfl ?_; intro K hK; go_big_quiet_op; go_big_quiet_on) | ((first | refine Mix.lex_skipT rfl rfl rfl (by with_reducible rfl) ?_ | refine Mix.lex_skipF rfl rfl rfl (by with_reducible rfl) ?_ | refine Mix.lex_skipU rfl rfl rfl (by with_reducible rfl) ?_); simp only [Act.put, List.setIfInBounds_toArray, List.set_cons_succ, List.set_cons_zero]) | (refine Mix.lex_part rfl rfl rfl rfl (fun hq => ?_) (fun hq => ?_) <;> (fail_if_success (guard_hyp hq :ₛ true = true)) <;> (fail_if_success (guard_hyp hq :ₛ false = false)) <;> first | (exfalso; cases hq; done) | (exfalso; simp only [decide_eq_true_eq, decide_eq_false_iff_not, beq_iff_eq, beq_eq_false_iff_ne, ne_eq, Int.not_lt, Int.not_le] at hq; omega) | simp only [Act.put, List.setIfInBounds_toArray, List.set_cons_succ, List.set_cons_zero]))); all_goals (refine Mix.lex_nil ?_)) | (refine Mix.wp_still (by kernel_rfl) (by kernel_rfl) ?_; (repeat' (first | (refine Mix.lex_quiet0 rfl rfl rfl ?_; intro K hK; go_big_quiet_op; go_big_quiet_on) | (refine Mix.lex_quietG rfl rfl rfl (by with_reducible rfl) rfl rfl ?_; intro K hK; go_big_quiet_op; go_big_quiet_on) | ((first | refine Mix.lex_skipT rfl rfl rfl (by with_reducible rfl) ?_ | refine Mix.lex_skipF rfl rfl rfl (by with_reducible rfl) ?_ | refine Mix.lex_skipU rfl rfl rfl (by with_reducible rfl) ?_); simp only [Act.put, List.setIfInBounds_toArray, List.set_cons_succ, List.set_cons_zero]) | (refine Mix.lex_part rfl rfl rfl rfl (fun hq => ?_) (fun hq => ?_) <;> (fail_if_success (guard_hyp hq :ₛ true = true)) <;> (fail_if_success (guard_hyp hq :ₛ false = false)) <;> first | (exfalso; cases hq; done) | (exfalso; simp only [decide_eq_true_eq, decide_eq_false_iff_not, beq_iff_eq, beq_eq_false_iff_ne, ne_eq, Int.not_lt, Int.not_le] at hq; omega) | simp only [Act.put, List.setIfInBounds_toArray, List.set_cons_succ, List.set_cons_zero]))); all_goals (refine Mix.lex_nil ?_)))
          go_ret
          exact ⟨by rw [HI2.out]; rfl, μ2.h⟩
set_option maxRecDepth 100000 in
set_option maxHeartbeats 4000000 in
theorem RecordText_c {w : World} {v : RcdV} {r : Rcd} (h : RcdR w v r) (hl : r.Lim) :
    Calls Tryd.prog 14 #[rcdV v r] w fun e w' => e = .returned (S (recT r)) ∧ Ext w w' := by
  obtain ⟨cA, cc, nA, nc, oA, oc⟩ := v
  obtain ⟨w0, hw0⟩ : ∃ w0, w0 = w.alloc (.cells (rcdCs ⟨cA, cc, nA, nc, oA, oc⟩ r) rcT) := ⟨_, rfl⟩
  have hx0 : Ext w w0 := by rw [hw0]; exact (Only.refl No w).alloc _
  have hB : Cs w0 w.heap.size rcT (rcdCs ⟨cA, cc, nA, nc, oA, oc⟩ r) := by rw [hw0]; exact Cs.new _ _ _
  have d0 : ∀ ξ : X w0 No, ξ.v.cell? ⟨w.heap.size, 0, none⟩ = some (.slice cA r.cmds.length cc) := hB.x id 0
  have d1 : ∀ ξ : X w0 No, ξ.v.cell? ⟨w.heap.size, 1, none⟩ = some (.slice nA r.needs.length nc) := hB.x id 1
  have d2 : ∀ ξ : X w0 No, ξ.v.cell? ⟨w.heap.size, 2, none⟩ = some (.slice oA r.out.length oc) := hB.x id 2
  have HX0 := Lib.hid hx0
  have HR := Lib.hid (h.ext hx0)
  have hlc := hl.c
  have hln := hl.n
  have hlo := hl.o
  have HLc := Lib.hid hl.lc
  have HLn := Lib.hid hl.ln
  have HLo := Lib.hid hl.lo
  have HI : Hid (∀ (n : Nat) v, n ≤ 1000000 → Ext w0 v → Calls Tryd.prog 30 #[.int .i64 (n : Int)] v fun e w' => e = .returned (S (Lib.itoa (n : Int))) ∧ Ext v w') := fun n v hn _ => Decimal_c (n + 1) n (Nat.lt_succ_self _) hn v
  have hi1 := itoa_len r.cmds.length (by omega)
  have hi2 := itoa_len r.needs.length (by omega)
  have hi3 := itoa_len r.out.length (by omega)
  have HI1 := Lib.hid (fun v hv => HI.out r.cmds.length v (by omega) hv)
  have HI2 := Lib.hid (fun v hv => HI.out r.needs.length v (by omega) hv)
  have HI3 := Lib.hid (fun v hv => HI.out r.out.length v (by omega) hv)
  have HH : Hid (hdrT r = Lib.itoa r.cmds.length ++ [32] ++ Lib.itoa r.needs.length ++ [32] ++ Lib.itoa r.out.length) := rfl
  have hhl : (hdrT r).length ≤ 65 := by rw [HH.out]; simp only [List.length_append, List.length_cons, List.length_nil]; omega
  have HT : Hid (recT r = hdrT r ++ r.cmds.flatMap cmdT ++ (r.needs ++ r.out).flatMap filT) := rfl
  generalize hdrT r = hd at HH hhl HT
  generalize Lib.itoa (r.cmds.length : Int) = i1 at HI1 HH hi1
  generalize Lib.itoa (r.needs.length : Int) = i2 at HI2 HH hi2
  generalize Lib.itoa (r.out.length : Int) = i3 at HI3 HH hi3
  generalize recT r = R at HT ⊢
  clear hB hx0 h hl
  unfold rcdCs at hw0
  show Calls _ _ #[.agg #[.slice cA r.cmds.length cc, .slice nA r.needs.length nc, .slice oA r.out.length oc]] _ _
  go_enter Tryd.func14, Tryd.ntmps14
  go_upto_region 1 with fail
  rw [← hw0]
  clear hw0
  obtain ⟨ξ0, hξ0⟩ : ∃ ξ : X w0 No, ξ.v = w0 := ⟨X.here _ _, rfl⟩
  rw [← hξ0]
  clear hξ0
  refine Mix.wp_draw [3, 8, 14] 100 (Cl w0 No) (by kernel_rfl) (by kernel_rfl) (Cl.of ξ0.h.drew) ?_
  obtain ⟨μ0, hμ0⟩ : ∃ μ0 : X w0 No, μ0.v = ξ0.v.drew := ⟨⟨_, ξ0.h.drew⟩, rfl⟩
  rw [← hμ0]
  clear hμ0
  (repeat' (first | (refine Mix.lex_quiet0 rfl rfl rfl ?_; intro K hK; go_big_quiet_op; go_big_quiet_on) | (refine Mix.lex_quietG rfl rfl rfl (by with_reducible rfl) rfl rfl ?_; intro K hK; go_big_quiet_op; go_big_quiet_on) | ((first | refine Mix.lex_skipT rfl rfl rfl (by with_reducible rfl) ?_ | refine Mix.lex_skipF rfl rfl rfl (by with_reducible rfl) ?_ | refine Mix.lex_skipU rfl rfl rfl (by with_reducible rfl) ?_); simp only [Act.put, List.setIfInBounds_toArray, List.set_cons_succ, List.set_cons_zero]) | (refine Mix.lex_part rfl rfl rfl rfl (fun hq => ?_) (fun hq => ?_) <;> (fail_if_success (guard_hyp hq :ₛ true = true)) <;> (fail_if_success (guard_hyp hq :ₛ false = false)) <;> first | (exfalso; cases hq; done) | (exfalso; simp only [decide_eq_true_eq, decide_eq_false_iff_not, beq_iff_eq, beq_eq_false_iff_ne, ne_eq, Int.not_lt, Int.not_le] at hq; omega) | simp only [Act.put, List.setIfInBounds_toArray, List.set_cons_succ, List.set_cons_zero])))
  ((first | refine Mix.lex_goes0 rfl rfl ?_ | refine Mix.lex_goesG rfl rfl rfl (by with_reducible rfl) rfl ?_); intro K hK; go_simp); refine (HI1.out _ μ0.h).mono ?_; rintro e uu ⟨rfl, hu⟩; obtain ⟨μ1, hnew⟩ : ∃ ξ : X w0 No, ξ.v = uu := ⟨⟨uu, μ0.h.then_ext hu⟩, rfl⟩; subst hnew; have Hμ1 := Lib.hid hu; refine ⟨_, rfl, hK _ _ (fun _ => ⟨μ1, rfl⟩) ?_⟩; clear hK K hu; simp only [Act.put, List.setIfInBounds_toArray, List.set_cons_succ, List.set_cons_zero]; (repeat' (first | (refine Mix.lex_quiet0 rfl rfl rfl ?_; intro K hK; go_big_quiet_op; go_big_quiet_on) | (refine Mix.lex_quietG rfl rfl rfl (by with_reducible rfl) rfl rfl ?_; intro K hK; go_big_quiet_op; go_big_quiet_on) | ((first | refine Mix.lex_skipT rfl rfl rfl (by with_reducible rfl) ?_ | refine Mix.lex_skipF rfl rfl rfl (by with_reducible rfl) ?_ | refine Mix.lex_skipU rfl rfl rfl (by with_reducible rfl) ?_); simp only [Act.put, List.setIfInBounds_toArray, List.set_cons_succ, List.set_cons_zero]) | (refine Mix.lex_part rfl rfl rfl rfl (fun hq => ?_) (fun hq => ?_) <;> (fail_if_success (guard_hyp hq :ₛ true = true)) <;> (fail_if_success (guard_hyp hq :ₛ false = false)) <;> first | (exfalso; cases hq; done) | (exfalso; simp only [decide_eq_true_eq, decide_eq_false_iff_not, beq_iff_eq, beq_eq_false_iff_ne, ne_eq, Int.not_lt, Int.not_le] at hq; omega) | simp only [Act.put, List.setIfInBounds_toArray, List.set_cons_succ, List.set_cons_zero])))
  ((first | refine Mix.lex_goes0 rfl rfl ?_ | refine Mix.lex_goesG rfl rfl rfl (by with_reducible rfl) rfl ?_); intro K hK; go_simp); refine (HI2.out _ μ1.h).mono ?_; rintro e uu ⟨rfl, hu⟩; obtain ⟨μ2, hnew⟩ : ∃ ξ : X w0 No, ξ.v = uu := ⟨⟨uu, μ1.h.then_ext hu⟩, rfl⟩; subst hnew; have Hμ2 := Lib.hid hu; refine ⟨_, rfl, hK _ _ (fun _ => ⟨μ2, rfl⟩) ?_⟩; clear hK K hu; simp only [Act.put, List.setIfInBounds_toArray, List.set_cons_succ, List.set_cons_zero]; (repeat' (first | (refine Mix.lex_quiet0 rfl rfl rfl ?_; intro K hK; go_big_quiet_op; go_big_quiet_on) | (refine Mix.lex_quietG rfl rfl rfl (by with_reducible rfl) rfl rfl ?_; intro K hK; go_big_quiet_op; go_big_quiet_on) | ((first | refine Mix.lex_skipT rfl rfl rfl (by with_reducible rfl) ?_ | refine Mix.lex_skipF rfl rfl rfl (by with_reducible rfl) ?_ | refine Mix.lex_skipU rfl rfl rfl (by with_reducible rfl) ?_); simp only [Act.put, List.setIfInBounds_toArray, List.set_cons_succ, List.set_cons_zero]) | (refine Mix.lex_part rfl rfl rfl rfl (fun hq => ?_) (fun hq => ?_) <;> (fail_if_success (guard_hyp hq :ₛ true = true)) <;> (fail_if_success (guard_hyp hq :ₛ false = false)) <;> first | (exfalso; cases hq; done) | (exfalso; simp only [decide_eq_true_eq, decide_eq_false_iff_not, beq_iff_eq, beq_eq_false_iff_ne, ne_eq, Int.not_lt, Int.not_le] at hq; omega) | simp only [Act.put, List.setIfInBounds_toArray, List.set_cons_succ, List.set_cons_zero])))
  ((first | refine Mix.lex_goes0 rfl rfl ?_ | refine Mix.lex_goesG rfl rfl rfl (by with_reducible rfl) rfl ?_); intro K hK; go_simp); refine (HI3.out _ μ2.h).mono ?_; rintro e uu ⟨rfl, hu⟩; obtain ⟨μ3, hnew⟩ : ∃ ξ : X w0 No, ξ.v = uu := ⟨⟨uu, μ2.h.then_ext hu⟩, rfl⟩; subst hnew; have Hμ3 := Lib.hid hu; refine ⟨_, rfl, hK _ _ (fun _ => ⟨μ3, rfl⟩) ?_⟩; clear hK K hu; simp only [Act.put, List.setIfInBounds_toArray, List.set_cons_succ, List.set_cons_zero]; (repeat' (first | (refine Mix.lex_quiet0 rfl rfl rfl ?_; intro K hK; go_big_quiet_op; go_big_quiet_on) | (refine Mix.lex_quietG rfl rfl rfl (by with_reducible rfl) rfl rfl ?_; intro K hK; go_big_quiet_op; go_big_quiet_on) | ((first | refine Mix.lex_skipT rfl rfl rfl (by with_reducible rfl) ?_ | refine Mix.lex_skipF rfl rfl rfl (by with_reducible rfl) ?_ | refine Mix.lex_skipU rfl rfl rfl (by with_reducible rfl) ?_); simp only [Act.put, List.setIfInBounds_toArray, List.set_cons_succ, List.set_cons_zero]) | (refine Mix.lex_part rfl rfl rfl rfl (fun hq => ?_) (fun hq => ?_) <;> (fail_if_success (guard_hyp hq :ₛ true = true)) <;> (fail_if_success (guard_hyp hq :ₛ false = false)) <;> first | (exfalso; cases hq; done) | (exfalso; simp only [decide_eq_true_eq, decide_eq_false_iff_not, beq_iff_eq, beq_eq_false_iff_ne, ne_eq, Int.not_lt, Int.not_le] at hq; omega) | simp only [Act.put, List.setIfInBounds_toArray, List.set_cons_succ, List.set_cons_zero])))
  refine Mix.lex_nil ?_
  have hd2 : hd = i1 ++ 32 :: (i2 ++ 32 :: i3) := by rw [HH.out]; simp
  have HHd := Lib.hid hd2
  have HIx : Hid (∀ (n : Nat), n ≤ 1000000 → (Lib.itoa (n : Int)).length ≤ 21) := itoa_len
  clear HI1 HI2 HI3 HH hd2
  go_wp2_with (first | (refine Mix.wpList_guarded rfl ?_; (repeat' (first | (refine Mix.lex_quiet0 rfl rfl rfl ?_; intro K hK; go_big_quiet_op; go_big_quiet_on) | (refine Mix.lex_quietG rfl rfl rfl (by with_reducible rfl) rfl rfl ?_; intro K hK; go_big_quiet_op; go_big_quiet_on) | ((first | refine Mix.lex_skipT rfl rfl rfl (by with_reducible rfl) ?_ | refine Mix.lex_skipF rfl rfl rfl (by with_reducible rfl) ?_ | refine Mix.lex_skipU rfl rfl rfl (by with_reducible rfl) ?_); simp only [Act.put, List.setIfInBounds_toArray, List.set_cons_succ, List.set_cons_zero]) | (refine Mix.lex_part rfl rfl rfl rfl (fun hq => ?_) (fun hq => ?_) <;> (fail_if_success (guard_hyp hq :ₛ true = true)) <;> (fail_if_success (guard_hyp hq :ₛ false = false)) <;> first | (exfalso; cases hq; done) | (exfalso; simp only [decide_eq_true_eq, decide_eq_false_iff_not, beq_iff_eq, beq_eq_false_iff_ne, ne_eq, Int.not_lt, Int.not_le] at hq; omega) | simp only [Act.put, List.setIfInBounds_toArray, List.set_cons_succ, List.set_cons_zero]))); all_goals (refine Mix.lex_nil ?_)) | (refine Mix.wp_still (by kernel_rfl) (by kernel_rfl) ?_; (repeat' (first | (refine Mix.lex_quiet0 rfl rfl rfl ?_; intro K hK; go_big_quiet_op; go_big_quiet_on) | (refine Mix.lex_quietG rfl rfl rfl (by with_reducible rfl) rfl rfl ?_; intro K hK; go_big_quiet_op; go_big_quiet_on) | ((first | refine Mix.lex_skipT rfl rfl rfl (by with_reducible rfl) ?_ | refine Mix.lex_skipF rfl rfl rfl (by with_reducible rfl) ?_ | refine Mix.lex_skipU rfl rfl rfl (by with_reducible rfl) ?_); simp only [Act.put, List.setIfInBounds_toArray, List.set_cons_succ, List.set_cons_zero]) | (refine Mix.lex_part rfl rfl rfl rfl (fun hq => ?_) (fun hq => ?_) <;> (fail_if_success (guard_hyp hq :ₛ true = true)) <;> (fail_if_success (guard_hyp hq :ₛ false = false)) <;> first | (exfalso; cases hq; done) | (exfalso; simp only [decide_eq_true_eq, decide_eq_false_iff_not, beq_iff_eq, beq_eq_false_iff_ne, ne_eq, Int.not_lt, Int.not_le] at hq; omega) | simp only [Act.put, List.setIfInBounds_toArray, List.set_cons_succ, List.set_cons_zero]))); all_goals (refine Mix.lex_nil ?_)))
  go_loopw [3, 4] (fun s i wr => ∃ j : Nat, j ≤ r.cmds.length ∧ i = .int .i64 j ∧ ∃ acc : Str, s = S acc ∧ acc = hd ++ (r.cmds.take j).flatMap cmdT ∧ acc.length ≤ 65 + 10100 * j ∧ ∃ ξ : X w0 No, wr = ξ.v) (fun _ i _ => r.cmds.length - (intOf i).toNat)
  case atStart => exact ⟨0, Nat.zero_le _, rfl, hd, by rw [HHd.out], by simp, by omega, μ3, rfl⟩
  case round =>
    obtain ⟨j, hj, rfl, acc, rfl, hA, hal, ξ, rfl⟩ := hrel
    have HA := Lib.hid hA
    clear hA
    by_cases hlt : j < r.cmds.length
    · obtain ⟨b, o, x, rfl, hx, c0⟩ := strs_get HR.out.c hlt
      have hxl := HLc.out x (List.mem_of_getElem? hx)
      have hil := HIx.out x.length (by omega)
      have HIc := Lib.hid (fun v hv => HI.out x.length v (by omega) hv)
      have HS : Hid ((r.cmds.take (j + 1)).flatMap cmdT = (r.cmds.take j).flatMap cmdT ++ ([32] ++ Lib.itoa x.length ++ [58] ++ x)) := by
        rw [Hid, List.take_add_one, hx, List.flatMap_append]; simp [cmdT]
      generalize Lib.itoa (x.length : Int) = il at hil HIc HS
      clear hx
      go_upto_region 5 with fail
      refine Mix.wp_draw [8] 100 (Cl w0 No) (by kernel_rfl) (by kernel_rfl) (Cl.of ξ.h.drew) ?_
      obtain ⟨ξd, hξd⟩ : ∃ ξd : X w0 No, ξd.v = ξ.v.drew := ⟨⟨_, ξ.h.drew⟩, rfl⟩
      rw [← hξd]
      clear hξd
      (repeat' (first | (refine Mix.lex_quiet0 rfl rfl rfl ?_; intro K hK; go_big_quiet_op; go_big_quiet_on) | (refine Mix.lex_quietG rfl rfl rfl (by with_reducible rfl) rfl rfl ?_; intro K hK; go_big_quiet_op; go_big_quiet_on) | ((first | refine Mix.lex_skipT rfl rfl rfl (by with_reducible rfl) ?_ | refine Mix.lex_skipF rfl rfl rfl (by with_reducible rfl) ?_ | refine Mix.lex_skipU rfl rfl rfl (by with_reducible rfl) ?_); simp only [Act.put, List.setIfInBounds_toArray, List.set_cons_succ, List.set_cons_zero]) | (refine Mix.lex_part rfl rfl rfl rfl (fun hq => ?_) (fun hq => ?_) <;> (fail_if_success (guard_hyp hq :ₛ true = true)) <;> (fail_if_success (guard_hyp hq :ₛ false = false)) <;> first | (exfalso; cases hq; done) | (exfalso; simp only [decide_eq_true_eq, decide_eq_false_iff_not, beq_iff_eq, beq_eq_false_iff_ne, ne_eq, Int.not_lt, Int.not_le] at hq; omega) | simp only [Act.put, List.setIfInBounds_toArray, List.set_cons_succ, List.set_cons_zero])))
      ((first | refine Mix.lex_goes0 rfl rfl ?_ | refine Mix.lex_goesG rfl rfl rfl (by with_reducible rfl) rfl ?_); intro K hK; go_simp); refine (HIc.out _ ξd.h).mono ?_; rintro e uu ⟨rfl, hu⟩; obtain ⟨ξ1, hnew⟩ : ∃ ξ : X w0 No, ξ.v = uu := ⟨⟨uu, ξd.h.then_ext hu⟩, rfl⟩; subst hnew; have Hξ1 := Lib.hid hu; refine ⟨_, rfl, hK _ _ (fun _ => ⟨ξ1, rfl⟩) ?_⟩; clear hK K hu; simp only [Act.put, List.setIfInBounds_toArray, List.set_cons_succ, List.set_cons_zero]; (repeat' (first | (refine Mix.lex_quiet0 rfl rfl rfl ?_; intro K hK; go_big_quiet_op; go_big_quiet_on) | (refine Mix.lex_quietG rfl rfl rfl (by with_reducible rfl) rfl rfl ?_; intro K hK; go_big_quiet_op; go_big_quiet_on) | ((first | refine Mix.lex_skipT rfl rfl rfl (by with_reducible rfl) ?_ | refine Mix.lex_skipF rfl rfl rfl (by with_reducible rfl) ?_ | refine Mix.lex_skipU rfl rfl rfl (by with_reducible rfl) ?_); simp only [Act.put, List.setIfInBounds_toArray, List.set_cons_succ, List.set_cons_zero]) | (refine Mix.lex_part rfl rfl rfl rfl (fun hq => ?_) (fun hq => ?_) <;> (fail_if_success (guard_hyp hq :ₛ true = true)) <;> (fail_if_success (guard_hyp hq :ₛ false = false)) <;> first | (exfalso; cases hq; done) | (exfalso; simp only [decide_eq_true_eq, decide_eq_false_iff_not, beq_iff_eq, beq_eq_false_iff_ne, ne_eq, Int.not_lt, Int.not_le] at hq; omega) | simp only [Act.put, List.setIfInBounds_toArray, List.set_cons_succ, List.set_cons_zero])))
      refine Mix.lex_nil ?_
      go_wp2_with (first | (refine Mix.wpList_guarded rfl ?_; (repeat' (first | (refine Mix.lex_quiet0 rfl rfl rfl ?_; intro K hK; go_big_quiet_op; go_big_quiet_on) | (refine Mix.lex_quietG rfl rfl rfl (by with_reducible rfl) rfl rfl ?_; intro K hK; go_big_quiet_op; go_big_quiet_on) | ((first | refine Mix.lex_skipT rfl rfl rfl (by with_reducible rfl) ?_ | refine Mix.lex_skipF rfl rfl rfl (by with_reducible rfl) ?_ | refine Mix.lex_skipU rfl rfl rfl (by with_reducible rfl) ?_); simp only [Act.put, List.setIfInBounds_toArray, List.set_cons_succ, List.set_cons_zero]) | (refine Mix.lex_part rfl rfl rfl rfl (fun hq => ?_) (fun hq => ?_) <;> (fail_if_success (guard_hyp hq :ₛ true = true)) <;> (fail_if_success (guard_hyp hq :ₛ false = false)) <;> first | (exfalso; cases hq; done) | (exfalso; simp only [decide_eq_true_eq, decide_eq_false_iff_not, beq_iff_eq, beq_eq_false_iff_ne, ne_eq, Int.not_lt, Int.not_le] at hq; omega) | simp only [Act.put, List.setIfInBounds_toArray, List.set_cons_succ, List.set_cons_zero]))); all_goals (refine Mix.lex_nil ?_)) | (refine Mix.wp_still (by kernel_rfl) (by kernel_rfl) ?_; (repeat' (first | (refine Mix.lex_quiet0 rfl rfl rfl ?_; intro K hK; go_big_quiet_op; go_big_quiet_on) | (refine Mix.lex_quietG rfl rfl rfl (by with_reducible rfl) rfl rfl ?_; intro K hK; go_big_quiet_op; go_big_quiet_on) | ((first | refine Mix.lex_skipT rfl rfl rfl (by with_reducible rfl) ?_ | refine Mix.lex_skipF rfl rfl rfl (by with_reducible rfl) ?_ | refine Mix.lex_skipU rfl rfl rfl (by with_reducible rfl) ?_); simp only [Act.put, List.setIfInBounds_toArray, List.set_cons_succ, List.set_cons_zero]) | (refine Mix.lex_part rfl rfl rfl rfl (fun hq => ?_) (fun hq => ?_) <;> (fail_if_success (guard_hyp hq :ₛ true = true)) <;> (fail_if_success (guard_hyp hq :ₛ false = false)) <;> first | (exfalso; cases hq; done) | (exfalso; simp only [decide_eq_true_eq, decide_eq_false_iff_not, beq_iff_eq, beq_eq_false_iff_ne, ne_eq, Int.not_lt, Int.not_le] at hq; omega) | simp only [Act.put, List.setIfInBounds_toArray, List.set_cons_succ, List.set_cons_zero]))); all_goals (refine Mix.lex_nil ?_)))
      go_roundw
      case rel => exact ⟨j + 1, by omega, by go_num, _, rfl, by rw [HS.out, HA.out]; simp, by simp only [List.length_append, List.length_cons]; omega, ξ1, rfl⟩
      case measure => simp [intOf]; omega
    · have HA2 : Hid (acc = hd ++ r.cmds.flatMap cmdT) := by
        have := HA.out
        rw [List.take_of_length_le (by omega)] at this
        exact this
      clear HA
      have HLf : Hid (∀ x ∈ r.needs ++ r.out, x.1.length ≤ 10000 ∧ x.2.length ≤ 10000) := fun x hx => by
        rcases List.mem_append.1 hx with hx | hx
        · exact HLn.out x hx
        · exact HLo.out x hx
      have hyl : (r.needs ++ r.out).length ≤ 200 := by rw [List.length_append]; omega
      have HAl : Hid (acc.length ≤ 1020000) := by unfold Hid; omega
      clear hal HLn HLo HHd
      go_upto_region 6 with fail
      refine Mix.wp_draw [2, 5] 100 (Cl w0 No) (by kernel_rfl) (by kernel_rfl) (Cl.of ξ.h.drew) ?_
      obtain ⟨ξd, hξd⟩ : ∃ ξd : X w0 No, ξd.v = ξ.v.drew := ⟨⟨_, ξ.h.drew⟩, rfl⟩
      rw [← hξd]
      clear hξd
      (repeat' (first | (refine Mix.lex_quiet0 rfl rfl rfl ?_; intro K hK; go_big_quiet_op; go_big_quiet_on) | (refine Mix.lex_quietG rfl rfl rfl (by with_reducible rfl) rfl rfl ?_; intro K hK; go_big_quiet_op; go_big_quiet_on) | ((first | refine Mix.lex_skipT rfl rfl rfl (by with_reducible rfl) ?_ | refine Mix.lex_skipF rfl rfl rfl (by with_reducible rfl) ?_ | refine Mix.lex_skipU rfl rfl rfl (by with_reducible rfl) ?_); simp only [Act.put, List.setIfInBounds_toArray, List.set_cons_succ, List.set_cons_zero]) | (refine Mix.lex_part rfl rfl rfl rfl (fun hq => ?_) (fun hq => ?_) <;> (fail_if_success (guard_hyp hq :ₛ true = true)) <;> (fail_if_success (guard_hyp hq :ₛ false = false)) <;> first | (exfalso; cases hq; done) | (exfalso; simp only [decide_eq_true_eq, decide_eq_false_iff_not, beq_iff_eq, beq_eq_false_iff_ne, ne_eq, Int.not_lt, Int.not_le] at hq; omega) | simp only [Act.put, List.setIfInBounds_toArray, List.set_cons_succ, List.set_cons_zero])))
      refine Mix.lex_goes0 rfl rfl ?_
      intro K hK
      have hRn := HR.out.n.ext ξd.h
      refine goes_append (v := .slice none 0 0) (n := 0) (xs := []) fl_ty rfl rfl rfl (World.ownsRow_nil _ _ _ _) (hRn.rd (by decide)) (fl_enc1 _) (by omega) ?_
      intro A2 c2 w5 hown5 hg5 hb5
      have F5 : Fresh fileF 45 w0 w5 A2 c2 r.needs := by
        exact (Fresh.nil fileF 45 w0 ξd.v ξd.h).grow (ys := r.needs) rfl hown5 hg5 hb5
      rw [Nat.zero_add]
      refine hK _ _ (fun _ => Cl.of F5.ext) ?_
      clear hK K hown5 hg5 hb5 hRn
      simp only [Act.put, List.setIfInBounds_toArray, List.set_cons_succ, List.set_cons_zero]
      obtain ⟨ξe, hξe⟩ : ∃ ξe : X w0 No, ξe.v = w5 := ⟨⟨_, F5.ext⟩, rfl⟩
      rw [← hξe] at F5 ⊢
      clear hξe
      have F6 := Lib.hid F5
      clear F5
      (repeat' (first | (refine Mix.lex_quiet0 rfl rfl rfl ?_; intro K hK; go_big_quiet_op; go_big_quiet_on) | (refine Mix.lex_quietG rfl rfl rfl (by with_reducible rfl) rfl rfl ?_; intro K hK; go_big_quiet_op; go_big_quiet_on) | ((first | refine Mix.lex_skipT rfl rfl rfl (by with_reducible rfl) ?_ | refine Mix.lex_skipF rfl rfl rfl (by with_reducible rfl) ?_ | refine Mix.lex_skipU rfl rfl rfl (by with_reducible rfl) ?_); simp only [Act.put, List.setIfInBounds_toArray, List.set_cons_succ, List.set_cons_zero]) | (refine Mix.lex_part rfl rfl rfl rfl (fun hq => ?_) (fun hq => ?_) <;> (fail_if_success (guard_hyp hq :ₛ true = true)) <;> (fail_if_success (guard_hyp hq :ₛ false = false)) <;> first | (exfalso; cases hq; done) | (exfalso; simp only [decide_eq_true_eq, decide_eq_false_iff_not, beq_iff_eq, beq_eq_false_iff_ne, ne_eq, Int.not_lt, Int.not_le] at hq; omega) | simp only [Act.put, List.setIfInBounds_toArray, List.set_cons_succ, List.set_cons_zero])))
      refine Mix.lex_goes0 rfl rfl ?_
      intro K hK
      have hRo := HR.out.o.ext ξe.h
      refine goes_append (v := .slice A2 r.needs.length c2) (n := r.needs.length) (xs := r.needs.flatMap fileF.enc) fl_ty rfl rfl rfl F6.out.own (hRo.rd (by decide)) (fl_enc1 _) (by omega) ?_
      intro A' c' w7 hown5 hg5 hb5
      have F7 := Lib.hid (F6.out.grow (ys := r.out) rfl hown5 hg5 hb5)
      refine hK _ _ (fun _ => Cl.of F7.out.ext) ?_
      clear hK K hown5 hg5 hb5 hRo F6
      simp only [Act.put, List.setIfInBounds_toArray, List.set_cons_succ, List.set_cons_zero]
      rw [← List.length_append]
      generalize r.needs ++ r.out = ys at F7 HT HLf hyl ⊢
      have XU2 : Hid (Ext w0 w7) := F7.out.ext
      have F := Lib.hid (F7.out.row (by decide))
      obtain ⟨ζ, hζ⟩ : ∃ ζ : X w7 No, ζ.v = w7 := ⟨X.here _ _, rfl⟩
      rw [← hζ]
      clear hζ F7
      (repeat' (first | (refine Mix.lex_quiet0 rfl rfl rfl ?_; intro K hK; go_big_quiet_op; go_big_quiet_on) | (refine Mix.lex_quietG rfl rfl rfl (by with_reducible rfl) rfl rfl ?_; intro K hK; go_big_quiet_op; go_big_quiet_on) | ((first | refine Mix.lex_skipT rfl rfl rfl (by with_reducible rfl) ?_ | refine Mix.lex_skipF rfl rfl rfl (by with_reducible rfl) ?_ | refine Mix.lex_skipU rfl rfl rfl (by with_reducible rfl) ?_); simp only [Act.put, List.setIfInBounds_toArray, List.set_cons_succ, List.set_cons_zero]) | (refine Mix.lex_part rfl rfl rfl rfl (fun hq => ?_) (fun hq => ?_) <;> (fail_if_success (guard_hyp hq :ₛ true = true)) <;> (fail_if_success (guard_hyp hq :ₛ false = false)) <;> first | (exfalso; cases hq; done) | (exfalso; simp only [decide_eq_true_eq, decide_eq_false_iff_not, beq_iff_eq, beq_eq_false_iff_ne, ne_eq, Int.not_lt, Int.not_le] at hq; omega) | simp only [Act.put, List.setIfInBounds_toArray, List.set_cons_succ, List.set_cons_zero])))
      refine Mix.lex_nil ?_
      go_wp2_with (first | (refine Mix.wpList_guarded rfl ?_; (repeat' (first | (refine Mix.lex_quiet0 rfl rfl rfl ?_; intro K hK; go_big_quiet_op; go_big_quiet_on) | (refine Mix.lex_quietG rfl rfl rfl (by with_reducible rfl) rfl rfl ?_; intro K hK; go_big_quiet_op; go_big_quiet_on) | ((first | refine Mix.lex_skipT rfl rfl rfl (by with_reducible rfl) ?_ | refine Mix.lex_skipF rfl rfl rfl (by with_reducible rfl) ?_ | refine Mix.lex_skipU rfl rfl rfl (by with_reducible rfl) ?_); simp only [Act.put, List.setIfInBounds_toArray, List.set_cons_succ, List.set_cons_zero]) | (refine Mix.lex_part rfl rfl rfl rfl (fun hq => ?_) (fun hq => ?_) <;> (fail_if_success (guard_hyp hq :ₛ true = true)) <;> (fail_if_success (guard_hyp hq :ₛ false = false)) <;> first | (exfalso; cases hq; done) | (exfalso; simp only [decide_eq_true_eq, decide_eq_false_iff_not, beq_iff_eq, beq_eq_false_iff_ne, ne_eq, Int.not_lt, Int.not_le] at hq; omega) | simp only [Act.put, List.setIfInBounds_toArray, List.set_cons_succ, List.set_cons_zero]))); all_goals (refine Mix.lex_nil ?_)) | (refine Mix.wp_still (by kernel_rfl) (by kernel_rfl) ?_; (repeat' (first | (refine Mix.lex_quiet0 rfl rfl rfl ?_; intro K hK; go_big_quiet_op; go_big_quiet_on) | (refine Mix.lex_quietG rfl rfl rfl (by with_reducible rfl) rfl rfl ?_; intro K hK; go_big_quiet_op; go_big_quiet_on) | ((first | refine Mix.lex_skipT rfl rfl rfl (by with_reducible rfl) ?_ | refine Mix.lex_skipF rfl rfl rfl (by with_reducible rfl) ?_ | refine Mix.lex_skipU rfl rfl rfl (by with_reducible rfl) ?_); simp only [Act.put, List.setIfInBounds_toArray, List.set_cons_succ, List.set_cons_zero]) | (refine Mix.lex_part rfl rfl rfl rfl (fun hq => ?_) (fun hq => ?_) <;> (fail_if_success (guard_hyp hq :ₛ true = true)) <;> (fail_if_success (guard_hyp hq :ₛ false = false)) <;> first | (exfalso; cases hq; done) | (exfalso; simp only [decide_eq_true_eq, decide_eq_false_iff_not, beq_iff_eq, beq_eq_false_iff_ne, ne_eq, Int.not_lt, Int.not_le] at hq; omega) | simp only [Act.put, List.setIfInBounds_toArray, List.set_cons_succ, List.set_cons_zero]))); all_goals (refine Mix.lex_nil ?_)))
      go_loopw [3, 6] (fun s i wr => ∃ j : Nat, j ≤ ys.length ∧ i = .int .i64 j ∧ ∃ ac2 : Str, s = S ac2 ∧ ac2 = acc ++ (ys.take j).flatMap filT ∧ ac2.length ≤ 1020000 + 20100 * j ∧ ∃ ξ : X w7 No, wr = ξ.v) (fun _ i _ => ys.length - (intOf i).toNat)
      case atStart => exact ⟨0, Nat.zero_le _, rfl, acc, rfl, by simp, by have := HAl.out; omega, ζ, rfl⟩
      case round =>
        obtain ⟨j, hj, rfl, ac2, rfl, hA, hal, ξ2, rfl⟩ := hrel
        have HA := Lib.hid hA
        clear hA
        by_cases hlt2 : j < ys.length
        · obtain ⟨b, o, x, rfl, hx, c0, c1⟩ := files_get F.out hlt2
          obtain ⟨hxl1, hxl2⟩ := HLf.out x (List.mem_of_getElem? hx)
          have hil := HIx.out x.2.length (by omega)
          have HIc := Lib.hid (fun v (hv : Ext w7 v) => HI.out x.2.length v (by omega) (XU2.out.then_ext hv))
          have HS : Hid ((ys.take (j + 1)).flatMap filT = (ys.take j).flatMap filT ++ ([32] ++ x.1 ++ [32] ++ Lib.itoa x.2.length ++ [58] ++ x.2)) := by
            rw [Hid, List.take_add_one, hx, List.flatMap_append]; simp [filT]
          generalize Lib.itoa (x.2.length : Int) = il at hil HIc HS
          clear hx
          go_upto_region 10 with fail
          refine Mix.wp_draw [15] 100 (Cl w7 No) (by kernel_rfl) (by kernel_rfl) (Cl.of ξ2.h.drew) ?_
          obtain ⟨ν0, hν0⟩ : ∃ ν0 : X w7 No, ν0.v = ξ2.v.drew := ⟨⟨_, ξ2.h.drew⟩, rfl⟩
          rw [← hν0]
          clear hν0
          (repeat' (first | (refine Mix.lex_quiet0 rfl rfl rfl ?_; intro K hK; go_big_quiet_op; go_big_quiet_on) | (refine Mix.lex_quietG rfl rfl rfl (by with_reducible rfl) rfl rfl ?_; intro K hK; go_big_quiet_op; go_big_quiet_on) | ((first | refine Mix.lex_skipT rfl rfl rfl (by with_reducible rfl) ?_ | refine Mix.lex_skipF rfl rfl rfl (by with_reducible rfl) ?_ | refine Mix.lex_skipU rfl rfl rfl (by with_reducible rfl) ?_); simp only [Act.put, List.setIfInBounds_toArray, List.set_cons_succ, List.set_cons_zero]) | (refine Mix.lex_part rfl rfl rfl rfl (fun hq => ?_) (fun hq => ?_) <;> (fail_if_success (guard_hyp hq :ₛ true = true)) <;> (fail_if_success (guard_hyp hq :ₛ false = false)) <;> first | (exfalso; cases hq; done) | (exfalso; simp only [decide_eq_true_eq, decide_eq_false_iff_not, beq_iff_eq, beq_eq_false_iff_ne, ne_eq, Int.not_lt, Int.not_le] at hq; omega) | simp only [Act.put, List.setIfInBounds_toArray, List.set_cons_succ, List.set_cons_zero])))
          ((first | refine Mix.lex_goes0 rfl rfl ?_ | refine Mix.lex_goesG rfl rfl rfl (by with_reducible rfl) rfl ?_); intro K hK; go_simp); refine (HIc.out _ ν0.h).mono ?_; rintro e uu ⟨rfl, hu⟩; obtain ⟨ν1, hnew⟩ : ∃ ξ : X w7 No, ξ.v = uu := ⟨⟨uu, ν0.h.then_ext hu⟩, rfl⟩; subst hnew; have Hν1 := Lib.hid hu; refine ⟨_, rfl, hK _ _ (fun _ => ⟨ν1, rfl⟩) ?_⟩; clear hK K hu; simp only [Act.put, List.setIfInBounds_toArray, List.set_cons_succ, List.set_cons_zero]; (repeat' (first | (refine Mix.lex_quiet0 rfl rfl rfl ?_; intro K hK; go_big_quiet_op; go_big_quiet_on) | (refine Mix.lex_quietG rfl rfl rfl (by with_reducible rfl) rfl rfl ?_; intro K hK; go_big_quiet_op; go_big_quiet_on) | ((first | refine Mix.lex_skipT rfl rfl rfl (by with_reducible rfl) ?_ | refine Mix.lex_skipF rfl rfl rfl (by with_reducible rfl) ?_ | refine Mix.lex_skipU rfl rfl rfl (by with_reducible rfl) ?_); simp only [Act.put, List.setIfInBounds_toArray, List.set_cons_succ, List.set_cons_zero]) | (refine Mix.lex_part rfl rfl rfl rfl (fun hq => ?_) (fun hq => ?_) <;> (fail_if_success (guard_hyp hq :ₛ true = true)) <;> (fail_if_success (guard_hyp hq :ₛ false = false)) <;> first | (exfalso; cases hq; done) | (exfalso; simp only [decide_eq_true_eq, decide_eq_false_iff_not, beq_iff_eq, beq_eq_false_iff_ne, ne_eq, Int.not_lt, Int.not_le] at hq; omega) | simp only [Act.put, List.setIfInBounds_toArray, List.set_cons_succ, List.set_cons_zero])))
          refine Mix.lex_nil ?_
          go_wp2_with (first | (refine Mix.wpList_guarded rfl ?_; (repeat' (first | (refine Mix.lex_quiet0 rfl rfl rfl ?_; intro K hK; go_big_quiet_op; go_big_quiet_on) | (refine Mix.lex_quietG rfl rfl rfl (by with_reducible rfl) rfl rfl ?_; intro K hK; go_big_quiet_op; go_big_quiet_on) | ((first | refine Mix.lex_skipT rfl rfl rfl (by with_reducible rfl) ?_ | refine Mix.lex_skipF rfl rfl rfl (by with_reducible rfl) ?_ | refine Mix.lex_skipU rfl rfl rfl (by with_reducible rfl) ?_); simp only [Act.put, List.setIfInBounds_toArray, List.set_cons_succ, List.set_cons_zero]) | (refine Mix.lex_part rfl rfl rfl rfl (fun hq => ?_) (fun hq => ?_) <;> (fail_if_success (guard_hyp hq :ₛ true = true)) <;> (fail_if_success (guard_hyp hq :ₛ false = false)) <;> first | (exfalso; cases hq; done) | (exfalso; simp only [decide_eq_true_eq, decide_eq_false_iff_not, beq_iff_eq, beq_eq_false_iff_ne, ne_eq, Int.not_lt, Int.not_le] at hq; omega) | simp only [Act.put, List.setIfInBounds_toArray, List.set_cons_succ, List.set_cons_zero]))); all_goals (refine Mix.lex_nil ?_)) | (refine Mix.wp_still (by kernel_rfl) (by kernel_rfl) ?_; (repeat' (first | (refine Mix.lex_quiet0 rfl rfl rfl ?_; intro K hK; go_big_quiet_op; go_big_quiet_on) | (refine Mix.lex_quietG rfl rfl rfl (by with_reducible rfl) rfl rfl ?_; intro K hK; go_big_quiet_op; go_big_quiet_on) | ((first | refine Mix.lex_skipT rfl rfl rfl (by with_reducible rfl) ?_ | refine Mix.lex_skipF rfl rfl rfl (by with_reducible rfl) ?_ | refine Mix.lex_skipU rfl rfl rfl (by with_reducible rfl) ?_); simp only [Act.put, List.setIfInBounds_toArray, List.set_cons_succ, List.set_cons_zero]) | (refine Mix.lex_part rfl rfl rfl rfl (fun hq => ?_) (fun hq => ?_) <;> (fail_if_success (guard_hyp hq :ₛ true = true)) <;> (fail_if_success (guard_hyp hq :ₛ false = false)) <;> first | (exfalso; cases hq; done) | (exfalso; simp only [decide_eq_true_eq, decide_eq_false_iff_not, beq_iff_eq, beq_eq_false_iff_ne, ne_eq, Int.not_lt, Int.not_le] at hq; omega) | simp only [Act.put, List.setIfInBounds_toArray, List.set_cons_succ, List.set_cons_zero]))); all_goals (refine Mix.lex_nil ?_)))
          go_roundw
          case rel => exact ⟨j + 1, by omega, by go_num, _, rfl, by rw [HS.out, HA.out]; simp, by simp only [List.length_append, List.length_cons]; omega, ν1, rfl⟩
          case measure => simp [intOf]; omega
        · have HRes : Hid (R = ac2) := by
            have := HA.out
            rw [List.take_of_length_le (by omega)] at this
            rw [Hid, HT.out, this, HA2.out]
          clear HA
          go_wp2_with (first | (refine Mix.wpList_guarded rfl ?_; (repeat' (first | (refine Mix.lex_quiet0 rfl rfl rfl ?_; intro K hK; go_big_quiet_op; go_big_quiet_on) | (refine Mix.lex_quietG rfl rfl rfl (by with_reducible rfl) rfl rfl ?_; intro K hK; go_big_quiet_op; go_big_quiet_on) | ((first | refine Mix.lex_skipT rfl rfl rfl (by with_reducible rfl) ?_ | refine Mix.lex_skipF rfl rfl rfl (by with_reducible rfl) ?_ | refine Mix.lex_skipU rfl rfl rfl (by with_reducible rfl) ?_); simp only [Act.put, List.setIfInBounds_toArray, List.set_cons_succ, List.set_cons_zero]) | (refine Mix.lex_part rfl rfl rfl rfl (fun hq => ?_) (fun hq => ?_) <;> (fail_if_success (guard_hyp hq :ₛ true = true)) <;> (fail_if_success (guard_hyp hq :ₛ false = false)) <;> first | (exfalso; cases hq; done) | (exfalso; simp only [decide_eq_true_eq, decide_eq_false_iff_not, beq_iff_eq, beq_eq_false_iff_ne, ne_eq, Int.not_lt, Int.not_le] at hq; omega) | simp only [Act.put, List.setIfInBounds_toArray, List.set_cons_succ, List.set_cons_zero]))); all_goals (refine Mix.lex_nil ?_)) | (refine Mix.wp_still (by kernel_rfl) (by kernel_rfl) ?_; (repeat' (first | (refine Mix.lex_quiet0 rfl rfl rfl ?_; intro K hK; go_big_quiet_op; go_big_quiet_on) | (refine Mix.lex_quietG rfl rfl rfl (by with_reducible rfl) rfl rfl ?_; intro K hK; go_big_quiet_op; go_big_quiet_on) | ((first | refine Mix.lex_skipT rfl rfl rfl (by with_reducible rfl) ?_ | refine Mix.lex_skipF rfl rfl rfl (by with_reducible rfl) ?_ | refine Mix.lex_skipU rfl rfl rfl (by with_reducible rfl) ?_); simp only [Act.put, List.setIfInBounds_toArray, List.set_cons_succ, List.set_cons_zero]) | (refine Mix.lex_part rfl rfl rfl rfl (fun hq => ?_) (fun hq => ?_) <;> (fail_if_success (guard_hyp hq :ₛ true = true)) <;> (fail_if_success (guard_hyp hq :ₛ false = false)) <;> first | (exfalso; cases hq; done) | (exfalso; simp only [decide_eq_true_eq, decide_eq_false_iff_not, beq_iff_eq, beq_eq_false_iff_ne, ne_eq, Int.not_lt, Int.not_le] at hq; omega) | simp only [Act.put, List.setIfInBounds_toArray, List.set_cons_succ, List.set_cons_zero]))); all_goals (refine Mix.lex_nil ?_)))
          go_ret
          rw [HRes.out]
          exact ⟨rfl, HX0.out.then_ext (XU2.out.then_ext ξ2.h)⟩
end Go.Proofs.YtfbpiafhgkhoiaaDoor
