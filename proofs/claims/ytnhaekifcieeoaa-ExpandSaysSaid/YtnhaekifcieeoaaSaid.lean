/- An error and a number: the same? -/
import Derived.Test.YtnhaekifcieeoaaErrs
namespace Go.Proofs.Ytnhaekifcieeoaa
open Go Go.RowKit
theorem same_nil (f : Int) (w : World) :
    Calls Try.prog 9 #[.nilIface, .int .i64 f] w fun e w' => e = .returned (.bool (decide (f = 0))) ∧ Ext w w' := by
  go_enter Try.func9, Try.ntmps9
  go_wp2_with (first | (refine Mix.wpList_guarded rfl ?_; (repeat' (first | (refine Mix.lex_quiet0 rfl rfl rfl ?_; intro K hK; go_big_quiet_op; go_big_quiet_on) | (refine Mix.lex_quietG rfl rfl rfl (by with_reducible rfl) rfl rfl ?_; intro K hK; go_big_quiet_op; go_big_quiet_on) | ((first | refine Mix.lex_skipT rfl rfl rfl (by with_reducible rfl) ?_ | refine Mix.lex_skipF rfl rfl rfl (by with_reducible rfl) ?_ | refine Mix.lex_skipU rfl rfl rfl (by with_reducible rfl) ?_); simp only [Act.put, List.setIfInBounds_toArray, List.set_cons_succ, List.set_cons_zero]) | (refine Mix.lex_part rfl rfl rfl rfl (fun hq => ?_) (fun hq => ?_) <;> (fail_if_success (guard_hyp hq :ₛ true = true)) <;> (fail_if_success (guard_hyp hq :ₛ false = false)) <;> first | (exfalso; cases hq; done) | (exfalso; simp only [decide_eq_true_eq, decide_eq_false_iff_not, beq_iff_eq, beq_eq_false_iff_ne, ne_eq, Int.not_lt, Int.not_le] at hq; omega) | simp only [Act.put, List.setIfInBounds_toArray, List.set_cons_succ, List.set_cons_zero]))); all_goals (refine Mix.lex_nil ?_)) | (refine Mix.wp_still (by kernel_rfl) (by kernel_rfl) ?_; (repeat' (first | (refine Mix.lex_quiet0 rfl rfl rfl ?_; intro K hK; go_big_quiet_op; go_big_quiet_on) | (refine Mix.lex_quietG rfl rfl rfl (by with_reducible rfl) rfl rfl ?_; intro K hK; go_big_quiet_op; go_big_quiet_on) | ((first | refine Mix.lex_skipT rfl rfl rfl (by with_reducible rfl) ?_ | refine Mix.lex_skipF rfl rfl rfl (by with_reducible rfl) ?_ | refine Mix.lex_skipU rfl rfl rfl (by with_reducible rfl) ?_); simp only [Act.put, List.setIfInBounds_toArray, List.set_cons_succ, List.set_cons_zero]) | (refine Mix.lex_part rfl rfl rfl rfl (fun hq => ?_) (fun hq => ?_) <;> (fail_if_success (guard_hyp hq :ₛ true = true)) <;> (fail_if_success (guard_hyp hq :ₛ false = false)) <;> first | (exfalso; cases hq; done) | (exfalso; simp only [decide_eq_true_eq, decide_eq_false_iff_not, beq_iff_eq, beq_eq_false_iff_ne, ne_eq, Int.not_lt, Int.not_le] at hq; omega) | simp only [Act.put, List.setIfInBounds_toArray, List.set_cons_succ, List.set_cons_zero]))); all_goals (refine Mix.lex_nil ?_)))
  go_ret
  exact ⟨rfl, Only.refl _ _⟩
theorem as_E (n : Int) (xT : TypeId) (w : World) : (Instr.typeAssert (E n) xT 72 true).run Try.prog w = .ok (.tuple #[.int .i64 n, .bool true]) w := by
  unfold Instr.typeAssert
  rw [Sem.run_bind, run_underlying Try.underlying72]
  simp [Result.andThen, Sem.run_pure, E]
theorem same_E (n f : Int) (w : World) :
    Calls Try.prog 9 #[E n, .int .i64 f] w fun e w' => e = .returned (.bool (decide (0 < f) && decide (n = f))) ∧ Ext w w' := by
  have hE := as_E n
  go_enter Try.func9, Try.ntmps9
  go_wp2_with (first | (refine Mix.wpList_guarded rfl ?_; (repeat' (first | (refine Mix.lex_quiet0 rfl rfl rfl ?_; intro K hK; go_big_quiet_op; go_big_quiet_on) | (refine Mix.lex_quietG rfl rfl rfl (by with_reducible rfl) rfl rfl ?_; intro K hK; go_big_quiet_op; go_big_quiet_on) | ((first | refine Mix.lex_skipT rfl rfl rfl (by with_reducible rfl) ?_ | refine Mix.lex_skipF rfl rfl rfl (by with_reducible rfl) ?_ | refine Mix.lex_skipU rfl rfl rfl (by with_reducible rfl) ?_); simp only [Act.put, List.setIfInBounds_toArray, List.set_cons_succ, List.set_cons_zero]) | (refine Mix.lex_part rfl rfl rfl rfl (fun hq => ?_) (fun hq => ?_) <;> (fail_if_success (guard_hyp hq :ₛ true = true)) <;> (fail_if_success (guard_hyp hq :ₛ false = false)) <;> first | (exfalso; cases hq; done) | (exfalso; simp only [decide_eq_true_eq, decide_eq_false_iff_not, beq_iff_eq, beq_eq_false_iff_ne, ne_eq, Int.not_lt, Int.not_le] at hq; omega) | simp only [Act.put, List.setIfInBounds_toArray, List.set_cons_succ, List.set_cons_zero]))); all_goals (refine Mix.lex_nil ?_)) | (refine Mix.wp_still (by kernel_rfl) (by kernel_rfl) ?_; (repeat' (first | (refine Mix.lex_quiet0 rfl rfl rfl ?_; intro K hK; go_big_quiet_op; go_big_quiet_on) | (refine Mix.lex_quietG rfl rfl rfl (by with_reducible rfl) rfl rfl ?_; intro K hK; go_big_quiet_op; go_big_quiet_on) | ((first | refine Mix.lex_skipT rfl rfl rfl (by with_reducible rfl) ?_ | refine Mix.lex_skipF rfl rfl rfl (by with_reducible rfl) ?_ | refine Mix.lex_skipU rfl rfl rfl (by with_reducible rfl) ?_); simp only [Act.put, List.setIfInBounds_toArray, List.set_cons_succ, List.set_cons_zero]) | (refine Mix.lex_part rfl rfl rfl rfl (fun hq => ?_) (fun hq => ?_) <;> (fail_if_success (guard_hyp hq :ₛ true = true)) <;> (fail_if_success (guard_hyp hq :ₛ false = false)) <;> first | (exfalso; cases hq; done) | (exfalso; simp only [decide_eq_true_eq, decide_eq_false_iff_not, beq_iff_eq, beq_eq_false_iff_ne, ne_eq, Int.not_lt, Int.not_le] at hq; omega) | simp only [Act.put, List.setIfInBounds_toArray, List.set_cons_succ, List.set_cons_zero]))); all_goals (refine Mix.lex_nil ?_)))
  all_goals (go_ret; refine ⟨?_, Only.refl _ _⟩)
  all_goals refine ret_bool ?_
  · rw [hq]; rfl
  · rw [hq]; simp
theorem same_c (n f : Int) (hn : 0 ≤ n) (w : World) :
    Calls Try.prog 9 #[errV n, .int .i64 f] w fun e w' => e = .returned (.bool (decide (n = f))) ∧ Ext w w' := by
  by_cases h : n = 0
  · subst h
    refine (same_nil f w).mono ?_
    rintro e w' ⟨rfl, hx⟩
    exact ⟨by congr 2; simp [eq_comm], hx⟩
  · rw [errV_pos h]
    refine (same_E n f w).mono ?_
    rintro e w' ⟨rfl, hx⟩
    refine ⟨?_, hx⟩
    congr 2
    by_cases hf : n = f
    · subst hf; simp; omega
    · simp [hf]
theorem same_self (f : Int) (hf : 0 ≤ f) (w : World) : Calls Try.prog 9 #[errV f, .int .i64 f] w fun e w' => e = .returned (.bool true) ∧ Ext w w' := by
  have := same_c f f hf w
  rwa [decide_eq_true rfl] at this
end Go.Proofs.Ytnhaekifcieeoaa
