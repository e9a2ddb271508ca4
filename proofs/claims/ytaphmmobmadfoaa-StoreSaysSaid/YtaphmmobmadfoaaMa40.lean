/- Put together: StX. -/
import Derived.Test.YtaphmmobmadfoaaMa39
import Derived.Test.YtaphmmobmadfoaaMa08
/- The walk of the law of stores. -/
namespace Go.Proofs.Ytaphmmobmadfoaa
open Go Go.RowKit
@[go_sem] theorem rs_build (n : Int) (w : World) : (Instr.build rsT #[(2, .int .i64 n)]).run Try.prog w = .ok (.agg #[.slice none 0 0, .int .i64 0, .int .i64 n]) w := run_build w rsT _ _ (by kernel_rfl)
/-- Where the two stand at the head of a round. -/
def SS (w wr : World) (dg sg gm N mn j : Nat) : Prop :=
  ∃ Z r d rA rcap used rows, SV w wr dg sg N mn used (1 + j) (1 + mn * j) rows Z r d ∧ Md wr (Z.fp r) gm rA rcap used mn rows ∧ Ext w wr ∧ Ml wr
set_option maxRecDepth 100000 in
set_option maxHeartbeats 16000000 in
theorem StoreSays_all {w : World} (hm : Ml w) (sectors : Int) (hsr : -9223372036854775808 ≤ sectors ∧ sectors ≤ 9223372036854775807)
    {B : Option Addr} {m bcap : Nat} {ds : List Dd} (hds : DeedsR w B m ds) (hmm : m ≤ maxLen) :
    Calls Try.prog 3 #[.int .i64 sectors, .slice B m bcap] w fun e w' => e = .returned (.bool true) ∧ Ext w w' := by
  have HM := Lib.hid hm
  have HDs := Lib.hid hds
  have H0 := Lib.hid (stores_c hm)
  unfold maxLen at hmm
  clear hm hds
  go_enter Try.func3, Try.ntmps3
  go_wp2_with (first | ((first | refine Mix.wpList_guarded rfl ?_ | refine Mix.wp_still (by kernel_rfl) (by kernel_rfl) ?_); (repeat' (first | (refine Mix.lex_quiet0 rfl rfl rfl ?_; intro K hK; go_big_quiet_op; go_big_quiet_on) | (refine Mix.lex_quietG rfl rfl rfl (by with_reducible rfl) rfl rfl ?_; intro K hK; go_big_quiet_op; go_big_quiet_on) | ((first | refine Mix.lex_skipT rfl rfl rfl (by with_reducible rfl) ?_ | refine Mix.lex_skipF rfl rfl rfl (by with_reducible rfl) ?_ | refine Mix.lex_skipU rfl rfl rfl (by with_reducible rfl) ?_); simp only [Act.put, List.setIfInBounds_toArray, List.set_cons_succ, List.set_cons_zero]) | (refine Mix.lex_part rfl rfl rfl rfl (fun hq => ?_) (fun hq => ?_) <;> (fail_if_success (guard_hyp hq :ₛ true = true)) <;> (fail_if_success (guard_hyp hq :ₛ false = false)) <;> first | (exfalso; cases hq; done) | (exfalso; simp only [decide_eq_true_eq, decide_eq_false_iff_not, beq_iff_eq, beq_eq_false_iff_ne, ne_eq, Int.not_lt, Int.not_le] at hq; omega) | simp only [Act.put, List.setIfInBounds_toArray, List.set_cons_succ, List.set_cons_zero]))); all_goals (refine Mix.lex_nil ?_)))
  refine H0.out.mono ?_
  rintro e u0 ⟨rfl, hu⟩
  have U0 := Lib.hid hu
  clear hu H0
  have HLD := Lib.hid (LightDeeds_c (c := bcap) (HDs.out.ext U0.out) 40 (by omega))
  obtain ⟨q, hq⟩ : ∃ q, q = lightD 40 ds := ⟨_, rfl⟩
  rw [← hq] at HLD
  have HQ := Lib.hid hq
  clear hq
  go_wp2_with (first | ((first | refine Mix.wpList_guarded rfl ?_ | refine Mix.wp_still (by kernel_rfl) (by kernel_rfl) ?_); (repeat' (first | (refine Mix.lex_quiet0 rfl rfl rfl ?_; intro K hK; go_big_quiet_op; go_big_quiet_on) | (refine Mix.lex_quietG rfl rfl rfl (by with_reducible rfl) rfl rfl ?_; intro K hK; go_big_quiet_op; go_big_quiet_on) | ((first | refine Mix.lex_skipT rfl rfl rfl (by with_reducible rfl) ?_ | refine Mix.lex_skipF rfl rfl rfl (by with_reducible rfl) ?_ | refine Mix.lex_skipU rfl rfl rfl (by with_reducible rfl) ?_); simp only [Act.put, List.setIfInBounds_toArray, List.set_cons_succ, List.set_cons_zero]) | (refine Mix.lex_part rfl rfl rfl rfl (fun hq => ?_) (fun hq => ?_) <;> (fail_if_success (guard_hyp hq :ₛ true = true)) <;> (fail_if_success (guard_hyp hq :ₛ false = false)) <;> first | (exfalso; cases hq; done) | (exfalso; simp only [decide_eq_true_eq, decide_eq_false_iff_not, beq_iff_eq, beq_eq_false_iff_ne, ne_eq, Int.not_lt, Int.not_le] at hq; omega) | simp only [Act.put, List.setIfInBounds_toArray, List.set_cons_succ, List.set_cons_zero]))); all_goals (refine Mix.lex_nil ?_)))
  refine HLD.out.mono ?_
  rintro e u1 ⟨rfl, hu⟩
  have U1 := Lib.hid (U0.out.then_ext hu)
  clear hu HLD U0
  cases q with
  | false =>
    go_wp2_with (first | ((first | refine Mix.wpList_guarded rfl ?_ | refine Mix.wp_still (by kernel_rfl) (by kernel_rfl) ?_); (repeat' (first | (refine Mix.lex_quiet0 rfl rfl rfl ?_; intro K hK; go_big_quiet_op; go_big_quiet_on) | (refine Mix.lex_quietG rfl rfl rfl (by with_reducible rfl) rfl rfl ?_; intro K hK; go_big_quiet_op; go_big_quiet_on) | ((first | refine Mix.lex_skipT rfl rfl rfl (by with_reducible rfl) ?_ | refine Mix.lex_skipF rfl rfl rfl (by with_reducible rfl) ?_ | refine Mix.lex_skipU rfl rfl rfl (by with_reducible rfl) ?_); simp only [Act.put, List.setIfInBounds_toArray, List.set_cons_succ, List.set_cons_zero]) | (refine Mix.lex_part rfl rfl rfl rfl (fun hq => ?_) (fun hq => ?_) <;> (fail_if_success (guard_hyp hq :ₛ true = true)) <;> (fail_if_success (guard_hyp hq :ₛ false = false)) <;> first | (exfalso; cases hq; done) | (exfalso; simp only [decide_eq_true_eq, decide_eq_false_iff_not, beq_iff_eq, beq_eq_false_iff_ne, ne_eq, Int.not_lt, Int.not_le] at hq; omega) | simp only [Act.put, List.setIfInBounds_toArray, List.set_cons_succ, List.set_cons_zero]))); all_goals (refine Mix.lex_nil ?_)))
    go_ret
    exact ⟨rfl, U1.out⟩
  | true =>
  have HLi : Hid (ds.length ≤ 40 ∧ ∀ x ∈ ds, x.ch.length ≤ 50 ∧ ∀ y ∈ x.ch, y.1.length ≤ 20 ∧ y.2.1.length ≤ 400) := by
    have h := HQ.out.symm
    unfold lightD at h
    simp only [Bool.and_eq_true, decide_eq_true_eq, List.all_eq_true] at h
    exact ⟨h.1, fun x hx => lightC_facts (h.2 x hx).2⟩
  have hdl : m ≤ 40 := by have := HLi.out.1; have := HDs.out.row.1; omega
  clear HQ
  by_cases hbad : sectors < 1 ∨ 120 < sectors
  · have HN := Lib.hid (New_bad sectors hbad u1)
    have HSm := Lib.hid (fun v => same_self 1 (by omega) v)
    go_wp2_with (first | ((first | refine Mix.wpList_guarded rfl ?_ | refine Mix.wp_still (by kernel_rfl) (by kernel_rfl) ?_); (repeat' (first | (refine Mix.lex_quiet0 rfl rfl rfl ?_; intro K hK; go_big_quiet_op; go_big_quiet_on) | (refine Mix.lex_quietG rfl rfl rfl (by with_reducible rfl) rfl rfl ?_; intro K hK; go_big_quiet_op; go_big_quiet_on) | ((first | refine Mix.lex_skipT rfl rfl rfl (by with_reducible rfl) ?_ | refine Mix.lex_skipF rfl rfl rfl (by with_reducible rfl) ?_ | refine Mix.lex_skipU rfl rfl rfl (by with_reducible rfl) ?_); simp only [Act.put, List.setIfInBounds_toArray, List.set_cons_succ, List.set_cons_zero]) | (refine Mix.lex_part rfl rfl rfl rfl (fun hq => ?_) (fun hq => ?_) <;> (fail_if_success (guard_hyp hq :ₛ true = true)) <;> (fail_if_success (guard_hyp hq :ₛ false = false)) <;> first | (exfalso; cases hq; done) | (exfalso; simp only [decide_eq_true_eq, decide_eq_false_iff_not, beq_iff_eq, beq_eq_false_iff_ne, ne_eq, Int.not_lt, Int.not_le] at hq; omega) | simp only [Act.put, List.setIfInBounds_toArray, List.set_cons_succ, List.set_cons_zero]))); all_goals (refine Mix.lex_nil ?_)))
    refine HN.out.mono ?_
    rintro e u2 ⟨rfl, hu⟩
    have U2 := Lib.hid (U1.out.then_ext hu)
    clear hu HN U1
    by_cases b1 : sectors < 1
    · have g1 : decide (sectors < 1) = true := decide_eq_true b1
      go_wp2_with (first | ((first | refine Mix.wpList_guarded rfl ?_ | refine Mix.wp_still (by kernel_rfl) (by kernel_rfl) ?_); (repeat' (first | (refine Mix.lex_quiet0 rfl rfl rfl ?_; intro K hK; go_big_quiet_op; go_big_quiet_on) | (refine Mix.lex_quietG rfl rfl rfl (by with_reducible rfl) rfl rfl ?_; intro K hK; go_big_quiet_op; go_big_quiet_on) | ((first | refine Mix.lex_skipT rfl rfl rfl (by with_reducible rfl) ?_ | refine Mix.lex_skipF rfl rfl rfl (by with_reducible rfl) ?_ | refine Mix.lex_skipU rfl rfl rfl (by with_reducible rfl) ?_); simp only [Act.put, List.setIfInBounds_toArray, List.set_cons_succ, List.set_cons_zero]) | (refine Mix.lex_part rfl rfl rfl rfl (fun hq => ?_) (fun hq => ?_) <;> (fail_if_success (guard_hyp hq :ₛ true = true)) <;> (fail_if_success (guard_hyp hq :ₛ false = false)) <;> first | (exfalso; cases hq; done) | (exfalso; simp only [decide_eq_true_eq, decide_eq_false_iff_not, beq_iff_eq, beq_eq_false_iff_ne, ne_eq, Int.not_lt, Int.not_le] at hq; omega) | simp only [Act.put, List.setIfInBounds_toArray, List.set_cons_succ, List.set_cons_zero]))); all_goals (refine Mix.lex_nil ?_)))
      refine (HSm.out _).mono ?_
      rintro e u3 ⟨rfl, hu⟩
      go_wp2_with (first | ((first | refine Mix.wpList_guarded rfl ?_ | refine Mix.wp_still (by kernel_rfl) (by kernel_rfl) ?_); (repeat' (first | (refine Mix.lex_quiet0 rfl rfl rfl ?_; intro K hK; go_big_quiet_op; go_big_quiet_on) | (refine Mix.lex_quietG rfl rfl rfl (by with_reducible rfl) rfl rfl ?_; intro K hK; go_big_quiet_op; go_big_quiet_on) | ((first | refine Mix.lex_skipT rfl rfl rfl (by with_reducible rfl) ?_ | refine Mix.lex_skipF rfl rfl rfl (by with_reducible rfl) ?_ | refine Mix.lex_skipU rfl rfl rfl (by with_reducible rfl) ?_); simp only [Act.put, List.setIfInBounds_toArray, List.set_cons_succ, List.set_cons_zero]) | (refine Mix.lex_part rfl rfl rfl rfl (fun hq => ?_) (fun hq => ?_) <;> (fail_if_success (guard_hyp hq :ₛ true = true)) <;> (fail_if_success (guard_hyp hq :ₛ false = false)) <;> first | (exfalso; cases hq; done) | (exfalso; simp only [decide_eq_true_eq, decide_eq_false_iff_not, beq_iff_eq, beq_eq_false_iff_ne, ne_eq, Int.not_lt, Int.not_le] at hq; omega) | simp only [Act.put, List.setIfInBounds_toArray, List.set_cons_succ, List.set_cons_zero]))); all_goals (refine Mix.lex_nil ?_)))
      go_ret
      exact ⟨rfl, U2.out.then_ext hu⟩
    · have g1 : decide (sectors < 1) = false := decide_eq_false b1
      have g2 : decide ((120 : Int) < sectors) = true := decide_eq_true (by omega)
      go_wp2_with (first | ((first | refine Mix.wpList_guarded rfl ?_ | refine Mix.wp_still (by kernel_rfl) (by kernel_rfl) ?_); (repeat' (first | (refine Mix.lex_quiet0 rfl rfl rfl ?_; intro K hK; go_big_quiet_op; go_big_quiet_on) | (refine Mix.lex_quietG rfl rfl rfl (by with_reducible rfl) rfl rfl ?_; intro K hK; go_big_quiet_op; go_big_quiet_on) | ((first | refine Mix.lex_skipT rfl rfl rfl (by with_reducible rfl) ?_ | refine Mix.lex_skipF rfl rfl rfl (by with_reducible rfl) ?_ | refine Mix.lex_skipU rfl rfl rfl (by with_reducible rfl) ?_); simp only [Act.put, List.setIfInBounds_toArray, List.set_cons_succ, List.set_cons_zero]) | (refine Mix.lex_part rfl rfl rfl rfl (fun hq => ?_) (fun hq => ?_) <;> (fail_if_success (guard_hyp hq :ₛ true = true)) <;> (fail_if_success (guard_hyp hq :ₛ false = false)) <;> first | (exfalso; cases hq; done) | (exfalso; simp only [decide_eq_true_eq, decide_eq_false_iff_not, beq_iff_eq, beq_eq_false_iff_ne, ne_eq, Int.not_lt, Int.not_le] at hq; omega) | simp only [Act.put, List.setIfInBounds_toArray, List.set_cons_succ, List.set_cons_zero]))); all_goals (refine Mix.lex_nil ?_)))
      refine (HSm.out _).mono ?_
      rintro e u3 ⟨rfl, hu⟩
      go_wp2_with (first | ((first | refine Mix.wpList_guarded rfl ?_ | refine Mix.wp_still (by kernel_rfl) (by kernel_rfl) ?_); (repeat' (first | (refine Mix.lex_quiet0 rfl rfl rfl ?_; intro K hK; go_big_quiet_op; go_big_quiet_on) | (refine Mix.lex_quietG rfl rfl rfl (by with_reducible rfl) rfl rfl ?_; intro K hK; go_big_quiet_op; go_big_quiet_on) | ((first | refine Mix.lex_skipT rfl rfl rfl (by with_reducible rfl) ?_ | refine Mix.lex_skipF rfl rfl rfl (by with_reducible rfl) ?_ | refine Mix.lex_skipU rfl rfl rfl (by with_reducible rfl) ?_); simp only [Act.put, List.setIfInBounds_toArray, List.set_cons_succ, List.set_cons_zero]) | (refine Mix.lex_part rfl rfl rfl rfl (fun hq => ?_) (fun hq => ?_) <;> (fail_if_success (guard_hyp hq :ₛ true = true)) <;> (fail_if_success (guard_hyp hq :ₛ false = false)) <;> first | (exfalso; cases hq; done) | (exfalso; simp only [decide_eq_true_eq, decide_eq_false_iff_not, beq_iff_eq, beq_eq_false_iff_ne, ne_eq, Int.not_lt, Int.not_le] at hq; omega) | simp only [Act.put, List.setIfInBounds_toArray, List.set_cons_succ, List.set_cons_zero]))); all_goals (refine Mix.lex_nil ?_)))
      go_ret
      exact ⟨rfl, U2.out.then_ext hu⟩
  obtain ⟨N, rfl⟩ : ∃ N : Nat, sectors = N := ⟨sectors.toNat, by omega⟩
  have hN1 : 1 ≤ N := by omega
  have hN2 : N ≤ 120 := by omega
  have HN := Lib.hid (New_ok N hN1 hN2 u1)
  have g1 : decide ((N : Int) < 1) = false := decide_eq_false (by omega)
  have g1' : decide (N < 1) = false := decide_eq_false (by omega)
  have g2 : decide ((120 : Int) < (N : Int)) = false := decide_eq_false (by omega)
  have g2' : decide (120 < N) = false := decide_eq_false (by omega)
  clear hbad
  go_wp2_with (first | ((first | refine Mix.wpList_guarded rfl ?_ | refine Mix.wp_still (by kernel_rfl) (by kernel_rfl) ?_); (repeat' (first | (refine Mix.lex_quiet0 rfl rfl rfl ?_; intro K hK; go_big_quiet_op; go_big_quiet_on) | (refine Mix.lex_quietG rfl rfl rfl (by with_reducible rfl) rfl rfl ?_; intro K hK; go_big_quiet_op; go_big_quiet_on) | ((first | refine Mix.lex_skipT rfl rfl rfl (by with_reducible rfl) ?_ | refine Mix.lex_skipF rfl rfl rfl (by with_reducible rfl) ?_ | refine Mix.lex_skipU rfl rfl rfl (by with_reducible rfl) ?_); simp only [Act.put, List.setIfInBounds_toArray, List.set_cons_succ, List.set_cons_zero]) | (refine Mix.lex_part rfl rfl rfl rfl (fun hq => ?_) (fun hq => ?_) <;> (fail_if_success (guard_hyp hq :ₛ true = true)) <;> (fail_if_success (guard_hyp hq :ₛ false = false)) <;> first | (exfalso; cases hq; done) | (exfalso; simp only [decide_eq_true_eq, decide_eq_false_iff_not, beq_iff_eq, beq_eq_false_iff_ne, ne_eq, Int.not_lt, Int.not_le] at hq; omega) | simp only [Act.put, List.setIfInBounds_toArray, List.set_cons_succ, List.set_cons_zero]))); all_goals (refine Mix.lex_nil ?_)))
  refine HN.out.mono ?_
  rintro e u2 ⟨r, rfl, hd, hu, hfp⟩
  have U2 := Lib.hid (U1.out.then_ext hu)
  have D2 := Lib.hid hd
  have FP : Hid (∀ b, r.fp b → w.heap.size ≤ b) := fun b hb => Nat.le_trans U1.out.size (hfp b hb)
  have HO := Lib.hid (Open_none hd)
  clear hd hu hfp HN U1
  go_wp2_with (first | ((first | refine Mix.wpList_guarded rfl ?_ | refine Mix.wp_still (by kernel_rfl) (by kernel_rfl) ?_); (repeat' (first | (refine Mix.lex_quiet0 rfl rfl rfl ?_; intro K hK; go_big_quiet_op; go_big_quiet_on) | (refine Mix.lex_quietG rfl rfl rfl (by with_reducible rfl) rfl rfl ?_; intro K hK; go_big_quiet_op; go_big_quiet_on) | ((first | refine Mix.lex_skipT rfl rfl rfl (by with_reducible rfl) ?_ | refine Mix.lex_skipF rfl rfl rfl (by with_reducible rfl) ?_ | refine Mix.lex_skipU rfl rfl rfl (by with_reducible rfl) ?_); simp only [Act.put, List.setIfInBounds_toArray, List.set_cons_succ, List.set_cons_zero]) | (refine Mix.lex_part rfl rfl rfl rfl (fun hq => ?_) (fun hq => ?_) <;> (fail_if_success (guard_hyp hq :ₛ true = true)) <;> (fail_if_success (guard_hyp hq :ₛ false = false)) <;> first | (exfalso; cases hq; done) | (exfalso; simp only [decide_eq_true_eq, decide_eq_false_iff_not, beq_iff_eq, beq_eq_false_iff_ne, ne_eq, Int.not_lt, Int.not_le] at hq; omega) | simp only [Act.put, List.setIfInBounds_toArray, List.set_cons_succ, List.set_cons_zero]))); all_goals (refine Mix.lex_nil ?_)))
  refine HO.out.mono ?_
  rintro e u3 ⟨rfl, hu⟩
  have U3 := Lib.hid (U2.out.then_ext hu)
  have D3 := Lib.hid (D2.out.ext hu)
  clear hu HO U2 D2
  have HS4 := Lib.hid (fun v => same_self 4 (by omega) v)
  go_wp2_with (first | ((first | refine Mix.wpList_guarded rfl ?_ | refine Mix.wp_still (by kernel_rfl) (by kernel_rfl) ?_); (repeat' (first | (refine Mix.lex_quiet0 rfl rfl rfl ?_; intro K hK; go_big_quiet_op; go_big_quiet_on) | (refine Mix.lex_quietG rfl rfl rfl (by with_reducible rfl) rfl rfl ?_; intro K hK; go_big_quiet_op; go_big_quiet_on) | ((first | refine Mix.lex_skipT rfl rfl rfl (by with_reducible rfl) ?_ | refine Mix.lex_skipF rfl rfl rfl (by with_reducible rfl) ?_ | refine Mix.lex_skipU rfl rfl rfl (by with_reducible rfl) ?_); simp only [Act.put, List.setIfInBounds_toArray, List.set_cons_succ, List.set_cons_zero]) | (refine Mix.lex_part rfl rfl rfl rfl (fun hq => ?_) (fun hq => ?_) <;> (fail_if_success (guard_hyp hq :ₛ true = true)) <;> (fail_if_success (guard_hyp hq :ₛ false = false)) <;> first | (exfalso; cases hq; done) | (exfalso; simp only [decide_eq_true_eq, decide_eq_false_iff_not, beq_iff_eq, beq_eq_false_iff_ne, ne_eq, Int.not_lt, Int.not_le] at hq; omega) | simp only [Act.put, List.setIfInBounds_toArray, List.set_cons_succ, List.set_cons_zero]))); all_goals (refine Mix.lex_nil ?_)))
  refine (HS4.out _).mono ?_
  rintro e u4 ⟨rfl, hu⟩
  have U4 := Lib.hid (U3.out.then_ext hu)
  have D4 := Lib.hid (D3.out.ext hu)
  clear hu HS4 U3 D3
  by_cases h50 : N < 50
  · have g5 : decide ((N : Int) < 50) = true := decide_eq_true (by omega)
    have g5' : decide (N < 50) = true := decide_eq_true (by omega)
    have HF := Lib.hid (Format_few D4.out h50)
    have HSm := Lib.hid (fun v => same_self 10 (by omega) v)
    go_wp2_with (first | ((first | refine Mix.wpList_guarded rfl ?_ | refine Mix.wp_still (by kernel_rfl) (by kernel_rfl) ?_); (repeat' (first | (refine Mix.lex_quiet0 rfl rfl rfl ?_; intro K hK; go_big_quiet_op; go_big_quiet_on) | (refine Mix.lex_quietG rfl rfl rfl (by with_reducible rfl) rfl rfl ?_; intro K hK; go_big_quiet_op; go_big_quiet_on) | ((first | refine Mix.lex_skipT rfl rfl rfl (by with_reducible rfl) ?_ | refine Mix.lex_skipF rfl rfl rfl (by with_reducible rfl) ?_ | refine Mix.lex_skipU rfl rfl rfl (by with_reducible rfl) ?_); simp only [Act.put, List.setIfInBounds_toArray, List.set_cons_succ, List.set_cons_zero]) | (refine Mix.lex_part rfl rfl rfl rfl (fun hq => ?_) (fun hq => ?_) <;> (fail_if_success (guard_hyp hq :ₛ true = true)) <;> (fail_if_success (guard_hyp hq :ₛ false = false)) <;> first | (exfalso; cases hq; done) | (exfalso; simp only [decide_eq_true_eq, decide_eq_false_iff_not, beq_iff_eq, beq_eq_false_iff_ne, ne_eq, Int.not_lt, Int.not_le] at hq; omega) | simp only [Act.put, List.setIfInBounds_toArray, List.set_cons_succ, List.set_cons_zero]))); all_goals (refine Mix.lex_nil ?_)))
    refine HF.out.mono ?_
    rintro e u5 ⟨rfl, hu⟩
    have U5 := Lib.hid (U4.out.then_ext hu)
    clear hu
    go_wp2_with (first | ((first | refine Mix.wpList_guarded rfl ?_ | refine Mix.wp_still (by kernel_rfl) (by kernel_rfl) ?_); (repeat' (first | (refine Mix.lex_quiet0 rfl rfl rfl ?_; intro K hK; go_big_quiet_op; go_big_quiet_on) | (refine Mix.lex_quietG rfl rfl rfl (by with_reducible rfl) rfl rfl ?_; intro K hK; go_big_quiet_op; go_big_quiet_on) | ((first | refine Mix.lex_skipT rfl rfl rfl (by with_reducible rfl) ?_ | refine Mix.lex_skipF rfl rfl rfl (by with_reducible rfl) ?_ | refine Mix.lex_skipU rfl rfl rfl (by with_reducible rfl) ?_); simp only [Act.put, List.setIfInBounds_toArray, List.set_cons_succ, List.set_cons_zero]) | (refine Mix.lex_part rfl rfl rfl rfl (fun hq => ?_) (fun hq => ?_) <;> (fail_if_success (guard_hyp hq :ₛ true = true)) <;> (fail_if_success (guard_hyp hq :ₛ false = false)) <;> first | (exfalso; cases hq; done) | (exfalso; simp only [decide_eq_true_eq, decide_eq_false_iff_not, beq_iff_eq, beq_eq_false_iff_ne, ne_eq, Int.not_lt, Int.not_le] at hq; omega) | simp only [Act.put, List.setIfInBounds_toArray, List.set_cons_succ, List.set_cons_zero]))); all_goals (refine Mix.lex_nil ?_)))
    refine (HSm.out _).mono ?_
    rintro e u6 ⟨rfl, hu⟩
    go_wp2_with (first | ((first | refine Mix.wpList_guarded rfl ?_ | refine Mix.wp_still (by kernel_rfl) (by kernel_rfl) ?_); (repeat' (first | (refine Mix.lex_quiet0 rfl rfl rfl ?_; intro K hK; go_big_quiet_op; go_big_quiet_on) | (refine Mix.lex_quietG rfl rfl rfl (by with_reducible rfl) rfl rfl ?_; intro K hK; go_big_quiet_op; go_big_quiet_on) | ((first | refine Mix.lex_skipT rfl rfl rfl (by with_reducible rfl) ?_ | refine Mix.lex_skipF rfl rfl rfl (by with_reducible rfl) ?_ | refine Mix.lex_skipU rfl rfl rfl (by with_reducible rfl) ?_); simp only [Act.put, List.setIfInBounds_toArray, List.set_cons_succ, List.set_cons_zero]) | (refine Mix.lex_part rfl rfl rfl rfl (fun hq => ?_) (fun hq => ?_) <;> (fail_if_success (guard_hyp hq :ₛ true = true)) <;> (fail_if_success (guard_hyp hq :ₛ false = false)) <;> first | (exfalso; cases hq; done) | (exfalso; simp only [decide_eq_true_eq, decide_eq_false_iff_not, beq_iff_eq, beq_eq_false_iff_ne, ne_eq, Int.not_lt, Int.not_le] at hq; omega) | simp only [Act.put, List.setIfInBounds_toArray, List.set_cons_succ, List.set_cons_zero]))); all_goals (refine Mix.lex_nil ?_)))
    go_ret
    exact ⟨rfl, U5.out.then_ext hu⟩
  have h1 : 50 ≤ N := by omega
  have g5 : decide ((N : Int) < 50) = false := decide_eq_false (by omega)
  have g5' : decide (N < 50) = false := decide_eq_false (by omega)
  have HF := Lib.hid (Format_ok D4.out h1 hN2)
  have HSt := Lib.hid (fun (w' : World) (r2 : DkR) (hd2 : DiskAt w' r2 (fmtD N)) (hx : Ext w w') => Open_live (HM.out.ext hx) hd2 (fmt_ok h1 hN2) rfl)
  clear D4
  go_wp2_with (first | ((first | refine Mix.wpList_guarded rfl ?_ | refine Mix.wp_still (by kernel_rfl) (by kernel_rfl) ?_); (repeat' (first | (refine Mix.lex_quiet0 rfl rfl rfl ?_; intro K hK; go_big_quiet_op; go_big_quiet_on) | (refine Mix.lex_quietG rfl rfl rfl (by with_reducible rfl) rfl rfl ?_; intro K hK; go_big_quiet_op; go_big_quiet_on) | ((first | refine Mix.lex_skipT rfl rfl rfl (by with_reducible rfl) ?_ | refine Mix.lex_skipF rfl rfl rfl (by with_reducible rfl) ?_ | refine Mix.lex_skipU rfl rfl rfl (by with_reducible rfl) ?_); simp only [Act.put, List.setIfInBounds_toArray, List.set_cons_succ, List.set_cons_zero]) | (refine Mix.lex_part rfl rfl rfl rfl (fun hq => ?_) (fun hq => ?_) <;> (fail_if_success (guard_hyp hq :ₛ true = true)) <;> (fail_if_success (guard_hyp hq :ₛ false = false)) <;> first | (exfalso; cases hq; done) | (exfalso; simp only [decide_eq_true_eq, decide_eq_false_iff_not, beq_iff_eq, beq_eq_false_iff_ne, ne_eq, Int.not_lt, Int.not_le] at hq; omega) | simp only [Act.put, List.setIfInBounds_toArray, List.set_cons_succ, List.set_cons_zero]))); all_goals (refine Mix.lex_nil ?_)))
  refine HF.out.mono ?_
  rintro e u5 ⟨rfl, r2, hd2, hg2, ho2, hf2⟩
  have D5 := Lib.hid hd2
  have U5 : Hid (Ext w u5) := U4.out.trans ho2 fun b hb e => by have := FP.out b e; omega
  have FP5 : Hid (∀ b, r2.fp b → w.heap.size ≤ b) := fun b hb => by
    rcases hf2 b hb with e | e
    · exact FP.out b e
    · have := U4.out.size; omega
  have HO := Lib.hid (HSt.out _ _ D5.out U5.out)
  rw [hg2] at HO
  have HG := Lib.hid hg2
  clear hd2 hg2 ho2 hf2 HF FP U4 HSt
  go_wp2_with (first | ((first | refine Mix.wpList_guarded rfl ?_ | refine Mix.wp_still (by kernel_rfl) (by kernel_rfl) ?_); (repeat' (first | (refine Mix.lex_quiet0 rfl rfl rfl ?_; intro K hK; go_big_quiet_op; go_big_quiet_on) | (refine Mix.lex_quietG rfl rfl rfl (by with_reducible rfl) rfl rfl ?_; intro K hK; go_big_quiet_op; go_big_quiet_on) | ((first | refine Mix.lex_skipT rfl rfl rfl (by with_reducible rfl) ?_ | refine Mix.lex_skipF rfl rfl rfl (by with_reducible rfl) ?_ | refine Mix.lex_skipU rfl rfl rfl (by with_reducible rfl) ?_); simp only [Act.put, List.setIfInBounds_toArray, List.set_cons_succ, List.set_cons_zero]) | (refine Mix.lex_part rfl rfl rfl rfl (fun hq => ?_) (fun hq => ?_) <;> (fail_if_success (guard_hyp hq :ₛ true = true)) <;> (fail_if_success (guard_hyp hq :ₛ false = false)) <;> first | (exfalso; cases hq; done) | (exfalso; simp only [decide_eq_true_eq, decide_eq_false_iff_not, beq_iff_eq, beq_eq_false_iff_ne, ne_eq, Int.not_lt, Int.not_le] at hq; omega) | simp only [Act.put, List.setIfInBounds_toArray, List.set_cons_succ, List.set_cons_zero]))); all_goals (refine Mix.lex_nil ?_)))
  refine HO.out.mono ?_
  rintro e u6 ⟨Z, rfl, hst, e1, e2, e3, hx, k1, k2⟩
  have L6 : Hid (Live w u6 Z r2 (fmtD N)) := Live.of_open U5.out.size (D5.out.ext hx) FP5.out (fmt_ok h1 hN2) (fmt_good N) rfl rfl (by rw [HG.out]; exact hst) e1 e2 e3 k1 k2
  have U6 := Lib.hid (U5.out.then_ext hx)
  have S6 : Hid (SV w u6 r.g Z.g N (N - 44) 0 1 1 [] Z r2 (fmtD N)) := ⟨L6.out, HG.out, rfl, rfl, e3, (z_eq0 e2).2.2.2, (z_eq0 e2).2.1, by rw [e1]; exact Nat.le_refl _, by rw [(z_eq0 e2).2.2.1]; exact Nat.le_refl _, by rw [fmt_len]⟩
  have HNz : Hid (∃ mn : Nat, mn = N - 44 ∧ (N : Int) - 44 = (mn : Int)) := ⟨N - 44, rfl, by omega⟩
  clear hst e1 e2 e3 hx k1 k2 HO D5 U5 FP5 L6
  go_upto_region 19 with fail
  obtain ⟨mn, hmn, hmi⟩ := HNz.out
  have hmn2 : mn ≤ 76 := by omega
  rw [← hmn] at S6
  rw [hmi]
  obtain ⟨gm, hgm⟩ : ∃ x, x = u6.heap.size := ⟨_, rfl⟩
  obtain ⟨w7, hw7⟩ : ∃ v, v = u6.alloc (.cells #[.slice none 0 0, .int .i64 0, .int .i64 (mn : Int)] rsT) := ⟨_, rfl⟩
  have x7 : Ext u6 w7 := by rw [hw7]; exact (Only.refl No u6).alloc _
  have C7 : Cs w7 gm rsT #[.slice none 0 0, .int .i64 0, .int .i64 (mn : Int)] := by rw [hw7, hgm]; exact Cs.new _ _ _
  have S7 := Lib.hid (S6.out.ext x7)
  have M7 : Hid (Md w7 (Z.fp r2) gm none 0 0 mn []) := ⟨C7, fun e => by have := fp_lt S6.out.lv.st S6.out.lv.dk _ e; omega, fun v _ => ⟨rfl, fun h => absurd h (by decide)⟩⟩
  have U7 := Lib.hid (U6.out.then_ext x7)
  have Hgm : Hid (w.heap.size ≤ gm) := by have := U6.out.size; rw [Hid]; omega
  rw [← hw7, ← hgm]
  have hN50 := h1
  clear hw7 hgm C7 x7 S6 U6 h1 hmn hmi HNz
  obtain ⟨dg, hdg⟩ : ∃ x, x = r.g := ⟨_, rfl⟩
  rw [← hdg] at S7 ⊢
  clear hdg HG
  go_wp2_with (first | ((first | refine Mix.wpList_guarded rfl ?_ | refine Mix.wp_still (by kernel_rfl) (by kernel_rfl) ?_); (repeat' (first | (refine Mix.lex_quiet0 rfl rfl rfl ?_; intro K hK; go_big_quiet_op; go_big_quiet_on) | (refine Mix.lex_quietG rfl rfl rfl (by with_reducible rfl) rfl rfl ?_; intro K hK; go_big_quiet_op; go_big_quiet_on) | ((first | refine Mix.lex_skipT rfl rfl rfl (by with_reducible rfl) ?_ | refine Mix.lex_skipF rfl rfl rfl (by with_reducible rfl) ?_ | refine Mix.lex_skipU rfl rfl rfl (by with_reducible rfl) ?_); simp only [Act.put, List.setIfInBounds_toArray, List.set_cons_succ, List.set_cons_zero]) | (refine Mix.lex_part rfl rfl rfl rfl (fun hq => ?_) (fun hq => ?_) <;> (fail_if_success (guard_hyp hq :ₛ true = true)) <;> (fail_if_success (guard_hyp hq :ₛ false = false)) <;> first | (exfalso; cases hq; done) | (exfalso; simp only [decide_eq_true_eq, decide_eq_false_iff_not, beq_iff_eq, beq_eq_false_iff_ne, ne_eq, Int.not_lt, Int.not_le] at hq; omega) | simp only [Act.put, List.setIfInBounds_toArray, List.set_cons_succ, List.set_cons_zero]))); all_goals (refine Mix.lex_nil ?_)))
  go_loopw [12, 9] (fun i s wr => ∃ j sg, j ≤ m ∧ i = .int .i64 (j : Int) ∧ s = pt sg ∧ SS w wr dg sg gm N mn j) (fun i _ _ => m - (intOf i).toNat)
  case atStart => exact ⟨0, Z.g, Nat.zero_le _, rfl, rfl, Z, r2, fmtD N, none, 0, 0, [], S7.out, M7.out, U7.out, HM.out.ext U7.out⟩
  case round =>
    obtain ⟨j, sg, hj, rfl, rfl, hss⟩ := hrel
    clear S7 M7 U7
    obtain ⟨wv, rfl⟩ : ∃ x, x = wr := ⟨_, rfl⟩
    obtain ⟨Z3, r3, d3, rA, rcap, used, rows, hS, hM, hx, hml⟩ := hss
    have S3 := Lib.hid hS
    have D3 := Lib.hid hM
    have X3 := Lib.hid hx
    have M3 := Lib.hid hml
    clear hS hM hx hml
    by_cases hlt : j < m
    case neg =>
      have glt : decide ((j : Int) < (m : Int)) = false := decide_eq_false (by omega)
      have glt' : decide (j < m) = false := decide_eq_false hlt
      go_wp2_with (first | ((first | refine Mix.wpList_guarded rfl ?_ | refine Mix.wp_still (by kernel_rfl) (by kernel_rfl) ?_); (repeat' (first | (refine Mix.lex_quiet0 rfl rfl rfl ?_; intro K hK; go_big_quiet_op; go_big_quiet_on) | (refine Mix.lex_quietG rfl rfl rfl (by with_reducible rfl) rfl rfl ?_; intro K hK; go_big_quiet_op; go_big_quiet_on) | ((first | refine Mix.lex_skipT rfl rfl rfl (by with_reducible rfl) ?_ | refine Mix.lex_skipF rfl rfl rfl (by with_reducible rfl) ?_ | refine Mix.lex_skipU rfl rfl rfl (by with_reducible rfl) ?_); simp only [Act.put, List.setIfInBounds_toArray, List.set_cons_succ, List.set_cons_zero]) | (refine Mix.lex_part rfl rfl rfl rfl (fun hq => ?_) (fun hq => ?_) <;> (fail_if_success (guard_hyp hq :ₛ true = true)) <;> (fail_if_success (guard_hyp hq :ₛ false = false)) <;> first | (exfalso; cases hq; done) | (exfalso; simp only [decide_eq_true_eq, decide_eq_false_iff_not, beq_iff_eq, beq_eq_false_iff_ne, ne_eq, Int.not_lt, Int.not_le] at hq; omega) | simp only [Act.put, List.setIfInBounds_toArray, List.set_cons_succ, List.set_cons_zero]))); all_goals (refine Mix.lex_nil ?_)))
      go_ret
      exact ⟨rfl, X3.out⟩
    have glt : decide ((j : Int) < (m : Int)) = true := decide_eq_true (by omega)
    have glt' : decide (j < m) = true := decide_eq_true hlt
    obtain ⟨b, o, x, rfl, hx, hmem, hc⟩ := deeds_get (HDs.out.ext X3.out) hlt
    have c0 : wv.cell? ⟨b, o + j * 6, none⟩ = some (S x.kind) := hc 0 (X.here _ _) _ rfl
    have c1 : wv.cell? ⟨b, o + j * 6 + 1, none⟩ = some (S x.s) := hc 1 (X.here _ _) _ rfl
    have c2 : wv.cell? ⟨b, o + j * 6 + 2, none⟩ = some (S x.t) := hc 2 (X.here _ _) _ rfl
    have c3 : wv.cell? ⟨b, o + j * 6 + 3, none⟩ = some (.int .i64 x.a) := hc 3 (X.here _ _) _ rfl
    have c4 : wv.cell? ⟨b, o + j * 6 + 4, none⟩ = some (.int .u64 (x.k : Int)) := hc 4 (X.here _ _) _ rfl
    have c5 : wv.cell? ⟨b, o + j * 6 + 5, none⟩ = some (.slice x.ca x.cn x.cc) := hc 5 (X.here _ _) _ rfl
    obtain ⟨gD, hgD⟩ : ∃ y, y = wv.heap.size := ⟨_, rfl⟩
    obtain ⟨v4, hv4⟩ : ∃ v, v = wv.alloc (.cells #[S x.kind, S x.s, S x.t, .int .i64 x.a, .int .u64 (x.k : Int), .slice x.ca x.cn x.cc] ddT) := ⟨_, rfl⟩
    have x4 : Ext wv v4 := by rw [hv4]; exact (Only.refl No wv).alloc _
    have hCD : Cs v4 gD ddT #[S x.kind, S x.s, S x.t, .int .i64 x.a, .int .u64 (x.k : Int), .slice x.ca x.cn x.cc] := by rw [hv4, hgD]; exact Cs.new _ _ _
    have Hlt := Lib.hid (fp_lt S3.out.lv.st S3.out.lv.dk)
    have HgD : Hid (w.heap.size ≤ gD ∧ gD ≠ gm ∧ ¬ Z3.fp r3 gD) := ⟨by have := X3.out.size; omega, by have := D3.out.cs.lt; omega, fun e => by have := Hlt.out _ e; omega⟩
    have S4 := Lib.hid (S3.out.ext x4)
    have D4 := Lib.hid (D3.out.ext x4)
    have X4 := Lib.hid (X3.out.then_ext x4)
    have M4 := Lib.hid (M3.out.ext x4)
    clear hc hx S3 D3 X3 M3 Hlt
    go_upto_region 23 with fail
    rw [← hv4, ← hgD]
    clear hv4 hgD x4 c0 c1 c2 c3 c4 c5
    have k0 : v4.cell? ⟨gD, 0, none⟩ = some (S x.kind) := hCD.cell 0
    have HCD := Lib.hid hCD
    have HE : Hid (1 + j + 1 ≤ 1000000000 ∧ 1 + mn * j + mn ≤ 1000000000) := by
      have : mn * j ≤ 76 * 40 := Nat.mul_le_mul hmn2 (by omega)
      rw [Hid]; omega
    have HG4 : Hid (GoodR rows ∧ rows.length ≤ 1000 ∧ used ≤ mn ∧ mn ≤ 1000) := by
      have h1 := S4.out.lv.on
      have h2 := S4.out.rw
      have h3 := S4.out.nx
      have h4 := S4.out.mn
      rw [Hid, ← h2, ← h3]
      exact ⟨h1.good.1, by have := h1.small; omega, by rw [← h4]; exact h1.lg.2.2.2.2.2, by omega⟩
    clear hCD
    obtain ⟨q, hq⟩ : ∃ q, (x.kind == ([99, 111, 109, 109, 105, 116] : Str)) = q := ⟨_, rfl⟩
    cases q with
    | true =>
      have hcn : x.cn = x.ch.length := (HDs.out.ch x hmem).1.symm
      have hc50 := (HLi.out.2 x hmem).1
      have k5 : ∀ ξ : X v4 No, ξ.v.cell? ⟨gD, 5, none⟩ = some (.slice x.ca x.cn x.cc) := HCD.out.x id 5
      have HCN := Lib.hid hcn
      have hcn50 : x.cn ≤ 50 := by omega
      clear hcn
      go_upto_region 29 with fail
      clear k0
      refine Mix.wp_flow 10 [2, 3, 6, 7, 8, 9] (Cl v4 (fun _ => True)) rfl (by kernel_rfl) (by kernel_rfl) (Cl.drew_ (X.here v4 _)) ?_
      (refine Mix.pre_quiet (i := 0) (by kernel_rfl) rfl rfl rfl rfl ?_; intro K hK; go_big_quiet_op; go_big_quiet_on); (refine Mix.pre_quiet (i := 1) (by kernel_rfl) rfl rfl rfl rfl ?_; intro K hK; go_big_quiet_op; go_big_quiet_on); (refine Mix.pre_quiet (i := 4) (by kernel_rfl) rfl rfl rfl rfl ?_; intro K hK; go_big_quiet_op; go_big_quiet_on); (refine Mix.pre_quiet (i := 5) (by kernel_rfl) rfl rfl rfl rfl ?_; intro K hK; go_big_quiet_op; go_big_quiet_on)
      have HDc : Hid (SlR chF w x.ca x.cn x.ch) := HDs.out.ch x hmem
      have HCb : Hid (∀ y ∈ x.ch, y.1.length ≤ 1000 ∧ y.2.1.length ≤ 1000) := fun y hy => by have := (HLi.out.2 x hmem).2 y hy; omega
      have HFp : Hid (0 ≤ (rcF rows used mn x.ch).2) := rcF_pos _ _ _ _
      have J0 : Hid (∀ vals, cmJ w dg sg gm gD N mn used (1 + j) (1 + mn * j) rows x.ch (.slice x.ca x.cn x.cc) #[S x.kind, S x.s, S x.t, .int .i64 x.a, .int .u64 (x.k : Int), .slice x.ca x.cn x.cc] [] vals v4.drew) := fun vals => by
        have xd : Ext v4 v4.drew := (Only.refl No v4).drew
        exact ⟨fun h => (by cases h), fun h => (by cases h), fun h => (by cases h), fun h => (by cases h), X4.out.then_ext xd, M4.out.ext xd, HCD.out.keep xd id, HgD.out.1, Hgm.out, Z3, r3, d3, rA, rcap, HgD.out.2.2, fun _ => S4.out.ext xd, fun h => (by cases h), fun _ => D4.out.ext xd, fun h => (by cases h)⟩
      refine Mix.pre_flowJ (fun i => match i with | 3 => [(2, some 109)] | 7 => [(6, some 113)] | 8 => [(3, some 110), (7, some 114)] | 9 => [(8, some 115)] | _ => [])
        [(2, some 109), (3, some 110), (6, some 113), (7, some 114), (8, some 115), (9, some 116)]
        (cmJ w dg sg gm gD N mn used (1 + j) (1 + mn * j) rows x.ch (.slice x.ca x.cn x.cc) #[S x.kind, S x.s, S x.t, .int .i64 x.a, .int .u64 (x.k : Int), .slice x.ca x.cn x.cc])
        (by kernel_rfl) rfl (by kernel_rfl) (Cl.drew_ (X.here v4 _)) J0.out ?_ ?_
      · simp only [Mix.stepsJ]
        refine ⟨?_, ?_, ?_, ?_, ?_, ?_, trivial⟩
        · rintro done vals u ⟨ξ, rfl⟩ hi _ hj
          have e0 : ξ.v.cell? ⟨gD, 5, none⟩ = some (.slice x.ca x.cn x.cc) := hj.2.2.2.2.2.2.1.cell 5
          (show Mix.goes _ _ _ _ _; refine Mix.goes_K ?_; intro K hK; simp only [Mix.putP, Act.put, List.setIfInBounds_toArray, List.set_cons_succ, List.set_cons_zero])
          go_simp
          exact hK _ _ ⟨⟨ξ, rfl⟩, hj.put (by decide) (by decide) (fun _ => rfl) (fun e => (by cases e)) (fun e => (by cases e)) (fun e => (by cases e))⟩
        · rintro done vals u ⟨ξ, rfl⟩ hi hd hj
          have e2 := hj.1 (hd (2, some 109) (by simp))
          (show Mix.goes _ _ _ _ _; refine Mix.goes_K ?_; intro K hK; simp only [Mix.putP, Act.put, List.setIfInBounds_toArray, List.set_cons_succ, List.set_cons_zero])
          rw [e2]
          go_simp
          refine (hj.c3 (cap := x.cc) hi HM.out HE.out HDc.out (by omega) HCb.out).mono ?_
          rintro e u2 ⟨rfl, hsz, ho, hj2⟩
          exact ⟨_, rfl, hK _ _ ⟨Cl.of (ξ.h.trans ho fun _ _ _ => trivial), hj2⟩⟩
        · rintro done vals u ⟨ξ, rfl⟩ hi _ hj
          have e0 : ξ.v.cell? ⟨gD, 5, none⟩ = some (.slice x.ca x.cn x.cc) := hj.2.2.2.2.2.2.1.cell 5
          (show Mix.goes _ _ _ _ _; refine Mix.goes_K ?_; intro K hK; simp only [Mix.putP, Act.put, List.setIfInBounds_toArray, List.set_cons_succ, List.set_cons_zero])
          go_simp
          exact hK _ _ ⟨⟨ξ, rfl⟩, hj.put (by decide) (by decide) (fun e => (by cases e)) (fun _ => rfl) (fun e => (by cases e)) (fun e => (by cases e))⟩
        · rintro done vals u ⟨ξ, rfl⟩ hi hd hj
          have e6 := hj.2.1 (hd (6, some 113) (by simp))
          (show Mix.goes _ _ _ _ _; refine Mix.goes_K ?_; intro K hK; simp only [Mix.putP, Act.put, List.setIfInBounds_toArray, List.set_cons_succ, List.set_cons_zero])
          rw [e6]
          go_simp
          refine (hj.c7 (cap := x.cc) hi HgD.out.2.1 HM.out HG4.out.1 HG4.out.2.1 HG4.out.2.2 HDc.out (by omega) HCb.out).mono ?_
          rintro e u2 ⟨rfl, hsz, ho, hj2⟩
          exact ⟨_, rfl, hK _ _ ⟨Cl.of (ξ.h.trans ho fun _ _ _ => trivial), hj2⟩⟩
        · rintro done vals u ⟨ξ, rfl⟩ hi hd hj
          obtain ⟨e3, e7⟩ := hj.both (hd (3, some 110) (by simp)) (hd (7, some 114) (by simp))
          (show Mix.goes _ _ _ _ _; refine Mix.goes_K ?_; intro K hK; simp only [Mix.putP, Act.put, List.setIfInBounds_toArray, List.set_cons_succ, List.set_cons_zero])
          rw [e3, e7]
          go_simp
          refine (same_self _ HFp.out _).mono ?_
          rintro e u2 ⟨rfl, hx⟩
          exact ⟨_, rfl, hK _ _ ⟨Cl.of (ξ.h.then_ext hx), (hj.ext hx).put (by decide) (by decide) (fun e => (by cases e)) (fun e => (by cases e)) (fun _ => rfl) (fun e => (by cases e))⟩⟩
        · rintro done vals u ⟨ξ, rfl⟩ hi hd hj
          have e8 := hj.2.2.1 (hd (8, some 115) (by simp))
          (show Mix.goes _ _ _ _ _; refine Mix.goes_K ?_; intro K hK; simp only [Mix.putP, Act.put, List.setIfInBounds_toArray, List.set_cons_succ, List.set_cons_zero])
          rw [e8]
          go_simp
          exact hK _ _ ⟨⟨ξ, rfl⟩, hj.put (by decide) (by decide) (fun e => (by cases e)) (fun e => (by cases e)) (fun e => (by cases e)) (fun _ => rfl)⟩
      · rintro done vals u ⟨ξ, rfl⟩ hd hj
        have e9 := hj.2.2.2.1 (hd (9, some 116) (by simp))
        obtain ⟨Zn, rn, dn, RA, RC, US, RW, hSn, hDn, hXn, hMn⟩ := hj.ends (hd (3, some 110) (by simp)) (hd (7, some 114) (by simp))
        have SVn := Lib.hid hSn
        have MDn := Lib.hid hDn
        have Xn := Lib.hid hXn
        have Mn := Lib.hid hMn
        obtain ⟨V, hV⟩ : ∃ V, V = ξ.v := ⟨_, rfl⟩
        rw [← hV] at SVn MDn Xn Mn ⊢
        simp only [Mix.putP, Act.put, List.setIfInBounds_toArray, List.set_cons_succ, List.set_cons_zero, e9]
        clear hSn hDn hXn hMn hj hd e9 hV J0 S4 D4 X4 M4 HE HG4 HCD k5 HCN
        have HNx : Hid (1 + j + 1 ≤ 1 + (j + 1) ∧ 1 + mn * j + mn ≤ 1 + mn * (j + 1)) := by rw [Hid, Nat.mul_add]; omega
        go_upto_region 35 with fail
        have HLn : Hid (RW.length ≤ 1000) := by have h1 := SVn.out.lv.on.small; have h2 := SVn.out.rw; rw [Hid, ← h2]; omega
        have hUSb : US ≤ mn := by have h1 := SVn.out.lv.on.lg.2.2.2.2.2; have h2 := SVn.out.nx; have h3 := SVn.out.mn; omega
        have q0 : ∀ ξ : X V No, ξ.v.cell? ⟨gm, 0, none⟩ = some (.slice RA RW.length RC) := Cs.x MDn.out.cs id 0
        have q1 : ∀ ξ : X V No, ξ.v.cell? ⟨gm, 1, none⟩ = some (.int .i64 (US : Int)) := Cs.x MDn.out.cs id 1
        have q2 : ∀ ξ : X V No, ξ.v.cell? ⟨gm, 2, none⟩ = some (.int .i64 (mn : Int)) := Cs.x MDn.out.cs id 2
        have HRo := Lib.hid (fun (u : World) (hu : Ext V u) => (SVn.out.ext hu).room)
        have HRw := Lib.hid (fun (u : World) (hu : Ext V u) => (SVn.out.ext hu).rows_c)
        have HSa : Hid (∀ (u : World), Ext V u → ∀ (Ax : Option Addr) (cx : Nat), SlR chF u Ax RW.length RW → Calls Try.prog 16 #[.slice Ax RW.length cx, .slice RA RW.length RC] u fun e w' => e = .returned (.bool true) ∧ Ext u w') := fun u hu Ax cx hF => by
          have := SameChanges_c (c := cx) (d := RC) hF (MDn.out.ext hu).here (Nat.le_trans HLn.out (by omega)) (Nat.le_trans HLn.out (by omega))
          rwa [decide_eq_true rfl] at this
        (refine Mix.wp_draw [1, 14, 19] 100 (Cl (V) (No)) (by kernel_rfl) (by kernel_rfl) (Cl.drew_ (X.here V No)) ?_; (repeat' (first | (refine Mix.lex_quiet0 rfl rfl rfl ?_; intro K hK; go_big_quiet_op; go_big_quiet_on) | (refine Mix.lex_quietG rfl rfl rfl (by with_reducible rfl) rfl rfl ?_; intro K hK; go_big_quiet_op; go_big_quiet_on) | ((first | refine Mix.lex_skipT rfl rfl rfl (by with_reducible rfl) ?_ | refine Mix.lex_skipF rfl rfl rfl (by with_reducible rfl) ?_ | refine Mix.lex_skipU rfl rfl rfl (by with_reducible rfl) ?_); simp only [Act.put, List.setIfInBounds_toArray, List.set_cons_succ, List.set_cons_zero]) | (refine Mix.lex_part rfl rfl rfl rfl (fun hq => ?_) (fun hq => ?_) <;> (fail_if_success (guard_hyp hq :ₛ true = true)) <;> (fail_if_success (guard_hyp hq :ₛ false = false)) <;> first | (exfalso; cases hq; done) | (exfalso; simp only [decide_eq_true_eq, decide_eq_false_iff_not, beq_iff_eq, beq_eq_false_iff_ne, ne_eq, Int.not_lt, Int.not_le] at hq; omega) | simp only [Act.put, List.setIfInBounds_toArray, List.set_cons_succ, List.set_cons_zero]))))
        ((first | refine Mix.lex_goes0 rfl rfl ?_ | refine Mix.lex_goesG rfl rfl rfl (by with_reducible rfl) rfl ?_); intro K hK; go_simp)
        refine (HRo.out _ ((Only.refl No V).drew)).mono ?_
        rintro e y1 ⟨rfl, hu⟩
        have Y1 : Hid (Ext V y1) := (Only.refl No V).drew.then_ext hu
        refine ⟨_, rfl, hK _ _ (fun _ => Cl.of Y1.out) ?_⟩
        clear hK K hu
        simp only [Act.put, List.setIfInBounds_toArray, List.set_cons_succ, List.set_cons_zero]
        have p0 := q0 ⟨y1, Y1.out⟩
        have p1 := q1 ⟨y1, Y1.out⟩
        have p2 := q2 ⟨y1, Y1.out⟩
        (repeat' (first | (refine Mix.lex_quiet0 rfl rfl rfl ?_; intro K hK; go_big_quiet_op; go_big_quiet_on) | (refine Mix.lex_quietG rfl rfl rfl (by with_reducible rfl) rfl rfl ?_; intro K hK; go_big_quiet_op; go_big_quiet_on) | ((first | refine Mix.lex_skipT rfl rfl rfl (by with_reducible rfl) ?_ | refine Mix.lex_skipF rfl rfl rfl (by with_reducible rfl) ?_ | refine Mix.lex_skipU rfl rfl rfl (by with_reducible rfl) ?_); simp only [Act.put, List.setIfInBounds_toArray, List.set_cons_succ, List.set_cons_zero]) | (refine Mix.lex_part rfl rfl rfl rfl (fun hq => ?_) (fun hq => ?_) <;> (fail_if_success (guard_hyp hq :ₛ true = true)) <;> (fail_if_success (guard_hyp hq :ₛ false = false)) <;> first | (exfalso; cases hq; done) | (exfalso; simp only [decide_eq_true_eq, decide_eq_false_iff_not, beq_iff_eq, beq_eq_false_iff_ne, ne_eq, Int.not_lt, Int.not_le] at hq; omega) | simp only [Act.put, List.setIfInBounds_toArray, List.set_cons_succ, List.set_cons_zero])))
        ((first | refine Mix.lex_goes0 rfl rfl ?_ | refine Mix.lex_goesG rfl rfl rfl (by with_reducible rfl) rfl ?_); intro K hK; go_simp)
        refine (HRw.out _ Y1.out).mono ?_
        rintro e y2 ⟨AX, CX, rfl, hF⟩
        have Y2 : Hid (Ext V y2) := Y1.out.then_ext hF.ext
        have HSb := HSa.out y2 Y2.out AX CX (hF.row (by decide))
        refine ⟨_, rfl, hK _ _ (fun _ => Cl.of Y2.out) ?_⟩
        clear hK K hF
        simp only [Act.put, List.setIfInBounds_toArray, List.set_cons_succ, List.set_cons_zero]
        have p3 := q0 ⟨y2, Y2.out⟩
        (repeat' (first | (refine Mix.lex_quiet0 rfl rfl rfl ?_; intro K hK; go_big_quiet_op; go_big_quiet_on) | (refine Mix.lex_quietG rfl rfl rfl (by with_reducible rfl) rfl rfl ?_; intro K hK; go_big_quiet_op; go_big_quiet_on) | ((first | refine Mix.lex_skipT rfl rfl rfl (by with_reducible rfl) ?_ | refine Mix.lex_skipF rfl rfl rfl (by with_reducible rfl) ?_ | refine Mix.lex_skipU rfl rfl rfl (by with_reducible rfl) ?_); simp only [Act.put, List.setIfInBounds_toArray, List.set_cons_succ, List.set_cons_zero]) | (refine Mix.lex_part rfl rfl rfl rfl (fun hq => ?_) (fun hq => ?_) <;> (fail_if_success (guard_hyp hq :ₛ true = true)) <;> (fail_if_success (guard_hyp hq :ₛ false = false)) <;> first | (exfalso; cases hq; done) | (exfalso; simp only [decide_eq_true_eq, decide_eq_false_iff_not, beq_iff_eq, beq_eq_false_iff_ne, ne_eq, Int.not_lt, Int.not_le] at hq; omega) | simp only [Act.put, List.setIfInBounds_toArray, List.set_cons_succ, List.set_cons_zero])))
        ((first | refine Mix.lex_goes0 rfl rfl ?_ | refine Mix.lex_goesG rfl rfl rfl (by with_reducible rfl) rfl ?_); intro K hK; go_simp)
        refine HSb.mono ?_
        rintro e y3 ⟨rfl, hu⟩
        have Y3 : Hid (Ext V y3) := Y2.out.then_ext hu
        refine ⟨_, rfl, hK _ _ (fun _ => Cl.of Y3.out) ?_⟩
        clear hK K hu
        simp only [Act.put, List.setIfInBounds_toArray, List.set_cons_succ, List.set_cons_zero]
        (repeat' (first | (refine Mix.lex_quiet0 rfl rfl rfl ?_; intro K hK; go_big_quiet_op; go_big_quiet_on) | (refine Mix.lex_quietG rfl rfl rfl (by with_reducible rfl) rfl rfl ?_; intro K hK; go_big_quiet_op; go_big_quiet_on) | ((first | refine Mix.lex_skipT rfl rfl rfl (by with_reducible rfl) ?_ | refine Mix.lex_skipF rfl rfl rfl (by with_reducible rfl) ?_ | refine Mix.lex_skipU rfl rfl rfl (by with_reducible rfl) ?_); simp only [Act.put, List.setIfInBounds_toArray, List.set_cons_succ, List.set_cons_zero]) | (refine Mix.lex_part rfl rfl rfl rfl (fun hq => ?_) (fun hq => ?_) <;> (fail_if_success (guard_hyp hq :ₛ true = true)) <;> (fail_if_success (guard_hyp hq :ₛ false = false)) <;> first | (exfalso; cases hq; done) | (exfalso; simp only [decide_eq_true_eq, decide_eq_false_iff_not, beq_iff_eq, beq_eq_false_iff_ne, ne_eq, Int.not_lt, Int.not_le] at hq; omega) | simp only [Act.put, List.setIfInBounds_toArray, List.set_cons_succ, List.set_cons_zero])))
        refine Mix.lex_nil ?_
        have SZ := Lib.hid ((SVn.out.ext Y3.out).weak HNx.out.1 HNx.out.2)
        have MZ := Lib.hid (MDn.out.ext Y3.out)
        have XZ := Lib.hid (Xn.out.then_ext Y3.out)
        have LZ := Lib.hid (Mn.out.ext Y3.out)
        clear HRo HRw HSa HSb SVn MDn Xn Mn Y1 Y2 Y3 q0 q1 q2 p0 p1 p2 p3
        go_wp2_with (first | ((first | refine Mix.wpList_guarded rfl ?_ | refine Mix.wp_still (by kernel_rfl) (by kernel_rfl) ?_); (repeat' (first | (refine Mix.lex_quiet0 rfl rfl rfl ?_; intro K hK; go_big_quiet_op; go_big_quiet_on) | (refine Mix.lex_quietG rfl rfl rfl (by with_reducible rfl) rfl rfl ?_; intro K hK; go_big_quiet_op; go_big_quiet_on) | ((first | refine Mix.lex_skipT rfl rfl rfl (by with_reducible rfl) ?_ | refine Mix.lex_skipF rfl rfl rfl (by with_reducible rfl) ?_ | refine Mix.lex_skipU rfl rfl rfl (by with_reducible rfl) ?_); simp only [Act.put, List.setIfInBounds_toArray, List.set_cons_succ, List.set_cons_zero]) | (refine Mix.lex_part rfl rfl rfl rfl (fun hq => ?_) (fun hq => ?_) <;> (fail_if_success (guard_hyp hq :ₛ true = true)) <;> (fail_if_success (guard_hyp hq :ₛ false = false)) <;> first | (exfalso; cases hq; done) | (exfalso; simp only [decide_eq_true_eq, decide_eq_false_iff_not, beq_iff_eq, beq_eq_false_iff_ne, ne_eq, Int.not_lt, Int.not_le] at hq; omega) | simp only [Act.put, List.setIfInBounds_toArray, List.set_cons_succ, List.set_cons_zero]))); all_goals (refine Mix.lex_nil ?_)))
        go_roundw
        case rel => exact ⟨j + 1, _, by omega, by go_num, rfl, Zn, rn, dn, RA, RC, US, RW, SZ.out, MZ.out, XZ.out, LZ.out⟩
        case measure => simp [intOf]; omega
    | false =>
      obtain ⟨q2, hq2⟩ : ∃ q, (x.kind == ([115, 97, 118, 101] : Str)) = q := ⟨_, rfl⟩
      cases q2 with
      | true =>
        have HSv := Lib.hid (S4.out.save HM.out M4.out X4.out.size HE.out)
        go_wp2_with (first | ((first | refine Mix.wpList_guarded rfl ?_ | refine Mix.wp_still (by kernel_rfl) (by kernel_rfl) ?_); (repeat' (first | (refine Mix.lex_quiet0 rfl rfl rfl ?_; intro K hK; go_big_quiet_op; go_big_quiet_on) | (refine Mix.lex_quietG rfl rfl rfl (by with_reducible rfl) rfl rfl ?_; intro K hK; go_big_quiet_op; go_big_quiet_on) | ((first | refine Mix.lex_skipT rfl rfl rfl (by with_reducible rfl) ?_ | refine Mix.lex_skipF rfl rfl rfl (by with_reducible rfl) ?_ | refine Mix.lex_skipU rfl rfl rfl (by with_reducible rfl) ?_); simp only [Act.put, List.setIfInBounds_toArray, List.set_cons_succ, List.set_cons_zero]) | (refine Mix.lex_part rfl rfl rfl rfl (fun hq => ?_) (fun hq => ?_) <;> (fail_if_success (guard_hyp hq :ₛ true = true)) <;> (fail_if_success (guard_hyp hq :ₛ false = false)) <;> first | (exfalso; cases hq; done) | (exfalso; simp only [decide_eq_true_eq, decide_eq_false_iff_not, beq_iff_eq, beq_eq_false_iff_ne, ne_eq, Int.not_lt, Int.not_le] at hq; omega) | simp only [Act.put, List.setIfInBounds_toArray, List.set_cons_succ, List.set_cons_zero]))); all_goals (refine Mix.lex_nil ?_)))
        refine HSv.out.mono ?_
        rintro e u5 ⟨rfl, Zn, rn, dn, hSn, ho, hf⟩
        have S5 := Lib.hid hSn
        have D5 := Lib.hid (D4.out.step ho hf)
        have X5 : Hid (Ext w u5) := X4.out.trans ho fun b hb e => by have := S4.out.lv.fp b e; omega
        have M5 : Hid (Ml u5) := ml_new HM.out M4.out ho S4.out.lv.fp
        clear hSn ho hf HSv S4 D4 X4 M4 HE HG4 HCD k0
        have z1 := D5.out.cs.frozen 1
        have z2 : u5.cell? ⟨gm, 1, none⟩ = some (.int .i64 (used : Nat)) := D5.out.cs.cell 1
        go_upto_region 35 with fail
        obtain ⟨V, hV⟩ : ∃ V, V = u5.setCell ⟨gm, 1, none⟩ (.int .i64 (0 : Int)) := ⟨_, rfl⟩
        have xo : Only (fun b => b = gm) u5 V := by rw [hV]; exact (Only.refl (fun b => b = gm) u5).setCell (p := ⟨gm, 1, none⟩) (.inr rfl) _
        have hng := D5.out.ng
        have hcs := D5.out.cs
        have SVn := Lib.hid (S5.out.keep xo (fun b hb e => hng (by rw [← e]; exact hb)) (own_ne_cs S5.out.lv.st.own hcs (by decide)))
        have MDn : Hid (Md V (Zn.fp rn) gm rA rcap 0 mn rows) := by rw [hV]; exact D5.out.used0
        have Xn : Hid (Ext w V) := X5.out.trans xo fun b hb e => by have := Hgm.out; omega
        have Mn : Hid (Ml V) := ml_new HM.out M5.out xo fun b e => by have := Hgm.out; omega
        rw [← hV]
        obtain ⟨RA, hRA⟩ : ∃ y, y = rA := ⟨_, rfl⟩
        obtain ⟨RC, hRC⟩ : ∃ y, y = rcap := ⟨_, rfl⟩
        obtain ⟨US, hUS⟩ : ∃ y : Nat, y = 0 := ⟨_, rfl⟩
        obtain ⟨RW, hRW⟩ : ∃ y, y = rows := ⟨_, rfl⟩
        rw [← hRA, ← hRC, ← hRW, ← hUS] at MDn
        rw [← hRW, ← hUS] at SVn
        clear hRA hRC hUS hRW hV xo hng hcs S5 D5 X5 M5 z1 z2
        have HNx : Hid (1 + j + 1 ≤ 1 + (j + 1) ∧ 1 + mn * j + mn ≤ 1 + mn * (j + 1)) := by rw [Hid, Nat.mul_add]; omega
        go_upto_region 35 with fail
        have HLn : Hid (RW.length ≤ 1000) := by have h1 := SVn.out.lv.on.small; have h2 := SVn.out.rw; rw [Hid, ← h2]; omega
        have hUSb : US ≤ mn := by have h1 := SVn.out.lv.on.lg.2.2.2.2.2; have h2 := SVn.out.nx; have h3 := SVn.out.mn; omega
        have q0 : ∀ ξ : X V No, ξ.v.cell? ⟨gm, 0, none⟩ = some (.slice RA RW.length RC) := Cs.x MDn.out.cs id 0
        have q1 : ∀ ξ : X V No, ξ.v.cell? ⟨gm, 1, none⟩ = some (.int .i64 (US : Int)) := Cs.x MDn.out.cs id 1
        have q2 : ∀ ξ : X V No, ξ.v.cell? ⟨gm, 2, none⟩ = some (.int .i64 (mn : Int)) := Cs.x MDn.out.cs id 2
        have HRo := Lib.hid (fun (u : World) (hu : Ext V u) => (SVn.out.ext hu).room)
        have HRw := Lib.hid (fun (u : World) (hu : Ext V u) => (SVn.out.ext hu).rows_c)
        have HSa : Hid (∀ (u : World), Ext V u → ∀ (Ax : Option Addr) (cx : Nat), SlR chF u Ax RW.length RW → Calls Try.prog 16 #[.slice Ax RW.length cx, .slice RA RW.length RC] u fun e w' => e = .returned (.bool true) ∧ Ext u w') := fun u hu Ax cx hF => by
          have := SameChanges_c (c := cx) (d := RC) hF (MDn.out.ext hu).here (Nat.le_trans HLn.out (by omega)) (Nat.le_trans HLn.out (by omega))
          rwa [decide_eq_true rfl] at this
        (refine Mix.wp_draw [1, 14, 19] 100 (Cl (V) (No)) (by kernel_rfl) (by kernel_rfl) (Cl.drew_ (X.here V No)) ?_; (repeat' (first | (refine Mix.lex_quiet0 rfl rfl rfl ?_; intro K hK; go_big_quiet_op; go_big_quiet_on) | (refine Mix.lex_quietG rfl rfl rfl (by with_reducible rfl) rfl rfl ?_; intro K hK; go_big_quiet_op; go_big_quiet_on) | ((first | refine Mix.lex_skipT rfl rfl rfl (by with_reducible rfl) ?_ | refine Mix.lex_skipF rfl rfl rfl (by with_reducible rfl) ?_ | refine Mix.lex_skipU rfl rfl rfl (by with_reducible rfl) ?_); simp only [Act.put, List.setIfInBounds_toArray, List.set_cons_succ, List.set_cons_zero]) | (refine Mix.lex_part rfl rfl rfl rfl (fun hq => ?_) (fun hq => ?_) <;> (fail_if_success (guard_hyp hq :ₛ true = true)) <;> (fail_if_success (guard_hyp hq :ₛ false = false)) <;> first | (exfalso; cases hq; done) | (exfalso; simp only [decide_eq_true_eq, decide_eq_false_iff_not, beq_iff_eq, beq_eq_false_iff_ne, ne_eq, Int.not_lt, Int.not_le] at hq; omega) | simp only [Act.put, List.setIfInBounds_toArray, List.set_cons_succ, List.set_cons_zero]))))
        ((first | refine Mix.lex_goes0 rfl rfl ?_ | refine Mix.lex_goesG rfl rfl rfl (by with_reducible rfl) rfl ?_); intro K hK; go_simp)
        refine (HRo.out _ ((Only.refl No V).drew)).mono ?_
        rintro e y1 ⟨rfl, hu⟩
        have Y1 : Hid (Ext V y1) := (Only.refl No V).drew.then_ext hu
        refine ⟨_, rfl, hK _ _ (fun _ => Cl.of Y1.out) ?_⟩
        clear hK K hu
        simp only [Act.put, List.setIfInBounds_toArray, List.set_cons_succ, List.set_cons_zero]
        have p0 := q0 ⟨y1, Y1.out⟩
        have p1 := q1 ⟨y1, Y1.out⟩
        have p2 := q2 ⟨y1, Y1.out⟩
        (repeat' (first | (refine Mix.lex_quiet0 rfl rfl rfl ?_; intro K hK; go_big_quiet_op; go_big_quiet_on) | (refine Mix.lex_quietG rfl rfl rfl (by with_reducible rfl) rfl rfl ?_; intro K hK; go_big_quiet_op; go_big_quiet_on) | ((first | refine Mix.lex_skipT rfl rfl rfl (by with_reducible rfl) ?_ | refine Mix.lex_skipF rfl rfl rfl (by with_reducible rfl) ?_ | refine Mix.lex_skipU rfl rfl rfl (by with_reducible rfl) ?_); simp only [Act.put, List.setIfInBounds_toArray, List.set_cons_succ, List.set_cons_zero]) | (refine Mix.lex_part rfl rfl rfl rfl (fun hq => ?_) (fun hq => ?_) <;> (fail_if_success (guard_hyp hq :ₛ true = true)) <;> (fail_if_success (guard_hyp hq :ₛ false = false)) <;> first | (exfalso; cases hq; done) | (exfalso; simp only [decide_eq_true_eq, decide_eq_false_iff_not, beq_iff_eq, beq_eq_false_iff_ne, ne_eq, Int.not_lt, Int.not_le] at hq; omega) | simp only [Act.put, List.setIfInBounds_toArray, List.set_cons_succ, List.set_cons_zero])))
        ((first | refine Mix.lex_goes0 rfl rfl ?_ | refine Mix.lex_goesG rfl rfl rfl (by with_reducible rfl) rfl ?_); intro K hK; go_simp)
        refine (HRw.out _ Y1.out).mono ?_
        rintro e y2 ⟨AX, CX, rfl, hF⟩
        have Y2 : Hid (Ext V y2) := Y1.out.then_ext hF.ext
        have HSb := HSa.out y2 Y2.out AX CX (hF.row (by decide))
        refine ⟨_, rfl, hK _ _ (fun _ => Cl.of Y2.out) ?_⟩
        clear hK K hF
        simp only [Act.put, List.setIfInBounds_toArray, List.set_cons_succ, List.set_cons_zero]
        have p3 := q0 ⟨y2, Y2.out⟩
        (repeat' (first | (refine Mix.lex_quiet0 rfl rfl rfl ?_; intro K hK; go_big_quiet_op; go_big_quiet_on) | (refine Mix.lex_quietG rfl rfl rfl (by with_reducible rfl) rfl rfl ?_; intro K hK; go_big_quiet_op; go_big_quiet_on) | ((first | refine Mix.lex_skipT rfl rfl rfl (by with_reducible rfl) ?_ | refine Mix.lex_skipF rfl rfl rfl (by with_reducible rfl) ?_ | refine Mix.lex_skipU rfl rfl rfl (by with_reducible rfl) ?_); simp only [Act.put, List.setIfInBounds_toArray, List.set_cons_succ, List.set_cons_zero]) | (refine Mix.lex_part rfl rfl rfl rfl (fun hq => ?_) (fun hq => ?_) <;> (fail_if_success (guard_hyp hq :ₛ true = true)) <;> (fail_if_success (guard_hyp hq :ₛ false = false)) <;> first | (exfalso; cases hq; done) | (exfalso; simp only [decide_eq_true_eq, decide_eq_false_iff_not, beq_iff_eq, beq_eq_false_iff_ne, ne_eq, Int.not_lt, Int.not_le] at hq; omega) | simp only [Act.put, List.setIfInBounds_toArray, List.set_cons_succ, List.set_cons_zero])))
        ((first | refine Mix.lex_goes0 rfl rfl ?_ | refine Mix.lex_goesG rfl rfl rfl (by with_reducible rfl) rfl ?_); intro K hK; go_simp)
        refine HSb.mono ?_
        rintro e y3 ⟨rfl, hu⟩
        have Y3 : Hid (Ext V y3) := Y2.out.then_ext hu
        refine ⟨_, rfl, hK _ _ (fun _ => Cl.of Y3.out) ?_⟩
        clear hK K hu
        simp only [Act.put, List.setIfInBounds_toArray, List.set_cons_succ, List.set_cons_zero]
        (repeat' (first | (refine Mix.lex_quiet0 rfl rfl rfl ?_; intro K hK; go_big_quiet_op; go_big_quiet_on) | (refine Mix.lex_quietG rfl rfl rfl (by with_reducible rfl) rfl rfl ?_; intro K hK; go_big_quiet_op; go_big_quiet_on) | ((first | refine Mix.lex_skipT rfl rfl rfl (by with_reducible rfl) ?_ | refine Mix.lex_skipF rfl rfl rfl (by with_reducible rfl) ?_ | refine Mix.lex_skipU rfl rfl rfl (by with_reducible rfl) ?_); simp only [Act.put, List.setIfInBounds_toArray, List.set_cons_succ, List.set_cons_zero]) | (refine Mix.lex_part rfl rfl rfl rfl (fun hq => ?_) (fun hq => ?_) <;> (fail_if_success (guard_hyp hq :ₛ true = true)) <;> (fail_if_success (guard_hyp hq :ₛ false = false)) <;> first | (exfalso; cases hq; done) | (exfalso; simp only [decide_eq_true_eq, decide_eq_false_iff_not, beq_iff_eq, beq_eq_false_iff_ne, ne_eq, Int.not_lt, Int.not_le] at hq; omega) | simp only [Act.put, List.setIfInBounds_toArray, List.set_cons_succ, List.set_cons_zero])))
        refine Mix.lex_nil ?_
        have SZ := Lib.hid ((SVn.out.ext Y3.out).weak HNx.out.1 HNx.out.2)
        have MZ := Lib.hid (MDn.out.ext Y3.out)
        have XZ := Lib.hid (Xn.out.then_ext Y3.out)
        have LZ := Lib.hid (Mn.out.ext Y3.out)
        clear HRo HRw HSa HSb SVn MDn Xn Mn Y1 Y2 Y3 q0 q1 q2 p0 p1 p2 p3
        go_wp2_with (first | ((first | refine Mix.wpList_guarded rfl ?_ | refine Mix.wp_still (by kernel_rfl) (by kernel_rfl) ?_); (repeat' (first | (refine Mix.lex_quiet0 rfl rfl rfl ?_; intro K hK; go_big_quiet_op; go_big_quiet_on) | (refine Mix.lex_quietG rfl rfl rfl (by with_reducible rfl) rfl rfl ?_; intro K hK; go_big_quiet_op; go_big_quiet_on) | ((first | refine Mix.lex_skipT rfl rfl rfl (by with_reducible rfl) ?_ | refine Mix.lex_skipF rfl rfl rfl (by with_reducible rfl) ?_ | refine Mix.lex_skipU rfl rfl rfl (by with_reducible rfl) ?_); simp only [Act.put, List.setIfInBounds_toArray, List.set_cons_succ, List.set_cons_zero]) | (refine Mix.lex_part rfl rfl rfl rfl (fun hq => ?_) (fun hq => ?_) <;> (fail_if_success (guard_hyp hq :ₛ true = true)) <;> (fail_if_success (guard_hyp hq :ₛ false = false)) <;> first | (exfalso; cases hq; done) | (exfalso; simp only [decide_eq_true_eq, decide_eq_false_iff_not, beq_iff_eq, beq_eq_false_iff_ne, ne_eq, Int.not_lt, Int.not_le] at hq; omega) | simp only [Act.put, List.setIfInBounds_toArray, List.set_cons_succ, List.set_cons_zero]))); all_goals (refine Mix.lex_nil ?_)))
        go_roundw
        case rel => exact ⟨j + 1, _, by omega, by go_num, rfl, Zn, rn, dn, RA, RC, US, RW, SZ.out, MZ.out, XZ.out, LZ.out⟩
        case measure => simp [intOf]; omega
      | false =>
        have HSv := Lib.hid (S4.out.open M4.out X4.out.size)
        go_wp2_with (first | ((first | refine Mix.wpList_guarded rfl ?_ | refine Mix.wp_still (by kernel_rfl) (by kernel_rfl) ?_); (repeat' (first | (refine Mix.lex_quiet0 rfl rfl rfl ?_; intro K hK; go_big_quiet_op; go_big_quiet_on) | (refine Mix.lex_quietG rfl rfl rfl (by with_reducible rfl) rfl rfl ?_; intro K hK; go_big_quiet_op; go_big_quiet_on) | ((first | refine Mix.lex_skipT rfl rfl rfl (by with_reducible rfl) ?_ | refine Mix.lex_skipF rfl rfl rfl (by with_reducible rfl) ?_ | refine Mix.lex_skipU rfl rfl rfl (by with_reducible rfl) ?_); simp only [Act.put, List.setIfInBounds_toArray, List.set_cons_succ, List.set_cons_zero]) | (refine Mix.lex_part rfl rfl rfl rfl (fun hq => ?_) (fun hq => ?_) <;> (fail_if_success (guard_hyp hq :ₛ true = true)) <;> (fail_if_success (guard_hyp hq :ₛ false = false)) <;> first | (exfalso; cases hq; done) | (exfalso; simp only [decide_eq_true_eq, decide_eq_false_iff_not, beq_iff_eq, beq_eq_false_iff_ne, ne_eq, Int.not_lt, Int.not_le] at hq; omega) | simp only [Act.put, List.setIfInBounds_toArray, List.set_cons_succ, List.set_cons_zero]))); all_goals (refine Mix.lex_nil ?_)))
        refine HSv.out.mono ?_
        rintro e u5 ⟨sg5, rfl, hx5, Zn, rn, dn, hSn, ho, hf⟩
        have SVn := Lib.hid hSn
        have MDn := Lib.hid (D4.out.step ho hf)
        have Xn := Lib.hid (X4.out.then_ext hx5)
        have Mn := Lib.hid (M4.out.ext hx5)
        clear hSn ho hf hx5 HSv S4 D4 X4 M4 HE HG4 HCD k0
        obtain ⟨V, hV⟩ : ∃ y, y = u5 := ⟨_, rfl⟩
        obtain ⟨RA, hRA⟩ : ∃ y, y = rA := ⟨_, rfl⟩
        obtain ⟨RC, hRC⟩ : ∃ y, y = rcap := ⟨_, rfl⟩
        obtain ⟨US, hUS⟩ : ∃ y, y = used := ⟨_, rfl⟩
        obtain ⟨RW, hRW⟩ : ∃ y, y = rows := ⟨_, rfl⟩
        subst hV hRA hRC hUS hRW
        have HNx : Hid (1 + j ≤ 1 + (j + 1) ∧ 1 + mn * j ≤ 1 + mn * (j + 1)) := by rw [Hid, Nat.mul_add]; omega
        go_upto_region 35 with fail
        have HLn : Hid (RW.length ≤ 1000) := by have h1 := SVn.out.lv.on.small; have h2 := SVn.out.rw; rw [Hid, ← h2]; omega
        have hUSb : US ≤ mn := by have h1 := SVn.out.lv.on.lg.2.2.2.2.2; have h2 := SVn.out.nx; have h3 := SVn.out.mn; omega
        have q0 : ∀ ξ : X V No, ξ.v.cell? ⟨gm, 0, none⟩ = some (.slice RA RW.length RC) := Cs.x MDn.out.cs id 0
        have q1 : ∀ ξ : X V No, ξ.v.cell? ⟨gm, 1, none⟩ = some (.int .i64 (US : Int)) := Cs.x MDn.out.cs id 1
        have q2 : ∀ ξ : X V No, ξ.v.cell? ⟨gm, 2, none⟩ = some (.int .i64 (mn : Int)) := Cs.x MDn.out.cs id 2
        have HRo := Lib.hid (fun (u : World) (hu : Ext V u) => (SVn.out.ext hu).room)
        have HRw := Lib.hid (fun (u : World) (hu : Ext V u) => (SVn.out.ext hu).rows_c)
        have HSa : Hid (∀ (u : World), Ext V u → ∀ (Ax : Option Addr) (cx : Nat), SlR chF u Ax RW.length RW → Calls Try.prog 16 #[.slice Ax RW.length cx, .slice RA RW.length RC] u fun e w' => e = .returned (.bool true) ∧ Ext u w') := fun u hu Ax cx hF => by
          have := SameChanges_c (c := cx) (d := RC) hF (MDn.out.ext hu).here (Nat.le_trans HLn.out (by omega)) (Nat.le_trans HLn.out (by omega))
          rwa [decide_eq_true rfl] at this
        (refine Mix.wp_draw [1, 14, 19] 100 (Cl (V) (No)) (by kernel_rfl) (by kernel_rfl) (Cl.drew_ (X.here V No)) ?_; (repeat' (first | (refine Mix.lex_quiet0 rfl rfl rfl ?_; intro K hK; go_big_quiet_op; go_big_quiet_on) | (refine Mix.lex_quietG rfl rfl rfl (by with_reducible rfl) rfl rfl ?_; intro K hK; go_big_quiet_op; go_big_quiet_on) | ((first | refine Mix.lex_skipT rfl rfl rfl (by with_reducible rfl) ?_ | refine Mix.lex_skipF rfl rfl rfl (by with_reducible rfl) ?_ | refine Mix.lex_skipU rfl rfl rfl (by with_reducible rfl) ?_); simp only [Act.put, List.setIfInBounds_toArray, List.set_cons_succ, List.set_cons_zero]) | (refine Mix.lex_part rfl rfl rfl rfl (fun hq => ?_) (fun hq => ?_) <;> (fail_if_success (guard_hyp hq :ₛ true = true)) <;> (fail_if_success (guard_hyp hq :ₛ false = false)) <;> first | (exfalso; cases hq; done) | (exfalso; simp only [decide_eq_true_eq, decide_eq_false_iff_not, beq_iff_eq, beq_eq_false_iff_ne, ne_eq, Int.not_lt, Int.not_le] at hq; omega) | simp only [Act.put, List.setIfInBounds_toArray, List.set_cons_succ, List.set_cons_zero]))))
        ((first | refine Mix.lex_goes0 rfl rfl ?_ | refine Mix.lex_goesG rfl rfl rfl (by with_reducible rfl) rfl ?_); intro K hK; go_simp)
        refine (HRo.out _ ((Only.refl No V).drew)).mono ?_
        rintro e y1 ⟨rfl, hu⟩
        have Y1 : Hid (Ext V y1) := (Only.refl No V).drew.then_ext hu
        refine ⟨_, rfl, hK _ _ (fun _ => Cl.of Y1.out) ?_⟩
        clear hK K hu
        simp only [Act.put, List.setIfInBounds_toArray, List.set_cons_succ, List.set_cons_zero]
        have p0 := q0 ⟨y1, Y1.out⟩
        have p1 := q1 ⟨y1, Y1.out⟩
        have p2 := q2 ⟨y1, Y1.out⟩
        (repeat' (first | (refine Mix.lex_quiet0 rfl rfl rfl ?_; intro K hK; go_big_quiet_op; go_big_quiet_on) | (refine Mix.lex_quietG rfl rfl rfl (by with_reducible rfl) rfl rfl ?_; intro K hK; go_big_quiet_op; go_big_quiet_on) | ((first | refine Mix.lex_skipT rfl rfl rfl (by with_reducible rfl) ?_ | refine Mix.lex_skipF rfl rfl rfl (by with_reducible rfl) ?_ | refine Mix.lex_skipU rfl rfl rfl (by with_reducible rfl) ?_); simp only [Act.put, List.setIfInBounds_toArray, List.set_cons_succ, List.set_cons_zero]) | (refine Mix.lex_part rfl rfl rfl rfl (fun hq => ?_) (fun hq => ?_) <;> (fail_if_success (guard_hyp hq :ₛ true = true)) <;> (fail_if_success (guard_hyp hq :ₛ false = false)) <;> first | (exfalso; cases hq; done) | (exfalso; simp only [decide_eq_true_eq, decide_eq_false_iff_not, beq_iff_eq, beq_eq_false_iff_ne, ne_eq, Int.not_lt, Int.not_le] at hq; omega) | simp only [Act.put, List.setIfInBounds_toArray, List.set_cons_succ, List.set_cons_zero])))
        ((first | refine Mix.lex_goes0 rfl rfl ?_ | refine Mix.lex_goesG rfl rfl rfl (by with_reducible rfl) rfl ?_); intro K hK; go_simp)
        refine (HRw.out _ Y1.out).mono ?_
        rintro e y2 ⟨AX, CX, rfl, hF⟩
        have Y2 : Hid (Ext V y2) := Y1.out.then_ext hF.ext
        have HSb := HSa.out y2 Y2.out AX CX (hF.row (by decide))
        refine ⟨_, rfl, hK _ _ (fun _ => Cl.of Y2.out) ?_⟩
        clear hK K hF
        simp only [Act.put, List.setIfInBounds_toArray, List.set_cons_succ, List.set_cons_zero]
        have p3 := q0 ⟨y2, Y2.out⟩
        (repeat' (first | (refine Mix.lex_quiet0 rfl rfl rfl ?_; intro K hK; go_big_quiet_op; go_big_quiet_on) | (refine Mix.lex_quietG rfl rfl rfl (by with_reducible rfl) rfl rfl ?_; intro K hK; go_big_quiet_op; go_big_quiet_on) | ((first | refine Mix.lex_skipT rfl rfl rfl (by with_reducible rfl) ?_ | refine Mix.lex_skipF rfl rfl rfl (by with_reducible rfl) ?_ | refine Mix.lex_skipU rfl rfl rfl (by with_reducible rfl) ?_); simp only [Act.put, List.setIfInBounds_toArray, List.set_cons_succ, List.set_cons_zero]) | (refine Mix.lex_part rfl rfl rfl rfl (fun hq => ?_) (fun hq => ?_) <;> (fail_if_success (guard_hyp hq :ₛ true = true)) <;> (fail_if_success (guard_hyp hq :ₛ false = false)) <;> first | (exfalso; cases hq; done) | (exfalso; simp only [decide_eq_true_eq, decide_eq_false_iff_not, beq_iff_eq, beq_eq_false_iff_ne, ne_eq, Int.not_lt, Int.not_le] at hq; omega) | simp only [Act.put, List.setIfInBounds_toArray, List.set_cons_succ, List.set_cons_zero])))
        ((first | refine Mix.lex_goes0 rfl rfl ?_ | refine Mix.lex_goesG rfl rfl rfl (by with_reducible rfl) rfl ?_); intro K hK; go_simp)
        refine HSb.mono ?_
        rintro e y3 ⟨rfl, hu⟩
        have Y3 : Hid (Ext V y3) := Y2.out.then_ext hu
        refine ⟨_, rfl, hK _ _ (fun _ => Cl.of Y3.out) ?_⟩
        clear hK K hu
        simp only [Act.put, List.setIfInBounds_toArray, List.set_cons_succ, List.set_cons_zero]
        (repeat' (first | (refine Mix.lex_quiet0 rfl rfl rfl ?_; intro K hK; go_big_quiet_op; go_big_quiet_on) | (refine Mix.lex_quietG rfl rfl rfl (by with_reducible rfl) rfl rfl ?_; intro K hK; go_big_quiet_op; go_big_quiet_on) | ((first | refine Mix.lex_skipT rfl rfl rfl (by with_reducible rfl) ?_ | refine Mix.lex_skipF rfl rfl rfl (by with_reducible rfl) ?_ | refine Mix.lex_skipU rfl rfl rfl (by with_reducible rfl) ?_); simp only [Act.put, List.setIfInBounds_toArray, List.set_cons_succ, List.set_cons_zero]) | (refine Mix.lex_part rfl rfl rfl rfl (fun hq => ?_) (fun hq => ?_) <;> (fail_if_success (guard_hyp hq :ₛ true = true)) <;> (fail_if_success (guard_hyp hq :ₛ false = false)) <;> first | (exfalso; cases hq; done) | (exfalso; simp only [decide_eq_true_eq, decide_eq_false_iff_not, beq_iff_eq, beq_eq_false_iff_ne, ne_eq, Int.not_lt, Int.not_le] at hq; omega) | simp only [Act.put, List.setIfInBounds_toArray, List.set_cons_succ, List.set_cons_zero])))
        refine Mix.lex_nil ?_
        have SZ := Lib.hid ((SVn.out.ext Y3.out).weak HNx.out.1 HNx.out.2)
        have MZ := Lib.hid (MDn.out.ext Y3.out)
        have XZ := Lib.hid (Xn.out.then_ext Y3.out)
        have LZ := Lib.hid (Mn.out.ext Y3.out)
        clear HRo HRw HSa HSb SVn MDn Xn Mn Y1 Y2 Y3 q0 q1 q2 p0 p1 p2 p3
        go_wp2_with (first | ((first | refine Mix.wpList_guarded rfl ?_ | refine Mix.wp_still (by kernel_rfl) (by kernel_rfl) ?_); (repeat' (first | (refine Mix.lex_quiet0 rfl rfl rfl ?_; intro K hK; go_big_quiet_op; go_big_quiet_on) | (refine Mix.lex_quietG rfl rfl rfl (by with_reducible rfl) rfl rfl ?_; intro K hK; go_big_quiet_op; go_big_quiet_on) | ((first | refine Mix.lex_skipT rfl rfl rfl (by with_reducible rfl) ?_ | refine Mix.lex_skipF rfl rfl rfl (by with_reducible rfl) ?_ | refine Mix.lex_skipU rfl rfl rfl (by with_reducible rfl) ?_); simp only [Act.put, List.setIfInBounds_toArray, List.set_cons_succ, List.set_cons_zero]) | (refine Mix.lex_part rfl rfl rfl rfl (fun hq => ?_) (fun hq => ?_) <;> (fail_if_success (guard_hyp hq :ₛ true = true)) <;> (fail_if_success (guard_hyp hq :ₛ false = false)) <;> first | (exfalso; cases hq; done) | (exfalso; simp only [decide_eq_true_eq, decide_eq_false_iff_not, beq_iff_eq, beq_eq_false_iff_ne, ne_eq, Int.not_lt, Int.not_le] at hq; omega) | simp only [Act.put, List.setIfInBounds_toArray, List.set_cons_succ, List.set_cons_zero]))); all_goals (refine Mix.lex_nil ?_)))
        go_roundw
        case rel => exact ⟨j + 1, _, by omega, by go_num, rfl, Zn, rn, dn, RA, RC, US, RW, SZ.out, MZ.out, XZ.out, LZ.out⟩
        case measure => simp [intOf]; omega
end Go.Proofs.Ytaphmmobmadfoaa
