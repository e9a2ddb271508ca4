/- Put together: Lg4. -/
import Derived.Test.YtaphmmobmadfoaaMc13
/- log.Open. -/
namespace Go.Proofs.Ytaphmmobmadfoaa
open Go Go.RowKit
theorem Room_c {w : World} {l : LogR} {dg : Nat} (h : LogAt w l dg) (h1 : l.many ≤ 1000) (h2 : l.next ≤ l.many) : Calls Try.prog 41 #[pt l.g] w fun e w' => e = .returned (.int .i64 ((l.many - l.next : Nat) : Int)) ∧ Ext w w' := by
  have c2 : w.cell? ⟨l.g, 2, none⟩ = some (.int .i64 (l.many : Nat)) := Cs.cell h 2
  have c4 : w.cell? ⟨l.g, 4, none⟩ = some (.int .i64 (l.next : Nat)) := Cs.cell h 4
  obtain ⟨-, -, d2, -, d4⟩ := h.x
  have e : ((l.many - l.next : Nat) : Int) = (l.many : Int) - (l.next : Int) := by omega
  clear h
  go_enter Try.func41, Try.ntmps41
  go_upto_region 1 with fail
  (refine Mix.wp_draw [] 100 (Cl (w) (No)) (by kernel_rfl) (by kernel_rfl) (Cl.drew_ (X.here w No)) ?_; (repeat' (first | (refine Mix.lex_quiet0 rfl rfl rfl ?_; intro K hK; go_big_quiet_op; go_big_quiet_on) | (refine Mix.lex_quietG rfl rfl rfl (by with_reducible rfl) rfl rfl ?_; intro K hK; go_big_quiet_op; go_big_quiet_on) | ((first | refine Mix.lex_skipT rfl rfl rfl (by with_reducible rfl) ?_ | refine Mix.lex_skipF rfl rfl rfl (by with_reducible rfl) ?_ | refine Mix.lex_skipU rfl rfl rfl (by with_reducible rfl) ?_); simp only [Act.put, List.setIfInBounds_toArray, List.set_cons_succ, List.set_cons_zero]) | (refine Mix.lex_part rfl rfl rfl rfl (fun hq => ?_) (fun hq => ?_) <;> (fail_if_success (guard_hyp hq :ₛ true = true)) <;> (fail_if_success (guard_hyp hq :ₛ false = false)) <;> first | (exfalso; cases hq; done) | (exfalso; simp only [decide_eq_true_eq, decide_eq_false_iff_not, beq_iff_eq, beq_eq_false_iff_ne, ne_eq, Int.not_lt, Int.not_le] at hq; omega) | simp only [Act.put, List.setIfInBounds_toArray, List.set_cons_succ, List.set_cons_zero]))))
  all_goals (refine Mix.lex_nil ?_)
  go_wp2_with fail
  go_ret
  exact ⟨by rw [e]; rfl, (Only.refl _ _).drew⟩
theorem Next_c {w : World} {l : LogR} {dg : Nat} (h : LogAt w l dg) (h1 : l.many ≤ 1000) (h2 : l.first ≤ 1000000000000) : Calls Try.prog 45 #[pt l.g] w fun e w' => e = .returned (.int .i64 ((l.first + l.many : Nat) : Int)) ∧ Ext w w' := by
  have c2 : w.cell? ⟨l.g, 2, none⟩ = some (.int .i64 (l.many : Nat)) := Cs.cell h 2
  have c4 : w.cell? ⟨l.g, 3, none⟩ = some (.int .i64 (l.first : Nat)) := Cs.cell h 3
  obtain ⟨-, -, d2, d3, -⟩ := h.x
  have e : ((l.first + l.many : Nat) : Int) = (l.first : Int) + (l.many : Int) := by omega
  clear h
  go_enter Try.func45, Try.ntmps45
  go_upto_region 1 with fail
  (refine Mix.wp_draw [] 100 (Cl (w) (No)) (by kernel_rfl) (by kernel_rfl) (Cl.drew_ (X.here w No)) ?_; (repeat' (first | (refine Mix.lex_quiet0 rfl rfl rfl ?_; intro K hK; go_big_quiet_op; go_big_quiet_on) | (refine Mix.lex_quietG rfl rfl rfl (by with_reducible rfl) rfl rfl ?_; intro K hK; go_big_quiet_op; go_big_quiet_on) | ((first | refine Mix.lex_skipT rfl rfl rfl (by with_reducible rfl) ?_ | refine Mix.lex_skipF rfl rfl rfl (by with_reducible rfl) ?_ | refine Mix.lex_skipU rfl rfl rfl (by with_reducible rfl) ?_); simp only [Act.put, List.setIfInBounds_toArray, List.set_cons_succ, List.set_cons_zero]) | (refine Mix.lex_part rfl rfl rfl rfl (fun hq => ?_) (fun hq => ?_) <;> (fail_if_success (guard_hyp hq :ₛ true = true)) <;> (fail_if_success (guard_hyp hq :ₛ false = false)) <;> first | (exfalso; cases hq; done) | (exfalso; simp only [decide_eq_true_eq, decide_eq_false_iff_not, beq_iff_eq, beq_eq_false_iff_ne, ne_eq, Int.not_lt, Int.not_le] at hq; omega) | simp only [Act.put, List.setIfInBounds_toArray, List.set_cons_succ, List.set_cons_zero]))))
  all_goals (refine Mix.lex_nil ?_)
  go_wp2_with fail
  go_ret
  exact ⟨by rw [e]; rfl, (Only.refl _ _).drew⟩
theorem Open_bad {w : World} {r : DkR} {d : Dk} (h : DiskAt w r d) (from_ many first : Int) (hb : from_ < 0 ∨ many < 1 ∨ (d.now.length : Int) < many ∨ (d.now.length : Int) - many < from_ ∨ first < 1) :
    Calls Try.prog 34 #[pt r.g, .int .i64 from_, .int .i64 many, .int .i64 first] w fun e w' => e = .returned (.tuple #[.pointer none, .slice none 0 0, E 1]) ∧ Ext w w' := by
  have HS := Lib.hid (fun (v : World) (hv : Ext w v) => Sectors_c (h.ext hv))
  have hn := h.fine.most
  generalize d.now.length = n at HS hb hn
  clear h
  by_cases h1 : from_ < 0
  · have g1 : decide (from_ < 0) = true := decide_eq_true h1
    go_enter Try.func34, Try.ntmps34
    go_wp2_with (first | ((first | refine Mix.wpList_guarded rfl ?_ | refine Mix.wp_still (by kernel_rfl) (by kernel_rfl) ?_); (repeat' (first | (refine Mix.lex_quiet0 rfl rfl rfl ?_; intro K hK; go_big_quiet_op; go_big_quiet_on) | (refine Mix.lex_quietG rfl rfl rfl (by with_reducible rfl) rfl rfl ?_; intro K hK; go_big_quiet_op; go_big_quiet_on) | ((first | refine Mix.lex_skipT rfl rfl rfl (by with_reducible rfl) ?_ | refine Mix.lex_skipF rfl rfl rfl (by with_reducible rfl) ?_ | refine Mix.lex_skipU rfl rfl rfl (by with_reducible rfl) ?_); simp only [Act.put, List.setIfInBounds_toArray, List.set_cons_succ, List.set_cons_zero]) | (refine Mix.lex_part rfl rfl rfl rfl (fun hq => ?_) (fun hq => ?_) <;> (fail_if_success (guard_hyp hq :ₛ true = true)) <;> (fail_if_success (guard_hyp hq :ₛ false = false)) <;> first | (exfalso; cases hq; done) | (exfalso; simp only [decide_eq_true_eq, decide_eq_false_iff_not, beq_iff_eq, beq_eq_false_iff_ne, ne_eq, Int.not_lt, Int.not_le] at hq; omega) | simp only [Act.put, List.setIfInBounds_toArray, List.set_cons_succ, List.set_cons_zero]))); all_goals (refine Mix.lex_nil ?_)))
    go_ret3
    exact ⟨rfl, Only.refl _ _⟩
  have g1 : decide (from_ < 0) = false := decide_eq_false h1
  by_cases h2 : many < 1
  · have g2 : decide (many < 1) = true := decide_eq_true h2
    go_enter Try.func34, Try.ntmps34
    go_wp2_with (first | ((first | refine Mix.wpList_guarded rfl ?_ | refine Mix.wp_still (by kernel_rfl) (by kernel_rfl) ?_); (repeat' (first | (refine Mix.lex_quiet0 rfl rfl rfl ?_; intro K hK; go_big_quiet_op; go_big_quiet_on) | (refine Mix.lex_quietG rfl rfl rfl (by with_reducible rfl) rfl rfl ?_; intro K hK; go_big_quiet_op; go_big_quiet_on) | ((first | refine Mix.lex_skipT rfl rfl rfl (by with_reducible rfl) ?_ | refine Mix.lex_skipF rfl rfl rfl (by with_reducible rfl) ?_ | refine Mix.lex_skipU rfl rfl rfl (by with_reducible rfl) ?_); simp only [Act.put, List.setIfInBounds_toArray, List.set_cons_succ, List.set_cons_zero]) | (refine Mix.lex_part rfl rfl rfl rfl (fun hq => ?_) (fun hq => ?_) <;> (fail_if_success (guard_hyp hq :ₛ true = true)) <;> (fail_if_success (guard_hyp hq :ₛ false = false)) <;> first | (exfalso; cases hq; done) | (exfalso; simp only [decide_eq_true_eq, decide_eq_false_iff_not, beq_iff_eq, beq_eq_false_iff_ne, ne_eq, Int.not_lt, Int.not_le] at hq; omega) | simp only [Act.put, List.setIfInBounds_toArray, List.set_cons_succ, List.set_cons_zero]))); all_goals (refine Mix.lex_nil ?_)))
    go_ret3
    exact ⟨rfl, Only.refl _ _⟩
  have g2 : decide (many < 1) = false := decide_eq_false h2
  by_cases h3 : (n : Int) < many
  · have g3 : decide ((n : Int) < many) = true := decide_eq_true h3
    go_enter Try.func34, Try.ntmps34
    go_wp2_with (first | ((first | refine Mix.wpList_guarded rfl ?_ | refine Mix.wp_still (by kernel_rfl) (by kernel_rfl) ?_); (repeat' (first | (refine Mix.lex_quiet0 rfl rfl rfl ?_; intro K hK; go_big_quiet_op; go_big_quiet_on) | (refine Mix.lex_quietG rfl rfl rfl (by with_reducible rfl) rfl rfl ?_; intro K hK; go_big_quiet_op; go_big_quiet_on) | ((first | refine Mix.lex_skipT rfl rfl rfl (by with_reducible rfl) ?_ | refine Mix.lex_skipF rfl rfl rfl (by with_reducible rfl) ?_ | refine Mix.lex_skipU rfl rfl rfl (by with_reducible rfl) ?_); simp only [Act.put, List.setIfInBounds_toArray, List.set_cons_succ, List.set_cons_zero]) | (refine Mix.lex_part rfl rfl rfl rfl (fun hq => ?_) (fun hq => ?_) <;> (fail_if_success (guard_hyp hq :ₛ true = true)) <;> (fail_if_success (guard_hyp hq :ₛ false = false)) <;> first | (exfalso; cases hq; done) | (exfalso; simp only [decide_eq_true_eq, decide_eq_false_iff_not, beq_iff_eq, beq_eq_false_iff_ne, ne_eq, Int.not_lt, Int.not_le] at hq; omega) | simp only [Act.put, List.setIfInBounds_toArray, List.set_cons_succ, List.set_cons_zero]))); all_goals (refine Mix.lex_nil ?_)))
    refine (HS.out _ (Only.refl _ _)).mono ?_
    rintro e u ⟨rfl, hu⟩
    go_wp2_with (first | ((first | refine Mix.wpList_guarded rfl ?_ | refine Mix.wp_still (by kernel_rfl) (by kernel_rfl) ?_); (repeat' (first | (refine Mix.lex_quiet0 rfl rfl rfl ?_; intro K hK; go_big_quiet_op; go_big_quiet_on) | (refine Mix.lex_quietG rfl rfl rfl (by with_reducible rfl) rfl rfl ?_; intro K hK; go_big_quiet_op; go_big_quiet_on) | ((first | refine Mix.lex_skipT rfl rfl rfl (by with_reducible rfl) ?_ | refine Mix.lex_skipF rfl rfl rfl (by with_reducible rfl) ?_ | refine Mix.lex_skipU rfl rfl rfl (by with_reducible rfl) ?_); simp only [Act.put, List.setIfInBounds_toArray, List.set_cons_succ, List.set_cons_zero]) | (refine Mix.lex_part rfl rfl rfl rfl (fun hq => ?_) (fun hq => ?_) <;> (fail_if_success (guard_hyp hq :ₛ true = true)) <;> (fail_if_success (guard_hyp hq :ₛ false = false)) <;> first | (exfalso; cases hq; done) | (exfalso; simp only [decide_eq_true_eq, decide_eq_false_iff_not, beq_iff_eq, beq_eq_false_iff_ne, ne_eq, Int.not_lt, Int.not_le] at hq; omega) | simp only [Act.put, List.setIfInBounds_toArray, List.set_cons_succ, List.set_cons_zero]))); all_goals (refine Mix.lex_nil ?_)))
    go_ret3
    exact ⟨rfl, hu⟩
  have g3 : decide ((n : Int) < many) = false := decide_eq_false h3
  by_cases h4 : (n : Int) - many < from_
  · have g4 : decide ((n : Int) - many < from_) = true := decide_eq_true h4
    go_enter Try.func34, Try.ntmps34
    go_wp2_with (first | ((first | refine Mix.wpList_guarded rfl ?_ | refine Mix.wp_still (by kernel_rfl) (by kernel_rfl) ?_); (repeat' (first | (refine Mix.lex_quiet0 rfl rfl rfl ?_; intro K hK; go_big_quiet_op; go_big_quiet_on) | (refine Mix.lex_quietG rfl rfl rfl (by with_reducible rfl) rfl rfl ?_; intro K hK; go_big_quiet_op; go_big_quiet_on) | ((first | refine Mix.lex_skipT rfl rfl rfl (by with_reducible rfl) ?_ | refine Mix.lex_skipF rfl rfl rfl (by with_reducible rfl) ?_ | refine Mix.lex_skipU rfl rfl rfl (by with_reducible rfl) ?_); simp only [Act.put, List.setIfInBounds_toArray, List.set_cons_succ, List.set_cons_zero]) | (refine Mix.lex_part rfl rfl rfl rfl (fun hq => ?_) (fun hq => ?_) <;> (fail_if_success (guard_hyp hq :ₛ true = true)) <;> (fail_if_success (guard_hyp hq :ₛ false = false)) <;> first | (exfalso; cases hq; done) | (exfalso; simp only [decide_eq_true_eq, decide_eq_false_iff_not, beq_iff_eq, beq_eq_false_iff_ne, ne_eq, Int.not_lt, Int.not_le] at hq; omega) | simp only [Act.put, List.setIfInBounds_toArray, List.set_cons_succ, List.set_cons_zero]))); all_goals (refine Mix.lex_nil ?_)))
    refine (HS.out _ (Only.refl _ _)).mono ?_
    rintro e u ⟨rfl, hu⟩
    go_wp2_with (first | ((first | refine Mix.wpList_guarded rfl ?_ | refine Mix.wp_still (by kernel_rfl) (by kernel_rfl) ?_); (repeat' (first | (refine Mix.lex_quiet0 rfl rfl rfl ?_; intro K hK; go_big_quiet_op; go_big_quiet_on) | (refine Mix.lex_quietG rfl rfl rfl (by with_reducible rfl) rfl rfl ?_; intro K hK; go_big_quiet_op; go_big_quiet_on) | ((first | refine Mix.lex_skipT rfl rfl rfl (by with_reducible rfl) ?_ | refine Mix.lex_skipF rfl rfl rfl (by with_reducible rfl) ?_ | refine Mix.lex_skipU rfl rfl rfl (by with_reducible rfl) ?_); simp only [Act.put, List.setIfInBounds_toArray, List.set_cons_succ, List.set_cons_zero]) | (refine Mix.lex_part rfl rfl rfl rfl (fun hq => ?_) (fun hq => ?_) <;> (fail_if_success (guard_hyp hq :ₛ true = true)) <;> (fail_if_success (guard_hyp hq :ₛ false = false)) <;> first | (exfalso; cases hq; done) | (exfalso; simp only [decide_eq_true_eq, decide_eq_false_iff_not, beq_iff_eq, beq_eq_false_iff_ne, ne_eq, Int.not_lt, Int.not_le] at hq; omega) | simp only [Act.put, List.setIfInBounds_toArray, List.set_cons_succ, List.set_cons_zero]))); all_goals (refine Mix.lex_nil ?_)))
    refine (HS.out _ hu).mono ?_
    rintro e u2 ⟨rfl, hu2⟩
    go_wp2_with (first | ((first | refine Mix.wpList_guarded rfl ?_ | refine Mix.wp_still (by kernel_rfl) (by kernel_rfl) ?_); (repeat' (first | (refine Mix.lex_quiet0 rfl rfl rfl ?_; intro K hK; go_big_quiet_op; go_big_quiet_on) | (refine Mix.lex_quietG rfl rfl rfl (by with_reducible rfl) rfl rfl ?_; intro K hK; go_big_quiet_op; go_big_quiet_on) | ((first | refine Mix.lex_skipT rfl rfl rfl (by with_reducible rfl) ?_ | refine Mix.lex_skipF rfl rfl rfl (by with_reducible rfl) ?_ | refine Mix.lex_skipU rfl rfl rfl (by with_reducible rfl) ?_); simp only [Act.put, List.setIfInBounds_toArray, List.set_cons_succ, List.set_cons_zero]) | (refine Mix.lex_part rfl rfl rfl rfl (fun hq => ?_) (fun hq => ?_) <;> (fail_if_success (guard_hyp hq :ₛ true = true)) <;> (fail_if_success (guard_hyp hq :ₛ false = false)) <;> first | (exfalso; cases hq; done) | (exfalso; simp only [decide_eq_true_eq, decide_eq_false_iff_not, beq_iff_eq, beq_eq_false_iff_ne, ne_eq, Int.not_lt, Int.not_le] at hq; omega) | simp only [Act.put, List.setIfInBounds_toArray, List.set_cons_succ, List.set_cons_zero]))); all_goals (refine Mix.lex_nil ?_)))
    go_ret3
    exact ⟨rfl, hu.then_ext hu2⟩
  have g4 : decide ((n : Int) - many < from_) = false := decide_eq_false h4
  have h5 : first < 1 := by omega
  have g5 : decide (first < 1) = true := decide_eq_true h5
  go_enter Try.func34, Try.ntmps34
  go_wp2_with (first | ((first | refine Mix.wpList_guarded rfl ?_ | refine Mix.wp_still (by kernel_rfl) (by kernel_rfl) ?_); (repeat' (first | (refine Mix.lex_quiet0 rfl rfl rfl ?_; intro K hK; go_big_quiet_op; go_big_quiet_on) | (refine Mix.lex_quietG rfl rfl rfl (by with_reducible rfl) rfl rfl ?_; intro K hK; go_big_quiet_op; go_big_quiet_on) | ((first | refine Mix.lex_skipT rfl rfl rfl (by with_reducible rfl) ?_ | refine Mix.lex_skipF rfl rfl rfl (by with_reducible rfl) ?_ | refine Mix.lex_skipU rfl rfl rfl (by with_reducible rfl) ?_); simp only [Act.put, List.setIfInBounds_toArray, List.set_cons_succ, List.set_cons_zero]) | (refine Mix.lex_part rfl rfl rfl rfl (fun hq => ?_) (fun hq => ?_) <;> (fail_if_success (guard_hyp hq :ₛ true = true)) <;> (fail_if_success (guard_hyp hq :ₛ false = false)) <;> first | (exfalso; cases hq; done) | (exfalso; simp only [decide_eq_true_eq, decide_eq_false_iff_not, beq_iff_eq, beq_eq_false_iff_ne, ne_eq, Int.not_lt, Int.not_le] at hq; omega) | simp only [Act.put, List.setIfInBounds_toArray, List.set_cons_succ, List.set_cons_zero]))); all_goals (refine Mix.lex_nil ?_)))
  refine (HS.out _ (Only.refl _ _)).mono ?_
  rintro e u ⟨rfl, hu⟩
  go_wp2_with (first | ((first | refine Mix.wpList_guarded rfl ?_ | refine Mix.wp_still (by kernel_rfl) (by kernel_rfl) ?_); (repeat' (first | (refine Mix.lex_quiet0 rfl rfl rfl ?_; intro K hK; go_big_quiet_op; go_big_quiet_on) | (refine Mix.lex_quietG rfl rfl rfl (by with_reducible rfl) rfl rfl ?_; intro K hK; go_big_quiet_op; go_big_quiet_on) | ((first | refine Mix.lex_skipT rfl rfl rfl (by with_reducible rfl) ?_ | refine Mix.lex_skipF rfl rfl rfl (by with_reducible rfl) ?_ | refine Mix.lex_skipU rfl rfl rfl (by with_reducible rfl) ?_); simp only [Act.put, List.setIfInBounds_toArray, List.set_cons_succ, List.set_cons_zero]) | (refine Mix.lex_part rfl rfl rfl rfl (fun hq => ?_) (fun hq => ?_) <;> (fail_if_success (guard_hyp hq :ₛ true = true)) <;> (fail_if_success (guard_hyp hq :ₛ false = false)) <;> first | (exfalso; cases hq; done) | (exfalso; simp only [decide_eq_true_eq, decide_eq_false_iff_not, beq_iff_eq, beq_eq_false_iff_ne, ne_eq, Int.not_lt, Int.not_le] at hq; omega) | simp only [Act.put, List.setIfInBounds_toArray, List.set_cons_succ, List.set_cons_zero]))); all_goals (refine Mix.lex_nil ?_)))
  refine (HS.out _ hu).mono ?_
  rintro e u2 ⟨rfl, hu2⟩
  go_wp2_with (first | ((first | refine Mix.wpList_guarded rfl ?_ | refine Mix.wp_still (by kernel_rfl) (by kernel_rfl) ?_); (repeat' (first | (refine Mix.lex_quiet0 rfl rfl rfl ?_; intro K hK; go_big_quiet_op; go_big_quiet_on) | (refine Mix.lex_quietG rfl rfl rfl (by with_reducible rfl) rfl rfl ?_; intro K hK; go_big_quiet_op; go_big_quiet_on) | ((first | refine Mix.lex_skipT rfl rfl rfl (by with_reducible rfl) ?_ | refine Mix.lex_skipF rfl rfl rfl (by with_reducible rfl) ?_ | refine Mix.lex_skipU rfl rfl rfl (by with_reducible rfl) ?_); simp only [Act.put, List.setIfInBounds_toArray, List.set_cons_succ, List.set_cons_zero]) | (refine Mix.lex_part rfl rfl rfl rfl (fun hq => ?_) (fun hq => ?_) <;> (fail_if_success (guard_hyp hq :ₛ true = true)) <;> (fail_if_success (guard_hyp hq :ₛ false = false)) <;> first | (exfalso; cases hq; done) | (exfalso; simp only [decide_eq_true_eq, decide_eq_false_iff_not, beq_iff_eq, beq_eq_false_iff_ne, ne_eq, Int.not_lt, Int.not_le] at hq; omega) | simp only [Act.put, List.setIfInBounds_toArray, List.set_cons_succ, List.set_cons_zero]))); all_goals (refine Mix.lex_nil ?_)))
  go_ret3
  exact ⟨rfl, hu.then_ext hu2⟩
/-- What Open comes to. -/
def OpRes (w : World) (dg from_ many first : Nat) (R : List (List Ch) × Nat) (e : Ending) (w' : World) : Prop := ∃ g oA oc ys, e = .returned (.tuple #[pt g, .slice oA (ys : List DeedV).length oc, .nilIface]) ∧ w.heap.size ≤ g ∧ LogAt w' ⟨g, from_, many, first, R.2⟩ dg ∧ Deds w w' oA oc ys ∧ ys.map (·.2) = R.1 ∧ Ext w w'
@[go_sem] theorem log_build (dg : Nat) (a b c : Int) (w : World) : (Instr.build logT #[(0, pt dg), (1, .int .i64 a), (2, .int .i64 b), (3, .int .i64 c)]).run Try.prog w = .ok (.agg #[pt dg, .int .i64 a, .int .i64 b, .int .i64 c, .int .i64 0]) w := run_build w logT _ _ (by kernel_rfl)
set_option maxRecDepth 100000 in
set_option maxHeartbeats 4000000 in
theorem Open_ok {w : World} (hml : Ml w) {r : DkR} {d : Dk} (h : DiskAt w r d) (hdn : d.down = false) (hw : ∀ s ∈ d.now, s.length = 340) (from_ many first : Nat) (h1 : 1 ≤ many) (h2 : from_ + many ≤ d.now.length) (h3 : 1 ≤ first) (h4 : first ≤ 1000000000000) :
    Calls Try.prog 34 #[pt r.g, .int .i64 from_, .int .i64 many, .int .i64 first] w (OpRes w r.g from_ many first (scanF first ((d.now.drop from_).take many) 0 [] [] 0)) := by
  have HS := Lib.hid (fun (v : World) (hv : Ext w v) => Sectors_c (h.ext hv))
  have HDw := Lib.hid (fun (v : World) (hv : Ext w v) => Down_c (h.ext hv))
  rw [hdn] at HDw
  have hn := h.fine.most
  have g1 : decide ((from_ : Int) < 0) = false := decide_eq_false (by omega)
  have g2 : decide ((many : Int) < 1) = false := decide_eq_false (by omega)
  have g3 : decide ((d.now.length : Int) < (many : Int)) = false := decide_eq_false (by omega)
  have g4 : decide ((d.now.length : Int) - (many : Int) < (from_ : Int)) = false := decide_eq_false (by omega)
  have g5 : decide ((first : Int) < 1) = false := decide_eq_false (by omega)
  have H := Lib.hid h
  have HM := Lib.hid hml
  have HW := Lib.hid hw
  have HDn := Lib.hid hdn
  obtain ⟨L, hL⟩ : ∃ L, L = (d.now.drop from_).take many := ⟨_, rfl⟩
  rw [← hL]
  have hLl : L.length = many := by rw [hL, List.length_take, List.length_drop]; omega
  have HG : Hid (∀ j s, L[j]? = some s → d.now[from_ + j]? = some s ∧ s.length = 340) := fun j s hj => by
    have hj' : d.now[from_ + j]? = some s := by
      rw [hL, List.getElem?_take] at hj
      split at hj
      · rwa [List.getElem?_drop] at hj
      · cases hj
    exact ⟨hj', hw s (List.mem_of_getElem? hj')⟩
  clear h hml hw hdn hL
  go_enter Try.func34, Try.ntmps34
  go_wp2_with (first | ((first | refine Mix.wpList_guarded rfl ?_ | refine Mix.wp_still (by kernel_rfl) (by kernel_rfl) ?_); (repeat' (first | (refine Mix.lex_quiet0 rfl rfl rfl ?_; intro K hK; go_big_quiet_op; go_big_quiet_on) | (refine Mix.lex_quietG rfl rfl rfl (by with_reducible rfl) rfl rfl ?_; intro K hK; go_big_quiet_op; go_big_quiet_on) | ((first | refine Mix.lex_skipT rfl rfl rfl (by with_reducible rfl) ?_ | refine Mix.lex_skipF rfl rfl rfl (by with_reducible rfl) ?_ | refine Mix.lex_skipU rfl rfl rfl (by with_reducible rfl) ?_); simp only [Act.put, List.setIfInBounds_toArray, List.set_cons_succ, List.set_cons_zero]) | (refine Mix.lex_part rfl rfl rfl rfl (fun hq => ?_) (fun hq => ?_) <;> (fail_if_success (guard_hyp hq :ₛ true = true)) <;> (fail_if_success (guard_hyp hq :ₛ false = false)) <;> first | (exfalso; cases hq; done) | (exfalso; simp only [decide_eq_true_eq, decide_eq_false_iff_not, beq_iff_eq, beq_eq_false_iff_ne, ne_eq, Int.not_lt, Int.not_le] at hq; omega) | simp only [Act.put, List.setIfInBounds_toArray, List.set_cons_succ, List.set_cons_zero]))); all_goals (refine Mix.lex_nil ?_)))
  refine (HS.out _ (Only.refl _ _)).mono ?_
  rintro e u1 ⟨rfl, hu⟩
  have U1 := Lib.hid hu
  clear hu
  go_wp2_with (first | ((first | refine Mix.wpList_guarded rfl ?_ | refine Mix.wp_still (by kernel_rfl) (by kernel_rfl) ?_); (repeat' (first | (refine Mix.lex_quiet0 rfl rfl rfl ?_; intro K hK; go_big_quiet_op; go_big_quiet_on) | (refine Mix.lex_quietG rfl rfl rfl (by with_reducible rfl) rfl rfl ?_; intro K hK; go_big_quiet_op; go_big_quiet_on) | ((first | refine Mix.lex_skipT rfl rfl rfl (by with_reducible rfl) ?_ | refine Mix.lex_skipF rfl rfl rfl (by with_reducible rfl) ?_ | refine Mix.lex_skipU rfl rfl rfl (by with_reducible rfl) ?_); simp only [Act.put, List.setIfInBounds_toArray, List.set_cons_succ, List.set_cons_zero]) | (refine Mix.lex_part rfl rfl rfl rfl (fun hq => ?_) (fun hq => ?_) <;> (fail_if_success (guard_hyp hq :ₛ true = true)) <;> (fail_if_success (guard_hyp hq :ₛ false = false)) <;> first | (exfalso; cases hq; done) | (exfalso; simp only [decide_eq_true_eq, decide_eq_false_iff_not, beq_iff_eq, beq_eq_false_iff_ne, ne_eq, Int.not_lt, Int.not_le] at hq; omega) | simp only [Act.put, List.setIfInBounds_toArray, List.set_cons_succ, List.set_cons_zero]))); all_goals (refine Mix.lex_nil ?_)))
  refine (HS.out _ U1.out).mono ?_
  rintro e u2 ⟨rfl, hu⟩
  have U2 := Lib.hid (U1.out.then_ext hu)
  clear hu U1
  go_wp2_with (first | ((first | refine Mix.wpList_guarded rfl ?_ | refine Mix.wp_still (by kernel_rfl) (by kernel_rfl) ?_); (repeat' (first | (refine Mix.lex_quiet0 rfl rfl rfl ?_; intro K hK; go_big_quiet_op; go_big_quiet_on) | (refine Mix.lex_quietG rfl rfl rfl (by with_reducible rfl) rfl rfl ?_; intro K hK; go_big_quiet_op; go_big_quiet_on) | ((first | refine Mix.lex_skipT rfl rfl rfl (by with_reducible rfl) ?_ | refine Mix.lex_skipF rfl rfl rfl (by with_reducible rfl) ?_ | refine Mix.lex_skipU rfl rfl rfl (by with_reducible rfl) ?_); simp only [Act.put, List.setIfInBounds_toArray, List.set_cons_succ, List.set_cons_zero]) | (refine Mix.lex_part rfl rfl rfl rfl (fun hq => ?_) (fun hq => ?_) <;> (fail_if_success (guard_hyp hq :ₛ true = true)) <;> (fail_if_success (guard_hyp hq :ₛ false = false)) <;> first | (exfalso; cases hq; done) | (exfalso; simp only [decide_eq_true_eq, decide_eq_false_iff_not, beq_iff_eq, beq_eq_false_iff_ne, ne_eq, Int.not_lt, Int.not_le] at hq; omega) | simp only [Act.put, List.setIfInBounds_toArray, List.set_cons_succ, List.set_cons_zero]))); all_goals (refine Mix.lex_nil ?_)))
  refine (HDw.out _ U2.out).mono ?_
  rintro e u3 ⟨rfl, hu⟩
  have U3 := Lib.hid (U2.out.then_ext hu)
  clear hu U2 HS HDw
  obtain ⟨g, hg⟩ : ∃ g, g = u3.heap.size := ⟨_, rfl⟩
  obtain ⟨w1, hw1⟩ : ∃ u, u = u3.alloc (.cells #[pt r.g, .int .i64 from_, .int .i64 many, .int .i64 first, .int .i64 0] logT) := ⟨_, rfl⟩
  have x1 : Ext u3 w1 := by rw [hw1]; exact (Only.refl No u3).alloc _
  have A1 : Hid (LogAt w1 ⟨g, from_, many, first, 0⟩ r.g) := by rw [hw1, hg]; exact Cs.new _ _ _
  have X1 := Lib.hid (U3.out.then_ext x1)
  have hg0 : w.heap.size ≤ g := by rw [hg]; exact U3.out.size
  clear x1 U3
  go_upto_region 6 with fail
  rw [← hw1, ← hg]
  clear hw1 hg
  go_wp2_with (first | ((first | refine Mix.wpList_guarded rfl ?_ | refine Mix.wp_still (by kernel_rfl) (by kernel_rfl) ?_); (repeat' (first | (refine Mix.lex_quiet0 rfl rfl rfl ?_; intro K hK; go_big_quiet_op; go_big_quiet_on) | (refine Mix.lex_quietG rfl rfl rfl (by with_reducible rfl) rfl rfl ?_; intro K hK; go_big_quiet_op; go_big_quiet_on) | ((first | refine Mix.lex_skipT rfl rfl rfl (by with_reducible rfl) ?_ | refine Mix.lex_skipF rfl rfl rfl (by with_reducible rfl) ?_ | refine Mix.lex_skipU rfl rfl rfl (by with_reducible rfl) ?_); simp only [Act.put, List.setIfInBounds_toArray, List.set_cons_succ, List.set_cons_zero]) | (refine Mix.lex_part rfl rfl rfl rfl (fun hq => ?_) (fun hq => ?_) <;> (fail_if_success (guard_hyp hq :ₛ true = true)) <;> (fail_if_success (guard_hyp hq :ₛ false = false)) <;> first | (exfalso; cases hq; done) | (exfalso; simp only [decide_eq_true_eq, decide_eq_false_iff_not, beq_iff_eq, beq_eq_false_iff_ne, ne_eq, Int.not_lt, Int.not_le] at hq; omega) | simp only [Act.put, List.setIfInBounds_toArray, List.set_cons_succ, List.set_cons_zero]))); all_goals (refine Mix.lex_nil ?_)))
  go_loopw [12, 13, 55] (fun o dd i wr => ∃ j : Nat, j ≤ many ∧ i = .int .i64 j ∧ ∃ oA oc ys dA dc deed nx wB, o = .slice oA (ys : List DeedV).length oc ∧ dd = .slice dA (deed : List Ch).length dc ∧ Deds w wB oA oc ys ∧ LogAt wB ⟨g, from_, many, first, nx⟩ r.g ∧ Fresh chF chT wB wr dA dc deed ∧ ys.length ≤ j ∧ deed.length ≤ j ∧ scanF first L 0 [] [] 0 = scanF first (L.drop j) j deed (ys.map (·.2)) nx) (fun _ _ i _ => many - (intOf i).toNat)
  case atStart => exact ⟨0, Nat.zero_le _, rfl, none, 0, [], none, 0, [], 0, w1, rfl, rfl, Deds.nil X1.out, A1.out, Fresh.nil _ _ _ _ (Only.refl _ _), Nat.le_refl _, Nat.le_refl _, rfl⟩
  case round =>
    obtain ⟨j, hj, rfl, oA, oc, ys, dA, dc, deed, nx, wB, rfl, rfl, hD, hA, hF, hys, hdd, hsc⟩ := hrel
    have DD := Lib.hid hD
    have LA := Lib.hid hA
    have FF := Lib.hid hF
    have SC := Lib.hid hsc
    have XB := Lib.hid (hD.row.ext)
    have XR := Lib.hid (hD.row.ext.then_ext hF.ext)
    clear hD hA hF hsc
    by_cases hlt : j < many
    · obtain ⟨sec, hsec⟩ : ∃ s, L[j]? = some s := ⟨L[j]'(by omega), List.getElem?_eq_getElem (by omega)⟩
      obtain ⟨hnow, hlen⟩ := HG.out j sec hsec
      have HLk := Lib.hid (look_c (i := j) (LA.out.ext FF.out.ext) (H.out.ext XR.out) HDn.out sec hnow hlen h4 (by omega))
      have SC2 : Hid (scanF first L 0 [] [] 0 = scanF first (sec :: L.drop (j + 1)) j deed (ys.map (·.2)) nx) := by
        rw [Hid, SC.out, List.drop_eq_getElem?_toList_append, hsec]
        rfl
      clear SC hnow hsec
      cases hlk : lookF sec (first + j) with
      | none =>
        have SC3 : Hid (scanF first L 0 [] [] 0 = (ys.map (·.2), nx)) := by
          rw [Hid, SC2.out, scanF_cons, hlk]
        have HLk2 : Hid (Calls Try.prog 50 #[pt g, .int .i64 j] wr fun e w' => e = .returned (.tuple #[.int .u8 0, S [], .bool false]) ∧ Ext wr w') := by
          have := HLk.out
          dsimp only at this
          rw [hlk] at this
          exact this
        clear HLk hlk SC2
        go_wp2_with (first | ((first | refine Mix.wpList_guarded rfl ?_ | refine Mix.wp_still (by kernel_rfl) (by kernel_rfl) ?_); (repeat' (first | (refine Mix.lex_quiet0 rfl rfl rfl ?_; intro K hK; go_big_quiet_op; go_big_quiet_on) | (refine Mix.lex_quietG rfl rfl rfl (by with_reducible rfl) rfl rfl ?_; intro K hK; go_big_quiet_op; go_big_quiet_on) | ((first | refine Mix.lex_skipT rfl rfl rfl (by with_reducible rfl) ?_ | refine Mix.lex_skipF rfl rfl rfl (by with_reducible rfl) ?_ | refine Mix.lex_skipU rfl rfl rfl (by with_reducible rfl) ?_); simp only [Act.put, List.setIfInBounds_toArray, List.set_cons_succ, List.set_cons_zero]) | (refine Mix.lex_part rfl rfl rfl rfl (fun hq => ?_) (fun hq => ?_) <;> (fail_if_success (guard_hyp hq :ₛ true = true)) <;> (fail_if_success (guard_hyp hq :ₛ false = false)) <;> first | (exfalso; cases hq; done) | (exfalso; simp only [decide_eq_true_eq, decide_eq_false_iff_not, beq_iff_eq, beq_eq_false_iff_ne, ne_eq, Int.not_lt, Int.not_le] at hq; omega) | simp only [Act.put, List.setIfInBounds_toArray, List.set_cons_succ, List.set_cons_zero]))); all_goals (refine Mix.lex_nil ?_)))
        refine HLk2.out.mono ?_
        rintro e u ⟨rfl, hu⟩
        go_wp2_with (first | ((first | refine Mix.wpList_guarded rfl ?_ | refine Mix.wp_still (by kernel_rfl) (by kernel_rfl) ?_); (repeat' (first | (refine Mix.lex_quiet0 rfl rfl rfl ?_; intro K hK; go_big_quiet_op; go_big_quiet_on) | (refine Mix.lex_quietG rfl rfl rfl (by with_reducible rfl) rfl rfl ?_; intro K hK; go_big_quiet_op; go_big_quiet_on) | ((first | refine Mix.lex_skipT rfl rfl rfl (by with_reducible rfl) ?_ | refine Mix.lex_skipF rfl rfl rfl (by with_reducible rfl) ?_ | refine Mix.lex_skipU rfl rfl rfl (by with_reducible rfl) ?_); simp only [Act.put, List.setIfInBounds_toArray, List.set_cons_succ, List.set_cons_zero]) | (refine Mix.lex_part rfl rfl rfl rfl (fun hq => ?_) (fun hq => ?_) <;> (fail_if_success (guard_hyp hq :ₛ true = true)) <;> (fail_if_success (guard_hyp hq :ₛ false = false)) <;> first | (exfalso; cases hq; done) | (exfalso; simp only [decide_eq_true_eq, decide_eq_false_iff_not, beq_iff_eq, beq_eq_false_iff_ne, ne_eq, Int.not_lt, Int.not_le] at hq; omega) | simp only [Act.put, List.setIfInBounds_toArray, List.set_cons_succ, List.set_cons_zero]))); all_goals (refine Mix.lex_nil ?_)))
        go_ret3
        refine ⟨g, oA, oc, ys, rfl, hg0, ?_, DD.out.ext (FF.out.ext.then_ext hu), ?_, XR.out.then_ext hu⟩
        · rw [SC3.out]; exact LA.out.ext (FF.out.ext.then_ext hu)
        · rw [SC3.out]
      | some kt =>
        obtain ⟨k, t⟩ := kt
        have hk := lookF_kind hlk
        have htl := lookF_len hlk
        rw [hlen] at htl
        have HLk2 : Hid (Calls Try.prog 50 #[pt g, .int .i64 j] wr fun e w' => e = .returned (.tuple #[.int .u8 k.toNat, S t, .bool true]) ∧ Ext wr w') := by
          have := HLk.out
          dsimp only at this
          rw [hlk] at this
          exact this
        have SC3 : Hid (scanF first L 0 [] [] 0 = if k = 99 then (if t = fourF deed.length then scanF first (L.drop (j + 1)) (j + 1) [] (ys.map (·.2) ++ [deed]) (j + 1) else (ys.map (·.2), nx))
            else match chGood t with
              | none => (ys.map (·.2), nx)
              | some c => scanF first (L.drop (j + 1)) (j + 1) (deed ++ [c]) (ys.map (·.2)) nx) := by
          rw [Hid, SC2.out, scanF_cons, hlk]
          rfl
        clear HLk hlk SC2
        by_cases h99 : k = 99
        · have k99 : (((k.toNat : Int)) == 99) = true := (u8_eq k 99).trans (decide_eq_true h99)
          have SC4 := Lib.hid (SC3.out.trans (if_pos h99))
          have HF4 := Lib.hid (fun v => Four_c deed.length v)
          clear SC3 hk h99
          by_cases ht : t = fourF deed.length
          · have SC5 := Lib.hid (SC4.out.trans (if_pos ht))
            rw [← ht] at HF4
            have gt : (t != t) = false := by simp
            clear SC4 ht
            go_wp2_with (first | ((first | refine Mix.wpList_guarded rfl ?_ | refine Mix.wp_still (by kernel_rfl) (by kernel_rfl) ?_); (repeat' (first | (refine Mix.lex_quiet0 rfl rfl rfl ?_; intro K hK; go_big_quiet_op; go_big_quiet_on) | (refine Mix.lex_quietG rfl rfl rfl (by with_reducible rfl) rfl rfl ?_; intro K hK; go_big_quiet_op; go_big_quiet_on) | ((first | refine Mix.lex_skipT rfl rfl rfl (by with_reducible rfl) ?_ | refine Mix.lex_skipF rfl rfl rfl (by with_reducible rfl) ?_ | refine Mix.lex_skipU rfl rfl rfl (by with_reducible rfl) ?_); simp only [Act.put, List.setIfInBounds_toArray, List.set_cons_succ, List.set_cons_zero]) | (refine Mix.lex_part rfl rfl rfl rfl (fun hq => ?_) (fun hq => ?_) <;> (fail_if_success (guard_hyp hq :ₛ true = true)) <;> (fail_if_success (guard_hyp hq :ₛ false = false)) <;> first | (exfalso; cases hq; done) | (exfalso; simp only [decide_eq_true_eq, decide_eq_false_iff_not, beq_iff_eq, beq_eq_false_iff_ne, ne_eq, Int.not_lt, Int.not_le] at hq; omega) | simp only [Act.put, List.setIfInBounds_toArray, List.set_cons_succ, List.set_cons_zero]))); all_goals (refine Mix.lex_nil ?_)))
            refine HLk2.out.mono ?_
            rintro e u ⟨rfl, hu⟩
            have U := Lib.hid hu
            clear hu HLk2
            go_wp2_with (first | ((first | refine Mix.wpList_guarded rfl ?_ | refine Mix.wp_still (by kernel_rfl) (by kernel_rfl) ?_); (repeat' (first | (refine Mix.lex_quiet0 rfl rfl rfl ?_; intro K hK; go_big_quiet_op; go_big_quiet_on) | (refine Mix.lex_quietG rfl rfl rfl (by with_reducible rfl) rfl rfl ?_; intro K hK; go_big_quiet_op; go_big_quiet_on) | ((first | refine Mix.lex_skipT rfl rfl rfl (by with_reducible rfl) ?_ | refine Mix.lex_skipF rfl rfl rfl (by with_reducible rfl) ?_ | refine Mix.lex_skipU rfl rfl rfl (by with_reducible rfl) ?_); simp only [Act.put, List.setIfInBounds_toArray, List.set_cons_succ, List.set_cons_zero]) | (refine Mix.lex_part rfl rfl rfl rfl (fun hq => ?_) (fun hq => ?_) <;> (fail_if_success (guard_hyp hq :ₛ true = true)) <;> (fail_if_success (guard_hyp hq :ₛ false = false)) <;> first | (exfalso; cases hq; done) | (exfalso; simp only [decide_eq_true_eq, decide_eq_false_iff_not, beq_iff_eq, beq_eq_false_iff_ne, ne_eq, Int.not_lt, Int.not_le] at hq; omega) | simp only [Act.put, List.setIfInBounds_toArray, List.set_cons_succ, List.set_cons_zero]))); all_goals (refine Mix.lex_nil ?_)))
            refine (HF4.out _).mono ?_
            rintro e u2 ⟨rfl, hu⟩
            have U2 := Lib.hid (U.out.then_ext hu)
            clear hu U HF4
            go_upto_region 14 with fail
            refine Mix.wp_plain [3, 4, 11] (fun _ => True) trivial ?_
            (repeat' (first | (refine Mix.lex_quiet0 rfl rfl rfl ?_; intro K hK; go_big_quiet_op; go_big_quiet_on) | (refine Mix.lex_quietG rfl rfl rfl (by with_reducible rfl) rfl rfl ?_; intro K hK; go_big_quiet_op; go_big_quiet_on) | ((first | refine Mix.lex_skipT rfl rfl rfl (by with_reducible rfl) ?_ | refine Mix.lex_skipF rfl rfl rfl (by with_reducible rfl) ?_ | refine Mix.lex_skipU rfl rfl rfl (by with_reducible rfl) ?_); simp only [Act.put, List.setIfInBounds_toArray, List.set_cons_succ, List.set_cons_zero]) | (refine Mix.lex_part rfl rfl rfl rfl (fun hq => ?_) (fun hq => ?_) <;> (fail_if_success (guard_hyp hq :ₛ true = true)) <;> (fail_if_success (guard_hyp hq :ₛ false = false)) <;> first | (exfalso; cases hq; done) | (exfalso; simp only [decide_eq_true_eq, decide_eq_false_iff_not, beq_iff_eq, beq_eq_false_iff_ne, ne_eq, Int.not_lt, Int.not_le] at hq; omega) | simp only [Act.put, List.setIfInBounds_toArray, List.set_cons_succ, List.set_cons_zero])))
            ((first | refine Mix.lex_goes0 rfl rfl ?_ | refine Mix.lex_goesG rfl rfl rfl (by with_reducible rfl) rfl ?_); intro K hK; go_simp)
            obtain ⟨w5, hw5⟩ : ∃ v, v = u2.alloc (.cells #[.slice dA deed.length dc] deedT) := ⟨_, rfl⟩
            obtain ⟨g5, hg5⟩ : ∃ x, x = u2.heap.size := ⟨_, rfl⟩
            have hC5 : Cs w5 g5 deedT #[.slice dA deed.length dc] := by rw [hw5, hg5]; exact Cs.new _ _ _
            have x5 : Ext u2 w5 := by rw [hw5]; exact (Only.refl No _).alloc _
            have X5 : Ext wr w5 := U2.out.then_ext x5
            rw [← hw5, ← hg5]
            refine hK _ _ (fun _ => trivial) ?_
            clear hK K hw5 hg5
            simp only [Act.put, List.setIfInBounds_toArray, List.set_cons_succ, List.set_cons_zero]
            refine Mix.lex_goes0 rfl rfl ?_
            intro K hK
            have D5 := DD.out.ext (FF.out.ext.then_ext X5)
            have hdo := own_ext FF.out.own X5
            refine goes_append (v := .slice oA ys.length oc) (n := ys.length) (xs := ys.flatMap dedF.enc) dd_ty rfl rfl rfl D5.row.own (rd_cs (cs := [.slice dA deed.length dc]) hC5) (by simp [Value.oneCell']) (by omega) ?_
            intro A7 c7 w7 hown7 hg7 hb7
            have D7 := D5.grow hdo hown7 hg7 hb7
            have L5 : LogAt w5 ⟨g, from_, many, first, nx⟩ r.g := LA.out.ext (FF.out.ext.then_ext X5)
            have O7 : Only (fun b => (Value.slice oA ys.length oc).ownBlock = some b) w5 w7 := (Only.refl _ _).grown hg7 fun g e => .inr e
            have L7 : LogAt w7 ⟨g, from_, many, first, nx⟩ r.g := L5.keep O7 fun e => own_ne_cs D5.row.own L5 (by decide) _ e rfl
            refine hK _ _ (fun _ => trivial) ?_
            clear hK K hown7 hg7 hb7 D5 hdo L5 O7 x5 X5 hC5
            simp only [Act.put, List.setIfInBounds_toArray, List.set_cons_succ, List.set_cons_zero]
            have l4 : w7.cell? ⟨g, 4, none⟩ = some (.int .i64 nx) := Cs.cell L7 4
            have z4 := Cs.frozen L7 4
            (repeat' (first | (refine Mix.lex_quiet0 rfl rfl rfl ?_; intro K hK; go_big_quiet_op; go_big_quiet_on) | (refine Mix.lex_quietG rfl rfl rfl (by with_reducible rfl) rfl rfl ?_; intro K hK; go_big_quiet_op; go_big_quiet_on) | ((first | refine Mix.lex_skipT rfl rfl rfl (by with_reducible rfl) ?_ | refine Mix.lex_skipF rfl rfl rfl (by with_reducible rfl) ?_ | refine Mix.lex_skipU rfl rfl rfl (by with_reducible rfl) ?_); simp only [Act.put, List.setIfInBounds_toArray, List.set_cons_succ, List.set_cons_zero]) | (refine Mix.lex_part rfl rfl rfl rfl (fun hq => ?_) (fun hq => ?_) <;> (fail_if_success (guard_hyp hq :ₛ true = true)) <;> (fail_if_success (guard_hyp hq :ₛ false = false)) <;> first | (exfalso; cases hq; done) | (exfalso; simp only [decide_eq_true_eq, decide_eq_false_iff_not, beq_iff_eq, beq_eq_false_iff_ne, ne_eq, Int.not_lt, Int.not_le] at hq; omega) | simp only [Act.put, List.setIfInBounds_toArray, List.set_cons_succ, List.set_cons_zero])))
            ((first | refine Mix.lex_goes0 rfl rfl ?_ | refine Mix.lex_goesG rfl rfl rfl (by with_reducible rfl) rfl ?_); intro K hK; go_simp)
            obtain ⟨w8, hw8⟩ : ∃ v, v = w7.setCell ⟨g, 4, none⟩ (.int .i64 ((j : Int) + 1)) := ⟨_, rfl⟩
            rw [← hw8]
            have L8 : LogAt w8 ⟨g, from_, many, first, j + 1⟩ r.g := by
              have := Cs.set_ L7 4 (.int .i64 ((j : Int) + 1))
              rw [← hw8] at this
              exact this
            have O8 : Only (fun b => b = g) w7 w8 := by rw [hw8]; exact (Only.refl _ _).at_ _ _
            have D8 := D7.keep L7 (by decide) (by decide) O8 hg0
            refine hK _ _ (fun _ => trivial) ?_
            clear hK K hw8 l4 z4 D7 O8 L7
            simp only [Act.put, List.setIfInBounds_toArray, List.set_cons_succ, List.set_cons_zero]
            refine Mix.lex_nil ?_
            have L8h := Lib.hid L8
            have D8h := Lib.hid D8
            clear L8 D8
            go_wp2_with (first | ((first | refine Mix.wpList_guarded rfl ?_ | refine Mix.wp_still (by kernel_rfl) (by kernel_rfl) ?_); (repeat' (first | (refine Mix.lex_quiet0 rfl rfl rfl ?_; intro K hK; go_big_quiet_op; go_big_quiet_on) | (refine Mix.lex_quietG rfl rfl rfl (by with_reducible rfl) rfl rfl ?_; intro K hK; go_big_quiet_op; go_big_quiet_on) | ((first | refine Mix.lex_skipT rfl rfl rfl (by with_reducible rfl) ?_ | refine Mix.lex_skipF rfl rfl rfl (by with_reducible rfl) ?_ | refine Mix.lex_skipU rfl rfl rfl (by with_reducible rfl) ?_); simp only [Act.put, List.setIfInBounds_toArray, List.set_cons_succ, List.set_cons_zero]) | (refine Mix.lex_part rfl rfl rfl rfl (fun hq => ?_) (fun hq => ?_) <;> (fail_if_success (guard_hyp hq :ₛ true = true)) <;> (fail_if_success (guard_hyp hq :ₛ false = false)) <;> first | (exfalso; cases hq; done) | (exfalso; simp only [decide_eq_true_eq, decide_eq_false_iff_not, beq_iff_eq, beq_eq_false_iff_ne, ne_eq, Int.not_lt, Int.not_le] at hq; omega) | simp only [Act.put, List.setIfInBounds_toArray, List.set_cons_succ, List.set_cons_zero]))); all_goals (refine Mix.lex_nil ?_)))
            go_roundw
            case rel => exact ⟨j + 1, by omega, by go_num, A7, c7, ys ++ [((dA, dc), deed)], none, 0, [], j + 1, w8, (by rw [List.length_append]; rfl), rfl, D8h.out, L8h.out, Fresh.nil _ _ _ _ (Only.refl _ _), by rw [List.length_append, List.length_singleton]; omega, Nat.zero_le _, by rw [SC5.out, List.map_append]; rfl⟩
            case measure => simp [intOf]; omega
          · have SC5 := Lib.hid (SC4.out.trans (if_neg ht))
            have gt : (t == fourF deed.length) = false := by simp [ht]
            generalize fourF deed.length = f4 at HF4 gt
            clear SC4 ht
            go_wp2_with (first | ((first | refine Mix.wpList_guarded rfl ?_ | refine Mix.wp_still (by kernel_rfl) (by kernel_rfl) ?_); (repeat' (first | (refine Mix.lex_quiet0 rfl rfl rfl ?_; intro K hK; go_big_quiet_op; go_big_quiet_on) | (refine Mix.lex_quietG rfl rfl rfl (by with_reducible rfl) rfl rfl ?_; intro K hK; go_big_quiet_op; go_big_quiet_on) | ((first | refine Mix.lex_skipT rfl rfl rfl (by with_reducible rfl) ?_ | refine Mix.lex_skipF rfl rfl rfl (by with_reducible rfl) ?_ | refine Mix.lex_skipU rfl rfl rfl (by with_reducible rfl) ?_); simp only [Act.put, List.setIfInBounds_toArray, List.set_cons_succ, List.set_cons_zero]) | (refine Mix.lex_part rfl rfl rfl rfl (fun hq => ?_) (fun hq => ?_) <;> (fail_if_success (guard_hyp hq :ₛ true = true)) <;> (fail_if_success (guard_hyp hq :ₛ false = false)) <;> first | (exfalso; cases hq; done) | (exfalso; simp only [decide_eq_true_eq, decide_eq_false_iff_not, beq_iff_eq, beq_eq_false_iff_ne, ne_eq, Int.not_lt, Int.not_le] at hq; omega) | simp only [Act.put, List.setIfInBounds_toArray, List.set_cons_succ, List.set_cons_zero]))); all_goals (refine Mix.lex_nil ?_)))
            refine HLk2.out.mono ?_
            rintro e u ⟨rfl, hu⟩
            have U := Lib.hid hu
            clear hu HLk2
            go_wp2_with (first | ((first | refine Mix.wpList_guarded rfl ?_ | refine Mix.wp_still (by kernel_rfl) (by kernel_rfl) ?_); (repeat' (first | (refine Mix.lex_quiet0 rfl rfl rfl ?_; intro K hK; go_big_quiet_op; go_big_quiet_on) | (refine Mix.lex_quietG rfl rfl rfl (by with_reducible rfl) rfl rfl ?_; intro K hK; go_big_quiet_op; go_big_quiet_on) | ((first | refine Mix.lex_skipT rfl rfl rfl (by with_reducible rfl) ?_ | refine Mix.lex_skipF rfl rfl rfl (by with_reducible rfl) ?_ | refine Mix.lex_skipU rfl rfl rfl (by with_reducible rfl) ?_); simp only [Act.put, List.setIfInBounds_toArray, List.set_cons_succ, List.set_cons_zero]) | (refine Mix.lex_part rfl rfl rfl rfl (fun hq => ?_) (fun hq => ?_) <;> (fail_if_success (guard_hyp hq :ₛ true = true)) <;> (fail_if_success (guard_hyp hq :ₛ false = false)) <;> first | (exfalso; cases hq; done) | (exfalso; simp only [decide_eq_true_eq, decide_eq_false_iff_not, beq_iff_eq, beq_eq_false_iff_ne, ne_eq, Int.not_lt, Int.not_le] at hq; omega) | simp only [Act.put, List.setIfInBounds_toArray, List.set_cons_succ, List.set_cons_zero]))); all_goals (refine Mix.lex_nil ?_)))
            refine (HF4.out _).mono ?_
            rintro e u2 ⟨rfl, hu⟩
            have U2 := Lib.hid (U.out.then_ext hu)
            clear hu U HF4
            go_wp2_with (first | ((first | refine Mix.wpList_guarded rfl ?_ | refine Mix.wp_still (by kernel_rfl) (by kernel_rfl) ?_); (repeat' (first | (refine Mix.lex_quiet0 rfl rfl rfl ?_; intro K hK; go_big_quiet_op; go_big_quiet_on) | (refine Mix.lex_quietG rfl rfl rfl (by with_reducible rfl) rfl rfl ?_; intro K hK; go_big_quiet_op; go_big_quiet_on) | ((first | refine Mix.lex_skipT rfl rfl rfl (by with_reducible rfl) ?_ | refine Mix.lex_skipF rfl rfl rfl (by with_reducible rfl) ?_ | refine Mix.lex_skipU rfl rfl rfl (by with_reducible rfl) ?_); simp only [Act.put, List.setIfInBounds_toArray, List.set_cons_succ, List.set_cons_zero]) | (refine Mix.lex_part rfl rfl rfl rfl (fun hq => ?_) (fun hq => ?_) <;> (fail_if_success (guard_hyp hq :ₛ true = true)) <;> (fail_if_success (guard_hyp hq :ₛ false = false)) <;> first | (exfalso; cases hq; done) | (exfalso; simp only [decide_eq_true_eq, decide_eq_false_iff_not, beq_iff_eq, beq_eq_false_iff_ne, ne_eq, Int.not_lt, Int.not_le] at hq; omega) | simp only [Act.put, List.setIfInBounds_toArray, List.set_cons_succ, List.set_cons_zero]))); all_goals (refine Mix.lex_nil ?_)))
            go_ret3
            refine ⟨g, oA, oc, ys, rfl, hg0, ?_, DD.out.ext (FF.out.ext.then_ext U2.out), ?_, XR.out.then_ext U2.out⟩
            · rw [SC5.out]; exact LA.out.ext (FF.out.ext.then_ext U2.out)
            · rw [SC5.out]
        · have k99 : (((k.toNat : Int)) == 99) = false := (u8_eq k 99).trans (decide_eq_false h99)
          have SC4 := Lib.hid (SC3.out.trans (if_neg h99))
          have HP := Lib.hid (fun (v : World) (hv : Ext w v) => Parse_row t (by omega) (HM.out.ext hv))
          clear SC3 hk h99
          cases hg : chGood t with
          | none =>
            have SC5 : Hid (scanF first L 0 [] [] 0 = (ys.map (·.2), nx)) := by rw [Hid, SC4.out, hg]
            have HP2 : Hid (∀ v, Ext w v → Calls Try.prog 52 #[S t] v fun e w' => e = .returned (.tuple #[.agg #[S [], S [], .bool false], E 4]) ∧ Ext v w') := fun v hv => by
              have := HP.out v hv
              rw [(chOf_none hg).1, (chOf_none hg).2] at this
              exact this
            clear HP SC4 hg
            go_wp2_with (first | ((first | refine Mix.wpList_guarded rfl ?_ | refine Mix.wp_still (by kernel_rfl) (by kernel_rfl) ?_); (repeat' (first | (refine Mix.lex_quiet0 rfl rfl rfl ?_; intro K hK; go_big_quiet_op; go_big_quiet_on) | (refine Mix.lex_quietG rfl rfl rfl (by with_reducible rfl) rfl rfl ?_; intro K hK; go_big_quiet_op; go_big_quiet_on) | ((first | refine Mix.lex_skipT rfl rfl rfl (by with_reducible rfl) ?_ | refine Mix.lex_skipF rfl rfl rfl (by with_reducible rfl) ?_ | refine Mix.lex_skipU rfl rfl rfl (by with_reducible rfl) ?_); simp only [Act.put, List.setIfInBounds_toArray, List.set_cons_succ, List.set_cons_zero]) | (refine Mix.lex_part rfl rfl rfl rfl (fun hq => ?_) (fun hq => ?_) <;> (fail_if_success (guard_hyp hq :ₛ true = true)) <;> (fail_if_success (guard_hyp hq :ₛ false = false)) <;> first | (exfalso; cases hq; done) | (exfalso; simp only [decide_eq_true_eq, decide_eq_false_iff_not, beq_iff_eq, beq_eq_false_iff_ne, ne_eq, Int.not_lt, Int.not_le] at hq; omega) | simp only [Act.put, List.setIfInBounds_toArray, List.set_cons_succ, List.set_cons_zero]))); all_goals (refine Mix.lex_nil ?_)))
            refine HLk2.out.mono ?_
            rintro e u ⟨rfl, hu⟩
            have U := Lib.hid hu
            clear hu HLk2
            go_wp2_with (first | ((first | refine Mix.wpList_guarded rfl ?_ | refine Mix.wp_still (by kernel_rfl) (by kernel_rfl) ?_); (repeat' (first | (refine Mix.lex_quiet0 rfl rfl rfl ?_; intro K hK; go_big_quiet_op; go_big_quiet_on) | (refine Mix.lex_quietG rfl rfl rfl (by with_reducible rfl) rfl rfl ?_; intro K hK; go_big_quiet_op; go_big_quiet_on) | ((first | refine Mix.lex_skipT rfl rfl rfl (by with_reducible rfl) ?_ | refine Mix.lex_skipF rfl rfl rfl (by with_reducible rfl) ?_ | refine Mix.lex_skipU rfl rfl rfl (by with_reducible rfl) ?_); simp only [Act.put, List.setIfInBounds_toArray, List.set_cons_succ, List.set_cons_zero]) | (refine Mix.lex_part rfl rfl rfl rfl (fun hq => ?_) (fun hq => ?_) <;> (fail_if_success (guard_hyp hq :ₛ true = true)) <;> (fail_if_success (guard_hyp hq :ₛ false = false)) <;> first | (exfalso; cases hq; done) | (exfalso; simp only [decide_eq_true_eq, decide_eq_false_iff_not, beq_iff_eq, beq_eq_false_iff_ne, ne_eq, Int.not_lt, Int.not_le] at hq; omega) | simp only [Act.put, List.setIfInBounds_toArray, List.set_cons_succ, List.set_cons_zero]))); all_goals (refine Mix.lex_nil ?_)))
            refine (HP2.out _ (XR.out.then_ext U.out)).mono ?_
            rintro e u2 ⟨rfl, hu⟩
            have U2 := Lib.hid (U.out.then_ext hu)
            clear hu U HP2
            go_wp2_with (first | ((first | refine Mix.wpList_guarded rfl ?_ | refine Mix.wp_still (by kernel_rfl) (by kernel_rfl) ?_); (repeat' (first | (refine Mix.lex_quiet0 rfl rfl rfl ?_; intro K hK; go_big_quiet_op; go_big_quiet_on) | (refine Mix.lex_quietG rfl rfl rfl (by with_reducible rfl) rfl rfl ?_; intro K hK; go_big_quiet_op; go_big_quiet_on) | ((first | refine Mix.lex_skipT rfl rfl rfl (by with_reducible rfl) ?_ | refine Mix.lex_skipF rfl rfl rfl (by with_reducible rfl) ?_ | refine Mix.lex_skipU rfl rfl rfl (by with_reducible rfl) ?_); simp only [Act.put, List.setIfInBounds_toArray, List.set_cons_succ, List.set_cons_zero]) | (refine Mix.lex_part rfl rfl rfl rfl (fun hq => ?_) (fun hq => ?_) <;> (fail_if_success (guard_hyp hq :ₛ true = true)) <;> (fail_if_success (guard_hyp hq :ₛ false = false)) <;> first | (exfalso; cases hq; done) | (exfalso; simp only [decide_eq_true_eq, decide_eq_false_iff_not, beq_iff_eq, beq_eq_false_iff_ne, ne_eq, Int.not_lt, Int.not_le] at hq; omega) | simp only [Act.put, List.setIfInBounds_toArray, List.set_cons_succ, List.set_cons_zero]))); all_goals (refine Mix.lex_nil ?_)))
            go_ret3
            have U3 := U2.out.alloc (.cells #[S [], S [], .bool false] chT)
            refine ⟨g, oA, oc, ys, rfl, hg0, ?_, DD.out.ext (FF.out.ext.then_ext U3), ?_, XR.out.then_ext U3⟩
            · rw [SC5.out]; exact LA.out.ext (FF.out.ext.then_ext U3)
            · rw [SC5.out]
          | some ch =>
            have SC5 : Hid (scanF first L 0 [] [] 0 = scanF first (L.drop (j + 1)) (j + 1) (deed ++ [ch]) (ys.map (·.2)) nx) := by rw [Hid, SC4.out, hg]
            obtain ⟨key, val, gone⟩ := ch
            have HP2 : Hid (∀ v, Ext w v → Calls Try.prog 52 #[S t] v fun e w' => e = .returned (.tuple #[.agg #[S key, S val, .bool gone], .nilIface]) ∧ Ext v w') := fun v hv => by
              have := HP.out v hv
              rw [(chOf_some hg).1, (chOf_some hg).2] at this
              exact this
            clear HP SC4 hg
            go_wp2_with (first | ((first | refine Mix.wpList_guarded rfl ?_ | refine Mix.wp_still (by kernel_rfl) (by kernel_rfl) ?_); (repeat' (first | (refine Mix.lex_quiet0 rfl rfl rfl ?_; intro K hK; go_big_quiet_op; go_big_quiet_on) | (refine Mix.lex_quietG rfl rfl rfl (by with_reducible rfl) rfl rfl ?_; intro K hK; go_big_quiet_op; go_big_quiet_on) | ((first | refine Mix.lex_skipT rfl rfl rfl (by with_reducible rfl) ?_ | refine Mix.lex_skipF rfl rfl rfl (by with_reducible rfl) ?_ | refine Mix.lex_skipU rfl rfl rfl (by with_reducible rfl) ?_); simp only [Act.put, List.setIfInBounds_toArray, List.set_cons_succ, List.set_cons_zero]) | (refine Mix.lex_part rfl rfl rfl rfl (fun hq => ?_) (fun hq => ?_) <;> (fail_if_success (guard_hyp hq :ₛ true = true)) <;> (fail_if_success (guard_hyp hq :ₛ false = false)) <;> first | (exfalso; cases hq; done) | (exfalso; simp only [decide_eq_true_eq, decide_eq_false_iff_not, beq_iff_eq, beq_eq_false_iff_ne, ne_eq, Int.not_lt, Int.not_le] at hq; omega) | simp only [Act.put, List.setIfInBounds_toArray, List.set_cons_succ, List.set_cons_zero]))); all_goals (refine Mix.lex_nil ?_)))
            refine HLk2.out.mono ?_
            rintro e u ⟨rfl, hu⟩
            have U := Lib.hid hu
            clear hu HLk2
            go_wp2_with (first | ((first | refine Mix.wpList_guarded rfl ?_ | refine Mix.wp_still (by kernel_rfl) (by kernel_rfl) ?_); (repeat' (first | (refine Mix.lex_quiet0 rfl rfl rfl ?_; intro K hK; go_big_quiet_op; go_big_quiet_on) | (refine Mix.lex_quietG rfl rfl rfl (by with_reducible rfl) rfl rfl ?_; intro K hK; go_big_quiet_op; go_big_quiet_on) | ((first | refine Mix.lex_skipT rfl rfl rfl (by with_reducible rfl) ?_ | refine Mix.lex_skipF rfl rfl rfl (by with_reducible rfl) ?_ | refine Mix.lex_skipU rfl rfl rfl (by with_reducible rfl) ?_); simp only [Act.put, List.setIfInBounds_toArray, List.set_cons_succ, List.set_cons_zero]) | (refine Mix.lex_part rfl rfl rfl rfl (fun hq => ?_) (fun hq => ?_) <;> (fail_if_success (guard_hyp hq :ₛ true = true)) <;> (fail_if_success (guard_hyp hq :ₛ false = false)) <;> first | (exfalso; cases hq; done) | (exfalso; simp only [decide_eq_true_eq, decide_eq_false_iff_not, beq_iff_eq, beq_eq_false_iff_ne, ne_eq, Int.not_lt, Int.not_le] at hq; omega) | simp only [Act.put, List.setIfInBounds_toArray, List.set_cons_succ, List.set_cons_zero]))); all_goals (refine Mix.lex_nil ?_)))
            refine (HP2.out _ (XR.out.then_ext U.out)).mono ?_
            rintro e u2 ⟨rfl, hu⟩
            have U2 := Lib.hid (U.out.then_ext hu)
            clear hu U HP2
            obtain ⟨g6, hg6⟩ : ∃ x, x = u2.heap.size := ⟨_, rfl⟩
            obtain ⟨w6, hw6⟩ : ∃ v, v = u2.alloc (.cells #[S key, S val, .bool gone] chT) := ⟨_, rfl⟩
            have hC6 : Cs w6 g6 chT #[S key, S val, .bool gone] := by rw [hw6, hg6]; exact Cs.new _ _ _
            have x6 : Ext u2 w6 := by rw [hw6]; exact (Only.refl No _).alloc _
            have C6 := Lib.hid hC6
            have X6 := Lib.hid (U2.out.then_ext x6)
            have q0 : w6.cell? ⟨g6, 0, none⟩ = some (S key) := hC6.cell 0
            have q1 : w6.cell? ⟨g6, 1, none⟩ = some (S val) := hC6.cell 1
            have q2 : w6.cell? ⟨g6, 2, none⟩ = some (.bool gone) := hC6.cell 2
            go_upto_region 16 with fail
            rw [← hw6, ← hg6]
            clear hw6 hg6 x6 hC6
            have F7 := Lib.hid ((FF.out.on X6.out).on ((Only.refl No w6).alloc (.cells #[S key, S val, .bool gone] chT)))
            go_wp2_with (first | (at_builtin; go_must (refine wpList_append (v := .slice dA deed.length dc) (n := deed.length) (xs := deed.flatMap chF.enc) rfl cg_ty rfl rfl rfl F7.out.own (rd_one w6 _ [S key, S val, .bool gone]) (by simp [Value.oneCell']) (by omega) ?_); intro A8 c8 w8 hown8 hg8 hb8; have F8 := Lib.hid (F7.out.grow (m := 1) (ys := [(key, val, gone)]) rfl hown8 hg8 hb8); clear hown8 hg8 hb8) | ((first | refine Mix.wpList_guarded rfl ?_ | refine Mix.wp_still (by kernel_rfl) (by kernel_rfl) ?_); (repeat' (first | (refine Mix.lex_quiet0 rfl rfl rfl ?_; intro K hK; go_big_quiet_op; go_big_quiet_on) | (refine Mix.lex_quietG rfl rfl rfl (by with_reducible rfl) rfl rfl ?_; intro K hK; go_big_quiet_op; go_big_quiet_on) | ((first | refine Mix.lex_skipT rfl rfl rfl (by with_reducible rfl) ?_ | refine Mix.lex_skipF rfl rfl rfl (by with_reducible rfl) ?_ | refine Mix.lex_skipU rfl rfl rfl (by with_reducible rfl) ?_); simp only [Act.put, List.setIfInBounds_toArray, List.set_cons_succ, List.set_cons_zero]) | (refine Mix.lex_part rfl rfl rfl rfl (fun hq => ?_) (fun hq => ?_) <;> (fail_if_success (guard_hyp hq :ₛ true = true)) <;> (fail_if_success (guard_hyp hq :ₛ false = false)) <;> first | (exfalso; cases hq; done) | (exfalso; simp only [decide_eq_true_eq, decide_eq_false_iff_not, beq_iff_eq, beq_eq_false_iff_ne, ne_eq, Int.not_lt, Int.not_le] at hq; omega) | simp only [Act.put, List.setIfInBounds_toArray, List.set_cons_succ, List.set_cons_zero]))); all_goals (refine Mix.lex_nil ?_)))
            go_roundw
            case rel => exact ⟨j + 1, by omega, by go_num, oA, oc, ys, A8, c8, deed ++ [(key, val, gone)], nx, wB, rfl, (by rw [List.length_append]; rfl), DD.out, LA.out, F8.out, by omega, by rw [List.length_append, List.length_singleton]; omega, SC5.out⟩
            case measure => simp [intOf]; omega
    · obtain rfl : j = many := by omega
      have SC2 : Hid (scanF first L 0 [] [] 0 = (ys.map (·.2), nx)) := by
        rw [Hid, SC.out, List.drop_of_length_le (by omega)]
        rfl
      clear SC
      go_wp2_with (first | ((first | refine Mix.wpList_guarded rfl ?_ | refine Mix.wp_still (by kernel_rfl) (by kernel_rfl) ?_); (repeat' (first | (refine Mix.lex_quiet0 rfl rfl rfl ?_; intro K hK; go_big_quiet_op; go_big_quiet_on) | (refine Mix.lex_quietG rfl rfl rfl (by with_reducible rfl) rfl rfl ?_; intro K hK; go_big_quiet_op; go_big_quiet_on) | ((first | refine Mix.lex_skipT rfl rfl rfl (by with_reducible rfl) ?_ | refine Mix.lex_skipF rfl rfl rfl (by with_reducible rfl) ?_ | refine Mix.lex_skipU rfl rfl rfl (by with_reducible rfl) ?_); simp only [Act.put, List.setIfInBounds_toArray, List.set_cons_succ, List.set_cons_zero]) | (refine Mix.lex_part rfl rfl rfl rfl (fun hq => ?_) (fun hq => ?_) <;> (fail_if_success (guard_hyp hq :ₛ true = true)) <;> (fail_if_success (guard_hyp hq :ₛ false = false)) <;> first | (exfalso; cases hq; done) | (exfalso; simp only [decide_eq_true_eq, decide_eq_false_iff_not, beq_iff_eq, beq_eq_false_iff_ne, ne_eq, Int.not_lt, Int.not_le] at hq; omega) | simp only [Act.put, List.setIfInBounds_toArray, List.set_cons_succ, List.set_cons_zero]))); all_goals (refine Mix.lex_nil ?_)))
      go_ret3
      refine ⟨g, oA, oc, ys, rfl, hg0, ?_, DD.out.ext FF.out.ext, ?_, XR.out⟩
      · rw [SC2.out]; exact LA.out.ext FF.out.ext
      · rw [SC2.out]
end Go.Proofs.Ytaphmmobmadfoaa
