import Derived.Test.YtlfiobciahnapaaDisk5
import Derived.Test.YtlfiobciahnapaaRepeat
namespace Go.Proofs.Ytlfiobciahnapaa
open Go Go.RowKit
def Dk.fresh (n : Nat) : Dk := ⟨List.replicate n (full []), List.replicate n (full []), [], -1, false⟩
@[go_sem] theorem disk_build (A B : Option Addr) (n c m d : Nat) (w : World) : (Instr.build 64 #[(0, .slice A n c), (1, .slice B m d), (3, .int .i64 (-1))]).run Try.prog w =
    .ok (.agg #[.slice A n c, .slice B m d, .slice none 0 0, .int .i64 (-1), .bool false]) w := run_build w 64 _ _ (by kernel_rfl)
theorem New_bad (i : Int) (hi : i < 1 ∨ 120 < i) (w : World) :
    Calls Try.prog 7 #[.int .i64 i] w fun e w' => e = .returned (.tuple #[.pointer none, E 1]) ∧ Ext w w' := by
  go_enter Try.func7, Try.ntmps7
  go_wp2_with (first | (refine Mix.wpList_guarded rfl ?_; (repeat' (first | (refine Mix.lex_quiet0 rfl rfl rfl ?_; intro K hK; go_big_quiet_op; go_big_quiet_on) | (refine Mix.lex_quietG rfl rfl rfl (by with_reducible rfl) rfl rfl ?_; intro K hK; go_big_quiet_op; go_big_quiet_on) | ((first | refine Mix.lex_skipT rfl rfl rfl (by with_reducible rfl) ?_ | refine Mix.lex_skipF rfl rfl rfl (by with_reducible rfl) ?_ | refine Mix.lex_skipU rfl rfl rfl (by with_reducible rfl) ?_); simp only [Act.put, List.setIfInBounds_toArray, List.set_cons_succ, List.set_cons_zero]) | (refine Mix.lex_part rfl rfl rfl rfl (fun hq => ?_) (fun hq => ?_) <;> (fail_if_success (guard_hyp hq :ₛ true = true)) <;> (fail_if_success (guard_hyp hq :ₛ false = false)) <;> first | (exfalso; cases hq; done) | (exfalso; simp only [decide_eq_true_eq, decide_eq_false_iff_not, beq_iff_eq, beq_eq_false_iff_ne, ne_eq, Int.not_lt, Int.not_le] at hq; omega) | simp only [Act.put, List.setIfInBounds_toArray, List.set_cons_succ, List.set_cons_zero]))); all_goals (refine Mix.lex_nil ?_)) | (refine Mix.wp_still (by kernel_rfl) (by kernel_rfl) ?_; (repeat' (first | (refine Mix.lex_quiet0 rfl rfl rfl ?_; intro K hK; go_big_quiet_op; go_big_quiet_on) | (refine Mix.lex_quietG rfl rfl rfl (by with_reducible rfl) rfl rfl ?_; intro K hK; go_big_quiet_op; go_big_quiet_on) | ((first | refine Mix.lex_skipT rfl rfl rfl (by with_reducible rfl) ?_ | refine Mix.lex_skipF rfl rfl rfl (by with_reducible rfl) ?_ | refine Mix.lex_skipU rfl rfl rfl (by with_reducible rfl) ?_); simp only [Act.put, List.setIfInBounds_toArray, List.set_cons_succ, List.set_cons_zero]) | (refine Mix.lex_part rfl rfl rfl rfl (fun hq => ?_) (fun hq => ?_) <;> (fail_if_success (guard_hyp hq :ₛ true = true)) <;> (fail_if_success (guard_hyp hq :ₛ false = false)) <;> first | (exfalso; cases hq; done) | (exfalso; simp only [decide_eq_true_eq, decide_eq_false_iff_not, beq_iff_eq, beq_eq_false_iff_ne, ne_eq, Int.not_lt, Int.not_le] at hq; omega) | simp only [Act.put, List.setIfInBounds_toArray, List.set_cons_succ, List.set_cons_zero]))); all_goals (refine Mix.lex_nil ?_)))
  all_goals first
    | (go_ret2; exact ⟨rfl, Only.refl _ _⟩)
    | (exfalso; simp only [decide_eq_true_eq, decide_eq_false_iff_not, beq_iff_eq, beq_eq_false_iff_ne, ne_eq, Int.not_lt, Int.not_le, Bool.not_eq_true, Bool.not_eq_false, Bool.or_eq_true, Bool.or_eq_false_iff, Bool.and_eq_true, Bool.and_eq_false_iff, Bool.not_eq_eq_eq_not, Bool.not_true, Bool.not_false] at *; omega)
set_option maxHeartbeats 1000000 in
theorem New_ok (n : Nat) (h1 : 1 ≤ n) (h2 : n ≤ 120) (w : World) :
    Calls Try.prog 7 #[.int .i64 n] w fun e w' => ∃ r, e = .returned (.tuple #[pt r.g, .nilIface]) ∧ DiskAt w' r (Dk.fresh n) ∧ Ext w w' ∧ ∀ b, r.fp b → w.heap.size ≤ b := by
  go_enter Try.func7, Try.ntmps7
  go_upto_region 3 with (first | (refine Mix.wpList_guarded rfl ?_; (repeat' (first | (refine Mix.lex_quiet0 rfl rfl rfl ?_; intro K hK; go_big_quiet_op; go_big_quiet_on) | (refine Mix.lex_quietG rfl rfl rfl (by with_reducible rfl) rfl rfl ?_; intro K hK; go_big_quiet_op; go_big_quiet_on) | ((first | refine Mix.lex_skipT rfl rfl rfl (by with_reducible rfl) ?_ | refine Mix.lex_skipF rfl rfl rfl (by with_reducible rfl) ?_ | refine Mix.lex_skipU rfl rfl rfl (by with_reducible rfl) ?_); simp only [Act.put, List.setIfInBounds_toArray, List.set_cons_succ, List.set_cons_zero]) | (refine Mix.lex_part rfl rfl rfl rfl (fun hq => ?_) (fun hq => ?_) <;> (fail_if_success (guard_hyp hq :ₛ true = true)) <;> (fail_if_success (guard_hyp hq :ₛ false = false)) <;> first | (exfalso; cases hq; done) | (exfalso; simp only [decide_eq_true_eq, decide_eq_false_iff_not, beq_iff_eq, beq_eq_false_iff_ne, ne_eq, Int.not_lt, Int.not_le] at hq; omega) | simp only [Act.put, List.setIfInBounds_toArray, List.set_cons_succ, List.set_cons_zero]))); all_goals (refine Mix.lex_nil ?_)))
  all_goals try (exfalso; simp only [decide_eq_true_eq, decide_eq_false_iff_not, beq_iff_eq, beq_eq_false_iff_ne, ne_eq, Int.not_lt, Int.not_le, Bool.not_eq_true, Bool.not_eq_false, Bool.or_eq_true, Bool.or_eq_false_iff, Bool.and_eq_true, Bool.and_eq_false_iff, Bool.not_eq_eq_eq_not, Bool.not_true, Bool.not_false] at *; omega)
  go_wp2_with fail
  refine (full_c [] (by simp) _).mono ?_
  rintro e w1 ⟨rfl, hx1⟩
  go_wp2_with fail
  refine (Repeat_c (w := w1.alloc (.cells #[S (full [])] 9)) (s := full []) (n := n) ?_ (by omega) h1).mono ?_
  · rw [(Cs.new w1 9 _).cell]; rfl
  rintro e w2 ⟨kg, rfl, hk2, hx2, hkg⟩
  have X2 : Hid (Ext w w2) := (hx1.alloc _).then_ext hx2
  have KG : Hid (w.heap.size ≤ kg) := by
    have := hx1.size
    simp at hkg
    exact Nat.le_trans this (by omega)
  clear hx1 hx2 hkg
  have K2 := Lib.hid hk2
  clear hk2
  have kept2 : Hid (w2.ownsRow 0 9 1 (.slice (some ⟨kg, 0, none⟩) n n) n ((List.replicate n (full [])).map S)) := by
    refine ⟨by simp, .inr ⟨kg, n, _, rfl, Nat.zero_le _, K2.out, Nat.le_refl _, by simp [maxLen]; omega, by simp, ?_⟩⟩
    simp
  go_wp2_with fail
  refine (CloneStrs_c (rd_of_own kept2.out) (one_S _) (by simp) (by omega)).mono ?_
  rintro e w3 ⟨A', c', rfl, hown3, hx3, hfr3⟩
  obtain ⟨ng, rfl⟩ : ∃ g, A' = some ⟨g, 0, none⟩ := by
    rcases hown3.2 with ⟨q1, q2⟩ | ⟨g, cap, cur, q1, _⟩
    · omega
    · injection q1 with q1; exact ⟨g, q1⟩
  have N3 := Lib.hid hown3
  have X3 := Lib.hid hx3
  have NG : Hid (w2.heap.size ≤ ng) := hfr3 ng rfl
  clear hown3 hx3 hfr3
  go_wp2
  go_ret2
  have hX : Ext w3 (w3.alloc (.cells #[.slice (some ⟨kg, 0, none⟩) n n, .slice (some ⟨ng, 0, none⟩) n c', .slice none 0 0, .int .i64 (-1), .bool false] 64)) := (Only.refl _ _).alloc _
  have hkl : kg < w2.heap.size := K2.out.lt
  have s2 := X2.out.size
  have s3 := X3.out.size
  have hng := NG.out
  have hkg := KG.out
  refine ⟨⟨w3.heap.size, kg, n, ng, c', .slice none 0 0⟩, rfl, ⟨?_, ?_, ?_, ?_, ?_, ?_⟩, (X2.out.then_ext X3.out).then_ext hX, ?_⟩
  · have := Cs.new w3 64 #[.slice (some ⟨kg, 0, none⟩) n n, .slice (some ⟨ng, 0, none⟩) n c', .slice none 0 0, .int .i64 (-1), .bool false]
    simpa [Dk.fresh, DkR.cells] using this
  · have := own_keep (own_keep kept2.out X3.out fun _ _ h => h) hX fun _ _ h => h
    simpa [Dk.fresh] using this
  · have := own_keep N3.out hX fun _ _ h => h
    simpa [Dk.fresh] using this
  · exact World.ownsRow_nil _ _ _ _
  · show kg ≠ ng
    omega
  · exact ⟨rfl, by simp [Dk.fresh]; omega, by simp [Dk.fresh]; omega, by simp [Dk.fresh], by simp [Dk.fresh], by simp [Dk.fresh]⟩
  · intro b hb
    rcases hb with h | h | h | h
    · simp at h; omega
    · simp at h; omega
    · simp at h; omega
    · simp [Value.ownBlock] at h
end Go.Proofs.Ytlfiobciahnapaa
