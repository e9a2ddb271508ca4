import Derived.Test.YtlfiobciahnapaaClone
import Derived.Laws.MakeOwn
import Derived.Test.YtlfiobciahnapaaShelf
namespace Go.Proofs.Ytlfiobciahnapaa
open Go Go.RowKit
theorem str_info1 : (Try.prog.info? 9).map (·.size) = some 1 := by kernel_rfl
theorem make_strs (n : Nat) (hn : n ≤ 1000000) (w : World) : (Instr.makeSlice 22 (.int .i64 (n : Int)) (.int .i64 (n : Int))).run Try.prog w =
    .ok (.slice (some ⟨w.heap.size, 0, none⟩) n n) (w.alloc (.cells (List.replicate n (S [])).toArray 9)) := by
  obtain ⟨i0, hi, hz, h1, h2⟩ := info_parts string_info
  have hb : (i0.bytes : Int) * (n : Int) ≤ 281474976710656 := by rw [h2]; omega
  have hr := run_make (P := Try.prog) w 22 9 i0 (S []) Try.underlying22 hi hz .i64 .i64 n n (by omega) (by omega) hb (by omega)
  simp only [Int.toNat_natCast] at hr
  rw [hr, h1]
  have : madeCells (S []).cells (n * 1) = (List.replicate n (S [])).toArray := by
    apply Array.ext
    · simp [madeCells]
    · intro i h1 h2
      simp [madeCells, Value.cells, Nat.mod_one]
  rw [this]
theorem Mul_one (n : Nat) (hn : n ≤ 1000000) (w : World) : Calls Try.prog 42 #[.int .u64 1, .int .u64 n] w fun e w' => e = .returned (.tuple #[.int .u64 0, .int .u64 n]) ∧ w = w' := by
  refine (Try.bits_Mul 1 n (by omega) (by omega) w).mono fun e w' ⟨he, hw⟩ => ⟨?_, hw.symm⟩
  rw [he, Nat.one_mul, Nat.div_eq_of_lt (by omega), Nat.mod_eq_of_lt (by omega)]
  rfl
theorem rep_at {n k : Nat} {s : Str} {j : Nat} {u : Value} (h : (List.replicate n (S s) ++ List.replicate k (S []))[j]? = some u) (hj : j < n) : u = S s := by
  rw [List.getElem?_append_left (by simpa using hj)] at h
  simp [hj] at h
  exact h.symm
theorem one_rep (q : Nat) (s : Str) : ∀ u ∈ List.replicate q (S s), u.oneCell' = true := by
  intro u hu
  rw [List.eq_of_mem_replicate hu]; rfl
set_option maxRecDepth 100000 in
set_option maxHeartbeats 1000000 in
theorem Repeat_c {w : World} {b n : Nat} {s : Str} (hc : w.cell? ⟨b, 0, none⟩ = some (S s)) (hn : n ≤ 1000) (hn0 : 1 ≤ n) :
    Calls Try.prog 24 #[.slice (some ⟨b, 0, none⟩) 1 1, .int .i64 (n : Int)] w fun e w' => ∃ g, e = .returned (.slice (some ⟨g, 0, none⟩) n n) ∧ Cs w' g 9 (List.replicate n (S s)).toArray ∧ Ext w w' ∧ w.heap.size ≤ g := by
  have hmk := make_strs n (by omega)
  have HC := Lib.hid hc
  clear hc
  go_enter Try.func24, Try.ntmps24
  go_upto_region 7 with (first | (go_at_call 42; refine (Mul_one n (by omega) _).mono ?_; rintro e w' ⟨rfl, rfl⟩) | (refine Mix.wpList_guarded rfl ?_; (repeat' (first | (refine Mix.lex_quiet0 rfl rfl rfl ?_; intro K hK; go_big_quiet_op; go_big_quiet_on) | (refine Mix.lex_quietG rfl rfl rfl (by with_reducible rfl) rfl rfl ?_; intro K hK; go_big_quiet_op; go_big_quiet_on) | ((first | refine Mix.lex_skipT rfl rfl rfl (by with_reducible rfl) ?_ | refine Mix.lex_skipF rfl rfl rfl (by with_reducible rfl) ?_ | refine Mix.lex_skipU rfl rfl rfl (by with_reducible rfl) ?_); simp only [Act.put, List.setIfInBounds_toArray, List.set_cons_succ, List.set_cons_zero]) | (refine Mix.lex_part rfl rfl rfl rfl (fun hq => ?_) (fun hq => ?_) <;> (fail_if_success (guard_hyp hq :ₛ true = true)) <;> (fail_if_success (guard_hyp hq :ₛ false = false)) <;> first | (exfalso; cases hq; done) | (exfalso; simp only [decide_eq_true_eq, decide_eq_false_iff_not, beq_iff_eq, beq_eq_false_iff_ne, ne_eq, Int.not_lt, Int.not_le] at hq; omega) | simp only [Act.put, List.setIfInBounds_toArray, List.set_cons_succ, List.set_cons_zero]))); all_goals (refine Mix.lex_nil ?_)) | (refine Mix.wp_still (by kernel_rfl) (by kernel_rfl) ?_; (repeat' (first | (refine Mix.lex_quiet0 rfl rfl rfl ?_; intro K hK; go_big_quiet_op; go_big_quiet_on) | (refine Mix.lex_quietG rfl rfl rfl (by with_reducible rfl) rfl rfl ?_; intro K hK; go_big_quiet_op; go_big_quiet_on) | ((first | refine Mix.lex_skipT rfl rfl rfl (by with_reducible rfl) ?_ | refine Mix.lex_skipF rfl rfl rfl (by with_reducible rfl) ?_ | refine Mix.lex_skipU rfl rfl rfl (by with_reducible rfl) ?_); simp only [Act.put, List.setIfInBounds_toArray, List.set_cons_succ, List.set_cons_zero]) | (refine Mix.lex_part rfl rfl rfl rfl (fun hq => ?_) (fun hq => ?_) <;> (fail_if_success (guard_hyp hq :ₛ true = true)) <;> (fail_if_success (guard_hyp hq :ₛ false = false)) <;> first | (exfalso; cases hq; done) | (exfalso; simp only [decide_eq_true_eq, decide_eq_false_iff_not, beq_iff_eq, beq_eq_false_iff_ne, ne_eq, Int.not_lt, Int.not_le] at hq; omega) | simp only [Act.put, List.setIfInBounds_toArray, List.set_cons_succ, List.set_cons_zero]))); all_goals (refine Mix.lex_nil ?_)))
  all_goals try (exfalso; simp only [decide_eq_true_eq, decide_eq_false_iff_not, beq_iff_eq, beq_eq_false_iff_ne, ne_eq, Int.not_lt, Int.not_le, Bool.not_eq_true, Bool.not_eq_false, Bool.or_eq_true, Bool.or_eq_false_iff, Bool.and_eq_true, Bool.and_eq_false_iff, Bool.not_eq_eq_eq_not, Bool.not_true, Bool.not_false] at *; omega)
  refine Mix.wp_plain [2] (fun _ => True) trivial ?_
  (repeat' (first | (refine Mix.lex_quiet0 rfl rfl rfl ?_; intro K hK; go_big_quiet_op; go_big_quiet_on) | (refine Mix.lex_quietG rfl rfl rfl (by with_reducible rfl) rfl rfl ?_; intro K hK; go_big_quiet_op; go_big_quiet_on) | ((first | refine Mix.lex_skipT rfl rfl rfl (by with_reducible rfl) ?_ | refine Mix.lex_skipF rfl rfl rfl (by with_reducible rfl) ?_ | refine Mix.lex_skipU rfl rfl rfl (by with_reducible rfl) ?_); simp only [Act.put, List.setIfInBounds_toArray, List.set_cons_succ, List.set_cons_zero]) | (refine Mix.lex_part rfl rfl rfl rfl (fun hq => ?_) (fun hq => ?_) <;> (fail_if_success (guard_hyp hq :ₛ true = true)) <;> (fail_if_success (guard_hyp hq :ₛ false = false)) <;> first | (exfalso; cases hq; done) | (exfalso; simp only [decide_eq_true_eq, decide_eq_false_iff_not, beq_iff_eq, beq_eq_false_iff_ne, ne_eq, Int.not_lt, Int.not_le] at hq; omega) | simp only [Act.put, List.setIfInBounds_toArray, List.set_cons_succ, List.set_cons_zero])))
  refine Mix.lex_goes0 rfl rfl ?_
  intro K hK
  refine goes_copy_row (cur := List.replicate n (S [])) (cs := [S s]) Try.underlying22 str_info1 rfl rfl rfl (Cs.new w 9 _) (by simp [Nat.min_def]; omega) (fun j u hu => ?_) (by simp; omega) (by simp [Value.oneCell']) ?_
  · match j, hu with
    | 0, hu =>
      obtain rfl : S s = u := by simpa using hu
      exact cell?_alloc_of _ _ _ HC.out
  intro w1 h1 hx1
  refine hK _ _ (fun _ => trivial) ?_
  clear hK K
  simp only [Act.put, List.setIfInBounds_toArray, List.set_cons_succ, List.set_cons_zero]
  (repeat' (first | (refine Mix.lex_quiet0 rfl rfl rfl ?_; intro K hK; go_big_quiet_op; go_big_quiet_on) | (refine Mix.lex_quietG rfl rfl rfl (by with_reducible rfl) rfl rfl ?_; intro K hK; go_big_quiet_op; go_big_quiet_on) | ((first | refine Mix.lex_skipT rfl rfl rfl (by with_reducible rfl) ?_ | refine Mix.lex_skipF rfl rfl rfl (by with_reducible rfl) ?_ | refine Mix.lex_skipU rfl rfl rfl (by with_reducible rfl) ?_); simp only [Act.put, List.setIfInBounds_toArray, List.set_cons_succ, List.set_cons_zero]) | (refine Mix.lex_part rfl rfl rfl rfl (fun hq => ?_) (fun hq => ?_) <;> (fail_if_success (guard_hyp hq :ₛ true = true)) <;> (fail_if_success (guard_hyp hq :ₛ false = false)) <;> first | (exfalso; cases hq; done) | (exfalso; simp only [decide_eq_true_eq, decide_eq_false_iff_not, beq_iff_eq, beq_eq_false_iff_ne, ne_eq, Int.not_lt, Int.not_le] at hq; omega) | simp only [Act.put, List.setIfInBounds_toArray, List.set_cons_succ, List.set_cons_zero])))
  refine Mix.lex_nil ?_
  have C1 : Hid (Cs w1 w.heap.size 9 (List.replicate 1 (S s) ++ List.replicate (n - 1) (S [])).toArray) := by
    have e : (List.replicate n (S [])).take 0 ++ [S s] ++ (List.replicate n (S [])).drop (0 + [S s].length) = List.replicate 1 (S s) ++ List.replicate (n - 1) (S []) := by simp [List.drop_replicate]
    rw [e] at h1; exact h1
  have X1 : Hid (Only (fun b => b = w.heap.size) w w1) := ((Only.refl _ _).alloc _).trans hx1 fun b hb e => e
  clear h1 hx1
  go_wp2
  go_loopw [8] (fun i wr => ∃ m : Nat, 1 ≤ m ∧ m ≤ n ∧ i = .int .i64 m ∧ Cs wr w.heap.size 9 (List.replicate m (S s) ++ List.replicate (n - m) (S [])).toArray ∧ Only (fun b => b = w.heap.size) w wr) (fun i _ => n - (intOf i).toNat)
  case atStart => exact ⟨1, Nat.le_refl _, hn0, rfl, C1.out, X1.out⟩
  case round =>
    obtain ⟨m, hm1, hm, rfl, hC, hX⟩ := hrel
    have HX := Lib.hid hX
    have HCs := Lib.hid hC
    clear hC hX C1 X1
    by_cases hlt : m < n
    · go_upto_region 9 with fail
      refine Mix.wp_draw [7] 100 (fun _ => True) (by kernel_rfl) (by kernel_rfl) trivial ?_
      (repeat' (first | (refine Mix.lex_quiet0 rfl rfl rfl ?_; intro K hK; go_big_quiet_op; go_big_quiet_on) | (refine Mix.lex_quietG rfl rfl rfl (by with_reducible rfl) rfl rfl ?_; intro K hK; go_big_quiet_op; go_big_quiet_on) | ((first | refine Mix.lex_skipT rfl rfl rfl (by with_reducible rfl) ?_ | refine Mix.lex_skipF rfl rfl rfl (by with_reducible rfl) ?_ | refine Mix.lex_skipU rfl rfl rfl (by with_reducible rfl) ?_); simp only [Act.put, List.setIfInBounds_toArray, List.set_cons_succ, List.set_cons_zero]) | (refine Mix.lex_part rfl rfl rfl rfl (fun hq => ?_) (fun hq => ?_) <;> (fail_if_success (guard_hyp hq :ₛ true = true)) <;> (fail_if_success (guard_hyp hq :ₛ false = false)) <;> first | (exfalso; cases hq; done) | (exfalso; simp only [decide_eq_true_eq, decide_eq_false_iff_not, beq_iff_eq, beq_eq_false_iff_ne, ne_eq, Int.not_lt, Int.not_le] at hq; omega) | simp only [Act.put, List.setIfInBounds_toArray, List.set_cons_succ, List.set_cons_zero])))
      refine Mix.lex_goes0 rfl rfl ?_
      intro K hK
      have hmin : Nat.min m (n - m) ≤ m := Nat.min_le_left _ _
      have hmin2 : Nat.min m (n - m) ≤ n - m := Nat.min_le_right _ _
      have hpos : 1 ≤ Nat.min m (n - m) := Nat.le_min.2 ⟨by omega, by omega⟩
      obtain ⟨q, hq⟩ : ∃ q, q = Nat.min m (n - m) := ⟨_, rfl⟩
      rw [← hq] at hmin hmin2 hpos
      refine goes_copy_row (cur := List.replicate m (S s) ++ List.replicate (n - m) (S [])) (cs := List.replicate q (S s)) Try.underlying22 str_info1 rfl rfl rfl HCs.out.drew (by rw [List.length_replicate]; exact hq) (fun j u hu => ?_) (by simp; omega) (one_rep q s) ?_
      · have hj : j < q := by have := (List.getElem?_eq_some_iff.1 hu).1; simpa using this
        rw [Nat.zero_add, HCs.out.drew.cell, List.getElem?_toArray, List.getElem?_append_left (by simp; omega)]
        simp [show j < m by omega]
        simp [hj] at hu
        exact hu
      intro w2 h2 hx2
      refine hK _ _ (fun _ => trivial) ?_
      clear hK K
      simp only [Act.put, List.setIfInBounds_toArray, List.set_cons_succ, List.set_cons_zero]
      have C2 : Hid (Cs w2 w.heap.size 9 (List.replicate (m + q) (S s) ++ List.replicate (n - (m + q)) (S [])).toArray) := by
        have e : (List.replicate m (S s) ++ List.replicate (n - m) (S [])).take m ++ List.replicate q (S s) ++ (List.replicate m (S s) ++ List.replicate (n - m) (S [])).drop (m + (List.replicate q (S s)).length) = List.replicate (m + q) (S s) ++ List.replicate (n - (m + q)) (S []) := by
          rw [List.take_left' (by simp), List.replicate_append_replicate, List.drop_append]
          simp [List.drop_replicate, Nat.sub_sub]
        rw [e] at h2; exact h2
      have X2 : Hid (Only (fun b => b = w.heap.size) w w2) := (HX.out.drew).trans hx2 fun b hb e => e
      clear h2 hx2
      simp only [List.length_replicate]
      clear hq
      (repeat' (first | (refine Mix.lex_quiet0 rfl rfl rfl ?_; intro K hK; go_big_quiet_op; go_big_quiet_on) | (refine Mix.lex_quietG rfl rfl rfl (by with_reducible rfl) rfl rfl ?_; intro K hK; go_big_quiet_op; go_big_quiet_on) | ((first | refine Mix.lex_skipT rfl rfl rfl (by with_reducible rfl) ?_ | refine Mix.lex_skipF rfl rfl rfl (by with_reducible rfl) ?_ | refine Mix.lex_skipU rfl rfl rfl (by with_reducible rfl) ?_); simp only [Act.put, List.setIfInBounds_toArray, List.set_cons_succ, List.set_cons_zero]) | (refine Mix.lex_part rfl rfl rfl rfl (fun hq => ?_) (fun hq => ?_) <;> (fail_if_success (guard_hyp hq :ₛ true = true)) <;> (fail_if_success (guard_hyp hq :ₛ false = false)) <;> first | (exfalso; cases hq; done) | (exfalso; simp only [decide_eq_true_eq, decide_eq_false_iff_not, beq_iff_eq, beq_eq_false_iff_ne, ne_eq, Int.not_lt, Int.not_le] at hq; omega) | simp only [Act.put, List.setIfInBounds_toArray, List.set_cons_succ, List.set_cons_zero])))
      refine Mix.lex_nil ?_
      go_wp2
      go_roundw
      case rel => exact ⟨m + q, by omega, by omega, by go_num, C2.out, X2.out⟩
      case measure => simp [intOf]; omega
    · go_wp2
      go_ret
      have hmn : m = n := by omega
      subst hmn
      exact ⟨w.heap.size, rfl, by simpa using HCs.out, HX.out.weak fun b hb e => by omega, Nat.le_refl _⟩
end Go.Proofs.Ytlfiobciahnapaa
