/- strings.Replacer: Replace, once. -/
import Derived.Lib.SlBytesRow
import Derived.Test.YtnhaekifcieeoaaRp5
import Derived.Test.YtnhaekifcieeoaaOnce
namespace Go.Proofs.Ytnhaekifcieeoaa
open Go Go.RowKit
theorem mk_asw (n : Nat) (hn : n ≤ 1000000) (w : World) : (Instr.makeSlice aswT (.int .i64 0) (.int .i64 (n : Int))).run Try.prog w =
    .ok (.slice (some ⟨w.heap.size, 0, none⟩) 0 n) (w.alloc (.cells (madeCells #[.int .u8 0] n) byT5)) := by
  obtain ⟨i0, hi, hz, h1, h2⟩ := info_parts by_info5
  have hb : (i0.bytes : Int) * (n : Int) ≤ 281474976710656 := by rw [h2]; omega
  have hr := run_make (P := Try.prog) w aswT byT5 i0 (.int .u8 0) Try.underlying219 hi hz .i64 .i64 0 n (by omega) (by omega) hb (by omega)
  simp only [Int.toNat_natCast] at hr
  rw [hr, h1]
  simp [Value.cells]
set_option maxRecDepth 100000 in
theorem Buf.conv {w u : World} {b : Nat} {A : Option Addr} {c : Nat} {l : Str} (h : Buf w u b A c l) : (convert aswT 9 (.slice A l.length c)).run Try.prog u = .ok (S l) u := by
  have hl : (Lib.strCells ⟨l.toArray⟩).length = l.length := by simp [Lib.strCells]
  rcases A with _ | ad
  · rcases h.own.2 with ⟨hv, h0⟩ | ⟨g, cap, cur, hv, _⟩
    · have : l = [] := List.eq_nil_of_length_eq_zero h0
      subst this
      exact run_convert_bytes_nil u aswT byT5 Try.underlying219 Try.underlying5 _ _ _ Try.underlying9
    · injection hv with hv
      cases hv
  · rcases h.own.2 with ⟨hv, h0⟩ | ⟨g, cap, cur, hv, _⟩
    · injection hv with hv
      cases hv
    · injection hv with hv1 hv2 hv3
      injection hv1 with hv1
      subst hv1; subst hv3
      have := Lib.run_convert_whole (P := Try.prog) u aswT byT5 9 Try.underlying219 Try.underlying5 Try.underlying9 g 0 ⟨l.toArray⟩ (fun i hi => by
        have hi : i < l.length := hi
        rw [Nat.zero_add, World.ownsRow.cellAt h.own i (by omega)]
        simp [Lib.strCells, hi]
        rfl) c
      exact this
set_option maxRecDepth 100000 in
set_option maxHeartbeats 1000000 in
theorem genReplace_c {w : World} {g t0 n1 t1 n2 n3 n4 n5 : Nat} {gs : Array Value} {a b' c d : Str} (h : Trie w g t0 n1 t1 n2 n3 n4 n5 gs a b' c d) (s : Str) (hs : s.length ≤ 1000000) (hL : (autoF (keyV a b' c d) s).length ≤ 100000000) :
    Calls Try.prog 157 #[rpt g, S s] w fun e w' => e = .returned (S (autoF (keyV a b' c d) s)) ∧ Ext w w' := by
  have hmk := mk_asw s.length hs w
  obtain ⟨w1, hw1⟩ : ∃ u, u = w.alloc (.cells (madeCells #[.int .u8 0] s.length) byT5) := ⟨_, rfl⟩
  obtain ⟨w2, hw2⟩ : ∃ u, u = w1.alloc (.cells #[.slice (some ⟨w.heap.size, 0, none⟩) 0 s.length] aswT) := ⟨_, rfl⟩
  obtain ⟨b, hb⟩ : ∃ b, b = w.heap.size + 1 := ⟨_, rfl⟩
  have hB : Buf w w2 b (some ⟨w.heap.size, 0, none⟩) s.length [] := by
    have x1 : Ext w w1 := by rw [hw1]; exact (Only.refl No w).alloc _
    have hb : b = w1.heap.size := by rw [hb, hw1]; simp
    have o1 : w1.ownsRow w.heap.size byT5 1 (.slice (some ⟨w.heap.size, 0, none⟩) 0 s.length) 0 [] := by
      refine ⟨rfl, .inr ⟨w.heap.size, s.length, _, rfl, Nat.le_refl _, by rw [hw1]; exact Cs.new _ _ _, Nat.zero_le _, by unfold maxLen; omega, by simp [madeCells], rfl⟩⟩
    refine ⟨by rw [hw2, hb]; exact Cs.new _ _ _, own_keep o1 (by rw [hw2]; exact (Only.refl No w1).alloc _) (fun _ _ => id), by rw [hw2]; exact x1.alloc _, by rw [hb]; exact x1.size⟩
  have HB := Lib.hid hB
  have HG := Lib.hid (genWrite_c h s hs hL hB)
  clear h hB
  go_enter Try.func157, Try.ntmps157
  go_upto_region 2 with fail
  rw [← hw1, ← hw2, ← hb]
  clear hw1 hw2 hb hmk
  go_wp2_with (first | (refine Mix.wpList_guarded rfl ?_; (repeat' (first | (refine Mix.lex_quiet0 rfl rfl rfl ?_; intro K hK; go_big_quiet_op; go_big_quiet_on) | (refine Mix.lex_quietG rfl rfl rfl (by with_reducible rfl) rfl rfl ?_; intro K hK; go_big_quiet_op; go_big_quiet_on) | ((first | refine Mix.lex_skipT rfl rfl rfl (by with_reducible rfl) ?_ | refine Mix.lex_skipF rfl rfl rfl (by with_reducible rfl) ?_ | refine Mix.lex_skipU rfl rfl rfl (by with_reducible rfl) ?_); simp only [Act.put, List.setIfInBounds_toArray, List.set_cons_succ, List.set_cons_zero]) | (refine Mix.lex_part rfl rfl rfl rfl (fun hq => ?_) (fun hq => ?_) <;> (fail_if_success (guard_hyp hq :ₛ true = true)) <;> (fail_if_success (guard_hyp hq :ₛ false = false)) <;> first | (exfalso; cases hq; done) | (exfalso; simp only [decide_eq_true_eq, decide_eq_false_iff_not, beq_iff_eq, beq_eq_false_iff_ne, ne_eq, Int.not_lt, Int.not_le] at hq; omega) | simp only [Act.put, List.setIfInBounds_toArray, List.set_cons_succ, List.set_cons_zero]))); all_goals (refine Mix.lex_nil ?_)) | (refine Mix.wp_still (by kernel_rfl) (by kernel_rfl) ?_; (repeat' (first | (refine Mix.lex_quiet0 rfl rfl rfl ?_; intro K hK; go_big_quiet_op; go_big_quiet_on) | (refine Mix.lex_quietG rfl rfl rfl (by with_reducible rfl) rfl rfl ?_; intro K hK; go_big_quiet_op; go_big_quiet_on) | ((first | refine Mix.lex_skipT rfl rfl rfl (by with_reducible rfl) ?_ | refine Mix.lex_skipF rfl rfl rfl (by with_reducible rfl) ?_ | refine Mix.lex_skipU rfl rfl rfl (by with_reducible rfl) ?_); simp only [Act.put, List.setIfInBounds_toArray, List.set_cons_succ, List.set_cons_zero]) | (refine Mix.lex_part rfl rfl rfl rfl (fun hq => ?_) (fun hq => ?_) <;> (fail_if_success (guard_hyp hq :ₛ true = true)) <;> (fail_if_success (guard_hyp hq :ₛ false = false)) <;> first | (exfalso; cases hq; done) | (exfalso; simp only [decide_eq_true_eq, decide_eq_false_iff_not, beq_iff_eq, beq_eq_false_iff_ne, ne_eq, Int.not_lt, Int.not_le] at hq; omega) | simp only [Act.put, List.setIfInBounds_toArray, List.set_cons_succ, List.set_cons_zero]))); all_goals (refine Mix.lex_nil ?_)))
  refine HG.out.mono ?_
  rintro e w3 ⟨⟨x, rfl⟩, A3, c3, hB3⟩
  have HB3 := Lib.hid hB3
  have c0 : w3.cell? ⟨b, 0, none⟩ = some (.slice A3 (autoF (keyV a b' c d) s).length c3) := hB3.cs.cell 0
  have hcv := hB3.conv
  clear hB3 HG HB
  go_wp2_with (first | (refine Mix.wpList_guarded rfl ?_; (repeat' (first | (refine Mix.lex_quiet0 rfl rfl rfl ?_; intro K hK; go_big_quiet_op; go_big_quiet_on) | (refine Mix.lex_quietG rfl rfl rfl (by with_reducible rfl) rfl rfl ?_; intro K hK; go_big_quiet_op; go_big_quiet_on) | ((first | refine Mix.lex_skipT rfl rfl rfl (by with_reducible rfl) ?_ | refine Mix.lex_skipF rfl rfl rfl (by with_reducible rfl) ?_ | refine Mix.lex_skipU rfl rfl rfl (by with_reducible rfl) ?_); simp only [Act.put, List.setIfInBounds_toArray, List.set_cons_succ, List.set_cons_zero]) | (refine Mix.lex_part rfl rfl rfl rfl (fun hq => ?_) (fun hq => ?_) <;> (fail_if_success (guard_hyp hq :ₛ true = true)) <;> (fail_if_success (guard_hyp hq :ₛ false = false)) <;> first | (exfalso; cases hq; done) | (exfalso; simp only [decide_eq_true_eq, decide_eq_false_iff_not, beq_iff_eq, beq_eq_false_iff_ne, ne_eq, Int.not_lt, Int.not_le] at hq; omega) | simp only [Act.put, List.setIfInBounds_toArray, List.set_cons_succ, List.set_cons_zero]))); all_goals (refine Mix.lex_nil ?_)) | (refine Mix.wp_still (by kernel_rfl) (by kernel_rfl) ?_; (repeat' (first | (refine Mix.lex_quiet0 rfl rfl rfl ?_; intro K hK; go_big_quiet_op; go_big_quiet_on) | (refine Mix.lex_quietG rfl rfl rfl (by with_reducible rfl) rfl rfl ?_; intro K hK; go_big_quiet_op; go_big_quiet_on) | ((first | refine Mix.lex_skipT rfl rfl rfl (by with_reducible rfl) ?_ | refine Mix.lex_skipF rfl rfl rfl (by with_reducible rfl) ?_ | refine Mix.lex_skipU rfl rfl rfl (by with_reducible rfl) ?_); simp only [Act.put, List.setIfInBounds_toArray, List.set_cons_succ, List.set_cons_zero]) | (refine Mix.lex_part rfl rfl rfl rfl (fun hq => ?_) (fun hq => ?_) <;> (fail_if_success (guard_hyp hq :ₛ true = true)) <;> (fail_if_success (guard_hyp hq :ₛ false = false)) <;> first | (exfalso; cases hq; done) | (exfalso; simp only [decide_eq_true_eq, decide_eq_false_iff_not, beq_iff_eq, beq_eq_false_iff_ne, ne_eq, Int.not_lt, Int.not_le] at hq; omega) | simp only [Act.put, List.setIfInBounds_toArray, List.set_cons_succ, List.set_cons_zero]))); all_goals (refine Mix.lex_nil ?_)))
  go_ret
  exact ⟨rfl, HB3.out.x⟩
end Go.Proofs.Ytnhaekifcieeoaa
