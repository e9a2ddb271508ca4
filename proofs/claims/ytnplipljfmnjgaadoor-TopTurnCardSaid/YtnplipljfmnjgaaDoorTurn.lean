/- recipe.turned. -/
import Derived.Test.YtnplipljfmnjgaaDoorRev
import Derived.Laws.IdiomStrings
namespace Go.Proofs.YtnplipljfmnjgaaDoor
open Go Go.RowKit
theorem rev_full {L : Str} {a : Nat} (h : L.length ≤ 2 * a + 1) {k : Nat} (hk : k < L.length) : revF L a k = L.reverse[k]'(by simpa using hk) := by
  rw [List.getElem_reverse]
  unfold revF
  split
  · rw [List.getD_eq_getElem?_getD, List.getElem?_eq_getElem (by omega)]; rfl
  · have e : L.length - 1 - k = k := by omega
    rw [List.getD_eq_getElem?_getD, List.getElem?_eq_getElem hk]
    simp only [e]
    rfl
theorem byte_row (s : Str) (cap : Nat) (w : World) (e : TypeId) (k : Nat) (hk : k < s.length) (z : Nat × Nat) (hz : s.length ≤ z.1) :
    (w.alloc (.cells (bytesRow ⟨s.toArray⟩ cap) e z)).cell? ⟨w.heap.size, k, none⟩ = some (.int .u8 (s[k].toNat : Int)) ∧
    (w.alloc (.cells (bytesRow ⟨s.toArray⟩ cap) e z)).frozen? ⟨w.heap.size, k, none⟩ = false := by
  have hh : (w.alloc (.cells (bytesRow ⟨s.toArray⟩ cap) e z)).heap[w.heap.size]? = some (.cells (bytesRow ⟨s.toArray⟩ cap) e z) := heap_alloc_new w _
  constructor
  · rw [cell_of_row _ _ _ _ _ _ hh, bytesRow_at _ _ _ (by simpa using hk)]
    simp
  · obtain ⟨z1, z2⟩ := z
    have hz : s.length ≤ z1 := hz
    simp only [World.frozen?, hh]
    simp
    omega
set_option maxRecDepth 100000 in
theorem turned_c (s : Str) (hs : s.length ≤ maxLen) (w : World) : Calls Tryd.prog 31 #[S s] w fun e w' => e = .returned (S s.reverse) ∧ Ext w w' := by
  have h1 := run_bytes_of_string (P := Tryd.prog) w 9 80 5 ⟨s.toArray⟩ Tryd.underlying9 Tryd.underlying80 Tryd.underlying5
  obtain ⟨cap, hcap⟩ : ∃ cap, cap = grownCap w (⟨s.toArray⟩ : ByteArray).size 0 5 := ⟨_, rfl⟩
  obtain ⟨W, hW⟩ : ∃ W, W = w.drew.alloc (.cells (bytesRow ⟨s.toArray⟩ cap) 5 ((bytesRow ⟨s.toArray⟩ cap).size, (bytesRow ⟨s.toArray⟩ cap).size + 1)) := ⟨_, rfl⟩
  rw [← hcap, ← hW] at h1
  have hR : RevAt W W w.heap.size s 0 := by
    refine ⟨fun k hk => ?_, fun k hk => ?_, Only.refl _ _⟩
    · have := (byte_row s cap w.drew 5 k hk ((bytesRow ⟨s.toArray⟩ cap).size, (bytesRow ⟨s.toArray⟩ cap).size + 1) (by simp [bytesRow])).1
      rw [hW]
      have e : revF s 0 k = s[k] := by unfold revF; rw [if_neg (by omega), List.getD_eq_getElem?_getD, List.getElem?_eq_getElem hk]; rfl
      rw [e]; exact this
    · have := (byte_row s cap w.drew 5 k hk ((bytesRow ⟨s.toArray⟩ cap).size, (bytesRow ⟨s.toArray⟩ cap).size + 1) (by simp [bytesRow])).2
      rw [hW]; exact this
  have hX : Ext w W := by rw [hW]; exact (Only.refl No w).drew.alloc _
  have h1 : (convert 9 80 (S s)).run Tryd.prog w = .ok (.slice (some ⟨w.heap.size, 0, none⟩) s.length cap) W := h1
  have HC := Lib.hid (Reverse_c (c := cap) hR rfl hs)
  have HX := Lib.hid hX
  clear hW hcap hR hX
  unfold maxLen at hs
  go_enter Tryd.func31, Tryd.ntmps31
  go_wp2_with (first | (refine Mix.wpList_guarded rfl ?_; (repeat' (first | (refine Mix.lex_quiet0 rfl rfl rfl ?_; intro K hK; go_big_quiet_op; go_big_quiet_on) | (refine Mix.lex_quietG rfl rfl rfl (by with_reducible rfl) rfl rfl ?_; intro K hK; go_big_quiet_op; go_big_quiet_on) | ((first | refine Mix.lex_skipT rfl rfl rfl (by with_reducible rfl) ?_ | refine Mix.lex_skipF rfl rfl rfl (by with_reducible rfl) ?_ | refine Mix.lex_skipU rfl rfl rfl (by with_reducible rfl) ?_); simp only [Act.put, List.setIfInBounds_toArray, List.set_cons_succ, List.set_cons_zero]) | (refine Mix.lex_part rfl rfl rfl rfl (fun hq => ?_) (fun hq => ?_) <;> (fail_if_success (guard_hyp hq :ₛ true = true)) <;> (fail_if_success (guard_hyp hq :ₛ false = false)) <;> first | (exfalso; cases hq; done) | (exfalso; simp only [decide_eq_true_eq, decide_eq_false_iff_not, beq_iff_eq, beq_eq_false_iff_ne, ne_eq, Int.not_lt, Int.not_le] at hq; omega) | simp only [Act.put, List.setIfInBounds_toArray, List.set_cons_succ, List.set_cons_zero]))); all_goals (refine Mix.lex_nil ?_)) | (refine Mix.wp_still (by kernel_rfl) (by kernel_rfl) ?_; (repeat' (first | (refine Mix.lex_quiet0 rfl rfl rfl ?_; intro K hK; go_big_quiet_op; go_big_quiet_on) | (refine Mix.lex_quietG rfl rfl rfl (by with_reducible rfl) rfl rfl ?_; intro K hK; go_big_quiet_op; go_big_quiet_on) | ((first | refine Mix.lex_skipT rfl rfl rfl (by with_reducible rfl) ?_ | refine Mix.lex_skipF rfl rfl rfl (by with_reducible rfl) ?_ | refine Mix.lex_skipU rfl rfl rfl (by with_reducible rfl) ?_); simp only [Act.put, List.setIfInBounds_toArray, List.set_cons_succ, List.set_cons_zero]) | (refine Mix.lex_part rfl rfl rfl rfl (fun hq => ?_) (fun hq => ?_) <;> (fail_if_success (guard_hyp hq :ₛ true = true)) <;> (fail_if_success (guard_hyp hq :ₛ false = false)) <;> first | (exfalso; cases hq; done) | (exfalso; simp only [decide_eq_true_eq, decide_eq_false_iff_not, beq_iff_eq, beq_eq_false_iff_ne, ne_eq, Int.not_lt, Int.not_le] at hq; omega) | simp only [Act.put, List.setIfInBounds_toArray, List.set_cons_succ, List.set_cons_zero]))); all_goals (refine Mix.lex_nil ?_)))
  refine HC.out.mono ?_
  rintro e u ⟨rfl, a, ha, hR⟩
  have h2 : (convert 80 9 (.slice (some ⟨w.heap.size, 0, none⟩) s.length cap)).run Tryd.prog u = .ok (S s.reverse) u := by
    have := run_convert_bytes_back (P := Tryd.prog) u 80 9 5 ⟨w.heap.size, 0, none⟩ cap s.reverse Tryd.underlying80 Tryd.underlying5 Tryd.underlying9 (fun j hj => by
      rw [add_plain_, Nat.zero_add, hR.cell j (by simpa using hj), rev_full ha (by simpa using hj)])
    rw [List.length_reverse] at this
    exact this
  have X1 : Hid (Ext w u) := HX.out.trans hR.x fun b hb e => by omega
  clear HC hR h1
  go_wp2_with (first | (refine Mix.wpList_guarded rfl ?_; (repeat' (first | (refine Mix.lex_quiet0 rfl rfl rfl ?_; intro K hK; go_big_quiet_op; go_big_quiet_on) | (refine Mix.lex_quietG rfl rfl rfl (by with_reducible rfl) rfl rfl ?_; intro K hK; go_big_quiet_op; go_big_quiet_on) | ((first | refine Mix.lex_skipT rfl rfl rfl (by with_reducible rfl) ?_ | refine Mix.lex_skipF rfl rfl rfl (by with_reducible rfl) ?_ | refine Mix.lex_skipU rfl rfl rfl (by with_reducible rfl) ?_); simp only [Act.put, List.setIfInBounds_toArray, List.set_cons_succ, List.set_cons_zero]) | (refine Mix.lex_part rfl rfl rfl rfl (fun hq => ?_) (fun hq => ?_) <;> (fail_if_success (guard_hyp hq :ₛ true = true)) <;> (fail_if_success (guard_hyp hq :ₛ false = false)) <;> first | (exfalso; cases hq; done) | (exfalso; simp only [decide_eq_true_eq, decide_eq_false_iff_not, beq_iff_eq, beq_eq_false_iff_ne, ne_eq, Int.not_lt, Int.not_le] at hq; omega) | simp only [Act.put, List.setIfInBounds_toArray, List.set_cons_succ, List.set_cons_zero]))); all_goals (refine Mix.lex_nil ?_)) | (refine Mix.wp_still (by kernel_rfl) (by kernel_rfl) ?_; (repeat' (first | (refine Mix.lex_quiet0 rfl rfl rfl ?_; intro K hK; go_big_quiet_op; go_big_quiet_on) | (refine Mix.lex_quietG rfl rfl rfl (by with_reducible rfl) rfl rfl ?_; intro K hK; go_big_quiet_op; go_big_quiet_on) | ((first | refine Mix.lex_skipT rfl rfl rfl (by with_reducible rfl) ?_ | refine Mix.lex_skipF rfl rfl rfl (by with_reducible rfl) ?_ | refine Mix.lex_skipU rfl rfl rfl (by with_reducible rfl) ?_); simp only [Act.put, List.setIfInBounds_toArray, List.set_cons_succ, List.set_cons_zero]) | (refine Mix.lex_part rfl rfl rfl rfl (fun hq => ?_) (fun hq => ?_) <;> (fail_if_success (guard_hyp hq :ₛ true = true)) <;> (fail_if_success (guard_hyp hq :ₛ false = false)) <;> first | (exfalso; cases hq; done) | (exfalso; simp only [decide_eq_true_eq, decide_eq_false_iff_not, beq_iff_eq, beq_eq_false_iff_ne, ne_eq, Int.not_lt, Int.not_le] at hq; omega) | simp only [Act.put, List.setIfInBounds_toArray, List.set_cons_succ, List.set_cons_zero]))); all_goals (refine Mix.lex_nil ?_)))
  go_ret
  exact ⟨rfl, X1.out⟩
end Go.Proofs.YtnplipljfmnjgaaDoor
