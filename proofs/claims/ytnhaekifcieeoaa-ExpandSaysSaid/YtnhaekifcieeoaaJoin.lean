/- strings.Join with a blank. -/
import Derived.Test.YtnhaekifcieeoaaBld
import Derived.Test.YtnhaekifcieeoaaStrs
import Derived.Test.YtnhaekifcieeoaaAut
namespace Go.Proofs.Ytnhaekifcieeoaa
open Go Go.RowKit
theorem Only.thenBelow {w u v : World} (h : Ext w u) (k : Below w.heap.size u v) : Ext w v := ⟨k.os.trans h.os, k.tape.trans h.tape, k.output.trans h.output, Nat.le_trans h.size k.size, fun b hb hn => (k.block b hb).trans (h.block b hb hn)⟩
def sumLen (l : List Str) : Nat := (l.map List.length).sum
theorem sumLen_le {l : List Str} {K : Nat} (h : ∀ x ∈ l, x.length ≤ K) : sumLen l ≤ l.length * K := by
  unfold sumLen
  induction l with
  | nil => simp
  | cons x l ih =>
    have h1 := h x (by simp)
    have h2 := ih fun y hy => h y (List.mem_cons_of_mem _ hy)
    simp only [List.map_cons, List.sum_cons, List.length_cons, Nat.succ_mul]
    omega
set_option maxRecDepth 100000 in
set_option maxHeartbeats 4000000 in
theorem Join_c {w : World} {A : Option Addr} {n cp : Nat} {l : List Str} (h : SlR strF w A n l) (hn : n ≤ 5) (hcp : n ≤ cp) (hl : ∀ x ∈ l, x.length ≤ 1000000) :
    Calls Try.prog 35 #[.slice A n cp, S [32]] w fun e w' => e = .returned (S (joinSp l)) ∧ Ext w w' := by
  have hll := h.1
  by_cases h0 : n = 0
  · subst h0
    have hl0 := h.nil_
    subst hl0
    go_enter Try.func35, Try.ntmps35
    go_wp2_with (first | (refine Mix.wpList_guarded rfl ?_; (repeat' (first | (refine Mix.lex_quiet0 rfl rfl rfl ?_; intro K hK; go_big_quiet_op; go_big_quiet_on) | (refine Mix.lex_quietG rfl rfl rfl (by with_reducible rfl) rfl rfl ?_; intro K hK; go_big_quiet_op; go_big_quiet_on) | ((first | refine Mix.lex_skipT rfl rfl rfl (by with_reducible rfl) ?_ | refine Mix.lex_skipF rfl rfl rfl (by with_reducible rfl) ?_ | refine Mix.lex_skipU rfl rfl rfl (by with_reducible rfl) ?_); simp only [Act.put, List.setIfInBounds_toArray, List.set_cons_succ, List.set_cons_zero]) | (refine Mix.lex_part rfl rfl rfl rfl (fun hq => ?_) (fun hq => ?_) <;> (fail_if_success (guard_hyp hq :ₛ true = true)) <;> (fail_if_success (guard_hyp hq :ₛ false = false)) <;> first | (exfalso; cases hq; done) | (exfalso; simp only [decide_eq_true_eq, decide_eq_false_iff_not, beq_iff_eq, beq_eq_false_iff_ne, ne_eq, Int.not_lt, Int.not_le] at hq; omega) | simp only [Act.put, List.setIfInBounds_toArray, List.set_cons_succ, List.set_cons_zero]))); all_goals (refine Mix.lex_nil ?_)) | (refine Mix.wp_still (by kernel_rfl) (by kernel_rfl) ?_; (repeat' (first | (refine Mix.lex_quiet0 rfl rfl rfl ?_; intro K hK; go_big_quiet_op; go_big_quiet_on) | (refine Mix.lex_quietG rfl rfl rfl (by with_reducible rfl) rfl rfl ?_; intro K hK; go_big_quiet_op; go_big_quiet_on) | ((first | refine Mix.lex_skipT rfl rfl rfl (by with_reducible rfl) ?_ | refine Mix.lex_skipF rfl rfl rfl (by with_reducible rfl) ?_ | refine Mix.lex_skipU rfl rfl rfl (by with_reducible rfl) ?_); simp only [Act.put, List.setIfInBounds_toArray, List.set_cons_succ, List.set_cons_zero]) | (refine Mix.lex_part rfl rfl rfl rfl (fun hq => ?_) (fun hq => ?_) <;> (fail_if_success (guard_hyp hq :ₛ true = true)) <;> (fail_if_success (guard_hyp hq :ₛ false = false)) <;> first | (exfalso; cases hq; done) | (exfalso; simp only [decide_eq_true_eq, decide_eq_false_iff_not, beq_iff_eq, beq_eq_false_iff_ne, ne_eq, Int.not_lt, Int.not_le] at hq; omega) | simp only [Act.put, List.setIfInBounds_toArray, List.set_cons_succ, List.set_cons_zero]))); all_goals (refine Mix.lex_nil ?_)))
    go_ret
    exact ⟨rfl, Only.refl _ _⟩
  by_cases h1 : n = 1
  · subst h1
    obtain ⟨x, rfl⟩ : ∃ x, l = [x] := by
      match l, hll with
      | [x], _ => exact ⟨x, rfl⟩
    obtain ⟨bb, o, s, rfl, hx, c0⟩ := strs_get h (k := 0) (by omega)
    obtain rfl : x = s := Option.some.inj hx
    have c00 : w.cell? ⟨bb, o, none⟩ = some (S x) := c0 (X.here w No)
    clear h c0 hx
    go_enter Try.func35, Try.ntmps35
    go_wp2_with (first | (refine Mix.wpList_guarded rfl ?_; (repeat' (first | (refine Mix.lex_quiet0 rfl rfl rfl ?_; intro K hK; go_big_quiet_op; go_big_quiet_on) | (refine Mix.lex_quietG rfl rfl rfl (by with_reducible rfl) rfl rfl ?_; intro K hK; go_big_quiet_op; go_big_quiet_on) | ((first | refine Mix.lex_skipT rfl rfl rfl (by with_reducible rfl) ?_ | refine Mix.lex_skipF rfl rfl rfl (by with_reducible rfl) ?_ | refine Mix.lex_skipU rfl rfl rfl (by with_reducible rfl) ?_); simp only [Act.put, List.setIfInBounds_toArray, List.set_cons_succ, List.set_cons_zero]) | (refine Mix.lex_part rfl rfl rfl rfl (fun hq => ?_) (fun hq => ?_) <;> (fail_if_success (guard_hyp hq :ₛ true = true)) <;> (fail_if_success (guard_hyp hq :ₛ false = false)) <;> first | (exfalso; cases hq; done) | (exfalso; simp only [decide_eq_true_eq, decide_eq_false_iff_not, beq_iff_eq, beq_eq_false_iff_ne, ne_eq, Int.not_lt, Int.not_le] at hq; omega) | simp only [Act.put, List.setIfInBounds_toArray, List.set_cons_succ, List.set_cons_zero]))); all_goals (refine Mix.lex_nil ?_)) | (refine Mix.wp_still (by kernel_rfl) (by kernel_rfl) ?_; (repeat' (first | (refine Mix.lex_quiet0 rfl rfl rfl ?_; intro K hK; go_big_quiet_op; go_big_quiet_on) | (refine Mix.lex_quietG rfl rfl rfl (by with_reducible rfl) rfl rfl ?_; intro K hK; go_big_quiet_op; go_big_quiet_on) | ((first | refine Mix.lex_skipT rfl rfl rfl (by with_reducible rfl) ?_ | refine Mix.lex_skipF rfl rfl rfl (by with_reducible rfl) ?_ | refine Mix.lex_skipU rfl rfl rfl (by with_reducible rfl) ?_); simp only [Act.put, List.setIfInBounds_toArray, List.set_cons_succ, List.set_cons_zero]) | (refine Mix.lex_part rfl rfl rfl rfl (fun hq => ?_) (fun hq => ?_) <;> (fail_if_success (guard_hyp hq :ₛ true = true)) <;> (fail_if_success (guard_hyp hq :ₛ false = false)) <;> first | (exfalso; cases hq; done) | (exfalso; simp only [decide_eq_true_eq, decide_eq_false_iff_not, beq_iff_eq, beq_eq_false_iff_ne, ne_eq, Int.not_lt, Int.not_le] at hq; omega) | simp only [Act.put, List.setIfInBounds_toArray, List.set_cons_succ, List.set_cons_zero]))); all_goals (refine Mix.lex_nil ?_)))
    go_ret
    exact ⟨rfl, Only.refl _ _⟩
  have H := Lib.hid h
  have HL := Lib.hid hl
  clear h hl
  have hq : ¬ (9223372036854775807 / ((n : Int) - 1) ≤ 1) := by
    have : n = 2 ∨ n = 3 ∨ n = 4 ∨ n = 5 := by omega
    rcases this with rfl | rfl | rfl | rfl <;> decide
  have h0b : (((n : Nat) : Int) == 0) = false := by rw [beq_eq_false_iff_ne]; omega
  have h1b : (((n : Nat) : Int) == 1) = false := by rw [beq_eq_false_iff_ne]; omega
  have hz : ¬ ((n : Int) - 1 = 0) := by omega
  have hsum : ∀ k, sumLen (l.take k) ≤ 5000000 := fun k => by
    have h1 := sumLen_le (l := l.take k) (K := 1000000) fun x hx => HL.out x (List.mem_of_mem_take hx)
    have h2 : (l.take k).length ≤ 5 := by rw [List.length_take]; omega
    have h3 : (l.take k).length * 1000000 ≤ 5 * 1000000 := Nat.mul_le_mul_right _ h2
    omega
  have HS := Lib.hid hsum
  clear hsum
  go_enter Try.func35, Try.ntmps35
  go_upto_region 12 with fail
  go_loopw [5, 7, 41] (fun x5 _ x41 wr => ∃ k : Nat, k ≤ n ∧ x5 = .int .i64 ((n - 1 + sumLen (l.take k) : Nat) : Int) ∧ x41 = .int .i64 (k : Int) ∧ wr = w) (fun _ _ x41 _ => n - (intOf x41).toNat)
  case atStart => exact ⟨0, Nat.zero_le _, by simp [sumLen]; omega, rfl, rfl⟩
  case round =>
    obtain ⟨k, hk, rfl, rfl, rfl⟩ := hrel
    have hk5 := HS.out k
    by_cases hlt : k < n
    · obtain ⟨bb, o, x, rfl, hx, c0⟩ := strs_get H.out hlt
      have hxl := HL.out x (List.mem_of_getElem? hx)
      have c00 : wr.cell? ⟨bb, o + k, none⟩ = some (S x) := c0 (X.here _ No)
      have hs1 : sumLen (l.take (k + 1)) = sumLen (l.take k) + x.length := by
        rw [List.take_add_one, hx]; simp [sumLen]
      have HS1 := Lib.hid hs1
      obtain ⟨T, hT⟩ : ∃ T, T = sumLen (l.take k) := ⟨_, rfl⟩
      rw [← hT] at HS1 hk5 ⊢
      clear hT hs1 c0 hx
      go_wp2_with (first | (refine Mix.wpList_guarded rfl ?_; (repeat' (first | (refine Mix.lex_quiet0 rfl rfl rfl ?_; intro K hK; go_big_quiet_op; go_big_quiet_on) | (refine Mix.lex_quietG rfl rfl rfl (by with_reducible rfl) rfl rfl ?_; intro K hK; go_big_quiet_op; go_big_quiet_on) | ((first | refine Mix.lex_skipT rfl rfl rfl (by with_reducible rfl) ?_ | refine Mix.lex_skipF rfl rfl rfl (by with_reducible rfl) ?_ | refine Mix.lex_skipU rfl rfl rfl (by with_reducible rfl) ?_); simp only [Act.put, List.setIfInBounds_toArray, List.set_cons_succ, List.set_cons_zero]) | (refine Mix.lex_part rfl rfl rfl rfl (fun hq => ?_) (fun hq => ?_) <;> (fail_if_success (guard_hyp hq :ₛ true = true)) <;> (fail_if_success (guard_hyp hq :ₛ false = false)) <;> first | (exfalso; cases hq; done) | (exfalso; simp only [decide_eq_true_eq, decide_eq_false_iff_not, beq_iff_eq, beq_eq_false_iff_ne, ne_eq, Int.not_lt, Int.not_le] at hq; omega) | simp only [Act.put, List.setIfInBounds_toArray, List.set_cons_succ, List.set_cons_zero]))); all_goals (refine Mix.lex_nil ?_)) | (refine Mix.wp_still (by kernel_rfl) (by kernel_rfl) ?_; (repeat' (first | (refine Mix.lex_quiet0 rfl rfl rfl ?_; intro K hK; go_big_quiet_op; go_big_quiet_on) | (refine Mix.lex_quietG rfl rfl rfl (by with_reducible rfl) rfl rfl ?_; intro K hK; go_big_quiet_op; go_big_quiet_on) | ((first | refine Mix.lex_skipT rfl rfl rfl (by with_reducible rfl) ?_ | refine Mix.lex_skipF rfl rfl rfl (by with_reducible rfl) ?_ | refine Mix.lex_skipU rfl rfl rfl (by with_reducible rfl) ?_); simp only [Act.put, List.setIfInBounds_toArray, List.set_cons_succ, List.set_cons_zero]) | (refine Mix.lex_part rfl rfl rfl rfl (fun hq => ?_) (fun hq => ?_) <;> (fail_if_success (guard_hyp hq :ₛ true = true)) <;> (fail_if_success (guard_hyp hq :ₛ false = false)) <;> first | (exfalso; cases hq; done) | (exfalso; simp only [decide_eq_true_eq, decide_eq_false_iff_not, beq_iff_eq, beq_eq_false_iff_ne, ne_eq, Int.not_lt, Int.not_le] at hq; omega) | simp only [Act.put, List.setIfInBounds_toArray, List.set_cons_succ, List.set_cons_zero]))); all_goals (refine Mix.lex_nil ?_)))
      all_goals try (exfalso; simp only [decide_eq_true_eq, decide_eq_false_iff_not, beq_iff_eq, beq_eq_false_iff_ne, ne_eq, Int.not_lt, Int.not_le, Bool.not_eq_true, Bool.not_eq_false, Bool.or_eq_true, Bool.or_eq_false_iff, Bool.and_eq_true, Bool.and_eq_false_iff, Bool.not_eq_eq_eq_not, Bool.not_true, Bool.not_false] at *; omega)
      go_roundw
      case rel => exact ⟨k + 1, by omega, by rw [HS1.out]; go_num, by go_num, by trivial⟩
      case measure => simp [intOf]; omega
    · obtain rfl : k = n := by omega
      obtain ⟨w, hw0⟩ : ∃ u, u = wr := ⟨_, rfl⟩
      subst hw0
      clear hk hlt hk5
      have hT5 := HS.out k
      have HTk : Hid (l.take k = l) := List.take_of_length_le (by omega)
      rw [HTk.out] at hT5 ⊢
      obtain ⟨N, hN⟩ : ∃ N, N = k - 1 + sumLen l := ⟨_, rfl⟩
      rw [← hN]
      have hN2 : N ≤ 5000010 := by omega
      obtain ⟨w1, hw1⟩ : ∃ u, u = w.alloc (.cells #[.pointer none, .slice none 0 0] bldT) := ⟨_, rfl⟩
      obtain ⟨b, hb⟩ : ∃ b, b = w.heap.size := ⟨_, rfl⟩
      have X1 : Hid (Ext w w1) := by rw [hw1]; exact (Only.refl No w).alloc _
      have HGr := Lib.hid (Try.Builder_Grow_fresh w.heap.size b N w1 (Nat.le_of_eq hb.symm) (by rw [hw1, hb]; exact Cs.new _ _ _) X1.out.size (by omega))
      clear hN
      go_upto_region 19 with fail
      rw [← hw1, ← hb]
      clear hw1 hb
      go_wp2_with fail
      refine HGr.out.mono ?_
      rintro e w2 ⟨rfl, hB, hbl⟩
      have X2 : Hid (Ext w w2) := X1.out.thenBelow hbl
      have HB2 : Hid (Lib.IsBuilderF bldT byT w.heap.size b (Lib.byteCells []) w2) := .inr (Lib.BuilderAtF.of hB)
      clear hB hbl HGr X1
      obtain ⟨bb, o, x, rfl, hx, c0⟩ := strs_get H.out (k := 0) (by omega)
      have hxl := HL.out x (List.mem_of_getElem? hx)
      have c00 : w2.cell? ⟨bb, o, none⟩ = some (S x) := c0 ⟨w2, X2.out⟩
      have hT1 : Hid (l.take (0 + 1) = [x]) := by rw [List.take_add_one, hx]; rfl
      have HW1 := Lib.hid (WriteStr_k w.heap.size b _ ⟨x.toArray⟩ w2 HB2.out (by show (Lib.byteCells []).length + x.length ≤ 140737488355328; simp [Lib.byteCells]; omega) X2.out.size)
      clear c0 hx
      go_wp2_with fail
      refine HW1.out.mono ?_
      rintro e w3 ⟨rfl, hB, hbl⟩
      have X3 : Hid (Ext w w3) := X2.out.thenBelow hbl
      have HB3 : Hid (Lib.IsBuilderF bldT byT w.heap.size b (Lib.byteCells (joinSp (l.take (0 + 1)))) w3) := by rw [hT1.out]; exact hB
      have hjl : ∀ j, (joinSp (l.take j)).length ≤ 10000000 := fun j => by
        have h1 := joinSp_len (l := l.take j) (K := 1000000) fun x hx => HL.out x (List.mem_of_mem_take hx)
        have h2 : (l.take j).length ≤ 5 := by rw [List.length_take]; omega
        have h3 : (l.take j).length * (1000000 + 1) ≤ 5 * (1000000 + 1) := Nat.mul_le_mul_right _ h2
        omega
      have HJl := Lib.hid hjl
      clear hB hbl HW1 X2 HB2 hjl hT1 c00 hxl
      go_wp2_with fail
      go_loopw [65] (fun x65 wr => ∃ j : Nat, j ≤ k - 1 ∧ x65 = .int .i64 (j : Int) ∧ Lib.IsBuilderF bldT byT w.heap.size b (Lib.byteCells (joinSp (l.take (j + 1)))) wr ∧ Ext w wr) (fun x65 _ => k - (intOf x65).toNat)
      case atStart => exact ⟨0, Nat.zero_le _, rfl, HB3.out, X3.out⟩
      case round =>
        clear HB3 X3
        obtain ⟨j, hj, rfl, hB, hX⟩ := hrel
        have HB := Lib.hid hB
        have HX := Lib.hid hX
        clear hB hX
        by_cases hlt : j < k - 1
        · obtain ⟨bb', o', x, e1, hx, c0⟩ := strs_get H.out (k := j + 1) (by omega)
          injection e1 with e1
          injection e1 with e1 e2
          subst e1; subst e2
          have hxl := HL.out x (List.mem_of_getElem? hx)
          have c00 : wr.cell? ⟨bb, o + 1 + j, none⟩ = some (S x) := by rw [show o + 1 + j = o + (j + 1) by omega]; exact c0 ⟨wr, HX.out⟩
          have hne : l.take (j + 1) ≠ [] := fun e => by
            have := congrArg List.length e
            rw [List.length_take] at this
            have this : min (j + 1) l.length = 0 := this
            omega
          have HE : Hid (Lib.byteCells (joinSp (l.take (j + 1))) ++ Lib.strCells ⟨[32].toArray⟩ ++ Lib.strCells ⟨x.toArray⟩ = Lib.byteCells (joinSp (l.take (j + 1 + 1)))) := by
            rw [List.take_add_one (i := j + 1), hx, Option.toList, joinSp_snoc _ _ hne, Lib.byteCells_append, List.append_assoc]
            rfl
          have hjj := HJl.out (j + 1)
          have HW2 := Lib.hid (WriteStr_k w.heap.size b _ ⟨[32].toArray⟩ wr HB.out (by show (Lib.byteCells (joinSp (l.take (j + 1)))).length + 1 ≤ 140737488355328; rw [Lib.byteCells_length]; omega) HX.out.size)
          clear c0 hx hne
          go_wp2_with fail
          refine HW2.out.mono ?_
          rintro e w5 ⟨rfl, hB, hbl⟩
          have X5 : Hid (Ext w w5) := HX.out.thenBelow hbl
          have HW3 := Lib.hid (WriteStr_k w.heap.size b _ ⟨x.toArray⟩ w5 hB (by show (Lib.byteCells (joinSp (l.take (j + 1))) ++ Lib.strCells ⟨[32].toArray⟩).length + x.length ≤ 140737488355328; rw [List.length_append, Lib.byteCells_length]; show _ + 1 + _ ≤ _; omega) X5.out.size)
          clear hB hbl HW2 HB HX c00
          go_wp2_with fail
          refine HW3.out.mono ?_
          rintro e w6 ⟨rfl, hB, hbl⟩
          have X6 : Hid (Ext w w6) := X5.out.thenBelow hbl
          have HB6 : Hid (Lib.IsBuilderF bldT byT w.heap.size b (Lib.byteCells (joinSp (l.take (j + 1 + 1)))) w6) := by rw [← HE.out]; exact hB
          clear hB hbl HW3 X5
          go_wp2_with fail
          go_roundw
          case rel => exact ⟨j + 1, by omega, by go_num, HB6.out, X6.out⟩
          case measure => simp [intOf]; omega
        · obtain rfl : j = k - 1 := by omega
          have HSt := Lib.hid (Try.Builder_String_any_k w.heap.size b _ wr HB.out HX.out.size)
          go_wp2_with fail
          refine HSt.out.mono ?_
          rintro e w5 ⟨rfl, _, hbl, _⟩
          have X5 : Hid (Ext w w5) := HX.out.thenBelow hbl
          have HE : Hid (l.take (k - 1 + 1) = l) := List.take_of_length_le (by omega)
          rw [HE.out]
          clear hbl HSt
          go_wp2_with fail
          go_ret
          exact ⟨rfl, X5.out⟩
end Go.Proofs.Ytnhaekifcieeoaa
