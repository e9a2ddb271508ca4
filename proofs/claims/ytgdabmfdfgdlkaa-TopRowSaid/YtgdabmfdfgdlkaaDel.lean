/- files.Drop: slices.IndexFunc, slices.DeleteFunc. -/
import Derived.Test.YtgdabmfdfgdlkaaFiles2
namespace Go.Proofs.Ytgdabmfdfgdlkaa
open Go Go.RowKit
/-- Is this file called so? by the function that Drop hands over. -/
theorem Drop1_c (f : File) (k : Str) {b : Nat} {w : World} (hb : b < w.heap.size) (hc : w.cell? ⟨b, 0, none⟩ = some (S k)) :
    Calls Try.prog 47 #[.agg #[S f.1, S f.2], .pointer (some ⟨b, 0, none⟩)] w fun e w' => e = .returned (.bool (f.1 == k)) ∧ Ext w w' := by
  go_enter Try.func47, Try.ntmps47
  go_wp2_with (first | (refine Mix.wpList_guarded rfl ?_; (repeat' (first | (refine Mix.lex_quiet0 rfl rfl rfl ?_; intro K hK; go_big_quiet_op; go_big_quiet_on) | (refine Mix.lex_quietG rfl rfl rfl (by with_reducible rfl) rfl rfl ?_; intro K hK; go_big_quiet_op; go_big_quiet_on) | ((first | refine Mix.lex_skipT rfl rfl rfl (by with_reducible rfl) ?_ | refine Mix.lex_skipF rfl rfl rfl (by with_reducible rfl) ?_ | refine Mix.lex_skipU rfl rfl rfl (by with_reducible rfl) ?_); simp only [Act.put, List.setIfInBounds_toArray, List.set_cons_succ, List.set_cons_zero]) | (refine Mix.lex_part rfl rfl rfl rfl (fun hq => ?_) (fun hq => ?_) <;> (fail_if_success (guard_hyp hq :ₛ true = true)) <;> (fail_if_success (guard_hyp hq :ₛ false = false)) <;> first | (exfalso; cases hq; done) | (exfalso; simp only [decide_eq_true_eq, decide_eq_false_iff_not, beq_iff_eq, beq_eq_false_iff_ne, ne_eq, Int.not_lt, Int.not_le] at hq; omega) | simp only [Act.put, List.setIfInBounds_toArray, List.set_cons_succ, List.set_cons_zero]))); all_goals (refine Mix.lex_nil ?_)) | (refine Mix.wp_still (by kernel_rfl) (by kernel_rfl) ?_; (repeat' (first | (refine Mix.lex_quiet0 rfl rfl rfl ?_; intro K hK; go_big_quiet_op; go_big_quiet_on) | (refine Mix.lex_quietG rfl rfl rfl (by with_reducible rfl) rfl rfl ?_; intro K hK; go_big_quiet_op; go_big_quiet_on) | ((first | refine Mix.lex_skipT rfl rfl rfl (by with_reducible rfl) ?_ | refine Mix.lex_skipF rfl rfl rfl (by with_reducible rfl) ?_ | refine Mix.lex_skipU rfl rfl rfl (by with_reducible rfl) ?_); simp only [Act.put, List.setIfInBounds_toArray, List.set_cons_succ, List.set_cons_zero]) | (refine Mix.lex_part rfl rfl rfl rfl (fun hq => ?_) (fun hq => ?_) <;> (fail_if_success (guard_hyp hq :ₛ true = true)) <;> (fail_if_success (guard_hyp hq :ₛ false = false)) <;> first | (exfalso; cases hq; done) | (exfalso; simp only [decide_eq_true_eq, decide_eq_false_iff_not, beq_iff_eq, beq_eq_false_iff_ne, ne_eq, Int.not_lt, Int.not_le] at hq; omega) | simp only [Act.put, List.setIfInBounds_toArray, List.set_cons_succ, List.set_cons_zero]))); all_goals (refine Mix.lex_nil ?_)))
  go_ret
  exact ⟨rfl, (Only.refl No w).alloc _⟩
def idxI {α : Type} (p : α → Bool) (xs : List α) : Int := match xs.findIdx? p with | some i => (i : Int) | none => -1
theorem idxI_none {α : Type} {p : α → Bool} {xs : List α} (h : ∀ y ∈ xs, p y = false) : idxI p xs = -1 := by
  unfold idxI
  rw [List.findIdx?_eq_none_iff.2 h]
theorem idxI_at {α : Type} {p : α → Bool} {xs : List α} {j : Nat} {x : α} (h : ∀ y ∈ xs.take j, p y = false) (hx : xs[j]? = some x) (hp : p x = true) : idxI p xs = j := by
  unfold idxI
  obtain ⟨hl, rfl⟩ := List.getElem?_eq_some_iff.1 hx
  rw [List.findIdx?_eq_some_iff_getElem.2 ⟨hl, hp, fun i hi => ?_⟩]
  have := h xs[i] (List.mem_take_iff_getElem.2 ⟨i, by omega, rfl⟩)
  simp [this]
theorem idxI_some {α : Type} {p : α → Bool} {xs : List α} (h : ¬ ∀ y ∈ xs, p y = false) : ∃ (i : Nat) (x : α), idxI p xs = (i : Int) ∧ xs[i]? = some x ∧ p x = true ∧ ∀ y ∈ xs.take i, p y = false := by
  unfold idxI
  cases hf : xs.findIdx? p with
  | none => exact absurd (List.findIdx?_eq_none_iff.1 hf) h
  | some i =>
    obtain ⟨hl, hp, hj⟩ := List.findIdx?_eq_some_iff_getElem.1 hf
    refine ⟨i, xs[i], rfl, List.getElem?_eq_getElem hl, hp, fun y hy => ?_⟩
    obtain ⟨m, hm, rfl⟩ := List.mem_take_iff_getElem.1 hy
    simpa using hj m (by omega)
theorem all_snoc {α : Type} {p : α → Bool} {xs : List α} {j : Nat} {x : α} (h : ∀ y ∈ xs.take j, p y = false) (hx : xs[j]? = some x) (hp : p x = false) : ∀ y ∈ xs.take (j + 1), p y = false := fun y hy => by
  rw [List.take_add_one, hx] at hy
  rcases List.mem_append.1 hy with hy | hy
  · exact h y hy
  · simp at hy; exact hy ▸ hp
theorem IndexFunc_c {w : World} {A : Option Addr} {n c : Nat} {xs : List File} (h : SlR fileF w A n xs) (hn : n ≤ 1000000) (k : Str) {b : Nat} (hb : b < w.heap.size) (hc : w.cell? ⟨b, 0, none⟩ = some (S k)) :
    Calls Try.prog 64 #[.slice A n c, .func (.func 47) #[] #[.pointer (some ⟨b, 0, none⟩)]] w fun e w' => e = .returned (.int .i64 (idxI (fun f => f.1 == k) xs)) ∧ Ext w w' := by
  have HD : Hid (∀ (f : File) (v : World), Ext w v → Calls Try.prog 47 #[.agg #[S f.1, S f.2], .pointer (some ⟨b, 0, none⟩)] v fun e w' => e = .returned (.bool (f.1 == k)) ∧ Ext v w') := fun f v hx => Drop1_c f k (Nat.lt_of_lt_of_le hb hx.size) ((hx.cell hb id).trans hc)
  clear hc
  go_enter Try.func64, Try.ntmps64
  go_wp2_with (first | (refine Mix.wpList_guarded rfl ?_; (repeat' (first | (refine Mix.lex_quiet0 rfl rfl rfl ?_; intro K hK; go_big_quiet_op; go_big_quiet_on) | (refine Mix.lex_quietG rfl rfl rfl (by with_reducible rfl) rfl rfl ?_; intro K hK; go_big_quiet_op; go_big_quiet_on) | ((first | refine Mix.lex_skipT rfl rfl rfl (by with_reducible rfl) ?_ | refine Mix.lex_skipF rfl rfl rfl (by with_reducible rfl) ?_ | refine Mix.lex_skipU rfl rfl rfl (by with_reducible rfl) ?_); simp only [Act.put, List.setIfInBounds_toArray, List.set_cons_succ, List.set_cons_zero]) | (refine Mix.lex_part rfl rfl rfl rfl (fun hq => ?_) (fun hq => ?_) <;> (fail_if_success (guard_hyp hq :ₛ true = true)) <;> (fail_if_success (guard_hyp hq :ₛ false = false)) <;> first | (exfalso; cases hq; done) | (exfalso; simp only [decide_eq_true_eq, decide_eq_false_iff_not, beq_iff_eq, beq_eq_false_iff_ne, ne_eq, Int.not_lt, Int.not_le] at hq; omega) | simp only [Act.put, List.setIfInBounds_toArray, List.set_cons_succ, List.set_cons_zero]))); all_goals (refine Mix.lex_nil ?_)) | (refine Mix.wp_still (by kernel_rfl) (by kernel_rfl) ?_; (repeat' (first | (refine Mix.lex_quiet0 rfl rfl rfl ?_; intro K hK; go_big_quiet_op; go_big_quiet_on) | (refine Mix.lex_quietG rfl rfl rfl (by with_reducible rfl) rfl rfl ?_; intro K hK; go_big_quiet_op; go_big_quiet_on) | ((first | refine Mix.lex_skipT rfl rfl rfl (by with_reducible rfl) ?_ | refine Mix.lex_skipF rfl rfl rfl (by with_reducible rfl) ?_ | refine Mix.lex_skipU rfl rfl rfl (by with_reducible rfl) ?_); simp only [Act.put, List.setIfInBounds_toArray, List.set_cons_succ, List.set_cons_zero]) | (refine Mix.lex_part rfl rfl rfl rfl (fun hq => ?_) (fun hq => ?_) <;> (fail_if_success (guard_hyp hq :ₛ true = true)) <;> (fail_if_success (guard_hyp hq :ₛ false = false)) <;> first | (exfalso; cases hq; done) | (exfalso; simp only [decide_eq_true_eq, decide_eq_false_iff_not, beq_iff_eq, beq_eq_false_iff_ne, ne_eq, Int.not_lt, Int.not_le] at hq; omega) | simp only [Act.put, List.setIfInBounds_toArray, List.set_cons_succ, List.set_cons_zero]))); all_goals (refine Mix.lex_nil ?_)))
  go_loopw [8] (fun i wr => ∃ j : Nat, j ≤ n ∧ i = .int .i64 j ∧ (∀ y ∈ xs.take j, (y.1 == k) = false) ∧ ∃ ξ : X w No, wr = ξ.v) (fun i _ => n - (intOf i).toNat)
  case atStart => exact ⟨0, Nat.zero_le _, rfl, by simp, X.here _ _, rfl⟩
  case round =>
    obtain ⟨j, hj, rfl, hT, ξ, rfl⟩ := hrel
    have HT := Lib.hid hT
    clear hT
    by_cases hlt : j < n
    · obtain ⟨b', o, x, rfl, hx, c0, c1⟩ := files_get h hlt
      have HX := Lib.hid hx
      clear hx
      have HL := Lib.hid h.1
      obtain ⟨p, hp⟩ : ∃ p, p = (x.1 == k) := ⟨_, rfl⟩
      have HC := HD.out x
      rw [← hp] at HC
      have HP := Lib.hid hp
      have HC := Lib.hid HC
      clear hp
      cases p with
      | true =>
        go_wp2_with (first | (refine Mix.wpList_guarded rfl ?_; (repeat' (first | (refine Mix.lex_quiet0 rfl rfl rfl ?_; intro K hK; go_big_quiet_op; go_big_quiet_on) | (refine Mix.lex_quietG rfl rfl rfl (by with_reducible rfl) rfl rfl ?_; intro K hK; go_big_quiet_op; go_big_quiet_on) | ((first | refine Mix.lex_skipT rfl rfl rfl (by with_reducible rfl) ?_ | refine Mix.lex_skipF rfl rfl rfl (by with_reducible rfl) ?_ | refine Mix.lex_skipU rfl rfl rfl (by with_reducible rfl) ?_); simp only [Act.put, List.setIfInBounds_toArray, List.set_cons_succ, List.set_cons_zero]) | (refine Mix.lex_part rfl rfl rfl rfl (fun hq => ?_) (fun hq => ?_) <;> (fail_if_success (guard_hyp hq :ₛ true = true)) <;> (fail_if_success (guard_hyp hq :ₛ false = false)) <;> first | (exfalso; cases hq; done) | (exfalso; simp only [decide_eq_true_eq, decide_eq_false_iff_not, beq_iff_eq, beq_eq_false_iff_ne, ne_eq, Int.not_lt, Int.not_le] at hq; omega) | simp only [Act.put, List.setIfInBounds_toArray, List.set_cons_succ, List.set_cons_zero]))); all_goals (refine Mix.lex_nil ?_)) | (refine Mix.wp_still (by kernel_rfl) (by kernel_rfl) ?_; (repeat' (first | (refine Mix.lex_quiet0 rfl rfl rfl ?_; intro K hK; go_big_quiet_op; go_big_quiet_on) | (refine Mix.lex_quietG rfl rfl rfl (by with_reducible rfl) rfl rfl ?_; intro K hK; go_big_quiet_op; go_big_quiet_on) | ((first | refine Mix.lex_skipT rfl rfl rfl (by with_reducible rfl) ?_ | refine Mix.lex_skipF rfl rfl rfl (by with_reducible rfl) ?_ | refine Mix.lex_skipU rfl rfl rfl (by with_reducible rfl) ?_); simp only [Act.put, List.setIfInBounds_toArray, List.set_cons_succ, List.set_cons_zero]) | (refine Mix.lex_part rfl rfl rfl rfl (fun hq => ?_) (fun hq => ?_) <;> (fail_if_success (guard_hyp hq :ₛ true = true)) <;> (fail_if_success (guard_hyp hq :ₛ false = false)) <;> first | (exfalso; cases hq; done) | (exfalso; simp only [decide_eq_true_eq, decide_eq_false_iff_not, beq_iff_eq, beq_eq_false_iff_ne, ne_eq, Int.not_lt, Int.not_le] at hq; omega) | simp only [Act.put, List.setIfInBounds_toArray, List.set_cons_succ, List.set_cons_zero]))); all_goals (refine Mix.lex_nil ?_)))
        refine (HC.out _ ξ.h).mono ?_
        rintro e u ⟨rfl, hu⟩
        have U := Lib.hid (ξ.h.then_ext hu)
        clear hu
        go_wp2_with (first | (refine Mix.wpList_guarded rfl ?_; (repeat' (first | (refine Mix.lex_quiet0 rfl rfl rfl ?_; intro K hK; go_big_quiet_op; go_big_quiet_on) | (refine Mix.lex_quietG rfl rfl rfl (by with_reducible rfl) rfl rfl ?_; intro K hK; go_big_quiet_op; go_big_quiet_on) | ((first | refine Mix.lex_skipT rfl rfl rfl (by with_reducible rfl) ?_ | refine Mix.lex_skipF rfl rfl rfl (by with_reducible rfl) ?_ | refine Mix.lex_skipU rfl rfl rfl (by with_reducible rfl) ?_); simp only [Act.put, List.setIfInBounds_toArray, List.set_cons_succ, List.set_cons_zero]) | (refine Mix.lex_part rfl rfl rfl rfl (fun hq => ?_) (fun hq => ?_) <;> (fail_if_success (guard_hyp hq :ₛ true = true)) <;> (fail_if_success (guard_hyp hq :ₛ false = false)) <;> first | (exfalso; cases hq; done) | (exfalso; simp only [decide_eq_true_eq, decide_eq_false_iff_not, beq_iff_eq, beq_eq_false_iff_ne, ne_eq, Int.not_lt, Int.not_le] at hq; omega) | simp only [Act.put, List.setIfInBounds_toArray, List.set_cons_succ, List.set_cons_zero]))); all_goals (refine Mix.lex_nil ?_)) | (refine Mix.wp_still (by kernel_rfl) (by kernel_rfl) ?_; (repeat' (first | (refine Mix.lex_quiet0 rfl rfl rfl ?_; intro K hK; go_big_quiet_op; go_big_quiet_on) | (refine Mix.lex_quietG rfl rfl rfl (by with_reducible rfl) rfl rfl ?_; intro K hK; go_big_quiet_op; go_big_quiet_on) | ((first | refine Mix.lex_skipT rfl rfl rfl (by with_reducible rfl) ?_ | refine Mix.lex_skipF rfl rfl rfl (by with_reducible rfl) ?_ | refine Mix.lex_skipU rfl rfl rfl (by with_reducible rfl) ?_); simp only [Act.put, List.setIfInBounds_toArray, List.set_cons_succ, List.set_cons_zero]) | (refine Mix.lex_part rfl rfl rfl rfl (fun hq => ?_) (fun hq => ?_) <;> (fail_if_success (guard_hyp hq :ₛ true = true)) <;> (fail_if_success (guard_hyp hq :ₛ false = false)) <;> first | (exfalso; cases hq; done) | (exfalso; simp only [decide_eq_true_eq, decide_eq_false_iff_not, beq_iff_eq, beq_eq_false_iff_ne, ne_eq, Int.not_lt, Int.not_le] at hq; omega) | simp only [Act.put, List.setIfInBounds_toArray, List.set_cons_succ, List.set_cons_zero]))); all_goals (refine Mix.lex_nil ?_)))
        go_ret
        exact ⟨by rw [idxI_at HT.out HX.out HP.out.symm]; rfl, U.out⟩
      | false =>
        go_wp2_with (first | (refine Mix.wpList_guarded rfl ?_; (repeat' (first | (refine Mix.lex_quiet0 rfl rfl rfl ?_; intro K hK; go_big_quiet_op; go_big_quiet_on) | (refine Mix.lex_quietG rfl rfl rfl (by with_reducible rfl) rfl rfl ?_; intro K hK; go_big_quiet_op; go_big_quiet_on) | ((first | refine Mix.lex_skipT rfl rfl rfl (by with_reducible rfl) ?_ | refine Mix.lex_skipF rfl rfl rfl (by with_reducible rfl) ?_ | refine Mix.lex_skipU rfl rfl rfl (by with_reducible rfl) ?_); simp only [Act.put, List.setIfInBounds_toArray, List.set_cons_succ, List.set_cons_zero]) | (refine Mix.lex_part rfl rfl rfl rfl (fun hq => ?_) (fun hq => ?_) <;> (fail_if_success (guard_hyp hq :ₛ true = true)) <;> (fail_if_success (guard_hyp hq :ₛ false = false)) <;> first | (exfalso; cases hq; done) | (exfalso; simp only [decide_eq_true_eq, decide_eq_false_iff_not, beq_iff_eq, beq_eq_false_iff_ne, ne_eq, Int.not_lt, Int.not_le] at hq; omega) | simp only [Act.put, List.setIfInBounds_toArray, List.set_cons_succ, List.set_cons_zero]))); all_goals (refine Mix.lex_nil ?_)) | (refine Mix.wp_still (by kernel_rfl) (by kernel_rfl) ?_; (repeat' (first | (refine Mix.lex_quiet0 rfl rfl rfl ?_; intro K hK; go_big_quiet_op; go_big_quiet_on) | (refine Mix.lex_quietG rfl rfl rfl (by with_reducible rfl) rfl rfl ?_; intro K hK; go_big_quiet_op; go_big_quiet_on) | ((first | refine Mix.lex_skipT rfl rfl rfl (by with_reducible rfl) ?_ | refine Mix.lex_skipF rfl rfl rfl (by with_reducible rfl) ?_ | refine Mix.lex_skipU rfl rfl rfl (by with_reducible rfl) ?_); simp only [Act.put, List.setIfInBounds_toArray, List.set_cons_succ, List.set_cons_zero]) | (refine Mix.lex_part rfl rfl rfl rfl (fun hq => ?_) (fun hq => ?_) <;> (fail_if_success (guard_hyp hq :ₛ true = true)) <;> (fail_if_success (guard_hyp hq :ₛ false = false)) <;> first | (exfalso; cases hq; done) | (exfalso; simp only [decide_eq_true_eq, decide_eq_false_iff_not, beq_iff_eq, beq_eq_false_iff_ne, ne_eq, Int.not_lt, Int.not_le] at hq; omega) | simp only [Act.put, List.setIfInBounds_toArray, List.set_cons_succ, List.set_cons_zero]))); all_goals (refine Mix.lex_nil ?_)))
        refine (HC.out _ ξ.h).mono ?_
        rintro e u ⟨rfl, hu⟩
        have U := Lib.hid (ξ.h.then_ext hu)
        clear hu
        go_wp2_with (first | (refine Mix.wpList_guarded rfl ?_; (repeat' (first | (refine Mix.lex_quiet0 rfl rfl rfl ?_; intro K hK; go_big_quiet_op; go_big_quiet_on) | (refine Mix.lex_quietG rfl rfl rfl (by with_reducible rfl) rfl rfl ?_; intro K hK; go_big_quiet_op; go_big_quiet_on) | ((first | refine Mix.lex_skipT rfl rfl rfl (by with_reducible rfl) ?_ | refine Mix.lex_skipF rfl rfl rfl (by with_reducible rfl) ?_ | refine Mix.lex_skipU rfl rfl rfl (by with_reducible rfl) ?_); simp only [Act.put, List.setIfInBounds_toArray, List.set_cons_succ, List.set_cons_zero]) | (refine Mix.lex_part rfl rfl rfl rfl (fun hq => ?_) (fun hq => ?_) <;> (fail_if_success (guard_hyp hq :ₛ true = true)) <;> (fail_if_success (guard_hyp hq :ₛ false = false)) <;> first | (exfalso; cases hq; done) | (exfalso; simp only [decide_eq_true_eq, decide_eq_false_iff_not, beq_iff_eq, beq_eq_false_iff_ne, ne_eq, Int.not_lt, Int.not_le] at hq; omega) | simp only [Act.put, List.setIfInBounds_toArray, List.set_cons_succ, List.set_cons_zero]))); all_goals (refine Mix.lex_nil ?_)) | (refine Mix.wp_still (by kernel_rfl) (by kernel_rfl) ?_; (repeat' (first | (refine Mix.lex_quiet0 rfl rfl rfl ?_; intro K hK; go_big_quiet_op; go_big_quiet_on) | (refine Mix.lex_quietG rfl rfl rfl (by with_reducible rfl) rfl rfl ?_; intro K hK; go_big_quiet_op; go_big_quiet_on) | ((first | refine Mix.lex_skipT rfl rfl rfl (by with_reducible rfl) ?_ | refine Mix.lex_skipF rfl rfl rfl (by with_reducible rfl) ?_ | refine Mix.lex_skipU rfl rfl rfl (by with_reducible rfl) ?_); simp only [Act.put, List.setIfInBounds_toArray, List.set_cons_succ, List.set_cons_zero]) | (refine Mix.lex_part rfl rfl rfl rfl (fun hq => ?_) (fun hq => ?_) <;> (fail_if_success (guard_hyp hq :ₛ true = true)) <;> (fail_if_success (guard_hyp hq :ₛ false = false)) <;> first | (exfalso; cases hq; done) | (exfalso; simp only [decide_eq_true_eq, decide_eq_false_iff_not, beq_iff_eq, beq_eq_false_iff_ne, ne_eq, Int.not_lt, Int.not_le] at hq; omega) | simp only [Act.put, List.setIfInBounds_toArray, List.set_cons_succ, List.set_cons_zero]))); all_goals (refine Mix.lex_nil ?_)))
        go_roundw
        case rel => exact ⟨j + 1, by omega, by go_num, all_snoc HT.out HX.out HP.out.symm, ⟨_, U.out⟩, rfl⟩
        case measure => simp [intOf]; omega
    · go_wp2_with (first | (refine Mix.wpList_guarded rfl ?_; (repeat' (first | (refine Mix.lex_quiet0 rfl rfl rfl ?_; intro K hK; go_big_quiet_op; go_big_quiet_on) | (refine Mix.lex_quietG rfl rfl rfl (by with_reducible rfl) rfl rfl ?_; intro K hK; go_big_quiet_op; go_big_quiet_on) | ((first | refine Mix.lex_skipT rfl rfl rfl (by with_reducible rfl) ?_ | refine Mix.lex_skipF rfl rfl rfl (by with_reducible rfl) ?_ | refine Mix.lex_skipU rfl rfl rfl (by with_reducible rfl) ?_); simp only [Act.put, List.setIfInBounds_toArray, List.set_cons_succ, List.set_cons_zero]) | (refine Mix.lex_part rfl rfl rfl rfl (fun hq => ?_) (fun hq => ?_) <;> (fail_if_success (guard_hyp hq :ₛ true = true)) <;> (fail_if_success (guard_hyp hq :ₛ false = false)) <;> first | (exfalso; cases hq; done) | (exfalso; simp only [decide_eq_true_eq, decide_eq_false_iff_not, beq_iff_eq, beq_eq_false_iff_ne, ne_eq, Int.not_lt, Int.not_le] at hq; omega) | simp only [Act.put, List.setIfInBounds_toArray, List.set_cons_succ, List.set_cons_zero]))); all_goals (refine Mix.lex_nil ?_)) | (refine Mix.wp_still (by kernel_rfl) (by kernel_rfl) ?_; (repeat' (first | (refine Mix.lex_quiet0 rfl rfl rfl ?_; intro K hK; go_big_quiet_op; go_big_quiet_on) | (refine Mix.lex_quietG rfl rfl rfl (by with_reducible rfl) rfl rfl ?_; intro K hK; go_big_quiet_op; go_big_quiet_on) | ((first | refine Mix.lex_skipT rfl rfl rfl (by with_reducible rfl) ?_ | refine Mix.lex_skipF rfl rfl rfl (by with_reducible rfl) ?_ | refine Mix.lex_skipU rfl rfl rfl (by with_reducible rfl) ?_); simp only [Act.put, List.setIfInBounds_toArray, List.set_cons_succ, List.set_cons_zero]) | (refine Mix.lex_part rfl rfl rfl rfl (fun hq => ?_) (fun hq => ?_) <;> (fail_if_success (guard_hyp hq :ₛ true = true)) <;> (fail_if_success (guard_hyp hq :ₛ false = false)) <;> first | (exfalso; cases hq; done) | (exfalso; simp only [decide_eq_true_eq, decide_eq_false_iff_not, beq_iff_eq, beq_eq_false_iff_ne, ne_eq, Int.not_lt, Int.not_le] at hq; omega) | simp only [Act.put, List.setIfInBounds_toArray, List.set_cons_succ, List.set_cons_zero]))); all_goals (refine Mix.lex_nil ?_)))
      go_ret
      exact ⟨by rw [idxI_none (fun y hy => HT.out y (by rw [List.take_of_length_le (by rw [h.1]; omega)]; exact hy))]; rfl, ξ.h⟩
/-- A row of files in a block, some of which stand as they stood. -/
structure Rowed (w : World) (g : Nat) (rest : List Value) (ys : List File) : Prop where
  cs : Cs w g 24 (ys.flatMap fileF.enc ++ rest).toArray
theorem Rowed.cell {w : World} {g : Nat} {rest : List Value} {ys : List File} (h : Rowed w g rest ys) {j : Nat} {x : File} (hx : ys[j]? = some x) : w.cell? ⟨g, j * 2, none⟩ = some (S x.1) ∧ w.cell? ⟨g, j * 2 + 1, none⟩ = some (S x.2) := by
  have hj := (List.getElem?_eq_some_iff.1 hx).1
  have hl : (ys.flatMap fileF.enc).length = ys.length * 2 := length_flatMap_enc fileF ys
  have hk : ∀ i u, i < 2 → (fileF.enc x)[i]? = some u → w.cell? ⟨g, j * 2 + i, none⟩ = some u := fun i u hi hu => by
    rw [h.cs.cell, List.getElem?_toArray, List.getElem?_append_left (by omega), getElem?_flatMap_enc fileF (by decide)]
    have hs : fileF.size = 2 := rfl
    have e1 : (j * 2 + i) / fileF.size = j := by rw [hs]; omega
    have e2 : (j * 2 + i) % fileF.size = i := by rw [hs]; omega
    rw [e1, e2, hx]
    exact hu
  exact ⟨hk 0 _ (by omega) rfl, hk 1 _ (by omega) rfl⟩
theorem Rowed.keep {w v : World} {g : Nat} {rest : List Value} {ys : List File} {F : Nat → Prop} (h : Rowed w g rest ys) (hx : Only F w v) (hF : ¬ F g) : Rowed v g rest ys := ⟨h.cs.keep hx hF⟩
theorem Rowed.set_ {w : World} {g : Nat} {rest : List Value} {ys : List File} (h : Rowed w g rest ys) (p : Nat) (f : File) (hp : p < ys.length) : Rowed ((w.setCell ⟨g, p * 2, none⟩ (S f.1)).setCell ⟨g, p * 2 + 1, none⟩ (S f.2)) g rest (ys.set p f) := by
  have hS := (h.cs.set_ (p * 2) (S f.1)).set_ (p * 2 + 1) (S f.2)
  have hl : (ys.flatMap fileF.enc).length = ys.length * 2 := length_flatMap_enc fileF ys
  rw [List.setIfInBounds_toArray, List.setIfInBounds_toArray, List.set_append_left _ _ (by omega), List.set_append_left _ _ (by rw [List.length_set]; omega), ← file_set ys p f hp] at hS
  exact ⟨hS⟩
theorem take_set_snoc {α : Type} {ys : List α} {i : Nat} {x : α} {l : List α} (h : ys.take i = l) (hi : i < ys.length) : (ys.set i x).take (i + 1) = l ++ [x] := by
  rw [List.take_add_one, List.take_set_of_le (Nat.le_refl _), h]
  simp [hi]
set_option maxRecDepth 100000 in
set_option maxHeartbeats 2000000 in
theorem DeleteFunc_c {w : World} {g n c : Nat} {xs : List File} {rest : List Value} (h : Rowed w g rest xs) (hl : xs.length = n) (hr : (xs.flatMap fileF.enc ++ rest).length = c * 2) (hc : n ≤ c) (hc2 : c ≤ maxLen) (hn : n ≤ 1000000) (k : Str) {b : Nat} (hb : b < w.heap.size) (hbg : b ≠ g) (hk : w.cell? ⟨b, 0, none⟩ = some (S k)) :
    Calls Try.prog 46 #[.slice (some ⟨g, 0, none⟩) n c, .func (.func 47) #[] #[.pointer (some ⟨b, 0, none⟩)]] w fun e w' =>
      ∃ rest', e = .returned (.slice (some ⟨g, 0, none⟩) (dropL fk k xs).length c) ∧ Rowed w' g rest' (dropL fk k xs) ∧ ((dropL fk k xs).flatMap fileF.enc ++ rest').length = c * 2 ∧ (dropL fk k xs).length ≤ c ∧ Only (fun b => b = g) w w' := by
  have HD : Hid (∀ (f : File) (v : World), Only (fun b => b = g) w v → Calls Try.prog 47 #[.agg #[S f.1, S f.2], .pointer (some ⟨b, 0, none⟩)] v fun e w' => e = .returned (.bool (f.1 == k)) ∧ Ext v w') := fun f v hx => Drop1_c f k (Nat.lt_of_lt_of_le hb hx.size) ((hx.cell hb hbg).trans hk)
  have hg0 := h.cs.lt
  have hI := IndexFunc_c (c := c) (k := k) (A := some ⟨g, 0, none⟩) (n := n) (xs := xs) (w := w) ⟨hl, fun hn => ⟨g, 0, rfl, hg0, fun p x hx j u hu => by
    have := h.cell hx
    rw [Nat.zero_add]
    match j, hu with
    | 0, hu => injection hu with hu; rw [← hu]; exact this.1
    | 1, hu => injection hu with hu; rw [← hu]; exact this.2⟩⟩ (by omega) hb hk
  unfold maxLen at hc2
  have HI := Lib.hid hI
  have HR := Lib.hid hr
  have HL := Lib.hid hl
  have HW := Lib.hid h
  clear hI hk hr hl h
  go_enter Try.func46, Try.ntmps46
  go_wp2_with (first | (refine Mix.wpList_guarded rfl ?_; (repeat' (first | (refine Mix.lex_quiet0 rfl rfl rfl ?_; intro K hK; go_big_quiet_op; go_big_quiet_on) | (refine Mix.lex_quietG rfl rfl rfl (by with_reducible rfl) rfl rfl ?_; intro K hK; go_big_quiet_op; go_big_quiet_on) | ((first | refine Mix.lex_skipT rfl rfl rfl (by with_reducible rfl) ?_ | refine Mix.lex_skipF rfl rfl rfl (by with_reducible rfl) ?_ | refine Mix.lex_skipU rfl rfl rfl (by with_reducible rfl) ?_); simp only [Act.put, List.setIfInBounds_toArray, List.set_cons_succ, List.set_cons_zero]) | (refine Mix.lex_part rfl rfl rfl rfl (fun hq => ?_) (fun hq => ?_) <;> (fail_if_success (guard_hyp hq :ₛ true = true)) <;> (fail_if_success (guard_hyp hq :ₛ false = false)) <;> first | (exfalso; cases hq; done) | (exfalso; simp only [decide_eq_true_eq, decide_eq_false_iff_not, beq_iff_eq, beq_eq_false_iff_ne, ne_eq, Int.not_lt, Int.not_le] at hq; omega) | simp only [Act.put, List.setIfInBounds_toArray, List.set_cons_succ, List.set_cons_zero]))); all_goals (refine Mix.lex_nil ?_)) | (refine Mix.wp_still (by kernel_rfl) (by kernel_rfl) ?_; (repeat' (first | (refine Mix.lex_quiet0 rfl rfl rfl ?_; intro K hK; go_big_quiet_op; go_big_quiet_on) | (refine Mix.lex_quietG rfl rfl rfl (by with_reducible rfl) rfl rfl ?_; intro K hK; go_big_quiet_op; go_big_quiet_on) | ((first | refine Mix.lex_skipT rfl rfl rfl (by with_reducible rfl) ?_ | refine Mix.lex_skipF rfl rfl rfl (by with_reducible rfl) ?_ | refine Mix.lex_skipU rfl rfl rfl (by with_reducible rfl) ?_); simp only [Act.put, List.setIfInBounds_toArray, List.set_cons_succ, List.set_cons_zero]) | (refine Mix.lex_part rfl rfl rfl rfl (fun hq => ?_) (fun hq => ?_) <;> (fail_if_success (guard_hyp hq :ₛ true = true)) <;> (fail_if_success (guard_hyp hq :ₛ false = false)) <;> first | (exfalso; cases hq; done) | (exfalso; simp only [decide_eq_true_eq, decide_eq_false_iff_not, beq_iff_eq, beq_eq_false_iff_ne, ne_eq, Int.not_lt, Int.not_le] at hq; omega) | simp only [Act.put, List.setIfInBounds_toArray, List.set_cons_succ, List.set_cons_zero]))); all_goals (refine Mix.lex_nil ?_)))
  refine HI.out.mono ?_
  rintro e u ⟨rfl, hu⟩
  rcases Classical.em (∀ y ∈ xs, (fk y == k) = false) with hall | hex
  · have e1 : idxI (fun f => f.1 == k) xs = -1 := idxI_none hall
    have e2 : dropL fk k xs = xs := by
      unfold dropL
      rw [List.filter_eq_self]
      intro y hy
      have := hall y hy
      simpa using this
    rw [e1]
    have E2 := Lib.hid e2
    have HX := Lib.hid hu
    clear e1 e2 hu hall HI
    go_wp2_with (first | (refine Mix.wpList_guarded rfl ?_; (repeat' (first | (refine Mix.lex_quiet0 rfl rfl rfl ?_; intro K hK; go_big_quiet_op; go_big_quiet_on) | (refine Mix.lex_quietG rfl rfl rfl (by with_reducible rfl) rfl rfl ?_; intro K hK; go_big_quiet_op; go_big_quiet_on) | ((first | refine Mix.lex_skipT rfl rfl rfl (by with_reducible rfl) ?_ | refine Mix.lex_skipF rfl rfl rfl (by with_reducible rfl) ?_ | refine Mix.lex_skipU rfl rfl rfl (by with_reducible rfl) ?_); simp only [Act.put, List.setIfInBounds_toArray, List.set_cons_succ, List.set_cons_zero]) | (refine Mix.lex_part rfl rfl rfl rfl (fun hq => ?_) (fun hq => ?_) <;> (fail_if_success (guard_hyp hq :ₛ true = true)) <;> (fail_if_success (guard_hyp hq :ₛ false = false)) <;> first | (exfalso; cases hq; done) | (exfalso; simp only [decide_eq_true_eq, decide_eq_false_iff_not, beq_iff_eq, beq_eq_false_iff_ne, ne_eq, Int.not_lt, Int.not_le] at hq; omega) | simp only [Act.put, List.setIfInBounds_toArray, List.set_cons_succ, List.set_cons_zero]))); all_goals (refine Mix.lex_nil ?_)) | (refine Mix.wp_still (by kernel_rfl) (by kernel_rfl) ?_; (repeat' (first | (refine Mix.lex_quiet0 rfl rfl rfl ?_; intro K hK; go_big_quiet_op; go_big_quiet_on) | (refine Mix.lex_quietG rfl rfl rfl (by with_reducible rfl) rfl rfl ?_; intro K hK; go_big_quiet_op; go_big_quiet_on) | ((first | refine Mix.lex_skipT rfl rfl rfl (by with_reducible rfl) ?_ | refine Mix.lex_skipF rfl rfl rfl (by with_reducible rfl) ?_ | refine Mix.lex_skipU rfl rfl rfl (by with_reducible rfl) ?_); simp only [Act.put, List.setIfInBounds_toArray, List.set_cons_succ, List.set_cons_zero]) | (refine Mix.lex_part rfl rfl rfl rfl (fun hq => ?_) (fun hq => ?_) <;> (fail_if_success (guard_hyp hq :ₛ true = true)) <;> (fail_if_success (guard_hyp hq :ₛ false = false)) <;> first | (exfalso; cases hq; done) | (exfalso; simp only [decide_eq_true_eq, decide_eq_false_iff_not, beq_iff_eq, beq_eq_false_iff_ne, ne_eq, Int.not_lt, Int.not_le] at hq; omega) | simp only [Act.put, List.setIfInBounds_toArray, List.set_cons_succ, List.set_cons_zero]))); all_goals (refine Mix.lex_nil ?_)))
    go_ret
    rw [E2.out]
    exact ⟨rest, by rw [HL.out]; rfl, HW.out.keep HX.out id, HR.out, by rw [HL.out]; exact hc, HX.out.any⟩
  · obtain ⟨a0, x0, e1, hx0, hp0, hall⟩ := idxI_some hex
    rw [show idxI (fun f => f.1 == k) xs = (a0 : Int) from e1]
    have hf0 : Hid (xs.take a0 = (xs.take (a0 + 1)).filter fun y => decide (fk y ≠ k)) := by
      rw [Hid, List.take_add_one, hx0, List.filter_append]
      have h1 : (xs.take a0).filter (fun y => decide (fk y ≠ k)) = xs.take a0 := by
        rw [List.filter_eq_self]
        intro y hy
        simpa using hall y hy
      have h2 : fk x0 = k := by simpa using hp0
      rw [h1]
      simp [h2]
    have ha0 : a0 < n := by rw [← HL.out]; exact (List.getElem?_eq_some_iff.1 hx0).1
    have HX := Lib.hid hu
    have hne : ((a0 : Int) == -1) = false := by rw [beq_eq_false_iff_ne]; omega
    clear e1 hex hx0 hp0 hall HI hu
    go_wp2_with (first | (refine Mix.wpList_guarded rfl ?_; (repeat' (first | (refine Mix.lex_quiet0 rfl rfl rfl ?_; intro K hK; go_big_quiet_op; go_big_quiet_on) | (refine Mix.lex_quietG rfl rfl rfl (by with_reducible rfl) rfl rfl ?_; intro K hK; go_big_quiet_op; go_big_quiet_on) | ((first | refine Mix.lex_skipT rfl rfl rfl (by with_reducible rfl) ?_ | refine Mix.lex_skipF rfl rfl rfl (by with_reducible rfl) ?_ | refine Mix.lex_skipU rfl rfl rfl (by with_reducible rfl) ?_); simp only [Act.put, List.setIfInBounds_toArray, List.set_cons_succ, List.set_cons_zero]) | (refine Mix.lex_part rfl rfl rfl rfl (fun hq => ?_) (fun hq => ?_) <;> (fail_if_success (guard_hyp hq :ₛ true = true)) <;> (fail_if_success (guard_hyp hq :ₛ false = false)) <;> first | (exfalso; cases hq; done) | (exfalso; simp only [decide_eq_true_eq, decide_eq_false_iff_not, beq_iff_eq, beq_eq_false_iff_ne, ne_eq, Int.not_lt, Int.not_le] at hq; omega) | simp only [Act.put, List.setIfInBounds_toArray, List.set_cons_succ, List.set_cons_zero]))); all_goals (refine Mix.lex_nil ?_)) | (refine Mix.wp_still (by kernel_rfl) (by kernel_rfl) ?_; (repeat' (first | (refine Mix.lex_quiet0 rfl rfl rfl ?_; intro K hK; go_big_quiet_op; go_big_quiet_on) | (refine Mix.lex_quietG rfl rfl rfl (by with_reducible rfl) rfl rfl ?_; intro K hK; go_big_quiet_op; go_big_quiet_on) | ((first | refine Mix.lex_skipT rfl rfl rfl (by with_reducible rfl) ?_ | refine Mix.lex_skipF rfl rfl rfl (by with_reducible rfl) ?_ | refine Mix.lex_skipU rfl rfl rfl (by with_reducible rfl) ?_); simp only [Act.put, List.setIfInBounds_toArray, List.set_cons_succ, List.set_cons_zero]) | (refine Mix.lex_part rfl rfl rfl rfl (fun hq => ?_) (fun hq => ?_) <;> (fail_if_success (guard_hyp hq :ₛ true = true)) <;> (fail_if_success (guard_hyp hq :ₛ false = false)) <;> first | (exfalso; cases hq; done) | (exfalso; simp only [decide_eq_true_eq, decide_eq_false_iff_not, beq_iff_eq, beq_eq_false_iff_ne, ne_eq, Int.not_lt, Int.not_le] at hq; omega) | simp only [Act.put, List.setIfInBounds_toArray, List.set_cons_succ, List.set_cons_zero]))); all_goals (refine Mix.lex_nil ?_)))
    go_loopw [5, 6, 7] (fun i j _ wr => ∃ a m : Nat, a < m ∧ m ≤ n ∧ i = .int .i64 a ∧ j = .int .i64 m ∧ ∃ ys, Rowed wr g rest ys ∧ ys.length = n ∧ ys.take a = (xs.take m).filter (fun y => decide (fk y ≠ k)) ∧ ys.drop m = xs.drop m ∧ ∃ ξ : X w (fun b => b = g), wr = ξ.v) (fun _ j _ _ => n - (intOf j).toNat)
    case atStart => exact ⟨a0, a0 + 1, by omega, by omega, rfl, by go_num, xs, HW.out.keep HX.out id, HL.out, hf0.out, rfl, ⟨u, HX.out.any⟩, rfl⟩
    case round =>
      clear HX hf0 ha0
      obtain ⟨a, m, ham, hmn, rfl, rfl, ys, hW, hyl, htake, hdrop, ξ, rfl⟩ := hrel
      have W1 := Lib.hid hW
      have YL := Lib.hid hyl
      have TK := Lib.hid htake
      have DR := Lib.hid hdrop
      clear hW hyl htake hdrop
      by_cases hlt : m < n
      · have hx : xs[m]? = some (xs[m]'(by rw [HL.out]; exact hlt)) := List.getElem?_eq_getElem _
        obtain ⟨x, hxe⟩ : ∃ x, x = xs[m]'(by rw [HL.out]; exact hlt) := ⟨_, rfl⟩
        rw [← hxe] at hx
        have hy : ys[m]? = some x := by
          have h1 : (ys.drop m)[0]? = (xs.drop m)[0]? := by rw [DR.out]
          rw [List.getElem?_drop, List.getElem?_drop, Nat.add_zero, hx] at h1
          exact h1
        obtain ⟨c0, c1⟩ := W1.out.cell hy
        have HX := Lib.hid hx
        have HY := Lib.hid hy
        have HC := Lib.hid (HD.out x)
        clear hx hy hxe
        go_upto_region 8 with fail
        obtain ⟨v0, hv0⟩ : ∃ v0, v0 = ξ.v.alloc (.cells #[S x.1, S x.2] 24) := ⟨_, rfl⟩
        rw [← hv0]
        have B0 : Hid (Cs v0 ξ.v.heap.size 24 #[S x.1, S x.2]) := by rw [Hid, hv0]; exact Cs.new _ _ _
        have X0 : Hid (Ext ξ.v v0) := by rw [Hid, hv0]; exact (Only.refl No _).alloc _
        clear hv0 c0 c1
        have b0 : v0.cell? ⟨ξ.v.heap.size, 0, none⟩ = some (S x.1) := B0.out.cell 0
        have b1 : v0.cell? ⟨ξ.v.heap.size, 1, none⟩ = some (S x.2) := B0.out.cell 1
        have hgs : Hid (g < ξ.v.heap.size) := W1.out.cs.lt
        obtain ⟨p, hp⟩ : ∃ p, p = (x.1 == k) := ⟨_, rfl⟩
        rw [← hp] at HC
        have HP := Lib.hid hp
        clear hp
        cases p with
        | true =>
          go_wp2_with (first | (refine Mix.wpList_guarded rfl ?_; (repeat' (first | (refine Mix.lex_quiet0 rfl rfl rfl ?_; intro K hK; go_big_quiet_op; go_big_quiet_on) | (refine Mix.lex_quietG rfl rfl rfl (by with_reducible rfl) rfl rfl ?_; intro K hK; go_big_quiet_op; go_big_quiet_on) | ((first | refine Mix.lex_skipT rfl rfl rfl (by with_reducible rfl) ?_ | refine Mix.lex_skipF rfl rfl rfl (by with_reducible rfl) ?_ | refine Mix.lex_skipU rfl rfl rfl (by with_reducible rfl) ?_); simp only [Act.put, List.setIfInBounds_toArray, List.set_cons_succ, List.set_cons_zero]) | (refine Mix.lex_part rfl rfl rfl rfl (fun hq => ?_) (fun hq => ?_) <;> (fail_if_success (guard_hyp hq :ₛ true = true)) <;> (fail_if_success (guard_hyp hq :ₛ false = false)) <;> first | (exfalso; cases hq; done) | (exfalso; simp only [decide_eq_true_eq, decide_eq_false_iff_not, beq_iff_eq, beq_eq_false_iff_ne, ne_eq, Int.not_lt, Int.not_le] at hq; omega) | simp only [Act.put, List.setIfInBounds_toArray, List.set_cons_succ, List.set_cons_zero]))); all_goals (refine Mix.lex_nil ?_)) | (refine Mix.wp_still (by kernel_rfl) (by kernel_rfl) ?_; (repeat' (first | (refine Mix.lex_quiet0 rfl rfl rfl ?_; intro K hK; go_big_quiet_op; go_big_quiet_on) | (refine Mix.lex_quietG rfl rfl rfl (by with_reducible rfl) rfl rfl ?_; intro K hK; go_big_quiet_op; go_big_quiet_on) | ((first | refine Mix.lex_skipT rfl rfl rfl (by with_reducible rfl) ?_ | refine Mix.lex_skipF rfl rfl rfl (by with_reducible rfl) ?_ | refine Mix.lex_skipU rfl rfl rfl (by with_reducible rfl) ?_); simp only [Act.put, List.setIfInBounds_toArray, List.set_cons_succ, List.set_cons_zero]) | (refine Mix.lex_part rfl rfl rfl rfl (fun hq => ?_) (fun hq => ?_) <;> (fail_if_success (guard_hyp hq :ₛ true = true)) <;> (fail_if_success (guard_hyp hq :ₛ false = false)) <;> first | (exfalso; cases hq; done) | (exfalso; simp only [decide_eq_true_eq, decide_eq_false_iff_not, beq_iff_eq, beq_eq_false_iff_ne, ne_eq, Int.not_lt, Int.not_le] at hq; omega) | simp only [Act.put, List.setIfInBounds_toArray, List.set_cons_succ, List.set_cons_zero]))); all_goals (refine Mix.lex_nil ?_)))
          refine (HC.out v0 (ξ.h.then_ext X0.out)).mono ?_
          rintro e u1 ⟨rfl, hu1⟩
          have X1 := Lib.hid (X0.out.then_ext hu1)
          clear hu1 b0 b1
          go_wp2_with (first | (refine Mix.wpList_guarded rfl ?_; (repeat' (first | (refine Mix.lex_quiet0 rfl rfl rfl ?_; intro K hK; go_big_quiet_op; go_big_quiet_on) | (refine Mix.lex_quietG rfl rfl rfl (by with_reducible rfl) rfl rfl ?_; intro K hK; go_big_quiet_op; go_big_quiet_on) | ((first | refine Mix.lex_skipT rfl rfl rfl (by with_reducible rfl) ?_ | refine Mix.lex_skipF rfl rfl rfl (by with_reducible rfl) ?_ | refine Mix.lex_skipU rfl rfl rfl (by with_reducible rfl) ?_); simp only [Act.put, List.setIfInBounds_toArray, List.set_cons_succ, List.set_cons_zero]) | (refine Mix.lex_part rfl rfl rfl rfl (fun hq => ?_) (fun hq => ?_) <;> (fail_if_success (guard_hyp hq :ₛ true = true)) <;> (fail_if_success (guard_hyp hq :ₛ false = false)) <;> first | (exfalso; cases hq; done) | (exfalso; simp only [decide_eq_true_eq, decide_eq_false_iff_not, beq_iff_eq, beq_eq_false_iff_ne, ne_eq, Int.not_lt, Int.not_le] at hq; omega) | simp only [Act.put, List.setIfInBounds_toArray, List.set_cons_succ, List.set_cons_zero]))); all_goals (refine Mix.lex_nil ?_)) | (refine Mix.wp_still (by kernel_rfl) (by kernel_rfl) ?_; (repeat' (first | (refine Mix.lex_quiet0 rfl rfl rfl ?_; intro K hK; go_big_quiet_op; go_big_quiet_on) | (refine Mix.lex_quietG rfl rfl rfl (by with_reducible rfl) rfl rfl ?_; intro K hK; go_big_quiet_op; go_big_quiet_on) | ((first | refine Mix.lex_skipT rfl rfl rfl (by with_reducible rfl) ?_ | refine Mix.lex_skipF rfl rfl rfl (by with_reducible rfl) ?_ | refine Mix.lex_skipU rfl rfl rfl (by with_reducible rfl) ?_); simp only [Act.put, List.setIfInBounds_toArray, List.set_cons_succ, List.set_cons_zero]) | (refine Mix.lex_part rfl rfl rfl rfl (fun hq => ?_) (fun hq => ?_) <;> (fail_if_success (guard_hyp hq :ₛ true = true)) <;> (fail_if_success (guard_hyp hq :ₛ false = false)) <;> first | (exfalso; cases hq; done) | (exfalso; simp only [decide_eq_true_eq, decide_eq_false_iff_not, beq_iff_eq, beq_eq_false_iff_ne, ne_eq, Int.not_lt, Int.not_le] at hq; omega) | simp only [Act.put, List.setIfInBounds_toArray, List.set_cons_succ, List.set_cons_zero]))); all_goals (refine Mix.lex_nil ?_)))
          go_roundw
          case rel =>
            refine ⟨a, m + 1, by omega, by omega, rfl, by go_num, ys, W1.out.keep X1.out id, YL.out, ?_, ?_, ⟨u1, ξ.h.then_ext X1.out⟩, rfl⟩
            · have hk2 : x.1 = k := by simpa using HP.out.symm
              rw [TK.out, List.take_add_one, HX.out, List.filter_append]
              simp [fk, hk2]
            · rw [← List.drop_drop, ← List.drop_drop, DR.out]
          case measure => simp [intOf]; omega
        | false =>
          go_wp2_with (first | (refine Mix.wpList_guarded rfl ?_; (repeat' (first | (refine Mix.lex_quiet0 rfl rfl rfl ?_; intro K hK; go_big_quiet_op; go_big_quiet_on) | (refine Mix.lex_quietG rfl rfl rfl (by with_reducible rfl) rfl rfl ?_; intro K hK; go_big_quiet_op; go_big_quiet_on) | ((first | refine Mix.lex_skipT rfl rfl rfl (by with_reducible rfl) ?_ | refine Mix.lex_skipF rfl rfl rfl (by with_reducible rfl) ?_ | refine Mix.lex_skipU rfl rfl rfl (by with_reducible rfl) ?_); simp only [Act.put, List.setIfInBounds_toArray, List.set_cons_succ, List.set_cons_zero]) | (refine Mix.lex_part rfl rfl rfl rfl (fun hq => ?_) (fun hq => ?_) <;> (fail_if_success (guard_hyp hq :ₛ true = true)) <;> (fail_if_success (guard_hyp hq :ₛ false = false)) <;> first | (exfalso; cases hq; done) | (exfalso; simp only [decide_eq_true_eq, decide_eq_false_iff_not, beq_iff_eq, beq_eq_false_iff_ne, ne_eq, Int.not_lt, Int.not_le] at hq; omega) | simp only [Act.put, List.setIfInBounds_toArray, List.set_cons_succ, List.set_cons_zero]))); all_goals (refine Mix.lex_nil ?_)) | (refine Mix.wp_still (by kernel_rfl) (by kernel_rfl) ?_; (repeat' (first | (refine Mix.lex_quiet0 rfl rfl rfl ?_; intro K hK; go_big_quiet_op; go_big_quiet_on) | (refine Mix.lex_quietG rfl rfl rfl (by with_reducible rfl) rfl rfl ?_; intro K hK; go_big_quiet_op; go_big_quiet_on) | ((first | refine Mix.lex_skipT rfl rfl rfl (by with_reducible rfl) ?_ | refine Mix.lex_skipF rfl rfl rfl (by with_reducible rfl) ?_ | refine Mix.lex_skipU rfl rfl rfl (by with_reducible rfl) ?_); simp only [Act.put, List.setIfInBounds_toArray, List.set_cons_succ, List.set_cons_zero]) | (refine Mix.lex_part rfl rfl rfl rfl (fun hq => ?_) (fun hq => ?_) <;> (fail_if_success (guard_hyp hq :ₛ true = true)) <;> (fail_if_success (guard_hyp hq :ₛ false = false)) <;> first | (exfalso; cases hq; done) | (exfalso; simp only [decide_eq_true_eq, decide_eq_false_iff_not, beq_iff_eq, beq_eq_false_iff_ne, ne_eq, Int.not_lt, Int.not_le] at hq; omega) | simp only [Act.put, List.setIfInBounds_toArray, List.set_cons_succ, List.set_cons_zero]))); all_goals (refine Mix.lex_nil ?_)))
          refine (HC.out v0 (ξ.h.then_ext X0.out)).mono ?_
          rintro e u1 ⟨rfl, hu1⟩
          have X1 := Lib.hid (X0.out.then_ext hu1)
          have B1 : Hid (Cs u1 ξ.v.heap.size 24 #[S x.1, S x.2]) := B0.out.keep hu1 id
          have W2 : Hid (Rowed u1 g rest ys) := W1.out.keep X1.out id
          have b0' : u1.cell? ⟨ξ.v.heap.size, 0, none⟩ = some (S x.1) := B1.out.cell 0
          have b1' : u1.cell? ⟨ξ.v.heap.size, 1, none⟩ = some (S x.2) := B1.out.cell 1
          have hya : ys[a]? = some (ys[a]'(by rw [YL.out]; omega)) := List.getElem?_eq_getElem _
          obtain ⟨d0, d1⟩ := W2.out.cell hya
          have f0 := W2.out.cs.frozen (a * 2)
          have f1 := W2.out.cs.frozen (a * 2 + 1)
          clear hu1 b0 b1 hya
          go_wp2_with (first | (refine Mix.wpList_guarded rfl ?_; (repeat' (first | (refine Mix.lex_quiet0 rfl rfl rfl ?_; intro K hK; go_big_quiet_op; go_big_quiet_on) | (refine Mix.lex_quietG rfl rfl rfl (by with_reducible rfl) rfl rfl ?_; intro K hK; go_big_quiet_op; go_big_quiet_on) | ((first | refine Mix.lex_skipT rfl rfl rfl (by with_reducible rfl) ?_ | refine Mix.lex_skipF rfl rfl rfl (by with_reducible rfl) ?_ | refine Mix.lex_skipU rfl rfl rfl (by with_reducible rfl) ?_); simp only [Act.put, List.setIfInBounds_toArray, List.set_cons_succ, List.set_cons_zero]) | (refine Mix.lex_part rfl rfl rfl rfl (fun hq => ?_) (fun hq => ?_) <;> (fail_if_success (guard_hyp hq :ₛ true = true)) <;> (fail_if_success (guard_hyp hq :ₛ false = false)) <;> first | (exfalso; cases hq; done) | (exfalso; simp only [decide_eq_true_eq, decide_eq_false_iff_not, beq_iff_eq, beq_eq_false_iff_ne, ne_eq, Int.not_lt, Int.not_le] at hq; omega) | simp only [Act.put, List.setIfInBounds_toArray, List.set_cons_succ, List.set_cons_zero]))); all_goals (refine Mix.lex_nil ?_)) | (refine Mix.wp_still (by kernel_rfl) (by kernel_rfl) ?_; (repeat' (first | (refine Mix.lex_quiet0 rfl rfl rfl ?_; intro K hK; go_big_quiet_op; go_big_quiet_on) | (refine Mix.lex_quietG rfl rfl rfl (by with_reducible rfl) rfl rfl ?_; intro K hK; go_big_quiet_op; go_big_quiet_on) | ((first | refine Mix.lex_skipT rfl rfl rfl (by with_reducible rfl) ?_ | refine Mix.lex_skipF rfl rfl rfl (by with_reducible rfl) ?_ | refine Mix.lex_skipU rfl rfl rfl (by with_reducible rfl) ?_); simp only [Act.put, List.setIfInBounds_toArray, List.set_cons_succ, List.set_cons_zero]) | (refine Mix.lex_part rfl rfl rfl rfl (fun hq => ?_) (fun hq => ?_) <;> (fail_if_success (guard_hyp hq :ₛ true = true)) <;> (fail_if_success (guard_hyp hq :ₛ false = false)) <;> first | (exfalso; cases hq; done) | (exfalso; simp only [decide_eq_true_eq, decide_eq_false_iff_not, beq_iff_eq, beq_eq_false_iff_ne, ne_eq, Int.not_lt, Int.not_le] at hq; omega) | simp only [Act.put, List.setIfInBounds_toArray, List.set_cons_succ, List.set_cons_zero]))); all_goals (refine Mix.lex_nil ?_)))
          go_roundw
          case rel =>
            have hO : Only (fun b => b = g) u1 ((u1.setCell ⟨g, a * 2, none⟩ (S x.1)).setCell ⟨g, a * 2 + 1, none⟩ (S x.2)) := ((Only.refl _ _).at_ _ _).at_ _ _
            refine ⟨a + 1, m + 1, by omega, by omega, by go_num, by go_num, ys.set a x, W2.out.set_ a x (by rw [YL.out]; omega), by simp [YL.out], ?_, ?_, ⟨_, (ξ.h.then_ext X1.out).trans hO fun _ _ h => h⟩, rfl⟩
            · have hk2 : ¬ x.1 = k := by simpa using HP.out.symm
              rw [take_set_snoc TK.out (by rw [YL.out]; omega), List.take_add_one, HX.out, List.filter_append]
              simp [fk, hk2]
            · rw [List.drop_set_of_lt (by omega), ← List.drop_drop, ← List.drop_drop, DR.out]
          case measure => simp [intOf]; omega
      · obtain rfl : m = n := by omega
        go_upto_region 11 with fail
        refine Mix.wp_plain [3] (Cl ξ.v (fun b => b = g)) (Cl.of (Only.refl _ _)) ?_
        (repeat' (first | (refine Mix.lex_quiet0 rfl rfl rfl ?_; intro K hK; go_big_quiet_op; go_big_quiet_on) | (refine Mix.lex_quietG rfl rfl rfl (by with_reducible rfl) rfl rfl ?_; intro K hK; go_big_quiet_op; go_big_quiet_on) | ((first | refine Mix.lex_skipT rfl rfl rfl (by with_reducible rfl) ?_ | refine Mix.lex_skipF rfl rfl rfl (by with_reducible rfl) ?_ | refine Mix.lex_skipU rfl rfl rfl (by with_reducible rfl) ?_); simp only [Act.put, List.setIfInBounds_toArray, List.set_cons_succ, List.set_cons_zero]) | (refine Mix.lex_part rfl rfl rfl rfl (fun hq => ?_) (fun hq => ?_) <;> (fail_if_success (guard_hyp hq :ₛ true = true)) <;> (fail_if_success (guard_hyp hq :ₛ false = false)) <;> first | (exfalso; cases hq; done) | (exfalso; simp only [decide_eq_true_eq, decide_eq_false_iff_not, beq_iff_eq, beq_eq_false_iff_ne, ne_eq, Int.not_lt, Int.not_le] at hq; omega) | simp only [Act.put, List.setIfInBounds_toArray, List.set_cons_succ, List.set_cons_zero])))
        refine Mix.lex_goes0 rfl rfl ?_
        intro K hK
        refine goes_clear_k (z := .agg #[S [], S []]) Try.underlying22 (fun w => by kernel_rfl) rfl rfl W1.out.cs ?_ ?_ ?_
        · have hl := length_flatMap_enc fileF ys
          have hR := HR.out
          have hl2 := length_flatMap_enc fileF xs
          have h1 := YL.out; have h2 := HL.out
          simp only [Value.cells, List.length_append, h1, h2, show fileF.size = 2 from rfl] at hl hl2 hR ⊢
          show a * 2 + (m - a) * 2 ≤ _
          omega
        · intro v hv
          simp [Value.cells] at hv
          subst hv; rfl
        intro v hv hx
        have TK' : Hid (ys.take a = dropL fk k xs) := by
          have := TK.out
          rw [List.take_of_length_le (l := xs) (by rw [HL.out]; exact Nat.le_refl _)] at this
          exact this
        have hla : Hid ((dropL fk k xs).length = a) := by
          rw [Hid, ← TK'.out, List.length_take, YL.out]; omega
        have E1 : Hid ((ys.flatMap fileF.enc ++ rest).take (a * 2) = (dropL fk k xs).flatMap fileF.enc) := by
          have h1 := take_flatMap fileF ys a
          have hl := length_flatMap_enc fileF ys
          have h2 := YL.out
          rw [show fileF.size = 2 from rfl] at h1 hl
          rw [Hid, List.take_append_of_le_length (by omega), ← h1, TK'.out]
        have V := Lib.hid hv
        have O1 := Lib.hid (ξ.h.trans hx fun _ _ h => h)
        refine hK _ _ (fun _ => Cl.of hx) ?_
        clear hK K hv hx TK DR
        simp only [Act.put, List.setIfInBounds_toArray, List.set_cons_succ, List.set_cons_zero]
        (repeat' (first | (refine Mix.lex_quiet0 rfl rfl rfl ?_; intro K hK; go_big_quiet_op; go_big_quiet_on) | (refine Mix.lex_quietG rfl rfl rfl (by with_reducible rfl) rfl rfl ?_; intro K hK; go_big_quiet_op; go_big_quiet_on) | ((first | refine Mix.lex_skipT rfl rfl rfl (by with_reducible rfl) ?_ | refine Mix.lex_skipF rfl rfl rfl (by with_reducible rfl) ?_ | refine Mix.lex_skipU rfl rfl rfl (by with_reducible rfl) ?_); simp only [Act.put, List.setIfInBounds_toArray, List.set_cons_succ, List.set_cons_zero]) | (refine Mix.lex_part rfl rfl rfl rfl (fun hq => ?_) (fun hq => ?_) <;> (fail_if_success (guard_hyp hq :ₛ true = true)) <;> (fail_if_success (guard_hyp hq :ₛ false = false)) <;> first | (exfalso; cases hq; done) | (exfalso; simp only [decide_eq_true_eq, decide_eq_false_iff_not, beq_iff_eq, beq_eq_false_iff_ne, ne_eq, Int.not_lt, Int.not_le] at hq; omega) | simp only [Act.put, List.setIfInBounds_toArray, List.set_cons_succ, List.set_cons_zero])))
        refine Mix.lex_nil ?_
        go_wp2
        go_ret
        have hV := V.out
        rw [E1.out, List.append_assoc] at hV
        refine ⟨_, by rw [hla.out]; rfl, ⟨hV⟩, ?_, by rw [hla.out]; omega, O1.out⟩
        have hl := length_flatMap_enc fileF (dropL fk k xs)
        have hl3 := length_flatMap_enc fileF ys
        have hR := HR.out
        have hl2 := length_flatMap_enc fileF xs
        have h1 := YL.out; have h2 := HL.out; have h3 := hla.out
        simp only [List.length_append, List.length_drop, length_zeroCells, h1, h2, h3, show fileF.size = 2 from rfl] at hl hl2 hl3 hR ⊢
        rw [hl, hl3, show (Value.agg #[S [], S []]).cells.size = 2 from rfl]
        omega
end Go.Proofs.Ytgdabmfdfgdlkaa
