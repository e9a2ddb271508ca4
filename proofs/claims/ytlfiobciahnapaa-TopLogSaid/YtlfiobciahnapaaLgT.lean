/- TopLog: entries, a fall, a restart: what was added is read. -/
import Derived.Test.YtlfiobciahnapaaLgR
import Derived.Test.YtlfiobciahnapaaLgK
import Derived.Test.YtlfiobciahnapaaLgA
namespace Go.Proofs.Ytlfiobciahnapaa
open Go Go.RowKit
theorem numberT_c (n : Int) (w : World) : Calls Try.prog 21 #[errV n] w fun e w' => e = .returned (.int .i64 n) ∧ Ext w w' := by
  by_cases h : n = 0
  · subst h
    rw [errV_zero]
    go_enter Try.func21, Try.ntmps21
    go_wp2_with (first | (refine Mix.wpList_guarded rfl ?_; (repeat' (first | (refine Mix.lex_quiet0 rfl rfl rfl ?_; intro K hK; go_big_quiet_op; go_big_quiet_on) | (refine Mix.lex_quietG rfl rfl rfl (by with_reducible rfl) rfl rfl ?_; intro K hK; go_big_quiet_op; go_big_quiet_on) | ((first | refine Mix.lex_skipT rfl rfl rfl (by with_reducible rfl) ?_ | refine Mix.lex_skipF rfl rfl rfl (by with_reducible rfl) ?_ | refine Mix.lex_skipU rfl rfl rfl (by with_reducible rfl) ?_); simp only [Act.put, List.setIfInBounds_toArray, List.set_cons_succ, List.set_cons_zero]) | (refine Mix.lex_part rfl rfl rfl rfl (fun hq => ?_) (fun hq => ?_) <;> (fail_if_success (guard_hyp hq :ₛ true = true)) <;> (fail_if_success (guard_hyp hq :ₛ false = false)) <;> first | (exfalso; cases hq; done) | (exfalso; simp only [decide_eq_true_eq, decide_eq_false_iff_not, beq_iff_eq, beq_eq_false_iff_ne, ne_eq, Int.not_lt, Int.not_le] at hq; omega) | simp only [Act.put, List.setIfInBounds_toArray, List.set_cons_succ, List.set_cons_zero]))); all_goals (refine Mix.lex_nil ?_)) | (refine Mix.wp_still (by kernel_rfl) (by kernel_rfl) ?_; (repeat' (first | (refine Mix.lex_quiet0 rfl rfl rfl ?_; intro K hK; go_big_quiet_op; go_big_quiet_on) | (refine Mix.lex_quietG rfl rfl rfl (by with_reducible rfl) rfl rfl ?_; intro K hK; go_big_quiet_op; go_big_quiet_on) | ((first | refine Mix.lex_skipT rfl rfl rfl (by with_reducible rfl) ?_ | refine Mix.lex_skipF rfl rfl rfl (by with_reducible rfl) ?_ | refine Mix.lex_skipU rfl rfl rfl (by with_reducible rfl) ?_); simp only [Act.put, List.setIfInBounds_toArray, List.set_cons_succ, List.set_cons_zero]) | (refine Mix.lex_part rfl rfl rfl rfl (fun hq => ?_) (fun hq => ?_) <;> (fail_if_success (guard_hyp hq :ₛ true = true)) <;> (fail_if_success (guard_hyp hq :ₛ false = false)) <;> first | (exfalso; cases hq; done) | (exfalso; simp only [decide_eq_true_eq, decide_eq_false_iff_not, beq_iff_eq, beq_eq_false_iff_ne, ne_eq, Int.not_lt, Int.not_le] at hq; omega) | simp only [Act.put, List.setIfInBounds_toArray, List.set_cons_succ, List.set_cons_zero]))); all_goals (refine Mix.lex_nil ?_)))
    go_ret
    exact ⟨rfl, Only.refl _ _⟩
  · rw [errV_pos h]
    have hE := as_E n
    go_enter Try.func21, Try.ntmps21
    go_wp2_with (first | (refine Mix.wpList_guarded rfl ?_; (repeat' (first | (refine Mix.lex_quiet0 rfl rfl rfl ?_; intro K hK; go_big_quiet_op; go_big_quiet_on) | (refine Mix.lex_quietG rfl rfl rfl (by with_reducible rfl) rfl rfl ?_; intro K hK; go_big_quiet_op; go_big_quiet_on) | ((first | refine Mix.lex_skipT rfl rfl rfl (by with_reducible rfl) ?_ | refine Mix.lex_skipF rfl rfl rfl (by with_reducible rfl) ?_ | refine Mix.lex_skipU rfl rfl rfl (by with_reducible rfl) ?_); simp only [Act.put, List.setIfInBounds_toArray, List.set_cons_succ, List.set_cons_zero]) | (refine Mix.lex_part rfl rfl rfl rfl (fun hq => ?_) (fun hq => ?_) <;> (fail_if_success (guard_hyp hq :ₛ true = true)) <;> (fail_if_success (guard_hyp hq :ₛ false = false)) <;> first | (exfalso; cases hq; done) | (exfalso; simp only [decide_eq_true_eq, decide_eq_false_iff_not, beq_iff_eq, beq_eq_false_iff_ne, ne_eq, Int.not_lt, Int.not_le] at hq; omega) | simp only [Act.put, List.setIfInBounds_toArray, List.set_cons_succ, List.set_cons_zero]))); all_goals (refine Mix.lex_nil ?_)) | (refine Mix.wp_still (by kernel_rfl) (by kernel_rfl) ?_; (repeat' (first | (refine Mix.lex_quiet0 rfl rfl rfl ?_; intro K hK; go_big_quiet_op; go_big_quiet_on) | (refine Mix.lex_quietG rfl rfl rfl (by with_reducible rfl) rfl rfl ?_; intro K hK; go_big_quiet_op; go_big_quiet_on) | ((first | refine Mix.lex_skipT rfl rfl rfl (by with_reducible rfl) ?_ | refine Mix.lex_skipF rfl rfl rfl (by with_reducible rfl) ?_ | refine Mix.lex_skipU rfl rfl rfl (by with_reducible rfl) ?_); simp only [Act.put, List.setIfInBounds_toArray, List.set_cons_succ, List.set_cons_zero]) | (refine Mix.lex_part rfl rfl rfl rfl (fun hq => ?_) (fun hq => ?_) <;> (fail_if_success (guard_hyp hq :ₛ true = true)) <;> (fail_if_success (guard_hyp hq :ₛ false = false)) <;> first | (exfalso; cases hq; done) | (exfalso; simp only [decide_eq_true_eq, decide_eq_false_iff_not, beq_iff_eq, beq_eq_false_iff_ne, ne_eq, Int.not_lt, Int.not_le] at hq; omega) | simp only [Act.put, List.setIfInBounds_toArray, List.set_cons_succ, List.set_cons_zero]))); all_goals (refine Mix.lex_nil ?_)))
    go_ret
    exact ⟨rfl, Only.refl _ _⟩
theorem addF_wait (l : LogR) (c : List Ch) (d : Dk) : (addF l c d).1.2.wait.length ≤ d.wait.length + c.length + 3 := by
  have h1 := layF_wait l c d
  have h2 := fl_wait' (layF l c d).1
  have h3 : (closeF l c.length (layF l c d).1.fl).1.wait.length ≤ (layF l c d).1.fl.wait.length + 1 := wr_wait' _ _ _
  have h4 := fl_wait' (closeF l c.length (layF l c d).1.fl).1
  unfold addF
  repeat' split
  all_goals dsimp only
  all_goals omega
/-- Where TopLog stands between two entries: nothing has fallen. -/
structure TS (w0 wr : World) (rg : Nat) (r : DkR) (l : LogR) (d : Dk) (wA : Option Addr) (ysW : List DeedV) : Prop where
  lw : LgW w0 wr r l d
  hrg : r.g = rg
  lf : l.from_ = 1
  lm : l.many = 59
  l1 : l.first = 5
  dn : d.now.length = 60
  nx : l.next ≤ 59
  rs : Rests l d (ysW.map (·.2))
  rW : Rob w0 wr fun u => DedR u wA ysW.length ysW
  x : Ext w0 wr
  ml : Ml wr
section
variable {w0 wr u : World} {rg : Nat} {r : DkR} {l : LogR} {d : Dk} {wA : Option Addr} {ysW : List DeedV}
theorem TS.ext (h : TS w0 wr rg r l d wA ysW) (hx : Ext wr u) : TS w0 u rg r l d wA ysW :=
  ⟨h.lw.ext hx, h.hrg, h.lf, h.lm, h.l1, h.dn, h.nx, h.rs, h.rW.ext hx, h.x.then_ext hx, h.ml.ext hx⟩
end
theorem TS.small' {w0 wr : World} {rg : Nat} {r : DkR} {l : LogR} {d : Dk} {wA : Option Addr} {ysW : List DeedV} (h : TS w0 wr rg r l d wA ysW) : (∀ y ∈ ysW, y.2.length ≤ 1000) ∧ ysW.length ≤ 60 := by
  have hs := h.rs.sc
  have hl : (reg l d.now).length ≤ 59 := by rw [reg_len h.rs.fit, h.lm]; exact Nat.le_refl _
  have h1 := scan_bound l.first (reg l d.now) 0 [] [] 0 1000 (fun x hx => by cases hx) (by simp only [List.length_nil]; omega)
  rw [hs] at h1
  exact ⟨fun y hy => h1.1 _ (List.mem_map_of_mem hy), by have := h1.2; simp only [List.length_map, List.length_nil] at this; omega⟩
theorem TopLog_small {w : World} (hm : Ml w) {A : Option Addr} {n cap : Nat} {ys : List DeedV} (hs : DedR w A n ys) (hn : n ≤ maxLen) (fuse : Int) (hf : -9223372036854775808 ≤ fuse ∧ fuse ≤ 9223372036854775807) (K : Nat) (hK : K < 18446744073709551616)
    (hL : lightDs 8 (ys.map (·.2)) = false) :
    Calls Try.prog 4 #[.slice A n cap, .int .i64 fuse, .int .u64 K] w fun e w' => e = .returned (.bool true) ∧ Ext w w' := by
  have HM := Lib.hid hm
  have HS := Lib.hid hs
  have HN := Lib.hid (New_ok 60 (by omega) (by omega) w)
  clear hm hs
  go_enter Try.func4, Try.ntmps4
  go_wp2_with (first | (refine Mix.wpList_guarded rfl ?_; (repeat' (first | (refine Mix.lex_quiet0 rfl rfl rfl ?_; intro K hK; go_big_quiet_op; go_big_quiet_on) | (refine Mix.lex_quietG rfl rfl rfl (by with_reducible rfl) rfl rfl ?_; intro K hK; go_big_quiet_op; go_big_quiet_on) | ((first | refine Mix.lex_skipT rfl rfl rfl (by with_reducible rfl) ?_ | refine Mix.lex_skipF rfl rfl rfl (by with_reducible rfl) ?_ | refine Mix.lex_skipU rfl rfl rfl (by with_reducible rfl) ?_); simp only [Act.put, List.setIfInBounds_toArray, List.set_cons_succ, List.set_cons_zero]) | (refine Mix.lex_part rfl rfl rfl rfl (fun hq => ?_) (fun hq => ?_) <;> (fail_if_success (guard_hyp hq :ₛ true = true)) <;> (fail_if_success (guard_hyp hq :ₛ false = false)) <;> first | (exfalso; cases hq; done) | (exfalso; simp only [decide_eq_true_eq, decide_eq_false_iff_not, beq_iff_eq, beq_eq_false_iff_ne, ne_eq, Int.not_lt, Int.not_le] at hq; omega) | simp only [Act.put, List.setIfInBounds_toArray, List.set_cons_succ, List.set_cons_zero]))); all_goals (refine Mix.lex_nil ?_)) | (refine Mix.wp_still (by kernel_rfl) (by kernel_rfl) ?_; (repeat' (first | (refine Mix.lex_quiet0 rfl rfl rfl ?_; intro K hK; go_big_quiet_op; go_big_quiet_on) | (refine Mix.lex_quietG rfl rfl rfl (by with_reducible rfl) rfl rfl ?_; intro K hK; go_big_quiet_op; go_big_quiet_on) | ((first | refine Mix.lex_skipT rfl rfl rfl (by with_reducible rfl) ?_ | refine Mix.lex_skipF rfl rfl rfl (by with_reducible rfl) ?_ | refine Mix.lex_skipU rfl rfl rfl (by with_reducible rfl) ?_); simp only [Act.put, List.setIfInBounds_toArray, List.set_cons_succ, List.set_cons_zero]) | (refine Mix.lex_part rfl rfl rfl rfl (fun hq => ?_) (fun hq => ?_) <;> (fail_if_success (guard_hyp hq :ₛ true = true)) <;> (fail_if_success (guard_hyp hq :ₛ false = false)) <;> first | (exfalso; cases hq; done) | (exfalso; simp only [decide_eq_true_eq, decide_eq_false_iff_not, beq_iff_eq, beq_eq_false_iff_ne, ne_eq, Int.not_lt, Int.not_le] at hq; omega) | simp only [Act.put, List.setIfInBounds_toArray, List.set_cons_succ, List.set_cons_zero]))); all_goals (refine Mix.lex_nil ?_)))
  refine HN.out.mono ?_
  rintro e u1 ⟨r, rfl, hd, hu, hfp⟩
  have D1 := Lib.hid hd
  have U1 := Lib.hid hu
  have FP := Lib.hid hfp
  have HO := Lib.hid (Open_ok (HM.out.ext hu) hd rfl (fresh_up 60).wide 1 59 5 (by omega) (by rw [fresh_len]; omega) (by omega) (by omega))
  clear hd hu hfp HN
  go_wp2_with (first | (refine Mix.wpList_guarded rfl ?_; (repeat' (first | (refine Mix.lex_quiet0 rfl rfl rfl ?_; intro K hK; go_big_quiet_op; go_big_quiet_on) | (refine Mix.lex_quietG rfl rfl rfl (by with_reducible rfl) rfl rfl ?_; intro K hK; go_big_quiet_op; go_big_quiet_on) | ((first | refine Mix.lex_skipT rfl rfl rfl (by with_reducible rfl) ?_ | refine Mix.lex_skipF rfl rfl rfl (by with_reducible rfl) ?_ | refine Mix.lex_skipU rfl rfl rfl (by with_reducible rfl) ?_); simp only [Act.put, List.setIfInBounds_toArray, List.set_cons_succ, List.set_cons_zero]) | (refine Mix.lex_part rfl rfl rfl rfl (fun hq => ?_) (fun hq => ?_) <;> (fail_if_success (guard_hyp hq :ₛ true = true)) <;> (fail_if_success (guard_hyp hq :ₛ false = false)) <;> first | (exfalso; cases hq; done) | (exfalso; simp only [decide_eq_true_eq, decide_eq_false_iff_not, beq_iff_eq, beq_eq_false_iff_ne, ne_eq, Int.not_lt, Int.not_le] at hq; omega) | simp only [Act.put, List.setIfInBounds_toArray, List.set_cons_succ, List.set_cons_zero]))); all_goals (refine Mix.lex_nil ?_)) | (refine Mix.wp_still (by kernel_rfl) (by kernel_rfl) ?_; (repeat' (first | (refine Mix.lex_quiet0 rfl rfl rfl ?_; intro K hK; go_big_quiet_op; go_big_quiet_on) | (refine Mix.lex_quietG rfl rfl rfl (by with_reducible rfl) rfl rfl ?_; intro K hK; go_big_quiet_op; go_big_quiet_on) | ((first | refine Mix.lex_skipT rfl rfl rfl (by with_reducible rfl) ?_ | refine Mix.lex_skipF rfl rfl rfl (by with_reducible rfl) ?_ | refine Mix.lex_skipU rfl rfl rfl (by with_reducible rfl) ?_); simp only [Act.put, List.setIfInBounds_toArray, List.set_cons_succ, List.set_cons_zero]) | (refine Mix.lex_part rfl rfl rfl rfl (fun hq => ?_) (fun hq => ?_) <;> (fail_if_success (guard_hyp hq :ₛ true = true)) <;> (fail_if_success (guard_hyp hq :ₛ false = false)) <;> first | (exfalso; cases hq; done) | (exfalso; simp only [decide_eq_true_eq, decide_eq_false_iff_not, beq_iff_eq, beq_eq_false_iff_ne, ne_eq, Int.not_lt, Int.not_le] at hq; omega) | simp only [Act.put, List.setIfInBounds_toArray, List.set_cons_succ, List.set_cons_zero]))); all_goals (refine Mix.lex_nil ?_)))
  refine HO.out.mono ?_
  rintro e u2 ⟨g, oA, oc, ys0, rfl, hg, hL0, hD, hys, hx⟩
  have hsc : scanF 5 (((Dk.fresh 60).now.drop 1).take 59) 0 [] [] 0 = ([], 0) := scan_fresh ⟨0, 1, 59, 5, 0⟩ 60 5
  rw [hsc] at hL0 hys
  have hy0 : ys0 = [] := by
    cases ys0 with
    | nil => rfl
    | cons a l => cases hys
  subst hy0
  have U2 : Hid (Ext w u2) := U1.out.then_ext hx
  have L2 := Lib.hid hL0
  clear hg hL0 hD hys hx hsc HO D1 FP
  have HR := Lib.hid (Room_c L2.out (show 59 ≤ 1000 by decide) (show 0 ≤ 59 by decide))
  go_wp2_with (first | (refine Mix.wpList_guarded rfl ?_; (repeat' (first | (refine Mix.lex_quiet0 rfl rfl rfl ?_; intro K hK; go_big_quiet_op; go_big_quiet_on) | (refine Mix.lex_quietG rfl rfl rfl (by with_reducible rfl) rfl rfl ?_; intro K hK; go_big_quiet_op; go_big_quiet_on) | ((first | refine Mix.lex_skipT rfl rfl rfl (by with_reducible rfl) ?_ | refine Mix.lex_skipF rfl rfl rfl (by with_reducible rfl) ?_ | refine Mix.lex_skipU rfl rfl rfl (by with_reducible rfl) ?_); simp only [Act.put, List.setIfInBounds_toArray, List.set_cons_succ, List.set_cons_zero]) | (refine Mix.lex_part rfl rfl rfl rfl (fun hq => ?_) (fun hq => ?_) <;> (fail_if_success (guard_hyp hq :ₛ true = true)) <;> (fail_if_success (guard_hyp hq :ₛ false = false)) <;> first | (exfalso; cases hq; done) | (exfalso; simp only [decide_eq_true_eq, decide_eq_false_iff_not, beq_iff_eq, beq_eq_false_iff_ne, ne_eq, Int.not_lt, Int.not_le] at hq; omega) | simp only [Act.put, List.setIfInBounds_toArray, List.set_cons_succ, List.set_cons_zero]))); all_goals (refine Mix.lex_nil ?_)) | (refine Mix.wp_still (by kernel_rfl) (by kernel_rfl) ?_; (repeat' (first | (refine Mix.lex_quiet0 rfl rfl rfl ?_; intro K hK; go_big_quiet_op; go_big_quiet_on) | (refine Mix.lex_quietG rfl rfl rfl (by with_reducible rfl) rfl rfl ?_; intro K hK; go_big_quiet_op; go_big_quiet_on) | ((first | refine Mix.lex_skipT rfl rfl rfl (by with_reducible rfl) ?_ | refine Mix.lex_skipF rfl rfl rfl (by with_reducible rfl) ?_ | refine Mix.lex_skipU rfl rfl rfl (by with_reducible rfl) ?_); simp only [Act.put, List.setIfInBounds_toArray, List.set_cons_succ, List.set_cons_zero]) | (refine Mix.lex_part rfl rfl rfl rfl (fun hq => ?_) (fun hq => ?_) <;> (fail_if_success (guard_hyp hq :ₛ true = true)) <;> (fail_if_success (guard_hyp hq :ₛ false = false)) <;> first | (exfalso; cases hq; done) | (exfalso; simp only [decide_eq_true_eq, decide_eq_false_iff_not, beq_iff_eq, beq_eq_false_iff_ne, ne_eq, Int.not_lt, Int.not_le] at hq; omega) | simp only [Act.put, List.setIfInBounds_toArray, List.set_cons_succ, List.set_cons_zero]))); all_goals (refine Mix.lex_nil ?_)))
  refine HR.out.mono ?_
  rintro e u3 ⟨rfl, hu⟩
  have U3 := Lib.hid (U2.out.then_ext hu)
  clear hu HR
  have HL := Lib.hid (lightDs_c (c := cap) ⟨HS.out.1.ext U3.out, fun y hy => (HS.out.2 y hy).ext U3.out⟩ hn 8 (by omega))
  rw [hL] at HL
  go_wp2_with (first | (refine Mix.wpList_guarded rfl ?_; (repeat' (first | (refine Mix.lex_quiet0 rfl rfl rfl ?_; intro K hK; go_big_quiet_op; go_big_quiet_on) | (refine Mix.lex_quietG rfl rfl rfl (by with_reducible rfl) rfl rfl ?_; intro K hK; go_big_quiet_op; go_big_quiet_on) | ((first | refine Mix.lex_skipT rfl rfl rfl (by with_reducible rfl) ?_ | refine Mix.lex_skipF rfl rfl rfl (by with_reducible rfl) ?_ | refine Mix.lex_skipU rfl rfl rfl (by with_reducible rfl) ?_); simp only [Act.put, List.setIfInBounds_toArray, List.set_cons_succ, List.set_cons_zero]) | (refine Mix.lex_part rfl rfl rfl rfl (fun hq => ?_) (fun hq => ?_) <;> (fail_if_success (guard_hyp hq :ₛ true = true)) <;> (fail_if_success (guard_hyp hq :ₛ false = false)) <;> first | (exfalso; cases hq; done) | (exfalso; simp only [decide_eq_true_eq, decide_eq_false_iff_not, beq_iff_eq, beq_eq_false_iff_ne, ne_eq, Int.not_lt, Int.not_le] at hq; omega) | simp only [Act.put, List.setIfInBounds_toArray, List.set_cons_succ, List.set_cons_zero]))); all_goals (refine Mix.lex_nil ?_)) | (refine Mix.wp_still (by kernel_rfl) (by kernel_rfl) ?_; (repeat' (first | (refine Mix.lex_quiet0 rfl rfl rfl ?_; intro K hK; go_big_quiet_op; go_big_quiet_on) | (refine Mix.lex_quietG rfl rfl rfl (by with_reducible rfl) rfl rfl ?_; intro K hK; go_big_quiet_op; go_big_quiet_on) | ((first | refine Mix.lex_skipT rfl rfl rfl (by with_reducible rfl) ?_ | refine Mix.lex_skipF rfl rfl rfl (by with_reducible rfl) ?_ | refine Mix.lex_skipU rfl rfl rfl (by with_reducible rfl) ?_); simp only [Act.put, List.setIfInBounds_toArray, List.set_cons_succ, List.set_cons_zero]) | (refine Mix.lex_part rfl rfl rfl rfl (fun hq => ?_) (fun hq => ?_) <;> (fail_if_success (guard_hyp hq :ₛ true = true)) <;> (fail_if_success (guard_hyp hq :ₛ false = false)) <;> first | (exfalso; cases hq; done) | (exfalso; simp only [decide_eq_true_eq, decide_eq_false_iff_not, beq_iff_eq, beq_eq_false_iff_ne, ne_eq, Int.not_lt, Int.not_le] at hq; omega) | simp only [Act.put, List.setIfInBounds_toArray, List.set_cons_succ, List.set_cons_zero]))); all_goals (refine Mix.lex_nil ?_)))
  refine HL.out.mono ?_
  rintro e u4 ⟨rfl, hu⟩
  have U4 := Lib.hid (U3.out.then_ext hu)
  clear hu HL
  go_wp2_with (first | (refine Mix.wpList_guarded rfl ?_; (repeat' (first | (refine Mix.lex_quiet0 rfl rfl rfl ?_; intro K hK; go_big_quiet_op; go_big_quiet_on) | (refine Mix.lex_quietG rfl rfl rfl (by with_reducible rfl) rfl rfl ?_; intro K hK; go_big_quiet_op; go_big_quiet_on) | ((first | refine Mix.lex_skipT rfl rfl rfl (by with_reducible rfl) ?_ | refine Mix.lex_skipF rfl rfl rfl (by with_reducible rfl) ?_ | refine Mix.lex_skipU rfl rfl rfl (by with_reducible rfl) ?_); simp only [Act.put, List.setIfInBounds_toArray, List.set_cons_succ, List.set_cons_zero]) | (refine Mix.lex_part rfl rfl rfl rfl (fun hq => ?_) (fun hq => ?_) <;> (fail_if_success (guard_hyp hq :ₛ true = true)) <;> (fail_if_success (guard_hyp hq :ₛ false = false)) <;> first | (exfalso; cases hq; done) | (exfalso; simp only [decide_eq_true_eq, decide_eq_false_iff_not, beq_iff_eq, beq_eq_false_iff_ne, ne_eq, Int.not_lt, Int.not_le] at hq; omega) | simp only [Act.put, List.setIfInBounds_toArray, List.set_cons_succ, List.set_cons_zero]))); all_goals (refine Mix.lex_nil ?_)) | (refine Mix.wp_still (by kernel_rfl) (by kernel_rfl) ?_; (repeat' (first | (refine Mix.lex_quiet0 rfl rfl rfl ?_; intro K hK; go_big_quiet_op; go_big_quiet_on) | (refine Mix.lex_quietG rfl rfl rfl (by with_reducible rfl) rfl rfl ?_; intro K hK; go_big_quiet_op; go_big_quiet_on) | ((first | refine Mix.lex_skipT rfl rfl rfl (by with_reducible rfl) ?_ | refine Mix.lex_skipF rfl rfl rfl (by with_reducible rfl) ?_ | refine Mix.lex_skipU rfl rfl rfl (by with_reducible rfl) ?_); simp only [Act.put, List.setIfInBounds_toArray, List.set_cons_succ, List.set_cons_zero]) | (refine Mix.lex_part rfl rfl rfl rfl (fun hq => ?_) (fun hq => ?_) <;> (fail_if_success (guard_hyp hq :ₛ true = true)) <;> (fail_if_success (guard_hyp hq :ₛ false = false)) <;> first | (exfalso; cases hq; done) | (exfalso; simp only [decide_eq_true_eq, decide_eq_false_iff_not, beq_iff_eq, beq_eq_false_iff_ne, ne_eq, Int.not_lt, Int.not_le] at hq; omega) | simp only [Act.put, List.setIfInBounds_toArray, List.set_cons_succ, List.set_cons_zero]))); all_goals (refine Mix.lex_nil ?_)))
  go_ret
  exact ⟨rfl, U4.out⟩
abbrev topC : Ch := ([102, 47, 122], [122], false)
theorem ded_enc1 (ys : List DeedV) : ∀ u ∈ ys.flatMap dedF.enc, Value.oneCell' u = true := fun u hu => by
  obtain ⟨y, _, hy⟩ := List.mem_flatMap.1 hu
  simp only [dedF, List.mem_singleton] at hy
  rw [hy]; rfl
theorem topC_good : chkA [topC] = 0 := by decide +kernel
abbrev dkA (N : Int) : Dk := { Dk.fresh 60 with fuse := max N (-1) }
theorem ArmT_c {w : World} {r : DkR} {d : Dk} (h : DiskAt w r d) (n : Int) (hn : n ≤ 9223372036854775807) :
    Calls Try.prog 20 #[pt r.g, .int .i64 n] w (DkRes w r { d with fuse := max n (-1) } (.tuple #[])) := by
  refine (Arm_c h n hn).mono ?_
  rintro e w' ⟨rfl, h1, hx⟩
  exact ⟨rfl, r, h1, rfl, hx.weak fun b _ e => .inl e, fun b hb => .inl hb⟩
theorem Only.ext_frn' {w0 w u : World} (h : Ext w0 w) (k : Only (Frn w0 w) w u) : Ext w0 u := h.trans k fun b hb ⟨h1, _⟩ => by omega
theorem rests_fresh (g : Nat) (N : Int) : Rests ⟨g, 1, 59, 5, 0⟩ (dkA N) [] :=
  ⟨⟨rfl, by show -1 ≤ max N (-1); omega, (fresh_up 60).wide⟩, rfl, rfl, by show 1 + 59 ≤ (Dk.fresh 60).now.length; rw [fresh_len]; exact Nat.le_refl 60, scan_fresh ⟨g, 1, 59, 5, 0⟩ 60 5, fun k s _ _ hs x => by
    have : s = full [] := List.eq_of_mem_replicate (List.mem_of_getElem? hs)
    rw [this, lookF_zero]
    exact fun h => by cases h⟩
set_option maxRecDepth 100000 in
set_option maxHeartbeats 4000000 in
theorem TopLog_light {w : World} (hm : Ml w) {A : Option Addr} {n cap : Nat} {ys : List DeedV} (hs : DedR w A n ys) (hn : n ≤ maxLen) (fuse : Int) (hf : -9223372036854775808 ≤ fuse ∧ fuse ≤ 9223372036854775807) (K : Nat) (hK : K < 18446744073709551616)
    (hL : lightDs 8 (ys.map (·.2)) = true) :
    Calls Try.prog 4 #[.slice A n cap, .int .i64 fuse, .int .u64 K] w fun e w' => e = .returned (.bool true) ∧ Ext w w' := by
  have HM := Lib.hid hm
  have HS := Lib.hid hs
  have HN := Lib.hid (New_ok 60 (by omega) (by omega) w)
  clear hm hs
  have HLt := Lib.hid hL
  have HLf : Hid (n ≤ 8 ∧ ∀ x ∈ ys, x.2.length ≤ 14 ∧ ∀ y ∈ x.2, y.1.length ≤ 20 ∧ y.2.1.length ≤ 400) := by
    have h := hL
    unfold lightDs at h
    simp only [Bool.and_eq_true, decide_eq_true_eq, List.all_eq_true, List.length_map] at h
    exact ⟨by rw [← HS.out.1.1]; exact h.1, fun x hx => lightC_facts (h.2 x.2 (List.mem_map_of_mem hx))⟩
  clear hL
  go_enter Try.func4, Try.ntmps4
  go_wp2_with (first | (refine Mix.wpList_guarded rfl ?_; (repeat' (first | (refine Mix.lex_quiet0 rfl rfl rfl ?_; intro K hK; go_big_quiet_op; go_big_quiet_on) | (refine Mix.lex_quietG rfl rfl rfl (by with_reducible rfl) rfl rfl ?_; intro K hK; go_big_quiet_op; go_big_quiet_on) | ((first | refine Mix.lex_skipT rfl rfl rfl (by with_reducible rfl) ?_ | refine Mix.lex_skipF rfl rfl rfl (by with_reducible rfl) ?_ | refine Mix.lex_skipU rfl rfl rfl (by with_reducible rfl) ?_); simp only [Act.put, List.setIfInBounds_toArray, List.set_cons_succ, List.set_cons_zero]) | (refine Mix.lex_part rfl rfl rfl rfl (fun hq => ?_) (fun hq => ?_) <;> (fail_if_success (guard_hyp hq :ₛ true = true)) <;> (fail_if_success (guard_hyp hq :ₛ false = false)) <;> first | (exfalso; cases hq; done) | (exfalso; simp only [decide_eq_true_eq, decide_eq_false_iff_not, beq_iff_eq, beq_eq_false_iff_ne, ne_eq, Int.not_lt, Int.not_le] at hq; omega) | simp only [Act.put, List.setIfInBounds_toArray, List.set_cons_succ, List.set_cons_zero]))); all_goals (refine Mix.lex_nil ?_)) | (refine Mix.wp_still (by kernel_rfl) (by kernel_rfl) ?_; (repeat' (first | (refine Mix.lex_quiet0 rfl rfl rfl ?_; intro K hK; go_big_quiet_op; go_big_quiet_on) | (refine Mix.lex_quietG rfl rfl rfl (by with_reducible rfl) rfl rfl ?_; intro K hK; go_big_quiet_op; go_big_quiet_on) | ((first | refine Mix.lex_skipT rfl rfl rfl (by with_reducible rfl) ?_ | refine Mix.lex_skipF rfl rfl rfl (by with_reducible rfl) ?_ | refine Mix.lex_skipU rfl rfl rfl (by with_reducible rfl) ?_); simp only [Act.put, List.setIfInBounds_toArray, List.set_cons_succ, List.set_cons_zero]) | (refine Mix.lex_part rfl rfl rfl rfl (fun hq => ?_) (fun hq => ?_) <;> (fail_if_success (guard_hyp hq :ₛ true = true)) <;> (fail_if_success (guard_hyp hq :ₛ false = false)) <;> first | (exfalso; cases hq; done) | (exfalso; simp only [decide_eq_true_eq, decide_eq_false_iff_not, beq_iff_eq, beq_eq_false_iff_ne, ne_eq, Int.not_lt, Int.not_le] at hq; omega) | simp only [Act.put, List.setIfInBounds_toArray, List.set_cons_succ, List.set_cons_zero]))); all_goals (refine Mix.lex_nil ?_)))
  refine HN.out.mono ?_
  rintro e u1 ⟨r, rfl, hd, hu, hfp⟩
  have D1 := Lib.hid hd
  have U1 := Lib.hid hu
  have FP := Lib.hid hfp
  have HO := Lib.hid (Open_ok (HM.out.ext hu) hd rfl (fresh_up 60).wide 1 59 5 (by omega) (by rw [fresh_len]; omega) (by omega) (by omega))
  clear hd hu hfp HN
  go_wp2_with (first | (refine Mix.wpList_guarded rfl ?_; (repeat' (first | (refine Mix.lex_quiet0 rfl rfl rfl ?_; intro K hK; go_big_quiet_op; go_big_quiet_on) | (refine Mix.lex_quietG rfl rfl rfl (by with_reducible rfl) rfl rfl ?_; intro K hK; go_big_quiet_op; go_big_quiet_on) | ((first | refine Mix.lex_skipT rfl rfl rfl (by with_reducible rfl) ?_ | refine Mix.lex_skipF rfl rfl rfl (by with_reducible rfl) ?_ | refine Mix.lex_skipU rfl rfl rfl (by with_reducible rfl) ?_); simp only [Act.put, List.setIfInBounds_toArray, List.set_cons_succ, List.set_cons_zero]) | (refine Mix.lex_part rfl rfl rfl rfl (fun hq => ?_) (fun hq => ?_) <;> (fail_if_success (guard_hyp hq :ₛ true = true)) <;> (fail_if_success (guard_hyp hq :ₛ false = false)) <;> first | (exfalso; cases hq; done) | (exfalso; simp only [decide_eq_true_eq, decide_eq_false_iff_not, beq_iff_eq, beq_eq_false_iff_ne, ne_eq, Int.not_lt, Int.not_le] at hq; omega) | simp only [Act.put, List.setIfInBounds_toArray, List.set_cons_succ, List.set_cons_zero]))); all_goals (refine Mix.lex_nil ?_)) | (refine Mix.wp_still (by kernel_rfl) (by kernel_rfl) ?_; (repeat' (first | (refine Mix.lex_quiet0 rfl rfl rfl ?_; intro K hK; go_big_quiet_op; go_big_quiet_on) | (refine Mix.lex_quietG rfl rfl rfl (by with_reducible rfl) rfl rfl ?_; intro K hK; go_big_quiet_op; go_big_quiet_on) | ((first | refine Mix.lex_skipT rfl rfl rfl (by with_reducible rfl) ?_ | refine Mix.lex_skipF rfl rfl rfl (by with_reducible rfl) ?_ | refine Mix.lex_skipU rfl rfl rfl (by with_reducible rfl) ?_); simp only [Act.put, List.setIfInBounds_toArray, List.set_cons_succ, List.set_cons_zero]) | (refine Mix.lex_part rfl rfl rfl rfl (fun hq => ?_) (fun hq => ?_) <;> (fail_if_success (guard_hyp hq :ₛ true = true)) <;> (fail_if_success (guard_hyp hq :ₛ false = false)) <;> first | (exfalso; cases hq; done) | (exfalso; simp only [decide_eq_true_eq, decide_eq_false_iff_not, beq_iff_eq, beq_eq_false_iff_ne, ne_eq, Int.not_lt, Int.not_le] at hq; omega) | simp only [Act.put, List.setIfInBounds_toArray, List.set_cons_succ, List.set_cons_zero]))); all_goals (refine Mix.lex_nil ?_)))
  refine HO.out.mono ?_
  rintro e u2 ⟨g, oA, oc, ys0, rfl, hg, hL0, hD, hys, hx⟩
  have hsc : scanF 5 (((Dk.fresh 60).now.drop 1).take 59) 0 [] [] 0 = ([], 0) := scan_fresh ⟨0, 1, 59, 5, 0⟩ 60 5
  rw [hsc] at hL0 hys
  have hy0 : ys0 = [] := by
    cases ys0 with
    | nil => rfl
    | cons a l => cases hys
  subst hy0
  have LW2 : Hid (LgW w u2 r ⟨g, 1, 59, 5, 0⟩ (Dk.fresh 60)) := ⟨D1.out.ext hx, hL0, FP.out, Nat.le_trans U1.out.size hg⟩
  have U2 : Hid (Ext w u2) := U1.out.then_ext hx
  have L2 := Lib.hid hL0
  clear hg hL0 hD hys hx hsc HO D1 FP
  have HR := Lib.hid (Room_c L2.out (show 59 ≤ 1000 by decide) (show 0 ≤ 59 by decide))
  go_wp2_with (first | (refine Mix.wpList_guarded rfl ?_; (repeat' (first | (refine Mix.lex_quiet0 rfl rfl rfl ?_; intro K hK; go_big_quiet_op; go_big_quiet_on) | (refine Mix.lex_quietG rfl rfl rfl (by with_reducible rfl) rfl rfl ?_; intro K hK; go_big_quiet_op; go_big_quiet_on) | ((first | refine Mix.lex_skipT rfl rfl rfl (by with_reducible rfl) ?_ | refine Mix.lex_skipF rfl rfl rfl (by with_reducible rfl) ?_ | refine Mix.lex_skipU rfl rfl rfl (by with_reducible rfl) ?_); simp only [Act.put, List.setIfInBounds_toArray, List.set_cons_succ, List.set_cons_zero]) | (refine Mix.lex_part rfl rfl rfl rfl (fun hq => ?_) (fun hq => ?_) <;> (fail_if_success (guard_hyp hq :ₛ true = true)) <;> (fail_if_success (guard_hyp hq :ₛ false = false)) <;> first | (exfalso; cases hq; done) | (exfalso; simp only [decide_eq_true_eq, decide_eq_false_iff_not, beq_iff_eq, beq_eq_false_iff_ne, ne_eq, Int.not_lt, Int.not_le] at hq; omega) | simp only [Act.put, List.setIfInBounds_toArray, List.set_cons_succ, List.set_cons_zero]))); all_goals (refine Mix.lex_nil ?_)) | (refine Mix.wp_still (by kernel_rfl) (by kernel_rfl) ?_; (repeat' (first | (refine Mix.lex_quiet0 rfl rfl rfl ?_; intro K hK; go_big_quiet_op; go_big_quiet_on) | (refine Mix.lex_quietG rfl rfl rfl (by with_reducible rfl) rfl rfl ?_; intro K hK; go_big_quiet_op; go_big_quiet_on) | ((first | refine Mix.lex_skipT rfl rfl rfl (by with_reducible rfl) ?_ | refine Mix.lex_skipF rfl rfl rfl (by with_reducible rfl) ?_ | refine Mix.lex_skipU rfl rfl rfl (by with_reducible rfl) ?_); simp only [Act.put, List.setIfInBounds_toArray, List.set_cons_succ, List.set_cons_zero]) | (refine Mix.lex_part rfl rfl rfl rfl (fun hq => ?_) (fun hq => ?_) <;> (fail_if_success (guard_hyp hq :ₛ true = true)) <;> (fail_if_success (guard_hyp hq :ₛ false = false)) <;> first | (exfalso; cases hq; done) | (exfalso; simp only [decide_eq_true_eq, decide_eq_false_iff_not, beq_iff_eq, beq_eq_false_iff_ne, ne_eq, Int.not_lt, Int.not_le] at hq; omega) | simp only [Act.put, List.setIfInBounds_toArray, List.set_cons_succ, List.set_cons_zero]))); all_goals (refine Mix.lex_nil ?_)))
  refine HR.out.mono ?_
  rintro e u3 ⟨rfl, hu⟩
  have U3 := Lib.hid (U2.out.then_ext hu)
  have LW3 := Lib.hid (LW2.out.ext hu)
  clear hu HR
  have HL := Lib.hid (lightDs_c (c := cap) ⟨HS.out.1.ext U3.out, fun y hy => (HS.out.2 y hy).ext U3.out⟩ hn 8 (by omega))
  rw [HLt.out] at HL
  go_wp2_with (first | (refine Mix.wpList_guarded rfl ?_; (repeat' (first | (refine Mix.lex_quiet0 rfl rfl rfl ?_; intro K hK; go_big_quiet_op; go_big_quiet_on) | (refine Mix.lex_quietG rfl rfl rfl (by with_reducible rfl) rfl rfl ?_; intro K hK; go_big_quiet_op; go_big_quiet_on) | ((first | refine Mix.lex_skipT rfl rfl rfl (by with_reducible rfl) ?_ | refine Mix.lex_skipF rfl rfl rfl (by with_reducible rfl) ?_ | refine Mix.lex_skipU rfl rfl rfl (by with_reducible rfl) ?_); simp only [Act.put, List.setIfInBounds_toArray, List.set_cons_succ, List.set_cons_zero]) | (refine Mix.lex_part rfl rfl rfl rfl (fun hq => ?_) (fun hq => ?_) <;> (fail_if_success (guard_hyp hq :ₛ true = true)) <;> (fail_if_success (guard_hyp hq :ₛ false = false)) <;> first | (exfalso; cases hq; done) | (exfalso; simp only [decide_eq_true_eq, decide_eq_false_iff_not, beq_iff_eq, beq_eq_false_iff_ne, ne_eq, Int.not_lt, Int.not_le] at hq; omega) | simp only [Act.put, List.setIfInBounds_toArray, List.set_cons_succ, List.set_cons_zero]))); all_goals (refine Mix.lex_nil ?_)) | (refine Mix.wp_still (by kernel_rfl) (by kernel_rfl) ?_; (repeat' (first | (refine Mix.lex_quiet0 rfl rfl rfl ?_; intro K hK; go_big_quiet_op; go_big_quiet_on) | (refine Mix.lex_quietG rfl rfl rfl (by with_reducible rfl) rfl rfl ?_; intro K hK; go_big_quiet_op; go_big_quiet_on) | ((first | refine Mix.lex_skipT rfl rfl rfl (by with_reducible rfl) ?_ | refine Mix.lex_skipF rfl rfl rfl (by with_reducible rfl) ?_ | refine Mix.lex_skipU rfl rfl rfl (by with_reducible rfl) ?_); simp only [Act.put, List.setIfInBounds_toArray, List.set_cons_succ, List.set_cons_zero]) | (refine Mix.lex_part rfl rfl rfl rfl (fun hq => ?_) (fun hq => ?_) <;> (fail_if_success (guard_hyp hq :ₛ true = true)) <;> (fail_if_success (guard_hyp hq :ₛ false = false)) <;> first | (exfalso; cases hq; done) | (exfalso; simp only [decide_eq_true_eq, decide_eq_false_iff_not, beq_iff_eq, beq_eq_false_iff_ne, ne_eq, Int.not_lt, Int.not_le] at hq; omega) | simp only [Act.put, List.setIfInBounds_toArray, List.set_cons_succ, List.set_cons_zero]))); all_goals (refine Mix.lex_nil ?_)))
  refine HL.out.mono ?_
  rintro e u4 ⟨rfl, hu⟩
  have U4 := Lib.hid (U3.out.then_ext hu)
  have LW4 := Lib.hid (LW3.out.ext hu)
  clear hu HL
  obtain ⟨N, hN⟩ : ∃ N, N = min (max fuse (-1)) 200 := ⟨_, rfl⟩
  have hN2 : N ≤ 200 := by omega
  have HA := Lib.hid (ArmT_c LW4.out.dk N (by omega))
  clear LW2 LW3 L2
  go_wp2_with (first | (refine Mix.wpList_guarded rfl ?_; (repeat' (first | (refine Mix.lex_quiet0 rfl rfl rfl ?_; intro K hK; go_big_quiet_op; go_big_quiet_on) | (refine Mix.lex_quietG rfl rfl rfl (by with_reducible rfl) rfl rfl ?_; intro K hK; go_big_quiet_op; go_big_quiet_on) | ((first | refine Mix.lex_skipT rfl rfl rfl (by with_reducible rfl) ?_ | refine Mix.lex_skipF rfl rfl rfl (by with_reducible rfl) ?_ | refine Mix.lex_skipU rfl rfl rfl (by with_reducible rfl) ?_); simp only [Act.put, List.setIfInBounds_toArray, List.set_cons_succ, List.set_cons_zero]) | (refine Mix.lex_part rfl rfl rfl rfl (fun hq => ?_) (fun hq => ?_) <;> (fail_if_success (guard_hyp hq :ₛ true = true)) <;> (fail_if_success (guard_hyp hq :ₛ false = false)) <;> first | (exfalso; cases hq; done) | (exfalso; simp only [decide_eq_true_eq, decide_eq_false_iff_not, beq_iff_eq, beq_eq_false_iff_ne, ne_eq, Int.not_lt, Int.not_le] at hq; omega) | simp only [Act.put, List.setIfInBounds_toArray, List.set_cons_succ, List.set_cons_zero]))); all_goals (refine Mix.lex_nil ?_)) | (refine Mix.wp_still (by kernel_rfl) (by kernel_rfl) ?_; (repeat' (first | (refine Mix.lex_quiet0 rfl rfl rfl ?_; intro K hK; go_big_quiet_op; go_big_quiet_on) | (refine Mix.lex_quietG rfl rfl rfl (by with_reducible rfl) rfl rfl ?_; intro K hK; go_big_quiet_op; go_big_quiet_on) | ((first | refine Mix.lex_skipT rfl rfl rfl (by with_reducible rfl) ?_ | refine Mix.lex_skipF rfl rfl rfl (by with_reducible rfl) ?_ | refine Mix.lex_skipU rfl rfl rfl (by with_reducible rfl) ?_); simp only [Act.put, List.setIfInBounds_toArray, List.set_cons_succ, List.set_cons_zero]) | (refine Mix.lex_part rfl rfl rfl rfl (fun hq => ?_) (fun hq => ?_) <;> (fail_if_success (guard_hyp hq :ₛ true = true)) <;> (fail_if_success (guard_hyp hq :ₛ false = false)) <;> first | (exfalso; cases hq; done) | (exfalso; simp only [decide_eq_true_eq, decide_eq_false_iff_not, beq_iff_eq, beq_eq_false_iff_ne, ne_eq, Int.not_lt, Int.not_le] at hq; omega) | simp only [Act.put, List.setIfInBounds_toArray, List.set_cons_succ, List.set_cons_zero]))); all_goals (refine Mix.lex_nil ?_)))
  rw [← hN]
  refine HA.out.mono ?_
  intro e u5 hr
  obtain ⟨rfl, r5, hr5, hL5, hx5, -⟩ := LW4.out.dkr U4.out.size hr
  have TS5 : Hid (TS w u5 r.g r5 ⟨g, 1, 59, 5, 0⟩ (dkA N) none []) :=
    ⟨hL5, hr5, rfl, rfl, rfl, fresh_len 60, Nat.zero_le _, rests_fresh g N, Rob.old (U4.out.ext_frn' hx5) fun u _ => ⟨SlR.none_, fun y hy => by cases hy⟩, U4.out.ext_frn' hx5, HM.out.frn (HM.out.ext U4.out) hx5⟩
  clear hr5 hL5 hx5 hr HA LW4
  obtain ⟨rg, hrg⟩ : ∃ x, x = r.g := ⟨_, rfl⟩
  rw [← hrg] at TS5 ⊢
  have hn8 := HLf.out.1
  go_wp2_with (first | (refine Mix.wpList_guarded rfl ?_; (repeat' (first | (refine Mix.lex_quiet0 rfl rfl rfl ?_; intro K hK; go_big_quiet_op; go_big_quiet_on) | (refine Mix.lex_quietG rfl rfl rfl (by with_reducible rfl) rfl rfl ?_; intro K hK; go_big_quiet_op; go_big_quiet_on) | ((first | refine Mix.lex_skipT rfl rfl rfl (by with_reducible rfl) ?_ | refine Mix.lex_skipF rfl rfl rfl (by with_reducible rfl) ?_ | refine Mix.lex_skipU rfl rfl rfl (by with_reducible rfl) ?_); simp only [Act.put, List.setIfInBounds_toArray, List.set_cons_succ, List.set_cons_zero]) | (refine Mix.lex_part rfl rfl rfl rfl (fun hq => ?_) (fun hq => ?_) <;> (fail_if_success (guard_hyp hq :ₛ true = true)) <;> (fail_if_success (guard_hyp hq :ₛ false = false)) <;> first | (exfalso; cases hq; done) | (exfalso; simp only [decide_eq_true_eq, decide_eq_false_iff_not, beq_iff_eq, beq_eq_false_iff_ne, ne_eq, Int.not_lt, Int.not_le] at hq; omega) | simp only [Act.put, List.setIfInBounds_toArray, List.set_cons_succ, List.set_cons_zero]))); all_goals (refine Mix.lex_nil ?_)) | (refine Mix.wp_still (by kernel_rfl) (by kernel_rfl) ?_; (repeat' (first | (refine Mix.lex_quiet0 rfl rfl rfl ?_; intro K hK; go_big_quiet_op; go_big_quiet_on) | (refine Mix.lex_quietG rfl rfl rfl (by with_reducible rfl) rfl rfl ?_; intro K hK; go_big_quiet_op; go_big_quiet_on) | ((first | refine Mix.lex_skipT rfl rfl rfl (by with_reducible rfl) ?_ | refine Mix.lex_skipF rfl rfl rfl (by with_reducible rfl) ?_ | refine Mix.lex_skipU rfl rfl rfl (by with_reducible rfl) ?_); simp only [Act.put, List.setIfInBounds_toArray, List.set_cons_succ, List.set_cons_zero]) | (refine Mix.lex_part rfl rfl rfl rfl (fun hq => ?_) (fun hq => ?_) <;> (fail_if_success (guard_hyp hq :ₛ true = true)) <;> (fail_if_success (guard_hyp hq :ₛ false = false)) <;> first | (exfalso; cases hq; done) | (exfalso; simp only [decide_eq_true_eq, decide_eq_false_iff_not, beq_iff_eq, beq_eq_false_iff_ne, ne_eq, Int.not_lt, Int.not_le] at hq; omega) | simp only [Act.put, List.setIfInBounds_toArray, List.set_cons_succ, List.set_cons_zero]))); all_goals (refine Mix.lex_nil ?_)))
  go_loopw [11, 12, 13] (fun a b i wr => ∃ j : Nat, j ≤ n ∧ i = .int .i64 j ∧ ∃ r l d A1 c1 ysW, a = .slice A1 (ysW : List DeedV).length c1 ∧ b = .slice A1 ysW.length c1 ∧ l.g = g ∧ ysW.length ≤ j ∧ TS w wr rg r l d A1 ysW) (fun _ _ i _ => n - (intOf i).toNat)
  case atStart => exact ⟨0, Nat.zero_le _, rfl, r5, _, dkA N, none, 0, [], rfl, rfl, rfl, Nat.le_refl _, TS5.out⟩
  case round =>
    obtain ⟨j, hj, rfl, r6, l, d, wA, wcap, ysW, rfl, rfl, hlg, hyj, hT⟩ := hrel
    have T6 := Lib.hid hT
    have HLg := Lib.hid hlg
    have HYj := Lib.hid hyj
    clear hT hlg hyj
    by_cases hlt : j < n
    · have hDR : DedR wr A n ys := ⟨HS.out.1.ext T6.out.x, fun y hy => (HS.out.2 y hy).ext T6.out.x⟩
      obtain ⟨b, o, y, hAe, hyx, hyR, hyc⟩ := ded_get HS.out hlt
      subst hAe
      have HY := Lib.hid hyx
      obtain ⟨⟨yA, yc⟩, ch⟩ := y
      have hmem := List.mem_of_getElem? hyx
      have HC := Lib.hid (HLf.out.2 _ hmem)
      have q1 : wr.cell? ⟨b, o + j, none⟩ = some (.slice yA ch.length yc) := hyc ⟨_, T6.out.x⟩
      have glt : decide ((j : Int) < (n : Int)) = true := decide_eq_true (by omega)
      have RCh : Hid (Rob w wr fun u => SlR chF u yA ch.length ch) := Rob.old T6.out.x fun u hu => (HS.out.2 _ hmem).ext hu
      obtain ⟨l', d', fv, hadd, hdn', hcase⟩ := add_falls (c := ch) T6.out.rs (by rw [T6.out.lm]; exact T6.out.nx)
      have HA := Lib.hid (Add_c (cap := yc) (n := ch.length) (A := yA) (c := ch) HM.out T6.out.ml T6.out.lw T6.out.x.size RCh.out (fun z hz => by have := HC.out.2 z hz; omega) (by have := HC.out.1; dsimp only at this; omega) (by rw [T6.out.rs.wt]; exact Nat.zero_le _) (by have := T6.out.nx; rw [T6.out.lf, T6.out.lm, T6.out.l1]; omega))
      rw [hadd] at HA
      have HAd := Lib.hid hadd
      have HDn := Lib.hid hdn'
      have HCase := Lib.hid hcase
      rw [HLg.out] at HA
      have HYC := Lib.hid hyc
      have HRo : Hid (SlR chF w yA ch.length ch) := HS.out.2 _ hmem
      clear hadd hdn' hcase hyc hyR hyx hmem
      go_wp2_with (first | (refine Mix.wpList_guarded rfl ?_; (repeat' (first | (refine Mix.lex_quiet0 rfl rfl rfl ?_; intro K hK; go_big_quiet_op; go_big_quiet_on) | (refine Mix.lex_quietG rfl rfl rfl (by with_reducible rfl) rfl rfl ?_; intro K hK; go_big_quiet_op; go_big_quiet_on) | ((first | refine Mix.lex_skipT rfl rfl rfl (by with_reducible rfl) ?_ | refine Mix.lex_skipF rfl rfl rfl (by with_reducible rfl) ?_ | refine Mix.lex_skipU rfl rfl rfl (by with_reducible rfl) ?_); simp only [Act.put, List.setIfInBounds_toArray, List.set_cons_succ, List.set_cons_zero]) | (refine Mix.lex_part rfl rfl rfl rfl (fun hq => ?_) (fun hq => ?_) <;> (fail_if_success (guard_hyp hq :ₛ true = true)) <;> (fail_if_success (guard_hyp hq :ₛ false = false)) <;> first | (exfalso; cases hq; done) | (exfalso; simp only [decide_eq_true_eq, decide_eq_false_iff_not, beq_iff_eq, beq_eq_false_iff_ne, ne_eq, Int.not_lt, Int.not_le] at hq; omega) | simp only [Act.put, List.setIfInBounds_toArray, List.set_cons_succ, List.set_cons_zero]))); all_goals (refine Mix.lex_nil ?_)) | (refine Mix.wp_still (by kernel_rfl) (by kernel_rfl) ?_; (repeat' (first | (refine Mix.lex_quiet0 rfl rfl rfl ?_; intro K hK; go_big_quiet_op; go_big_quiet_on) | (refine Mix.lex_quietG rfl rfl rfl (by with_reducible rfl) rfl rfl ?_; intro K hK; go_big_quiet_op; go_big_quiet_on) | ((first | refine Mix.lex_skipT rfl rfl rfl (by with_reducible rfl) ?_ | refine Mix.lex_skipF rfl rfl rfl (by with_reducible rfl) ?_ | refine Mix.lex_skipU rfl rfl rfl (by with_reducible rfl) ?_); simp only [Act.put, List.setIfInBounds_toArray, List.set_cons_succ, List.set_cons_zero]) | (refine Mix.lex_part rfl rfl rfl rfl (fun hq => ?_) (fun hq => ?_) <;> (fail_if_success (guard_hyp hq :ₛ true = true)) <;> (fail_if_success (guard_hyp hq :ₛ false = false)) <;> first | (exfalso; cases hq; done) | (exfalso; simp only [decide_eq_true_eq, decide_eq_false_iff_not, beq_iff_eq, beq_eq_false_iff_ne, ne_eq, Int.not_lt, Int.not_le] at hq; omega) | simp only [Act.put, List.setIfInBounds_toArray, List.set_cons_succ, List.set_cons_zero]))); all_goals (refine Mix.lex_nil ?_)))
      refine HA.out.mono ?_
      rintro e u7 ⟨rfl, r7, hg7, hl7, hx7⟩
      have LW7 := Lib.hid hl7
      have X7 : Hid (Ext w u7) := T6.out.x.ext_frn' hx7
      have M7 : Hid (Ml u7) := HM.out.frn T6.out.ml hx7
      have RW7 := Lib.hid (T6.out.rW.step hx7 fun _ _ e => e)
      have Hrg7 : Hid (r7.g = rg) := hg7.trans T6.out.hrg
      clear hg7 hl7 hx7 HA
      have hl5 := HYj.out
      have Q1 : ∀ ξ : X u7 No, ξ.v.cell? ⟨b, o + j, none⟩ = some (.slice yA ch.length yc) := fun ξ => HYC.out ⟨_, X7.out.then_ext ξ.h⟩
      go_upto_region 16 with fail
      clear q1
      go_cut [12] from 72 to 80 (fun v wx => ∃ A7 c7, v = .slice A7 (ysW.length + 1 : Nat) c7 ∧ Fresh dedF deedT u7 wx A7 c7 (ysW ++ [((yA, yc), ch)]))
      case first =>
        refine Mix.wp_tree 9 [1, 6, 7] (Cl u7 No) rfl (by kernel_rfl) (by kernel_rfl) (Cl.drew_ (X.here u7 No)) ?_
        obtain ⟨μ0, hμ0⟩ : ∃ u, u = u7.drew := ⟨_, rfl⟩
        have xμ : Ext u7 μ0 := by rw [hμ0]; exact (Only.refl No u7).drew
        rw [← hμ0]
        clear hμ0
        (refine Mix.tree_quiet (i := 0) (by kernel_rfl) rfl rfl rfl rfl ?_; intro K hK; go_big_quiet_op; go_big_quiet_on); (refine Mix.tree_quiet (i := 2) (by kernel_rfl) rfl rfl rfl rfl ?_; intro K hK; go_big_quiet_op; go_big_quiet_on); (refine Mix.tree_quiet (i := 3) (by kernel_rfl) rfl rfl rfl rfl ?_; intro K hK; go_big_quiet_op; go_big_quiet_on); (refine Mix.tree_quiet (i := 4) (by kernel_rfl) rfl rfl rfl rfl ?_; intro K hK; go_big_quiet_op; go_big_quiet_on); (refine Mix.tree_quiet (i := 5) (by kernel_rfl) rfl rfl rfl rfl ?_; intro K hK; go_big_quiet_op; go_big_quiet_on)
        clear Q1
        have hRd : ∀ u, Ext u7 u → Rd u wA ysW.length 1 (ysW.flatMap dedF.enc) := fun u hu => (RW7.out.here.1.ext hu).rd (by decide)
        have hE1 : ∀ u ∈ ysW.flatMap dedF.enc, u.oneCell' = true := fun u hu => by
          obtain ⟨y, _, hy⟩ := List.mem_flatMap.1 hu
          simp only [dedF, List.mem_singleton] at hy
          rw [hy]; rfl
        refine Mix.tree_two (i := 1) (j := 6) (by kernel_rfl) (by kernel_rfl) rfl rfl rfl rfl rfl rfl ?_ ?_
        · intro K hK
          refine goes_append (v := .slice none 0 0) (n := 0) (xs := []) dd_ty rfl rfl rfl (World.ownsRow_nil _ _ _ _) (hRd _ xμ) hE1 (by omega) ?_
          intro A6 c6 w6 hown6 hg6 hb6
          have F6 : Fresh dedF deedT μ0 w6 A6 c6 ysW := (Fresh.nil dedF deedT μ0 μ0 (Only.refl _ _)).grow (ys := ysW) rfl hown6 hg6 hb6
          rw [Nat.zero_add]
          have x6 : Ext u7 w6 := xμ.then_ext F6.ext
          refine hK _ _ (Cl.of x6) ?_
          clear hK K hown6 hg6 hb6
          simp only [Act.put, List.setIfInBounds_toArray, List.set_cons_succ, List.set_cons_zero]
          (refine Mix.tree_one (i := 6) (by kernel_rfl) (by kernel_rfl) rfl rfl rfl ?_; intro K hK; go_simp)
          obtain ⟨wb, hwb⟩ : ∃ u, u = w6.alloc (.cells #[.slice yA ch.length yc] deedT) := ⟨_, rfl⟩
          obtain ⟨gb, hgb⟩ : ∃ g, g = w6.heap.size := ⟨_, rfl⟩
          have hCb : Cs wb gb deedT #[.slice yA ch.length yc] := by rw [hwb, hgb]; exact Cs.new _ _ _
          have xb : Ext w6 wb := by rw [hwb]; exact (Only.refl No _).alloc _
          rw [← hwb, ← hgb]
          refine hK _ _ (Cl.of (x6.then_ext xb)) ?_
          clear hK K hwb hgb
          simp only [Act.put, List.setIfInBounds_toArray, List.set_cons_succ, List.set_cons_zero]
          refine Mix.tree_one (i := 7) (by kernel_rfl) (by kernel_rfl) rfl rfl rfl ?_
          intro K hK
          have F6b := F6.on xb
          refine goes_append (v := .slice A6 ysW.length c6) (n := ysW.length) (xs := ysW.flatMap dedF.enc) dd_ty rfl rfl rfl F6b.own (rd_cs (cs := [.slice yA ch.length yc]) hCb) (by simp [Value.oneCell']) (by omega) ?_
          intro A7 c7 w7 hown7 hg7 hb7
          have F7 : Fresh dedF deedT μ0 w7 A7 c7 (ysW ++ [((yA, yc), ch)]) := F6b.grow (m := 1) (ys := [((yA, yc), ch)]) rfl (by exact hown7) hg7 hb7
          have F8 := F7.from xμ
          refine hK _ _ (Cl.of F8.ext) ?_
          clear hK K hown7 hg7 hb7
          simp only [Act.put, List.setIfInBounds_toArray, List.set_cons_succ, List.set_cons_zero]
          (refine Mix.tree_quiet (i := 8) (by kernel_rfl) rfl rfl rfl rfl ?_; intro K hK; go_big_quiet_op; go_big_quiet_on)
          refine Mix.tree_nil ?_
          go_wp2_with fail
          go_meet
          exact ⟨A7, c7, rfl, F8⟩
        · intro K hK
          go_simp
          obtain ⟨wb, hwb⟩ : ∃ u, u = μ0.alloc (.cells #[.slice yA ch.length yc] deedT) := ⟨_, rfl⟩
          obtain ⟨gb, hgb⟩ : ∃ g, g = μ0.heap.size := ⟨_, rfl⟩
          have hCb : Cs wb gb deedT #[.slice yA ch.length yc] := by rw [hwb, hgb]; exact Cs.new _ _ _
          have xb : Ext μ0 wb := by rw [hwb]; exact (Only.refl No _).alloc _
          rw [← hwb, ← hgb]
          refine hK _ _ (Cl.of (xμ.then_ext xb)) ?_
          clear hK K hwb hgb
          simp only [Act.put, List.setIfInBounds_toArray, List.set_cons_succ, List.set_cons_zero]
          refine Mix.tree_one (i := 1) (by kernel_rfl) (by kernel_rfl) rfl rfl rfl ?_
          intro K hK
          refine goes_append (v := .slice none 0 0) (n := 0) (xs := []) dd_ty rfl rfl rfl (World.ownsRow_nil _ _ _ _) (hRd _ (xμ.then_ext xb)) hE1 (by omega) ?_
          intro A6 c6 w6 hown6 hg6 hb6
          have F6 : Fresh dedF deedT wb w6 A6 c6 ysW := (Fresh.nil dedF deedT wb wb (Only.refl _ _)).grow (ys := ysW) rfl hown6 hg6 hb6
          rw [Nat.zero_add]
          have hCb6 := hCb.keep F6.ext id
          refine hK _ _ (Cl.of ((xμ.then_ext xb).then_ext F6.ext)) ?_
          clear hK K hown6 hg6 hb6
          simp only [Act.put, List.setIfInBounds_toArray, List.set_cons_succ, List.set_cons_zero]
          refine Mix.tree_one (i := 7) (by kernel_rfl) (by kernel_rfl) rfl rfl rfl ?_
          intro K hK
          refine goes_append (v := .slice A6 ysW.length c6) (n := ysW.length) (xs := ysW.flatMap dedF.enc) dd_ty rfl rfl rfl F6.own (rd_cs (cs := [.slice yA ch.length yc]) hCb6) (by simp [Value.oneCell']) (by omega) ?_
          intro A7 c7 w7 hown7 hg7 hb7
          have F7 : Fresh dedF deedT wb w7 A7 c7 (ysW ++ [((yA, yc), ch)]) := F6.grow (m := 1) (ys := [((yA, yc), ch)]) rfl (by exact hown7) hg7 hb7
          have F8 := F7.from (xμ.then_ext xb)
          refine hK _ _ (Cl.of F8.ext) ?_
          clear hK K hown7 hg7 hb7
          simp only [Act.put, List.setIfInBounds_toArray, List.set_cons_succ, List.set_cons_zero]
          (refine Mix.tree_quiet (i := 8) (by kernel_rfl) rfl rfl rfl rfl ?_; intro K hK; go_big_quiet_op; go_big_quiet_on)
          refine Mix.tree_nil ?_
          go_wp2_with fail
          go_meet
          exact ⟨A7, c7, rfl, F8⟩
      case rest =>
        obtain ⟨A7, c7, hv7, hF7⟩ := hcut
        subst hv7
        clear Q1
        have FF7 := Lib.hid hF7
        have RN : Hid (Rob w wc fun u => DedR u A7 (ysW ++ [((yA, yc), ch)]).length (ysW ++ [((yA, yc), ch)])) := fun v hv => by
          refine ⟨SlR.of_own (T := dedF) (by decide) (own_rob (w0 := w) FF7.out.own (by decide) (by decide) (by decide) (by decide) v hv), fun y hy => ?_⟩
          rcases List.mem_append.1 hy with hy | hy
          · exact (RW7.out.ext FF7.out.ext v hv).2 y hy
          · obtain rfl := List.mem_singleton.1 hy
            exact HRo.out.ext ((X7.out.then_ext FF7.out.ext).trans hv fun b hb ⟨h1, _⟩ => by omega)
        have hc7 := HCase.out
        rcases hc7 with ⟨hf0, hl0, hr0, hrs⟩ | ⟨hf0, hf11, hl0, hd0⟩ | ⟨hf11, hl0, hafter⟩
        · -- added
          subst hf0
          rw [errV_zero]
          have TN : Hid (TS w wc rg r7 l' d' A7 (ysW ++ [((yA, yc), ch)])) :=
            ⟨LW7.out.ext FF7.out.ext, Hrg7.out, by rw [hl0]; exact T6.out.lf, by rw [hl0]; exact T6.out.lm, by rw [hl0]; exact T6.out.l1, HDn.out.trans T6.out.dn, by have := T6.out.lm; rw [hl0]; dsimp only; omega, by rw [List.map_append]; exact hrs, RN.out, X7.out.then_ext FF7.out.ext, M7.out.ext FF7.out.ext⟩
          have HLg' : Hid (l'.g = g) := by rw [Hid, hl0]; exact HLg.out
          clear hl0 hr0 hrs RN FF7 hF7
          go_wp2_with (first | (refine Mix.wpList_guarded rfl ?_; (repeat' (first | (refine Mix.lex_quiet0 rfl rfl rfl ?_; intro K hK; go_big_quiet_op; go_big_quiet_on) | (refine Mix.lex_quietG rfl rfl rfl (by with_reducible rfl) rfl rfl ?_; intro K hK; go_big_quiet_op; go_big_quiet_on) | ((first | refine Mix.lex_skipT rfl rfl rfl (by with_reducible rfl) ?_ | refine Mix.lex_skipF rfl rfl rfl (by with_reducible rfl) ?_ | refine Mix.lex_skipU rfl rfl rfl (by with_reducible rfl) ?_); simp only [Act.put, List.setIfInBounds_toArray, List.set_cons_succ, List.set_cons_zero]) | (refine Mix.lex_part rfl rfl rfl rfl (fun hq => ?_) (fun hq => ?_) <;> (fail_if_success (guard_hyp hq :ₛ true = true)) <;> (fail_if_success (guard_hyp hq :ₛ false = false)) <;> first | (exfalso; cases hq; done) | (exfalso; simp only [decide_eq_true_eq, decide_eq_false_iff_not, beq_iff_eq, beq_eq_false_iff_ne, ne_eq, Int.not_lt, Int.not_le] at hq; omega) | simp only [Act.put, List.setIfInBounds_toArray, List.set_cons_succ, List.set_cons_zero]))); all_goals (refine Mix.lex_nil ?_)) | (refine Mix.wp_still (by kernel_rfl) (by kernel_rfl) ?_; (repeat' (first | (refine Mix.lex_quiet0 rfl rfl rfl ?_; intro K hK; go_big_quiet_op; go_big_quiet_on) | (refine Mix.lex_quietG rfl rfl rfl (by with_reducible rfl) rfl rfl ?_; intro K hK; go_big_quiet_op; go_big_quiet_on) | ((first | refine Mix.lex_skipT rfl rfl rfl (by with_reducible rfl) ?_ | refine Mix.lex_skipF rfl rfl rfl (by with_reducible rfl) ?_ | refine Mix.lex_skipU rfl rfl rfl (by with_reducible rfl) ?_); simp only [Act.put, List.setIfInBounds_toArray, List.set_cons_succ, List.set_cons_zero]) | (refine Mix.lex_part rfl rfl rfl rfl (fun hq => ?_) (fun hq => ?_) <;> (fail_if_success (guard_hyp hq :ₛ true = true)) <;> (fail_if_success (guard_hyp hq :ₛ false = false)) <;> first | (exfalso; cases hq; done) | (exfalso; simp only [decide_eq_true_eq, decide_eq_false_iff_not, beq_iff_eq, beq_eq_false_iff_ne, ne_eq, Int.not_lt, Int.not_le] at hq; omega) | simp only [Act.put, List.setIfInBounds_toArray, List.set_cons_succ, List.set_cons_zero]))); all_goals (refine Mix.lex_nil ?_)))
          go_roundw
          case rel => exact ⟨j + 1, by omega, by go_num, r7, l', d', A7, c7, ysW ++ [((yA, yc), ch)], (by rw [List.length_append]; rfl), (by rw [List.length_append]; rfl), HLg'.out, (by rw [List.length_append, List.length_singleton]; omega), TN.out⟩
          case measure => simp [intOf]; omega
        · -- refused
          rw [errV_pos hf0]
          have HNum := Lib.hid (numberT_c fv wc)
          rw [errV_pos hf0] at HNum
          have gf : (fv == 11) = false := by rw [beq_eq_false_iff_ne]; exact hf11
          go_wp2_with (first | (refine Mix.wpList_guarded rfl ?_; (repeat' (first | (refine Mix.lex_quiet0 rfl rfl rfl ?_; intro K hK; go_big_quiet_op; go_big_quiet_on) | (refine Mix.lex_quietG rfl rfl rfl (by with_reducible rfl) rfl rfl ?_; intro K hK; go_big_quiet_op; go_big_quiet_on) | ((first | refine Mix.lex_skipT rfl rfl rfl (by with_reducible rfl) ?_ | refine Mix.lex_skipF rfl rfl rfl (by with_reducible rfl) ?_ | refine Mix.lex_skipU rfl rfl rfl (by with_reducible rfl) ?_); simp only [Act.put, List.setIfInBounds_toArray, List.set_cons_succ, List.set_cons_zero]) | (refine Mix.lex_part rfl rfl rfl rfl (fun hq => ?_) (fun hq => ?_) <;> (fail_if_success (guard_hyp hq :ₛ true = true)) <;> (fail_if_success (guard_hyp hq :ₛ false = false)) <;> first | (exfalso; cases hq; done) | (exfalso; simp only [decide_eq_true_eq, decide_eq_false_iff_not, beq_iff_eq, beq_eq_false_iff_ne, ne_eq, Int.not_lt, Int.not_le] at hq; omega) | simp only [Act.put, List.setIfInBounds_toArray, List.set_cons_succ, List.set_cons_zero]))); all_goals (refine Mix.lex_nil ?_)) | (refine Mix.wp_still (by kernel_rfl) (by kernel_rfl) ?_; (repeat' (first | (refine Mix.lex_quiet0 rfl rfl rfl ?_; intro K hK; go_big_quiet_op; go_big_quiet_on) | (refine Mix.lex_quietG rfl rfl rfl (by with_reducible rfl) rfl rfl ?_; intro K hK; go_big_quiet_op; go_big_quiet_on) | ((first | refine Mix.lex_skipT rfl rfl rfl (by with_reducible rfl) ?_ | refine Mix.lex_skipF rfl rfl rfl (by with_reducible rfl) ?_ | refine Mix.lex_skipU rfl rfl rfl (by with_reducible rfl) ?_); simp only [Act.put, List.setIfInBounds_toArray, List.set_cons_succ, List.set_cons_zero]) | (refine Mix.lex_part rfl rfl rfl rfl (fun hq => ?_) (fun hq => ?_) <;> (fail_if_success (guard_hyp hq :ₛ true = true)) <;> (fail_if_success (guard_hyp hq :ₛ false = false)) <;> first | (exfalso; cases hq; done) | (exfalso; simp only [decide_eq_true_eq, decide_eq_false_iff_not, beq_iff_eq, beq_eq_false_iff_ne, ne_eq, Int.not_lt, Int.not_le] at hq; omega) | simp only [Act.put, List.setIfInBounds_toArray, List.set_cons_succ, List.set_cons_zero]))); all_goals (refine Mix.lex_nil ?_)))
          refine HNum.out.mono ?_
          rintro e u8 ⟨rfl, hu⟩
          have E8 := Lib.hid (FF7.out.ext.then_ext hu)
          have TN : Hid (TS w u8 rg r7 l d wA ysW) := by
            subst hl0 hd0
            exact ⟨LW7.out.ext E8.out, Hrg7.out, T6.out.lf, T6.out.lm, T6.out.l1, T6.out.dn, T6.out.nx, T6.out.rs, RW7.out.ext E8.out, X7.out.then_ext E8.out, M7.out.ext E8.out⟩
          clear hl0 hd0 FF7 hF7 hu
          go_wp2_with (first | (refine Mix.wpList_guarded rfl ?_; (repeat' (first | (refine Mix.lex_quiet0 rfl rfl rfl ?_; intro K hK; go_big_quiet_op; go_big_quiet_on) | (refine Mix.lex_quietG rfl rfl rfl (by with_reducible rfl) rfl rfl ?_; intro K hK; go_big_quiet_op; go_big_quiet_on) | ((first | refine Mix.lex_skipT rfl rfl rfl (by with_reducible rfl) ?_ | refine Mix.lex_skipF rfl rfl rfl (by with_reducible rfl) ?_ | refine Mix.lex_skipU rfl rfl rfl (by with_reducible rfl) ?_); simp only [Act.put, List.setIfInBounds_toArray, List.set_cons_succ, List.set_cons_zero]) | (refine Mix.lex_part rfl rfl rfl rfl (fun hq => ?_) (fun hq => ?_) <;> (fail_if_success (guard_hyp hq :ₛ true = true)) <;> (fail_if_success (guard_hyp hq :ₛ false = false)) <;> first | (exfalso; cases hq; done) | (exfalso; simp only [decide_eq_true_eq, decide_eq_false_iff_not, beq_iff_eq, beq_eq_false_iff_ne, ne_eq, Int.not_lt, Int.not_le] at hq; omega) | simp only [Act.put, List.setIfInBounds_toArray, List.set_cons_succ, List.set_cons_zero]))); all_goals (refine Mix.lex_nil ?_)) | (refine Mix.wp_still (by kernel_rfl) (by kernel_rfl) ?_; (repeat' (first | (refine Mix.lex_quiet0 rfl rfl rfl ?_; intro K hK; go_big_quiet_op; go_big_quiet_on) | (refine Mix.lex_quietG rfl rfl rfl (by with_reducible rfl) rfl rfl ?_; intro K hK; go_big_quiet_op; go_big_quiet_on) | ((first | refine Mix.lex_skipT rfl rfl rfl (by with_reducible rfl) ?_ | refine Mix.lex_skipF rfl rfl rfl (by with_reducible rfl) ?_ | refine Mix.lex_skipU rfl rfl rfl (by with_reducible rfl) ?_); simp only [Act.put, List.setIfInBounds_toArray, List.set_cons_succ, List.set_cons_zero]) | (refine Mix.lex_part rfl rfl rfl rfl (fun hq => ?_) (fun hq => ?_) <;> (fail_if_success (guard_hyp hq :ₛ true = true)) <;> (fail_if_success (guard_hyp hq :ₛ false = false)) <;> first | (exfalso; cases hq; done) | (exfalso; simp only [decide_eq_true_eq, decide_eq_false_iff_not, beq_iff_eq, beq_eq_false_iff_ne, ne_eq, Int.not_lt, Int.not_le] at hq; omega) | simp only [Act.put, List.setIfInBounds_toArray, List.set_cons_succ, List.set_cons_zero]))); all_goals (refine Mix.lex_nil ?_)))
          go_roundw
          case rel => exact ⟨j + 1, by omega, by go_num, r7, l, d, wA, wcap, ysW, rfl, rfl, HLg.out, by omega, TN.out⟩
          case measure => simp [intOf]; omega
        · -- the disk fell
          subst hf11
          have HNum := Lib.hid (numberT_c 11 wc)
          rw [errV_pos (by decide)] at HNum ⊢
          go_wp2_with (first | (refine Mix.wpList_guarded rfl ?_; (repeat' (first | (refine Mix.lex_quiet0 rfl rfl rfl ?_; intro K hK; go_big_quiet_op; go_big_quiet_on) | (refine Mix.lex_quietG rfl rfl rfl (by with_reducible rfl) rfl rfl ?_; intro K hK; go_big_quiet_op; go_big_quiet_on) | ((first | refine Mix.lex_skipT rfl rfl rfl (by with_reducible rfl) ?_ | refine Mix.lex_skipF rfl rfl rfl (by with_reducible rfl) ?_ | refine Mix.lex_skipU rfl rfl rfl (by with_reducible rfl) ?_); simp only [Act.put, List.setIfInBounds_toArray, List.set_cons_succ, List.set_cons_zero]) | (refine Mix.lex_part rfl rfl rfl rfl (fun hq => ?_) (fun hq => ?_) <;> (fail_if_success (guard_hyp hq :ₛ true = true)) <;> (fail_if_success (guard_hyp hq :ₛ false = false)) <;> first | (exfalso; cases hq; done) | (exfalso; simp only [decide_eq_true_eq, decide_eq_false_iff_not, beq_iff_eq, beq_eq_false_iff_ne, ne_eq, Int.not_lt, Int.not_le] at hq; omega) | simp only [Act.put, List.setIfInBounds_toArray, List.set_cons_succ, List.set_cons_zero]))); all_goals (refine Mix.lex_nil ?_)) | (refine Mix.wp_still (by kernel_rfl) (by kernel_rfl) ?_; (repeat' (first | (refine Mix.lex_quiet0 rfl rfl rfl ?_; intro K hK; go_big_quiet_op; go_big_quiet_on) | (refine Mix.lex_quietG rfl rfl rfl (by with_reducible rfl) rfl rfl ?_; intro K hK; go_big_quiet_op; go_big_quiet_on) | ((first | refine Mix.lex_skipT rfl rfl rfl (by with_reducible rfl) ?_ | refine Mix.lex_skipF rfl rfl rfl (by with_reducible rfl) ?_ | refine Mix.lex_skipU rfl rfl rfl (by with_reducible rfl) ?_); simp only [Act.put, List.setIfInBounds_toArray, List.set_cons_succ, List.set_cons_zero]) | (refine Mix.lex_part rfl rfl rfl rfl (fun hq => ?_) (fun hq => ?_) <;> (fail_if_success (guard_hyp hq :ₛ true = true)) <;> (fail_if_success (guard_hyp hq :ₛ false = false)) <;> first | (exfalso; cases hq; done) | (exfalso; simp only [decide_eq_true_eq, decide_eq_false_iff_not, beq_iff_eq, beq_eq_false_iff_ne, ne_eq, Int.not_lt, Int.not_le] at hq; omega) | simp only [Act.put, List.setIfInBounds_toArray, List.set_cons_succ, List.set_cons_zero]))); all_goals (refine Mix.lex_nil ?_)))
          refine HNum.out.mono ?_
          rintro e u8 ⟨rfl, hu⟩
          have E8 := Lib.hid (FF7.out.ext.then_ext hu)
          have LWX : Hid (LgW w u8 r7 l' d') := LW7.out.ext E8.out
          have HgX := Hrg7
          have XX : Hid (Ext w u8) := X7.out.then_ext E8.out
          have MX : Hid (Ml u8) := M7.out.ext E8.out
          have RWX := Lib.hid (RW7.out.ext E8.out)
          obtain ⟨ysL, hysL⟩ : ∃ z, z = ysW ++ [((yA, yc), ch)] := ⟨_, rfl⟩
          have RLX : Hid (Rob w u8 fun u => DedR u A7 ysL.length ysL) := by rw [hysL]; exact RN.out.ext hu
          have hLn : ysW.length + 1 = ysL.length := by rw [hysL, List.length_append]; rfl
          have SM := Lib.hid T6.out.small'
          have AF : Hid (d'.wait.length ≤ 1000 ∧ ∀ K, (∀ s ∈ keepFrom K d'.kept d'.wait 0, s.length = 340) ∧ (keepFrom K d'.kept d'.wait 0).length = 60 ∧ ∃ u, scanF 5 (((keepFrom K d'.kept d'.wait 0).drop 1).take 59) 0 [] [] 0 = (ysW.map (·.2), u) ∨ scanF 5 (((keepFrom K d'.kept d'.wait 0).drop 1).take 59) 0 [] [] 0 = (ysL.map (·.2), u)) := by
            refine ⟨?_, fun K => ?_⟩
            · have h1 := addF_wait l ch d
              have h2 : ch.length ≤ 14 := HC.out.1
              rw [HAd.out, T6.out.rs.wt] at h1
              have h3 : d'.wait.length ≤ 0 + ch.length + 3 := h1
              omega
            · obtain ⟨h1, h2, u, h3⟩ := hafter K
              refine ⟨h1, h2.trans T6.out.dn, u, ?_⟩
              rw [hysL, List.map_append]
              have := h3
              unfold reg at this
              rw [T6.out.lf, T6.out.lm, T6.out.l1] at this
              exact this
          have SL : Hid ((∀ y ∈ ysL, y.2.length ≤ 1000) ∧ ysL.length ≤ 61) := by
            refine ⟨fun y hy => ?_, by have := SM.out.2; omega⟩
            rw [hysL] at hy
            rcases List.mem_append.1 hy with h | h
            · exact SM.out.1 y h
            · obtain rfl := List.mem_singleton.1 h; have := HC.out.1; show ch.length ≤ 1000; omega
          clear hl0 hafter FF7 hF7 hu RN HCase HAd LW7 X7 M7 RW7 hysL
          rw [hLn]
          go_wp2_with (first | (refine Mix.wpList_guarded rfl ?_; (repeat' (first | (refine Mix.lex_quiet0 rfl rfl rfl ?_; intro K hK; go_big_quiet_op; go_big_quiet_on) | (refine Mix.lex_quietG rfl rfl rfl (by with_reducible rfl) rfl rfl ?_; intro K hK; go_big_quiet_op; go_big_quiet_on) | ((first | refine Mix.lex_skipT rfl rfl rfl (by with_reducible rfl) ?_ | refine Mix.lex_skipF rfl rfl rfl (by with_reducible rfl) ?_ | refine Mix.lex_skipU rfl rfl rfl (by with_reducible rfl) ?_); simp only [Act.put, List.setIfInBounds_toArray, List.set_cons_succ, List.set_cons_zero]) | (refine Mix.lex_part rfl rfl rfl rfl (fun hq => ?_) (fun hq => ?_) <;> (fail_if_success (guard_hyp hq :ₛ true = true)) <;> (fail_if_success (guard_hyp hq :ₛ false = false)) <;> first | (exfalso; cases hq; done) | (exfalso; simp only [decide_eq_true_eq, decide_eq_false_iff_not, beq_iff_eq, beq_eq_false_iff_ne, ne_eq, Int.not_lt, Int.not_le] at hq; omega) | simp only [Act.put, List.setIfInBounds_toArray, List.set_cons_succ, List.set_cons_zero]))); all_goals (refine Mix.lex_nil ?_)) | (refine Mix.wp_still (by kernel_rfl) (by kernel_rfl) ?_; (repeat' (first | (refine Mix.lex_quiet0 rfl rfl rfl ?_; intro K hK; go_big_quiet_op; go_big_quiet_on) | (refine Mix.lex_quietG rfl rfl rfl (by with_reducible rfl) rfl rfl ?_; intro K hK; go_big_quiet_op; go_big_quiet_on) | ((first | refine Mix.lex_skipT rfl rfl rfl (by with_reducible rfl) ?_ | refine Mix.lex_skipF rfl rfl rfl (by with_reducible rfl) ?_ | refine Mix.lex_skipU rfl rfl rfl (by with_reducible rfl) ?_); simp only [Act.put, List.setIfInBounds_toArray, List.set_cons_succ, List.set_cons_zero]) | (refine Mix.lex_part rfl rfl rfl rfl (fun hq => ?_) (fun hq => ?_) <;> (fail_if_success (guard_hyp hq :ₛ true = true)) <;> (fail_if_success (guard_hyp hq :ₛ false = false)) <;> first | (exfalso; cases hq; done) | (exfalso; simp only [decide_eq_true_eq, decide_eq_false_iff_not, beq_iff_eq, beq_eq_false_iff_ne, ne_eq, Int.not_lt, Int.not_le] at hq; omega) | simp only [Act.put, List.setIfInBounds_toArray, List.set_cons_succ, List.set_cons_zero]))); all_goals (refine Mix.lex_nil ?_)))
          have HR := Lib.hid (Restart_c LWX.out.dk K hK (by have := AF.out.1; omega))
          rw [HgX.out, hrg] at HR
          refine HR.out.mono ?_
          intro e v9 hr
          obtain ⟨rfl, r9, hr9, hL9, hx9, -⟩ := LWX.out.dkr XX.out.size hr
          have L9 := Lib.hid hL9
          have Hg9 : Hid (r9.g = r.g) := hr9.trans (HgX.out.trans hrg)
          have X9 : Hid (Ext w v9) := XX.out.ext_frn' hx9
          have M9 : Hid (Ml v9) := HM.out.frn MX.out hx9
          have RW9 := Lib.hid (RWX.out.step hx9 fun _ _ e => e)
          have RL9 := Lib.hid (RLX.out.step hx9 fun _ _ e => e)
          obtain ⟨kw, kl, us, ksc⟩ := AF.out.2 K
          have KW := Lib.hid kw
          have KL := Lib.hid kl
          have KS := Lib.hid ksc
          have HO := Lib.hid (Open_ok M9.out L9.out.dk rfl kw 1 59 5 (by omega) (by show 1 + 59 ≤ (keepFrom K d'.kept d'.wait 0).length; omega) (by omega) (by omega))
          rw [Hg9.out] at HO
          clear hr hr9 hL9 hx9 kw kl ksc HR LWX XX MX RWX RLX
          go_wp2_with (first | (refine Mix.wpList_guarded rfl ?_; (repeat' (first | (refine Mix.lex_quiet0 rfl rfl rfl ?_; intro K hK; go_big_quiet_op; go_big_quiet_on) | (refine Mix.lex_quietG rfl rfl rfl (by with_reducible rfl) rfl rfl ?_; intro K hK; go_big_quiet_op; go_big_quiet_on) | ((first | refine Mix.lex_skipT rfl rfl rfl (by with_reducible rfl) ?_ | refine Mix.lex_skipF rfl rfl rfl (by with_reducible rfl) ?_ | refine Mix.lex_skipU rfl rfl rfl (by with_reducible rfl) ?_); simp only [Act.put, List.setIfInBounds_toArray, List.set_cons_succ, List.set_cons_zero]) | (refine Mix.lex_part rfl rfl rfl rfl (fun hq => ?_) (fun hq => ?_) <;> (fail_if_success (guard_hyp hq :ₛ true = true)) <;> (fail_if_success (guard_hyp hq :ₛ false = false)) <;> first | (exfalso; cases hq; done) | (exfalso; simp only [decide_eq_true_eq, decide_eq_false_iff_not, beq_iff_eq, beq_eq_false_iff_ne, ne_eq, Int.not_lt, Int.not_le] at hq; omega) | simp only [Act.put, List.setIfInBounds_toArray, List.set_cons_succ, List.set_cons_zero]))); all_goals (refine Mix.lex_nil ?_)) | (refine Mix.wp_still (by kernel_rfl) (by kernel_rfl) ?_; (repeat' (first | (refine Mix.lex_quiet0 rfl rfl rfl ?_; intro K hK; go_big_quiet_op; go_big_quiet_on) | (refine Mix.lex_quietG rfl rfl rfl (by with_reducible rfl) rfl rfl ?_; intro K hK; go_big_quiet_op; go_big_quiet_on) | ((first | refine Mix.lex_skipT rfl rfl rfl (by with_reducible rfl) ?_ | refine Mix.lex_skipF rfl rfl rfl (by with_reducible rfl) ?_ | refine Mix.lex_skipU rfl rfl rfl (by with_reducible rfl) ?_); simp only [Act.put, List.setIfInBounds_toArray, List.set_cons_succ, List.set_cons_zero]) | (refine Mix.lex_part rfl rfl rfl rfl (fun hq => ?_) (fun hq => ?_) <;> (fail_if_success (guard_hyp hq :ₛ true = true)) <;> (fail_if_success (guard_hyp hq :ₛ false = false)) <;> first | (exfalso; cases hq; done) | (exfalso; simp only [decide_eq_true_eq, decide_eq_false_iff_not, beq_iff_eq, beq_eq_false_iff_ne, ne_eq, Int.not_lt, Int.not_le] at hq; omega) | simp only [Act.put, List.setIfInBounds_toArray, List.set_cons_succ, List.set_cons_zero]))); all_goals (refine Mix.lex_nil ?_)))
          refine HO.out.mono ?_
          rintro e v10 ⟨g2, oA2, oc2, ys2, rfl, hg2, hLa, hD2, hys2, hx⟩
          obtain ⟨R, hR⟩ : ∃ R, R = scanF 5 (((d'.restarted K).now.drop 1).take 59) 0 [] [] 0 := ⟨_, rfl⟩
          rw [← hR] at hLa hys2
          have HOut : Hid (ys2.map (·.2) = ysW.map (·.2) ∨ ys2.map (·.2) = ysL.map (·.2)) := by
            rw [Hid, hys2, hR]
            rcases KS.out with h | h
            · exact .inl (congrArg Prod.fst h)
            · exact .inr (congrArg Prod.fst h)
          go_wp2_with (first | (refine Mix.wpList_guarded rfl ?_; (repeat' (first | (refine Mix.lex_quiet0 rfl rfl rfl ?_; intro K hK; go_big_quiet_op; go_big_quiet_on) | (refine Mix.lex_quietG rfl rfl rfl (by with_reducible rfl) rfl rfl ?_; intro K hK; go_big_quiet_op; go_big_quiet_on) | ((first | refine Mix.lex_skipT rfl rfl rfl (by with_reducible rfl) ?_ | refine Mix.lex_skipF rfl rfl rfl (by with_reducible rfl) ?_ | refine Mix.lex_skipU rfl rfl rfl (by with_reducible rfl) ?_); simp only [Act.put, List.setIfInBounds_toArray, List.set_cons_succ, List.set_cons_zero]) | (refine Mix.lex_part rfl rfl rfl rfl (fun hq => ?_) (fun hq => ?_) <;> (fail_if_success (guard_hyp hq :ₛ true = true)) <;> (fail_if_success (guard_hyp hq :ₛ false = false)) <;> first | (exfalso; cases hq; done) | (exfalso; simp only [decide_eq_true_eq, decide_eq_false_iff_not, beq_iff_eq, beq_eq_false_iff_ne, ne_eq, Int.not_lt, Int.not_le] at hq; omega) | simp only [Act.put, List.setIfInBounds_toArray, List.set_cons_succ, List.set_cons_zero]))); all_goals (refine Mix.lex_nil ?_)) | (refine Mix.wp_still (by kernel_rfl) (by kernel_rfl) ?_; (repeat' (first | (refine Mix.lex_quiet0 rfl rfl rfl ?_; intro K hK; go_big_quiet_op; go_big_quiet_on) | (refine Mix.lex_quietG rfl rfl rfl (by with_reducible rfl) rfl rfl ?_; intro K hK; go_big_quiet_op; go_big_quiet_on) | ((first | refine Mix.lex_skipT rfl rfl rfl (by with_reducible rfl) ?_ | refine Mix.lex_skipF rfl rfl rfl (by with_reducible rfl) ?_ | refine Mix.lex_skipU rfl rfl rfl (by with_reducible rfl) ?_); simp only [Act.put, List.setIfInBounds_toArray, List.set_cons_succ, List.set_cons_zero]) | (refine Mix.lex_part rfl rfl rfl rfl (fun hq => ?_) (fun hq => ?_) <;> (fail_if_success (guard_hyp hq :ₛ true = true)) <;> (fail_if_success (guard_hyp hq :ₛ false = false)) <;> first | (exfalso; cases hq; done) | (exfalso; simp only [decide_eq_true_eq, decide_eq_false_iff_not, beq_iff_eq, beq_eq_false_iff_ne, ne_eq, Int.not_lt, Int.not_le] at hq; omega) | simp only [Act.put, List.setIfInBounds_toArray, List.set_cons_succ, List.set_cons_zero]))); all_goals (refine Mix.lex_nil ?_)))
          have X10 : Hid (Ext w v10) := X9.out.then_ext hx
          have L10 : Hid (LgW w v10 r9 ⟨g2, 1, 59, 5, R.2⟩ (d'.restarted K)) := ⟨L9.out.dk.ext hx, by rw [Hg9.out]; exact hLa, L9.out.fp, Nat.le_trans X9.out.size hg2⟩
          have M10 := Lib.hid (M9.out.ext hx)
          have RW10 := Lib.hid (RW9.out.ext hx)
          have RL10 := Lib.hid (RL9.out.ext hx)
          have DD10 := Lib.hid hD2
          have HY := Lib.hid hys2
          have HRR := Lib.hid hR
          have SO : Hid ((∀ y ∈ ys2, y.2.length ≤ 1000) ∧ ys2.length ≤ 61) := by
            have hgen : ∀ zs : List DeedV, ys2.map (·.2) = zs.map (·.2) → (∀ y ∈ zs, y.2.length ≤ 1000) → zs.length ≤ 61 → (∀ y ∈ ys2, y.2.length ≤ 1000) ∧ ys2.length ≤ 61 := fun zs h1 h2 h3 => by
              refine ⟨fun y hy => ?_, by have := congrArg List.length h1; simp only [List.length_map] at this; omega⟩
              have h4 : y.2 ∈ zs.map (·.2) := by rw [← h1]; exact List.mem_map_of_mem hy
              obtain ⟨z, h5, h6⟩ := List.mem_map.1 h4
              rw [← h6]; exact h2 z h5
            rcases HOut.out with h | h
            · exact hgen _ h SM.out.1 (by have := SM.out.2; omega)
            · exact hgen _ h SL.out.1 SL.out.2
          have HS1 := Lib.hid (SameDeeds_c (c := oc2) (d := wcap) hD2.red RW10.out.here (by have := SO.out.2; omega) (by have := SM.out.2; omega) (fun y hy => by have := SO.out.1 y hy; omega) (fun y hy => by have := SM.out.1 y hy; omega))
          obtain ⟨q, hq⟩ : ∃ q, q = decide (ys2.map (·.2) = ysW.map (·.2)) := ⟨_, rfl⟩
          rw [← hq] at HS1
          have HQ := Lib.hid hq
          clear hq hys2 hR hLa hD2 hx hg2 L9 X9 M9 RW9 RL9 HO
          refine HS1.out.mono ?_
          rintro e v11 ⟨rfl, hu⟩
          have E11 := Lib.hid hu
          clear hu HS1
          cases q
          · have HS2 := Lib.hid (SameDeeds_c (c := oc2) (d := c7) (DD10.out.ext E11.out).red (RL10.out.ext E11.out).here (by have := SO.out.2; omega) (by have := SL.out.2; omega) (fun y hy => by have := SO.out.1 y hy; omega) (fun y hy => by have := SL.out.1 y hy; omega))
            rw [decide_eq_true (by
              rcases HOut.out with h | h
              · exact absurd h (of_decide_eq_false HQ.out.symm)
              · exact h)] at HS2
            go_wp2_with (first | (refine Mix.wpList_guarded rfl ?_; (repeat' (first | (refine Mix.lex_quiet0 rfl rfl rfl ?_; intro K hK; go_big_quiet_op; go_big_quiet_on) | (refine Mix.lex_quietG rfl rfl rfl (by with_reducible rfl) rfl rfl ?_; intro K hK; go_big_quiet_op; go_big_quiet_on) | ((first | refine Mix.lex_skipT rfl rfl rfl (by with_reducible rfl) ?_ | refine Mix.lex_skipF rfl rfl rfl (by with_reducible rfl) ?_ | refine Mix.lex_skipU rfl rfl rfl (by with_reducible rfl) ?_); simp only [Act.put, List.setIfInBounds_toArray, List.set_cons_succ, List.set_cons_zero]) | (refine Mix.lex_part rfl rfl rfl rfl (fun hq => ?_) (fun hq => ?_) <;> (fail_if_success (guard_hyp hq :ₛ true = true)) <;> (fail_if_success (guard_hyp hq :ₛ false = false)) <;> first | (exfalso; cases hq; done) | (exfalso; simp only [decide_eq_true_eq, decide_eq_false_iff_not, beq_iff_eq, beq_eq_false_iff_ne, ne_eq, Int.not_lt, Int.not_le] at hq; omega) | simp only [Act.put, List.setIfInBounds_toArray, List.set_cons_succ, List.set_cons_zero]))); all_goals (refine Mix.lex_nil ?_)) | (refine Mix.wp_still (by kernel_rfl) (by kernel_rfl) ?_; (repeat' (first | (refine Mix.lex_quiet0 rfl rfl rfl ?_; intro K hK; go_big_quiet_op; go_big_quiet_on) | (refine Mix.lex_quietG rfl rfl rfl (by with_reducible rfl) rfl rfl ?_; intro K hK; go_big_quiet_op; go_big_quiet_on) | ((first | refine Mix.lex_skipT rfl rfl rfl (by with_reducible rfl) ?_ | refine Mix.lex_skipF rfl rfl rfl (by with_reducible rfl) ?_ | refine Mix.lex_skipU rfl rfl rfl (by with_reducible rfl) ?_); simp only [Act.put, List.setIfInBounds_toArray, List.set_cons_succ, List.set_cons_zero]) | (refine Mix.lex_part rfl rfl rfl rfl (fun hq => ?_) (fun hq => ?_) <;> (fail_if_success (guard_hyp hq :ₛ true = true)) <;> (fail_if_success (guard_hyp hq :ₛ false = false)) <;> first | (exfalso; cases hq; done) | (exfalso; simp only [decide_eq_true_eq, decide_eq_false_iff_not, beq_iff_eq, beq_eq_false_iff_ne, ne_eq, Int.not_lt, Int.not_le] at hq; omega) | simp only [Act.put, List.setIfInBounds_toArray, List.set_cons_succ, List.set_cons_zero]))); all_goals (refine Mix.lex_nil ?_)))
            refine HS2.out.mono ?_
            rintro e v12 ⟨rfl, hu⟩
            have E11 := Lib.hid (E11.out.then_ext hu)
            clear hu HS2
            have HU : Hid (R.2 ≤ 59) := by
              have h := (scan_from (first := 5) (L := ((d'.restarted K).now.drop 1).take 59) (out := R.1) (used := R.2) (by rw [← HRR.out])).1
              exact Nat.le_trans h (List.length_take_le _ _)
            go_wp2_with (first | (refine Mix.wpList_guarded rfl ?_; (repeat' (first | (refine Mix.lex_quiet0 rfl rfl rfl ?_; intro K hK; go_big_quiet_op; go_big_quiet_on) | (refine Mix.lex_quietG rfl rfl rfl (by with_reducible rfl) rfl rfl ?_; intro K hK; go_big_quiet_op; go_big_quiet_on) | ((first | refine Mix.lex_skipT rfl rfl rfl (by with_reducible rfl) ?_ | refine Mix.lex_skipF rfl rfl rfl (by with_reducible rfl) ?_ | refine Mix.lex_skipU rfl rfl rfl (by with_reducible rfl) ?_); simp only [Act.put, List.setIfInBounds_toArray, List.set_cons_succ, List.set_cons_zero]) | (refine Mix.lex_part rfl rfl rfl rfl (fun hq => ?_) (fun hq => ?_) <;> (fail_if_success (guard_hyp hq :ₛ true = true)) <;> (fail_if_success (guard_hyp hq :ₛ false = false)) <;> first | (exfalso; cases hq; done) | (exfalso; simp only [decide_eq_true_eq, decide_eq_false_iff_not, beq_iff_eq, beq_eq_false_iff_ne, ne_eq, Int.not_lt, Int.not_le] at hq; omega) | simp only [Act.put, List.setIfInBounds_toArray, List.set_cons_succ, List.set_cons_zero]))); all_goals (refine Mix.lex_nil ?_)) | (refine Mix.wp_still (by kernel_rfl) (by kernel_rfl) ?_; (repeat' (first | (refine Mix.lex_quiet0 rfl rfl rfl ?_; intro K hK; go_big_quiet_op; go_big_quiet_on) | (refine Mix.lex_quietG rfl rfl rfl (by with_reducible rfl) rfl rfl ?_; intro K hK; go_big_quiet_op; go_big_quiet_on) | ((first | refine Mix.lex_skipT rfl rfl rfl (by with_reducible rfl) ?_ | refine Mix.lex_skipF rfl rfl rfl (by with_reducible rfl) ?_ | refine Mix.lex_skipU rfl rfl rfl (by with_reducible rfl) ?_); simp only [Act.put, List.setIfInBounds_toArray, List.set_cons_succ, List.set_cons_zero]) | (refine Mix.lex_part rfl rfl rfl rfl (fun hq => ?_) (fun hq => ?_) <;> (fail_if_success (guard_hyp hq :ₛ true = true)) <;> (fail_if_success (guard_hyp hq :ₛ false = false)) <;> first | (exfalso; cases hq; done) | (exfalso; simp only [decide_eq_true_eq, decide_eq_false_iff_not, beq_iff_eq, beq_eq_false_iff_ne, ne_eq, Int.not_lt, Int.not_le] at hq; omega) | simp only [Act.put, List.setIfInBounds_toArray, List.set_cons_succ, List.set_cons_zero]))); all_goals (refine Mix.lex_nil ?_)))
            obtain ⟨g13, hg13⟩ : ∃ x, x = v12.heap.size := ⟨_, rfl⟩
            obtain ⟨w13, hw13⟩ : ∃ v, v = v12.alloc (.cells #[S [102, 47, 122], S [122], .bool false] chT) := ⟨_, rfl⟩
            have x13 : Ext v12 w13 := by rw [hw13]; exact (Only.refl No v12).alloc _
            have hC13 : Cs w13 g13 chT #[S [102, 47, 122], S [122], .bool false] := by rw [hw13, hg13]; exact Cs.new _ _ _
            rw [← hw13, ← hg13]
            have X13 := Lib.hid (X10.out.then_ext (E11.out.then_ext x13))
            have L13 := Lib.hid (L10.out.ext (E11.out.then_ext x13))
            have M13 := Lib.hid (M10.out.ext (E11.out.then_ext x13))
            have RG13 : Hid (Rob w w13 fun u => DedR u oA2 ys2.length ys2) := (DD10.out.ext (E11.out.then_ext x13)).rob
            have RC13 : Hid (Rob w w13 fun u => SlR chF u (some ⟨g13, 0, none⟩) 1 [topC]) := fun u hu => sl_cs (T := chF) (x := topC) (rob_cs (w0 := w) hC13 (by decide) (by decide) (by decide) (by decide) u hu) rfl
            clear hw13 hg13 hC13 x13 E11 X10 L10 M10 DD10 RW10 RL10
            have HRm := Lib.hid (Room_c L13.out.lg (show 59 ≤ 1000 by decide) HU.out)
            refine HRm.out.mono ?_
            rintro e v14 ⟨rfl, hu⟩
            have X14 := Lib.hid (X13.out.then_ext hu)
            have L14 := Lib.hid (L13.out.ext hu)
            have M14 := Lib.hid (M13.out.ext hu)
            have RG14 := Lib.hid (RG13.out.ext hu)
            have RC14 := Lib.hid (RC13.out.ext hu)
            clear hu HRm X13 L13 M13 RG13 RC13
            by_cases hr2 : 59 - R.2 < 2
            · have gr1 : decide (((59 - R.2 : Nat) : Int) < 2) = true := decide_eq_true (by omega)
              have gr2 : decide (59 - R.2 < 2) = true := decide_eq_true hr2
              go_wp2_with (first | (refine Mix.wpList_guarded rfl ?_; (repeat' (first | (refine Mix.lex_quiet0 rfl rfl rfl ?_; intro K hK; go_big_quiet_op; go_big_quiet_on) | (refine Mix.lex_quietG rfl rfl rfl (by with_reducible rfl) rfl rfl ?_; intro K hK; go_big_quiet_op; go_big_quiet_on) | ((first | refine Mix.lex_skipT rfl rfl rfl (by with_reducible rfl) ?_ | refine Mix.lex_skipF rfl rfl rfl (by with_reducible rfl) ?_ | refine Mix.lex_skipU rfl rfl rfl (by with_reducible rfl) ?_); simp only [Act.put, List.setIfInBounds_toArray, List.set_cons_succ, List.set_cons_zero]) | (refine Mix.lex_part rfl rfl rfl rfl (fun hq => ?_) (fun hq => ?_) <;> (fail_if_success (guard_hyp hq :ₛ true = true)) <;> (fail_if_success (guard_hyp hq :ₛ false = false)) <;> first | (exfalso; cases hq; done) | (exfalso; simp only [decide_eq_true_eq, decide_eq_false_iff_not, beq_iff_eq, beq_eq_false_iff_ne, ne_eq, Int.not_lt, Int.not_le] at hq; omega) | simp only [Act.put, List.setIfInBounds_toArray, List.set_cons_succ, List.set_cons_zero]))); all_goals (refine Mix.lex_nil ?_)) | (refine Mix.wp_still (by kernel_rfl) (by kernel_rfl) ?_; (repeat' (first | (refine Mix.lex_quiet0 rfl rfl rfl ?_; intro K hK; go_big_quiet_op; go_big_quiet_on) | (refine Mix.lex_quietG rfl rfl rfl (by with_reducible rfl) rfl rfl ?_; intro K hK; go_big_quiet_op; go_big_quiet_on) | ((first | refine Mix.lex_skipT rfl rfl rfl (by with_reducible rfl) ?_ | refine Mix.lex_skipF rfl rfl rfl (by with_reducible rfl) ?_ | refine Mix.lex_skipU rfl rfl rfl (by with_reducible rfl) ?_); simp only [Act.put, List.setIfInBounds_toArray, List.set_cons_succ, List.set_cons_zero]) | (refine Mix.lex_part rfl rfl rfl rfl (fun hq => ?_) (fun hq => ?_) <;> (fail_if_success (guard_hyp hq :ₛ true = true)) <;> (fail_if_success (guard_hyp hq :ₛ false = false)) <;> first | (exfalso; cases hq; done) | (exfalso; simp only [decide_eq_true_eq, decide_eq_false_iff_not, beq_iff_eq, beq_eq_false_iff_ne, ne_eq, Int.not_lt, Int.not_le] at hq; omega) | simp only [Act.put, List.setIfInBounds_toArray, List.set_cons_succ, List.set_cons_zero]))); all_goals (refine Mix.lex_nil ?_)))
              go_ret
              exact ⟨rfl, X14.out⟩
            · have gr1 : decide (((59 - R.2 : Nat) : Int) < 2) = false := decide_eq_false (by omega)
              have gr2 : decide (59 - R.2 < 2) = false := decide_eq_false hr2
              have hUp : (d'.restarted K).Up := ⟨rfl, rfl, KW.out⟩
              obtain ⟨d', e1, e2, e3, -, -, e4, -⟩ := add_up (l := ⟨g2, 1, 59, 5, R.2⟩) (c := [topC]) (d := d'.restarted K) (out := R.1) hUp (by show 1 + 59 ≤ (keepFrom K d'.kept d'.wait 0).length; have := KL.out; omega) (by show scanF 5 (((d'.restarted K).now.drop 1).take 59) 0 [] [] 0 = _; rw [← HRR.out]) topC_good (by decide) (show R.2 + 1 + 1 ≤ 59 by omega)
              have HA2 := Lib.hid (Add_c (cap := 1) (n := 1) (A := some ⟨g13, 0, none⟩) (c := [topC]) HM.out M14.out L14.out X14.out.size RC14.out (fun x hx => by rw [List.mem_singleton] at hx; subst hx; decide) (by decide) (Nat.zero_le _) (show 1 ≤ 1000 ∧ 59 ≤ 1000 ∧ R.2 ≤ 59 ∧ 5 ≤ 1000000000000 by have := HU.out; omega))
              rw [e1] at HA2
              have HUp := Lib.hid e2
              have Hlen : Hid (d'.now.length = 60) := e3.trans KL.out
              have HSc : Hid (scanF 5 ((d'.now.drop 1).take 59) 0 [] [] 0 = (R.1 ++ [[topC]], R.2 + 1 + 1)) := e4
              clear e1 e2 e3 e4 hUp
              go_wp2_with (first | (refine Mix.wpList_guarded rfl ?_; (repeat' (first | (refine Mix.lex_quiet0 rfl rfl rfl ?_; intro K hK; go_big_quiet_op; go_big_quiet_on) | (refine Mix.lex_quietG rfl rfl rfl (by with_reducible rfl) rfl rfl ?_; intro K hK; go_big_quiet_op; go_big_quiet_on) | ((first | refine Mix.lex_skipT rfl rfl rfl (by with_reducible rfl) ?_ | refine Mix.lex_skipF rfl rfl rfl (by with_reducible rfl) ?_ | refine Mix.lex_skipU rfl rfl rfl (by with_reducible rfl) ?_); simp only [Act.put, List.setIfInBounds_toArray, List.set_cons_succ, List.set_cons_zero]) | (refine Mix.lex_part rfl rfl rfl rfl (fun hq => ?_) (fun hq => ?_) <;> (fail_if_success (guard_hyp hq :ₛ true = true)) <;> (fail_if_success (guard_hyp hq :ₛ false = false)) <;> first | (exfalso; cases hq; done) | (exfalso; simp only [decide_eq_true_eq, decide_eq_false_iff_not, beq_iff_eq, beq_eq_false_iff_ne, ne_eq, Int.not_lt, Int.not_le] at hq; omega) | simp only [Act.put, List.setIfInBounds_toArray, List.set_cons_succ, List.set_cons_zero]))); all_goals (refine Mix.lex_nil ?_)) | (refine Mix.wp_still (by kernel_rfl) (by kernel_rfl) ?_; (repeat' (first | (refine Mix.lex_quiet0 rfl rfl rfl ?_; intro K hK; go_big_quiet_op; go_big_quiet_on) | (refine Mix.lex_quietG rfl rfl rfl (by with_reducible rfl) rfl rfl ?_; intro K hK; go_big_quiet_op; go_big_quiet_on) | ((first | refine Mix.lex_skipT rfl rfl rfl (by with_reducible rfl) ?_ | refine Mix.lex_skipF rfl rfl rfl (by with_reducible rfl) ?_ | refine Mix.lex_skipU rfl rfl rfl (by with_reducible rfl) ?_); simp only [Act.put, List.setIfInBounds_toArray, List.set_cons_succ, List.set_cons_zero]) | (refine Mix.lex_part rfl rfl rfl rfl (fun hq => ?_) (fun hq => ?_) <;> (fail_if_success (guard_hyp hq :ₛ true = true)) <;> (fail_if_success (guard_hyp hq :ₛ false = false)) <;> first | (exfalso; cases hq; done) | (exfalso; simp only [decide_eq_true_eq, decide_eq_false_iff_not, beq_iff_eq, beq_eq_false_iff_ne, ne_eq, Int.not_lt, Int.not_le] at hq; omega) | simp only [Act.put, List.setIfInBounds_toArray, List.set_cons_succ, List.set_cons_zero]))); all_goals (refine Mix.lex_nil ?_)))
              refine HA2.out.mono ?_
              rintro e v15 ⟨rfl, r15, hr15, hL15, hx15⟩
              rw [errV_zero]
              have X15 : Hid (Ext w v15) := X14.out.ext_frn' hx15
              have L15 := Lib.hid hL15
              have M15 : Hid (Ml v15) := HM.out.frn M14.out hx15
              have RG15 := Lib.hid (RG14.out.step hx15 fun _ _ e => e)
              have RC15 := Lib.hid (RC14.out.step hx15 fun _ _ e => e)
              have Hg15 : Hid (r15.g = r.g) := hr15.trans Hg9.out
              have HO3 := Lib.hid (Open_ok M15.out L15.out.dk HUp.out.dn HUp.out.wide 1 59 5 (by omega) (by rw [Hlen.out]; omega) (by omega) (by omega))
              rw [Hg15.out, HSc.out] at HO3
              clear hr15 hL15 hx15 HA2 X14 L14 M14 RG14 RC14 HSc
              go_wp2_with (first | (refine Mix.wpList_guarded rfl ?_; (repeat' (first | (refine Mix.lex_quiet0 rfl rfl rfl ?_; intro K hK; go_big_quiet_op; go_big_quiet_on) | (refine Mix.lex_quietG rfl rfl rfl (by with_reducible rfl) rfl rfl ?_; intro K hK; go_big_quiet_op; go_big_quiet_on) | ((first | refine Mix.lex_skipT rfl rfl rfl (by with_reducible rfl) ?_ | refine Mix.lex_skipF rfl rfl rfl (by with_reducible rfl) ?_ | refine Mix.lex_skipU rfl rfl rfl (by with_reducible rfl) ?_); simp only [Act.put, List.setIfInBounds_toArray, List.set_cons_succ, List.set_cons_zero]) | (refine Mix.lex_part rfl rfl rfl rfl (fun hq => ?_) (fun hq => ?_) <;> (fail_if_success (guard_hyp hq :ₛ true = true)) <;> (fail_if_success (guard_hyp hq :ₛ false = false)) <;> first | (exfalso; cases hq; done) | (exfalso; simp only [decide_eq_true_eq, decide_eq_false_iff_not, beq_iff_eq, beq_eq_false_iff_ne, ne_eq, Int.not_lt, Int.not_le] at hq; omega) | simp only [Act.put, List.setIfInBounds_toArray, List.set_cons_succ, List.set_cons_zero]))); all_goals (refine Mix.lex_nil ?_)) | (refine Mix.wp_still (by kernel_rfl) (by kernel_rfl) ?_; (repeat' (first | (refine Mix.lex_quiet0 rfl rfl rfl ?_; intro K hK; go_big_quiet_op; go_big_quiet_on) | (refine Mix.lex_quietG rfl rfl rfl (by with_reducible rfl) rfl rfl ?_; intro K hK; go_big_quiet_op; go_big_quiet_on) | ((first | refine Mix.lex_skipT rfl rfl rfl (by with_reducible rfl) ?_ | refine Mix.lex_skipF rfl rfl rfl (by with_reducible rfl) ?_ | refine Mix.lex_skipU rfl rfl rfl (by with_reducible rfl) ?_); simp only [Act.put, List.setIfInBounds_toArray, List.set_cons_succ, List.set_cons_zero]) | (refine Mix.lex_part rfl rfl rfl rfl (fun hq => ?_) (fun hq => ?_) <;> (fail_if_success (guard_hyp hq :ₛ true = true)) <;> (fail_if_success (guard_hyp hq :ₛ false = false)) <;> first | (exfalso; cases hq; done) | (exfalso; simp only [decide_eq_true_eq, decide_eq_false_iff_not, beq_iff_eq, beq_eq_false_iff_ne, ne_eq, Int.not_lt, Int.not_le] at hq; omega) | simp only [Act.put, List.setIfInBounds_toArray, List.set_cons_succ, List.set_cons_zero]))); all_goals (refine Mix.lex_nil ?_)))
              refine HO3.out.mono ?_
              rintro e v16 ⟨g3, oA3, oc3, ys3, rfl, hg3, hL3, hD3, hys3, hx⟩
              have X16 : Hid (Ext w v16) := X15.out.then_ext hx
              have RG16 := Lib.hid (RG15.out.ext hx)
              have RC16 := Lib.hid (RC15.out.ext hx)
              have DD16 := Lib.hid hD3
              have HY3 : Hid (ys3.map (·.2) = ys2.map (·.2) ++ [[topC]]) := by rw [Hid, hys3, HY.out]
              have S2 := SO.out.2
              have S3 : Hid (ys3.length ≤ 62 ∧ ∀ y ∈ ys3, y.2.length ≤ 1000) := by
                have h := congrArg List.length HY3.out
                simp only [List.length_map, List.length_append, List.length_singleton] at h
                refine ⟨by omega, fun y hy => ?_⟩
                have h4 : y.2 ∈ ys2.map (·.2) ++ [[topC]] := by rw [← HY3.out]; exact List.mem_map_of_mem hy
                rcases List.mem_append.1 h4 with h4 | h4
                · obtain ⟨z, h5, h6⟩ := List.mem_map.1 h4
                  rw [← h6]; exact SO.out.1 z h5
                · rw [List.mem_singleton] at h4
                  rw [h4]; decide
              clear hg3 hL3 hD3 hys3 hx HO3 X15 L15 M15 RG15 RC15
              go_upto_region 33 with fail
              refine Mix.wp_plain [5, 7, 8, 9] (Cl v16 No) (Cl.of (Only.refl _ _)) ?_
              (repeat' (first | (refine Mix.lex_quiet0 rfl rfl rfl ?_; intro K hK; go_big_quiet_op; go_big_quiet_on) | (refine Mix.lex_quietG rfl rfl rfl (by with_reducible rfl) rfl rfl ?_; intro K hK; go_big_quiet_op; go_big_quiet_on) | ((first | refine Mix.lex_skipT rfl rfl rfl (by with_reducible rfl) ?_ | refine Mix.lex_skipF rfl rfl rfl (by with_reducible rfl) ?_ | refine Mix.lex_skipU rfl rfl rfl (by with_reducible rfl) ?_); simp only [Act.put, List.setIfInBounds_toArray, List.set_cons_succ, List.set_cons_zero]) | (refine Mix.lex_part rfl rfl rfl rfl (fun hq => ?_) (fun hq => ?_) <;> (fail_if_success (guard_hyp hq :ₛ true = true)) <;> (fail_if_success (guard_hyp hq :ₛ false = false)) <;> first | (exfalso; cases hq; done) | (exfalso; simp only [decide_eq_true_eq, decide_eq_false_iff_not, beq_iff_eq, beq_eq_false_iff_ne, ne_eq, Int.not_lt, Int.not_le] at hq; omega) | simp only [Act.put, List.setIfInBounds_toArray, List.set_cons_succ, List.set_cons_zero])))
              refine Mix.lex_goesG rfl rfl rfl (by with_reducible rfl) rfl ?_
              intro K hK
              refine goes_append (v := .slice none 0 0) (n := 0) (xs := []) dd_ty rfl rfl rfl (World.ownsRow_nil _ _ _ _) (RG16.out.here.1.rd (by decide)) (ded_enc1 ys2) (by omega) ?_
              intro A6 c6 w17 hown6 hg6 hb6
              have F6 : Fresh dedF deedT v16 w17 A6 c6 ys2 := (Fresh.nil dedF deedT v16 v16 (Only.refl _ _)).grow (ys := ys2) rfl hown6 hg6 hb6
              rw [Nat.zero_add]
              refine hK _ _ (fun _ => Cl.of F6.ext) ?_
              clear hK K hown6 hg6 hb6
              simp only [Act.put, List.setIfInBounds_toArray, List.set_cons_succ, List.set_cons_zero]
              (repeat' (first | (refine Mix.lex_quiet0 rfl rfl rfl ?_; intro K hK; go_big_quiet_op; go_big_quiet_on) | (refine Mix.lex_quietG rfl rfl rfl (by with_reducible rfl) rfl rfl ?_; intro K hK; go_big_quiet_op; go_big_quiet_on) | ((first | refine Mix.lex_skipT rfl rfl rfl (by with_reducible rfl) ?_ | refine Mix.lex_skipF rfl rfl rfl (by with_reducible rfl) ?_ | refine Mix.lex_skipU rfl rfl rfl (by with_reducible rfl) ?_); simp only [Act.put, List.setIfInBounds_toArray, List.set_cons_succ, List.set_cons_zero]) | (refine Mix.lex_part rfl rfl rfl rfl (fun hq => ?_) (fun hq => ?_) <;> (fail_if_success (guard_hyp hq :ₛ true = true)) <;> (fail_if_success (guard_hyp hq :ₛ false = false)) <;> first | (exfalso; cases hq; done) | (exfalso; simp only [decide_eq_true_eq, decide_eq_false_iff_not, beq_iff_eq, beq_eq_false_iff_ne, ne_eq, Int.not_lt, Int.not_le] at hq; omega) | simp only [Act.put, List.setIfInBounds_toArray, List.set_cons_succ, List.set_cons_zero])))
              ((first | refine Mix.lex_goes0 rfl rfl ?_ | refine Mix.lex_goesG rfl rfl rfl (by with_reducible rfl) rfl ?_); intro K hK; go_simp)
              obtain ⟨w18, hw18⟩ : ∃ u, u = w17.alloc (.cells #[.slice (some ⟨g13, 0, none⟩) 1 1] deedT) := ⟨_, rfl⟩
              obtain ⟨g18, hg18⟩ : ∃ g, g = w17.heap.size := ⟨_, rfl⟩
              have hC18 : Cs w18 g18 deedT #[.slice (some ⟨g13, 0, none⟩) 1 1] := by rw [hw18, hg18]; exact Cs.new _ _ _
              have x18 : Ext w17 w18 := by rw [hw18]; exact (Only.refl No _).alloc _
              rw [← hw18, ← hg18]
              refine hK _ _ (fun _ => Cl.of (F6.ext.then_ext x18)) ?_
              clear hK K hw18 hg18
              simp only [Act.put, List.setIfInBounds_toArray, List.set_cons_succ, List.set_cons_zero]
              refine Mix.lex_goesG rfl rfl rfl (by with_reducible rfl) rfl ?_
              intro K hK
              have F7 := F6.on x18
              refine goes_append (v := .slice A6 ys2.length c6) (n := ys2.length) (xs := ys2.flatMap dedF.enc) dd_ty rfl rfl rfl F7.own (rd_cs (cs := [.slice (some ⟨g13, 0, none⟩) 1 1]) hC18) (by simp [Value.oneCell']) (by omega) ?_
              intro A8 c8 w19 hown8 hg8 hb8
              have F8 : Fresh dedF deedT v16 w19 A8 c8 (ys2 ++ [((some ⟨g13, 0, none⟩, 1), [topC])]) := F7.grow (m := 1) (ys := [((some ⟨g13, 0, none⟩, 1), [topC])]) rfl (by exact hown8) hg8 hb8
              refine hK _ _ (fun _ => Cl.of F8.ext) ?_
              clear hK K hown8 hg8 hb8
              simp only [Act.put, List.setIfInBounds_toArray, List.set_cons_succ, List.set_cons_zero]
              have HS3 := Lib.hid (SameDeeds_c (c := oc3) (d := c8) (DD16.out.ext F8.ext).red (B := A8) (m := ys2.length + 1) (zs := ys2 ++ [((some ⟨g13, 0, none⟩, 1), [topC])]) ⟨by have h := SlR.of_own (T := dedF) (by decide) F8.own; rw [List.length_append] at h; exact h, fun y hy => by
                rcases List.mem_append.1 hy with hy | hy
                · exact (RG16.out.here.2 y hy).ext F8.ext
                · rw [List.mem_singleton] at hy; subst hy; exact RC16.out.here.ext F8.ext⟩ (by have := S3.out.1; omega) (by omega) (fun y hy => by have := S3.out.2 y hy; omega) (fun y hy => by
                rcases List.mem_append.1 hy with hy | hy
                · have := SO.out.1 y hy; omega
                · rw [List.mem_singleton] at hy; subst hy; show 1 ≤ 100000; omega))
              rw [decide_eq_true (by rw [HY3.out, List.map_append]; rfl)] at HS3
              (repeat' (first | (refine Mix.lex_quiet0 rfl rfl rfl ?_; intro K hK; go_big_quiet_op; go_big_quiet_on) | (refine Mix.lex_quietG rfl rfl rfl (by with_reducible rfl) rfl rfl ?_; intro K hK; go_big_quiet_op; go_big_quiet_on) | ((first | refine Mix.lex_skipT rfl rfl rfl (by with_reducible rfl) ?_ | refine Mix.lex_skipF rfl rfl rfl (by with_reducible rfl) ?_ | refine Mix.lex_skipU rfl rfl rfl (by with_reducible rfl) ?_); simp only [Act.put, List.setIfInBounds_toArray, List.set_cons_succ, List.set_cons_zero]) | (refine Mix.lex_part rfl rfl rfl rfl (fun hq => ?_) (fun hq => ?_) <;> (fail_if_success (guard_hyp hq :ₛ true = true)) <;> (fail_if_success (guard_hyp hq :ₛ false = false)) <;> first | (exfalso; cases hq; done) | (exfalso; simp only [decide_eq_true_eq, decide_eq_false_iff_not, beq_iff_eq, beq_eq_false_iff_ne, ne_eq, Int.not_lt, Int.not_le] at hq; omega) | simp only [Act.put, List.setIfInBounds_toArray, List.set_cons_succ, List.set_cons_zero])))
              refine Mix.lex_goesG rfl rfl rfl (by with_reducible rfl) rfl ?_
              intro K hK
              go_simp
              refine HS3.out.mono ?_
              rintro e v20 ⟨rfl, hu⟩
              refine ⟨_, rfl, hK _ _ (fun _ => Cl.of (F8.ext.then_ext hu)) ?_⟩
              clear hK K
              simp only [Act.put, List.setIfInBounds_toArray, List.set_cons_succ, List.set_cons_zero]
              (repeat' (first | (refine Mix.lex_quiet0 rfl rfl rfl ?_; intro K hK; go_big_quiet_op; go_big_quiet_on) | (refine Mix.lex_quietG rfl rfl rfl (by with_reducible rfl) rfl rfl ?_; intro K hK; go_big_quiet_op; go_big_quiet_on) | ((first | refine Mix.lex_skipT rfl rfl rfl (by with_reducible rfl) ?_ | refine Mix.lex_skipF rfl rfl rfl (by with_reducible rfl) ?_ | refine Mix.lex_skipU rfl rfl rfl (by with_reducible rfl) ?_); simp only [Act.put, List.setIfInBounds_toArray, List.set_cons_succ, List.set_cons_zero]) | (refine Mix.lex_part rfl rfl rfl rfl (fun hq => ?_) (fun hq => ?_) <;> (fail_if_success (guard_hyp hq :ₛ true = true)) <;> (fail_if_success (guard_hyp hq :ₛ false = false)) <;> first | (exfalso; cases hq; done) | (exfalso; simp only [decide_eq_true_eq, decide_eq_false_iff_not, beq_iff_eq, beq_eq_false_iff_ne, ne_eq, Int.not_lt, Int.not_le] at hq; omega) | simp only [Act.put, List.setIfInBounds_toArray, List.set_cons_succ, List.set_cons_zero])))
              refine Mix.lex_nil ?_
              go_wp2_with (first | (refine Mix.wpList_guarded rfl ?_; (repeat' (first | (refine Mix.lex_quiet0 rfl rfl rfl ?_; intro K hK; go_big_quiet_op; go_big_quiet_on) | (refine Mix.lex_quietG rfl rfl rfl (by with_reducible rfl) rfl rfl ?_; intro K hK; go_big_quiet_op; go_big_quiet_on) | ((first | refine Mix.lex_skipT rfl rfl rfl (by with_reducible rfl) ?_ | refine Mix.lex_skipF rfl rfl rfl (by with_reducible rfl) ?_ | refine Mix.lex_skipU rfl rfl rfl (by with_reducible rfl) ?_); simp only [Act.put, List.setIfInBounds_toArray, List.set_cons_succ, List.set_cons_zero]) | (refine Mix.lex_part rfl rfl rfl rfl (fun hq => ?_) (fun hq => ?_) <;> (fail_if_success (guard_hyp hq :ₛ true = true)) <;> (fail_if_success (guard_hyp hq :ₛ false = false)) <;> first | (exfalso; cases hq; done) | (exfalso; simp only [decide_eq_true_eq, decide_eq_false_iff_not, beq_iff_eq, beq_eq_false_iff_ne, ne_eq, Int.not_lt, Int.not_le] at hq; omega) | simp only [Act.put, List.setIfInBounds_toArray, List.set_cons_succ, List.set_cons_zero]))); all_goals (refine Mix.lex_nil ?_)) | (refine Mix.wp_still (by kernel_rfl) (by kernel_rfl) ?_; (repeat' (first | (refine Mix.lex_quiet0 rfl rfl rfl ?_; intro K hK; go_big_quiet_op; go_big_quiet_on) | (refine Mix.lex_quietG rfl rfl rfl (by with_reducible rfl) rfl rfl ?_; intro K hK; go_big_quiet_op; go_big_quiet_on) | ((first | refine Mix.lex_skipT rfl rfl rfl (by with_reducible rfl) ?_ | refine Mix.lex_skipF rfl rfl rfl (by with_reducible rfl) ?_ | refine Mix.lex_skipU rfl rfl rfl (by with_reducible rfl) ?_); simp only [Act.put, List.setIfInBounds_toArray, List.set_cons_succ, List.set_cons_zero]) | (refine Mix.lex_part rfl rfl rfl rfl (fun hq => ?_) (fun hq => ?_) <;> (fail_if_success (guard_hyp hq :ₛ true = true)) <;> (fail_if_success (guard_hyp hq :ₛ false = false)) <;> first | (exfalso; cases hq; done) | (exfalso; simp only [decide_eq_true_eq, decide_eq_false_iff_not, beq_iff_eq, beq_eq_false_iff_ne, ne_eq, Int.not_lt, Int.not_le] at hq; omega) | simp only [Act.put, List.setIfInBounds_toArray, List.set_cons_succ, List.set_cons_zero]))); all_goals (refine Mix.lex_nil ?_)))
              go_ret
              exact ⟨rfl, X16.out.then_ext (F8.ext.then_ext hu)⟩
          · have HU : Hid (R.2 ≤ 59) := by
              have h := (scan_from (first := 5) (L := ((d'.restarted K).now.drop 1).take 59) (out := R.1) (used := R.2) (by rw [← HRR.out])).1
              exact Nat.le_trans h (List.length_take_le _ _)
            go_wp2_with (first | (refine Mix.wpList_guarded rfl ?_; (repeat' (first | (refine Mix.lex_quiet0 rfl rfl rfl ?_; intro K hK; go_big_quiet_op; go_big_quiet_on) | (refine Mix.lex_quietG rfl rfl rfl (by with_reducible rfl) rfl rfl ?_; intro K hK; go_big_quiet_op; go_big_quiet_on) | ((first | refine Mix.lex_skipT rfl rfl rfl (by with_reducible rfl) ?_ | refine Mix.lex_skipF rfl rfl rfl (by with_reducible rfl) ?_ | refine Mix.lex_skipU rfl rfl rfl (by with_reducible rfl) ?_); simp only [Act.put, List.setIfInBounds_toArray, List.set_cons_succ, List.set_cons_zero]) | (refine Mix.lex_part rfl rfl rfl rfl (fun hq => ?_) (fun hq => ?_) <;> (fail_if_success (guard_hyp hq :ₛ true = true)) <;> (fail_if_success (guard_hyp hq :ₛ false = false)) <;> first | (exfalso; cases hq; done) | (exfalso; simp only [decide_eq_true_eq, decide_eq_false_iff_not, beq_iff_eq, beq_eq_false_iff_ne, ne_eq, Int.not_lt, Int.not_le] at hq; omega) | simp only [Act.put, List.setIfInBounds_toArray, List.set_cons_succ, List.set_cons_zero]))); all_goals (refine Mix.lex_nil ?_)) | (refine Mix.wp_still (by kernel_rfl) (by kernel_rfl) ?_; (repeat' (first | (refine Mix.lex_quiet0 rfl rfl rfl ?_; intro K hK; go_big_quiet_op; go_big_quiet_on) | (refine Mix.lex_quietG rfl rfl rfl (by with_reducible rfl) rfl rfl ?_; intro K hK; go_big_quiet_op; go_big_quiet_on) | ((first | refine Mix.lex_skipT rfl rfl rfl (by with_reducible rfl) ?_ | refine Mix.lex_skipF rfl rfl rfl (by with_reducible rfl) ?_ | refine Mix.lex_skipU rfl rfl rfl (by with_reducible rfl) ?_); simp only [Act.put, List.setIfInBounds_toArray, List.set_cons_succ, List.set_cons_zero]) | (refine Mix.lex_part rfl rfl rfl rfl (fun hq => ?_) (fun hq => ?_) <;> (fail_if_success (guard_hyp hq :ₛ true = true)) <;> (fail_if_success (guard_hyp hq :ₛ false = false)) <;> first | (exfalso; cases hq; done) | (exfalso; simp only [decide_eq_true_eq, decide_eq_false_iff_not, beq_iff_eq, beq_eq_false_iff_ne, ne_eq, Int.not_lt, Int.not_le] at hq; omega) | simp only [Act.put, List.setIfInBounds_toArray, List.set_cons_succ, List.set_cons_zero]))); all_goals (refine Mix.lex_nil ?_)))
            obtain ⟨g13, hg13⟩ : ∃ x, x = v11.heap.size := ⟨_, rfl⟩
            obtain ⟨w13, hw13⟩ : ∃ v, v = v11.alloc (.cells #[S [102, 47, 122], S [122], .bool false] chT) := ⟨_, rfl⟩
            have x13 : Ext v11 w13 := by rw [hw13]; exact (Only.refl No v11).alloc _
            have hC13 : Cs w13 g13 chT #[S [102, 47, 122], S [122], .bool false] := by rw [hw13, hg13]; exact Cs.new _ _ _
            rw [← hw13, ← hg13]
            have X13 := Lib.hid (X10.out.then_ext (E11.out.then_ext x13))
            have L13 := Lib.hid (L10.out.ext (E11.out.then_ext x13))
            have M13 := Lib.hid (M10.out.ext (E11.out.then_ext x13))
            have RG13 : Hid (Rob w w13 fun u => DedR u oA2 ys2.length ys2) := (DD10.out.ext (E11.out.then_ext x13)).rob
            have RC13 : Hid (Rob w w13 fun u => SlR chF u (some ⟨g13, 0, none⟩) 1 [topC]) := fun u hu => sl_cs (T := chF) (x := topC) (rob_cs (w0 := w) hC13 (by decide) (by decide) (by decide) (by decide) u hu) rfl
            clear hw13 hg13 hC13 x13 E11 X10 L10 M10 DD10 RW10 RL10
            have HRm := Lib.hid (Room_c L13.out.lg (show 59 ≤ 1000 by decide) HU.out)
            refine HRm.out.mono ?_
            rintro e v14 ⟨rfl, hu⟩
            have X14 := Lib.hid (X13.out.then_ext hu)
            have L14 := Lib.hid (L13.out.ext hu)
            have M14 := Lib.hid (M13.out.ext hu)
            have RG14 := Lib.hid (RG13.out.ext hu)
            have RC14 := Lib.hid (RC13.out.ext hu)
            clear hu HRm X13 L13 M13 RG13 RC13
            by_cases hr2 : 59 - R.2 < 2
            · have gr1 : decide (((59 - R.2 : Nat) : Int) < 2) = true := decide_eq_true (by omega)
              have gr2 : decide (59 - R.2 < 2) = true := decide_eq_true hr2
              go_wp2_with (first | (refine Mix.wpList_guarded rfl ?_; (repeat' (first | (refine Mix.lex_quiet0 rfl rfl rfl ?_; intro K hK; go_big_quiet_op; go_big_quiet_on) | (refine Mix.lex_quietG rfl rfl rfl (by with_reducible rfl) rfl rfl ?_; intro K hK; go_big_quiet_op; go_big_quiet_on) | ((first | refine Mix.lex_skipT rfl rfl rfl (by with_reducible rfl) ?_ | refine Mix.lex_skipF rfl rfl rfl (by with_reducible rfl) ?_ | refine Mix.lex_skipU rfl rfl rfl (by with_reducible rfl) ?_); simp only [Act.put, List.setIfInBounds_toArray, List.set_cons_succ, List.set_cons_zero]) | (refine Mix.lex_part rfl rfl rfl rfl (fun hq => ?_) (fun hq => ?_) <;> (fail_if_success (guard_hyp hq :ₛ true = true)) <;> (fail_if_success (guard_hyp hq :ₛ false = false)) <;> first | (exfalso; cases hq; done) | (exfalso; simp only [decide_eq_true_eq, decide_eq_false_iff_not, beq_iff_eq, beq_eq_false_iff_ne, ne_eq, Int.not_lt, Int.not_le] at hq; omega) | simp only [Act.put, List.setIfInBounds_toArray, List.set_cons_succ, List.set_cons_zero]))); all_goals (refine Mix.lex_nil ?_)) | (refine Mix.wp_still (by kernel_rfl) (by kernel_rfl) ?_; (repeat' (first | (refine Mix.lex_quiet0 rfl rfl rfl ?_; intro K hK; go_big_quiet_op; go_big_quiet_on) | (refine Mix.lex_quietG rfl rfl rfl (by with_reducible rfl) rfl rfl ?_; intro K hK; go_big_quiet_op; go_big_quiet_on) | ((first | refine Mix.lex_skipT rfl rfl rfl (by with_reducible rfl) ?_ | refine Mix.lex_skipF rfl rfl rfl (by with_reducible rfl) ?_ | refine Mix.lex_skipU rfl rfl rfl (by with_reducible rfl) ?_); simp only [Act.put, List.setIfInBounds_toArray, List.set_cons_succ, List.set_cons_zero]) | (refine Mix.lex_part rfl rfl rfl rfl (fun hq => ?_) (fun hq => ?_) <;> (fail_if_success (guard_hyp hq :ₛ true = true)) <;> (fail_if_success (guard_hyp hq :ₛ false = false)) <;> first | (exfalso; cases hq; done) | (exfalso; simp only [decide_eq_true_eq, decide_eq_false_iff_not, beq_iff_eq, beq_eq_false_iff_ne, ne_eq, Int.not_lt, Int.not_le] at hq; omega) | simp only [Act.put, List.setIfInBounds_toArray, List.set_cons_succ, List.set_cons_zero]))); all_goals (refine Mix.lex_nil ?_)))
              go_ret
              exact ⟨rfl, X14.out⟩
            · have gr1 : decide (((59 - R.2 : Nat) : Int) < 2) = false := decide_eq_false (by omega)
              have gr2 : decide (59 - R.2 < 2) = false := decide_eq_false hr2
              have hUp : (d'.restarted K).Up := ⟨rfl, rfl, KW.out⟩
              obtain ⟨d', e1, e2, e3, -, -, e4, -⟩ := add_up (l := ⟨g2, 1, 59, 5, R.2⟩) (c := [topC]) (d := d'.restarted K) (out := R.1) hUp (by show 1 + 59 ≤ (keepFrom K d'.kept d'.wait 0).length; have := KL.out; omega) (by show scanF 5 (((d'.restarted K).now.drop 1).take 59) 0 [] [] 0 = _; rw [← HRR.out]) topC_good (by decide) (show R.2 + 1 + 1 ≤ 59 by omega)
              have HA2 := Lib.hid (Add_c (cap := 1) (n := 1) (A := some ⟨g13, 0, none⟩) (c := [topC]) HM.out M14.out L14.out X14.out.size RC14.out (fun x hx => by rw [List.mem_singleton] at hx; subst hx; decide) (by decide) (Nat.zero_le _) (show 1 ≤ 1000 ∧ 59 ≤ 1000 ∧ R.2 ≤ 59 ∧ 5 ≤ 1000000000000 by have := HU.out; omega))
              rw [e1] at HA2
              have HUp := Lib.hid e2
              have Hlen : Hid (d'.now.length = 60) := e3.trans KL.out
              have HSc : Hid (scanF 5 ((d'.now.drop 1).take 59) 0 [] [] 0 = (R.1 ++ [[topC]], R.2 + 1 + 1)) := e4
              clear e1 e2 e3 e4 hUp
              go_wp2_with (first | (refine Mix.wpList_guarded rfl ?_; (repeat' (first | (refine Mix.lex_quiet0 rfl rfl rfl ?_; intro K hK; go_big_quiet_op; go_big_quiet_on) | (refine Mix.lex_quietG rfl rfl rfl (by with_reducible rfl) rfl rfl ?_; intro K hK; go_big_quiet_op; go_big_quiet_on) | ((first | refine Mix.lex_skipT rfl rfl rfl (by with_reducible rfl) ?_ | refine Mix.lex_skipF rfl rfl rfl (by with_reducible rfl) ?_ | refine Mix.lex_skipU rfl rfl rfl (by with_reducible rfl) ?_); simp only [Act.put, List.setIfInBounds_toArray, List.set_cons_succ, List.set_cons_zero]) | (refine Mix.lex_part rfl rfl rfl rfl (fun hq => ?_) (fun hq => ?_) <;> (fail_if_success (guard_hyp hq :ₛ true = true)) <;> (fail_if_success (guard_hyp hq :ₛ false = false)) <;> first | (exfalso; cases hq; done) | (exfalso; simp only [decide_eq_true_eq, decide_eq_false_iff_not, beq_iff_eq, beq_eq_false_iff_ne, ne_eq, Int.not_lt, Int.not_le] at hq; omega) | simp only [Act.put, List.setIfInBounds_toArray, List.set_cons_succ, List.set_cons_zero]))); all_goals (refine Mix.lex_nil ?_)) | (refine Mix.wp_still (by kernel_rfl) (by kernel_rfl) ?_; (repeat' (first | (refine Mix.lex_quiet0 rfl rfl rfl ?_; intro K hK; go_big_quiet_op; go_big_quiet_on) | (refine Mix.lex_quietG rfl rfl rfl (by with_reducible rfl) rfl rfl ?_; intro K hK; go_big_quiet_op; go_big_quiet_on) | ((first | refine Mix.lex_skipT rfl rfl rfl (by with_reducible rfl) ?_ | refine Mix.lex_skipF rfl rfl rfl (by with_reducible rfl) ?_ | refine Mix.lex_skipU rfl rfl rfl (by with_reducible rfl) ?_); simp only [Act.put, List.setIfInBounds_toArray, List.set_cons_succ, List.set_cons_zero]) | (refine Mix.lex_part rfl rfl rfl rfl (fun hq => ?_) (fun hq => ?_) <;> (fail_if_success (guard_hyp hq :ₛ true = true)) <;> (fail_if_success (guard_hyp hq :ₛ false = false)) <;> first | (exfalso; cases hq; done) | (exfalso; simp only [decide_eq_true_eq, decide_eq_false_iff_not, beq_iff_eq, beq_eq_false_iff_ne, ne_eq, Int.not_lt, Int.not_le] at hq; omega) | simp only [Act.put, List.setIfInBounds_toArray, List.set_cons_succ, List.set_cons_zero]))); all_goals (refine Mix.lex_nil ?_)))
              refine HA2.out.mono ?_
              rintro e v15 ⟨rfl, r15, hr15, hL15, hx15⟩
              rw [errV_zero]
              have X15 : Hid (Ext w v15) := X14.out.ext_frn' hx15
              have L15 := Lib.hid hL15
              have M15 : Hid (Ml v15) := HM.out.frn M14.out hx15
              have RG15 := Lib.hid (RG14.out.step hx15 fun _ _ e => e)
              have RC15 := Lib.hid (RC14.out.step hx15 fun _ _ e => e)
              have Hg15 : Hid (r15.g = r.g) := hr15.trans Hg9.out
              have HO3 := Lib.hid (Open_ok M15.out L15.out.dk HUp.out.dn HUp.out.wide 1 59 5 (by omega) (by rw [Hlen.out]; omega) (by omega) (by omega))
              rw [Hg15.out, HSc.out] at HO3
              clear hr15 hL15 hx15 HA2 X14 L14 M14 RG14 RC14 HSc
              go_wp2_with (first | (refine Mix.wpList_guarded rfl ?_; (repeat' (first | (refine Mix.lex_quiet0 rfl rfl rfl ?_; intro K hK; go_big_quiet_op; go_big_quiet_on) | (refine Mix.lex_quietG rfl rfl rfl (by with_reducible rfl) rfl rfl ?_; intro K hK; go_big_quiet_op; go_big_quiet_on) | ((first | refine Mix.lex_skipT rfl rfl rfl (by with_reducible rfl) ?_ | refine Mix.lex_skipF rfl rfl rfl (by with_reducible rfl) ?_ | refine Mix.lex_skipU rfl rfl rfl (by with_reducible rfl) ?_); simp only [Act.put, List.setIfInBounds_toArray, List.set_cons_succ, List.set_cons_zero]) | (refine Mix.lex_part rfl rfl rfl rfl (fun hq => ?_) (fun hq => ?_) <;> (fail_if_success (guard_hyp hq :ₛ true = true)) <;> (fail_if_success (guard_hyp hq :ₛ false = false)) <;> first | (exfalso; cases hq; done) | (exfalso; simp only [decide_eq_true_eq, decide_eq_false_iff_not, beq_iff_eq, beq_eq_false_iff_ne, ne_eq, Int.not_lt, Int.not_le] at hq; omega) | simp only [Act.put, List.setIfInBounds_toArray, List.set_cons_succ, List.set_cons_zero]))); all_goals (refine Mix.lex_nil ?_)) | (refine Mix.wp_still (by kernel_rfl) (by kernel_rfl) ?_; (repeat' (first | (refine Mix.lex_quiet0 rfl rfl rfl ?_; intro K hK; go_big_quiet_op; go_big_quiet_on) | (refine Mix.lex_quietG rfl rfl rfl (by with_reducible rfl) rfl rfl ?_; intro K hK; go_big_quiet_op; go_big_quiet_on) | ((first | refine Mix.lex_skipT rfl rfl rfl (by with_reducible rfl) ?_ | refine Mix.lex_skipF rfl rfl rfl (by with_reducible rfl) ?_ | refine Mix.lex_skipU rfl rfl rfl (by with_reducible rfl) ?_); simp only [Act.put, List.setIfInBounds_toArray, List.set_cons_succ, List.set_cons_zero]) | (refine Mix.lex_part rfl rfl rfl rfl (fun hq => ?_) (fun hq => ?_) <;> (fail_if_success (guard_hyp hq :ₛ true = true)) <;> (fail_if_success (guard_hyp hq :ₛ false = false)) <;> first | (exfalso; cases hq; done) | (exfalso; simp only [decide_eq_true_eq, decide_eq_false_iff_not, beq_iff_eq, beq_eq_false_iff_ne, ne_eq, Int.not_lt, Int.not_le] at hq; omega) | simp only [Act.put, List.setIfInBounds_toArray, List.set_cons_succ, List.set_cons_zero]))); all_goals (refine Mix.lex_nil ?_)))
              refine HO3.out.mono ?_
              rintro e v16 ⟨g3, oA3, oc3, ys3, rfl, hg3, hL3, hD3, hys3, hx⟩
              have X16 : Hid (Ext w v16) := X15.out.then_ext hx
              have RG16 := Lib.hid (RG15.out.ext hx)
              have RC16 := Lib.hid (RC15.out.ext hx)
              have DD16 := Lib.hid hD3
              have HY3 : Hid (ys3.map (·.2) = ys2.map (·.2) ++ [[topC]]) := by rw [Hid, hys3, HY.out]
              have S2 := SO.out.2
              have S3 : Hid (ys3.length ≤ 62 ∧ ∀ y ∈ ys3, y.2.length ≤ 1000) := by
                have h := congrArg List.length HY3.out
                simp only [List.length_map, List.length_append, List.length_singleton] at h
                refine ⟨by omega, fun y hy => ?_⟩
                have h4 : y.2 ∈ ys2.map (·.2) ++ [[topC]] := by rw [← HY3.out]; exact List.mem_map_of_mem hy
                rcases List.mem_append.1 h4 with h4 | h4
                · obtain ⟨z, h5, h6⟩ := List.mem_map.1 h4
                  rw [← h6]; exact SO.out.1 z h5
                · rw [List.mem_singleton] at h4
                  rw [h4]; decide
              clear hg3 hL3 hD3 hys3 hx HO3 X15 L15 M15 RG15 RC15
              go_upto_region 33 with fail
              refine Mix.wp_plain [5, 7, 8, 9] (Cl v16 No) (Cl.of (Only.refl _ _)) ?_
              (repeat' (first | (refine Mix.lex_quiet0 rfl rfl rfl ?_; intro K hK; go_big_quiet_op; go_big_quiet_on) | (refine Mix.lex_quietG rfl rfl rfl (by with_reducible rfl) rfl rfl ?_; intro K hK; go_big_quiet_op; go_big_quiet_on) | ((first | refine Mix.lex_skipT rfl rfl rfl (by with_reducible rfl) ?_ | refine Mix.lex_skipF rfl rfl rfl (by with_reducible rfl) ?_ | refine Mix.lex_skipU rfl rfl rfl (by with_reducible rfl) ?_); simp only [Act.put, List.setIfInBounds_toArray, List.set_cons_succ, List.set_cons_zero]) | (refine Mix.lex_part rfl rfl rfl rfl (fun hq => ?_) (fun hq => ?_) <;> (fail_if_success (guard_hyp hq :ₛ true = true)) <;> (fail_if_success (guard_hyp hq :ₛ false = false)) <;> first | (exfalso; cases hq; done) | (exfalso; simp only [decide_eq_true_eq, decide_eq_false_iff_not, beq_iff_eq, beq_eq_false_iff_ne, ne_eq, Int.not_lt, Int.not_le] at hq; omega) | simp only [Act.put, List.setIfInBounds_toArray, List.set_cons_succ, List.set_cons_zero])))
              refine Mix.lex_goesG rfl rfl rfl (by with_reducible rfl) rfl ?_
              intro K hK
              refine goes_append (v := .slice none 0 0) (n := 0) (xs := []) dd_ty rfl rfl rfl (World.ownsRow_nil _ _ _ _) (RG16.out.here.1.rd (by decide)) (ded_enc1 ys2) (by omega) ?_
              intro A6 c6 w17 hown6 hg6 hb6
              have F6 : Fresh dedF deedT v16 w17 A6 c6 ys2 := (Fresh.nil dedF deedT v16 v16 (Only.refl _ _)).grow (ys := ys2) rfl hown6 hg6 hb6
              rw [Nat.zero_add]
              refine hK _ _ (fun _ => Cl.of F6.ext) ?_
              clear hK K hown6 hg6 hb6
              simp only [Act.put, List.setIfInBounds_toArray, List.set_cons_succ, List.set_cons_zero]
              (repeat' (first | (refine Mix.lex_quiet0 rfl rfl rfl ?_; intro K hK; go_big_quiet_op; go_big_quiet_on) | (refine Mix.lex_quietG rfl rfl rfl (by with_reducible rfl) rfl rfl ?_; intro K hK; go_big_quiet_op; go_big_quiet_on) | ((first | refine Mix.lex_skipT rfl rfl rfl (by with_reducible rfl) ?_ | refine Mix.lex_skipF rfl rfl rfl (by with_reducible rfl) ?_ | refine Mix.lex_skipU rfl rfl rfl (by with_reducible rfl) ?_); simp only [Act.put, List.setIfInBounds_toArray, List.set_cons_succ, List.set_cons_zero]) | (refine Mix.lex_part rfl rfl rfl rfl (fun hq => ?_) (fun hq => ?_) <;> (fail_if_success (guard_hyp hq :ₛ true = true)) <;> (fail_if_success (guard_hyp hq :ₛ false = false)) <;> first | (exfalso; cases hq; done) | (exfalso; simp only [decide_eq_true_eq, decide_eq_false_iff_not, beq_iff_eq, beq_eq_false_iff_ne, ne_eq, Int.not_lt, Int.not_le] at hq; omega) | simp only [Act.put, List.setIfInBounds_toArray, List.set_cons_succ, List.set_cons_zero])))
              ((first | refine Mix.lex_goes0 rfl rfl ?_ | refine Mix.lex_goesG rfl rfl rfl (by with_reducible rfl) rfl ?_); intro K hK; go_simp)
              obtain ⟨w18, hw18⟩ : ∃ u, u = w17.alloc (.cells #[.slice (some ⟨g13, 0, none⟩) 1 1] deedT) := ⟨_, rfl⟩
              obtain ⟨g18, hg18⟩ : ∃ g, g = w17.heap.size := ⟨_, rfl⟩
              have hC18 : Cs w18 g18 deedT #[.slice (some ⟨g13, 0, none⟩) 1 1] := by rw [hw18, hg18]; exact Cs.new _ _ _
              have x18 : Ext w17 w18 := by rw [hw18]; exact (Only.refl No _).alloc _
              rw [← hw18, ← hg18]
              refine hK _ _ (fun _ => Cl.of (F6.ext.then_ext x18)) ?_
              clear hK K hw18 hg18
              simp only [Act.put, List.setIfInBounds_toArray, List.set_cons_succ, List.set_cons_zero]
              refine Mix.lex_goesG rfl rfl rfl (by with_reducible rfl) rfl ?_
              intro K hK
              have F7 := F6.on x18
              refine goes_append (v := .slice A6 ys2.length c6) (n := ys2.length) (xs := ys2.flatMap dedF.enc) dd_ty rfl rfl rfl F7.own (rd_cs (cs := [.slice (some ⟨g13, 0, none⟩) 1 1]) hC18) (by simp [Value.oneCell']) (by omega) ?_
              intro A8 c8 w19 hown8 hg8 hb8
              have F8 : Fresh dedF deedT v16 w19 A8 c8 (ys2 ++ [((some ⟨g13, 0, none⟩, 1), [topC])]) := F7.grow (m := 1) (ys := [((some ⟨g13, 0, none⟩, 1), [topC])]) rfl (by exact hown8) hg8 hb8
              refine hK _ _ (fun _ => Cl.of F8.ext) ?_
              clear hK K hown8 hg8 hb8
              simp only [Act.put, List.setIfInBounds_toArray, List.set_cons_succ, List.set_cons_zero]
              have HS3 := Lib.hid (SameDeeds_c (c := oc3) (d := c8) (DD16.out.ext F8.ext).red (B := A8) (m := ys2.length + 1) (zs := ys2 ++ [((some ⟨g13, 0, none⟩, 1), [topC])]) ⟨by have h := SlR.of_own (T := dedF) (by decide) F8.own; rw [List.length_append] at h; exact h, fun y hy => by
                rcases List.mem_append.1 hy with hy | hy
                · exact (RG16.out.here.2 y hy).ext F8.ext
                · rw [List.mem_singleton] at hy; subst hy; exact RC16.out.here.ext F8.ext⟩ (by have := S3.out.1; omega) (by omega) (fun y hy => by have := S3.out.2 y hy; omega) (fun y hy => by
                rcases List.mem_append.1 hy with hy | hy
                · have := SO.out.1 y hy; omega
                · rw [List.mem_singleton] at hy; subst hy; show 1 ≤ 100000; omega))
              rw [decide_eq_true (by rw [HY3.out, List.map_append]; rfl)] at HS3
              (repeat' (first | (refine Mix.lex_quiet0 rfl rfl rfl ?_; intro K hK; go_big_quiet_op; go_big_quiet_on) | (refine Mix.lex_quietG rfl rfl rfl (by with_reducible rfl) rfl rfl ?_; intro K hK; go_big_quiet_op; go_big_quiet_on) | ((first | refine Mix.lex_skipT rfl rfl rfl (by with_reducible rfl) ?_ | refine Mix.lex_skipF rfl rfl rfl (by with_reducible rfl) ?_ | refine Mix.lex_skipU rfl rfl rfl (by with_reducible rfl) ?_); simp only [Act.put, List.setIfInBounds_toArray, List.set_cons_succ, List.set_cons_zero]) | (refine Mix.lex_part rfl rfl rfl rfl (fun hq => ?_) (fun hq => ?_) <;> (fail_if_success (guard_hyp hq :ₛ true = true)) <;> (fail_if_success (guard_hyp hq :ₛ false = false)) <;> first | (exfalso; cases hq; done) | (exfalso; simp only [decide_eq_true_eq, decide_eq_false_iff_not, beq_iff_eq, beq_eq_false_iff_ne, ne_eq, Int.not_lt, Int.not_le] at hq; omega) | simp only [Act.put, List.setIfInBounds_toArray, List.set_cons_succ, List.set_cons_zero])))
              refine Mix.lex_goesG rfl rfl rfl (by with_reducible rfl) rfl ?_
              intro K hK
              go_simp
              refine HS3.out.mono ?_
              rintro e v20 ⟨rfl, hu⟩
              refine ⟨_, rfl, hK _ _ (fun _ => Cl.of (F8.ext.then_ext hu)) ?_⟩
              clear hK K
              simp only [Act.put, List.setIfInBounds_toArray, List.set_cons_succ, List.set_cons_zero]
              (repeat' (first | (refine Mix.lex_quiet0 rfl rfl rfl ?_; intro K hK; go_big_quiet_op; go_big_quiet_on) | (refine Mix.lex_quietG rfl rfl rfl (by with_reducible rfl) rfl rfl ?_; intro K hK; go_big_quiet_op; go_big_quiet_on) | ((first | refine Mix.lex_skipT rfl rfl rfl (by with_reducible rfl) ?_ | refine Mix.lex_skipF rfl rfl rfl (by with_reducible rfl) ?_ | refine Mix.lex_skipU rfl rfl rfl (by with_reducible rfl) ?_); simp only [Act.put, List.setIfInBounds_toArray, List.set_cons_succ, List.set_cons_zero]) | (refine Mix.lex_part rfl rfl rfl rfl (fun hq => ?_) (fun hq => ?_) <;> (fail_if_success (guard_hyp hq :ₛ true = true)) <;> (fail_if_success (guard_hyp hq :ₛ false = false)) <;> first | (exfalso; cases hq; done) | (exfalso; simp only [decide_eq_true_eq, decide_eq_false_iff_not, beq_iff_eq, beq_eq_false_iff_ne, ne_eq, Int.not_lt, Int.not_le] at hq; omega) | simp only [Act.put, List.setIfInBounds_toArray, List.set_cons_succ, List.set_cons_zero])))
              refine Mix.lex_nil ?_
              go_wp2_with (first | (refine Mix.wpList_guarded rfl ?_; (repeat' (first | (refine Mix.lex_quiet0 rfl rfl rfl ?_; intro K hK; go_big_quiet_op; go_big_quiet_on) | (refine Mix.lex_quietG rfl rfl rfl (by with_reducible rfl) rfl rfl ?_; intro K hK; go_big_quiet_op; go_big_quiet_on) | ((first | refine Mix.lex_skipT rfl rfl rfl (by with_reducible rfl) ?_ | refine Mix.lex_skipF rfl rfl rfl (by with_reducible rfl) ?_ | refine Mix.lex_skipU rfl rfl rfl (by with_reducible rfl) ?_); simp only [Act.put, List.setIfInBounds_toArray, List.set_cons_succ, List.set_cons_zero]) | (refine Mix.lex_part rfl rfl rfl rfl (fun hq => ?_) (fun hq => ?_) <;> (fail_if_success (guard_hyp hq :ₛ true = true)) <;> (fail_if_success (guard_hyp hq :ₛ false = false)) <;> first | (exfalso; cases hq; done) | (exfalso; simp only [decide_eq_true_eq, decide_eq_false_iff_not, beq_iff_eq, beq_eq_false_iff_ne, ne_eq, Int.not_lt, Int.not_le] at hq; omega) | simp only [Act.put, List.setIfInBounds_toArray, List.set_cons_succ, List.set_cons_zero]))); all_goals (refine Mix.lex_nil ?_)) | (refine Mix.wp_still (by kernel_rfl) (by kernel_rfl) ?_; (repeat' (first | (refine Mix.lex_quiet0 rfl rfl rfl ?_; intro K hK; go_big_quiet_op; go_big_quiet_on) | (refine Mix.lex_quietG rfl rfl rfl (by with_reducible rfl) rfl rfl ?_; intro K hK; go_big_quiet_op; go_big_quiet_on) | ((first | refine Mix.lex_skipT rfl rfl rfl (by with_reducible rfl) ?_ | refine Mix.lex_skipF rfl rfl rfl (by with_reducible rfl) ?_ | refine Mix.lex_skipU rfl rfl rfl (by with_reducible rfl) ?_); simp only [Act.put, List.setIfInBounds_toArray, List.set_cons_succ, List.set_cons_zero]) | (refine Mix.lex_part rfl rfl rfl rfl (fun hq => ?_) (fun hq => ?_) <;> (fail_if_success (guard_hyp hq :ₛ true = true)) <;> (fail_if_success (guard_hyp hq :ₛ false = false)) <;> first | (exfalso; cases hq; done) | (exfalso; simp only [decide_eq_true_eq, decide_eq_false_iff_not, beq_iff_eq, beq_eq_false_iff_ne, ne_eq, Int.not_lt, Int.not_le] at hq; omega) | simp only [Act.put, List.setIfInBounds_toArray, List.set_cons_succ, List.set_cons_zero]))); all_goals (refine Mix.lex_nil ?_)))
              go_ret
              exact ⟨rfl, X16.out.then_ext (F8.ext.then_ext hu)⟩
    · obtain rfl : j = n := by omega
      have glt : decide ((j : Int) < (j : Int)) = false := decide_eq_false (by omega)
      obtain ⟨ysL, hysL⟩ : ∃ z, z = ysW := ⟨_, rfl⟩
      have LWX : Hid (LgW w wr r6 l d) := T6.out.lw
      have HgX : Hid (r6.g = rg) := T6.out.hrg
      have XX : Hid (Ext w wr) := T6.out.x
      have MX : Hid (Ml wr) := T6.out.ml
      have RWX := Lib.hid T6.out.rW
      have RLX : Hid (Rob w wr fun u => DedR u wA ysL.length ysL) := by rw [hysL]; exact T6.out.rW
      have SM := Lib.hid T6.out.small'
      have SL : Hid ((∀ y ∈ ysL, y.2.length ≤ 1000) ∧ ysL.length ≤ 61) := by rw [hysL]; exact ⟨SM.out.1, by have := SM.out.2; omega⟩
      have AF : Hid (d.wait.length ≤ 1000 ∧ ∀ K, (∀ s ∈ keepFrom K d.kept d.wait 0, s.length = 340) ∧ (keepFrom K d.kept d.wait 0).length = 60 ∧ ∃ u, scanF 5 (((keepFrom K d.kept d.wait 0).drop 1).take 59) 0 [] [] 0 = (ysW.map (·.2), u) ∨ scanF 5 (((keepFrom K d.kept d.wait 0).drop 1).take 59) 0 [] [] 0 = (ysL.map (·.2), u)) := by
        have T := T6.out
        refine ⟨by rw [T.rs.wt]; exact Nat.zero_le _, fun K => ?_⟩
        have h3 := restart_dull T.rs (wait := []) (fun t ht => by cases ht) K
        rw [← T.rs.wt] at h3
        unfold reg at h3
        rw [T.lf, T.lm, T.l1] at h3
        exact ⟨keep_wide (by rw [T.rs.kn]; exact T.rs.ok.wide) (fun t ht => by rw [T.rs.wt] at ht; cases ht) K, by rw [length_keepFrom, T.rs.kn]; exact T.dn, _, .inl h3⟩
      go_wp2_with (first | (refine Mix.wpList_guarded rfl ?_; (repeat' (first | (refine Mix.lex_quiet0 rfl rfl rfl ?_; intro K hK; go_big_quiet_op; go_big_quiet_on) | (refine Mix.lex_quietG rfl rfl rfl (by with_reducible rfl) rfl rfl ?_; intro K hK; go_big_quiet_op; go_big_quiet_on) | ((first | refine Mix.lex_skipT rfl rfl rfl (by with_reducible rfl) ?_ | refine Mix.lex_skipF rfl rfl rfl (by with_reducible rfl) ?_ | refine Mix.lex_skipU rfl rfl rfl (by with_reducible rfl) ?_); simp only [Act.put, List.setIfInBounds_toArray, List.set_cons_succ, List.set_cons_zero]) | (refine Mix.lex_part rfl rfl rfl rfl (fun hq => ?_) (fun hq => ?_) <;> (fail_if_success (guard_hyp hq :ₛ true = true)) <;> (fail_if_success (guard_hyp hq :ₛ false = false)) <;> first | (exfalso; cases hq; done) | (exfalso; simp only [decide_eq_true_eq, decide_eq_false_iff_not, beq_iff_eq, beq_eq_false_iff_ne, ne_eq, Int.not_lt, Int.not_le] at hq; omega) | simp only [Act.put, List.setIfInBounds_toArray, List.set_cons_succ, List.set_cons_zero]))); all_goals (refine Mix.lex_nil ?_)) | (refine Mix.wp_still (by kernel_rfl) (by kernel_rfl) ?_; (repeat' (first | (refine Mix.lex_quiet0 rfl rfl rfl ?_; intro K hK; go_big_quiet_op; go_big_quiet_on) | (refine Mix.lex_quietG rfl rfl rfl (by with_reducible rfl) rfl rfl ?_; intro K hK; go_big_quiet_op; go_big_quiet_on) | ((first | refine Mix.lex_skipT rfl rfl rfl (by with_reducible rfl) ?_ | refine Mix.lex_skipF rfl rfl rfl (by with_reducible rfl) ?_ | refine Mix.lex_skipU rfl rfl rfl (by with_reducible rfl) ?_); simp only [Act.put, List.setIfInBounds_toArray, List.set_cons_succ, List.set_cons_zero]) | (refine Mix.lex_part rfl rfl rfl rfl (fun hq => ?_) (fun hq => ?_) <;> (fail_if_success (guard_hyp hq :ₛ true = true)) <;> (fail_if_success (guard_hyp hq :ₛ false = false)) <;> first | (exfalso; cases hq; done) | (exfalso; simp only [decide_eq_true_eq, decide_eq_false_iff_not, beq_iff_eq, beq_eq_false_iff_ne, ne_eq, Int.not_lt, Int.not_le] at hq; omega) | simp only [Act.put, List.setIfInBounds_toArray, List.set_cons_succ, List.set_cons_zero]))); all_goals (refine Mix.lex_nil ?_)))
      have HR := Lib.hid (Restart_c LWX.out.dk K hK (by have := AF.out.1; omega))
      rw [HgX.out, hrg] at HR
      refine HR.out.mono ?_
      intro e v9 hr
      obtain ⟨rfl, r9, hr9, hL9, hx9, -⟩ := LWX.out.dkr XX.out.size hr
      have L9 := Lib.hid hL9
      have Hg9 : Hid (r9.g = r.g) := hr9.trans (HgX.out.trans hrg)
      have X9 : Hid (Ext w v9) := XX.out.ext_frn' hx9
      have M9 : Hid (Ml v9) := HM.out.frn MX.out hx9
      have RW9 := Lib.hid (RWX.out.step hx9 fun _ _ e => e)
      have RL9 := Lib.hid (RLX.out.step hx9 fun _ _ e => e)
      obtain ⟨kw, kl, us, ksc⟩ := AF.out.2 K
      have KW := Lib.hid kw
      have KL := Lib.hid kl
      have KS := Lib.hid ksc
      have HO := Lib.hid (Open_ok M9.out L9.out.dk rfl kw 1 59 5 (by omega) (by show 1 + 59 ≤ (keepFrom K d.kept d.wait 0).length; omega) (by omega) (by omega))
      rw [Hg9.out] at HO
      clear hr hr9 hL9 hx9 kw kl ksc HR LWX XX MX RWX RLX
      go_wp2_with (first | (refine Mix.wpList_guarded rfl ?_; (repeat' (first | (refine Mix.lex_quiet0 rfl rfl rfl ?_; intro K hK; go_big_quiet_op; go_big_quiet_on) | (refine Mix.lex_quietG rfl rfl rfl (by with_reducible rfl) rfl rfl ?_; intro K hK; go_big_quiet_op; go_big_quiet_on) | ((first | refine Mix.lex_skipT rfl rfl rfl (by with_reducible rfl) ?_ | refine Mix.lex_skipF rfl rfl rfl (by with_reducible rfl) ?_ | refine Mix.lex_skipU rfl rfl rfl (by with_reducible rfl) ?_); simp only [Act.put, List.setIfInBounds_toArray, List.set_cons_succ, List.set_cons_zero]) | (refine Mix.lex_part rfl rfl rfl rfl (fun hq => ?_) (fun hq => ?_) <;> (fail_if_success (guard_hyp hq :ₛ true = true)) <;> (fail_if_success (guard_hyp hq :ₛ false = false)) <;> first | (exfalso; cases hq; done) | (exfalso; simp only [decide_eq_true_eq, decide_eq_false_iff_not, beq_iff_eq, beq_eq_false_iff_ne, ne_eq, Int.not_lt, Int.not_le] at hq; omega) | simp only [Act.put, List.setIfInBounds_toArray, List.set_cons_succ, List.set_cons_zero]))); all_goals (refine Mix.lex_nil ?_)) | (refine Mix.wp_still (by kernel_rfl) (by kernel_rfl) ?_; (repeat' (first | (refine Mix.lex_quiet0 rfl rfl rfl ?_; intro K hK; go_big_quiet_op; go_big_quiet_on) | (refine Mix.lex_quietG rfl rfl rfl (by with_reducible rfl) rfl rfl ?_; intro K hK; go_big_quiet_op; go_big_quiet_on) | ((first | refine Mix.lex_skipT rfl rfl rfl (by with_reducible rfl) ?_ | refine Mix.lex_skipF rfl rfl rfl (by with_reducible rfl) ?_ | refine Mix.lex_skipU rfl rfl rfl (by with_reducible rfl) ?_); simp only [Act.put, List.setIfInBounds_toArray, List.set_cons_succ, List.set_cons_zero]) | (refine Mix.lex_part rfl rfl rfl rfl (fun hq => ?_) (fun hq => ?_) <;> (fail_if_success (guard_hyp hq :ₛ true = true)) <;> (fail_if_success (guard_hyp hq :ₛ false = false)) <;> first | (exfalso; cases hq; done) | (exfalso; simp only [decide_eq_true_eq, decide_eq_false_iff_not, beq_iff_eq, beq_eq_false_iff_ne, ne_eq, Int.not_lt, Int.not_le] at hq; omega) | simp only [Act.put, List.setIfInBounds_toArray, List.set_cons_succ, List.set_cons_zero]))); all_goals (refine Mix.lex_nil ?_)))
      refine HO.out.mono ?_
      rintro e v10 ⟨g2, oA2, oc2, ys2, rfl, hg2, hLa, hD2, hys2, hx⟩
      obtain ⟨R, hR⟩ : ∃ R, R = scanF 5 (((d.restarted K).now.drop 1).take 59) 0 [] [] 0 := ⟨_, rfl⟩
      rw [← hR] at hLa hys2
      have HOut : Hid (ys2.map (·.2) = ysW.map (·.2) ∨ ys2.map (·.2) = ysL.map (·.2)) := by
        rw [Hid, hys2, hR]
        rcases KS.out with h | h
        · exact .inl (congrArg Prod.fst h)
        · exact .inr (congrArg Prod.fst h)
      go_wp2_with (first | (refine Mix.wpList_guarded rfl ?_; (repeat' (first | (refine Mix.lex_quiet0 rfl rfl rfl ?_; intro K hK; go_big_quiet_op; go_big_quiet_on) | (refine Mix.lex_quietG rfl rfl rfl (by with_reducible rfl) rfl rfl ?_; intro K hK; go_big_quiet_op; go_big_quiet_on) | ((first | refine Mix.lex_skipT rfl rfl rfl (by with_reducible rfl) ?_ | refine Mix.lex_skipF rfl rfl rfl (by with_reducible rfl) ?_ | refine Mix.lex_skipU rfl rfl rfl (by with_reducible rfl) ?_); simp only [Act.put, List.setIfInBounds_toArray, List.set_cons_succ, List.set_cons_zero]) | (refine Mix.lex_part rfl rfl rfl rfl (fun hq => ?_) (fun hq => ?_) <;> (fail_if_success (guard_hyp hq :ₛ true = true)) <;> (fail_if_success (guard_hyp hq :ₛ false = false)) <;> first | (exfalso; cases hq; done) | (exfalso; simp only [decide_eq_true_eq, decide_eq_false_iff_not, beq_iff_eq, beq_eq_false_iff_ne, ne_eq, Int.not_lt, Int.not_le] at hq; omega) | simp only [Act.put, List.setIfInBounds_toArray, List.set_cons_succ, List.set_cons_zero]))); all_goals (refine Mix.lex_nil ?_)) | (refine Mix.wp_still (by kernel_rfl) (by kernel_rfl) ?_; (repeat' (first | (refine Mix.lex_quiet0 rfl rfl rfl ?_; intro K hK; go_big_quiet_op; go_big_quiet_on) | (refine Mix.lex_quietG rfl rfl rfl (by with_reducible rfl) rfl rfl ?_; intro K hK; go_big_quiet_op; go_big_quiet_on) | ((first | refine Mix.lex_skipT rfl rfl rfl (by with_reducible rfl) ?_ | refine Mix.lex_skipF rfl rfl rfl (by with_reducible rfl) ?_ | refine Mix.lex_skipU rfl rfl rfl (by with_reducible rfl) ?_); simp only [Act.put, List.setIfInBounds_toArray, List.set_cons_succ, List.set_cons_zero]) | (refine Mix.lex_part rfl rfl rfl rfl (fun hq => ?_) (fun hq => ?_) <;> (fail_if_success (guard_hyp hq :ₛ true = true)) <;> (fail_if_success (guard_hyp hq :ₛ false = false)) <;> first | (exfalso; cases hq; done) | (exfalso; simp only [decide_eq_true_eq, decide_eq_false_iff_not, beq_iff_eq, beq_eq_false_iff_ne, ne_eq, Int.not_lt, Int.not_le] at hq; omega) | simp only [Act.put, List.setIfInBounds_toArray, List.set_cons_succ, List.set_cons_zero]))); all_goals (refine Mix.lex_nil ?_)))
      have X10 : Hid (Ext w v10) := X9.out.then_ext hx
      have L10 : Hid (LgW w v10 r9 ⟨g2, 1, 59, 5, R.2⟩ (d.restarted K)) := ⟨L9.out.dk.ext hx, by rw [Hg9.out]; exact hLa, L9.out.fp, Nat.le_trans X9.out.size hg2⟩
      have M10 := Lib.hid (M9.out.ext hx)
      have RW10 := Lib.hid (RW9.out.ext hx)
      have RL10 := Lib.hid (RL9.out.ext hx)
      have DD10 := Lib.hid hD2
      have HY := Lib.hid hys2
      have HRR := Lib.hid hR
      have SO : Hid ((∀ y ∈ ys2, y.2.length ≤ 1000) ∧ ys2.length ≤ 61) := by
        have hgen : ∀ zs : List DeedV, ys2.map (·.2) = zs.map (·.2) → (∀ y ∈ zs, y.2.length ≤ 1000) → zs.length ≤ 61 → (∀ y ∈ ys2, y.2.length ≤ 1000) ∧ ys2.length ≤ 61 := fun zs h1 h2 h3 => by
          refine ⟨fun y hy => ?_, by have := congrArg List.length h1; simp only [List.length_map] at this; omega⟩
          have h4 : y.2 ∈ zs.map (·.2) := by rw [← h1]; exact List.mem_map_of_mem hy
          obtain ⟨z, h5, h6⟩ := List.mem_map.1 h4
          rw [← h6]; exact h2 z h5
        rcases HOut.out with h | h
        · exact hgen _ h SM.out.1 (by have := SM.out.2; omega)
        · exact hgen _ h SL.out.1 SL.out.2
      have HS1 := Lib.hid (SameDeeds_c (c := oc2) (d := wcap) hD2.red RW10.out.here (by have := SO.out.2; omega) (by have := SM.out.2; omega) (fun y hy => by have := SO.out.1 y hy; omega) (fun y hy => by have := SM.out.1 y hy; omega))
      obtain ⟨q, hq⟩ : ∃ q, q = decide (ys2.map (·.2) = ysW.map (·.2)) := ⟨_, rfl⟩
      rw [← hq] at HS1
      have HQ := Lib.hid hq
      clear hq hys2 hR hLa hD2 hx hg2 L9 X9 M9 RW9 RL9 HO
      refine HS1.out.mono ?_
      rintro e v11 ⟨rfl, hu⟩
      have E11 := Lib.hid hu
      clear hu HS1
      cases q
      · exfalso
        rcases HOut.out with h | h
        · exact absurd h (of_decide_eq_false HQ.out.symm)
        · rw [hysL] at h; exact absurd h (of_decide_eq_false HQ.out.symm)
      · have HU : Hid (R.2 ≤ 59) := by
          have h := (scan_from (first := 5) (L := ((d.restarted K).now.drop 1).take 59) (out := R.1) (used := R.2) (by rw [← HRR.out])).1
          exact Nat.le_trans h (List.length_take_le _ _)
        go_wp2_with (first | (refine Mix.wpList_guarded rfl ?_; (repeat' (first | (refine Mix.lex_quiet0 rfl rfl rfl ?_; intro K hK; go_big_quiet_op; go_big_quiet_on) | (refine Mix.lex_quietG rfl rfl rfl (by with_reducible rfl) rfl rfl ?_; intro K hK; go_big_quiet_op; go_big_quiet_on) | ((first | refine Mix.lex_skipT rfl rfl rfl (by with_reducible rfl) ?_ | refine Mix.lex_skipF rfl rfl rfl (by with_reducible rfl) ?_ | refine Mix.lex_skipU rfl rfl rfl (by with_reducible rfl) ?_); simp only [Act.put, List.setIfInBounds_toArray, List.set_cons_succ, List.set_cons_zero]) | (refine Mix.lex_part rfl rfl rfl rfl (fun hq => ?_) (fun hq => ?_) <;> (fail_if_success (guard_hyp hq :ₛ true = true)) <;> (fail_if_success (guard_hyp hq :ₛ false = false)) <;> first | (exfalso; cases hq; done) | (exfalso; simp only [decide_eq_true_eq, decide_eq_false_iff_not, beq_iff_eq, beq_eq_false_iff_ne, ne_eq, Int.not_lt, Int.not_le] at hq; omega) | simp only [Act.put, List.setIfInBounds_toArray, List.set_cons_succ, List.set_cons_zero]))); all_goals (refine Mix.lex_nil ?_)) | (refine Mix.wp_still (by kernel_rfl) (by kernel_rfl) ?_; (repeat' (first | (refine Mix.lex_quiet0 rfl rfl rfl ?_; intro K hK; go_big_quiet_op; go_big_quiet_on) | (refine Mix.lex_quietG rfl rfl rfl (by with_reducible rfl) rfl rfl ?_; intro K hK; go_big_quiet_op; go_big_quiet_on) | ((first | refine Mix.lex_skipT rfl rfl rfl (by with_reducible rfl) ?_ | refine Mix.lex_skipF rfl rfl rfl (by with_reducible rfl) ?_ | refine Mix.lex_skipU rfl rfl rfl (by with_reducible rfl) ?_); simp only [Act.put, List.setIfInBounds_toArray, List.set_cons_succ, List.set_cons_zero]) | (refine Mix.lex_part rfl rfl rfl rfl (fun hq => ?_) (fun hq => ?_) <;> (fail_if_success (guard_hyp hq :ₛ true = true)) <;> (fail_if_success (guard_hyp hq :ₛ false = false)) <;> first | (exfalso; cases hq; done) | (exfalso; simp only [decide_eq_true_eq, decide_eq_false_iff_not, beq_iff_eq, beq_eq_false_iff_ne, ne_eq, Int.not_lt, Int.not_le] at hq; omega) | simp only [Act.put, List.setIfInBounds_toArray, List.set_cons_succ, List.set_cons_zero]))); all_goals (refine Mix.lex_nil ?_)))
        obtain ⟨g13, hg13⟩ : ∃ x, x = v11.heap.size := ⟨_, rfl⟩
        obtain ⟨w13, hw13⟩ : ∃ v, v = v11.alloc (.cells #[S [102, 47, 122], S [122], .bool false] chT) := ⟨_, rfl⟩
        have x13 : Ext v11 w13 := by rw [hw13]; exact (Only.refl No v11).alloc _
        have hC13 : Cs w13 g13 chT #[S [102, 47, 122], S [122], .bool false] := by rw [hw13, hg13]; exact Cs.new _ _ _
        rw [← hw13, ← hg13]
        have X13 := Lib.hid (X10.out.then_ext (E11.out.then_ext x13))
        have L13 := Lib.hid (L10.out.ext (E11.out.then_ext x13))
        have M13 := Lib.hid (M10.out.ext (E11.out.then_ext x13))
        have RG13 : Hid (Rob w w13 fun u => DedR u oA2 ys2.length ys2) := (DD10.out.ext (E11.out.then_ext x13)).rob
        have RC13 : Hid (Rob w w13 fun u => SlR chF u (some ⟨g13, 0, none⟩) 1 [topC]) := fun u hu => sl_cs (T := chF) (x := topC) (rob_cs (w0 := w) hC13 (by decide) (by decide) (by decide) (by decide) u hu) rfl
        clear hw13 hg13 hC13 x13 E11 X10 L10 M10 DD10 RW10 RL10
        have HRm := Lib.hid (Room_c L13.out.lg (show 59 ≤ 1000 by decide) HU.out)
        refine HRm.out.mono ?_
        rintro e v14 ⟨rfl, hu⟩
        have X14 := Lib.hid (X13.out.then_ext hu)
        have L14 := Lib.hid (L13.out.ext hu)
        have M14 := Lib.hid (M13.out.ext hu)
        have RG14 := Lib.hid (RG13.out.ext hu)
        have RC14 := Lib.hid (RC13.out.ext hu)
        clear hu HRm X13 L13 M13 RG13 RC13
        by_cases hr2 : 59 - R.2 < 2
        · have gr1 : decide (((59 - R.2 : Nat) : Int) < 2) = true := decide_eq_true (by omega)
          have gr2 : decide (59 - R.2 < 2) = true := decide_eq_true hr2
          go_wp2_with (first | (refine Mix.wpList_guarded rfl ?_; (repeat' (first | (refine Mix.lex_quiet0 rfl rfl rfl ?_; intro K hK; go_big_quiet_op; go_big_quiet_on) | (refine Mix.lex_quietG rfl rfl rfl (by with_reducible rfl) rfl rfl ?_; intro K hK; go_big_quiet_op; go_big_quiet_on) | ((first | refine Mix.lex_skipT rfl rfl rfl (by with_reducible rfl) ?_ | refine Mix.lex_skipF rfl rfl rfl (by with_reducible rfl) ?_ | refine Mix.lex_skipU rfl rfl rfl (by with_reducible rfl) ?_); simp only [Act.put, List.setIfInBounds_toArray, List.set_cons_succ, List.set_cons_zero]) | (refine Mix.lex_part rfl rfl rfl rfl (fun hq => ?_) (fun hq => ?_) <;> (fail_if_success (guard_hyp hq :ₛ true = true)) <;> (fail_if_success (guard_hyp hq :ₛ false = false)) <;> first | (exfalso; cases hq; done) | (exfalso; simp only [decide_eq_true_eq, decide_eq_false_iff_not, beq_iff_eq, beq_eq_false_iff_ne, ne_eq, Int.not_lt, Int.not_le] at hq; omega) | simp only [Act.put, List.setIfInBounds_toArray, List.set_cons_succ, List.set_cons_zero]))); all_goals (refine Mix.lex_nil ?_)) | (refine Mix.wp_still (by kernel_rfl) (by kernel_rfl) ?_; (repeat' (first | (refine Mix.lex_quiet0 rfl rfl rfl ?_; intro K hK; go_big_quiet_op; go_big_quiet_on) | (refine Mix.lex_quietG rfl rfl rfl (by with_reducible rfl) rfl rfl ?_; intro K hK; go_big_quiet_op; go_big_quiet_on) | ((first | refine Mix.lex_skipT rfl rfl rfl (by with_reducible rfl) ?_ | refine Mix.lex_skipF rfl rfl rfl (by with_reducible rfl) ?_ | refine Mix.lex_skipU rfl rfl rfl (by with_reducible rfl) ?_); simp only [Act.put, List.setIfInBounds_toArray, List.set_cons_succ, List.set_cons_zero]) | (refine Mix.lex_part rfl rfl rfl rfl (fun hq => ?_) (fun hq => ?_) <;> (fail_if_success (guard_hyp hq :ₛ true = true)) <;> (fail_if_success (guard_hyp hq :ₛ false = false)) <;> first | (exfalso; cases hq; done) | (exfalso; simp only [decide_eq_true_eq, decide_eq_false_iff_not, beq_iff_eq, beq_eq_false_iff_ne, ne_eq, Int.not_lt, Int.not_le] at hq; omega) | simp only [Act.put, List.setIfInBounds_toArray, List.set_cons_succ, List.set_cons_zero]))); all_goals (refine Mix.lex_nil ?_)))
          go_ret
          exact ⟨rfl, X14.out⟩
        · have gr1 : decide (((59 - R.2 : Nat) : Int) < 2) = false := decide_eq_false (by omega)
          have gr2 : decide (59 - R.2 < 2) = false := decide_eq_false hr2
          have hUp : (d.restarted K).Up := ⟨rfl, rfl, KW.out⟩
          obtain ⟨d', e1, e2, e3, -, -, e4, -⟩ := add_up (l := ⟨g2, 1, 59, 5, R.2⟩) (c := [topC]) (d := d.restarted K) (out := R.1) hUp (by show 1 + 59 ≤ (keepFrom K d.kept d.wait 0).length; have := KL.out; omega) (by show scanF 5 (((d.restarted K).now.drop 1).take 59) 0 [] [] 0 = _; rw [← HRR.out]) topC_good (by decide) (show R.2 + 1 + 1 ≤ 59 by omega)
          have HA2 := Lib.hid (Add_c (cap := 1) (n := 1) (A := some ⟨g13, 0, none⟩) (c := [topC]) HM.out M14.out L14.out X14.out.size RC14.out (fun x hx => by rw [List.mem_singleton] at hx; subst hx; decide) (by decide) (Nat.zero_le _) (show 1 ≤ 1000 ∧ 59 ≤ 1000 ∧ R.2 ≤ 59 ∧ 5 ≤ 1000000000000 by have := HU.out; omega))
          rw [e1] at HA2
          have HUp := Lib.hid e2
          have Hlen : Hid (d'.now.length = 60) := e3.trans KL.out
          have HSc : Hid (scanF 5 ((d'.now.drop 1).take 59) 0 [] [] 0 = (R.1 ++ [[topC]], R.2 + 1 + 1)) := e4
          clear e1 e2 e3 e4 hUp
          go_wp2_with (first | (refine Mix.wpList_guarded rfl ?_; (repeat' (first | (refine Mix.lex_quiet0 rfl rfl rfl ?_; intro K hK; go_big_quiet_op; go_big_quiet_on) | (refine Mix.lex_quietG rfl rfl rfl (by with_reducible rfl) rfl rfl ?_; intro K hK; go_big_quiet_op; go_big_quiet_on) | ((first | refine Mix.lex_skipT rfl rfl rfl (by with_reducible rfl) ?_ | refine Mix.lex_skipF rfl rfl rfl (by with_reducible rfl) ?_ | refine Mix.lex_skipU rfl rfl rfl (by with_reducible rfl) ?_); simp only [Act.put, List.setIfInBounds_toArray, List.set_cons_succ, List.set_cons_zero]) | (refine Mix.lex_part rfl rfl rfl rfl (fun hq => ?_) (fun hq => ?_) <;> (fail_if_success (guard_hyp hq :ₛ true = true)) <;> (fail_if_success (guard_hyp hq :ₛ false = false)) <;> first | (exfalso; cases hq; done) | (exfalso; simp only [decide_eq_true_eq, decide_eq_false_iff_not, beq_iff_eq, beq_eq_false_iff_ne, ne_eq, Int.not_lt, Int.not_le] at hq; omega) | simp only [Act.put, List.setIfInBounds_toArray, List.set_cons_succ, List.set_cons_zero]))); all_goals (refine Mix.lex_nil ?_)) | (refine Mix.wp_still (by kernel_rfl) (by kernel_rfl) ?_; (repeat' (first | (refine Mix.lex_quiet0 rfl rfl rfl ?_; intro K hK; go_big_quiet_op; go_big_quiet_on) | (refine Mix.lex_quietG rfl rfl rfl (by with_reducible rfl) rfl rfl ?_; intro K hK; go_big_quiet_op; go_big_quiet_on) | ((first | refine Mix.lex_skipT rfl rfl rfl (by with_reducible rfl) ?_ | refine Mix.lex_skipF rfl rfl rfl (by with_reducible rfl) ?_ | refine Mix.lex_skipU rfl rfl rfl (by with_reducible rfl) ?_); simp only [Act.put, List.setIfInBounds_toArray, List.set_cons_succ, List.set_cons_zero]) | (refine Mix.lex_part rfl rfl rfl rfl (fun hq => ?_) (fun hq => ?_) <;> (fail_if_success (guard_hyp hq :ₛ true = true)) <;> (fail_if_success (guard_hyp hq :ₛ false = false)) <;> first | (exfalso; cases hq; done) | (exfalso; simp only [decide_eq_true_eq, decide_eq_false_iff_not, beq_iff_eq, beq_eq_false_iff_ne, ne_eq, Int.not_lt, Int.not_le] at hq; omega) | simp only [Act.put, List.setIfInBounds_toArray, List.set_cons_succ, List.set_cons_zero]))); all_goals (refine Mix.lex_nil ?_)))
          refine HA2.out.mono ?_
          rintro e v15 ⟨rfl, r15, hr15, hL15, hx15⟩
          rw [errV_zero]
          have X15 : Hid (Ext w v15) := X14.out.ext_frn' hx15
          have L15 := Lib.hid hL15
          have M15 : Hid (Ml v15) := HM.out.frn M14.out hx15
          have RG15 := Lib.hid (RG14.out.step hx15 fun _ _ e => e)
          have RC15 := Lib.hid (RC14.out.step hx15 fun _ _ e => e)
          have Hg15 : Hid (r15.g = r.g) := hr15.trans Hg9.out
          have HO3 := Lib.hid (Open_ok M15.out L15.out.dk HUp.out.dn HUp.out.wide 1 59 5 (by omega) (by rw [Hlen.out]; omega) (by omega) (by omega))
          rw [Hg15.out, HSc.out] at HO3
          clear hr15 hL15 hx15 HA2 X14 L14 M14 RG14 RC14 HSc
          go_wp2_with (first | (refine Mix.wpList_guarded rfl ?_; (repeat' (first | (refine Mix.lex_quiet0 rfl rfl rfl ?_; intro K hK; go_big_quiet_op; go_big_quiet_on) | (refine Mix.lex_quietG rfl rfl rfl (by with_reducible rfl) rfl rfl ?_; intro K hK; go_big_quiet_op; go_big_quiet_on) | ((first | refine Mix.lex_skipT rfl rfl rfl (by with_reducible rfl) ?_ | refine Mix.lex_skipF rfl rfl rfl (by with_reducible rfl) ?_ | refine Mix.lex_skipU rfl rfl rfl (by with_reducible rfl) ?_); simp only [Act.put, List.setIfInBounds_toArray, List.set_cons_succ, List.set_cons_zero]) | (refine Mix.lex_part rfl rfl rfl rfl (fun hq => ?_) (fun hq => ?_) <;> (fail_if_success (guard_hyp hq :ₛ true = true)) <;> (fail_if_success (guard_hyp hq :ₛ false = false)) <;> first | (exfalso; cases hq; done) | (exfalso; simp only [decide_eq_true_eq, decide_eq_false_iff_not, beq_iff_eq, beq_eq_false_iff_ne, ne_eq, Int.not_lt, Int.not_le] at hq; omega) | simp only [Act.put, List.setIfInBounds_toArray, List.set_cons_succ, List.set_cons_zero]))); all_goals (refine Mix.lex_nil ?_)) | (refine Mix.wp_still (by kernel_rfl) (by kernel_rfl) ?_; (repeat' (first | (refine Mix.lex_quiet0 rfl rfl rfl ?_; intro K hK; go_big_quiet_op; go_big_quiet_on) | (refine Mix.lex_quietG rfl rfl rfl (by with_reducible rfl) rfl rfl ?_; intro K hK; go_big_quiet_op; go_big_quiet_on) | ((first | refine Mix.lex_skipT rfl rfl rfl (by with_reducible rfl) ?_ | refine Mix.lex_skipF rfl rfl rfl (by with_reducible rfl) ?_ | refine Mix.lex_skipU rfl rfl rfl (by with_reducible rfl) ?_); simp only [Act.put, List.setIfInBounds_toArray, List.set_cons_succ, List.set_cons_zero]) | (refine Mix.lex_part rfl rfl rfl rfl (fun hq => ?_) (fun hq => ?_) <;> (fail_if_success (guard_hyp hq :ₛ true = true)) <;> (fail_if_success (guard_hyp hq :ₛ false = false)) <;> first | (exfalso; cases hq; done) | (exfalso; simp only [decide_eq_true_eq, decide_eq_false_iff_not, beq_iff_eq, beq_eq_false_iff_ne, ne_eq, Int.not_lt, Int.not_le] at hq; omega) | simp only [Act.put, List.setIfInBounds_toArray, List.set_cons_succ, List.set_cons_zero]))); all_goals (refine Mix.lex_nil ?_)))
          refine HO3.out.mono ?_
          rintro e v16 ⟨g3, oA3, oc3, ys3, rfl, hg3, hL3, hD3, hys3, hx⟩
          have X16 : Hid (Ext w v16) := X15.out.then_ext hx
          have RG16 := Lib.hid (RG15.out.ext hx)
          have RC16 := Lib.hid (RC15.out.ext hx)
          have DD16 := Lib.hid hD3
          have HY3 : Hid (ys3.map (·.2) = ys2.map (·.2) ++ [[topC]]) := by rw [Hid, hys3, HY.out]
          have S2 := SO.out.2
          have S3 : Hid (ys3.length ≤ 62 ∧ ∀ y ∈ ys3, y.2.length ≤ 1000) := by
            have h := congrArg List.length HY3.out
            simp only [List.length_map, List.length_append, List.length_singleton] at h
            refine ⟨by omega, fun y hy => ?_⟩
            have h4 : y.2 ∈ ys2.map (·.2) ++ [[topC]] := by rw [← HY3.out]; exact List.mem_map_of_mem hy
            rcases List.mem_append.1 h4 with h4 | h4
            · obtain ⟨z, h5, h6⟩ := List.mem_map.1 h4
              rw [← h6]; exact SO.out.1 z h5
            · rw [List.mem_singleton] at h4
              rw [h4]; decide
          clear hg3 hL3 hD3 hys3 hx HO3 X15 L15 M15 RG15 RC15
          go_upto_region 33 with fail
          refine Mix.wp_plain [5, 7, 8, 9] (Cl v16 No) (Cl.of (Only.refl _ _)) ?_
          (repeat' (first | (refine Mix.lex_quiet0 rfl rfl rfl ?_; intro K hK; go_big_quiet_op; go_big_quiet_on) | (refine Mix.lex_quietG rfl rfl rfl (by with_reducible rfl) rfl rfl ?_; intro K hK; go_big_quiet_op; go_big_quiet_on) | ((first | refine Mix.lex_skipT rfl rfl rfl (by with_reducible rfl) ?_ | refine Mix.lex_skipF rfl rfl rfl (by with_reducible rfl) ?_ | refine Mix.lex_skipU rfl rfl rfl (by with_reducible rfl) ?_); simp only [Act.put, List.setIfInBounds_toArray, List.set_cons_succ, List.set_cons_zero]) | (refine Mix.lex_part rfl rfl rfl rfl (fun hq => ?_) (fun hq => ?_) <;> (fail_if_success (guard_hyp hq :ₛ true = true)) <;> (fail_if_success (guard_hyp hq :ₛ false = false)) <;> first | (exfalso; cases hq; done) | (exfalso; simp only [decide_eq_true_eq, decide_eq_false_iff_not, beq_iff_eq, beq_eq_false_iff_ne, ne_eq, Int.not_lt, Int.not_le] at hq; omega) | simp only [Act.put, List.setIfInBounds_toArray, List.set_cons_succ, List.set_cons_zero])))
          refine Mix.lex_goesG rfl rfl rfl (by with_reducible rfl) rfl ?_
          intro K hK
          refine goes_append (v := .slice none 0 0) (n := 0) (xs := []) dd_ty rfl rfl rfl (World.ownsRow_nil _ _ _ _) (RG16.out.here.1.rd (by decide)) (ded_enc1 ys2) (by omega) ?_
          intro A6 c6 w17 hown6 hg6 hb6
          have F6 : Fresh dedF deedT v16 w17 A6 c6 ys2 := (Fresh.nil dedF deedT v16 v16 (Only.refl _ _)).grow (ys := ys2) rfl hown6 hg6 hb6
          rw [Nat.zero_add]
          refine hK _ _ (fun _ => Cl.of F6.ext) ?_
          clear hK K hown6 hg6 hb6
          simp only [Act.put, List.setIfInBounds_toArray, List.set_cons_succ, List.set_cons_zero]
          (repeat' (first | (refine Mix.lex_quiet0 rfl rfl rfl ?_; intro K hK; go_big_quiet_op; go_big_quiet_on) | (refine Mix.lex_quietG rfl rfl rfl (by with_reducible rfl) rfl rfl ?_; intro K hK; go_big_quiet_op; go_big_quiet_on) | ((first | refine Mix.lex_skipT rfl rfl rfl (by with_reducible rfl) ?_ | refine Mix.lex_skipF rfl rfl rfl (by with_reducible rfl) ?_ | refine Mix.lex_skipU rfl rfl rfl (by with_reducible rfl) ?_); simp only [Act.put, List.setIfInBounds_toArray, List.set_cons_succ, List.set_cons_zero]) | (refine Mix.lex_part rfl rfl rfl rfl (fun hq => ?_) (fun hq => ?_) <;> (fail_if_success (guard_hyp hq :ₛ true = true)) <;> (fail_if_success (guard_hyp hq :ₛ false = false)) <;> first | (exfalso; cases hq; done) | (exfalso; simp only [decide_eq_true_eq, decide_eq_false_iff_not, beq_iff_eq, beq_eq_false_iff_ne, ne_eq, Int.not_lt, Int.not_le] at hq; omega) | simp only [Act.put, List.setIfInBounds_toArray, List.set_cons_succ, List.set_cons_zero])))
          ((first | refine Mix.lex_goes0 rfl rfl ?_ | refine Mix.lex_goesG rfl rfl rfl (by with_reducible rfl) rfl ?_); intro K hK; go_simp)
          obtain ⟨w18, hw18⟩ : ∃ u, u = w17.alloc (.cells #[.slice (some ⟨g13, 0, none⟩) 1 1] deedT) := ⟨_, rfl⟩
          obtain ⟨g18, hg18⟩ : ∃ g, g = w17.heap.size := ⟨_, rfl⟩
          have hC18 : Cs w18 g18 deedT #[.slice (some ⟨g13, 0, none⟩) 1 1] := by rw [hw18, hg18]; exact Cs.new _ _ _
          have x18 : Ext w17 w18 := by rw [hw18]; exact (Only.refl No _).alloc _
          rw [← hw18, ← hg18]
          refine hK _ _ (fun _ => Cl.of (F6.ext.then_ext x18)) ?_
          clear hK K hw18 hg18
          simp only [Act.put, List.setIfInBounds_toArray, List.set_cons_succ, List.set_cons_zero]
          refine Mix.lex_goesG rfl rfl rfl (by with_reducible rfl) rfl ?_
          intro K hK
          have F7 := F6.on x18
          refine goes_append (v := .slice A6 ys2.length c6) (n := ys2.length) (xs := ys2.flatMap dedF.enc) dd_ty rfl rfl rfl F7.own (rd_cs (cs := [.slice (some ⟨g13, 0, none⟩) 1 1]) hC18) (by simp [Value.oneCell']) (by omega) ?_
          intro A8 c8 w19 hown8 hg8 hb8
          have F8 : Fresh dedF deedT v16 w19 A8 c8 (ys2 ++ [((some ⟨g13, 0, none⟩, 1), [topC])]) := F7.grow (m := 1) (ys := [((some ⟨g13, 0, none⟩, 1), [topC])]) rfl (by exact hown8) hg8 hb8
          refine hK _ _ (fun _ => Cl.of F8.ext) ?_
          clear hK K hown8 hg8 hb8
          simp only [Act.put, List.setIfInBounds_toArray, List.set_cons_succ, List.set_cons_zero]
          have HS3 := Lib.hid (SameDeeds_c (c := oc3) (d := c8) (DD16.out.ext F8.ext).red (B := A8) (m := ys2.length + 1) (zs := ys2 ++ [((some ⟨g13, 0, none⟩, 1), [topC])]) ⟨by have h := SlR.of_own (T := dedF) (by decide) F8.own; rw [List.length_append] at h; exact h, fun y hy => by
            rcases List.mem_append.1 hy with hy | hy
            · exact (RG16.out.here.2 y hy).ext F8.ext
            · rw [List.mem_singleton] at hy; subst hy; exact RC16.out.here.ext F8.ext⟩ (by have := S3.out.1; omega) (by omega) (fun y hy => by have := S3.out.2 y hy; omega) (fun y hy => by
            rcases List.mem_append.1 hy with hy | hy
            · have := SO.out.1 y hy; omega
            · rw [List.mem_singleton] at hy; subst hy; show 1 ≤ 100000; omega))
          rw [decide_eq_true (by rw [HY3.out, List.map_append]; rfl)] at HS3
          (repeat' (first | (refine Mix.lex_quiet0 rfl rfl rfl ?_; intro K hK; go_big_quiet_op; go_big_quiet_on) | (refine Mix.lex_quietG rfl rfl rfl (by with_reducible rfl) rfl rfl ?_; intro K hK; go_big_quiet_op; go_big_quiet_on) | ((first | refine Mix.lex_skipT rfl rfl rfl (by with_reducible rfl) ?_ | refine Mix.lex_skipF rfl rfl rfl (by with_reducible rfl) ?_ | refine Mix.lex_skipU rfl rfl rfl (by with_reducible rfl) ?_); simp only [Act.put, List.setIfInBounds_toArray, List.set_cons_succ, List.set_cons_zero]) | (refine Mix.lex_part rfl rfl rfl rfl (fun hq => ?_) (fun hq => ?_) <;> (fail_if_success (guard_hyp hq :ₛ true = true)) <;> (fail_if_success (guard_hyp hq :ₛ false = false)) <;> first | (exfalso; cases hq; done) | (exfalso; simp only [decide_eq_true_eq, decide_eq_false_iff_not, beq_iff_eq, beq_eq_false_iff_ne, ne_eq, Int.not_lt, Int.not_le] at hq; omega) | simp only [Act.put, List.setIfInBounds_toArray, List.set_cons_succ, List.set_cons_zero])))
          refine Mix.lex_goesG rfl rfl rfl (by with_reducible rfl) rfl ?_
          intro K hK
          go_simp
          refine HS3.out.mono ?_
          rintro e v20 ⟨rfl, hu⟩
          refine ⟨_, rfl, hK _ _ (fun _ => Cl.of (F8.ext.then_ext hu)) ?_⟩
          clear hK K
          simp only [Act.put, List.setIfInBounds_toArray, List.set_cons_succ, List.set_cons_zero]
          (repeat' (first | (refine Mix.lex_quiet0 rfl rfl rfl ?_; intro K hK; go_big_quiet_op; go_big_quiet_on) | (refine Mix.lex_quietG rfl rfl rfl (by with_reducible rfl) rfl rfl ?_; intro K hK; go_big_quiet_op; go_big_quiet_on) | ((first | refine Mix.lex_skipT rfl rfl rfl (by with_reducible rfl) ?_ | refine Mix.lex_skipF rfl rfl rfl (by with_reducible rfl) ?_ | refine Mix.lex_skipU rfl rfl rfl (by with_reducible rfl) ?_); simp only [Act.put, List.setIfInBounds_toArray, List.set_cons_succ, List.set_cons_zero]) | (refine Mix.lex_part rfl rfl rfl rfl (fun hq => ?_) (fun hq => ?_) <;> (fail_if_success (guard_hyp hq :ₛ true = true)) <;> (fail_if_success (guard_hyp hq :ₛ false = false)) <;> first | (exfalso; cases hq; done) | (exfalso; simp only [decide_eq_true_eq, decide_eq_false_iff_not, beq_iff_eq, beq_eq_false_iff_ne, ne_eq, Int.not_lt, Int.not_le] at hq; omega) | simp only [Act.put, List.setIfInBounds_toArray, List.set_cons_succ, List.set_cons_zero])))
          refine Mix.lex_nil ?_
          go_wp2_with (first | (refine Mix.wpList_guarded rfl ?_; (repeat' (first | (refine Mix.lex_quiet0 rfl rfl rfl ?_; intro K hK; go_big_quiet_op; go_big_quiet_on) | (refine Mix.lex_quietG rfl rfl rfl (by with_reducible rfl) rfl rfl ?_; intro K hK; go_big_quiet_op; go_big_quiet_on) | ((first | refine Mix.lex_skipT rfl rfl rfl (by with_reducible rfl) ?_ | refine Mix.lex_skipF rfl rfl rfl (by with_reducible rfl) ?_ | refine Mix.lex_skipU rfl rfl rfl (by with_reducible rfl) ?_); simp only [Act.put, List.setIfInBounds_toArray, List.set_cons_succ, List.set_cons_zero]) | (refine Mix.lex_part rfl rfl rfl rfl (fun hq => ?_) (fun hq => ?_) <;> (fail_if_success (guard_hyp hq :ₛ true = true)) <;> (fail_if_success (guard_hyp hq :ₛ false = false)) <;> first | (exfalso; cases hq; done) | (exfalso; simp only [decide_eq_true_eq, decide_eq_false_iff_not, beq_iff_eq, beq_eq_false_iff_ne, ne_eq, Int.not_lt, Int.not_le] at hq; omega) | simp only [Act.put, List.setIfInBounds_toArray, List.set_cons_succ, List.set_cons_zero]))); all_goals (refine Mix.lex_nil ?_)) | (refine Mix.wp_still (by kernel_rfl) (by kernel_rfl) ?_; (repeat' (first | (refine Mix.lex_quiet0 rfl rfl rfl ?_; intro K hK; go_big_quiet_op; go_big_quiet_on) | (refine Mix.lex_quietG rfl rfl rfl (by with_reducible rfl) rfl rfl ?_; intro K hK; go_big_quiet_op; go_big_quiet_on) | ((first | refine Mix.lex_skipT rfl rfl rfl (by with_reducible rfl) ?_ | refine Mix.lex_skipF rfl rfl rfl (by with_reducible rfl) ?_ | refine Mix.lex_skipU rfl rfl rfl (by with_reducible rfl) ?_); simp only [Act.put, List.setIfInBounds_toArray, List.set_cons_succ, List.set_cons_zero]) | (refine Mix.lex_part rfl rfl rfl rfl (fun hq => ?_) (fun hq => ?_) <;> (fail_if_success (guard_hyp hq :ₛ true = true)) <;> (fail_if_success (guard_hyp hq :ₛ false = false)) <;> first | (exfalso; cases hq; done) | (exfalso; simp only [decide_eq_true_eq, decide_eq_false_iff_not, beq_iff_eq, beq_eq_false_iff_ne, ne_eq, Int.not_lt, Int.not_le] at hq; omega) | simp only [Act.put, List.setIfInBounds_toArray, List.set_cons_succ, List.set_cons_zero]))); all_goals (refine Mix.lex_nil ?_)))
          go_ret
          exact ⟨rfl, X16.out.then_ext (F8.ext.then_ext hu)⟩
theorem TopLog_all {w : World} (hm : Ml w) {A : Option Addr} {n cap : Nat} {ys : List DeedV} (hs : DedR w A n ys) (hn : n ≤ maxLen) {fuse : Int} (hf : -9223372036854775808 ≤ fuse ∧ fuse ≤ 9223372036854775807) {K : Nat} (hK : K < 18446744073709551616) :
    Calls Try.prog 4 #[.slice A n cap, .int .i64 fuse, .int .u64 K] w fun e w' => e = .returned (.bool true) ∧ Ext w w' := by
  cases h : lightDs 8 (ys.map (·.2))
  · exact TopLog_small hm hs hn fuse hf K hK h
  · exact TopLog_light hm hs hn fuse hf K hK h
end Go.Proofs.Ytlfiobciahnapaa
