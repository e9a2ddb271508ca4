/- A log's closed fact. -/
import Derived.Test.YtlfiobciahnapaaLg8
import Derived.Test.YtlfiobciahnapaaLgQ
import Derived.Test.YtlfiobciahnapaaSaid
import Derived.Test.YtlfiobciahnapaaDisk6
namespace Go.Proofs.Ytlfiobciahnapaa
open Go Go.RowKit
theorem Deds.rob {w0 w wB : World} {A : Option Addr} {c : Nat} {ys : List DeedV} (h : Deds w wB A c ys) : Rob w0 wB fun u => DedR u A ys.length ys := fun u hu =>
  ⟨SlR.of_own (T := dedF) (by decide) (own_rob h.row.own (by decide) (by decide) (by decide) (by decide) u hu), fun y hy => SlR.of_own (T := chF) (by decide) (own_rob (h.own y hy) (by decide) (by decide) (by decide) (by decide) u hu)⟩
theorem rob_cs {w0 w : World} {g : Nat} {t : TypeId} {cs : Array Value} (h : Cs w g t cs) (h1 : t ≠ diskT) (h2 : t ≠ strT) (h3 : t ≠ turnT) (h4 : t ≠ logT) : Rob w0 w fun u => Cs u g t cs := fun _ hu => h.frn h1 h2 h3 h4 hu
theorem sl_cs {α : Type} {T : Flat α} {w : World} {g : Nat} {t : TypeId} {x : α} {cs : Array Value} (h : Cs w g t cs) (hcs : (T.enc x).toArray = cs) : SlR T w (some ⟨g, 0, none⟩) 1 [x] := by
  subst hcs
  refine ⟨rfl, fun _ => ⟨g, 0, rfl, h.lt, fun k y hk j u hu => ?_⟩⟩
  match k, hk with
  | 0, hk =>
    injection hk with hk
    subst hk
    rw [h.cell]
    simpa using hu
theorem fresh_up (n : Nat) : (Dk.fresh n).Up := ⟨rfl, rfl, fun s hs => by
  have : s = full [] := List.eq_of_mem_replicate hs
  rw [this]; exact length_full [] (by simp)⟩
theorem fresh_len (n : Nat) : (Dk.fresh n).now.length = n := List.length_replicate
theorem scan_zeros (first : Nat) : ∀ (L : List Str) (i : Nat) (deed : List Ch) (out : List (List Ch)) (nx : Nat), (∀ s ∈ L, s = full []) → scanF first L i deed out nx = (out, nx)
  | [], _, _, _, _, _ => rfl
  | s :: r, i, deed, out, nx, h => by rw [h s (by simp)]; exact scan_zero _ _ _ _ _ _
theorem scan_fresh (l : LogR) (n : Nat) (first : Nat) : scanF first (reg l (Dk.fresh n).now) 0 [] [] 0 = ([], 0) :=
  scan_zeros first _ 0 [] [] 0 fun s hs => List.eq_of_mem_replicate (List.mem_of_mem_drop (List.mem_of_mem_take hs))
abbrev logsC : Ch := ([102, 47, 97], [120], false)
theorem logsC_good : chkA [logsC] = 0 := by decide +kernel
@[go_sem] theorem ch_build2 (a b : ByteArray) (w : World) : (Instr.build chT #[(0, .string a), (1, .string b)]).run Try.prog w = .ok (.agg #[.string a, .string b, .bool false]) w := run_build w chT _ _ (by kernel_rfl)
set_option maxRecDepth 100000 in
set_option maxHeartbeats 2000000 in
theorem logs_c {w : World} (hm : Ml w) : Calls Try.prog 5 #[] w fun e w' => e = .returned (.bool true) ∧ Ext w w' := by
  have HM := Lib.hid hm
  clear hm
  have HN := Lib.hid (New_ok 8 (by omega) (by omega) w)
  go_enter Try.func5, Try.ntmps5
  go_wp2_with (first | (refine Mix.wpList_guarded rfl ?_; (repeat' (first | (refine Mix.lex_quiet0 rfl rfl rfl ?_; intro K hK; go_big_quiet_op; go_big_quiet_on) | (refine Mix.lex_quietG rfl rfl rfl (by with_reducible rfl) rfl rfl ?_; intro K hK; go_big_quiet_op; go_big_quiet_on) | ((first | refine Mix.lex_skipT rfl rfl rfl (by with_reducible rfl) ?_ | refine Mix.lex_skipF rfl rfl rfl (by with_reducible rfl) ?_ | refine Mix.lex_skipU rfl rfl rfl (by with_reducible rfl) ?_); simp only [Act.put, List.setIfInBounds_toArray, List.set_cons_succ, List.set_cons_zero]) | (refine Mix.lex_part rfl rfl rfl rfl (fun hq => ?_) (fun hq => ?_) <;> (fail_if_success (guard_hyp hq :ₛ true = true)) <;> (fail_if_success (guard_hyp hq :ₛ false = false)) <;> first | (exfalso; cases hq; done) | (exfalso; simp only [decide_eq_true_eq, decide_eq_false_iff_not, beq_iff_eq, beq_eq_false_iff_ne, ne_eq, Int.not_lt, Int.not_le] at hq; omega) | simp only [Act.put, List.setIfInBounds_toArray, List.set_cons_succ, List.set_cons_zero]))); all_goals (refine Mix.lex_nil ?_)) | (refine Mix.wp_still (by kernel_rfl) (by kernel_rfl) ?_; (repeat' (first | (refine Mix.lex_quiet0 rfl rfl rfl ?_; intro K hK; go_big_quiet_op; go_big_quiet_on) | (refine Mix.lex_quietG rfl rfl rfl (by with_reducible rfl) rfl rfl ?_; intro K hK; go_big_quiet_op; go_big_quiet_on) | ((first | refine Mix.lex_skipT rfl rfl rfl (by with_reducible rfl) ?_ | refine Mix.lex_skipF rfl rfl rfl (by with_reducible rfl) ?_ | refine Mix.lex_skipU rfl rfl rfl (by with_reducible rfl) ?_); simp only [Act.put, List.setIfInBounds_toArray, List.set_cons_succ, List.set_cons_zero]) | (refine Mix.lex_part rfl rfl rfl rfl (fun hq => ?_) (fun hq => ?_) <;> (fail_if_success (guard_hyp hq :ₛ true = true)) <;> (fail_if_success (guard_hyp hq :ₛ false = false)) <;> first | (exfalso; cases hq; done) | (exfalso; simp only [decide_eq_true_eq, decide_eq_false_iff_not, beq_iff_eq, beq_eq_false_iff_ne, ne_eq, Int.not_lt, Int.not_le] at hq; omega) | simp only [Act.put, List.setIfInBounds_toArray, List.set_cons_succ, List.set_cons_zero]))); all_goals (refine Mix.lex_nil ?_)))
  refine HN.out.mono ?_
  rintro e u1 ⟨r, rfl, hd, hu, hfp⟩
  have D1 := Lib.hid hd
  have U1 := Lib.hid hu
  have FP := Lib.hid hfp
  have HO := Lib.hid (Open_ok (HM.out.ext hu) hd rfl (fresh_up 8).wide 2 6 1 (by omega) (by rw [fresh_len]; omega) (by omega) (by omega))
  clear hd hu hfp HN
  go_wp2_with (first | (refine Mix.wpList_guarded rfl ?_; (repeat' (first | (refine Mix.lex_quiet0 rfl rfl rfl ?_; intro K hK; go_big_quiet_op; go_big_quiet_on) | (refine Mix.lex_quietG rfl rfl rfl (by with_reducible rfl) rfl rfl ?_; intro K hK; go_big_quiet_op; go_big_quiet_on) | ((first | refine Mix.lex_skipT rfl rfl rfl (by with_reducible rfl) ?_ | refine Mix.lex_skipF rfl rfl rfl (by with_reducible rfl) ?_ | refine Mix.lex_skipU rfl rfl rfl (by with_reducible rfl) ?_); simp only [Act.put, List.setIfInBounds_toArray, List.set_cons_succ, List.set_cons_zero]) | (refine Mix.lex_part rfl rfl rfl rfl (fun hq => ?_) (fun hq => ?_) <;> (fail_if_success (guard_hyp hq :ₛ true = true)) <;> (fail_if_success (guard_hyp hq :ₛ false = false)) <;> first | (exfalso; cases hq; done) | (exfalso; simp only [decide_eq_true_eq, decide_eq_false_iff_not, beq_iff_eq, beq_eq_false_iff_ne, ne_eq, Int.not_lt, Int.not_le] at hq; omega) | simp only [Act.put, List.setIfInBounds_toArray, List.set_cons_succ, List.set_cons_zero]))); all_goals (refine Mix.lex_nil ?_)) | (refine Mix.wp_still (by kernel_rfl) (by kernel_rfl) ?_; (repeat' (first | (refine Mix.lex_quiet0 rfl rfl rfl ?_; intro K hK; go_big_quiet_op; go_big_quiet_on) | (refine Mix.lex_quietG rfl rfl rfl (by with_reducible rfl) rfl rfl ?_; intro K hK; go_big_quiet_op; go_big_quiet_on) | ((first | refine Mix.lex_skipT rfl rfl rfl (by with_reducible rfl) ?_ | refine Mix.lex_skipF rfl rfl rfl (by with_reducible rfl) ?_ | refine Mix.lex_skipU rfl rfl rfl (by with_reducible rfl) ?_); simp only [Act.put, List.setIfInBounds_toArray, List.set_cons_succ, List.set_cons_zero]) | (refine Mix.lex_part rfl rfl rfl rfl (fun hq => ?_) (fun hq => ?_) <;> (fail_if_success (guard_hyp hq :ₛ true = true)) <;> (fail_if_success (guard_hyp hq :ₛ false = false)) <;> first | (exfalso; cases hq; done) | (exfalso; simp only [decide_eq_true_eq, decide_eq_false_iff_not, beq_iff_eq, beq_eq_false_iff_ne, ne_eq, Int.not_lt, Int.not_le] at hq; omega) | simp only [Act.put, List.setIfInBounds_toArray, List.set_cons_succ, List.set_cons_zero]))); all_goals (refine Mix.lex_nil ?_)))
  refine HO.out.mono ?_
  rintro e u2 ⟨g, oA, oc, ys, rfl, hg, hL, hD, hys, hx⟩
  have hsc : scanF 1 (((Dk.fresh 8).now.drop 2).take 6) 0 [] [] 0 = ([], 0) := scan_fresh ⟨0, 2, 6, 1, 0⟩ 8 1
  rw [hsc] at hL hys
  have hy0 : ys = [] := by
    cases ys with
    | nil => rfl
    | cons a l => cases hys
  subst hy0
  have U2 : Hid (Ext w u2) := U1.out.then_ext hx
  have LW : Hid (LgW w u2 r ⟨g, 2, 6, 1, 0⟩ (Dk.fresh 8)) := ⟨D1.out.ext hx, hL, FP.out, Nat.le_trans U1.out.size hg⟩
  clear hg hL hD hys hx hsc HO D1 FP
  go_wp2_with (first | (refine Mix.wpList_guarded rfl ?_; (repeat' (first | (refine Mix.lex_quiet0 rfl rfl rfl ?_; intro K hK; go_big_quiet_op; go_big_quiet_on) | (refine Mix.lex_quietG rfl rfl rfl (by with_reducible rfl) rfl rfl ?_; intro K hK; go_big_quiet_op; go_big_quiet_on) | ((first | refine Mix.lex_skipT rfl rfl rfl (by with_reducible rfl) ?_ | refine Mix.lex_skipF rfl rfl rfl (by with_reducible rfl) ?_ | refine Mix.lex_skipU rfl rfl rfl (by with_reducible rfl) ?_); simp only [Act.put, List.setIfInBounds_toArray, List.set_cons_succ, List.set_cons_zero]) | (refine Mix.lex_part rfl rfl rfl rfl (fun hq => ?_) (fun hq => ?_) <;> (fail_if_success (guard_hyp hq :ₛ true = true)) <;> (fail_if_success (guard_hyp hq :ₛ false = false)) <;> first | (exfalso; cases hq; done) | (exfalso; simp only [decide_eq_true_eq, decide_eq_false_iff_not, beq_iff_eq, beq_eq_false_iff_ne, ne_eq, Int.not_lt, Int.not_le] at hq; omega) | simp only [Act.put, List.setIfInBounds_toArray, List.set_cons_succ, List.set_cons_zero]))); all_goals (refine Mix.lex_nil ?_)) | (refine Mix.wp_still (by kernel_rfl) (by kernel_rfl) ?_; (repeat' (first | (refine Mix.lex_quiet0 rfl rfl rfl ?_; intro K hK; go_big_quiet_op; go_big_quiet_on) | (refine Mix.lex_quietG rfl rfl rfl (by with_reducible rfl) rfl rfl ?_; intro K hK; go_big_quiet_op; go_big_quiet_on) | ((first | refine Mix.lex_skipT rfl rfl rfl (by with_reducible rfl) ?_ | refine Mix.lex_skipF rfl rfl rfl (by with_reducible rfl) ?_ | refine Mix.lex_skipU rfl rfl rfl (by with_reducible rfl) ?_); simp only [Act.put, List.setIfInBounds_toArray, List.set_cons_succ, List.set_cons_zero]) | (refine Mix.lex_part rfl rfl rfl rfl (fun hq => ?_) (fun hq => ?_) <;> (fail_if_success (guard_hyp hq :ₛ true = true)) <;> (fail_if_success (guard_hyp hq :ₛ false = false)) <;> first | (exfalso; cases hq; done) | (exfalso; simp only [decide_eq_true_eq, decide_eq_false_iff_not, beq_iff_eq, beq_eq_false_iff_ne, ne_eq, Int.not_lt, Int.not_le] at hq; omega) | simp only [Act.put, List.setIfInBounds_toArray, List.set_cons_succ, List.set_cons_zero]))); all_goals (refine Mix.lex_nil ?_)))
  obtain ⟨g3, hg3⟩ : ∃ x, x = u2.heap.size := ⟨_, rfl⟩
  obtain ⟨w3, hw3⟩ : ∃ v, v = u2.alloc (.cells #[S [102, 47, 97], S [120], .bool false] chT) := ⟨_, rfl⟩
  have x3 : Ext u2 w3 := by rw [hw3]; exact (Only.refl No u2).alloc _
  have hC3 : Cs w3 g3 chT #[S [102, 47, 97], S [120], .bool false] := by rw [hw3, hg3]; exact Cs.new _ _ _
  obtain ⟨d', e1, e2, e3, -, -, e4, -⟩ := add_up (l := ⟨g, 2, 6, 1, 0⟩) (c := [logsC]) (d := Dk.fresh 8) (out := []) (fresh_up 8) (by rw [fresh_len]; exact Nat.le_refl 8) (scan_fresh _ 8 1) logsC_good (by decide) (show 0 + 1 + 1 ≤ 6 by omega)
  have HA := Lib.hid (Add_c (cap := 1) (n := 1) (A := some ⟨g3, 0, none⟩) (c := [logsC]) HM.out (HM.out.ext (U2.out.then_ext x3)) (LW.out.ext x3) (U2.out.then_ext x3).size (fun u hu => sl_cs (T := chF) (x := logsC) (rob_cs (w0 := w) hC3 (by decide) (by decide) (by decide) (by decide) u hu) rfl) (fun x hx => by rw [List.mem_singleton] at hx; subst hx; decide) (by decide) (by decide) (show 2 ≤ 1000 ∧ 6 ≤ 1000 ∧ 0 ≤ 6 ∧ 1 ≤ 1000000000000 by decide))
  rw [e1] at HA
  have U3 := Lib.hid (U2.out.then_ext x3)
  rw [← hw3, ← hg3]
  clear hw3 hg3 hC3 x3 U2 LW e1
  refine HA.out.mono ?_
  rintro e u4 ⟨rfl, r4, hr4, hL4, hx4⟩
  have X4 : Hid (Ext w u4) := U3.out.trans hx4 fun b hb ⟨h, _⟩ => by omega
  have L4 := Lib.hid hL4.lg
  clear hL4 hx4 HA
  go_wp2_with (first | (refine Mix.wpList_guarded rfl ?_; (repeat' (first | (refine Mix.lex_quiet0 rfl rfl rfl ?_; intro K hK; go_big_quiet_op; go_big_quiet_on) | (refine Mix.lex_quietG rfl rfl rfl (by with_reducible rfl) rfl rfl ?_; intro K hK; go_big_quiet_op; go_big_quiet_on) | ((first | refine Mix.lex_skipT rfl rfl rfl (by with_reducible rfl) ?_ | refine Mix.lex_skipF rfl rfl rfl (by with_reducible rfl) ?_ | refine Mix.lex_skipU rfl rfl rfl (by with_reducible rfl) ?_); simp only [Act.put, List.setIfInBounds_toArray, List.set_cons_succ, List.set_cons_zero]) | (refine Mix.lex_part rfl rfl rfl rfl (fun hq => ?_) (fun hq => ?_) <;> (fail_if_success (guard_hyp hq :ₛ true = true)) <;> (fail_if_success (guard_hyp hq :ₛ false = false)) <;> first | (exfalso; cases hq; done) | (exfalso; simp only [decide_eq_true_eq, decide_eq_false_iff_not, beq_iff_eq, beq_eq_false_iff_ne, ne_eq, Int.not_lt, Int.not_le] at hq; omega) | simp only [Act.put, List.setIfInBounds_toArray, List.set_cons_succ, List.set_cons_zero]))); all_goals (refine Mix.lex_nil ?_)) | (refine Mix.wp_still (by kernel_rfl) (by kernel_rfl) ?_; (repeat' (first | (refine Mix.lex_quiet0 rfl rfl rfl ?_; intro K hK; go_big_quiet_op; go_big_quiet_on) | (refine Mix.lex_quietG rfl rfl rfl (by with_reducible rfl) rfl rfl ?_; intro K hK; go_big_quiet_op; go_big_quiet_on) | ((first | refine Mix.lex_skipT rfl rfl rfl (by with_reducible rfl) ?_ | refine Mix.lex_skipF rfl rfl rfl (by with_reducible rfl) ?_ | refine Mix.lex_skipU rfl rfl rfl (by with_reducible rfl) ?_); simp only [Act.put, List.setIfInBounds_toArray, List.set_cons_succ, List.set_cons_zero]) | (refine Mix.lex_part rfl rfl rfl rfl (fun hq => ?_) (fun hq => ?_) <;> (fail_if_success (guard_hyp hq :ₛ true = true)) <;> (fail_if_success (guard_hyp hq :ₛ false = false)) <;> first | (exfalso; cases hq; done) | (exfalso; simp only [decide_eq_true_eq, decide_eq_false_iff_not, beq_iff_eq, beq_eq_false_iff_ne, ne_eq, Int.not_lt, Int.not_le] at hq; omega) | simp only [Act.put, List.setIfInBounds_toArray, List.set_cons_succ, List.set_cons_zero]))); all_goals (refine Mix.lex_nil ?_)))
  refine (same_self 0 (Int.le_refl _) _).mono ?_
  rintro e u5 ⟨rfl, hu⟩
  have X5 := Lib.hid (X4.out.then_ext hu)
  have L5 := Lib.hid (L4.out.ext hu)
  clear hu
  have HR := Lib.hid (Room_c L5.out (show 6 ≤ 1000 by decide) (show 0 + 1 + 1 ≤ 6 by decide))
  go_wp2_with (first | (refine Mix.wpList_guarded rfl ?_; (repeat' (first | (refine Mix.lex_quiet0 rfl rfl rfl ?_; intro K hK; go_big_quiet_op; go_big_quiet_on) | (refine Mix.lex_quietG rfl rfl rfl (by with_reducible rfl) rfl rfl ?_; intro K hK; go_big_quiet_op; go_big_quiet_on) | ((first | refine Mix.lex_skipT rfl rfl rfl (by with_reducible rfl) ?_ | refine Mix.lex_skipF rfl rfl rfl (by with_reducible rfl) ?_ | refine Mix.lex_skipU rfl rfl rfl (by with_reducible rfl) ?_); simp only [Act.put, List.setIfInBounds_toArray, List.set_cons_succ, List.set_cons_zero]) | (refine Mix.lex_part rfl rfl rfl rfl (fun hq => ?_) (fun hq => ?_) <;> (fail_if_success (guard_hyp hq :ₛ true = true)) <;> (fail_if_success (guard_hyp hq :ₛ false = false)) <;> first | (exfalso; cases hq; done) | (exfalso; simp only [decide_eq_true_eq, decide_eq_false_iff_not, beq_iff_eq, beq_eq_false_iff_ne, ne_eq, Int.not_lt, Int.not_le] at hq; omega) | simp only [Act.put, List.setIfInBounds_toArray, List.set_cons_succ, List.set_cons_zero]))); all_goals (refine Mix.lex_nil ?_)) | (refine Mix.wp_still (by kernel_rfl) (by kernel_rfl) ?_; (repeat' (first | (refine Mix.lex_quiet0 rfl rfl rfl ?_; intro K hK; go_big_quiet_op; go_big_quiet_on) | (refine Mix.lex_quietG rfl rfl rfl (by with_reducible rfl) rfl rfl ?_; intro K hK; go_big_quiet_op; go_big_quiet_on) | ((first | refine Mix.lex_skipT rfl rfl rfl (by with_reducible rfl) ?_ | refine Mix.lex_skipF rfl rfl rfl (by with_reducible rfl) ?_ | refine Mix.lex_skipU rfl rfl rfl (by with_reducible rfl) ?_); simp only [Act.put, List.setIfInBounds_toArray, List.set_cons_succ, List.set_cons_zero]) | (refine Mix.lex_part rfl rfl rfl rfl (fun hq => ?_) (fun hq => ?_) <;> (fail_if_success (guard_hyp hq :ₛ true = true)) <;> (fail_if_success (guard_hyp hq :ₛ false = false)) <;> first | (exfalso; cases hq; done) | (exfalso; simp only [decide_eq_true_eq, decide_eq_false_iff_not, beq_iff_eq, beq_eq_false_iff_ne, ne_eq, Int.not_lt, Int.not_le] at hq; omega) | simp only [Act.put, List.setIfInBounds_toArray, List.set_cons_succ, List.set_cons_zero]))); all_goals (refine Mix.lex_nil ?_)))
  refine HR.out.mono ?_
  rintro e u6 ⟨rfl, hu⟩
  have X6 := Lib.hid (X5.out.then_ext hu)
  have L6 := Lib.hid (L5.out.ext hu)
  clear hu HR
  have HX := Lib.hid (Next_c L6.out (show 6 ≤ 1000 by decide) (show 1 ≤ 1000000000000 by decide))
  go_wp2_with (first | (refine Mix.wpList_guarded rfl ?_; (repeat' (first | (refine Mix.lex_quiet0 rfl rfl rfl ?_; intro K hK; go_big_quiet_op; go_big_quiet_on) | (refine Mix.lex_quietG rfl rfl rfl (by with_reducible rfl) rfl rfl ?_; intro K hK; go_big_quiet_op; go_big_quiet_on) | ((first | refine Mix.lex_skipT rfl rfl rfl (by with_reducible rfl) ?_ | refine Mix.lex_skipF rfl rfl rfl (by with_reducible rfl) ?_ | refine Mix.lex_skipU rfl rfl rfl (by with_reducible rfl) ?_); simp only [Act.put, List.setIfInBounds_toArray, List.set_cons_succ, List.set_cons_zero]) | (refine Mix.lex_part rfl rfl rfl rfl (fun hq => ?_) (fun hq => ?_) <;> (fail_if_success (guard_hyp hq :ₛ true = true)) <;> (fail_if_success (guard_hyp hq :ₛ false = false)) <;> first | (exfalso; cases hq; done) | (exfalso; simp only [decide_eq_true_eq, decide_eq_false_iff_not, beq_iff_eq, beq_eq_false_iff_ne, ne_eq, Int.not_lt, Int.not_le] at hq; omega) | simp only [Act.put, List.setIfInBounds_toArray, List.set_cons_succ, List.set_cons_zero]))); all_goals (refine Mix.lex_nil ?_)) | (refine Mix.wp_still (by kernel_rfl) (by kernel_rfl) ?_; (repeat' (first | (refine Mix.lex_quiet0 rfl rfl rfl ?_; intro K hK; go_big_quiet_op; go_big_quiet_on) | (refine Mix.lex_quietG rfl rfl rfl (by with_reducible rfl) rfl rfl ?_; intro K hK; go_big_quiet_op; go_big_quiet_on) | ((first | refine Mix.lex_skipT rfl rfl rfl (by with_reducible rfl) ?_ | refine Mix.lex_skipF rfl rfl rfl (by with_reducible rfl) ?_ | refine Mix.lex_skipU rfl rfl rfl (by with_reducible rfl) ?_); simp only [Act.put, List.setIfInBounds_toArray, List.set_cons_succ, List.set_cons_zero]) | (refine Mix.lex_part rfl rfl rfl rfl (fun hq => ?_) (fun hq => ?_) <;> (fail_if_success (guard_hyp hq :ₛ true = true)) <;> (fail_if_success (guard_hyp hq :ₛ false = false)) <;> first | (exfalso; cases hq; done) | (exfalso; simp only [decide_eq_true_eq, decide_eq_false_iff_not, beq_iff_eq, beq_eq_false_iff_ne, ne_eq, Int.not_lt, Int.not_le] at hq; omega) | simp only [Act.put, List.setIfInBounds_toArray, List.set_cons_succ, List.set_cons_zero]))); all_goals (refine Mix.lex_nil ?_)))
  refine HX.out.mono ?_
  rintro e u7 ⟨rfl, hu⟩
  go_wp2_with (first | (refine Mix.wpList_guarded rfl ?_; (repeat' (first | (refine Mix.lex_quiet0 rfl rfl rfl ?_; intro K hK; go_big_quiet_op; go_big_quiet_on) | (refine Mix.lex_quietG rfl rfl rfl (by with_reducible rfl) rfl rfl ?_; intro K hK; go_big_quiet_op; go_big_quiet_on) | ((first | refine Mix.lex_skipT rfl rfl rfl (by with_reducible rfl) ?_ | refine Mix.lex_skipF rfl rfl rfl (by with_reducible rfl) ?_ | refine Mix.lex_skipU rfl rfl rfl (by with_reducible rfl) ?_); simp only [Act.put, List.setIfInBounds_toArray, List.set_cons_succ, List.set_cons_zero]) | (refine Mix.lex_part rfl rfl rfl rfl (fun hq => ?_) (fun hq => ?_) <;> (fail_if_success (guard_hyp hq :ₛ true = true)) <;> (fail_if_success (guard_hyp hq :ₛ false = false)) <;> first | (exfalso; cases hq; done) | (exfalso; simp only [decide_eq_true_eq, decide_eq_false_iff_not, beq_iff_eq, beq_eq_false_iff_ne, ne_eq, Int.not_lt, Int.not_le] at hq; omega) | simp only [Act.put, List.setIfInBounds_toArray, List.set_cons_succ, List.set_cons_zero]))); all_goals (refine Mix.lex_nil ?_)) | (refine Mix.wp_still (by kernel_rfl) (by kernel_rfl) ?_; (repeat' (first | (refine Mix.lex_quiet0 rfl rfl rfl ?_; intro K hK; go_big_quiet_op; go_big_quiet_on) | (refine Mix.lex_quietG rfl rfl rfl (by with_reducible rfl) rfl rfl ?_; intro K hK; go_big_quiet_op; go_big_quiet_on) | ((first | refine Mix.lex_skipT rfl rfl rfl (by with_reducible rfl) ?_ | refine Mix.lex_skipF rfl rfl rfl (by with_reducible rfl) ?_ | refine Mix.lex_skipU rfl rfl rfl (by with_reducible rfl) ?_); simp only [Act.put, List.setIfInBounds_toArray, List.set_cons_succ, List.set_cons_zero]) | (refine Mix.lex_part rfl rfl rfl rfl (fun hq => ?_) (fun hq => ?_) <;> (fail_if_success (guard_hyp hq :ₛ true = true)) <;> (fail_if_success (guard_hyp hq :ₛ false = false)) <;> first | (exfalso; cases hq; done) | (exfalso; simp only [decide_eq_true_eq, decide_eq_false_iff_not, beq_iff_eq, beq_eq_false_iff_ne, ne_eq, Int.not_lt, Int.not_le] at hq; omega) | simp only [Act.put, List.setIfInBounds_toArray, List.set_cons_succ, List.set_cons_zero]))); all_goals (refine Mix.lex_nil ?_)))
  go_ret
  exact ⟨rfl, X6.out.then_ext hu⟩
theorem scan_bound (first : Nat) : ∀ (L : List Str) (i : Nat) (deed : List Ch) (o0 : List (List Ch)) (nx B : Nat), (∀ x ∈ o0, x.length ≤ B) → deed.length + L.length ≤ B → (∀ x ∈ (scanF first L i deed o0 nx).1, x.length ≤ B) ∧ (scanF first L i deed o0 nx).1.length ≤ o0.length + L.length
  | [], i, deed, o0, nx, B, h, _ => ⟨h, Nat.le_refl _⟩
  | s :: r, i, deed, o0, nx, B, h, hb => by
    rw [List.length_cons] at hb
    rw [scanF_cons, List.length_cons]
    cases hl : lookF s (first + i) with
    | none => exact ⟨h, Nat.le_add_right _ _⟩
    | some kt =>
      obtain ⟨k, t⟩ := kt
      dsimp only
      by_cases h99 : k = 99
      · rw [if_pos h99]
        by_cases ht : t = fourF deed.length
        · rw [if_pos ht]
          have := scan_bound first r (i + 1) [] (o0 ++ [deed]) (i + 1) B (fun x hx => by
            rcases List.mem_append.1 hx with hx | hx
            · exact h x hx
            · rw [List.mem_singleton] at hx; rw [hx]; omega) (by simp; omega)
          refine ⟨this.1, ?_⟩
          have h2 := this.2
          rw [List.length_append, List.length_singleton] at h2
          omega
        · rw [if_neg ht]; exact ⟨h, Nat.le_add_right _ _⟩
      · rw [if_neg h99]
        cases chGood t with
        | none => exact ⟨h, Nat.le_add_right _ _⟩
        | some c =>
          have := scan_bound first r (i + 1) (deed ++ [c]) o0 nx B h (by rw [List.length_append, List.length_singleton]; omega)
          exact ⟨this.1, Nat.le_trans this.2 (by omega)⟩
end Go.Proofs.Ytlfiobciahnapaa
