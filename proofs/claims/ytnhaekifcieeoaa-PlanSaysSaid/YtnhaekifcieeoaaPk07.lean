/- Put together: RcS, Flt. -/
import Derived.Test.YtnhaekifcieeoaaPk02
import Derived.Test.YtnhaekifcieeoaaPk06
import Derived.Test.YtnhaekifcieeoaaPk01
import Derived.Test.YtnhaekifcieeoaaPkS
namespace Go.Proofs.Ytnhaekifcieeoaa
open Go Go.RowKit
def sameR (r q : Rcd) : Bool := decide (r.cmds = q.cmds) && decide (r.needs = q.needs) && decide (r.out = q.out)
theorem sameR_self (r : Rcd) : sameR r r = true := by simp [sameR]
set_option maxHeartbeats 2000000 in
theorem SameRecord_c {w : World} {v u : RcdV} {r q : Rcd} (h : RcdR w v r) (g : RcdR w u q) (hl : r.cmds.length ≤ 10000 ∧ r.needs.length ≤ 10000 ∧ r.out.length ≤ 10000) (gl : q.cmds.length ≤ 10000 ∧ q.needs.length ≤ 10000 ∧ q.out.length ≤ 10000) :
    Calls Try.prog 25 #[rcdV v r, rcdV u q] w fun e w' => e = .returned (.bool (sameR r q)) ∧ Ext w w' := by
  obtain ⟨cA, cc, nA, nc, oA, oc⟩ := v
  obtain ⟨dA, dc, mA, mc, pA, pc⟩ := u
  obtain ⟨w0, hw0⟩ : ∃ w0, w0 = w.alloc (.cells (rcdCs ⟨cA, cc, nA, nc, oA, oc⟩ r) rcT) := ⟨_, rfl⟩
  obtain ⟨w1, hw1⟩ : ∃ w1, w1 = w0.alloc (.cells (rcdCs ⟨dA, dc, mA, mc, pA, pc⟩ q) rcT) := ⟨_, rfl⟩
  have hx0 : Ext w w0 := by rw [hw0]; exact (Only.refl No w).alloc _
  have hx1 : Ext w0 w1 := by rw [hw1]; exact (Only.refl No w0).alloc _
  have hB0 : Cs w0 w.heap.size rcT (rcdCs ⟨cA, cc, nA, nc, oA, oc⟩ r) := by rw [hw0]; exact Cs.new _ _ _
  have hB := hB0.keep hx1 id
  have hz : w0.heap.size = w.heap.size + 1 := by rw [hw0]; simp
  have hC : Cs w1 (w.heap.size + 1) rcT (rcdCs ⟨dA, dc, mA, mc, pA, pc⟩ q) := by rw [hw1, ← hz]; exact Cs.new _ _ _
  have HX := Lib.hid (hx0.then_ext hx1)
  have d0 : ∀ ξ : X w1 No, ξ.v.cell? ⟨w.heap.size, 0, none⟩ = some (.slice cA r.cmds.length cc) := hB.x id 0
  have d1 : ∀ ξ : X w1 No, ξ.v.cell? ⟨w.heap.size, 1, none⟩ = some (.slice nA r.needs.length nc) := hB.x id 1
  have d2 : ∀ ξ : X w1 No, ξ.v.cell? ⟨w.heap.size, 2, none⟩ = some (.slice oA r.out.length oc) := hB.x id 2
  have e0 : ∀ ξ : X w1 No, ξ.v.cell? ⟨w.heap.size + 1, 0, none⟩ = some (.slice dA q.cmds.length dc) := hC.x id 0
  have e1 : ∀ ξ : X w1 No, ξ.v.cell? ⟨w.heap.size + 1, 1, none⟩ = some (.slice mA q.needs.length mc) := hC.x id 1
  have e2 : ∀ ξ : X w1 No, ξ.v.cell? ⟨w.heap.size + 1, 2, none⟩ = some (.slice pA q.out.length pc) := hC.x id 2
  have HS1 := Lib.hid (fun v (hv : Ext w1 v) => SameTexts_c (c := cc) (d := dc) ((h.c.ext HX.out).ext hv) ((g.c.ext HX.out).ext hv) hl.1 gl.1)
  have HS2 := Lib.hid (fun v (hv : Ext w1 v) => SameFiles_c (c := nc) (d := mc) ((h.n.ext HX.out).ext hv) ((g.n.ext HX.out).ext hv) hl.2.1 gl.2.1)
  have HS3 := Lib.hid (fun v (hv : Ext w1 v) => SameFiles_c (c := oc) (d := pc) ((h.o.ext HX.out).ext hv) ((g.o.ext HX.out).ext hv) hl.2.2 gl.2.2)
  have HB : Hid (sameR r q = (decide (r.cmds = q.cmds) && decide (r.needs = q.needs) && decide (r.out = q.out))) := rfl
  generalize sameR r q = R at HB ⊢
  generalize decide (r.cmds = q.cmds) = b1 at HS1 HB
  generalize decide (r.needs = q.needs) = b2 at HS2 HB
  generalize decide (r.out = q.out) = b3 at HS3 HB
  clear hB0 hB hC hx0 hx1 h g hl gl
  unfold rcdCs at hw0 hw1
  show Calls _ _ #[.agg #[.slice cA r.cmds.length cc, .slice nA r.needs.length nc, .slice oA r.out.length oc], .agg #[.slice dA q.cmds.length dc, .slice mA q.needs.length mc, .slice pA q.out.length pc]] _ _
  go_enter Try.func25, Try.ntmps25
  go_upto_region 1 with fail
  rw [← hw0, ← hw1]
  clear hw0 hw1 hz
  obtain ⟨ξ0, hξ0⟩ : ∃ ξ : X w1 No, ξ.v = w1 := ⟨X.here _ _, rfl⟩
  rw [← hξ0]
  clear hξ0
  go_wp2_with (first | ((first | refine Mix.wpList_guarded rfl ?_ | refine Mix.wp_still (by kernel_rfl) (by kernel_rfl) ?_); (repeat' (first | (refine Mix.lex_quiet0 rfl rfl rfl ?_; intro K hK; go_big_quiet_op; go_big_quiet_on) | (refine Mix.lex_quietG rfl rfl rfl (by with_reducible rfl) rfl rfl ?_; intro K hK; go_big_quiet_op; go_big_quiet_on) | ((first | refine Mix.lex_skipT rfl rfl rfl (by with_reducible rfl) ?_ | refine Mix.lex_skipF rfl rfl rfl (by with_reducible rfl) ?_ | refine Mix.lex_skipU rfl rfl rfl (by with_reducible rfl) ?_); simp only [Act.put, List.setIfInBounds_toArray, List.set_cons_succ, List.set_cons_zero]) | (refine Mix.lex_part rfl rfl rfl rfl (fun hq => ?_) (fun hq => ?_) <;> (fail_if_success (guard_hyp hq :ₛ true = true)) <;> (fail_if_success (guard_hyp hq :ₛ false = false)) <;> first | (exfalso; cases hq; done) | (exfalso; simp only [decide_eq_true_eq, decide_eq_false_iff_not, beq_iff_eq, beq_eq_false_iff_ne, ne_eq, Int.not_lt, Int.not_le] at hq; omega) | simp only [Act.put, List.setIfInBounds_toArray, List.set_cons_succ, List.set_cons_zero]))); all_goals (refine Mix.lex_nil ?_)))
  refine (HS1.out _ ξ0.h).mono ?_; rintro e uu ⟨rfl, hu⟩; obtain ⟨ξ1, hnew⟩ : ∃ ξ : X w1 No, ξ.v = uu := ⟨⟨uu, ξ0.h.then_ext hu⟩, rfl⟩; subst hnew; have Hξ1 := Lib.hid hu; clear hu
  go_wp2_with (first | ((first | refine Mix.wpList_guarded rfl ?_ | refine Mix.wp_still (by kernel_rfl) (by kernel_rfl) ?_); (repeat' (first | (refine Mix.lex_quiet0 rfl rfl rfl ?_; intro K hK; go_big_quiet_op; go_big_quiet_on) | (refine Mix.lex_quietG rfl rfl rfl (by with_reducible rfl) rfl rfl ?_; intro K hK; go_big_quiet_op; go_big_quiet_on) | ((first | refine Mix.lex_skipT rfl rfl rfl (by with_reducible rfl) ?_ | refine Mix.lex_skipF rfl rfl rfl (by with_reducible rfl) ?_ | refine Mix.lex_skipU rfl rfl rfl (by with_reducible rfl) ?_); simp only [Act.put, List.setIfInBounds_toArray, List.set_cons_succ, List.set_cons_zero]) | (refine Mix.lex_part rfl rfl rfl rfl (fun hq => ?_) (fun hq => ?_) <;> (fail_if_success (guard_hyp hq :ₛ true = true)) <;> (fail_if_success (guard_hyp hq :ₛ false = false)) <;> first | (exfalso; cases hq; done) | (exfalso; simp only [decide_eq_true_eq, decide_eq_false_iff_not, beq_iff_eq, beq_eq_false_iff_ne, ne_eq, Int.not_lt, Int.not_le] at hq; omega) | simp only [Act.put, List.setIfInBounds_toArray, List.set_cons_succ, List.set_cons_zero]))); all_goals (refine Mix.lex_nil ?_)))
  refine (HS2.out _ ξ1.h).mono ?_; rintro e uu ⟨rfl, hu⟩; obtain ⟨ξ2, hnew⟩ : ∃ ξ : X w1 No, ξ.v = uu := ⟨⟨uu, ξ1.h.then_ext hu⟩, rfl⟩; subst hnew; have Hξ2 := Lib.hid hu; clear hu
  go_wp2_with (first | ((first | refine Mix.wpList_guarded rfl ?_ | refine Mix.wp_still (by kernel_rfl) (by kernel_rfl) ?_); (repeat' (first | (refine Mix.lex_quiet0 rfl rfl rfl ?_; intro K hK; go_big_quiet_op; go_big_quiet_on) | (refine Mix.lex_quietG rfl rfl rfl (by with_reducible rfl) rfl rfl ?_; intro K hK; go_big_quiet_op; go_big_quiet_on) | ((first | refine Mix.lex_skipT rfl rfl rfl (by with_reducible rfl) ?_ | refine Mix.lex_skipF rfl rfl rfl (by with_reducible rfl) ?_ | refine Mix.lex_skipU rfl rfl rfl (by with_reducible rfl) ?_); simp only [Act.put, List.setIfInBounds_toArray, List.set_cons_succ, List.set_cons_zero]) | (refine Mix.lex_part rfl rfl rfl rfl (fun hq => ?_) (fun hq => ?_) <;> (fail_if_success (guard_hyp hq :ₛ true = true)) <;> (fail_if_success (guard_hyp hq :ₛ false = false)) <;> first | (exfalso; cases hq; done) | (exfalso; simp only [decide_eq_true_eq, decide_eq_false_iff_not, beq_iff_eq, beq_eq_false_iff_ne, ne_eq, Int.not_lt, Int.not_le] at hq; omega) | simp only [Act.put, List.setIfInBounds_toArray, List.set_cons_succ, List.set_cons_zero]))); all_goals (refine Mix.lex_nil ?_)))
  refine (HS3.out _ ξ2.h).mono ?_; rintro e uu ⟨rfl, hu⟩; obtain ⟨ξ3, hnew⟩ : ∃ ξ : X w1 No, ξ.v = uu := ⟨⟨uu, ξ2.h.then_ext hu⟩, rfl⟩; subst hnew; have Hξ3 := Lib.hid hu; clear hu
  cases b1 <;> cases b2 <;> cases b3 <;>
  · go_wp2_with (first | ((first | refine Mix.wpList_guarded rfl ?_ | refine Mix.wp_still (by kernel_rfl) (by kernel_rfl) ?_); (repeat' (first | (refine Mix.lex_quiet0 rfl rfl rfl ?_; intro K hK; go_big_quiet_op; go_big_quiet_on) | (refine Mix.lex_quietG rfl rfl rfl (by with_reducible rfl) rfl rfl ?_; intro K hK; go_big_quiet_op; go_big_quiet_on) | ((first | refine Mix.lex_skipT rfl rfl rfl (by with_reducible rfl) ?_ | refine Mix.lex_skipF rfl rfl rfl (by with_reducible rfl) ?_ | refine Mix.lex_skipU rfl rfl rfl (by with_reducible rfl) ?_); simp only [Act.put, List.setIfInBounds_toArray, List.set_cons_succ, List.set_cons_zero]) | (refine Mix.lex_part rfl rfl rfl rfl (fun hq => ?_) (fun hq => ?_) <;> (fail_if_success (guard_hyp hq :ₛ true = true)) <;> (fail_if_success (guard_hyp hq :ₛ false = false)) <;> first | (exfalso; cases hq; done) | (exfalso; simp only [decide_eq_true_eq, decide_eq_false_iff_not, beq_iff_eq, beq_eq_false_iff_ne, ne_eq, Int.not_lt, Int.not_le] at hq; omega) | simp only [Act.put, List.setIfInBounds_toArray, List.set_cons_succ, List.set_cons_zero]))); all_goals (refine Mix.lex_nil ?_)))
    go_ret
    exact ⟨by rw [HB.out]; rfl, HX.out.then_ext ξ3.h⟩
def lightR (r : Rcd) : Bool := lightT 4 320 r.cmds && decide (r.needs.length ≤ 4) && decide (r.out.length ≤ 4) && r.needs.all lightF1 && r.out.all lightF1
theorem lightR_facts {r : Rcd} (h : lightR r = true) : r.cmds.length ≤ 4 ∧ (∀ x ∈ r.cmds, x.length ≤ 320) ∧ r.needs.length ≤ 4 ∧ r.out.length ≤ 4 ∧ (∀ x ∈ r.needs, x.1.length ≤ 20 ∧ x.2.length ≤ 60) ∧ (∀ x ∈ r.out, x.1.length ≤ 20 ∧ x.2.length ≤ 60) := by
  simp only [lightR, lightT, Bool.and_eq_true, decide_eq_true_eq, List.all_eq_true, lightF1] at h
  exact ⟨h.1.1.1.1.1, fun x hx => h.1.1.1.1.2 x hx, h.1.1.1.2, h.1.1.2, fun x hx => h.1.2 x hx, fun x hx => h.2 x hx⟩
set_option maxRecDepth 100000 in
set_option maxHeartbeats 2000000 in
theorem LightRecord_c {w : World} {v : RcdV} {r : Rcd} (h : RcdR w v r) (h1 : r.cmds.length ≤ maxLen) (h2 : r.needs.length ≤ maxLen) (h3 : r.out.length ≤ maxLen) :
    Calls Try.prog 18 #[rcdV v r] w fun e w' => e = .returned (.bool (lightR r)) ∧ Ext w w' := by
  obtain ⟨cA, cc, nA, nc, oA, oc⟩ := v
  obtain ⟨w0, hw0⟩ : ∃ w0, w0 = w.alloc (.cells (rcdCs ⟨cA, cc, nA, nc, oA, oc⟩ r) rcT) := ⟨_, rfl⟩
  have hx0 : Ext w w0 := by rw [hw0]; exact (Only.refl No w).alloc _
  have hB : Cs w0 w.heap.size rcT (rcdCs ⟨cA, cc, nA, nc, oA, oc⟩ r) := by rw [hw0]; exact Cs.new _ _ _
  have d0 : ∀ ξ : X w0 No, ξ.v.cell? ⟨w.heap.size, 0, none⟩ = some (.slice cA r.cmds.length cc) := hB.x id 0
  have d1 : ∀ ξ : X w0 No, ξ.v.cell? ⟨w.heap.size, 1, none⟩ = some (.slice nA r.needs.length nc) := hB.x id 1
  have d2 : ∀ ξ : X w0 No, ξ.v.cell? ⟨w.heap.size, 2, none⟩ = some (.slice oA r.out.length oc) := hB.x id 2
  have HX0 := Lib.hid hx0
  have HR := Lib.hid (h.ext hx0)
  have HL1 := Lib.hid (fun v (hv : Ext w0 v) => LightTexts_c (c := cc) ((h.c.ext hx0).ext hv) h1 4 320 (by omega) (by omega))
  have HB : Hid (lightR r = (lightT 4 320 r.cmds && decide (r.needs.length ≤ 4) && decide (r.out.length ≤ 4) && r.needs.all lightF1 && r.out.all lightF1)) := rfl
  generalize lightR r = lg at HB ⊢
  generalize lightT 4 320 r.cmds = b1 at HL1 HB
  unfold maxLen at h1 h2 h3
  clear hB hx0 h
  unfold rcdCs at hw0
  show Calls _ _ #[.agg #[.slice cA r.cmds.length cc, .slice nA r.needs.length nc, .slice oA r.out.length oc]] _ _
  go_enter Try.func18, Try.ntmps18
  go_upto_region 1 with fail
  rw [← hw0]
  clear hw0
  obtain ⟨ξ0, hξ0⟩ : ∃ ξ : X w0 No, ξ.v = w0 := ⟨X.here _ _, rfl⟩
  rw [← hξ0]
  clear hξ0
  cases b1 with
  | false =>
    refine Mix.wp_plain [2] (Cl w0 No) (Cl.of ξ0.h) ?_
    (repeat' (first | (refine Mix.lex_quiet0 rfl rfl rfl ?_; intro K hK; go_big_quiet_op; go_big_quiet_on) | (refine Mix.lex_quietG rfl rfl rfl (by with_reducible rfl) rfl rfl ?_; intro K hK; go_big_quiet_op; go_big_quiet_on) | ((first | refine Mix.lex_skipT rfl rfl rfl (by with_reducible rfl) ?_ | refine Mix.lex_skipF rfl rfl rfl (by with_reducible rfl) ?_ | refine Mix.lex_skipU rfl rfl rfl (by with_reducible rfl) ?_); simp only [Act.put, List.setIfInBounds_toArray, List.set_cons_succ, List.set_cons_zero]) | (refine Mix.lex_part rfl rfl rfl rfl (fun hq => ?_) (fun hq => ?_) <;> (fail_if_success (guard_hyp hq :ₛ true = true)) <;> (fail_if_success (guard_hyp hq :ₛ false = false)) <;> first | (exfalso; cases hq; done) | (exfalso; simp only [decide_eq_true_eq, decide_eq_false_iff_not, beq_iff_eq, beq_eq_false_iff_ne, ne_eq, Int.not_lt, Int.not_le] at hq; omega) | simp only [Act.put, List.setIfInBounds_toArray, List.set_cons_succ, List.set_cons_zero])))
    ((first | refine Mix.lex_goes0 rfl rfl ?_ | refine Mix.lex_goesG rfl rfl rfl (by with_reducible rfl) rfl ?_); intro K hK; go_simp); refine (HL1.out _ ξ0.h).mono ?_; rintro e uu ⟨rfl, hu⟩; obtain ⟨ξ1, hnew⟩ : ∃ ξ : X w0 No, ξ.v = uu := ⟨⟨uu, ξ0.h.then_ext hu⟩, rfl⟩; subst hnew; have Hξ1 := Lib.hid hu; refine ⟨_, rfl, hK _ _ (fun _ => ⟨ξ1, rfl⟩) ?_⟩; clear hK K hu; simp only [Act.put, List.setIfInBounds_toArray, List.set_cons_succ, List.set_cons_zero]; (repeat' (first | (refine Mix.lex_quiet0 rfl rfl rfl ?_; intro K hK; go_big_quiet_op; go_big_quiet_on) | (refine Mix.lex_quietG rfl rfl rfl (by with_reducible rfl) rfl rfl ?_; intro K hK; go_big_quiet_op; go_big_quiet_on) | ((first | refine Mix.lex_skipT rfl rfl rfl (by with_reducible rfl) ?_ | refine Mix.lex_skipF rfl rfl rfl (by with_reducible rfl) ?_ | refine Mix.lex_skipU rfl rfl rfl (by with_reducible rfl) ?_); simp only [Act.put, List.setIfInBounds_toArray, List.set_cons_succ, List.set_cons_zero]) | (refine Mix.lex_part rfl rfl rfl rfl (fun hq => ?_) (fun hq => ?_) <;> (fail_if_success (guard_hyp hq :ₛ true = true)) <;> (fail_if_success (guard_hyp hq :ₛ false = false)) <;> first | (exfalso; cases hq; done) | (exfalso; simp only [decide_eq_true_eq, decide_eq_false_iff_not, beq_iff_eq, beq_eq_false_iff_ne, ne_eq, Int.not_lt, Int.not_le] at hq; omega) | simp only [Act.put, List.setIfInBounds_toArray, List.set_cons_succ, List.set_cons_zero])))
    refine Mix.lex_nil ?_
    go_wp2_with (first | ((first | refine Mix.wpList_guarded rfl ?_ | refine Mix.wp_still (by kernel_rfl) (by kernel_rfl) ?_); (repeat' (first | (refine Mix.lex_quiet0 rfl rfl rfl ?_; intro K hK; go_big_quiet_op; go_big_quiet_on) | (refine Mix.lex_quietG rfl rfl rfl (by with_reducible rfl) rfl rfl ?_; intro K hK; go_big_quiet_op; go_big_quiet_on) | ((first | refine Mix.lex_skipT rfl rfl rfl (by with_reducible rfl) ?_ | refine Mix.lex_skipF rfl rfl rfl (by with_reducible rfl) ?_ | refine Mix.lex_skipU rfl rfl rfl (by with_reducible rfl) ?_); simp only [Act.put, List.setIfInBounds_toArray, List.set_cons_succ, List.set_cons_zero]) | (refine Mix.lex_part rfl rfl rfl rfl (fun hq => ?_) (fun hq => ?_) <;> (fail_if_success (guard_hyp hq :ₛ true = true)) <;> (fail_if_success (guard_hyp hq :ₛ false = false)) <;> first | (exfalso; cases hq; done) | (exfalso; simp only [decide_eq_true_eq, decide_eq_false_iff_not, beq_iff_eq, beq_eq_false_iff_ne, ne_eq, Int.not_lt, Int.not_le] at hq; omega) | simp only [Act.put, List.setIfInBounds_toArray, List.set_cons_succ, List.set_cons_zero]))); all_goals (refine Mix.lex_nil ?_)))
    go_ret
    exact ⟨by rw [HB.out]; rfl, HX0.out.then_ext ξ1.h⟩
  | true =>
    by_cases g2 : r.needs.length ≤ 4
    · have g2' : decide ((4 : Int) < (r.needs.length : Int)) = false := by rw [decide_eq_false_iff_not]; omega
      rw [decide_eq_true g2] at HB
      by_cases g3 : r.out.length ≤ 4
      · have g3' : decide ((4 : Int) < (r.out.length : Int)) = false := by rw [decide_eq_false_iff_not]; omega
        rw [decide_eq_true g3] at HB
        refine Mix.wp_plain [2] (Cl w0 No) (Cl.of ξ0.h) ?_
        (repeat' (first | (refine Mix.lex_quiet0 rfl rfl rfl ?_; intro K hK; go_big_quiet_op; go_big_quiet_on) | (refine Mix.lex_quietG rfl rfl rfl (by with_reducible rfl) rfl rfl ?_; intro K hK; go_big_quiet_op; go_big_quiet_on) | ((first | refine Mix.lex_skipT rfl rfl rfl (by with_reducible rfl) ?_ | refine Mix.lex_skipF rfl rfl rfl (by with_reducible rfl) ?_ | refine Mix.lex_skipU rfl rfl rfl (by with_reducible rfl) ?_); simp only [Act.put, List.setIfInBounds_toArray, List.set_cons_succ, List.set_cons_zero]) | (refine Mix.lex_part rfl rfl rfl rfl (fun hq => ?_) (fun hq => ?_) <;> (fail_if_success (guard_hyp hq :ₛ true = true)) <;> (fail_if_success (guard_hyp hq :ₛ false = false)) <;> first | (exfalso; cases hq; done) | (exfalso; simp only [decide_eq_true_eq, decide_eq_false_iff_not, beq_iff_eq, beq_eq_false_iff_ne, ne_eq, Int.not_lt, Int.not_le] at hq; omega) | simp only [Act.put, List.setIfInBounds_toArray, List.set_cons_succ, List.set_cons_zero])))
        ((first | refine Mix.lex_goes0 rfl rfl ?_ | refine Mix.lex_goesG rfl rfl rfl (by with_reducible rfl) rfl ?_); intro K hK; go_simp); refine (HL1.out _ ξ0.h).mono ?_; rintro e uu ⟨rfl, hu⟩; obtain ⟨ξ1, hnew⟩ : ∃ ξ : X w0 No, ξ.v = uu := ⟨⟨uu, ξ0.h.then_ext hu⟩, rfl⟩; subst hnew; have Hξ1 := Lib.hid hu; refine ⟨_, rfl, hK _ _ (fun _ => ⟨ξ1, rfl⟩) ?_⟩; clear hK K hu; simp only [Act.put, List.setIfInBounds_toArray, List.set_cons_succ, List.set_cons_zero]; (repeat' (first | (refine Mix.lex_quiet0 rfl rfl rfl ?_; intro K hK; go_big_quiet_op; go_big_quiet_on) | (refine Mix.lex_quietG rfl rfl rfl (by with_reducible rfl) rfl rfl ?_; intro K hK; go_big_quiet_op; go_big_quiet_on) | ((first | refine Mix.lex_skipT rfl rfl rfl (by with_reducible rfl) ?_ | refine Mix.lex_skipF rfl rfl rfl (by with_reducible rfl) ?_ | refine Mix.lex_skipU rfl rfl rfl (by with_reducible rfl) ?_); simp only [Act.put, List.setIfInBounds_toArray, List.set_cons_succ, List.set_cons_zero]) | (refine Mix.lex_part rfl rfl rfl rfl (fun hq => ?_) (fun hq => ?_) <;> (fail_if_success (guard_hyp hq :ₛ true = true)) <;> (fail_if_success (guard_hyp hq :ₛ false = false)) <;> first | (exfalso; cases hq; done) | (exfalso; simp only [decide_eq_true_eq, decide_eq_false_iff_not, beq_iff_eq, beq_eq_false_iff_ne, ne_eq, Int.not_lt, Int.not_le] at hq; omega) | simp only [Act.put, List.setIfInBounds_toArray, List.set_cons_succ, List.set_cons_zero])))
        refine Mix.lex_nil ?_
        go_wp2_with (first | ((first | refine Mix.wpList_guarded rfl ?_ | refine Mix.wp_still (by kernel_rfl) (by kernel_rfl) ?_); (repeat' (first | (refine Mix.lex_quiet0 rfl rfl rfl ?_; intro K hK; go_big_quiet_op; go_big_quiet_on) | (refine Mix.lex_quietG rfl rfl rfl (by with_reducible rfl) rfl rfl ?_; intro K hK; go_big_quiet_op; go_big_quiet_on) | ((first | refine Mix.lex_skipT rfl rfl rfl (by with_reducible rfl) ?_ | refine Mix.lex_skipF rfl rfl rfl (by with_reducible rfl) ?_ | refine Mix.lex_skipU rfl rfl rfl (by with_reducible rfl) ?_); simp only [Act.put, List.setIfInBounds_toArray, List.set_cons_succ, List.set_cons_zero]) | (refine Mix.lex_part rfl rfl rfl rfl (fun hq => ?_) (fun hq => ?_) <;> (fail_if_success (guard_hyp hq :ₛ true = true)) <;> (fail_if_success (guard_hyp hq :ₛ false = false)) <;> first | (exfalso; cases hq; done) | (exfalso; simp only [decide_eq_true_eq, decide_eq_false_iff_not, beq_iff_eq, beq_eq_false_iff_ne, ne_eq, Int.not_lt, Int.not_le] at hq; omega) | simp only [Act.put, List.setIfInBounds_toArray, List.set_cons_succ, List.set_cons_zero]))); all_goals (refine Mix.lex_nil ?_)))
        go_loopw [3] (fun i wr => ∃ k : Nat, k ≤ r.needs.length ∧ i = .int .i64 k ∧ (r.needs.take k).all lightF1 = true ∧ ∃ ξ : X w0 No, wr = ξ.v) (fun i _ => r.needs.length - (intOf i).toNat)
        case atStart => exact ⟨0, Nat.zero_le _, rfl, rfl, ξ1, rfl⟩
        case round =>
          obtain ⟨k, hk, rfl, hT, ξ, rfl⟩ := hrel
          have HT := Lib.hid hT
          clear hT
          by_cases hlt : k < r.needs.length
          · obtain ⟨b, o, x, rfl, hx, c0, c1⟩ := files_get HR.out.n hlt
            have HX := Lib.hid hx
            clear hx
            by_cases l1 : x.1.length ≤ 20
            · by_cases l2 : x.2.length ≤ 60
              · have hp : Hid (lightF1 x = true) := by unfold Hid lightF1; rw [decide_eq_true l1, decide_eq_true l2]; rfl
                have m1 : decide ((20 : Int) < (x.1.length : Int)) = false := by rw [decide_eq_false_iff_not]; omega
                have m2 : decide ((60 : Int) < (x.2.length : Int)) = false := by rw [decide_eq_false_iff_not]; omega
                go_wp2_with (first | ((first | refine Mix.wpList_guarded rfl ?_ | refine Mix.wp_still (by kernel_rfl) (by kernel_rfl) ?_); (repeat' (first | (refine Mix.lex_quiet0 rfl rfl rfl ?_; intro K hK; go_big_quiet_op; go_big_quiet_on) | (refine Mix.lex_quietG rfl rfl rfl (by with_reducible rfl) rfl rfl ?_; intro K hK; go_big_quiet_op; go_big_quiet_on) | ((first | refine Mix.lex_skipT rfl rfl rfl (by with_reducible rfl) ?_ | refine Mix.lex_skipF rfl rfl rfl (by with_reducible rfl) ?_ | refine Mix.lex_skipU rfl rfl rfl (by with_reducible rfl) ?_); simp only [Act.put, List.setIfInBounds_toArray, List.set_cons_succ, List.set_cons_zero]) | (refine Mix.lex_part rfl rfl rfl rfl (fun hq => ?_) (fun hq => ?_) <;> (fail_if_success (guard_hyp hq :ₛ true = true)) <;> (fail_if_success (guard_hyp hq :ₛ false = false)) <;> first | (exfalso; cases hq; done) | (exfalso; simp only [decide_eq_true_eq, decide_eq_false_iff_not, beq_iff_eq, beq_eq_false_iff_ne, ne_eq, Int.not_lt, Int.not_le] at hq; omega) | simp only [Act.put, List.setIfInBounds_toArray, List.set_cons_succ, List.set_cons_zero]))); all_goals (refine Mix.lex_nil ?_)))
                go_roundw
                case rel => exact ⟨k + 1, by omega, by go_num, all_take_succ' HT.out HX.out hp.out, ξ, rfl⟩
                case measure => simp [intOf]; omega
              · have hN : Hid (r.needs.all lightF1 = false) := all_false_at' HX.out (by unfold lightF1; rw [decide_eq_false l2, Bool.and_false])
                have m1 : decide ((20 : Int) < (x.1.length : Int)) = false := by rw [decide_eq_false_iff_not]; omega
                have m2 : decide ((60 : Int) < (x.2.length : Int)) = true := by rw [decide_eq_true_iff]; omega
                go_wp2_with (first | ((first | refine Mix.wpList_guarded rfl ?_ | refine Mix.wp_still (by kernel_rfl) (by kernel_rfl) ?_); (repeat' (first | (refine Mix.lex_quiet0 rfl rfl rfl ?_; intro K hK; go_big_quiet_op; go_big_quiet_on) | (refine Mix.lex_quietG rfl rfl rfl (by with_reducible rfl) rfl rfl ?_; intro K hK; go_big_quiet_op; go_big_quiet_on) | ((first | refine Mix.lex_skipT rfl rfl rfl (by with_reducible rfl) ?_ | refine Mix.lex_skipF rfl rfl rfl (by with_reducible rfl) ?_ | refine Mix.lex_skipU rfl rfl rfl (by with_reducible rfl) ?_); simp only [Act.put, List.setIfInBounds_toArray, List.set_cons_succ, List.set_cons_zero]) | (refine Mix.lex_part rfl rfl rfl rfl (fun hq => ?_) (fun hq => ?_) <;> (fail_if_success (guard_hyp hq :ₛ true = true)) <;> (fail_if_success (guard_hyp hq :ₛ false = false)) <;> first | (exfalso; cases hq; done) | (exfalso; simp only [decide_eq_true_eq, decide_eq_false_iff_not, beq_iff_eq, beq_eq_false_iff_ne, ne_eq, Int.not_lt, Int.not_le] at hq; omega) | simp only [Act.put, List.setIfInBounds_toArray, List.set_cons_succ, List.set_cons_zero]))); all_goals (refine Mix.lex_nil ?_)))
                go_ret
                exact ⟨by rw [HB.out, hN.out]; rfl, HX0.out.then_ext ξ.h⟩
            · have hN : Hid (r.needs.all lightF1 = false) := all_false_at' HX.out (by unfold lightF1; rw [decide_eq_false l1, Bool.false_and])
              have m1 : decide ((20 : Int) < (x.1.length : Int)) = true := by rw [decide_eq_true_iff]; omega
              go_wp2_with (first | ((first | refine Mix.wpList_guarded rfl ?_ | refine Mix.wp_still (by kernel_rfl) (by kernel_rfl) ?_); (repeat' (first | (refine Mix.lex_quiet0 rfl rfl rfl ?_; intro K hK; go_big_quiet_op; go_big_quiet_on) | (refine Mix.lex_quietG rfl rfl rfl (by with_reducible rfl) rfl rfl ?_; intro K hK; go_big_quiet_op; go_big_quiet_on) | ((first | refine Mix.lex_skipT rfl rfl rfl (by with_reducible rfl) ?_ | refine Mix.lex_skipF rfl rfl rfl (by with_reducible rfl) ?_ | refine Mix.lex_skipU rfl rfl rfl (by with_reducible rfl) ?_); simp only [Act.put, List.setIfInBounds_toArray, List.set_cons_succ, List.set_cons_zero]) | (refine Mix.lex_part rfl rfl rfl rfl (fun hq => ?_) (fun hq => ?_) <;> (fail_if_success (guard_hyp hq :ₛ true = true)) <;> (fail_if_success (guard_hyp hq :ₛ false = false)) <;> first | (exfalso; cases hq; done) | (exfalso; simp only [decide_eq_true_eq, decide_eq_false_iff_not, beq_iff_eq, beq_eq_false_iff_ne, ne_eq, Int.not_lt, Int.not_le] at hq; omega) | simp only [Act.put, List.setIfInBounds_toArray, List.set_cons_succ, List.set_cons_zero]))); all_goals (refine Mix.lex_nil ?_)))
              go_ret
              exact ⟨by rw [HB.out, hN.out]; rfl, HX0.out.then_ext ξ.h⟩
          · have hN : Hid (r.needs.all lightF1 = true) := by
              have := HT.out
              rw [List.take_of_length_le (by omega)] at this
              exact this
            rw [hN.out] at HB
            clear HT hN
            go_wp2_with (first | ((first | refine Mix.wpList_guarded rfl ?_ | refine Mix.wp_still (by kernel_rfl) (by kernel_rfl) ?_); (repeat' (first | (refine Mix.lex_quiet0 rfl rfl rfl ?_; intro K hK; go_big_quiet_op; go_big_quiet_on) | (refine Mix.lex_quietG rfl rfl rfl (by with_reducible rfl) rfl rfl ?_; intro K hK; go_big_quiet_op; go_big_quiet_on) | ((first | refine Mix.lex_skipT rfl rfl rfl (by with_reducible rfl) ?_ | refine Mix.lex_skipF rfl rfl rfl (by with_reducible rfl) ?_ | refine Mix.lex_skipU rfl rfl rfl (by with_reducible rfl) ?_); simp only [Act.put, List.setIfInBounds_toArray, List.set_cons_succ, List.set_cons_zero]) | (refine Mix.lex_part rfl rfl rfl rfl (fun hq => ?_) (fun hq => ?_) <;> (fail_if_success (guard_hyp hq :ₛ true = true)) <;> (fail_if_success (guard_hyp hq :ₛ false = false)) <;> first | (exfalso; cases hq; done) | (exfalso; simp only [decide_eq_true_eq, decide_eq_false_iff_not, beq_iff_eq, beq_eq_false_iff_ne, ne_eq, Int.not_lt, Int.not_le] at hq; omega) | simp only [Act.put, List.setIfInBounds_toArray, List.set_cons_succ, List.set_cons_zero]))); all_goals (refine Mix.lex_nil ?_)))
            go_loopw [4] (fun i wr => ∃ k : Nat, k ≤ r.out.length ∧ i = .int .i64 k ∧ (r.out.take k).all lightF1 = true ∧ ∃ ξ : X w0 No, wr = ξ.v) (fun i _ => r.out.length - (intOf i).toNat)
            case atStart => exact ⟨0, Nat.zero_le _, rfl, rfl, ξ, rfl⟩
            case round =>
              obtain ⟨k2, hk2, rfl, hT, ξ2, rfl⟩ := hrel
              have HT := Lib.hid hT
              clear hT
              by_cases hlt2 : k2 < r.out.length
              · obtain ⟨b, o, x, rfl, hx, c0, c1⟩ := files_get HR.out.o hlt2
                have HX := Lib.hid hx
                clear hx
                by_cases l1 : x.1.length ≤ 20
                · by_cases l2 : x.2.length ≤ 60
                  · have hp : Hid (lightF1 x = true) := by unfold Hid lightF1; rw [decide_eq_true l1, decide_eq_true l2]; rfl
                    have m1 : decide ((20 : Int) < (x.1.length : Int)) = false := by rw [decide_eq_false_iff_not]; omega
                    have m2 : decide ((60 : Int) < (x.2.length : Int)) = false := by rw [decide_eq_false_iff_not]; omega
                    go_wp2_with (first | ((first | refine Mix.wpList_guarded rfl ?_ | refine Mix.wp_still (by kernel_rfl) (by kernel_rfl) ?_); (repeat' (first | (refine Mix.lex_quiet0 rfl rfl rfl ?_; intro K hK; go_big_quiet_op; go_big_quiet_on) | (refine Mix.lex_quietG rfl rfl rfl (by with_reducible rfl) rfl rfl ?_; intro K hK; go_big_quiet_op; go_big_quiet_on) | ((first | refine Mix.lex_skipT rfl rfl rfl (by with_reducible rfl) ?_ | refine Mix.lex_skipF rfl rfl rfl (by with_reducible rfl) ?_ | refine Mix.lex_skipU rfl rfl rfl (by with_reducible rfl) ?_); simp only [Act.put, List.setIfInBounds_toArray, List.set_cons_succ, List.set_cons_zero]) | (refine Mix.lex_part rfl rfl rfl rfl (fun hq => ?_) (fun hq => ?_) <;> (fail_if_success (guard_hyp hq :ₛ true = true)) <;> (fail_if_success (guard_hyp hq :ₛ false = false)) <;> first | (exfalso; cases hq; done) | (exfalso; simp only [decide_eq_true_eq, decide_eq_false_iff_not, beq_iff_eq, beq_eq_false_iff_ne, ne_eq, Int.not_lt, Int.not_le] at hq; omega) | simp only [Act.put, List.setIfInBounds_toArray, List.set_cons_succ, List.set_cons_zero]))); all_goals (refine Mix.lex_nil ?_)))
                    go_roundw
                    case rel => exact ⟨k2 + 1, by omega, by go_num, all_take_succ' HT.out HX.out hp.out, ξ2, rfl⟩
                    case measure => simp [intOf]; omega
                  · have hN : Hid (r.out.all lightF1 = false) := all_false_at' HX.out (by unfold lightF1; rw [decide_eq_false l2, Bool.and_false])
                    have m1 : decide ((20 : Int) < (x.1.length : Int)) = false := by rw [decide_eq_false_iff_not]; omega
                    have m2 : decide ((60 : Int) < (x.2.length : Int)) = true := by rw [decide_eq_true_iff]; omega
                    go_wp2_with (first | ((first | refine Mix.wpList_guarded rfl ?_ | refine Mix.wp_still (by kernel_rfl) (by kernel_rfl) ?_); (repeat' (first | (refine Mix.lex_quiet0 rfl rfl rfl ?_; intro K hK; go_big_quiet_op; go_big_quiet_on) | (refine Mix.lex_quietG rfl rfl rfl (by with_reducible rfl) rfl rfl ?_; intro K hK; go_big_quiet_op; go_big_quiet_on) | ((first | refine Mix.lex_skipT rfl rfl rfl (by with_reducible rfl) ?_ | refine Mix.lex_skipF rfl rfl rfl (by with_reducible rfl) ?_ | refine Mix.lex_skipU rfl rfl rfl (by with_reducible rfl) ?_); simp only [Act.put, List.setIfInBounds_toArray, List.set_cons_succ, List.set_cons_zero]) | (refine Mix.lex_part rfl rfl rfl rfl (fun hq => ?_) (fun hq => ?_) <;> (fail_if_success (guard_hyp hq :ₛ true = true)) <;> (fail_if_success (guard_hyp hq :ₛ false = false)) <;> first | (exfalso; cases hq; done) | (exfalso; simp only [decide_eq_true_eq, decide_eq_false_iff_not, beq_iff_eq, beq_eq_false_iff_ne, ne_eq, Int.not_lt, Int.not_le] at hq; omega) | simp only [Act.put, List.setIfInBounds_toArray, List.set_cons_succ, List.set_cons_zero]))); all_goals (refine Mix.lex_nil ?_)))
                    go_ret
                    exact ⟨by rw [HB.out, hN.out]; rfl, HX0.out.then_ext ξ2.h⟩
                · have hN : Hid (r.out.all lightF1 = false) := all_false_at' HX.out (by unfold lightF1; rw [decide_eq_false l1, Bool.false_and])
                  have m1 : decide ((20 : Int) < (x.1.length : Int)) = true := by rw [decide_eq_true_iff]; omega
                  go_wp2_with (first | ((first | refine Mix.wpList_guarded rfl ?_ | refine Mix.wp_still (by kernel_rfl) (by kernel_rfl) ?_); (repeat' (first | (refine Mix.lex_quiet0 rfl rfl rfl ?_; intro K hK; go_big_quiet_op; go_big_quiet_on) | (refine Mix.lex_quietG rfl rfl rfl (by with_reducible rfl) rfl rfl ?_; intro K hK; go_big_quiet_op; go_big_quiet_on) | ((first | refine Mix.lex_skipT rfl rfl rfl (by with_reducible rfl) ?_ | refine Mix.lex_skipF rfl rfl rfl (by with_reducible rfl) ?_ | refine Mix.lex_skipU rfl rfl rfl (by with_reducible rfl) ?_); simp only [Act.put, List.setIfInBounds_toArray, List.set_cons_succ, List.set_cons_zero]) | (refine Mix.lex_part rfl rfl rfl rfl (fun hq => ?_) (fun hq => ?_) <;> (fail_if_success (guard_hyp hq :ₛ true = true)) <;> (fail_if_success (guard_hyp hq :ₛ false = false)) <;> first | (exfalso; cases hq; done) | (exfalso; simp only [decide_eq_true_eq, decide_eq_false_iff_not, beq_iff_eq, beq_eq_false_iff_ne, ne_eq, Int.not_lt, Int.not_le] at hq; omega) | simp only [Act.put, List.setIfInBounds_toArray, List.set_cons_succ, List.set_cons_zero]))); all_goals (refine Mix.lex_nil ?_)))
                  go_ret
                  exact ⟨by rw [HB.out, hN.out]; rfl, HX0.out.then_ext ξ2.h⟩
              · have hN : Hid (r.out.all lightF1 = true) := by
                  have := HT.out
                  rw [List.take_of_length_le (by omega)] at this
                  exact this
                rw [hN.out] at HB
                clear HT hN
                go_wp2_with (first | ((first | refine Mix.wpList_guarded rfl ?_ | refine Mix.wp_still (by kernel_rfl) (by kernel_rfl) ?_); (repeat' (first | (refine Mix.lex_quiet0 rfl rfl rfl ?_; intro K hK; go_big_quiet_op; go_big_quiet_on) | (refine Mix.lex_quietG rfl rfl rfl (by with_reducible rfl) rfl rfl ?_; intro K hK; go_big_quiet_op; go_big_quiet_on) | ((first | refine Mix.lex_skipT rfl rfl rfl (by with_reducible rfl) ?_ | refine Mix.lex_skipF rfl rfl rfl (by with_reducible rfl) ?_ | refine Mix.lex_skipU rfl rfl rfl (by with_reducible rfl) ?_); simp only [Act.put, List.setIfInBounds_toArray, List.set_cons_succ, List.set_cons_zero]) | (refine Mix.lex_part rfl rfl rfl rfl (fun hq => ?_) (fun hq => ?_) <;> (fail_if_success (guard_hyp hq :ₛ true = true)) <;> (fail_if_success (guard_hyp hq :ₛ false = false)) <;> first | (exfalso; cases hq; done) | (exfalso; simp only [decide_eq_true_eq, decide_eq_false_iff_not, beq_iff_eq, beq_eq_false_iff_ne, ne_eq, Int.not_lt, Int.not_le] at hq; omega) | simp only [Act.put, List.setIfInBounds_toArray, List.set_cons_succ, List.set_cons_zero]))); all_goals (refine Mix.lex_nil ?_)))
                go_ret
                exact ⟨by rw [HB.out]; rfl, HX0.out.then_ext ξ2.h⟩
      · have g3' : decide ((4 : Int) < (r.out.length : Int)) = true := by rw [decide_eq_true_iff]; omega
        rw [decide_eq_false g3] at HB
        refine Mix.wp_plain [2] (Cl w0 No) (Cl.of ξ0.h) ?_
        (repeat' (first | (refine Mix.lex_quiet0 rfl rfl rfl ?_; intro K hK; go_big_quiet_op; go_big_quiet_on) | (refine Mix.lex_quietG rfl rfl rfl (by with_reducible rfl) rfl rfl ?_; intro K hK; go_big_quiet_op; go_big_quiet_on) | ((first | refine Mix.lex_skipT rfl rfl rfl (by with_reducible rfl) ?_ | refine Mix.lex_skipF rfl rfl rfl (by with_reducible rfl) ?_ | refine Mix.lex_skipU rfl rfl rfl (by with_reducible rfl) ?_); simp only [Act.put, List.setIfInBounds_toArray, List.set_cons_succ, List.set_cons_zero]) | (refine Mix.lex_part rfl rfl rfl rfl (fun hq => ?_) (fun hq => ?_) <;> (fail_if_success (guard_hyp hq :ₛ true = true)) <;> (fail_if_success (guard_hyp hq :ₛ false = false)) <;> first | (exfalso; cases hq; done) | (exfalso; simp only [decide_eq_true_eq, decide_eq_false_iff_not, beq_iff_eq, beq_eq_false_iff_ne, ne_eq, Int.not_lt, Int.not_le] at hq; omega) | simp only [Act.put, List.setIfInBounds_toArray, List.set_cons_succ, List.set_cons_zero])))
        ((first | refine Mix.lex_goes0 rfl rfl ?_ | refine Mix.lex_goesG rfl rfl rfl (by with_reducible rfl) rfl ?_); intro K hK; go_simp); refine (HL1.out _ ξ0.h).mono ?_; rintro e uu ⟨rfl, hu⟩; obtain ⟨ξ1, hnew⟩ : ∃ ξ : X w0 No, ξ.v = uu := ⟨⟨uu, ξ0.h.then_ext hu⟩, rfl⟩; subst hnew; have Hξ1 := Lib.hid hu; refine ⟨_, rfl, hK _ _ (fun _ => ⟨ξ1, rfl⟩) ?_⟩; clear hK K hu; simp only [Act.put, List.setIfInBounds_toArray, List.set_cons_succ, List.set_cons_zero]; (repeat' (first | (refine Mix.lex_quiet0 rfl rfl rfl ?_; intro K hK; go_big_quiet_op; go_big_quiet_on) | (refine Mix.lex_quietG rfl rfl rfl (by with_reducible rfl) rfl rfl ?_; intro K hK; go_big_quiet_op; go_big_quiet_on) | ((first | refine Mix.lex_skipT rfl rfl rfl (by with_reducible rfl) ?_ | refine Mix.lex_skipF rfl rfl rfl (by with_reducible rfl) ?_ | refine Mix.lex_skipU rfl rfl rfl (by with_reducible rfl) ?_); simp only [Act.put, List.setIfInBounds_toArray, List.set_cons_succ, List.set_cons_zero]) | (refine Mix.lex_part rfl rfl rfl rfl (fun hq => ?_) (fun hq => ?_) <;> (fail_if_success (guard_hyp hq :ₛ true = true)) <;> (fail_if_success (guard_hyp hq :ₛ false = false)) <;> first | (exfalso; cases hq; done) | (exfalso; simp only [decide_eq_true_eq, decide_eq_false_iff_not, beq_iff_eq, beq_eq_false_iff_ne, ne_eq, Int.not_lt, Int.not_le] at hq; omega) | simp only [Act.put, List.setIfInBounds_toArray, List.set_cons_succ, List.set_cons_zero])))
        refine Mix.lex_nil ?_
        go_wp2_with (first | ((first | refine Mix.wpList_guarded rfl ?_ | refine Mix.wp_still (by kernel_rfl) (by kernel_rfl) ?_); (repeat' (first | (refine Mix.lex_quiet0 rfl rfl rfl ?_; intro K hK; go_big_quiet_op; go_big_quiet_on) | (refine Mix.lex_quietG rfl rfl rfl (by with_reducible rfl) rfl rfl ?_; intro K hK; go_big_quiet_op; go_big_quiet_on) | ((first | refine Mix.lex_skipT rfl rfl rfl (by with_reducible rfl) ?_ | refine Mix.lex_skipF rfl rfl rfl (by with_reducible rfl) ?_ | refine Mix.lex_skipU rfl rfl rfl (by with_reducible rfl) ?_); simp only [Act.put, List.setIfInBounds_toArray, List.set_cons_succ, List.set_cons_zero]) | (refine Mix.lex_part rfl rfl rfl rfl (fun hq => ?_) (fun hq => ?_) <;> (fail_if_success (guard_hyp hq :ₛ true = true)) <;> (fail_if_success (guard_hyp hq :ₛ false = false)) <;> first | (exfalso; cases hq; done) | (exfalso; simp only [decide_eq_true_eq, decide_eq_false_iff_not, beq_iff_eq, beq_eq_false_iff_ne, ne_eq, Int.not_lt, Int.not_le] at hq; omega) | simp only [Act.put, List.setIfInBounds_toArray, List.set_cons_succ, List.set_cons_zero]))); all_goals (refine Mix.lex_nil ?_)))
        go_ret
        exact ⟨by rw [HB.out]; rfl, HX0.out.then_ext ξ1.h⟩
    · have g2' : decide ((4 : Int) < (r.needs.length : Int)) = true := by rw [decide_eq_true_iff]; omega
      rw [decide_eq_false g2] at HB
      refine Mix.wp_plain [2] (Cl w0 No) (Cl.of ξ0.h) ?_
      (repeat' (first | (refine Mix.lex_quiet0 rfl rfl rfl ?_; intro K hK; go_big_quiet_op; go_big_quiet_on) | (refine Mix.lex_quietG rfl rfl rfl (by with_reducible rfl) rfl rfl ?_; intro K hK; go_big_quiet_op; go_big_quiet_on) | ((first | refine Mix.lex_skipT rfl rfl rfl (by with_reducible rfl) ?_ | refine Mix.lex_skipF rfl rfl rfl (by with_reducible rfl) ?_ | refine Mix.lex_skipU rfl rfl rfl (by with_reducible rfl) ?_); simp only [Act.put, List.setIfInBounds_toArray, List.set_cons_succ, List.set_cons_zero]) | (refine Mix.lex_part rfl rfl rfl rfl (fun hq => ?_) (fun hq => ?_) <;> (fail_if_success (guard_hyp hq :ₛ true = true)) <;> (fail_if_success (guard_hyp hq :ₛ false = false)) <;> first | (exfalso; cases hq; done) | (exfalso; simp only [decide_eq_true_eq, decide_eq_false_iff_not, beq_iff_eq, beq_eq_false_iff_ne, ne_eq, Int.not_lt, Int.not_le] at hq; omega) | simp only [Act.put, List.setIfInBounds_toArray, List.set_cons_succ, List.set_cons_zero])))
      ((first | refine Mix.lex_goes0 rfl rfl ?_ | refine Mix.lex_goesG rfl rfl rfl (by with_reducible rfl) rfl ?_); intro K hK; go_simp); refine (HL1.out _ ξ0.h).mono ?_; rintro e uu ⟨rfl, hu⟩; obtain ⟨ξ1, hnew⟩ : ∃ ξ : X w0 No, ξ.v = uu := ⟨⟨uu, ξ0.h.then_ext hu⟩, rfl⟩; subst hnew; have Hξ1 := Lib.hid hu; refine ⟨_, rfl, hK _ _ (fun _ => ⟨ξ1, rfl⟩) ?_⟩; clear hK K hu; simp only [Act.put, List.setIfInBounds_toArray, List.set_cons_succ, List.set_cons_zero]; (repeat' (first | (refine Mix.lex_quiet0 rfl rfl rfl ?_; intro K hK; go_big_quiet_op; go_big_quiet_on) | (refine Mix.lex_quietG rfl rfl rfl (by with_reducible rfl) rfl rfl ?_; intro K hK; go_big_quiet_op; go_big_quiet_on) | ((first | refine Mix.lex_skipT rfl rfl rfl (by with_reducible rfl) ?_ | refine Mix.lex_skipF rfl rfl rfl (by with_reducible rfl) ?_ | refine Mix.lex_skipU rfl rfl rfl (by with_reducible rfl) ?_); simp only [Act.put, List.setIfInBounds_toArray, List.set_cons_succ, List.set_cons_zero]) | (refine Mix.lex_part rfl rfl rfl rfl (fun hq => ?_) (fun hq => ?_) <;> (fail_if_success (guard_hyp hq :ₛ true = true)) <;> (fail_if_success (guard_hyp hq :ₛ false = false)) <;> first | (exfalso; cases hq; done) | (exfalso; simp only [decide_eq_true_eq, decide_eq_false_iff_not, beq_iff_eq, beq_eq_false_iff_ne, ne_eq, Int.not_lt, Int.not_le] at hq; omega) | simp only [Act.put, List.setIfInBounds_toArray, List.set_cons_succ, List.set_cons_zero])))
      refine Mix.lex_nil ?_
      go_wp2_with (first | ((first | refine Mix.wpList_guarded rfl ?_ | refine Mix.wp_still (by kernel_rfl) (by kernel_rfl) ?_); (repeat' (first | (refine Mix.lex_quiet0 rfl rfl rfl ?_; intro K hK; go_big_quiet_op; go_big_quiet_on) | (refine Mix.lex_quietG rfl rfl rfl (by with_reducible rfl) rfl rfl ?_; intro K hK; go_big_quiet_op; go_big_quiet_on) | ((first | refine Mix.lex_skipT rfl rfl rfl (by with_reducible rfl) ?_ | refine Mix.lex_skipF rfl rfl rfl (by with_reducible rfl) ?_ | refine Mix.lex_skipU rfl rfl rfl (by with_reducible rfl) ?_); simp only [Act.put, List.setIfInBounds_toArray, List.set_cons_succ, List.set_cons_zero]) | (refine Mix.lex_part rfl rfl rfl rfl (fun hq => ?_) (fun hq => ?_) <;> (fail_if_success (guard_hyp hq :ₛ true = true)) <;> (fail_if_success (guard_hyp hq :ₛ false = false)) <;> first | (exfalso; cases hq; done) | (exfalso; simp only [decide_eq_true_eq, decide_eq_false_iff_not, beq_iff_eq, beq_eq_false_iff_ne, ne_eq, Int.not_lt, Int.not_le] at hq; omega) | simp only [Act.put, List.setIfInBounds_toArray, List.set_cons_succ, List.set_cons_zero]))); all_goals (refine Mix.lex_nil ?_)))
      go_ret
      exact ⟨by rw [HB.out]; rfl, HX0.out.then_ext ξ1.h⟩
theorem fl_info : (Try.prog.info? 82).map (fun i => (i.zero, i.size, i.bytes)) = some (some (.agg #[.string ⟨#[]⟩, .string ⟨#[]⟩]), 2, 32) := by kernel_rfl
theorem fl_ty : Ety Try.prog 40 82 2 := Ety.mk' Try.underlying40 fl_info rfl (by omega) (by omega)
theorem fl_enc1 : ∀ (xs : List File), ∀ u ∈ xs.flatMap fileF.enc, u.oneCell' = true := by
  intro xs u hu
  obtain ⟨x, _, hx⟩ := List.mem_flatMap.1 hu
  rcases List.mem_cons.1 hx with rfl | hx
  · rfl
  · rcases List.mem_cons.1 hx with rfl | hx
    · rfl
    · cases hx
end Go.Proofs.Ytnhaekifcieeoaa
