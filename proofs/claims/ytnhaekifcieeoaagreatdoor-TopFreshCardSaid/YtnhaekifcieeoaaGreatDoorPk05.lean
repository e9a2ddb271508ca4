/- Put together: Rec2, Rec3. -/
import Derived.Test.YtnhaekifcieeoaaGreatDoorPk04
namespace Go.Proofs.YtnhaekifcieeoaaGreatDoor
open Go Go.RowKit
abbrev oP : TypeId := 165
def OvRes (t : TypeId) (w : World) (g : Nat) (o : Ov) (v : Value) (e : Ending) (w' : World) : Prop := e = .returned v ∧ ∃ r', OvAt t w' g r' o ∧ Only (fun b => b = g) w w'
theorem OvRes.of_ext {t : TypeId} {w w' : World} {g : Nat} {r : OvR} {o : Ov} {v : Value} {e : Ending} (h : OvAt t w g r o) (he : e = .returned v) (hx : Ext w w') : OvRes t w g o v e w' := ⟨he, r, h.ext hx, hx.any⟩
theorem OvRes.from {t : TypeId} {w u w' : World} {g : Nat} {o : Ov} {v : Value} {e : Ending} (h : OvRes t u g o v e w') (hx : Ext w u) : OvRes t w g o v e w' := by
  obtain ⟨he, r, h1, h2⟩ := h
  exact ⟨he, r, h1, hx.any.trans h2 fun _ _ h => h⟩
theorem id_c (s : Str) (w : World) : Calls Tryz.prog 136 #[S s] w fun e w' => e = .returned (S s) ∧ Ext w w' := by
  go_enter Tryz.func136, Tryz.ntmps136
  go_wp2_with fail
  go_ret
  exact ⟨rfl, Only.refl _ _⟩
theorem two_id {w : World} {g : Nat} {r : OvR} {o : Ov} (h : OvAt oP w g r o) (hs : o.Small) (K : Nat) (hK : K ≤ maxLen) (a b : Str) (hrl : (o.rd a).length ≤ K) (ha : a.length ≤ maxLen) (hb : b.length ≤ maxLen) (F : Str → Str) (hl : ∀ s, (F s).length ≤ s.length)
    (hF : ∀ v, Ext w v → ∀ s : Str, s.length ≤ K → Calls Tryz.prog 136 #[S s] v fun e w' => e = .returned (S (F s)) ∧ Ext v w') :
    Calls Tryz.prog 135 #[pt g, S a, S b, .func (.func 136) #[] #[]] w (OvRes oP w g (o.two a b F).1 (errV (o.two a b F).2)) := by
  have HR := Lib.hid (Read_ov h hs a ha)
  have HN : Hid (o.two a b F = if o.rdF a = 0 then (o.wr b (F (o.rd a)), o.wrF b (F (o.rd a))) else (o, o.rdF a)) := rfl
  have HW := Lib.hid (fun v (hv : Ext w v) => Write_ov (h.ext hv) hs b (F (o.rd a)) hb (by have := hl (o.rd a); omega))
  have HFc := Lib.hid (fun v (hv : Ext w v) => hF v hv (o.rd a) hrl)
  generalize o.rdF a = f at HR HN
  generalize o.rd a = t at HR HN HW HFc
  have H := Lib.hid h
  clear h hs hF hl hrl hK
  go_enter Tryz.func135, Tryz.ntmps135
  go_wp2_with (first | ((first | refine Mix.wpList_guarded rfl ?_ | refine Mix.wp_still (by kernel_rfl) (by kernel_rfl) ?_); (repeat' (first | (refine Mix.lex_quiet0 rfl rfl rfl ?_; intro K hK; go_big_quiet_op; go_big_quiet_on) | (refine Mix.lex_quietG rfl rfl rfl (by with_reducible rfl) rfl rfl ?_; intro K hK; go_big_quiet_op; go_big_quiet_on) | ((first | refine Mix.lex_skipT rfl rfl rfl (by with_reducible rfl) ?_ | refine Mix.lex_skipF rfl rfl rfl (by with_reducible rfl) ?_ | refine Mix.lex_skipU rfl rfl rfl (by with_reducible rfl) ?_); simp only [Act.put, List.setIfInBounds_toArray, List.set_cons_succ, List.set_cons_zero]) | (refine Mix.lex_part rfl rfl rfl rfl (fun hq => ?_) (fun hq => ?_) <;> (fail_if_success (guard_hyp hq :ₛ true = true)) <;> (fail_if_success (guard_hyp hq :ₛ false = false)) <;> first | (exfalso; cases hq; done) | (exfalso; simp only [decide_eq_true_eq, decide_eq_false_iff_not, beq_iff_eq, beq_eq_false_iff_ne, ne_eq, Int.not_lt, Int.not_le] at hq; omega) | simp only [Act.put, List.setIfInBounds_toArray, List.set_cons_succ, List.set_cons_zero]))); all_goals (refine Mix.lex_nil ?_)))
  refine (HR.out).mono ?_; rintro e uu ⟨rfl, hu⟩; obtain ⟨ξ1, hnew⟩ : ∃ ξ : X w No, ξ.v = uu := ⟨⟨uu, (X.here w No).h.then_ext hu⟩, rfl⟩; subst hnew; have Hξ1 := Lib.hid hu; clear hu
  clear HR
  by_cases hf : f = 0
  · have HN2 : Hid (o.two a b F = (o.wr b (F t), o.wrF b (F t))) := by rw [Hid, HN.out, if_pos hf]
    subst hf
    rw [errV_zero]
    clear HN
    go_wp2_with (first | ((first | refine Mix.wpList_guarded rfl ?_ | refine Mix.wp_still (by kernel_rfl) (by kernel_rfl) ?_); (repeat' (first | (refine Mix.lex_quiet0 rfl rfl rfl ?_; intro K hK; go_big_quiet_op; go_big_quiet_on) | (refine Mix.lex_quietG rfl rfl rfl (by with_reducible rfl) rfl rfl ?_; intro K hK; go_big_quiet_op; go_big_quiet_on) | ((first | refine Mix.lex_skipT rfl rfl rfl (by with_reducible rfl) ?_ | refine Mix.lex_skipF rfl rfl rfl (by with_reducible rfl) ?_ | refine Mix.lex_skipU rfl rfl rfl (by with_reducible rfl) ?_); simp only [Act.put, List.setIfInBounds_toArray, List.set_cons_succ, List.set_cons_zero]) | (refine Mix.lex_part rfl rfl rfl rfl (fun hq => ?_) (fun hq => ?_) <;> (fail_if_success (guard_hyp hq :ₛ true = true)) <;> (fail_if_success (guard_hyp hq :ₛ false = false)) <;> first | (exfalso; cases hq; done) | (exfalso; simp only [decide_eq_true_eq, decide_eq_false_iff_not, beq_iff_eq, beq_eq_false_iff_ne, ne_eq, Int.not_lt, Int.not_le] at hq; omega) | simp only [Act.put, List.setIfInBounds_toArray, List.set_cons_succ, List.set_cons_zero]))); all_goals (refine Mix.lex_nil ?_)))
    refine (HFc.out _ ξ1.h).mono ?_; rintro e uu ⟨rfl, hu⟩; obtain ⟨ξ2, hnew⟩ : ∃ ξ : X w No, ξ.v = uu := ⟨⟨uu, ξ1.h.then_ext hu⟩, rfl⟩; subst hnew; have Hξ2 := Lib.hid hu; clear hu
    clear HFc
    go_wp2_with (first | ((first | refine Mix.wpList_guarded rfl ?_ | refine Mix.wp_still (by kernel_rfl) (by kernel_rfl) ?_); (repeat' (first | (refine Mix.lex_quiet0 rfl rfl rfl ?_; intro K hK; go_big_quiet_op; go_big_quiet_on) | (refine Mix.lex_quietG rfl rfl rfl (by with_reducible rfl) rfl rfl ?_; intro K hK; go_big_quiet_op; go_big_quiet_on) | ((first | refine Mix.lex_skipT rfl rfl rfl (by with_reducible rfl) ?_ | refine Mix.lex_skipF rfl rfl rfl (by with_reducible rfl) ?_ | refine Mix.lex_skipU rfl rfl rfl (by with_reducible rfl) ?_); simp only [Act.put, List.setIfInBounds_toArray, List.set_cons_succ, List.set_cons_zero]) | (refine Mix.lex_part rfl rfl rfl rfl (fun hq => ?_) (fun hq => ?_) <;> (fail_if_success (guard_hyp hq :ₛ true = true)) <;> (fail_if_success (guard_hyp hq :ₛ false = false)) <;> first | (exfalso; cases hq; done) | (exfalso; simp only [decide_eq_true_eq, decide_eq_false_iff_not, beq_iff_eq, beq_eq_false_iff_ne, ne_eq, Int.not_lt, Int.not_le] at hq; omega) | simp only [Act.put, List.setIfInBounds_toArray, List.set_cons_succ, List.set_cons_zero]))); all_goals (refine Mix.lex_nil ?_)))
    refine (HW.out _ ξ2.h).mono ?_
    rintro e u ⟨rfl, hu⟩
    have HU := Lib.hid hu
    clear hu HW
    go_wp2_with (first | ((first | refine Mix.wpList_guarded rfl ?_ | refine Mix.wp_still (by kernel_rfl) (by kernel_rfl) ?_); (repeat' (first | (refine Mix.lex_quiet0 rfl rfl rfl ?_; intro K hK; go_big_quiet_op; go_big_quiet_on) | (refine Mix.lex_quietG rfl rfl rfl (by with_reducible rfl) rfl rfl ?_; intro K hK; go_big_quiet_op; go_big_quiet_on) | ((first | refine Mix.lex_skipT rfl rfl rfl (by with_reducible rfl) ?_ | refine Mix.lex_skipF rfl rfl rfl (by with_reducible rfl) ?_ | refine Mix.lex_skipU rfl rfl rfl (by with_reducible rfl) ?_); simp only [Act.put, List.setIfInBounds_toArray, List.set_cons_succ, List.set_cons_zero]) | (refine Mix.lex_part rfl rfl rfl rfl (fun hq => ?_) (fun hq => ?_) <;> (fail_if_success (guard_hyp hq :ₛ true = true)) <;> (fail_if_success (guard_hyp hq :ₛ false = false)) <;> first | (exfalso; cases hq; done) | (exfalso; simp only [decide_eq_true_eq, decide_eq_false_iff_not, beq_iff_eq, beq_eq_false_iff_ne, ne_eq, Int.not_lt, Int.not_le] at hq; omega) | simp only [Act.put, List.setIfInBounds_toArray, List.set_cons_succ, List.set_cons_zero]))); all_goals (refine Mix.lex_nil ?_)))
    go_ret
    obtain ⟨r', h1, h2⟩ := HU.out
    rw [HN2.out]
    exact ⟨rfl, r', h1, ξ2.h.any.trans h2 fun _ _ h => h⟩
  · have HN2 : Hid (o.two a b F = (o, f)) := by rw [Hid, HN.out, if_neg hf]
    have HE := Lib.hid (errV_pos hf)
    rw [errV_pos hf]
    clear HN hf
    go_wp2_with (first | ((first | refine Mix.wpList_guarded rfl ?_ | refine Mix.wp_still (by kernel_rfl) (by kernel_rfl) ?_); (repeat' (first | (refine Mix.lex_quiet0 rfl rfl rfl ?_; intro K hK; go_big_quiet_op; go_big_quiet_on) | (refine Mix.lex_quietG rfl rfl rfl (by with_reducible rfl) rfl rfl ?_; intro K hK; go_big_quiet_op; go_big_quiet_on) | ((first | refine Mix.lex_skipT rfl rfl rfl (by with_reducible rfl) ?_ | refine Mix.lex_skipF rfl rfl rfl (by with_reducible rfl) ?_ | refine Mix.lex_skipU rfl rfl rfl (by with_reducible rfl) ?_); simp only [Act.put, List.setIfInBounds_toArray, List.set_cons_succ, List.set_cons_zero]) | (refine Mix.lex_part rfl rfl rfl rfl (fun hq => ?_) (fun hq => ?_) <;> (fail_if_success (guard_hyp hq :ₛ true = true)) <;> (fail_if_success (guard_hyp hq :ₛ false = false)) <;> first | (exfalso; cases hq; done) | (exfalso; simp only [decide_eq_true_eq, decide_eq_false_iff_not, beq_iff_eq, beq_eq_false_iff_ne, ne_eq, Int.not_lt, Int.not_le] at hq; omega) | simp only [Act.put, List.setIfInBounds_toArray, List.set_cons_succ, List.set_cons_zero]))); all_goals (refine Mix.lex_nil ?_)))
    go_ret
    rw [HN2.out]
    exact OvRes.of_ext H.out (by rw [HE.out]; rfl) ξ1.h
theorem two_turn {w : World} {g : Nat} {r : OvR} {o : Ov} (h : OvAt oP w g r o) (hs : o.Small) (K : Nat) (hK : K ≤ maxLen) (a b : Str) (hrl : (o.rd a).length ≤ K) (ha : a.length ≤ maxLen) (hb : b.length ≤ maxLen) (F : Str → Str) (hl : ∀ s, (F s).length ≤ s.length)
    (hF : ∀ v, Ext w v → ∀ s : Str, s.length ≤ K → Calls Tryz.prog 137 #[S s] v fun e w' => e = .returned (S (F s)) ∧ Ext v w') :
    Calls Tryz.prog 135 #[pt g, S a, S b, .func (.func 137) #[] #[]] w (OvRes oP w g (o.two a b F).1 (errV (o.two a b F).2)) := by
  have HR := Lib.hid (Read_ov h hs a ha)
  have HN : Hid (o.two a b F = if o.rdF a = 0 then (o.wr b (F (o.rd a)), o.wrF b (F (o.rd a))) else (o, o.rdF a)) := rfl
  have HW := Lib.hid (fun v (hv : Ext w v) => Write_ov (h.ext hv) hs b (F (o.rd a)) hb (by have := hl (o.rd a); omega))
  have HFc := Lib.hid (fun v (hv : Ext w v) => hF v hv (o.rd a) hrl)
  generalize o.rdF a = f at HR HN
  generalize o.rd a = t at HR HN HW HFc
  have H := Lib.hid h
  clear h hs hF hl hrl hK
  go_enter Tryz.func135, Tryz.ntmps135
  go_wp2_with (first | ((first | refine Mix.wpList_guarded rfl ?_ | refine Mix.wp_still (by kernel_rfl) (by kernel_rfl) ?_); (repeat' (first | (refine Mix.lex_quiet0 rfl rfl rfl ?_; intro K hK; go_big_quiet_op; go_big_quiet_on) | (refine Mix.lex_quietG rfl rfl rfl (by with_reducible rfl) rfl rfl ?_; intro K hK; go_big_quiet_op; go_big_quiet_on) | ((first | refine Mix.lex_skipT rfl rfl rfl (by with_reducible rfl) ?_ | refine Mix.lex_skipF rfl rfl rfl (by with_reducible rfl) ?_ | refine Mix.lex_skipU rfl rfl rfl (by with_reducible rfl) ?_); simp only [Act.put, List.setIfInBounds_toArray, List.set_cons_succ, List.set_cons_zero]) | (refine Mix.lex_part rfl rfl rfl rfl (fun hq => ?_) (fun hq => ?_) <;> (fail_if_success (guard_hyp hq :ₛ true = true)) <;> (fail_if_success (guard_hyp hq :ₛ false = false)) <;> first | (exfalso; cases hq; done) | (exfalso; simp only [decide_eq_true_eq, decide_eq_false_iff_not, beq_iff_eq, beq_eq_false_iff_ne, ne_eq, Int.not_lt, Int.not_le] at hq; omega) | simp only [Act.put, List.setIfInBounds_toArray, List.set_cons_succ, List.set_cons_zero]))); all_goals (refine Mix.lex_nil ?_)))
  refine (HR.out).mono ?_; rintro e uu ⟨rfl, hu⟩; obtain ⟨ξ1, hnew⟩ : ∃ ξ : X w No, ξ.v = uu := ⟨⟨uu, (X.here w No).h.then_ext hu⟩, rfl⟩; subst hnew; have Hξ1 := Lib.hid hu; clear hu
  clear HR
  by_cases hf : f = 0
  · have HN2 : Hid (o.two a b F = (o.wr b (F t), o.wrF b (F t))) := by rw [Hid, HN.out, if_pos hf]
    subst hf
    rw [errV_zero]
    clear HN
    go_wp2_with (first | ((first | refine Mix.wpList_guarded rfl ?_ | refine Mix.wp_still (by kernel_rfl) (by kernel_rfl) ?_); (repeat' (first | (refine Mix.lex_quiet0 rfl rfl rfl ?_; intro K hK; go_big_quiet_op; go_big_quiet_on) | (refine Mix.lex_quietG rfl rfl rfl (by with_reducible rfl) rfl rfl ?_; intro K hK; go_big_quiet_op; go_big_quiet_on) | ((first | refine Mix.lex_skipT rfl rfl rfl (by with_reducible rfl) ?_ | refine Mix.lex_skipF rfl rfl rfl (by with_reducible rfl) ?_ | refine Mix.lex_skipU rfl rfl rfl (by with_reducible rfl) ?_); simp only [Act.put, List.setIfInBounds_toArray, List.set_cons_succ, List.set_cons_zero]) | (refine Mix.lex_part rfl rfl rfl rfl (fun hq => ?_) (fun hq => ?_) <;> (fail_if_success (guard_hyp hq :ₛ true = true)) <;> (fail_if_success (guard_hyp hq :ₛ false = false)) <;> first | (exfalso; cases hq; done) | (exfalso; simp only [decide_eq_true_eq, decide_eq_false_iff_not, beq_iff_eq, beq_eq_false_iff_ne, ne_eq, Int.not_lt, Int.not_le] at hq; omega) | simp only [Act.put, List.setIfInBounds_toArray, List.set_cons_succ, List.set_cons_zero]))); all_goals (refine Mix.lex_nil ?_)))
    refine (HFc.out _ ξ1.h).mono ?_; rintro e uu ⟨rfl, hu⟩; obtain ⟨ξ2, hnew⟩ : ∃ ξ : X w No, ξ.v = uu := ⟨⟨uu, ξ1.h.then_ext hu⟩, rfl⟩; subst hnew; have Hξ2 := Lib.hid hu; clear hu
    clear HFc
    go_wp2_with (first | ((first | refine Mix.wpList_guarded rfl ?_ | refine Mix.wp_still (by kernel_rfl) (by kernel_rfl) ?_); (repeat' (first | (refine Mix.lex_quiet0 rfl rfl rfl ?_; intro K hK; go_big_quiet_op; go_big_quiet_on) | (refine Mix.lex_quietG rfl rfl rfl (by with_reducible rfl) rfl rfl ?_; intro K hK; go_big_quiet_op; go_big_quiet_on) | ((first | refine Mix.lex_skipT rfl rfl rfl (by with_reducible rfl) ?_ | refine Mix.lex_skipF rfl rfl rfl (by with_reducible rfl) ?_ | refine Mix.lex_skipU rfl rfl rfl (by with_reducible rfl) ?_); simp only [Act.put, List.setIfInBounds_toArray, List.set_cons_succ, List.set_cons_zero]) | (refine Mix.lex_part rfl rfl rfl rfl (fun hq => ?_) (fun hq => ?_) <;> (fail_if_success (guard_hyp hq :ₛ true = true)) <;> (fail_if_success (guard_hyp hq :ₛ false = false)) <;> first | (exfalso; cases hq; done) | (exfalso; simp only [decide_eq_true_eq, decide_eq_false_iff_not, beq_iff_eq, beq_eq_false_iff_ne, ne_eq, Int.not_lt, Int.not_le] at hq; omega) | simp only [Act.put, List.setIfInBounds_toArray, List.set_cons_succ, List.set_cons_zero]))); all_goals (refine Mix.lex_nil ?_)))
    refine (HW.out _ ξ2.h).mono ?_
    rintro e u ⟨rfl, hu⟩
    have HU := Lib.hid hu
    clear hu HW
    go_wp2_with (first | ((first | refine Mix.wpList_guarded rfl ?_ | refine Mix.wp_still (by kernel_rfl) (by kernel_rfl) ?_); (repeat' (first | (refine Mix.lex_quiet0 rfl rfl rfl ?_; intro K hK; go_big_quiet_op; go_big_quiet_on) | (refine Mix.lex_quietG rfl rfl rfl (by with_reducible rfl) rfl rfl ?_; intro K hK; go_big_quiet_op; go_big_quiet_on) | ((first | refine Mix.lex_skipT rfl rfl rfl (by with_reducible rfl) ?_ | refine Mix.lex_skipF rfl rfl rfl (by with_reducible rfl) ?_ | refine Mix.lex_skipU rfl rfl rfl (by with_reducible rfl) ?_); simp only [Act.put, List.setIfInBounds_toArray, List.set_cons_succ, List.set_cons_zero]) | (refine Mix.lex_part rfl rfl rfl rfl (fun hq => ?_) (fun hq => ?_) <;> (fail_if_success (guard_hyp hq :ₛ true = true)) <;> (fail_if_success (guard_hyp hq :ₛ false = false)) <;> first | (exfalso; cases hq; done) | (exfalso; simp only [decide_eq_true_eq, decide_eq_false_iff_not, beq_iff_eq, beq_eq_false_iff_ne, ne_eq, Int.not_lt, Int.not_le] at hq; omega) | simp only [Act.put, List.setIfInBounds_toArray, List.set_cons_succ, List.set_cons_zero]))); all_goals (refine Mix.lex_nil ?_)))
    go_ret
    obtain ⟨r', h1, h2⟩ := HU.out
    rw [HN2.out]
    exact ⟨rfl, r', h1, ξ2.h.any.trans h2 fun _ _ h => h⟩
  · have HN2 : Hid (o.two a b F = (o, f)) := by rw [Hid, HN.out, if_neg hf]
    have HE := Lib.hid (errV_pos hf)
    rw [errV_pos hf]
    clear HN hf
    go_wp2_with (first | ((first | refine Mix.wpList_guarded rfl ?_ | refine Mix.wp_still (by kernel_rfl) (by kernel_rfl) ?_); (repeat' (first | (refine Mix.lex_quiet0 rfl rfl rfl ?_; intro K hK; go_big_quiet_op; go_big_quiet_on) | (refine Mix.lex_quietG rfl rfl rfl (by with_reducible rfl) rfl rfl ?_; intro K hK; go_big_quiet_op; go_big_quiet_on) | ((first | refine Mix.lex_skipT rfl rfl rfl (by with_reducible rfl) ?_ | refine Mix.lex_skipF rfl rfl rfl (by with_reducible rfl) ?_ | refine Mix.lex_skipU rfl rfl rfl (by with_reducible rfl) ?_); simp only [Act.put, List.setIfInBounds_toArray, List.set_cons_succ, List.set_cons_zero]) | (refine Mix.lex_part rfl rfl rfl rfl (fun hq => ?_) (fun hq => ?_) <;> (fail_if_success (guard_hyp hq :ₛ true = true)) <;> (fail_if_success (guard_hyp hq :ₛ false = false)) <;> first | (exfalso; cases hq; done) | (exfalso; simp only [decide_eq_true_eq, decide_eq_false_iff_not, beq_iff_eq, beq_eq_false_iff_ne, ne_eq, Int.not_lt, Int.not_le] at hq; omega) | simp only [Act.put, List.setIfInBounds_toArray, List.set_cons_succ, List.set_cons_zero]))); all_goals (refine Mix.lex_nil ?_)))
    go_ret
    rw [HN2.out]
    exact OvRes.of_ext H.out (by rw [HE.out]; rfl) ξ1.h
theorem two_swap {w : World} {g : Nat} {r : OvR} {o : Ov} (h : OvAt oP w g r o) (hs : o.Small) (K : Nat) (hK : K ≤ maxLen) (a b : Str) (hrl : (o.rd a).length ≤ K) (ha : a.length ≤ maxLen) (hb : b.length ≤ maxLen) (F : Str → Str) (hl : ∀ s, (F s).length ≤ s.length) (p : Nat)
    (hF : ∀ v, Ext w v → ∀ s : Str, s.length ≤ K → Calls Tryz.prog 138 #[S s, .pointer (some ⟨p, 0, none⟩)] v fun e w' => e = .returned (S (F s)) ∧ Ext v w') :
    Calls Tryz.prog 135 #[pt g, S a, S b, .func (.func 138) #[] #[.pointer (some ⟨p, 0, none⟩)]] w (OvRes oP w g (o.two a b F).1 (errV (o.two a b F).2)) := by
  have HR := Lib.hid (Read_ov h hs a ha)
  have HN : Hid (o.two a b F = if o.rdF a = 0 then (o.wr b (F (o.rd a)), o.wrF b (F (o.rd a))) else (o, o.rdF a)) := rfl
  have HW := Lib.hid (fun v (hv : Ext w v) => Write_ov (h.ext hv) hs b (F (o.rd a)) hb (by have := hl (o.rd a); omega))
  have HFc := Lib.hid (fun v (hv : Ext w v) => hF v hv (o.rd a) hrl)
  generalize o.rdF a = f at HR HN
  generalize o.rd a = t at HR HN HW HFc
  have H := Lib.hid h
  clear h hs hF hl hrl hK
  go_enter Tryz.func135, Tryz.ntmps135
  go_wp2_with (first | ((first | refine Mix.wpList_guarded rfl ?_ | refine Mix.wp_still (by kernel_rfl) (by kernel_rfl) ?_); (repeat' (first | (refine Mix.lex_quiet0 rfl rfl rfl ?_; intro K hK; go_big_quiet_op; go_big_quiet_on) | (refine Mix.lex_quietG rfl rfl rfl (by with_reducible rfl) rfl rfl ?_; intro K hK; go_big_quiet_op; go_big_quiet_on) | ((first | refine Mix.lex_skipT rfl rfl rfl (by with_reducible rfl) ?_ | refine Mix.lex_skipF rfl rfl rfl (by with_reducible rfl) ?_ | refine Mix.lex_skipU rfl rfl rfl (by with_reducible rfl) ?_); simp only [Act.put, List.setIfInBounds_toArray, List.set_cons_succ, List.set_cons_zero]) | (refine Mix.lex_part rfl rfl rfl rfl (fun hq => ?_) (fun hq => ?_) <;> (fail_if_success (guard_hyp hq :ₛ true = true)) <;> (fail_if_success (guard_hyp hq :ₛ false = false)) <;> first | (exfalso; cases hq; done) | (exfalso; simp only [decide_eq_true_eq, decide_eq_false_iff_not, beq_iff_eq, beq_eq_false_iff_ne, ne_eq, Int.not_lt, Int.not_le] at hq; omega) | simp only [Act.put, List.setIfInBounds_toArray, List.set_cons_succ, List.set_cons_zero]))); all_goals (refine Mix.lex_nil ?_)))
  refine (HR.out).mono ?_; rintro e uu ⟨rfl, hu⟩; obtain ⟨ξ1, hnew⟩ : ∃ ξ : X w No, ξ.v = uu := ⟨⟨uu, (X.here w No).h.then_ext hu⟩, rfl⟩; subst hnew; have Hξ1 := Lib.hid hu; clear hu
  clear HR
  by_cases hf : f = 0
  · have HN2 : Hid (o.two a b F = (o.wr b (F t), o.wrF b (F t))) := by rw [Hid, HN.out, if_pos hf]
    subst hf
    rw [errV_zero]
    clear HN
    go_wp2_with (first | ((first | refine Mix.wpList_guarded rfl ?_ | refine Mix.wp_still (by kernel_rfl) (by kernel_rfl) ?_); (repeat' (first | (refine Mix.lex_quiet0 rfl rfl rfl ?_; intro K hK; go_big_quiet_op; go_big_quiet_on) | (refine Mix.lex_quietG rfl rfl rfl (by with_reducible rfl) rfl rfl ?_; intro K hK; go_big_quiet_op; go_big_quiet_on) | ((first | refine Mix.lex_skipT rfl rfl rfl (by with_reducible rfl) ?_ | refine Mix.lex_skipF rfl rfl rfl (by with_reducible rfl) ?_ | refine Mix.lex_skipU rfl rfl rfl (by with_reducible rfl) ?_); simp only [Act.put, List.setIfInBounds_toArray, List.set_cons_succ, List.set_cons_zero]) | (refine Mix.lex_part rfl rfl rfl rfl (fun hq => ?_) (fun hq => ?_) <;> (fail_if_success (guard_hyp hq :ₛ true = true)) <;> (fail_if_success (guard_hyp hq :ₛ false = false)) <;> first | (exfalso; cases hq; done) | (exfalso; simp only [decide_eq_true_eq, decide_eq_false_iff_not, beq_iff_eq, beq_eq_false_iff_ne, ne_eq, Int.not_lt, Int.not_le] at hq; omega) | simp only [Act.put, List.setIfInBounds_toArray, List.set_cons_succ, List.set_cons_zero]))); all_goals (refine Mix.lex_nil ?_)))
    refine (HFc.out _ ξ1.h).mono ?_; rintro e uu ⟨rfl, hu⟩; obtain ⟨ξ2, hnew⟩ : ∃ ξ : X w No, ξ.v = uu := ⟨⟨uu, ξ1.h.then_ext hu⟩, rfl⟩; subst hnew; have Hξ2 := Lib.hid hu; clear hu
    clear HFc
    go_wp2_with (first | ((first | refine Mix.wpList_guarded rfl ?_ | refine Mix.wp_still (by kernel_rfl) (by kernel_rfl) ?_); (repeat' (first | (refine Mix.lex_quiet0 rfl rfl rfl ?_; intro K hK; go_big_quiet_op; go_big_quiet_on) | (refine Mix.lex_quietG rfl rfl rfl (by with_reducible rfl) rfl rfl ?_; intro K hK; go_big_quiet_op; go_big_quiet_on) | ((first | refine Mix.lex_skipT rfl rfl rfl (by with_reducible rfl) ?_ | refine Mix.lex_skipF rfl rfl rfl (by with_reducible rfl) ?_ | refine Mix.lex_skipU rfl rfl rfl (by with_reducible rfl) ?_); simp only [Act.put, List.setIfInBounds_toArray, List.set_cons_succ, List.set_cons_zero]) | (refine Mix.lex_part rfl rfl rfl rfl (fun hq => ?_) (fun hq => ?_) <;> (fail_if_success (guard_hyp hq :ₛ true = true)) <;> (fail_if_success (guard_hyp hq :ₛ false = false)) <;> first | (exfalso; cases hq; done) | (exfalso; simp only [decide_eq_true_eq, decide_eq_false_iff_not, beq_iff_eq, beq_eq_false_iff_ne, ne_eq, Int.not_lt, Int.not_le] at hq; omega) | simp only [Act.put, List.setIfInBounds_toArray, List.set_cons_succ, List.set_cons_zero]))); all_goals (refine Mix.lex_nil ?_)))
    refine (HW.out _ ξ2.h).mono ?_
    rintro e u ⟨rfl, hu⟩
    have HU := Lib.hid hu
    clear hu HW
    go_wp2_with (first | ((first | refine Mix.wpList_guarded rfl ?_ | refine Mix.wp_still (by kernel_rfl) (by kernel_rfl) ?_); (repeat' (first | (refine Mix.lex_quiet0 rfl rfl rfl ?_; intro K hK; go_big_quiet_op; go_big_quiet_on) | (refine Mix.lex_quietG rfl rfl rfl (by with_reducible rfl) rfl rfl ?_; intro K hK; go_big_quiet_op; go_big_quiet_on) | ((first | refine Mix.lex_skipT rfl rfl rfl (by with_reducible rfl) ?_ | refine Mix.lex_skipF rfl rfl rfl (by with_reducible rfl) ?_ | refine Mix.lex_skipU rfl rfl rfl (by with_reducible rfl) ?_); simp only [Act.put, List.setIfInBounds_toArray, List.set_cons_succ, List.set_cons_zero]) | (refine Mix.lex_part rfl rfl rfl rfl (fun hq => ?_) (fun hq => ?_) <;> (fail_if_success (guard_hyp hq :ₛ true = true)) <;> (fail_if_success (guard_hyp hq :ₛ false = false)) <;> first | (exfalso; cases hq; done) | (exfalso; simp only [decide_eq_true_eq, decide_eq_false_iff_not, beq_iff_eq, beq_eq_false_iff_ne, ne_eq, Int.not_lt, Int.not_le] at hq; omega) | simp only [Act.put, List.setIfInBounds_toArray, List.set_cons_succ, List.set_cons_zero]))); all_goals (refine Mix.lex_nil ?_)))
    go_ret
    obtain ⟨r', h1, h2⟩ := HU.out
    rw [HN2.out]
    exact ⟨rfl, r', h1, ξ2.h.any.trans h2 fun _ _ h => h⟩
  · have HN2 : Hid (o.two a b F = (o, f)) := by rw [Hid, HN.out, if_neg hf]
    have HE := Lib.hid (errV_pos hf)
    rw [errV_pos hf]
    clear HN hf
    go_wp2_with (first | ((first | refine Mix.wpList_guarded rfl ?_ | refine Mix.wp_still (by kernel_rfl) (by kernel_rfl) ?_); (repeat' (first | (refine Mix.lex_quiet0 rfl rfl rfl ?_; intro K hK; go_big_quiet_op; go_big_quiet_on) | (refine Mix.lex_quietG rfl rfl rfl (by with_reducible rfl) rfl rfl ?_; intro K hK; go_big_quiet_op; go_big_quiet_on) | ((first | refine Mix.lex_skipT rfl rfl rfl (by with_reducible rfl) ?_ | refine Mix.lex_skipF rfl rfl rfl (by with_reducible rfl) ?_ | refine Mix.lex_skipU rfl rfl rfl (by with_reducible rfl) ?_); simp only [Act.put, List.setIfInBounds_toArray, List.set_cons_succ, List.set_cons_zero]) | (refine Mix.lex_part rfl rfl rfl rfl (fun hq => ?_) (fun hq => ?_) <;> (fail_if_success (guard_hyp hq :ₛ true = true)) <;> (fail_if_success (guard_hyp hq :ₛ false = false)) <;> first | (exfalso; cases hq; done) | (exfalso; simp only [decide_eq_true_eq, decide_eq_false_iff_not, beq_iff_eq, beq_eq_false_iff_ne, ne_eq, Int.not_lt, Int.not_le] at hq; omega) | simp only [Act.put, List.setIfInBounds_toArray, List.set_cons_succ, List.set_cons_zero]))); all_goals (refine Mix.lex_nil ?_)))
    go_ret
    rw [HN2.out]
    exact OvRes.of_ext H.out (by rw [HE.out]; rfl) ξ1.h
theorem need_c {w : World} {g : Nat} {r : OvR} {o : Ov} (h : OvAt oP w g r o) (hs : o.Small) (a : Str) (ha : a.length ≤ maxLen) :
    Calls Tryz.prog 141 #[pt g, S a] w fun e w' => e = .returned (errV (o.need a)) ∧ Ext w w' := by
  have HR := Lib.hid (Read_ov h hs a ha)
  have HN : Hid (o.need a = if o.rdF a = 0 then (if o.rd a == [] then 7 else 0) else o.rdF a) := rfl
  generalize o.rdF a = f at HR HN
  generalize o.rd a = t at HR HN
  clear h hs
  go_enter Tryz.func141, Tryz.ntmps141
  go_wp2_with fail
  refine (HR.out).mono ?_; rintro e uu ⟨rfl, hu⟩; obtain ⟨ξ1, hnew⟩ : ∃ ξ : X w No, ξ.v = uu := ⟨⟨uu, (X.here w No).h.then_ext hu⟩, rfl⟩; subst hnew; have Hξ1 := Lib.hid hu; clear hu
  clear HR
  by_cases hf : f = 0
  · subst hf
    obtain ⟨e, he⟩ : ∃ e, (t == ([] : Str)) = e := ⟨_, rfl⟩
    rw [he] at HN
    rw [errV_zero]
    cases e <;>
    · go_wp2_with fail
      go_ret
      exact ⟨by rw [HN.out]; rfl, ξ1.h⟩
  · rw [errV_pos hf]
    have HE : Hid (errV (o.need a) = E f) := by rw [Hid, HN.out, if_neg hf, errV_pos hf]
    clear hf HN
    go_wp2_with fail
    go_ret
    exact ⟨by rw [HE.out]; rfl, ξ1.h⟩
theorem Ov.joinT_cons (o : Ov) (n : Str) (ns : List Str) (s : Str) : o.joinT (n :: ns) s = if o.rdF n = 0 then o.joinT ns (s ++ o.rd n) else ([], o.rdF n) := rfl
set_option maxRecDepth 100000 in
set_option maxHeartbeats 1000000 in
theorem join_c {w : World} {g : Nat} {r : OvR} {o : Ov} (h : OvAt oP w g r o) (hs : o.Small) (ht : o.Tx) (b : Str) (hb : b.length ≤ maxLen) {B : Option Addr} {m d : Nat} {ns : List Str} (hn : SlR strF w B m ns) (hm : m ≤ 10000) (hnl : ∀ x ∈ ns, x.length ≤ maxLen) :
    Calls Tryz.prog 140 #[pt g, S b, .slice B m d] w (OvRes oP w g (o.join b ns).1 (errV (o.join b ns).2)) := by
  have HN : Hid (o.join b ns = if (o.joinT ns []).2 = 0 then (o.wr b (o.joinT ns []).1, o.wrF b (o.joinT ns []).1) else (o, (o.joinT ns []).2)) := rfl
  have HRd := Lib.hid (fun v (hv : Ext w v) (a : Str) (ha : a.length ≤ maxLen) => Read_ov (h.ext hv) hs a ha)
  have HWr := Lib.hid (fun v (hv : Ext w v) (s : Str) (hl : s.length ≤ maxLen) => Write_ov (h.ext hv) hs b s hb hl)
  have hrl := Lib.hid (Ov.rd_len ht)
  have H := Lib.hid h
  have HNl := Lib.hid hnl
  clear h hs ht hb hnl
  go_enter Tryz.func140, Tryz.ntmps140
  go_wp2_with fail
  go_loopw [7, 14] (fun t i wr => ∃ j : Nat, j ≤ m ∧ i = .int .i64 j ∧ ∃ acc : Str, t = S acc ∧ acc.length ≤ 1000 * j ∧ o.joinT ns [] = o.joinT (ns.drop j) acc ∧ ∃ ξ : X w No, wr = ξ.v) (fun _ i _ => m - (intOf i).toNat)
  case atStart => exact ⟨0, Nat.zero_le _, rfl, [], rfl, Nat.le_refl _, rfl, X.here _ _, rfl⟩
  case round =>
    obtain ⟨j, hj, rfl, acc, rfl, hal, hJ, ξ, rfl⟩ := hrel
    have HJ := Lib.hid hJ
    clear hJ
    by_cases hlt : j < m
    · obtain ⟨b', o', x, rfl, hx, c0⟩ := strs_get hn hlt
      have hdr : Hid (ns.drop j = x :: ns.drop (j + 1)) := by
        obtain ⟨hl, rfl⟩ := List.getElem?_eq_some_iff.1 hx
        exact List.drop_eq_getElem_cons hl
      have HJ2 : Hid (o.joinT ns [] = if o.rdF x = 0 then o.joinT (ns.drop (j + 1)) (acc ++ o.rd x) else ([], o.rdF x)) := by rw [Hid, HJ.out, hdr.out, Ov.joinT_cons]
      have hxl := HNl.out x (List.mem_of_getElem? hx)
      have hxr := hrl.out x
      have HR := Lib.hid (HRd.out _ ξ.h x hxl)
      generalize o.rdF x = f at HR HJ2
      generalize o.rd x = t at HR HJ2 hxr
      clear hx hxl hdr HJ
      go_wp2_with fail
      refine (HR.out).mono ?_; rintro e uu ⟨rfl, hu⟩; obtain ⟨ξ1, hnew⟩ : ∃ ξ : X w No, ξ.v = uu := ⟨⟨uu, ξ.h.then_ext hu⟩, rfl⟩; subst hnew; have Hξ1 := Lib.hid hu; clear hu
      by_cases hf : f = 0
      · have HJ3 : Hid (o.joinT ns [] = o.joinT (ns.drop (j + 1)) (acc ++ t)) := by rw [Hid, HJ2.out, if_pos hf]
        subst hf
        rw [errV_zero]
        clear HJ2 HR
        go_wp2_with fail
        go_roundw
        case rel => exact ⟨j + 1, by omega, by go_num, acc ++ t, rfl, by rw [List.length_append]; omega, HJ3.out, ξ1, rfl⟩
        case measure => simp [intOf]; omega
      · have HN2 : Hid (o.join b ns = (o, f)) := by
          rw [Hid, HN.out, HJ2.out, if_neg hf]
          exact if_neg hf
        have HE := Lib.hid (errV_pos hf)
        rw [errV_pos hf]
        clear HN hf HJ2 HR
        go_wp2_with fail
        go_ret
        rw [HN2.out]
        exact OvRes.of_ext H.out (by rw [HE.out]; rfl) ξ1.h
    · have e1 : ns.drop j = [] := List.drop_eq_nil_of_le (by rw [hn.1]; omega)
      have HN2 : Hid (o.join b ns = (o.wr b acc, o.wrF b acc)) := by
        rw [Hid, HN.out, HJ.out, e1]
        rfl
      have HW := Lib.hid (HWr.out _ ξ.h acc (by unfold maxLen; omega))
      clear HN HJ e1
      go_wp2_with fail
      refine HW.out.mono ?_
      rintro e u ⟨rfl, hu⟩
      have HU := Lib.hid hu
      clear hu HW
      go_wp2_with fail
      go_ret
      obtain ⟨r', h1, h2⟩ := HU.out
      rw [HN2.out]
      exact ⟨rfl, r', h1, ξ.h.any.trans h2 fun _ _ h => h⟩
theorem count_le (c : UInt8) (s : Str) : Lib.count s [c] ≤ s.length := by
  have h1 := (splitK_byte c _ s (Nat.le_refl _)).2
  have h2 := splB_le c s
  omega
theorem sw_one (x y : UInt8) (s : Str) : sw [x] [y] s = s.map fun c => if c = x then y else c := by
  unfold sw
  refine List.map_congr_left fun c _ => ?_
  by_cases h : c = x
  · simp [h]
  · rw [if_neg h, if_neg (by simpa using h)]
theorem swap_c {w : World} (hm : Ml w) {p b o n c : Nat} {ws : List Str} (hp : Cs w p 27 #[.slice (some ⟨b, o, none⟩) n c]) (hw : SlR strF w (some ⟨b, o, none⟩) n ws) (hn : n = 5) {x y : UInt8} (h3 : ws[3]? = some [x]) (h4 : ws[4]? = some [y]) (s : Str) (hs : s.length ≤ 1000) :
    Calls Tryz.prog 138 #[S s, .pointer (some ⟨p, 0, none⟩)] w fun e w' => e = .returned (S (sw [x] [y] s)) ∧ Ext w w' := by
  have g3 : ∀ ξ : X w No, ξ.v.cell? ⟨b, o + 3, none⟩ = some (S [x]) := by
    obtain ⟨b', o', z, he, hz, hc⟩ := strs_get hw (k := 3) (by omega)
    injection he with he
    injection he with e1 e2
    subst e1; subst e2
    rw [h3] at hz
    injection hz with hz
    subst hz
    exact hc
  have g4 : ∀ ξ : X w No, ξ.v.cell? ⟨b, o + 4, none⟩ = some (S [y]) := by
    obtain ⟨b', o', z, he, hz, hc⟩ := strs_get hw (k := 4) (by omega)
    injection he with he
    injection he with e1 e2
    subst e1; subst e2
    rw [h4] at hz
    injection hz with hz
    subst hz
    exact hc
  have g0 : ∀ ξ : X w No, ξ.v.cell? ⟨p, 0, none⟩ = some (.slice (some ⟨b, o, none⟩) n c) := hp.x id 0
  have HR : Hid (∀ v, Ext w v → Calls Tryz.prog 139 #[S s, S [x], S [y]] v fun e w' => e = .returned (S (sw [x] [y] s)) ∧ Ext v w') := fun v hv => by
    obtain ⟨m, hm⟩ := hm.ext hv
    have hcl := count_le x s
    refine (Tryz.strings_ReplaceAll ⟨s.toArray⟩ ⟨#[x]⟩ ⟨#[y]⟩ m v (Nat.lt_of_le_of_lt hs (by omega)) hm (by show 1 ≤ 1; omega) ?_).mono ?_
    · have e1 : (⟨s.toArray⟩ : ByteArray).size = s.length := by simp [ByteArray.size]
      have e2 : Lib.countB ⟨s.toArray⟩ ⟨#[x]⟩ = Lib.count s [x] := rfl
      have e3 : (⟨#[y]⟩ : ByteArray).size = 1 := rfl
      rw [e1, e2, e3]
      omega
    · rintro e w' ⟨rfl, hx⟩
      refine ⟨?_, Only.below hx⟩
      rw [sw_one, ← replaceAll_byte]
  subst hn
  clear hp hw h3 h4 hm
  go_enter Tryz.func138, Tryz.ntmps138
  go_wp2_with fail
  refine Mix.wp_draw [7] 100 (Cl w No) (by kernel_rfl) (by kernel_rfl) (Cl.of (Only.refl _ _).drew) ?_
  obtain ⟨ξ0, hξ0⟩ : ∃ ξ0 : X w No, ξ0.v = w.drew := ⟨⟨_, (Only.refl _ _).drew⟩, rfl⟩
  rw [← hξ0]
  clear hξ0
  (repeat' (refine Mix.lex_quiet0 rfl rfl rfl ?_; intro K hK; go_big_quiet_op; go_big_quiet_on))
  ((first | refine Mix.lex_goes0 rfl rfl ?_ | refine Mix.lex_goesG rfl rfl rfl (by with_reducible rfl) rfl ?_); intro K hK; go_simp); refine (HR.out _ ξ0.h).mono ?_; rintro e uu ⟨rfl, hu⟩; obtain ⟨ξ1, hnew⟩ : ∃ ξ : X w No, ξ.v = uu := ⟨⟨uu, ξ0.h.then_ext hu⟩, rfl⟩; subst hnew; have Hξ1 := Lib.hid hu; refine ⟨_, rfl, hK _ _ (fun _ => ⟨ξ1, rfl⟩) ?_⟩; clear hK K hu; simp only [Act.put, List.setIfInBounds_toArray, List.set_cons_succ, List.set_cons_zero]; (repeat' (first | (refine Mix.lex_quiet0 rfl rfl rfl ?_; intro K hK; go_big_quiet_op; go_big_quiet_on) | (refine Mix.lex_quietG rfl rfl rfl (by with_reducible rfl) rfl rfl ?_; intro K hK; go_big_quiet_op; go_big_quiet_on) | ((first | refine Mix.lex_skipT rfl rfl rfl (by with_reducible rfl) ?_ | refine Mix.lex_skipF rfl rfl rfl (by with_reducible rfl) ?_ | refine Mix.lex_skipU rfl rfl rfl (by with_reducible rfl) ?_); simp only [Act.put, List.setIfInBounds_toArray, List.set_cons_succ, List.set_cons_zero]) | (refine Mix.lex_part rfl rfl rfl rfl (fun hq => ?_) (fun hq => ?_) <;> (fail_if_success (guard_hyp hq :ₛ true = true)) <;> (fail_if_success (guard_hyp hq :ₛ false = false)) <;> first | (exfalso; cases hq; done) | (exfalso; simp only [decide_eq_true_eq, decide_eq_false_iff_not, beq_iff_eq, beq_eq_false_iff_ne, ne_eq, Int.not_lt, Int.not_le] at hq; omega) | simp only [Act.put, List.setIfInBounds_toArray, List.set_cons_succ, List.set_cons_zero])))
  refine Mix.lex_nil ?_
  go_wp2_with fail
  go_ret
  exact ⟨rfl, ξ1.h⟩
end Go.Proofs.YtnhaekifcieeoaaGreatDoor
