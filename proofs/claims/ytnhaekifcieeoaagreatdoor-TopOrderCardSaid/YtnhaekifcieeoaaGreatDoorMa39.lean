/- Put together: Ton. -/
import Derived.Test.YtnhaekifcieeoaaGreatDoorMa34
import Derived.Test.YtnhaekifcieeoaaGreatDoorMa37
import Derived.Test.YtnhaekifcieeoaaGreatDoorMa38
import Derived.Test.YtnhaekifcieeoaaGreatDoorMa08
/- TopOrder: each group comes behind those that it needs. -/
namespace Go.Proofs.YtnhaekifcieeoaaGreatDoor
open Go Go.RowKit
theorem ord_need {m : Mk} {l : List File} {out : List Grp} (h : GOk m l out) {i : Nat} {g : Grp} {n : Str} (hi : out[i]? = some g) (hn : n ∈ g.needs) : (∃ k, k < i ∧ makerF out n = some k) ∨ (makerF out n = none ∧ isF l n = true) := by
  rcases h.tp i g hi n hn with ⟨k, q, h1, h2, h3⟩ | ⟨h1, h2⟩
  · exact .inl ⟨k, h1, makerF_at h.ds h2 h3⟩
  · refine .inr ⟨?_, h2⟩
    cases hm : makerF out n with
    | none => rfl
    | some k =>
      exfalso
      obtain ⟨q, hq, hq2⟩ := makerF_some hm
      obtain ⟨n0, hr⟩ := h.rl q (List.mem_of_getElem? hq)
      rcases ruleF_some hr with ⟨r, hr2, rfl⟩ | ⟨_, r, _, hs, rfl, _⟩
      · rw [groupF_tgt] at hq2
        unfold ruleF at h1
        split at h1
        · cases h1
        · rename_i he
          exact explF_none he r (explF_some hr2).1 hq2
      · have hq2 : n ∈ tgtOf r n0 _ := hq2
        unfold tgtOf at hq2
        rw [if_neg (stemL_ne hs), List.mem_singleton] at hq2
        subst hq2
        rw [hr] at h1
        cases h1
theorem groupsF_err {m : Mk} {l : List File} {goal : Str} (h : (groupsF m l goal).2 ≠ 0) : (groupsF m l goal).1 = [] := by
  unfold groupsF at h ⊢
  split
  · rfl
  · split
    · rfl
    · rename_i h1 h2
      rw [if_neg h1, if_neg h2] at h
      exact absurd rfl h
theorem parse_short {s : Str} (h : (parseF s).2 = 0) : s.length ≤ 600 ∧ chkF (parseF s).1 = 0 := by
  unfold parseF at h ⊢
  by_cases h1 : 600 < s.length
  · rw [if_pos h1] at h
    cases h
  · refine ⟨by omega, ?_⟩
    rw [if_neg h1] at h ⊢
    by_cases h2 : (foldF (splB 10 s) mk0).2 ≠ 0
    · rw [if_pos h2] at h
      exact absurd h h2
    · rw [if_neg h2] at h ⊢
      by_cases h3 : chkF (foldF (splB 10 s) mk0).1 = 0
      · rw [if_pos h3] at h ⊢
        exact h3
      · rw [if_neg h3] at h
        exact absurd h h3
abbrev madeT : Str := [98, 32, 58, 32, 97, 10, 9, 99, 111, 112, 121, 32, 97, 32, 98, 10]
abbrev madeC : Str := [99, 111, 112, 121, 32, 97, 32, 98]
abbrev madeM : Mk := ⟨[], [⟨[[98]], [[97]], [madeC]⟩], []⟩
abbrev madeG : Grp := ⟨[[98]], [[97]], [madeC], false⟩
theorem made_parse : parseF madeT = (madeM, 0) := by decide +kernel
abbrev madeL : List File := [([97], [])]
theorem made_grps : groupsF madeM madeL [98] = ([madeG], 0) := by decide +kernel
theorem made_bd : GBd madeM madeL ∧ (nameB [98] = true → ∀ x ∈ candF madeM madeL [98], x.length ≤ 200) ∧ (candF madeM madeL [98]).length < 100 := by
  refine ⟨⟨by decide, by decide, by decide, by decide, ?_⟩, ?_, ?_⟩
  · exact List.pairwise_singleton _ _
  · intro _ x hx
    simp [candF, ndsOf] at hx
    rcases hx with rfl | rfl | rfl | rfl <;> decide
  · simp [candF, ndsOf]
set_option maxRecDepth 100000 in
set_option maxHeartbeats 4000000 in
theorem made_c {w : World} (hm : Ml w) : Calls Tryz.prog 17 #[] w fun e w' => e = .returned (.bool true) ∧ Ext w w' := by
  have H0 : Calls Tryz.prog 18 #[S madeT] w (PrsRes w (madeM, 0)) := by
    have := MkParse_c hm madeT (by decide)
    rwa [made_parse] at this
  have HM := Lib.hid hm
  clear hm
  go_enter Tryz.func17, Tryz.ntmps17
  go_wp2_with (first | ((first | refine Mix.wpList_guarded rfl ?_ | refine Mix.wp_still (by kernel_rfl) (by kernel_rfl) ?_); (repeat' (first | (refine Mix.lex_quiet0 rfl rfl rfl ?_; intro K hK; go_big_quiet_op; go_big_quiet_on) | (refine Mix.lex_quietG rfl rfl rfl (by with_reducible rfl) rfl rfl ?_; intro K hK; go_big_quiet_op; go_big_quiet_on) | ((first | refine Mix.lex_skipT rfl rfl rfl (by with_reducible rfl) ?_ | refine Mix.lex_skipF rfl rfl rfl (by with_reducible rfl) ?_ | refine Mix.lex_skipU rfl rfl rfl (by with_reducible rfl) ?_); simp only [Act.put, List.setIfInBounds_toArray, List.set_cons_succ, List.set_cons_zero]) | (refine Mix.lex_part rfl rfl rfl rfl (fun hq => ?_) (fun hq => ?_) <;> (fail_if_success (guard_hyp hq :ₛ true = true)) <;> (fail_if_success (guard_hyp hq :ₛ false = false)) <;> first | (exfalso; cases hq; done) | (exfalso; simp only [decide_eq_true_eq, decide_eq_false_iff_not, beq_iff_eq, beq_eq_false_iff_ne, ne_eq, Int.not_lt, Int.not_le] at hq; omega) | simp only [Act.put, List.setIfInBounds_toArray, List.set_cons_succ, List.set_cons_zero]))); all_goals (refine Mix.lex_nil ?_)))
  refine H0.mono ?_
  rintro e u1 ⟨v, rs, rfl, hR, hu⟩
  have M1 : MakeR u1 v rs madeM := hR No u1 (fun b hb => hb.elim) (Only.refl _ _)
  obtain ⟨g7, hg7⟩ : ∃ g, g = u1.heap.size := ⟨_, rfl⟩
  obtain ⟨w1, hw1⟩ : ∃ u, u = u1.alloc (.cells #[.slice v.vA 0 v.vc, .slice v.rA 1 v.rc, .slice v.pA 0 v.pc] makeT) := ⟨_, rfl⟩
  have x1 : Ext u1 w1 := by rw [hw1]; exact (Only.refl No u1).alloc _
  have C1 : Cs w1 g7 makeT #[.slice v.vA 0 v.vc, .slice v.rA 1 v.rc, .slice v.pA 0 v.pc] := by rw [hw1, hg7]; exact Cs.new _ _ _
  have X1 : Hid (Ext w w1) := hu.then_ext x1
  have M2 := Lib.hid (M1.ext x1)
  have k0 : w1.cell? ⟨g7, 0, none⟩ = some (.slice v.vA 0 v.vc) := C1.cell 0
  have k1 : w1.cell? ⟨g7, 1, none⟩ = some (.slice v.rA 1 v.rc) := C1.cell 1
  have k2 : w1.cell? ⟨g7, 2, none⟩ = some (.slice v.pA 0 v.pc) := C1.cell 2
  clear x1 C1 M1 hu hR H0
  go_upto_region 2 with fail
  rw [← hw1, ← hg7]
  clear hw1 hg7
  rw [errV_zero]
  have hmd := made_bd
  go_wp2_with (first | ((first | refine Mix.wpList_guarded rfl ?_ | refine Mix.wp_still (by kernel_rfl) (by kernel_rfl) ?_); (repeat' (first | (refine Mix.lex_quiet0 rfl rfl rfl ?_; intro K hK; go_big_quiet_op; go_big_quiet_on) | (refine Mix.lex_quietG rfl rfl rfl (by with_reducible rfl) rfl rfl ?_; intro K hK; go_big_quiet_op; go_big_quiet_on) | ((first | refine Mix.lex_skipT rfl rfl rfl (by with_reducible rfl) ?_ | refine Mix.lex_skipF rfl rfl rfl (by with_reducible rfl) ?_ | refine Mix.lex_skipU rfl rfl rfl (by with_reducible rfl) ?_); simp only [Act.put, List.setIfInBounds_toArray, List.set_cons_succ, List.set_cons_zero]) | (refine Mix.lex_part rfl rfl rfl rfl (fun hq => ?_) (fun hq => ?_) <;> (fail_if_success (guard_hyp hq :ₛ true = true)) <;> (fail_if_success (guard_hyp hq :ₛ false = false)) <;> first | (exfalso; cases hq; done) | (exfalso; simp only [decide_eq_true_eq, decide_eq_false_iff_not, beq_iff_eq, beq_eq_false_iff_ne, ne_eq, Int.not_lt, Int.not_le] at hq; omega) | simp only [Act.put, List.setIfInBounds_toArray, List.set_cons_succ, List.set_cons_zero]))); all_goals (refine Mix.lex_nil ?_)))
  have x2 : Ext w1 (w1.alloc (.cells #[S [97], S []] 75)) := (Only.refl No w1).alloc _
  refine (Of_c (lc := 1) ((HM.out.ext X1.out).ext x2) (M2.out.ext x2) (show SlR fileF _ _ madeL.length madeL from SlR.one fileF w1 _ (([97], []) : File) rfl) hmd.1 [98] (by decide) hmd.2.1 hmd.2.2).mono ?_
  rw [made_grps]
  rintro e u4 ⟨A, c, os, rfl, hG, hu⟩
  have X4 : Hid (Ext w u4) := (X1.out.then_ext x2).then_ext hu
  clear hG hu x2 k0 k1 k2 hmd
  rw [errV_zero]
  go_wp2_with (first | ((first | refine Mix.wpList_guarded rfl ?_ | refine Mix.wp_still (by kernel_rfl) (by kernel_rfl) ?_); (repeat' (first | (refine Mix.lex_quiet0 rfl rfl rfl ?_; intro K hK; go_big_quiet_op; go_big_quiet_on) | (refine Mix.lex_quietG rfl rfl rfl (by with_reducible rfl) rfl rfl ?_; intro K hK; go_big_quiet_op; go_big_quiet_on) | ((first | refine Mix.lex_skipT rfl rfl rfl (by with_reducible rfl) ?_ | refine Mix.lex_skipF rfl rfl rfl (by with_reducible rfl) ?_ | refine Mix.lex_skipU rfl rfl rfl (by with_reducible rfl) ?_); simp only [Act.put, List.setIfInBounds_toArray, List.set_cons_succ, List.set_cons_zero]) | (refine Mix.lex_part rfl rfl rfl rfl (fun hq => ?_) (fun hq => ?_) <;> (fail_if_success (guard_hyp hq :ₛ true = true)) <;> (fail_if_success (guard_hyp hq :ₛ false = false)) <;> first | (exfalso; cases hq; done) | (exfalso; simp only [decide_eq_true_eq, decide_eq_false_iff_not, beq_iff_eq, beq_eq_false_iff_ne, ne_eq, Int.not_lt, Int.not_le] at hq; omega) | simp only [Act.put, List.setIfInBounds_toArray, List.set_cons_succ, List.set_cons_zero]))); all_goals (refine Mix.lex_nil ?_)))
  go_ret
  exact ⟨rfl, X4.out⟩
set_option maxRecDepth 100000 in
set_option maxHeartbeats 8000000 in
theorem TopOrder_all {w : World} (hm : Ml w) (s : Str) (hs : s.length ≤ maxLen) {A : Option Addr} {n c : Nat} {xs : List File} (h : SlR fileF w A n xs) (hn0 : n ≤ maxLen) (goal : Str) (hgl : goal.length ≤ maxLen) :
    Calls Tryz.prog 4 #[S s, .slice A n c, S goal] w fun e w' => e = .returned (.bool true) ∧ Ext w w' := by
  have HM := Lib.hid hm
  have HS := Lib.hid h
  have hln := h.1
  have H0 := Lib.hid (made_c hm)
  have hml : maxLen = 9223372036854775807 := rfl
  have hs : s.length ≤ 9223372036854775807 := hs
  have hgl : goal.length ≤ 9223372036854775807 := hgl
  have HP : Hid (∀ u, Ext w u → Calls Tryz.prog 18 #[S s] u (PrsRes u (parseF s))) := fun u hu => MkParse_any (HM.out.ext hu) s hs
  obtain ⟨R, hR⟩ : ∃ R, R = parseF s := ⟨_, rfl⟩
  rw [← hR] at HP
  have HR := Lib.hid hR
  obtain ⟨m, f⟩ := R
  have HL : Hid (∀ v, Ext w v → Calls Tryz.prog 9 #[.slice A n c] v fun e w' => e = .returned (.bool (lightF xs)) ∧ Ext v w') := fun v hv => LightFiles_c (HS.out.ext hv) hn0
  obtain ⟨bl, hbl⟩ : ∃ bl, bl = lightF xs := ⟨_, rfl⟩
  rw [← hbl] at HL
  have HBL := Lib.hid hbl
  clear hm h hR hbl hml
  go_enter Tryz.func4, Tryz.ntmps4
  go_wp2_with (first | ((first | refine Mix.wpList_guarded rfl ?_ | refine Mix.wp_still (by kernel_rfl) (by kernel_rfl) ?_); (repeat' (first | (refine Mix.lex_quiet0 rfl rfl rfl ?_; intro K hK; go_big_quiet_op; go_big_quiet_on) | (refine Mix.lex_quietG rfl rfl rfl (by with_reducible rfl) rfl rfl ?_; intro K hK; go_big_quiet_op; go_big_quiet_on) | ((first | refine Mix.lex_skipT rfl rfl rfl (by with_reducible rfl) ?_ | refine Mix.lex_skipF rfl rfl rfl (by with_reducible rfl) ?_ | refine Mix.lex_skipU rfl rfl rfl (by with_reducible rfl) ?_); simp only [Act.put, List.setIfInBounds_toArray, List.set_cons_succ, List.set_cons_zero]) | (refine Mix.lex_part rfl rfl rfl rfl (fun hq => ?_) (fun hq => ?_) <;> (fail_if_success (guard_hyp hq :ₛ true = true)) <;> (fail_if_success (guard_hyp hq :ₛ false = false)) <;> first | (exfalso; cases hq; done) | (exfalso; simp only [decide_eq_true_eq, decide_eq_false_iff_not, beq_iff_eq, beq_eq_false_iff_ne, ne_eq, Int.not_lt, Int.not_le] at hq; omega) | simp only [Act.put, List.setIfInBounds_toArray, List.set_cons_succ, List.set_cons_zero]))); all_goals (refine Mix.lex_nil ?_)))
  refine H0.out.mono ?_
  rintro e u0 ⟨rfl, hu⟩
  have U0 := Lib.hid hu
  clear hu H0
  go_wp2_with (first | ((first | refine Mix.wpList_guarded rfl ?_ | refine Mix.wp_still (by kernel_rfl) (by kernel_rfl) ?_); (repeat' (first | (refine Mix.lex_quiet0 rfl rfl rfl ?_; intro K hK; go_big_quiet_op; go_big_quiet_on) | (refine Mix.lex_quietG rfl rfl rfl (by with_reducible rfl) rfl rfl ?_; intro K hK; go_big_quiet_op; go_big_quiet_on) | ((first | refine Mix.lex_skipT rfl rfl rfl (by with_reducible rfl) ?_ | refine Mix.lex_skipF rfl rfl rfl (by with_reducible rfl) ?_ | refine Mix.lex_skipU rfl rfl rfl (by with_reducible rfl) ?_); simp only [Act.put, List.setIfInBounds_toArray, List.set_cons_succ, List.set_cons_zero]) | (refine Mix.lex_part rfl rfl rfl rfl (fun hq => ?_) (fun hq => ?_) <;> (fail_if_success (guard_hyp hq :ₛ true = true)) <;> (fail_if_success (guard_hyp hq :ₛ false = false)) <;> first | (exfalso; cases hq; done) | (exfalso; simp only [decide_eq_true_eq, decide_eq_false_iff_not, beq_iff_eq, beq_eq_false_iff_ne, ne_eq, Int.not_lt, Int.not_le] at hq; omega) | simp only [Act.put, List.setIfInBounds_toArray, List.set_cons_succ, List.set_cons_zero]))); all_goals (refine Mix.lex_nil ?_)))
  refine (HP.out u0 U0.out).mono ?_
  rintro e u1 ⟨v, rs, rfl, hM, hu⟩
  have hM1 : MakeR u1 v rs m := hM No u1 (fun b hb => hb.elim) (Only.refl _ _)
  obtain ⟨g8, hg8⟩ : ∃ g, g = u1.heap.size := ⟨_, rfl⟩
  obtain ⟨w1, hw1⟩ : ∃ u, u = u1.alloc (.cells #[.slice v.vA m.vars.length v.vc, .slice v.rA m.rules.length v.rc, .slice v.pA m.phony.length v.pc] makeT) := ⟨_, rfl⟩
  have x1 : Ext u1 w1 := by rw [hw1]; exact (Only.refl No u1).alloc _
  have C1 : Hid (Cs w1 g8 makeT #[.slice v.vA m.vars.length v.vc, .slice v.rA m.rules.length v.rc, .slice v.pA m.phony.length v.pc]) := by rw [hw1, hg8]; exact Cs.new _ _ _
  have X1 : Hid (Ext w w1) := (U0.out.then_ext hu).then_ext x1
  have M1 := Lib.hid (hM1.ext x1)
  clear HP hM hu hM1 U0 x1
  go_upto_region 5 with fail
  rw [← hw1, ← hg8]
  clear hw1 hg8
  by_cases hf : f = 0
  · subst hf
    obtain ⟨hs6, hck⟩ := parse_short (s := s) (by rw [← HR.out])
    have HCk : Hid (chkF m = 0) := by rw [← HR.out] at hck; exact hck
    clear hck
    have t8 : decide ((800 : Int) < (s.length : Int)) = false := by rw [decide_eq_false_iff_not]; omega
    rw [errV_zero]
    cases bl with
    | false =>
      refine Mix.wp_plain [9] (Cl w1 No) (Cl.of (Only.refl _ _)) ?_
      (repeat' (first | (refine Mix.lex_quiet0 rfl rfl rfl ?_; intro K hK; go_big_quiet_op; go_big_quiet_on) | (refine Mix.lex_quietG rfl rfl rfl (by with_reducible rfl) rfl rfl ?_; intro K hK; go_big_quiet_op; go_big_quiet_on) | ((first | refine Mix.lex_skipT rfl rfl rfl (by with_reducible rfl) ?_ | refine Mix.lex_skipF rfl rfl rfl (by with_reducible rfl) ?_ | refine Mix.lex_skipU rfl rfl rfl (by with_reducible rfl) ?_); simp only [Act.put, List.setIfInBounds_toArray, List.set_cons_succ, List.set_cons_zero]) | (refine Mix.lex_part rfl rfl rfl rfl (fun hq => ?_) (fun hq => ?_) <;> (fail_if_success (guard_hyp hq :ₛ true = true)) <;> (fail_if_success (guard_hyp hq :ₛ false = false)) <;> first | (exfalso; cases hq; done) | (exfalso; simp only [decide_eq_true_eq, decide_eq_false_iff_not, beq_iff_eq, beq_eq_false_iff_ne, ne_eq, Int.not_lt, Int.not_le] at hq; omega) | simp only [Act.put, List.setIfInBounds_toArray, List.set_cons_succ, List.set_cons_zero])))
      ((first | refine Mix.lex_goes0 rfl rfl ?_ | refine Mix.lex_goesG rfl rfl rfl (by with_reducible rfl) rfl ?_); intro K hK; go_simp)
      refine (HL.out w1 X1.out).mono ?_
      rintro e u2 ⟨rfl, hx2⟩
      have X2 := Lib.hid hx2
      refine ⟨_, rfl, hK _ _ (fun _ => Cl.of X2.out) ?_⟩
      clear hK K hx2
      simp only [Act.put, List.setIfInBounds_toArray, List.set_cons_succ, List.set_cons_zero]
      (repeat' (first | (refine Mix.lex_quiet0 rfl rfl rfl ?_; intro K hK; go_big_quiet_op; go_big_quiet_on) | (refine Mix.lex_quietG rfl rfl rfl (by with_reducible rfl) rfl rfl ?_; intro K hK; go_big_quiet_op; go_big_quiet_on) | ((first | refine Mix.lex_skipT rfl rfl rfl (by with_reducible rfl) ?_ | refine Mix.lex_skipF rfl rfl rfl (by with_reducible rfl) ?_ | refine Mix.lex_skipU rfl rfl rfl (by with_reducible rfl) ?_); simp only [Act.put, List.setIfInBounds_toArray, List.set_cons_succ, List.set_cons_zero]) | (refine Mix.lex_part rfl rfl rfl rfl (fun hq => ?_) (fun hq => ?_) <;> (fail_if_success (guard_hyp hq :ₛ true = true)) <;> (fail_if_success (guard_hyp hq :ₛ false = false)) <;> first | (exfalso; cases hq; done) | (exfalso; simp only [decide_eq_true_eq, decide_eq_false_iff_not, beq_iff_eq, beq_eq_false_iff_ne, ne_eq, Int.not_lt, Int.not_le] at hq; omega) | simp only [Act.put, List.setIfInBounds_toArray, List.set_cons_succ, List.set_cons_zero])))
      refine Mix.lex_nil ?_
      go_wp2_with (first | ((first | refine Mix.wpList_guarded rfl ?_ | refine Mix.wp_still (by kernel_rfl) (by kernel_rfl) ?_); (repeat' (first | (refine Mix.lex_quiet0 rfl rfl rfl ?_; intro K hK; go_big_quiet_op; go_big_quiet_on) | (refine Mix.lex_quietG rfl rfl rfl (by with_reducible rfl) rfl rfl ?_; intro K hK; go_big_quiet_op; go_big_quiet_on) | ((first | refine Mix.lex_skipT rfl rfl rfl (by with_reducible rfl) ?_ | refine Mix.lex_skipF rfl rfl rfl (by with_reducible rfl) ?_ | refine Mix.lex_skipU rfl rfl rfl (by with_reducible rfl) ?_); simp only [Act.put, List.setIfInBounds_toArray, List.set_cons_succ, List.set_cons_zero]) | (refine Mix.lex_part rfl rfl rfl rfl (fun hq => ?_) (fun hq => ?_) <;> (fail_if_success (guard_hyp hq :ₛ true = true)) <;> (fail_if_success (guard_hyp hq :ₛ false = false)) <;> first | (exfalso; cases hq; done) | (exfalso; simp only [decide_eq_true_eq, decide_eq_false_iff_not, beq_iff_eq, beq_eq_false_iff_ne, ne_eq, Int.not_lt, Int.not_le] at hq; omega) | simp only [Act.put, List.setIfInBounds_toArray, List.set_cons_succ, List.set_cons_zero]))); all_goals (refine Mix.lex_nil ?_)))
      go_ret
      exact ⟨rfl, X1.out.then_ext X2.out⟩
    | true =>
      by_cases hg20 : 20 < goal.length
      · have t20 : decide ((20 : Int) < (goal.length : Int)) = true := by rw [decide_eq_true_iff]; omega
        refine Mix.wp_plain [9] (Cl w1 No) (Cl.of (Only.refl _ _)) ?_
        (repeat' (first | (refine Mix.lex_quiet0 rfl rfl rfl ?_; intro K hK; go_big_quiet_op; go_big_quiet_on) | (refine Mix.lex_quietG rfl rfl rfl (by with_reducible rfl) rfl rfl ?_; intro K hK; go_big_quiet_op; go_big_quiet_on) | ((first | refine Mix.lex_skipT rfl rfl rfl (by with_reducible rfl) ?_ | refine Mix.lex_skipF rfl rfl rfl (by with_reducible rfl) ?_ | refine Mix.lex_skipU rfl rfl rfl (by with_reducible rfl) ?_); simp only [Act.put, List.setIfInBounds_toArray, List.set_cons_succ, List.set_cons_zero]) | (refine Mix.lex_part rfl rfl rfl rfl (fun hq => ?_) (fun hq => ?_) <;> (fail_if_success (guard_hyp hq :ₛ true = true)) <;> (fail_if_success (guard_hyp hq :ₛ false = false)) <;> first | (exfalso; cases hq; done) | (exfalso; simp only [decide_eq_true_eq, decide_eq_false_iff_not, beq_iff_eq, beq_eq_false_iff_ne, ne_eq, Int.not_lt, Int.not_le] at hq; omega) | simp only [Act.put, List.setIfInBounds_toArray, List.set_cons_succ, List.set_cons_zero])))
        ((first | refine Mix.lex_goes0 rfl rfl ?_ | refine Mix.lex_goesG rfl rfl rfl (by with_reducible rfl) rfl ?_); intro K hK; go_simp)
        refine (HL.out w1 X1.out).mono ?_
        rintro e u2 ⟨rfl, hx2⟩
        have X2 := Lib.hid hx2
        refine ⟨_, rfl, hK _ _ (fun _ => Cl.of X2.out) ?_⟩
        clear hK K hx2
        simp only [Act.put, List.setIfInBounds_toArray, List.set_cons_succ, List.set_cons_zero]
        (repeat' (first | (refine Mix.lex_quiet0 rfl rfl rfl ?_; intro K hK; go_big_quiet_op; go_big_quiet_on) | (refine Mix.lex_quietG rfl rfl rfl (by with_reducible rfl) rfl rfl ?_; intro K hK; go_big_quiet_op; go_big_quiet_on) | ((first | refine Mix.lex_skipT rfl rfl rfl (by with_reducible rfl) ?_ | refine Mix.lex_skipF rfl rfl rfl (by with_reducible rfl) ?_ | refine Mix.lex_skipU rfl rfl rfl (by with_reducible rfl) ?_); simp only [Act.put, List.setIfInBounds_toArray, List.set_cons_succ, List.set_cons_zero]) | (refine Mix.lex_part rfl rfl rfl rfl (fun hq => ?_) (fun hq => ?_) <;> (fail_if_success (guard_hyp hq :ₛ true = true)) <;> (fail_if_success (guard_hyp hq :ₛ false = false)) <;> first | (exfalso; cases hq; done) | (exfalso; simp only [decide_eq_true_eq, decide_eq_false_iff_not, beq_iff_eq, beq_eq_false_iff_ne, ne_eq, Int.not_lt, Int.not_le] at hq; omega) | simp only [Act.put, List.setIfInBounds_toArray, List.set_cons_succ, List.set_cons_zero])))
        refine Mix.lex_nil ?_
        go_wp2_with (first | ((first | refine Mix.wpList_guarded rfl ?_ | refine Mix.wp_still (by kernel_rfl) (by kernel_rfl) ?_); (repeat' (first | (refine Mix.lex_quiet0 rfl rfl rfl ?_; intro K hK; go_big_quiet_op; go_big_quiet_on) | (refine Mix.lex_quietG rfl rfl rfl (by with_reducible rfl) rfl rfl ?_; intro K hK; go_big_quiet_op; go_big_quiet_on) | ((first | refine Mix.lex_skipT rfl rfl rfl (by with_reducible rfl) ?_ | refine Mix.lex_skipF rfl rfl rfl (by with_reducible rfl) ?_ | refine Mix.lex_skipU rfl rfl rfl (by with_reducible rfl) ?_); simp only [Act.put, List.setIfInBounds_toArray, List.set_cons_succ, List.set_cons_zero]) | (refine Mix.lex_part rfl rfl rfl rfl (fun hq => ?_) (fun hq => ?_) <;> (fail_if_success (guard_hyp hq :ₛ true = true)) <;> (fail_if_success (guard_hyp hq :ₛ false = false)) <;> first | (exfalso; cases hq; done) | (exfalso; simp only [decide_eq_true_eq, decide_eq_false_iff_not, beq_iff_eq, beq_eq_false_iff_ne, ne_eq, Int.not_lt, Int.not_le] at hq; omega) | simp only [Act.put, List.setIfInBounds_toArray, List.set_cons_succ, List.set_cons_zero]))); all_goals (refine Mix.lex_nil ?_)))
        go_ret
        exact ⟨rfl, X1.out.then_ext X2.out⟩
      have t20 : decide ((20 : Int) < (goal.length : Int)) = false := by rw [decide_eq_false_iff_not]; omega
      refine Mix.wp_plain [9] (Cl w1 No) (Cl.of (Only.refl _ _)) ?_
      (repeat' (first | (refine Mix.lex_quiet0 rfl rfl rfl ?_; intro K hK; go_big_quiet_op; go_big_quiet_on) | (refine Mix.lex_quietG rfl rfl rfl (by with_reducible rfl) rfl rfl ?_; intro K hK; go_big_quiet_op; go_big_quiet_on) | ((first | refine Mix.lex_skipT rfl rfl rfl (by with_reducible rfl) ?_ | refine Mix.lex_skipF rfl rfl rfl (by with_reducible rfl) ?_ | refine Mix.lex_skipU rfl rfl rfl (by with_reducible rfl) ?_); simp only [Act.put, List.setIfInBounds_toArray, List.set_cons_succ, List.set_cons_zero]) | (refine Mix.lex_part rfl rfl rfl rfl (fun hq => ?_) (fun hq => ?_) <;> (fail_if_success (guard_hyp hq :ₛ true = true)) <;> (fail_if_success (guard_hyp hq :ₛ false = false)) <;> first | (exfalso; cases hq; done) | (exfalso; simp only [decide_eq_true_eq, decide_eq_false_iff_not, beq_iff_eq, beq_eq_false_iff_ne, ne_eq, Int.not_lt, Int.not_le] at hq; omega) | simp only [Act.put, List.setIfInBounds_toArray, List.set_cons_succ, List.set_cons_zero])))
      ((first | refine Mix.lex_goes0 rfl rfl ?_ | refine Mix.lex_goesG rfl rfl rfl (by with_reducible rfl) rfl ?_); intro K hK; go_simp)
      refine (HL.out w1 X1.out).mono ?_
      rintro e u2 ⟨rfl, hx2⟩
      have X2 := Lib.hid hx2
      refine ⟨_, rfl, hK _ _ (fun _ => Cl.of X2.out) ?_⟩
      clear hK K hx2
      simp only [Act.put, List.setIfInBounds_toArray, List.set_cons_succ, List.set_cons_zero]
      (repeat' (first | (refine Mix.lex_quiet0 rfl rfl rfl ?_; intro K hK; go_big_quiet_op; go_big_quiet_on) | (refine Mix.lex_quietG rfl rfl rfl (by with_reducible rfl) rfl rfl ?_; intro K hK; go_big_quiet_op; go_big_quiet_on) | ((first | refine Mix.lex_skipT rfl rfl rfl (by with_reducible rfl) ?_ | refine Mix.lex_skipF rfl rfl rfl (by with_reducible rfl) ?_ | refine Mix.lex_skipU rfl rfl rfl (by with_reducible rfl) ?_); simp only [Act.put, List.setIfInBounds_toArray, List.set_cons_succ, List.set_cons_zero]) | (refine Mix.lex_part rfl rfl rfl rfl (fun hq => ?_) (fun hq => ?_) <;> (fail_if_success (guard_hyp hq :ₛ true = true)) <;> (fail_if_success (guard_hyp hq :ₛ false = false)) <;> first | (exfalso; cases hq; done) | (exfalso; simp only [decide_eq_true_eq, decide_eq_false_iff_not, beq_iff_eq, beq_eq_false_iff_ne, ne_eq, Int.not_lt, Int.not_le] at hq; omega) | simp only [Act.put, List.setIfInBounds_toArray, List.set_cons_succ, List.set_cons_zero])))
      refine Mix.lex_nil ?_
      have C2 := C1.out.keep X2.out id
      have k0 : u2.cell? ⟨g8, 0, none⟩ = some (.slice v.vA m.vars.length v.vc) := C2.cell 0
      have k1 : u2.cell? ⟨g8, 1, none⟩ = some (.slice v.rA m.rules.length v.rc) := C2.cell 1
      have k2 : u2.cell? ⟨g8, 2, none⟩ = some (.slice v.pA m.phony.length v.pc) := C2.cell 2
      have X3 := Lib.hid (X1.out.then_ext X2.out)
      have hmR : m = (parseF s).1 := by rw [← HR.out]
      have HOf : Hid (Calls Tryz.prog 11 #[mkV v m, .slice A n c, S goal] u2 (OfsRes u2 (groupsF m xs goal))) := by
        have hl := HBL.out.symm
        have h1 := Of_c (lc := c) (HM.out.ext X3.out) (M1.out.ext X2.out) (hln ▸ HS.out.ext X3.out) (hmR ▸ gbd hl) goal (by omega) (fun _ => hmR ▸ cand_len hl (by omega)) (hmR ▸ cand_few hl goal)
        rw [hln] at h1
        exact h1
      have hok := fun h => groupsF_ok (m := m) (l := xs) (chk_uniq HCk.out).1 (goal := goal) h
      have her := groupsF_err (m := m) (l := xs) (goal := goal)
      generalize groupsF m xs goal = R at HOf hok her
      obtain ⟨gs, code⟩ := R
      have HOk := Lib.hid hok
      have HEr := Lib.hid her
      clear hok her C2 hmR
      go_wp2_with (first | ((first | refine Mix.wpList_guarded rfl ?_ | refine Mix.wp_still (by kernel_rfl) (by kernel_rfl) ?_); (repeat' (first | (refine Mix.lex_quiet0 rfl rfl rfl ?_; intro K hK; go_big_quiet_op; go_big_quiet_on) | (refine Mix.lex_quietG rfl rfl rfl (by with_reducible rfl) rfl rfl ?_; intro K hK; go_big_quiet_op; go_big_quiet_on) | ((first | refine Mix.lex_skipT rfl rfl rfl (by with_reducible rfl) ?_ | refine Mix.lex_skipF rfl rfl rfl (by with_reducible rfl) ?_ | refine Mix.lex_skipU rfl rfl rfl (by with_reducible rfl) ?_); simp only [Act.put, List.setIfInBounds_toArray, List.set_cons_succ, List.set_cons_zero]) | (refine Mix.lex_part rfl rfl rfl rfl (fun hq => ?_) (fun hq => ?_) <;> (fail_if_success (guard_hyp hq :ₛ true = true)) <;> (fail_if_success (guard_hyp hq :ₛ false = false)) <;> first | (exfalso; cases hq; done) | (exfalso; simp only [decide_eq_true_eq, decide_eq_false_iff_not, beq_iff_eq, beq_eq_false_iff_ne, ne_eq, Int.not_lt, Int.not_le] at hq; omega) | simp only [Act.put, List.setIfInBounds_toArray, List.set_cons_succ, List.set_cons_zero]))); all_goals (refine Mix.lex_nil ?_)))
      refine HOf.out.mono ?_
      rintro e u4 ⟨A2, c2, os, he, hG, hx4⟩
      have he : e = .returned (.tuple #[.slice A2 gs.length c2, errV code]) := he
      subst he
      have HG : Hid (GrpsR u4 A2 os gs) := hG
      have X4 := Lib.hid (X3.out.then_ext hx4)
      clear hG hx4 HOf k0 k1 k2
      by_cases h0 : code = 0
      · subst h0
        obtain ⟨hg1, hg2, hg3, hg4⟩ := HOk.out rfl
        have hg2 : gs.length ≤ 10 := hg2
        have HOK := Lib.hid hg1
        have HL3 := Lib.hid (And.intro hg3 hg4)
        have HMk : Hid (∀ u, Ext u4 u → ∀ t, Calls Tryz.prog 15 #[.slice A2 gs.length c2, S t] u fun e w' => e = .returned (.int .i64 (idxI (makerF gs t))) ∧ Ext u w') := fun u hu t => by
          refine Maker_c (HG.out.ext hu) (show gs.length ≤ 100 by omega) (fun g hg => ?_) t
          obtain ⟨k, hk⟩ := hg1.rl g hg
          have hbd : GBd m xs := by
            have := gbd (s := s) HBL.out.symm
            rw [← HR.out] at this
            exact this
          have := (ruleF_b hbd hk).2.1
          omega
        have HGt : Hid (∀ u, Ext w u → ∀ t, Calls Tryz.prog 19 #[.slice A n c, S t] u fun e w' => e = .returned (.tuple #[S (getT t xs), .bool (getB t xs)]) ∧ Ext u w') := fun u hu t => by
          obtain ⟨q1, _, q3⟩ := lightF_facts HBL.out.symm
          exact Get_c (HS.out.ext hu) (by omega) t q3
        have HRw : Hid (∀ x ∈ os, SlR strF u4 x.1.tA x.2.targets.length x.2.targets ∧ SlR strF u4 x.1.nA x.2.needs.length x.2.needs ∧ x.2.targets.length ≤ 2 ∧ x.2.needs.length ≤ 3) := fun x hx => by
          refine ⟨(HG.out.rr x hx).1, (HG.out.rr x hx).2.1, ?_⟩
          have hm : x.2 ∈ gs := by rw [← HG.out.om]; exact List.mem_map_of_mem hx
          obtain ⟨k, hk⟩ := hg1.rl x.2 hm
          have hbd : GBd m xs := by
            have := gbd (s := s) HBL.out.symm
            rw [← HR.out] at this
            exact this
          exact (ruleF_b hbd hk).2
        clear hg1 hg3 hg4 HOk HEr
        rw [errV_zero]
        go_wp2_with (first | ((first | refine Mix.wpList_guarded rfl ?_ | refine Mix.wp_still (by kernel_rfl) (by kernel_rfl) ?_); (repeat' (first | (refine Mix.lex_quiet0 rfl rfl rfl ?_; intro K hK; go_big_quiet_op; go_big_quiet_on) | (refine Mix.lex_quietG rfl rfl rfl (by with_reducible rfl) rfl rfl ?_; intro K hK; go_big_quiet_op; go_big_quiet_on) | ((first | refine Mix.lex_skipT rfl rfl rfl (by with_reducible rfl) ?_ | refine Mix.lex_skipF rfl rfl rfl (by with_reducible rfl) ?_ | refine Mix.lex_skipU rfl rfl rfl (by with_reducible rfl) ?_); simp only [Act.put, List.setIfInBounds_toArray, List.set_cons_succ, List.set_cons_zero]) | (refine Mix.lex_part rfl rfl rfl rfl (fun hq => ?_) (fun hq => ?_) <;> (fail_if_success (guard_hyp hq :ₛ true = true)) <;> (fail_if_success (guard_hyp hq :ₛ false = false)) <;> first | (exfalso; cases hq; done) | (exfalso; simp only [decide_eq_true_eq, decide_eq_false_iff_not, beq_iff_eq, beq_eq_false_iff_ne, ne_eq, Int.not_lt, Int.not_le] at hq; omega) | simp only [Act.put, List.setIfInBounds_toArray, List.set_cons_succ, List.set_cons_zero]))); all_goals (refine Mix.lex_nil ?_)))
        go_loopw [11] (fun i wr => ∃ k : Nat, k ≤ gs.length ∧ i = .int .i64 k ∧ Ext u4 wr) (fun i _ => gs.length - (intOf i).toNat)
        case atStart => exact ⟨0, Nat.zero_le _, rfl, Only.refl _ _⟩
        case round =>
          obtain ⟨i, hi, rfl, hx⟩ := hrel
          have XR := Lib.hid hx
          clear hx
          by_cases hlt : i < gs.length
          · obtain ⟨bg, o, x, rfl, hox, c0, c1, _, _⟩ := grps_get HG.out.row hlt
            obtain ⟨⟨tA, tc, nA, nc, cA, cc⟩, G⟩ := x
            obtain ⟨r1, r2, r3, r4⟩ := HRw.out _ (List.mem_of_getElem? hox)
            have hgi : gs[i]? = some G := by rw [← HG.out.om, List.getElem?_map, hox]; rfl
            dsimp only at c0 c1 r1 r2 r3 r4
            have HT := Lib.hid r1
            have HN := Lib.hid r2
            have HGi := Lib.hid hgi
            have C0 : Hid (∀ u, Ext u4 u → u.cell? ⟨bg, o + i * 4, none⟩ = some (.slice tA G.targets.length tc)) := fun u hu => c0 ⟨u, hu⟩
            have C1 : Hid (∀ u, Ext u4 u → u.cell? ⟨bg, o + i * 4 + 1, none⟩ = some (.slice nA G.needs.length nc)) := fun u hu => c1 ⟨u, hu⟩
            clear r1 r2 c0 c1 hox hgi
            go_wp2_with (first | ((first | refine Mix.wpList_guarded rfl ?_ | refine Mix.wp_still (by kernel_rfl) (by kernel_rfl) ?_); (repeat' (first | (refine Mix.lex_quiet0 rfl rfl rfl ?_; intro K hK; go_big_quiet_op; go_big_quiet_on) | (refine Mix.lex_quietG rfl rfl rfl (by with_reducible rfl) rfl rfl ?_; intro K hK; go_big_quiet_op; go_big_quiet_on) | ((first | refine Mix.lex_skipT rfl rfl rfl (by with_reducible rfl) ?_ | refine Mix.lex_skipF rfl rfl rfl (by with_reducible rfl) ?_ | refine Mix.lex_skipU rfl rfl rfl (by with_reducible rfl) ?_); simp only [Act.put, List.setIfInBounds_toArray, List.set_cons_succ, List.set_cons_zero]) | (refine Mix.lex_part rfl rfl rfl rfl (fun hq => ?_) (fun hq => ?_) <;> (fail_if_success (guard_hyp hq :ₛ true = true)) <;> (fail_if_success (guard_hyp hq :ₛ false = false)) <;> first | (exfalso; cases hq; done) | (exfalso; simp only [decide_eq_true_eq, decide_eq_false_iff_not, beq_iff_eq, beq_eq_false_iff_ne, ne_eq, Int.not_lt, Int.not_le] at hq; omega) | simp only [Act.put, List.setIfInBounds_toArray, List.set_cons_succ, List.set_cons_zero]))); all_goals (refine Mix.lex_nil ?_)))
            go_loopw [12] (fun i wr => ∃ k : Nat, k ≤ G.targets.length ∧ i = .int .i64 k ∧ Ext u4 wr) (fun i _ => G.targets.length - (intOf i).toNat)
            case atStart => exact ⟨0, Nat.zero_le _, rfl, XR.out⟩
            case round =>
              clear XR
              obtain ⟨k, hk, rfl, hx⟩ := hrel
              have XR := Lib.hid hx
              have d0 := C0.out wr hx
              clear hx
              by_cases hlk : k < G.targets.length
              · obtain ⟨bt, ot, t, rfl, ht, ct⟩ := strs_get HT.out hlk
                have hm := makerF_at HOK.out.ds HGi.out (List.mem_of_getElem? ht)
                have HM2 := Lib.hid (HMk.out wr XR.out t)
                rw [hm, show idxI (some i) = (i : Int) from rfl] at HM2
                have e1 : wr.cell? ⟨bt, ot + k, none⟩ = some (S t) := ct ⟨wr, XR.out⟩
                clear ht ct hm
                go_wp2_with (first | ((first | refine Mix.wpList_guarded rfl ?_ | refine Mix.wp_still (by kernel_rfl) (by kernel_rfl) ?_); (repeat' (first | (refine Mix.lex_quiet0 rfl rfl rfl ?_; intro K hK; go_big_quiet_op; go_big_quiet_on) | (refine Mix.lex_quietG rfl rfl rfl (by with_reducible rfl) rfl rfl ?_; intro K hK; go_big_quiet_op; go_big_quiet_on) | ((first | refine Mix.lex_skipT rfl rfl rfl (by with_reducible rfl) ?_ | refine Mix.lex_skipF rfl rfl rfl (by with_reducible rfl) ?_ | refine Mix.lex_skipU rfl rfl rfl (by with_reducible rfl) ?_); simp only [Act.put, List.setIfInBounds_toArray, List.set_cons_succ, List.set_cons_zero]) | (refine Mix.lex_part rfl rfl rfl rfl (fun hq => ?_) (fun hq => ?_) <;> (fail_if_success (guard_hyp hq :ₛ true = true)) <;> (fail_if_success (guard_hyp hq :ₛ false = false)) <;> first | (exfalso; cases hq; done) | (exfalso; simp only [decide_eq_true_eq, decide_eq_false_iff_not, beq_iff_eq, beq_eq_false_iff_ne, ne_eq, Int.not_lt, Int.not_le] at hq; omega) | simp only [Act.put, List.setIfInBounds_toArray, List.set_cons_succ, List.set_cons_zero]))); all_goals (refine Mix.lex_nil ?_)))
                refine HM2.out.mono ?_
                rintro e u ⟨rfl, hu⟩
                have XU := Lib.hid (XR.out.then_ext hu)
                clear hu HM2 d0 e1
                go_wp2_with (first | ((first | refine Mix.wpList_guarded rfl ?_ | refine Mix.wp_still (by kernel_rfl) (by kernel_rfl) ?_); (repeat' (first | (refine Mix.lex_quiet0 rfl rfl rfl ?_; intro K hK; go_big_quiet_op; go_big_quiet_on) | (refine Mix.lex_quietG rfl rfl rfl (by with_reducible rfl) rfl rfl ?_; intro K hK; go_big_quiet_op; go_big_quiet_on) | ((first | refine Mix.lex_skipT rfl rfl rfl (by with_reducible rfl) ?_ | refine Mix.lex_skipF rfl rfl rfl (by with_reducible rfl) ?_ | refine Mix.lex_skipU rfl rfl rfl (by with_reducible rfl) ?_); simp only [Act.put, List.setIfInBounds_toArray, List.set_cons_succ, List.set_cons_zero]) | (refine Mix.lex_part rfl rfl rfl rfl (fun hq => ?_) (fun hq => ?_) <;> (fail_if_success (guard_hyp hq :ₛ true = true)) <;> (fail_if_success (guard_hyp hq :ₛ false = false)) <;> first | (exfalso; cases hq; done) | (exfalso; simp only [decide_eq_true_eq, decide_eq_false_iff_not, beq_iff_eq, beq_eq_false_iff_ne, ne_eq, Int.not_lt, Int.not_le] at hq; omega) | simp only [Act.put, List.setIfInBounds_toArray, List.set_cons_succ, List.set_cons_zero]))); all_goals (refine Mix.lex_nil ?_)))
                go_roundw
                case rel => exact ⟨k + 1, by omega, by go_num, XU.out⟩
                case measure => simp [intOf]; omega
              · obtain rfl : k = G.targets.length := by omega
                go_wp2_with (first | ((first | refine Mix.wpList_guarded rfl ?_ | refine Mix.wp_still (by kernel_rfl) (by kernel_rfl) ?_); (repeat' (first | (refine Mix.lex_quiet0 rfl rfl rfl ?_; intro K hK; go_big_quiet_op; go_big_quiet_on) | (refine Mix.lex_quietG rfl rfl rfl (by with_reducible rfl) rfl rfl ?_; intro K hK; go_big_quiet_op; go_big_quiet_on) | ((first | refine Mix.lex_skipT rfl rfl rfl (by with_reducible rfl) ?_ | refine Mix.lex_skipF rfl rfl rfl (by with_reducible rfl) ?_ | refine Mix.lex_skipU rfl rfl rfl (by with_reducible rfl) ?_); simp only [Act.put, List.setIfInBounds_toArray, List.set_cons_succ, List.set_cons_zero]) | (refine Mix.lex_part rfl rfl rfl rfl (fun hq => ?_) (fun hq => ?_) <;> (fail_if_success (guard_hyp hq :ₛ true = true)) <;> (fail_if_success (guard_hyp hq :ₛ false = false)) <;> first | (exfalso; cases hq; done) | (exfalso; simp only [decide_eq_true_eq, decide_eq_false_iff_not, beq_iff_eq, beq_eq_false_iff_ne, ne_eq, Int.not_lt, Int.not_le] at hq; omega) | simp only [Act.put, List.setIfInBounds_toArray, List.set_cons_succ, List.set_cons_zero]))); all_goals (refine Mix.lex_nil ?_)))
                go_loopw [13, 14, 15, 16] (fun i _ _ _ wr => ∃ k : Nat, k ≤ G.needs.length ∧ i = .int .i64 k ∧ Ext u4 wr) (fun i _ _ _ _ => G.needs.length - (intOf i).toNat)
                case atStart => exact ⟨0, Nat.zero_le _, rfl, XR.out⟩
                case round =>
                  clear XR d0
                  obtain ⟨k, hk, rfl, hx⟩ := hrel
                  have XR := Lib.hid hx
                  have d1 := C1.out wr hx
                  clear hx
                  by_cases hlk : k < G.needs.length
                  · obtain ⟨bt, ot, t, rfl, ht, ct⟩ := strs_get HN.out hlk
                    have hm := ord_need HOK.out HGi.out (List.mem_of_getElem? ht)
                    have HM2 := Lib.hid (HMk.out wr XR.out t)
                    have e1 : wr.cell? ⟨bt, ot + k, none⟩ = some (S t) := ct ⟨wr, XR.out⟩
                    have CT : Hid (∀ u, Ext u4 u → u.cell? ⟨bt, ot + k, none⟩ = some (S t)) := fun u hu => ct ⟨u, hu⟩
                    clear ht ct
                    go_wp2_with (first | ((first | refine Mix.wpList_guarded rfl ?_ | refine Mix.wp_still (by kernel_rfl) (by kernel_rfl) ?_); (repeat' (first | (refine Mix.lex_quiet0 rfl rfl rfl ?_; intro K hK; go_big_quiet_op; go_big_quiet_on) | (refine Mix.lex_quietG rfl rfl rfl (by with_reducible rfl) rfl rfl ?_; intro K hK; go_big_quiet_op; go_big_quiet_on) | ((first | refine Mix.lex_skipT rfl rfl rfl (by with_reducible rfl) ?_ | refine Mix.lex_skipF rfl rfl rfl (by with_reducible rfl) ?_ | refine Mix.lex_skipU rfl rfl rfl (by with_reducible rfl) ?_); simp only [Act.put, List.setIfInBounds_toArray, List.set_cons_succ, List.set_cons_zero]) | (refine Mix.lex_part rfl rfl rfl rfl (fun hq => ?_) (fun hq => ?_) <;> (fail_if_success (guard_hyp hq :ₛ true = true)) <;> (fail_if_success (guard_hyp hq :ₛ false = false)) <;> first | (exfalso; cases hq; done) | (exfalso; simp only [decide_eq_true_eq, decide_eq_false_iff_not, beq_iff_eq, beq_eq_false_iff_ne, ne_eq, Int.not_lt, Int.not_le] at hq; omega) | simp only [Act.put, List.setIfInBounds_toArray, List.set_cons_succ, List.set_cons_zero]))); all_goals (refine Mix.lex_nil ?_)))
                    refine HM2.out.mono ?_
                    rintro e u ⟨rfl, hu⟩
                    have XU := Lib.hid (XR.out.then_ext hu)
                    have d2 := C1.out u XU.out
                    have e2 := CT.out u XU.out
                    have HG2 := Lib.hid (HGt.out u (X4.out.then_ext XU.out) t)
                    clear hu HM2 d1 e1
                    rcases hm with ⟨q, hq, hm⟩ | ⟨hm, hb⟩
                    · rw [hm, show idxI (some q) = (q : Int) from rfl]
                      go_wp2_with (first | ((first | refine Mix.wpList_guarded rfl ?_ | refine Mix.wp_still (by kernel_rfl) (by kernel_rfl) ?_); (repeat' (first | (refine Mix.lex_quiet0 rfl rfl rfl ?_; intro K hK; go_big_quiet_op; go_big_quiet_on) | (refine Mix.lex_quietG rfl rfl rfl (by with_reducible rfl) rfl rfl ?_; intro K hK; go_big_quiet_op; go_big_quiet_on) | ((first | refine Mix.lex_skipT rfl rfl rfl (by with_reducible rfl) ?_ | refine Mix.lex_skipF rfl rfl rfl (by with_reducible rfl) ?_ | refine Mix.lex_skipU rfl rfl rfl (by with_reducible rfl) ?_); simp only [Act.put, List.setIfInBounds_toArray, List.set_cons_succ, List.set_cons_zero]) | (refine Mix.lex_part rfl rfl rfl rfl (fun hq => ?_) (fun hq => ?_) <;> (fail_if_success (guard_hyp hq :ₛ true = true)) <;> (fail_if_success (guard_hyp hq :ₛ false = false)) <;> first | (exfalso; cases hq; done) | (exfalso; simp only [decide_eq_true_eq, decide_eq_false_iff_not, beq_iff_eq, beq_eq_false_iff_ne, ne_eq, Int.not_lt, Int.not_le] at hq; omega) | simp only [Act.put, List.setIfInBounds_toArray, List.set_cons_succ, List.set_cons_zero]))); all_goals (refine Mix.lex_nil ?_)))
                      refine HG2.out.mono ?_
                      rintro e z ⟨rfl, hu⟩
                      have XU := Lib.hid (XU.out.then_ext hu)
                      clear hu HG2 d2 e2
                      have t1 : decide ((i : Int) ≤ (q : Int)) = false := by rw [decide_eq_false_iff_not]; omega
                      have t2 : decide ((q : Int) < 0) = false := by rw [decide_eq_false_iff_not]; omega
                      go_wp2_with (first | ((first | refine Mix.wpList_guarded rfl ?_ | refine Mix.wp_still (by kernel_rfl) (by kernel_rfl) ?_); (repeat' (first | (refine Mix.lex_quiet0 rfl rfl rfl ?_; intro K hK; go_big_quiet_op; go_big_quiet_on) | (refine Mix.lex_quietG rfl rfl rfl (by with_reducible rfl) rfl rfl ?_; intro K hK; go_big_quiet_op; go_big_quiet_on) | ((first | refine Mix.lex_skipT rfl rfl rfl (by with_reducible rfl) ?_ | refine Mix.lex_skipF rfl rfl rfl (by with_reducible rfl) ?_ | refine Mix.lex_skipU rfl rfl rfl (by with_reducible rfl) ?_); simp only [Act.put, List.setIfInBounds_toArray, List.set_cons_succ, List.set_cons_zero]) | (refine Mix.lex_part rfl rfl rfl rfl (fun hq => ?_) (fun hq => ?_) <;> (fail_if_success (guard_hyp hq :ₛ true = true)) <;> (fail_if_success (guard_hyp hq :ₛ false = false)) <;> first | (exfalso; cases hq; done) | (exfalso; simp only [decide_eq_true_eq, decide_eq_false_iff_not, beq_iff_eq, beq_eq_false_iff_ne, ne_eq, Int.not_lt, Int.not_le] at hq; omega) | simp only [Act.put, List.setIfInBounds_toArray, List.set_cons_succ, List.set_cons_zero]))); all_goals (refine Mix.lex_nil ?_)))
                      go_roundw
                      case rel => exact ⟨k + 1, by omega, by go_num, XU.out⟩
                      case measure => simp [intOf]; omega
                    · rw [hm, show idxI none = (-1 : Int) from rfl]
                      rw [show getB t xs = true from hb] at HG2
                      go_wp2_with (first | ((first | refine Mix.wpList_guarded rfl ?_ | refine Mix.wp_still (by kernel_rfl) (by kernel_rfl) ?_); (repeat' (first | (refine Mix.lex_quiet0 rfl rfl rfl ?_; intro K hK; go_big_quiet_op; go_big_quiet_on) | (refine Mix.lex_quietG rfl rfl rfl (by with_reducible rfl) rfl rfl ?_; intro K hK; go_big_quiet_op; go_big_quiet_on) | ((first | refine Mix.lex_skipT rfl rfl rfl (by with_reducible rfl) ?_ | refine Mix.lex_skipF rfl rfl rfl (by with_reducible rfl) ?_ | refine Mix.lex_skipU rfl rfl rfl (by with_reducible rfl) ?_); simp only [Act.put, List.setIfInBounds_toArray, List.set_cons_succ, List.set_cons_zero]) | (refine Mix.lex_part rfl rfl rfl rfl (fun hq => ?_) (fun hq => ?_) <;> (fail_if_success (guard_hyp hq :ₛ true = true)) <;> (fail_if_success (guard_hyp hq :ₛ false = false)) <;> first | (exfalso; cases hq; done) | (exfalso; simp only [decide_eq_true_eq, decide_eq_false_iff_not, beq_iff_eq, beq_eq_false_iff_ne, ne_eq, Int.not_lt, Int.not_le] at hq; omega) | simp only [Act.put, List.setIfInBounds_toArray, List.set_cons_succ, List.set_cons_zero]))); all_goals (refine Mix.lex_nil ?_)))
                      refine HG2.out.mono ?_
                      rintro e z ⟨rfl, hu⟩
                      have XU := Lib.hid (XU.out.then_ext hu)
                      clear hu HG2 d2 e2
                      have t1 : decide ((i : Int) ≤ -1) = false := by rw [decide_eq_false_iff_not]; omega
                      go_wp2_with (first | ((first | refine Mix.wpList_guarded rfl ?_ | refine Mix.wp_still (by kernel_rfl) (by kernel_rfl) ?_); (repeat' (first | (refine Mix.lex_quiet0 rfl rfl rfl ?_; intro K hK; go_big_quiet_op; go_big_quiet_on) | (refine Mix.lex_quietG rfl rfl rfl (by with_reducible rfl) rfl rfl ?_; intro K hK; go_big_quiet_op; go_big_quiet_on) | ((first | refine Mix.lex_skipT rfl rfl rfl (by with_reducible rfl) ?_ | refine Mix.lex_skipF rfl rfl rfl (by with_reducible rfl) ?_ | refine Mix.lex_skipU rfl rfl rfl (by with_reducible rfl) ?_); simp only [Act.put, List.setIfInBounds_toArray, List.set_cons_succ, List.set_cons_zero]) | (refine Mix.lex_part rfl rfl rfl rfl (fun hq => ?_) (fun hq => ?_) <;> (fail_if_success (guard_hyp hq :ₛ true = true)) <;> (fail_if_success (guard_hyp hq :ₛ false = false)) <;> first | (exfalso; cases hq; done) | (exfalso; simp only [decide_eq_true_eq, decide_eq_false_iff_not, beq_iff_eq, beq_eq_false_iff_ne, ne_eq, Int.not_lt, Int.not_le] at hq; omega) | simp only [Act.put, List.setIfInBounds_toArray, List.set_cons_succ, List.set_cons_zero]))); all_goals (refine Mix.lex_nil ?_)))
                      go_roundw
                      case rel => exact ⟨k + 1, by omega, by go_num, XU.out⟩
                      case measure => simp [intOf]; omega
                  · obtain rfl : k = G.needs.length := by omega
                    go_wp2_with (first | ((first | refine Mix.wpList_guarded rfl ?_ | refine Mix.wp_still (by kernel_rfl) (by kernel_rfl) ?_); (repeat' (first | (refine Mix.lex_quiet0 rfl rfl rfl ?_; intro K hK; go_big_quiet_op; go_big_quiet_on) | (refine Mix.lex_quietG rfl rfl rfl (by with_reducible rfl) rfl rfl ?_; intro K hK; go_big_quiet_op; go_big_quiet_on) | ((first | refine Mix.lex_skipT rfl rfl rfl (by with_reducible rfl) ?_ | refine Mix.lex_skipF rfl rfl rfl (by with_reducible rfl) ?_ | refine Mix.lex_skipU rfl rfl rfl (by with_reducible rfl) ?_); simp only [Act.put, List.setIfInBounds_toArray, List.set_cons_succ, List.set_cons_zero]) | (refine Mix.lex_part rfl rfl rfl rfl (fun hq => ?_) (fun hq => ?_) <;> (fail_if_success (guard_hyp hq :ₛ true = true)) <;> (fail_if_success (guard_hyp hq :ₛ false = false)) <;> first | (exfalso; cases hq; done) | (exfalso; simp only [decide_eq_true_eq, decide_eq_false_iff_not, beq_iff_eq, beq_eq_false_iff_ne, ne_eq, Int.not_lt, Int.not_le] at hq; omega) | simp only [Act.put, List.setIfInBounds_toArray, List.set_cons_succ, List.set_cons_zero]))); all_goals (refine Mix.lex_nil ?_)))
                    go_roundw
                    case rel => exact ⟨i + 1, by omega, by go_num, XR.out⟩
                    case measure => simp [intOf]; omega
          · obtain rfl : i = gs.length := by omega
            have HG2 := Lib.hid (HGt.out wr (X4.out.then_ext XR.out) goal)
            cases hgs : gs.getLast? with
            | none =>
              have hgn : gs = [] := by simpa using hgs
              have hb : getB goal xs = true := HL3.out.1 hgn
              rw [hb] at HG2
              subst hgn
              clear hb
              go_wp2_with (first | ((first | refine Mix.wpList_guarded rfl ?_ | refine Mix.wp_still (by kernel_rfl) (by kernel_rfl) ?_); (repeat' (first | (refine Mix.lex_quiet0 rfl rfl rfl ?_; intro K hK; go_big_quiet_op; go_big_quiet_on) | (refine Mix.lex_quietG rfl rfl rfl (by with_reducible rfl) rfl rfl ?_; intro K hK; go_big_quiet_op; go_big_quiet_on) | ((first | refine Mix.lex_skipT rfl rfl rfl (by with_reducible rfl) ?_ | refine Mix.lex_skipF rfl rfl rfl (by with_reducible rfl) ?_ | refine Mix.lex_skipU rfl rfl rfl (by with_reducible rfl) ?_); simp only [Act.put, List.setIfInBounds_toArray, List.set_cons_succ, List.set_cons_zero]) | (refine Mix.lex_part rfl rfl rfl rfl (fun hq => ?_) (fun hq => ?_) <;> (fail_if_success (guard_hyp hq :ₛ true = true)) <;> (fail_if_success (guard_hyp hq :ₛ false = false)) <;> first | (exfalso; cases hq; done) | (exfalso; simp only [decide_eq_true_eq, decide_eq_false_iff_not, beq_iff_eq, beq_eq_false_iff_ne, ne_eq, Int.not_lt, Int.not_le] at hq; omega) | simp only [Act.put, List.setIfInBounds_toArray, List.set_cons_succ, List.set_cons_zero]))); all_goals (refine Mix.lex_nil ?_)))
              refine HG2.out.mono ?_
              rintro e u ⟨rfl, hu⟩
              go_wp2_with (first | ((first | refine Mix.wpList_guarded rfl ?_ | refine Mix.wp_still (by kernel_rfl) (by kernel_rfl) ?_); (repeat' (first | (refine Mix.lex_quiet0 rfl rfl rfl ?_; intro K hK; go_big_quiet_op; go_big_quiet_on) | (refine Mix.lex_quietG rfl rfl rfl (by with_reducible rfl) rfl rfl ?_; intro K hK; go_big_quiet_op; go_big_quiet_on) | ((first | refine Mix.lex_skipT rfl rfl rfl (by with_reducible rfl) ?_ | refine Mix.lex_skipF rfl rfl rfl (by with_reducible rfl) ?_ | refine Mix.lex_skipU rfl rfl rfl (by with_reducible rfl) ?_); simp only [Act.put, List.setIfInBounds_toArray, List.set_cons_succ, List.set_cons_zero]) | (refine Mix.lex_part rfl rfl rfl rfl (fun hq => ?_) (fun hq => ?_) <;> (fail_if_success (guard_hyp hq :ₛ true = true)) <;> (fail_if_success (guard_hyp hq :ₛ false = false)) <;> first | (exfalso; cases hq; done) | (exfalso; simp only [decide_eq_true_eq, decide_eq_false_iff_not, beq_iff_eq, beq_eq_false_iff_ne, ne_eq, Int.not_lt, Int.not_le] at hq; omega) | simp only [Act.put, List.setIfInBounds_toArray, List.set_cons_succ, List.set_cons_zero]))); all_goals (refine Mix.lex_nil ?_)))
              go_ret
              exact ⟨rfl, X4.out.then_ext (XR.out.then_ext hu)⟩
            | some G =>
              have hgo := HL3.out.2 G hgs
              have hl0 : 0 < gs.length := by
                cases gs with
                | nil => simp at hgs
                | cons a t => simp
              obtain ⟨bg, o, x, rfl, hox, c0, _⟩ := grps_get HG.out.row (show gs.length - 1 < gs.length by omega)
              obtain ⟨⟨tA, tc, nA, nc, cA, cc⟩, G2⟩ := x
              have hgi : gs[gs.length - 1]? = some G2 := by
                have h := congrArg (Option.map (·.2)) hox
                rw [← List.getElem?_map, HG.out.om] at h
                exact h
              obtain rfl : G = G2 := by
                rw [List.getLast?_eq_getElem?] at hgs
                rw [hgs] at hgi
                exact Option.some.inj hgi
              obtain ⟨r1, _, r3, _⟩ := HRw.out _ (List.mem_of_getElem? hox)
              dsimp only at c0 r1 r3
              have HIn := Lib.hid (fun u (hu : Ext u4 u) => In_c (c := tc) (r1.ext hu) (by omega) goal)
              have hin : inS G.targets goal = true := by simpa [inS] using hgo
              rw [hin] at HIn
              have C0 : Hid (∀ u, Ext u4 u → u.cell? ⟨bg, o + (gs.length - 1) * 4, none⟩ = some (.slice tA G.targets.length tc)) := fun u hu => c0 ⟨u, hu⟩
              clear r1 hox hgi hgo hgs c0 hin
              have ez : decide ((gs.length : Int) = 0) = false := by rw [decide_eq_false_iff_not]; omega
              go_wp2_with (first | ((first | refine Mix.wpList_guarded rfl ?_ | refine Mix.wp_still (by kernel_rfl) (by kernel_rfl) ?_); (repeat' (first | (refine Mix.lex_quiet0 rfl rfl rfl ?_; intro K hK; go_big_quiet_op; go_big_quiet_on) | (refine Mix.lex_quietG rfl rfl rfl (by with_reducible rfl) rfl rfl ?_; intro K hK; go_big_quiet_op; go_big_quiet_on) | ((first | refine Mix.lex_skipT rfl rfl rfl (by with_reducible rfl) ?_ | refine Mix.lex_skipF rfl rfl rfl (by with_reducible rfl) ?_ | refine Mix.lex_skipU rfl rfl rfl (by with_reducible rfl) ?_); simp only [Act.put, List.setIfInBounds_toArray, List.set_cons_succ, List.set_cons_zero]) | (refine Mix.lex_part rfl rfl rfl rfl (fun hq => ?_) (fun hq => ?_) <;> (fail_if_success (guard_hyp hq :ₛ true = true)) <;> (fail_if_success (guard_hyp hq :ₛ false = false)) <;> first | (exfalso; cases hq; done) | (exfalso; simp only [decide_eq_true_eq, decide_eq_false_iff_not, beq_iff_eq, beq_eq_false_iff_ne, ne_eq, Int.not_lt, Int.not_le] at hq; omega) | simp only [Act.put, List.setIfInBounds_toArray, List.set_cons_succ, List.set_cons_zero]))); all_goals (refine Mix.lex_nil ?_)))
              refine HG2.out.mono ?_
              rintro e u ⟨rfl, hu⟩
              have XU := Lib.hid (XR.out.then_ext hu)
              clear hu HG2
              have d0 := C0.out u XU.out
              go_wp2_with (first | ((first | refine Mix.wpList_guarded rfl ?_ | refine Mix.wp_still (by kernel_rfl) (by kernel_rfl) ?_); (repeat' (first | (refine Mix.lex_quiet0 rfl rfl rfl ?_; intro K hK; go_big_quiet_op; go_big_quiet_on) | (refine Mix.lex_quietG rfl rfl rfl (by with_reducible rfl) rfl rfl ?_; intro K hK; go_big_quiet_op; go_big_quiet_on) | ((first | refine Mix.lex_skipT rfl rfl rfl (by with_reducible rfl) ?_ | refine Mix.lex_skipF rfl rfl rfl (by with_reducible rfl) ?_ | refine Mix.lex_skipU rfl rfl rfl (by with_reducible rfl) ?_); simp only [Act.put, List.setIfInBounds_toArray, List.set_cons_succ, List.set_cons_zero]) | (refine Mix.lex_part rfl rfl rfl rfl (fun hq => ?_) (fun hq => ?_) <;> (fail_if_success (guard_hyp hq :ₛ true = true)) <;> (fail_if_success (guard_hyp hq :ₛ false = false)) <;> first | (exfalso; cases hq; done) | (exfalso; simp only [decide_eq_true_eq, decide_eq_false_iff_not, beq_iff_eq, beq_eq_false_iff_ne, ne_eq, Int.not_lt, Int.not_le] at hq; omega) | simp only [Act.put, List.setIfInBounds_toArray, List.set_cons_succ, List.set_cons_zero]))); all_goals (refine Mix.lex_nil ?_)))
              refine (HIn.out u XU.out).mono ?_
              rintro e z ⟨rfl, hu⟩
              go_wp2_with (first | ((first | refine Mix.wpList_guarded rfl ?_ | refine Mix.wp_still (by kernel_rfl) (by kernel_rfl) ?_); (repeat' (first | (refine Mix.lex_quiet0 rfl rfl rfl ?_; intro K hK; go_big_quiet_op; go_big_quiet_on) | (refine Mix.lex_quietG rfl rfl rfl (by with_reducible rfl) rfl rfl ?_; intro K hK; go_big_quiet_op; go_big_quiet_on) | ((first | refine Mix.lex_skipT rfl rfl rfl (by with_reducible rfl) ?_ | refine Mix.lex_skipF rfl rfl rfl (by with_reducible rfl) ?_ | refine Mix.lex_skipU rfl rfl rfl (by with_reducible rfl) ?_); simp only [Act.put, List.setIfInBounds_toArray, List.set_cons_succ, List.set_cons_zero]) | (refine Mix.lex_part rfl rfl rfl rfl (fun hq => ?_) (fun hq => ?_) <;> (fail_if_success (guard_hyp hq :ₛ true = true)) <;> (fail_if_success (guard_hyp hq :ₛ false = false)) <;> first | (exfalso; cases hq; done) | (exfalso; simp only [decide_eq_true_eq, decide_eq_false_iff_not, beq_iff_eq, beq_eq_false_iff_ne, ne_eq, Int.not_lt, Int.not_le] at hq; omega) | simp only [Act.put, List.setIfInBounds_toArray, List.set_cons_succ, List.set_cons_zero]))); all_goals (refine Mix.lex_nil ?_)))
              go_ret
              exact ⟨rfl, X4.out.then_ext (XU.out.then_ext hu)⟩
      · have hgn : gs = [] := HEr.out h0
        subst hgn
        rw [errV_pos h0]
        go_wp2_with (first | ((first | refine Mix.wpList_guarded rfl ?_ | refine Mix.wp_still (by kernel_rfl) (by kernel_rfl) ?_); (repeat' (first | (refine Mix.lex_quiet0 rfl rfl rfl ?_; intro K hK; go_big_quiet_op; go_big_quiet_on) | (refine Mix.lex_quietG rfl rfl rfl (by with_reducible rfl) rfl rfl ?_; intro K hK; go_big_quiet_op; go_big_quiet_on) | ((first | refine Mix.lex_skipT rfl rfl rfl (by with_reducible rfl) ?_ | refine Mix.lex_skipF rfl rfl rfl (by with_reducible rfl) ?_ | refine Mix.lex_skipU rfl rfl rfl (by with_reducible rfl) ?_); simp only [Act.put, List.setIfInBounds_toArray, List.set_cons_succ, List.set_cons_zero]) | (refine Mix.lex_part rfl rfl rfl rfl (fun hq => ?_) (fun hq => ?_) <;> (fail_if_success (guard_hyp hq :ₛ true = true)) <;> (fail_if_success (guard_hyp hq :ₛ false = false)) <;> first | (exfalso; cases hq; done) | (exfalso; simp only [decide_eq_true_eq, decide_eq_false_iff_not, beq_iff_eq, beq_eq_false_iff_ne, ne_eq, Int.not_lt, Int.not_le] at hq; omega) | simp only [Act.put, List.setIfInBounds_toArray, List.set_cons_succ, List.set_cons_zero]))); all_goals (refine Mix.lex_nil ?_)))
        go_ret
        exact ⟨rfl, X4.out⟩
  · rw [errV_pos hf]
    go_wp2_with (first | ((first | refine Mix.wpList_guarded rfl ?_ | refine Mix.wp_still (by kernel_rfl) (by kernel_rfl) ?_); (repeat' (first | (refine Mix.lex_quiet0 rfl rfl rfl ?_; intro K hK; go_big_quiet_op; go_big_quiet_on) | (refine Mix.lex_quietG rfl rfl rfl (by with_reducible rfl) rfl rfl ?_; intro K hK; go_big_quiet_op; go_big_quiet_on) | ((first | refine Mix.lex_skipT rfl rfl rfl (by with_reducible rfl) ?_ | refine Mix.lex_skipF rfl rfl rfl (by with_reducible rfl) ?_ | refine Mix.lex_skipU rfl rfl rfl (by with_reducible rfl) ?_); simp only [Act.put, List.setIfInBounds_toArray, List.set_cons_succ, List.set_cons_zero]) | (refine Mix.lex_part rfl rfl rfl rfl (fun hq => ?_) (fun hq => ?_) <;> (fail_if_success (guard_hyp hq :ₛ true = true)) <;> (fail_if_success (guard_hyp hq :ₛ false = false)) <;> first | (exfalso; cases hq; done) | (exfalso; simp only [decide_eq_true_eq, decide_eq_false_iff_not, beq_iff_eq, beq_eq_false_iff_ne, ne_eq, Int.not_lt, Int.not_le] at hq; omega) | simp only [Act.put, List.setIfInBounds_toArray, List.set_cons_succ, List.set_cons_zero]))); all_goals (refine Mix.lex_nil ?_)))
    go_ret
    exact ⟨rfl, X1.out⟩
end Go.Proofs.YtnhaekifcieeoaaGreatDoor
