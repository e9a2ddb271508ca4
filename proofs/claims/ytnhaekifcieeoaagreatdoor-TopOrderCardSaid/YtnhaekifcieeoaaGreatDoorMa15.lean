/- Put together: MkC. -/
import Derived.Test.YtnhaekifcieeoaaGreatDoorMa14
/- A command comes to the last rule. -/
namespace Go.Proofs.YtnhaekifcieeoaaGreatDoor
open Go Go.RowKit
theorem st_info : (Tryz.prog.info? 9).map (fun i => (i.zero, i.size, i.bytes)) = some (some (.string ⟨#[]⟩), 1, 16) := by kernel_rfl
theorem st_ty : Ety Tryz.prog 27 9 1 := Ety.mk' Tryz.underlying27 st_info rfl (by omega) (by omega)
theorem vr_info : (Tryz.prog.info? varT).map (fun i => (i.zero, i.size, i.bytes)) = some (some (.agg #[.string ⟨#[]⟩, .string ⟨#[]⟩]), 2, 32) := by kernel_rfl
theorem vr_ty : Ety Tryz.prog 25 varT 2 := Ety.mk' Tryz.underlying25 vr_info rfl (by omega) (by omega)
theorem ru_info : (Tryz.prog.info? ruleT).map (fun i => (i.zero, i.size, i.bytes)) = some (some (.agg #[.slice none 0 0, .slice none 0 0, .slice none 0 0]), 3, 72) := by kernel_rfl
theorem ru_ty : Ety Tryz.prog 26 ruleT 3 := Ety.mk' Tryz.underlying26 ru_info rfl (by omega) (by omega)
section
variable {Q : List SRow} {w wr : World} {g : Nat} {v : MkV} {rs : List (RulA × Rul)} {m : Mk}
def MkRes (Q : List SRow) (w : World) (g : Nat) (R : Mk × Int) (e : Ending) (w' : World) : Prop := ∃ v rs, e = .returned (errV R.2) ∧ MAt Q w w' g v rs R.1
theorem MAt.text (hm : Ml w) (h : MAt Q w wr g v rs m) (hv : m.vars.length ≤ 6) (ht : ∀ x ∈ m.vars, x.1.length ≤ 600 ∧ x.2.length ≤ 600) (s : Str) (hs : s.length ≤ 600) :
    Calls Tryz.prog 97 #[.slice v.vA m.vars.length v.vc, S s] wr fun e w' => e = .returned (.tuple #[S (exp m.vars 6 s).1, errV (exp m.vars 6 s).2]) ∧ Ext wr w' :=
  Text_c (hm.ext h.x) (h.fv.row (by decide)) (by omega) (fun f hf => by have := (ht f hf).2; omega) s (by omega)
end
set_option maxRecDepth 100000 in
set_option maxHeartbeats 4000000 in
theorem Command_c {Q : List SRow} {w wr : World} {g : Nat} {v : MkV} {rs : List (RulA × Rul)} {m : Mk} {k : Nat} (hm : Ml w) (h : MAt Q w wr g v rs m) (hf : m.Fit k) (s : Str) (hs : s.length ≤ 600) :
    Calls Tryz.prog 65 #[ptr g, S s] wr (MkRes Q w g (cmdF m s)) := by
  have P := Lib.hid h
  have HT := Lib.hid (h.text hm hf.v hf.vt s hs)
  have HB := Lib.hid (exp_bound m.vars 6 s)
  rcases List.eq_nil_or_concat rs with rfl | ⟨ini, ⟨a, r⟩, rfl⟩
  · have HF : Hid (cmdF m s = (m, 4)) := by
      have := h.rm
      unfold cmdF
      rw [← this]
      rfl
    have c1 : wr.cell? ⟨g, 1, none⟩ = some (.slice v.rA 0 v.rc) := h.rc.cell 1
    clear h hf HT HB
    go_enter Tryz.func65, Tryz.ntmps65
    go_wp2_with (first | ((first | refine Mix.wpList_guarded rfl ?_ | refine Mix.wp_still (by kernel_rfl) (by kernel_rfl) ?_); (repeat' (first | (refine Mix.lex_quiet0 rfl rfl rfl ?_; intro K hK; go_big_quiet_op; go_big_quiet_on) | (refine Mix.lex_quietG rfl rfl rfl (by with_reducible rfl) rfl rfl ?_; intro K hK; go_big_quiet_op; go_big_quiet_on) | ((first | refine Mix.lex_skipT rfl rfl rfl (by with_reducible rfl) ?_ | refine Mix.lex_skipF rfl rfl rfl (by with_reducible rfl) ?_ | refine Mix.lex_skipU rfl rfl rfl (by with_reducible rfl) ?_); simp only [Act.put, List.setIfInBounds_toArray, List.set_cons_succ, List.set_cons_zero]) | (refine Mix.lex_part rfl rfl rfl rfl (fun hq => ?_) (fun hq => ?_) <;> (fail_if_success (guard_hyp hq :ₛ true = true)) <;> (fail_if_success (guard_hyp hq :ₛ false = false)) <;> first | (exfalso; cases hq; done) | (exfalso; simp only [decide_eq_true_eq, decide_eq_false_iff_not, beq_iff_eq, beq_eq_false_iff_ne, ne_eq, Int.not_lt, Int.not_le] at hq; omega) | simp only [Act.put, List.setIfInBounds_toArray, List.set_cons_succ, List.set_cons_zero]))); all_goals (refine Mix.lex_nil ?_)))
    go_ret
    exact ⟨v, [], by rw [HF.out]; rfl, by rw [HF.out]; exact P.out⟩
  · rw [List.concat_eq_append] at P h
    have hrm := h.rm
    rw [List.map_append] at hrm
    have HRM : Hid (m.rules = ini.map (·.2) ++ [r]) := hrm.symm
    have hl : (ini ++ [(a, r)]).length = ini.length + 1 := by simp
    have HF : Hid (cmdF m s = if (exp m.vars 6 s).2 ≠ 0 then (m, (exp m.vars 6 s).2) else if r.cmds.length = 3 ∨ 28 < (exp m.vars 6 s).1.length then (m, 2) else (⟨m.vars, m.rules.dropLast ++ [⟨r.targets, r.needs, r.cmds ++ [(exp m.vars 6 s).1]⟩], m.phony⟩, 0)) := by
      unfold Hid cmdF
      rw [HRM.out, List.getLast?_concat]
    have hc3 : r.cmds.length ≤ 3 := (hf.rt r (by rw [HRM.out]; simp)).2.2.2
    have hn10 : ini.length + 1 ≤ 10 := by have := hf.r; rw [HRM.out] at this; simpa using this
    have c0 : wr.cell? ⟨g, 0, none⟩ = some (.slice v.vA m.vars.length v.vc) := h.rc.cell 0
    have c1 : wr.cell? ⟨g, 1, none⟩ = some (.slice v.rA (ini.length + 1 : Nat) v.rc) := by rw [← hl]; exact h.rc.cell 1
    have hne : ini.length + 1 ≠ 0 := by omega
    clear h hf hrm
    generalize exp m.vars 6 s = ex at HF HT HB
    obtain ⟨t, e⟩ := ex
    dsimp only at HF HT HB
    have htl := HB.out
    go_enter Tryz.func65, Tryz.ntmps65
    go_wp2_with (first | ((first | refine Mix.wpList_guarded rfl ?_ | refine Mix.wp_still (by kernel_rfl) (by kernel_rfl) ?_); (repeat' (first | (refine Mix.lex_quiet0 rfl rfl rfl ?_; intro K hK; go_big_quiet_op; go_big_quiet_on) | (refine Mix.lex_quietG rfl rfl rfl (by with_reducible rfl) rfl rfl ?_; intro K hK; go_big_quiet_op; go_big_quiet_on) | ((first | refine Mix.lex_skipT rfl rfl rfl (by with_reducible rfl) ?_ | refine Mix.lex_skipF rfl rfl rfl (by with_reducible rfl) ?_ | refine Mix.lex_skipU rfl rfl rfl (by with_reducible rfl) ?_); simp only [Act.put, List.setIfInBounds_toArray, List.set_cons_succ, List.set_cons_zero]) | (refine Mix.lex_part rfl rfl rfl rfl (fun hq => ?_) (fun hq => ?_) <;> (fail_if_success (guard_hyp hq :ₛ true = true)) <;> (fail_if_success (guard_hyp hq :ₛ false = false)) <;> first | (exfalso; cases hq; done) | (exfalso; simp only [decide_eq_true_eq, decide_eq_false_iff_not, beq_iff_eq, beq_eq_false_iff_ne, ne_eq, Int.not_lt, Int.not_le] at hq; omega) | simp only [Act.put, List.setIfInBounds_toArray, List.set_cons_succ, List.set_cons_zero]))); all_goals (refine Mix.lex_nil ?_)))
    refine HT.out.mono ?_
    rintro e' w1 ⟨rfl, hx⟩
    have P1 := Lib.hid (P.out.ext hx)
    clear hx P HT c0 c1
    by_cases he : e = 0
    · subst he
      rw [errV_zero]
      have HF2 : Hid (cmdF m s = if r.cmds.length = 3 ∨ 28 < t.length then (m, 2) else (⟨m.vars, m.rules.dropLast ++ [⟨r.targets, r.needs, r.cmds ++ [t]⟩], m.phony⟩, 0)) := by
        unfold Hid
        rw [HF.out]
        exact if_neg (fun h => h rfl)
      clear HF
      obtain ⟨gR, cur, hA, hC, hcur⟩ := P1.out.last
      have c1 : w1.cell? ⟨g, 1, none⟩ = some (.slice (some ⟨gR, 0, none⟩) (ini.length + 1 : Nat) v.rc) := by rw [← hl, ← hA]; exact P1.out.rc.cell 1
      have d1 : ∀ ξ : X w1 No, ξ.v.cell? ⟨g, 1, none⟩ = some (.slice (some ⟨gR, 0, none⟩) (ini.length + 1 : Nat) v.rc) := fun ξ => (P1.out.rc.keep ξ.h id).cell 1 |>.trans (by rw [← hl, ← hA]; rfl)
      have d2 : ∀ ξ : X w1 No, ξ.v.cell? ⟨gR, ini.length * 3 + 2, none⟩ = some (.slice a.cA r.cmds.length a.cc) := fun ξ => (hC.x id _ ξ).trans hcur
      clear c1 hC hcur cur
      go_wp2_with (first | ((first | refine Mix.wpList_guarded rfl ?_ | refine Mix.wp_still (by kernel_rfl) (by kernel_rfl) ?_); (repeat' (first | (refine Mix.lex_quiet0 rfl rfl rfl ?_; intro K hK; go_big_quiet_op; go_big_quiet_on) | (refine Mix.lex_quietG rfl rfl rfl (by with_reducible rfl) rfl rfl ?_; intro K hK; go_big_quiet_op; go_big_quiet_on) | ((first | refine Mix.lex_skipT rfl rfl rfl (by with_reducible rfl) ?_ | refine Mix.lex_skipF rfl rfl rfl (by with_reducible rfl) ?_ | refine Mix.lex_skipU rfl rfl rfl (by with_reducible rfl) ?_); simp only [Act.put, List.setIfInBounds_toArray, List.set_cons_succ, List.set_cons_zero]) | (refine Mix.lex_part rfl rfl rfl rfl (fun hq => ?_) (fun hq => ?_) <;> (fail_if_success (guard_hyp hq :ₛ true = true)) <;> (fail_if_success (guard_hyp hq :ₛ false = false)) <;> first | (exfalso; cases hq; done) | (exfalso; simp only [decide_eq_true_eq, decide_eq_false_iff_not, beq_iff_eq, beq_eq_false_iff_ne, ne_eq, Int.not_lt, Int.not_le] at hq; omega) | simp only [Act.put, List.setIfInBounds_toArray, List.set_cons_succ, List.set_cons_zero]))); all_goals (refine Mix.lex_nil ?_)))
      go_upto_region 6 with fail
      (refine Mix.wp_draw [] 100 (Cl (w1) (No)) (by kernel_rfl) (by kernel_rfl) (Cl.drew_ (X.here w1 No)) ?_; (repeat' (first | (refine Mix.lex_quiet0 rfl rfl rfl ?_; intro K hK; go_big_quiet_op; go_big_quiet_on) | (refine Mix.lex_quietG rfl rfl rfl (by with_reducible rfl) rfl rfl ?_; intro K hK; go_big_quiet_op; go_big_quiet_on) | ((first | refine Mix.lex_skipT rfl rfl rfl (by with_reducible rfl) ?_ | refine Mix.lex_skipF rfl rfl rfl (by with_reducible rfl) ?_ | refine Mix.lex_skipU rfl rfl rfl (by with_reducible rfl) ?_); simp only [Act.put, List.setIfInBounds_toArray, List.set_cons_succ, List.set_cons_zero]) | (refine Mix.lex_part rfl rfl rfl rfl (fun hq => ?_) (fun hq => ?_) <;> (fail_if_success (guard_hyp hq :ₛ true = true)) <;> (fail_if_success (guard_hyp hq :ₛ false = false)) <;> first | (exfalso; cases hq; done) | (exfalso; simp only [decide_eq_true_eq, decide_eq_false_iff_not, beq_iff_eq, beq_eq_false_iff_ne, ne_eq, Int.not_lt, Int.not_le] at hq; omega) | simp only [Act.put, List.setIfInBounds_toArray, List.set_cons_succ, List.set_cons_zero]))))
      all_goals (refine Mix.lex_nil ?_)
      obtain ⟨w2, hw2⟩ : ∃ u, u = w1.drew := ⟨_, rfl⟩
      have P2 : Hid (MAt Q w w2 g v (ini ++ [(a, r)]) m) := by rw [hw2]; exact P1.out.ext (Only.refl No _).drew
      have e2 : w2.cell? ⟨gR, ini.length * 3 + 2, none⟩ = some (.slice a.cA r.cmds.length a.cc) := by rw [hw2]; exact d2 ⟨_, (Only.refl No w1).drew⟩
      rw [← hw2]
      clear hw2 d1 d2 P1
      by_cases h3 : r.cmds.length = 3
      · have g3 : decide ((r.cmds.length : Int) = 3) = true := by rw [decide_eq_true_iff]; omega
        go_wp2_with (first | ((first | refine Mix.wpList_guarded rfl ?_ | refine Mix.wp_still (by kernel_rfl) (by kernel_rfl) ?_); (repeat' (first | (refine Mix.lex_quiet0 rfl rfl rfl ?_; intro K hK; go_big_quiet_op; go_big_quiet_on) | (refine Mix.lex_quietG rfl rfl rfl (by with_reducible rfl) rfl rfl ?_; intro K hK; go_big_quiet_op; go_big_quiet_on) | ((first | refine Mix.lex_skipT rfl rfl rfl (by with_reducible rfl) ?_ | refine Mix.lex_skipF rfl rfl rfl (by with_reducible rfl) ?_ | refine Mix.lex_skipU rfl rfl rfl (by with_reducible rfl) ?_); simp only [Act.put, List.setIfInBounds_toArray, List.set_cons_succ, List.set_cons_zero]) | (refine Mix.lex_part rfl rfl rfl rfl (fun hq => ?_) (fun hq => ?_) <;> (fail_if_success (guard_hyp hq :ₛ true = true)) <;> (fail_if_success (guard_hyp hq :ₛ false = false)) <;> first | (exfalso; cases hq; done) | (exfalso; simp only [decide_eq_true_eq, decide_eq_false_iff_not, beq_iff_eq, beq_eq_false_iff_ne, ne_eq, Int.not_lt, Int.not_le] at hq; omega) | simp only [Act.put, List.setIfInBounds_toArray, List.set_cons_succ, List.set_cons_zero]))); all_goals (refine Mix.lex_nil ?_)))
        go_ret
        exact ⟨v, ini ++ [(a, r)], by rw [HF2.out, if_pos (.inl h3)]; rfl, by rw [HF2.out, if_pos (.inl h3)]; exact P2.out⟩
      · have g3 : decide ((r.cmds.length : Int) = 3) = false := by rw [decide_eq_false_iff_not]; omega
        by_cases h28 : 28 < t.length
        · have g4 : decide ((28 : Int) < (t.length : Int)) = true := by rw [decide_eq_true_iff]; omega
          go_wp2_with (first | ((first | refine Mix.wpList_guarded rfl ?_ | refine Mix.wp_still (by kernel_rfl) (by kernel_rfl) ?_); (repeat' (first | (refine Mix.lex_quiet0 rfl rfl rfl ?_; intro K hK; go_big_quiet_op; go_big_quiet_on) | (refine Mix.lex_quietG rfl rfl rfl (by with_reducible rfl) rfl rfl ?_; intro K hK; go_big_quiet_op; go_big_quiet_on) | ((first | refine Mix.lex_skipT rfl rfl rfl (by with_reducible rfl) ?_ | refine Mix.lex_skipF rfl rfl rfl (by with_reducible rfl) ?_ | refine Mix.lex_skipU rfl rfl rfl (by with_reducible rfl) ?_); simp only [Act.put, List.setIfInBounds_toArray, List.set_cons_succ, List.set_cons_zero]) | (refine Mix.lex_part rfl rfl rfl rfl (fun hq => ?_) (fun hq => ?_) <;> (fail_if_success (guard_hyp hq :ₛ true = true)) <;> (fail_if_success (guard_hyp hq :ₛ false = false)) <;> first | (exfalso; cases hq; done) | (exfalso; simp only [decide_eq_true_eq, decide_eq_false_iff_not, beq_iff_eq, beq_eq_false_iff_ne, ne_eq, Int.not_lt, Int.not_le] at hq; omega) | simp only [Act.put, List.setIfInBounds_toArray, List.set_cons_succ, List.set_cons_zero]))); all_goals (refine Mix.lex_nil ?_)))
          go_ret
          exact ⟨v, ini ++ [(a, r)], by rw [HF2.out, if_pos (.inr h28)]; rfl, by rw [HF2.out, if_pos (.inr h28)]; exact P2.out⟩
        · have g4 : decide ((28 : Int) < (t.length : Int)) = false := by rw [decide_eq_false_iff_not]; omega
          have HF3 : Hid (cmdF m s = (⟨m.vars, ini.map (·.2) ++ [⟨r.targets, r.needs, r.cmds ++ [t]⟩], m.phony⟩, 0)) := by
            unfold Hid
            rw [HF2.out, if_neg (by omega), HRM.out, List.dropLast_concat]
          have P3 := Lib.hid (P2.out.ext ((Only.refl No w2).alloc (.cells #[S t] 9)))
          go_wp2_with (first | (at_builtin; go_must (refine wpList_append (v := .slice a.cA r.cmds.length a.cc) (n := r.cmds.length) (xs := r.cmds.flatMap strF.enc) rfl st_ty rfl rfl rfl P3.out.crow.own (rd_one w2 _ [S t]) (by simp [Value.oneCell']) (by omega) ?_); intro A2 c2 w5 hown5 hg5 hb5; obtain ⟨gR', cur', hA', hC', hcur', hP'⟩ := P3.out.growC (t := t) hown5 hg5 hb5; obtain rfl : gR = gR' := (by have hq := hA.symm.trans hA'; simpa using hq); have y1 : w5.cell? ⟨gR, ini.length * 3 + 2, none⟩ = some (.slice a.cA r.cmds.length a.cc) := (hC'.cell _).trans hcur'; have z1 := hC'.frozen (ini.length * 3 + 2); have P9 := Lib.hid hP'; clear hown5 hg5 hb5 hC' hcur' hP' hA') | ((first | refine Mix.wpList_guarded rfl ?_ | refine Mix.wp_still (by kernel_rfl) (by kernel_rfl) ?_); (repeat' (first | (refine Mix.lex_quiet0 rfl rfl rfl ?_; intro K hK; go_big_quiet_op; go_big_quiet_on) | (refine Mix.lex_quietG rfl rfl rfl (by with_reducible rfl) rfl rfl ?_; intro K hK; go_big_quiet_op; go_big_quiet_on) | ((first | refine Mix.lex_skipT rfl rfl rfl (by with_reducible rfl) ?_ | refine Mix.lex_skipF rfl rfl rfl (by with_reducible rfl) ?_ | refine Mix.lex_skipU rfl rfl rfl (by with_reducible rfl) ?_); simp only [Act.put, List.setIfInBounds_toArray, List.set_cons_succ, List.set_cons_zero]) | (refine Mix.lex_part rfl rfl rfl rfl (fun hq => ?_) (fun hq => ?_) <;> (fail_if_success (guard_hyp hq :ₛ true = true)) <;> (fail_if_success (guard_hyp hq :ₛ false = false)) <;> first | (exfalso; cases hq; done) | (exfalso; simp only [decide_eq_true_eq, decide_eq_false_iff_not, beq_iff_eq, beq_eq_false_iff_ne, ne_eq, Int.not_lt, Int.not_le] at hq; omega) | simp only [Act.put, List.setIfInBounds_toArray, List.set_cons_succ, List.set_cons_zero]))); all_goals (refine Mix.lex_nil ?_)))
          go_ret
          exact ⟨v, _, by rw [HF3.out]; rfl, by rw [HF3.out]; exact P9.out⟩
    · have HF2 : Hid (cmdF m s = (m, e)) := by
        unfold Hid
        rw [HF.out]
        exact if_pos he
      rw [errV_pos he]
      go_wp2_with (first | ((first | refine Mix.wpList_guarded rfl ?_ | refine Mix.wp_still (by kernel_rfl) (by kernel_rfl) ?_); (repeat' (first | (refine Mix.lex_quiet0 rfl rfl rfl ?_; intro K hK; go_big_quiet_op; go_big_quiet_on) | (refine Mix.lex_quietG rfl rfl rfl (by with_reducible rfl) rfl rfl ?_; intro K hK; go_big_quiet_op; go_big_quiet_on) | ((first | refine Mix.lex_skipT rfl rfl rfl (by with_reducible rfl) ?_ | refine Mix.lex_skipF rfl rfl rfl (by with_reducible rfl) ?_ | refine Mix.lex_skipU rfl rfl rfl (by with_reducible rfl) ?_); simp only [Act.put, List.setIfInBounds_toArray, List.set_cons_succ, List.set_cons_zero]) | (refine Mix.lex_part rfl rfl rfl rfl (fun hq => ?_) (fun hq => ?_) <;> (fail_if_success (guard_hyp hq :ₛ true = true)) <;> (fail_if_success (guard_hyp hq :ₛ false = false)) <;> first | (exfalso; cases hq; done) | (exfalso; simp only [decide_eq_true_eq, decide_eq_false_iff_not, beq_iff_eq, beq_eq_false_iff_ne, ne_eq, Int.not_lt, Int.not_le] at hq; omega) | simp only [Act.put, List.setIfInBounds_toArray, List.set_cons_succ, List.set_cons_zero]))); all_goals (refine Mix.lex_nil ?_)))
      go_ret
      exact ⟨v, ini ++ [(a, r)], by rw [HF2.out, errV_pos he]; rfl, by rw [HF2.out]; exact P1.out⟩
end Go.Proofs.YtnhaekifcieeoaaGreatDoor
