/- The document's lined, a part. -/
import Derived.Test.YtianieboefgjbaaDoorRl0
namespace Go.Proofs.YtianieboefgjbaaDoor
open Go Go.RowKit
set_option maxRecDepth 100000 in
set_option maxHeartbeats 8000000 in
theorem Ln_pho {w : World} {v : MkV} {rs : List (RulA × Rul)} {m : Mk} {k : Nat} (hS : MakeS w v rs m) (hf : m.Fit k) (hk : k ≤ 10000) (s : Str) (hs : s.length ≤ 600) (hs0 : 0 < s.length) (k35 : ¬ s[0] = 35) (k9 : ¬ s[0] = 9) (hph : Lib.hasPrefix s phonyT = true) :
    Calls Tryd.prog 16 #[mkV v m, S s] w (HdRes w (lineF m s)) := by
  obtain ⟨vA, vc, rA, rc, pA, pc⟩ := v
  obtain ⟨g2, hg2⟩ : ∃ g, g = w.heap.size := ⟨_, rfl⟩
  obtain ⟨w1, hw1⟩ : ∃ u, u = w.alloc (.cells #[.slice vA m.vars.length vc, .slice rA m.rules.length rc, .slice pA m.phony.length pc] makeT) := ⟨_, rfl⟩
  have x1 : Ext w w1 := by rw [hw1]; exact (Only.refl No w).alloc _
  have hc1 : Cs w1 g2 makeT #[.slice vA m.vars.length vc, .slice rA m.rules.length rc, .slice pA m.phony.length pc] := by rw [hw1, hg2]; exact Cs.new _ _ _
  obtain ⟨g4, hg4⟩ : ∃ g, g = w1.heap.size := ⟨_, rfl⟩
  obtain ⟨w2, hw2⟩ : ∃ u, u = w1.alloc (.cells #[.slice none 0 0, .slice none 0 0, .slice none 0 0] makeT) := ⟨_, rfl⟩
  have x2 : Ext w1 w2 := by rw [hw2]; exact (Only.refl No w1).alloc _
  have C4 : Hid (Cs w2 g4 makeT #[.slice none 0 0, .slice none 0 0, .slice none 0 0]) := by rw [hw2, hg4]; exact Cs.new _ _ _
  have CB := Lib.hid (hc1.keep x2 id)
  have hz : g4 = g2 + 1 := by rw [hg4, hg2, hw1]; simp
  have hz2 : w.heap.size ≤ g2 := by omega
  have hz4 : w.heap.size ≤ g4 := by omega
  have hz24 : g2 ≠ g4 := by omega
  have XB := Lib.hid (x1.then_ext x2)
  have HX : Hid (∀ u v', Ext w2 u → Only (fun b => b = g4) u v' → Ext w v') := fun u v' h1 h2 => (XB.out.then_ext h1).trans h2 fun b hb e => by have e : b = g4 := e; omega
  have HSt := Lib.hid hS
  have h := hS.here
  have H := Lib.hid h
  clear hS
  clear x1 x2 hc1
  have hr10 : m.rules.length ≤ 10 := hf.r
  have hv6 : m.vars.length ≤ 6 := hf.v
  have hp10 : m.phony.length ≤ 10000 := by have := hf.p; omega
  have HFt := Lib.hid hf
  have c0 : w2.cell? ⟨g2, 0, none⟩ = some (.slice vA m.vars.length vc) := CB.out.cell 0
  have c1 : w2.cell? ⟨g2, 1, none⟩ = some (.slice rA m.rules.length rc) := CB.out.cell 1
  have c2 : w2.cell? ⟨g2, 2, none⟩ = some (.slice pA m.phony.length pc) := CB.out.cell 2
  have X0 : Hid (Ext w2 w2) := Only.refl _ _
  clear h hf
  obtain ⟨x, hx0⟩ : ∃ x, s[0] = x := ⟨_, rfl⟩
  have hne : (s == ([] : Str)) = false := by
    cases s with
    | nil => simp at hs0
    | cons a l => rfl
  have HF : Hid (lineF m s = if x = 35 then (m, 0) else if x = 9 then cmdF m (s.drop 1) else if Lib.hasPrefix s phonyT = true then phoF m (s.drop 6) else if (Lib.cut s eqT).2.2 = true then varF m (Lib.cut s eqT).1 (Lib.cut s eqT).2.1 else headF m s) := by
    cases s with
    | nil => simp at hs0
    | cons a l =>
      have : a = x := hx0
      subst this
      exact lineF_cons m a l
  have h35 : ¬ x = 35 := by rw [← hx0]; exact k35
  have q1' : (((x.toNat : Int)) == 35) = false := (byte_eq' x 35).trans (decide_eq_false h35)
  have HF2 := Lib.hid (HF.out.trans (if_neg h35))
  clear HF h35
  have h9 : ¬ x = 9 := by rw [← hx0]; exact k9
  have q2' : (((x.toNat : Int)) == 9) = false := (byte_eq' x 9).trans (decide_eq_false h9)
  have HF3 := Lib.hid (HF2.out.trans (if_neg h9))
  clear h9 HF2
  have h6 : 6 ≤ s.length := by
    rw [← Lib.hasPrefix_of_take, Bool.and_eq_true, decide_eq_true_iff] at hph
    exact hph.1
  have g5 : decide ((5 : Int) < (s.length : Int)) = true := by rw [decide_eq_true_iff]; omega
  have g6 : (s.take 6 == phonyT) = true := by
    rw [← Lib.hasPrefix_of_take, Bool.and_eq_true] at hph
    exact hph.2
  have HF4 := Lib.hid (HF3.out.trans (if_pos hph))
  have HN := Lib.hid (fun v => NameMay_c (s.drop 6) v (by rw [List.length_drop]; omega))
  have HI := Lib.hid (fun (v : World) (hv : Ext w2 v) => In_c (c := pc) (H.out.fp.ext (XB.out.then_ext hv)) (by omega) (s.drop 6))
  have HF5 : Hid (phoF m (s.drop 6) = if nameB (s.drop 6) = false ∨ inS m.phony (s.drop 6) = true then (m, 3) else (⟨m.vars, m.rules, m.phony ++ [s.drop 6]⟩, 0)) := rfl
  clear hph HF3
  generalize nameB (s.drop 6) = bn at HN HF5
  generalize inS m.phony (s.drop 6) = bi at HI HF5
  show Calls _ _ #[.agg #[.slice vA m.vars.length vc, .slice rA m.rules.length rc, .slice pA m.phony.length pc], S s] _ _
  go_enter Tryd.func16, Tryd.ntmps16
  go_upto_region 1 with fail
  rw [← hw1, ← hg2, ← hw2, ← hz]
  clear hw1 hg2 hw2 hg4 hz
  go_wp2_with (first | (refine Mix.wpList_guarded rfl ?_; (repeat' (first | (refine Mix.lex_quiet0 rfl rfl rfl ?_; intro K hK; go_big_quiet_op; go_big_quiet_on) | (refine Mix.lex_quietG rfl rfl rfl (by with_reducible rfl) rfl rfl ?_; intro K hK; go_big_quiet_op; go_big_quiet_on) | ((first | refine Mix.lex_skipT rfl rfl rfl (by with_reducible rfl) ?_ | refine Mix.lex_skipF rfl rfl rfl (by with_reducible rfl) ?_ | refine Mix.lex_skipU rfl rfl rfl (by with_reducible rfl) ?_); simp only [Act.put, List.setIfInBounds_toArray, List.set_cons_succ, List.set_cons_zero]) | (refine Mix.lex_part rfl rfl rfl rfl (fun hq => ?_) (fun hq => ?_) <;> (fail_if_success (guard_hyp hq :ₛ true = true)) <;> (fail_if_success (guard_hyp hq :ₛ false = false)) <;> first | (exfalso; cases hq; done) | (exfalso; simp only [decide_eq_true_eq, decide_eq_false_iff_not, beq_iff_eq, beq_eq_false_iff_ne, ne_eq, Int.not_lt, Int.not_le] at hq; omega) | simp only [Act.put, List.setIfInBounds_toArray, List.set_cons_succ, List.set_cons_zero]))); all_goals (refine Mix.lex_nil ?_)) | (refine Mix.wp_still (by kernel_rfl) (by kernel_rfl) ?_; (repeat' (first | (refine Mix.lex_quiet0 rfl rfl rfl ?_; intro K hK; go_big_quiet_op; go_big_quiet_on) | (refine Mix.lex_quietG rfl rfl rfl (by with_reducible rfl) rfl rfl ?_; intro K hK; go_big_quiet_op; go_big_quiet_on) | ((first | refine Mix.lex_skipT rfl rfl rfl (by with_reducible rfl) ?_ | refine Mix.lex_skipF rfl rfl rfl (by with_reducible rfl) ?_ | refine Mix.lex_skipU rfl rfl rfl (by with_reducible rfl) ?_); simp only [Act.put, List.setIfInBounds_toArray, List.set_cons_succ, List.set_cons_zero]) | (refine Mix.lex_part rfl rfl rfl rfl (fun hq => ?_) (fun hq => ?_) <;> (fail_if_success (guard_hyp hq :ₛ true = true)) <;> (fail_if_success (guard_hyp hq :ₛ false = false)) <;> first | (exfalso; cases hq; done) | (exfalso; simp only [decide_eq_true_eq, decide_eq_false_iff_not, beq_iff_eq, beq_eq_false_iff_ne, ne_eq, Int.not_lt, Int.not_le] at hq; omega) | simp only [Act.put, List.setIfInBounds_toArray, List.set_cons_succ, List.set_cons_zero]))); all_goals (refine Mix.lex_nil ?_)))
  refine (HN.out _).mono ?_
  rintro e' u1 ⟨rfl, hu⟩
  have X1 := Lib.hid hu
  have d2 : u1.cell? ⟨g2, 2, none⟩ = some (.slice pA m.phony.length pc) := (CB.out.keep hu id).cell 2
  clear hu c0 c1 c2
  go_wp2_with (first | (refine Mix.wpList_guarded rfl ?_; (repeat' (first | (refine Mix.lex_quiet0 rfl rfl rfl ?_; intro K hK; go_big_quiet_op; go_big_quiet_on) | (refine Mix.lex_quietG rfl rfl rfl (by with_reducible rfl) rfl rfl ?_; intro K hK; go_big_quiet_op; go_big_quiet_on) | ((first | refine Mix.lex_skipT rfl rfl rfl (by with_reducible rfl) ?_ | refine Mix.lex_skipF rfl rfl rfl (by with_reducible rfl) ?_ | refine Mix.lex_skipU rfl rfl rfl (by with_reducible rfl) ?_); simp only [Act.put, List.setIfInBounds_toArray, List.set_cons_succ, List.set_cons_zero]) | (refine Mix.lex_part rfl rfl rfl rfl (fun hq => ?_) (fun hq => ?_) <;> (fail_if_success (guard_hyp hq :ₛ true = true)) <;> (fail_if_success (guard_hyp hq :ₛ false = false)) <;> first | (exfalso; cases hq; done) | (exfalso; simp only [decide_eq_true_eq, decide_eq_false_iff_not, beq_iff_eq, beq_eq_false_iff_ne, ne_eq, Int.not_lt, Int.not_le] at hq; omega) | simp only [Act.put, List.setIfInBounds_toArray, List.set_cons_succ, List.set_cons_zero]))); all_goals (refine Mix.lex_nil ?_)) | (refine Mix.wp_still (by kernel_rfl) (by kernel_rfl) ?_; (repeat' (first | (refine Mix.lex_quiet0 rfl rfl rfl ?_; intro K hK; go_big_quiet_op; go_big_quiet_on) | (refine Mix.lex_quietG rfl rfl rfl (by with_reducible rfl) rfl rfl ?_; intro K hK; go_big_quiet_op; go_big_quiet_on) | ((first | refine Mix.lex_skipT rfl rfl rfl (by with_reducible rfl) ?_ | refine Mix.lex_skipF rfl rfl rfl (by with_reducible rfl) ?_ | refine Mix.lex_skipU rfl rfl rfl (by with_reducible rfl) ?_); simp only [Act.put, List.setIfInBounds_toArray, List.set_cons_succ, List.set_cons_zero]) | (refine Mix.lex_part rfl rfl rfl rfl (fun hq => ?_) (fun hq => ?_) <;> (fail_if_success (guard_hyp hq :ₛ true = true)) <;> (fail_if_success (guard_hyp hq :ₛ false = false)) <;> first | (exfalso; cases hq; done) | (exfalso; simp only [decide_eq_true_eq, decide_eq_false_iff_not, beq_iff_eq, beq_eq_false_iff_ne, ne_eq, Int.not_lt, Int.not_le] at hq; omega) | simp only [Act.put, List.setIfInBounds_toArray, List.set_cons_succ, List.set_cons_zero]))); all_goals (refine Mix.lex_nil ?_)))
  refine (HI.out _ X1.out).mono ?_
  rintro e' u2 ⟨rfl, hu⟩
  have X2 := Lib.hid (X1.out.then_ext hu)
  clear hu d2 X1 HI HN
  by_cases hbad : bn = false ∨ bi = true
  · have HF6 := Lib.hid (HF4.out.trans (HF5.out.trans (if_pos hbad)))
    rcases hbad with rfl | rfl
    · clear HF5
      have D2 := Lib.hid (CB.out.keep X2.out id)
      have D4 := Lib.hid (C4.out.keep X2.out id)
      have q0 : u2.cell? ⟨g2, 0, none⟩ = some (.slice vA m.vars.length vc) := D2.out.cell 0
      have q1 : u2.cell? ⟨g2, 1, none⟩ = some (.slice rA m.rules.length rc) := D2.out.cell 1
      have q2 : u2.cell? ⟨g2, 2, none⟩ = some (.slice pA m.phony.length pc) := D2.out.cell 2
      have e0 : u2.cell? ⟨g4, 0, none⟩ = some (.slice none 0 0) := D4.out.cell 0
      have e1 : u2.cell? ⟨g4, 1, none⟩ = some (.slice none 0 0) := D4.out.cell 1
      have e2 : u2.cell? ⟨g4, 2, none⟩ = some (.slice none 0 0) := D4.out.cell 2
      have z0 := D4.out.frozen 0
      have z1 := D4.out.frozen 1
      have z2 := D4.out.frozen 2
      have HO : Hid (∀ a b c, Only (fun b => b = g4) u2 (((u2.setCell ⟨g4, 0, none⟩ a).setCell ⟨g4, 1, none⟩ b).setCell ⟨g4, 2, none⟩ c)) := fun a b c => (((Only.refl _ _).at_ 0 a).at_ 1 b).at_ 2 c
      have HS : Hid (∀ a b c, Cs (((u2.setCell ⟨g4, 0, none⟩ a).setCell ⟨g4, 1, none⟩ b).setCell ⟨g4, 2, none⟩ c) g4 makeT #[a, b, c]) := fun a b c => ((D4.out.set_ 0 a).set_ 1 b).set_ 2 c
      go_wp2_with (first | (refine Mix.wpList_guarded rfl ?_; (repeat' (first | (refine Mix.lex_quiet0 rfl rfl rfl ?_; intro K hK; go_big_quiet_op; go_big_quiet_on) | (refine Mix.lex_quietG rfl rfl rfl (by with_reducible rfl) rfl rfl ?_; intro K hK; go_big_quiet_op; go_big_quiet_on) | ((first | refine Mix.lex_skipT rfl rfl rfl (by with_reducible rfl) ?_ | refine Mix.lex_skipF rfl rfl rfl (by with_reducible rfl) ?_ | refine Mix.lex_skipU rfl rfl rfl (by with_reducible rfl) ?_); simp only [Act.put, List.setIfInBounds_toArray, List.set_cons_succ, List.set_cons_zero]) | (refine Mix.lex_part rfl rfl rfl rfl (fun hq => ?_) (fun hq => ?_) <;> (fail_if_success (guard_hyp hq :ₛ true = true)) <;> (fail_if_success (guard_hyp hq :ₛ false = false)) <;> first | (exfalso; cases hq; done) | (exfalso; simp only [decide_eq_true_eq, decide_eq_false_iff_not, beq_iff_eq, beq_eq_false_iff_ne, ne_eq, Int.not_lt, Int.not_le] at hq; omega) | simp only [Act.put, List.setIfInBounds_toArray, List.set_cons_succ, List.set_cons_zero]))); all_goals (refine Mix.lex_nil ?_)) | (refine Mix.wp_still (by kernel_rfl) (by kernel_rfl) ?_; (repeat' (first | (refine Mix.lex_quiet0 rfl rfl rfl ?_; intro K hK; go_big_quiet_op; go_big_quiet_on) | (refine Mix.lex_quietG rfl rfl rfl (by with_reducible rfl) rfl rfl ?_; intro K hK; go_big_quiet_op; go_big_quiet_on) | ((first | refine Mix.lex_skipT rfl rfl rfl (by with_reducible rfl) ?_ | refine Mix.lex_skipF rfl rfl rfl (by with_reducible rfl) ?_ | refine Mix.lex_skipU rfl rfl rfl (by with_reducible rfl) ?_); simp only [Act.put, List.setIfInBounds_toArray, List.set_cons_succ, List.set_cons_zero]) | (refine Mix.lex_part rfl rfl rfl rfl (fun hq => ?_) (fun hq => ?_) <;> (fail_if_success (guard_hyp hq :ₛ true = true)) <;> (fail_if_success (guard_hyp hq :ₛ false = false)) <;> first | (exfalso; cases hq; done) | (exfalso; simp only [decide_eq_true_eq, decide_eq_false_iff_not, beq_iff_eq, beq_eq_false_iff_ne, ne_eq, Int.not_lt, Int.not_le] at hq; omega) | simp only [Act.put, List.setIfInBounds_toArray, List.set_cons_succ, List.set_cons_zero]))); all_goals (refine Mix.lex_nil ?_)))
      have hl := load_mk (HS.out (.slice vA m.vars.length vc) (.slice rA m.rules.length rc) (.slice pA m.phony.length pc))
      refine bodyPost_cell (p := 4) (u := 5) (ty := makeT) (ad := ⟨g4, 0, none⟩) rfl rfl rfl hl ?_
      rw [HF6.out]
      exact ⟨⟨vA, vc, rA, rc, pA, pc⟩, rs, rfl, HSt.out.ext (HX.out _ _ X2.out (HO.out _ _ _)), HX.out _ _ X2.out (HO.out _ _ _)⟩
    · clear HF5
      cases bn
      · skip
        have D2 := Lib.hid (CB.out.keep X2.out id)
        have D4 := Lib.hid (C4.out.keep X2.out id)
        have q0 : u2.cell? ⟨g2, 0, none⟩ = some (.slice vA m.vars.length vc) := D2.out.cell 0
        have q1 : u2.cell? ⟨g2, 1, none⟩ = some (.slice rA m.rules.length rc) := D2.out.cell 1
        have q2 : u2.cell? ⟨g2, 2, none⟩ = some (.slice pA m.phony.length pc) := D2.out.cell 2
        have e0 : u2.cell? ⟨g4, 0, none⟩ = some (.slice none 0 0) := D4.out.cell 0
        have e1 : u2.cell? ⟨g4, 1, none⟩ = some (.slice none 0 0) := D4.out.cell 1
        have e2 : u2.cell? ⟨g4, 2, none⟩ = some (.slice none 0 0) := D4.out.cell 2
        have z0 := D4.out.frozen 0
        have z1 := D4.out.frozen 1
        have z2 := D4.out.frozen 2
        have HO : Hid (∀ a b c, Only (fun b => b = g4) u2 (((u2.setCell ⟨g4, 0, none⟩ a).setCell ⟨g4, 1, none⟩ b).setCell ⟨g4, 2, none⟩ c)) := fun a b c => (((Only.refl _ _).at_ 0 a).at_ 1 b).at_ 2 c
        have HS : Hid (∀ a b c, Cs (((u2.setCell ⟨g4, 0, none⟩ a).setCell ⟨g4, 1, none⟩ b).setCell ⟨g4, 2, none⟩ c) g4 makeT #[a, b, c]) := fun a b c => ((D4.out.set_ 0 a).set_ 1 b).set_ 2 c
        go_wp2_with (first | (refine Mix.wpList_guarded rfl ?_; (repeat' (first | (refine Mix.lex_quiet0 rfl rfl rfl ?_; intro K hK; go_big_quiet_op; go_big_quiet_on) | (refine Mix.lex_quietG rfl rfl rfl (by with_reducible rfl) rfl rfl ?_; intro K hK; go_big_quiet_op; go_big_quiet_on) | ((first | refine Mix.lex_skipT rfl rfl rfl (by with_reducible rfl) ?_ | refine Mix.lex_skipF rfl rfl rfl (by with_reducible rfl) ?_ | refine Mix.lex_skipU rfl rfl rfl (by with_reducible rfl) ?_); simp only [Act.put, List.setIfInBounds_toArray, List.set_cons_succ, List.set_cons_zero]) | (refine Mix.lex_part rfl rfl rfl rfl (fun hq => ?_) (fun hq => ?_) <;> (fail_if_success (guard_hyp hq :ₛ true = true)) <;> (fail_if_success (guard_hyp hq :ₛ false = false)) <;> first | (exfalso; cases hq; done) | (exfalso; simp only [decide_eq_true_eq, decide_eq_false_iff_not, beq_iff_eq, beq_eq_false_iff_ne, ne_eq, Int.not_lt, Int.not_le] at hq; omega) | simp only [Act.put, List.setIfInBounds_toArray, List.set_cons_succ, List.set_cons_zero]))); all_goals (refine Mix.lex_nil ?_)) | (refine Mix.wp_still (by kernel_rfl) (by kernel_rfl) ?_; (repeat' (first | (refine Mix.lex_quiet0 rfl rfl rfl ?_; intro K hK; go_big_quiet_op; go_big_quiet_on) | (refine Mix.lex_quietG rfl rfl rfl (by with_reducible rfl) rfl rfl ?_; intro K hK; go_big_quiet_op; go_big_quiet_on) | ((first | refine Mix.lex_skipT rfl rfl rfl (by with_reducible rfl) ?_ | refine Mix.lex_skipF rfl rfl rfl (by with_reducible rfl) ?_ | refine Mix.lex_skipU rfl rfl rfl (by with_reducible rfl) ?_); simp only [Act.put, List.setIfInBounds_toArray, List.set_cons_succ, List.set_cons_zero]) | (refine Mix.lex_part rfl rfl rfl rfl (fun hq => ?_) (fun hq => ?_) <;> (fail_if_success (guard_hyp hq :ₛ true = true)) <;> (fail_if_success (guard_hyp hq :ₛ false = false)) <;> first | (exfalso; cases hq; done) | (exfalso; simp only [decide_eq_true_eq, decide_eq_false_iff_not, beq_iff_eq, beq_eq_false_iff_ne, ne_eq, Int.not_lt, Int.not_le] at hq; omega) | simp only [Act.put, List.setIfInBounds_toArray, List.set_cons_succ, List.set_cons_zero]))); all_goals (refine Mix.lex_nil ?_)))
        have hl := load_mk (HS.out (.slice vA m.vars.length vc) (.slice rA m.rules.length rc) (.slice pA m.phony.length pc))
        refine bodyPost_cell (p := 4) (u := 5) (ty := makeT) (ad := ⟨g4, 0, none⟩) rfl rfl rfl hl ?_
        rw [HF6.out]
        exact ⟨⟨vA, vc, rA, rc, pA, pc⟩, rs, rfl, HSt.out.ext (HX.out _ _ X2.out (HO.out _ _ _)), HX.out _ _ X2.out (HO.out _ _ _)⟩
      · skip
        have D2 := Lib.hid (CB.out.keep X2.out id)
        have D4 := Lib.hid (C4.out.keep X2.out id)
        have q0 : u2.cell? ⟨g2, 0, none⟩ = some (.slice vA m.vars.length vc) := D2.out.cell 0
        have q1 : u2.cell? ⟨g2, 1, none⟩ = some (.slice rA m.rules.length rc) := D2.out.cell 1
        have q2 : u2.cell? ⟨g2, 2, none⟩ = some (.slice pA m.phony.length pc) := D2.out.cell 2
        have e0 : u2.cell? ⟨g4, 0, none⟩ = some (.slice none 0 0) := D4.out.cell 0
        have e1 : u2.cell? ⟨g4, 1, none⟩ = some (.slice none 0 0) := D4.out.cell 1
        have e2 : u2.cell? ⟨g4, 2, none⟩ = some (.slice none 0 0) := D4.out.cell 2
        have z0 := D4.out.frozen 0
        have z1 := D4.out.frozen 1
        have z2 := D4.out.frozen 2
        have HO : Hid (∀ a b c, Only (fun b => b = g4) u2 (((u2.setCell ⟨g4, 0, none⟩ a).setCell ⟨g4, 1, none⟩ b).setCell ⟨g4, 2, none⟩ c)) := fun a b c => (((Only.refl _ _).at_ 0 a).at_ 1 b).at_ 2 c
        have HS : Hid (∀ a b c, Cs (((u2.setCell ⟨g4, 0, none⟩ a).setCell ⟨g4, 1, none⟩ b).setCell ⟨g4, 2, none⟩ c) g4 makeT #[a, b, c]) := fun a b c => ((D4.out.set_ 0 a).set_ 1 b).set_ 2 c
        go_wp2_with (first | (refine Mix.wpList_guarded rfl ?_; (repeat' (first | (refine Mix.lex_quiet0 rfl rfl rfl ?_; intro K hK; go_big_quiet_op; go_big_quiet_on) | (refine Mix.lex_quietG rfl rfl rfl (by with_reducible rfl) rfl rfl ?_; intro K hK; go_big_quiet_op; go_big_quiet_on) | ((first | refine Mix.lex_skipT rfl rfl rfl (by with_reducible rfl) ?_ | refine Mix.lex_skipF rfl rfl rfl (by with_reducible rfl) ?_ | refine Mix.lex_skipU rfl rfl rfl (by with_reducible rfl) ?_); simp only [Act.put, List.setIfInBounds_toArray, List.set_cons_succ, List.set_cons_zero]) | (refine Mix.lex_part rfl rfl rfl rfl (fun hq => ?_) (fun hq => ?_) <;> (fail_if_success (guard_hyp hq :ₛ true = true)) <;> (fail_if_success (guard_hyp hq :ₛ false = false)) <;> first | (exfalso; cases hq; done) | (exfalso; simp only [decide_eq_true_eq, decide_eq_false_iff_not, beq_iff_eq, beq_eq_false_iff_ne, ne_eq, Int.not_lt, Int.not_le] at hq; omega) | simp only [Act.put, List.setIfInBounds_toArray, List.set_cons_succ, List.set_cons_zero]))); all_goals (refine Mix.lex_nil ?_)) | (refine Mix.wp_still (by kernel_rfl) (by kernel_rfl) ?_; (repeat' (first | (refine Mix.lex_quiet0 rfl rfl rfl ?_; intro K hK; go_big_quiet_op; go_big_quiet_on) | (refine Mix.lex_quietG rfl rfl rfl (by with_reducible rfl) rfl rfl ?_; intro K hK; go_big_quiet_op; go_big_quiet_on) | ((first | refine Mix.lex_skipT rfl rfl rfl (by with_reducible rfl) ?_ | refine Mix.lex_skipF rfl rfl rfl (by with_reducible rfl) ?_ | refine Mix.lex_skipU rfl rfl rfl (by with_reducible rfl) ?_); simp only [Act.put, List.setIfInBounds_toArray, List.set_cons_succ, List.set_cons_zero]) | (refine Mix.lex_part rfl rfl rfl rfl (fun hq => ?_) (fun hq => ?_) <;> (fail_if_success (guard_hyp hq :ₛ true = true)) <;> (fail_if_success (guard_hyp hq :ₛ false = false)) <;> first | (exfalso; cases hq; done) | (exfalso; simp only [decide_eq_true_eq, decide_eq_false_iff_not, beq_iff_eq, beq_eq_false_iff_ne, ne_eq, Int.not_lt, Int.not_le] at hq; omega) | simp only [Act.put, List.setIfInBounds_toArray, List.set_cons_succ, List.set_cons_zero]))); all_goals (refine Mix.lex_nil ?_)))
        have hl := load_mk (HS.out (.slice vA m.vars.length vc) (.slice rA m.rules.length rc) (.slice pA m.phony.length pc))
        refine bodyPost_cell (p := 4) (u := 5) (ty := makeT) (ad := ⟨g4, 0, none⟩) rfl rfl rfl hl ?_
        rw [HF6.out]
        exact ⟨⟨vA, vc, rA, rc, pA, pc⟩, rs, rfl, HSt.out.ext (HX.out _ _ X2.out (HO.out _ _ _)), HX.out _ _ X2.out (HO.out _ _ _)⟩
  · obtain ⟨rfl, rfl⟩ : bn = true ∧ bi = false := by
      cases bn <;> cases bi <;> simp_all
    have HFE := Lib.hid (HF4.out.trans (HF5.out.trans (if_neg (by simp))))
    clear HF4 HF5 hbad
    have hC2 : Cs u2 g2 makeT #[.slice vA m.vars.length vc, .slice rA m.rules.length rc, .slice pA m.phony.length pc] := CB.out.keep X2.out id
    have hD2 : Cs u2 g4 makeT #[.slice none 0 0, .slice none 0 0, .slice none 0 0] := C4.out.keep X2.out id
    have d2 : u2.cell? ⟨g2, 2, none⟩ = some (.slice pA m.phony.length pc) := hC2.cell 2
    have HPh : Hid (SlR strF u2 pA m.phony.length m.phony) := H.out.fp.ext (XB.out.then_ext X2.out)
    go_upto_region 22 with fail
    refine Mix.wp_plain [1, 2, 4, 5, 7] (Cl u2 (fun q => q = g2)) (Cl.of (Only.refl _ _)) ?_
    (repeat' (first | (refine Mix.lex_quiet0 rfl rfl rfl ?_; intro K hK; go_big_quiet_op; go_big_quiet_on) | (refine Mix.lex_quietG rfl rfl rfl (by with_reducible rfl) rfl rfl ?_; intro K hK; go_big_quiet_op; go_big_quiet_on) | ((first | refine Mix.lex_skipT rfl rfl rfl (by with_reducible rfl) ?_ | refine Mix.lex_skipF rfl rfl rfl (by with_reducible rfl) ?_ | refine Mix.lex_skipU rfl rfl rfl (by with_reducible rfl) ?_); simp only [Act.put, List.setIfInBounds_toArray, List.set_cons_succ, List.set_cons_zero]) | (refine Mix.lex_part rfl rfl rfl rfl (fun hq => ?_) (fun hq => ?_) <;> (fail_if_success (guard_hyp hq :ₛ true = true)) <;> (fail_if_success (guard_hyp hq :ₛ false = false)) <;> first | (exfalso; cases hq; done) | (exfalso; simp only [decide_eq_true_eq, decide_eq_false_iff_not, beq_iff_eq, beq_eq_false_iff_ne, ne_eq, Int.not_lt, Int.not_le] at hq; omega) | simp only [Act.put, List.setIfInBounds_toArray, List.set_cons_succ, List.set_cons_zero])))
    ((first | refine Mix.lex_goes0 rfl rfl ?_ | refine Mix.lex_goesG rfl rfl rfl (by with_reducible rfl) rfl ?_); intro K hK; go_simp)
    refine hK _ _ (fun _ => Cl.of (Only.refl _ _)) ?_
    clear hK K
    simp only [Act.put, List.setIfInBounds_toArray, List.set_cons_succ, List.set_cons_zero]
    refine Mix.lex_goes0 rfl rfl ?_
    intro K hK
    refine goes_append (v := .slice none 0 0) (n := 0) (xs := []) st_ty rfl rfl rfl (World.ownsRow_nil _ _ _ _) (HPh.out.rd (by decide)) (str_enc1 m.phony) (by omega) ?_
    intro A6 c6 w6 hown6 hg6 hb6
    have F6 : Fresh strF 9 u2 w6 A6 c6 m.phony := (Fresh.nil strF 9 u2 u2 (Only.refl _ _)).grow (ys := m.phony) rfl hown6 hg6 hb6
    rw [Nat.zero_add]
    refine hK _ _ (fun _ => Cl.of F6.ext.any) ?_
    clear hK K hown6 hg6 hb6
    simp only [Act.put, List.setIfInBounds_toArray, List.set_cons_succ, List.set_cons_zero]
    (repeat' (first | (refine Mix.lex_quiet0 rfl rfl rfl ?_; intro K hK; go_big_quiet_op; go_big_quiet_on) | (refine Mix.lex_quietG rfl rfl rfl (by with_reducible rfl) rfl rfl ?_; intro K hK; go_big_quiet_op; go_big_quiet_on) | ((first | refine Mix.lex_skipT rfl rfl rfl (by with_reducible rfl) ?_ | refine Mix.lex_skipF rfl rfl rfl (by with_reducible rfl) ?_ | refine Mix.lex_skipU rfl rfl rfl (by with_reducible rfl) ?_); simp only [Act.put, List.setIfInBounds_toArray, List.set_cons_succ, List.set_cons_zero]) | (refine Mix.lex_part rfl rfl rfl rfl (fun hq => ?_) (fun hq => ?_) <;> (fail_if_success (guard_hyp hq :ₛ true = true)) <;> (fail_if_success (guard_hyp hq :ₛ false = false)) <;> first | (exfalso; cases hq; done) | (exfalso; simp only [decide_eq_true_eq, decide_eq_false_iff_not, beq_iff_eq, beq_eq_false_iff_ne, ne_eq, Int.not_lt, Int.not_le] at hq; omega) | simp only [Act.put, List.setIfInBounds_toArray, List.set_cons_succ, List.set_cons_zero])))
    ((first | refine Mix.lex_goes0 rfl rfl ?_ | refine Mix.lex_goesG rfl rfl rfl (by with_reducible rfl) rfl ?_); intro K hK; go_simp)
    obtain ⟨w8, hw8⟩ : ∃ u, u = w6.alloc (.cells #[S (s.drop 6)] 9) := ⟨_, rfl⟩
    obtain ⟨g8, hg8⟩ : ∃ g, g = w6.heap.size := ⟨_, rfl⟩
    have hC8 : Cs w8 g8 9 #[S (s.drop 6)] := by rw [hw8, hg8]; exact Cs.new _ _ _
    have x8 : Ext w6 w8 := by rw [hw8]; exact (Only.refl No _).alloc _
    rw [← hw8, ← hg8]
    refine hK _ _ (fun _ => Cl.of (F6.ext.then_ext x8).any) ?_
    clear hK K hw8 hg8
    simp only [Act.put, List.setIfInBounds_toArray, List.set_cons_succ, List.set_cons_zero]
    refine Mix.lex_goes0 rfl rfl ?_
    intro K hK
    have F8 := F6.on x8
    refine goes_append (v := .slice A6 m.phony.length c6) (n := m.phony.length) (xs := m.phony.flatMap strF.enc) st_ty rfl rfl rfl F8.own (rd_cs (cs := [S (s.drop 6)]) hC8) (by simp [Value.oneCell']) (by omega) ?_
    intro A9 c9 w9 hown9 hg9 hb9
    have F9 : Fresh strF 9 u2 w9 A9 c9 (m.phony ++ [s.drop 6]) := F8.grow (m := 1) (ys := [s.drop 6]) rfl hown9 hg9 hb9
    refine hK _ _ (fun _ => Cl.of F9.ext.any) ?_
    clear hK K hown9 hg9 hb9
    simp only [Act.put, List.setIfInBounds_toArray, List.set_cons_succ, List.set_cons_zero]
    have hC9 := hC2.keep F9.ext id
    have hD9 := hD2.keep F9.ext id
    have d9 : w9.cell? ⟨g2, 2, none⟩ = some (.slice pA m.phony.length pc) := hC9.cell 2
    have z9 := hC9.frozen 2
    (repeat' (first | (refine Mix.lex_quiet0 rfl rfl rfl ?_; intro K hK; go_big_quiet_op; go_big_quiet_on) | (refine Mix.lex_quietG rfl rfl rfl (by with_reducible rfl) rfl rfl ?_; intro K hK; go_big_quiet_op; go_big_quiet_on) | ((first | refine Mix.lex_skipT rfl rfl rfl (by with_reducible rfl) ?_ | refine Mix.lex_skipF rfl rfl rfl (by with_reducible rfl) ?_ | refine Mix.lex_skipU rfl rfl rfl (by with_reducible rfl) ?_); simp only [Act.put, List.setIfInBounds_toArray, List.set_cons_succ, List.set_cons_zero]) | (refine Mix.lex_part rfl rfl rfl rfl (fun hq => ?_) (fun hq => ?_) <;> (fail_if_success (guard_hyp hq :ₛ true = true)) <;> (fail_if_success (guard_hyp hq :ₛ false = false)) <;> first | (exfalso; cases hq; done) | (exfalso; simp only [decide_eq_true_eq, decide_eq_false_iff_not, beq_iff_eq, beq_eq_false_iff_ne, ne_eq, Int.not_lt, Int.not_le] at hq; omega) | simp only [Act.put, List.setIfInBounds_toArray, List.set_cons_succ, List.set_cons_zero])))
    ((first | refine Mix.lex_goes0 rfl rfl ?_ | refine Mix.lex_goesG rfl rfl rfl (by with_reducible rfl) rfl ?_); intro K hK; go_simp)
    obtain ⟨wG, hwG⟩ : ∃ u, u = w9.setCell ⟨g2, 2, none⟩ (.slice A9 (m.phony.length + 1 : Nat) c9) := ⟨_, rfl⟩
    rw [← hwG]
    have OG : Only (fun q => q = g2) w9 wG := by rw [hwG]; exact (Only.refl _ _).at_ _ _
    refine hK _ _ (fun _ => Cl.of (F9.ext.any.trans OG fun q _ e => e)) ?_
    clear hK K
    simp only [Act.put, List.setIfInBounds_toArray, List.set_cons_succ, List.set_cons_zero]
    refine Mix.lex_nil ?_
    have CG := Lib.hid (show Cs wG g2 makeT #[.slice vA m.vars.length vc, .slice rA m.rules.length rc, .slice A9 (m.phony.length + 1 : Nat) c9] by rw [hwG]; exact hC9.set_ 2 _)
    have DG := Lib.hid (show Cs wG g4 makeT #[.slice none 0 0, .slice none 0 0, .slice none 0 0] from hD9.keep OG (fun e => hz24 e.symm))
    have HFin : Hid (∀ wf, Only (fun q => q = g4) wG wf → HdRes w (⟨m.vars, m.rules, m.phony ++ [s.drop 6]⟩, 0) (.returned (.tuple #[.agg #[.slice vA m.vars.length vc, .slice rA m.rules.length rc, .slice A9 (m.phony.length + 1 : Nat) c9], .int .i64 0])) wf) := fun wf h9 =>
      ph_done (w7 := w9) (w8 := wG) (g2 := g2) (g4 := g4) HSt.out hz2 hz4 ((XB.out.then_ext X2.out).then_ext F9.ext) F9.own hC9 OG DG.out h9
    clear hwG OG d9 z9 hC9 hD9 F6 F8 F9 hC8 hC2 hD2 d2
    have q0 : wG.cell? ⟨g2, 0, none⟩ = some (.slice vA m.vars.length vc) := CG.out.cell 0
    have q1 : wG.cell? ⟨g2, 1, none⟩ = some (.slice rA m.rules.length rc) := CG.out.cell 1
    have q2 : wG.cell? ⟨g2, 2, none⟩ = some (.slice A9 (m.phony.length + 1 : Nat) c9) := CG.out.cell 2
    have e0 : wG.cell? ⟨g4, 0, none⟩ = some (.slice none 0 0) := DG.out.cell 0
    have e1 : wG.cell? ⟨g4, 1, none⟩ = some (.slice none 0 0) := DG.out.cell 1
    have e2 : wG.cell? ⟨g4, 2, none⟩ = some (.slice none 0 0) := DG.out.cell 2
    have z0 := DG.out.frozen 0
    have z1 := DG.out.frozen 1
    have z2 := DG.out.frozen 2
    have HO : Hid (∀ a b c, Only (fun b => b = g4) wG (((wG.setCell ⟨g4, 0, none⟩ a).setCell ⟨g4, 1, none⟩ b).setCell ⟨g4, 2, none⟩ c)) := fun a b c => (((Only.refl _ _).at_ 0 a).at_ 1 b).at_ 2 c
    have HS : Hid (∀ a b c, Cs (((wG.setCell ⟨g4, 0, none⟩ a).setCell ⟨g4, 1, none⟩ b).setCell ⟨g4, 2, none⟩ c) g4 makeT #[a, b, c]) := fun a b c => ((DG.out.set_ 0 a).set_ 1 b).set_ 2 c
    go_wp2_with (first | (refine Mix.wpList_guarded rfl ?_; (repeat' (first | (refine Mix.lex_quiet0 rfl rfl rfl ?_; intro K hK; go_big_quiet_op; go_big_quiet_on) | (refine Mix.lex_quietG rfl rfl rfl (by with_reducible rfl) rfl rfl ?_; intro K hK; go_big_quiet_op; go_big_quiet_on) | ((first | refine Mix.lex_skipT rfl rfl rfl (by with_reducible rfl) ?_ | refine Mix.lex_skipF rfl rfl rfl (by with_reducible rfl) ?_ | refine Mix.lex_skipU rfl rfl rfl (by with_reducible rfl) ?_); simp only [Act.put, List.setIfInBounds_toArray, List.set_cons_succ, List.set_cons_zero]) | (refine Mix.lex_part rfl rfl rfl rfl (fun hq => ?_) (fun hq => ?_) <;> (fail_if_success (guard_hyp hq :ₛ true = true)) <;> (fail_if_success (guard_hyp hq :ₛ false = false)) <;> first | (exfalso; cases hq; done) | (exfalso; simp only [decide_eq_true_eq, decide_eq_false_iff_not, beq_iff_eq, beq_eq_false_iff_ne, ne_eq, Int.not_lt, Int.not_le] at hq; omega) | simp only [Act.put, List.setIfInBounds_toArray, List.set_cons_succ, List.set_cons_zero]))); all_goals (refine Mix.lex_nil ?_)) | (refine Mix.wp_still (by kernel_rfl) (by kernel_rfl) ?_; (repeat' (first | (refine Mix.lex_quiet0 rfl rfl rfl ?_; intro K hK; go_big_quiet_op; go_big_quiet_on) | (refine Mix.lex_quietG rfl rfl rfl (by with_reducible rfl) rfl rfl ?_; intro K hK; go_big_quiet_op; go_big_quiet_on) | ((first | refine Mix.lex_skipT rfl rfl rfl (by with_reducible rfl) ?_ | refine Mix.lex_skipF rfl rfl rfl (by with_reducible rfl) ?_ | refine Mix.lex_skipU rfl rfl rfl (by with_reducible rfl) ?_); simp only [Act.put, List.setIfInBounds_toArray, List.set_cons_succ, List.set_cons_zero]) | (refine Mix.lex_part rfl rfl rfl rfl (fun hq => ?_) (fun hq => ?_) <;> (fail_if_success (guard_hyp hq :ₛ true = true)) <;> (fail_if_success (guard_hyp hq :ₛ false = false)) <;> first | (exfalso; cases hq; done) | (exfalso; simp only [decide_eq_true_eq, decide_eq_false_iff_not, beq_iff_eq, beq_eq_false_iff_ne, ne_eq, Int.not_lt, Int.not_le] at hq; omega) | simp only [Act.put, List.setIfInBounds_toArray, List.set_cons_succ, List.set_cons_zero]))); all_goals (refine Mix.lex_nil ?_)))
    have hl := load_mk (HS.out (.slice vA m.vars.length vc) (.slice rA m.rules.length rc) (.slice A9 (m.phony.length + 1 : Nat) c9))
    refine bodyPost_cell (p := 4) (u := 5) (ty := makeT) (ad := ⟨g4, 0, none⟩) rfl rfl rfl hl ?_
    rw [HFE.out]
    obtain ⟨v', rs', he', hM', hE'⟩ := HFin.out _ (HO.out (.slice vA m.vars.length vc) (.slice rA m.rules.length rc) (.slice A9 (m.phony.length + 1 : Nat) c9))
    exact ⟨v', rs', he', hM', hE'⟩
end Go.Proofs.YtianieboefgjbaaDoor
