/- The document's lined, a part. -/
import Derived.Test.YtianieboefgjbaaDoorRl1
import Derived.Test.YtianieboefgjbaaDoorRl2
import Derived.Test.YtianieboefgjbaaDoorRl3
namespace Go.Proofs.YtianieboefgjbaaDoor
open Go Go.RowKit
set_option maxRecDepth 100000 in
set_option maxHeartbeats 8000000 in
theorem Ln_head1 {w : World} {v : MkV} {rs : List (RulA × Rul)} {m : Mk} {k : Nat} (hS : MakeS w v rs m) (hf : m.Fit k) (hk : k ≤ 10000) (s : Str) (hs : s.length ≤ 600) (hs0 : 0 < s.length) (k35 : ¬ s[0] = 35) (k9 : ¬ s[0] = 9) (hph : ¬ Lib.hasPrefix s phonyT = true) (hc1 : Lib.cut s eqT = (s, [], false)) (hc2 : fndI s eqT 0 = -1) (h5 : 5 < s.length) (g6 : (s.take 6 == phonyT) = false) :
    Calls Tryd.prog 16 #[mkV v m, S s] w (HdRes w (lineF m s)) := by
  obtain ⟨vA, vc, rA, rc, pA, pc⟩ := v
  obtain ⟨g2, hg2⟩ : ∃ g, g = w.heap.size := ⟨_, rfl⟩
  obtain ⟨w1, hw1⟩ : ∃ u, u = w.alloc (.cells #[.slice vA m.vars.length vc, .slice rA m.rules.length rc, .slice pA m.phony.length pc] makeT) := ⟨_, rfl⟩
  have x1 : Ext w w1 := by rw [hw1]; exact (Only.refl No w).alloc _
  have hc1 : Cs w1 g2 makeT #[.slice vA m.vars.length vc, .slice rA m.rules.length rc, .slice pA m.phony.length pc] := by rw [hw1, hg2]; exact Cs.new _ _ _
  obtain ⟨g4, hg4⟩ : ∃ g, g = w1.heap.size := ⟨_, rfl⟩
  obtain ⟨w2, hw2⟩ : ∃ u, u = w1.alloc (.cells #[.slice none 0 0, .slice none 0 0, .slice none 0 0] makeT) := ⟨_, rfl⟩
  have x2 : Ext w1 w2 := by rw [hw2]; exact (Only.refl No w1).alloc _
  have C4 : Hid (Cs w2 g4 makeT #[.slice none 0 0, .slice none 0 0, .slice none 0 0]) := by rw [hw2, hg4]; exact Cs.new _ _ _
  have CB := Lib.hid (hc1.keep x2 id)
  have hz : g4 = g2 + 1 := by rw [hg4, hg2, hw1]; simp
  have hz2 : w.heap.size ≤ g2 := by omega
  have hz4 : w.heap.size ≤ g4 := by omega
  have hz24 : g2 ≠ g4 := by omega
  have XB := Lib.hid (x1.then_ext x2)
  have HX : Hid (∀ u v', Ext w2 u → Only (fun b => b = g4) u v' → Ext w v') := fun u v' h1 h2 => (XB.out.then_ext h1).trans h2 fun b hb e => by have e : b = g4 := e; omega
  have HSt := Lib.hid hS
  have h := hS.here
  have H := Lib.hid h
  clear hS
  clear x1 x2 hc1
  have hr10 : m.rules.length ≤ 10 := hf.r
  have hv6 : m.vars.length ≤ 6 := hf.v
  have hp10 : m.phony.length ≤ 10000 := by have := hf.p; omega
  have HFt := Lib.hid hf
  have c0 : w2.cell? ⟨g2, 0, none⟩ = some (.slice vA m.vars.length vc) := CB.out.cell 0
  have c1 : w2.cell? ⟨g2, 1, none⟩ = some (.slice rA m.rules.length rc) := CB.out.cell 1
  have c2 : w2.cell? ⟨g2, 2, none⟩ = some (.slice pA m.phony.length pc) := CB.out.cell 2
  have X0 : Hid (Ext w2 w2) := Only.refl _ _
  clear h hf
  obtain ⟨x, hx0⟩ : ∃ x, s[0] = x := ⟨_, rfl⟩
  have hne : (s == ([] : Str)) = false := by
    cases s with
    | nil => simp at hs0
    | cons a l => rfl
  have HF : Hid (lineF m s = if x = 35 then (m, 0) else if x = 9 then cmdF m (s.drop 1) else if Lib.hasPrefix s phonyT = true then phoF m (s.drop 6) else if (Lib.cut s eqT).2.2 = true then varF m (Lib.cut s eqT).1 (Lib.cut s eqT).2.1 else headF m s) := by
    cases s with
    | nil => simp at hs0
    | cons a l =>
      have : a = x := hx0
      subst this
      exact lineF_cons m a l
  have h35 : ¬ x = 35 := by rw [← hx0]; exact k35
  have q1' : (((x.toNat : Int)) == 35) = false := (byte_eq' x 35).trans (decide_eq_false h35)
  have HF2 := Lib.hid (HF.out.trans (if_neg h35))
  clear HF h35
  have h9 : ¬ x = 9 := by rw [← hx0]; exact k9
  have q2' : (((x.toNat : Int)) == 9) = false := (byte_eq' x 9).trans (decide_eq_false h9)
  have HF3 := Lib.hid (HF2.out.trans (if_neg h9))
  clear h9 HF2
  have HF4 := Lib.hid (HF3.out.trans (if_neg hph))
  clear HF3 hph
  have HC := Lib.hid (fun v => rfind3_c s (by omega) 32 61 32 0 (Nat.zero_le _) v)
  rw [hc2] at HC
  rw [hc1] at HF4
  have HFE : Hid (lineF m s = headF m s) := HF4.out.trans (if_neg (by simp))
  have HH := Lib.hid (fun (v : World) (hv : Ext w2 v) => Headed_c (HSt.out.ext (XB.out.then_ext hv)) HFt.out s hs)
  clear hc1 hc2 HF4
  have g5 : decide ((5 : Int) < (s.length : Int)) = true := by rw [decide_eq_true_iff]; omega
  show Calls _ _ #[.agg #[.slice vA m.vars.length vc, .slice rA m.rules.length rc, .slice pA m.phony.length pc], S s] _ _
  go_enter Tryd.func16, Tryd.ntmps16
  go_upto_region 1 with fail
  rw [← hw1, ← hg2, ← hw2, ← hz]
  clear hw1 hg2 hw2 hg4 hz
  go_wp2_with (first | (refine Mix.wpList_guarded rfl ?_; (repeat' (first | (refine Mix.lex_quiet0 rfl rfl rfl ?_; intro K hK; go_big_quiet_op; go_big_quiet_on) | (refine Mix.lex_quietG rfl rfl rfl (by with_reducible rfl) rfl rfl ?_; intro K hK; go_big_quiet_op; go_big_quiet_on) | ((first | refine Mix.lex_skipT rfl rfl rfl (by with_reducible rfl) ?_ | refine Mix.lex_skipF rfl rfl rfl (by with_reducible rfl) ?_ | refine Mix.lex_skipU rfl rfl rfl (by with_reducible rfl) ?_); simp only [Act.put, List.setIfInBounds_toArray, List.set_cons_succ, List.set_cons_zero]) | (refine Mix.lex_part rfl rfl rfl rfl (fun hq => ?_) (fun hq => ?_) <;> (fail_if_success (guard_hyp hq :ₛ true = true)) <;> (fail_if_success (guard_hyp hq :ₛ false = false)) <;> first | (exfalso; cases hq; done) | (exfalso; simp only [decide_eq_true_eq, decide_eq_false_iff_not, beq_iff_eq, beq_eq_false_iff_ne, ne_eq, Int.not_lt, Int.not_le] at hq; omega) | simp only [Act.put, List.setIfInBounds_toArray, List.set_cons_succ, List.set_cons_zero]))); all_goals (refine Mix.lex_nil ?_)) | (refine Mix.wp_still (by kernel_rfl) (by kernel_rfl) ?_; (repeat' (first | (refine Mix.lex_quiet0 rfl rfl rfl ?_; intro K hK; go_big_quiet_op; go_big_quiet_on) | (refine Mix.lex_quietG rfl rfl rfl (by with_reducible rfl) rfl rfl ?_; intro K hK; go_big_quiet_op; go_big_quiet_on) | ((first | refine Mix.lex_skipT rfl rfl rfl (by with_reducible rfl) ?_ | refine Mix.lex_skipF rfl rfl rfl (by with_reducible rfl) ?_ | refine Mix.lex_skipU rfl rfl rfl (by with_reducible rfl) ?_); simp only [Act.put, List.setIfInBounds_toArray, List.set_cons_succ, List.set_cons_zero]) | (refine Mix.lex_part rfl rfl rfl rfl (fun hq => ?_) (fun hq => ?_) <;> (fail_if_success (guard_hyp hq :ₛ true = true)) <;> (fail_if_success (guard_hyp hq :ₛ false = false)) <;> first | (exfalso; cases hq; done) | (exfalso; simp only [decide_eq_true_eq, decide_eq_false_iff_not, beq_iff_eq, beq_eq_false_iff_ne, ne_eq, Int.not_lt, Int.not_le] at hq; omega) | simp only [Act.put, List.setIfInBounds_toArray, List.set_cons_succ, List.set_cons_zero]))); all_goals (refine Mix.lex_nil ?_)))
  refine (HC.out _).mono ?_
  rintro e' u1 ⟨rfl, hu⟩
  have X1 := Lib.hid hu
  have hB1 := CB.out.keep hu id
  have q0 : u1.cell? ⟨g2, 0, none⟩ = some (.slice vA m.vars.length vc) := hB1.cell 0
  have q1 : u1.cell? ⟨g2, 1, none⟩ = some (.slice rA m.rules.length rc) := hB1.cell 1
  have q2 : u1.cell? ⟨g2, 2, none⟩ = some (.slice pA m.phony.length pc) := hB1.cell 2
  clear hu hB1 c0 c1 c2 HC
  go_wp2_with (first | (refine Mix.wpList_guarded rfl ?_; (repeat' (first | (refine Mix.lex_quiet0 rfl rfl rfl ?_; intro K hK; go_big_quiet_op; go_big_quiet_on) | (refine Mix.lex_quietG rfl rfl rfl (by with_reducible rfl) rfl rfl ?_; intro K hK; go_big_quiet_op; go_big_quiet_on) | ((first | refine Mix.lex_skipT rfl rfl rfl (by with_reducible rfl) ?_ | refine Mix.lex_skipF rfl rfl rfl (by with_reducible rfl) ?_ | refine Mix.lex_skipU rfl rfl rfl (by with_reducible rfl) ?_); simp only [Act.put, List.setIfInBounds_toArray, List.set_cons_succ, List.set_cons_zero]) | (refine Mix.lex_part rfl rfl rfl rfl (fun hq => ?_) (fun hq => ?_) <;> (fail_if_success (guard_hyp hq :ₛ true = true)) <;> (fail_if_success (guard_hyp hq :ₛ false = false)) <;> first | (exfalso; cases hq; done) | (exfalso; simp only [decide_eq_true_eq, decide_eq_false_iff_not, beq_iff_eq, beq_eq_false_iff_ne, ne_eq, Int.not_lt, Int.not_le] at hq; omega) | simp only [Act.put, List.setIfInBounds_toArray, List.set_cons_succ, List.set_cons_zero]))); all_goals (refine Mix.lex_nil ?_)) | (refine Mix.wp_still (by kernel_rfl) (by kernel_rfl) ?_; (repeat' (first | (refine Mix.lex_quiet0 rfl rfl rfl ?_; intro K hK; go_big_quiet_op; go_big_quiet_on) | (refine Mix.lex_quietG rfl rfl rfl (by with_reducible rfl) rfl rfl ?_; intro K hK; go_big_quiet_op; go_big_quiet_on) | ((first | refine Mix.lex_skipT rfl rfl rfl (by with_reducible rfl) ?_ | refine Mix.lex_skipF rfl rfl rfl (by with_reducible rfl) ?_ | refine Mix.lex_skipU rfl rfl rfl (by with_reducible rfl) ?_); simp only [Act.put, List.setIfInBounds_toArray, List.set_cons_succ, List.set_cons_zero]) | (refine Mix.lex_part rfl rfl rfl rfl (fun hq => ?_) (fun hq => ?_) <;> (fail_if_success (guard_hyp hq :ₛ true = true)) <;> (fail_if_success (guard_hyp hq :ₛ false = false)) <;> first | (exfalso; cases hq; done) | (exfalso; simp only [decide_eq_true_eq, decide_eq_false_iff_not, beq_iff_eq, beq_eq_false_iff_ne, ne_eq, Int.not_lt, Int.not_le] at hq; omega) | simp only [Act.put, List.setIfInBounds_toArray, List.set_cons_succ, List.set_cons_zero]))); all_goals (refine Mix.lex_nil ?_)))
  refine (HH.out _ X1.out).mono ?_
  rintro e' u2 ⟨v', rs', rfl, hM, hx⟩
  have X2 := Lib.hid (X1.out.then_ext hx)
  have HM2 := Lib.hid hM
  obtain ⟨vA', vc', rA', rc', pA', pc'⟩ := v'
  clear hx hM X1 q0 q1 q2 HH
  have D4 := Lib.hid (C4.out.keep X2.out id)
  have e0 : u2.cell? ⟨g4, 0, none⟩ = some (.slice none 0 0) := D4.out.cell 0
  have e1 : u2.cell? ⟨g4, 1, none⟩ = some (.slice none 0 0) := D4.out.cell 1
  have e2 : u2.cell? ⟨g4, 2, none⟩ = some (.slice none 0 0) := D4.out.cell 2
  have z0 := D4.out.frozen 0
  have z1 := D4.out.frozen 1
  have z2 := D4.out.frozen 2
  have HO : Hid (∀ a b c, Only (fun b => b = g4) u2 (((u2.setCell ⟨g4, 0, none⟩ a).setCell ⟨g4, 1, none⟩ b).setCell ⟨g4, 2, none⟩ c)) := fun a b c => (((Only.refl _ _).at_ 0 a).at_ 1 b).at_ 2 c
  have HS : Hid (∀ a b c, Cs (((u2.setCell ⟨g4, 0, none⟩ a).setCell ⟨g4, 1, none⟩ b).setCell ⟨g4, 2, none⟩ c) g4 makeT #[a, b, c]) := fun a b c => ((D4.out.set_ 0 a).set_ 1 b).set_ 2 c
  go_wp2_with (first | (refine Mix.wpList_guarded rfl ?_; (repeat' (first | (refine Mix.lex_quiet0 rfl rfl rfl ?_; intro K hK; go_big_quiet_op; go_big_quiet_on) | (refine Mix.lex_quietG rfl rfl rfl (by with_reducible rfl) rfl rfl ?_; intro K hK; go_big_quiet_op; go_big_quiet_on) | ((first | refine Mix.lex_skipT rfl rfl rfl (by with_reducible rfl) ?_ | refine Mix.lex_skipF rfl rfl rfl (by with_reducible rfl) ?_ | refine Mix.lex_skipU rfl rfl rfl (by with_reducible rfl) ?_); simp only [Act.put, List.setIfInBounds_toArray, List.set_cons_succ, List.set_cons_zero]) | (refine Mix.lex_part rfl rfl rfl rfl (fun hq => ?_) (fun hq => ?_) <;> (fail_if_success (guard_hyp hq :ₛ true = true)) <;> (fail_if_success (guard_hyp hq :ₛ false = false)) <;> first | (exfalso; cases hq; done) | (exfalso; simp only [decide_eq_true_eq, decide_eq_false_iff_not, beq_iff_eq, beq_eq_false_iff_ne, ne_eq, Int.not_lt, Int.not_le] at hq; omega) | simp only [Act.put, List.setIfInBounds_toArray, List.set_cons_succ, List.set_cons_zero]))); all_goals (refine Mix.lex_nil ?_)) | (refine Mix.wp_still (by kernel_rfl) (by kernel_rfl) ?_; (repeat' (first | (refine Mix.lex_quiet0 rfl rfl rfl ?_; intro K hK; go_big_quiet_op; go_big_quiet_on) | (refine Mix.lex_quietG rfl rfl rfl (by with_reducible rfl) rfl rfl ?_; intro K hK; go_big_quiet_op; go_big_quiet_on) | ((first | refine Mix.lex_skipT rfl rfl rfl (by with_reducible rfl) ?_ | refine Mix.lex_skipF rfl rfl rfl (by with_reducible rfl) ?_ | refine Mix.lex_skipU rfl rfl rfl (by with_reducible rfl) ?_); simp only [Act.put, List.setIfInBounds_toArray, List.set_cons_succ, List.set_cons_zero]) | (refine Mix.lex_part rfl rfl rfl rfl (fun hq => ?_) (fun hq => ?_) <;> (fail_if_success (guard_hyp hq :ₛ true = true)) <;> (fail_if_success (guard_hyp hq :ₛ false = false)) <;> first | (exfalso; cases hq; done) | (exfalso; simp only [decide_eq_true_eq, decide_eq_false_iff_not, beq_iff_eq, beq_eq_false_iff_ne, ne_eq, Int.not_lt, Int.not_le] at hq; omega) | simp only [Act.put, List.setIfInBounds_toArray, List.set_cons_succ, List.set_cons_zero]))); all_goals (refine Mix.lex_nil ?_)))
  have hl := load_mk (HS.out (.slice vA' (headF m s).1.vars.length vc') (.slice rA' (headF m s).1.rules.length rc') (.slice pA' (headF m s).1.phony.length pc'))
  refine bodyPost_cell (p := 4) (u := 5) (ty := makeT) (ad := ⟨g4, 0, none⟩) rfl rfl rfl hl ?_
  rw [HFE.out]
  exact ⟨⟨vA', vc', rA', rc', pA', pc'⟩, rs', rfl, HM2.out.at_ D4.out (HO.out _ _ _), HX.out _ _ X2.out (HO.out _ _ _)⟩
set_option maxRecDepth 100000 in
set_option maxHeartbeats 8000000 in
theorem Ln_head0 {w : World} {v : MkV} {rs : List (RulA × Rul)} {m : Mk} {k : Nat} (hS : MakeS w v rs m) (hf : m.Fit k) (hk : k ≤ 10000) (s : Str) (hs : s.length ≤ 600) (hs0 : 0 < s.length) (k35 : ¬ s[0] = 35) (k9 : ¬ s[0] = 9) (hph : ¬ Lib.hasPrefix s phonyT = true) (hc1 : Lib.cut s eqT = (s, [], false)) (hc2 : fndI s eqT 0 = -1) (h5 : ¬ 5 < s.length) :
    Calls Tryd.prog 16 #[mkV v m, S s] w (HdRes w (lineF m s)) := by
  obtain ⟨vA, vc, rA, rc, pA, pc⟩ := v
  obtain ⟨g2, hg2⟩ : ∃ g, g = w.heap.size := ⟨_, rfl⟩
  obtain ⟨w1, hw1⟩ : ∃ u, u = w.alloc (.cells #[.slice vA m.vars.length vc, .slice rA m.rules.length rc, .slice pA m.phony.length pc] makeT) := ⟨_, rfl⟩
  have x1 : Ext w w1 := by rw [hw1]; exact (Only.refl No w).alloc _
  have hc1 : Cs w1 g2 makeT #[.slice vA m.vars.length vc, .slice rA m.rules.length rc, .slice pA m.phony.length pc] := by rw [hw1, hg2]; exact Cs.new _ _ _
  obtain ⟨g4, hg4⟩ : ∃ g, g = w1.heap.size := ⟨_, rfl⟩
  obtain ⟨w2, hw2⟩ : ∃ u, u = w1.alloc (.cells #[.slice none 0 0, .slice none 0 0, .slice none 0 0] makeT) := ⟨_, rfl⟩
  have x2 : Ext w1 w2 := by rw [hw2]; exact (Only.refl No w1).alloc _
  have C4 : Hid (Cs w2 g4 makeT #[.slice none 0 0, .slice none 0 0, .slice none 0 0]) := by rw [hw2, hg4]; exact Cs.new _ _ _
  have CB := Lib.hid (hc1.keep x2 id)
  have hz : g4 = g2 + 1 := by rw [hg4, hg2, hw1]; simp
  have hz2 : w.heap.size ≤ g2 := by omega
  have hz4 : w.heap.size ≤ g4 := by omega
  have hz24 : g2 ≠ g4 := by omega
  have XB := Lib.hid (x1.then_ext x2)
  have HX : Hid (∀ u v', Ext w2 u → Only (fun b => b = g4) u v' → Ext w v') := fun u v' h1 h2 => (XB.out.then_ext h1).trans h2 fun b hb e => by have e : b = g4 := e; omega
  have HSt := Lib.hid hS
  have h := hS.here
  have H := Lib.hid h
  clear hS
  clear x1 x2 hc1
  have hr10 : m.rules.length ≤ 10 := hf.r
  have hv6 : m.vars.length ≤ 6 := hf.v
  have hp10 : m.phony.length ≤ 10000 := by have := hf.p; omega
  have HFt := Lib.hid hf
  have c0 : w2.cell? ⟨g2, 0, none⟩ = some (.slice vA m.vars.length vc) := CB.out.cell 0
  have c1 : w2.cell? ⟨g2, 1, none⟩ = some (.slice rA m.rules.length rc) := CB.out.cell 1
  have c2 : w2.cell? ⟨g2, 2, none⟩ = some (.slice pA m.phony.length pc) := CB.out.cell 2
  have X0 : Hid (Ext w2 w2) := Only.refl _ _
  clear h hf
  obtain ⟨x, hx0⟩ : ∃ x, s[0] = x := ⟨_, rfl⟩
  have hne : (s == ([] : Str)) = false := by
    cases s with
    | nil => simp at hs0
    | cons a l => rfl
  have HF : Hid (lineF m s = if x = 35 then (m, 0) else if x = 9 then cmdF m (s.drop 1) else if Lib.hasPrefix s phonyT = true then phoF m (s.drop 6) else if (Lib.cut s eqT).2.2 = true then varF m (Lib.cut s eqT).1 (Lib.cut s eqT).2.1 else headF m s) := by
    cases s with
    | nil => simp at hs0
    | cons a l =>
      have : a = x := hx0
      subst this
      exact lineF_cons m a l
  have h35 : ¬ x = 35 := by rw [← hx0]; exact k35
  have q1' : (((x.toNat : Int)) == 35) = false := (byte_eq' x 35).trans (decide_eq_false h35)
  have HF2 := Lib.hid (HF.out.trans (if_neg h35))
  clear HF h35
  have h9 : ¬ x = 9 := by rw [← hx0]; exact k9
  have q2' : (((x.toNat : Int)) == 9) = false := (byte_eq' x 9).trans (decide_eq_false h9)
  have HF3 := Lib.hid (HF2.out.trans (if_neg h9))
  clear h9 HF2
  have HF4 := Lib.hid (HF3.out.trans (if_neg hph))
  clear HF3 hph
  have HC := Lib.hid (fun v => rfind3_c s (by omega) 32 61 32 0 (Nat.zero_le _) v)
  rw [hc2] at HC
  rw [hc1] at HF4
  have HFE : Hid (lineF m s = headF m s) := HF4.out.trans (if_neg (by simp))
  have HH := Lib.hid (fun (v : World) (hv : Ext w2 v) => Headed_c (HSt.out.ext (XB.out.then_ext hv)) HFt.out s hs)
  clear hc1 hc2 HF4
  have g5 : decide ((5 : Int) < (s.length : Int)) = false := by rw [decide_eq_false_iff_not]; omega
  show Calls _ _ #[.agg #[.slice vA m.vars.length vc, .slice rA m.rules.length rc, .slice pA m.phony.length pc], S s] _ _
  go_enter Tryd.func16, Tryd.ntmps16
  go_upto_region 1 with fail
  rw [← hw1, ← hg2, ← hw2, ← hz]
  clear hw1 hg2 hw2 hg4 hz
  go_wp2_with (first | (refine Mix.wpList_guarded rfl ?_; (repeat' (first | (refine Mix.lex_quiet0 rfl rfl rfl ?_; intro K hK; go_big_quiet_op; go_big_quiet_on) | (refine Mix.lex_quietG rfl rfl rfl (by with_reducible rfl) rfl rfl ?_; intro K hK; go_big_quiet_op; go_big_quiet_on) | ((first | refine Mix.lex_skipT rfl rfl rfl (by with_reducible rfl) ?_ | refine Mix.lex_skipF rfl rfl rfl (by with_reducible rfl) ?_ | refine Mix.lex_skipU rfl rfl rfl (by with_reducible rfl) ?_); simp only [Act.put, List.setIfInBounds_toArray, List.set_cons_succ, List.set_cons_zero]) | (refine Mix.lex_part rfl rfl rfl rfl (fun hq => ?_) (fun hq => ?_) <;> (fail_if_success (guard_hyp hq :ₛ true = true)) <;> (fail_if_success (guard_hyp hq :ₛ false = false)) <;> first | (exfalso; cases hq; done) | (exfalso; simp only [decide_eq_true_eq, decide_eq_false_iff_not, beq_iff_eq, beq_eq_false_iff_ne, ne_eq, Int.not_lt, Int.not_le] at hq; omega) | simp only [Act.put, List.setIfInBounds_toArray, List.set_cons_succ, List.set_cons_zero]))); all_goals (refine Mix.lex_nil ?_)) | (refine Mix.wp_still (by kernel_rfl) (by kernel_rfl) ?_; (repeat' (first | (refine Mix.lex_quiet0 rfl rfl rfl ?_; intro K hK; go_big_quiet_op; go_big_quiet_on) | (refine Mix.lex_quietG rfl rfl rfl (by with_reducible rfl) rfl rfl ?_; intro K hK; go_big_quiet_op; go_big_quiet_on) | ((first | refine Mix.lex_skipT rfl rfl rfl (by with_reducible rfl) ?_ | refine Mix.lex_skipF rfl rfl rfl (by with_reducible rfl) ?_ | refine Mix.lex_skipU rfl rfl rfl (by with_reducible rfl) ?_); simp only [Act.put, List.setIfInBounds_toArray, List.set_cons_succ, List.set_cons_zero]) | (refine Mix.lex_part rfl rfl rfl rfl (fun hq => ?_) (fun hq => ?_) <;> (fail_if_success (guard_hyp hq :ₛ true = true)) <;> (fail_if_success (guard_hyp hq :ₛ false = false)) <;> first | (exfalso; cases hq; done) | (exfalso; simp only [decide_eq_true_eq, decide_eq_false_iff_not, beq_iff_eq, beq_eq_false_iff_ne, ne_eq, Int.not_lt, Int.not_le] at hq; omega) | simp only [Act.put, List.setIfInBounds_toArray, List.set_cons_succ, List.set_cons_zero]))); all_goals (refine Mix.lex_nil ?_)))
  refine (HC.out _).mono ?_
  rintro e' u1 ⟨rfl, hu⟩
  have X1 := Lib.hid hu
  have hB1 := CB.out.keep hu id
  have q0 : u1.cell? ⟨g2, 0, none⟩ = some (.slice vA m.vars.length vc) := hB1.cell 0
  have q1 : u1.cell? ⟨g2, 1, none⟩ = some (.slice rA m.rules.length rc) := hB1.cell 1
  have q2 : u1.cell? ⟨g2, 2, none⟩ = some (.slice pA m.phony.length pc) := hB1.cell 2
  clear hu hB1 c0 c1 c2 HC
  go_wp2_with (first | (refine Mix.wpList_guarded rfl ?_; (repeat' (first | (refine Mix.lex_quiet0 rfl rfl rfl ?_; intro K hK; go_big_quiet_op; go_big_quiet_on) | (refine Mix.lex_quietG rfl rfl rfl (by with_reducible rfl) rfl rfl ?_; intro K hK; go_big_quiet_op; go_big_quiet_on) | ((first | refine Mix.lex_skipT rfl rfl rfl (by with_reducible rfl) ?_ | refine Mix.lex_skipF rfl rfl rfl (by with_reducible rfl) ?_ | refine Mix.lex_skipU rfl rfl rfl (by with_reducible rfl) ?_); simp only [Act.put, List.setIfInBounds_toArray, List.set_cons_succ, List.set_cons_zero]) | (refine Mix.lex_part rfl rfl rfl rfl (fun hq => ?_) (fun hq => ?_) <;> (fail_if_success (guard_hyp hq :ₛ true = true)) <;> (fail_if_success (guard_hyp hq :ₛ false = false)) <;> first | (exfalso; cases hq; done) | (exfalso; simp only [decide_eq_true_eq, decide_eq_false_iff_not, beq_iff_eq, beq_eq_false_iff_ne, ne_eq, Int.not_lt, Int.not_le] at hq; omega) | simp only [Act.put, List.setIfInBounds_toArray, List.set_cons_succ, List.set_cons_zero]))); all_goals (refine Mix.lex_nil ?_)) | (refine Mix.wp_still (by kernel_rfl) (by kernel_rfl) ?_; (repeat' (first | (refine Mix.lex_quiet0 rfl rfl rfl ?_; intro K hK; go_big_quiet_op; go_big_quiet_on) | (refine Mix.lex_quietG rfl rfl rfl (by with_reducible rfl) rfl rfl ?_; intro K hK; go_big_quiet_op; go_big_quiet_on) | ((first | refine Mix.lex_skipT rfl rfl rfl (by with_reducible rfl) ?_ | refine Mix.lex_skipF rfl rfl rfl (by with_reducible rfl) ?_ | refine Mix.lex_skipU rfl rfl rfl (by with_reducible rfl) ?_); simp only [Act.put, List.setIfInBounds_toArray, List.set_cons_succ, List.set_cons_zero]) | (refine Mix.lex_part rfl rfl rfl rfl (fun hq => ?_) (fun hq => ?_) <;> (fail_if_success (guard_hyp hq :ₛ true = true)) <;> (fail_if_success (guard_hyp hq :ₛ false = false)) <;> first | (exfalso; cases hq; done) | (exfalso; simp only [decide_eq_true_eq, decide_eq_false_iff_not, beq_iff_eq, beq_eq_false_iff_ne, ne_eq, Int.not_lt, Int.not_le] at hq; omega) | simp only [Act.put, List.setIfInBounds_toArray, List.set_cons_succ, List.set_cons_zero]))); all_goals (refine Mix.lex_nil ?_)))
  refine (HH.out _ X1.out).mono ?_
  rintro e' u2 ⟨v', rs', rfl, hM, hx⟩
  have X2 := Lib.hid (X1.out.then_ext hx)
  have HM2 := Lib.hid hM
  obtain ⟨vA', vc', rA', rc', pA', pc'⟩ := v'
  clear hx hM X1 q0 q1 q2 HH
  have D4 := Lib.hid (C4.out.keep X2.out id)
  have e0 : u2.cell? ⟨g4, 0, none⟩ = some (.slice none 0 0) := D4.out.cell 0
  have e1 : u2.cell? ⟨g4, 1, none⟩ = some (.slice none 0 0) := D4.out.cell 1
  have e2 : u2.cell? ⟨g4, 2, none⟩ = some (.slice none 0 0) := D4.out.cell 2
  have z0 := D4.out.frozen 0
  have z1 := D4.out.frozen 1
  have z2 := D4.out.frozen 2
  have HO : Hid (∀ a b c, Only (fun b => b = g4) u2 (((u2.setCell ⟨g4, 0, none⟩ a).setCell ⟨g4, 1, none⟩ b).setCell ⟨g4, 2, none⟩ c)) := fun a b c => (((Only.refl _ _).at_ 0 a).at_ 1 b).at_ 2 c
  have HS : Hid (∀ a b c, Cs (((u2.setCell ⟨g4, 0, none⟩ a).setCell ⟨g4, 1, none⟩ b).setCell ⟨g4, 2, none⟩ c) g4 makeT #[a, b, c]) := fun a b c => ((D4.out.set_ 0 a).set_ 1 b).set_ 2 c
  go_wp2_with (first | (refine Mix.wpList_guarded rfl ?_; (repeat' (first | (refine Mix.lex_quiet0 rfl rfl rfl ?_; intro K hK; go_big_quiet_op; go_big_quiet_on) | (refine Mix.lex_quietG rfl rfl rfl (by with_reducible rfl) rfl rfl ?_; intro K hK; go_big_quiet_op; go_big_quiet_on) | ((first | refine Mix.lex_skipT rfl rfl rfl (by with_reducible rfl) ?_ | refine Mix.lex_skipF rfl rfl rfl (by with_reducible rfl) ?_ | refine Mix.lex_skipU rfl rfl rfl (by with_reducible rfl) ?_); simp only [Act.put, List.setIfInBounds_toArray, List.set_cons_succ, List.set_cons_zero]) | (refine Mix.lex_part rfl rfl rfl rfl (fun hq => ?_) (fun hq => ?_) <;> (fail_if_success (guard_hyp hq :ₛ true = true)) <;> (fail_if_success (guard_hyp hq :ₛ false = false)) <;> first | (exfalso; cases hq; done) | (exfalso; simp only [decide_eq_true_eq, decide_eq_false_iff_not, beq_iff_eq, beq_eq_false_iff_ne, ne_eq, Int.not_lt, Int.not_le] at hq; omega) | simp only [Act.put, List.setIfInBounds_toArray, List.set_cons_succ, List.set_cons_zero]))); all_goals (refine Mix.lex_nil ?_)) | (refine Mix.wp_still (by kernel_rfl) (by kernel_rfl) ?_; (repeat' (first | (refine Mix.lex_quiet0 rfl rfl rfl ?_; intro K hK; go_big_quiet_op; go_big_quiet_on) | (refine Mix.lex_quietG rfl rfl rfl (by with_reducible rfl) rfl rfl ?_; intro K hK; go_big_quiet_op; go_big_quiet_on) | ((first | refine Mix.lex_skipT rfl rfl rfl (by with_reducible rfl) ?_ | refine Mix.lex_skipF rfl rfl rfl (by with_reducible rfl) ?_ | refine Mix.lex_skipU rfl rfl rfl (by with_reducible rfl) ?_); simp only [Act.put, List.setIfInBounds_toArray, List.set_cons_succ, List.set_cons_zero]) | (refine Mix.lex_part rfl rfl rfl rfl (fun hq => ?_) (fun hq => ?_) <;> (fail_if_success (guard_hyp hq :ₛ true = true)) <;> (fail_if_success (guard_hyp hq :ₛ false = false)) <;> first | (exfalso; cases hq; done) | (exfalso; simp only [decide_eq_true_eq, decide_eq_false_iff_not, beq_iff_eq, beq_eq_false_iff_ne, ne_eq, Int.not_lt, Int.not_le] at hq; omega) | simp only [Act.put, List.setIfInBounds_toArray, List.set_cons_succ, List.set_cons_zero]))); all_goals (refine Mix.lex_nil ?_)))
  have hl := load_mk (HS.out (.slice vA' (headF m s).1.vars.length vc') (.slice rA' (headF m s).1.rules.length rc') (.slice pA' (headF m s).1.phony.length pc'))
  refine bodyPost_cell (p := 4) (u := 5) (ty := makeT) (ad := ⟨g4, 0, none⟩) rfl rfl rfl hl ?_
  rw [HFE.out]
  exact ⟨⟨vA', vc', rA', rc', pA', pc'⟩, rs', rfl, HM2.out.at_ D4.out (HO.out _ _ _), HX.out _ _ X2.out (HO.out _ _ _)⟩
theorem Lined_c {w : World} {v : MkV} {rs : List (RulA × Rul)} {m : Mk} {k : Nat} (hS : MakeS w v rs m) (hf : m.Fit k) (hk : k ≤ 10000) (s : Str) (hs : s.length ≤ 600) :
    Calls Tryd.prog 16 #[mkV v m, S s] w (HdRes w (lineF m s)) := by
  by_cases h0 : s.length = 0
  · exact Ln_nil hS hf hk s hs h0
  have hs0 : 0 < s.length := by omega
  by_cases k35 : s[0] = 35
  · exact Ln_note hS hf hk s hs hs0 k35
  by_cases k9 : s[0] = 9
  · rcases List.eq_nil_or_concat rs with rfl | ⟨ini, ⟨a, r⟩, rfl⟩
    · exact Ln_cmd0 hS hf hk s hs hs0 k9
    · rw [List.concat_eq_append] at hS
      exact Ln_cmd hS hf hk s hs hs0 k9
  by_cases hph : Lib.hasPrefix s phonyT = true
  · exact Ln_pho hS hf hk s hs hs0 k35 k9 hph
  have hpf : (5 < s.length ∧ (s.take 6 == phonyT) = false) ∨ ¬ 5 < s.length := by
    rw [← Lib.hasPrefix_of_take, Bool.and_eq_true, decide_eq_true_iff] at hph
    by_cases h : 5 < s.length
    · left
      refine ⟨h, ?_⟩
      cases hb : (s.take 6 == phonyT) with
      | false => rfl
      | true => exact absurd ⟨(by show 6 ≤ s.length; omega), hb⟩ hph
    · exact .inr h
  rcases fndI_cut s eqT with ⟨hc1, hc2⟩ | ⟨i, hc1, hc2, hc3⟩
  · rcases hpf with ⟨h5, g6⟩ | h5
    · exact Ln_head1 hS hf hk s hs hs0 k35 k9 hph hc1 hc2 h5 g6
    · exact Ln_head0 hS hf hk s hs hs0 k35 k9 hph hc1 hc2 h5
  · rcases hpf with ⟨h5, g6⟩ | h5
    · exact Ln_var1 hS hf hk s hs hs0 k35 k9 hph hc1 hc2 hc3 h5 g6
    · exact Ln_var0 hS hf hk s hs hs0 k35 k9 hph hc1 hc2 hc3 h5
end Go.Proofs.YtianieboefgjbaaDoor
