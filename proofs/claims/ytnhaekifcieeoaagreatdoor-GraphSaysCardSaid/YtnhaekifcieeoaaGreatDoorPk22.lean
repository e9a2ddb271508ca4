/- Put together: Gsa. -/
import Derived.Test.YtnhaekifcieeoaaGreatDoorPk14
import Derived.Test.YtnhaekifcieeoaaGreatDoorPk17
import Derived.Test.YtnhaekifcieeoaaGreatDoorPk21
import Derived.Test.YtnhaekifcieeoaaGreatDoorPk13
namespace Go.Proofs.YtnhaekifcieeoaaGreatDoor
open Go Go.RowKit
theorem grpR_one {w : World} {A : Option Addr} {os : List (RulA × Grp)} {out : List Grp} (h : GrpsR w A os out) (hb : ∀ g ∈ out, GB3 g) (hl : out.length ≤ 10) : GSz out :=
  ⟨by omega, fun g hg => by obtain ⟨q1, q2, q3⟩ := hb g hg; exact ⟨by omega, by omega, by omega⟩⟩
theorem groupsF_b {m : Mk} {l : List File} (hb : GBd m l) (goal : Str) : (∀ g ∈ (groupsF m l goal).1, GB3 g) ∧ (groupsF m l goal).1.length ≤ 10 ∧ 0 ≤ (groupsF m l goal).2 := by
  have h1 := visitF_all (ruleF_b3 hb) 100 [] [] goal (fun g hg => by cases hg)
  have h2 := visitF_len (m := m) (l := l) 100 [] [] goal (Nat.zero_le _)
  have h3 := visitF_nonneg m l 100 [] [] goal
  unfold groupsF
  split
  · exact ⟨(fun g hg => by cases hg), Nat.zero_le _, by simp⟩
  · split
    · exact ⟨(fun g hg => by cases hg), Nat.zero_le _, h3⟩
    · exact ⟨h1, h2, Int.le_refl _⟩
set_option maxRecDepth 100000 in
set_option maxHeartbeats 4000000 in
theorem graphs_c {w : World} (hm : Ml w) : Calls Tryz.prog 8 #[] w fun e w' => e = .returned (.bool true) ∧ Ext w w' := by
  have H0 : Calls Tryz.prog 18 #[S madeT] w (PrsRes w (madeM, 0)) := by
    have := MkParse_c hm madeT (by decide)
    rwa [made_parse] at this
  have HM := Lib.hid hm
  clear hm
  go_enter Tryz.func8, Tryz.ntmps8
  go_wp2_with fail
  refine H0.mono ?_
  rintro e u1 ⟨v, rs, rfl, hR, hu⟩
  have M1 : MakeR u1 v rs madeM := hR No u1 (fun b hb => hb.elim) (Only.refl _ _)
  obtain ⟨g7, hg7⟩ : ∃ g, g = u1.heap.size := ⟨_, rfl⟩
  obtain ⟨w1, hw1⟩ : ∃ u, u = u1.alloc (.cells #[.slice v.vA 0 v.vc, .slice v.rA 1 v.rc, .slice v.pA 0 v.pc] makeT) := ⟨_, rfl⟩
  have x1 : Ext u1 w1 := by rw [hw1]; exact (Only.refl No u1).alloc _
  have C1 : Cs w1 g7 makeT #[.slice v.vA 0 v.vc, .slice v.rA 1 v.rc, .slice v.pA 0 v.pc] := by rw [hw1, hg7]; exact Cs.new _ _ _
  have X1 : Hid (Ext w w1) := hu.then_ext x1
  have M2 := Lib.hid (M1.ext x1)
  have k0 : w1.cell? ⟨g7, 0, none⟩ = some (.slice v.vA 0 v.vc) := C1.cell 0
  have k1 : w1.cell? ⟨g7, 1, none⟩ = some (.slice v.rA 1 v.rc) := C1.cell 1
  have k2 : w1.cell? ⟨g7, 2, none⟩ = some (.slice v.pA 0 v.pc) := C1.cell 2
  clear x1 C1 M1 hu hR H0
  go_upto_region 2 with fail
  rw [← hw1, ← hg7]
  clear hw1 hg7
  rw [errV_zero]
  have hmd := made_bd
  go_wp2_with fail
  have x2 : Ext w1 (w1.alloc (.cells #[S [97], S []] 75)) := (Only.refl No w1).alloc _
  refine (Of_c (lc := 1) ((HM.out.ext X1.out).ext x2) (M2.out.ext x2) (show SlR fileF _ _ madeL.length madeL from SlR.one fileF w1 _ (([97], []) : File) rfl) hmd.1 [98] (by decide) hmd.2.1 hmd.2.2).mono ?_
  rw [made_grps]
  rintro e u4 ⟨A, c, os, rfl, hG, hu⟩
  have X4 : Hid (Ext w u4) := (X1.out.then_ext x2).then_ext hu
  have HG : Hid (GrpsR u4 A os [madeG]) := hG
  have HMk := Lib.hid (fun u (hu : Ext u4 u) => Maker_c (c := c) (HG.out.ext hu) (by decide) (by decide) [98])
  rw [show makerF [madeG] [98] = some 0 from by decide +kernel] at HMk
  clear hu x2 k0 k1 k2 hmd hG
  rw [errV_zero]
  go_upto_region 5 with fail
  refine Mix.wp_plain [1, 9] (Cl u4 No) (Cl.of (Only.refl _ _)) ?_
  (repeat' (refine Mix.lex_quiet0 rfl rfl rfl ?_; intro K hK; go_big_quiet_op; go_big_quiet_on))
  ((first | refine Mix.lex_goes0 rfl rfl ?_ | refine Mix.lex_goesG rfl rfl rfl (by with_reducible rfl) rfl ?_); intro K hK; go_simp)
  refine (same_self 0 (Int.le_refl _) _).mono ?_
  rintro e u5 ⟨rfl, hx⟩
  have X5 := Lib.hid hx
  refine ⟨_, rfl, hK _ _ (fun _ => Cl.of X5.out) ?_⟩
  clear hK K hx
  simp only [Act.put, List.setIfInBounds_toArray, List.set_cons_succ, List.set_cons_zero]
  (repeat' (first | (refine Mix.lex_quiet0 rfl rfl rfl ?_; intro K hK; go_big_quiet_op; go_big_quiet_on) | (refine Mix.lex_quietG rfl rfl rfl (by with_reducible rfl) rfl rfl ?_; intro K hK; go_big_quiet_op; go_big_quiet_on) | ((first | refine Mix.lex_skipT rfl rfl rfl (by with_reducible rfl) ?_ | refine Mix.lex_skipF rfl rfl rfl (by with_reducible rfl) ?_ | refine Mix.lex_skipU rfl rfl rfl (by with_reducible rfl) ?_); simp only [Act.put, List.setIfInBounds_toArray, List.set_cons_succ, List.set_cons_zero]) | (refine Mix.lex_part rfl rfl rfl rfl (fun hq => ?_) (fun hq => ?_) <;> (fail_if_success (guard_hyp hq :ₛ true = true)) <;> (fail_if_success (guard_hyp hq :ₛ false = false)) <;> first | (exfalso; cases hq; done) | (exfalso; simp only [decide_eq_true_eq, decide_eq_false_iff_not, beq_iff_eq, beq_eq_false_iff_ne, ne_eq, Int.not_lt, Int.not_le] at hq; omega) | simp only [Act.put, List.setIfInBounds_toArray, List.set_cons_succ, List.set_cons_zero])))
  ((first | refine Mix.lex_goes0 rfl rfl ?_ | refine Mix.lex_goesG rfl rfl rfl (by with_reducible rfl) rfl ?_); intro K hK; go_simp)
  refine (HMk.out _ X5.out).mono ?_
  rintro e u6 ⟨rfl, hx⟩
  have X6 := Lib.hid (X5.out.then_ext hx)
  refine ⟨_, rfl, hK _ _ (fun _ => Cl.of X6.out) ?_⟩
  clear hK K hx
  simp only [Act.put, List.setIfInBounds_toArray, List.set_cons_succ, List.set_cons_zero]
  rw [show idxI (some 0) = (0 : Int) from rfl]
  (repeat' (first | (refine Mix.lex_quiet0 rfl rfl rfl ?_; intro K hK; go_big_quiet_op; go_big_quiet_on) | (refine Mix.lex_quietG rfl rfl rfl (by with_reducible rfl) rfl rfl ?_; intro K hK; go_big_quiet_op; go_big_quiet_on) | ((first | refine Mix.lex_skipT rfl rfl rfl (by with_reducible rfl) ?_ | refine Mix.lex_skipF rfl rfl rfl (by with_reducible rfl) ?_ | refine Mix.lex_skipU rfl rfl rfl (by with_reducible rfl) ?_); simp only [Act.put, List.setIfInBounds_toArray, List.set_cons_succ, List.set_cons_zero]) | (refine Mix.lex_part rfl rfl rfl rfl (fun hq => ?_) (fun hq => ?_) <;> (fail_if_success (guard_hyp hq :ₛ true = true)) <;> (fail_if_success (guard_hyp hq :ₛ false = false)) <;> first | (exfalso; cases hq; done) | (exfalso; simp only [decide_eq_true_eq, decide_eq_false_iff_not, beq_iff_eq, beq_eq_false_iff_ne, ne_eq, Int.not_lt, Int.not_le] at hq; omega) | simp only [Act.put, List.setIfInBounds_toArray, List.set_cons_succ, List.set_cons_zero])))
  refine Mix.lex_nil ?_
  go_wp2_with fail
  go_ret
  exact ⟨rfl, X4.out.then_ext X6.out⟩
set_option maxRecDepth 100000 in
set_option maxHeartbeats 8000000 in
theorem GraphSays_all {w : World} (hm : Ml w) (s : Str) (hs : s.length ≤ maxLen) {A : Option Addr} {n c : Nat} {xs : List File} (h : SlR fileF w A n xs) (hn0 : n ≤ maxLen) (goal name : Str) (hgl : goal.length ≤ maxLen) (hnl : name.length ≤ maxLen) :
    Calls Tryz.prog 3 #[S s, .slice A n c, S goal, S name] w fun e w' => e = .returned (.bool true) ∧ Ext w w' := by
  have HM := Lib.hid hm
  have HS := Lib.hid h
  have hln := h.1
  have H0 := Lib.hid (graphs_c hm)
  have hs : s.length ≤ 9223372036854775807 := hs
  have hgl : goal.length ≤ 9223372036854775807 := hgl
  have hnl : name.length ≤ 9223372036854775807 := hnl
  have HL : Hid (∀ v, Ext w v → Calls Tryz.prog 9 #[.slice A n c] v fun e w' => e = .returned (.bool (lightF xs)) ∧ Ext v w') := fun v hv => LightFiles_c (HS.out.ext hv) hn0
  obtain ⟨bl, hbl⟩ : ∃ bl, bl = lightF xs := ⟨_, rfl⟩
  rw [← hbl] at HL
  have HBL := Lib.hid hbl
  clear hm h hbl
  go_enter Tryz.func3, Tryz.ntmps3
  go_wp2_with fail
  refine H0.out.mono ?_
  rintro e u0 ⟨rfl, hu⟩
  have U0 := Lib.hid hu
  clear hu H0
  go_upto_region 2 with fail
  rcases Nat.lt_or_ge 800 s.length with h8 | h8
  · have g8 : decide ((800 : Int) < (s.length : Int)) = true := by rw [decide_eq_true_iff]; omega
    go_wp2_with fail
    go_ret
    exact ⟨rfl, U0.out⟩
  have g8 : decide ((800 : Int) < (s.length : Int)) = false := by rw [decide_eq_false_iff_not]; omega
  cases bl with
  | false =>
    refine Mix.wp_plain [9] (Cl u0 No) (Cl.of (Only.refl _ _)) ?_
    (repeat' (first | (refine Mix.lex_quiet0 rfl rfl rfl ?_; intro K hK; go_big_quiet_op; go_big_quiet_on) | (refine Mix.lex_quietG rfl rfl rfl (by with_reducible rfl) rfl rfl ?_; intro K hK; go_big_quiet_op; go_big_quiet_on) | ((first | refine Mix.lex_skipT rfl rfl rfl (by with_reducible rfl) ?_ | refine Mix.lex_skipF rfl rfl rfl (by with_reducible rfl) ?_ | refine Mix.lex_skipU rfl rfl rfl (by with_reducible rfl) ?_); simp only [Act.put, List.setIfInBounds_toArray, List.set_cons_succ, List.set_cons_zero]) | (refine Mix.lex_part rfl rfl rfl rfl (fun hq => ?_) (fun hq => ?_) <;> (fail_if_success (guard_hyp hq :ₛ true = true)) <;> (fail_if_success (guard_hyp hq :ₛ false = false)) <;> first | (exfalso; cases hq; done) | (exfalso; simp only [decide_eq_true_eq, decide_eq_false_iff_not, beq_iff_eq, beq_eq_false_iff_ne, ne_eq, Int.not_lt, Int.not_le] at hq; omega) | simp only [Act.put, List.setIfInBounds_toArray, List.set_cons_succ, List.set_cons_zero])))
    ((first | refine Mix.lex_goes0 rfl rfl ?_ | refine Mix.lex_goesG rfl rfl rfl (by with_reducible rfl) rfl ?_); intro K hK; go_simp)
    refine (HL.out u0 U0.out).mono ?_
    rintro e u1 ⟨rfl, hx2⟩
    have X1 := Lib.hid hx2
    refine ⟨_, rfl, hK _ _ (fun _ => Cl.of X1.out) ?_⟩
    clear hK K hx2
    simp only [Act.put, List.setIfInBounds_toArray, List.set_cons_succ, List.set_cons_zero]
    (repeat' (first | (refine Mix.lex_quiet0 rfl rfl rfl ?_; intro K hK; go_big_quiet_op; go_big_quiet_on) | (refine Mix.lex_quietG rfl rfl rfl (by with_reducible rfl) rfl rfl ?_; intro K hK; go_big_quiet_op; go_big_quiet_on) | ((first | refine Mix.lex_skipT rfl rfl rfl (by with_reducible rfl) ?_ | refine Mix.lex_skipF rfl rfl rfl (by with_reducible rfl) ?_ | refine Mix.lex_skipU rfl rfl rfl (by with_reducible rfl) ?_); simp only [Act.put, List.setIfInBounds_toArray, List.set_cons_succ, List.set_cons_zero]) | (refine Mix.lex_part rfl rfl rfl rfl (fun hq => ?_) (fun hq => ?_) <;> (fail_if_success (guard_hyp hq :ₛ true = true)) <;> (fail_if_success (guard_hyp hq :ₛ false = false)) <;> first | (exfalso; cases hq; done) | (exfalso; simp only [decide_eq_true_eq, decide_eq_false_iff_not, beq_iff_eq, beq_eq_false_iff_ne, ne_eq, Int.not_lt, Int.not_le] at hq; omega) | simp only [Act.put, List.setIfInBounds_toArray, List.set_cons_succ, List.set_cons_zero])))
    refine Mix.lex_nil ?_
    go_wp2_with fail
    go_ret
    exact ⟨rfl, U0.out.then_ext X1.out⟩
  | true =>
    rcases Nat.lt_or_ge 20 goal.length with h2 | h2
    · have g2 : decide ((20 : Int) < (goal.length : Int)) = true := by rw [decide_eq_true_iff]; omega
      refine Mix.wp_plain [9] (Cl u0 No) (Cl.of (Only.refl _ _)) ?_
      (repeat' (first | (refine Mix.lex_quiet0 rfl rfl rfl ?_; intro K hK; go_big_quiet_op; go_big_quiet_on) | (refine Mix.lex_quietG rfl rfl rfl (by with_reducible rfl) rfl rfl ?_; intro K hK; go_big_quiet_op; go_big_quiet_on) | ((first | refine Mix.lex_skipT rfl rfl rfl (by with_reducible rfl) ?_ | refine Mix.lex_skipF rfl rfl rfl (by with_reducible rfl) ?_ | refine Mix.lex_skipU rfl rfl rfl (by with_reducible rfl) ?_); simp only [Act.put, List.setIfInBounds_toArray, List.set_cons_succ, List.set_cons_zero]) | (refine Mix.lex_part rfl rfl rfl rfl (fun hq => ?_) (fun hq => ?_) <;> (fail_if_success (guard_hyp hq :ₛ true = true)) <;> (fail_if_success (guard_hyp hq :ₛ false = false)) <;> first | (exfalso; cases hq; done) | (exfalso; simp only [decide_eq_true_eq, decide_eq_false_iff_not, beq_iff_eq, beq_eq_false_iff_ne, ne_eq, Int.not_lt, Int.not_le] at hq; omega) | simp only [Act.put, List.setIfInBounds_toArray, List.set_cons_succ, List.set_cons_zero])))
      ((first | refine Mix.lex_goes0 rfl rfl ?_ | refine Mix.lex_goesG rfl rfl rfl (by with_reducible rfl) rfl ?_); intro K hK; go_simp)
      refine (HL.out u0 U0.out).mono ?_
      rintro e u1 ⟨rfl, hx2⟩
      have X1 := Lib.hid hx2
      refine ⟨_, rfl, hK _ _ (fun _ => Cl.of X1.out) ?_⟩
      clear hK K hx2
      simp only [Act.put, List.setIfInBounds_toArray, List.set_cons_succ, List.set_cons_zero]
      (repeat' (first | (refine Mix.lex_quiet0 rfl rfl rfl ?_; intro K hK; go_big_quiet_op; go_big_quiet_on) | (refine Mix.lex_quietG rfl rfl rfl (by with_reducible rfl) rfl rfl ?_; intro K hK; go_big_quiet_op; go_big_quiet_on) | ((first | refine Mix.lex_skipT rfl rfl rfl (by with_reducible rfl) ?_ | refine Mix.lex_skipF rfl rfl rfl (by with_reducible rfl) ?_ | refine Mix.lex_skipU rfl rfl rfl (by with_reducible rfl) ?_); simp only [Act.put, List.setIfInBounds_toArray, List.set_cons_succ, List.set_cons_zero]) | (refine Mix.lex_part rfl rfl rfl rfl (fun hq => ?_) (fun hq => ?_) <;> (fail_if_success (guard_hyp hq :ₛ true = true)) <;> (fail_if_success (guard_hyp hq :ₛ false = false)) <;> first | (exfalso; cases hq; done) | (exfalso; simp only [decide_eq_true_eq, decide_eq_false_iff_not, beq_iff_eq, beq_eq_false_iff_ne, ne_eq, Int.not_lt, Int.not_le] at hq; omega) | simp only [Act.put, List.setIfInBounds_toArray, List.set_cons_succ, List.set_cons_zero])))
      refine Mix.lex_nil ?_
      go_wp2_with fail
      go_ret
      exact ⟨rfl, U0.out.then_ext X1.out⟩
    have g2 : decide ((20 : Int) < (goal.length : Int)) = false := by rw [decide_eq_false_iff_not]; omega
    rcases Nat.lt_or_ge 20 name.length with h3 | h3
    · have g3 : decide ((20 : Int) < (name.length : Int)) = true := by rw [decide_eq_true_iff]; omega
      refine Mix.wp_plain [9] (Cl u0 No) (Cl.of (Only.refl _ _)) ?_
      (repeat' (first | (refine Mix.lex_quiet0 rfl rfl rfl ?_; intro K hK; go_big_quiet_op; go_big_quiet_on) | (refine Mix.lex_quietG rfl rfl rfl (by with_reducible rfl) rfl rfl ?_; intro K hK; go_big_quiet_op; go_big_quiet_on) | ((first | refine Mix.lex_skipT rfl rfl rfl (by with_reducible rfl) ?_ | refine Mix.lex_skipF rfl rfl rfl (by with_reducible rfl) ?_ | refine Mix.lex_skipU rfl rfl rfl (by with_reducible rfl) ?_); simp only [Act.put, List.setIfInBounds_toArray, List.set_cons_succ, List.set_cons_zero]) | (refine Mix.lex_part rfl rfl rfl rfl (fun hq => ?_) (fun hq => ?_) <;> (fail_if_success (guard_hyp hq :ₛ true = true)) <;> (fail_if_success (guard_hyp hq :ₛ false = false)) <;> first | (exfalso; cases hq; done) | (exfalso; simp only [decide_eq_true_eq, decide_eq_false_iff_not, beq_iff_eq, beq_eq_false_iff_ne, ne_eq, Int.not_lt, Int.not_le] at hq; omega) | simp only [Act.put, List.setIfInBounds_toArray, List.set_cons_succ, List.set_cons_zero])))
      ((first | refine Mix.lex_goes0 rfl rfl ?_ | refine Mix.lex_goesG rfl rfl rfl (by with_reducible rfl) rfl ?_); intro K hK; go_simp)
      refine (HL.out u0 U0.out).mono ?_
      rintro e u1 ⟨rfl, hx2⟩
      have X1 := Lib.hid hx2
      refine ⟨_, rfl, hK _ _ (fun _ => Cl.of X1.out) ?_⟩
      clear hK K hx2
      simp only [Act.put, List.setIfInBounds_toArray, List.set_cons_succ, List.set_cons_zero]
      (repeat' (first | (refine Mix.lex_quiet0 rfl rfl rfl ?_; intro K hK; go_big_quiet_op; go_big_quiet_on) | (refine Mix.lex_quietG rfl rfl rfl (by with_reducible rfl) rfl rfl ?_; intro K hK; go_big_quiet_op; go_big_quiet_on) | ((first | refine Mix.lex_skipT rfl rfl rfl (by with_reducible rfl) ?_ | refine Mix.lex_skipF rfl rfl rfl (by with_reducible rfl) ?_ | refine Mix.lex_skipU rfl rfl rfl (by with_reducible rfl) ?_); simp only [Act.put, List.setIfInBounds_toArray, List.set_cons_succ, List.set_cons_zero]) | (refine Mix.lex_part rfl rfl rfl rfl (fun hq => ?_) (fun hq => ?_) <;> (fail_if_success (guard_hyp hq :ₛ true = true)) <;> (fail_if_success (guard_hyp hq :ₛ false = false)) <;> first | (exfalso; cases hq; done) | (exfalso; simp only [decide_eq_true_eq, decide_eq_false_iff_not, beq_iff_eq, beq_eq_false_iff_ne, ne_eq, Int.not_lt, Int.not_le] at hq; omega) | simp only [Act.put, List.setIfInBounds_toArray, List.set_cons_succ, List.set_cons_zero])))
      refine Mix.lex_nil ?_
      go_wp2_with fail
      go_ret
      exact ⟨rfl, U0.out.then_ext X1.out⟩
    have g3 : decide ((20 : Int) < (name.length : Int)) = false := by rw [decide_eq_false_iff_not]; omega
    refine Mix.wp_plain [9] (Cl u0 No) (Cl.of (Only.refl _ _)) ?_
    (repeat' (first | (refine Mix.lex_quiet0 rfl rfl rfl ?_; intro K hK; go_big_quiet_op; go_big_quiet_on) | (refine Mix.lex_quietG rfl rfl rfl (by with_reducible rfl) rfl rfl ?_; intro K hK; go_big_quiet_op; go_big_quiet_on) | ((first | refine Mix.lex_skipT rfl rfl rfl (by with_reducible rfl) ?_ | refine Mix.lex_skipF rfl rfl rfl (by with_reducible rfl) ?_ | refine Mix.lex_skipU rfl rfl rfl (by with_reducible rfl) ?_); simp only [Act.put, List.setIfInBounds_toArray, List.set_cons_succ, List.set_cons_zero]) | (refine Mix.lex_part rfl rfl rfl rfl (fun hq => ?_) (fun hq => ?_) <;> (fail_if_success (guard_hyp hq :ₛ true = true)) <;> (fail_if_success (guard_hyp hq :ₛ false = false)) <;> first | (exfalso; cases hq; done) | (exfalso; simp only [decide_eq_true_eq, decide_eq_false_iff_not, beq_iff_eq, beq_eq_false_iff_ne, ne_eq, Int.not_lt, Int.not_le] at hq; omega) | simp only [Act.put, List.setIfInBounds_toArray, List.set_cons_succ, List.set_cons_zero])))
    ((first | refine Mix.lex_goes0 rfl rfl ?_ | refine Mix.lex_goesG rfl rfl rfl (by with_reducible rfl) rfl ?_); intro K hK; go_simp)
    refine (HL.out u0 U0.out).mono ?_
    rintro e u1 ⟨rfl, hx2⟩
    have X1 := Lib.hid hx2
    refine ⟨_, rfl, hK _ _ (fun _ => Cl.of X1.out) ?_⟩
    clear hK K hx2
    simp only [Act.put, List.setIfInBounds_toArray, List.set_cons_succ, List.set_cons_zero]
    (repeat' (first | (refine Mix.lex_quiet0 rfl rfl rfl ?_; intro K hK; go_big_quiet_op; go_big_quiet_on) | (refine Mix.lex_quietG rfl rfl rfl (by with_reducible rfl) rfl rfl ?_; intro K hK; go_big_quiet_op; go_big_quiet_on) | ((first | refine Mix.lex_skipT rfl rfl rfl (by with_reducible rfl) ?_ | refine Mix.lex_skipF rfl rfl rfl (by with_reducible rfl) ?_ | refine Mix.lex_skipU rfl rfl rfl (by with_reducible rfl) ?_); simp only [Act.put, List.setIfInBounds_toArray, List.set_cons_succ, List.set_cons_zero]) | (refine Mix.lex_part rfl rfl rfl rfl (fun hq => ?_) (fun hq => ?_) <;> (fail_if_success (guard_hyp hq :ₛ true = true)) <;> (fail_if_success (guard_hyp hq :ₛ false = false)) <;> first | (exfalso; cases hq; done) | (exfalso; simp only [decide_eq_true_eq, decide_eq_false_iff_not, beq_iff_eq, beq_eq_false_iff_ne, ne_eq, Int.not_lt, Int.not_le] at hq; omega) | simp only [Act.put, List.setIfInBounds_toArray, List.set_cons_succ, List.set_cons_zero])))
    refine Mix.lex_nil ?_
    have HP2 := Lib.hid (fun u => MakeOf_c (w := u) s (by omega))
    have hnn := parseF_nonneg s
    obtain ⟨⟨m, f⟩, hR⟩ : ∃ R, R = parseF s := ⟨_, rfl⟩
    rw [← hR] at HP2 hnn
    have HR := Lib.hid hR
    have hnn : 0 ≤ f := hnn
    clear hR
    go_wp2_with fail
    refine (HP2.out _).mono ?_
    rintro e u2 ⟨v, rs, rfl, hM2, hu⟩
    have hM1 : MakeR u2 v rs m := hM2.here
    obtain ⟨gm, hgm⟩ : ∃ g, g = u2.heap.size := ⟨_, rfl⟩
    obtain ⟨w2, hw2⟩ : ∃ u, u = u2.alloc (.cells #[.slice v.vA m.vars.length v.vc, .slice v.rA m.rules.length v.rc, .slice v.pA m.phony.length v.pc] makeT) := ⟨_, rfl⟩
    have x2 : Ext u2 w2 := by rw [hw2]; exact (Only.refl No u2).alloc _
    have C2 : Hid (Cs w2 gm makeT #[.slice v.vA m.vars.length v.vc, .slice v.rA m.rules.length v.rc, .slice v.pA m.phony.length v.pc]) := by rw [hw2, hgm]; exact Cs.new _ _ _
    have X2 : Hid (Ext w w2) := (U0.out.then_ext X1.out).then_ext (hu.then_ext x2)
    have M2 := Lib.hid (hM1.ext x2)
    clear HP2 hM2 hu hM1 x2 U0 X1
    go_upto_region 5 with fail
    rw [← hw2, ← hgm]
    clear hw2 hgm
    by_cases hf : f = 0
    · subst hf
      have hmR : m = (parseF s).1 := by rw [← HR.out]
      have hl := HBL.out.symm
      have hbd : GBd m xs := hmR ▸ gbd hl
      have HGB := Lib.hid (groupsF_b hbd goal)
      have HOf : Hid (∀ u, Ext w2 u → Calls Tryz.prog 11 #[mkV v m, .slice A n c, S goal] u (OfsRes u (groupsF m xs goal))) := fun u hu => by
        have h1 := Of_c (lc := c) (HM.out.ext (X2.out.then_ext hu)) (M2.out.ext hu) (hln ▸ HS.out.ext (X2.out.then_ext hu)) hbd goal (by omega) (fun _ => hmR ▸ cand_len hl (by omega)) (hmR ▸ cand_few hl goal)
        rw [hln] at h1
        exact h1
      have HGo : Hid (∀ u, Ext w2 u → Calls Tryz.prog 12 #[mkV v m, .slice A n c, S goal] u fun e w' => ∃ (A : Option Addr) (c : Nat) (os : List (RulA × Grp)), e = .returned (.tuple #[.slice A (groupsF m xs goal).1.length c, .int .i64 (groupsF m xs goal).2]) ∧ GrpsR w' A os (groupsF m xs goal).1 ∧ Ext u w') := fun u hu => by
        have h1 := GroupsOf_c (lc := c) (HM.out.ext (X2.out.then_ext hu)) (M2.out.ext hu) (hln ▸ HS.out.ext (X2.out.then_ext hu)) hbd goal (by omega) (fun _ => hmR ▸ cand_len hl (by omega)) (hmR ▸ cand_few hl goal)
        rw [hln] at h1
        exact h1
      obtain ⟨⟨gs, code⟩, hgs⟩ : ∃ R, R = groupsF m xs goal := ⟨_, rfl⟩
      rw [← hgs] at HOf HGo HGB
      have hcn : 0 ≤ code := HGB.out.2.2
      have hg10 : gs.length ≤ 10 := HGB.out.2.1
      have k0 : w2.cell? ⟨gm, 0, none⟩ = some (.slice v.vA m.vars.length v.vc) := C2.out.cell 0
      have k1 : w2.cell? ⟨gm, 1, none⟩ = some (.slice v.rA m.rules.length v.rc) := C2.out.cell 1
      have k2 : w2.cell? ⟨gm, 2, none⟩ = some (.slice v.pA m.phony.length v.pc) := C2.out.cell 2
      clear hmR hl hbd hgs
      go_wp2_with fail
      refine (HOf.out _ (Only.refl _ _)).mono ?_
      rintro e u3 ⟨A3, c3, os3, he, hG3, hx⟩
      have he : e = .returned (.tuple #[.slice A3 gs.length c3, errV code]) := he
      subst he
      have X3 := Lib.hid hx
      have HG3 : Hid (GrpsR u3 A3 os3 gs) := hG3
      have C3 := C2.out.keep hx id
      clear hx hG3 HOf k0 k1 k2
      have k0 : u3.cell? ⟨gm, 0, none⟩ = some (.slice v.vA m.vars.length v.vc) := C3.cell 0
      have k1 : u3.cell? ⟨gm, 1, none⟩ = some (.slice v.rA m.rules.length v.rc) := C3.cell 1
      have k2 : u3.cell? ⟨gm, 2, none⟩ = some (.slice v.pA m.phony.length v.pc) := C3.cell 2
      clear C3
      obtain ⟨ev, hev⟩ : ∃ ev, ev = errV code := ⟨_, rfl⟩
      have HSa : Hid (∀ u, Calls Tryz.prog 13 #[ev, .int .i64 code] u fun e w' => e = .returned (.bool true) ∧ Ext u w') := fun u => by rw [hev]; exact same_self code hcn u
      rw [← hev]
      clear hev
      go_wp2_with fail
      refine (HGo.out _ X3.out).mono ?_
      rintro e u4 ⟨A4, c4, os4, he, hG4, hx⟩
      have he : e = .returned (.tuple #[.slice A4 gs.length c4, .int .i64 code]) := he
      subst he
      have X4 := Lib.hid (X3.out.then_ext hx)
      have HG4 : Hid (GrpsR u4 A4 os4 gs) := hG4
      have HG3' := Lib.hid (HG3.out.ext hx)
      have HSz := Lib.hid (grpR_one HG4.out HGB.out.1 hg10)
      have HSG := Lib.hid (fun u (hu : Ext u4 u) => SameGroups_c (c := c3) (d := c4) (HG3'.out.ext hu) (HG4.out.ext hu) HSz.out)
      have HM3 := Lib.hid (fun u (hu : Ext u4 u) => Maker_c (c := c3) (HG3'.out.ext hu) HSz.out.1 (fun g hg => (HSz.out.2 g hg).1) name)
      have HM4 := Lib.hid (fun u (hu : Ext u4 u) => RMaker_c (c := c4) (HG4.out.ext hu) HSz.out.1 (fun g hg => (HSz.out.2 g hg).1) name)
      generalize idxI (makerF gs name) = ix at HM3 HM4
      clear hx hG4 HGo k0 k1 k2
      go_upto_region 9 with fail
      refine Mix.wp_plain [2, 6, 11, 14] (Cl u4 No) (Cl.of (Only.refl _ _)) ?_
      (repeat' (refine Mix.lex_quiet0 rfl rfl rfl ?_; intro K hK; go_big_quiet_op; go_big_quiet_on))
      ((first | refine Mix.lex_goes0 rfl rfl ?_ | refine Mix.lex_goesG rfl rfl rfl (by with_reducible rfl) rfl ?_); intro K hK; go_simp)
      refine (HSa.out _).mono ?_
      rintro e u5 ⟨rfl, hx⟩
      have X5 := Lib.hid hx
      refine ⟨_, rfl, hK _ _ (fun _ => Cl.of X5.out) ?_⟩
      clear hK K hx
      simp only [Act.put, List.setIfInBounds_toArray, List.set_cons_succ, List.set_cons_zero]
      (repeat' (first | (refine Mix.lex_quiet0 rfl rfl rfl ?_; intro K hK; go_big_quiet_op; go_big_quiet_on) | (refine Mix.lex_quietG rfl rfl rfl (by with_reducible rfl) rfl rfl ?_; intro K hK; go_big_quiet_op; go_big_quiet_on) | ((first | refine Mix.lex_skipT rfl rfl rfl (by with_reducible rfl) ?_ | refine Mix.lex_skipF rfl rfl rfl (by with_reducible rfl) ?_ | refine Mix.lex_skipU rfl rfl rfl (by with_reducible rfl) ?_); simp only [Act.put, List.setIfInBounds_toArray, List.set_cons_succ, List.set_cons_zero]) | (refine Mix.lex_part rfl rfl rfl rfl (fun hq => ?_) (fun hq => ?_) <;> (fail_if_success (guard_hyp hq :ₛ true = true)) <;> (fail_if_success (guard_hyp hq :ₛ false = false)) <;> first | (exfalso; cases hq; done) | (exfalso; simp only [decide_eq_true_eq, decide_eq_false_iff_not, beq_iff_eq, beq_eq_false_iff_ne, ne_eq, Int.not_lt, Int.not_le] at hq; omega) | simp only [Act.put, List.setIfInBounds_toArray, List.set_cons_succ, List.set_cons_zero])))
      ((first | refine Mix.lex_goes0 rfl rfl ?_ | refine Mix.lex_goesG rfl rfl rfl (by with_reducible rfl) rfl ?_); intro K hK; go_simp)
      refine (HSG.out _ X5.out).mono ?_
      rintro e u6 ⟨rfl, hx⟩
      have X6 := Lib.hid (X5.out.then_ext hx)
      refine ⟨_, rfl, hK _ _ (fun _ => Cl.of X6.out) ?_⟩
      clear hK K hx
      simp only [Act.put, List.setIfInBounds_toArray, List.set_cons_succ, List.set_cons_zero]
      (repeat' (first | (refine Mix.lex_quiet0 rfl rfl rfl ?_; intro K hK; go_big_quiet_op; go_big_quiet_on) | (refine Mix.lex_quietG rfl rfl rfl (by with_reducible rfl) rfl rfl ?_; intro K hK; go_big_quiet_op; go_big_quiet_on) | ((first | refine Mix.lex_skipT rfl rfl rfl (by with_reducible rfl) ?_ | refine Mix.lex_skipF rfl rfl rfl (by with_reducible rfl) ?_ | refine Mix.lex_skipU rfl rfl rfl (by with_reducible rfl) ?_); simp only [Act.put, List.setIfInBounds_toArray, List.set_cons_succ, List.set_cons_zero]) | (refine Mix.lex_part rfl rfl rfl rfl (fun hq => ?_) (fun hq => ?_) <;> (fail_if_success (guard_hyp hq :ₛ true = true)) <;> (fail_if_success (guard_hyp hq :ₛ false = false)) <;> first | (exfalso; cases hq; done) | (exfalso; simp only [decide_eq_true_eq, decide_eq_false_iff_not, beq_iff_eq, beq_eq_false_iff_ne, ne_eq, Int.not_lt, Int.not_le] at hq; omega) | simp only [Act.put, List.setIfInBounds_toArray, List.set_cons_succ, List.set_cons_zero])))
      ((first | refine Mix.lex_goes0 rfl rfl ?_ | refine Mix.lex_goesG rfl rfl rfl (by with_reducible rfl) rfl ?_); intro K hK; go_simp)
      refine (HM3.out _ X6.out).mono ?_
      rintro e u7 ⟨rfl, hx⟩
      have X7 := Lib.hid (X6.out.then_ext hx)
      refine ⟨_, rfl, hK _ _ (fun _ => Cl.of X7.out) ?_⟩
      clear hK K hx
      simp only [Act.put, List.setIfInBounds_toArray, List.set_cons_succ, List.set_cons_zero]
      (repeat' (first | (refine Mix.lex_quiet0 rfl rfl rfl ?_; intro K hK; go_big_quiet_op; go_big_quiet_on) | (refine Mix.lex_quietG rfl rfl rfl (by with_reducible rfl) rfl rfl ?_; intro K hK; go_big_quiet_op; go_big_quiet_on) | ((first | refine Mix.lex_skipT rfl rfl rfl (by with_reducible rfl) ?_ | refine Mix.lex_skipF rfl rfl rfl (by with_reducible rfl) ?_ | refine Mix.lex_skipU rfl rfl rfl (by with_reducible rfl) ?_); simp only [Act.put, List.setIfInBounds_toArray, List.set_cons_succ, List.set_cons_zero]) | (refine Mix.lex_part rfl rfl rfl rfl (fun hq => ?_) (fun hq => ?_) <;> (fail_if_success (guard_hyp hq :ₛ true = true)) <;> (fail_if_success (guard_hyp hq :ₛ false = false)) <;> first | (exfalso; cases hq; done) | (exfalso; simp only [decide_eq_true_eq, decide_eq_false_iff_not, beq_iff_eq, beq_eq_false_iff_ne, ne_eq, Int.not_lt, Int.not_le] at hq; omega) | simp only [Act.put, List.setIfInBounds_toArray, List.set_cons_succ, List.set_cons_zero])))
      ((first | refine Mix.lex_goes0 rfl rfl ?_ | refine Mix.lex_goesG rfl rfl rfl (by with_reducible rfl) rfl ?_); intro K hK; go_simp)
      refine (HM4.out _ X7.out).mono ?_
      rintro e u8 ⟨rfl, hx⟩
      have X8 := Lib.hid (X7.out.then_ext hx)
      refine ⟨_, rfl, hK _ _ (fun _ => Cl.of X8.out) ?_⟩
      clear hK K hx
      simp only [Act.put, List.setIfInBounds_toArray, List.set_cons_succ, List.set_cons_zero]
      (repeat' (first | (refine Mix.lex_quiet0 rfl rfl rfl ?_; intro K hK; go_big_quiet_op; go_big_quiet_on) | (refine Mix.lex_quietG rfl rfl rfl (by with_reducible rfl) rfl rfl ?_; intro K hK; go_big_quiet_op; go_big_quiet_on) | ((first | refine Mix.lex_skipT rfl rfl rfl (by with_reducible rfl) ?_ | refine Mix.lex_skipF rfl rfl rfl (by with_reducible rfl) ?_ | refine Mix.lex_skipU rfl rfl rfl (by with_reducible rfl) ?_); simp only [Act.put, List.setIfInBounds_toArray, List.set_cons_succ, List.set_cons_zero]) | (refine Mix.lex_part rfl rfl rfl rfl (fun hq => ?_) (fun hq => ?_) <;> (fail_if_success (guard_hyp hq :ₛ true = true)) <;> (fail_if_success (guard_hyp hq :ₛ false = false)) <;> first | (exfalso; cases hq; done) | (exfalso; simp only [decide_eq_true_eq, decide_eq_false_iff_not, beq_iff_eq, beq_eq_false_iff_ne, ne_eq, Int.not_lt, Int.not_le] at hq; omega) | simp only [Act.put, List.setIfInBounds_toArray, List.set_cons_succ, List.set_cons_zero])))
      refine Mix.lex_nil ?_
      go_wp2_with fail
      go_ret
      exact ⟨rfl, X2.out.then_ext (X4.out.then_ext X8.out)⟩
    · have g0 : decide ((0 : Int) < f) = true := by rw [decide_eq_true_iff]; omega
      go_wp2_with fail
      go_ret
      exact ⟨rfl, X2.out⟩
end Go.Proofs.YtnhaekifcieeoaaGreatDoor
