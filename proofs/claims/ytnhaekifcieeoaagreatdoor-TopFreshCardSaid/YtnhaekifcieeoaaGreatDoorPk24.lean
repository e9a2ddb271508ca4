/- Put together: Gbu, Sun, Plc, Fsh. -/
import Derived.Test.YtnhaekifcieeoaaGreatDoorPk23
import Derived.Test.YtnhaekifcieeoaaGreatDoorPk12
import Derived.Test.YtnhaekifcieeoaaGreatDoorPk18
import Derived.Test.YtnhaekifcieeoaaGreatDoorPk20
import Derived.Test.YtnhaekifcieeoaaGreatDoorPk21
import Derived.Test.YtnhaekifcieeoaaGreatDoorPk22
import Derived.Sort.KeysCollected
namespace Go.Proofs.YtnhaekifcieeoaaGreatDoor
open Go Go.RowKit
theorem autoF_len2 {v : KeyV} {K : Nat} (hK : 2 ≤ K) (hv : ∀ c t, v c = some t → t.length ≤ K) : ∀ s : Str, 2 * (autoF v s).length ≤ s.length * K
  | [] => by simp [autoF]
  | [x] => by simp [autoF]; omega
  | x :: y :: r => by
    have h1 := autoF_len2 hK hv (y :: r)
    have h2 := autoF_len2 hK hv r
    rw [autoF_look]
    have e1 : (x :: y :: r).length * K = r.length * K + K + K := by simp only [List.length_cons, Nat.succ_mul]
    have e2 : (y :: r).length * K = r.length * K + K := by simp only [List.length_cons, Nat.succ_mul]
    rw [e2] at h1
    rw [e1]
    cases h : lookF v (x :: y :: r) with
    | none => simp only [List.length_cons]; omega
    | some t =>
      have : t.length ≤ K := by
        by_cases hx : x = 36
        · simp only [lookF, hx, if_true] at h
          exact hv _ _ h
        · simp [lookF, hx] at h
      simp only [List.length_append, List.drop_succ_cons, List.drop_zero]
      omega
theorem headD_len {K : Nat} {l : List Str} (h : ∀ x ∈ l, x.length ≤ K) : (l.headD []).length ≤ K := by
  cases l with
  | nil => simp
  | cons a r => exact h a List.mem_cons_self
theorem cand20 {s : Str} {l : List File} (h : lightF l = true) {goal : Str} (hg : goal.length ≤ 8) : ∀ x ∈ candF (parseF s).1 l goal, x.length ≤ 20 := by
  have hm := parseF_mlen s
  obtain ⟨_, h2, _⟩ := lightF_facts h
  intro x hx
  unfold candF at hx
  simp only [List.mem_append, List.mem_cons, List.mem_map, List.mem_flatMap] at hx
  rcases hx with (((rfl | ⟨y, hy, rfl⟩) | ⟨r, hr, hx⟩)) | ⟨r, hr, hx⟩
  · omega
  · exact (h2 y hy).1
  · have := (hm.r r hr).t x hx; omega
  · unfold ndsOf at hx
    obtain ⟨y, hy, rfl⟩ := List.mem_map.1 hx
    have q1 := (hm.r r hr).n y hy
    have q2 := onceF_len y []
    simp only [List.length_nil] at q2
    omega
def GBv (g : Grp) : Prop := GBu g ∧ 1 ≤ g.targets.length ∧ g.cmds.length ≤ 3
theorem ruleF_b5 {s : Str} {l : List File} (h : lightF l = true) {goal : Str} (hg : goal.length ≤ 8) (n : Str) (g : Grp) (hn : n.length ≤ 20) (hr : ruleF (parseF s).1 l n = some g) : GBv g ∧ ∀ k ∈ g.needs, k.length ≤ 20 := by
  have hb : GBd (parseF s).1 l := gbd h
  have hm := parseF_mlen s
  have h3 : ∀ k ∈ g.needs, k.length ≤ 20 := fun k hk => cand20 h hg k (ruleF_cand hr k hk)
  obtain ⟨b1, b2, b3⟩ := ruleF_b3 hb n g hr
  have ht1 := (ruleF_b hb hr).1
  have ht : ∀ t ∈ g.targets, t.length ≤ 20 := fun t ht => by
    rcases ruleF_some hr with ⟨r, hr', rfl⟩ | ⟨_, r, _, hs, rfl, _⟩
    · rw [groupF_tgt] at ht
      have := (hm.r r (explF_some hr').1).t t ht
      omega
    · have ht : t ∈ tgtOf r n _ := ht
      unfold tgtOf at ht
      rw [if_neg (stemL_ne hs)] at ht
      obtain rfl := List.mem_singleton.1 ht
      exact hn
  have hc : ∀ c ∈ g.cmds, c.length ≤ 1000 := fun c hc => by
    have key : ∀ (r : Rul) (stem : Str), r ∈ (parseF s).1.rules → stem.length ≤ 20 → g = groupF (parseF s).1 r n stem → c.length ≤ 1000 := fun r stem hr' hst e => by
      subst e
      have hc : c ∈ r.cmds.map (cmdOf (tgtOf r n stem) (ndsOf r stem) stem) := hc
      obtain ⟨c0, hc0, rfl⟩ := List.mem_map.1 hc
      have q1 := (hm.r r hr').c c0 hc0
      have q2 := headD_len ht
      have q3 := headD_len h3
      have q4 := joinSp_len h3
      have q5 : (groupF (parseF s).1 r n stem).needs.length ≤ 3 := b2
      have q6 : (joinSp (groupF (parseF s).1 r n stem).needs).length ≤ 63 := by
        refine Nat.le_trans q4 ?_
        omega
      have q7 := autoF_len2 (K := 63) (by decide) (keyV_len (t := (groupF (parseF s).1 r n stem).targets.headD []) (f := (groupF (parseF s).1 r n stem).needs.headD []) (n := joinSp (groupF (parseF s).1 r n stem).needs) (k := stem) (by omega) (by omega) q6 (by omega)) c0
      have q8 : c0.length * 63 ≤ 28 * 63 := Nat.mul_le_mul_right _ q1
      show (autoF _ c0).length ≤ 1000
      have q9 : 2 * (autoF (keyV ((tgtOf r n stem).headD []) ((ndsOf r stem).headD []) (joinSp (ndsOf r stem)) stem) c0).length ≤ c0.length * 63 := q7
      omega
    rcases ruleF_some hr with ⟨r, hr', rfl⟩ | ⟨_, r, hr', hs, rfl, _⟩
    · exact key r [] (explF_some hr').1 (Nat.zero_le _) rfl
    · exact key r _ hr' (Nat.le_trans (stemL_le _ _) hn) rfl
  exact ⟨⟨⟨by omega, by omega, by omega, hc, fun x hx => by have := h3 x hx; omega, fun x hx => by have := ht x hx; omega⟩, ht1, b3⟩, h3⟩
theorem groupsF_b5 {s : Str} {l : List File} (h : lightF l = true) (goal : Str) : ∀ g ∈ (groupsF (parseF s).1 l goal).1, GBv g := by
  unfold groupsF
  split
  · intro g hg; cases hg
  · rename_i hn
    have hg : goal.length ≤ 8 := by
      by_cases hb : nameB goal = true
      · unfold nameB at hb
        simp only [Bool.and_eq_true, decide_eq_true_eq] at hb
        exact hb.1.2
      · exact absurd (by simpa using hb) hn
    split
    · intro g hg; cases hg
    · exact visitF_allN (N := fun n => n.length ≤ 20) (fun n g hn hr => ruleF_b5 h hg n g hn hr) 100 [] [] goal (by show goal.length ≤ 20; omega) (fun g hg => by cases hg)
theorem units_len {gs : List Grp} {st : List Bool} {r : Nat → Nat} : (unitsF gs st r).length ≤ gs.length := by
  have h := List.length_filterMap_le (unit1 gs st r) (List.range gs.length)
  rwa [List.length_range] at h
theorem unit_len {gs : List Grp} {st : List Bool} {r : Nat → Nat} : ∀ u ∈ unitsF gs st r, u.length ≤ gs.length := by
  intro u hu
  obtain ⟨p, _, rfl, _⟩ := units_at hu
  have := List.length_filter_le (fun k => stB st k && decide (r k = p)) (List.range gs.length)
  rwa [List.length_range] at this
set_option maxRecDepth 100000 in
set_option maxHeartbeats 2000000 in
theorem TopFresh_all {w : World} (hE : EnvT w) (s : Str) (hs : s.length ≤ maxLen) {A : Option Addr} {n c : Nat} {xs : List File} (h : SlR fileF w A n xs) (hn0 : n ≤ maxLen) (goal : Str) (hgl : goal.length ≤ maxLen) :
    Calls Tryz.prog 7 #[S s, .slice A n c, S goal] w fun e w' => e = .returned (.bool true) ∧ Ext w w' := by
  have HE := Lib.hid hE
  have HS := Lib.hid h
  have hln := h.1
  have H0 := Lib.hid (made_c hE.ml)
  have hs : s.length ≤ 9223372036854775807 := hs
  have hgl : goal.length ≤ 9223372036854775807 := hgl
  have HP : Hid (∀ u, Ext w u → Calls Tryz.prog 18 #[S s] u (PrsRes u (parseF s))) := fun u hu => MkParse_any (HE.out.ext hu).ml s hs
  obtain ⟨R, hR⟩ : ∃ R, R = parseF s := ⟨_, rfl⟩
  rw [← hR] at HP
  have HR := Lib.hid hR
  obtain ⟨m, f⟩ := R
  have HL : Hid (∀ v, Ext w v → Calls Tryz.prog 9 #[.slice A n c] v fun e w' => e = .returned (.bool (lightF xs)) ∧ Ext v w') := fun v hv => LightFiles_c (HS.out.ext hv) hn0
  obtain ⟨bl, hbl⟩ : ∃ bl, bl = lightF xs := ⟨_, rfl⟩
  rw [← hbl] at HL
  have HBL := Lib.hid hbl
  clear hE h hR hbl
  go_enter Tryz.func7, Tryz.ntmps7
  go_wp2_with fail
  refine H0.out.mono ?_
  rintro e u0 ⟨rfl, hu⟩
  have U0 := Lib.hid hu
  clear hu H0
  go_wp2_with fail
  refine (HP.out u0 U0.out).mono ?_
  rintro e u1 ⟨v, rs, rfl, hM, hu⟩
  have hM1 : MakeR u1 v rs m := hM No u1 (fun b hb => hb.elim) (Only.refl _ _)
  obtain ⟨g8, hg8⟩ : ∃ g, g = u1.heap.size := ⟨_, rfl⟩
  obtain ⟨w1, hw1⟩ : ∃ u, u = u1.alloc (.cells #[.slice v.vA m.vars.length v.vc, .slice v.rA m.rules.length v.rc, .slice v.pA m.phony.length v.pc] makeT) := ⟨_, rfl⟩
  have x1 : Ext u1 w1 := by rw [hw1]; exact (Only.refl No u1).alloc _
  have C1 : Hid (Cs w1 g8 makeT #[.slice v.vA m.vars.length v.vc, .slice v.rA m.rules.length v.rc, .slice v.pA m.phony.length v.pc]) := by rw [hw1, hg8]; exact Cs.new _ _ _
  have X1 : Hid (Ext w w1) := (U0.out.then_ext hu).then_ext x1
  have M1 := Lib.hid (hM1.ext x1)
  clear HP hM hu hM1 U0 x1
  go_upto_region 5 with fail
  rw [← hw1, ← hg8]
  clear hw1 hg8
  by_cases hf : f = 0
  case neg =>
    rw [errV_pos hf]
    go_wp2_with (first | ((first | refine Mix.wpList_guarded rfl ?_ | refine Mix.wp_still (by kernel_rfl) (by kernel_rfl) ?_); (repeat' (first | (refine Mix.lex_quiet0 rfl rfl rfl ?_; intro K hK; go_big_quiet_op; go_big_quiet_on) | (refine Mix.lex_quietG rfl rfl rfl (by with_reducible rfl) rfl rfl ?_; intro K hK; go_big_quiet_op; go_big_quiet_on) | ((first | refine Mix.lex_skipT rfl rfl rfl (by with_reducible rfl) ?_ | refine Mix.lex_skipF rfl rfl rfl (by with_reducible rfl) ?_ | refine Mix.lex_skipU rfl rfl rfl (by with_reducible rfl) ?_); simp only [Act.put, List.setIfInBounds_toArray, List.set_cons_succ, List.set_cons_zero]) | (refine Mix.lex_part rfl rfl rfl rfl (fun hq => ?_) (fun hq => ?_) <;> (fail_if_success (guard_hyp hq :ₛ true = true)) <;> (fail_if_success (guard_hyp hq :ₛ false = false)) <;> first | (exfalso; cases hq; done) | (exfalso; simp only [decide_eq_true_eq, decide_eq_false_iff_not, beq_iff_eq, beq_eq_false_iff_ne, ne_eq, Int.not_lt, Int.not_le] at hq; omega) | simp only [Act.put, List.setIfInBounds_toArray, List.set_cons_succ, List.set_cons_zero]))); all_goals (refine Mix.lex_nil ?_)))
    go_ret
    exact ⟨rfl, X1.out⟩
  subst hf
  obtain ⟨hs6, hck⟩ := parse_short (s := s) (by rw [← HR.out])
  have HCk : Hid (chkF m = 0) := by rw [← HR.out] at hck; exact hck
  clear hck
  have t8 : decide ((800 : Int) < (s.length : Int)) = false := by rw [decide_eq_false_iff_not]; omega
  rw [errV_zero]
  by_cases hcn : bl = true ∧ goal.length ≤ 20
  case neg =>
    refine Mix.wp_plain [9] (Cl w1 No) (Cl.of (Only.refl _ _)) ?_
    cases bl
    case' true => have g2 : decide ((20 : Int) < (goal.length : Int)) = true := by rw [decide_eq_true_iff]; have : ¬ goal.length ≤ 20 := fun h => hcn ⟨rfl, h⟩; omega
    all_goals
      clear hcn
      (repeat' (first | (refine Mix.lex_quiet0 rfl rfl rfl ?_; intro K hK; go_big_quiet_op; go_big_quiet_on) | (refine Mix.lex_quietG rfl rfl rfl (by with_reducible rfl) rfl rfl ?_; intro K hK; go_big_quiet_op; go_big_quiet_on) | ((first | refine Mix.lex_skipT rfl rfl rfl (by with_reducible rfl) ?_ | refine Mix.lex_skipF rfl rfl rfl (by with_reducible rfl) ?_ | refine Mix.lex_skipU rfl rfl rfl (by with_reducible rfl) ?_); simp only [Act.put, List.setIfInBounds_toArray, List.set_cons_succ, List.set_cons_zero]) | (refine Mix.lex_part rfl rfl rfl rfl (fun hq => ?_) (fun hq => ?_) <;> (fail_if_success (guard_hyp hq :ₛ true = true)) <;> (fail_if_success (guard_hyp hq :ₛ false = false)) <;> first | (exfalso; cases hq; done) | (exfalso; simp only [decide_eq_true_eq, decide_eq_false_iff_not, beq_iff_eq, beq_eq_false_iff_ne, ne_eq, Int.not_lt, Int.not_le] at hq; omega) | simp only [Act.put, List.setIfInBounds_toArray, List.set_cons_succ, List.set_cons_zero])))
      ((first | refine Mix.lex_goes0 rfl rfl ?_ | refine Mix.lex_goesG rfl rfl rfl (by with_reducible rfl) rfl ?_); intro K hK; go_simp)
      refine (HL.out w1 X1.out).mono ?_
      rintro e u2 ⟨rfl, hx2⟩
      have X2 := Lib.hid hx2
      refine ⟨_, rfl, hK _ _ (fun _ => Cl.of X2.out) ?_⟩
      clear hK K hx2
      simp only [Act.put, List.setIfInBounds_toArray, List.set_cons_succ, List.set_cons_zero]
      (repeat' (first | (refine Mix.lex_quiet0 rfl rfl rfl ?_; intro K hK; go_big_quiet_op; go_big_quiet_on) | (refine Mix.lex_quietG rfl rfl rfl (by with_reducible rfl) rfl rfl ?_; intro K hK; go_big_quiet_op; go_big_quiet_on) | ((first | refine Mix.lex_skipT rfl rfl rfl (by with_reducible rfl) ?_ | refine Mix.lex_skipF rfl rfl rfl (by with_reducible rfl) ?_ | refine Mix.lex_skipU rfl rfl rfl (by with_reducible rfl) ?_); simp only [Act.put, List.setIfInBounds_toArray, List.set_cons_succ, List.set_cons_zero]) | (refine Mix.lex_part rfl rfl rfl rfl (fun hq => ?_) (fun hq => ?_) <;> (fail_if_success (guard_hyp hq :ₛ true = true)) <;> (fail_if_success (guard_hyp hq :ₛ false = false)) <;> first | (exfalso; cases hq; done) | (exfalso; simp only [decide_eq_true_eq, decide_eq_false_iff_not, beq_iff_eq, beq_eq_false_iff_ne, ne_eq, Int.not_lt, Int.not_le] at hq; omega) | simp only [Act.put, List.setIfInBounds_toArray, List.set_cons_succ, List.set_cons_zero])))
      refine Mix.lex_nil ?_
      go_wp2_with fail
      go_ret
      exact ⟨rfl, X1.out.then_ext X2.out⟩
  obtain ⟨rfl, h2⟩ := hcn
  have g2 : decide ((20 : Int) < (goal.length : Int)) = false := by rw [decide_eq_false_iff_not]; omega
  refine Mix.wp_plain [9] (Cl w1 No) (Cl.of (Only.refl _ _)) ?_
  (repeat' (first | (refine Mix.lex_quiet0 rfl rfl rfl ?_; intro K hK; go_big_quiet_op; go_big_quiet_on) | (refine Mix.lex_quietG rfl rfl rfl (by with_reducible rfl) rfl rfl ?_; intro K hK; go_big_quiet_op; go_big_quiet_on) | ((first | refine Mix.lex_skipT rfl rfl rfl (by with_reducible rfl) ?_ | refine Mix.lex_skipF rfl rfl rfl (by with_reducible rfl) ?_ | refine Mix.lex_skipU rfl rfl rfl (by with_reducible rfl) ?_); simp only [Act.put, List.setIfInBounds_toArray, List.set_cons_succ, List.set_cons_zero]) | (refine Mix.lex_part rfl rfl rfl rfl (fun hq => ?_) (fun hq => ?_) <;> (fail_if_success (guard_hyp hq :ₛ true = true)) <;> (fail_if_success (guard_hyp hq :ₛ false = false)) <;> first | (exfalso; cases hq; done) | (exfalso; simp only [decide_eq_true_eq, decide_eq_false_iff_not, beq_iff_eq, beq_eq_false_iff_ne, ne_eq, Int.not_lt, Int.not_le] at hq; omega) | simp only [Act.put, List.setIfInBounds_toArray, List.set_cons_succ, List.set_cons_zero])))
  ((first | refine Mix.lex_goes0 rfl rfl ?_ | refine Mix.lex_goesG rfl rfl rfl (by with_reducible rfl) rfl ?_); intro K hK; go_simp)
  refine (HL.out w1 X1.out).mono ?_
  rintro e u2 ⟨rfl, hx2⟩
  have X2 := Lib.hid hx2
  refine ⟨_, rfl, hK _ _ (fun _ => Cl.of X2.out) ?_⟩
  clear hK K hx2
  simp only [Act.put, List.setIfInBounds_toArray, List.set_cons_succ, List.set_cons_zero]
  (repeat' (first | (refine Mix.lex_quiet0 rfl rfl rfl ?_; intro K hK; go_big_quiet_op; go_big_quiet_on) | (refine Mix.lex_quietG rfl rfl rfl (by with_reducible rfl) rfl rfl ?_; intro K hK; go_big_quiet_op; go_big_quiet_on) | ((first | refine Mix.lex_skipT rfl rfl rfl (by with_reducible rfl) ?_ | refine Mix.lex_skipF rfl rfl rfl (by with_reducible rfl) ?_ | refine Mix.lex_skipU rfl rfl rfl (by with_reducible rfl) ?_); simp only [Act.put, List.setIfInBounds_toArray, List.set_cons_succ, List.set_cons_zero]) | (refine Mix.lex_part rfl rfl rfl rfl (fun hq => ?_) (fun hq => ?_) <;> (fail_if_success (guard_hyp hq :ₛ true = true)) <;> (fail_if_success (guard_hyp hq :ₛ false = false)) <;> first | (exfalso; cases hq; done) | (exfalso; simp only [decide_eq_true_eq, decide_eq_false_iff_not, beq_iff_eq, beq_eq_false_iff_ne, ne_eq, Int.not_lt, Int.not_le] at hq; omega) | simp only [Act.put, List.setIfInBounds_toArray, List.set_cons_succ, List.set_cons_zero])))
  refine Mix.lex_nil ?_
  have C2 := C1.out.keep X2.out id
  have k0 : u2.cell? ⟨g8, 0, none⟩ = some (.slice v.vA m.vars.length v.vc) := C2.cell 0
  have k1 : u2.cell? ⟨g8, 1, none⟩ = some (.slice v.rA m.rules.length v.rc) := C2.cell 1
  have k2 : u2.cell? ⟨g8, 2, none⟩ = some (.slice v.pA m.phony.length v.pc) := C2.cell 2
  have X3 := Lib.hid (X1.out.then_ext X2.out)
  have hmR : m = (parseF s).1 := by rw [← HR.out]
  have hl := HBL.out.symm
  have hbd : GBd m xs := hmR ▸ gbd hl
  have hlf := lightF_facts hl
  have HLF := Lib.hid hlf
  have hn24 : n ≤ 24 := by rw [← hln]; exact hlf.1
  have HG5 := Lib.hid (hmR ▸ groupsF_b5 hl goal : ∀ g ∈ (groupsF m xs goal).1, GBv g)
  have HGB := Lib.hid (groupsF_gb hbd goal)
  have HOk := Lib.hid (fun h => groupsF_ok (m := m) (l := xs) (chk_uniq HCk.out).1 (goal := goal) h)
  have HOf : Hid (Calls Tryz.prog 11 #[mkV v m, .slice A n c, S goal] u2 (OfsRes u2 (groupsF m xs goal))) := by
    have h1 := GrOf_c (lc := c) (HE.out.ext X3.out).ml (M1.out.ext X2.out) (hln ▸ HS.out.ext X3.out) hbd goal (by omega) (fun _ => hmR ▸ cand_len hl (by omega)) (hmR ▸ cand_few hl goal)
    rw [hln] at h1
    exact h1
  obtain ⟨⟨gs, code⟩, hgs⟩ : ∃ R, R = groupsF m xs goal := ⟨_, rfl⟩
  rw [← hgs] at HOf HOk HG5 HGB
  clear C2 hmR hl hbd hgs hlf HCk
  go_wp2_with fail
  refine HOf.out.mono ?_
  rintro e u4 ⟨A4, c4, os, he, hG, hx4, hcap⟩
  have he : e = .returned (.tuple #[.slice A4 gs.length c4, errV code]) := he
  subst he
  have hcap : gs.length ≤ c4 := hcap
  have HG : Hid (GrpsR u4 A4 os gs) := hG
  have X4 := Lib.hid (X3.out.then_ext hx4)
  clear hG hx4 HOf k0 k1 k2 X1 X2 X3 C1 M1 HL
  by_cases h0 : code = 0
  case neg =>
    rw [errV_pos h0]
    go_wp2_with fail
    go_ret
    exact ⟨rfl, X4.out⟩
  subst h0
  rw [errV_zero]
  obtain ⟨hg1, hg2, _, _⟩ := HOk.out rfl
  have hg10 : gs.length ≤ 10 := hg2
  have HGs : Hid (GrOk gs) := hg1.ok fun g hg => (HG5.out g hg).2.1
  have HGA : Hid (∀ g ∈ gs, GB3 g ∧ 1 ≤ g.targets.length ∧ (g.targets.headD []).length ≤ 1000000) := fun g hg => ⟨HGB.out g hg, (HG5.out g hg).2.1, by have := headD_len (HG5.out g hg).1.lt; omega⟩
  have hln2 : xs.length = n := hln
  subst hln2
  clear hg1 hg2 HOk
  have hmm := @run_makeMap Tryz.prog
  obtain ⟨w5, hw5⟩ : ∃ u, u = u4.alloc (.map #[] 0) := ⟨_, rfl⟩
  obtain ⟨bk, hbk⟩ : ∃ b, b = u4.heap.size := ⟨_, rfl⟩
  have M5 : Hid (MapR w5 bk 0 (kpF fun _ => none)) := by rw [hw5, hbk]; exact MapR.made u4
  have x5 : Ext u4 w5 := by rw [hw5]; exact (Only.refl No u4).alloc _
  have X5 := Lib.hid (X4.out.then_ext x5)
  have HBk : Hid (u4.heap.size ≤ bk) := Nat.le_of_eq hbk.symm
  have HSt1 : Hid (Calls Tryz.prog 31 #[.slice A4 gs.length c4, .slice A xs.length c, .map (some bk)] w5 fun e w' => ∃ B d, e = .returned (.slice B gs.length d) ∧ SlR boF w' B gs.length (staleF xs (fun _ => none) gs) ∧ Ext w5 w') :=
    Stale_c (HG.out.ext x5) hg10 hcap HGA.out (F := fun _ => none) M5.out.kpm (fun s p e => by cases e) (HS.out.ext X5.out) (by have := HLF.out.1; omega) HLF.out.2.2
  have HSn := Lib.hid (stale_none xs gs)
  obtain ⟨st, hst⟩ : ∃ st, st = staleF xs (fun _ => none) gs := ⟨_, rfl⟩
  rw [← hst] at HSt1 HSn
  have HG5w := Lib.hid (HG.out.ext x5)
  have XU5 := Lib.hid x5
  clear x5 hst
  go_upto_region 11 with fail
  rw [← hw5, ← hbk]
  clear hw5 hbk hmm
  go_wp2_with fail
  refine HSt1.out.mono ?_
  rintro e u6 ⟨B6, d6, rfl, hS6, hx⟩
  have HUn := Lib.hid (Units_c (sc := d6) (HG5w.out.ext hx) hg10 hcap HGB.out hS6)
  have X6 := Lib.hid (X5.out.then_ext hx)
  have XU6 := Lib.hid (XU5.out.then_ext hx)
  have M6 := Lib.hid (M5.out.keep hx id)
  clear hx hS6 HSt1 M5 HG5w XU5 X5
  go_wp2_with fail
  refine HUn.out.mono ?_
  rintro e u7 ⟨B7, d7, x7, r, hL, rfl, hR7, hx⟩
  have HLst := Lib.hid hL
  have X7 := Lib.hid (X6.out.then_ext hx)
  have XU7 := Lib.hid (XU6.out.then_ext hx)
  have M7 := Lib.hid (M6.out.keep hx id)
  have HR7 := Lib.hid hR7
  have HG7 := Lib.hid (HG.out.ext XU7.out)
  have HS7 := Lib.hid (HS.out.ext X7.out)
  have HUl : Hid (∀ u ∈ unitsF gs st r, u.Pairwise (· < ·) ∧ (∀ k ∈ u, k < gs.length) ∧ u.length ≤ 10) := fun u hu => by
    have h3 := unit_len u hu
    obtain ⟨p, _, rfl, _⟩ := units_at hu
    exact ⟨unit_sorted _ _ _ _, fun k hk => (unit_mem.1 hk).1, by omega⟩
  have HFin : Hid (∀ {l' : List File} {K' : Str → Option Rcd}, runG gs (unitsF gs st r).flatten xs (fun _ => none) = some (l', K') → ∀ g ∈ gs, g.phony = false → freshK l' K' g = true) := fun h => fresh_all HGs.out HLst.out HSn.out h
  obtain ⟨us, hus⟩ : ∃ us, us = unitsF gs st r := ⟨_, rfl⟩
  have husl : us.length ≤ 10 := by rw [hus]; exact Nat.le_trans units_len hg10
  rw [← hus] at HR7 HUl HFin ⊢
  clear hL hR7 hx HUn hus M6 X6 XU6 HSn HLst
  have HFb : Hid (FBu xs) := ⟨by have := HLF.out.1; omega, HLF.out.2.2, fun f hf => by have := HLF.out.2.1 f hf; omega⟩
  go_wp2_with fail
  go_loopw [13, 1] (fun iv lv wr => ∃ i : Nat, i ≤ us.length ∧ iv = .int .i64 i ∧ ∃ (LA : Option Addr) (Lc : Nat) (L : List File) (F : Str → Option (RcdV × Rcd)) (nk : Nat), lv = .slice LA L.length Lc ∧ SlR fileF wr LA L.length L ∧ FBu L ∧ L.length ≤ 24 + 30 * i ∧ MapR wr bk nk (kpF F) ∧ KpR wr F ∧ nk ≤ 1000 * i ∧
    runG gs (us.take i).flatten xs (fun _ => none) = some (L, fun s => (F s).map (·.2)) ∧ Only (fun q => q = bk) u7 wr) (fun iv _ _ => us.length - (intOf iv).toNat)
  case atStart => exact ⟨0, Nat.zero_le _, rfl, A, c, xs, fun _ => none, 0, rfl, HS7.out, HFb.out, by omega, M7.out, (fun s p e => by cases e), Nat.le_refl _, rfl, Only.refl _ _⟩
  case round =>
    clear HS7
    obtain ⟨i, hi, rfl, LA, Lc, L, F, nk, rfl, hL, hFL, hLl, hM, hKr, hnk, hRun, hx⟩ := hrel
    have HL := Lib.hid hL
    have HFL := Lib.hid hFL
    have HM := Lib.hid hM
    have HKr := Lib.hid hKr
    have HRun := Lib.hid hRun
    have XO := Lib.hid hx
    have XE : Hid (Ext u4 wr) := XU7.out.trans hx fun q hq e => by have e : q = bk := e; have := HBk.out; omega
    clear hL hFL hM hKr hRun hx
    by_cases hlt : i < us.length
    · have HRr : Hid (UnsR wr B7 x7 us) := ⟨M7.out.row XO.out HR7.out.1, fun x hx => M7.out.row XO.out (HR7.out.2.1 x hx), HR7.out.2.2⟩
      obtain ⟨bu, ou, ⟨⟨uA, uc⟩, u⟩, rfl, hxk, cu⟩ := uns_get HRr.out.1 hlt
      have huk : us[i]? = some u := by rw [← HRr.out.2.2, List.getElem?_map, hxk]; rfl
      have HI : Hid (SlR inF wr uA u.length u) := HRr.out.2.1 _ (List.mem_of_getElem? hxk)
      obtain ⟨hu1, hu2, hu3⟩ := HUl.out u (List.mem_of_getElem? huk)
      have e0 : wr.cell? ⟨bu, ou + i, none⟩ = some (.slice uA u.length uc) := cu (X.here wr No)
      have HU1 : Hid (Calls Tryz.prog 24 #[.slice A4 gs.length c4, .slice uA u.length uc, .slice LA L.length Lc] wr (UnitRes wr (unitM gs u L [] []))) :=
        Unit_c (HE.out.ext (X4.out.then_ext XE.out)) (HG.out.ext XE.out) HG5.out HI.out hu3 hu2 HL.out HFL.out (by omega)
      have hol := unitM_len (fun g hg => (HG5.out g hg).2.2) u L [] []
      have HUf := Lib.hid (unitM_fit (fun g hg => (HG5.out g hg).1) u L [] [] List.Pairwise.nil (fun f hf => by cases hf))
      have HRg : Hid ((unitM gs u L [] []).2 = 0 → runG gs (us.take (i + 1)).flatten xs (fun _ => none) = some (putAll (unitM gs u L [] []).1.1 L, overK (klast (unitM gs u L [] []).1.2) fun s => (F s).map (·.2))) := fun h0 => by
        have h1 := unit_runG gs u L [] L [] (fun s => (F s).map (·.2)) List.Pairwise.nil HFL.out.r rfl h0
        have h2 : overK (klast []) (fun s => (F s).map (·.2)) = fun s => (F s).map (·.2) := by funext s; rfl
        rw [h2] at h1
        rw [List.take_add_one, huk, List.flatten_append, runG_app, HRun.out]
        show runG gs ([u].flatten) L _ = _
        rw [show [u].flatten = u by simp]
        exact h1
      obtain ⟨⟨⟨O, K⟩, f⟩, hR⟩ : ∃ R, R = unitM gs u L [] [] := ⟨_, rfl⟩
      rw [← hR] at HU1 hol HUf HRg
      have hol : O.length ≤ 0 + 3 * u.length := hol
      clear cu hxk huk hu1 hu2 hR HRun
      go_wp2_with fail
      refine HU1.out.mono ?_
      rintro e v1 ⟨hx1, hres⟩
      have Y1 := Lib.hid hx1
      rcases hres with ⟨h0, oA, oc, b, n, F', he, hO, hKm, hbb, hn1⟩ | ⟨h0, he⟩
      case inr =>
        have h0 : f ≠ 0 := h0
        have he : e = .returned (.tuple #[.slice none 0 0, .map none, errV f]) := he
        subst he
        rw [errV_pos h0]
        go_wp2_with fail
        go_ret
        exact ⟨rfl, X4.out.then_ext (XE.out.then_ext Y1.out)⟩
      have h0 : f = 0 := h0
      subst h0
      have he : e = .returned (.tuple #[.slice oA O.length oc, .map (some b), .nilIface]) := he
      subst he
      have HO := Lib.hid (show SlR fileF v1 oA O.length O from hO)
      have HKm := Lib.hid hKm
      have HBb := Lib.hid hbb
      have HRg2 := Lib.hid (HRg.out rfl)
      have HL1 := Lib.hid (HL.out.ext hx1)
      have HM1 := Lib.hid (HM.out.keep hx1 id)
      have HKr1 := Lib.hid (HKr.out.ext hx1)
      have hbk1 := HM.out.lt
      clear hO hKm hbb hx1 HU1 HRg e0 HL HM HKr
      go_wp2_with fail
      go_loopw [17, 1] (fun jv lv wr => ∃ j : Nat, j ≤ O.length ∧ jv = .int .i64 j ∧ ∃ (LA : Option Addr) (Lc : Nat), lv = .slice LA (putAll (O.take j) L).length Lc ∧ SlR fileF wr LA (putAll (O.take j) L).length (putAll (O.take j) L) ∧ Ext v1 wr) (fun jv _ _ => O.length - (intOf jv).toNat)
      case atStart => exact ⟨0, Nat.zero_le _, rfl, LA, Lc, rfl, HL1.out, Only.refl _ _⟩
      case round =>
        clear HL1
        obtain ⟨j, hj, rfl, LA, Lc, rfl, hL, hx⟩ := hrel
        have HL5 := Lib.hid hL
        have XJ := Lib.hid hx
        clear hL hx
        have hPl := putAll_len (O.take j) L
        have hTk : (O.take j).length ≤ j := by rw [List.length_take]; omega
        have HPr := Lib.hid (putAll_rise (O.take j) HFL.out.r)
        by_cases hlj : j < O.length
        · obtain ⟨bw, ow, ⟨fn, ft⟩, rfl, hfj, d0, d1⟩ := files_get HO.out hlj
          have HT1 := Lib.hid (putAll_take hfj L)
          have g0 : wr.cell? ⟨bw, ow + j * 2, none⟩ = some (S fn) := d0 ⟨wr, XJ.out⟩
          have g1 : wr.cell? ⟨bw, ow + j * 2 + 1, none⟩ = some (S ft) := d1 ⟨wr, XJ.out⟩
          clear d0 d1 hfj
          obtain ⟨Lj, hLj⟩ : ∃ x, x = putAll (O.take j) L := ⟨_, rfl⟩
          rw [← hLj] at HL5 hPl HPr HT1 ⊢
          clear hLj
          have HP1 := Lib.hid (Put_c (c := Lc) HL5.out (by omega) (fn, ft) HPr.out)
          obtain ⟨Lk, hLk⟩ : ∃ x, x = putL fk (fn, ft) Lj := ⟨_, rfl⟩
          rw [← hLk] at HP1 HT1
          clear hLk HL5
          go_wp2_with fail
          refine HP1.out.mono ?_
          rintro e u8 ⟨A8, c8, rfl, hF8⟩
          have X8 := Lib.hid (XJ.out.then_ext hF8.ext)
          have R8 := Lib.hid (hF8.row (by decide))
          clear hF8 HP1 g0 g1
          go_wp2_with fail
          go_roundw
          case rel => exact ⟨j + 1, by omega, by go_num, A8, c8, by rw [HT1.out], by rw [HT1.out]; exact R8.out, X8.out⟩
          case measure => simp [intOf]; omega
        · obtain rfl : j = O.length := by omega
          rw [List.take_of_length_le (Nat.le_refl _)] at HL5 hPl HPr ⊢
          rename World => v2
          have HK2 := Lib.hid (HKm.out.ext XJ.out)
          have HM2 := Lib.hid (HM1.out.keep XJ.out id)
          have HKr2 := Lib.hid (HKr1.out.ext XJ.out)
          have XO2 := Lib.hid (XO.out.trans (Y1.out.then_ext XJ.out) fun q hq e => e.elim)
          have HFL2 := Lib.hid (HFL.out.put HUf.out.2 (by omega))
          obtain ⟨D, hown, hD, _⟩ := HK2.out.m
          have HOwn := Lib.hid hown
          have HD := Lib.hid hD
          have hbne : bk ≠ b := by have := HBb.out; omega
          obtain ⟨rb, hrb⟩ : ∃ r, r = v2.heap.size := ⟨_, rfl⟩
          have hrbk : bk < rb := by rw [hrb]; exact HM2.out.lt
          have hru : u7.heap.size ≤ rb := by rw [hrb]; exact XO2.out.size
          clear hD
          go_wp2_with (first | (at_range; refine wpList_range_own _ rfl _ rmapT rfl 9 rcdT str_keyed rmap_ty rdV b n D rfl hown ?_; intro w0 hrg0 hg0 hs0) | fail)
          rw [← hrb] at hrg0
          have X0 : Ext v2 w0 := (Only.refl No v2).grown hg0 fun g hg => by cases hg
          have HRg0 := Lib.hid hrg0
          have HX0 := Lib.hid X0
          have hsz : Go.Maps.size D ≤ n := by
            obtain ⟨es, clock, _, _, h3, rfl⟩ := HOwn.out
            rw [Go.Maps.size_eq, length_sorted, List.length_map]
            simpa using h3
          have HRb := Lib.hid hrb
          clear hown hrg0 hg0 hs0 X0 hrb
          go_frame
          rw [← HRb.out]
          go_loopw [18] (fun _ wr => ∃ (left : Lit → Bool) (cnt nk' : Nat), wr.ranges Tryz.prog 9 rdV b rb n D left cnt ∧ MapR wr bk nk' (kpF (overL D left F' F)) ∧ nk' + cnt ≤ nk + Go.Maps.size D ∧ (∀ z, left z = true → Go.Maps.has D z = true) ∧ Only (fun q => q = bk) v2 wr) (fun _ wr => wr.rangeLeft b rb)
          case atStart => exact ⟨_, _, nk, HRg0.out, by rw [overL_start]; exact HM2.out.keep HX0.out id, Nat.le_refl _, fun z h => h, Only.any HX0.out⟩
          case round =>
            clear HRg0 HX0
            obtain ⟨left, cnt, nk', hrg, hMr, hcnt, hle, hx⟩ := hrel
            have HMr := Lib.hid hMr
            have HRgs := Lib.hid hrg
            have HLe := Lib.hid hle
            have XO3 := Lib.hid hx
            clear hMr hle hx
            go_wp2_with (first | (at_next; refine wpList_next_ranges _ rfl _ rfl 9 str_keyed rdV (fun l : Str => S l) (fun v : Value => v) (fun key kl hk => by obtain ⟨x, hx, _⟩ := Go.Maps.keyOf_str Tryz.underlying9 hk; exact ⟨x, hx⟩) (fun v y _ => ⟨v, rfl⟩) b rb n D left cnt rfl hrg ?_ ?_) | fail)
            · intro hc0 hl0
              have HEq : Hid ((fun s => (overL D left F' F s).map (·.2)) = overK (klast K) fun s => (F s).map (·.2)) := by
                rw [Hid, overL_end hl0]
                funext s
                show (if Go.Maps.has D (.string s) = true then F' s else F s).map (·.2) = (klast K s).or ((F s).map (·.2))
                rw [(HD.out s).1, ← show (F' s).map (·.2) = klast K s from HK2.out.k s]
                show (if (Option.map _ (F' s)).isSome = true then _ else _ : Option (RcdV × Rcd)).map _ = _
                cases F' s <;> simp
              have HKf : Hid (KpR wr (overL D left F' F)) := fun t p e => by
                unfold overL at e
                split at e
                · obtain ⟨q1, q2⟩ := HK2.out.r t p e
                  exact ⟨HM2.out.rcd XO3.out q1, q2⟩
                · obtain ⟨q1, q2⟩ := HKr2.out t p e
                  exact ⟨HM2.out.rcd XO3.out q1, q2⟩
              have HLf := Lib.hid (HM2.out.row XO3.out HL5.out)
              have XOf := Lib.hid (XO2.out.trans XO3.out fun q _ e => e)
              have HPl := Lib.hid (putAll_len O L)
              clear hc0 hl0
              go_wp2_with fail
              go_roundw
              case rel => exact ⟨i + 1, by omega, by go_num, LA, Lc, putAll O L, overL D left F' F, nk', rfl, HLf.out, HFL2.out, by have := HPl.out; omega, HMr.out, HKf.out, by omega, by rw [HEq.out]; exact HRg2.out, XOf.out⟩
              case measure => simp [intOf]; omega
            · intro x cv kl yd yp w2 cnt2 hkey hlk hv hv2 hat hrg2 hlt2 hg2 hs2 hen
              obtain ⟨x', ex, rfl, hxl⟩ := Go.Maps.keyOf_str Tryz.underlying9 hkey
              obtain rfl : x = x' := by
                have ex : Value.string ⟨x.toArray⟩ = Value.string ⟨x'.toArray⟩ := ex
                simpa using ex
              have hyd : (DataW.held cv : DataW Value) = yd := hv
              subst hyd
              have hhas := HLe.out _ hlk
              obtain ⟨⟨p1, e1, p2, e2, p3, e3⟩, R, hFx, hcv0⟩ : ∃ V R, F' x = some (V, R) ∧ cv = rcdV V R := by
                have h1 := (HD.out x).1
                rw [hhas] at h1
                have h2 := (HD.out x).2 zeroR
                rw [hat (.held zeroR)] at h2
                have h1 : true = (Option.map (fun p : RcdV × Rcd => rcdV p.1 p.2) (F' x)).isSome := h1
                have h2 : (DataW.held cv : DataW Value) = .held ((Option.map (fun p : RcdV × Rcd => rcdV p.1 p.2) (F' x)).getD zeroR) := h2
                cases hF : F' x with
                | none => rw [hF] at h1; cases h1
                | some p =>
                  rw [hF] at h2
                  injection h2 with h2
                  exact ⟨p.1, p.2, rfl, h2⟩
              have hcv : cv = .agg #[.slice p1 R.cmds.length e1, .slice p2 R.needs.length e2, .slice p3 R.out.length e3] := hcv0
              clear hcv0
              subst hcv
              have O2r : Only (fun q => q = rb) wr w2 := (Only.refl _ _).grown hg2 fun g hg => .inr (by have h := Option.some.inj hg; have h2 := HRb.out; first | exact h | exact h.symm | exact (h2.trans h).symm | exact h.symm.trans h2.symm)
              obtain ⟨w3, hw3⟩ : ∃ u, u = w2.alloc (.cells #[.slice p1 R.cmds.length e1, .slice p2 R.needs.length e2, .slice p3 R.out.length e3] rcT) := ⟨_, rfl⟩
              obtain ⟨b3, hb3⟩ : ∃ b, b = w2.heap.size := ⟨_, rfl⟩
              have x3 : Ext w2 w3 := by rw [hw3]; exact (Only.refl No w2).alloc _
              have C3 : Hid (Cs w3 b3 rcT #[.slice p1 R.cmds.length e1, .slice p2 R.needs.length e2, .slice p3 R.out.length e3]) := by rw [hw3, hb3]; exact Cs.new _ _ _
              have hM3 : MapR w3 bk nk' (kpF (overL D left F' F)) := (HMr.out.keep O2r (fun e => by have e : bk = rb := e; omega)).keep x3 id
              obtain ⟨w4, r1, r2, r3⟩ := hM3.put (by unfold maxLen; omega) x (by unfold maxLen at *; omega) (rcdV ⟨p1, e1, p2, e2, p3, e3⟩ R)
              have hmu : (Instr.mapUpdate rmapT (.map (some bk)) (S x) (.agg #[.slice p1 R.cmds.length e1, .slice p2 R.needs.length e2, .slice p3 R.out.length e3])).run Tryz.prog w3 = .ok () w4 := r1
              have HM4 : Hid (MapR w4 bk (nk' + 1) (kpF (overL D (fun z => left z && !z.sameKey (.string x)) F' F))) := by
                rw [Hid, overL_step hhas hFx, kpF_put]
                exact r2
              have hg3 : w2.grownBy w3 none := ⟨x3.os, x3.tape, x3.output, x3.size, fun q hq _ => x3.block q hq id⟩
              have hg4 : w3.grownBy w4 (some bk) := ⟨r3.os, r3.tape, r3.output, r3.size, fun q hq hne => r3.block q hq fun e => hne (by rw [show q = bk from e])⟩
              have HRg4 := Lib.hid ((hrg2.kept hg3 (by simp) (by simp)).kept hg4 (by simp; omega) (by simp; omega))
              have XO4 : Hid (Only (fun q => q = bk) v2 w4) := ((XO3.out.trans O2r fun q hq e => by have e : q = rb := e; have := HRb.out; omega).trans x3 fun q _ e => e.elim).trans r3 fun q _ e => e
              have HLe4 : Hid (∀ z, (left z && !z.sameKey (.string x)) = true → Go.Maps.has D z = true) := fun z hz => HLe.out z (by simp only [Bool.and_eq_true] at hz; exact hz.1)
              have j0 : w3.cell? ⟨b3, 0, none⟩ = some (.slice p1 R.cmds.length e1) := C3.out.cell 0
              have j1 : w3.cell? ⟨b3, 1, none⟩ = some (.slice p2 R.needs.length e2) := C3.out.cell 1
              have j2 : w3.cell? ⟨b3, 2, none⟩ = some (.slice p3 R.out.length e3) := C3.out.cell 2
              have HLq := Lib.hid (HRg4.out.left_eq)
              have HLq0 := Lib.hid hrg.left_eq
              clear hkey hlk hv hv2 hat hrg2 hg2 hs2 hhas hFx O2r x3 hM3 r1 r2 r3 hg3 hg4 hxl hrg ex
              go_upto_region 25 with fail
              rw [← hw3, ← hb3]
              clear hw3 hb3 hen
              go_wp2_with fail
              go_roundw
              case rel => exact ⟨_, cnt2, nk' + 1, HRg4.out, HM4.out, by omega, HLe4.out, XO4.out⟩
              case measure => rw [HLq.out, HLq0.out]; omega
    · obtain rfl : i = us.length := by omega
      rw [List.take_of_length_le (Nat.le_refl _)] at HRun
      have HAl : Hid (∀ g ∈ gs, g.phony = false → freshF L F g = true) := fun g hg hp => by rw [freshF_K]; exact HFin.out HRun.out g hg hp
      have HSt : Hid (staleF L F gs = List.replicate gs.length false) := stale_all HAl.out gs.length
      have HSt2 : Hid (Calls Tryz.prog 31 #[.slice A4 gs.length c4, .slice LA L.length Lc, .map (some bk)] wr fun e w' => ∃ B d, e = .returned (.slice B gs.length d) ∧ SlR boF w' B gs.length (staleF L F gs) ∧ Ext wr w') :=
        Stale_c (HG.out.ext XE.out) hg10 hcap HGA.out (F := F) HM.out.kpm HKr.out HL.out HFL.out.n HFL.out.r
      rw [HSt.out] at HSt2
      clear HSt HAl HRun
      go_wp2_with fail
      refine HSt2.out.mono ?_
      rintro e v1 ⟨B, d, rfl, hS, hx⟩
      have Y1 := Lib.hid (XE.out.then_ext hx)
      have HS1 := Lib.hid hS
      clear hS hx HSt2
      go_wp2_with fail
      go_loopw [21] (fun iv wr => ∃ j : Nat, j ≤ gs.length ∧ iv = .int .i64 j ∧ Ext v1 wr) (fun iv _ => gs.length - (intOf iv).toNat)
      case atStart => exact ⟨0, Nat.zero_le _, rfl, Only.refl _ _⟩
      case round =>
        obtain ⟨j, hj, rfl, hx⟩ := hrel
        have XJ := Lib.hid hx
        clear hx
        by_cases hlj : j < gs.length
        · obtain ⟨bs, so, sv, rfl, hs1, cq⟩ := bos_get HS1.out hlj
          have hsv : sv = false := by
            rw [List.getElem?_replicate, if_pos hlj] at hs1
            exact (Option.some.inj hs1).symm
          subst hsv
          have e1 : wr.cell? ⟨bs, so + j, none⟩ = some (.bool false) := cq ⟨wr, XJ.out⟩
          clear hs1 cq
          go_wp2_with fail
          go_roundw
          case rel => exact ⟨j + 1, by omega, by go_num, XJ.out⟩
          case measure => simp [intOf]; omega
        · obtain rfl : j = gs.length := by omega
          have HUn := Lib.hid (Units_c (sc := d) (HG.out.ext (Y1.out.then_ext XJ.out)) hg10 hcap HGB.out (HS1.out.ext XJ.out))
          go_wp2_with fail
          refine HUn.out.mono ?_
          rintro e v2 ⟨B2, d2, x2, r2, hL2, he, hR2, hx⟩
          rw [units_none] at he
          have he : e = .returned (.slice B2 0 d2) := he
          subst he
          have Y2 := Lib.hid (Y1.out.then_ext (XJ.out.then_ext hx))
          clear hL2 hR2 hx HUn
          go_wp2_with fail
          go_ret
          exact ⟨rfl, X4.out.then_ext Y2.out⟩
end Go.Proofs.YtnhaekifcieeoaaGreatDoor
