/- Put together: Tun. -/
import Derived.Test.YtnhaekifcieeoaaGreatDoorPk14
import Derived.Test.YtnhaekifcieeoaaGreatDoorPk15
namespace Go.Proofs.YtnhaekifcieeoaaGreatDoor
open Go Go.RowKit
set_option maxRecDepth 100000 in
set_option maxHeartbeats 8000000 in
theorem TopUnits_all {w : World} (hm : Ml w) (s : Str) (hs : s.length ≤ maxLen) {A : Option Addr} {n c : Nat} {xs : List File} (h : SlR fileF w A n xs) (hn0 : n ≤ maxLen) (goal : Str) (hgl : goal.length ≤ maxLen) {sA : Option Addr} {sn sc : Nat} {ys : List Bool} (hy0 : SlR boF w sA sn ys) (hsn : sn ≤ maxLen) (hsc : sn ≤ sc) :
    Calls Tryz.prog 5 #[S s, .slice A n c, S goal, .slice sA sn sc] w fun e w' => e = .returned (.bool true) ∧ Ext w w' := by
  have HM := Lib.hid hm
  have HS := Lib.hid h
  have hln := h.1
  have HY := Lib.hid hy0
  have hsn : sn ≤ 9223372036854775807 := hsn
  have H0 := Lib.hid (made_c hm)
  have hml : maxLen = 9223372036854775807 := rfl
  have hs : s.length ≤ 9223372036854775807 := hs
  have hgl : goal.length ≤ 9223372036854775807 := hgl
  have HP : Hid (∀ u, Ext w u → Calls Tryz.prog 18 #[S s] u (PrsRes u (parseF s))) := fun u hu => MkParse_any (HM.out.ext hu) s hs
  obtain ⟨R, hR⟩ : ∃ R, R = parseF s := ⟨_, rfl⟩
  rw [← hR] at HP
  have HR := Lib.hid hR
  obtain ⟨m, f⟩ := R
  have HL : Hid (∀ v, Ext w v → Calls Tryz.prog 9 #[.slice A n c] v fun e w' => e = .returned (.bool (lightF xs)) ∧ Ext v w') := fun v hv => LightFiles_c (HS.out.ext hv) hn0
  obtain ⟨bl, hbl⟩ : ∃ bl, bl = lightF xs := ⟨_, rfl⟩
  rw [← hbl] at HL
  have HBL := Lib.hid hbl
  clear hm h hR hbl hml hy0
  go_enter Tryz.func5, Tryz.ntmps5
  go_wp2_with fail
  refine H0.out.mono ?_
  rintro e u0 ⟨rfl, hu⟩
  have U0 := Lib.hid hu
  clear hu H0
  go_wp2_with fail
  refine (HP.out u0 U0.out).mono ?_
  rintro e u1 ⟨v, rs, rfl, hM, hu⟩
  have hM1 : MakeR u1 v rs m := hM No u1 (fun b hb => hb.elim) (Only.refl _ _)
  obtain ⟨g8, hg8⟩ : ∃ g, g = u1.heap.size := ⟨_, rfl⟩
  obtain ⟨w1, hw1⟩ : ∃ u, u = u1.alloc (.cells #[.slice v.vA m.vars.length v.vc, .slice v.rA m.rules.length v.rc, .slice v.pA m.phony.length v.pc] makeT) := ⟨_, rfl⟩
  have x1 : Ext u1 w1 := by rw [hw1]; exact (Only.refl No u1).alloc _
  have C1 : Hid (Cs w1 g8 makeT #[.slice v.vA m.vars.length v.vc, .slice v.rA m.rules.length v.rc, .slice v.pA m.phony.length v.pc]) := by rw [hw1, hg8]; exact Cs.new _ _ _
  have X1 : Hid (Ext w w1) := (U0.out.then_ext hu).then_ext x1
  have M1 := Lib.hid (hM1.ext x1)
  clear HP hM hu hM1 U0 x1
  go_upto_region 5 with fail
  rw [← hw1, ← hg8]
  clear hw1 hg8
  by_cases hf : f = 0
  · subst hf
    obtain ⟨hs6, hck⟩ := parse_short (s := s) (by rw [← HR.out])
    have HCk : Hid (chkF m = 0) := by rw [← HR.out] at hck; exact hck
    clear hck
    have t8 : decide ((800 : Int) < (s.length : Int)) = false := by rw [decide_eq_false_iff_not]; omega
    rw [errV_zero]
    cases bl with
    | false =>
      refine Mix.wp_plain [9] (Cl w1 No) (Cl.of (Only.refl _ _)) ?_
      (repeat' (first | (refine Mix.lex_quiet0 rfl rfl rfl ?_; intro K hK; go_big_quiet_op; go_big_quiet_on) | (refine Mix.lex_quietG rfl rfl rfl (by with_reducible rfl) rfl rfl ?_; intro K hK; go_big_quiet_op; go_big_quiet_on) | ((first | refine Mix.lex_skipT rfl rfl rfl (by with_reducible rfl) ?_ | refine Mix.lex_skipF rfl rfl rfl (by with_reducible rfl) ?_ | refine Mix.lex_skipU rfl rfl rfl (by with_reducible rfl) ?_); simp only [Act.put, List.setIfInBounds_toArray, List.set_cons_succ, List.set_cons_zero]) | (refine Mix.lex_part rfl rfl rfl rfl (fun hq => ?_) (fun hq => ?_) <;> (fail_if_success (guard_hyp hq :ₛ true = true)) <;> (fail_if_success (guard_hyp hq :ₛ false = false)) <;> first | (exfalso; cases hq; done) | (exfalso; simp only [decide_eq_true_eq, decide_eq_false_iff_not, beq_iff_eq, beq_eq_false_iff_ne, ne_eq, Int.not_lt, Int.not_le] at hq; omega) | simp only [Act.put, List.setIfInBounds_toArray, List.set_cons_succ, List.set_cons_zero])))
      ((first | refine Mix.lex_goes0 rfl rfl ?_ | refine Mix.lex_goesG rfl rfl rfl (by with_reducible rfl) rfl ?_); intro K hK; go_simp)
      refine (HL.out w1 X1.out).mono ?_
      rintro e u2 ⟨rfl, hx2⟩
      have X2 := Lib.hid hx2
      refine ⟨_, rfl, hK _ _ (fun _ => Cl.of X2.out) ?_⟩
      clear hK K hx2
      simp only [Act.put, List.setIfInBounds_toArray, List.set_cons_succ, List.set_cons_zero]
      (repeat' (first | (refine Mix.lex_quiet0 rfl rfl rfl ?_; intro K hK; go_big_quiet_op; go_big_quiet_on) | (refine Mix.lex_quietG rfl rfl rfl (by with_reducible rfl) rfl rfl ?_; intro K hK; go_big_quiet_op; go_big_quiet_on) | ((first | refine Mix.lex_skipT rfl rfl rfl (by with_reducible rfl) ?_ | refine Mix.lex_skipF rfl rfl rfl (by with_reducible rfl) ?_ | refine Mix.lex_skipU rfl rfl rfl (by with_reducible rfl) ?_); simp only [Act.put, List.setIfInBounds_toArray, List.set_cons_succ, List.set_cons_zero]) | (refine Mix.lex_part rfl rfl rfl rfl (fun hq => ?_) (fun hq => ?_) <;> (fail_if_success (guard_hyp hq :ₛ true = true)) <;> (fail_if_success (guard_hyp hq :ₛ false = false)) <;> first | (exfalso; cases hq; done) | (exfalso; simp only [decide_eq_true_eq, decide_eq_false_iff_not, beq_iff_eq, beq_eq_false_iff_ne, ne_eq, Int.not_lt, Int.not_le] at hq; omega) | simp only [Act.put, List.setIfInBounds_toArray, List.set_cons_succ, List.set_cons_zero])))
      refine Mix.lex_nil ?_
      go_wp2_with fail
      go_ret
      exact ⟨rfl, X1.out.then_ext X2.out⟩
    | true =>
      by_cases hg20 : 20 < goal.length
      · have t20 : decide ((20 : Int) < (goal.length : Int)) = true := by rw [decide_eq_true_iff]; omega
        refine Mix.wp_plain [9] (Cl w1 No) (Cl.of (Only.refl _ _)) ?_
        (repeat' (first | (refine Mix.lex_quiet0 rfl rfl rfl ?_; intro K hK; go_big_quiet_op; go_big_quiet_on) | (refine Mix.lex_quietG rfl rfl rfl (by with_reducible rfl) rfl rfl ?_; intro K hK; go_big_quiet_op; go_big_quiet_on) | ((first | refine Mix.lex_skipT rfl rfl rfl (by with_reducible rfl) ?_ | refine Mix.lex_skipF rfl rfl rfl (by with_reducible rfl) ?_ | refine Mix.lex_skipU rfl rfl rfl (by with_reducible rfl) ?_); simp only [Act.put, List.setIfInBounds_toArray, List.set_cons_succ, List.set_cons_zero]) | (refine Mix.lex_part rfl rfl rfl rfl (fun hq => ?_) (fun hq => ?_) <;> (fail_if_success (guard_hyp hq :ₛ true = true)) <;> (fail_if_success (guard_hyp hq :ₛ false = false)) <;> first | (exfalso; cases hq; done) | (exfalso; simp only [decide_eq_true_eq, decide_eq_false_iff_not, beq_iff_eq, beq_eq_false_iff_ne, ne_eq, Int.not_lt, Int.not_le] at hq; omega) | simp only [Act.put, List.setIfInBounds_toArray, List.set_cons_succ, List.set_cons_zero])))
        ((first | refine Mix.lex_goes0 rfl rfl ?_ | refine Mix.lex_goesG rfl rfl rfl (by with_reducible rfl) rfl ?_); intro K hK; go_simp)
        refine (HL.out w1 X1.out).mono ?_
        rintro e u2 ⟨rfl, hx2⟩
        have X2 := Lib.hid hx2
        refine ⟨_, rfl, hK _ _ (fun _ => Cl.of X2.out) ?_⟩
        clear hK K hx2
        simp only [Act.put, List.setIfInBounds_toArray, List.set_cons_succ, List.set_cons_zero]
        (repeat' (first | (refine Mix.lex_quiet0 rfl rfl rfl ?_; intro K hK; go_big_quiet_op; go_big_quiet_on) | (refine Mix.lex_quietG rfl rfl rfl (by with_reducible rfl) rfl rfl ?_; intro K hK; go_big_quiet_op; go_big_quiet_on) | ((first | refine Mix.lex_skipT rfl rfl rfl (by with_reducible rfl) ?_ | refine Mix.lex_skipF rfl rfl rfl (by with_reducible rfl) ?_ | refine Mix.lex_skipU rfl rfl rfl (by with_reducible rfl) ?_); simp only [Act.put, List.setIfInBounds_toArray, List.set_cons_succ, List.set_cons_zero]) | (refine Mix.lex_part rfl rfl rfl rfl (fun hq => ?_) (fun hq => ?_) <;> (fail_if_success (guard_hyp hq :ₛ true = true)) <;> (fail_if_success (guard_hyp hq :ₛ false = false)) <;> first | (exfalso; cases hq; done) | (exfalso; simp only [decide_eq_true_eq, decide_eq_false_iff_not, beq_iff_eq, beq_eq_false_iff_ne, ne_eq, Int.not_lt, Int.not_le] at hq; omega) | simp only [Act.put, List.setIfInBounds_toArray, List.set_cons_succ, List.set_cons_zero])))
        refine Mix.lex_nil ?_
        go_wp2_with fail
        go_ret
        exact ⟨rfl, X1.out.then_ext X2.out⟩
      have t20 : decide ((20 : Int) < (goal.length : Int)) = false := by rw [decide_eq_false_iff_not]; omega
      refine Mix.wp_plain [9] (Cl w1 No) (Cl.of (Only.refl _ _)) ?_
      (repeat' (first | (refine Mix.lex_quiet0 rfl rfl rfl ?_; intro K hK; go_big_quiet_op; go_big_quiet_on) | (refine Mix.lex_quietG rfl rfl rfl (by with_reducible rfl) rfl rfl ?_; intro K hK; go_big_quiet_op; go_big_quiet_on) | ((first | refine Mix.lex_skipT rfl rfl rfl (by with_reducible rfl) ?_ | refine Mix.lex_skipF rfl rfl rfl (by with_reducible rfl) ?_ | refine Mix.lex_skipU rfl rfl rfl (by with_reducible rfl) ?_); simp only [Act.put, List.setIfInBounds_toArray, List.set_cons_succ, List.set_cons_zero]) | (refine Mix.lex_part rfl rfl rfl rfl (fun hq => ?_) (fun hq => ?_) <;> (fail_if_success (guard_hyp hq :ₛ true = true)) <;> (fail_if_success (guard_hyp hq :ₛ false = false)) <;> first | (exfalso; cases hq; done) | (exfalso; simp only [decide_eq_true_eq, decide_eq_false_iff_not, beq_iff_eq, beq_eq_false_iff_ne, ne_eq, Int.not_lt, Int.not_le] at hq; omega) | simp only [Act.put, List.setIfInBounds_toArray, List.set_cons_succ, List.set_cons_zero])))
      ((first | refine Mix.lex_goes0 rfl rfl ?_ | refine Mix.lex_goesG rfl rfl rfl (by with_reducible rfl) rfl ?_); intro K hK; go_simp)
      refine (HL.out w1 X1.out).mono ?_
      rintro e u2 ⟨rfl, hx2⟩
      have X2 := Lib.hid hx2
      refine ⟨_, rfl, hK _ _ (fun _ => Cl.of X2.out) ?_⟩
      clear hK K hx2
      simp only [Act.put, List.setIfInBounds_toArray, List.set_cons_succ, List.set_cons_zero]
      (repeat' (first | (refine Mix.lex_quiet0 rfl rfl rfl ?_; intro K hK; go_big_quiet_op; go_big_quiet_on) | (refine Mix.lex_quietG rfl rfl rfl (by with_reducible rfl) rfl rfl ?_; intro K hK; go_big_quiet_op; go_big_quiet_on) | ((first | refine Mix.lex_skipT rfl rfl rfl (by with_reducible rfl) ?_ | refine Mix.lex_skipF rfl rfl rfl (by with_reducible rfl) ?_ | refine Mix.lex_skipU rfl rfl rfl (by with_reducible rfl) ?_); simp only [Act.put, List.setIfInBounds_toArray, List.set_cons_succ, List.set_cons_zero]) | (refine Mix.lex_part rfl rfl rfl rfl (fun hq => ?_) (fun hq => ?_) <;> (fail_if_success (guard_hyp hq :ₛ true = true)) <;> (fail_if_success (guard_hyp hq :ₛ false = false)) <;> first | (exfalso; cases hq; done) | (exfalso; simp only [decide_eq_true_eq, decide_eq_false_iff_not, beq_iff_eq, beq_eq_false_iff_ne, ne_eq, Int.not_lt, Int.not_le] at hq; omega) | simp only [Act.put, List.setIfInBounds_toArray, List.set_cons_succ, List.set_cons_zero])))
      refine Mix.lex_nil ?_
      have C2 := C1.out.keep X2.out id
      have k0 : u2.cell? ⟨g8, 0, none⟩ = some (.slice v.vA m.vars.length v.vc) := C2.cell 0
      have k1 : u2.cell? ⟨g8, 1, none⟩ = some (.slice v.rA m.rules.length v.rc) := C2.cell 1
      have k2 : u2.cell? ⟨g8, 2, none⟩ = some (.slice v.pA m.phony.length v.pc) := C2.cell 2
      have X3 := Lib.hid (X1.out.then_ext X2.out)
      have hmR : m = (parseF s).1 := by rw [← HR.out]
      have HOf : Hid (Calls Tryz.prog 11 #[mkV v m, .slice A n c, S goal] u2 (OfsRes u2 (groupsF m xs goal))) := by
        have hl := HBL.out.symm
        have h1 := Of_c (lc := c) (HM.out.ext X3.out) (M1.out.ext X2.out) (hln ▸ HS.out.ext X3.out) (hmR ▸ gbd hl) goal (by omega) (fun _ => hmR ▸ cand_len hl (by omega)) (hmR ▸ cand_few hl goal)
        rw [hln] at h1
        exact h1
      have hok := fun h => groupsF_ok (m := m) (l := xs) (chk_uniq HCk.out).1 (goal := goal) h
      have her := groupsF_err (m := m) (l := xs) (goal := goal)
      generalize groupsF m xs goal = R at HOf hok her
      obtain ⟨gs, code⟩ := R
      have HOk := Lib.hid hok
      have HEr := Lib.hid her
      clear hok her C2 hmR
      go_wp2_with fail
      refine HOf.out.mono ?_
      rintro e u4 ⟨A2, c2, os, he, hG, hx4, hcap⟩
      have he : e = .returned (.tuple #[.slice A2 gs.length c2, errV code]) := he
      subst he
      have hcap : gs.length ≤ c2 := hcap
      have HG : Hid (GrpsR u4 A2 os gs) := hG
      have X4 := Lib.hid (X3.out.then_ext hx4)
      clear hG hx4 HOf k0 k1 k2
      by_cases h0 : code = 0
      · subst h0
        obtain ⟨hg1, hg2, hg3, hg4⟩ := HOk.out rfl
        have hg2 : gs.length ≤ 10 := hg2
        have HOK := Lib.hid hg1
        have HL3 := Lib.hid (And.intro hg3 hg4)
        have HMk : Hid (∀ u, Ext u4 u → ∀ t, Calls Tryz.prog 15 #[.slice A2 gs.length c2, S t] u fun e w' => e = .returned (.int .i64 (idxI (makerF gs t))) ∧ Ext u w') := fun u hu t => by
          refine Maker_c (HG.out.ext hu) (show gs.length ≤ 100 by omega) (fun g hg => ?_) t
          obtain ⟨k, hk⟩ := hg1.rl g hg
          have hbd : GBd m xs := by
            have := gbd (s := s) HBL.out.symm
            rw [← HR.out] at this
            exact this
          have := (ruleF_b hbd hk).2.1
          omega
        have HGt : Hid (∀ u, Ext w u → ∀ t, Calls Tryz.prog 19 #[.slice A n c, S t] u fun e w' => e = .returned (.tuple #[S (getT t xs), .bool (getB t xs)]) ∧ Ext u w') := fun u hu t => by
          obtain ⟨q1, _, q3⟩ := lightF_facts HBL.out.symm
          exact Get_c (HS.out.ext hu) (by omega) t q3
        have HRw : Hid (∀ x ∈ os, SlR strF u4 x.1.tA x.2.targets.length x.2.targets ∧ SlR strF u4 x.1.nA x.2.needs.length x.2.needs ∧ x.2.targets.length ≤ 2 ∧ x.2.needs.length ≤ 3) := fun x hx => by
          refine ⟨(HG.out.rr x hx).1, (HG.out.rr x hx).2.1, ?_⟩
          have hm : x.2 ∈ gs := by rw [← HG.out.om]; exact List.mem_map_of_mem hx
          obtain ⟨k, hk⟩ := hg1.rl x.2 hm
          have hbd : GBd m xs := by
            have := gbd (s := s) HBL.out.symm
            rw [← HR.out] at this
            exact this
          exact (ruleF_b hbd hk).2
        have HB3 : Hid (∀ g ∈ gs, GB3 g) := fun g hg => by
          obtain ⟨k, hk⟩ := hg1.rl g hg
          have hbd : GBd m xs := by
            have := gbd (s := s) HBL.out.symm
            rw [← HR.out] at this
            exact this
          exact ruleF_b3 hbd k g hk
        clear hg1 hg3 hg4 HOk HEr HGt
        rw [errV_zero]
        rcases Nat.lt_or_ge sn gs.length with hy | hy
        · have t9 : decide ((sn : Int) < (gs.length : Int)) = true := by rw [decide_eq_true_iff]; omega
          go_wp2_with fail
          go_ret
          exact ⟨rfl, X4.out⟩
        have t9 : decide ((sn : Int) < (gs.length : Int)) = false := by rw [decide_eq_false_iff_not]; omega
        have hsg : gs.length ≤ sc := by omega
        obtain ⟨st, hst⟩ : ∃ st, st = ys.take gs.length := ⟨_, rfl⟩
        have HSt : Hid (∀ u, Ext w u → SlR boF u sA gs.length st) := fun u hu => by rw [hst]; exact (HY.out.ext hu).take hy
        have HUn : Hid (∀ u, Ext u4 u → Calls Tryz.prog 21 #[.slice A2 gs.length c2, .slice sA gs.length sc] u (UnsRes u gs st)) := fun u hu => Units_c (HG.out.ext hu) hg2 hcap HB3.out (HSt.out u (X4.out.then_ext hu))
        have hmk := make_ints gs.length (by omega)
        clear hst
        go_wp2_with fail
        refine (HUn.out u4 (Only.refl _ _)).mono ?_
        rintro e u5 ⟨B, d, us, r, hL, rfl, hU, hx5⟩
        obtain ⟨uu, huu⟩ : ∃ uu, uu = unitsF gs st r := ⟨_, rfl⟩
        rw [← huu] at hU ⊢
        have HLs := Lib.hid hL
        have HUu := Lib.hid huu
        have HUR := Lib.hid hU
        have X45 := Lib.hid hx5
        have X5 := Lib.hid (X4.out.then_ext hx5)
        have hul : uu.length ≤ 10 := by
          rw [huu, unitsF, unitsTo]
          have h2 := List.length_filterMap_le (unit1 gs st r) (List.range gs.length)
          rw [List.length_range] at h2
          omega
        clear hL hU hx5 huu HUn
        go_upto_region 13 with fail
        obtain ⟨w6, hw6⟩ : ∃ u, u = u5.alloc (.cells (upV (List.replicate gs.length 0)) intT) := ⟨_, rfl⟩
        obtain ⟨g14, hg14⟩ : ∃ g, g = u5.heap.size := ⟨_, rfl⟩
        rw [← hw6, ← hg14]
        have X6 : Hid (Ext u5 w6) := by rw [hw6]; exact (Only.refl No _).alloc _
        have C6 : Hid (Cs w6 g14 intT (upV (List.replicate gs.length 0))) := by rw [hw6, hg14]; exact Cs.new _ _ _
        have HG14 : Hid (u5.heap.size ≤ g14) := Nat.le_of_eq hg14.symm
        clear hw6 hg14 hmk
        go_wp2_with fail
        go_loopw [15] (fun i wr => ∃ k : Nat, k ≤ uu.length ∧ i = .int .i64 k ∧ ∃ arr : List Nat, Cs wr g14 intT (upV arr) ∧ InOk uu gs.length k 0 arr ∧ Ext u5 wr) (fun i _ => uu.length - (intOf i).toNat)
        case atStart => exact ⟨0, Nat.zero_le _, rfl, _, C6.out, InOk.start _ _, X6.out⟩
        case round =>
          clear C6 X6
          obtain ⟨i, hi, rfl, arr, hC, hI, hx⟩ := hrel
          have C0 := Lib.hid hC
          have I0 := Lib.hid hI
          have XR := Lib.hid hx
          clear hC hI hx
          by_cases hlt : i < uu.length
          · obtain ⟨bu, ou, ⟨⟨C, ce⟩, ks⟩, rfl, hui, cu⟩ := uns_get HUR.out.1 hlt
            have hki : uu[i]? = some ks := by rw [← HUR.out.2.2, List.getElem?_map, hui]; rfl
            have HKi := Lib.hid hki
            have HKs : Hid (SlR inF u5 C ks.length ks) := HUR.out.2.1 _ (List.mem_of_getElem? hui)
            have CU : Hid (∀ z, Ext u5 z → z.cell? ⟨bu, ou + i, none⟩ = some (.slice C ks.length ce)) := fun z hz => cu ⟨z, hz⟩
            have hkl : ks.length ≤ 10 := by
              have hm : ks ∈ unitsF gs st r := by rw [← HUu.out]; exact List.mem_of_getElem? hki
              obtain ⟨p, _, rfl, _⟩ := units_at hm
              have := List.length_filter_le (fun k => stB st k && decide (r k = p)) (List.range gs.length)
              rw [List.length_range] at this
              exact Nat.le_trans this hg2
            clear hui cu hki
            go_wp2_with fail
            go_loopw [16] (fun i' wr => ∃ p : Nat, p ≤ ks.length ∧ i' = .int .i64 p ∧ ∃ arr : List Nat, Cs wr g14 intT (upV arr) ∧ InOk uu gs.length i p arr ∧ Ext u5 wr) (fun i' _ => ks.length - (intOf i').toNat)
            case atStart => exact ⟨0, Nat.zero_le _, rfl, arr, C0.out, I0.out, XR.out⟩
            case round =>
              clear C0 I0 XR
              obtain ⟨p, hp, rfl, arr, hC, hI, hx⟩ := hrel
              have C0 := Lib.hid hC
              have I0 := Lib.hid hI
              have XR := Lib.hid hx
              have d0 := CU.out wr hx
              clear hC hI hx
              by_cases hlp : p < ks.length
              · obtain ⟨bk, ok, k0, rfl, hk0, ck⟩ := ins_get HKs.out hlp
                obtain ⟨s1, s2, s3, s4, s5⟩ := I0.out.step HLs.out HUu.out HKi.out hk0
                have S5 := Lib.hid s5
                have e0 : wr.cell? ⟨bk, ok + p, none⟩ = some (.int .i64 (k0 : Int)) := ck ⟨wr, XR.out⟩
                obtain ⟨bs, so, sv, e, hsv, cs⟩ := bos_get (HSt.out u5 X5.out) s1
                have hsv2 : sv = true := by rw [← stB_at hsv]; exact s2
                subst hsv2
                have e1 : wr.cell? ⟨bs, so + k0, none⟩ = some (.bool true) := cs ⟨wr, XR.out⟩
                have e2 : wr.cell? ⟨g14, k0, none⟩ = some (.int .i64 0) := by rw [C0.out.cell k0, upV_get (by rw [I0.out.len]; exact s1), s3]; rfl
                have z2 := C0.out.frozen k0
                have t1 : decide ((k0 : Int) < 0) = false := by rw [decide_eq_false_iff_not]; omega
                have t2 : decide ((gs.length : Int) ≤ (k0 : Int)) = false := by rw [decide_eq_false_iff_not]; omega
                have HE := Lib.hid e
                clear hk0 s2 s3 s5 hsv cs I0
                have hsA : sA = some ⟨bs, so, none⟩ := HE.out
                subst hsA
                clear e HE
                have HOW : Hid (∀ z, Only (fun b => b = g14) wr z → Ext u5 z) := fun z hz => XR.out.trans hz fun b hb e => by have e : b = g14 := e; have := HG14.out; omega
                have HCW : Hid (Cs (wr.setCell ⟨g14, k0, none⟩ (.int .i64 ((i + 1 : Nat) : Int))) g14 intT (upV (arr.set k0 (i + 1)))) := C0.out.ups k0 (i + 1)
                have HXW : Hid (Ext u5 (wr.setCell ⟨g14, k0, none⟩ (.int .i64 ((i + 1 : Nat) : Int)))) := HOW.out _ ((Only.refl _ _).at_ k0 _)
                cases p with
                | zero =>
                  clear s4
                  rw [Nat.add_zero] at e0
                  go_wp2_with fail
                  go_roundw
                  case rel => exact ⟨1, by omega, rfl, _, HCW.out, S5.out, HXW.out⟩
                  case measure => simp [intOf]; omega
                | succ q =>
                  obtain ⟨mq, hmq, hlq⟩ := s4 q rfl
                  obtain ⟨b', o', m2, e, hm2, cm⟩ := ins_get HKs.out (show q < ks.length by omega)
                  obtain ⟨rfl, rfl⟩ : bk = b' ∧ ok = o' := by
                    injection e with e
                    injection e with e1 e2
                    exact ⟨e1, e2⟩
                  obtain rfl : mq = m2 := by rw [hmq] at hm2; exact Option.some.inj hm2
                  have e3 : wr.cell? ⟨bk, ok + q, none⟩ = some (.int .i64 (mq : Int)) := cm ⟨wr, XR.out⟩
                  have t3 : decide ((k0 : Int) ≤ (mq : Int)) = false := by rw [decide_eq_false_iff_not]; omega
                  clear s4 hmq hm2 cm e
                  go_wp2_with fail
                  go_roundw
                  case rel => exact ⟨q + 1 + 1, by omega, by go_num, _, HCW.out, S5.out, HXW.out⟩
                  case measure => simp [intOf]; omega
              · obtain rfl : p = ks.length := by omega
                have I1 := Lib.hid (I0.out.next HKi.out)
                have HKne : Hid (∀ (j : Nat) (u : List Nat), uu[j]? = some u → ∃ h : Nat, u[0]? = some h ∧ u.headD 0 = h) := fun j u hj => by
                  have hm : u ∈ unitsF gs st r := by rw [← HUu.out]; exact List.mem_of_getElem? hj
                  obtain ⟨p, _, rfl, hr⟩ := units_at hm
                  have e1 := unit_head HLs.out (real_ne hr)
                  refine ⟨p, e1, ?_⟩
                  rw [← List.head?_eq_getElem?] at e1
                  rw [List.headD_eq_head?_getD, e1]; rfl
                go_upto_region 23 with fail
                have XD : Hid (Ext u5 wr.drew) := XR.out.drew
                have CD : Hid (Cs wr.drew g14 intT (upV arr)) := C0.out
                cases i with
                | zero =>
                  refine Mix.wp_draw [] 100 (Cl wr No) (by kernel_rfl) (by kernel_rfl) (Cl.of (Only.refl _ _).drew) ?_
                  (repeat' (first | (refine Mix.lex_quiet0 rfl rfl rfl ?_; intro K hK; go_big_quiet_op; go_big_quiet_on) | (refine Mix.lex_quietG rfl rfl rfl (by with_reducible rfl) rfl rfl ?_; intro K hK; go_big_quiet_op; go_big_quiet_on) | ((first | refine Mix.lex_skipT rfl rfl rfl (by with_reducible rfl) ?_ | refine Mix.lex_skipF rfl rfl rfl (by with_reducible rfl) ?_ | refine Mix.lex_skipU rfl rfl rfl (by with_reducible rfl) ?_); simp only [Act.put, List.setIfInBounds_toArray, List.set_cons_succ, List.set_cons_zero]) | (refine Mix.lex_part rfl rfl rfl rfl (fun hq => ?_) (fun hq => ?_) <;> (fail_if_success (guard_hyp hq :ₛ true = true)) <;> (fail_if_success (guard_hyp hq :ₛ false = false)) <;> first | (exfalso; cases hq; done) | (exfalso; simp only [decide_eq_true_eq, decide_eq_false_iff_not, beq_iff_eq, beq_eq_false_iff_ne, ne_eq, Int.not_lt, Int.not_le] at hq; omega) | simp only [Act.put, List.setIfInBounds_toArray, List.set_cons_succ, List.set_cons_zero])))
                  refine Mix.lex_nil ?_
                  go_wp2_with fail
                  go_roundw
                  case rel => exact ⟨1, by omega, rfl, arr, CD.out, I1.out, XD.out⟩
                  case measure => simp [intOf]; omega
                | succ q =>
                  have hq : q < uu.length := by omega
                  obtain ⟨h1, hh1, hd1⟩ := HKne.out (q + 1) ks HKi.out
                  have hk0 : 0 < ks.length := (List.getElem?_eq_some_iff.1 hh1).1
                  obtain ⟨bk, ok, k0, rfl, hk0', ck⟩ := ins_get HKs.out hk0
                  obtain rfl : h1 = k0 := by rw [hh1] at hk0'; exact Option.some.inj hk0'
                  obtain ⟨b', o', ⟨⟨C', ce'⟩, ks'⟩, e, hui', cu'⟩ := uns_get HUR.out.1 hq
                  obtain ⟨rfl, rfl⟩ : bu = b' ∧ ou = o' := by
                    injection e with e
                    injection e with e1 e2
                    exact ⟨e1, e2⟩
                  have hki' : uu[q]? = some ks' := by rw [← HUR.out.2.2, List.getElem?_map, hui']; rfl
                  obtain ⟨h2, hh2, hd2⟩ := HKne.out q ks' hki'
                  have hk1 : 0 < ks'.length := (List.getElem?_eq_some_iff.1 hh2).1
                  obtain ⟨bk', ok', k1, e2, hk1', ck'⟩ := ins_get (HUR.out.2.1 _ (List.mem_of_getElem? hui')) hk1
                  obtain rfl : h2 = k1 := by rw [hh2] at hk1'; exact Option.some.inj hk1'
                  have e2 : C' = some ⟨bk', ok', none⟩ := e2
                  subst e2
                  have hlt2 : h2 < h1 := by
                    have hp := List.pairwise_iff_getElem.1 (units_rise HLs.out gs.length) q (q + 1) (by have := HUu.out; rw [unitsF] at this; rw [← this]; exact hq) (by have := HUu.out; rw [unitsF] at this; rw [← this]; exact hlt) (Nat.lt_succ_self q)
                    have a1 : (unitsTo gs st r gs.length)[q]? = some ks' := by have := HUu.out; rw [unitsF] at this; rw [← this]; exact hki'
                    have a2 : (unitsTo gs st r gs.length)[q + 1]? = some ks := by have := HUu.out; rw [unitsF] at this; rw [← this]; exact HKi.out
                    rw [(List.getElem?_eq_some_iff.1 a1).2, (List.getElem?_eq_some_iff.1 a2).2, hd1, hd2] at hp
                    exact hp
                  have f0 : ∀ ξ : X wr No, ξ.v.cell? ⟨bu, ou + (q + 1), none⟩ = some (.slice (some ⟨bk, ok, none⟩) ks.length ce) := fun ξ => CU.out _ (XR.out.then_ext ξ.h)
                  have f1 : ∀ ξ : X wr No, ξ.v.cell? ⟨bk, ok, none⟩ = some (.int .i64 (h1 : Int)) := fun ξ => ck ⟨ξ.v, XR.out.then_ext ξ.h⟩
                  have f2 : ∀ ξ : X wr No, ξ.v.cell? ⟨bu, ou + q, none⟩ = some (.slice (some ⟨bk', ok', none⟩) ks'.length ce') := fun ξ => cu' ⟨ξ.v, XR.out.then_ext ξ.h⟩
                  have f3 : ∀ ξ : X wr No, ξ.v.cell? ⟨bk', ok', none⟩ = some (.int .i64 (h2 : Int)) := fun ξ => ck' ⟨ξ.v, XR.out.then_ext ξ.h⟩
                  have t3 : decide ((h1 : Int) ≤ (h2 : Int)) = false := by rw [decide_eq_false_iff_not]; omega
                  clear hh1 hd1 hk0' ck e hui' cu' hki' hh2 hd2 hk1' ck'
                  refine Mix.wp_draw [] 100 (Cl wr No) (by kernel_rfl) (by kernel_rfl) (Cl.of (Only.refl _ _).drew) ?_
                  (repeat' (first | (refine Mix.lex_quiet0 rfl rfl rfl ?_; intro K hK; go_big_quiet_op; go_big_quiet_on) | (refine Mix.lex_quietG rfl rfl rfl (by with_reducible rfl) rfl rfl ?_; intro K hK; go_big_quiet_op; go_big_quiet_on) | ((first | refine Mix.lex_skipT rfl rfl rfl (by with_reducible rfl) ?_ | refine Mix.lex_skipF rfl rfl rfl (by with_reducible rfl) ?_ | refine Mix.lex_skipU rfl rfl rfl (by with_reducible rfl) ?_); simp only [Act.put, List.setIfInBounds_toArray, List.set_cons_succ, List.set_cons_zero]) | (refine Mix.lex_part rfl rfl rfl rfl (fun hq => ?_) (fun hq => ?_) <;> (fail_if_success (guard_hyp hq :ₛ true = true)) <;> (fail_if_success (guard_hyp hq :ₛ false = false)) <;> first | (exfalso; cases hq; done) | (exfalso; simp only [decide_eq_true_eq, decide_eq_false_iff_not, beq_iff_eq, beq_eq_false_iff_ne, ne_eq, Int.not_lt, Int.not_le] at hq; omega) | simp only [Act.put, List.setIfInBounds_toArray, List.set_cons_succ, List.set_cons_zero])))
                  refine Mix.lex_nil ?_
                  go_wp2_with fail
                  go_roundw
                  case rel => exact ⟨q + 1 + 1, by omega, by go_num, arr, CD.out, I1.out, XD.out⟩
                  case measure => simp [intOf]; omega
          · obtain rfl : i = uu.length := by omega
            rename World => wb
            have hal := Lib.hid I0.out.len
            have HRe : Hid (∀ k, k < gs.length → stB st k = true → nphB gs k = true → arr.getD k 0 ≠ 0) := fun k hk hs hp => I0.out.real HLs.out HUu.out hk hs hp
            have HSa : Hid (∀ x y, x < gs.length → y < gs.length → stB st x = true → stB st y = true → r x = r y → arr.getD x 0 = arr.getD y 0) := fun x y hx hy sx sy hr => I0.out.same HLs.out HUu.out hx hy sx sy hr
            have XB := Lib.hid (X45.out.then_ext XR.out)
            have XWB := Lib.hid (X5.out.then_ext XR.out)
            have CA : Hid (∀ z, Ext wb z → ∀ k, k < gs.length → z.cell? ⟨g14, k, none⟩ = some (.int .i64 (arr.getD k 0 : Nat))) := fun z hz k hk => by rw [(C0.out.keep hz id).cell k]; exact upV_get (by rw [hal.out]; exact hk)
            clear I0 C0 HUR hlt hi hal XR
            go_wp2_with fail
            go_loopw [18] (fun i wr => ∃ k : Nat, k ≤ gs.length ∧ i = .int .i64 k ∧ Ext wb wr) (fun i _ => gs.length - (intOf i).toNat)
            case atStart => exact ⟨0, Nat.zero_le _, rfl, Only.refl _ _⟩
            case round =>
              obtain ⟨i, hi, rfl, hx⟩ := hrel
              have XR := Lib.hid hx
              clear hx
              by_cases hlt : i < gs.length
              · obtain ⟨bg, og, ⟨⟨tA, tc, nA, nc, cA, cc⟩, G⟩, rfl, hox, _, c1, _, c3⟩ := grps_get HG.out.row hlt
                obtain ⟨bs, so, sv, e, hsv, cs⟩ := bos_get (HSt.out wb XWB.out) hlt
                have hsA : sA = some ⟨bs, so, none⟩ := e
                subst hsA
                have Hsi := Lib.hid (stB_at hsv)
                have hgi : gs[i]? = some G := by rw [← HG.out.om, List.getElem?_map, hox]; rfl
                have HGi := Lib.hid hgi
                have Hph := Lib.hid (nphB_at hgi)
                have hnn : G.needs.length ≤ 3 := (HB3.out G (List.mem_of_getElem? hgi)).2.1
                have HN : Hid (SlR strF u4 nA G.needs.length G.needs) := (HG.out.rr _ (List.mem_of_getElem? hox)).2.1
                have e1 : wr.cell? ⟨bs, so + i, none⟩ = some (.bool sv) := cs ⟨wr, XR.out⟩
                have e2 : wr.cell? ⟨bg, og + i * 4 + 3, none⟩ = some (.bool G.phony) := c3 ⟨wr, XB.out.then_ext XR.out⟩
                have e3 := CA.out wr XR.out i hlt
                have CS : Hid (∀ z, Ext wb z → z.cell? ⟨bs, so + i, none⟩ = some (.bool sv)) := fun z hz => cs ⟨z, hz⟩
                have CN : Hid (∀ z, Ext wb z → z.cell? ⟨bg, og + i * 4 + 1, none⟩ = some (.slice nA G.needs.length nc)) := fun z hz => c1 ⟨z, XB.out.then_ext hz⟩
                have HR0 : Hid (sv = true → G.phony = false → arr.getD i 0 ≠ 0) := fun h1 h2 => HRe.out i hlt (Hsi.out.trans h1) (by rw [Hph.out, h2]; rfl)
                obtain ⟨ai, hai⟩ : ∃ a, a = arr.getD i 0 := ⟨_, rfl⟩
                rw [← hai] at e3 HR0
                have HAi := Lib.hid hai
                generalize G.phony = ph at e2 HR0
                clear e hsv cs hgi hox c1 c3 hai Hph
                have hnx : Hid (sv = true → ph = false → ((ai : Int) == 0) = false) := fun h1 h2 => by rw [beq_eq_false_iff_ne]; have := HR0.out h1 h2; omega
                go_upto_region 28 with fail
                go_cut [179] from 161 to 179 (fun p u => p = .bool false ∧ u = wr)
                case first =>
                  cases sv with
                  | false =>
                    go_wp2_with fail
                    go_meet
                    exact ⟨rfl, rfl⟩
                  | true =>
                    cases ph with
                    | true =>
                      go_wp2_with fail
                      go_meet
                      exact ⟨rfl, rfl⟩
                    | false =>
                      have t5 := hnx.out rfl rfl
                      go_wp2_with fail
                      go_meet
                      exact ⟨rfl, rfl⟩
                case rest =>
                obtain ⟨rfl, hwc⟩ := hcut
                have XC : Hid (Ext wb wc) := by rw [hwc]; exact XR.out
                clear hwc XR e1 e2 e3 hnx HR0
                go_wp2_with fail
                go_loopw [19] (fun j wr => ∃ k : Nat, k ≤ G.needs.length ∧ j = .int .i64 k ∧ Ext wb wr) (fun j _ => G.needs.length - (intOf j).toNat)
                case atStart => exact ⟨0, Nat.zero_le _, rfl, XC.out⟩
                case round =>
                  obtain ⟨k, hk, rfl, hx⟩ := hrel
                  have XR := Lib.hid hx
                  have d1 := CN.out wr hx
                  clear hx XC
                  by_cases hlk : k < G.needs.length
                  · obtain ⟨bt, ot, t, rfl, ht, ct⟩ := strs_get HN.out hlk
                    have hmem := List.mem_of_getElem? ht
                    have hm := ord_need HOK.out HGi.out hmem
                    have HM2 := Lib.hid (HMk.out wr (XB.out.then_ext XR.out) t)
                    have e4 : wr.cell? ⟨bt, ot + k, none⟩ = some (S t) := ct ⟨wr, XB.out.then_ext XR.out⟩
                    clear ht ct
                    go_wp2_with fail
                    refine HM2.out.mono ?_
                    rintro e u ⟨rfl, hu⟩
                    have XU := Lib.hid (XR.out.then_ext hu)
                    have XD : Hid (Ext wb u.drew) := XU.out.drew
                    clear hu HM2 d1 e4
                    rcases hm with ⟨q, hq, hm⟩ | ⟨hm, hb⟩
                    · rw [hm, show idxI (some q) = (q : Int) from rfl]
                      obtain ⟨b', o', sq, e, hsq, cs⟩ := bos_get (HSt.out wb XWB.out) (show q < gs.length by omega)
                      obtain ⟨rfl, rfl⟩ : bs = b' ∧ so = o' := by
                        injection e with e
                        injection e with e1 e2
                        exact ⟨e1, e2⟩
                      have Hsq := Lib.hid (stB_at hsq)
                      have f0 : ∀ ξ : X u No, ξ.v.cell? ⟨bs, so + i, none⟩ = some (.bool sv) := fun ξ => CS.out _ (XU.out.then_ext ξ.h)
                      have f1 : ∀ ξ : X u No, ξ.v.cell? ⟨bs, so + q, none⟩ = some (.bool sq) := fun ξ => cs ⟨ξ.v, XU.out.then_ext ξ.h⟩
                      have f2 : ∀ ξ : X u No, ξ.v.cell? ⟨g14, i, none⟩ = some (.int .i64 (arr.getD i 0 : Nat)) := fun ξ => CA.out _ (XU.out.then_ext ξ.h) i hlt
                      have f3 : ∀ ξ : X u No, ξ.v.cell? ⟨g14, q, none⟩ = some (.int .i64 (arr.getD q 0 : Nat)) := fun ξ => CA.out _ (XU.out.then_ext ξ.h) q (by omega)
                      have hsame : sv = true → sq = true → arr.getD i 0 = arr.getD q 0 := fun h1 h2 => by
                        have s1 := Hsi.out.trans h1
                        have s2 := Hsq.out.trans h2
                        exact HSa.out i q hlt (by omega) s1 s2 (lst_conn HLs.out hlt (by omega) (Conn.here.down (edge_in HGi.out hmem hm hq s1 s2)))
                      obtain ⟨aq, haq⟩ : ∃ a, a = arr.getD q 0 := ⟨_, rfl⟩
                      rw [← haq] at f3 hsame
                      obtain ⟨ax, hax⟩ : ∃ a, a = arr.getD i 0 := ⟨_, rfl⟩
                      rw [← hax] at f2 hsame
                      clear e hsq cs haq hax hm
                      have t6 : decide ((0 : Int) ≤ (q : Int)) = true := by rw [decide_eq_true_iff]; omega
                      go_upto_region 34 with fail
                      cases sv with
                      | false =>
                        clear hsame
                        refine Mix.wp_draw [] 100 (Cl u No) (by kernel_rfl) (by kernel_rfl) (Cl.of (Only.refl _ _).drew) ?_
                        (repeat' (first | (refine Mix.lex_quiet0 rfl rfl rfl ?_; intro K hK; go_big_quiet_op; go_big_quiet_on) | (refine Mix.lex_quietG rfl rfl rfl (by with_reducible rfl) rfl rfl ?_; intro K hK; go_big_quiet_op; go_big_quiet_on) | ((first | refine Mix.lex_skipT rfl rfl rfl (by with_reducible rfl) ?_ | refine Mix.lex_skipF rfl rfl rfl (by with_reducible rfl) ?_ | refine Mix.lex_skipU rfl rfl rfl (by with_reducible rfl) ?_); simp only [Act.put, List.setIfInBounds_toArray, List.set_cons_succ, List.set_cons_zero]) | (refine Mix.lex_part rfl rfl rfl rfl (fun hq => ?_) (fun hq => ?_) <;> (fail_if_success (guard_hyp hq :ₛ true = true)) <;> (fail_if_success (guard_hyp hq :ₛ false = false)) <;> first | (exfalso; cases hq; done) | (exfalso; simp only [decide_eq_true_eq, decide_eq_false_iff_not, beq_iff_eq, beq_eq_false_iff_ne, ne_eq, Int.not_lt, Int.not_le] at hq; omega) | simp only [Act.put, List.setIfInBounds_toArray, List.set_cons_succ, List.set_cons_zero])))
                        refine Mix.lex_nil ?_
                        go_wp2_with fail
                        go_roundw
                        case rel => exact ⟨k + 1, by omega, by go_num, XD.out⟩
                        case measure => simp [intOf]; omega
                      | true =>
                        cases sq with
                        | false =>
                          clear hsame
                          refine Mix.wp_draw [] 100 (Cl u No) (by kernel_rfl) (by kernel_rfl) (Cl.of (Only.refl _ _).drew) ?_
                          (repeat' (first | (refine Mix.lex_quiet0 rfl rfl rfl ?_; intro K hK; go_big_quiet_op; go_big_quiet_on) | (refine Mix.lex_quietG rfl rfl rfl (by with_reducible rfl) rfl rfl ?_; intro K hK; go_big_quiet_op; go_big_quiet_on) | ((first | refine Mix.lex_skipT rfl rfl rfl (by with_reducible rfl) ?_ | refine Mix.lex_skipF rfl rfl rfl (by with_reducible rfl) ?_ | refine Mix.lex_skipU rfl rfl rfl (by with_reducible rfl) ?_); simp only [Act.put, List.setIfInBounds_toArray, List.set_cons_succ, List.set_cons_zero]) | (refine Mix.lex_part rfl rfl rfl rfl (fun hq => ?_) (fun hq => ?_) <;> (fail_if_success (guard_hyp hq :ₛ true = true)) <;> (fail_if_success (guard_hyp hq :ₛ false = false)) <;> first | (exfalso; cases hq; done) | (exfalso; simp only [decide_eq_true_eq, decide_eq_false_iff_not, beq_iff_eq, beq_eq_false_iff_ne, ne_eq, Int.not_lt, Int.not_le] at hq; omega) | simp only [Act.put, List.setIfInBounds_toArray, List.set_cons_succ, List.set_cons_zero])))
                          refine Mix.lex_nil ?_
                          go_wp2_with fail
                          go_roundw
                          case rel => exact ⟨k + 1, by omega, by go_num, XD.out⟩
                          case measure => simp [intOf]; omega
                        | true =>
                          have hsame := hsame rfl rfl
                          subst hsame
                          refine Mix.wp_draw [] 100 (Cl u No) (by kernel_rfl) (by kernel_rfl) (Cl.of (Only.refl _ _).drew) ?_
                          (repeat' (first | (refine Mix.lex_quiet0 rfl rfl rfl ?_; intro K hK; go_big_quiet_op; go_big_quiet_on) | (refine Mix.lex_quietG rfl rfl rfl (by with_reducible rfl) rfl rfl ?_; intro K hK; go_big_quiet_op; go_big_quiet_on) | ((first | refine Mix.lex_skipT rfl rfl rfl (by with_reducible rfl) ?_ | refine Mix.lex_skipF rfl rfl rfl (by with_reducible rfl) ?_ | refine Mix.lex_skipU rfl rfl rfl (by with_reducible rfl) ?_); simp only [Act.put, List.setIfInBounds_toArray, List.set_cons_succ, List.set_cons_zero]) | (refine Mix.lex_part rfl rfl rfl rfl (fun hq => ?_) (fun hq => ?_) <;> (fail_if_success (guard_hyp hq :ₛ true = true)) <;> (fail_if_success (guard_hyp hq :ₛ false = false)) <;> first | (exfalso; cases hq; done) | (exfalso; simp only [decide_eq_true_eq, decide_eq_false_iff_not, beq_iff_eq, beq_eq_false_iff_ne, ne_eq, Int.not_lt, Int.not_le] at hq; omega) | simp only [Act.put, List.setIfInBounds_toArray, List.set_cons_succ, List.set_cons_zero])))
                          refine Mix.lex_nil ?_
                          go_wp2_with fail
                          go_roundw
                          case rel => exact ⟨k + 1, by omega, by go_num, XD.out⟩
                          case measure => simp [intOf]; omega
                    · rw [hm, show idxI none = (-1 : Int) from rfl]
                      clear hm
                      go_upto_region 34 with fail
                      refine Mix.wp_draw [] 100 (Cl u No) (by kernel_rfl) (by kernel_rfl) (Cl.of (Only.refl _ _).drew) ?_
                      (repeat' (first | (refine Mix.lex_quiet0 rfl rfl rfl ?_; intro K hK; go_big_quiet_op; go_big_quiet_on) | (refine Mix.lex_quietG rfl rfl rfl (by with_reducible rfl) rfl rfl ?_; intro K hK; go_big_quiet_op; go_big_quiet_on) | ((first | refine Mix.lex_skipT rfl rfl rfl (by with_reducible rfl) ?_ | refine Mix.lex_skipF rfl rfl rfl (by with_reducible rfl) ?_ | refine Mix.lex_skipU rfl rfl rfl (by with_reducible rfl) ?_); simp only [Act.put, List.setIfInBounds_toArray, List.set_cons_succ, List.set_cons_zero]) | (refine Mix.lex_part rfl rfl rfl rfl (fun hq => ?_) (fun hq => ?_) <;> (fail_if_success (guard_hyp hq :ₛ true = true)) <;> (fail_if_success (guard_hyp hq :ₛ false = false)) <;> first | (exfalso; cases hq; done) | (exfalso; simp only [decide_eq_true_eq, decide_eq_false_iff_not, beq_iff_eq, beq_eq_false_iff_ne, ne_eq, Int.not_lt, Int.not_le] at hq; omega) | simp only [Act.put, List.setIfInBounds_toArray, List.set_cons_succ, List.set_cons_zero])))
                      refine Mix.lex_nil ?_
                      go_wp2_with fail
                      go_roundw
                      case rel => exact ⟨k + 1, by omega, by go_num, XD.out⟩
                      case measure => simp [intOf]; omega
                  · obtain rfl : k = G.needs.length := by omega
                    go_wp2_with fail
                    go_roundw
                    case rel => exact ⟨i + 1, by omega, by go_num, XR.out⟩
                    case measure => simp [intOf]; omega
              · obtain rfl : i = gs.length := by omega
                go_wp2_with fail
                go_ret
                exact ⟨rfl, XWB.out.then_ext XR.out⟩
      · have hgn : gs = [] := HEr.out h0
        subst hgn
        rw [errV_pos h0]
        go_wp2_with fail
        go_ret
        exact ⟨rfl, X4.out⟩
  · rw [errV_pos hf]
    go_wp2_with fail
    go_ret
    exact ⟨rfl, X1.out⟩
end Go.Proofs.YtnhaekifcieeoaaGreatDoor
