/- Put together: Bsy. -/
import Derived.Test.YtnhaekifcieeoaaGreatDoorPk17
import Derived.Test.YtnhaekifcieeoaaGreatDoorPk19
import Derived.Test.YtnhaekifcieeoaaGreatDoorPk20
import Derived.Test.YtnhaekifcieeoaaGreatDoorPk16
import Derived.Test.YtnhaekifcieeoaaGreatDoorPk24
import Derived.Test.YtnhaekifcieeoaaGreatDoorPk07
namespace Go.Proofs.YtnhaekifcieeoaaGreatDoor
open Go Go.RowKit
theorem unitM_nonneg (gs : List Grp) : ∀ (u : List Nat) (l out : List File) (K : List (Str × Rcd)), 0 ≤ (unitM gs u l out K).2
  | [], _, _, _ => Int.le_refl _
  | k :: ks, l, out, K => by
    rw [unitM]
    cases gs[k]? with
    | none => exact unitM_nonneg gs ks _ _ _
    | some g =>
      simp only
      split
      · exact unitM_nonneg gs ks _ _ _
      · split
        · unfold oneF
          split
          · exact allF_nonneg l g
          · split <;> simp
        · exact unitM_nonneg gs ks _ _ _
theorem unitM_bad (gs : List Grp) : ∀ (u : List Nat) (l out : List File) (K : List (Str × Rcd)), (unitM gs u l out K).2 ≠ 0 → (unitM gs u l out K).1 = ([], [])
  | [], _, _, _, h => absurd rfl h
  | k :: ks, l, out, K, h => by
    rw [unitM] at h ⊢
    cases hg : gs[k]? with
    | none => rw [hg] at h; exact unitM_bad gs ks _ _ _ h
    | some g =>
      rw [hg] at h
      simp only at h ⊢
      split
      · rename_i hp; rw [if_pos hp] at h; exact unitM_bad gs ks _ _ _ h
      · rename_i hp
        rw [if_neg hp] at h
        split
        · rfl
        · rename_i ho; rw [if_neg ho] at h; exact unitM_bad gs ks _ _ _ h
theorem oneF_len (l : List File) (G : Grp) : (oneF l G).1.1.length ≤ G.cmds.length := by
  have := (allF_fit l G).2.1
  unfold oneF
  split
  · exact Nat.zero_le _
  · split
    · exact Nat.zero_le _
    · exact this
theorem unitM_len {gs : List Grp} (hb : ∀ g ∈ gs, g.cmds.length ≤ 3) : ∀ (u : List Nat) (l out : List File) (K : List (Str × Rcd)), (unitM gs u l out K).1.1.length ≤ out.length + 3 * u.length
  | [], _, _, _ => Nat.le_refl _
  | k :: ks, l, out, K => by
    rw [unitM, List.length_cons]
    cases hg : gs[k]? with
    | none => have := unitM_len hb ks l out K; simp only; omega
    | some g =>
      simp only
      split
      · have := unitM_len hb ks l out K; omega
      · split
        · exact Nat.zero_le _
        · have h1 := unitM_len hb ks (putAll (oneF l g).1.1 l) (putAll (oneF l g).1.1 out) (K ++ [(g.targets.headD [], (oneF l g).1.2)])
          have h2 := putAll_len (oneF l g).1.1 out
          have h3 := oneF_len l g
          have h4 := hb g (List.mem_of_getElem? hg)
          omega
def UOut (w : World) (R : (List File × List (Str × Rcd)) × Int) (e : Ending) (w' : World) : Prop :=
  Ext w w' ∧ ∃ (A : Option Addr) (c : Nat) (m : Option Nat) (F : Str → Option (RcdV × Rcd)), e = .returned (.tuple #[.slice A R.1.1.length c, .map m, errV R.2]) ∧ SlR fileF w' A R.1.1.length R.1.1 ∧ KpR w' F ∧ KpM w' m (kpF F) ∧
    (∀ v, Ext w' v → ∀ ty, (Builtin.len_ #[rmapT] ty #[.map m]).run Tryz.prog v = .ok (.int .i64 (R.1.2.length : Int)) v) ∧ ∀ p ∈ R.1.2, ∃ V, F p.1 = some (V, p.2)
theorem UnitRes.out {w w' : World} {R : (List File × List (Str × Rcd)) × Int} {e : Ending} (h : UnitRes w R e w') (hn : R.2 = 0 → (R.1.2.map (·.1)).Nodup) (hb : R.2 ≠ 0 → R.1 = ([], [])) : UOut w R e w' := by
  obtain ⟨hx, ⟨h0, A, c, b, n, F, he, hs, hm, _⟩ | ⟨h0, he⟩⟩ := h
  · refine ⟨hx, A, c, some b, F, by rw [he, h0]; rfl, hs, hm.r, hm.m.kpm, fun v hv ty => (hm.ext hv).len (hn h0) ty, fun p hp => hm.at (hn h0) hp⟩
  · refine ⟨hx, none, 0, none, fun _ => none, by rw [he, hb h0]; rfl, by rw [hb h0]; exact SlR.none_, (fun s p e => by cases e), KpM.nil _, fun v hv ty => ?_, fun p hp => by rw [hb h0] at hp; cases hp⟩
    rw [hb h0]
    exact Go.Maps.len_nil rmap_ty ty
set_option maxRecDepth 100000 in
set_option maxHeartbeats 2000000 in
theorem BuildSays_all {w : World} (hE : EnvT w) (s goal : Str) (hs : s.length ≤ maxLen) (hgl : goal.length ≤ maxLen) {A : Option Addr} {n c : Nat} {xs : List File} (h : SlR fileF w A n xs) (hn0 : n ≤ maxLen)
    {sA : Option Addr} {sn sc : Nat} {sts : List Bool} (hst : SlR boF w sA sn sts) (hsn : sn ≤ maxLen) :
    Calls Tryz.prog 6 #[S s, S goal, .slice A n c, .slice sA sn sc] w fun e w' => e = .returned (.bool true) ∧ Ext w w' := by
  have HE := Lib.hid hE
  have HS := Lib.hid h
  have hln := h.1
  have HSt := Lib.hid hst
  have hs : s.length ≤ 9223372036854775807 := hs
  have hgl : goal.length ≤ 9223372036854775807 := hgl
  have hsn : sn ≤ 9223372036854775807 := hsn
  have HL : Hid (∀ v, Ext w v → Calls Tryz.prog 9 #[.slice A n c] v fun e w' => e = .returned (.bool (lightF xs)) ∧ Ext v w') := fun v hv => LightFiles_c (HS.out.ext hv) hn0
  have HBc := Lib.hid (builds_c hE)
  obtain ⟨bl, hbl⟩ : ∃ bl, bl = lightF xs := ⟨_, rfl⟩
  rw [← hbl] at HL
  have HBL := Lib.hid hbl
  clear hE h hbl hst
  go_enter Tryz.func6, Tryz.ntmps6
  go_wp2_with fail
  refine HBc.out.mono ?_
  rintro e u0 ⟨rfl, hu⟩
  have U0 := Lib.hid hu
  clear hu HBc
  go_upto_region 2 with fail
  rcases Nat.lt_or_ge 800 s.length with h8 | h8
  · have g8 : decide ((800 : Int) < (s.length : Int)) = true := by rw [decide_eq_true_iff]; omega
    go_wp2_with (first | ((first | refine Mix.wpList_guarded rfl ?_ | refine Mix.wp_still (by kernel_rfl) (by kernel_rfl) ?_); (repeat' (first | (refine Mix.lex_quiet0 rfl rfl rfl ?_; intro K hK; go_big_quiet_op; go_big_quiet_on) | (refine Mix.lex_quietG rfl rfl rfl (by with_reducible rfl) rfl rfl ?_; intro K hK; go_big_quiet_op; go_big_quiet_on) | ((first | refine Mix.lex_skipT rfl rfl rfl (by with_reducible rfl) ?_ | refine Mix.lex_skipF rfl rfl rfl (by with_reducible rfl) ?_ | refine Mix.lex_skipU rfl rfl rfl (by with_reducible rfl) ?_); simp only [Act.put, List.setIfInBounds_toArray, List.set_cons_succ, List.set_cons_zero]) | (refine Mix.lex_part rfl rfl rfl rfl (fun hq => ?_) (fun hq => ?_) <;> (fail_if_success (guard_hyp hq :ₛ true = true)) <;> (fail_if_success (guard_hyp hq :ₛ false = false)) <;> first | (exfalso; cases hq; done) | (exfalso; simp only [decide_eq_true_eq, decide_eq_false_iff_not, beq_iff_eq, beq_eq_false_iff_ne, ne_eq, Int.not_lt, Int.not_le] at hq; omega) | simp only [Act.put, List.setIfInBounds_toArray, List.set_cons_succ, List.set_cons_zero]))); all_goals (refine Mix.lex_nil ?_)))
    go_ret
    exact ⟨rfl, U0.out⟩
  have g8 : decide ((800 : Int) < (s.length : Int)) = false := by rw [decide_eq_false_iff_not]; omega
  by_cases hcn : bl = true ∧ goal.length ≤ 20
  case neg =>
    refine Mix.wp_plain [9] (Cl u0 No) (Cl.of (Only.refl _ _)) ?_
    cases bl
    case' true => have g2 : decide ((20 : Int) < (goal.length : Int)) = true := by rw [decide_eq_true_iff]; have : ¬ goal.length ≤ 20 := fun h => hcn ⟨rfl, h⟩; omega
    all_goals
      clear hcn
      (repeat' (first | (refine Mix.lex_quiet0 rfl rfl rfl ?_; intro K hK; go_big_quiet_op; go_big_quiet_on) | (refine Mix.lex_quietG rfl rfl rfl (by with_reducible rfl) rfl rfl ?_; intro K hK; go_big_quiet_op; go_big_quiet_on) | ((first | refine Mix.lex_skipT rfl rfl rfl (by with_reducible rfl) ?_ | refine Mix.lex_skipF rfl rfl rfl (by with_reducible rfl) ?_ | refine Mix.lex_skipU rfl rfl rfl (by with_reducible rfl) ?_); simp only [Act.put, List.setIfInBounds_toArray, List.set_cons_succ, List.set_cons_zero]) | (refine Mix.lex_part rfl rfl rfl rfl (fun hq => ?_) (fun hq => ?_) <;> (fail_if_success (guard_hyp hq :ₛ true = true)) <;> (fail_if_success (guard_hyp hq :ₛ false = false)) <;> first | (exfalso; cases hq; done) | (exfalso; simp only [decide_eq_true_eq, decide_eq_false_iff_not, beq_iff_eq, beq_eq_false_iff_ne, ne_eq, Int.not_lt, Int.not_le] at hq; omega) | simp only [Act.put, List.setIfInBounds_toArray, List.set_cons_succ, List.set_cons_zero])))
      ((first | refine Mix.lex_goes0 rfl rfl ?_ | refine Mix.lex_goesG rfl rfl rfl (by with_reducible rfl) rfl ?_); intro K hK; go_simp)
      refine (HL.out u0 U0.out).mono ?_
      rintro e u1 ⟨rfl, hx2⟩
      have X1 := Lib.hid hx2
      refine ⟨_, rfl, hK _ _ (fun _ => Cl.of X1.out) ?_⟩
      clear hK K hx2
      simp only [Act.put, List.setIfInBounds_toArray, List.set_cons_succ, List.set_cons_zero]
      (repeat' (first | (refine Mix.lex_quiet0 rfl rfl rfl ?_; intro K hK; go_big_quiet_op; go_big_quiet_on) | (refine Mix.lex_quietG rfl rfl rfl (by with_reducible rfl) rfl rfl ?_; intro K hK; go_big_quiet_op; go_big_quiet_on) | ((first | refine Mix.lex_skipT rfl rfl rfl (by with_reducible rfl) ?_ | refine Mix.lex_skipF rfl rfl rfl (by with_reducible rfl) ?_ | refine Mix.lex_skipU rfl rfl rfl (by with_reducible rfl) ?_); simp only [Act.put, List.setIfInBounds_toArray, List.set_cons_succ, List.set_cons_zero]) | (refine Mix.lex_part rfl rfl rfl rfl (fun hq => ?_) (fun hq => ?_) <;> (fail_if_success (guard_hyp hq :ₛ true = true)) <;> (fail_if_success (guard_hyp hq :ₛ false = false)) <;> first | (exfalso; cases hq; done) | (exfalso; simp only [decide_eq_true_eq, decide_eq_false_iff_not, beq_iff_eq, beq_eq_false_iff_ne, ne_eq, Int.not_lt, Int.not_le] at hq; omega) | simp only [Act.put, List.setIfInBounds_toArray, List.set_cons_succ, List.set_cons_zero])))
      refine Mix.lex_nil ?_
      go_wp2_with fail
      go_ret
      exact ⟨rfl, U0.out.then_ext X1.out⟩
  case pos =>
    obtain ⟨rfl, h2⟩ := hcn
    have g2 : decide ((20 : Int) < (goal.length : Int)) = false := by rw [decide_eq_false_iff_not]; omega
    refine Mix.wp_plain [9] (Cl u0 No) (Cl.of (Only.refl _ _)) ?_
    (repeat' (first | (refine Mix.lex_quiet0 rfl rfl rfl ?_; intro K hK; go_big_quiet_op; go_big_quiet_on) | (refine Mix.lex_quietG rfl rfl rfl (by with_reducible rfl) rfl rfl ?_; intro K hK; go_big_quiet_op; go_big_quiet_on) | ((first | refine Mix.lex_skipT rfl rfl rfl (by with_reducible rfl) ?_ | refine Mix.lex_skipF rfl rfl rfl (by with_reducible rfl) ?_ | refine Mix.lex_skipU rfl rfl rfl (by with_reducible rfl) ?_); simp only [Act.put, List.setIfInBounds_toArray, List.set_cons_succ, List.set_cons_zero]) | (refine Mix.lex_part rfl rfl rfl rfl (fun hq => ?_) (fun hq => ?_) <;> (fail_if_success (guard_hyp hq :ₛ true = true)) <;> (fail_if_success (guard_hyp hq :ₛ false = false)) <;> first | (exfalso; cases hq; done) | (exfalso; simp only [decide_eq_true_eq, decide_eq_false_iff_not, beq_iff_eq, beq_eq_false_iff_ne, ne_eq, Int.not_lt, Int.not_le] at hq; omega) | simp only [Act.put, List.setIfInBounds_toArray, List.set_cons_succ, List.set_cons_zero])))
    ((first | refine Mix.lex_goes0 rfl rfl ?_ | refine Mix.lex_goesG rfl rfl rfl (by with_reducible rfl) rfl ?_); intro K hK; go_simp)
    refine (HL.out u0 U0.out).mono ?_
    rintro e u1 ⟨rfl, hx2⟩
    have XR := Lib.hid (U0.out.then_ext hx2)
    refine ⟨_, rfl, hK _ _ (fun _ => Cl.of hx2) ?_⟩
    clear hK K hx2 U0 HL
    simp only [Act.put, List.setIfInBounds_toArray, List.set_cons_succ, List.set_cons_zero]
    (repeat' (first | (refine Mix.lex_quiet0 rfl rfl rfl ?_; intro K hK; go_big_quiet_op; go_big_quiet_on) | (refine Mix.lex_quietG rfl rfl rfl (by with_reducible rfl) rfl rfl ?_; intro K hK; go_big_quiet_op; go_big_quiet_on) | ((first | refine Mix.lex_skipT rfl rfl rfl (by with_reducible rfl) ?_ | refine Mix.lex_skipF rfl rfl rfl (by with_reducible rfl) ?_ | refine Mix.lex_skipU rfl rfl rfl (by with_reducible rfl) ?_); simp only [Act.put, List.setIfInBounds_toArray, List.set_cons_succ, List.set_cons_zero]) | (refine Mix.lex_part rfl rfl rfl rfl (fun hq => ?_) (fun hq => ?_) <;> (fail_if_success (guard_hyp hq :ₛ true = true)) <;> (fail_if_success (guard_hyp hq :ₛ false = false)) <;> first | (exfalso; cases hq; done) | (exfalso; simp only [decide_eq_true_eq, decide_eq_false_iff_not, beq_iff_eq, beq_eq_false_iff_ne, ne_eq, Int.not_lt, Int.not_le] at hq; omega) | simp only [Act.put, List.setIfInBounds_toArray, List.set_cons_succ, List.set_cons_zero])))
    refine Mix.lex_nil ?_
    have HP2 := Lib.hid (fun u => MakeOf_c (w := u) s (by omega))
    have hnn := parseF_nonneg s
    have HCk0 : Hid ((parseF s).2 = 0 → chkF (parseF s).1 = 0) := fun h => (parse_short h).2
    obtain ⟨⟨m, f⟩, hR⟩ : ∃ R, R = parseF s := ⟨_, rfl⟩
    rw [← hR] at HP2 hnn HCk0
    have HR := Lib.hid hR
    have hnn : 0 ≤ f := hnn
    clear hR
    go_wp2_with fail
    refine (HP2.out _).mono ?_
    rintro e u2 ⟨v, rs, rfl, hM2, hu⟩
    have hM1 : MakeR u2 v rs m := hM2.here
    obtain ⟨gm, hgm⟩ : ∃ g, g = u2.heap.size := ⟨_, rfl⟩
    obtain ⟨w2, hw2⟩ : ∃ u, u = u2.alloc (.cells #[.slice v.vA m.vars.length v.vc, .slice v.rA m.rules.length v.rc, .slice v.pA m.phony.length v.pc] makeT) := ⟨_, rfl⟩
    have x2 : Ext u2 w2 := by rw [hw2]; exact (Only.refl No u2).alloc _
    have C2 : Hid (Cs w2 gm makeT #[.slice v.vA m.vars.length v.vc, .slice v.rA m.rules.length v.rc, .slice v.pA m.phony.length v.pc]) := by rw [hw2, hgm]; exact Cs.new _ _ _
    have X2 : Hid (Ext w w2) := XR.out.then_ext (hu.then_ext x2)
    have M2 := Lib.hid (hM1.ext x2)
    clear HP2 hM2 hu hM1 x2 XR
    go_upto_region 5 with fail
    rw [← hw2, ← hgm]
    clear hw2 hgm
    by_cases hf : f = 0
    case neg =>
      have g0 : decide ((0 : Int) < f) = true := by rw [decide_eq_true_iff]; omega
      go_wp2_with fail
      go_ret
      exact ⟨rfl, X2.out⟩
    subst hf
    have HCk : Hid (chkF m = 0) := HCk0.out rfl
    have hmR : m = (parseF s).1 := by rw [← HR.out]
    have hl := HBL.out.symm
    have hbd : GBd m xs := hmR ▸ gbd hl
    have HGB := Lib.hid (groupsF_b hbd goal)
    have HG5 := Lib.hid (hmR ▸ groupsF_b5 hl goal : ∀ g ∈ (groupsF m xs goal).1, GBv g)
    have HOk := Lib.hid (fun h => (groupsF_ok (m := m) (l := xs) (chk_uniq HCk.out).1 (goal := goal) h).1.ds)
    have HGo : Hid (Calls Tryz.prog 12 #[mkV v m, .slice A n c, S goal] w2 fun e w' => ∃ (A : Option Addr) (c : Nat) (os : List (RulA × Grp)), e = .returned (.tuple #[.slice A (groupsF m xs goal).1.length c, .int .i64 (groupsF m xs goal).2]) ∧ GrpsR w' A os (groupsF m xs goal).1 ∧ Ext w2 w' ∧ (groupsF m xs goal).1.length ≤ c) := by
      have h1 := GroupsOf_c (lc := c) (HE.out.ext X2.out).ml M2.out (hln ▸ HS.out.ext X2.out) hbd goal (by omega) (fun _ => hmR ▸ cand_len hl (by omega)) (hmR ▸ cand_few hl goal)
      rw [hln] at h1
      exact h1
    obtain ⟨⟨gs, code⟩, hgs⟩ : ∃ R, R = groupsF m xs goal := ⟨_, rfl⟩
    rw [← hgs] at HGo HGB HG5 HOk
    have hcn : 0 ≤ code := HGB.out.2.2
    have hg10 : gs.length ≤ 10 := HGB.out.2.1
    have hlf := lightF_facts hl
    have HLF := Lib.hid hlf
    have hn24 : n ≤ 24 := by rw [← hln]; exact hlf.1
    have k0 : w2.cell? ⟨gm, 0, none⟩ = some (.slice v.vA m.vars.length v.vc) := C2.out.cell 0
    have k1 : w2.cell? ⟨gm, 1, none⟩ = some (.slice v.rA m.rules.length v.rc) := C2.out.cell 1
    have k2 : w2.cell? ⟨gm, 2, none⟩ = some (.slice v.pA m.phony.length v.pc) := C2.out.cell 2
    clear hmR hl hbd hgs hlf HR HBL HCk0 HCk
    go_wp2_with fail
    refine HGo.out.mono ?_
    rintro e u4 ⟨A4, c4, os4, he, hG4, hx, hcap⟩
    have he : e = .returned (.tuple #[.slice A4 gs.length c4, .int .i64 code]) := he
    subst he
    have hcap : gs.length ≤ c4 := hcap
    have X4 := Lib.hid (X2.out.then_ext hx)
    have HG : Hid (GrpsR u4 A4 os4 gs) := hG4
    clear hx hG4 HGo k0 k1 k2 C2 M2 X2
    by_cases hcode : code = 0
    case neg =>
      have g0 : decide ((0 : Int) < code) = true := by rw [decide_eq_true_iff]; omega
      go_wp2_with (first | ((first | refine Mix.wpList_guarded rfl ?_ | refine Mix.wp_still (by kernel_rfl) (by kernel_rfl) ?_); (repeat' (first | (refine Mix.lex_quiet0 rfl rfl rfl ?_; intro K hK; go_big_quiet_op; go_big_quiet_on) | (refine Mix.lex_quietG rfl rfl rfl (by with_reducible rfl) rfl rfl ?_; intro K hK; go_big_quiet_op; go_big_quiet_on) | ((first | refine Mix.lex_skipT rfl rfl rfl (by with_reducible rfl) ?_ | refine Mix.lex_skipF rfl rfl rfl (by with_reducible rfl) ?_ | refine Mix.lex_skipU rfl rfl rfl (by with_reducible rfl) ?_); simp only [Act.put, List.setIfInBounds_toArray, List.set_cons_succ, List.set_cons_zero]) | (refine Mix.lex_part rfl rfl rfl rfl (fun hq => ?_) (fun hq => ?_) <;> (fail_if_success (guard_hyp hq :ₛ true = true)) <;> (fail_if_success (guard_hyp hq :ₛ false = false)) <;> first | (exfalso; cases hq; done) | (exfalso; simp only [decide_eq_true_eq, decide_eq_false_iff_not, beq_iff_eq, beq_eq_false_iff_ne, ne_eq, Int.not_lt, Int.not_le] at hq; omega) | simp only [Act.put, List.setIfInBounds_toArray, List.set_cons_succ, List.set_cons_zero]))); all_goals (refine Mix.lex_nil ?_)))
      go_ret
      exact ⟨rfl, X4.out⟩
    subst hcode
    have HDs : Hid (gs.Pairwise fun a b => ∀ t ∈ a.targets, t ∉ b.targets) := HOk.out rfl
    by_cases hsl : sn = gs.length
    case neg =>
      have t0 : decide ((sn : Int) = (gs.length : Int)) = false := by rw [decide_eq_false_iff_not]; omega
      have t1 : ((sn : Int) == (gs.length : Int)) = false := by rw [beq_eq_false_iff_ne]; omega
      go_wp2_with (first | ((first | refine Mix.wpList_guarded rfl ?_ | refine Mix.wp_still (by kernel_rfl) (by kernel_rfl) ?_); (repeat' (first | (refine Mix.lex_quiet0 rfl rfl rfl ?_; intro K hK; go_big_quiet_op; go_big_quiet_on) | (refine Mix.lex_quietG rfl rfl rfl (by with_reducible rfl) rfl rfl ?_; intro K hK; go_big_quiet_op; go_big_quiet_on) | ((first | refine Mix.lex_skipT rfl rfl rfl (by with_reducible rfl) ?_ | refine Mix.lex_skipF rfl rfl rfl (by with_reducible rfl) ?_ | refine Mix.lex_skipU rfl rfl rfl (by with_reducible rfl) ?_); simp only [Act.put, List.setIfInBounds_toArray, List.set_cons_succ, List.set_cons_zero]) | (refine Mix.lex_part rfl rfl rfl rfl (fun hq => ?_) (fun hq => ?_) <;> (fail_if_success (guard_hyp hq :ₛ true = true)) <;> (fail_if_success (guard_hyp hq :ₛ false = false)) <;> first | (exfalso; cases hq; done) | (exfalso; simp only [decide_eq_true_eq, decide_eq_false_iff_not, beq_iff_eq, beq_eq_false_iff_ne, ne_eq, Int.not_lt, Int.not_le] at hq; omega) | simp only [Act.put, List.setIfInBounds_toArray, List.set_cons_succ, List.set_cons_zero]))); all_goals (refine Mix.lex_nil ?_)))
      go_ret
      exact ⟨rfl, X4.out⟩
    subst hsl
    have hln2 : xs.length = n := hln
    subst hln2
    have HU := Lib.hid (RUnits_c (HG.out) hg10 hcap HGB.out.1 (sc := sc) (HSt.out.ext X4.out))
    go_upto_region 10 with (first | (refine Mix.wpList_guarded rfl ?_; (repeat' (first | (refine Mix.lex_quiet0 rfl rfl rfl ?_; intro K hK; go_big_quiet_op; go_big_quiet_on) | (refine Mix.lex_quietG rfl rfl rfl (by with_reducible rfl) rfl rfl ?_; intro K hK; go_big_quiet_op; go_big_quiet_on) | ((first | refine Mix.lex_skipT rfl rfl rfl (by with_reducible rfl) ?_ | refine Mix.lex_skipF rfl rfl rfl (by with_reducible rfl) ?_ | refine Mix.lex_skipU rfl rfl rfl (by with_reducible rfl) ?_); simp only [Act.put, List.setIfInBounds_toArray, List.set_cons_succ, List.set_cons_zero]) | (refine Mix.lex_part rfl rfl rfl rfl (fun hq => ?_) (fun hq => ?_) <;> (fail_if_success (guard_hyp hq :ₛ true = true)) <;> (fail_if_success (guard_hyp hq :ₛ false = false)) <;> first | (exfalso; cases hq; done) | (exfalso; simp only [decide_eq_true_eq, decide_eq_false_iff_not, beq_iff_eq, beq_eq_false_iff_ne, ne_eq, Int.not_lt, Int.not_le] at hq; omega) | simp only [Act.put, List.setIfInBounds_toArray, List.set_cons_succ, List.set_cons_zero]))); all_goals (refine Mix.lex_nil ?_)) | (refine Mix.wp_still (by kernel_rfl) (by kernel_rfl) ?_; (repeat' (first | (refine Mix.lex_quiet0 rfl rfl rfl ?_; intro K hK; go_big_quiet_op; go_big_quiet_on) | (refine Mix.lex_quietG rfl rfl rfl (by with_reducible rfl) rfl rfl ?_; intro K hK; go_big_quiet_op; go_big_quiet_on) | ((first | refine Mix.lex_skipT rfl rfl rfl (by with_reducible rfl) ?_ | refine Mix.lex_skipF rfl rfl rfl (by with_reducible rfl) ?_ | refine Mix.lex_skipU rfl rfl rfl (by with_reducible rfl) ?_); simp only [Act.put, List.setIfInBounds_toArray, List.set_cons_succ, List.set_cons_zero]) | (refine Mix.lex_part rfl rfl rfl rfl (fun hq => ?_) (fun hq => ?_) <;> (fail_if_success (guard_hyp hq :ₛ true = true)) <;> (fail_if_success (guard_hyp hq :ₛ false = false)) <;> first | (exfalso; cases hq; done) | (exfalso; simp only [decide_eq_true_eq, decide_eq_false_iff_not, beq_iff_eq, beq_eq_false_iff_ne, ne_eq, Int.not_lt, Int.not_le] at hq; omega) | simp only [Act.put, List.setIfInBounds_toArray, List.set_cons_succ, List.set_cons_zero]))); all_goals (refine Mix.lex_nil ?_)))
    go_wp2_with fail
    refine HU.out.mono ?_
    rintro e u5 ⟨B5, d5, x5, r, hL, rfl, hR5, hx⟩
    have XL := Lib.hid (X4.out.then_ext hx)
    have HR5 := Lib.hid hR5
    have HG5' := Lib.hid (HG.out.ext hx)
    have HUl : Hid (∀ u ∈ unitsF gs sts r, u.Pairwise (· < ·) ∧ (∀ k ∈ u, k < gs.length) ∧ u.length ≤ 10) := fun u hu => by
      have h3 := unit_len u hu
      obtain ⟨p, _, rfl, _⟩ := units_at hu
      exact ⟨unit_sorted _ _ _ _, fun k hk => (unit_mem.1 hk).1, by omega⟩
    obtain ⟨us, hus⟩ : ∃ us, us = unitsF gs sts r := ⟨_, rfl⟩
    have husl : us.length ≤ 10 := by rw [hus]; exact Nat.le_trans units_len hg10
    rw [← hus] at HR5 HUl ⊢
    clear hL hR5 hx HU hus HG
    go_wp2_with fail
    go_loopw [14] (fun i wr => ∃ k : Nat, k ≤ us.length ∧ i = .int .i64 k ∧ Ext u5 wr) (fun i _ => us.length - (intOf i).toNat)
    case atStart => exact ⟨0, Nat.zero_le _, rfl, Only.refl _ _⟩
    case round =>
      obtain ⟨k, hk, rfl, hx⟩ := hrel
      have XR := Lib.hid hx
      have XT := Lib.hid (XL.out.then_ext hx)
      clear hx
      by_cases hlt : k < us.length
      · obtain ⟨bu, ou, ⟨⟨uA, uc⟩, u⟩, rfl, hxk, cu⟩ := uns_get HR5.out.1 hlt
        have huk : us[k]? = some u := by rw [← HR5.out.2.2, List.getElem?_map, hxk]; rfl
        have HI : Hid (SlR inF u5 uA u.length u) := HR5.out.2.1 _ (List.mem_of_getElem? hxk)
        obtain ⟨hu1, hu2, hu3⟩ := HUl.out u (List.mem_of_getElem? huk)
        have HCu : Hid (∀ v, Ext u5 v → v.cell? ⟨bu, ou + k, none⟩ = some (.slice uA u.length uc)) := fun v hv => cu ⟨v, hv⟩
        have e0 : wr.cell? ⟨bu, ou + k, none⟩ = some (.slice uA u.length uc) := HCu.out wr XR.out
        have HFb : Hid (FBu xs) := ⟨by have := HLF.out.1; omega, HLF.out.2.2, fun f hf => by have := HLF.out.2.1 f hf; omega⟩
        have HU1 : Hid (Calls Tryz.prog 24 #[.slice A4 gs.length c4, .slice uA u.length uc, .slice A xs.length c] wr (UnitRes wr (unitM gs u xs [] []))) :=
          Unit_c (HE.out.ext XT.out) (HG5'.out.ext XR.out) HG5.out (HI.out.ext XR.out) hu3 hu2 (HS.out.ext XT.out) HFb.out (by omega)
        have HU2 : Hid (∀ v, Ext wr v → Calls Tryz.prog 25 #[.slice A4 gs.length c4, .slice uA u.length uc, .slice A xs.length c] v (RUnitRes v (unitM gs u xs [] []))) := fun v hv =>
          RUnit_c ((HG5'.out.ext XR.out).ext hv) HG5.out ((HI.out.ext XR.out).ext hv) hu3 hu2 ((HS.out.ext XT.out).ext hv) HFb.out (by omega)
        have HN1 : Hid (∀ v, Ext wr v → Calls Tryz.prog 28 #[.slice A4 gs.length c4, .slice uA u.length uc] v fun e w' => ∃ B d, e = .returned (.slice B (namesF gs u).length d) ∧ Fresh strF 9 v w' B d (namesF gs u)) := fun v hv =>
          Names_c ((HG5'.out.ext XR.out).ext hv) (fun g hg => (HG5.out g hg).2.1) ((HI.out.ext XR.out).ext hv) (by omega) hu2
        have HN2 : Hid (∀ v, Ext wr v → Calls Tryz.prog 29 #[.slice A4 gs.length c4, .slice uA u.length uc] v fun e w' => ∃ B d, e = .returned (.slice B (namesF gs u).length d) ∧ Fresh strF 9 v w' B d (namesF gs u)) := fun v hv =>
          RNames_c ((HG5'.out.ext XR.out).ext hv) (fun g hg => (HG5.out g hg).2.1) ((HI.out.ext XR.out).ext hv) (by omega) hu2
        have hnl := namesF_len gs u
        have HKy : Hid ((unitM gs u xs [] []).2 = 0 → ((unitM gs u xs [] []).1.2.map (·.1)).Nodup) := fun h => by
          rw [unit_keys gs u xs [] [] h]
          exact names_nodup HDs.out (fun g hg => (HG5.out g hg).2.1) hu1
        have HBd := Lib.hid (unitM_bad gs u xs [] [])
        have hcd := unitM_nonneg gs u xs [] []
        have hkl0 : (unitM gs u xs [] []).1.2.length ≤ u.length := by
          by_cases h0 : (unitM gs u xs [] []).2 = 0
          · have h1 := congrArg List.length (unit_keys gs u xs [] [] h0)
            rw [List.length_map] at h1
            have h2 := namesF_len gs u
            simp only [List.map_nil, List.nil_append] at h1
            omega
          · rw [unitM_bad gs u xs [] [] h0]; exact Nat.zero_le _
        have hol := unitM_len (fun g hg => (HG5.out g hg).2.2) u xs [] []
        have HNl : Hid (∀ x ∈ (unitM gs u xs [] []).1.2.map (·.1), x.length ≤ 1000000) := fun x hx => by
          by_cases h0 : (unitM gs u xs [] []).2 = 0
          · rw [unit_keys gs u xs [] [] h0, List.map_nil, List.nil_append] at hx
            obtain ⟨k, _, hk⟩ := List.mem_filterMap.1 hx
            unfold nameU at hk
            cases hg : gs[k]? with
            | none => rw [hg] at hk; cases hk
            | some g =>
              rw [hg] at hk
              simp only at hk
              split at hk
              · cases hk
              · cases hk
                have := headD_len (HG5.out g (List.mem_of_getElem? hg)).1.lt
                omega
          · rw [unitM_bad gs u xs [] [] h0] at hx; cases hx
        obtain ⟨⟨⟨O, K⟩, f⟩, hR⟩ : ∃ R, R = unitM gs u xs [] [] := ⟨_, rfl⟩
        obtain ⟨ns, hns⟩ : ∃ ns, ns = namesF gs u := ⟨_, rfl⟩
        rw [← hR] at HU1 HU2 HKy HBd hcd hol hkl0 HNl
        rw [← hns] at HN1 HN2 hnl
        have hcd : 0 ≤ f := hcd
        have hol : O.length ≤ 0 + 3 * u.length := hol
        have hkl0 : K.length ≤ u.length := hkl0
        clear cu hxk huk hu1 hu2 hR hns
        go_wp2_with fail
        refine HU1.out.mono ?_
        rintro e v1 hres
        obtain ⟨hx1, oA, oc, mp, F, he, hO, hKr, hKm, hlen, hat⟩ := hres.out HKy.out HBd.out
        have he : e = .returned (.tuple #[.slice oA O.length oc, .map mp, errV f]) := he
        subst he
        have Y1 := Lib.hid hx1
        have HO := Lib.hid (show SlR fileF v1 oA O.length O from hO)
        have HKr := Lib.hid hKr
        have HKm := Lib.hid hKm
        have HLn : Hid (∀ v, Ext v1 v → ∀ ty, (Builtin.len_ #[rmapT] ty #[.map mp]).run Tryz.prog v = .ok (.int .i64 (K.length : Int)) v) := hlen
        have HAt : Hid (∀ p ∈ K, ∃ V, F p.1 = some (V, p.2)) := hat
        have e0 : v1.cell? ⟨bu, ou + k, none⟩ = some (.slice uA u.length uc) := HCu.out v1 (XR.out.then_ext Y1.out)
        have HU3 := HU2.out v1 Y1.out
        clear hx1 hO hKr hKm hlen hat hres HU1 HU2 HKy HBd
        go_wp2_with fail
        refine HU3.mono ?_
        rintro e v2 ⟨hx2, qA, qc, kA, kd, ks, he, hQ, hK2, hKe, hKl⟩
        have he : e = .returned (.tuple #[.slice qA O.length qc, .slice kA ks.length kd, .int .i64 f]) := he
        subst he
        have Y2 := Lib.hid (Y1.out.then_ext hx2)
        have HQ := Lib.hid (show SlR fileF v2 qA O.length O from hQ)
        have HK2 := Lib.hid hK2
        have hKe : ks.map (·.2) = K := hKe
        have hkl : K.length = ks.length := by rw [← hKe, List.length_map]
        have hks10 : ks.length ≤ 10 := by omega
        have HKe := Lib.hid hKe
        have HKl := Lib.hid hKl
        have HO2 := Lib.hid (HO.out.ext hx2)
        have HKr2 := Lib.hid (HKr.out.ext hx2)
        have HKm2 := Lib.hid (HKm.out.ext hx2)
        have XR2 := Lib.hid (XR.out.then_ext Y2.out)
        have hl : ∀ ξ : X v2 No, (Builtin.len_ #[rmapT] 3 #[.map mp]).run Tryz.prog ξ.v = .ok (.int .i64 (ks.length : Int)) ξ.v := fun ξ => by rw [← hkl]; exact HLn.out ξ.v (hx2.then_ext ξ.h) 3
        have f0 : ∀ ξ : X v2 No, ξ.v.cell? ⟨bu, ou + k, none⟩ = some (.slice uA u.length uc) := fun ξ => HCu.out ξ.v (XR2.out.then_ext ξ.h)
        obtain ⟨ev, hev⟩ : ∃ ev, ev = errV f := ⟨_, rfl⟩
        have HSa : Hid (∀ v, Calls Tryz.prog 13 #[ev, .int .i64 f] v fun e w' => e = .returned (.bool true) ∧ Ext v w') := fun v => by rw [hev]; exact same_self f hcd v
        rw [← hev]
        clear hx2 hQ hK2 hKe hKl HLn HO HKr HKm HU3 hev e0 hkl
        go_upto_region 16 with fail
        refine Mix.wp_draw [2, 7, 23, 29, 30] 100 (Cl v2 No) (by kernel_rfl) (by kernel_rfl) (Cl.of (Only.refl _ _).drew) ?_
        (repeat' (first | (refine Mix.lex_quiet0 rfl rfl rfl ?_; intro K hK; go_big_quiet_op; go_big_quiet_on) | (refine Mix.lex_quietG rfl rfl rfl (by with_reducible rfl) rfl rfl ?_; intro K hK; go_big_quiet_op; go_big_quiet_on) | ((first | refine Mix.lex_skipT rfl rfl rfl (by with_reducible rfl) ?_ | refine Mix.lex_skipF rfl rfl rfl (by with_reducible rfl) ?_ | refine Mix.lex_skipU rfl rfl rfl (by with_reducible rfl) ?_); simp only [Act.put, List.setIfInBounds_toArray, List.set_cons_succ, List.set_cons_zero]) | (refine Mix.lex_part rfl rfl rfl rfl (fun hq => ?_) (fun hq => ?_) <;> (fail_if_success (guard_hyp hq :ₛ true = true)) <;> (fail_if_success (guard_hyp hq :ₛ false = false)) <;> first | (exfalso; cases hq; done) | (exfalso; simp only [decide_eq_true_eq, decide_eq_false_iff_not, beq_iff_eq, beq_eq_false_iff_ne, ne_eq, Int.not_lt, Int.not_le] at hq; omega) | simp only [Act.put, List.setIfInBounds_toArray, List.set_cons_succ, List.set_cons_zero])))
        ((first | refine Mix.lex_goes0 rfl rfl ?_ | refine Mix.lex_goesG rfl rfl rfl (by with_reducible rfl) rfl ?_); intro K hK; go_simp)
        refine (HSa.out _).mono ?_
        rintro e v3 ⟨rfl, hx⟩
        have Z3 : Hid (Ext v2 v3) := ((Only.refl No v2).drew).then_ext hx
        refine ⟨_, rfl, hK _ _ (fun _ => Cl.of Z3.out) ?_⟩
        clear hK K hx
        obtain ⟨ξ3, rfl⟩ : ∃ ξ : X v2 No, v3 = ξ.v := ⟨⟨v3, Z3.out⟩, rfl⟩
        simp only [Act.put, List.setIfInBounds_toArray, List.set_cons_succ, List.set_cons_zero]
        (repeat' (first | (refine Mix.lex_quiet0 rfl rfl rfl ?_; intro K hK; go_big_quiet_op; go_big_quiet_on) | (refine Mix.lex_quietG rfl rfl rfl (by with_reducible rfl) rfl rfl ?_; intro K hK; go_big_quiet_op; go_big_quiet_on) | ((first | refine Mix.lex_skipT rfl rfl rfl (by with_reducible rfl) ?_ | refine Mix.lex_skipF rfl rfl rfl (by with_reducible rfl) ?_ | refine Mix.lex_skipU rfl rfl rfl (by with_reducible rfl) ?_); simp only [Act.put, List.setIfInBounds_toArray, List.set_cons_succ, List.set_cons_zero]) | (refine Mix.lex_part rfl rfl rfl rfl (fun hq => ?_) (fun hq => ?_) <;> (fail_if_success (guard_hyp hq :ₛ true = true)) <;> (fail_if_success (guard_hyp hq :ₛ false = false)) <;> first | (exfalso; cases hq; done) | (exfalso; simp only [decide_eq_true_eq, decide_eq_false_iff_not, beq_iff_eq, beq_eq_false_iff_ne, ne_eq, Int.not_lt, Int.not_le] at hq; omega) | simp only [Act.put, List.setIfInBounds_toArray, List.set_cons_succ, List.set_cons_zero])))
        ((first | refine Mix.lex_goes0 rfl rfl ?_ | refine Mix.lex_goesG rfl rfl rfl (by with_reducible rfl) rfl ?_); intro K hK; go_simp)
        have HSF := SameFiles_c (c := oc) (d := qc) (HO2.out.ext ξ3.h) (HQ.out.ext ξ3.h) (by omega) (by omega)
        rw [decide_eq_true (rfl : O = O)] at HSF
        refine HSF.mono ?_
        rintro e v4 ⟨rfl, hx⟩
        have Z4 : Hid (Ext v2 v4) := ξ3.h.then_ext hx
        refine ⟨_, rfl, hK _ _ (fun _ => Cl.of Z4.out) ?_⟩
        clear hK K hx HSF
        obtain ⟨ξ4, rfl⟩ : ∃ ξ : X v2 No, v4 = ξ.v := ⟨⟨v4, Z4.out⟩, rfl⟩
        simp only [Act.put, List.setIfInBounds_toArray, List.set_cons_succ, List.set_cons_zero]
        (repeat' (first | (refine Mix.lex_quiet0 rfl rfl rfl ?_; intro K hK; go_big_quiet_op; go_big_quiet_on) | (refine Mix.lex_quietG rfl rfl rfl (by with_reducible rfl) rfl rfl ?_; intro K hK; go_big_quiet_op; go_big_quiet_on) | ((first | refine Mix.lex_skipT rfl rfl rfl (by with_reducible rfl) ?_ | refine Mix.lex_skipF rfl rfl rfl (by with_reducible rfl) ?_ | refine Mix.lex_skipU rfl rfl rfl (by with_reducible rfl) ?_); simp only [Act.put, List.setIfInBounds_toArray, List.set_cons_succ, List.set_cons_zero]) | (refine Mix.lex_part rfl rfl rfl rfl (fun hq => ?_) (fun hq => ?_) <;> (fail_if_success (guard_hyp hq :ₛ true = true)) <;> (fail_if_success (guard_hyp hq :ₛ false = false)) <;> first | (exfalso; cases hq; done) | (exfalso; simp only [decide_eq_true_eq, decide_eq_false_iff_not, beq_iff_eq, beq_eq_false_iff_ne, ne_eq, Int.not_lt, Int.not_le] at hq; omega) | simp only [Act.put, List.setIfInBounds_toArray, List.set_cons_succ, List.set_cons_zero])))
        ((first | refine Mix.lex_goes0 rfl rfl ?_ | refine Mix.lex_goesG rfl rfl rfl (by with_reducible rfl) rfl ?_); intro K hK; go_simp)
        refine (HN1.out _ (Y2.out.then_ext ξ4.h)).mono ?_
        rintro e v5 ⟨nA, nc, rfl, hF⟩
        have Z5 : Hid (Ext v2 v5) := ξ4.h.then_ext hF.ext
        have N1 := Lib.hid (hF.row (by decide))
        refine ⟨_, rfl, hK _ _ (fun _ => Cl.of Z5.out) ?_⟩
        clear hK K hF
        obtain ⟨ξ5, rfl⟩ : ∃ ξ : X v2 No, v5 = ξ.v := ⟨⟨v5, Z5.out⟩, rfl⟩
        simp only [Act.put, List.setIfInBounds_toArray, List.set_cons_succ, List.set_cons_zero]
        (repeat' (first | (refine Mix.lex_quiet0 rfl rfl rfl ?_; intro K hK; go_big_quiet_op; go_big_quiet_on) | (refine Mix.lex_quietG rfl rfl rfl (by with_reducible rfl) rfl rfl ?_; intro K hK; go_big_quiet_op; go_big_quiet_on) | ((first | refine Mix.lex_skipT rfl rfl rfl (by with_reducible rfl) ?_ | refine Mix.lex_skipF rfl rfl rfl (by with_reducible rfl) ?_ | refine Mix.lex_skipU rfl rfl rfl (by with_reducible rfl) ?_); simp only [Act.put, List.setIfInBounds_toArray, List.set_cons_succ, List.set_cons_zero]) | (refine Mix.lex_part rfl rfl rfl rfl (fun hq => ?_) (fun hq => ?_) <;> (fail_if_success (guard_hyp hq :ₛ true = true)) <;> (fail_if_success (guard_hyp hq :ₛ false = false)) <;> first | (exfalso; cases hq; done) | (exfalso; simp only [decide_eq_true_eq, decide_eq_false_iff_not, beq_iff_eq, beq_eq_false_iff_ne, ne_eq, Int.not_lt, Int.not_le] at hq; omega) | simp only [Act.put, List.setIfInBounds_toArray, List.set_cons_succ, List.set_cons_zero])))
        ((first | refine Mix.lex_goes0 rfl rfl ?_ | refine Mix.lex_goesG rfl rfl rfl (by with_reducible rfl) rfl ?_); intro K hK; go_simp)
        refine (HN2.out _ (Y2.out.then_ext ξ5.h)).mono ?_
        rintro e v6 ⟨mA, mc, rfl, hF⟩
        have Z6 : Hid (Ext v2 v6) := ξ5.h.then_ext hF.ext
        have N2 := Lib.hid (hF.row (by decide))
        have N1' := Lib.hid (N1.out.ext hF.ext)
        refine ⟨_, rfl, hK _ _ (fun _ => Cl.of Z6.out) ?_⟩
        clear hK K hF N1
        obtain ⟨ξ6, rfl⟩ : ∃ ξ : X v2 No, v6 = ξ.v := ⟨⟨v6, Z6.out⟩, rfl⟩
        simp only [Act.put, List.setIfInBounds_toArray, List.set_cons_succ, List.set_cons_zero]
        (repeat' (first | (refine Mix.lex_quiet0 rfl rfl rfl ?_; intro K hK; go_big_quiet_op; go_big_quiet_on) | (refine Mix.lex_quietG rfl rfl rfl (by with_reducible rfl) rfl rfl ?_; intro K hK; go_big_quiet_op; go_big_quiet_on) | ((first | refine Mix.lex_skipT rfl rfl rfl (by with_reducible rfl) ?_ | refine Mix.lex_skipF rfl rfl rfl (by with_reducible rfl) ?_ | refine Mix.lex_skipU rfl rfl rfl (by with_reducible rfl) ?_); simp only [Act.put, List.setIfInBounds_toArray, List.set_cons_succ, List.set_cons_zero]) | (refine Mix.lex_part rfl rfl rfl rfl (fun hq => ?_) (fun hq => ?_) <;> (fail_if_success (guard_hyp hq :ₛ true = true)) <;> (fail_if_success (guard_hyp hq :ₛ false = false)) <;> first | (exfalso; cases hq; done) | (exfalso; simp only [decide_eq_true_eq, decide_eq_false_iff_not, beq_iff_eq, beq_eq_false_iff_ne, ne_eq, Int.not_lt, Int.not_le] at hq; omega) | simp only [Act.put, List.setIfInBounds_toArray, List.set_cons_succ, List.set_cons_zero])))
        ((first | refine Mix.lex_goes0 rfl rfl ?_ | refine Mix.lex_goesG rfl rfl rfl (by with_reducible rfl) rfl ?_); intro K hK; go_simp)
        have HST := SameTexts_c (c := nc) (d := mc) N1'.out N2.out (by omega) (by omega)
        rw [decide_eq_true (rfl : ns = ns)] at HST
        refine HST.mono ?_
        rintro e v7 ⟨rfl, hx⟩
        have Z7 : Hid (Ext v2 v7) := ξ6.h.then_ext hx
        refine ⟨_, rfl, hK _ _ (fun _ => Cl.of Z7.out) ?_⟩
        clear hK K hx HST
        simp only [Act.put, List.setIfInBounds_toArray, List.set_cons_succ, List.set_cons_zero]
        (repeat' (first | (refine Mix.lex_quiet0 rfl rfl rfl ?_; intro K hK; go_big_quiet_op; go_big_quiet_on) | (refine Mix.lex_quietG rfl rfl rfl (by with_reducible rfl) rfl rfl ?_; intro K hK; go_big_quiet_op; go_big_quiet_on) | ((first | refine Mix.lex_skipT rfl rfl rfl (by with_reducible rfl) ?_ | refine Mix.lex_skipF rfl rfl rfl (by with_reducible rfl) ?_ | refine Mix.lex_skipU rfl rfl rfl (by with_reducible rfl) ?_); simp only [Act.put, List.setIfInBounds_toArray, List.set_cons_succ, List.set_cons_zero]) | (refine Mix.lex_part rfl rfl rfl rfl (fun hq => ?_) (fun hq => ?_) <;> (fail_if_success (guard_hyp hq :ₛ true = true)) <;> (fail_if_success (guard_hyp hq :ₛ false = false)) <;> first | (exfalso; cases hq; done) | (exfalso; simp only [decide_eq_true_eq, decide_eq_false_iff_not, beq_iff_eq, beq_eq_false_iff_ne, ne_eq, Int.not_lt, Int.not_le] at hq; omega) | simp only [Act.put, List.setIfInBounds_toArray, List.set_cons_succ, List.set_cons_zero])))
        refine Mix.lex_nil ?_
        have HK7 := Lib.hid (HK2.out.ext Z7.out)
        have HKr7 := Lib.hid (HKr2.out.ext Z7.out)
        have HKm7 := Lib.hid (HKm2.out.ext Z7.out)
        have XR7 := Lib.hid (XR2.out.then_ext Z7.out)
        have HKl7 : Hid (∀ x ∈ ks, RcdR v7 x.1 x.2.2 ∧ x.2.2.Lim) := fun x hx => ⟨(HKl.out x hx).1.ext Z7.out, (HKl.out x hx).2⟩
        clear f0 hl HO2 HQ HK2 HKr2 HKm2 HKl N1' N2
        go_wp2_with fail
        go_loopw [21] (fun i wr => ∃ j : Nat, j ≤ ks.length ∧ i = .int .i64 j ∧ Ext v7 wr) (fun i _ => ks.length - (intOf i).toNat)
        case atStart => exact ⟨0, Nat.zero_le _, rfl, Only.refl _ _⟩
        case round =>
          obtain ⟨j, hj, rfl, hx⟩ := hrel
          have XJ := Lib.hid hx
          clear hx
          by_cases hlj : j < ks.length
          · obtain ⟨bs, so, ⟨⟨dA, dc, mA, mc, pA, pc⟩, nm, r⟩, rfl, hks, d0, d1, d2, d3⟩ := kts_get HK7.out hlj
            have q0 : wr.cell? ⟨bs, so + j * 4, none⟩ = some (S nm) := d0 ⟨wr, XJ.out⟩
            have D1 := Lib.hid d1
            have D2 := Lib.hid d2
            have D3 := Lib.hid d3
            obtain ⟨hr, hrl⟩ := HKl7.out _ (List.mem_of_getElem? hks)
            have hmem : (nm, r) ∈ K := by rw [← HKe.out]; exact List.mem_map.2 ⟨_, List.mem_of_getElem? hks, rfl⟩
            obtain ⟨V, hV⟩ := HAt.out _ hmem
            obtain ⟨hr2, hrl2⟩ : RcdR v7 V r ∧ (r.cmds.length ≤ 10000 ∧ r.needs.length ≤ 10000 ∧ r.out.length ≤ 10000) := HKr7.out _ _ hV
            obtain ⟨p1, e1, p2, e2, p3, e3⟩ := V
            have hnml : nm.length ≤ 1000000 := HNl.out nm (by
              have : nm ∈ K.map (·.1) := List.mem_map.2 ⟨_, hmem, rfl⟩
              exact this)
            have hlk : (Instr.lookup rmapT (.map mp) (S nm) true).run Tryz.prog wr = .ok (.tuple #[.agg #[.slice p1 r.cmds.length e1, .slice p2 r.needs.length e2, .slice p3 r.out.length e3], .bool true]) wr := by
              have h1 := HKm7.out wr XJ.out nm (by unfold maxLen; omega)
              rw [show kpF F nm = some (rcdV ⟨p1, e1, p2, e2, p3, e3⟩ r) by show Option.map _ (F nm) = _; rw [hV]; rfl] at h1
              exact h1
            have HR1 := Lib.hid hr
            have HR2 := Lib.hid hr2
            have HR3 := Lib.hid hrl2
            clear d0 d1 d2 d3 hks hr hrl hmem hV hr2 hrl2
            go_upto_region 22 with fail
            obtain ⟨w5, hw5⟩ : ∃ u, u = wr.alloc (.cells #[.slice p1 r.cmds.length e1, .slice p2 r.needs.length e2, .slice p3 r.out.length e3] rcT) := ⟨_, rfl⟩
            obtain ⟨b5, hb5⟩ : ∃ b, b = wr.heap.size := ⟨_, rfl⟩
            rw [← hw5, ← hb5]
            have x5 : Ext wr w5 := by rw [hw5]; exact (Only.refl No wr).alloc _
            have C5 : Hid (Cs w5 b5 rcT #[.slice p1 r.cmds.length e1, .slice p2 r.needs.length e2, .slice p3 r.out.length e3]) := by rw [hw5, hb5]; exact Cs.new _ _ _
            have XJ5 := Lib.hid (XJ.out.then_ext x5)
            have g0 : ∀ ξ : X w5 No, ξ.v.cell? ⟨b5, 0, none⟩ = some (.slice p1 r.cmds.length e1) := C5.out.x id 0
            have g1 : ∀ ξ : X w5 No, ξ.v.cell? ⟨b5, 1, none⟩ = some (.slice p2 r.needs.length e2) := C5.out.x id 1
            have g2 : ∀ ξ : X w5 No, ξ.v.cell? ⟨b5, 2, none⟩ = some (.slice p3 r.out.length e3) := C5.out.x id 2
            have f1 : ∀ ξ : X w5 No, ξ.v.cell? ⟨bs, so + j * 4 + 1, none⟩ = some (.slice dA r.cmds.length dc) := fun ξ => D1.out ⟨ξ.v, XJ5.out.then_ext ξ.h⟩
            have f2 : ∀ ξ : X w5 No, ξ.v.cell? ⟨bs, so + j * 4 + 2, none⟩ = some (.slice mA r.needs.length mc) := fun ξ => D2.out ⟨ξ.v, XJ5.out.then_ext ξ.h⟩
            have f3 : ∀ ξ : X w5 No, ξ.v.cell? ⟨bs, so + j * 4 + 3, none⟩ = some (.slice pA r.out.length pc) := fun ξ => D3.out ⟨ξ.v, XJ5.out.then_ext ξ.h⟩
            have HSR : Hid (∀ u, Ext w5 u → Calls Tryz.prog 30 #[.agg #[.slice p1 r.cmds.length e1, .slice p2 r.needs.length e2, .slice p3 r.out.length e3], .agg #[.slice dA r.cmds.length dc, .slice mA r.needs.length mc, .slice pA r.out.length pc]] u fun e w' => e = .returned (.bool true) ∧ Ext u w') := fun u hu => by
              have h1 := SameRecord_c (v := ⟨p1, e1, p2, e2, p3, e3⟩) (u := ⟨dA, dc, mA, mc, pA, pc⟩) (r := r) (q := r) (HR2.out.ext (XJ5.out.then_ext hu)) (HR1.out.ext (XJ5.out.then_ext hu)) HR3.out HR3.out
              rw [sameR_self] at h1
              exact h1
            clear hw5 hb5 x5 hlk q0
            refine Mix.wp_draw [9] 100 (Cl w5 No) (by kernel_rfl) (by kernel_rfl) (Cl.of (Only.refl _ _).drew) ?_
            (repeat' (first | (refine Mix.lex_quiet0 rfl rfl rfl ?_; intro K hK; go_big_quiet_op; go_big_quiet_on) | (refine Mix.lex_quietG rfl rfl rfl (by with_reducible rfl) rfl rfl ?_; intro K hK; go_big_quiet_op; go_big_quiet_on) | ((first | refine Mix.lex_skipT rfl rfl rfl (by with_reducible rfl) ?_ | refine Mix.lex_skipF rfl rfl rfl (by with_reducible rfl) ?_ | refine Mix.lex_skipU rfl rfl rfl (by with_reducible rfl) ?_); simp only [Act.put, List.setIfInBounds_toArray, List.set_cons_succ, List.set_cons_zero]) | (refine Mix.lex_part rfl rfl rfl rfl (fun hq => ?_) (fun hq => ?_) <;> (fail_if_success (guard_hyp hq :ₛ true = true)) <;> (fail_if_success (guard_hyp hq :ₛ false = false)) <;> first | (exfalso; cases hq; done) | (exfalso; simp only [decide_eq_true_eq, decide_eq_false_iff_not, beq_iff_eq, beq_eq_false_iff_ne, ne_eq, Int.not_lt, Int.not_le] at hq; omega) | simp only [Act.put, List.setIfInBounds_toArray, List.set_cons_succ, List.set_cons_zero])))
            ((first | refine Mix.lex_goes0 rfl rfl ?_ | refine Mix.lex_goesG rfl rfl rfl (by with_reducible rfl) rfl ?_); intro K hK; go_simp)
            refine (HSR.out _ (Only.refl No w5).drew).mono ?_
            rintro e u8 ⟨rfl, hx⟩
            have XV := Lib.hid (XJ5.out.then_ext ((Only.refl No w5).drew.then_ext hx))
            refine ⟨_, rfl, hK _ _ (fun _ => Cl.of ((Only.refl No w5).drew.then_ext hx)) ?_⟩
            clear hK K hx g0 g1 g2 f1 f2 f3
            simp only [Act.put, List.setIfInBounds_toArray, List.set_cons_succ, List.set_cons_zero]
            (repeat' (first | (refine Mix.lex_quiet0 rfl rfl rfl ?_; intro K hK; go_big_quiet_op; go_big_quiet_on) | (refine Mix.lex_quietG rfl rfl rfl (by with_reducible rfl) rfl rfl ?_; intro K hK; go_big_quiet_op; go_big_quiet_on) | ((first | refine Mix.lex_skipT rfl rfl rfl (by with_reducible rfl) ?_ | refine Mix.lex_skipF rfl rfl rfl (by with_reducible rfl) ?_ | refine Mix.lex_skipU rfl rfl rfl (by with_reducible rfl) ?_); simp only [Act.put, List.setIfInBounds_toArray, List.set_cons_succ, List.set_cons_zero]) | (refine Mix.lex_part rfl rfl rfl rfl (fun hq => ?_) (fun hq => ?_) <;> (fail_if_success (guard_hyp hq :ₛ true = true)) <;> (fail_if_success (guard_hyp hq :ₛ false = false)) <;> first | (exfalso; cases hq; done) | (exfalso; simp only [decide_eq_true_eq, decide_eq_false_iff_not, beq_iff_eq, beq_eq_false_iff_ne, ne_eq, Int.not_lt, Int.not_le] at hq; omega) | simp only [Act.put, List.setIfInBounds_toArray, List.set_cons_succ, List.set_cons_zero])))
            refine Mix.lex_nil ?_
            go_wp2_with fail
            go_roundw
            case rel => exact ⟨j + 1, by omega, by go_num, XV.out⟩
            case measure => simp [intOf]; omega
          · obtain rfl : j = ks.length := by omega
            go_wp2_with fail
            go_roundw
            case rel => exact ⟨k + 1, by omega, by go_num, XR7.out.then_ext XJ.out⟩
            case measure => simp [intOf]; omega
      · obtain rfl : k = us.length := by omega
        go_wp2_with fail
        go_ret
        exact ⟨rfl, XT.out⟩
end Go.Proofs.YtnhaekifcieeoaaGreatDoor
