/- Put together: Psl. -/
import Derived.Test.YtnhaekifcieeoaaPk15
import Derived.Test.YtnhaekifcieeoaaPk16
import Derived.Test.YtnhaekifcieeoaaPk21
import Derived.Test.YtnhaekifcieeoaaPk06
namespace Go.Proofs.Ytnhaekifcieeoaa
open Go Go.RowKit
def lightK (x : RcdV × Str × Rcd) : Bool := decide (x.2.1.length ≤ 20) && lightR x.2.2
theorem all_step {α : Type} {p : α → Bool} {xs : List α} {k : Nat} {x : α} (h : (xs.take k).all p = true) (hx : xs[k]? = some x) (hp : p x = true) : (xs.take (k + 1)).all p = true := by
  rw [List.take_add_one, hx, List.all_append, h]
  simp [hp]
theorem groupsF_b {m : Mk} {l : List File} (hb : GBd m l) (goal : Str) : (∀ g ∈ (groupsF m l goal).1, GB3 g) ∧ (groupsF m l goal).1.length ≤ 10 ∧ 0 ≤ (groupsF m l goal).2 := by
  have h1 := visitF_all (ruleF_b3 hb) 100 [] [] goal (fun g hg => by cases hg)
  have h2 := visitF_len (m := m) (l := l) 100 [] [] goal (Nat.zero_le _)
  have h3 := visitF_nonneg m l 100 [] [] goal
  unfold groupsF
  split
  · exact ⟨(fun g hg => by cases hg), Nat.zero_le _, by simp⟩
  · split
    · exact ⟨(fun g hg => by cases hg), Nat.zero_le _, h3⟩
    · exact ⟨h1, h2, Int.le_refl _⟩
set_option maxRecDepth 100000 in
set_option maxHeartbeats 1000000 in
theorem PlanSays_all {w : World} (hm : Ml w) (s goal : Str) (hs : s.length ≤ maxLen) (hgl : goal.length ≤ maxLen) {A : Option Addr} {n c : Nat} {xs : List File} (h : SlR fileF w A n xs) (hn0 : n ≤ maxLen)
    {kA : Option Addr} {kc : Nat} {ks : List (RcdV × Str × Rcd)} (hk : SlR ktF w kA ks.length ks) (hkr : ∀ x ∈ ks, RcdR w x.1 x.2.2 ∧ x.2.1.length ≤ maxLen ∧ x.2.2.cmds.length ≤ maxLen ∧ x.2.2.needs.length ≤ maxLen ∧ x.2.2.out.length ≤ maxLen) (hkn : ks.length ≤ maxLen)
    {sA : Option Addr} {sn sc : Nat} {sts : List Bool} (hst : SlR boF w sA sn sts) (hsn : sn ≤ maxLen) :
    Calls Try.prog 4 #[S s, S goal, .slice A n c, .slice kA ks.length kc, .slice sA sn sc] w fun e w' => e = .returned (.bool true) ∧ Ext w w' := by
  have HM := Lib.hid hm
  have HS := Lib.hid h
  have hln := h.1
  have HKs := Lib.hid hk
  have HKr := Lib.hid hkr
  have HSt := Lib.hid hst
  have hs : s.length ≤ 9223372036854775807 := hs
  have hgl : goal.length ≤ 9223372036854775807 := hgl
  have hkn : ks.length ≤ 9223372036854775807 := hkn
  have hsn : sn ≤ 9223372036854775807 := hsn
  have HL : Hid (∀ v, Ext w v → Calls Try.prog 17 #[.slice A n c] v fun e w' => e = .returned (.bool (lightF xs)) ∧ Ext v w') := fun v hv => LightFiles_c (HS.out.ext hv) hn0
  obtain ⟨bl, hbl⟩ : ∃ bl, bl = lightF xs := ⟨_, rfl⟩
  rw [← hbl] at HL
  have HBL := Lib.hid hbl
  clear hm h hbl hk hkr hst
  go_enter Try.func4, Try.ntmps4
  go_wp2_with fail
  refine plans_c.mono ?_
  rintro e u0 ⟨rfl, hu⟩
  have U0 := Lib.hid hu
  clear hu
  go_upto_region 2 with fail
  rcases Nat.lt_or_ge 800 s.length with h8 | h8
  · have g8 : decide ((800 : Int) < (s.length : Int)) = true := by rw [decide_eq_true_iff]; omega
    go_wp2_with (first | ((first | refine Mix.wpList_guarded rfl ?_ | refine Mix.wp_still (by kernel_rfl) (by kernel_rfl) ?_); (repeat' (first | (refine Mix.lex_quiet0 rfl rfl rfl ?_; intro K hK; go_big_quiet_op; go_big_quiet_on) | (refine Mix.lex_quietG rfl rfl rfl (by with_reducible rfl) rfl rfl ?_; intro K hK; go_big_quiet_op; go_big_quiet_on) | ((first | refine Mix.lex_skipT rfl rfl rfl (by with_reducible rfl) ?_ | refine Mix.lex_skipF rfl rfl rfl (by with_reducible rfl) ?_ | refine Mix.lex_skipU rfl rfl rfl (by with_reducible rfl) ?_); simp only [Act.put, List.setIfInBounds_toArray, List.set_cons_succ, List.set_cons_zero]) | (refine Mix.lex_part rfl rfl rfl rfl (fun hq => ?_) (fun hq => ?_) <;> (fail_if_success (guard_hyp hq :ₛ true = true)) <;> (fail_if_success (guard_hyp hq :ₛ false = false)) <;> first | (exfalso; cases hq; done) | (exfalso; simp only [decide_eq_true_eq, decide_eq_false_iff_not, beq_iff_eq, beq_eq_false_iff_ne, ne_eq, Int.not_lt, Int.not_le] at hq; omega) | simp only [Act.put, List.setIfInBounds_toArray, List.set_cons_succ, List.set_cons_zero]))); all_goals (refine Mix.lex_nil ?_)))
    go_ret
    exact ⟨rfl, U0.out⟩
  have g8 : decide ((800 : Int) < (s.length : Int)) = false := by rw [decide_eq_false_iff_not]; omega
  by_cases hcn : bl = true ∧ goal.length ≤ 20 ∧ ks.length ≤ 12
  case neg =>
    refine Mix.wp_plain [9] (Cl u0 No) (Cl.of (Only.refl _ _)) ?_
    cases bl
    case' true =>
      rcases Nat.lt_or_ge 20 goal.length with h2 | h2
      case' inl => have g2 : decide ((20 : Int) < (goal.length : Int)) = true := by rw [decide_eq_true_iff]; omega
      case' inr =>
        have g2 : decide ((20 : Int) < (goal.length : Int)) = false := by rw [decide_eq_false_iff_not]; omega
        have g3 : decide ((12 : Int) < (ks.length : Int)) = true := by rw [decide_eq_true_iff]; have : ¬ ks.length ≤ 12 := fun h => hcn ⟨rfl, h2, h⟩; omega
    all_goals
      clear hcn
      (repeat' (first | (refine Mix.lex_quiet0 rfl rfl rfl ?_; intro K hK; go_big_quiet_op; go_big_quiet_on) | (refine Mix.lex_quietG rfl rfl rfl (by with_reducible rfl) rfl rfl ?_; intro K hK; go_big_quiet_op; go_big_quiet_on) | ((first | refine Mix.lex_skipT rfl rfl rfl (by with_reducible rfl) ?_ | refine Mix.lex_skipF rfl rfl rfl (by with_reducible rfl) ?_ | refine Mix.lex_skipU rfl rfl rfl (by with_reducible rfl) ?_); simp only [Act.put, List.setIfInBounds_toArray, List.set_cons_succ, List.set_cons_zero]) | (refine Mix.lex_part rfl rfl rfl rfl (fun hq => ?_) (fun hq => ?_) <;> (fail_if_success (guard_hyp hq :ₛ true = true)) <;> (fail_if_success (guard_hyp hq :ₛ false = false)) <;> first | (exfalso; cases hq; done) | (exfalso; simp only [decide_eq_true_eq, decide_eq_false_iff_not, beq_iff_eq, beq_eq_false_iff_ne, ne_eq, Int.not_lt, Int.not_le] at hq; omega) | simp only [Act.put, List.setIfInBounds_toArray, List.set_cons_succ, List.set_cons_zero])))
      ((first | refine Mix.lex_goes0 rfl rfl ?_ | refine Mix.lex_goesG rfl rfl rfl (by with_reducible rfl) rfl ?_); intro K hK; go_simp)
      refine (HL.out u0 U0.out).mono ?_
      rintro e u1 ⟨rfl, hx2⟩
      have X1 := Lib.hid hx2
      refine ⟨_, rfl, hK _ _ (fun _ => Cl.of X1.out) ?_⟩
      clear hK K hx2
      simp only [Act.put, List.setIfInBounds_toArray, List.set_cons_succ, List.set_cons_zero]
      (repeat' (first | (refine Mix.lex_quiet0 rfl rfl rfl ?_; intro K hK; go_big_quiet_op; go_big_quiet_on) | (refine Mix.lex_quietG rfl rfl rfl (by with_reducible rfl) rfl rfl ?_; intro K hK; go_big_quiet_op; go_big_quiet_on) | ((first | refine Mix.lex_skipT rfl rfl rfl (by with_reducible rfl) ?_ | refine Mix.lex_skipF rfl rfl rfl (by with_reducible rfl) ?_ | refine Mix.lex_skipU rfl rfl rfl (by with_reducible rfl) ?_); simp only [Act.put, List.setIfInBounds_toArray, List.set_cons_succ, List.set_cons_zero]) | (refine Mix.lex_part rfl rfl rfl rfl (fun hq => ?_) (fun hq => ?_) <;> (fail_if_success (guard_hyp hq :ₛ true = true)) <;> (fail_if_success (guard_hyp hq :ₛ false = false)) <;> first | (exfalso; cases hq; done) | (exfalso; simp only [decide_eq_true_eq, decide_eq_false_iff_not, beq_iff_eq, beq_eq_false_iff_ne, ne_eq, Int.not_lt, Int.not_le] at hq; omega) | simp only [Act.put, List.setIfInBounds_toArray, List.set_cons_succ, List.set_cons_zero])))
      refine Mix.lex_nil ?_
      go_wp2_with fail
      go_ret
      exact ⟨rfl, U0.out.then_ext X1.out⟩
  case pos =>
    obtain ⟨rfl, h2, h12⟩ := hcn
    have g2 : decide ((20 : Int) < (goal.length : Int)) = false := by rw [decide_eq_false_iff_not]; omega
    have g3 : decide ((12 : Int) < (ks.length : Int)) = false := by rw [decide_eq_false_iff_not]; omega
    refine Mix.wp_plain [9] (Cl u0 No) (Cl.of (Only.refl _ _)) ?_
    (repeat' (first | (refine Mix.lex_quiet0 rfl rfl rfl ?_; intro K hK; go_big_quiet_op; go_big_quiet_on) | (refine Mix.lex_quietG rfl rfl rfl (by with_reducible rfl) rfl rfl ?_; intro K hK; go_big_quiet_op; go_big_quiet_on) | ((first | refine Mix.lex_skipT rfl rfl rfl (by with_reducible rfl) ?_ | refine Mix.lex_skipF rfl rfl rfl (by with_reducible rfl) ?_ | refine Mix.lex_skipU rfl rfl rfl (by with_reducible rfl) ?_); simp only [Act.put, List.setIfInBounds_toArray, List.set_cons_succ, List.set_cons_zero]) | (refine Mix.lex_part rfl rfl rfl rfl (fun hq => ?_) (fun hq => ?_) <;> (fail_if_success (guard_hyp hq :ₛ true = true)) <;> (fail_if_success (guard_hyp hq :ₛ false = false)) <;> first | (exfalso; cases hq; done) | (exfalso; simp only [decide_eq_true_eq, decide_eq_false_iff_not, beq_iff_eq, beq_eq_false_iff_ne, ne_eq, Int.not_lt, Int.not_le] at hq; omega) | simp only [Act.put, List.setIfInBounds_toArray, List.set_cons_succ, List.set_cons_zero])))
    ((first | refine Mix.lex_goes0 rfl rfl ?_ | refine Mix.lex_goesG rfl rfl rfl (by with_reducible rfl) rfl ?_); intro K hK; go_simp)
    refine (HL.out u0 U0.out).mono ?_
    rintro e u1 ⟨rfl, hx2⟩
    have XU1 := Lib.hid (U0.out.then_ext hx2)
    refine ⟨_, rfl, hK _ _ (fun _ => Cl.of hx2) ?_⟩
    clear hK K hx2 U0 HL
    simp only [Act.put, List.setIfInBounds_toArray, List.set_cons_succ, List.set_cons_zero]
    (repeat' (first | (refine Mix.lex_quiet0 rfl rfl rfl ?_; intro K hK; go_big_quiet_op; go_big_quiet_on) | (refine Mix.lex_quietG rfl rfl rfl (by with_reducible rfl) rfl rfl ?_; intro K hK; go_big_quiet_op; go_big_quiet_on) | ((first | refine Mix.lex_skipT rfl rfl rfl (by with_reducible rfl) ?_ | refine Mix.lex_skipF rfl rfl rfl (by with_reducible rfl) ?_ | refine Mix.lex_skipU rfl rfl rfl (by with_reducible rfl) ?_); simp only [Act.put, List.setIfInBounds_toArray, List.set_cons_succ, List.set_cons_zero]) | (refine Mix.lex_part rfl rfl rfl rfl (fun hq => ?_) (fun hq => ?_) <;> (fail_if_success (guard_hyp hq :ₛ true = true)) <;> (fail_if_success (guard_hyp hq :ₛ false = false)) <;> first | (exfalso; cases hq; done) | (exfalso; simp only [decide_eq_true_eq, decide_eq_false_iff_not, beq_iff_eq, beq_eq_false_iff_ne, ne_eq, Int.not_lt, Int.not_le] at hq; omega) | simp only [Act.put, List.setIfInBounds_toArray, List.set_cons_succ, List.set_cons_zero])))
    refine Mix.lex_nil ?_
    go_wp2_with fail
    go_loopw [12] (fun i wr => ∃ k : Nat, k ≤ ks.length ∧ i = .int .i64 k ∧ (ks.take k).all lightK = true ∧ Ext w wr) (fun i _ => ks.length - (intOf i).toNat)
    case atStart => exact ⟨0, Nat.zero_le _, rfl, rfl, XU1.out⟩
    case round =>
      clear XU1
      obtain ⟨k, hk, rfl, hA, hx⟩ := hrel
      have HA := Lib.hid hA
      have XR := Lib.hid hx
      clear hA hx
      by_cases hlt : k < ks.length
      · obtain ⟨bs, so, ⟨⟨dA, dc, mA, mc, pA, pc⟩, nm, r⟩, rfl, hks, d0, d1, d2, d3⟩ := kts_get HKs.out hlt
        obtain ⟨hr1, hr2, hr3, hr4, hr5⟩ := HKr.out _ (List.mem_of_getElem? hks)
        have hnm : nm.length ≤ 9223372036854775807 := hr2
        have q0 : wr.cell? ⟨bs, so + k * 4, none⟩ = some (S nm) := d0 ⟨wr, XR.out⟩
        have q1 : wr.cell? ⟨bs, so + k * 4 + 1, none⟩ = some (.slice dA r.cmds.length dc) := d1 ⟨wr, XR.out⟩
        have q2 : wr.cell? ⟨bs, so + k * 4 + 2, none⟩ = some (.slice mA r.needs.length mc) := d2 ⟨wr, XR.out⟩
        have q3 : wr.cell? ⟨bs, so + k * 4 + 3, none⟩ = some (.slice pA r.out.length pc) := d3 ⟨wr, XR.out⟩
        have f0 : ∀ ξ : X wr No, ξ.v.cell? ⟨bs, so + k * 4, none⟩ = some (S nm) := fun ξ => d0 ⟨ξ.v, XR.out.then_ext ξ.h⟩
        have f1 : ∀ ξ : X wr No, ξ.v.cell? ⟨bs, so + k * 4 + 1, none⟩ = some (.slice dA r.cmds.length dc) := fun ξ => d1 ⟨ξ.v, XR.out.then_ext ξ.h⟩
        have f2 : ∀ ξ : X wr No, ξ.v.cell? ⟨bs, so + k * 4 + 2, none⟩ = some (.slice mA r.needs.length mc) := fun ξ => d2 ⟨ξ.v, XR.out.then_ext ξ.h⟩
        have f3 : ∀ ξ : X wr No, ξ.v.cell? ⟨bs, so + k * 4 + 3, none⟩ = some (.slice pA r.out.length pc) := fun ξ => d3 ⟨ξ.v, XR.out.then_ext ξ.h⟩
        have HLR : Hid (Calls Try.prog 18 #[.agg #[.slice dA r.cmds.length dc, .slice mA r.needs.length mc, .slice pA r.out.length pc]] wr fun e w' => e = .returned (.bool (lightR r)) ∧ Ext wr w') := LightRecord_c (v := ⟨dA, dc, mA, mc, pA, pc⟩) (r := r) ((show RcdR w ⟨dA, dc, mA, mc, pA, pc⟩ r from hr1).ext XR.out) hr3 hr4 hr5
        have HSp : Hid (∀ (_ : nm.length ≤ 20) (_ : lightR r = true), (ks.take (k + 1)).all lightK = true) := fun h1 h2 => all_step HA.out hks (by simp [lightK, h1, h2])
        clear hks d0 d1 d2 d3 hr1 hr2 hr3 hr4 hr5
        go_upto_region 7 with fail
        rcases Nat.lt_or_ge 20 nm.length with hb | hb
        · have g4 : decide ((20 : Int) < (nm.length : Int)) = true := by rw [decide_eq_true_iff]; omega
          refine Mix.wp_plain [13] (Cl wr No) (Cl.of (Only.refl _ _)) ?_
          (repeat' (first | (refine Mix.lex_quiet0 rfl rfl rfl ?_; intro K hK; go_big_quiet_op; go_big_quiet_on) | (refine Mix.lex_quietG rfl rfl rfl (by with_reducible rfl) rfl rfl ?_; intro K hK; go_big_quiet_op; go_big_quiet_on) | ((first | refine Mix.lex_skipT rfl rfl rfl (by with_reducible rfl) ?_ | refine Mix.lex_skipF rfl rfl rfl (by with_reducible rfl) ?_ | refine Mix.lex_skipU rfl rfl rfl (by with_reducible rfl) ?_); simp only [Act.put, List.setIfInBounds_toArray, List.set_cons_succ, List.set_cons_zero]) | (refine Mix.lex_part rfl rfl rfl rfl (fun hq => ?_) (fun hq => ?_) <;> (fail_if_success (guard_hyp hq :ₛ true = true)) <;> (fail_if_success (guard_hyp hq :ₛ false = false)) <;> first | (exfalso; cases hq; done) | (exfalso; simp only [decide_eq_true_eq, decide_eq_false_iff_not, beq_iff_eq, beq_eq_false_iff_ne, ne_eq, Int.not_lt, Int.not_le] at hq; omega) | simp only [Act.put, List.setIfInBounds_toArray, List.set_cons_succ, List.set_cons_zero])))
          refine Mix.lex_nil ?_
          go_wp2_with fail
          go_ret
          exact ⟨rfl, XR.out⟩
        · have g4 : decide ((20 : Int) < (nm.length : Int)) = false := by rw [decide_eq_false_iff_not]; omega
          refine Mix.wp_plain [13] (Cl wr No) (Cl.of (Only.refl _ _)) ?_
          (repeat' (first | (refine Mix.lex_quiet0 rfl rfl rfl ?_; intro K hK; go_big_quiet_op; go_big_quiet_on) | (refine Mix.lex_quietG rfl rfl rfl (by with_reducible rfl) rfl rfl ?_; intro K hK; go_big_quiet_op; go_big_quiet_on) | ((first | refine Mix.lex_skipT rfl rfl rfl (by with_reducible rfl) ?_ | refine Mix.lex_skipF rfl rfl rfl (by with_reducible rfl) ?_ | refine Mix.lex_skipU rfl rfl rfl (by with_reducible rfl) ?_); simp only [Act.put, List.setIfInBounds_toArray, List.set_cons_succ, List.set_cons_zero]) | (refine Mix.lex_part rfl rfl rfl rfl (fun hq => ?_) (fun hq => ?_) <;> (fail_if_success (guard_hyp hq :ₛ true = true)) <;> (fail_if_success (guard_hyp hq :ₛ false = false)) <;> first | (exfalso; cases hq; done) | (exfalso; simp only [decide_eq_true_eq, decide_eq_false_iff_not, beq_iff_eq, beq_eq_false_iff_ne, ne_eq, Int.not_lt, Int.not_le] at hq; omega) | simp only [Act.put, List.setIfInBounds_toArray, List.set_cons_succ, List.set_cons_zero])))
          ((first | refine Mix.lex_goes0 rfl rfl ?_ | refine Mix.lex_goesG rfl rfl rfl (by with_reducible rfl) rfl ?_); intro K hK; go_simp)
          refine HLR.out.mono ?_
          rintro e u ⟨rfl, hu⟩
          have XV := Lib.hid (XR.out.then_ext hu)
          refine ⟨_, rfl, hK _ _ (fun _ => Cl.of hu) ?_⟩
          clear hK K hu HLR f0 f1 f2 f3 q0 q1 q2 q3
          simp only [Act.put, List.setIfInBounds_toArray, List.set_cons_succ, List.set_cons_zero]
          have HSq : Hid (∀ _ : lightR r = true, (ks.take (k + 1)).all lightK = true) := HSp.out hb
          generalize lightR r = lr at HSq ⊢
          cases lr with
          | false =>
            (repeat' (first | (refine Mix.lex_quiet0 rfl rfl rfl ?_; intro K hK; go_big_quiet_op; go_big_quiet_on) | (refine Mix.lex_quietG rfl rfl rfl (by with_reducible rfl) rfl rfl ?_; intro K hK; go_big_quiet_op; go_big_quiet_on) | ((first | refine Mix.lex_skipT rfl rfl rfl (by with_reducible rfl) ?_ | refine Mix.lex_skipF rfl rfl rfl (by with_reducible rfl) ?_ | refine Mix.lex_skipU rfl rfl rfl (by with_reducible rfl) ?_); simp only [Act.put, List.setIfInBounds_toArray, List.set_cons_succ, List.set_cons_zero]) | (refine Mix.lex_part rfl rfl rfl rfl (fun hq => ?_) (fun hq => ?_) <;> (fail_if_success (guard_hyp hq :ₛ true = true)) <;> (fail_if_success (guard_hyp hq :ₛ false = false)) <;> first | (exfalso; cases hq; done) | (exfalso; simp only [decide_eq_true_eq, decide_eq_false_iff_not, beq_iff_eq, beq_eq_false_iff_ne, ne_eq, Int.not_lt, Int.not_le] at hq; omega) | simp only [Act.put, List.setIfInBounds_toArray, List.set_cons_succ, List.set_cons_zero])))
            refine Mix.lex_nil ?_
            go_wp2_with fail
            go_ret
            exact ⟨rfl, XV.out⟩
          | true =>
            (repeat' (first | (refine Mix.lex_quiet0 rfl rfl rfl ?_; intro K hK; go_big_quiet_op; go_big_quiet_on) | (refine Mix.lex_quietG rfl rfl rfl (by with_reducible rfl) rfl rfl ?_; intro K hK; go_big_quiet_op; go_big_quiet_on) | ((first | refine Mix.lex_skipT rfl rfl rfl (by with_reducible rfl) ?_ | refine Mix.lex_skipF rfl rfl rfl (by with_reducible rfl) ?_ | refine Mix.lex_skipU rfl rfl rfl (by with_reducible rfl) ?_); simp only [Act.put, List.setIfInBounds_toArray, List.set_cons_succ, List.set_cons_zero]) | (refine Mix.lex_part rfl rfl rfl rfl (fun hq => ?_) (fun hq => ?_) <;> (fail_if_success (guard_hyp hq :ₛ true = true)) <;> (fail_if_success (guard_hyp hq :ₛ false = false)) <;> first | (exfalso; cases hq; done) | (exfalso; simp only [decide_eq_true_eq, decide_eq_false_iff_not, beq_iff_eq, beq_eq_false_iff_ne, ne_eq, Int.not_lt, Int.not_le] at hq; omega) | simp only [Act.put, List.setIfInBounds_toArray, List.set_cons_succ, List.set_cons_zero])))
            refine Mix.lex_nil ?_
            go_wp2_with fail
            go_roundw
            case rel => exact ⟨k + 1, by omega, by go_num, HSq.out rfl, XV.out⟩
            case measure => simp [intOf]; omega
      · obtain rfl : k = ks.length := by omega
        have HAl : Hid (∀ x ∈ ks, x.2.1.length ≤ 20 ∧ lightR x.2.2 = true) := fun x hx => by
          have h := HA.out
          rw [List.take_of_length_le (Nat.le_refl _)] at h
          have := List.all_eq_true.1 h x hx
          simpa [lightK] using this
        have HKT : Hid (KtsR w kA ks) := ⟨HKs.out, fun x hx => by
          obtain ⟨_, h1⟩ := HAl.out x hx
          obtain ⟨q1, _, q2, q3, _⟩ := lightR_facts h1
          exact ⟨(HKr.out x hx).1, by omega, by omega, by omega⟩⟩
        have HKo0 : Hid (∀ u, Ext w u → Calls Try.prog 22 #[.slice kA ks.length kc] u fun e w' => ∃ b, e = .returned (.map (some b)) ∧ MapR w' b ks.length (ktM ks) ∧ Ext u w' ∧ u.heap.size ≤ b) := fun u hu => KeptOf_c (HKs.out.ext hu) (by omega) (fun x hx => by have := (HAl.out x hx).1; omega)
        clear HA HAl HKr
        have HP2 := Lib.hid (fun u => MakeOf_c (w := u) s (by omega))
        have hnn := parseF_nonneg s
        obtain ⟨⟨m, f⟩, hR⟩ : ∃ R, R = parseF s := ⟨_, rfl⟩
        rw [← hR] at HP2 hnn
        have HR := Lib.hid hR
        have hnn : 0 ≤ f := hnn
        clear hR
        go_wp2_with fail
        refine (HP2.out _).mono ?_
        rintro e u2 ⟨v, rs, rfl, hM2, hu⟩
        have hM1 : MakeR u2 v rs m := hM2.here
        obtain ⟨gm, hgm⟩ : ∃ g, g = u2.heap.size := ⟨_, rfl⟩
        obtain ⟨w2, hw2⟩ : ∃ u, u = u2.alloc (.cells #[.slice v.vA m.vars.length v.vc, .slice v.rA m.rules.length v.rc, .slice v.pA m.phony.length v.pc] makeT) := ⟨_, rfl⟩
        have x2 : Ext u2 w2 := by rw [hw2]; exact (Only.refl No u2).alloc _
        have C2 : Hid (Cs w2 gm makeT #[.slice v.vA m.vars.length v.vc, .slice v.rA m.rules.length v.rc, .slice v.pA m.phony.length v.pc]) := by rw [hw2, hgm]; exact Cs.new _ _ _
        have X2 : Hid (Ext w w2) := XR.out.then_ext (hu.then_ext x2)
        have M2 := Lib.hid (hM1.ext x2)
        clear HP2 hM2 hu hM1 x2 XR
        go_upto_region 10 with fail
        rw [← hw2, ← hgm]
        clear hw2 hgm
        by_cases hf : f = 0
        case neg =>
          have g0 : decide ((0 : Int) < f) = true := by rw [decide_eq_true_iff]; omega
          go_wp2_with fail
          go_ret
          exact ⟨rfl, X2.out⟩
        subst hf
        have hmR : m = (parseF s).1 := by rw [← HR.out]
        have hl := HBL.out.symm
        have hbd : GBd m xs := hmR ▸ gbd hl
        have HGB := Lib.hid (groupsF_b hbd goal)
        have HG4 := Lib.hid (groupsF_b4 hbd (show goal.length ≤ 10000 by omega) (hmR ▸ cand_len hl (by omega)))
        have HGo : Hid (Calls Try.prog 20 #[mkV v m, .slice A n c, S goal] w2 fun e w' => ∃ (A : Option Addr) (c : Nat) (os : List (RulA × Grp)), e = .returned (.tuple #[.slice A (groupsF m xs goal).1.length c, .int .i64 (groupsF m xs goal).2]) ∧ GrpsR w' A os (groupsF m xs goal).1 ∧ Ext w2 w' ∧ (groupsF m xs goal).1.length ≤ c) := by
          have h1 := GroupsOf_c (lc := c) (HM.out.ext X2.out) M2.out (hln ▸ HS.out.ext X2.out) hbd goal (by omega) (fun _ => hmR ▸ cand_len hl (by omega)) (hmR ▸ cand_few hl goal)
          rw [hln] at h1
          exact h1
        obtain ⟨⟨gs, code⟩, hgs⟩ : ∃ R, R = groupsF m xs goal := ⟨_, rfl⟩
        rw [← hgs] at HGo HGB HG4
        have hcn : 0 ≤ code := HGB.out.2.2
        have hg10 : gs.length ≤ 10 := HGB.out.2.1
        have hlf := lightF_facts hl
        have HLF := Lib.hid hlf
        have hn24 : n ≤ 24 := by rw [← hln]; exact hlf.1
        have k0 : w2.cell? ⟨gm, 0, none⟩ = some (.slice v.vA m.vars.length v.vc) := C2.out.cell 0
        have k1 : w2.cell? ⟨gm, 1, none⟩ = some (.slice v.rA m.rules.length v.rc) := C2.out.cell 1
        have k2 : w2.cell? ⟨gm, 2, none⟩ = some (.slice v.pA m.phony.length v.pc) := C2.out.cell 2
        clear hmR hl hbd hgs hlf HR HBL
        go_wp2_with fail
        refine HGo.out.mono ?_
        rintro e u4 ⟨A4, c4, os4, he, hG4, hx, hcap⟩
        have he : e = .returned (.tuple #[.slice A4 gs.length c4, .int .i64 code]) := he
        subst he
        have hcap : gs.length ≤ c4 := hcap
        have X4 := Lib.hid (X2.out.then_ext hx)
        have HG : Hid (GrpsR u4 A4 os4 gs) := hG4
        clear hx hG4 HGo k0 k1 k2 C2 M2 X2 HM
        by_cases hcode : code = 0
        case neg =>
          have g0 : decide ((0 : Int) < code) = true := by rw [decide_eq_true_iff]; omega
          go_wp2_with fail
          go_ret
          exact ⟨rfl, X4.out⟩
        subst hcode
        have HGA : Hid (∀ g ∈ gs, GB3 g ∧ 1 ≤ g.targets.length ∧ (g.targets.headD []).length ≤ 1000000) := fun g hg => ⟨HGB.out.1 g hg, (HG4.out g hg).head⟩
        have hln2 : xs.length = n := hln
        subst hln2
        have HSt1 : Hid (∀ u, Ext u4 u → ∀ b, MapR u b ks.length (ktM ks) → Calls Try.prog 21 #[.slice A4 gs.length c4, .slice A xs.length c, .map (some b)] u fun e w' => ∃ B d, e = .returned (.slice B gs.length d) ∧ SlR boF w' B gs.length (staleF xs (ktL ks) gs) ∧ Ext u w') := fun u hu b hb =>
          Stale_c (HG.out.ext hu) hg10 hcap HGA.out (F := ktL ks) hb.kpm (HKT.out.ext (X4.out.then_ext hu)).kp (HS.out.ext (X4.out.then_ext hu)) (by have := HLF.out.1; omega) HLF.out.2.2
        have HSt2 : Hid (∀ u, Ext u4 u → Calls Try.prog 23 #[.slice A4 gs.length c4, .slice A xs.length c, .slice kA ks.length kc] u fun e w' => ∃ B d, e = .returned (.slice B gs.length d) ∧ SlR boF w' B gs.length (staleF xs (ktL ks) gs) ∧ Ext u w') := fun u hu =>
          RStale_c (HG.out.ext hu) hg10 hcap HGA.out (HKT.out.ext (X4.out.then_ext hu)) (by omega) (HS.out.ext (X4.out.then_ext hu)) (by have := HLF.out.1; omega)
        have HKo4 : Hid (∀ u, Ext u4 u → Calls Try.prog 22 #[.slice kA ks.length kc] u fun e w' => ∃ b, e = .returned (.map (some b)) ∧ MapR w' b ks.length (ktM ks) ∧ Ext u w' ∧ u.heap.size ≤ b) := fun u hu => HKo0.out u (X4.out.then_ext hu)
        have hgl' := HSt.out.1
        go_wp2_with fail
        refine (HKo4.out _ (Only.refl _ _)).mono ?_
        rintro e u5 ⟨b5, rfl, hM5, hx, _⟩
        have X5 := Lib.hid hx
        have HM5 := Lib.hid hM5
        clear hx hM5
        go_wp2_with fail
        refine (HSt1.out _ X5.out _ HM5.out).mono ?_
        rintro e u6 ⟨B6, d6, rfl, hS6, hx⟩
        have X6 := Lib.hid (X5.out.then_ext hx)
        have HS6 := Lib.hid hS6
        clear hx hS6 HSt1 HM5 X5
        go_wp2_with fail
        refine (HSt2.out _ X6.out).mono ?_
        rintro e u7 ⟨B7, d7, rfl, hS7, hx⟩
        have X7 := Lib.hid (X6.out.then_ext hx)
        have HS7 := Lib.hid hS7
        have HS6' := Lib.hid (HS6.out.ext hx)
        obtain ⟨ST, hST⟩ : ∃ S, S = staleF xs (ktL ks) gs := ⟨_, rfl⟩
        rw [← hST] at HS7 HS6'
        clear hx hS7 HSt2 HS6 X6 hST
        have HUn : Hid (∀ u, Ext u4 u → ∀ {sA : Option Addr} {sc : Nat} {st : List Bool}, SlR boF u sA gs.length st → Calls Try.prog 27 #[.slice A4 gs.length c4, .slice sA gs.length sc] u (UnsRes u gs st)) := fun u hu _ _ _ hS => Units_c (HG.out.ext hu) hg10 hcap HGB.out.1 hS
        have HRUn : Hid (∀ u, Ext u4 u → ∀ {sA : Option Addr} {sc : Nat} {st : List Bool}, SlR boF u sA gs.length st → Calls Try.prog 28 #[.slice A4 gs.length c4, .slice sA gs.length sc] u (UnsRes u gs st)) := fun u hu _ _ _ hS => RUnits_c (HG.out.ext hu) hg10 hcap HGB.out.1 hS
        have HSU : Hid (∀ u, ∀ {A B : Option Addr} {c d : Nat} {x y : List ((Option Addr × Nat) × List Nat)} {st : List Bool} {r q : Nat → Nat}, LstOk (edgesF gs st) gs.length r → LstOk (edgesF gs st) gs.length q → UnsR u A x (unitsF gs st r) → UnsR u B y (unitsF gs st q) → Calls Try.prog 26 #[.slice A (unitsF gs st r).length c, .slice B (unitsF gs st q).length d] u fun e w' => e = .returned (.bool true) ∧ Ext u w') := fun u A B c d x y st r q h1 h2 h3 h4 => by
          rw [← show unitsF gs st r = unitsF gs st q from units_congr h1 h2 gs.length] at h4 ⊢
          exact SameUnits_c h3 h4 (by have := units_len (gs := gs) (st := st) (r := r); omega) (fun u hu => by have := unit_len u hu; omega)
        go_wp2_with fail
        go_loopw [18] (fun i wr => ∃ k : Nat, k ≤ gs.length ∧ i = .int .i64 k ∧ Ext u7 wr) (fun i _ => gs.length - (intOf i).toNat)
        case atStart => exact ⟨0, Nat.zero_le _, rfl, Only.refl _ _⟩
        case round =>
          obtain ⟨k, hk, rfl, hx⟩ := hrel
          have XR := Lib.hid hx
          have XT := Lib.hid (X7.out.then_ext hx)
          clear hx
          by_cases hlt : k < gs.length
          · obtain ⟨bg, o, ⟨⟨tA, tc, nA, nc, cA, cc⟩, G⟩, rfl, hox, c0, c1, c2, c3⟩ := grps_get HG.out.row hlt
            have hgi : gs[k]? = some G := by rw [← HG.out.om, List.getElem?_map, hox]; rfl
            obtain ⟨_, hg1, hg2⟩ := HGA.out G (List.mem_of_getElem? hgi)
            have HTg : Hid (SlR strF u4 tA G.targets.length G.targets) := (HG.out.rr _ (List.mem_of_getElem? hox)).1
            obtain ⟨bt, ot, t, hA, hti, ct⟩ := strs_get HTg.out (k := 0) (by omega)
            subst hA
            have htt : G.targets.headD [] = t := by
              cases htl : G.targets with
              | nil => rw [htl] at hti; cases hti
              | cons p r => rw [htl] at hti; exact Option.some.inj hti
            have htl : t.length ≤ 1000000 := htt ▸ hg2
            obtain ⟨⟨p1, e1, p2, e2, p3, e3⟩, R, hv, hRr, hRl⟩ : ∃ V R, (ktM ks t).getD zeroR = rcdV V R ∧ RcdR u4 V R ∧ R.cmds.length ≤ 10000 ∧ R.needs.length ≤ 10000 ∧ R.out.length ≤ 10000 := by
              cases hq : ktL ks t with
              | none => exact ⟨⟨none, 0, none, 0, none, 0⟩, ⟨[], [], []⟩, by show (Option.map _ (ktL ks t)).getD _ = _; rw [hq]; rfl, ⟨SlR.none_, SlR.none_, SlR.none_⟩, by decide, by decide, by decide⟩
              | some p =>
                obtain ⟨q1, q2⟩ := (HKT.out.ext X4.out).kp t p hq
                exact ⟨p.1, p.2, by show (Option.map _ (ktL ks t)).getD _ = _; rw [hq]; rfl, q1, q2⟩
            obtain ⟨is, his⟩ : ∃ b, b = (ktM ks t).isSome := ⟨_, rfl⟩
            have HFi : Hid (∀ u, Ext wr u → ∀ b, MapR u b ks.length (ktM ks) → Calls Try.prog 24 #[.map (some b), .agg #[.slice (some ⟨bt, ot, none⟩) G.targets.length tc, .slice nA G.needs.length nc, .slice cA G.cmds.length cc, .bool G.phony]] u fun e w' => e = .returned (.tuple #[.agg #[.slice p1 R.cmds.length e1, .slice p2 R.needs.length e2, .slice p3 R.out.length e3], .bool is]) ∧ Ext u w') := fun u hu b hb => by
              have h1 := Find_c hb.kpm (a := ⟨some ⟨bt, ot, none⟩, tc, nA, nc, cA, cc⟩) (HTg.out.ext (XT.out.then_ext hu)) hg1 hg2 (by rw [htt]; exact hv)
              rw [htt, ← his] at h1
              exact h1
            have HLk : Hid (∀ u, Ext wr u → ∀ b, MapR u b ks.length (ktM ks) → (Instr.lookup rmapT (.map (some b)) (S t) true).run Try.prog u = .ok (.tuple #[.agg #[.slice p1 R.cmds.length e1, .slice p2 R.needs.length e2, .slice p3 R.out.length e3], .bool is]) u) := fun u hu b hb => by
              have h1 := hb.look t (by unfold maxLen; omega)
              rw [hv, ← his] at h1
              exact h1
            have HKo : Hid (∀ u, Ext wr u → Calls Try.prog 22 #[.slice kA ks.length kc] u fun e w' => ∃ b, e = .returned (.map (some b)) ∧ MapR w' b ks.length (ktM ks) ∧ Ext u w' ∧ u.heap.size ≤ b) := fun u hu => HKo4.out u (XT.out.then_ext hu)
            have f0 : ∀ ξ : X wr No, ξ.v.cell? ⟨bg, o + k * 4, none⟩ = some (.slice (some ⟨bt, ot, none⟩) G.targets.length tc) := fun ξ => c0 ⟨ξ.v, XT.out.then_ext ξ.h⟩
            have f1 : ∀ ξ : X wr No, ξ.v.cell? ⟨bg, o + k * 4 + 1, none⟩ = some (.slice nA G.needs.length nc) := fun ξ => c1 ⟨ξ.v, XT.out.then_ext ξ.h⟩
            have f2 : ∀ ξ : X wr No, ξ.v.cell? ⟨bg, o + k * 4 + 2, none⟩ = some (.slice cA G.cmds.length cc) := fun ξ => c2 ⟨ξ.v, XT.out.then_ext ξ.h⟩
            have f3 : ∀ ξ : X wr No, ξ.v.cell? ⟨bg, o + k * 4 + 3, none⟩ = some (.bool G.phony) := fun ξ => c3 ⟨ξ.v, XT.out.then_ext ξ.h⟩
            have HF0 := Lib.hid f0
            have HCt := Lib.hid ct
            have HRr := Lib.hid hRr
            have HRl := Lib.hid hRl
            clear hox hgi hti htt hv his c0 c1 c2 c3 ct hRr hRl hg2 htl
            go_upto_region 22 with fail
            go_cut [19, 20] from 105 to 114 (fun p f u => ∃ b9, p = .pointer (some ⟨b9, 0, none⟩) ∧ f = .bool is ∧ Cs u b9 rcT #[.slice p1 R.cmds.length e1, .slice p2 R.needs.length e2, .slice p3 R.out.length e3] ∧ Ext wr u ∧ wr.heap.size ≤ b9)
            case first =>
              refine Mix.wp_tree 13 [1, 6, 10, 11] (Cl wr No) rfl (by kernel_rfl) (by kernel_rfl) (Cl.drew_ (X.here wr No)) ?_
              obtain ⟨μ0, hμ0⟩ : ∃ u, u = wr.drew := ⟨_, rfl⟩
              have Y : Hid (Ext wr μ0) := by rw [hμ0]; exact (Only.refl No wr).drew
              rw [← hμ0]
              clear hμ0
              (refine Mix.tree_quiet (i := 0) (by kernel_rfl) rfl rfl rfl rfl ?_; intro K hK; go_big_quiet_op; go_big_quiet_on); (refine Mix.tree_quiet (i := 2) (by kernel_rfl) rfl rfl rfl rfl ?_; intro K hK; go_big_quiet_op; go_big_quiet_on); (refine Mix.tree_quiet (i := 3) (by kernel_rfl) rfl rfl rfl rfl ?_; intro K hK; go_big_quiet_op; go_big_quiet_on); (refine Mix.tree_quiet (i := 4) (by kernel_rfl) rfl rfl rfl rfl ?_; intro K hK; go_big_quiet_op; go_big_quiet_on); (refine Mix.tree_quiet (i := 5) (by kernel_rfl) rfl rfl rfl rfl ?_; intro K hK; go_big_quiet_op; go_big_quiet_on)
              refine Mix.tree_two (i := 1) (j := 10) (by kernel_rfl) (by kernel_rfl) rfl rfl rfl rfl rfl rfl ?_ ?_
              ·
                intro K hK
                go_simp
                refine (HKo.out _ Y.out).mono ?_
                rintro e u1 ⟨bm, rfl, hM, hx, hbm⟩
                have M := Lib.hid hM
                have Y := Lib.hid (Y.out.then_ext hx)
                refine ⟨_, rfl, hK _ _ (Cl.of Y.out) ?_⟩
                clear hK K hx hM hbm
                simp only [Act.put, List.setIfInBounds_toArray, List.set_cons_succ, List.set_cons_zero]
                refine Mix.tree_two (i := 6) (j := 10) (by kernel_rfl) (by kernel_rfl) rfl rfl rfl rfl rfl rfl ?_ ?_
                ·
                  intro K hK
                  go_simp
                  refine (HFi.out _ Y.out _ M.out).mono ?_
                  rintro e u2 ⟨rfl, hx⟩
                  have M := Lib.hid (M.out.keep hx id)
                  have Y := Lib.hid (Y.out.then_ext hx)
                  refine ⟨_, rfl, hK _ _ (Cl.of Y.out) ?_⟩
                  clear hK K hx
                  simp only [Act.put, List.setIfInBounds_toArray, List.set_cons_succ, List.set_cons_zero]
                  (refine Mix.tree_quiet (i := 7) (by kernel_rfl) rfl rfl rfl rfl ?_; intro K hK; go_big_quiet_op; go_big_quiet_on); (refine Mix.tree_quiet (i := 8) (by kernel_rfl) rfl rfl rfl rfl ?_; intro K hK; go_big_quiet_op; go_big_quiet_on); (refine Mix.tree_quiet (i := 9) (by kernel_rfl) rfl rfl rfl rfl ?_; intro K hK; go_big_quiet_op; go_big_quiet_on)
                  refine Mix.tree_one (i := 10) (by kernel_rfl) (by kernel_rfl) rfl rfl rfl ?_
                  intro K hK
                  go_simp
                  obtain ⟨va, hva⟩ : ∃ u, u = (u2).alloc (.cells #[.slice none 0 0, .slice none 0 0, .slice none 0 0] rcT) := ⟨_, rfl⟩
                  obtain ⟨b9, hb9⟩ : ∃ g, g = (u2).heap.size := ⟨_, rfl⟩
                  have C : Hid (Cs va b9 rcT #[.slice none 0 0, .slice none 0 0, .slice none 0 0]) := by rw [hva, hb9]; exact Cs.new _ _ _
                  have B3 : Hid (wr.heap.size ≤ b9) := by rw [Hid, hb9]; exact Y.out.size
                  have yva : Ext u2 va := by rw [hva]; exact (Only.refl No _).alloc _
                  have Y := Lib.hid (Y.out.then_ext yva)
                  rw [← hva, ← hb9]
                  refine hK _ _ (Cl.of Y.out) ?_
                  clear hK K hva hb9 yva
                  simp only [Act.put, List.setIfInBounds_toArray, List.set_cons_succ, List.set_cons_zero]
                  refine Mix.tree_one (i := 11) (by kernel_rfl) (by kernel_rfl) rfl rfl rfl ?_
                  intro K hK
                  have k0 := C.out.cell 0
                  have k1 := C.out.cell 1
                  have k2 := C.out.cell 2
                  simp only [List.getElem?_toArray, List.getElem?_cons_succ, List.getElem?_cons_zero] at k0 k1 k2
                  have z0 := C.out.frozen 0
                  have z1 := C.out.frozen 1
                  have z2 := C.out.frozen 2
                  go_simp
                  obtain ⟨v9, hv9⟩ : ∃ u, u = (((va).setCell ⟨b9, 0, none⟩ (.slice p1 R.cmds.length e1)).setCell ⟨b9, 1, none⟩ (.slice p2 R.needs.length e2)).setCell ⟨b9, 2, none⟩ (.slice p3 R.out.length e3) := ⟨_, rfl⟩
                  have O9 : Only (fun q => q = b9) (va) v9 := by rw [hv9]; exact (((Only.refl _ _).at_ 0 _).at_ 1 _).at_ 2 _
                  have C9 : Cs v9 b9 rcT #[.slice p1 R.cmds.length e1, .slice p2 R.needs.length e2, .slice p3 R.out.length e3] := by rw [hv9]; exact ((C.out.set_ 0 _).set_ 1 _).set_ 2 _
                  have y9 : Ext wr v9 := Y.out.trans O9 fun q hq e => by have e : q = b9 := e; have := B3.out; omega
                  rw [← hv9]
                  refine hK _ _ (Cl.of y9) ?_
                  have hb3 := B3.out
                  clear hK K hv9 k0 k1 k2 z0 z1 z2
                  simp only [Act.put, List.setIfInBounds_toArray, List.set_cons_succ, List.set_cons_zero]
                  (refine Mix.tree_quiet (i := 12) (by kernel_rfl) rfl rfl rfl rfl ?_; intro K hK; go_big_quiet_op; go_big_quiet_on)
                  refine Mix.tree_nil ?_
                  go_wp2_with fail
                  go_meet
                  exact ⟨b9, rfl, rfl, C9, y9, hb3⟩
                ·
                  intro K hK
                  go_simp
                  obtain ⟨va, hva⟩ : ∃ u, u = (u1).alloc (.cells #[.slice none 0 0, .slice none 0 0, .slice none 0 0] rcT) := ⟨_, rfl⟩
                  obtain ⟨b9, hb9⟩ : ∃ g, g = (u1).heap.size := ⟨_, rfl⟩
                  have C : Hid (Cs va b9 rcT #[.slice none 0 0, .slice none 0 0, .slice none 0 0]) := by rw [hva, hb9]; exact Cs.new _ _ _
                  have B3 : Hid (wr.heap.size ≤ b9) := by rw [Hid, hb9]; exact Y.out.size
                  have yva : Ext u1 va := by rw [hva]; exact (Only.refl No _).alloc _
                  have M := Lib.hid (M.out.keep yva id)
                  have Y := Lib.hid (Y.out.then_ext yva)
                  rw [← hva, ← hb9]
                  refine hK _ _ (Cl.of Y.out) ?_
                  clear hK K hva hb9 yva
                  simp only [Act.put, List.setIfInBounds_toArray, List.set_cons_succ, List.set_cons_zero]
                  refine Mix.tree_one (i := 6) (by kernel_rfl) (by kernel_rfl) rfl rfl rfl ?_
                  intro K hK
                  go_simp
                  refine (HFi.out _ Y.out _ M.out).mono ?_
                  rintro e u2 ⟨rfl, hx⟩
                  have C := Lib.hid (C.out.keep hx id)
                  have M := Lib.hid (M.out.keep hx id)
                  have Y := Lib.hid (Y.out.then_ext hx)
                  refine ⟨_, rfl, hK _ _ (Cl.of Y.out) ?_⟩
                  clear hK K hx
                  simp only [Act.put, List.setIfInBounds_toArray, List.set_cons_succ, List.set_cons_zero]
                  (refine Mix.tree_quiet (i := 7) (by kernel_rfl) rfl rfl rfl rfl ?_; intro K hK; go_big_quiet_op; go_big_quiet_on); (refine Mix.tree_quiet (i := 8) (by kernel_rfl) rfl rfl rfl rfl ?_; intro K hK; go_big_quiet_op; go_big_quiet_on); (refine Mix.tree_quiet (i := 9) (by kernel_rfl) rfl rfl rfl rfl ?_; intro K hK; go_big_quiet_op; go_big_quiet_on)
                  refine Mix.tree_one (i := 11) (by kernel_rfl) (by kernel_rfl) rfl rfl rfl ?_
                  intro K hK
                  have k0 := C.out.cell 0
                  have k1 := C.out.cell 1
                  have k2 := C.out.cell 2
                  simp only [List.getElem?_toArray, List.getElem?_cons_succ, List.getElem?_cons_zero] at k0 k1 k2
                  have z0 := C.out.frozen 0
                  have z1 := C.out.frozen 1
                  have z2 := C.out.frozen 2
                  go_simp
                  obtain ⟨v9, hv9⟩ : ∃ u, u = (((u2).setCell ⟨b9, 0, none⟩ (.slice p1 R.cmds.length e1)).setCell ⟨b9, 1, none⟩ (.slice p2 R.needs.length e2)).setCell ⟨b9, 2, none⟩ (.slice p3 R.out.length e3) := ⟨_, rfl⟩
                  have O9 : Only (fun q => q = b9) (u2) v9 := by rw [hv9]; exact (((Only.refl _ _).at_ 0 _).at_ 1 _).at_ 2 _
                  have C9 : Cs v9 b9 rcT #[.slice p1 R.cmds.length e1, .slice p2 R.needs.length e2, .slice p3 R.out.length e3] := by rw [hv9]; exact ((C.out.set_ 0 _).set_ 1 _).set_ 2 _
                  have y9 : Ext wr v9 := Y.out.trans O9 fun q hq e => by have e : q = b9 := e; have := B3.out; omega
                  rw [← hv9]
                  refine hK _ _ (Cl.of y9) ?_
                  have hb3 := B3.out
                  clear hK K hv9 k0 k1 k2 z0 z1 z2
                  simp only [Act.put, List.setIfInBounds_toArray, List.set_cons_succ, List.set_cons_zero]
                  (refine Mix.tree_quiet (i := 12) (by kernel_rfl) rfl rfl rfl rfl ?_; intro K hK; go_big_quiet_op; go_big_quiet_on)
                  refine Mix.tree_nil ?_
                  go_wp2_with fail
                  go_meet
                  exact ⟨b9, rfl, rfl, C9, y9, hb3⟩
              ·
                intro K hK
                go_simp
                obtain ⟨va, hva⟩ : ∃ u, u = (μ0).alloc (.cells #[.slice none 0 0, .slice none 0 0, .slice none 0 0] rcT) := ⟨_, rfl⟩
                obtain ⟨b9, hb9⟩ : ∃ g, g = (μ0).heap.size := ⟨_, rfl⟩
                have C : Hid (Cs va b9 rcT #[.slice none 0 0, .slice none 0 0, .slice none 0 0]) := by rw [hva, hb9]; exact Cs.new _ _ _
                have B3 : Hid (wr.heap.size ≤ b9) := by rw [Hid, hb9]; exact Y.out.size
                have yva : Ext μ0 va := by rw [hva]; exact (Only.refl No _).alloc _
                have Y := Lib.hid (Y.out.then_ext yva)
                rw [← hva, ← hb9]
                refine hK _ _ (Cl.of Y.out) ?_
                clear hK K hva hb9 yva
                simp only [Act.put, List.setIfInBounds_toArray, List.set_cons_succ, List.set_cons_zero]
                refine Mix.tree_one (i := 1) (by kernel_rfl) (by kernel_rfl) rfl rfl rfl ?_
                intro K hK
                go_simp
                refine (HKo.out _ Y.out).mono ?_
                rintro e u1 ⟨bm, rfl, hM, hx, hbm⟩
                have M := Lib.hid hM
                have C := Lib.hid (C.out.keep hx id)
                have Y := Lib.hid (Y.out.then_ext hx)
                refine ⟨_, rfl, hK _ _ (Cl.of Y.out) ?_⟩
                clear hK K hx hM hbm
                simp only [Act.put, List.setIfInBounds_toArray, List.set_cons_succ, List.set_cons_zero]
                refine Mix.tree_one (i := 6) (by kernel_rfl) (by kernel_rfl) rfl rfl rfl ?_
                intro K hK
                go_simp
                refine (HFi.out _ Y.out _ M.out).mono ?_
                rintro e u2 ⟨rfl, hx⟩
                have C := Lib.hid (C.out.keep hx id)
                have M := Lib.hid (M.out.keep hx id)
                have Y := Lib.hid (Y.out.then_ext hx)
                refine ⟨_, rfl, hK _ _ (Cl.of Y.out) ?_⟩
                clear hK K hx
                simp only [Act.put, List.setIfInBounds_toArray, List.set_cons_succ, List.set_cons_zero]
                (refine Mix.tree_quiet (i := 7) (by kernel_rfl) rfl rfl rfl rfl ?_; intro K hK; go_big_quiet_op; go_big_quiet_on); (refine Mix.tree_quiet (i := 8) (by kernel_rfl) rfl rfl rfl rfl ?_; intro K hK; go_big_quiet_op; go_big_quiet_on); (refine Mix.tree_quiet (i := 9) (by kernel_rfl) rfl rfl rfl rfl ?_; intro K hK; go_big_quiet_op; go_big_quiet_on)
                refine Mix.tree_one (i := 11) (by kernel_rfl) (by kernel_rfl) rfl rfl rfl ?_
                intro K hK
                have k0 := C.out.cell 0
                have k1 := C.out.cell 1
                have k2 := C.out.cell 2
                simp only [List.getElem?_toArray, List.getElem?_cons_succ, List.getElem?_cons_zero] at k0 k1 k2
                have z0 := C.out.frozen 0
                have z1 := C.out.frozen 1
                have z2 := C.out.frozen 2
                go_simp
                obtain ⟨v9, hv9⟩ : ∃ u, u = (((u2).setCell ⟨b9, 0, none⟩ (.slice p1 R.cmds.length e1)).setCell ⟨b9, 1, none⟩ (.slice p2 R.needs.length e2)).setCell ⟨b9, 2, none⟩ (.slice p3 R.out.length e3) := ⟨_, rfl⟩
                have O9 : Only (fun q => q = b9) (u2) v9 := by rw [hv9]; exact (((Only.refl _ _).at_ 0 _).at_ 1 _).at_ 2 _
                have C9 : Cs v9 b9 rcT #[.slice p1 R.cmds.length e1, .slice p2 R.needs.length e2, .slice p3 R.out.length e3] := by rw [hv9]; exact ((C.out.set_ 0 _).set_ 1 _).set_ 2 _
                have y9 : Ext wr v9 := Y.out.trans O9 fun q hq e => by have e : q = b9 := e; have := B3.out; omega
                rw [← hv9]
                refine hK _ _ (Cl.of y9) ?_
                have hb3 := B3.out
                clear hK K hv9 k0 k1 k2 z0 z1 z2
                simp only [Act.put, List.setIfInBounds_toArray, List.set_cons_succ, List.set_cons_zero]
                (refine Mix.tree_quiet (i := 12) (by kernel_rfl) rfl rfl rfl rfl ?_; intro K hK; go_big_quiet_op; go_big_quiet_on)
                refine Mix.tree_nil ?_
                go_wp2_with fail
                go_meet
                exact ⟨b9, rfl, rfl, C9, y9, hb3⟩
            case rest =>
              obtain ⟨b9, rfl, rfl, hC9, hx9, _⟩ := hcut
              rename World => wq
              have XQ := Lib.hid hx9
              have C9 := Lib.hid hC9
              clear HFi f0 f1 f2 f3 hC9 hx9
              have f0 : ∀ ξ : X wq No, ξ.v.cell? ⟨bg, o + k * 4, none⟩ = some (.slice (some ⟨bt, ot, none⟩) G.targets.length tc) := fun ξ => HF0.out ⟨ξ.v, XQ.out.then_ext ξ.h⟩
              have f4 : ∀ ξ : X wq No, ξ.v.cell? ⟨bt, ot, none⟩ = some (S t) := fun ξ => HCt.out ⟨ξ.v, (XT.out.then_ext XQ.out).then_ext ξ.h⟩
              have hlt0 : 0 < G.targets.length := by omega
              have HKo : Hid (∀ u, Ext wq u → Calls Try.prog 22 #[.slice kA ks.length kc] u fun e w' => ∃ b, e = .returned (.map (some b)) ∧ MapR w' b ks.length (ktM ks) ∧ Ext u w' ∧ u.heap.size ≤ b) := fun u hu => HKo.out u (XQ.out.then_ext hu)
              have HLk : Hid (∀ u, Ext wq u → ∀ b, MapR u b ks.length (ktM ks) → (Instr.lookup rmapT (.map (some b)) (S t) true).run Try.prog u = .ok (.tuple #[.agg #[.slice p1 R.cmds.length e1, .slice p2 R.needs.length e2, .slice p3 R.out.length e3], .bool is]) u) := fun u hu => HLk.out u (XQ.out.then_ext hu)
              go_upto_region 23 with fail
              obtain ⟨b19, hb19⟩ : ∃ b, b = b9 := ⟨_, rfl⟩
              rw [← hb19] at C9 ⊢
              clear hb19
              go_cut [21, 22] from 115 to 127 (fun p f u => ∃ b9, p = .pointer (some ⟨b9, 0, none⟩) ∧ f = .bool is ∧ Cs u b9 rcT #[.slice p1 R.cmds.length e1, .slice p2 R.needs.length e2, .slice p3 R.out.length e3] ∧ Ext wq u ∧ wq.heap.size ≤ b9)
              case first =>
                refine Mix.wp_tree 16 [1, 9, 13, 14] (Cl wq No) rfl (by kernel_rfl) (by kernel_rfl) (Cl.drew_ (X.here wq No)) ?_
                obtain ⟨μ0, hμ0⟩ : ∃ u, u = wq.drew := ⟨_, rfl⟩
                have Y : Hid (Ext wq μ0) := by rw [hμ0]; exact (Only.refl No wq).drew
                rw [← hμ0]
                clear hμ0
                (refine Mix.tree_quiet (i := 0) (by kernel_rfl) rfl rfl rfl rfl ?_; intro K hK; go_big_quiet_op; go_big_quiet_on); (refine Mix.tree_quiet (i := 2) (by kernel_rfl) rfl rfl rfl rfl ?_; intro K hK; go_big_quiet_op; go_big_quiet_on); (refine Mix.tree_quiet (i := 3) (by kernel_rfl) rfl rfl rfl rfl ?_; intro K hK; go_big_quiet_op; go_big_quiet_on); (refine Mix.tree_quiet (i := 4) (by kernel_rfl) rfl rfl rfl rfl ?_; intro K hK; go_big_quiet_op; go_big_quiet_on); (refine Mix.tree_quiet (i := 5) (by kernel_rfl) rfl rfl rfl rfl ?_; intro K hK; go_big_quiet_op; go_big_quiet_on); (refine Mix.tree_quiet (i := 6) (by kernel_rfl) rfl rfl rfl rfl ?_; intro K hK; go_big_quiet_op; go_big_quiet_on); (refine Mix.tree_quiet (i := 7) (by kernel_rfl) rfl rfl rfl rfl ?_; intro K hK; go_big_quiet_op; go_big_quiet_on); (refine Mix.tree_quiet (i := 8) (by kernel_rfl) rfl rfl rfl rfl ?_; intro K hK; go_big_quiet_op; go_big_quiet_on)
                refine Mix.tree_two (i := 1) (j := 13) (by kernel_rfl) (by kernel_rfl) rfl rfl rfl rfl rfl rfl ?_ ?_
                ·
                  intro K hK
                  go_simp
                  refine (HKo.out _ Y.out).mono ?_
                  rintro e u1 ⟨bm, rfl, hM, hx, hbm⟩
                  have M := Lib.hid hM
                  have Y := Lib.hid (Y.out.then_ext hx)
                  refine ⟨_, rfl, hK _ _ (Cl.of Y.out) ?_⟩
                  clear hK K hx hM hbm
                  simp only [Act.put, List.setIfInBounds_toArray, List.set_cons_succ, List.set_cons_zero]
                  refine Mix.tree_two (i := 9) (j := 13) (by kernel_rfl) (by kernel_rfl) rfl rfl rfl rfl rfl rfl ?_ ?_
                  ·
                    intro K hK
                    have hlk := HLk.out u1 Y.out _ M.out
                    go_simp
                    refine hK _ _ (Cl.of Y.out) ?_
                    clear hK K hlk
                    simp only [Act.put, List.setIfInBounds_toArray, List.set_cons_succ, List.set_cons_zero]
                    (refine Mix.tree_quiet (i := 10) (by kernel_rfl) rfl rfl rfl rfl ?_; intro K hK; go_big_quiet_op; go_big_quiet_on); (refine Mix.tree_quiet (i := 11) (by kernel_rfl) rfl rfl rfl rfl ?_; intro K hK; go_big_quiet_op; go_big_quiet_on); (refine Mix.tree_quiet (i := 12) (by kernel_rfl) rfl rfl rfl rfl ?_; intro K hK; go_big_quiet_op; go_big_quiet_on)
                    refine Mix.tree_one (i := 13) (by kernel_rfl) (by kernel_rfl) rfl rfl rfl ?_
                    intro K hK
                    go_simp
                    obtain ⟨va, hva⟩ : ∃ u, u = (u1).alloc (.cells #[.slice none 0 0, .slice none 0 0, .slice none 0 0] rcT) := ⟨_, rfl⟩
                    obtain ⟨b9, hb9⟩ : ∃ g, g = (u1).heap.size := ⟨_, rfl⟩
                    have C : Hid (Cs va b9 rcT #[.slice none 0 0, .slice none 0 0, .slice none 0 0]) := by rw [hva, hb9]; exact Cs.new _ _ _
                    have B3 : Hid (wq.heap.size ≤ b9) := by rw [Hid, hb9]; exact Y.out.size
                    have yva : Ext u1 va := by rw [hva]; exact (Only.refl No _).alloc _
                    have Y := Lib.hid (Y.out.then_ext yva)
                    rw [← hva, ← hb9]
                    refine hK _ _ (Cl.of Y.out) ?_
                    clear hK K hva hb9 yva
                    simp only [Act.put, List.setIfInBounds_toArray, List.set_cons_succ, List.set_cons_zero]
                    refine Mix.tree_one (i := 14) (by kernel_rfl) (by kernel_rfl) rfl rfl rfl ?_
                    intro K hK
                    have k0 := C.out.cell 0
                    have k1 := C.out.cell 1
                    have k2 := C.out.cell 2
                    simp only [List.getElem?_toArray, List.getElem?_cons_succ, List.getElem?_cons_zero] at k0 k1 k2
                    have z0 := C.out.frozen 0
                    have z1 := C.out.frozen 1
                    have z2 := C.out.frozen 2
                    go_simp
                    obtain ⟨v9, hv9⟩ : ∃ u, u = (((va).setCell ⟨b9, 0, none⟩ (.slice p1 R.cmds.length e1)).setCell ⟨b9, 1, none⟩ (.slice p2 R.needs.length e2)).setCell ⟨b9, 2, none⟩ (.slice p3 R.out.length e3) := ⟨_, rfl⟩
                    have O9 : Only (fun q => q = b9) (va) v9 := by rw [hv9]; exact (((Only.refl _ _).at_ 0 _).at_ 1 _).at_ 2 _
                    have C9 : Cs v9 b9 rcT #[.slice p1 R.cmds.length e1, .slice p2 R.needs.length e2, .slice p3 R.out.length e3] := by rw [hv9]; exact ((C.out.set_ 0 _).set_ 1 _).set_ 2 _
                    have y9 : Ext wq v9 := Y.out.trans O9 fun q hq e => by have e : q = b9 := e; have := B3.out; omega
                    rw [← hv9]
                    refine hK _ _ (Cl.of y9) ?_
                    have hb3 := B3.out
                    clear hK K hv9 k0 k1 k2 z0 z1 z2
                    simp only [Act.put, List.setIfInBounds_toArray, List.set_cons_succ, List.set_cons_zero]
                    (refine Mix.tree_quiet (i := 15) (by kernel_rfl) rfl rfl rfl rfl ?_; intro K hK; go_big_quiet_op; go_big_quiet_on)
                    refine Mix.tree_nil ?_
                    go_wp2_with fail
                    go_meet
                    exact ⟨b9, rfl, rfl, C9, y9, hb3⟩
                  ·
                    intro K hK
                    go_simp
                    obtain ⟨va, hva⟩ : ∃ u, u = (u1).alloc (.cells #[.slice none 0 0, .slice none 0 0, .slice none 0 0] rcT) := ⟨_, rfl⟩
                    obtain ⟨b9, hb9⟩ : ∃ g, g = (u1).heap.size := ⟨_, rfl⟩
                    have C : Hid (Cs va b9 rcT #[.slice none 0 0, .slice none 0 0, .slice none 0 0]) := by rw [hva, hb9]; exact Cs.new _ _ _
                    have B3 : Hid (wq.heap.size ≤ b9) := by rw [Hid, hb9]; exact Y.out.size
                    have yva : Ext u1 va := by rw [hva]; exact (Only.refl No _).alloc _
                    have M := Lib.hid (M.out.keep yva id)
                    have Y := Lib.hid (Y.out.then_ext yva)
                    rw [← hva, ← hb9]
                    refine hK _ _ (Cl.of Y.out) ?_
                    clear hK K hva hb9 yva
                    simp only [Act.put, List.setIfInBounds_toArray, List.set_cons_succ, List.set_cons_zero]
                    refine Mix.tree_one (i := 9) (by kernel_rfl) (by kernel_rfl) rfl rfl rfl ?_
                    intro K hK
                    have hlk := HLk.out va Y.out _ M.out
                    go_simp
                    refine hK _ _ (Cl.of Y.out) ?_
                    clear hK K hlk
                    simp only [Act.put, List.setIfInBounds_toArray, List.set_cons_succ, List.set_cons_zero]
                    (refine Mix.tree_quiet (i := 10) (by kernel_rfl) rfl rfl rfl rfl ?_; intro K hK; go_big_quiet_op; go_big_quiet_on); (refine Mix.tree_quiet (i := 11) (by kernel_rfl) rfl rfl rfl rfl ?_; intro K hK; go_big_quiet_op; go_big_quiet_on); (refine Mix.tree_quiet (i := 12) (by kernel_rfl) rfl rfl rfl rfl ?_; intro K hK; go_big_quiet_op; go_big_quiet_on)
                    refine Mix.tree_one (i := 14) (by kernel_rfl) (by kernel_rfl) rfl rfl rfl ?_
                    intro K hK
                    have k0 := C.out.cell 0
                    have k1 := C.out.cell 1
                    have k2 := C.out.cell 2
                    simp only [List.getElem?_toArray, List.getElem?_cons_succ, List.getElem?_cons_zero] at k0 k1 k2
                    have z0 := C.out.frozen 0
                    have z1 := C.out.frozen 1
                    have z2 := C.out.frozen 2
                    go_simp
                    obtain ⟨v9, hv9⟩ : ∃ u, u = (((va).setCell ⟨b9, 0, none⟩ (.slice p1 R.cmds.length e1)).setCell ⟨b9, 1, none⟩ (.slice p2 R.needs.length e2)).setCell ⟨b9, 2, none⟩ (.slice p3 R.out.length e3) := ⟨_, rfl⟩
                    have O9 : Only (fun q => q = b9) (va) v9 := by rw [hv9]; exact (((Only.refl _ _).at_ 0 _).at_ 1 _).at_ 2 _
                    have C9 : Cs v9 b9 rcT #[.slice p1 R.cmds.length e1, .slice p2 R.needs.length e2, .slice p3 R.out.length e3] := by rw [hv9]; exact ((C.out.set_ 0 _).set_ 1 _).set_ 2 _
                    have y9 : Ext wq v9 := Y.out.trans O9 fun q hq e => by have e : q = b9 := e; have := B3.out; omega
                    rw [← hv9]
                    refine hK _ _ (Cl.of y9) ?_
                    have hb3 := B3.out
                    clear hK K hv9 k0 k1 k2 z0 z1 z2
                    simp only [Act.put, List.setIfInBounds_toArray, List.set_cons_succ, List.set_cons_zero]
                    (refine Mix.tree_quiet (i := 15) (by kernel_rfl) rfl rfl rfl rfl ?_; intro K hK; go_big_quiet_op; go_big_quiet_on)
                    refine Mix.tree_nil ?_
                    go_wp2_with fail
                    go_meet
                    exact ⟨b9, rfl, rfl, C9, y9, hb3⟩
                ·
                  intro K hK
                  go_simp
                  obtain ⟨va, hva⟩ : ∃ u, u = (μ0).alloc (.cells #[.slice none 0 0, .slice none 0 0, .slice none 0 0] rcT) := ⟨_, rfl⟩
                  obtain ⟨b9, hb9⟩ : ∃ g, g = (μ0).heap.size := ⟨_, rfl⟩
                  have C : Hid (Cs va b9 rcT #[.slice none 0 0, .slice none 0 0, .slice none 0 0]) := by rw [hva, hb9]; exact Cs.new _ _ _
                  have B3 : Hid (wq.heap.size ≤ b9) := by rw [Hid, hb9]; exact Y.out.size
                  have yva : Ext μ0 va := by rw [hva]; exact (Only.refl No _).alloc _
                  have Y := Lib.hid (Y.out.then_ext yva)
                  rw [← hva, ← hb9]
                  refine hK _ _ (Cl.of Y.out) ?_
                  clear hK K hva hb9 yva
                  simp only [Act.put, List.setIfInBounds_toArray, List.set_cons_succ, List.set_cons_zero]
                  refine Mix.tree_one (i := 1) (by kernel_rfl) (by kernel_rfl) rfl rfl rfl ?_
                  intro K hK
                  go_simp
                  refine (HKo.out _ Y.out).mono ?_
                  rintro e u1 ⟨bm, rfl, hM, hx, hbm⟩
                  have M := Lib.hid hM
                  have C := Lib.hid (C.out.keep hx id)
                  have Y := Lib.hid (Y.out.then_ext hx)
                  refine ⟨_, rfl, hK _ _ (Cl.of Y.out) ?_⟩
                  clear hK K hx hM hbm
                  simp only [Act.put, List.setIfInBounds_toArray, List.set_cons_succ, List.set_cons_zero]
                  refine Mix.tree_one (i := 9) (by kernel_rfl) (by kernel_rfl) rfl rfl rfl ?_
                  intro K hK
                  have hlk := HLk.out u1 Y.out _ M.out
                  go_simp
                  refine hK _ _ (Cl.of Y.out) ?_
                  clear hK K hlk
                  simp only [Act.put, List.setIfInBounds_toArray, List.set_cons_succ, List.set_cons_zero]
                  (refine Mix.tree_quiet (i := 10) (by kernel_rfl) rfl rfl rfl rfl ?_; intro K hK; go_big_quiet_op; go_big_quiet_on); (refine Mix.tree_quiet (i := 11) (by kernel_rfl) rfl rfl rfl rfl ?_; intro K hK; go_big_quiet_op; go_big_quiet_on); (refine Mix.tree_quiet (i := 12) (by kernel_rfl) rfl rfl rfl rfl ?_; intro K hK; go_big_quiet_op; go_big_quiet_on)
                  refine Mix.tree_one (i := 14) (by kernel_rfl) (by kernel_rfl) rfl rfl rfl ?_
                  intro K hK
                  have k0 := C.out.cell 0
                  have k1 := C.out.cell 1
                  have k2 := C.out.cell 2
                  simp only [List.getElem?_toArray, List.getElem?_cons_succ, List.getElem?_cons_zero] at k0 k1 k2
                  have z0 := C.out.frozen 0
                  have z1 := C.out.frozen 1
                  have z2 := C.out.frozen 2
                  go_simp
                  obtain ⟨v9, hv9⟩ : ∃ u, u = (((u1).setCell ⟨b9, 0, none⟩ (.slice p1 R.cmds.length e1)).setCell ⟨b9, 1, none⟩ (.slice p2 R.needs.length e2)).setCell ⟨b9, 2, none⟩ (.slice p3 R.out.length e3) := ⟨_, rfl⟩
                  have O9 : Only (fun q => q = b9) (u1) v9 := by rw [hv9]; exact (((Only.refl _ _).at_ 0 _).at_ 1 _).at_ 2 _
                  have C9 : Cs v9 b9 rcT #[.slice p1 R.cmds.length e1, .slice p2 R.needs.length e2, .slice p3 R.out.length e3] := by rw [hv9]; exact ((C.out.set_ 0 _).set_ 1 _).set_ 2 _
                  have y9 : Ext wq v9 := Y.out.trans O9 fun q hq e => by have e : q = b9 := e; have := B3.out; omega
                  rw [← hv9]
                  refine hK _ _ (Cl.of y9) ?_
                  have hb3 := B3.out
                  clear hK K hv9 k0 k1 k2 z0 z1 z2
                  simp only [Act.put, List.setIfInBounds_toArray, List.set_cons_succ, List.set_cons_zero]
                  (refine Mix.tree_quiet (i := 15) (by kernel_rfl) rfl rfl rfl rfl ?_; intro K hK; go_big_quiet_op; go_big_quiet_on)
                  refine Mix.tree_nil ?_
                  go_wp2_with fail
                  go_meet
                  exact ⟨b9, rfl, rfl, C9, y9, hb3⟩
              case rest =>
                obtain ⟨b9, rfl, rfl, hC8, hx8, _⟩ := hcut
                rename World => wz
                have XZ := Lib.hid (XQ.out.then_ext hx8)
                have D9 := Lib.hid (C9.out.keep hx8 id)
                have D8 := Lib.hid hC8
                clear hC8 hx8 f0 f4 HKo HLk C9
                obtain ⟨b6, o6, s6, rfl, hs6, q6⟩ := bos_get HS6'.out hlt
                obtain ⟨b7, o7, s7, rfl, hs7, q7⟩ := bos_get HS7.out hlt
                obtain rfl : s6 = s7 := Option.some.inj (hs6.symm.trans hs7)
                have g0 : ∀ ξ : X wz No, ξ.v.cell? ⟨b6, o6 + k, none⟩ = some (.bool s6) := fun ξ => q6 ⟨ξ.v, (XR.out.then_ext XZ.out).then_ext ξ.h⟩
                have g1 : ∀ ξ : X wz No, ξ.v.cell? ⟨b7, o7 + k, none⟩ = some (.bool s6) := fun ξ => q7 ⟨ξ.v, (XR.out.then_ext XZ.out).then_ext ξ.h⟩
                have e0 : ∀ ξ : X wz No, ξ.v.cell? ⟨b19, 0, none⟩ = some (.slice p1 R.cmds.length e1) := D9.out.x id 0
                have e1' : ∀ ξ : X wz No, ξ.v.cell? ⟨b19, 1, none⟩ = some (.slice p2 R.needs.length e2) := D9.out.x id 1
                have e2' : ∀ ξ : X wz No, ξ.v.cell? ⟨b19, 2, none⟩ = some (.slice p3 R.out.length e3) := D9.out.x id 2
                have e3' : ∀ ξ : X wz No, ξ.v.cell? ⟨b9, 0, none⟩ = some (.slice p1 R.cmds.length e1) := D8.out.x id 0
                have e4 : ∀ ξ : X wz No, ξ.v.cell? ⟨b9, 1, none⟩ = some (.slice p2 R.needs.length e2) := D8.out.x id 1
                have e5 : ∀ ξ : X wz No, ξ.v.cell? ⟨b9, 2, none⟩ = some (.slice p3 R.out.length e3) := D8.out.x id 2
                have HSR : Hid (∀ u, Ext wz u → Calls Try.prog 25 #[.agg #[.slice p1 R.cmds.length e1, .slice p2 R.needs.length e2, .slice p3 R.out.length e3], .agg #[.slice p1 R.cmds.length e1, .slice p2 R.needs.length e2, .slice p3 R.out.length e3]] u fun e w' => e = .returned (.bool true) ∧ Ext u w') := fun u hu => by
                  have hr := HRr.out.ext ((XT.out.then_ext XZ.out).then_ext hu)
                  have h1 := SameRecord_c (v := ⟨p1, e1, p2, e2, p3, e3⟩) (u := ⟨p1, e1, p2, e2, p3, e3⟩) (r := R) (q := R) hr hr HRl.out HRl.out
                  rw [sameR_self] at h1
                  exact h1
                clear hs6 hs7 q6 q7
                go_upto_region 24 with fail
                cases s6 <;> cases is
                all_goals
                  refine Mix.wp_draw [17] 100 (Cl wz No) (by kernel_rfl) (by kernel_rfl) (Cl.of (Only.refl _ _).drew) ?_
                  (repeat' (first | (refine Mix.lex_quiet0 rfl rfl rfl ?_; intro K hK; go_big_quiet_op; go_big_quiet_on) | (refine Mix.lex_quietG rfl rfl rfl (by with_reducible rfl) rfl rfl ?_; intro K hK; go_big_quiet_op; go_big_quiet_on) | ((first | refine Mix.lex_skipT rfl rfl rfl (by with_reducible rfl) ?_ | refine Mix.lex_skipF rfl rfl rfl (by with_reducible rfl) ?_ | refine Mix.lex_skipU rfl rfl rfl (by with_reducible rfl) ?_); simp only [Act.put, List.setIfInBounds_toArray, List.set_cons_succ, List.set_cons_zero]) | (refine Mix.lex_part rfl rfl rfl rfl (fun hq => ?_) (fun hq => ?_) <;> (fail_if_success (guard_hyp hq :ₛ true = true)) <;> (fail_if_success (guard_hyp hq :ₛ false = false)) <;> first | (exfalso; cases hq; done) | (exfalso; simp only [decide_eq_true_eq, decide_eq_false_iff_not, beq_iff_eq, beq_eq_false_iff_ne, ne_eq, Int.not_lt, Int.not_le] at hq; omega) | simp only [Act.put, List.setIfInBounds_toArray, List.set_cons_succ, List.set_cons_zero])))
                  ((first | refine Mix.lex_goes0 rfl rfl ?_ | refine Mix.lex_goesG rfl rfl rfl (by with_reducible rfl) rfl ?_); intro K hK; go_simp)
                  refine (HSR.out _ (Only.refl No wz).drew).mono ?_
                  rintro e u ⟨rfl, hu⟩
                  have XV := Lib.hid (XR.out.then_ext (XZ.out.then_ext ((Only.refl No wz).drew.then_ext hu)))
                  refine ⟨_, rfl, hK _ _ (fun _ => Cl.of ((Only.refl No wz).drew.then_ext hu)) ?_⟩
                  clear hK K hu g0 g1 e0 e1' e2' e3' e4 e5
                  simp only [Act.put, List.setIfInBounds_toArray, List.set_cons_succ, List.set_cons_zero]
                  (repeat' (first | (refine Mix.lex_quiet0 rfl rfl rfl ?_; intro K hK; go_big_quiet_op; go_big_quiet_on) | (refine Mix.lex_quietG rfl rfl rfl (by with_reducible rfl) rfl rfl ?_; intro K hK; go_big_quiet_op; go_big_quiet_on) | ((first | refine Mix.lex_skipT rfl rfl rfl (by with_reducible rfl) ?_ | refine Mix.lex_skipF rfl rfl rfl (by with_reducible rfl) ?_ | refine Mix.lex_skipU rfl rfl rfl (by with_reducible rfl) ?_); simp only [Act.put, List.setIfInBounds_toArray, List.set_cons_succ, List.set_cons_zero]) | (refine Mix.lex_part rfl rfl rfl rfl (fun hq => ?_) (fun hq => ?_) <;> (fail_if_success (guard_hyp hq :ₛ true = true)) <;> (fail_if_success (guard_hyp hq :ₛ false = false)) <;> first | (exfalso; cases hq; done) | (exfalso; simp only [decide_eq_true_eq, decide_eq_false_iff_not, beq_iff_eq, beq_eq_false_iff_ne, ne_eq, Int.not_lt, Int.not_le] at hq; omega) | simp only [Act.put, List.setIfInBounds_toArray, List.set_cons_succ, List.set_cons_zero])))
                  refine Mix.lex_nil ?_
                  go_wp2_with fail
                  go_roundw
                  case rel => exact ⟨k + 1, by omega, by go_num, XV.out⟩
                  case measure => simp [intOf]; omega
          · obtain rfl : k = gs.length := by omega
            have HU1 := HUn.out _ XT.out (sc := d6) (HS6'.out.ext XR.out)
            go_wp2_with fail
            refine HU1.mono ?_
            rintro e v1 ⟨E1, f1, x1, r1, hL1, rfl, hR1, hx1⟩
            have V1 := Lib.hid (XR.out.then_ext hx1)
            have T1 := Lib.hid (XT.out.then_ext hx1)
            have L1 := Lib.hid hL1
            have R1 := Lib.hid hR1
            have HU2 := HRUn.out _ T1.out (sc := d7) (HS7.out.ext V1.out)
            clear HU1 hL1 hR1 hx1
            go_wp2_with fail
            refine HU2.mono ?_
            rintro e v2 ⟨E2, f2, x2, r2, hL2, rfl, hR2, hx2⟩
            have V2 := Lib.hid (V1.out.then_ext hx2)
            have T2 := Lib.hid (T1.out.then_ext hx2)
            have HS2 := HSU.out v2 (c := f1) (d := f2) L1.out hL2 ⟨R1.out.1.ext hx2, fun x h => (R1.out.2.1 x h).ext hx2, R1.out.2.2⟩ hR2
            clear HU2 hL2 hR2 hx2
            clear R1
            generalize unitsF gs ST r1 = un1 at HS2 ⊢
            generalize unitsF gs ST r2 = un2 at HS2 ⊢
            go_wp2_with fail
            refine HS2.mono ?_
            rintro e v3 ⟨rfl, hx3⟩
            have V3 := Lib.hid (T2.out.then_ext hx3)
            clear HS2 hx3
            by_cases hsl : sn = gs.length
            case neg =>
              have t0 : decide ((sn : Int) = (gs.length : Int)) = false := by rw [decide_eq_false_iff_not]; omega
              have t1 : ((sn : Int) == (gs.length : Int)) = false := by rw [beq_eq_false_iff_ne]; omega
              go_wp2_with (first | ((first | refine Mix.wpList_guarded rfl ?_ | refine Mix.wp_still (by kernel_rfl) (by kernel_rfl) ?_); (repeat' (first | (refine Mix.lex_quiet0 rfl rfl rfl ?_; intro K hK; go_big_quiet_op; go_big_quiet_on) | (refine Mix.lex_quietG rfl rfl rfl (by with_reducible rfl) rfl rfl ?_; intro K hK; go_big_quiet_op; go_big_quiet_on) | ((first | refine Mix.lex_skipT rfl rfl rfl (by with_reducible rfl) ?_ | refine Mix.lex_skipF rfl rfl rfl (by with_reducible rfl) ?_ | refine Mix.lex_skipU rfl rfl rfl (by with_reducible rfl) ?_); simp only [Act.put, List.setIfInBounds_toArray, List.set_cons_succ, List.set_cons_zero]) | (refine Mix.lex_part rfl rfl rfl rfl (fun hq => ?_) (fun hq => ?_) <;> (fail_if_success (guard_hyp hq :ₛ true = true)) <;> (fail_if_success (guard_hyp hq :ₛ false = false)) <;> first | (exfalso; cases hq; done) | (exfalso; simp only [decide_eq_true_eq, decide_eq_false_iff_not, beq_iff_eq, beq_eq_false_iff_ne, ne_eq, Int.not_lt, Int.not_le] at hq; omega) | simp only [Act.put, List.setIfInBounds_toArray, List.set_cons_succ, List.set_cons_zero]))); all_goals (refine Mix.lex_nil ?_)))
              go_ret
              exact ⟨rfl, X4.out.then_ext V3.out⟩
            subst hsl
            have HSS : Hid (SlR boF v3 sA gs.length sts) := HSt.out.ext (X4.out.then_ext V3.out)
            go_upto_region 28 with fail
            refine Mix.wp_plain [8, 11, 12] (Cl v3 No) (Cl.of (Only.refl _ _)) ?_
            (repeat' (first | (refine Mix.lex_quiet0 rfl rfl rfl ?_; intro K hK; go_big_quiet_op; go_big_quiet_on) | (refine Mix.lex_quietG rfl rfl rfl (by with_reducible rfl) rfl rfl ?_; intro K hK; go_big_quiet_op; go_big_quiet_on) | ((first | refine Mix.lex_skipT rfl rfl rfl (by with_reducible rfl) ?_ | refine Mix.lex_skipF rfl rfl rfl (by with_reducible rfl) ?_ | refine Mix.lex_skipU rfl rfl rfl (by with_reducible rfl) ?_); simp only [Act.put, List.setIfInBounds_toArray, List.set_cons_succ, List.set_cons_zero]) | (refine Mix.lex_part rfl rfl rfl rfl (fun hq => ?_) (fun hq => ?_) <;> (fail_if_success (guard_hyp hq :ₛ true = true)) <;> (fail_if_success (guard_hyp hq :ₛ false = false)) <;> first | (exfalso; cases hq; done) | (exfalso; simp only [decide_eq_true_eq, decide_eq_false_iff_not, beq_iff_eq, beq_eq_false_iff_ne, ne_eq, Int.not_lt, Int.not_le] at hq; omega) | simp only [Act.put, List.setIfInBounds_toArray, List.set_cons_succ, List.set_cons_zero])))
            ((first | refine Mix.lex_goes0 rfl rfl ?_ | refine Mix.lex_goesG rfl rfl rfl (by with_reducible rfl) rfl ?_); intro K hK; go_simp)
            refine (HUn.out _ V3.out (sc := sc) HSS.out).mono ?_
            rintro e v4 ⟨E1, f1, x1, r1, hL1, rfl, hR1, hx1⟩
            have V4 := Lib.hid hx1
            have L1 := Lib.hid hL1
            have R1 := Lib.hid hR1
            refine ⟨_, rfl, hK _ _ (fun _ => Cl.of hx1) ?_⟩
            clear hK K hx1 hR1 hL1
            simp only [Act.put, List.setIfInBounds_toArray, List.set_cons_succ, List.set_cons_zero]
            (repeat' (first | (refine Mix.lex_quiet0 rfl rfl rfl ?_; intro K hK; go_big_quiet_op; go_big_quiet_on) | (refine Mix.lex_quietG rfl rfl rfl (by with_reducible rfl) rfl rfl ?_; intro K hK; go_big_quiet_op; go_big_quiet_on) | ((first | refine Mix.lex_skipT rfl rfl rfl (by with_reducible rfl) ?_ | refine Mix.lex_skipF rfl rfl rfl (by with_reducible rfl) ?_ | refine Mix.lex_skipU rfl rfl rfl (by with_reducible rfl) ?_); simp only [Act.put, List.setIfInBounds_toArray, List.set_cons_succ, List.set_cons_zero]) | (refine Mix.lex_part rfl rfl rfl rfl (fun hq => ?_) (fun hq => ?_) <;> (fail_if_success (guard_hyp hq :ₛ true = true)) <;> (fail_if_success (guard_hyp hq :ₛ false = false)) <;> first | (exfalso; cases hq; done) | (exfalso; simp only [decide_eq_true_eq, decide_eq_false_iff_not, beq_iff_eq, beq_eq_false_iff_ne, ne_eq, Int.not_lt, Int.not_le] at hq; omega) | simp only [Act.put, List.setIfInBounds_toArray, List.set_cons_succ, List.set_cons_zero])))
            ((first | refine Mix.lex_goes0 rfl rfl ?_ | refine Mix.lex_goesG rfl rfl rfl (by with_reducible rfl) rfl ?_); intro K hK; go_simp)
            refine (HRUn.out _ (V3.out.then_ext V4.out) (sc := sc) (HSS.out.ext V4.out)).mono ?_
            rintro e v5 ⟨E2, f2, x2, r2, hL2, rfl, hR2, hx2⟩
            have V5 := Lib.hid (V4.out.then_ext hx2)
            have HS5 := HSU.out v5 (c := f1) (d := f2) L1.out hL2 ⟨R1.out.1.ext hx2, fun x h => (R1.out.2.1 x h).ext hx2, R1.out.2.2⟩ hR2
            refine ⟨_, rfl, hK _ _ (fun _ => Cl.of V5.out) ?_⟩
            clear hK K hx2 hR2 hL2 R1
            generalize unitsF gs sts r1 = un1 at HS5 ⊢
            generalize unitsF gs sts r2 = un2 at HS5 ⊢
            simp only [Act.put, List.setIfInBounds_toArray, List.set_cons_succ, List.set_cons_zero]
            (repeat' (first | (refine Mix.lex_quiet0 rfl rfl rfl ?_; intro K hK; go_big_quiet_op; go_big_quiet_on) | (refine Mix.lex_quietG rfl rfl rfl (by with_reducible rfl) rfl rfl ?_; intro K hK; go_big_quiet_op; go_big_quiet_on) | ((first | refine Mix.lex_skipT rfl rfl rfl (by with_reducible rfl) ?_ | refine Mix.lex_skipF rfl rfl rfl (by with_reducible rfl) ?_ | refine Mix.lex_skipU rfl rfl rfl (by with_reducible rfl) ?_); simp only [Act.put, List.setIfInBounds_toArray, List.set_cons_succ, List.set_cons_zero]) | (refine Mix.lex_part rfl rfl rfl rfl (fun hq => ?_) (fun hq => ?_) <;> (fail_if_success (guard_hyp hq :ₛ true = true)) <;> (fail_if_success (guard_hyp hq :ₛ false = false)) <;> first | (exfalso; cases hq; done) | (exfalso; simp only [decide_eq_true_eq, decide_eq_false_iff_not, beq_iff_eq, beq_eq_false_iff_ne, ne_eq, Int.not_lt, Int.not_le] at hq; omega) | simp only [Act.put, List.setIfInBounds_toArray, List.set_cons_succ, List.set_cons_zero])))
            ((first | refine Mix.lex_goes0 rfl rfl ?_ | refine Mix.lex_goesG rfl rfl rfl (by with_reducible rfl) rfl ?_); intro K hK; go_simp)
            refine HS5.mono ?_
            rintro e v6 ⟨rfl, hx⟩
            have V6 := Lib.hid (V5.out.then_ext hx)
            refine ⟨_, rfl, hK _ _ (fun _ => Cl.of V6.out) ?_⟩
            clear hK K hx HS5
            simp only [Act.put, List.setIfInBounds_toArray, List.set_cons_succ, List.set_cons_zero]
            (repeat' (first | (refine Mix.lex_quiet0 rfl rfl rfl ?_; intro K hK; go_big_quiet_op; go_big_quiet_on) | (refine Mix.lex_quietG rfl rfl rfl (by with_reducible rfl) rfl rfl ?_; intro K hK; go_big_quiet_op; go_big_quiet_on) | ((first | refine Mix.lex_skipT rfl rfl rfl (by with_reducible rfl) ?_ | refine Mix.lex_skipF rfl rfl rfl (by with_reducible rfl) ?_ | refine Mix.lex_skipU rfl rfl rfl (by with_reducible rfl) ?_); simp only [Act.put, List.setIfInBounds_toArray, List.set_cons_succ, List.set_cons_zero]) | (refine Mix.lex_part rfl rfl rfl rfl (fun hq => ?_) (fun hq => ?_) <;> (fail_if_success (guard_hyp hq :ₛ true = true)) <;> (fail_if_success (guard_hyp hq :ₛ false = false)) <;> first | (exfalso; cases hq; done) | (exfalso; simp only [decide_eq_true_eq, decide_eq_false_iff_not, beq_iff_eq, beq_eq_false_iff_ne, ne_eq, Int.not_lt, Int.not_le] at hq; omega) | simp only [Act.put, List.setIfInBounds_toArray, List.set_cons_succ, List.set_cons_zero])))
            refine Mix.lex_nil ?_
            go_wp2_with fail
            go_ret
            exact ⟨rfl, X4.out.then_ext (V3.out.then_ext V6.out)⟩
end Go.Proofs.Ytnhaekifcieeoaa
