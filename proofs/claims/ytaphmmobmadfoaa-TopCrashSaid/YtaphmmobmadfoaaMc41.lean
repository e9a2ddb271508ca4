/- Put together: StY2. -/
import Derived.Test.YtaphmmobmadfoaaMc40
import Derived.Deep.CutBlock
/- The walk of TopCrash. -/
namespace Go.Proofs.Ytaphmmobmadfoaa
open Go Go.RowKit
set_option maxRecDepth 100000 in
set_option maxHeartbeats 16000000 in
theorem TopCrash_all {w : World} (hm : Ml w) {A : Option Addr} {n cap : Nat} {ys : List DeedV} (hs : DedR w A n ys) (hn : n ≤ maxLen) (fuse : Int) (hf : -9223372036854775808 ≤ fuse ∧ fuse ≤ 9223372036854775807) (K : Nat) (hK : K < 18446744073709551616) :
    Calls Try.prog 5 #[.slice A n cap, .int .i64 fuse, .int .u64 K] w fun e w' => e = .returned (.bool true) ∧ Ext w w' := by
  have HM := Lib.hid hm
  have HS := Lib.hid hs
  have H0 := Lib.hid (kept_c hm)
  have HnM := Lib.hid hn
  unfold maxLen at hn
  clear hm hs
  go_enter Try.func5, Try.ntmps5
  go_wp2_with (first | ((first | refine Mix.wpList_guarded rfl ?_ | refine Mix.wp_still (by kernel_rfl) (by kernel_rfl) ?_); (repeat' (first | (refine Mix.lex_quiet0 rfl rfl rfl ?_; intro K hK; go_big_quiet_op; go_big_quiet_on) | (refine Mix.lex_quietG rfl rfl rfl (by with_reducible rfl) rfl rfl ?_; intro K hK; go_big_quiet_op; go_big_quiet_on) | ((first | refine Mix.lex_skipT rfl rfl rfl (by with_reducible rfl) ?_ | refine Mix.lex_skipF rfl rfl rfl (by with_reducible rfl) ?_ | refine Mix.lex_skipU rfl rfl rfl (by with_reducible rfl) ?_); simp only [Act.put, List.setIfInBounds_toArray, List.set_cons_succ, List.set_cons_zero]) | (refine Mix.lex_part rfl rfl rfl rfl (fun hq => ?_) (fun hq => ?_) <;> (fail_if_success (guard_hyp hq :ₛ true = true)) <;> (fail_if_success (guard_hyp hq :ₛ false = false)) <;> first | (exfalso; cases hq; done) | (exfalso; simp only [decide_eq_true_eq, decide_eq_false_iff_not, beq_iff_eq, beq_eq_false_iff_ne, ne_eq, Int.not_lt, Int.not_le] at hq; omega) | simp only [Act.put, List.setIfInBounds_toArray, List.set_cons_succ, List.set_cons_zero]))); all_goals (refine Mix.lex_nil ?_)))
  refine H0.out.mono ?_
  rintro e u0 ⟨rfl, hu⟩
  have U0 := Lib.hid hu
  have HS1 := Lib.hid (Stored_c (HM.out.ext hu) 64 (by omega) (by omega))
  clear hu H0
  go_wp2_with (first | ((first | refine Mix.wpList_guarded rfl ?_ | refine Mix.wp_still (by kernel_rfl) (by kernel_rfl) ?_); (repeat' (first | (refine Mix.lex_quiet0 rfl rfl rfl ?_; intro K hK; go_big_quiet_op; go_big_quiet_on) | (refine Mix.lex_quietG rfl rfl rfl (by with_reducible rfl) rfl rfl ?_; intro K hK; go_big_quiet_op; go_big_quiet_on) | ((first | refine Mix.lex_skipT rfl rfl rfl (by with_reducible rfl) ?_ | refine Mix.lex_skipF rfl rfl rfl (by with_reducible rfl) ?_ | refine Mix.lex_skipU rfl rfl rfl (by with_reducible rfl) ?_); simp only [Act.put, List.setIfInBounds_toArray, List.set_cons_succ, List.set_cons_zero]) | (refine Mix.lex_part rfl rfl rfl rfl (fun hq => ?_) (fun hq => ?_) <;> (fail_if_success (guard_hyp hq :ₛ true = true)) <;> (fail_if_success (guard_hyp hq :ₛ false = false)) <;> first | (exfalso; cases hq; done) | (exfalso; simp only [decide_eq_true_eq, decide_eq_false_iff_not, beq_iff_eq, beq_eq_false_iff_ne, ne_eq, Int.not_lt, Int.not_le] at hq; omega) | simp only [Act.put, List.setIfInBounds_toArray, List.set_cons_succ, List.set_cons_zero]))); all_goals (refine Mix.lex_nil ?_)))
  refine HS1.out.mono ?_
  rintro e u1 ⟨Z1, r1, rfl, hF1⟩
  have F1 := Lib.hid (SV.of_fresh (w0 := w) hF1 U0.out.size)
  have HZ0 := Lib.hid (z_eq0 hF1.2.2.1)
  have U1 := Lib.hid (U0.out.then_ext hF1.2.2.2.2)
  clear hF1 HS1 U0
  have HL := Lib.hid (lightDs_c (c := cap) ⟨HS.out.1.ext U1.out, fun y hy => (HS.out.2 y hy).ext U1.out⟩ HnM.out 20 (by omega))
  obtain ⟨q, hq⟩ : ∃ q, q = lightDs 20 (ys.map (·.2)) := ⟨_, rfl⟩
  rw [← hq] at HL
  have HQ := Lib.hid hq
  clear hq
  go_wp2_with (first | ((first | refine Mix.wpList_guarded rfl ?_ | refine Mix.wp_still (by kernel_rfl) (by kernel_rfl) ?_); (repeat' (first | (refine Mix.lex_quiet0 rfl rfl rfl ?_; intro K hK; go_big_quiet_op; go_big_quiet_on) | (refine Mix.lex_quietG rfl rfl rfl (by with_reducible rfl) rfl rfl ?_; intro K hK; go_big_quiet_op; go_big_quiet_on) | ((first | refine Mix.lex_skipT rfl rfl rfl (by with_reducible rfl) ?_ | refine Mix.lex_skipF rfl rfl rfl (by with_reducible rfl) ?_ | refine Mix.lex_skipU rfl rfl rfl (by with_reducible rfl) ?_); simp only [Act.put, List.setIfInBounds_toArray, List.set_cons_succ, List.set_cons_zero]) | (refine Mix.lex_part rfl rfl rfl rfl (fun hq => ?_) (fun hq => ?_) <;> (fail_if_success (guard_hyp hq :ₛ true = true)) <;> (fail_if_success (guard_hyp hq :ₛ false = false)) <;> first | (exfalso; cases hq; done) | (exfalso; simp only [decide_eq_true_eq, decide_eq_false_iff_not, beq_iff_eq, beq_eq_false_iff_ne, ne_eq, Int.not_lt, Int.not_le] at hq; omega) | simp only [Act.put, List.setIfInBounds_toArray, List.set_cons_succ, List.set_cons_zero]))); all_goals (refine Mix.lex_nil ?_)))
  refine HL.out.mono ?_
  rintro e u3 ⟨rfl, hu⟩
  have U3 := Lib.hid (U1.out.then_ext hu)
  have F1 := Lib.hid (F1.out.ext hu)
  clear hu HL U1
  cases q with
  | false =>
    go_wp2_with (first | ((first | refine Mix.wpList_guarded rfl ?_ | refine Mix.wp_still (by kernel_rfl) (by kernel_rfl) ?_); (repeat' (first | (refine Mix.lex_quiet0 rfl rfl rfl ?_; intro K hK; go_big_quiet_op; go_big_quiet_on) | (refine Mix.lex_quietG rfl rfl rfl (by with_reducible rfl) rfl rfl ?_; intro K hK; go_big_quiet_op; go_big_quiet_on) | ((first | refine Mix.lex_skipT rfl rfl rfl (by with_reducible rfl) ?_ | refine Mix.lex_skipF rfl rfl rfl (by with_reducible rfl) ?_ | refine Mix.lex_skipU rfl rfl rfl (by with_reducible rfl) ?_); simp only [Act.put, List.setIfInBounds_toArray, List.set_cons_succ, List.set_cons_zero]) | (refine Mix.lex_part rfl rfl rfl rfl (fun hq => ?_) (fun hq => ?_) <;> (fail_if_success (guard_hyp hq :ₛ true = true)) <;> (fail_if_success (guard_hyp hq :ₛ false = false)) <;> first | (exfalso; cases hq; done) | (exfalso; simp only [decide_eq_true_eq, decide_eq_false_iff_not, beq_iff_eq, beq_eq_false_iff_ne, ne_eq, Int.not_lt, Int.not_le] at hq; omega) | simp only [Act.put, List.setIfInBounds_toArray, List.set_cons_succ, List.set_cons_zero]))); all_goals (refine Mix.lex_nil ?_)))
    go_ret
    exact ⟨rfl, U3.out⟩
  | true =>
  have HLf : Hid (n ≤ 20 ∧ ∀ x ∈ ys, x.2.length ≤ 14 ∧ ∀ y ∈ x.2, y.1.length ≤ 20 ∧ y.2.1.length ≤ 400) := by
    have h := HQ.out.symm
    unfold lightDs at h
    simp only [Bool.and_eq_true, decide_eq_true_eq, List.all_eq_true, List.length_map] at h
    exact ⟨by rw [← HS.out.1.1]; exact h.1, fun x hx => lightC_facts (h.2 x.2 (List.mem_map_of_mem hx))⟩
  have hn20 : n ≤ 20 := HLf.out.1
  clear HQ
  obtain ⟨N, hN⟩ : ∃ N, N = min (max fuse (-1)) 400 := ⟨_, rfl⟩
  have hN2 : N ≤ 400 := by omega
  have HA := Lib.hid (Arm_c F1.out.lv.dk N (by omega))
  go_wp2_with (first | ((first | refine Mix.wpList_guarded rfl ?_ | refine Mix.wp_still (by kernel_rfl) (by kernel_rfl) ?_); (repeat' (first | (refine Mix.lex_quiet0 rfl rfl rfl ?_; intro K hK; go_big_quiet_op; go_big_quiet_on) | (refine Mix.lex_quietG rfl rfl rfl (by with_reducible rfl) rfl rfl ?_; intro K hK; go_big_quiet_op; go_big_quiet_on) | ((first | refine Mix.lex_skipT rfl rfl rfl (by with_reducible rfl) ?_ | refine Mix.lex_skipF rfl rfl rfl (by with_reducible rfl) ?_ | refine Mix.lex_skipU rfl rfl rfl (by with_reducible rfl) ?_); simp only [Act.put, List.setIfInBounds_toArray, List.set_cons_succ, List.set_cons_zero]) | (refine Mix.lex_part rfl rfl rfl rfl (fun hq => ?_) (fun hq => ?_) <;> (fail_if_success (guard_hyp hq :ₛ true = true)) <;> (fail_if_success (guard_hyp hq :ₛ false = false)) <;> first | (exfalso; cases hq; done) | (exfalso; simp only [decide_eq_true_eq, decide_eq_false_iff_not, beq_iff_eq, beq_eq_false_iff_ne, ne_eq, Int.not_lt, Int.not_le] at hq; omega) | simp only [Act.put, List.setIfInBounds_toArray, List.set_cons_succ, List.set_cons_zero]))); all_goals (refine Mix.lex_nil ?_)))
  rw [← hN]
  refine HA.out.mono ?_
  rintro e u5 ⟨rfl, hd5, ho5⟩
  have X5 : Hid (Ext w u5) := U3.out.trans ho5 fun b hb e => by have := F1.out.lv.fp b (.inl (.inl e)); omega
  have M5 : Hid (Ml u5) := ml_new HM.out (HM.out.ext U3.out) ho5 fun b e => F1.out.lv.fp b (.inl (.inl e))
  have V5 : Hid (FV w u5 r1.g Z1.g 1 1 [] Z1 r1 { fmtD 64 with fuse := max N (-1) }) := by
    have L := F1.out.lv
    have o5 : Only r1.fp u3 u5 := ho5.weak fun b _ e => .inl e
    refine ⟨⟨L.st.on L.dk o5, hd5, L.on, ⟨rfl, by show -1 ≤ max N (-1); omega, L.ok.wide⟩, rfl, rfl, L.fp⟩, rfl, rfl, .inr ?_, F1.out.rw, F1.out.mn, F1.out.ep, F1.out.fs, F1.out.dn⟩
    obtain ⟨z1, z2, z3, z4⟩ := HZ0.out
    intro a s b1 b2 b3 x
    rw [z3]
    exact fmt_dull (N := 64) (by omega) a s (by rw [z4] at b1; exact b1) (by rw [z2] at b2; exact b2) (by rw [z1] at b3; exact b3) x
  clear hd5 ho5 HA F1 U3 hN
  obtain ⟨dg, hdg⟩ : ∃ x, x = r1.g := ⟨_, rfl⟩
  obtain ⟨sg, hsg⟩ : ∃ x, x = Z1.g := ⟨_, rfl⟩
  rw [← hdg, ← hsg] at V5
  rw [← hdg, ← hsg]
  clear hdg hsg HZ0
  go_upto_block 0 with fail
  go_cut [10, 11, 12, 13] from 36 to 73 (fun a b _ _ u => ∃ wA wc lA lc want last r d, a = .slice wA (want : List Ch).length wc ∧ b = .slice lA (last : List Ch).length lc ∧ CrS w u dg 90 1000 wA lA want last r d ∧ want.length ≤ 100000 ∧ last.length ≤ 100000)
  case first =>
    go_wp2_with fail
    go_loopw [10, 11, 12] (fun a b i wr => ∃ j : Nat, j ≤ n ∧ i = .int .i64 (j : Int) ∧ ∃ wA wc want Z r d, a = .slice wA (want : List Ch).length wc ∧ b = .slice wA want.length wc ∧ FV w wr dg sg (1 + 2 * j) (1 + 40 * j) want Z r d ∧ RbF (Z.fp r) wr wA want ∧ Ext w wr ∧ Ml wr) (fun _ _ i _ => n - (intOf i).toNat)
    case atStart => exact ⟨0, Nat.zero_le _, rfl, none, 0, [], Z1, r1, _, rfl, rfl, V5.out, fun v _ => ⟨rfl, fun h => absurd h (by decide)⟩, X5.out, M5.out⟩
    case round =>
      obtain ⟨wv, rfl⟩ : ∃ x, x = wr := ⟨_, rfl⟩
      obtain ⟨j, hj, rfl, wA, wc, want, Z3, r3, e3, rfl, rfl, hV, hR, hx, hml⟩ := hrel
      have V3 := Lib.hid hV
      have R3 := Lib.hid hR
      have X3 := Lib.hid hx
      have M3 := Lib.hid hml
      clear hV hR hx hml V5 X5 M5
      have HWl0 : Hid (want.length ≤ 1000) := by have h1 := V3.out.lv.on.small; have h2 := V3.out.rw; rw [Hid, ← h2]; omega
      by_cases hlt : j < n
      case neg =>
        have glt : decide ((j : Int) < (n : Int)) = false := decide_eq_false (by omega)
        have glt' : decide (j < n) = false := decide_eq_false hlt
        have CR := Lib.hid ((V3.out.rests R3.out X3.out M3.out).weak (E2 := 90) (F2 := 1000) (by omega) (by omega))
        obtain ⟨rC, hrC⟩ : ∃ x, x = r3 := ⟨_, rfl⟩
        subst hrC
        obtain ⟨dC, hdC⟩ : ∃ x, x = e3 := ⟨_, rfl⟩
        subst hdC
        obtain ⟨last, hlast⟩ : ∃ x, x = want := ⟨_, rfl⟩
        obtain ⟨lA, hlA⟩ : ∃ x, x = wA := ⟨_, rfl⟩
        obtain ⟨lc, hlc⟩ : ∃ x, x = wc := ⟨_, rfl⟩
        subst hlast hlA hlc
        have HWL : Hid (last.length ≤ 100000 ∧ last.length ≤ 100000) := ⟨Nat.le_trans HWl0.out (by omega), Nat.le_trans HWl0.out (by omega)⟩
        clear V3 R3 X3 M3
        go_wp2_with (first | ((first | refine Mix.wpList_guarded rfl ?_ | refine Mix.wp_still (by kernel_rfl) (by kernel_rfl) ?_); (repeat' (first | (refine Mix.lex_quiet0 rfl rfl rfl ?_; intro K hK; go_big_quiet_op; go_big_quiet_on) | (refine Mix.lex_quietG rfl rfl rfl (by with_reducible rfl) rfl rfl ?_; intro K hK; go_big_quiet_op; go_big_quiet_on) | ((first | refine Mix.lex_skipT rfl rfl rfl (by with_reducible rfl) ?_ | refine Mix.lex_skipF rfl rfl rfl (by with_reducible rfl) ?_ | refine Mix.lex_skipU rfl rfl rfl (by with_reducible rfl) ?_); simp only [Act.put, List.setIfInBounds_toArray, List.set_cons_succ, List.set_cons_zero]) | (refine Mix.lex_part rfl rfl rfl rfl (fun hq => ?_) (fun hq => ?_) <;> (fail_if_success (guard_hyp hq :ₛ true = true)) <;> (fail_if_success (guard_hyp hq :ₛ false = false)) <;> first | (exfalso; cases hq; done) | (exfalso; simp only [decide_eq_true_eq, decide_eq_false_iff_not, beq_iff_eq, beq_eq_false_iff_ne, ne_eq, Int.not_lt, Int.not_le] at hq; omega) | simp only [Act.put, List.setIfInBounds_toArray, List.set_cons_succ, List.set_cons_zero]))); all_goals (refine Mix.lex_nil ?_)))
        go_meet
        exact ⟨lA, lc, lA, lc, last, last, rC, dC, rfl, rfl, CR.out, HWL.out⟩
      have glt : decide ((j : Int) < (n : Int)) = true := decide_eq_true (by omega)
      have glt' : decide (j < n) = true := decide_eq_true hlt
      obtain ⟨b, o, y, rfl, hy, hsl, hc⟩ := ded_get (⟨HS.out.1.ext X3.out, fun y hy => (HS.out.2 y hy).ext X3.out⟩ : DedR wv A n ys) hlt
      have hmem : y ∈ ys := List.mem_of_getElem? hy
      have HYj := Lib.hid hy
      have HY := Lib.hid (HLf.out.2 y hmem)
      have HYs : Hid (SlR chF w y.1.1 y.2.length y.2) := HS.out.2 y hmem
      have HYb : Hid (∀ x ∈ y.2, x.1.length ≤ 1000 ∧ x.2.1.length ≤ 1000) := fun x hx => by have := HY.out.2 x hx; omega
      have hyl := HY.out.1
      clear hc hsl hy
      obtain ⟨wp, hwp⟩ : ∃ x, x = wv := ⟨_, rfl⟩
      obtain ⟨q4, hq4⟩ : ∃ q, q = decide (j % 5 = 4) := ⟨_, rfl⟩
      have g4 : (((j : Int) % 5) == 4) = q4 := by
        rw [hq4, Bool.eq_iff_iff, beq_iff_eq, decide_eq_true_iff]; omega
      have g4' : ((Int.tmod (j : Int) 5) == 4) = q4 := by
        rw [hq4, Bool.eq_iff_iff, beq_iff_eq, decide_eq_true_iff, Int.tmod_eq_emod_of_nonneg (by omega)]; omega
      cases q4 with
      | false =>
        clear hq4 hwp
        have VC := Lib.hid (V3.out.weak (E2 := 1 + 2 * j + 1) (F2 := 1 + 40 * j + 20) (by omega) (by omega))
        have RC := R3
        have XC := X3
        have MC := M3
        clear V3 R3 X3 M3
        obtain ⟨U, hU⟩ : ∃ x, x = wv := ⟨_, rfl⟩
        subst hU
        have HCm := Lib.hid (VC.out.commit (cap := y.1.2) HM.out MC.out XC.out.size (by omega) (fun v hv => HYs.out.ext (XC.out.trans hv fun b hb e => by have := VC.out.lv.fp b e; omega)) (by omega) HYb.out)
        have c0 : U.cell? ⟨b, o + j, none⟩ = some (.slice y.1.1 y.2.length y.1.2) := ded_at HS.out XC.out hlt HYj.out
        go_wp2_with (first | ((first | refine Mix.wpList_guarded rfl ?_ | refine Mix.wp_still (by kernel_rfl) (by kernel_rfl) ?_); (repeat' (first | (refine Mix.lex_quiet0 rfl rfl rfl ?_; intro K hK; go_big_quiet_op; go_big_quiet_on) | (refine Mix.lex_quietG rfl rfl rfl (by with_reducible rfl) rfl rfl ?_; intro K hK; go_big_quiet_op; go_big_quiet_on) | ((first | refine Mix.lex_skipT rfl rfl rfl (by with_reducible rfl) ?_ | refine Mix.lex_skipF rfl rfl rfl (by with_reducible rfl) ?_ | refine Mix.lex_skipU rfl rfl rfl (by with_reducible rfl) ?_); simp only [Act.put, List.setIfInBounds_toArray, List.set_cons_succ, List.set_cons_zero]) | (refine Mix.lex_part rfl rfl rfl rfl (fun hq => ?_) (fun hq => ?_) <;> (fail_if_success (guard_hyp hq :ₛ true = true)) <;> (fail_if_success (guard_hyp hq :ₛ false = false)) <;> first | (exfalso; cases hq; done) | (exfalso; simp only [decide_eq_true_eq, decide_eq_false_iff_not, beq_iff_eq, beq_eq_false_iff_ne, ne_eq, Int.not_lt, Int.not_le] at hq; omega) | simp only [Act.put, List.setIfInBounds_toArray, List.set_cons_succ, List.set_cons_zero]))); all_goals (refine Mix.lex_nil ?_)))
        refine HCm.out.mono ?_
        rintro e w1 ⟨f, rfl, hfp, Zn, rn, dn, hon, hfn, hres⟩
        have XN : Hid (Ext w w1) := XC.out.trans hon fun b hb e => by have := VC.out.lv.fp b e; omega
        have MN : Hid (Ml w1) := ml_new HM.out MC.out hon VC.out.lv.fp
        have RN := Lib.hid (RC.out.step hon hfn)
        have HRes := Lib.hid hres
        clear hon hfn hres HCm VC XC MC RC c0
        have c1 : w1.cell? ⟨b, o + j, none⟩ = some (.slice y.1.1 y.2.length y.1.2) := ded_at HS.out XN.out hlt HYj.out
        by_cases hf0 : f = 0
        case pos =>
          subst hf0
          have VN : Hid (FV w w1 dg sg (1 + 2 * (j + 1)) (1 + 40 * (j + 1)) (applyL want y.2) Zn rn dn) := by
            rcases HRes.out with ⟨_, h⟩ | ⟨h, _⟩
            · rw [if_pos rfl] at h
              exact h.weak (by omega) (by omega)
            · cases h
          have HAp := Lib.hid (RApplied_c (c := wc) (d := y.1.2) RN.out.here (HYs.out.ext XN.out) (Nat.le_trans HWl0.out (by omega)) (by omega))
          clear HRes
          rw [errV_zero]
          go_wp2_with (first | ((first | refine Mix.wpList_guarded rfl ?_ | refine Mix.wp_still (by kernel_rfl) (by kernel_rfl) ?_); (repeat' (first | (refine Mix.lex_quiet0 rfl rfl rfl ?_; intro K hK; go_big_quiet_op; go_big_quiet_on) | (refine Mix.lex_quietG rfl rfl rfl (by with_reducible rfl) rfl rfl ?_; intro K hK; go_big_quiet_op; go_big_quiet_on) | ((first | refine Mix.lex_skipT rfl rfl rfl (by with_reducible rfl) ?_ | refine Mix.lex_skipF rfl rfl rfl (by with_reducible rfl) ?_ | refine Mix.lex_skipU rfl rfl rfl (by with_reducible rfl) ?_); simp only [Act.put, List.setIfInBounds_toArray, List.set_cons_succ, List.set_cons_zero]) | (refine Mix.lex_part rfl rfl rfl rfl (fun hq => ?_) (fun hq => ?_) <;> (fail_if_success (guard_hyp hq :ₛ true = true)) <;> (fail_if_success (guard_hyp hq :ₛ false = false)) <;> first | (exfalso; cases hq; done) | (exfalso; simp only [decide_eq_true_eq, decide_eq_false_iff_not, beq_iff_eq, beq_eq_false_iff_ne, ne_eq, Int.not_lt, Int.not_le] at hq; omega) | simp only [Act.put, List.setIfInBounds_toArray, List.set_cons_succ, List.set_cons_zero]))); all_goals (refine Mix.lex_nil ?_)))
          refine HAp.out.mono ?_
          rintro e w2 ⟨A2, c2, rfl, hF⟩
          have R2 := Lib.hid (RbF.fresh hF (fp_lt VN.out.lv.st VN.out.lv.dk))
          have V2 := Lib.hid (VN.out.ext hF.ext)
          have X2 := Lib.hid (XN.out.then_ext hF.ext)
          have M2 := Lib.hid (MN.out.ext hF.ext)
          clear hF HAp VN XN MN RN c1
          go_wp2_with (first | ((first | refine Mix.wpList_guarded rfl ?_ | refine Mix.wp_still (by kernel_rfl) (by kernel_rfl) ?_); (repeat' (first | (refine Mix.lex_quiet0 rfl rfl rfl ?_; intro K hK; go_big_quiet_op; go_big_quiet_on) | (refine Mix.lex_quietG rfl rfl rfl (by with_reducible rfl) rfl rfl ?_; intro K hK; go_big_quiet_op; go_big_quiet_on) | ((first | refine Mix.lex_skipT rfl rfl rfl (by with_reducible rfl) ?_ | refine Mix.lex_skipF rfl rfl rfl (by with_reducible rfl) ?_ | refine Mix.lex_skipU rfl rfl rfl (by with_reducible rfl) ?_); simp only [Act.put, List.setIfInBounds_toArray, List.set_cons_succ, List.set_cons_zero]) | (refine Mix.lex_part rfl rfl rfl rfl (fun hq => ?_) (fun hq => ?_) <;> (fail_if_success (guard_hyp hq :ₛ true = true)) <;> (fail_if_success (guard_hyp hq :ₛ false = false)) <;> first | (exfalso; cases hq; done) | (exfalso; simp only [decide_eq_true_eq, decide_eq_false_iff_not, beq_iff_eq, beq_eq_false_iff_ne, ne_eq, Int.not_lt, Int.not_le] at hq; omega) | simp only [Act.put, List.setIfInBounds_toArray, List.set_cons_succ, List.set_cons_zero]))); all_goals (refine Mix.lex_nil ?_)))
          go_roundw
          case rel => exact ⟨j + 1, by omega, by go_num, A2, c2, applyL want y.2, Zn, rn, dn, rfl, rfl, V2.out, R2.out, X2.out, M2.out⟩
          case measure => simp [intOf]; omega
        rw [errV_pos hf0]
        have HNu : Hid (∀ v, Calls Try.prog 21 #[E f] v fun e w' => e = .returned (.int .i64 f) ∧ Ext v w') := fun v => by
          have := numberT_c f v
          rwa [errV_pos hf0] at this
        go_wp2_with (first | ((first | refine Mix.wpList_guarded rfl ?_ | refine Mix.wp_still (by kernel_rfl) (by kernel_rfl) ?_); (repeat' (first | (refine Mix.lex_quiet0 rfl rfl rfl ?_; intro K hK; go_big_quiet_op; go_big_quiet_on) | (refine Mix.lex_quietG rfl rfl rfl (by with_reducible rfl) rfl rfl ?_; intro K hK; go_big_quiet_op; go_big_quiet_on) | ((first | refine Mix.lex_skipT rfl rfl rfl (by with_reducible rfl) ?_ | refine Mix.lex_skipF rfl rfl rfl (by with_reducible rfl) ?_ | refine Mix.lex_skipU rfl rfl rfl (by with_reducible rfl) ?_); simp only [Act.put, List.setIfInBounds_toArray, List.set_cons_succ, List.set_cons_zero]) | (refine Mix.lex_part rfl rfl rfl rfl (fun hq => ?_) (fun hq => ?_) <;> (fail_if_success (guard_hyp hq :ₛ true = true)) <;> (fail_if_success (guard_hyp hq :ₛ false = false)) <;> first | (exfalso; cases hq; done) | (exfalso; simp only [decide_eq_true_eq, decide_eq_false_iff_not, beq_iff_eq, beq_eq_false_iff_ne, ne_eq, Int.not_lt, Int.not_le] at hq; omega) | simp only [Act.put, List.setIfInBounds_toArray, List.set_cons_succ, List.set_cons_zero]))); all_goals (refine Mix.lex_nil ?_)))
        refine (HNu.out _).mono ?_
        rintro e w2 ⟨rfl, hx⟩
        have HX := Lib.hid hx
        have X2 := Lib.hid (XN.out.then_ext hx)
        have M2 := Lib.hid (MN.out.ext hx)
        have R2 := Lib.hid (RN.out.ext hx)
        have c2 : w2.cell? ⟨b, o + j, none⟩ = some (.slice y.1.1 y.2.length y.1.2) := ded_at HS.out X2.out hlt HYj.out
        clear hx HNu XN MN RN c1
        by_cases hf11 : f = 11
        case neg =>
          have g11 : ((f == 11) : Bool) = false := by rw [beq_eq_false_iff_ne]; exact hf11
          have V2 : Hid (FV w w2 dg sg (1 + 2 * (j + 1)) (1 + 40 * (j + 1)) want Zn rn dn) := by
            rcases HRes.out with ⟨_, h⟩ | ⟨h, _⟩
            · rw [if_neg hf0] at h
              exact (h.weak (by omega) (by omega)).ext HX.out
            · exact absurd h hf11
          clear HRes HX
          go_wp2_with (first | ((first | refine Mix.wpList_guarded rfl ?_ | refine Mix.wp_still (by kernel_rfl) (by kernel_rfl) ?_); (repeat' (first | (refine Mix.lex_quiet0 rfl rfl rfl ?_; intro K hK; go_big_quiet_op; go_big_quiet_on) | (refine Mix.lex_quietG rfl rfl rfl (by with_reducible rfl) rfl rfl ?_; intro K hK; go_big_quiet_op; go_big_quiet_on) | ((first | refine Mix.lex_skipT rfl rfl rfl (by with_reducible rfl) ?_ | refine Mix.lex_skipF rfl rfl rfl (by with_reducible rfl) ?_ | refine Mix.lex_skipU rfl rfl rfl (by with_reducible rfl) ?_); simp only [Act.put, List.setIfInBounds_toArray, List.set_cons_succ, List.set_cons_zero]) | (refine Mix.lex_part rfl rfl rfl rfl (fun hq => ?_) (fun hq => ?_) <;> (fail_if_success (guard_hyp hq :ₛ true = true)) <;> (fail_if_success (guard_hyp hq :ₛ false = false)) <;> first | (exfalso; cases hq; done) | (exfalso; simp only [decide_eq_true_eq, decide_eq_false_iff_not, beq_iff_eq, beq_eq_false_iff_ne, ne_eq, Int.not_lt, Int.not_le] at hq; omega) | simp only [Act.put, List.setIfInBounds_toArray, List.set_cons_succ, List.set_cons_zero]))); all_goals (refine Mix.lex_nil ?_)))
          go_roundw
          case rel => exact ⟨j + 1, by omega, by go_num, wA, wc, want, Zn, rn, dn, rfl, rfl, V2.out, R2.out, X2.out, M2.out⟩
          case measure => simp [intOf]; omega
        subst hf11
        have HAp := Lib.hid (RApplied_c (c := wc) (d := y.1.2) R2.out.here (HYs.out.ext X2.out) (Nat.le_trans HWl0.out (by omega)) (by omega))
        go_upto_region 21 with fail
        go_wp2_with (first | ((first | refine Mix.wpList_guarded rfl ?_ | refine Mix.wp_still (by kernel_rfl) (by kernel_rfl) ?_); (repeat' (first | (refine Mix.lex_quiet0 rfl rfl rfl ?_; intro K hK; go_big_quiet_op; go_big_quiet_on) | (refine Mix.lex_quietG rfl rfl rfl (by with_reducible rfl) rfl rfl ?_; intro K hK; go_big_quiet_op; go_big_quiet_on) | ((first | refine Mix.lex_skipT rfl rfl rfl (by with_reducible rfl) ?_ | refine Mix.lex_skipF rfl rfl rfl (by with_reducible rfl) ?_ | refine Mix.lex_skipU rfl rfl rfl (by with_reducible rfl) ?_); simp only [Act.put, List.setIfInBounds_toArray, List.set_cons_succ, List.set_cons_zero]) | (refine Mix.lex_part rfl rfl rfl rfl (fun hq => ?_) (fun hq => ?_) <;> (fail_if_success (guard_hyp hq :ₛ true = true)) <;> (fail_if_success (guard_hyp hq :ₛ false = false)) <;> first | (exfalso; cases hq; done) | (exfalso; simp only [decide_eq_true_eq, decide_eq_false_iff_not, beq_iff_eq, beq_eq_false_iff_ne, ne_eq, Int.not_lt, Int.not_le] at hq; omega) | simp only [Act.put, List.setIfInBounds_toArray, List.set_cons_succ, List.set_cons_zero]))); all_goals (refine Mix.lex_nil ?_)))
        refine HAp.out.mono ?_
        rintro e UT ⟨lA, lc, rfl, hF⟩
        obtain ⟨last, hlast⟩ : ∃ x, x = applyL want y.2 := ⟨_, rfl⟩
        have HLl : Hid (last.length ≤ want.length + 14) := by rw [Hid, hlast]; have := applyL_len want y.2; omega
        have CR : Hid (CrS w UT dg 90 1000 wA lA want last rn dn) := by
          rcases HRes.out with ⟨h, _⟩ | ⟨_, hD, hg, hfp, hwt, hkl, hal⟩
          · exact absurd rfl h
          · refine ⟨(hD.ext HX.out).ext hF.ext, hg, fun b hb => hfp b (.inl hb), hwt, hkl, fun K => ?_, (R2.out.ext hF.ext).less fun b e => .inl e, ?_, X2.out.then_ext hF.ext, M2.out.ext hF.ext⟩
            · obtain ⟨h2, l2, r2, a1, a2, a3, a4⟩ := hal K
              exact ⟨h2, l2, r2, by rw [hlast]; exact a1, a2, by omega, by omega⟩
            · rw [hlast]
              exact RbF.fresh (F := rn.fp) hF fun b hb => by
                obtain ⟨cs, t, hc, _⟩ := fp_cs (hD.ext HX.out) hb
                exact hc.lt
        rw [← hlast]
        obtain ⟨rC, hrC⟩ : ∃ x, x = rn := ⟨_, rfl⟩
        subst hrC
        obtain ⟨dC, hdC⟩ : ∃ x, x = dn := ⟨_, rfl⟩
        subst hdC
        have HWL : Hid (want.length ≤ 100000 ∧ last.length ≤ 100000) := ⟨Nat.le_trans HWl0.out (by omega), by have := HWl0.out; have := HLl.out; rw [Hid] at *; omega⟩
        clear HRes HX X2 M2 R2 c2 hF HAp HYj HY HYs HYb hlast
        go_wp2_with (first | ((first | refine Mix.wpList_guarded rfl ?_ | refine Mix.wp_still (by kernel_rfl) (by kernel_rfl) ?_); (repeat' (first | (refine Mix.lex_quiet0 rfl rfl rfl ?_; intro K hK; go_big_quiet_op; go_big_quiet_on) | (refine Mix.lex_quietG rfl rfl rfl (by with_reducible rfl) rfl rfl ?_; intro K hK; go_big_quiet_op; go_big_quiet_on) | ((first | refine Mix.lex_skipT rfl rfl rfl (by with_reducible rfl) ?_ | refine Mix.lex_skipF rfl rfl rfl (by with_reducible rfl) ?_ | refine Mix.lex_skipU rfl rfl rfl (by with_reducible rfl) ?_); simp only [Act.put, List.setIfInBounds_toArray, List.set_cons_succ, List.set_cons_zero]) | (refine Mix.lex_part rfl rfl rfl rfl (fun hq => ?_) (fun hq => ?_) <;> (fail_if_success (guard_hyp hq :ₛ true = true)) <;> (fail_if_success (guard_hyp hq :ₛ false = false)) <;> first | (exfalso; cases hq; done) | (exfalso; simp only [decide_eq_true_eq, decide_eq_false_iff_not, beq_iff_eq, beq_eq_false_iff_ne, ne_eq, Int.not_lt, Int.not_le] at hq; omega) | simp only [Act.put, List.setIfInBounds_toArray, List.set_cons_succ, List.set_cons_zero]))); all_goals (refine Mix.lex_nil ?_)))
        go_meet
        exact ⟨wA, wc, lA, lc, want, last, rC, dC, rfl, rfl, CR.out, HWL.out⟩
      | true =>
        clear hq4 hwp
        have HSv := Lib.hid (V3.out.save HM.out M3.out X3.out.size (by omega))
        go_wp2_with (first | ((first | refine Mix.wpList_guarded rfl ?_ | refine Mix.wp_still (by kernel_rfl) (by kernel_rfl) ?_); (repeat' (first | (refine Mix.lex_quiet0 rfl rfl rfl ?_; intro K hK; go_big_quiet_op; go_big_quiet_on) | (refine Mix.lex_quietG rfl rfl rfl (by with_reducible rfl) rfl rfl ?_; intro K hK; go_big_quiet_op; go_big_quiet_on) | ((first | refine Mix.lex_skipT rfl rfl rfl (by with_reducible rfl) ?_ | refine Mix.lex_skipF rfl rfl rfl (by with_reducible rfl) ?_ | refine Mix.lex_skipU rfl rfl rfl (by with_reducible rfl) ?_); simp only [Act.put, List.setIfInBounds_toArray, List.set_cons_succ, List.set_cons_zero]) | (refine Mix.lex_part rfl rfl rfl rfl (fun hq => ?_) (fun hq => ?_) <;> (fail_if_success (guard_hyp hq :ₛ true = true)) <;> (fail_if_success (guard_hyp hq :ₛ false = false)) <;> first | (exfalso; cases hq; done) | (exfalso; simp only [decide_eq_true_eq, decide_eq_false_iff_not, beq_iff_eq, beq_eq_false_iff_ne, ne_eq, Int.not_lt, Int.not_le] at hq; omega) | simp only [Act.put, List.setIfInBounds_toArray, List.set_cons_succ, List.set_cons_zero]))); all_goals (refine Mix.lex_nil ?_)))
        refine HSv.out.mono ?_
        rintro e v1 ⟨f, rfl, hfor, Za, ra, ea, hoa, hfa, hres⟩
        have X4 : Hid (Ext w v1) := X3.out.trans hoa fun b hb e => by have := V3.out.lv.fp b e; omega
        have M4 : Hid (Ml v1) := ml_new HM.out M3.out hoa V3.out.lv.fp
        have R4 := Lib.hid (R3.out.step hoa hfa)
        have HRes := Lib.hid hres
        have HFor := Lib.hid hfor
        clear hoa hfa hres hfor HSv V3 R3 X3 M3
        go_wp2_with (first | ((first | refine Mix.wpList_guarded rfl ?_ | refine Mix.wp_still (by kernel_rfl) (by kernel_rfl) ?_); (repeat' (first | (refine Mix.lex_quiet0 rfl rfl rfl ?_; intro K hK; go_big_quiet_op; go_big_quiet_on) | (refine Mix.lex_quietG rfl rfl rfl (by with_reducible rfl) rfl rfl ?_; intro K hK; go_big_quiet_op; go_big_quiet_on) | ((first | refine Mix.lex_skipT rfl rfl rfl (by with_reducible rfl) ?_ | refine Mix.lex_skipF rfl rfl rfl (by with_reducible rfl) ?_ | refine Mix.lex_skipU rfl rfl rfl (by with_reducible rfl) ?_); simp only [Act.put, List.setIfInBounds_toArray, List.set_cons_succ, List.set_cons_zero]) | (refine Mix.lex_part rfl rfl rfl rfl (fun hq => ?_) (fun hq => ?_) <;> (fail_if_success (guard_hyp hq :ₛ true = true)) <;> (fail_if_success (guard_hyp hq :ₛ false = false)) <;> first | (exfalso; cases hq; done) | (exfalso; simp only [decide_eq_true_eq, decide_eq_false_iff_not, beq_iff_eq, beq_eq_false_iff_ne, ne_eq, Int.not_lt, Int.not_le] at hq; omega) | simp only [Act.put, List.setIfInBounds_toArray, List.set_cons_succ, List.set_cons_zero]))); all_goals (refine Mix.lex_nil ?_)))
        refine (numberT_c f v1).mono ?_
        rintro e U ⟨rfl, hx⟩
        have XC := Lib.hid (X4.out.then_ext hx)
        have MC := Lib.hid (M4.out.ext hx)
        have RC := Lib.hid (R4.out.ext hx)
        have HX := Lib.hid hx
        clear hx X4 M4 R4
        by_cases hf11 : f = 11
        case neg =>
          have hf0 : f = 0 := HFor.out.resolve_right hf11
          subst hf0
          have VC : Hid (FV w U dg sg (1 + 2 * j + 1) (1 + 40 * j + 20) want Za ra ea) := by
            rcases HRes.out with ⟨_, h⟩ | ⟨h, _⟩
            · exact h.ext HX.out
            · cases h
          clear HRes HFor HX hf11
          have HCm := Lib.hid (VC.out.commit (cap := y.1.2) HM.out MC.out XC.out.size (by omega) (fun v hv => HYs.out.ext (XC.out.trans hv fun b hb e => by have := VC.out.lv.fp b e; omega)) (by omega) HYb.out)
          have c0 : U.cell? ⟨b, o + j, none⟩ = some (.slice y.1.1 y.2.length y.1.2) := ded_at HS.out XC.out hlt HYj.out
          go_wp2_with (first | ((first | refine Mix.wpList_guarded rfl ?_ | refine Mix.wp_still (by kernel_rfl) (by kernel_rfl) ?_); (repeat' (first | (refine Mix.lex_quiet0 rfl rfl rfl ?_; intro K hK; go_big_quiet_op; go_big_quiet_on) | (refine Mix.lex_quietG rfl rfl rfl (by with_reducible rfl) rfl rfl ?_; intro K hK; go_big_quiet_op; go_big_quiet_on) | ((first | refine Mix.lex_skipT rfl rfl rfl (by with_reducible rfl) ?_ | refine Mix.lex_skipF rfl rfl rfl (by with_reducible rfl) ?_ | refine Mix.lex_skipU rfl rfl rfl (by with_reducible rfl) ?_); simp only [Act.put, List.setIfInBounds_toArray, List.set_cons_succ, List.set_cons_zero]) | (refine Mix.lex_part rfl rfl rfl rfl (fun hq => ?_) (fun hq => ?_) <;> (fail_if_success (guard_hyp hq :ₛ true = true)) <;> (fail_if_success (guard_hyp hq :ₛ false = false)) <;> first | (exfalso; cases hq; done) | (exfalso; simp only [decide_eq_true_eq, decide_eq_false_iff_not, beq_iff_eq, beq_eq_false_iff_ne, ne_eq, Int.not_lt, Int.not_le] at hq; omega) | simp only [Act.put, List.setIfInBounds_toArray, List.set_cons_succ, List.set_cons_zero]))); all_goals (refine Mix.lex_nil ?_)))
          refine HCm.out.mono ?_
          rintro e w1 ⟨f, rfl, hfp, Zn, rn, dn, hon, hfn, hres⟩
          have XN : Hid (Ext w w1) := XC.out.trans hon fun b hb e => by have := VC.out.lv.fp b e; omega
          have MN : Hid (Ml w1) := ml_new HM.out MC.out hon VC.out.lv.fp
          have RN := Lib.hid (RC.out.step hon hfn)
          have HRes := Lib.hid hres
          clear hon hfn hres HCm VC XC MC RC c0
          have c1 : w1.cell? ⟨b, o + j, none⟩ = some (.slice y.1.1 y.2.length y.1.2) := ded_at HS.out XN.out hlt HYj.out
          by_cases hf0 : f = 0
          case pos =>
            subst hf0
            have VN : Hid (FV w w1 dg sg (1 + 2 * (j + 1)) (1 + 40 * (j + 1)) (applyL want y.2) Zn rn dn) := by
              rcases HRes.out with ⟨_, h⟩ | ⟨h, _⟩
              · rw [if_pos rfl] at h
                exact h.weak (by omega) (by omega)
              · cases h
            have HAp := Lib.hid (RApplied_c (c := wc) (d := y.1.2) RN.out.here (HYs.out.ext XN.out) (Nat.le_trans HWl0.out (by omega)) (by omega))
            clear HRes
            rw [errV_zero]
            go_wp2_with (first | ((first | refine Mix.wpList_guarded rfl ?_ | refine Mix.wp_still (by kernel_rfl) (by kernel_rfl) ?_); (repeat' (first | (refine Mix.lex_quiet0 rfl rfl rfl ?_; intro K hK; go_big_quiet_op; go_big_quiet_on) | (refine Mix.lex_quietG rfl rfl rfl (by with_reducible rfl) rfl rfl ?_; intro K hK; go_big_quiet_op; go_big_quiet_on) | ((first | refine Mix.lex_skipT rfl rfl rfl (by with_reducible rfl) ?_ | refine Mix.lex_skipF rfl rfl rfl (by with_reducible rfl) ?_ | refine Mix.lex_skipU rfl rfl rfl (by with_reducible rfl) ?_); simp only [Act.put, List.setIfInBounds_toArray, List.set_cons_succ, List.set_cons_zero]) | (refine Mix.lex_part rfl rfl rfl rfl (fun hq => ?_) (fun hq => ?_) <;> (fail_if_success (guard_hyp hq :ₛ true = true)) <;> (fail_if_success (guard_hyp hq :ₛ false = false)) <;> first | (exfalso; cases hq; done) | (exfalso; simp only [decide_eq_true_eq, decide_eq_false_iff_not, beq_iff_eq, beq_eq_false_iff_ne, ne_eq, Int.not_lt, Int.not_le] at hq; omega) | simp only [Act.put, List.setIfInBounds_toArray, List.set_cons_succ, List.set_cons_zero]))); all_goals (refine Mix.lex_nil ?_)))
            refine HAp.out.mono ?_
            rintro e w2 ⟨A2, c2, rfl, hF⟩
            have R2 := Lib.hid (RbF.fresh hF (fp_lt VN.out.lv.st VN.out.lv.dk))
            have V2 := Lib.hid (VN.out.ext hF.ext)
            have X2 := Lib.hid (XN.out.then_ext hF.ext)
            have M2 := Lib.hid (MN.out.ext hF.ext)
            clear hF HAp VN XN MN RN c1
            go_wp2_with (first | ((first | refine Mix.wpList_guarded rfl ?_ | refine Mix.wp_still (by kernel_rfl) (by kernel_rfl) ?_); (repeat' (first | (refine Mix.lex_quiet0 rfl rfl rfl ?_; intro K hK; go_big_quiet_op; go_big_quiet_on) | (refine Mix.lex_quietG rfl rfl rfl (by with_reducible rfl) rfl rfl ?_; intro K hK; go_big_quiet_op; go_big_quiet_on) | ((first | refine Mix.lex_skipT rfl rfl rfl (by with_reducible rfl) ?_ | refine Mix.lex_skipF rfl rfl rfl (by with_reducible rfl) ?_ | refine Mix.lex_skipU rfl rfl rfl (by with_reducible rfl) ?_); simp only [Act.put, List.setIfInBounds_toArray, List.set_cons_succ, List.set_cons_zero]) | (refine Mix.lex_part rfl rfl rfl rfl (fun hq => ?_) (fun hq => ?_) <;> (fail_if_success (guard_hyp hq :ₛ true = true)) <;> (fail_if_success (guard_hyp hq :ₛ false = false)) <;> first | (exfalso; cases hq; done) | (exfalso; simp only [decide_eq_true_eq, decide_eq_false_iff_not, beq_iff_eq, beq_eq_false_iff_ne, ne_eq, Int.not_lt, Int.not_le] at hq; omega) | simp only [Act.put, List.setIfInBounds_toArray, List.set_cons_succ, List.set_cons_zero]))); all_goals (refine Mix.lex_nil ?_)))
            go_roundw
            case rel => exact ⟨j + 1, by omega, by go_num, A2, c2, applyL want y.2, Zn, rn, dn, rfl, rfl, V2.out, R2.out, X2.out, M2.out⟩
            case measure => simp [intOf]; omega
          rw [errV_pos hf0]
          have HNu : Hid (∀ v, Calls Try.prog 21 #[E f] v fun e w' => e = .returned (.int .i64 f) ∧ Ext v w') := fun v => by
            have := numberT_c f v
            rwa [errV_pos hf0] at this
          go_wp2_with (first | ((first | refine Mix.wpList_guarded rfl ?_ | refine Mix.wp_still (by kernel_rfl) (by kernel_rfl) ?_); (repeat' (first | (refine Mix.lex_quiet0 rfl rfl rfl ?_; intro K hK; go_big_quiet_op; go_big_quiet_on) | (refine Mix.lex_quietG rfl rfl rfl (by with_reducible rfl) rfl rfl ?_; intro K hK; go_big_quiet_op; go_big_quiet_on) | ((first | refine Mix.lex_skipT rfl rfl rfl (by with_reducible rfl) ?_ | refine Mix.lex_skipF rfl rfl rfl (by with_reducible rfl) ?_ | refine Mix.lex_skipU rfl rfl rfl (by with_reducible rfl) ?_); simp only [Act.put, List.setIfInBounds_toArray, List.set_cons_succ, List.set_cons_zero]) | (refine Mix.lex_part rfl rfl rfl rfl (fun hq => ?_) (fun hq => ?_) <;> (fail_if_success (guard_hyp hq :ₛ true = true)) <;> (fail_if_success (guard_hyp hq :ₛ false = false)) <;> first | (exfalso; cases hq; done) | (exfalso; simp only [decide_eq_true_eq, decide_eq_false_iff_not, beq_iff_eq, beq_eq_false_iff_ne, ne_eq, Int.not_lt, Int.not_le] at hq; omega) | simp only [Act.put, List.setIfInBounds_toArray, List.set_cons_succ, List.set_cons_zero]))); all_goals (refine Mix.lex_nil ?_)))
          refine (HNu.out _).mono ?_
          rintro e w2 ⟨rfl, hx⟩
          have HX := Lib.hid hx
          have X2 := Lib.hid (XN.out.then_ext hx)
          have M2 := Lib.hid (MN.out.ext hx)
          have R2 := Lib.hid (RN.out.ext hx)
          have c2 : w2.cell? ⟨b, o + j, none⟩ = some (.slice y.1.1 y.2.length y.1.2) := ded_at HS.out X2.out hlt HYj.out
          clear hx HNu XN MN RN c1
          by_cases hf11 : f = 11
          case neg =>
            have g11 : ((f == 11) : Bool) = false := by rw [beq_eq_false_iff_ne]; exact hf11
            have V2 : Hid (FV w w2 dg sg (1 + 2 * (j + 1)) (1 + 40 * (j + 1)) want Zn rn dn) := by
              rcases HRes.out with ⟨_, h⟩ | ⟨h, _⟩
              · rw [if_neg hf0] at h
                exact (h.weak (by omega) (by omega)).ext HX.out
              · exact absurd h hf11
            clear HRes HX
            go_wp2_with (first | ((first | refine Mix.wpList_guarded rfl ?_ | refine Mix.wp_still (by kernel_rfl) (by kernel_rfl) ?_); (repeat' (first | (refine Mix.lex_quiet0 rfl rfl rfl ?_; intro K hK; go_big_quiet_op; go_big_quiet_on) | (refine Mix.lex_quietG rfl rfl rfl (by with_reducible rfl) rfl rfl ?_; intro K hK; go_big_quiet_op; go_big_quiet_on) | ((first | refine Mix.lex_skipT rfl rfl rfl (by with_reducible rfl) ?_ | refine Mix.lex_skipF rfl rfl rfl (by with_reducible rfl) ?_ | refine Mix.lex_skipU rfl rfl rfl (by with_reducible rfl) ?_); simp only [Act.put, List.setIfInBounds_toArray, List.set_cons_succ, List.set_cons_zero]) | (refine Mix.lex_part rfl rfl rfl rfl (fun hq => ?_) (fun hq => ?_) <;> (fail_if_success (guard_hyp hq :ₛ true = true)) <;> (fail_if_success (guard_hyp hq :ₛ false = false)) <;> first | (exfalso; cases hq; done) | (exfalso; simp only [decide_eq_true_eq, decide_eq_false_iff_not, beq_iff_eq, beq_eq_false_iff_ne, ne_eq, Int.not_lt, Int.not_le] at hq; omega) | simp only [Act.put, List.setIfInBounds_toArray, List.set_cons_succ, List.set_cons_zero]))); all_goals (refine Mix.lex_nil ?_)))
            go_roundw
            case rel => exact ⟨j + 1, by omega, by go_num, wA, wc, want, Zn, rn, dn, rfl, rfl, V2.out, R2.out, X2.out, M2.out⟩
            case measure => simp [intOf]; omega
          subst hf11
          have HAp := Lib.hid (RApplied_c (c := wc) (d := y.1.2) R2.out.here (HYs.out.ext X2.out) (Nat.le_trans HWl0.out (by omega)) (by omega))
          go_upto_region 21 with fail
          go_wp2_with (first | ((first | refine Mix.wpList_guarded rfl ?_ | refine Mix.wp_still (by kernel_rfl) (by kernel_rfl) ?_); (repeat' (first | (refine Mix.lex_quiet0 rfl rfl rfl ?_; intro K hK; go_big_quiet_op; go_big_quiet_on) | (refine Mix.lex_quietG rfl rfl rfl (by with_reducible rfl) rfl rfl ?_; intro K hK; go_big_quiet_op; go_big_quiet_on) | ((first | refine Mix.lex_skipT rfl rfl rfl (by with_reducible rfl) ?_ | refine Mix.lex_skipF rfl rfl rfl (by with_reducible rfl) ?_ | refine Mix.lex_skipU rfl rfl rfl (by with_reducible rfl) ?_); simp only [Act.put, List.setIfInBounds_toArray, List.set_cons_succ, List.set_cons_zero]) | (refine Mix.lex_part rfl rfl rfl rfl (fun hq => ?_) (fun hq => ?_) <;> (fail_if_success (guard_hyp hq :ₛ true = true)) <;> (fail_if_success (guard_hyp hq :ₛ false = false)) <;> first | (exfalso; cases hq; done) | (exfalso; simp only [decide_eq_true_eq, decide_eq_false_iff_not, beq_iff_eq, beq_eq_false_iff_ne, ne_eq, Int.not_lt, Int.not_le] at hq; omega) | simp only [Act.put, List.setIfInBounds_toArray, List.set_cons_succ, List.set_cons_zero]))); all_goals (refine Mix.lex_nil ?_)))
          refine HAp.out.mono ?_
          rintro e UT ⟨lA, lc, rfl, hF⟩
          obtain ⟨last, hlast⟩ : ∃ x, x = applyL want y.2 := ⟨_, rfl⟩
          have HLl : Hid (last.length ≤ want.length + 14) := by rw [Hid, hlast]; have := applyL_len want y.2; omega
          have CR : Hid (CrS w UT dg 90 1000 wA lA want last rn dn) := by
            rcases HRes.out with ⟨h, _⟩ | ⟨_, hD, hg, hfp, hwt, hkl, hal⟩
            · exact absurd rfl h
            · refine ⟨(hD.ext HX.out).ext hF.ext, hg, fun b hb => hfp b (.inl hb), hwt, hkl, fun K => ?_, (R2.out.ext hF.ext).less fun b e => .inl e, ?_, X2.out.then_ext hF.ext, M2.out.ext hF.ext⟩
              · obtain ⟨h2, l2, r2, a1, a2, a3, a4⟩ := hal K
                exact ⟨h2, l2, r2, by rw [hlast]; exact a1, a2, by omega, by omega⟩
              · rw [hlast]
                exact RbF.fresh (F := rn.fp) hF fun b hb => by
                  obtain ⟨cs, t, hc, _⟩ := fp_cs (hD.ext HX.out) hb
                  exact hc.lt
          rw [← hlast]
          obtain ⟨rC, hrC⟩ : ∃ x, x = rn := ⟨_, rfl⟩
          subst hrC
          obtain ⟨dC, hdC⟩ : ∃ x, x = dn := ⟨_, rfl⟩
          subst hdC
          have HWL : Hid (want.length ≤ 100000 ∧ last.length ≤ 100000) := ⟨Nat.le_trans HWl0.out (by omega), by have := HWl0.out; have := HLl.out; rw [Hid] at *; omega⟩
          clear HRes HX X2 M2 R2 c2 hF HAp HYj HY HYs HYb hlast
          go_wp2_with (first | ((first | refine Mix.wpList_guarded rfl ?_ | refine Mix.wp_still (by kernel_rfl) (by kernel_rfl) ?_); (repeat' (first | (refine Mix.lex_quiet0 rfl rfl rfl ?_; intro K hK; go_big_quiet_op; go_big_quiet_on) | (refine Mix.lex_quietG rfl rfl rfl (by with_reducible rfl) rfl rfl ?_; intro K hK; go_big_quiet_op; go_big_quiet_on) | ((first | refine Mix.lex_skipT rfl rfl rfl (by with_reducible rfl) ?_ | refine Mix.lex_skipF rfl rfl rfl (by with_reducible rfl) ?_ | refine Mix.lex_skipU rfl rfl rfl (by with_reducible rfl) ?_); simp only [Act.put, List.setIfInBounds_toArray, List.set_cons_succ, List.set_cons_zero]) | (refine Mix.lex_part rfl rfl rfl rfl (fun hq => ?_) (fun hq => ?_) <;> (fail_if_success (guard_hyp hq :ₛ true = true)) <;> (fail_if_success (guard_hyp hq :ₛ false = false)) <;> first | (exfalso; cases hq; done) | (exfalso; simp only [decide_eq_true_eq, decide_eq_false_iff_not, beq_iff_eq, beq_eq_false_iff_ne, ne_eq, Int.not_lt, Int.not_le] at hq; omega) | simp only [Act.put, List.setIfInBounds_toArray, List.set_cons_succ, List.set_cons_zero]))); all_goals (refine Mix.lex_nil ?_)))
          go_meet
          exact ⟨wA, wc, lA, lc, want, last, rC, dC, rfl, rfl, CR.out, HWL.out⟩
        subst hf11
        have CR : Hid (CrS w U dg 90 1000 wA wA want want ra ea) := by
          rcases HRes.out with ⟨h, _⟩ | ⟨_, hD, hg, hfp, hwt, hkl, hal⟩
          · exact absurd rfl h
          · exact ⟨hD.ext HX.out, hg, fun b hb => hfp b (.inl hb), hwt, hkl, fun K => by
              obtain ⟨h2, l2, r2, a1, a2, a3, a4⟩ := hal K
              exact ⟨h2, l2, r2, a1, a2, by omega, by omega⟩, RC.out.less fun b e => .inl e, RC.out.less fun b e => .inl e, XC.out, MC.out⟩
        obtain ⟨rC, hrC⟩ : ∃ x, x = ra := ⟨_, rfl⟩
        subst hrC
        obtain ⟨dC, hdC⟩ : ∃ x, x = ea := ⟨_, rfl⟩
        subst hdC
        obtain ⟨last, hlast⟩ : ∃ x, x = want := ⟨_, rfl⟩
        obtain ⟨lA, hlA⟩ : ∃ x, x = wA := ⟨_, rfl⟩
        obtain ⟨lc, hlc⟩ : ∃ x, x = wc := ⟨_, rfl⟩
        subst hlast hlA hlc
        have HWL : Hid (last.length ≤ 100000 ∧ last.length ≤ 100000) := ⟨Nat.le_trans HWl0.out (by omega), Nat.le_trans HWl0.out (by omega)⟩
        clear HRes HFor HX XC MC RC HYj HY HYs HYb
        go_wp2_with (first | ((first | refine Mix.wpList_guarded rfl ?_ | refine Mix.wp_still (by kernel_rfl) (by kernel_rfl) ?_); (repeat' (first | (refine Mix.lex_quiet0 rfl rfl rfl ?_; intro K hK; go_big_quiet_op; go_big_quiet_on) | (refine Mix.lex_quietG rfl rfl rfl (by with_reducible rfl) rfl rfl ?_; intro K hK; go_big_quiet_op; go_big_quiet_on) | ((first | refine Mix.lex_skipT rfl rfl rfl (by with_reducible rfl) ?_ | refine Mix.lex_skipF rfl rfl rfl (by with_reducible rfl) ?_ | refine Mix.lex_skipU rfl rfl rfl (by with_reducible rfl) ?_); simp only [Act.put, List.setIfInBounds_toArray, List.set_cons_succ, List.set_cons_zero]) | (refine Mix.lex_part rfl rfl rfl rfl (fun hq => ?_) (fun hq => ?_) <;> (fail_if_success (guard_hyp hq :ₛ true = true)) <;> (fail_if_success (guard_hyp hq :ₛ false = false)) <;> first | (exfalso; cases hq; done) | (exfalso; simp only [decide_eq_true_eq, decide_eq_false_iff_not, beq_iff_eq, beq_eq_false_iff_ne, ne_eq, Int.not_lt, Int.not_le] at hq; omega) | simp only [Act.put, List.setIfInBounds_toArray, List.set_cons_succ, List.set_cons_zero]))); all_goals (refine Mix.lex_nil ?_)))
        go_meet
        exact ⟨lA, lc, lA, lc, last, last, rC, dC, rfl, rfl, CR.out, HWL.out⟩
  case rest =>
    obtain ⟨wA, wc, lA, lc, want, last, rC, dC, rfl, rfl, hCR, hwl⟩ := hcut
    have CR := Lib.hid hCR
    have HWL : Hid (want.length ≤ 100000 ∧ last.length ≤ 100000) := hwl
    clear hCR hwl V5 X5 M5
    have FPu : Hid (∀ b, rC.fp b → w.heap.size ≤ b) := CR.out.fp
    have HRs := Lib.hid (Restart_c CR.out.dk K hK (Nat.le_trans CR.out.wt (by omega)))
    rw [CR.out.dg] at HRs
    go_wp2_with (first | ((first | refine Mix.wpList_guarded rfl ?_ | refine Mix.wp_still (by kernel_rfl) (by kernel_rfl) ?_); (repeat' (first | (refine Mix.lex_quiet0 rfl rfl rfl ?_; intro K hK; go_big_quiet_op; go_big_quiet_on) | (refine Mix.lex_quietG rfl rfl rfl (by with_reducible rfl) rfl rfl ?_; intro K hK; go_big_quiet_op; go_big_quiet_on) | ((first | refine Mix.lex_skipT rfl rfl rfl (by with_reducible rfl) ?_ | refine Mix.lex_skipF rfl rfl rfl (by with_reducible rfl) ?_ | refine Mix.lex_skipU rfl rfl rfl (by with_reducible rfl) ?_); simp only [Act.put, List.setIfInBounds_toArray, List.set_cons_succ, List.set_cons_zero]) | (refine Mix.lex_part rfl rfl rfl rfl (fun hq => ?_) (fun hq => ?_) <;> (fail_if_success (guard_hyp hq :ₛ true = true)) <;> (fail_if_success (guard_hyp hq :ₛ false = false)) <;> first | (exfalso; cases hq; done) | (exfalso; simp only [decide_eq_true_eq, decide_eq_false_iff_not, beq_iff_eq, beq_eq_false_iff_ne, ne_eq, Int.not_lt, Int.not_le] at hq; omega) | simp only [Act.put, List.setIfInBounds_toArray, List.set_cons_succ, List.set_cons_zero]))); all_goals (refine Mix.lex_nil ?_)))
    refine HRs.out.mono ?_
    rintro e t1 ⟨rfl, r7, hD7, hg7, ho7, hf7⟩
    obtain ⟨h2, l2, r2, hor, hok, hE2, hF2⟩ := CR.out.al K
    have X7 : Hid (Ext w t1) := CR.out.x.trans ho7 fun b hb e => by have := FPu.out b e; omega
    have M7 : Hid (Ml t1) := ml_new HM.out CR.out.ml ho7 FPu.out
    have G7 : Hid (r7.g = dg) := hg7.trans CR.out.dg
    have P7 : Hid (∀ b, r7.fp b → w.heap.size ≤ b) := fun b hb => by
      rcases hf7 b hb with e | e
      · exact FPu.out b e
      · have := CR.out.x.size; omega
    have SW7 : Hid (SlR chF t1 wA want.length want) := CR.out.sw t1 ho7
    have SL7 : Hid (SlR chF t1 lA last.length last) := CR.out.sl t1 ho7
    have HO := Lib.hid (Open_live (d := dC.restarted K) M7.out hD7 hok rfl)
    rw [G7.out] at HO
    have D7 := Lib.hid hD7
    have HOK := Lib.hid hok
    have HOr := Lib.hid hor
    have HKl : Hid ((dC.restarted K).now.length = 64) := (length_keepFrom _ _ _ _).trans CR.out.len
    clear hD7 hg7 ho7 hf7 hok hor CR HRs FPu
    go_wp2_with (first | ((first | refine Mix.wpList_guarded rfl ?_ | refine Mix.wp_still (by kernel_rfl) (by kernel_rfl) ?_); (repeat' (first | (refine Mix.lex_quiet0 rfl rfl rfl ?_; intro K hK; go_big_quiet_op; go_big_quiet_on) | (refine Mix.lex_quietG rfl rfl rfl (by with_reducible rfl) rfl rfl ?_; intro K hK; go_big_quiet_op; go_big_quiet_on) | ((first | refine Mix.lex_skipT rfl rfl rfl (by with_reducible rfl) ?_ | refine Mix.lex_skipF rfl rfl rfl (by with_reducible rfl) ?_ | refine Mix.lex_skipU rfl rfl rfl (by with_reducible rfl) ?_); simp only [Act.put, List.setIfInBounds_toArray, List.set_cons_succ, List.set_cons_zero]) | (refine Mix.lex_part rfl rfl rfl rfl (fun hq => ?_) (fun hq => ?_) <;> (fail_if_success (guard_hyp hq :ₛ true = true)) <;> (fail_if_success (guard_hyp hq :ₛ false = false)) <;> first | (exfalso; cases hq; done) | (exfalso; simp only [decide_eq_true_eq, decide_eq_false_iff_not, beq_iff_eq, beq_eq_false_iff_ne, ne_eq, Int.not_lt, Int.not_le] at hq; omega) | simp only [Act.put, List.setIfInBounds_toArray, List.set_cons_succ, List.set_cons_zero]))); all_goals (refine Mix.lex_nil ?_)))
    refine HO.out.mono ?_
    rintro e t2 ⟨Z8, rfl, hst, e1, e2, e3, hx, k1, k2⟩
    have S8 : Hid (SV w t2 dg Z8.g 64 20 l2.next 100 2000 r2 Z8 r7 (dC.restarted K)) := by
      have hlg := HOK.out.lg
      have hkl := HKl.out
      have hlen : (keepFrom K dC.kept dC.wait 0).length = 64 := hkl
      obtain ⟨z1, z2, z3, z4⟩ := z_eq e2
      exact ⟨Live.of_open X7.out.size (D7.out.ext hx) P7.out HOK.out ⟨rfl, by show (-1 : Int) ≤ -1; decide, HOK.out.wide⟩ rfl rfl (by rw [G7.out]; exact hst) e1 e2 e3 k1 k2, G7.out, rfl, rfl, e3, z4, by rw [z2]; have := hlg.2.1; omega, by rw [e1]; omega, by rw [z3]; omega, hkl⟩
    have HMr : Hid (manyB r2 = false) := HOK.out.good.2
    have HLr : Hid (r2.length ≤ 1000) := by have h1 := S8.out.lv.on.small; have h2 := S8.out.rw; rw [Hid, ← h2]; omega
    have X8 := Lib.hid (X7.out.then_ext hx)
    have M8 := Lib.hid (M7.out.ext hx)
    have SW8 := Lib.hid (SW7.out.ext hx)
    have SL8 := Lib.hid (SL7.out.ext hx)
    clear hst e1 e2 e3 hx k1 k2 HO D7 HOK P7 X7 M7 SW7 SL7 HKl
    have HRo := Lib.hid S8.out.rows_c
    go_wp2_with (first | ((first | refine Mix.wpList_guarded rfl ?_ | refine Mix.wp_still (by kernel_rfl) (by kernel_rfl) ?_); (repeat' (first | (refine Mix.lex_quiet0 rfl rfl rfl ?_; intro K hK; go_big_quiet_op; go_big_quiet_on) | (refine Mix.lex_quietG rfl rfl rfl (by with_reducible rfl) rfl rfl ?_; intro K hK; go_big_quiet_op; go_big_quiet_on) | ((first | refine Mix.lex_skipT rfl rfl rfl (by with_reducible rfl) ?_ | refine Mix.lex_skipF rfl rfl rfl (by with_reducible rfl) ?_ | refine Mix.lex_skipU rfl rfl rfl (by with_reducible rfl) ?_); simp only [Act.put, List.setIfInBounds_toArray, List.set_cons_succ, List.set_cons_zero]) | (refine Mix.lex_part rfl rfl rfl rfl (fun hq => ?_) (fun hq => ?_) <;> (fail_if_success (guard_hyp hq :ₛ true = true)) <;> (fail_if_success (guard_hyp hq :ₛ false = false)) <;> first | (exfalso; cases hq; done) | (exfalso; simp only [decide_eq_true_eq, decide_eq_false_iff_not, beq_iff_eq, beq_eq_false_iff_ne, ne_eq, Int.not_lt, Int.not_le] at hq; omega) | simp only [Act.put, List.setIfInBounds_toArray, List.set_cons_succ, List.set_cons_zero]))); all_goals (refine Mix.lex_nil ?_)))
    refine HRo.out.mono ?_
    rintro e t3 ⟨A9, c9, rfl, hF⟩
    have HG9 : Hid (RbF (Z8.fp r7) t3 A9 r2) := RbF.fresh hF (fp_lt S8.out.lv.st S8.out.lv.dk)
    have S9 := Lib.hid (S8.out.ext hF.ext)
    have X9 := Lib.hid (X8.out.then_ext hF.ext)
    have M9 := Lib.hid (M8.out.ext hF.ext)
    have SW9 := Lib.hid (SW8.out.ext hF.ext)
    have SL9 := Lib.hid (SL8.out.ext hF.ext)
    clear hF HRo S8 X8 M8 SW8 SL8
    have HWl : Hid (want.length ≤ 100000 ∧ last.length ≤ 100000) := HWL.out
    have HSa := Lib.hid (SameChanges_c (c := c9) (d := wc) HG9.out.here SW9.out (Nat.le_trans HLr.out (by omega)) HWl.out.1)
    have HSb := Lib.hid (fun (v : World) (hv : Ext t3 v) => SameChanges_c (c := c9) (d := lc) (HG9.out.here.ext hv) (SL9.out.ext hv) (Nat.le_trans HLr.out (by omega)) HWl.out.2)
    go_upto_region 27 with fail
    obtain ⟨qa, hqa⟩ : ∃ q, q = decide (r2 = want) := ⟨_, rfl⟩
    rw [← hqa] at HSa
    have HQa := Lib.hid hqa
    clear hqa
    refine Mix.wp_plain [2, 7] (Cl t3 No) (Cl.of (Only.refl _ _)) ?_
    (repeat' (first | (refine Mix.lex_quiet0 rfl rfl rfl ?_; intro K hK; go_big_quiet_op; go_big_quiet_on) | (refine Mix.lex_quietG rfl rfl rfl (by with_reducible rfl) rfl rfl ?_; intro K hK; go_big_quiet_op; go_big_quiet_on) | ((first | refine Mix.lex_skipT rfl rfl rfl (by with_reducible rfl) ?_ | refine Mix.lex_skipF rfl rfl rfl (by with_reducible rfl) ?_ | refine Mix.lex_skipU rfl rfl rfl (by with_reducible rfl) ?_); simp only [Act.put, List.setIfInBounds_toArray, List.set_cons_succ, List.set_cons_zero]) | (refine Mix.lex_part rfl rfl rfl rfl (fun hq => ?_) (fun hq => ?_) <;> (fail_if_success (guard_hyp hq :ₛ true = true)) <;> (fail_if_success (guard_hyp hq :ₛ false = false)) <;> first | (exfalso; cases hq; done) | (exfalso; simp only [decide_eq_true_eq, decide_eq_false_iff_not, beq_iff_eq, beq_eq_false_iff_ne, ne_eq, Int.not_lt, Int.not_le] at hq; omega) | simp only [Act.put, List.setIfInBounds_toArray, List.set_cons_succ, List.set_cons_zero])))
    ((first | refine Mix.lex_goes0 rfl rfl ?_ | refine Mix.lex_goesG rfl rfl rfl (by with_reducible rfl) rfl ?_); intro K hK; go_simp)
    refine HSa.out.mono ?_
    rintro e t4 ⟨rfl, hu4⟩
    refine ⟨_, rfl, hK _ _ (fun _ => Cl.of hu4) ?_⟩
    clear hK K
    simp only [Act.put, List.setIfInBounds_toArray, List.set_cons_succ, List.set_cons_zero]
    cases qa
    case' false =>
      have HRl : Hid (r2 = last) := by
        have hqa := HQa.out
        rcases HOr.out with e | e
        · rw [decide_eq_true e] at hqa; cases hqa
        · exact e
      have HSb2 : Hid (∀ v, Ext t3 v → Calls Try.prog 16 #[.slice A9 r2.length c9, .slice lA last.length lc] v fun e w' => e = .returned (.bool true) ∧ Ext v w') := fun v hv => by
        have := HSb.out v hv
        rwa [decide_eq_true HRl.out] at this
      (repeat' (first | (refine Mix.lex_quiet0 rfl rfl rfl ?_; intro K hK; go_big_quiet_op; go_big_quiet_on) | (refine Mix.lex_quietG rfl rfl rfl (by with_reducible rfl) rfl rfl ?_; intro K hK; go_big_quiet_op; go_big_quiet_on) | ((first | refine Mix.lex_skipT rfl rfl rfl (by with_reducible rfl) ?_ | refine Mix.lex_skipF rfl rfl rfl (by with_reducible rfl) ?_ | refine Mix.lex_skipU rfl rfl rfl (by with_reducible rfl) ?_); simp only [Act.put, List.setIfInBounds_toArray, List.set_cons_succ, List.set_cons_zero]) | (refine Mix.lex_part rfl rfl rfl rfl (fun hq => ?_) (fun hq => ?_) <;> (fail_if_success (guard_hyp hq :ₛ true = true)) <;> (fail_if_success (guard_hyp hq :ₛ false = false)) <;> first | (exfalso; cases hq; done) | (exfalso; simp only [decide_eq_true_eq, decide_eq_false_iff_not, beq_iff_eq, beq_eq_false_iff_ne, ne_eq, Int.not_lt, Int.not_le] at hq; omega) | simp only [Act.put, List.setIfInBounds_toArray, List.set_cons_succ, List.set_cons_zero])))
      ((first | refine Mix.lex_goes0 rfl rfl ?_ | refine Mix.lex_goesG rfl rfl rfl (by with_reducible rfl) rfl ?_); intro K hK; go_simp)
      refine (HSb2.out _ hu4).mono ?_
      rintro e t5 ⟨rfl, hu5⟩
      refine ⟨_, rfl, hK _ _ (fun _ => Cl.of (hu4.then_ext hu5)) ?_⟩
      clear hK K
      simp only [Act.put, List.setIfInBounds_toArray, List.set_cons_succ, List.set_cons_zero]
      (repeat' (first | (refine Mix.lex_quiet0 rfl rfl rfl ?_; intro K hK; go_big_quiet_op; go_big_quiet_on) | (refine Mix.lex_quietG rfl rfl rfl (by with_reducible rfl) rfl rfl ?_; intro K hK; go_big_quiet_op; go_big_quiet_on) | ((first | refine Mix.lex_skipT rfl rfl rfl (by with_reducible rfl) ?_ | refine Mix.lex_skipF rfl rfl rfl (by with_reducible rfl) ?_ | refine Mix.lex_skipU rfl rfl rfl (by with_reducible rfl) ?_); simp only [Act.put, List.setIfInBounds_toArray, List.set_cons_succ, List.set_cons_zero]) | (refine Mix.lex_part rfl rfl rfl rfl (fun hq => ?_) (fun hq => ?_) <;> (fail_if_success (guard_hyp hq :ₛ true = true)) <;> (fail_if_success (guard_hyp hq :ₛ false = false)) <;> first | (exfalso; cases hq; done) | (exfalso; simp only [decide_eq_true_eq, decide_eq_false_iff_not, beq_iff_eq, beq_eq_false_iff_ne, ne_eq, Int.not_lt, Int.not_le] at hq; omega) | simp only [Act.put, List.setIfInBounds_toArray, List.set_cons_succ, List.set_cons_zero])))
      refine Mix.lex_nil ?_
      have y5 : Hid (Ext t3 t5) := hu4.then_ext hu5
      clear hu4 hu5 HSb2 HRl
    case' true =>
      (repeat' (first | (refine Mix.lex_quiet0 rfl rfl rfl ?_; intro K hK; go_big_quiet_op; go_big_quiet_on) | (refine Mix.lex_quietG rfl rfl rfl (by with_reducible rfl) rfl rfl ?_; intro K hK; go_big_quiet_op; go_big_quiet_on) | ((first | refine Mix.lex_skipT rfl rfl rfl (by with_reducible rfl) ?_ | refine Mix.lex_skipF rfl rfl rfl (by with_reducible rfl) ?_ | refine Mix.lex_skipU rfl rfl rfl (by with_reducible rfl) ?_); simp only [Act.put, List.setIfInBounds_toArray, List.set_cons_succ, List.set_cons_zero]) | (refine Mix.lex_part rfl rfl rfl rfl (fun hq => ?_) (fun hq => ?_) <;> (fail_if_success (guard_hyp hq :ₛ true = true)) <;> (fail_if_success (guard_hyp hq :ₛ false = false)) <;> first | (exfalso; cases hq; done) | (exfalso; simp only [decide_eq_true_eq, decide_eq_false_iff_not, beq_iff_eq, beq_eq_false_iff_ne, ne_eq, Int.not_lt, Int.not_le] at hq; omega) | simp only [Act.put, List.setIfInBounds_toArray, List.set_cons_succ, List.set_cons_zero])))
      refine Mix.lex_nil ?_
      obtain ⟨t5, ht5⟩ : ∃ x, x = t4 := ⟨_, rfl⟩
      subst ht5
      have y5 : Hid (Ext t3 t5) := hu4
      clear hu4
    all_goals
      have S10 := Lib.hid (S9.out.ext y5.out)
      have X10 := Lib.hid (X9.out.then_ext y5.out)
      have M10 := Lib.hid (M9.out.ext y5.out)
      have G10 := Lib.hid (HG9.out.ext y5.out)
      have HCm := Lib.hid (S10.out.commit (A := none) (n := 0) (cap := 0) (c := []) HM.out M10.out X10.out.size (by omega) (fun v _ => ⟨rfl, fun h => absurd h (by decide)⟩) (by omega) (fun x hx => (by cases hx)))
      rw [(rcF_nil (u := l2.next) (m := 20) HMr.out (by omega)).1, (rcF_nil (u := l2.next) (m := 20) HMr.out (by omega)).2, errV_zero] at HCm
      clear HSa HSb S9 X9 M9 HG9 y5 SW9 SL9
      go_upto_region 29 with fail
      refine Mix.wp_plain [1, 5] (fun _ => True) trivial ?_
      (repeat' (first | (refine Mix.lex_quiet0 rfl rfl rfl ?_; intro K hK; go_big_quiet_op; go_big_quiet_on) | (refine Mix.lex_quietG rfl rfl rfl (by with_reducible rfl) rfl rfl ?_; intro K hK; go_big_quiet_op; go_big_quiet_on) | ((first | refine Mix.lex_skipT rfl rfl rfl (by with_reducible rfl) ?_ | refine Mix.lex_skipF rfl rfl rfl (by with_reducible rfl) ?_ | refine Mix.lex_skipU rfl rfl rfl (by with_reducible rfl) ?_); simp only [Act.put, List.setIfInBounds_toArray, List.set_cons_succ, List.set_cons_zero]) | (refine Mix.lex_part rfl rfl rfl rfl (fun hq => ?_) (fun hq => ?_) <;> (fail_if_success (guard_hyp hq :ₛ true = true)) <;> (fail_if_success (guard_hyp hq :ₛ false = false)) <;> first | (exfalso; cases hq; done) | (exfalso; simp only [decide_eq_true_eq, decide_eq_false_iff_not, beq_iff_eq, beq_eq_false_iff_ne, ne_eq, Int.not_lt, Int.not_le] at hq; omega) | simp only [Act.put, List.setIfInBounds_toArray, List.set_cons_succ, List.set_cons_zero])))
      ((first | refine Mix.lex_goes0 rfl rfl ?_ | refine Mix.lex_goesG rfl rfl rfl (by with_reducible rfl) rfl ?_); intro K hK; go_simp)
      refine HCm.out.mono ?_
      rintro e t6 ⟨rfl, -, Zd, rd, dd, hSd, hod, hfd⟩
      refine ⟨_, rfl, hK _ _ (fun _ => trivial) ?_⟩
      clear hK K
      simp only [Act.put, List.setIfInBounds_toArray, List.set_cons_succ, List.set_cons_zero]
      have S11 := Lib.hid hSd
      have X11 : Hid (Ext w t6) := X10.out.trans hod fun b hb e => by have := S10.out.lv.fp b e; omega
      have M11 : Hid (Ml t6) := ml_new HM.out M10.out hod S10.out.lv.fp
      have G11 := Lib.hid (G10.out.step hod hfd)
      clear hSd hod hfd HCm S10 X10 M10 G10
      have HSv := Lib.hid (S11.out.save HM.out M11.out X11.out.size (by omega))
      (repeat' (first | (refine Mix.lex_quiet0 rfl rfl rfl ?_; intro K hK; go_big_quiet_op; go_big_quiet_on) | (refine Mix.lex_quietG rfl rfl rfl (by with_reducible rfl) rfl rfl ?_; intro K hK; go_big_quiet_op; go_big_quiet_on) | ((first | refine Mix.lex_skipT rfl rfl rfl (by with_reducible rfl) ?_ | refine Mix.lex_skipF rfl rfl rfl (by with_reducible rfl) ?_ | refine Mix.lex_skipU rfl rfl rfl (by with_reducible rfl) ?_); simp only [Act.put, List.setIfInBounds_toArray, List.set_cons_succ, List.set_cons_zero]) | (refine Mix.lex_part rfl rfl rfl rfl (fun hq => ?_) (fun hq => ?_) <;> (fail_if_success (guard_hyp hq :ₛ true = true)) <;> (fail_if_success (guard_hyp hq :ₛ false = false)) <;> first | (exfalso; cases hq; done) | (exfalso; simp only [decide_eq_true_eq, decide_eq_false_iff_not, beq_iff_eq, beq_eq_false_iff_ne, ne_eq, Int.not_lt, Int.not_le] at hq; omega) | simp only [Act.put, List.setIfInBounds_toArray, List.set_cons_succ, List.set_cons_zero])))
      ((first | refine Mix.lex_goes0 rfl rfl ?_ | refine Mix.lex_goesG rfl rfl rfl (by with_reducible rfl) rfl ?_); intro K hK; go_simp)
      refine HSv.out.mono ?_
      rintro e t7 ⟨rfl, Ze, re, de, hSd, hod, hfd⟩
      refine ⟨_, rfl, hK _ _ (fun _ => trivial) ?_⟩
      clear hK K
      simp only [Act.put, List.setIfInBounds_toArray, List.set_cons_succ, List.set_cons_zero]
      (repeat' (first | (refine Mix.lex_quiet0 rfl rfl rfl ?_; intro K hK; go_big_quiet_op; go_big_quiet_on) | (refine Mix.lex_quietG rfl rfl rfl (by with_reducible rfl) rfl rfl ?_; intro K hK; go_big_quiet_op; go_big_quiet_on) | ((first | refine Mix.lex_skipT rfl rfl rfl (by with_reducible rfl) ?_ | refine Mix.lex_skipF rfl rfl rfl (by with_reducible rfl) ?_ | refine Mix.lex_skipU rfl rfl rfl (by with_reducible rfl) ?_); simp only [Act.put, List.setIfInBounds_toArray, List.set_cons_succ, List.set_cons_zero]) | (refine Mix.lex_part rfl rfl rfl rfl (fun hq => ?_) (fun hq => ?_) <;> (fail_if_success (guard_hyp hq :ₛ true = true)) <;> (fail_if_success (guard_hyp hq :ₛ false = false)) <;> first | (exfalso; cases hq; done) | (exfalso; simp only [decide_eq_true_eq, decide_eq_false_iff_not, beq_iff_eq, beq_eq_false_iff_ne, ne_eq, Int.not_lt, Int.not_le] at hq; omega) | simp only [Act.put, List.setIfInBounds_toArray, List.set_cons_succ, List.set_cons_zero])))
      refine Mix.lex_nil ?_
      have S12 := Lib.hid hSd
      have X12 : Hid (Ext w t7) := X11.out.trans hod fun b hb e => by have := S11.out.lv.fp b e; omega
      have M12 : Hid (Ml t7) := ml_new HM.out M11.out hod S11.out.lv.fp
      have G12 := Lib.hid (G11.out.step hod hfd)
      clear hSd hod hfd HSv S11 X11 M11 G11
      have HOp := Lib.hid (S12.out.open M12.out X12.out.size)
      go_wp2_with (first | ((first | refine Mix.wpList_guarded rfl ?_ | refine Mix.wp_still (by kernel_rfl) (by kernel_rfl) ?_); (repeat' (first | (refine Mix.lex_quiet0 rfl rfl rfl ?_; intro K hK; go_big_quiet_op; go_big_quiet_on) | (refine Mix.lex_quietG rfl rfl rfl (by with_reducible rfl) rfl rfl ?_; intro K hK; go_big_quiet_op; go_big_quiet_on) | ((first | refine Mix.lex_skipT rfl rfl rfl (by with_reducible rfl) ?_ | refine Mix.lex_skipF rfl rfl rfl (by with_reducible rfl) ?_ | refine Mix.lex_skipU rfl rfl rfl (by with_reducible rfl) ?_); simp only [Act.put, List.setIfInBounds_toArray, List.set_cons_succ, List.set_cons_zero]) | (refine Mix.lex_part rfl rfl rfl rfl (fun hq => ?_) (fun hq => ?_) <;> (fail_if_success (guard_hyp hq :ₛ true = true)) <;> (fail_if_success (guard_hyp hq :ₛ false = false)) <;> first | (exfalso; cases hq; done) | (exfalso; simp only [decide_eq_true_eq, decide_eq_false_iff_not, beq_iff_eq, beq_eq_false_iff_ne, ne_eq, Int.not_lt, Int.not_le] at hq; omega) | simp only [Act.put, List.setIfInBounds_toArray, List.set_cons_succ, List.set_cons_zero]))); all_goals (refine Mix.lex_nil ?_)))
      refine HOp.out.mono ?_
      rintro e t8 ⟨sg8, rfl, hx, Zf, rf, df, hSf, hof, hff⟩
      have S13 := Lib.hid hSf
      have X13 := Lib.hid (X12.out.then_ext hx)
      have G13 := Lib.hid (G12.out.ext hx)
      clear hx hSf hof hff HOp S12 X12 M12 G12
      have HRp := Lib.hid S13.out.rows_c
      go_upto_region 32 with fail
      refine Mix.wp_plain [4, 6] (fun _ => True) trivial ?_
      (repeat' (first | (refine Mix.lex_quiet0 rfl rfl rfl ?_; intro K hK; go_big_quiet_op; go_big_quiet_on) | (refine Mix.lex_quietG rfl rfl rfl (by with_reducible rfl) rfl rfl ?_; intro K hK; go_big_quiet_op; go_big_quiet_on) | ((first | refine Mix.lex_skipT rfl rfl rfl (by with_reducible rfl) ?_ | refine Mix.lex_skipF rfl rfl rfl (by with_reducible rfl) ?_ | refine Mix.lex_skipU rfl rfl rfl (by with_reducible rfl) ?_); simp only [Act.put, List.setIfInBounds_toArray, List.set_cons_succ, List.set_cons_zero]) | (refine Mix.lex_part rfl rfl rfl rfl (fun hq => ?_) (fun hq => ?_) <;> (fail_if_success (guard_hyp hq :ₛ true = true)) <;> (fail_if_success (guard_hyp hq :ₛ false = false)) <;> first | (exfalso; cases hq; done) | (exfalso; simp only [decide_eq_true_eq, decide_eq_false_iff_not, beq_iff_eq, beq_eq_false_iff_ne, ne_eq, Int.not_lt, Int.not_le] at hq; omega) | simp only [Act.put, List.setIfInBounds_toArray, List.set_cons_succ, List.set_cons_zero])))
      ((first | refine Mix.lex_goes0 rfl rfl ?_ | refine Mix.lex_goesG rfl rfl rfl (by with_reducible rfl) rfl ?_); intro K hK; go_simp)
      refine HRp.out.mono ?_
      rintro e t9 ⟨Ag, cg, rfl, hF⟩
      refine ⟨_, rfl, hK _ _ (fun _ => trivial) ?_⟩
      clear hK K
      simp only [Act.put, List.setIfInBounds_toArray, List.set_cons_succ, List.set_cons_zero]
      have HSd := Lib.hid (SameChanges_c (c := cg) (d := c9) (hF.row (by decide)) (G13.out.here.ext hF.ext) (Nat.le_trans HLr.out (by omega)) (Nat.le_trans HLr.out (by omega)))
      rw [decide_eq_true rfl] at HSd
      have X14 := Lib.hid (X13.out.then_ext hF.ext)
      clear hF HRp S13 X13 G13
      (repeat' (first | (refine Mix.lex_quiet0 rfl rfl rfl ?_; intro K hK; go_big_quiet_op; go_big_quiet_on) | (refine Mix.lex_quietG rfl rfl rfl (by with_reducible rfl) rfl rfl ?_; intro K hK; go_big_quiet_op; go_big_quiet_on) | ((first | refine Mix.lex_skipT rfl rfl rfl (by with_reducible rfl) ?_ | refine Mix.lex_skipF rfl rfl rfl (by with_reducible rfl) ?_ | refine Mix.lex_skipU rfl rfl rfl (by with_reducible rfl) ?_); simp only [Act.put, List.setIfInBounds_toArray, List.set_cons_succ, List.set_cons_zero]) | (refine Mix.lex_part rfl rfl rfl rfl (fun hq => ?_) (fun hq => ?_) <;> (fail_if_success (guard_hyp hq :ₛ true = true)) <;> (fail_if_success (guard_hyp hq :ₛ false = false)) <;> first | (exfalso; cases hq; done) | (exfalso; simp only [decide_eq_true_eq, decide_eq_false_iff_not, beq_iff_eq, beq_eq_false_iff_ne, ne_eq, Int.not_lt, Int.not_le] at hq; omega) | simp only [Act.put, List.setIfInBounds_toArray, List.set_cons_succ, List.set_cons_zero])))
      ((first | refine Mix.lex_goes0 rfl rfl ?_ | refine Mix.lex_goesG rfl rfl rfl (by with_reducible rfl) rfl ?_); intro K hK; go_simp)
      refine HSd.out.mono ?_
      rintro e t10 ⟨rfl, hx⟩
      refine ⟨_, rfl, hK _ _ (fun _ => trivial) ?_⟩
      clear hK K
      simp only [Act.put, List.setIfInBounds_toArray, List.set_cons_succ, List.set_cons_zero]
      (repeat' (first | (refine Mix.lex_quiet0 rfl rfl rfl ?_; intro K hK; go_big_quiet_op; go_big_quiet_on) | (refine Mix.lex_quietG rfl rfl rfl (by with_reducible rfl) rfl rfl ?_; intro K hK; go_big_quiet_op; go_big_quiet_on) | ((first | refine Mix.lex_skipT rfl rfl rfl (by with_reducible rfl) ?_ | refine Mix.lex_skipF rfl rfl rfl (by with_reducible rfl) ?_ | refine Mix.lex_skipU rfl rfl rfl (by with_reducible rfl) ?_); simp only [Act.put, List.setIfInBounds_toArray, List.set_cons_succ, List.set_cons_zero]) | (refine Mix.lex_part rfl rfl rfl rfl (fun hq => ?_) (fun hq => ?_) <;> (fail_if_success (guard_hyp hq :ₛ true = true)) <;> (fail_if_success (guard_hyp hq :ₛ false = false)) <;> first | (exfalso; cases hq; done) | (exfalso; simp only [decide_eq_true_eq, decide_eq_false_iff_not, beq_iff_eq, beq_eq_false_iff_ne, ne_eq, Int.not_lt, Int.not_le] at hq; omega) | simp only [Act.put, List.setIfInBounds_toArray, List.set_cons_succ, List.set_cons_zero])))
      refine Mix.lex_nil ?_
      go_wp2_with (first | ((first | refine Mix.wpList_guarded rfl ?_ | refine Mix.wp_still (by kernel_rfl) (by kernel_rfl) ?_); (repeat' (first | (refine Mix.lex_quiet0 rfl rfl rfl ?_; intro K hK; go_big_quiet_op; go_big_quiet_on) | (refine Mix.lex_quietG rfl rfl rfl (by with_reducible rfl) rfl rfl ?_; intro K hK; go_big_quiet_op; go_big_quiet_on) | ((first | refine Mix.lex_skipT rfl rfl rfl (by with_reducible rfl) ?_ | refine Mix.lex_skipF rfl rfl rfl (by with_reducible rfl) ?_ | refine Mix.lex_skipU rfl rfl rfl (by with_reducible rfl) ?_); simp only [Act.put, List.setIfInBounds_toArray, List.set_cons_succ, List.set_cons_zero]) | (refine Mix.lex_part rfl rfl rfl rfl (fun hq => ?_) (fun hq => ?_) <;> (fail_if_success (guard_hyp hq :ₛ true = true)) <;> (fail_if_success (guard_hyp hq :ₛ false = false)) <;> first | (exfalso; cases hq; done) | (exfalso; simp only [decide_eq_true_eq, decide_eq_false_iff_not, beq_iff_eq, beq_eq_false_iff_ne, ne_eq, Int.not_lt, Int.not_le] at hq; omega) | simp only [Act.put, List.setIfInBounds_toArray, List.set_cons_succ, List.set_cons_zero]))); all_goals (refine Mix.lex_nil ?_)))
      go_ret
      exact ⟨rfl, X14.out.then_ext hx⟩
end Go.Proofs.Ytaphmmobmadfoaa
