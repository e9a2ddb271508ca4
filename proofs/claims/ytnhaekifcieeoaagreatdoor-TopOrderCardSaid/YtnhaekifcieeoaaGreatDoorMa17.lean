/- Put together: MkN. -/
import Derived.Test.YtnhaekifcieeoaaGreatDoorMa16
import Derived.Test.YtnhaekifcieeoaaGreatDoorMa09
import Derived.Test.YtnhaekifcieeoaaGreatDoorMa05
/- A line of a makefile. -/
namespace Go.Proofs.YtnhaekifcieeoaaGreatDoor
open Go Go.RowKit
theorem CutPre_c (s p : Str) (w : World) : Calls Tryz.prog 66 #[S s, S p] w fun e w' => e = .returned (.tuple #[S (Lib.trimPrefix s p), .bool (Lib.hasPrefix s p)]) ∧ Ext w w' := by
  refine (Tryz.strings_CutPrefix ⟨s.toArray⟩ ⟨p.toArray⟩ w).mono ?_
  rintro e w' ⟨rfl, rfl⟩
  exact ⟨rfl, Only.refl _ _⟩
theorem byte_eq (x c : UInt8) : (((x.toNat : Int)) == ((c.toNat : Int))) = decide (x = c) := by
  rw [Bool.eq_iff_iff, beq_iff_eq, decide_eq_true_iff]
  exact ⟨fun h => UInt8.toNat_inj.1 (by omega), fun h => by rw [h]⟩
set_option maxRecDepth 100000 in
set_option maxHeartbeats 4000000 in
theorem Line_c {Q : List SRow} {w wr : World} {g : Nat} {v : MkV} {rs : List (RulA × Rul)} {m : Mk} {k : Nat} (hm : Ml w) (h : MAt Q w wr g v rs m) (hf : m.Fit k) (hk : k ≤ 100000) (s : Str) (hs : s.length ≤ 600) :
    Calls Tryz.prog 44 #[ptr g, S s] wr (MkRes Q w g (lineF m s)) := by
  have P := Lib.hid h
  cases s with
  | nil =>
    go_enter Tryz.func44, Tryz.ntmps44
    go_wp2_with (first | ((first | refine Mix.wpList_guarded rfl ?_ | refine Mix.wp_still (by kernel_rfl) (by kernel_rfl) ?_); (repeat' (first | (refine Mix.lex_quiet0 rfl rfl rfl ?_; intro K hK; go_big_quiet_op; go_big_quiet_on) | (refine Mix.lex_quietG rfl rfl rfl (by with_reducible rfl) rfl rfl ?_; intro K hK; go_big_quiet_op; go_big_quiet_on) | ((first | refine Mix.lex_skipT rfl rfl rfl (by with_reducible rfl) ?_ | refine Mix.lex_skipF rfl rfl rfl (by with_reducible rfl) ?_ | refine Mix.lex_skipU rfl rfl rfl (by with_reducible rfl) ?_); simp only [Act.put, List.setIfInBounds_toArray, List.set_cons_succ, List.set_cons_zero]) | (refine Mix.lex_part rfl rfl rfl rfl (fun hq => ?_) (fun hq => ?_) <;> (fail_if_success (guard_hyp hq :ₛ true = true)) <;> (fail_if_success (guard_hyp hq :ₛ false = false)) <;> first | (exfalso; cases hq; done) | (exfalso; simp only [decide_eq_true_eq, decide_eq_false_iff_not, beq_iff_eq, beq_eq_false_iff_ne, ne_eq, Int.not_lt, Int.not_le] at hq; omega) | simp only [Act.put, List.setIfInBounds_toArray, List.set_cons_succ, List.set_cons_zero]))); all_goals (refine Mix.lex_nil ?_)))
    go_ret
    exact ⟨v, rs, rfl, P.out⟩
  | cons x r =>
    have HF := Lib.hid (lineF_cons m x r)
    have HCm := Lib.hid (Command_c hm h hf r (by simp at hs; omega))
    have HHd := Lib.hid (fun u (hu : MAt Q w u g v rs m) => Header_c hm hu hf (x :: r) hs)
    have HPr := Lib.hid (fun v => CutPre_c (x :: r) phonyT v)
    have HCt := Lib.hid (fun v (hv : Ext w v) => SCut_c (x :: r) eqT (by omega) (hm.ext hv))
    have hp := hf.p
    have hv := hf.v
    clear h hf
    by_cases h35 : x = 35
    · have q1 : (((x.toNat : Int)) == 35) = true := (byte_eq x 35).trans (decide_eq_true h35)
      have HF2 := Lib.hid (HF.out.trans (if_pos h35))
      go_enter Tryz.func44, Tryz.ntmps44
      go_wp2_with (first | ((first | refine Mix.wpList_guarded rfl ?_ | refine Mix.wp_still (by kernel_rfl) (by kernel_rfl) ?_); (repeat' (first | (refine Mix.lex_quiet0 rfl rfl rfl ?_; intro K hK; go_big_quiet_op; go_big_quiet_on) | (refine Mix.lex_quietG rfl rfl rfl (by with_reducible rfl) rfl rfl ?_; intro K hK; go_big_quiet_op; go_big_quiet_on) | ((first | refine Mix.lex_skipT rfl rfl rfl (by with_reducible rfl) ?_ | refine Mix.lex_skipF rfl rfl rfl (by with_reducible rfl) ?_ | refine Mix.lex_skipU rfl rfl rfl (by with_reducible rfl) ?_); simp only [Act.put, List.setIfInBounds_toArray, List.set_cons_succ, List.set_cons_zero]) | (refine Mix.lex_part rfl rfl rfl rfl (fun hq => ?_) (fun hq => ?_) <;> (fail_if_success (guard_hyp hq :ₛ true = true)) <;> (fail_if_success (guard_hyp hq :ₛ false = false)) <;> first | (exfalso; cases hq; done) | (exfalso; simp only [decide_eq_true_eq, decide_eq_false_iff_not, beq_iff_eq, beq_eq_false_iff_ne, ne_eq, Int.not_lt, Int.not_le] at hq; omega) | simp only [Act.put, List.setIfInBounds_toArray, List.set_cons_succ, List.set_cons_zero]))); all_goals (refine Mix.lex_nil ?_)))
      go_ret
      exact ⟨v, rs, by rw [HF2.out]; rfl, by rw [HF2.out]; exact P.out⟩
    · have q1 : (((x.toNat : Int)) == 35) = false := (byte_eq x 35).trans (decide_eq_false h35)
      have HF2 := Lib.hid (HF.out.trans (if_neg h35))
      clear HF
      by_cases h9 : x = 9
      · have q2 : (((x.toNat : Int)) == 9) = true := (byte_eq x 9).trans (decide_eq_true h9)
        have HF3 := Lib.hid (HF2.out.trans (if_pos h9))
        subst h9
        go_enter Tryz.func44, Tryz.ntmps44
        go_wp2_with (first | ((first | refine Mix.wpList_guarded rfl ?_ | refine Mix.wp_still (by kernel_rfl) (by kernel_rfl) ?_); (repeat' (first | (refine Mix.lex_quiet0 rfl rfl rfl ?_; intro K hK; go_big_quiet_op; go_big_quiet_on) | (refine Mix.lex_quietG rfl rfl rfl (by with_reducible rfl) rfl rfl ?_; intro K hK; go_big_quiet_op; go_big_quiet_on) | ((first | refine Mix.lex_skipT rfl rfl rfl (by with_reducible rfl) ?_ | refine Mix.lex_skipF rfl rfl rfl (by with_reducible rfl) ?_ | refine Mix.lex_skipU rfl rfl rfl (by with_reducible rfl) ?_); simp only [Act.put, List.setIfInBounds_toArray, List.set_cons_succ, List.set_cons_zero]) | (refine Mix.lex_part rfl rfl rfl rfl (fun hq => ?_) (fun hq => ?_) <;> (fail_if_success (guard_hyp hq :ₛ true = true)) <;> (fail_if_success (guard_hyp hq :ₛ false = false)) <;> first | (exfalso; cases hq; done) | (exfalso; simp only [decide_eq_true_eq, decide_eq_false_iff_not, beq_iff_eq, beq_eq_false_iff_ne, ne_eq, Int.not_lt, Int.not_le] at hq; omega) | simp only [Act.put, List.setIfInBounds_toArray, List.set_cons_succ, List.set_cons_zero]))); all_goals (refine Mix.lex_nil ?_)))
        refine HCm.out.mono ?_
        rintro e u ⟨v', rs', rfl, hM⟩
        have M2 := Lib.hid hM
        clear hM HCm
        go_wp2_with (first | ((first | refine Mix.wpList_guarded rfl ?_ | refine Mix.wp_still (by kernel_rfl) (by kernel_rfl) ?_); (repeat' (first | (refine Mix.lex_quiet0 rfl rfl rfl ?_; intro K hK; go_big_quiet_op; go_big_quiet_on) | (refine Mix.lex_quietG rfl rfl rfl (by with_reducible rfl) rfl rfl ?_; intro K hK; go_big_quiet_op; go_big_quiet_on) | ((first | refine Mix.lex_skipT rfl rfl rfl (by with_reducible rfl) ?_ | refine Mix.lex_skipF rfl rfl rfl (by with_reducible rfl) ?_ | refine Mix.lex_skipU rfl rfl rfl (by with_reducible rfl) ?_); simp only [Act.put, List.setIfInBounds_toArray, List.set_cons_succ, List.set_cons_zero]) | (refine Mix.lex_part rfl rfl rfl rfl (fun hq => ?_) (fun hq => ?_) <;> (fail_if_success (guard_hyp hq :ₛ true = true)) <;> (fail_if_success (guard_hyp hq :ₛ false = false)) <;> first | (exfalso; cases hq; done) | (exfalso; simp only [decide_eq_true_eq, decide_eq_false_iff_not, beq_iff_eq, beq_eq_false_iff_ne, ne_eq, Int.not_lt, Int.not_le] at hq; omega) | simp only [Act.put, List.setIfInBounds_toArray, List.set_cons_succ, List.set_cons_zero]))); all_goals (refine Mix.lex_nil ?_)))
        go_ret
        exact ⟨v', rs', by rw [HF3.out]; rfl, by rw [HF3.out]; exact M2.out⟩
      · have q2 : (((x.toNat : Int)) == 9) = false := (byte_eq x 9).trans (decide_eq_false h9)
        have HF3 := Lib.hid (HF2.out.trans (if_neg h9))
        clear HF2 HCm
        have HTr : Hid (Lib.hasPrefix (x :: r) phonyT = true → Lib.trimPrefix (x :: r) phonyT = (x :: r).drop 6) := fun h => by
          unfold Lib.trimPrefix
          rw [if_pos h]
          rfl
        generalize Lib.hasPrefix (x :: r) phonyT = hp6 at HPr HF3 HTr
        generalize Lib.trimPrefix (x :: r) phonyT = name at HPr HTr
        go_enter Tryz.func44, Tryz.ntmps44
        go_wp2_with (first | ((first | refine Mix.wpList_guarded rfl ?_ | refine Mix.wp_still (by kernel_rfl) (by kernel_rfl) ?_); (repeat' (first | (refine Mix.lex_quiet0 rfl rfl rfl ?_; intro K hK; go_big_quiet_op; go_big_quiet_on) | (refine Mix.lex_quietG rfl rfl rfl (by with_reducible rfl) rfl rfl ?_; intro K hK; go_big_quiet_op; go_big_quiet_on) | ((first | refine Mix.lex_skipT rfl rfl rfl (by with_reducible rfl) ?_ | refine Mix.lex_skipF rfl rfl rfl (by with_reducible rfl) ?_ | refine Mix.lex_skipU rfl rfl rfl (by with_reducible rfl) ?_); simp only [Act.put, List.setIfInBounds_toArray, List.set_cons_succ, List.set_cons_zero]) | (refine Mix.lex_part rfl rfl rfl rfl (fun hq => ?_) (fun hq => ?_) <;> (fail_if_success (guard_hyp hq :ₛ true = true)) <;> (fail_if_success (guard_hyp hq :ₛ false = false)) <;> first | (exfalso; cases hq; done) | (exfalso; simp only [decide_eq_true_eq, decide_eq_false_iff_not, beq_iff_eq, beq_eq_false_iff_ne, ne_eq, Int.not_lt, Int.not_le] at hq; omega) | simp only [Act.put, List.setIfInBounds_toArray, List.set_cons_succ, List.set_cons_zero]))); all_goals (refine Mix.lex_nil ?_)))
        refine (HPr.out _).mono ?_
        rintro e u ⟨rfl, hu⟩
        have P1 := Lib.hid (P.out.ext hu)
        clear hu HPr P
        cases hp6 with
        | true =>
          have hn : name = (x :: r).drop 6 := HTr.out rfl
          have HF4 := Lib.hid (HF3.out.trans (if_pos rfl))
          rw [← hn] at HF4
          have hnl : name.length ≤ 600 := by rw [hn, List.length_drop]; omega
          clear hn HTr HF3 HCt HHd
          have HNm := Lib.hid (fun v => Name_c name v (by omega))
          have HIn := Lib.hid (fun z (hv : Ext u z) => Contains_c (c := v.pc) (((P1.out.ss.f ⟨v.pA, v.pc, m.phony⟩ (by simp)).row (by decide)).ext hv) (by show m.phony.length ≤ _; omega) name)
          have HF5 : Hid (lineF m (x :: r) = if nameB name = false ∨ inS m.phony name = true then (m, 3) else (⟨m.vars, m.rules, m.phony ++ [name]⟩, 0)) := HF4.out
          clear HF4
          generalize nameB name = b1 at HNm HF5
          generalize inS m.phony name = b2 at HIn HF5
          cases b1 with
          | false =>
            have HF6 := Lib.hid (HF5.out.trans (if_pos (.inl rfl)))
            go_wp2_with (first | ((first | refine Mix.wpList_guarded rfl ?_ | refine Mix.wp_still (by kernel_rfl) (by kernel_rfl) ?_); (repeat' (first | (refine Mix.lex_quiet0 rfl rfl rfl ?_; intro K hK; go_big_quiet_op; go_big_quiet_on) | (refine Mix.lex_quietG rfl rfl rfl (by with_reducible rfl) rfl rfl ?_; intro K hK; go_big_quiet_op; go_big_quiet_on) | ((first | refine Mix.lex_skipT rfl rfl rfl (by with_reducible rfl) ?_ | refine Mix.lex_skipF rfl rfl rfl (by with_reducible rfl) ?_ | refine Mix.lex_skipU rfl rfl rfl (by with_reducible rfl) ?_); simp only [Act.put, List.setIfInBounds_toArray, List.set_cons_succ, List.set_cons_zero]) | (refine Mix.lex_part rfl rfl rfl rfl (fun hq => ?_) (fun hq => ?_) <;> (fail_if_success (guard_hyp hq :ₛ true = true)) <;> (fail_if_success (guard_hyp hq :ₛ false = false)) <;> first | (exfalso; cases hq; done) | (exfalso; simp only [decide_eq_true_eq, decide_eq_false_iff_not, beq_iff_eq, beq_eq_false_iff_ne, ne_eq, Int.not_lt, Int.not_le] at hq; omega) | simp only [Act.put, List.setIfInBounds_toArray, List.set_cons_succ, List.set_cons_zero]))); all_goals (refine Mix.lex_nil ?_)))
            refine (HNm.out _).mono ?_
            rintro e u2 ⟨rfl, hu⟩
            have P2 := Lib.hid (P1.out.ext hu)
            clear hu HNm P1
            go_wp2_with (first | ((first | refine Mix.wpList_guarded rfl ?_ | refine Mix.wp_still (by kernel_rfl) (by kernel_rfl) ?_); (repeat' (first | (refine Mix.lex_quiet0 rfl rfl rfl ?_; intro K hK; go_big_quiet_op; go_big_quiet_on) | (refine Mix.lex_quietG rfl rfl rfl (by with_reducible rfl) rfl rfl ?_; intro K hK; go_big_quiet_op; go_big_quiet_on) | ((first | refine Mix.lex_skipT rfl rfl rfl (by with_reducible rfl) ?_ | refine Mix.lex_skipF rfl rfl rfl (by with_reducible rfl) ?_ | refine Mix.lex_skipU rfl rfl rfl (by with_reducible rfl) ?_); simp only [Act.put, List.setIfInBounds_toArray, List.set_cons_succ, List.set_cons_zero]) | (refine Mix.lex_part rfl rfl rfl rfl (fun hq => ?_) (fun hq => ?_) <;> (fail_if_success (guard_hyp hq :ₛ true = true)) <;> (fail_if_success (guard_hyp hq :ₛ false = false)) <;> first | (exfalso; cases hq; done) | (exfalso; simp only [decide_eq_true_eq, decide_eq_false_iff_not, beq_iff_eq, beq_eq_false_iff_ne, ne_eq, Int.not_lt, Int.not_le] at hq; omega) | simp only [Act.put, List.setIfInBounds_toArray, List.set_cons_succ, List.set_cons_zero]))); all_goals (refine Mix.lex_nil ?_)))
            go_ret
            exact ⟨v, rs, by rw [HF6.out]; rfl, by rw [HF6.out]; exact P2.out⟩
          | true =>
            go_wp2_with (first | ((first | refine Mix.wpList_guarded rfl ?_ | refine Mix.wp_still (by kernel_rfl) (by kernel_rfl) ?_); (repeat' (first | (refine Mix.lex_quiet0 rfl rfl rfl ?_; intro K hK; go_big_quiet_op; go_big_quiet_on) | (refine Mix.lex_quietG rfl rfl rfl (by with_reducible rfl) rfl rfl ?_; intro K hK; go_big_quiet_op; go_big_quiet_on) | ((first | refine Mix.lex_skipT rfl rfl rfl (by with_reducible rfl) ?_ | refine Mix.lex_skipF rfl rfl rfl (by with_reducible rfl) ?_ | refine Mix.lex_skipU rfl rfl rfl (by with_reducible rfl) ?_); simp only [Act.put, List.setIfInBounds_toArray, List.set_cons_succ, List.set_cons_zero]) | (refine Mix.lex_part rfl rfl rfl rfl (fun hq => ?_) (fun hq => ?_) <;> (fail_if_success (guard_hyp hq :ₛ true = true)) <;> (fail_if_success (guard_hyp hq :ₛ false = false)) <;> first | (exfalso; cases hq; done) | (exfalso; simp only [decide_eq_true_eq, decide_eq_false_iff_not, beq_iff_eq, beq_eq_false_iff_ne, ne_eq, Int.not_lt, Int.not_le] at hq; omega) | simp only [Act.put, List.setIfInBounds_toArray, List.set_cons_succ, List.set_cons_zero]))); all_goals (refine Mix.lex_nil ?_)))
            refine (HNm.out _).mono ?_
            rintro e u2 ⟨rfl, hu⟩
            have P2 := Lib.hid (P1.out.ext hu)
            have U2 := Lib.hid hu
            have c2 : u2.cell? ⟨g, 2, none⟩ = some (.slice v.pA m.phony.length v.pc) := P2.out.rc.cell 2
            clear hu HNm P1
            go_wp2_with (first | ((first | refine Mix.wpList_guarded rfl ?_ | refine Mix.wp_still (by kernel_rfl) (by kernel_rfl) ?_); (repeat' (first | (refine Mix.lex_quiet0 rfl rfl rfl ?_; intro K hK; go_big_quiet_op; go_big_quiet_on) | (refine Mix.lex_quietG rfl rfl rfl (by with_reducible rfl) rfl rfl ?_; intro K hK; go_big_quiet_op; go_big_quiet_on) | ((first | refine Mix.lex_skipT rfl rfl rfl (by with_reducible rfl) ?_ | refine Mix.lex_skipF rfl rfl rfl (by with_reducible rfl) ?_ | refine Mix.lex_skipU rfl rfl rfl (by with_reducible rfl) ?_); simp only [Act.put, List.setIfInBounds_toArray, List.set_cons_succ, List.set_cons_zero]) | (refine Mix.lex_part rfl rfl rfl rfl (fun hq => ?_) (fun hq => ?_) <;> (fail_if_success (guard_hyp hq :ₛ true = true)) <;> (fail_if_success (guard_hyp hq :ₛ false = false)) <;> first | (exfalso; cases hq; done) | (exfalso; simp only [decide_eq_true_eq, decide_eq_false_iff_not, beq_iff_eq, beq_eq_false_iff_ne, ne_eq, Int.not_lt, Int.not_le] at hq; omega) | simp only [Act.put, List.setIfInBounds_toArray, List.set_cons_succ, List.set_cons_zero]))); all_goals (refine Mix.lex_nil ?_)))
            refine (HIn.out _ U2.out).mono ?_
            rintro e u3 ⟨rfl, hu⟩
            have P3 := Lib.hid (P2.out.ext hu)
            clear hu HIn P2 U2 c2
            cases b2 with
            | true =>
              have HF6 := Lib.hid (HF5.out.trans (if_pos (.inr rfl)))
              go_wp2_with (first | ((first | refine Mix.wpList_guarded rfl ?_ | refine Mix.wp_still (by kernel_rfl) (by kernel_rfl) ?_); (repeat' (first | (refine Mix.lex_quiet0 rfl rfl rfl ?_; intro K hK; go_big_quiet_op; go_big_quiet_on) | (refine Mix.lex_quietG rfl rfl rfl (by with_reducible rfl) rfl rfl ?_; intro K hK; go_big_quiet_op; go_big_quiet_on) | ((first | refine Mix.lex_skipT rfl rfl rfl (by with_reducible rfl) ?_ | refine Mix.lex_skipF rfl rfl rfl (by with_reducible rfl) ?_ | refine Mix.lex_skipU rfl rfl rfl (by with_reducible rfl) ?_); simp only [Act.put, List.setIfInBounds_toArray, List.set_cons_succ, List.set_cons_zero]) | (refine Mix.lex_part rfl rfl rfl rfl (fun hq => ?_) (fun hq => ?_) <;> (fail_if_success (guard_hyp hq :ₛ true = true)) <;> (fail_if_success (guard_hyp hq :ₛ false = false)) <;> first | (exfalso; cases hq; done) | (exfalso; simp only [decide_eq_true_eq, decide_eq_false_iff_not, beq_iff_eq, beq_eq_false_iff_ne, ne_eq, Int.not_lt, Int.not_le] at hq; omega) | simp only [Act.put, List.setIfInBounds_toArray, List.set_cons_succ, List.set_cons_zero]))); all_goals (refine Mix.lex_nil ?_)))
              go_ret
              exact ⟨v, rs, by rw [HF6.out]; rfl, by rw [HF6.out]; exact P3.out⟩
            | false =>
              have HF6 := Lib.hid (HF5.out.trans (if_neg (by simp)))
              clear HF5
              have c3 : u3.cell? ⟨g, 2, none⟩ = some (.slice v.pA m.phony.length v.pc) := P3.out.rc.cell 2
              have P4 := Lib.hid (P3.out.ext ((Only.refl No u3).alloc (.cells #[S name] 9)))
              go_wp2_with (first | (at_builtin; go_must (refine wpList_append (v := .slice v.pA m.phony.length v.pc) (n := m.phony.length) (xs := m.phony.flatMap strF.enc) rfl st_ty rfl rfl rfl (P4.out.ss.f ⟨v.pA, v.pc, m.phony⟩ (by simp)).own (rd_one u3 _ [S name]) (by simp [Value.oneCell']) (by omega) ?_); intro A2 c2 w5 hown5 hg5 hb5; have P9 := Lib.hid (P4.out.growP (t := name) hown5 hg5 hb5); have C9 := P4.out.rc.keep ((Only.refl (fun b => (Value.slice v.pA m.phony.length v.pc).ownBlock = some b) _).grown hg5 fun g hg => .inr hg) (fun e => own_ne_cs (P4.out.ss.f ⟨v.pA, v.pc, m.phony⟩ (by simp)).own P4.out.rc (by decide) _ e rfl); have z1 := C9.frozen 2; have y1 : w5.cell? ⟨g, 2, none⟩ = some (.slice v.pA m.phony.length v.pc) := C9.cell 2; clear hown5 hg5 hb5 C9) | ((first | refine Mix.wpList_guarded rfl ?_ | refine Mix.wp_still (by kernel_rfl) (by kernel_rfl) ?_); (repeat' (first | (refine Mix.lex_quiet0 rfl rfl rfl ?_; intro K hK; go_big_quiet_op; go_big_quiet_on) | (refine Mix.lex_quietG rfl rfl rfl (by with_reducible rfl) rfl rfl ?_; intro K hK; go_big_quiet_op; go_big_quiet_on) | ((first | refine Mix.lex_skipT rfl rfl rfl (by with_reducible rfl) ?_ | refine Mix.lex_skipF rfl rfl rfl (by with_reducible rfl) ?_ | refine Mix.lex_skipU rfl rfl rfl (by with_reducible rfl) ?_); simp only [Act.put, List.setIfInBounds_toArray, List.set_cons_succ, List.set_cons_zero]) | (refine Mix.lex_part rfl rfl rfl rfl (fun hq => ?_) (fun hq => ?_) <;> (fail_if_success (guard_hyp hq :ₛ true = true)) <;> (fail_if_success (guard_hyp hq :ₛ false = false)) <;> first | (exfalso; cases hq; done) | (exfalso; simp only [decide_eq_true_eq, decide_eq_false_iff_not, beq_iff_eq, beq_eq_false_iff_ne, ne_eq, Int.not_lt, Int.not_le] at hq; omega) | simp only [Act.put, List.setIfInBounds_toArray, List.set_cons_succ, List.set_cons_zero]))); all_goals (refine Mix.lex_nil ?_)))
              go_ret
              exact ⟨_, _, by rw [HF6.out]; rfl, by rw [HF6.out]; exact P9.out⟩
        | false =>
          have HF4 := Lib.hid (HF3.out.trans (if_neg (by decide)))
          have hcl := cut_len (x :: r) eqT
          have hcl2 : (x :: r).length ≤ 600 := hs
          have hM1 := hm.ext P1.out.x
          have HCt1 := Lib.hid (HCt.out u P1.out.x)
          clear HF3 HTr HCt
          generalize Lib.cut (x :: r) eqT = q at HCt1 HF4 hcl
          obtain ⟨a, b, is⟩ := q
          dsimp only at HCt1 HF4 hcl
          go_wp2_with (first | ((first | refine Mix.wpList_guarded rfl ?_ | refine Mix.wp_still (by kernel_rfl) (by kernel_rfl) ?_); (repeat' (first | (refine Mix.lex_quiet0 rfl rfl rfl ?_; intro K hK; go_big_quiet_op; go_big_quiet_on) | (refine Mix.lex_quietG rfl rfl rfl (by with_reducible rfl) rfl rfl ?_; intro K hK; go_big_quiet_op; go_big_quiet_on) | ((first | refine Mix.lex_skipT rfl rfl rfl (by with_reducible rfl) ?_ | refine Mix.lex_skipF rfl rfl rfl (by with_reducible rfl) ?_ | refine Mix.lex_skipU rfl rfl rfl (by with_reducible rfl) ?_); simp only [Act.put, List.setIfInBounds_toArray, List.set_cons_succ, List.set_cons_zero]) | (refine Mix.lex_part rfl rfl rfl rfl (fun hq => ?_) (fun hq => ?_) <;> (fail_if_success (guard_hyp hq :ₛ true = true)) <;> (fail_if_success (guard_hyp hq :ₛ false = false)) <;> first | (exfalso; cases hq; done) | (exfalso; simp only [decide_eq_true_eq, decide_eq_false_iff_not, beq_iff_eq, beq_eq_false_iff_ne, ne_eq, Int.not_lt, Int.not_le] at hq; omega) | simp only [Act.put, List.setIfInBounds_toArray, List.set_cons_succ, List.set_cons_zero]))); all_goals (refine Mix.lex_nil ?_)))
          refine HCt1.out.mono ?_
          rintro e u1 ⟨rfl, hu⟩
          have P2 := Lib.hid (P1.out.ext hu)
          clear hu HCt1 P1
          cases is with
          | true =>
            have HF5 : Hid (lineF m (x :: r) = if varB a = false then (m, 3) else if m.vars.length = 6 then (m, 2) else (⟨m.vars ++ [(a, b)], m.rules, m.phony⟩, 0)) := HF4.out.trans (if_pos rfl)
            have HVr := Lib.hid (fun v => Var_c a (by omega) v)
            clear HF4 HHd
            generalize varB a = b1 at HVr HF5
            go_wp2_with (first | ((first | refine Mix.wpList_guarded rfl ?_ | refine Mix.wp_still (by kernel_rfl) (by kernel_rfl) ?_); (repeat' (first | (refine Mix.lex_quiet0 rfl rfl rfl ?_; intro K hK; go_big_quiet_op; go_big_quiet_on) | (refine Mix.lex_quietG rfl rfl rfl (by with_reducible rfl) rfl rfl ?_; intro K hK; go_big_quiet_op; go_big_quiet_on) | ((first | refine Mix.lex_skipT rfl rfl rfl (by with_reducible rfl) ?_ | refine Mix.lex_skipF rfl rfl rfl (by with_reducible rfl) ?_ | refine Mix.lex_skipU rfl rfl rfl (by with_reducible rfl) ?_); simp only [Act.put, List.setIfInBounds_toArray, List.set_cons_succ, List.set_cons_zero]) | (refine Mix.lex_part rfl rfl rfl rfl (fun hq => ?_) (fun hq => ?_) <;> (fail_if_success (guard_hyp hq :ₛ true = true)) <;> (fail_if_success (guard_hyp hq :ₛ false = false)) <;> first | (exfalso; cases hq; done) | (exfalso; simp only [decide_eq_true_eq, decide_eq_false_iff_not, beq_iff_eq, beq_eq_false_iff_ne, ne_eq, Int.not_lt, Int.not_le] at hq; omega) | simp only [Act.put, List.setIfInBounds_toArray, List.set_cons_succ, List.set_cons_zero]))); all_goals (refine Mix.lex_nil ?_)))
            refine (HVr.out _).mono ?_
            rintro e u2 ⟨rfl, hu⟩
            have P3 := Lib.hid (P2.out.ext hu)
            clear hu HVr P2
            cases b1 with
            | false =>
              have HF6 := Lib.hid (HF5.out.trans (if_pos rfl))
              go_wp2_with (first | ((first | refine Mix.wpList_guarded rfl ?_ | refine Mix.wp_still (by kernel_rfl) (by kernel_rfl) ?_); (repeat' (first | (refine Mix.lex_quiet0 rfl rfl rfl ?_; intro K hK; go_big_quiet_op; go_big_quiet_on) | (refine Mix.lex_quietG rfl rfl rfl (by with_reducible rfl) rfl rfl ?_; intro K hK; go_big_quiet_op; go_big_quiet_on) | ((first | refine Mix.lex_skipT rfl rfl rfl (by with_reducible rfl) ?_ | refine Mix.lex_skipF rfl rfl rfl (by with_reducible rfl) ?_ | refine Mix.lex_skipU rfl rfl rfl (by with_reducible rfl) ?_); simp only [Act.put, List.setIfInBounds_toArray, List.set_cons_succ, List.set_cons_zero]) | (refine Mix.lex_part rfl rfl rfl rfl (fun hq => ?_) (fun hq => ?_) <;> (fail_if_success (guard_hyp hq :ₛ true = true)) <;> (fail_if_success (guard_hyp hq :ₛ false = false)) <;> first | (exfalso; cases hq; done) | (exfalso; simp only [decide_eq_true_eq, decide_eq_false_iff_not, beq_iff_eq, beq_eq_false_iff_ne, ne_eq, Int.not_lt, Int.not_le] at hq; omega) | simp only [Act.put, List.setIfInBounds_toArray, List.set_cons_succ, List.set_cons_zero]))); all_goals (refine Mix.lex_nil ?_)))
              go_ret
              exact ⟨v, rs, by rw [HF6.out]; rfl, by rw [HF6.out]; exact P3.out⟩
            | true =>
              have HF6 := Lib.hid (HF5.out.trans (if_neg (by decide)))
              have c3 : u2.cell? ⟨g, 0, none⟩ = some (.slice v.vA m.vars.length v.vc) := P3.out.rc.cell 0
              clear HF5
              by_cases h6 : m.vars.length = 6
              · have g6 : decide ((m.vars.length : Int) = 6) = true := by rw [decide_eq_true_iff]; omega
                have HF7 := Lib.hid (HF6.out.trans (if_pos h6))
                go_wp2_with (first | ((first | refine Mix.wpList_guarded rfl ?_ | refine Mix.wp_still (by kernel_rfl) (by kernel_rfl) ?_); (repeat' (first | (refine Mix.lex_quiet0 rfl rfl rfl ?_; intro K hK; go_big_quiet_op; go_big_quiet_on) | (refine Mix.lex_quietG rfl rfl rfl (by with_reducible rfl) rfl rfl ?_; intro K hK; go_big_quiet_op; go_big_quiet_on) | ((first | refine Mix.lex_skipT rfl rfl rfl (by with_reducible rfl) ?_ | refine Mix.lex_skipF rfl rfl rfl (by with_reducible rfl) ?_ | refine Mix.lex_skipU rfl rfl rfl (by with_reducible rfl) ?_); simp only [Act.put, List.setIfInBounds_toArray, List.set_cons_succ, List.set_cons_zero]) | (refine Mix.lex_part rfl rfl rfl rfl (fun hq => ?_) (fun hq => ?_) <;> (fail_if_success (guard_hyp hq :ₛ true = true)) <;> (fail_if_success (guard_hyp hq :ₛ false = false)) <;> first | (exfalso; cases hq; done) | (exfalso; simp only [decide_eq_true_eq, decide_eq_false_iff_not, beq_iff_eq, beq_eq_false_iff_ne, ne_eq, Int.not_lt, Int.not_le] at hq; omega) | simp only [Act.put, List.setIfInBounds_toArray, List.set_cons_succ, List.set_cons_zero]))); all_goals (refine Mix.lex_nil ?_)))
                go_ret
                exact ⟨v, rs, by rw [HF7.out]; rfl, by rw [HF7.out]; exact P3.out⟩
              · have g6 : decide ((m.vars.length : Int) = 6) = false := by rw [decide_eq_false_iff_not]; omega
                have HF7 := Lib.hid (HF6.out.trans (if_neg h6))
                have P4 := Lib.hid (P3.out.ext ((Only.refl No u2).alloc (.cells #[S a, S b] varT)))
                go_wp2_with (first | (at_builtin; go_must (refine wpList_append (v := .slice v.vA m.vars.length v.vc) (n := m.vars.length) (xs := m.vars.flatMap fileF.enc) rfl vr_ty rfl rfl rfl P4.out.fv.own (rd_one u2 _ [S a, S b]) (by simp [Value.oneCell']) (by omega) ?_); intro A2 c2 w5 hown5 hg5 hb5; have P9 := Lib.hid (P4.out.growV (t := (a, b)) hown5 hg5 hb5); have C9 := P4.out.rc.keep ((Only.refl (fun b => (Value.slice v.vA m.vars.length v.vc).ownBlock = some b) _).grown hg5 fun g hg => .inr hg) (fun e => own_ne_cs P4.out.fv.own P4.out.rc (by decide) _ e rfl); have z1 := C9.frozen 0; have y1 : w5.cell? ⟨g, 0, none⟩ = some (.slice v.vA m.vars.length v.vc) := C9.cell 0; clear hown5 hg5 hb5 C9) | ((first | refine Mix.wpList_guarded rfl ?_ | refine Mix.wp_still (by kernel_rfl) (by kernel_rfl) ?_); (repeat' (first | (refine Mix.lex_quiet0 rfl rfl rfl ?_; intro K hK; go_big_quiet_op; go_big_quiet_on) | (refine Mix.lex_quietG rfl rfl rfl (by with_reducible rfl) rfl rfl ?_; intro K hK; go_big_quiet_op; go_big_quiet_on) | ((first | refine Mix.lex_skipT rfl rfl rfl (by with_reducible rfl) ?_ | refine Mix.lex_skipF rfl rfl rfl (by with_reducible rfl) ?_ | refine Mix.lex_skipU rfl rfl rfl (by with_reducible rfl) ?_); simp only [Act.put, List.setIfInBounds_toArray, List.set_cons_succ, List.set_cons_zero]) | (refine Mix.lex_part rfl rfl rfl rfl (fun hq => ?_) (fun hq => ?_) <;> (fail_if_success (guard_hyp hq :ₛ true = true)) <;> (fail_if_success (guard_hyp hq :ₛ false = false)) <;> first | (exfalso; cases hq; done) | (exfalso; simp only [decide_eq_true_eq, decide_eq_false_iff_not, beq_iff_eq, beq_eq_false_iff_ne, ne_eq, Int.not_lt, Int.not_le] at hq; omega) | simp only [Act.put, List.setIfInBounds_toArray, List.set_cons_succ, List.set_cons_zero]))); all_goals (refine Mix.lex_nil ?_)))
                go_ret
                exact ⟨_, _, by rw [HF7.out]; rfl, by rw [HF7.out]; exact P9.out⟩
          | false =>
            have HF5 := Lib.hid (HF4.out.trans (if_neg (by decide)))
            go_wp2_with (first | ((first | refine Mix.wpList_guarded rfl ?_ | refine Mix.wp_still (by kernel_rfl) (by kernel_rfl) ?_); (repeat' (first | (refine Mix.lex_quiet0 rfl rfl rfl ?_; intro K hK; go_big_quiet_op; go_big_quiet_on) | (refine Mix.lex_quietG rfl rfl rfl (by with_reducible rfl) rfl rfl ?_; intro K hK; go_big_quiet_op; go_big_quiet_on) | ((first | refine Mix.lex_skipT rfl rfl rfl (by with_reducible rfl) ?_ | refine Mix.lex_skipF rfl rfl rfl (by with_reducible rfl) ?_ | refine Mix.lex_skipU rfl rfl rfl (by with_reducible rfl) ?_); simp only [Act.put, List.setIfInBounds_toArray, List.set_cons_succ, List.set_cons_zero]) | (refine Mix.lex_part rfl rfl rfl rfl (fun hq => ?_) (fun hq => ?_) <;> (fail_if_success (guard_hyp hq :ₛ true = true)) <;> (fail_if_success (guard_hyp hq :ₛ false = false)) <;> first | (exfalso; cases hq; done) | (exfalso; simp only [decide_eq_true_eq, decide_eq_false_iff_not, beq_iff_eq, beq_eq_false_iff_ne, ne_eq, Int.not_lt, Int.not_le] at hq; omega) | simp only [Act.put, List.setIfInBounds_toArray, List.set_cons_succ, List.set_cons_zero]))); all_goals (refine Mix.lex_nil ?_)))
            refine (HHd.out _ P2.out).mono ?_
            rintro e u2 ⟨v', rs', rfl, hM⟩
            have M2 := Lib.hid hM
            clear hM HHd
            go_wp2_with (first | ((first | refine Mix.wpList_guarded rfl ?_ | refine Mix.wp_still (by kernel_rfl) (by kernel_rfl) ?_); (repeat' (first | (refine Mix.lex_quiet0 rfl rfl rfl ?_; intro K hK; go_big_quiet_op; go_big_quiet_on) | (refine Mix.lex_quietG rfl rfl rfl (by with_reducible rfl) rfl rfl ?_; intro K hK; go_big_quiet_op; go_big_quiet_on) | ((first | refine Mix.lex_skipT rfl rfl rfl (by with_reducible rfl) ?_ | refine Mix.lex_skipF rfl rfl rfl (by with_reducible rfl) ?_ | refine Mix.lex_skipU rfl rfl rfl (by with_reducible rfl) ?_); simp only [Act.put, List.setIfInBounds_toArray, List.set_cons_succ, List.set_cons_zero]) | (refine Mix.lex_part rfl rfl rfl rfl (fun hq => ?_) (fun hq => ?_) <;> (fail_if_success (guard_hyp hq :ₛ true = true)) <;> (fail_if_success (guard_hyp hq :ₛ false = false)) <;> first | (exfalso; cases hq; done) | (exfalso; simp only [decide_eq_true_eq, decide_eq_false_iff_not, beq_iff_eq, beq_eq_false_iff_ne, ne_eq, Int.not_lt, Int.not_le] at hq; omega) | simp only [Act.put, List.setIfInBounds_toArray, List.set_cons_succ, List.set_cons_zero]))); all_goals (refine Mix.lex_nil ?_)))
            go_ret
            exact ⟨v', rs', by rw [HF5.out]; rfl, by rw [HF5.out]; exact M2.out⟩
end Go.Proofs.YtnhaekifcieeoaaGreatDoor
