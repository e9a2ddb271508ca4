/- Put together: Rvf, Rst. -/
import Derived.Test.YtnhaekifcieeoaaGreatDoorPk11
import Derived.Test.YtnhaekifcieeoaaGreatDoorPk10
import Derived.Test.YtnhaekifcieeoaaGreatDoorPk09
import Derived.Test.YtnhaekifcieeoaaGreatDoorPk04
namespace Go.Proofs.YtnhaekifcieeoaaGreatDoor
open Go Go.RowKit
theorem RVar_c (s : Str) (hs : s.length ≤ 1000000) (w : World) :
    Calls Tryz.prog 58 #[S s] w fun e w' => e = .returned (.bool (varB s)) ∧ Ext w w' := by
  by_cases h1 : s.length < 1
  · have HB : Hid (varB s = false) := by
      have : s = [] := List.eq_nil_of_length_eq_zero (by omega)
      rw [this]; rfl
    have g1 : decide ((s.length : Int) < 1) = true := by rw [decide_eq_true_iff]; omega
    go_enter Tryz.func58, Tryz.ntmps58
    go_wp2_with fail
    go_ret
    exact ⟨ret_bool HB.out.symm, Only.refl _ _⟩
  have g1 : decide ((s.length : Int) < 1) = false := by rw [decide_eq_false_iff_not]; omega
  by_cases h2 : 4 < s.length
  · have HB : Hid (varB s = false) := by
      rw [Hid, varB, decide_eq_false (by omega)]
      simp
    have g2 : decide ((4 : Int) < (s.length : Int)) = true := by rw [decide_eq_true_iff]; omega
    go_enter Tryz.func58, Tryz.ntmps58
    go_wp2_with fail
    go_ret
    exact ⟨ret_bool HB.out.symm, Only.refl _ _⟩
  have g2 : decide ((4 : Int) < (s.length : Int)) = false := by rw [decide_eq_false_iff_not]; omega
  go_enter Tryz.func58, Tryz.ntmps58
  go_wp2_with fail
  go_loopw [3] (fun i wr => ∃ k : Nat, k ≤ s.length ∧ i = .int .i64 k ∧ ((s.take k).all fun c => decide (65 ≤ c.toNat) && decide (c.toNat ≤ 90)) = true ∧ ∃ ξ : X w No, wr = ξ.v) (fun i _ => s.length - (intOf i).toNat)
  case atStart => exact ⟨0, Nat.zero_le _, rfl, rfl, X.here _ _, rfl⟩
  case round =>
    obtain ⟨k, hk, rfl, hT, ξ, rfl⟩ := hrel
    have HT := Lib.hid hT
    clear hT
    by_cases hlt : k < s.length
    · obtain ⟨x, hx⟩ : ∃ x, s[k] = x := ⟨_, rfl⟩
      have hxs : s[k]? = some x := by rw [List.getElem?_eq_getElem hlt, hx]
      have hxl := x.toNat_lt
      by_cases h3 : 65 ≤ x.toNat ∧ x.toNat ≤ 90
      · have HB : Hid (((s.take (k + 1)).all fun c => decide (65 ≤ c.toNat) && decide (c.toNat ≤ 90)) = true) := by
          have hT := HT.out
          unfold Hid
          rw [List.take_add_one, hxs]
          simp only [Option.toList, List.all_append, hT, List.all_cons, List.all_nil, Bool.and_true, Bool.true_and]
          simp [h3.1, h3.2]
        obtain ⟨h3, h4⟩ := h3
        have g3 : decide ((x.toNat : Int) < 65) = false := by rw [decide_eq_false_iff_not]; omega
        have g4 : decide ((90 : Int) < (x.toNat : Int)) = false := by rw [decide_eq_false_iff_not]; omega
        clear hxs
        go_wp2_with fail
        go_roundw
        case rel => exact ⟨k + 1, by omega, by go_num, HB.out, ξ, rfl⟩
        case measure => simp [intOf]; omega
      · have HB : Hid (varB s = false) := by
          have : (s.all fun c => decide (65 ≤ c.toNat) && decide (c.toNat ≤ 90)) = false := by
            rw [List.all_eq_false]
            refine ⟨x, List.mem_of_getElem? hxs, ?_⟩
            simp only [Bool.and_eq_true, decide_eq_true_eq]
            exact h3
          unfold Hid varB
          rw [this]; rfl
        clear hxs
        by_cases h4 : x.toNat < 65
        · have g3 : decide ((x.toNat : Int) < 65) = true := by rw [decide_eq_true_iff]; omega
          go_wp2_with fail
          go_ret
          exact ⟨by rw [HB.out]; rfl, ξ.h⟩
        · have g3 : decide ((x.toNat : Int) < 65) = false := by rw [decide_eq_false_iff_not]; omega
          have g4 : decide ((90 : Int) < (x.toNat : Int)) = true := by rw [decide_eq_true_iff]; omega
          go_wp2_with fail
          go_ret
          exact ⟨by rw [HB.out]; rfl, ξ.h⟩
    · have HB : Hid (varB s = true) := by
        have hT := HT.out
        rw [List.take_of_length_le (by omega)] at hT
        have hne : (s == ([] : Str)) = false := by
          cases s with
          | nil => simp at h1
          | cons a l => rfl
        unfold Hid varB
        rw [hT, hne, decide_eq_true (by omega)]; rfl
      go_wp2_with fail
      go_ret
      exact ⟨by rw [HB.out]; rfl, ξ.h⟩
theorem fieldsF_blank (w r : Str) (h : (32 : UInt8) ∉ w) : fieldsF (w ++ 32 :: r) = (if w = [] then [] else [w]) ++ fieldsF r := by
  unfold fieldsF
  rw [splB_chunk 32 w _ h, splB_app, if_pos rfl]
  show List.filter neB ((w ++ []) :: splB 32 r) = _
  rw [List.append_nil]
  by_cases hw : w = []
  · subst hw; rfl
  · rw [if_neg hw, List.filter_cons_of_pos]
    · rfl
    · cases w with
      | nil => exact absurd rfl hw
      | cons a l => rfl
theorem fieldsF_end (w : Str) (h : (32 : UInt8) ∉ w) : fieldsF w = (if w = [] then [] else [w]) := by
  unfold fieldsF
  have := splB_chunk 32 w [] h
  rw [List.append_nil] at this
  rw [this]
  show List.filter neB [w ++ []] = _
  rw [List.append_nil]
  by_cases hw : w = []
  · subst hw; rfl
  · rw [if_neg hw]
    cases w with
    | nil => exact absurd rfl hw
    | cons a l => rfl
set_option maxRecDepth 100000 in
set_option maxHeartbeats 2000000 in
theorem RFields_c (s : Str) (hs : s.length ≤ 1000000) (w : World) :
    Calls Tryz.prog 83 #[S s] w fun e w' => ∃ A' c', e = .returned (.slice A' (fieldsF s).length c') ∧ Fresh strF 9 w w' A' c' (fieldsF s) := by
  go_enter Tryz.func83, Tryz.ntmps83
  go_wp2_with fail
  go_loopw [3, 4, 5] (fun z u i wr => ∃ k : Nat, k ≤ s.length ∧ i = .int .i64 k ∧ ∃ L v A c, z = .slice A L.length c ∧ u = S v ∧ Fresh strF 9 w wr A c L ∧ L.length ≤ k ∧ v.length ≤ k ∧ (32 : UInt8) ∉ v ∧ fieldsF s = L ++ fieldsF (v ++ s.drop k)) (fun _ _ i _ => s.length - (intOf i).toNat)
  case atStart => exact ⟨0, Nat.zero_le _, rfl, [], [], none, 0, rfl, rfl, Fresh.nil _ _ _ _ (Only.refl _ _), Nat.le_refl _, Nat.le_refl _, by simp, rfl⟩
  case round =>
    obtain ⟨k, hk, rfl, L, v, A, c, rfl, rfl, hF, hL, hv, h32, hE⟩ := hrel
    have F := Lib.hid hF
    have H32 := Lib.hid h32
    have HE := Lib.hid hE
    clear hF h32 hE
    by_cases hlt : k < s.length
    · obtain ⟨x, hx⟩ : ∃ x, s[k] = x := ⟨_, rfl⟩
      have hxs : s[k]? = some x := by rw [List.getElem?_eq_getElem hlt, hx]
      have HXs := Lib.hid hxs
      have hone : (s.take (k + 1)).drop k = [x] := by rw [List.take_add_one, hxs, List.drop_append_of_le_length (by simp; omega), List.drop_eq_nil_of_le (by simp; omega)]; rfl
      clear hxs
      by_cases h3 : x = 32
      · have e1 : ((x.toNat : Int) == 32) = true := by rw [h3]; rfl
        have HE2 : Hid (fieldsF s = L ++ ((if v = [] then [] else [v]) ++ fieldsF (s.drop (k + 1)))) := by
          rw [Hid, HE.out, drop_get HXs.out, h3, fieldsF_blank v _ H32.out]
        clear HE hone
        cases v with
        | nil =>
          go_wp2_with fail
          go_roundw
          case rel => exact ⟨k + 1, by omega, by go_num, L, [], A, c, rfl, rfl, F.out, by omega, Nat.zero_le _, by simp, by rw [HE2.out]; rfl⟩
          case measure => simp [intOf]; omega
        | cons a v =>
          have F4 := Lib.hid (F.out.on ((Only.refl No wr).alloc (.cells #[S (a :: v)] 9)))
          go_wp2_with (first | (at_builtin; go_must (refine wpList_append (v := .slice A L.length c) (n := L.length) (xs := L.flatMap strF.enc) rfl st_ty rfl rfl rfl F4.out.own (rd_one wr _ [S (a :: v)]) (by simp [Value.oneCell']) (by omega) ?_); intro A4 c4 w5 hown5 hg5 hb5; have F5 := Lib.hid (F4.out.grow (ys := [a :: v]) rfl hown5 hg5 hb5); clear hown5 hg5 hb5) | ((first | refine Mix.wpList_guarded rfl ?_ | refine Mix.wp_still (by kernel_rfl) (by kernel_rfl) ?_); (repeat' (first | (refine Mix.lex_quiet0 rfl rfl rfl ?_; intro K hK; go_big_quiet_op; go_big_quiet_on) | (refine Mix.lex_quietG rfl rfl rfl (by with_reducible rfl) rfl rfl ?_; intro K hK; go_big_quiet_op; go_big_quiet_on) | ((first | refine Mix.lex_skipT rfl rfl rfl (by with_reducible rfl) ?_ | refine Mix.lex_skipF rfl rfl rfl (by with_reducible rfl) ?_ | refine Mix.lex_skipU rfl rfl rfl (by with_reducible rfl) ?_); simp only [Act.put, List.setIfInBounds_toArray, List.set_cons_succ, List.set_cons_zero]) | (refine Mix.lex_part rfl rfl rfl rfl (fun hq => ?_) (fun hq => ?_) <;> (fail_if_success (guard_hyp hq :ₛ true = true)) <;> (fail_if_success (guard_hyp hq :ₛ false = false)) <;> first | (exfalso; cases hq; done) | (exfalso; simp only [decide_eq_true_eq, decide_eq_false_iff_not, beq_iff_eq, beq_eq_false_iff_ne, ne_eq, Int.not_lt, Int.not_le] at hq; omega) | simp only [Act.put, List.setIfInBounds_toArray, List.set_cons_succ, List.set_cons_zero]))); all_goals (refine Mix.lex_nil ?_)))
          go_roundw
          case rel => exact ⟨k + 1, by omega, by go_num, L ++ [a :: v], [], A4, c4, by simp, rfl, F5.out, by simp; omega, Nat.zero_le _, by simp, by rw [HE2.out]; simp⟩
          case measure => simp [intOf]; omega
      · have e1 : ((x.toNat : Int) == 32) = false := by
          rw [beq_eq_false_iff_ne]
          intro h
          exact h3 (UInt8.toNat_inj.1 (by show x.toNat = 32; omega))
        have HE2 : Hid (fieldsF s = L ++ fieldsF ((v ++ [x]) ++ s.drop (k + 1))) := by
          rw [Hid, HE.out, drop_get HXs.out]
          simp
        have H33 : Hid ((32 : UInt8) ∉ v ++ [x]) := by
          intro h
          rcases List.mem_append.1 h with h | h
          · exact H32.out h
          · rw [List.mem_singleton] at h
            exact h3 h.symm
        have hv2 : v.length ≤ 1000000 := by omega
        clear HE
        go_wp2_with fail
        go_roundw
        case rel => exact ⟨k + 1, by omega, by go_num, L, v ++ [x], A, c, rfl, by simp, F.out, by omega, by simp; omega, H33.out, HE2.out⟩
        case measure => simp [intOf]; omega
    · have HE2 : Hid (fieldsF s = L ++ (if v = [] then [] else [v])) := by
        rw [Hid, HE.out, List.drop_of_length_le (by omega), List.append_nil, fieldsF_end v H32.out]
      clear HE
      cases v with
      | nil =>
        go_wp2_with fail
        go_ret
        have e : fieldsF s = L := by rw [HE2.out]; simp
        exact ⟨A, c, by rw [e]; rfl, by rw [e]; exact F.out⟩
      | cons a v =>
        have F4 := Lib.hid (F.out.on ((Only.refl No wr).alloc (.cells #[S (a :: v)] 9)))
        go_wp2_with (first | (at_builtin; go_must (refine wpList_append (v := .slice A L.length c) (n := L.length) (xs := L.flatMap strF.enc) rfl st_ty rfl rfl rfl F4.out.own (rd_one wr _ [S (a :: v)]) (by simp [Value.oneCell']) (by omega) ?_); intro A4 c4 w5 hown5 hg5 hb5; have F5 := Lib.hid (F4.out.grow (ys := [a :: v]) rfl hown5 hg5 hb5); clear hown5 hg5 hb5) | ((first | refine Mix.wpList_guarded rfl ?_ | refine Mix.wp_still (by kernel_rfl) (by kernel_rfl) ?_); (repeat' (first | (refine Mix.lex_quiet0 rfl rfl rfl ?_; intro K hK; go_big_quiet_op; go_big_quiet_on) | (refine Mix.lex_quietG rfl rfl rfl (by with_reducible rfl) rfl rfl ?_; intro K hK; go_big_quiet_op; go_big_quiet_on) | ((first | refine Mix.lex_skipT rfl rfl rfl (by with_reducible rfl) ?_ | refine Mix.lex_skipF rfl rfl rfl (by with_reducible rfl) ?_ | refine Mix.lex_skipU rfl rfl rfl (by with_reducible rfl) ?_); simp only [Act.put, List.setIfInBounds_toArray, List.set_cons_succ, List.set_cons_zero]) | (refine Mix.lex_part rfl rfl rfl rfl (fun hq => ?_) (fun hq => ?_) <;> (fail_if_success (guard_hyp hq :ₛ true = true)) <;> (fail_if_success (guard_hyp hq :ₛ false = false)) <;> first | (exfalso; cases hq; done) | (exfalso; simp only [decide_eq_true_eq, decide_eq_false_iff_not, beq_iff_eq, beq_eq_false_iff_ne, ne_eq, Int.not_lt, Int.not_le] at hq; omega) | simp only [Act.put, List.setIfInBounds_toArray, List.set_cons_succ, List.set_cons_zero]))); all_goals (refine Mix.lex_nil ?_)))
        go_ret
        have e : fieldsF s = L ++ [a :: v] := by rw [HE2.out]; simp
        exact ⟨A4, c4, by rw [e, List.length_append]; rfl, by rw [e]; exact F5.out⟩
theorem cutB_fnd (c : UInt8) (s : Str) : (cutB c s = (s, [], false) ∧ fndI s [c] 0 = -1) ∨ ∃ i : Nat, fndI s [c] 0 = (i : Int) ∧ i + 1 ≤ s.length ∧ cutB c s = (s.take i, s.drop (i + 1), true) := by
  have := fndI_cut s [c]
  rw [cut_byte] at this
  exact this
set_option maxHeartbeats 1000000 in
theorem ROnce_c (s t : Str) (hs : s.length ≤ 1000000) (ht : t.length ≤ 1000000) (w : World) :
    Calls Tryz.prog 84 #[S s, S t] w fun e w' => e = .returned (S (onceF s t)) ∧ Ext w w' := by
  have HC := Lib.hid (rfind1_c s hs 37 0 (Nat.zero_le _) w)
  rcases cutB_fnd 37 s with ⟨h1, h2⟩ | ⟨i, h1, h2, h3⟩
  · have HO : Hid (onceF s t = s) := by
      rw [Hid, onceF, h1]; rfl
    rw [h2] at HC
    go_enter Tryz.func84, Tryz.ntmps84
    go_wp2_with fail
    refine (HC.out).mono ?_; rintro e uu ⟨rfl, hu⟩; obtain ⟨ξ1, hnew⟩ : ∃ ξ : X w No, ξ.v = uu := ⟨⟨uu, (X.here w No).h.then_ext hu⟩, rfl⟩; subst hnew; have Hξ1 := Lib.hid hu; clear hu
    go_wp2_with fail
    go_ret
    exact ⟨by rw [HO.out]; rfl, ξ1.h⟩
  · have HO : Hid (onceF s t = s.take i ++ (t ++ s.drop (i + 1))) := by
      rw [Hid, onceF, h3, ← List.append_assoc]; rfl
    rw [h1] at HC
    have hi : i ≤ 1000000 := by omega
    have g1 : decide ((i : Int) < 0) = false := by rw [decide_eq_false_iff_not]; omega
    go_enter Tryz.func84, Tryz.ntmps84
    go_wp2_with fail
    refine (HC.out).mono ?_; rintro e uu ⟨rfl, hu⟩; obtain ⟨ξ1, hnew⟩ : ∃ ξ : X w No, ξ.v = uu := ⟨⟨uu, (X.here w No).h.then_ext hu⟩, rfl⟩; subst hnew; have Hξ1 := Lib.hid hu; clear hu
    go_upto_region 4 with fail
    (refine Mix.wp_draw [] 100 (Cl (w) (No)) (by kernel_rfl) (by kernel_rfl) (Cl.drew_ ξ1) ?_; (repeat' (first | (refine Mix.lex_quiet0 rfl rfl rfl ?_; intro K hK; go_big_quiet_op; go_big_quiet_on) | (refine Mix.lex_quietG rfl rfl rfl (by with_reducible rfl) rfl rfl ?_; intro K hK; go_big_quiet_op; go_big_quiet_on) | ((first | refine Mix.lex_skipT rfl rfl rfl (by with_reducible rfl) ?_ | refine Mix.lex_skipF rfl rfl rfl (by with_reducible rfl) ?_ | refine Mix.lex_skipU rfl rfl rfl (by with_reducible rfl) ?_); simp only [Act.put, List.setIfInBounds_toArray, List.set_cons_succ, List.set_cons_zero]) | (refine Mix.lex_part rfl rfl rfl rfl (fun hq => ?_) (fun hq => ?_) <;> (fail_if_success (guard_hyp hq :ₛ true = true)) <;> (fail_if_success (guard_hyp hq :ₛ false = false)) <;> first | (exfalso; cases hq; done) | (exfalso; simp only [decide_eq_true_eq, decide_eq_false_iff_not, beq_iff_eq, beq_eq_false_iff_ne, ne_eq, Int.not_lt, Int.not_le] at hq; omega) | simp only [Act.put, List.setIfInBounds_toArray, List.set_cons_succ, List.set_cons_zero]))))
    all_goals (refine Mix.lex_nil ?_)
    go_wp2_with fail
    go_ret
    exact ⟨by rw [HO.out]; rfl, ξ1.h.drew⟩
theorem stem_ref (a b name : Str) (h : a.length + b.length < name.length) : (preB name a = true ∧ sufB name b = true) ↔ (name.take a.length = a ∧ name.drop (name.length - b.length) = b) := by
  unfold preB sufB
  simp only [Bool.and_eq_true, decide_eq_true_eq, beq_iff_eq]
  constructor
  · rintro ⟨⟨_, h1⟩, _, h2⟩; exact ⟨h1, h2⟩
  · rintro ⟨h1, h2⟩; exact ⟨⟨by omega, h1⟩, by omega, h2⟩
set_option maxRecDepth 100000 in
set_option maxHeartbeats 1000000 in
theorem RStem_c (pat name : Str) (hp : pat.length ≤ 100000) (hn : name.length ≤ 100000) (w : World) :
    Calls Tryz.prog 93 #[S pat, S name] w fun e w' => e = .returned (.tuple #[S (stemL pat name).1, .bool (stemL pat name).2]) ∧ Ext w w' := by
  have HC := Lib.hid (rfind1_c pat (by omega) 37 0 (Nat.zero_le _) w)
  rcases cutB_fnd 37 pat with ⟨h1, h2⟩ | ⟨i, h1, h2, h3⟩
  · have HO : Hid (stemL pat name = ([], false)) := by rw [Hid, stemL, h1, if_neg (by simp)]
    rw [h2] at HC
    rw [HO.out]
    clear h1 h2
    go_enter Tryz.func93, Tryz.ntmps93
    go_wp2_with fail
    refine (HC.out).mono ?_; rintro e uu ⟨rfl, hu⟩; obtain ⟨ξ1, hnew⟩ : ∃ ξ : X w No, ξ.v = uu := ⟨⟨uu, (X.here w No).h.then_ext hu⟩, rfl⟩; subst hnew; have Hξ1 := Lib.hid hu; clear hu
    go_wp2_with fail
    go_ret2
    exact ⟨rfl, ξ1.h⟩
  · have HO : Hid (stemL pat name = if i + (pat.drop (i + 1)).length < name.length ∧ name.take i = pat.take i ∧ name.drop (name.length - (pat.drop (i + 1)).length) = pat.drop (i + 1) then ((name.take (name.length - (pat.drop (i + 1)).length)).drop i, true) else ([], false)) := by
      have hl : (pat.take i).length = i := by rw [List.length_take]; omega
      rw [Hid, stemL, h3]
      simp only [hl, true_and]
      by_cases hlt : i + (pat.drop (i + 1)).length < name.length
      · have := stem_ref (pat.take i) (pat.drop (i + 1)) name (by rw [hl]; exact hlt)
        rw [hl] at this
        by_cases hq : preB name (pat.take i) = true ∧ sufB name (pat.drop (i + 1)) = true
        · rw [if_pos ⟨hlt, hq⟩, if_pos ⟨hlt, this.1 hq⟩]
        · rw [if_neg (fun h => hq h.2), if_neg (fun h => hq (this.2 h.2))]
      · rw [if_neg (fun h => hlt h.1), if_neg (fun h => hlt h.1)]
    rw [h1] at HC
    have g1 : decide ((i : Int) < 0) = false := by rw [decide_eq_false_iff_not]; omega
    clear h1 h3
    have hi1 : i + 1 ≤ pat.length := h2
    go_enter Tryz.func93, Tryz.ntmps93
    go_wp2_with fail
    refine (HC.out).mono ?_; rintro e uu ⟨rfl, hu⟩; obtain ⟨ξ1, hnew⟩ : ∃ ξ : X w No, ξ.v = uu := ⟨⟨uu, (X.here w No).h.then_ext hu⟩, rfl⟩; subst hnew; have Hξ1 := Lib.hid hu; clear hu
    go_upto_region 7 with fail
    have hmin : min i pat.length = i := by omega
    have hpl : (pat.drop (i + 1)).length = pat.length - (i + 1) := List.length_drop
    rw [hmin]
    rw [hpl] at HO
    by_cases hlt : i + (pat.length - (i + 1)) < name.length
    · obtain ⟨N, hN⟩ : ∃ N : Nat, ((name.length : Nat) : Int) - (i : Int) - ((pat.length - (i + 1) : Nat) : Int) = (N : Int) := ⟨name.length - i - (pat.length - (i + 1)), by omega⟩
      rw [hN]
      have hNn : i + N = name.length - (pat.length - (i + 1)) := by omega
      have hN1 : ¬ ((N : Int) < 1) := by omega
      have hN2 : i + N ≤ name.length := by omega
      have HN := Lib.hid hNn
      obtain ⟨p1, hp1⟩ : ∃ p, (name.take i == pat.take i) = p := ⟨_, rfl⟩
      obtain ⟨p2, hp2⟩ : ∃ p, (name.drop (i + N) == pat.drop (i + 1)) = p := ⟨_, rfl⟩
      have HP := Lib.hid (And.intro hp1 hp2)
      clear hNn hN hlt hpl
      cases p1 with
      | false =>
        have HE : Hid (stemL pat name = ([], false)) := HO.out.trans (if_neg fun h => by have := HP.out.1; rw [beq_eq_false_iff_ne] at this; exact this h.2.1)
        clear hp2
        go_wp2_with fail
        go_ret2
        exact ⟨by rw [HE.out]; rfl, ξ1.h⟩
      | true =>
        cases p2 with
        | false =>
          have HE : Hid (stemL pat name = ([], false)) := HO.out.trans (if_neg fun h => by have := HP.out.2; rw [beq_eq_false_iff_ne, HN.out] at this; exact this h.2.2)
          go_wp2_with fail
          go_ret2
          exact ⟨by rw [HE.out]; rfl, ξ1.h⟩
        | true =>
          have HE : Hid (stemL pat name = ((name.take (i + N)).drop i, true)) := by
            rw [Hid, HN.out]
            refine HO.out.trans (if_pos ⟨by have := HN.out; omega, by simpa using HP.out.1, ?_⟩)
            have := HP.out.2
            rw [HN.out] at this
            simpa using this
          go_wp2_with fail
          go_ret2
          exact ⟨by rw [HE.out]; rfl, ξ1.h⟩
    · have HE : Hid (stemL pat name = ([], false)) := HO.out.trans (if_neg fun h => hlt h.1)
      go_wp2_with fail
      go_ret2
      exact ⟨by rw [HE.out]; rfl, ξ1.h⟩
theorem two_cases (v : KeyV) (t f n k : Str) (hv : v = keyV t f n k) (p q : UInt8) (r : Str) : (([p, q] = ([36, 64] : Str) ∧ lookF v (p :: q :: r) = some t) ∨ ([p, q] = ([36, 60] : Str) ∧ lookF v (p :: q :: r) = some f) ∨ ([p, q] = ([36, 94] : Str) ∧ lookF v (p :: q :: r) = some n) ∨ ([p, q] = ([36, 42] : Str) ∧ lookF v (p :: q :: r) = some k)) ∨
    (([p, q] == ([36, 64] : Str)) = false ∧ ([p, q] == ([36, 60] : Str)) = false ∧ ([p, q] == ([36, 94] : Str)) = false ∧ ([p, q] == ([36, 42] : Str)) = false ∧ lookF v (p :: q :: r) = none) := by
  subst hv
  by_cases hp : p = 36
  · subst hp
    have hl : ∀ y : UInt8, lookF (keyV t f n k) (36 :: y :: r) = keyV t f n k y := fun y => by simp [lookF]
    by_cases h1 : q = 64
    · subst h1; exact .inl (.inl ⟨rfl, by rw [hl]; rfl⟩)
    by_cases h2 : q = 60
    · subst h2; exact .inl (.inr (.inl ⟨rfl, by rw [hl]; rfl⟩))
    by_cases h3 : q = 94
    · subst h3; exact .inl (.inr (.inr (.inl ⟨rfl, by rw [hl]; rfl⟩)))
    by_cases h4 : q = 42
    · subst h4; exact .inl (.inr (.inr (.inr ⟨rfl, by rw [hl]; rfl⟩)))
    · refine .inr ⟨?_, ?_, ?_, ?_, by rw [hl]; unfold keyV; rw [if_neg h1, if_neg h2, if_neg h3, if_neg h4]⟩ <;> simp [*]
  · refine .inr ⟨?_, ?_, ?_, ?_, by simp [lookF, hp]⟩ <;> simp [hp]
set_option maxRecDepth 100000 in
set_option maxHeartbeats 4000000 in
theorem RAuto_c {w : World} {At An : Option Addr} {nt nn ct cn : Nat} {ts ns : List Str} (ht : SlR strF w At nt ts) (h1 : 1 ≤ nt) (hn : SlR strF w An nn ns) (hn5 : nn ≤ 5) (s stem : Str) (hs : s.length ≤ 1000)
    (h2 : ∀ x ∈ ts, x.length ≤ 1000) (h3 : ∀ x ∈ ns, x.length ≤ 1000) (h4 : stem.length ≤ 1000) :
    Calls Tryz.prog 122 #[S s, .slice At nt ct, .slice An nn cn, S stem] w fun e w' => e = .returned (S (autoF (keyV (ts.headD []) (ns.headD []) (joinSp ns) stem) s)) ∧ Ext w w' := by
  have hjk : ∀ k, (joinSp (ns.take k)).length ≤ 5005 := fun k => by
    have a1 := joinSp_len (l := ns.take k) (K := 1000) fun x hx => h3 x (List.mem_of_mem_take hx)
    have a2 : (ns.take k).length * (1000 + 1) ≤ 5 * (1000 + 1) := Nat.mul_le_mul_right _ (by rw [List.length_take, hn.1]; omega)
    omega
  have hjl : (joinSp ns).length ≤ 5005 := by
    have := hjk nn
    rwa [List.take_of_length_le (by rw [hn.1]; exact Nat.le_refl _)] at this
  obtain ⟨bb, o, x, rfl, hx, c0⟩ := strs_get ht (k := 0) (by omega)
  have hx1 : ts.headD [] = x := by
    match ts, hx with
    | y :: r, hx => exact Option.some.inj hx
  have hxl := h2 x (List.mem_of_getElem? hx)
  have c00 : ∀ ξ : X w No, ξ.v.cell? ⟨bb, o, none⟩ = some (S x) := c0
  obtain ⟨f, hf⟩ : ∃ f, f = ns.headD [] := ⟨_, rfl⟩
  have hfl : f.length ≤ 1000 := by
    rw [hf]
    match ns, h3 with
    | [], _ => exact Nat.zero_le _
    | y :: r, h3 => exact h3 y (by simp)
  have HF : Hid (nn = 0 ∧ f = [] ∨ 0 < nn ∧ ∃ b2 o2, An = some ⟨b2, o2, none⟩ ∧ ∀ ξ : X w No, ξ.v.cell? ⟨b2, o2, none⟩ = some (S f)) := by
    rcases Nat.eq_zero_or_pos nn with h0 | h0
    · subst h0
      have := hn.nil_
      subst this
      exact .inl ⟨rfl, hf⟩
    · obtain ⟨b2, o2, y, e, hy, cy⟩ := strs_get hn (k := 0) h0
      have : f = y := by
        rw [hf]
        match ns, hy with
        | z :: r, hy => exact Option.some.inj hy
      exact .inr ⟨h0, b2, o2, e, fun ξ => by rw [this]; exact cy ξ⟩
  rw [hx1, ← hf]
  obtain ⟨v, hv⟩ : ∃ v, v = keyV x f (joinSp ns) stem := ⟨_, rfl⟩
  have hAl : (autoF v s).length ≤ 100000000 := by
    rw [hv]
    have a1 := autoF_len (keyV_len (K := 5005) (t := x) (f := f) (n := joinSp ns) (k := stem) (by omega) (by omega) hjl (by omega)) s
    have a2 : s.length * (5005 + 1) ≤ 1000 * (5005 + 1) := Nat.mul_le_mul_right _ hs
    omega
  rw [← hv]
  have HA := Lib.hid hAl
  have HV := Lib.hid hv
  have HN := Lib.hid (And.intro hn (And.intro h3 hjk))
  clear ht hn h2 h3 hx hf c0 hx1 hAl hv hjk
  go_enter Tryz.func122, Tryz.ntmps122
  go_wp2_with fail
  go_loopw [9, 10] (fun x9 x10 wr => ∃ (i : Nat) (B : Str), i ≤ s.length ∧ x9 = S B ∧ x10 = .int .i64 (i : Int) ∧ autoF v s = B ++ autoF v (s.drop i) ∧ ∃ ξ : X w No, wr = ξ.v) (fun _ x10 _ => s.length - (intOf x10).toNat)
  case atStart => exact ⟨0, [], Nat.zero_le _, rfl, rfl, rfl, X.here _ _, rfl⟩
  case round =>
    obtain ⟨i, B, hi, rfl, rfl, hE, ξ, rfl⟩ := hrel
    have hBl : B.length ≤ 100000000 := by
      have h1 := congrArg List.length hE
      rw [List.length_append] at h1
      have := HA.out
      omega
    have HE := Lib.hid hE
    clear hE
    by_cases hlt : i < s.length
    · have hx1 : List.drop i (List.take (i + 1) s) = [s[i]] := by
        rw [List.take_add_one, List.getElem?_eq_getElem hlt, List.drop_append_of_le_length (by rw [List.length_take]; omega), List.drop_eq_nil_of_le (by rw [List.length_take]; omega)]
        rfl
      have hdn : s.drop i = s[i] :: s.drop (i + 1) := List.drop_eq_getElem_cons hlt
      have hmiss : lookF v (s.drop i) = none → autoF v s = (B ++ [s[i]]) ++ autoF v (s.drop (i + 1)) := fun hn => by
        rw [HE.out, autoF_drop_miss hn hlt]; simp
      have HM := Lib.hid hmiss
      clear hmiss
      by_cases hl2 : i + 1 < s.length
      · obtain ⟨q, hq⟩ : ∃ q, q = s[i + 1] := ⟨_, rfl⟩
        have hd2 : s.drop i = s[i] :: q :: s.drop (i + 2) := by rw [hdn, List.drop_eq_getElem_cons hl2, hq]
        have htw : List.drop i (List.take (i + 2) s) = [s[i], q] := by
          rw [show i + 2 = (i + 1) + 1 from rfl, List.take_add_one, List.getElem?_eq_getElem hl2, List.drop_append_of_le_length (by rw [List.length_take]; omega), hx1, hq]
          rfl
        clear hq
        rcases two_cases v x f (joinSp ns) stem HV.out s[i] q (s.drop (i + 2)) with (⟨hk2, hk⟩ | ⟨hk2, hk⟩ | ⟨hk2, hk⟩ | ⟨hk2, hk⟩) | ⟨e1, e2, e3, e4, hk⟩
        · have HL : Hid (autoF v s = B ++ x ++ autoF v (s.drop (i + 2))) := by
            have hq : lookF v (s.drop i) = some x := by rw [hd2]; exact hk
            rw [Hid, HE.out, (autoF_drop_hit hq).1, List.append_assoc]
          rw [hk2] at htw
          clear hk hk2 hdn hd2 HM
          go_wp2_with fail
          go_roundw
          case rel => exact ⟨i + 2, B ++ x, by omega, rfl, by go_num, HL.out, ξ, rfl⟩
          case measure => simp [intOf]; omega
        · have HL : Hid (autoF v s = B ++ f ++ autoF v (s.drop (i + 2))) := by
            have hq : lookF v (s.drop i) = some f := by rw [hd2]; exact hk
            rw [Hid, HE.out, (autoF_drop_hit hq).1, List.append_assoc]
          rw [hk2] at htw
          clear hk hk2 hdn hd2 HM
          have hsp : nn = 0 ∧ f = [] ∨ 0 < nn ∧ ∃ b2 o2, An = some ⟨b2, o2, none⟩ ∧ ∀ ξ : X w No, ξ.v.cell? ⟨b2, o2, none⟩ = some (S f) := HF.out
          rcases hsp with ⟨hnn, hff⟩ | ⟨h0, b2, o2, rfl, cf⟩
          · subst hnn; subst hff
            go_wp2_with fail
            go_roundw
            case rel => exact ⟨i + 2, B ++ [], by omega, by simp, by go_num, HL.out, ξ, rfl⟩
            case measure => simp [intOf]; omega
          · go_wp2_with fail
            go_roundw
            case rel => exact ⟨i + 2, B ++ f, by omega, rfl, by go_num, HL.out, ξ, rfl⟩
            case measure => simp [intOf]; omega
        · have HL : Hid (autoF v s = B ++ (joinSp ns) ++ autoF v (s.drop (i + 2))) := by
            have hq : lookF v (s.drop i) = some (joinSp ns) := by rw [hd2]; exact hk
            rw [Hid, HE.out, (autoF_drop_hit hq).1, List.append_assoc]
          rw [hk2] at htw
          clear hk hk2 hdn hd2 HM
          go_wp2_with fail
          go_loopw [12, 13] (fun x12 x13 ws => ∃ k : Nat, k ≤ nn ∧ x12 = S (joinSp (ns.take k)) ∧ x13 = .int .i64 (k : Int) ∧ ws = ξ.v) (fun _ x13 _ => nn - (intOf x13).toNat)
          case atStart => exact ⟨0, Nat.zero_le _, rfl, rfl, rfl⟩
          case round =>
            obtain ⟨k, hk, rfl, rfl, rfl⟩ := hrel
            have hj := HN.out.2.2 k
            by_cases hkn : k < nn
            · obtain ⟨b2, o2, y, rfl, hy, cy⟩ := strs_get HN.out.1 hkn
              have hyl := HN.out.2.1 y (List.mem_of_getElem? hy)
              have HS : Hid (joinSp (ns.take (k + 1)) = if k = 0 then y else joinSp (ns.take k) ++ 32 :: y) := by
                rw [Hid, List.take_add_one, hy]
                by_cases hk0 : k = 0
                · subst hk0; rw [if_pos rfl]; rfl
                · rw [if_neg hk0]
                  refine joinSp_snoc _ y fun e => ?_
                  have := congrArg List.length e
                  rw [List.length_take, HN.out.1.1] at this
                  have this : min k nn = 0 := this
                  omega
              clear hy
              by_cases hk0 : k = 0
              · subst hk0
                have hj0 : (joinSp []).length = 0 := rfl
                have cy0 : ∀ ξ : X w No, ξ.v.cell? ⟨b2, o2, none⟩ = some (S y) := cy
                go_wp2_with fail
                go_roundw
                case rel => exact ⟨0 + 1, by omega, by rw [HS.out] <;> simp [joinSp], by go_num, by trivial⟩
                case measure => simp [intOf]; omega
              · have hk1 : (0 : Int) < (k : Int) := by omega
                have HK := Lib.hid hk0
                clear hk0
                go_wp2_with fail
                go_roundw
                case rel => exact ⟨k + 1, by omega, by rw [HS.out, if_neg HK.out] <;> simp, by go_num, by trivial⟩
                case measure => simp [intOf]; omega
            · obtain rfl : k = nn := by omega
              have HT : Hid (ns.take k = ns) := List.take_of_length_le (by rw [HN.out.1.1]; exact Nat.le_refl _)
              rw [HT.out]
              clear hk hkn hj
              go_wp2_with fail
              go_roundw
              case rel => exact ⟨i + 2, B ++ (joinSp ns), by omega, rfl, by go_num, HL.out, ξ, rfl⟩
              case measure => simp [intOf]; omega
        · have HL : Hid (autoF v s = B ++ stem ++ autoF v (s.drop (i + 2))) := by
            have hq : lookF v (s.drop i) = some stem := by rw [hd2]; exact hk
            rw [Hid, HE.out, (autoF_drop_hit hq).1, List.append_assoc]
          rw [hk2] at htw
          clear hk hk2 hdn hd2 HM
          go_wp2_with fail
          go_roundw
          case rel => exact ⟨i + 2, B ++ stem, by omega, rfl, by go_num, HL.out, ξ, rfl⟩
          case measure => simp [intOf]; omega
        · have HD : Hid (lookF v (s.drop i) = none) := by rw [Hid, hd2]; exact hk
          clear hk hdn hd2
          go_wp2_with fail
          go_roundw
          case rel => exact ⟨i + 1, B ++ [s[i]], by omega, rfl, by go_num, HM.out HD.out, ξ, rfl⟩
          case measure => simp [intOf]; omega
      · have HD : Hid (lookF v (s.drop i) = none) := by
          rw [hdn, List.drop_eq_nil_of_le (by omega)]; rfl
        clear hdn
        go_wp2_with fail
        go_roundw
        case rel => exact ⟨i + 1, B ++ [s[i]], by omega, rfl, by go_num, HM.out HD.out, ξ, rfl⟩
        case measure => simp [intOf]; omega
    · have HB : Hid (autoF v s = B) := by
        rw [Hid, HE.out, List.drop_eq_nil_of_le (by omega)]; simp [autoF]
      go_wp2_with fail
      go_ret
      exact ⟨by rw [HB.out]; rfl, ξ.h⟩
end Go.Proofs.YtnhaekifcieeoaaGreatDoor
