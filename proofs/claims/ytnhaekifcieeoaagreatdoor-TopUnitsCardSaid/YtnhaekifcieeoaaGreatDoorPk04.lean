/- Put together: Find, Files1, Grf, Own3, MkM, MkH, Errs. -/
import Derived.Test.YtnhaekifcieeoaaGreatDoorPk03
import Derived.Test.YtnhaekifcieeoaaGreatDoorPkS
import Derived.Test.YtnhaekifcieeoaaGreatDoorPk02
import Derived.Test.YtnhaekifcieeoaaGreatDoorProg
namespace Go.Proofs.YtnhaekifcieeoaaGreatDoor
open Go Go.RowKit
theorem Compare_c (a b : Str) (w : World) : Calls Tryz.prog 72 #[S a, S b] w fun e w' => e = .returned (.int .i64 (cmpS a b)) ∧ Ext w w' := by
  refine (Tryz.strings_Compare _ _ w).mono ?_
  rintro e w' ⟨rfl, rfl⟩
  exact ⟨rfl, Only.refl _ _⟩
theorem find1_c (f : File) (k : Str) (w : World) : Calls Tryz.prog 71 #[.agg #[S f.1, S f.2], S k] w fun e w' => e = .returned (.int .i64 (cmpS f.1 k)) ∧ Ext w w' := by
  go_enter Tryz.func71, Tryz.ntmps71
  go_wp2_with fail
  refine (Compare_c f.1 k _).mono ?_
  rintro e u ⟨rfl, hu⟩
  go_wp2_with fail
  go_ret
  exact ⟨rfl, ((Only.refl No w).alloc _).then_ext hu⟩
set_option maxRecDepth 100000 in
set_option maxHeartbeats 1000000 in
theorem BsFile_c {w : World} {A : Option Addr} {n c : Nat} {xs : List File} (h : SlR fileF w A n xs) (hn : n ≤ 1000000) (k : Str) (hr : Rise (·.1) xs) :
    Calls Tryz.prog 70 #[.slice A n c, S k, .func (.func 71) #[] #[]] w fun e w' => e = .returned (.tuple #[.int .i64 (posOf (·.1) xs k : Nat), .bool (hasAt (·.1) xs k)]) ∧ Ext w w' := by
  have HR := Lib.hid hr
  clear hr
  go_enter Tryz.func70, Tryz.ntmps70
  go_wp2_with (first | ((first | refine Mix.wpList_guarded rfl ?_ | refine Mix.wp_still (by kernel_rfl) (by kernel_rfl) ?_); (repeat' (first | (refine Mix.lex_quiet0 rfl rfl rfl ?_; intro K hK; go_big_quiet_op; go_big_quiet_on) | (refine Mix.lex_quietG rfl rfl rfl (by with_reducible rfl) rfl rfl ?_; intro K hK; go_big_quiet_op; go_big_quiet_on) | ((first | refine Mix.lex_skipT rfl rfl rfl (by with_reducible rfl) ?_ | refine Mix.lex_skipF rfl rfl rfl (by with_reducible rfl) ?_ | refine Mix.lex_skipU rfl rfl rfl (by with_reducible rfl) ?_); simp only [Act.put, List.setIfInBounds_toArray, List.set_cons_succ, List.set_cons_zero]) | (refine Mix.lex_part rfl rfl rfl rfl (fun hq => ?_) (fun hq => ?_) <;> (fail_if_success (guard_hyp hq :ₛ true = true)) <;> (fail_if_success (guard_hyp hq :ₛ false = false)) <;> first | (exfalso; cases hq; done) | (exfalso; simp only [decide_eq_true_eq, decide_eq_false_iff_not, beq_iff_eq, beq_eq_false_iff_ne, ne_eq, Int.not_lt, Int.not_le] at hq; omega) | simp only [Act.put, List.setIfInBounds_toArray, List.set_cons_succ, List.set_cons_zero]))); all_goals (refine Mix.lex_nil ?_)))
  go_loopw [9, 10] (fun i j wr => ∃ a b : Nat, a ≤ b ∧ b ≤ n ∧ i = .int .i64 a ∧ j = .int .i64 b ∧ (∀ p x, p < a → xs[p]? = some x → x.1 < k) ∧ (∀ p x, b ≤ p → xs[p]? = some x → ¬ x.1 < k) ∧ ∃ ξ : X w No, wr = ξ.v) (fun i j _ => (intOf j - intOf i).toNat)
  case atStart => exact ⟨0, n, Nat.zero_le _, Nat.le_refl _, rfl, rfl, fun p x hp => by omega, fun p x hp hx => (by have := (List.getElem?_eq_some_iff.1 hx).1; have := h.1; omega), X.here _ _, rfl⟩
  case round =>
    obtain ⟨a, b, hab, hbn, rfl, rfl, h1, h2, ξ, rfl⟩ := hrel
    have H1 := Lib.hid h1
    have H2 := Lib.hid h2
    clear h1 h2
    by_cases hlt : a < b
    · obtain ⟨bk, o, x, rfl, hx, c0, c1⟩ := files_get h (k := (a + b) / 2) (by omega)
      have HX := Lib.hid hx
      clear hx
      have hd := cmpS_lt x.1 k
      have HF := Lib.hid (fun w => find1_c x k w)
      obtain ⟨m, hm⟩ : ∃ m, m = cmpS x.1 k := ⟨_, rfl⟩
      rw [← hm] at hd HF
      clear hm
      by_cases hxk : x.1 < k
      · rw [decide_eq_true hxk] at hd
        have HK := Lib.hid hxk
        clear hxk
        go_wp2_with (first | ((first | refine Mix.wpList_guarded rfl ?_ | refine Mix.wp_still (by kernel_rfl) (by kernel_rfl) ?_); (repeat' (first | (refine Mix.lex_quiet0 rfl rfl rfl ?_; intro K hK; go_big_quiet_op; go_big_quiet_on) | (refine Mix.lex_quietG rfl rfl rfl (by with_reducible rfl) rfl rfl ?_; intro K hK; go_big_quiet_op; go_big_quiet_on) | ((first | refine Mix.lex_skipT rfl rfl rfl (by with_reducible rfl) ?_ | refine Mix.lex_skipF rfl rfl rfl (by with_reducible rfl) ?_ | refine Mix.lex_skipU rfl rfl rfl (by with_reducible rfl) ?_); simp only [Act.put, List.setIfInBounds_toArray, List.set_cons_succ, List.set_cons_zero]) | (refine Mix.lex_part rfl rfl rfl rfl (fun hq => ?_) (fun hq => ?_) <;> (fail_if_success (guard_hyp hq :ₛ true = true)) <;> (fail_if_success (guard_hyp hq :ₛ false = false)) <;> first | (exfalso; cases hq; done) | (exfalso; simp only [decide_eq_true_eq, decide_eq_false_iff_not, beq_iff_eq, beq_eq_false_iff_ne, ne_eq, Int.not_lt, Int.not_le] at hq; omega) | simp only [Act.put, List.setIfInBounds_toArray, List.set_cons_succ, List.set_cons_zero]))); all_goals (refine Mix.lex_nil ?_)))
        refine (HF.out _).mono ?_
        rintro e u ⟨rfl, hu⟩
        have U := Lib.hid (ξ.h.then_ext hu)
        clear hu
        go_wp2_with (first | ((first | refine Mix.wpList_guarded rfl ?_ | refine Mix.wp_still (by kernel_rfl) (by kernel_rfl) ?_); (repeat' (first | (refine Mix.lex_quiet0 rfl rfl rfl ?_; intro K hK; go_big_quiet_op; go_big_quiet_on) | (refine Mix.lex_quietG rfl rfl rfl (by with_reducible rfl) rfl rfl ?_; intro K hK; go_big_quiet_op; go_big_quiet_on) | ((first | refine Mix.lex_skipT rfl rfl rfl (by with_reducible rfl) ?_ | refine Mix.lex_skipF rfl rfl rfl (by with_reducible rfl) ?_ | refine Mix.lex_skipU rfl rfl rfl (by with_reducible rfl) ?_); simp only [Act.put, List.setIfInBounds_toArray, List.set_cons_succ, List.set_cons_zero]) | (refine Mix.lex_part rfl rfl rfl rfl (fun hq => ?_) (fun hq => ?_) <;> (fail_if_success (guard_hyp hq :ₛ true = true)) <;> (fail_if_success (guard_hyp hq :ₛ false = false)) <;> first | (exfalso; cases hq; done) | (exfalso; simp only [decide_eq_true_eq, decide_eq_false_iff_not, beq_iff_eq, beq_eq_false_iff_ne, ne_eq, Int.not_lt, Int.not_le] at hq; omega) | simp only [Act.put, List.setIfInBounds_toArray, List.set_cons_succ, List.set_cons_zero]))); all_goals (refine Mix.lex_nil ?_)))
        go_roundw
        case rel =>
          refine ⟨(a + b) / 2 + 1, b, by omega, hbn, by go_num, rfl, fun p y hp hy => ?_, H2.out, ⟨_, U.out⟩, rfl⟩
          by_cases e : p = (a + b) / 2
          · subst e
            rw [HX.out] at hy
            injection hy with hy
            exact hy ▸ HK.out
          · exact slt_trans (HR.out.at_lt (show p < (a + b) / 2 by omega) hy HX.out) HK.out
        case measure => simp [intOf]; omega
      · rw [decide_eq_false hxk] at hd
        have HK := Lib.hid hxk
        clear hxk
        go_wp2_with (first | ((first | refine Mix.wpList_guarded rfl ?_ | refine Mix.wp_still (by kernel_rfl) (by kernel_rfl) ?_); (repeat' (first | (refine Mix.lex_quiet0 rfl rfl rfl ?_; intro K hK; go_big_quiet_op; go_big_quiet_on) | (refine Mix.lex_quietG rfl rfl rfl (by with_reducible rfl) rfl rfl ?_; intro K hK; go_big_quiet_op; go_big_quiet_on) | ((first | refine Mix.lex_skipT rfl rfl rfl (by with_reducible rfl) ?_ | refine Mix.lex_skipF rfl rfl rfl (by with_reducible rfl) ?_ | refine Mix.lex_skipU rfl rfl rfl (by with_reducible rfl) ?_); simp only [Act.put, List.setIfInBounds_toArray, List.set_cons_succ, List.set_cons_zero]) | (refine Mix.lex_part rfl rfl rfl rfl (fun hq => ?_) (fun hq => ?_) <;> (fail_if_success (guard_hyp hq :ₛ true = true)) <;> (fail_if_success (guard_hyp hq :ₛ false = false)) <;> first | (exfalso; cases hq; done) | (exfalso; simp only [decide_eq_true_eq, decide_eq_false_iff_not, beq_iff_eq, beq_eq_false_iff_ne, ne_eq, Int.not_lt, Int.not_le] at hq; omega) | simp only [Act.put, List.setIfInBounds_toArray, List.set_cons_succ, List.set_cons_zero]))); all_goals (refine Mix.lex_nil ?_)))
        refine (HF.out _).mono ?_
        rintro e u ⟨rfl, hu⟩
        have U := Lib.hid (ξ.h.then_ext hu)
        clear hu
        go_wp2_with (first | ((first | refine Mix.wpList_guarded rfl ?_ | refine Mix.wp_still (by kernel_rfl) (by kernel_rfl) ?_); (repeat' (first | (refine Mix.lex_quiet0 rfl rfl rfl ?_; intro K hK; go_big_quiet_op; go_big_quiet_on) | (refine Mix.lex_quietG rfl rfl rfl (by with_reducible rfl) rfl rfl ?_; intro K hK; go_big_quiet_op; go_big_quiet_on) | ((first | refine Mix.lex_skipT rfl rfl rfl (by with_reducible rfl) ?_ | refine Mix.lex_skipF rfl rfl rfl (by with_reducible rfl) ?_ | refine Mix.lex_skipU rfl rfl rfl (by with_reducible rfl) ?_); simp only [Act.put, List.setIfInBounds_toArray, List.set_cons_succ, List.set_cons_zero]) | (refine Mix.lex_part rfl rfl rfl rfl (fun hq => ?_) (fun hq => ?_) <;> (fail_if_success (guard_hyp hq :ₛ true = true)) <;> (fail_if_success (guard_hyp hq :ₛ false = false)) <;> first | (exfalso; cases hq; done) | (exfalso; simp only [decide_eq_true_eq, decide_eq_false_iff_not, beq_iff_eq, beq_eq_false_iff_ne, ne_eq, Int.not_lt, Int.not_le] at hq; omega) | simp only [Act.put, List.setIfInBounds_toArray, List.set_cons_succ, List.set_cons_zero]))); all_goals (refine Mix.lex_nil ?_)))
        go_roundw
        case rel =>
          refine ⟨a, (a + b) / 2, by omega, by omega, rfl, by go_num, H1.out, fun p y hp hy => ?_, ⟨_, U.out⟩, rfl⟩
          by_cases e : p = (a + b) / 2
          · subst e
            rw [HX.out] at hy
            injection hy with hy
            exact hy ▸ HK.out
          · exact fun hl => HK.out (slt_trans (HR.out.at_lt (show (a + b) / 2 < p by omega) HX.out hy) hl)
        case measure => simp [intOf]; omega
    · obtain rfl : a = b := by omega
      have HP : Hid (posOf (·.1) xs k = a) := posOf_of (by rw [h.1]; exact hbn) H1.out (fun x hx => H2.out a x (Nat.le_refl _) hx)
      have HB : Hid (hasAt (·.1) xs k = match xs[a]? with | some x => decide (x.1 = k) | none => false) := by unfold Hid hasAt; rw [HP.out]; cases xs[a]? <;> rfl
      clear H1 H2
      by_cases han : a < n
      · obtain ⟨bk, o, x, rfl, hx, c0, c1⟩ := files_get h han
        have HB' : Hid (hasAt (·.1) xs k = decide (x.1 = k)) := by unfold Hid; rw [HB.out, hx]
        clear hx HB
        have hd := cmpS_eq x.1 k
        have HF := Lib.hid (fun w => find1_c x k w)
        obtain ⟨m, hm⟩ : ∃ m, m = cmpS x.1 k := ⟨_, rfl⟩
        rw [← hm] at hd HF
        obtain ⟨bb, hbb⟩ : ∃ bb, bb = decide (x.1 = k) := ⟨_, rfl⟩
        rw [← hbb] at hd HB'
        clear hm hbb
        have hk : decide ((a : Int) < (n : Int)) = true := by simp; omega
        go_upto_region 8 with fail
        refine Mix.wp_plain [11] (Cl w No) (Cl.of ξ.h) ?_
        (repeat' (first | (refine Mix.lex_quiet0 rfl rfl rfl ?_; intro K hK; go_big_quiet_op; go_big_quiet_on) | (refine Mix.lex_quietG rfl rfl rfl (by with_reducible rfl) rfl rfl ?_; intro K hK; go_big_quiet_op; go_big_quiet_on) | ((first | refine Mix.lex_skipT rfl rfl rfl (by with_reducible rfl) ?_ | refine Mix.lex_skipF rfl rfl rfl (by with_reducible rfl) ?_ | refine Mix.lex_skipU rfl rfl rfl (by with_reducible rfl) ?_); simp only [Act.put, List.setIfInBounds_toArray, List.set_cons_succ, List.set_cons_zero]) | (refine Mix.lex_part rfl rfl rfl rfl (fun hq => ?_) (fun hq => ?_) <;> (fail_if_success (guard_hyp hq :ₛ true = true)) <;> (fail_if_success (guard_hyp hq :ₛ false = false)) <;> first | (exfalso; cases hq; done) | (exfalso; simp only [decide_eq_true_eq, decide_eq_false_iff_not, beq_iff_eq, beq_eq_false_iff_ne, ne_eq, Int.not_lt, Int.not_le] at hq; omega) | simp only [Act.put, List.setIfInBounds_toArray, List.set_cons_succ, List.set_cons_zero])))
        ((first | refine Mix.lex_goes0 rfl rfl ?_ | refine Mix.lex_goesG rfl rfl rfl (by with_reducible rfl) rfl ?_); intro K hK; go_simp)
        refine (HF.out _).mono ?_
        rintro e u ⟨rfl, hu⟩
        have U := Lib.hid (ξ.h.then_ext hu)
        refine ⟨_, rfl, hK _ _ (fun _ => Cl.of U.out) ?_⟩
        clear hK K hu
        simp only [Act.put, List.setIfInBounds_toArray, List.set_cons_succ, List.set_cons_zero]
        (repeat' (first | (refine Mix.lex_quiet0 rfl rfl rfl ?_; intro K hK; go_big_quiet_op; go_big_quiet_on) | (refine Mix.lex_quietG rfl rfl rfl (by with_reducible rfl) rfl rfl ?_; intro K hK; go_big_quiet_op; go_big_quiet_on) | ((first | refine Mix.lex_skipT rfl rfl rfl (by with_reducible rfl) ?_ | refine Mix.lex_skipF rfl rfl rfl (by with_reducible rfl) ?_ | refine Mix.lex_skipU rfl rfl rfl (by with_reducible rfl) ?_); simp only [Act.put, List.setIfInBounds_toArray, List.set_cons_succ, List.set_cons_zero]) | (refine Mix.lex_part rfl rfl rfl rfl (fun hq => ?_) (fun hq => ?_) <;> (fail_if_success (guard_hyp hq :ₛ true = true)) <;> (fail_if_success (guard_hyp hq :ₛ false = false)) <;> first | (exfalso; cases hq; done) | (exfalso; simp only [decide_eq_true_eq, decide_eq_false_iff_not, beq_iff_eq, beq_eq_false_iff_ne, ne_eq, Int.not_lt, Int.not_le] at hq; omega) | simp only [Act.put, List.setIfInBounds_toArray, List.set_cons_succ, List.set_cons_zero])))
        refine Mix.lex_nil ?_
        go_wp2_with (first | ((first | refine Mix.wpList_guarded rfl ?_ | refine Mix.wp_still (by kernel_rfl) (by kernel_rfl) ?_); (repeat' (first | (refine Mix.lex_quiet0 rfl rfl rfl ?_; intro K hK; go_big_quiet_op; go_big_quiet_on) | (refine Mix.lex_quietG rfl rfl rfl (by with_reducible rfl) rfl rfl ?_; intro K hK; go_big_quiet_op; go_big_quiet_on) | ((first | refine Mix.lex_skipT rfl rfl rfl (by with_reducible rfl) ?_ | refine Mix.lex_skipF rfl rfl rfl (by with_reducible rfl) ?_ | refine Mix.lex_skipU rfl rfl rfl (by with_reducible rfl) ?_); simp only [Act.put, List.setIfInBounds_toArray, List.set_cons_succ, List.set_cons_zero]) | (refine Mix.lex_part rfl rfl rfl rfl (fun hq => ?_) (fun hq => ?_) <;> (fail_if_success (guard_hyp hq :ₛ true = true)) <;> (fail_if_success (guard_hyp hq :ₛ false = false)) <;> first | (exfalso; cases hq; done) | (exfalso; simp only [decide_eq_true_eq, decide_eq_false_iff_not, beq_iff_eq, beq_eq_false_iff_ne, ne_eq, Int.not_lt, Int.not_le] at hq; omega) | simp only [Act.put, List.setIfInBounds_toArray, List.set_cons_succ, List.set_cons_zero]))); all_goals (refine Mix.lex_nil ?_)))
        go_ret2
        exact ⟨(by rw [HP.out, HB'.out]; try rfl), U.out⟩
      · have hk : decide ((a : Int) < (n : Int)) = false := by simp; omega
        have HB' : Hid (hasAt (·.1) xs k = false) := by
          have : xs[a]? = none := List.getElem?_eq_none (by rw [h.1]; omega)
          unfold Hid
          rw [HB.out, this]
        clear HB
        go_wp2_with (first | ((first | refine Mix.wpList_guarded rfl ?_ | refine Mix.wp_still (by kernel_rfl) (by kernel_rfl) ?_); (repeat' (first | (refine Mix.lex_quiet0 rfl rfl rfl ?_; intro K hK; go_big_quiet_op; go_big_quiet_on) | (refine Mix.lex_quietG rfl rfl rfl (by with_reducible rfl) rfl rfl ?_; intro K hK; go_big_quiet_op; go_big_quiet_on) | ((first | refine Mix.lex_skipT rfl rfl rfl (by with_reducible rfl) ?_ | refine Mix.lex_skipF rfl rfl rfl (by with_reducible rfl) ?_ | refine Mix.lex_skipU rfl rfl rfl (by with_reducible rfl) ?_); simp only [Act.put, List.setIfInBounds_toArray, List.set_cons_succ, List.set_cons_zero]) | (refine Mix.lex_part rfl rfl rfl rfl (fun hq => ?_) (fun hq => ?_) <;> (fail_if_success (guard_hyp hq :ₛ true = true)) <;> (fail_if_success (guard_hyp hq :ₛ false = false)) <;> first | (exfalso; cases hq; done) | (exfalso; simp only [decide_eq_true_eq, decide_eq_false_iff_not, beq_iff_eq, beq_eq_false_iff_ne, ne_eq, Int.not_lt, Int.not_le] at hq; omega) | simp only [Act.put, List.setIfInBounds_toArray, List.set_cons_succ, List.set_cons_zero]))); all_goals (refine Mix.lex_nil ?_)))
        all_goals (go_ret2; exact ⟨(by rw [HP.out, HB'.out]; try rfl), ξ.h⟩)
theorem find_c {w : World} {A : Option Addr} {n c : Nat} {xs : List File} (h : SlR fileF w A n xs) (hn : n ≤ 1000000) (k : Str) (hr : Rise (·.1) xs) :
    Calls Tryz.prog 46 #[.slice A n c, S k] w fun e w' => e = .returned (.tuple #[.int .i64 (posOf (·.1) xs k : Nat), .bool (hasAt (·.1) xs k)]) ∧ Ext w w' := by
  go_enter Tryz.func46, Tryz.ntmps46
  go_wp2_with fail
  refine (BsFile_c h hn k hr).mono ?_
  rintro e u ⟨rfl, hu⟩
  go_wp2_with fail
  go_ret2
  exact ⟨rfl, hu⟩
abbrev fk : File → Str := fun f => f.1
def getT (k : Str) (xs : List File) : Str := ((getL fk k xs).map (·.2)).getD []
def getB (k : Str) (xs : List File) : Bool := (getL fk k xs).isSome
theorem Get_c {w : World} {A : Option Addr} {n c : Nat} {xs : List File} (h : SlR fileF w A n xs) (hn : n ≤ 1000000) (k : Str) (hr : Rise fk xs) :
    Calls Tryz.prog 19 #[.slice A n c, S k] w fun e w' => e = .returned (.tuple #[S (getT k xs), .bool (getB k xs)]) ∧ Ext w w' := by
  have hF := find_c (c := c) h hn k hr
  have hG := getL_at hr k
  have hP := posOf_le (key := fk) xs k
  obtain ⟨b, hb⟩ : ∃ b, b = hasAt fk xs k := ⟨_, rfl⟩
  rw [← hb] at hF hG
  have HB := Lib.hid hb
  clear hb
  cases b with
  | false =>
    have HG : Hid (getL fk k xs = none) := by simpa [Hid] using hG
    clear hG
    go_enter Tryz.func19, Tryz.ntmps19
    go_wp2_with fail
    refine hF.mono ?_
    rintro e u ⟨rfl, hu⟩
    go_wp2_with fail
    go_ret2
    exact ⟨by rw [getT, getB, HG.out]; rfl, hu⟩
  | true =>
    obtain ⟨p, hp⟩ : ∃ p, p = posOf fk xs k := ⟨_, rfl⟩
    rw [← hp] at hF hG hP
    have hlt : p < n := by
      have h1 := HB.out
      unfold hasAt at h1
      rw [← hp] at h1
      rw [← h.1]
      by_cases hl : p < xs.length
      · exact hl
      · rw [List.getElem?_eq_none (by omega)] at h1; cases h1
    obtain ⟨bk, o, x, rfl, hx, c0, c1⟩ := files_get h hlt
    have HG : Hid (getL fk k xs = some x) := by rw [Hid, hG, hx]; rfl
    have HP := Lib.hid hp
    clear hG hp hx hP
    go_enter Tryz.func19, Tryz.ntmps19
    go_wp2_with fail
    refine hF.mono ?_
    rintro e u ⟨rfl, hu⟩
    have c1' : u.cell? ⟨bk, o + p * 2 + 1, none⟩ = some (S x.2) := c1 ⟨u, hu⟩
    have U := Lib.hid hu
    clear hF hu c0 c1
    go_wp2_with fail
    go_ret2
    exact ⟨by rw [getT, getB, HG.out]; rfl, U.out⟩
structure Grp where
  targets : List Str
  needs : List Str
  cmds : List Str
  phony : Bool
  deriving DecidableEq
def cmdOf (ts ns : List Str) (stem c : Str) : Str := autoF (keyV (ts.headD []) (ns.headD []) (joinSp ns) stem) c
def tgtOf (r : Rul) (name stem : Str) : List Str := if stem = [] then r.targets else [name]
def ndsOf (r : Rul) (stem : Str) : List Str := r.needs.map fun n => onceF n stem
def groupF (m : Mk) (r : Rul) (name stem : Str) : Grp :=
  ⟨tgtOf r name stem, ndsOf r stem, r.cmds.map (cmdOf (tgtOf r name stem) (ndsOf r stem) stem), inS m.phony (r.targets.headD [])⟩
def explF (rs : List Rul) (name : Str) : Option Rul := rs.find? fun r => inS r.targets name
abbrev isF (l : List File) (n : Str) : Bool := getB n l
def hereB (m : Mk) (l : List File) (n : Str) : Bool := isF l n || (explF m.rules n).isSome
def patF (m : Mk) (l : List File) (name : Str) : List Rul → Option Grp
  | [] => none
  | r :: rs =>
    if (stemL (r.targets.headD []) name).2 = false then patF m l name rs
    else if (groupF m r name (stemL (r.targets.headD []) name).1).needs.all (hereB m l) = true then some (groupF m r name (stemL (r.targets.headD []) name).1)
    else patF m l name rs
def ruleF (m : Mk) (l : List File) (name : Str) : Option Grp :=
  match explF m.rules name with
  | some r => some (groupF m r name [])
  | none => patF m l name m.rules
def makerF (out : List Grp) (n : Str) : Option Nat := out.findIdx? fun g => inS g.targets n
def needsF (rec : List Grp → Str → List Grp × Int) : List Grp → List Str → List Grp × Int
  | out, [] => (out, 0)
  | out, n :: ns => if (rec out n).2 ≠ 0 then rec out n else needsF rec (rec out n).1 ns
def visitF (m : Mk) (l : List File) : Nat → List Str → List Grp → Str → List Grp × Int
  | 0, _, out, _ => (out, 8)
  | f + 1, way, out, name =>
    if inS way name = true then (out, 8)
    else if (makerF out name).isSome = true then (out, 0)
    else match ruleF m l name with
      | none => if isF l name = true then (out, 0) else (out, 5)
      | some g =>
        if (needsF (visitF m l f (way ++ g.targets)) out g.needs).2 ≠ 0 then needsF (visitF m l f (way ++ g.targets)) out g.needs
        else if (needsF (visitF m l f (way ++ g.targets)) out g.needs).1.length = 10 then ((needsF (visitF m l f (way ++ g.targets)) out g.needs).1, 2)
        else ((needsF (visitF m l f (way ++ g.targets)) out g.needs).1 ++ [g], 0)
def groupsF (m : Mk) (l : List File) (goal : Str) : List Grp × Int :=
  if nameB goal = false then ([], 3)
  else if (visitF m l 100 [] [] goal).2 ≠ 0 then ([], (visitF m l 100 [] [] goal).2)
  else ((visitF m l 100 [] [] goal).1, 0)
def candF (m : Mk) (l : List File) (goal : Str) : List Str := goal :: l.map (·.1) ++ m.rules.flatMap (·.targets) ++ m.rules.flatMap (fun r => ndsOf r [])
def leftF (c way : List Str) : Nat := (c.filter fun n => !inS way n).length
theorem leftF_lt {c way ts : List Str} {n : Str} (hn : n ∈ c) (hw : inS way n = false) (ht : n ∈ ts) : leftF c (way ++ ts) < leftF c way := by
  unfold leftF
  have hsub : ∀ x, (!inS (way ++ ts) x) = true → (!inS way x) = true := by
    intro x hx
    simp only [inS, Bool.not_eq_true', decide_eq_false_iff_not, List.mem_append, not_or] at hx ⊢
    exact hx.1
  have hs : inS (way ++ ts) n = true := by simp [inS, ht]
  induction c with
  | nil => cases hn
  | cons x xs ih =>
    have hle : ((xs.filter fun n => !inS (way ++ ts) n)).length ≤ (xs.filter fun n => !inS way n).length := by
      clear ih hn
      induction xs with
      | nil => simp
      | cons y ys ih =>
        simp only [List.filter_cons]
        by_cases h1 : (!inS (way ++ ts) y) = true
        · rw [if_pos h1, if_pos (hsub y h1)]; simp only [List.length_cons]; omega
        · rw [if_neg h1]; split <;> (try simp only [List.length_cons]) <;> omega
    simp only [List.filter_cons]
    by_cases hx : x = n
    · subst hx
      rw [if_neg (by rw [hs]; decide), if_pos (by rw [hw]; rfl)]
      simp only [List.length_cons]; omega
    · have hn' : n ∈ xs := by
        rcases List.mem_cons.1 hn with h | h
        · exact absurd h.symm hx
        · exact h
      have := ih hn'
      by_cases h1 : (!inS (way ++ ts) x) = true
      · rw [if_pos h1, if_pos (hsub x h1)]; simp only [List.length_cons]; omega
      · rw [if_neg h1]; split <;> (try simp only [List.length_cons]) <;> omega
theorem explF_some {rs : List Rul} {n : Str} {r : Rul} (h : explF rs n = some r) : r ∈ rs ∧ n ∈ r.targets := by
  unfold explF at h
  have h2 := List.find?_some h
  exact ⟨List.mem_of_find?_eq_some h, by simpa [inS] using h2⟩
theorem patF_some {m : Mk} {l : List File} {n : Str} {g : Grp} : ∀ {rs : List Rul}, patF m l n rs = some g → ∃ r ∈ rs, (stemL (r.targets.headD []) n).2 = true ∧ g = groupF m r n (stemL (r.targets.headD []) n).1 ∧ g.needs.all (hereB m l) = true
  | [], h => by cases h
  | r :: rs, h => by
    unfold patF at h
    split at h
    · obtain ⟨r', h1, h2⟩ := patF_some h
      exact ⟨r', List.mem_cons_of_mem _ h1, h2⟩
    · rename_i h1
      split at h
      · rename_i h2
        cases h
        exact ⟨r, by simp, by simpa using h1, rfl, h2⟩
      · obtain ⟨r', h1, h2⟩ := patF_some h
        exact ⟨r', List.mem_cons_of_mem _ h1, h2⟩
theorem stemL_ne {p n : Str} (h : (stemL p n).2 = true) : (stemL p n).1 ≠ [] := by
  unfold stemL at h ⊢
  split
  · rename_i h1
    rw [if_pos h1] at h
    intro e
    have := congrArg List.length e
    simp only [List.length_drop, List.length_take, List.length_nil] at this
    omega
  · rename_i h1
    rw [if_neg h1] at h
    cases h
theorem ruleF_some {m : Mk} {l : List File} {n : Str} {g : Grp} (h : ruleF m l n = some g) :
    (∃ r, explF m.rules n = some r ∧ g = groupF m r n []) ∨ (explF m.rules n = none ∧ ∃ r ∈ m.rules, (stemL (r.targets.headD []) n).2 = true ∧ g = groupF m r n (stemL (r.targets.headD []) n).1 ∧ g.needs.all (hereB m l) = true) := by
  unfold ruleF at h
  split at h
  · rename_i r hr; cases h; exact .inl ⟨r, hr, rfl⟩
  · rename_i hr; exact .inr ⟨hr, patF_some h⟩
theorem ruleF_own {m : Mk} {l : List File} {n : Str} {g : Grp} (h : ruleF m l n = some g) : n ∈ g.targets := by
  rcases ruleF_some h with ⟨r, hr, rfl⟩ | ⟨_, r, _, hs, rfl, _⟩
  · exact (explF_some hr).2
  · show n ∈ tgtOf r n _
    unfold tgtOf
    rw [if_neg (stemL_ne hs)]
    simp
theorem ruleF_cand {m : Mk} {l : List File} {goal n : Str} {g : Grp} (h : ruleF m l n = some g) : ∀ k ∈ g.needs, k ∈ candF m l goal := by
  intro k hk
  unfold candF
  rcases ruleF_some h with ⟨r, hr, rfl⟩ | ⟨_, r, _, hs, rfl, ha⟩
  · exact List.mem_append_right _ (List.mem_flatMap.2 ⟨r, (explF_some hr).1, hk⟩)
  · have := List.all_eq_true.1 ha k hk
    simp only [hereB, Bool.or_eq_true] at this
    rcases this with h1 | h1
    · have hm : k ∈ l.map (·.1) := by
        obtain ⟨x, hx⟩ := Option.isSome_iff_exists.1 h1
        unfold getL at hx
        have e := List.find?_some hx
        simp only [decide_eq_true_eq] at e
        exact e ▸ List.mem_map_of_mem (List.mem_of_find?_eq_some hx)
      exact List.mem_append_left _ (List.mem_append_left _ (List.mem_cons_of_mem _ hm))
    · obtain ⟨r', hr'⟩ := Option.isSome_iff_exists.1 h1
      have := explF_some hr'
      exact List.mem_append_left _ (List.mem_append_right _ (List.mem_flatMap.2 ⟨r', this.1, this.2⟩))
theorem own_cs {w : World} {B : Nat} {e : TypeId} {size n : Nat} {x : Value} {xs : List Value} (h : w.ownsRow B e size x n xs) {g : Nat} (hg : x.ownBlock = some g) : ∃ cur, Cs w g e cur := by
  rcases h.2 with ⟨rfl, _⟩ | ⟨g', cap, cur, rfl, hb, hh, _⟩
  · simp [Value.ownBlock] at hg
  · simp [Value.ownBlock] at hg
    subst hg
    exact ⟨cur, hh⟩
theorem own_ne_cs {w : World} {B : Nat} {e t : TypeId} {size n g : Nat} {x : Value} {xs : List Value} {cs : Array Value} (h : w.ownsRow B e size x n xs) (hc : Cs w g t cs) (hne : e ≠ t) : ∀ b, x.ownBlock = some b → ¬ b = g := by
  rintro b hb rfl
  obtain ⟨cur, h1⟩ := own_cs h hb
  exact Cs.ne_ h1 hc hne rfl
theorem own_ne_own {w : World} {B B' : Nat} {e t : TypeId} {size size' n n' : Nat} {x y : Value} {xs ys : List Value} (h : w.ownsRow B e size x n xs) (h' : w.ownsRow B' t size' y n' ys) (hne : e ≠ t) : ∀ b, x.ownBlock = some b → y.ownBlock ≠ some b := by
  intro b hb hb'
  obtain ⟨cur, h1⟩ := own_cs h hb
  obtain ⟨cur', h2⟩ := own_cs h' hb'
  exact Cs.ne_ h1 h2 hne rfl
theorem Fresh.keep {α : Type} {T : Flat α} {t : TypeId} {w wr u : World} {A : Option Addr} {c : Nat} {xs : List α} {F : Nat → Prop} (h : Fresh T t w wr A c xs) (hx : Only F wr u) (hE : Ext w u) (hn : ∀ g, (Value.slice A xs.length c).ownBlock = some g → ¬ F g) : Fresh T t w u A c xs := ⟨own_keep h.own hx hn, hE, h.new⟩
abbrev ptr (g : Nat) : Value := .pointer (some ⟨g, 0, none⟩)
abbrev makeT : TypeId := 29
abbrev ruleT : TypeId := 108
abbrev varT : TypeId := 110
structure RulA where
  tA : Option Addr
  tc : Nat
  nA : Option Addr
  nc : Nat
  cA : Option Addr
  cc : Nat
def rulF : Flat (RulA × Rul) := ⟨3, fun x => [.slice x.1.tA x.2.targets.length x.1.tc, .slice x.1.nA x.2.needs.length x.1.nc, .slice x.1.cA x.2.cmds.length x.1.cc], fun _ => rfl⟩
structure SRow where
  A : Option Addr
  c : Nat
  xs : List Str
abbrev SRow.own (x : SRow) : Option Nat := (Value.slice x.A x.xs.length x.c).ownBlock
abbrev SRow.F (w wr : World) (x : SRow) : Prop := Fresh strF 9 w wr x.A x.c x.xs
def SRow.off (x y : SRow) : Prop := ∀ g, x.own = some g → y.own ≠ some g
theorem SRow.off_symm {x y : SRow} (h : x.off y) : y.off x := fun g h1 h2 => h g h2 h1
structure SRows (w wr : World) (L : List SRow) : Prop where
  f : ∀ x ∈ L, x.F w wr
  p : L.Pairwise SRow.off
section
variable {w wr u : World} {L L1 L2 : List SRow} {x : SRow}
theorem SRows.ext (h : SRows w wr L) (hx : Ext wr u) : SRows w u L := ⟨fun x hm => (h.f x hm).on hx, h.p⟩
theorem SRows.lt (h : SRows w wr L) (hm : x ∈ L) : ∀ g, x.own = some g → g < wr.heap.size := fun g hg => by
  obtain ⟨_, hc⟩ := own_cs (h.f x hm).own hg
  exact hc.lt
theorem SRows.keep (h : SRows w wr L) {F : Nat → Prop} (hx : Only F wr u) (hE : Ext w u) (hn : ∀ x ∈ L, ∀ g, x.own = some g → ¬ F g) : SRows w u L := ⟨fun x hm => (h.f x hm).keep hx hE (hn x hm), h.p⟩
theorem SRows.add (h : SRows w wr L) (hw : Ext w wr) (hx : x.F wr u) : SRows w u (L ++ [x]) := by
  refine ⟨fun y hy => ?_, ?_⟩
  · rcases List.mem_append.1 hy with hy | hy
    · exact (h.f y hy).on hx.ext
    · obtain rfl := List.mem_singleton.1 hy
      exact Fresh.from hx hw
  · rw [List.pairwise_append]
    refine ⟨h.p, List.pairwise_singleton _ _, fun a ha b hb => ?_⟩
    obtain rfl := List.mem_singleton.1 hb
    intro g h1 h2
    have := h.lt ha g h1
    have := hx.new g h2
    omega
theorem SRows.grow (h : SRows w u (L1 ++ x :: L2)) {A' : Option Addr} {c' : Nat} {w5 : World} {t : Str}
    (hown : w5.ownsRow 0 9 1 (.slice A' (x.xs.length + 1 : Nat) c') (x.xs.length + 1) (x.xs.flatMap strF.enc ++ [t].flatMap strF.enc)) (hg : u.grownBy w5 (Value.slice x.A x.xs.length x.c).ownBlock)
    (hb : (Value.slice A' (x.xs.length + 1 : Nat) c').ownBlock = (Value.slice x.A x.xs.length x.c).ownBlock ∨ (Value.slice A' (x.xs.length + 1 : Nat) c').ownBlock = some u.heap.size) :
    SRows w w5 (L1 ++ ⟨A', c', x.xs ++ [t]⟩ :: L2) := by
  have O5 : Only (fun b => (Value.slice x.A x.xs.length x.c).ownBlock = some b) u w5 := (Only.refl _ _).grown hg fun g e => .inr e
  have F5 := (h.f x (by simp)).grow (ys := [t]) rfl hown hg hb
  have hp := h.p
  rw [List.pairwise_append, List.pairwise_cons] at hp
  obtain ⟨p1, ⟨p2, p3⟩, p4⟩ := hp
  have q1 : ∀ y ∈ L1, y.off x := fun y hy => p4 y hy x (by simp)
  have new : ∀ y ∈ L1 ++ L2, y.off x → y.off ⟨A', c', x.xs ++ [t]⟩ := fun y hy ho g h1 h2 => by
    have hlt := h.lt (x := y) (by rcases List.mem_append.1 hy with hy | hy <;> simp [hy]) g h1
    have h2' : (Value.slice A' (x.xs.length + 1 : Nat) c').ownBlock = some g := by rw [← h2]; unfold SRow.own; rw [List.length_append]; rfl
    rcases hb with hb | hb
    · exact ho g h1 (hb.symm.trans h2')
    · rw [hb] at h2'
      injection h2' with h2'
      omega
  refine ⟨fun y hy => ?_, ?_⟩
  · rcases List.mem_append.1 hy with hy | hy
    · exact (h.f y (by simp [hy])).keep O5 F5.ext (fun g h1 h2 => q1 y hy g h1 h2)
    · rcases List.mem_cons.1 hy with rfl | hy
      · exact F5
      · exact (h.f y (by simp [hy])).keep O5 F5.ext (fun g h1 h2 => p2 y hy g h2 h1)
  · rw [List.pairwise_append, List.pairwise_cons]
    refine ⟨p1, ⟨fun y hy => SRow.off_symm (new y (by simp [hy]) (SRow.off_symm (p2 y hy))), p3⟩, fun a ha b hb' => ?_⟩
    rcases List.mem_cons.1 hb' with rfl | hb'
    · exact new a (by simp [ha]) (q1 a ha)
    · exact p4 a ha b (by simp [hb'])
end
abbrev rowsOf (x : RulA × Rul) : List SRow := [⟨x.1.tA, x.1.tc, x.2.targets⟩, ⟨x.1.nA, x.1.nc, x.2.needs⟩, ⟨x.1.cA, x.1.cc, x.2.cmds⟩]
structure MkV where
  vA : Option Addr
  vc : Nat
  rA : Option Addr
  rc : Nat
  pA : Option Addr
  pc : Nat
abbrev mkV0 : MkV := ⟨none, 0, none, 0, none, 0⟩
abbrev mkV (v : MkV) (m : Mk) : Value := .agg #[.slice v.vA m.vars.length v.vc, .slice v.rA m.rules.length v.rc, .slice v.pA m.phony.length v.pc]
structure MAt (Q : List SRow) (w wr : World) (g : Nat) (v : MkV) (rs : List (RulA × Rul)) (m : Mk) : Prop where
  rc : Cs wr g makeT #[.slice v.vA m.vars.length v.vc, .slice v.rA rs.length v.rc, .slice v.pA m.phony.length v.pc]
  fv : Fresh fileF varT w wr v.vA v.vc m.vars
  fr : Fresh rulF ruleT w wr v.rA v.rc rs
  ss : SRows w wr (Q ++ ⟨v.pA, v.pc, m.phony⟩ :: rs.flatMap rowsOf)
  rm : rs.map (·.2) = m.rules
  ng : w.heap.size ≤ g
structure MakeR (w : World) (v : MkV) (rs : List (RulA × Rul)) (m : Mk) : Prop where
  fv : SlR fileF w v.vA m.vars.length m.vars
  fr : SlR rulF w v.rA m.rules.length rs
  fp : SlR strF w v.pA m.phony.length m.phony
  rr : ∀ x ∈ rs, SlR strF w x.1.tA x.2.targets.length x.2.targets ∧ SlR strF w x.1.nA x.2.needs.length x.2.needs ∧ SlR strF w x.1.cA x.2.cmds.length x.2.cmds
  rm : rs.map (·.2) = m.rules
theorem makeR0 (w : World) : MakeR w mkV0 [] mk0 := ⟨SlR.none_, SlR.none_, SlR.none_, (fun x hx => by cases hx), rfl⟩
theorem MakeR.ext {w u : World} {v : MkV} {rs : List (RulA × Rul)} {m : Mk} (h : MakeR w v rs m) (hx : Ext w u) : MakeR u v rs m :=
  ⟨h.fv.ext hx, h.fr.ext hx, h.fp.ext hx, fun x hm => ⟨(h.rr x hm).1.ext hx, (h.rr x hm).2.1.ext hx, (h.rr x hm).2.2.ext hx⟩, h.rm⟩
theorem rules_get {w : World} {A : Option Addr} {n : Nat} {rs : List (RulA × Rul)} (h : SlR rulF w A n rs) {k : Nat} (hk : k < n) :
    ∃ b o x, A = some ⟨b, o, none⟩ ∧ rs[k]? = some x ∧ b < w.heap.size ∧ (∀ u, Ext w u → u.cell? ⟨b, o + k * 3, none⟩ = some (.slice x.1.tA x.2.targets.length x.1.tc)) ∧ (∀ u, Ext w u → u.cell? ⟨b, o + k * 3 + 1, none⟩ = some (.slice x.1.nA x.2.needs.length x.1.nc)) ∧ (∀ u, Ext w u → u.cell? ⟨b, o + k * 3 + 2, none⟩ = some (.slice x.1.cA x.2.cmds.length x.1.cc)) := by
  obtain ⟨b, o, x, e, hb, hx, hc⟩ := h.get hk
  exact ⟨b, o, x, e, hx, hb, fun u hu => (hu.cell hb id).trans (hc 0 _ rfl), fun u hu => (hu.cell hb id).trans (hc 1 _ rfl), fun u hu => (hu.cell hb id).trans (hc 2 _ rfl)⟩
section
variable {Q : List SRow} {w wr u : World} {g : Nat} {v : MkV} {rs : List (RulA × Rul)} {m : Mk}
theorem MAt.x (h : MAt Q w wr g v rs m) : Ext w wr := h.fv.ext
theorem MAt.rl (h : MAt Q w wr g v rs m) : rs.length = m.rules.length := by rw [← h.rm, List.length_map]
theorem MAt.ext (h : MAt Q w wr g v rs m) (hx : Ext wr u) : MAt Q w u g v rs m := ⟨h.rc.keep hx id, h.fv.on hx, h.fr.on hx, h.ss.ext hx, h.rm, h.ng⟩
theorem MAt.made (h : MAt Q w wr g v rs m) : MakeR wr v rs m := by
  refine ⟨h.fv.row (by decide), ?_, (h.ss.f ⟨v.pA, v.pc, m.phony⟩ (by simp)).row (by decide), fun x hx => ?_, h.rm⟩
  · have := h.fr.row (by decide)
    rw [h.rl] at this
    exact this
  · have q : ∀ y ∈ rowsOf x, y ∈ Q ++ (⟨v.pA, v.pc, m.phony⟩ : SRow) :: rs.flatMap rowsOf := fun y hy => List.mem_append_right _ (List.mem_cons_of_mem _ (List.mem_flatMap.2 ⟨x, hx, hy⟩))
    exact ⟨(h.ss.f _ (q ⟨x.1.tA, x.1.tc, x.2.targets⟩ (by simp))).row (by decide), (h.ss.f _ (q ⟨x.1.nA, x.1.nc, x.2.needs⟩ (by simp))).row (by decide), (h.ss.f _ (q ⟨x.1.cA, x.1.cc, x.2.cmds⟩ (by simp))).row (by decide)⟩
theorem MAt.at_ (h : MAt Q w wr g v rs m) (i : Nat) (x : Value) : Ext w (wr.setCell ⟨g, i, none⟩ x) :=
  h.x.trans ((Only.refl (fun b => b = g) wr).at_ i x) fun b hb e => by have e : b = g := e; have := h.ng; omega
theorem MAt.growV (h : MAt Q w u g v rs m) {A' : Option Addr} {c' : Nat} {w5 : World} {t : File}
    (hown : w5.ownsRow 0 varT 2 (.slice A' (m.vars.length + 1 : Nat) c') (m.vars.length + 1) (m.vars.flatMap fileF.enc ++ [t].flatMap fileF.enc)) (hg : u.grownBy w5 (Value.slice v.vA m.vars.length v.vc).ownBlock)
    (hb : (Value.slice A' (m.vars.length + 1 : Nat) c').ownBlock = (Value.slice v.vA m.vars.length v.vc).ownBlock ∨ (Value.slice A' (m.vars.length + 1 : Nat) c').ownBlock = some u.heap.size) :
    MAt Q w (w5.setCell ⟨g, 0, none⟩ (.slice A' (m.vars.length + 1 : Nat) c')) g { v with vA := A', vc := c' } rs ⟨m.vars ++ [t], m.rules, m.phony⟩ := by
  have O5 : Only (fun b => (Value.slice v.vA m.vars.length v.vc).ownBlock = some b) u w5 := (Only.refl _ _).grown hg fun g e => .inr e
  have F5 := h.fv.grow (ys := [t]) rfl hown hg hb
  have N5 := h.fr.keep O5 F5.ext (fun g h1 h2 => own_ne_own h.fr.own h.fv.own (by decide) g h1 h2)
  have P5 := h.ss.keep O5 F5.ext (fun x hx g h1 h2 => own_ne_own (h.ss.f x hx).own h.fv.own (by decide) g h1 h2)
  have c5 := h.rc.keep O5 (fun e => own_ne_cs h.fv.own h.rc (by decide) _ e rfl)
  have O6 : Only (fun b => b = g) w5 (w5.setCell ⟨g, 0, none⟩ (.slice A' (m.vars.length + 1 : Nat) c')) := (Only.refl _ _).at_ 0 _
  have E6 : Ext w (w5.setCell ⟨g, 0, none⟩ (.slice A' (m.vars.length + 1 : Nat) c')) := F5.ext.trans O6 fun b hb e => by have e : b = g := e; have := h.ng; omega
  refine ⟨?_, F5.keep O6 E6 (own_ne_cs F5.own c5 (by decide)), N5.keep O6 E6 (own_ne_cs N5.own c5 (by decide)), P5.keep O6 E6 (fun x hx => own_ne_cs (P5.f x hx).own c5 (by decide)), h.rm, h.ng⟩
  have := c5.set_ 0 (.slice A' (m.vars.length + 1 : Nat) c')
  show Cs _ _ _ #[.slice A' (m.vars ++ [t]).length c', _, _]
  rw [List.length_append]
  exact this
theorem MAt.growP (h : MAt Q w u g v rs m) {A' : Option Addr} {c' : Nat} {w5 : World} {t : Str}
    (hown : w5.ownsRow 0 9 1 (.slice A' (m.phony.length + 1 : Nat) c') (m.phony.length + 1) (m.phony.flatMap strF.enc ++ [t].flatMap strF.enc)) (hg : u.grownBy w5 (Value.slice v.pA m.phony.length v.pc).ownBlock)
    (hb : (Value.slice A' (m.phony.length + 1 : Nat) c').ownBlock = (Value.slice v.pA m.phony.length v.pc).ownBlock ∨ (Value.slice A' (m.phony.length + 1 : Nat) c').ownBlock = some u.heap.size) :
    MAt Q w (w5.setCell ⟨g, 2, none⟩ (.slice A' (m.phony.length + 1 : Nat) c')) g { v with pA := A', pc := c' } rs ⟨m.vars, m.rules, m.phony ++ [t]⟩ := by
  have O5 : Only (fun b => (Value.slice v.pA m.phony.length v.pc).ownBlock = some b) u w5 := (Only.refl _ _).grown hg fun g e => .inr e
  have hP := (h.ss.f ⟨v.pA, v.pc, m.phony⟩ (by simp))
  have P5 := h.ss.grow (L1 := Q) (x := ⟨v.pA, v.pc, m.phony⟩) (t := t) hown hg hb
  have E5 : Ext w w5 := (P5.f ⟨A', c', m.phony ++ [t]⟩ (by simp)).ext
  have N5 := h.fr.keep O5 E5 (fun g h1 h2 => own_ne_own h.fr.own hP.own (by decide) g h1 h2)
  have F5 := h.fv.keep O5 E5 (fun g h1 h2 => own_ne_own h.fv.own hP.own (by decide) g h1 h2)
  have c5 := h.rc.keep O5 (fun e => own_ne_cs hP.own h.rc (by decide) _ e rfl)
  have O6 : Only (fun b => b = g) w5 (w5.setCell ⟨g, 2, none⟩ (.slice A' (m.phony.length + 1 : Nat) c')) := (Only.refl _ _).at_ 2 _
  have E6 : Ext w (w5.setCell ⟨g, 2, none⟩ (.slice A' (m.phony.length + 1 : Nat) c')) := E5.trans O6 fun b hb e => by have e : b = g := e; have := h.ng; omega
  refine ⟨?_, F5.keep O6 E6 (own_ne_cs F5.own c5 (by decide)), N5.keep O6 E6 (own_ne_cs N5.own c5 (by decide)), P5.keep O6 E6 (fun x hx => own_ne_cs (P5.f x hx).own c5 (by decide)), h.rm, h.ng⟩
  have := c5.set_ 2 (.slice A' (m.phony.length + 1 : Nat) c')
  show Cs _ _ _ #[_, _, .slice A' (m.phony ++ [t]).length c']
  rw [List.length_append]
  exact this
theorem MAt.growR {a : RulA} {r : Rul} (h : MAt Q w u g v rs m) (hs : SRows w u (Q ++ ⟨v.pA, v.pc, m.phony⟩ :: (rs ++ [(a, r)]).flatMap rowsOf)) {A' : Option Addr} {c' : Nat} {w5 : World}
    (hown : w5.ownsRow 0 ruleT 3 (.slice A' (rs.length + 1 : Nat) c') (rs.length + 1) (rs.flatMap rulF.enc ++ [(a, r)].flatMap rulF.enc)) (hg : u.grownBy w5 (Value.slice v.rA rs.length v.rc).ownBlock)
    (hb : (Value.slice A' (rs.length + 1 : Nat) c').ownBlock = (Value.slice v.rA rs.length v.rc).ownBlock ∨ (Value.slice A' (rs.length + 1 : Nat) c').ownBlock = some u.heap.size) :
    MAt Q w (w5.setCell ⟨g, 1, none⟩ (.slice A' (rs.length + 1 : Nat) c')) g { v with rA := A', rc := c' } (rs ++ [(a, r)]) ⟨m.vars, m.rules ++ [r], m.phony⟩ := by
  have O5 : Only (fun b => (Value.slice v.rA rs.length v.rc).ownBlock = some b) u w5 := (Only.refl _ _).grown hg fun g e => .inr e
  have F5 := h.fr.grow (ys := [(a, r)]) rfl hown hg hb
  have N5 := h.fv.keep O5 F5.ext (fun g h1 h2 => own_ne_own h.fv.own h.fr.own (by decide) g h1 h2)
  have P5 := hs.keep O5 F5.ext (fun x hx g h1 h2 => own_ne_own (hs.f x hx).own h.fr.own (by decide) g h1 h2)
  have c5 := h.rc.keep O5 (fun e => own_ne_cs h.fr.own h.rc (by decide) _ e rfl)
  have O6 : Only (fun b => b = g) w5 (w5.setCell ⟨g, 1, none⟩ (.slice A' (rs.length + 1 : Nat) c')) := (Only.refl _ _).at_ 1 _
  have E6 : Ext w (w5.setCell ⟨g, 1, none⟩ (.slice A' (rs.length + 1 : Nat) c')) := F5.ext.trans O6 fun b hb e => by have e : b = g := e; have := h.ng; omega
  refine ⟨?_, N5.keep O6 E6 (own_ne_cs N5.own c5 (by decide)), F5.keep O6 E6 (own_ne_cs F5.own c5 (by decide)), P5.keep O6 E6 (fun x hx => own_ne_cs (P5.f x hx).own c5 (by decide)), by rw [List.map_append, h.rm]; rfl, h.ng⟩
  have := c5.set_ 1 (.slice A' (rs.length + 1 : Nat) c')
  rw [List.length_append]
  exact this
theorem enc_last (rs : List (RulA × Rul)) (a : RulA) (r : Rul) (rest : List Value) : ((rs ++ [(a, r)]).flatMap rulF.enc ++ rest).toArray[rs.length * 3 + 2]? = some (.slice a.cA r.cmds.length a.cc) := by
  rw [List.getElem?_toArray, List.flatMap_append, List.append_assoc, List.getElem?_append_right (by rw [length_flatMap_enc]; show rs.length * 3 ≤ _; omega), length_flatMap_enc]
  show ([_, _, _] ++ rest)[rs.length * 3 + 2 - rs.length * 3]? = _
  rw [show rs.length * 3 + 2 - rs.length * 3 = 2 by omega]
  rfl
theorem MAt.last {a : RulA} {r : Rul} (h : MAt Q w u g v (rs ++ [(a, r)]) m) : ∃ gR cur, v.rA = some ⟨gR, 0, none⟩ ∧ Cs u gR ruleT cur ∧ cur[rs.length * 3 + 2]? = some (.slice a.cA r.cmds.length a.cc) := by
  have hown5 := h.fr.own
  rw [show (rs ++ [(a, r)]).length = rs.length + 1 by simp] at hown5
  obtain ⟨gR, rest, hA, hC, hl, hlc, hnc, hm⟩ := own_block hown5 (by omega) (by decide)
  exact ⟨gR, _, hA, hC, enc_last rs a r rest⟩
theorem MAt.crow {a : RulA} {r : Rul} (h : MAt Q w u g v (rs ++ [(a, r)]) m) : Fresh strF 9 w u a.cA a.cc r.cmds := h.ss.f ⟨a.cA, a.cc, r.cmds⟩ (by simp [List.flatMap_append])
theorem MAt.growC {a : RulA} {r : Rul} (h : MAt Q w u g v (rs ++ [(a, r)]) m) {A' : Option Addr} {c' : Nat} {w5 : World} {t : Str}
    (hown : w5.ownsRow 0 9 1 (.slice A' (r.cmds.length + 1 : Nat) c') (r.cmds.length + 1) (r.cmds.flatMap strF.enc ++ [t].flatMap strF.enc)) (hg : u.grownBy w5 (Value.slice a.cA r.cmds.length a.cc).ownBlock)
    (hb : (Value.slice A' (r.cmds.length + 1 : Nat) c').ownBlock = (Value.slice a.cA r.cmds.length a.cc).ownBlock ∨ (Value.slice A' (r.cmds.length + 1 : Nat) c').ownBlock = some u.heap.size) :
    ∃ gR cur, v.rA = some ⟨gR, 0, none⟩ ∧ Cs w5 gR ruleT cur ∧ cur[rs.length * 3 + 2]? = some (.slice a.cA r.cmds.length a.cc) ∧ MAt Q w (w5.setCell ⟨gR, rs.length * 3 + 2, none⟩ (.slice A' (r.cmds.length + 1 : Nat) c')) g v (rs ++ [({ a with cA := A', cc := c' }, ⟨r.targets, r.needs, r.cmds ++ [t]⟩)]) ⟨m.vars, rs.map (·.2) ++ [⟨r.targets, r.needs, r.cmds ++ [t]⟩], m.phony⟩ := by
  have O5 : Only (fun b => (Value.slice a.cA r.cmds.length a.cc).ownBlock = some b) u w5 := (Only.refl _ _).grown hg fun g e => .inr e
  have hmem : (⟨a.cA, a.cc, r.cmds⟩ : SRow) ∈ Q ++ (⟨v.pA, v.pc, m.phony⟩ : SRow) :: (rs ++ [(a, r)]).flatMap rowsOf := by simp [List.flatMap_append]
  have hP := h.ss.f _ hmem
  have eL : ∀ (b : RulA) (q : Rul), Q ++ (⟨v.pA, v.pc, m.phony⟩ : SRow) :: (rs ++ [(b, q)]).flatMap rowsOf = (Q ++ (⟨v.pA, v.pc, m.phony⟩ : SRow) :: rs.flatMap rowsOf ++ [⟨b.tA, b.tc, q.targets⟩, ⟨b.nA, b.nc, q.needs⟩]) ++ (⟨b.cA, b.cc, q.cmds⟩ : SRow) :: [] := by
    intro b q
    simp [List.flatMap_append, List.append_assoc]
  have hss := h.ss
  rw [eL] at hss
  have P5 := hss.grow (x := ⟨a.cA, a.cc, r.cmds⟩) (t := t) hown hg hb
  have E5 : Ext w w5 := (P5.f ⟨A', c', r.cmds ++ [t]⟩ (by simp)).ext
  have N5 := h.fr.keep O5 E5 (fun g h1 h2 => own_ne_own h.fr.own hP.own (by decide) g h1 h2)
  have F5 := h.fv.keep O5 E5 (fun g h1 h2 => own_ne_own h.fv.own hP.own (by decide) g h1 h2)
  have c5 := h.rc.keep O5 (fun e => own_ne_cs hP.own h.rc (by decide) _ e rfl)
  have hown5 := N5.own
  rw [show (rs ++ [(a, r)]).length = rs.length + 1 by simp] at hown5
  obtain ⟨gR, rest, hA, hC, hl, hlc, hnc, hm⟩ := own_block hown5 (by omega) (by decide)
  have hB : (Value.slice v.rA (rs ++ [(a, r)]).length v.rc).ownBlock = some gR := by rw [hA]; simp [Value.ownBlock]
  have hRw : w.heap.size ≤ gR := N5.new gR hB
  refine ⟨gR, _, hA, hC, enc_last rs a r rest, ?_⟩
  have O6 : Only (fun b => b = gR) w5 (w5.setCell ⟨gR, rs.length * 3 + 2, none⟩ (.slice A' (r.cmds.length + 1 : Nat) c')) := (Only.refl _ _).at_ _ _
  have E6 : Ext w (w5.setCell ⟨gR, rs.length * 3 + 2, none⟩ (.slice A' (r.cmds.length + 1 : Nat) c')) := E5.trans O6 fun b hb e => by have e : b = gR := e; omega
  have hCs := hC.set_ (rs.length * 3 + 2) (.slice A' (r.cmds.length + 1 : Nat) c')
  have e9 : (((rs ++ [(a, r)]).flatMap rulF.enc ++ rest).toArray.setIfInBounds (rs.length * 3 + 2) (.slice A' (r.cmds.length + 1 : Nat) c')) = ((rs ++ [({ a with cA := A', cc := c' }, (⟨r.targets, r.needs, r.cmds ++ [t]⟩ : Rul))]).flatMap rulF.enc ++ rest).toArray := by
    apply Array.ext'
    rw [Array.toList_setIfInBounds]
    have h0 : (rs.flatMap rulF.enc).length = rs.length * 3 := length_flatMap_enc rulF rs
    rw [List.flatMap_append, List.flatMap_append, List.append_assoc, List.append_assoc]
    show (rs.flatMap rulF.enc ++ ([_, _, _] ++ rest)).set (rs.length * 3 + 2) _ = rs.flatMap rulF.enc ++ ([_, _, _] ++ rest)
    rw [List.set_append_right _ _ (by omega), h0, show rs.length * 3 + 2 - rs.length * 3 = 2 by omega]
    simp
  rw [e9] at hCs
  refine ⟨?_, F5.keep O6 E6 (own_ne_cs F5.own hC (by decide)), ⟨?_, E6, ?_⟩, ?_, ?_, h.ng⟩
  · have h8 := c5.keep O6 (fun e => Cs.ne_ c5 hC (by decide) e)
    rw [show (rs ++ [(a, r)]).length = rs.length + 1 by simp] at h8
    rw [List.length_append]
    exact h8
  · rw [hA, show (rs ++ [(({ a with cA := A', cc := c' } : RulA), (⟨r.targets, r.needs, r.cmds ++ [t]⟩ : Rul))]).length = rs.length + 1 by simp]
    refine own_of_block hCs (by omega) ?_ ?_ hnc hm
    · rw [length_flatMap_enc]; simp
    · rw [List.length_append] at hlc ⊢
      rw [← hlc, length_flatMap_enc, length_flatMap_enc]
      simp
  · intro k hk
    rw [hA] at hk
    simp [Value.ownBlock] at hk
    omega
  · have q := P5.keep O6 E6 (fun x hx => own_ne_cs (P5.f x hx).own hC (by decide))
    rw [eL]
    exact q
  · rw [List.map_append]; rfl
end
theorem SlR.take {α : Type} {T : Flat α} {w : World} {A : Option Addr} {n k : Nat} {xs : List α} (h : SlR T w A n xs) (hk : k ≤ n) : SlR T w A k (xs.take k) := by
  refine ⟨by rw [List.length_take, h.1]; omega, fun hn => ?_⟩
  obtain ⟨b, o, e, hb, hc⟩ := h.2 (by omega)
  refine ⟨b, o, e, hb, fun i x hx j u hu => ?_⟩
  rw [List.getElem?_take] at hx
  split at hx
  · exact hc i x hx j u hu
  · cases hx
theorem splB_mem (c : UInt8) : ∀ (s : Str), ∀ l ∈ splB c s, l.length ≤ s.length
  | [], l, h => by
    have h2 : l ∈ [([] : Str)] := h
    simp at h2
    subst h2
    exact Nat.le_refl _
  | x :: s, l, h => by
    have ih := splB_mem c s
    rw [splB_app] at h
    split at h
    · rcases List.mem_cons.1 h with rfl | h
      · exact Nat.zero_le _
      · have := ih l h
        simp only [List.length_cons]; omega
    · cases hL : splB c s with
      | nil => exact absurd hL (splB_ne c s)
      | cons a t =>
        rw [hL] at h ih
        simp only [headApp, List.mem_cons] at h
        rcases h with rfl | h
        · have := ih a (by simp)
          simp only [List.length_append, List.length_cons, List.length_nil]; omega
        · have := ih l (List.mem_cons_of_mem _ h)
          simp only [List.length_cons]; omega
theorem fieldsF_mem {s l : Str} (h : l ∈ fieldsF s) : l.length ≤ s.length := splB_mem 32 s l (List.mem_filter.1 h).1
theorem fieldsF_le (s : Str) : (fieldsF s).length ≤ s.length + 1 := Nat.le_trans (List.length_filter_le _ _) (splB_le 32 s)
theorem okFrom_cons (p : Bool) (seen r : List Str) (x : Str) : okFrom p seen (x :: r) = (wordB x && !inS seen x && (p || !patB x) && okFrom p (seen ++ [x]) r) := rfl
theorem take_succ_get {α : Type} {xs : List α} {k : Nat} {x : α} (hx : xs[k]? = some x) : xs.take (k + 1) = xs.take k ++ [x] := by rw [List.take_add_one, hx]; rfl
theorem drop_get {α : Type} {xs : List α} {k : Nat} {x : α} (hx : xs[k]? = some x) : xs.drop k = x :: xs.drop (k + 1) := by
  obtain ⟨hk, rfl⟩ := List.getElem?_eq_some_iff.1 hx
  exact List.drop_eq_getElem_cons hk
theorem any_take_succ {α : Type} (p : α → Bool) {xs : List α} {k : Nat} {x : α} (hx : xs[k]? = some x) : (xs.take (k + 1)).any p = ((xs.take k).any p || p x) := by
  rw [List.take_add_one, List.any_append, hx]
  simp
set_option maxRecDepth 100000 in
theorem IdxP_c {w : World} {A : Option Addr} {n c : Nat} {xs : List Str} (h : SlR strF w A n xs) (hn : n ≤ 100000) :
    Calls Tryz.prog 121 #[.slice A n c, .func (.func 102) #[] #[]] w fun e w' => ∃ i : Int, e = .returned (.int .i64 i) ∧ decide (0 ≤ i) = xs.any patB ∧ Ext w w' := by
  have HS := Lib.hid h
  go_enter Tryz.func121, Tryz.ntmps121
  go_wp2
  go_loopw [8] (fun i wr => ∃ k : Nat, k ≤ n ∧ i = .int .i64 k ∧ (xs.take k).any patB = false ∧ ∃ ξ : X w No, wr = ξ.v) (fun i _ => n - (intOf i).toNat)
  case atStart => exact ⟨0, Nat.zero_le _, rfl, rfl, X.here _ _, rfl⟩
  case round =>
    obtain ⟨k, hk, rfl, hT, ξ, rfl⟩ := hrel
    have HT := Lib.hid hT
    clear hT
    by_cases hlt : k < n
    · obtain ⟨b, o, f, rfl, hx, c0⟩ := strs_get HS.out hlt
      have HX := Lib.hid hx
      have HC := Lib.hid (pattern_c f)
      obtain ⟨p, hp⟩ : ∃ p, patB f = p := ⟨_, rfl⟩
      have HP := Lib.hid hp
      rw [hp] at HC
      clear hx hp h
      go_wp2_with fail
      refine (HC.out _).mono ?_
      rintro e u ⟨rfl, hu⟩
      have HU : Hid (Ext w u) := Lib.hid (ξ.h.then_ext hu)
      clear hu HC
      cases p with
      | true =>
        go_wp2_with fail
        go_ret
        refine ⟨k, rfl, ?_, HU.out⟩
        rw [decide_eq_true (by omega : 0 ≤ (k : Int))]
        exact (List.any_eq_true.2 ⟨f, List.mem_of_getElem? HX.out, HP.out⟩).symm
      | false =>
        go_wp2_with fail
        go_roundw
        case rel => exact ⟨k + 1, by omega, by go_num, by rw [any_take_succ patB HX.out, HT.out, HP.out]; rfl, ⟨_, HU.out⟩, rfl⟩
        case measure => simp [intOf]; omega
    · obtain rfl : k = n := by omega
      go_wp2_with fail
      go_ret
      have e1 := HT.out
      rw [List.take_of_length_le (by rw [HS.out.1]; exact Nat.le_refl _)] at e1
      exact ⟨-1, rfl, by rw [e1]; decide, ξ.h⟩
theorem AnyP_c {w : World} {A : Option Addr} {n c : Nat} {xs : List Str} (h : SlR strF w A n xs) (hn : n ≤ 100000) :
    Calls Tryz.prog 88 #[.slice A n c, .func (.func 102) #[] #[]] w fun e w' => e = .returned (.bool (xs.any patB)) ∧ Ext w w' := by
  have HC := Lib.hid (IdxP_c (c := c) h hn)
  clear h
  go_enter Tryz.func88, Tryz.ntmps88
  go_wp2_with fail
  refine HC.out.mono ?_
  rintro e u ⟨i, rfl, hi, hu⟩
  have HI := Lib.hid hi
  have HU := Lib.hid hu
  clear HC hi hu
  go_wp2_with fail
  go_ret
  exact ⟨by rw [← HI.out]; rfl, HU.out⟩
abbrev E (n : Int) : Value := .iface 80 (.int .i64 n)
def errV (n : Int) : Value := if n = 0 then .nilIface else E n
theorem errV_zero : errV 0 = .nilIface := rfl
theorem errV_pos {n : Int} (h : n ≠ 0) : errV n = E n := if_neg h
end Go.Proofs.YtnhaekifcieeoaaGreatDoor
