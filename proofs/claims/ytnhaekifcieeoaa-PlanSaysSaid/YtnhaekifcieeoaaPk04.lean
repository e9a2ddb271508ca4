/- Put together: Find, Files1, Grf, Errs, Deep, MkC, MkP, Gx1, Gx2, Rp1, Rp2, Rp3, Rp4, Rp5, Once, Rp6, Rp7, Rp8, Bld, Join, Auto, Tree. -/
import Derived.Test.YtnhaekifcieeoaaPk03
import Derived.Test.YtnhaekifcieeoaaPk02
import Derived.Test.YtnhaekifcieeoaaPkS
import Derived.Test.YtnhaekifcieeoaaProg
import Derived.Laws.ResultCell
import Derived.Laws.MakeOwn
import Derived.Deep.MidRow
import Derived.OwnWalk
import Derived.Lib.FrozenHead
import Derived.Lib.AppendStr
import Derived.Stop.Asserts
import Derived.Defers
import Derived.Laws.Pointers
import Derived.Laws.LoneSync
import Derived.RegionTactic
import Derived.RegionCalls
import Derived.ChangeAlike
import Derived.Test.YtnhaekifcieeoaaPk01
import Derived.Lib.SlBytesRow
import Derived.Shelf.Strings.BuilderK
import Derived.Laws.Externs
namespace Go.Proofs.Ytnhaekifcieeoaa
open Go Go.RowKit
theorem Compare_c (a b : Str) (w : World) : Calls Try.prog 114 #[S a, S b] w fun e w' => e = .returned (.int .i64 (cmpS a b)) ∧ Ext w w' := by
  refine (Try.strings_Compare _ _ w).mono ?_
  rintro e w' ⟨rfl, rfl⟩
  exact ⟨rfl, Only.refl _ _⟩
theorem find1_c (f : File) (k : Str) (w : World) : Calls Try.prog 113 #[.agg #[S f.1, S f.2], S k] w fun e w' => e = .returned (.int .i64 (cmpS f.1 k)) ∧ Ext w w' := by
  go_enter Try.func113, Try.ntmps113
  go_wp2_with fail
  refine (Compare_c f.1 k _).mono ?_
  rintro e u ⟨rfl, hu⟩
  go_wp2_with fail
  go_ret
  exact ⟨rfl, ((Only.refl No w).alloc _).then_ext hu⟩
set_option maxRecDepth 100000 in
set_option maxHeartbeats 1000000 in
theorem BsFile_c {w : World} {A : Option Addr} {n c : Nat} {xs : List File} (h : SlR fileF w A n xs) (hn : n ≤ 1000000) (k : Str) (hr : Rise (·.1) xs) :
    Calls Try.prog 112 #[.slice A n c, S k, .func (.func 113) #[] #[]] w fun e w' => e = .returned (.tuple #[.int .i64 (posOf (·.1) xs k : Nat), .bool (hasAt (·.1) xs k)]) ∧ Ext w w' := by
  have HR := Lib.hid hr
  clear hr
  go_enter Try.func112, Try.ntmps112
  go_wp2_with (first | ((first | refine Mix.wpList_guarded rfl ?_ | refine Mix.wp_still (by kernel_rfl) (by kernel_rfl) ?_); (repeat' (first | (refine Mix.lex_quiet0 rfl rfl rfl ?_; intro K hK; go_big_quiet_op; go_big_quiet_on) | (refine Mix.lex_quietG rfl rfl rfl (by with_reducible rfl) rfl rfl ?_; intro K hK; go_big_quiet_op; go_big_quiet_on) | ((first | refine Mix.lex_skipT rfl rfl rfl (by with_reducible rfl) ?_ | refine Mix.lex_skipF rfl rfl rfl (by with_reducible rfl) ?_ | refine Mix.lex_skipU rfl rfl rfl (by with_reducible rfl) ?_); simp only [Act.put, List.setIfInBounds_toArray, List.set_cons_succ, List.set_cons_zero]) | (refine Mix.lex_part rfl rfl rfl rfl (fun hq => ?_) (fun hq => ?_) <;> (fail_if_success (guard_hyp hq :ₛ true = true)) <;> (fail_if_success (guard_hyp hq :ₛ false = false)) <;> first | (exfalso; cases hq; done) | (exfalso; simp only [decide_eq_true_eq, decide_eq_false_iff_not, beq_iff_eq, beq_eq_false_iff_ne, ne_eq, Int.not_lt, Int.not_le] at hq; omega) | simp only [Act.put, List.setIfInBounds_toArray, List.set_cons_succ, List.set_cons_zero]))); all_goals (refine Mix.lex_nil ?_)))
  go_loopw [9, 10] (fun i j wr => ∃ a b : Nat, a ≤ b ∧ b ≤ n ∧ i = .int .i64 a ∧ j = .int .i64 b ∧ (∀ p x, p < a → xs[p]? = some x → x.1 < k) ∧ (∀ p x, b ≤ p → xs[p]? = some x → ¬ x.1 < k) ∧ ∃ ξ : X w No, wr = ξ.v) (fun i j _ => (intOf j - intOf i).toNat)
  case atStart => exact ⟨0, n, Nat.zero_le _, Nat.le_refl _, rfl, rfl, fun p x hp => by omega, fun p x hp hx => (by have := (List.getElem?_eq_some_iff.1 hx).1; have := h.1; omega), X.here _ _, rfl⟩
  case round =>
    obtain ⟨a, b, hab, hbn, rfl, rfl, h1, h2, ξ, rfl⟩ := hrel
    have H1 := Lib.hid h1
    have H2 := Lib.hid h2
    clear h1 h2
    by_cases hlt : a < b
    · obtain ⟨bk, o, x, rfl, hx, c0, c1⟩ := files_get h (k := (a + b) / 2) (by omega)
      have HX := Lib.hid hx
      clear hx
      have hd := cmpS_lt x.1 k
      have HF := Lib.hid (fun w => find1_c x k w)
      obtain ⟨m, hm⟩ : ∃ m, m = cmpS x.1 k := ⟨_, rfl⟩
      rw [← hm] at hd HF
      clear hm
      by_cases hxk : x.1 < k
      · rw [decide_eq_true hxk] at hd
        have HK := Lib.hid hxk
        clear hxk
        go_wp2_with (first | ((first | refine Mix.wpList_guarded rfl ?_ | refine Mix.wp_still (by kernel_rfl) (by kernel_rfl) ?_); (repeat' (first | (refine Mix.lex_quiet0 rfl rfl rfl ?_; intro K hK; go_big_quiet_op; go_big_quiet_on) | (refine Mix.lex_quietG rfl rfl rfl (by with_reducible rfl) rfl rfl ?_; intro K hK; go_big_quiet_op; go_big_quiet_on) | ((first | refine Mix.lex_skipT rfl rfl rfl (by with_reducible rfl) ?_ | refine Mix.lex_skipF rfl rfl rfl (by with_reducible rfl) ?_ | refine Mix.lex_skipU rfl rfl rfl (by with_reducible rfl) ?_); simp only [Act.put, List.setIfInBounds_toArray, List.set_cons_succ, List.set_cons_zero]) | (refine Mix.lex_part rfl rfl rfl rfl (fun hq => ?_) (fun hq => ?_) <;> (fail_if_success (guard_hyp hq :ₛ true = true)) <;> (fail_if_success (guard_hyp hq :ₛ false = false)) <;> first | (exfalso; cases hq; done) | (exfalso; simp only [decide_eq_true_eq, decide_eq_false_iff_not, beq_iff_eq, beq_eq_false_iff_ne, ne_eq, Int.not_lt, Int.not_le] at hq; omega) | simp only [Act.put, List.setIfInBounds_toArray, List.set_cons_succ, List.set_cons_zero]))); all_goals (refine Mix.lex_nil ?_)))
        refine (HF.out _).mono ?_
        rintro e u ⟨rfl, hu⟩
        have U := Lib.hid (ξ.h.then_ext hu)
        clear hu
        go_wp2_with (first | ((first | refine Mix.wpList_guarded rfl ?_ | refine Mix.wp_still (by kernel_rfl) (by kernel_rfl) ?_); (repeat' (first | (refine Mix.lex_quiet0 rfl rfl rfl ?_; intro K hK; go_big_quiet_op; go_big_quiet_on) | (refine Mix.lex_quietG rfl rfl rfl (by with_reducible rfl) rfl rfl ?_; intro K hK; go_big_quiet_op; go_big_quiet_on) | ((first | refine Mix.lex_skipT rfl rfl rfl (by with_reducible rfl) ?_ | refine Mix.lex_skipF rfl rfl rfl (by with_reducible rfl) ?_ | refine Mix.lex_skipU rfl rfl rfl (by with_reducible rfl) ?_); simp only [Act.put, List.setIfInBounds_toArray, List.set_cons_succ, List.set_cons_zero]) | (refine Mix.lex_part rfl rfl rfl rfl (fun hq => ?_) (fun hq => ?_) <;> (fail_if_success (guard_hyp hq :ₛ true = true)) <;> (fail_if_success (guard_hyp hq :ₛ false = false)) <;> first | (exfalso; cases hq; done) | (exfalso; simp only [decide_eq_true_eq, decide_eq_false_iff_not, beq_iff_eq, beq_eq_false_iff_ne, ne_eq, Int.not_lt, Int.not_le] at hq; omega) | simp only [Act.put, List.setIfInBounds_toArray, List.set_cons_succ, List.set_cons_zero]))); all_goals (refine Mix.lex_nil ?_)))
        go_roundw
        case rel =>
          refine ⟨(a + b) / 2 + 1, b, by omega, hbn, by go_num, rfl, fun p y hp hy => ?_, H2.out, ⟨_, U.out⟩, rfl⟩
          by_cases e : p = (a + b) / 2
          · subst e
            rw [HX.out] at hy
            injection hy with hy
            exact hy ▸ HK.out
          · exact slt_trans (HR.out.at_lt (show p < (a + b) / 2 by omega) hy HX.out) HK.out
        case measure => simp [intOf]; omega
      · rw [decide_eq_false hxk] at hd
        have HK := Lib.hid hxk
        clear hxk
        go_wp2_with (first | ((first | refine Mix.wpList_guarded rfl ?_ | refine Mix.wp_still (by kernel_rfl) (by kernel_rfl) ?_); (repeat' (first | (refine Mix.lex_quiet0 rfl rfl rfl ?_; intro K hK; go_big_quiet_op; go_big_quiet_on) | (refine Mix.lex_quietG rfl rfl rfl (by with_reducible rfl) rfl rfl ?_; intro K hK; go_big_quiet_op; go_big_quiet_on) | ((first | refine Mix.lex_skipT rfl rfl rfl (by with_reducible rfl) ?_ | refine Mix.lex_skipF rfl rfl rfl (by with_reducible rfl) ?_ | refine Mix.lex_skipU rfl rfl rfl (by with_reducible rfl) ?_); simp only [Act.put, List.setIfInBounds_toArray, List.set_cons_succ, List.set_cons_zero]) | (refine Mix.lex_part rfl rfl rfl rfl (fun hq => ?_) (fun hq => ?_) <;> (fail_if_success (guard_hyp hq :ₛ true = true)) <;> (fail_if_success (guard_hyp hq :ₛ false = false)) <;> first | (exfalso; cases hq; done) | (exfalso; simp only [decide_eq_true_eq, decide_eq_false_iff_not, beq_iff_eq, beq_eq_false_iff_ne, ne_eq, Int.not_lt, Int.not_le] at hq; omega) | simp only [Act.put, List.setIfInBounds_toArray, List.set_cons_succ, List.set_cons_zero]))); all_goals (refine Mix.lex_nil ?_)))
        refine (HF.out _).mono ?_
        rintro e u ⟨rfl, hu⟩
        have U := Lib.hid (ξ.h.then_ext hu)
        clear hu
        go_wp2_with (first | ((first | refine Mix.wpList_guarded rfl ?_ | refine Mix.wp_still (by kernel_rfl) (by kernel_rfl) ?_); (repeat' (first | (refine Mix.lex_quiet0 rfl rfl rfl ?_; intro K hK; go_big_quiet_op; go_big_quiet_on) | (refine Mix.lex_quietG rfl rfl rfl (by with_reducible rfl) rfl rfl ?_; intro K hK; go_big_quiet_op; go_big_quiet_on) | ((first | refine Mix.lex_skipT rfl rfl rfl (by with_reducible rfl) ?_ | refine Mix.lex_skipF rfl rfl rfl (by with_reducible rfl) ?_ | refine Mix.lex_skipU rfl rfl rfl (by with_reducible rfl) ?_); simp only [Act.put, List.setIfInBounds_toArray, List.set_cons_succ, List.set_cons_zero]) | (refine Mix.lex_part rfl rfl rfl rfl (fun hq => ?_) (fun hq => ?_) <;> (fail_if_success (guard_hyp hq :ₛ true = true)) <;> (fail_if_success (guard_hyp hq :ₛ false = false)) <;> first | (exfalso; cases hq; done) | (exfalso; simp only [decide_eq_true_eq, decide_eq_false_iff_not, beq_iff_eq, beq_eq_false_iff_ne, ne_eq, Int.not_lt, Int.not_le] at hq; omega) | simp only [Act.put, List.setIfInBounds_toArray, List.set_cons_succ, List.set_cons_zero]))); all_goals (refine Mix.lex_nil ?_)))
        go_roundw
        case rel =>
          refine ⟨a, (a + b) / 2, by omega, by omega, rfl, by go_num, H1.out, fun p y hp hy => ?_, ⟨_, U.out⟩, rfl⟩
          by_cases e : p = (a + b) / 2
          · subst e
            rw [HX.out] at hy
            injection hy with hy
            exact hy ▸ HK.out
          · exact fun hl => HK.out (slt_trans (HR.out.at_lt (show (a + b) / 2 < p by omega) HX.out hy) hl)
        case measure => simp [intOf]; omega
    · obtain rfl : a = b := by omega
      have HP : Hid (posOf (·.1) xs k = a) := posOf_of (by rw [h.1]; exact hbn) H1.out (fun x hx => H2.out a x (Nat.le_refl _) hx)
      have HB : Hid (hasAt (·.1) xs k = match xs[a]? with | some x => decide (x.1 = k) | none => false) := by unfold Hid hasAt; rw [HP.out]; cases xs[a]? <;> rfl
      clear H1 H2
      by_cases han : a < n
      · obtain ⟨bk, o, x, rfl, hx, c0, c1⟩ := files_get h han
        have HB' : Hid (hasAt (·.1) xs k = decide (x.1 = k)) := by unfold Hid; rw [HB.out, hx]
        clear hx HB
        have hd := cmpS_eq x.1 k
        have HF := Lib.hid (fun w => find1_c x k w)
        obtain ⟨m, hm⟩ : ∃ m, m = cmpS x.1 k := ⟨_, rfl⟩
        rw [← hm] at hd HF
        obtain ⟨bb, hbb⟩ : ∃ bb, bb = decide (x.1 = k) := ⟨_, rfl⟩
        rw [← hbb] at hd HB'
        clear hm hbb
        have hk : decide ((a : Int) < (n : Int)) = true := by simp; omega
        go_upto_region 8 with fail
        refine Mix.wp_plain [11] (Cl w No) (Cl.of ξ.h) ?_
        (repeat' (first | (refine Mix.lex_quiet0 rfl rfl rfl ?_; intro K hK; go_big_quiet_op; go_big_quiet_on) | (refine Mix.lex_quietG rfl rfl rfl (by with_reducible rfl) rfl rfl ?_; intro K hK; go_big_quiet_op; go_big_quiet_on) | ((first | refine Mix.lex_skipT rfl rfl rfl (by with_reducible rfl) ?_ | refine Mix.lex_skipF rfl rfl rfl (by with_reducible rfl) ?_ | refine Mix.lex_skipU rfl rfl rfl (by with_reducible rfl) ?_); simp only [Act.put, List.setIfInBounds_toArray, List.set_cons_succ, List.set_cons_zero]) | (refine Mix.lex_part rfl rfl rfl rfl (fun hq => ?_) (fun hq => ?_) <;> (fail_if_success (guard_hyp hq :ₛ true = true)) <;> (fail_if_success (guard_hyp hq :ₛ false = false)) <;> first | (exfalso; cases hq; done) | (exfalso; simp only [decide_eq_true_eq, decide_eq_false_iff_not, beq_iff_eq, beq_eq_false_iff_ne, ne_eq, Int.not_lt, Int.not_le] at hq; omega) | simp only [Act.put, List.setIfInBounds_toArray, List.set_cons_succ, List.set_cons_zero])))
        ((first | refine Mix.lex_goes0 rfl rfl ?_ | refine Mix.lex_goesG rfl rfl rfl (by with_reducible rfl) rfl ?_); intro K hK; go_simp)
        refine (HF.out _).mono ?_
        rintro e u ⟨rfl, hu⟩
        have U := Lib.hid (ξ.h.then_ext hu)
        refine ⟨_, rfl, hK _ _ (fun _ => Cl.of U.out) ?_⟩
        clear hK K hu
        simp only [Act.put, List.setIfInBounds_toArray, List.set_cons_succ, List.set_cons_zero]
        (repeat' (first | (refine Mix.lex_quiet0 rfl rfl rfl ?_; intro K hK; go_big_quiet_op; go_big_quiet_on) | (refine Mix.lex_quietG rfl rfl rfl (by with_reducible rfl) rfl rfl ?_; intro K hK; go_big_quiet_op; go_big_quiet_on) | ((first | refine Mix.lex_skipT rfl rfl rfl (by with_reducible rfl) ?_ | refine Mix.lex_skipF rfl rfl rfl (by with_reducible rfl) ?_ | refine Mix.lex_skipU rfl rfl rfl (by with_reducible rfl) ?_); simp only [Act.put, List.setIfInBounds_toArray, List.set_cons_succ, List.set_cons_zero]) | (refine Mix.lex_part rfl rfl rfl rfl (fun hq => ?_) (fun hq => ?_) <;> (fail_if_success (guard_hyp hq :ₛ true = true)) <;> (fail_if_success (guard_hyp hq :ₛ false = false)) <;> first | (exfalso; cases hq; done) | (exfalso; simp only [decide_eq_true_eq, decide_eq_false_iff_not, beq_iff_eq, beq_eq_false_iff_ne, ne_eq, Int.not_lt, Int.not_le] at hq; omega) | simp only [Act.put, List.setIfInBounds_toArray, List.set_cons_succ, List.set_cons_zero])))
        refine Mix.lex_nil ?_
        go_wp2_with (first | ((first | refine Mix.wpList_guarded rfl ?_ | refine Mix.wp_still (by kernel_rfl) (by kernel_rfl) ?_); (repeat' (first | (refine Mix.lex_quiet0 rfl rfl rfl ?_; intro K hK; go_big_quiet_op; go_big_quiet_on) | (refine Mix.lex_quietG rfl rfl rfl (by with_reducible rfl) rfl rfl ?_; intro K hK; go_big_quiet_op; go_big_quiet_on) | ((first | refine Mix.lex_skipT rfl rfl rfl (by with_reducible rfl) ?_ | refine Mix.lex_skipF rfl rfl rfl (by with_reducible rfl) ?_ | refine Mix.lex_skipU rfl rfl rfl (by with_reducible rfl) ?_); simp only [Act.put, List.setIfInBounds_toArray, List.set_cons_succ, List.set_cons_zero]) | (refine Mix.lex_part rfl rfl rfl rfl (fun hq => ?_) (fun hq => ?_) <;> (fail_if_success (guard_hyp hq :ₛ true = true)) <;> (fail_if_success (guard_hyp hq :ₛ false = false)) <;> first | (exfalso; cases hq; done) | (exfalso; simp only [decide_eq_true_eq, decide_eq_false_iff_not, beq_iff_eq, beq_eq_false_iff_ne, ne_eq, Int.not_lt, Int.not_le] at hq; omega) | simp only [Act.put, List.setIfInBounds_toArray, List.set_cons_succ, List.set_cons_zero]))); all_goals (refine Mix.lex_nil ?_)))
        go_ret2
        exact ⟨(by rw [HP.out, HB'.out]; try rfl), U.out⟩
      · have hk : decide ((a : Int) < (n : Int)) = false := by simp; omega
        have HB' : Hid (hasAt (·.1) xs k = false) := by
          have : xs[a]? = none := List.getElem?_eq_none (by rw [h.1]; omega)
          unfold Hid
          rw [HB.out, this]
        clear HB
        go_wp2_with (first | ((first | refine Mix.wpList_guarded rfl ?_ | refine Mix.wp_still (by kernel_rfl) (by kernel_rfl) ?_); (repeat' (first | (refine Mix.lex_quiet0 rfl rfl rfl ?_; intro K hK; go_big_quiet_op; go_big_quiet_on) | (refine Mix.lex_quietG rfl rfl rfl (by with_reducible rfl) rfl rfl ?_; intro K hK; go_big_quiet_op; go_big_quiet_on) | ((first | refine Mix.lex_skipT rfl rfl rfl (by with_reducible rfl) ?_ | refine Mix.lex_skipF rfl rfl rfl (by with_reducible rfl) ?_ | refine Mix.lex_skipU rfl rfl rfl (by with_reducible rfl) ?_); simp only [Act.put, List.setIfInBounds_toArray, List.set_cons_succ, List.set_cons_zero]) | (refine Mix.lex_part rfl rfl rfl rfl (fun hq => ?_) (fun hq => ?_) <;> (fail_if_success (guard_hyp hq :ₛ true = true)) <;> (fail_if_success (guard_hyp hq :ₛ false = false)) <;> first | (exfalso; cases hq; done) | (exfalso; simp only [decide_eq_true_eq, decide_eq_false_iff_not, beq_iff_eq, beq_eq_false_iff_ne, ne_eq, Int.not_lt, Int.not_le] at hq; omega) | simp only [Act.put, List.setIfInBounds_toArray, List.set_cons_succ, List.set_cons_zero]))); all_goals (refine Mix.lex_nil ?_)))
        all_goals (go_ret2; exact ⟨(by rw [HP.out, HB'.out]; try rfl), ξ.h⟩)
theorem find_c {w : World} {A : Option Addr} {n c : Nat} {xs : List File} (h : SlR fileF w A n xs) (hn : n ≤ 1000000) (k : Str) (hr : Rise (·.1) xs) :
    Calls Try.prog 102 #[.slice A n c, S k] w fun e w' => e = .returned (.tuple #[.int .i64 (posOf (·.1) xs k : Nat), .bool (hasAt (·.1) xs k)]) ∧ Ext w w' := by
  go_enter Try.func102, Try.ntmps102
  go_wp2_with fail
  refine (BsFile_c h hn k hr).mono ?_
  rintro e u ⟨rfl, hu⟩
  go_wp2_with fail
  go_ret2
  exact ⟨rfl, hu⟩
abbrev fk : File → Str := fun f => f.1
def getT (k : Str) (xs : List File) : Str := ((getL fk k xs).map (·.2)).getD []
def getB (k : Str) (xs : List File) : Bool := (getL fk k xs).isSome
theorem Get_c {w : World} {A : Option Addr} {n c : Nat} {xs : List File} (h : SlR fileF w A n xs) (hn : n ≤ 1000000) (k : Str) (hr : Rise fk xs) :
    Calls Try.prog 82 #[.slice A n c, S k] w fun e w' => e = .returned (.tuple #[S (getT k xs), .bool (getB k xs)]) ∧ Ext w w' := by
  have hF := find_c (c := c) h hn k hr
  have hG := getL_at hr k
  have hP := posOf_le (key := fk) xs k
  obtain ⟨b, hb⟩ : ∃ b, b = hasAt fk xs k := ⟨_, rfl⟩
  rw [← hb] at hF hG
  have HB := Lib.hid hb
  clear hb
  cases b with
  | false =>
    have HG : Hid (getL fk k xs = none) := by simpa [Hid] using hG
    clear hG
    go_enter Try.func82, Try.ntmps82
    go_wp2_with fail
    refine hF.mono ?_
    rintro e u ⟨rfl, hu⟩
    go_wp2_with fail
    go_ret2
    exact ⟨by rw [getT, getB, HG.out]; rfl, hu⟩
  | true =>
    obtain ⟨p, hp⟩ : ∃ p, p = posOf fk xs k := ⟨_, rfl⟩
    rw [← hp] at hF hG hP
    have hlt : p < n := by
      have h1 := HB.out
      unfold hasAt at h1
      rw [← hp] at h1
      rw [← h.1]
      by_cases hl : p < xs.length
      · exact hl
      · rw [List.getElem?_eq_none (by omega)] at h1; cases h1
    obtain ⟨bk, o, x, rfl, hx, c0, c1⟩ := files_get h hlt
    have HG : Hid (getL fk k xs = some x) := by rw [Hid, hG, hx]; rfl
    have HP := Lib.hid hp
    clear hG hp hx hP
    go_enter Try.func82, Try.ntmps82
    go_wp2_with fail
    refine hF.mono ?_
    rintro e u ⟨rfl, hu⟩
    have c1' : u.cell? ⟨bk, o + p * 2 + 1, none⟩ = some (S x.2) := c1 ⟨u, hu⟩
    have U := Lib.hid hu
    clear hF hu c0 c1
    go_wp2_with fail
    go_ret2
    exact ⟨by rw [getT, getB, HG.out]; rfl, U.out⟩
theorem find?_take_none {α : Type} {p : α → Bool} {xs : List α} {k : Nat} {x : α} (h : (xs.take k).find? p = none) (hx : xs[k]? = some x) : (xs.take (k + 1)).find? p = if p x then some x else none := by
  rw [List.take_add_one, hx, List.find?_append, h]
  cases hp : p x <;> simp [hp]
theorem find?_of_take {α : Type} {p : α → Bool} {xs : List α} {k : Nat} {x : α} (h : (xs.take k).find? p = some x) : xs.find? p = some x := by
  rw [← List.take_append_drop k xs, List.find?_append, h]; rfl
theorem RGet_c {w : World} {A : Option Addr} {n c : Nat} {xs : List File} (h : SlR fileF w A n xs) (hn : n ≤ 1000000) (k : Str) :
    Calls Try.prog 62 #[.slice A n c, S k] w fun e w' => e = .returned (.tuple #[S (getT k xs), .bool (getB k xs)]) ∧ Ext w w' := by
  go_enter Try.func62, Try.ntmps62
  go_wp2_with fail
  go_loopw [6] (fun i wr => ∃ j : Nat, j ≤ n ∧ i = .int .i64 j ∧ getL fk k (xs.take j) = none ∧ ∃ ξ : X w No, wr = ξ.v) (fun i _ => n - (intOf i).toNat)
  case atStart => exact ⟨0, Nat.zero_le _, rfl, rfl, X.here _ _, rfl⟩
  case round =>
    obtain ⟨j, hj, rfl, hT, ξ, rfl⟩ := hrel
    have HT := Lib.hid hT
    clear hT
    by_cases hlt : j < n
    · obtain ⟨b, o, x, rfl, hx, c0, c1⟩ := files_get h hlt
      have HX := Lib.hid hx
      clear hx
      have HS : Hid (getL fk k (xs.take (j + 1)) = if decide (x.1 = k) then some x else none) := find?_take_none HT.out HX.out
      by_cases hk : x.1 = k
      · have HG : Hid (getL fk k xs = some x) := find?_of_take (k := j + 1) (by have := HS.out; unfold getL at this; rw [this]; simp [hk])
        have hd : (x.1 == k) = true := by simpa using hk
        clear hk
        go_wp2_with fail
        go_ret2
        exact ⟨by rw [getT, getB, HG.out]; rfl, ξ.h⟩
      · have hd : (x.1 == k) = false := by simpa using hk
        have HG : Hid (getL fk k (xs.take (j + 1)) = none) := by rw [Hid, HS.out]; simp [hk]
        clear hk
        go_wp2_with fail
        go_roundw
        case rel => exact ⟨j + 1, by omega, by go_num, HG.out, ξ, rfl⟩
        case measure => simp [intOf]; omega
    · go_wp2_with fail
      go_ret2
      have hT := HT.out
      rw [List.take_of_length_le (by rw [h.1]; omega)] at hT
      exact ⟨by rw [getT, getB, hT]; rfl, ξ.h⟩
def cmdOf (ts ns : List Str) (stem c : Str) : Str := autoF (keyV (ts.headD []) (ns.headD []) (joinSp ns) stem) c
def tgtOf (r : Rul) (name stem : Str) : List Str := if stem = [] then r.targets else [name]
def ndsOf (r : Rul) (stem : Str) : List Str := r.needs.map fun n => onceF n stem
def groupF (m : Mk) (r : Rul) (name stem : Str) : Grp :=
  ⟨tgtOf r name stem, ndsOf r stem, r.cmds.map (cmdOf (tgtOf r name stem) (ndsOf r stem) stem), inS m.phony (r.targets.headD [])⟩
def explF (rs : List Rul) (name : Str) : Option Rul := rs.find? fun r => inS r.targets name
abbrev isF (l : List File) (n : Str) : Bool := getB n l
def hereB (m : Mk) (l : List File) (n : Str) : Bool := isF l n || (explF m.rules n).isSome
def patF (m : Mk) (l : List File) (name : Str) : List Rul → Option Grp
  | [] => none
  | r :: rs =>
    if (stemL (r.targets.headD []) name).2 = false then patF m l name rs
    else if (groupF m r name (stemL (r.targets.headD []) name).1).needs.all (hereB m l) = true then some (groupF m r name (stemL (r.targets.headD []) name).1)
    else patF m l name rs
def ruleF (m : Mk) (l : List File) (name : Str) : Option Grp :=
  match explF m.rules name with
  | some r => some (groupF m r name [])
  | none => patF m l name m.rules
def makerF (out : List Grp) (n : Str) : Option Nat := out.findIdx? fun g => inS g.targets n
def needsF (rec : List Grp → Str → List Grp × Int) : List Grp → List Str → List Grp × Int
  | out, [] => (out, 0)
  | out, n :: ns => if (rec out n).2 ≠ 0 then rec out n else needsF rec (rec out n).1 ns
def visitF (m : Mk) (l : List File) : Nat → List Str → List Grp → Str → List Grp × Int
  | 0, _, out, _ => (out, 8)
  | f + 1, way, out, name =>
    if inS way name = true then (out, 8)
    else if (makerF out name).isSome = true then (out, 0)
    else match ruleF m l name with
      | none => if isF l name = true then (out, 0) else (out, 5)
      | some g =>
        if (needsF (visitF m l f (way ++ g.targets)) out g.needs).2 ≠ 0 then needsF (visitF m l f (way ++ g.targets)) out g.needs
        else if (needsF (visitF m l f (way ++ g.targets)) out g.needs).1.length = 10 then ((needsF (visitF m l f (way ++ g.targets)) out g.needs).1, 2)
        else ((needsF (visitF m l f (way ++ g.targets)) out g.needs).1 ++ [g], 0)
def groupsF (m : Mk) (l : List File) (goal : Str) : List Grp × Int :=
  if nameB goal = false then ([], 3)
  else if (visitF m l 100 [] [] goal).2 ≠ 0 then ([], (visitF m l 100 [] [] goal).2)
  else ((visitF m l 100 [] [] goal).1, 0)
def candF (m : Mk) (l : List File) (goal : Str) : List Str := goal :: l.map (·.1) ++ m.rules.flatMap (·.targets) ++ m.rules.flatMap (fun r => ndsOf r [])
def leftF (c way : List Str) : Nat := (c.filter fun n => !inS way n).length
theorem leftF_lt {c way ts : List Str} {n : Str} (hn : n ∈ c) (hw : inS way n = false) (ht : n ∈ ts) : leftF c (way ++ ts) < leftF c way := by
  unfold leftF
  have hsub : ∀ x, (!inS (way ++ ts) x) = true → (!inS way x) = true := by
    intro x hx
    simp only [inS, Bool.not_eq_true', decide_eq_false_iff_not, List.mem_append, not_or] at hx ⊢
    exact hx.1
  have hs : inS (way ++ ts) n = true := by simp [inS, ht]
  induction c with
  | nil => cases hn
  | cons x xs ih =>
    have hle : ((xs.filter fun n => !inS (way ++ ts) n)).length ≤ (xs.filter fun n => !inS way n).length := by
      clear ih hn
      induction xs with
      | nil => simp
      | cons y ys ih =>
        simp only [List.filter_cons]
        by_cases h1 : (!inS (way ++ ts) y) = true
        · rw [if_pos h1, if_pos (hsub y h1)]; simp only [List.length_cons]; omega
        · rw [if_neg h1]; split <;> (try simp only [List.length_cons]) <;> omega
    simp only [List.filter_cons]
    by_cases hx : x = n
    · subst hx
      rw [if_neg (by rw [hs]; decide), if_pos (by rw [hw]; rfl)]
      simp only [List.length_cons]; omega
    · have hn' : n ∈ xs := by
        rcases List.mem_cons.1 hn with h | h
        · exact absurd h.symm hx
        · exact h
      have := ih hn'
      by_cases h1 : (!inS (way ++ ts) x) = true
      · rw [if_pos h1, if_pos (hsub x h1)]; simp only [List.length_cons]; omega
      · rw [if_neg h1]; split <;> (try simp only [List.length_cons]) <;> omega
theorem explF_some {rs : List Rul} {n : Str} {r : Rul} (h : explF rs n = some r) : r ∈ rs ∧ n ∈ r.targets := by
  unfold explF at h
  have h2 := List.find?_some h
  exact ⟨List.mem_of_find?_eq_some h, by simpa [inS] using h2⟩
theorem patF_some {m : Mk} {l : List File} {n : Str} {g : Grp} : ∀ {rs : List Rul}, patF m l n rs = some g → ∃ r ∈ rs, (stemL (r.targets.headD []) n).2 = true ∧ g = groupF m r n (stemL (r.targets.headD []) n).1 ∧ g.needs.all (hereB m l) = true
  | [], h => by cases h
  | r :: rs, h => by
    unfold patF at h
    split at h
    · obtain ⟨r', h1, h2⟩ := patF_some h
      exact ⟨r', List.mem_cons_of_mem _ h1, h2⟩
    · rename_i h1
      split at h
      · rename_i h2
        cases h
        exact ⟨r, by simp, by simpa using h1, rfl, h2⟩
      · obtain ⟨r', h1, h2⟩ := patF_some h
        exact ⟨r', List.mem_cons_of_mem _ h1, h2⟩
theorem stemL_ne {p n : Str} (h : (stemL p n).2 = true) : (stemL p n).1 ≠ [] := by
  unfold stemL at h ⊢
  split
  · rename_i h1
    rw [if_pos h1] at h
    intro e
    have := congrArg List.length e
    simp only [List.length_drop, List.length_take, List.length_nil] at this
    omega
  · rename_i h1
    rw [if_neg h1] at h
    cases h
theorem ruleF_some {m : Mk} {l : List File} {n : Str} {g : Grp} (h : ruleF m l n = some g) :
    (∃ r, explF m.rules n = some r ∧ g = groupF m r n []) ∨ (explF m.rules n = none ∧ ∃ r ∈ m.rules, (stemL (r.targets.headD []) n).2 = true ∧ g = groupF m r n (stemL (r.targets.headD []) n).1 ∧ g.needs.all (hereB m l) = true) := by
  unfold ruleF at h
  split at h
  · rename_i r hr; cases h; exact .inl ⟨r, hr, rfl⟩
  · rename_i hr; exact .inr ⟨hr, patF_some h⟩
theorem ruleF_own {m : Mk} {l : List File} {n : Str} {g : Grp} (h : ruleF m l n = some g) : n ∈ g.targets := by
  rcases ruleF_some h with ⟨r, hr, rfl⟩ | ⟨_, r, _, hs, rfl, _⟩
  · exact (explF_some hr).2
  · show n ∈ tgtOf r n _
    unfold tgtOf
    rw [if_neg (stemL_ne hs)]
    simp
theorem ruleF_cand {m : Mk} {l : List File} {goal n : Str} {g : Grp} (h : ruleF m l n = some g) : ∀ k ∈ g.needs, k ∈ candF m l goal := by
  intro k hk
  unfold candF
  rcases ruleF_some h with ⟨r, hr, rfl⟩ | ⟨_, r, _, hs, rfl, ha⟩
  · exact List.mem_append_right _ (List.mem_flatMap.2 ⟨r, (explF_some hr).1, hk⟩)
  · have := List.all_eq_true.1 ha k hk
    simp only [hereB, Bool.or_eq_true] at this
    rcases this with h1 | h1
    · have hm : k ∈ l.map (·.1) := by
        obtain ⟨x, hx⟩ := Option.isSome_iff_exists.1 h1
        unfold getL at hx
        have e := List.find?_some hx
        simp only [decide_eq_true_eq] at e
        exact e ▸ List.mem_map_of_mem (List.mem_of_find?_eq_some hx)
      exact List.mem_append_left _ (List.mem_append_left _ (List.mem_cons_of_mem _ hm))
    · obtain ⟨r', hr'⟩ := Option.isSome_iff_exists.1 h1
      have := explF_some hr'
      exact List.mem_append_left _ (List.mem_append_right _ (List.mem_flatMap.2 ⟨r', this.1, this.2⟩))
abbrev E (n : Int) : Value := .iface 72 (.int .i64 n)
theorem fnd_mem {k : Str} {xs : List File} {v : File} (h : fndL k xs = some v) : v ∈ xs := List.mem_reverse.1 (List.mem_of_find?_eq_some h)
theorem vr_info : (Try.prog.info? varT).map (fun i => (i.zero, i.size, i.bytes)) = some (some (.agg #[.string ⟨#[]⟩, .string ⟨#[]⟩]), 2, 32) := by kernel_rfl
theorem vr_ty : Ety Try.prog 22 varT 2 := Ety.mk' Try.underlying22 vr_info rfl (by omega) (by omega)
theorem ru_info : (Try.prog.info? ruleT).map (fun i => (i.zero, i.size, i.bytes)) = some (some (.agg #[.slice none 0 0, .slice none 0 0, .slice none 0 0]), 3, 72) := by kernel_rfl
theorem ru_ty : Ety Try.prog 49 ruleT 3 := Ety.mk' Try.underlying49 ru_info rfl (by omega) (by omega)
theorem load_mk {w : World} {b : Nat} {x y z : Value} (h : Cs w b makeT #[x, y, z]) : (loadVar makeT ⟨b, 0, none⟩).run Try.prog w = .ok (.agg #[x, y, z]) w := by
  have c0 := h.cell 0
  have c1 := h.cell 1
  have c2 := h.cell 2
  simp only [List.getElem?_toArray, List.getElem?_cons_succ, List.getElem?_cons_zero] at c0 c1 c2
  go_simp
@[go_sem] theorem mk_build0 (w : World) : (Instr.build makeT #[]).run Try.prog w = .ok (.agg #[.slice none 0 0, .slice none 0 0, .slice none 0 0]) w := run_build w makeT _ _ (by kernel_rfl)
theorem Fresh.fin {α : Type} {T : Flat α} (hp : 0 < T.size) {t : TypeId} {w wr u : World} {A : Option Addr} {c : Nat} {F : Nat → Prop} {xs : List α} (h : Fresh T t w wr A c xs) (hx : Only F wr u) (hg : ∀ b, F b → b < w.heap.size) : SlR T u A xs.length xs :=
  SlR.of_own hp (own_keep h.own hx fun b hb e => by have := hg b e; have := h.new b hb; omega)
theorem MAt.fin {Q : List SRow} {w wr u : World} {g : Nat} {F : Nat → Prop} {v : MkV} {rs : List (RulA × Rul)} {m : Mk} (h : MAt Q w wr g v rs m) (hx : Only F wr u) (hg : ∀ b, F b → b < w.heap.size) : MakeR u v rs m := by
  refine ⟨h.fv.fin (by decide) hx hg, ?_, (h.ss.f ⟨v.pA, v.pc, m.phony⟩ (by simp)).fin (by decide) hx hg, fun x hm => ?_, h.rm⟩
  · have := h.fr.fin (by decide) hx hg
    rw [h.rl] at this
    exact this
  · have q : ∀ y ∈ rowsOf x, y ∈ Q ++ (⟨v.pA, v.pc, m.phony⟩ : SRow) :: rs.flatMap rowsOf := fun y hy => List.mem_append_right _ (List.mem_cons_of_mem _ (List.mem_flatMap.2 ⟨x, hm, hy⟩))
    exact ⟨(h.ss.f _ (q ⟨x.1.tA, x.1.tc, x.2.targets⟩ (by simp))).fin (by decide) hx hg, (h.ss.f _ (q ⟨x.1.nA, x.1.nc, x.2.needs⟩ (by simp))).fin (by decide) hx hg, (h.ss.f _ (q ⟨x.1.cA, x.1.cc, x.2.cmds⟩ (by simp))).fin (by decide) hx hg⟩
theorem MAt.mk0 {w wr : World} {g : Nat} {q : SRow} (hx : Ext w wr) (hg : w.heap.size ≤ g) (hc : Cs wr g makeT #[.slice none 0 0, .slice none 0 0, .slice none 0 0]) (hq : q.F w wr) : MAt [q] w wr g mkV0 [] mk0 := by
  refine ⟨hc, Fresh.nil _ _ _ _ hx, Fresh.nil _ _ _ _ hx, ⟨fun x hm => ?_, ?_⟩, rfl, hg⟩
  · rcases List.mem_cons.1 hm with rfl | hm
    · exact hq
    · obtain rfl := List.mem_singleton.1 hm
      exact Fresh.nil _ _ _ _ hx
  · refine List.pairwise_cons.2 ⟨fun y hy => ?_, List.pairwise_singleton _ _⟩
    obtain rfl := List.mem_singleton.1 hy
    intro g _ h2
    simp [SRow.own, Value.ownBlock] at h2
theorem parseF_fit (s : Str) : (parseF s).1.Fit 700 := by
  have h0 : mk0.Fit 700 := ⟨mk0_fit.v, mk0_fit.vt, mk0_fit.r, mk0_fit.rt, Nat.zero_le _⟩
  unfold parseF
  split
  · exact h0
  · rename_i hl
    split
    · exact h0
    · split
      · have := foldF_fit (splB 10 s) mk0 0 mk0_fit (fun l hx => by have := splB_mem 10 s l hx; omega)
        have h1 := splB_le 10 s
        exact ⟨this.v, this.vt, this.r, this.rt, by have := this.p; show (foldF (splB 10 s) mk0).1.phony.length ≤ 700; omega⟩
      · exact h0
abbrev grpT : TypeId := 64
def grpF : Flat (RulA × Grp) := ⟨4, fun x => [.slice x.1.tA x.2.targets.length x.1.tc, .slice x.1.nA x.2.needs.length x.1.nc, .slice x.1.cA x.2.cmds.length x.1.cc, .bool x.2.phony], fun _ => rfl⟩
theorem grps_get {w : World} {A : Option Addr} {n : Nat} {rs : List (RulA × Grp)} (h : SlR grpF w A n rs) {k : Nat} (hk : k < n) :
    ∃ b o x, A = some ⟨b, o, none⟩ ∧ rs[k]? = some x ∧ (∀ ξ : X w No, ξ.v.cell? ⟨b, o + k * 4, none⟩ = some (.slice x.1.tA x.2.targets.length x.1.tc)) ∧ (∀ ξ : X w No, ξ.v.cell? ⟨b, o + k * 4 + 1, none⟩ = some (.slice x.1.nA x.2.needs.length x.1.nc)) ∧
      (∀ ξ : X w No, ξ.v.cell? ⟨b, o + k * 4 + 2, none⟩ = some (.slice x.1.cA x.2.cmds.length x.1.cc)) ∧ (∀ ξ : X w No, ξ.v.cell? ⟨b, o + k * 4 + 3, none⟩ = some (.bool x.2.phony)) := by
  obtain ⟨b, o, x, e, hb, hx, hc⟩ := h.get hk
  exact ⟨b, o, x, e, hx, fun ξ => (ξ.h.cell hb id).trans (hc 0 _ rfl), fun ξ => (ξ.h.cell hb id).trans (hc 1 _ rfl), fun ξ => (ξ.h.cell hb id).trans (hc 2 _ rfl), fun ξ => (ξ.h.cell hb id).trans (hc 3 _ rfl)⟩
abbrev ruleV (x : RulA × Rul) : Value := .agg #[.slice x.1.tA x.2.targets.length x.1.tc, .slice x.1.nA x.2.needs.length x.1.nc, .slice x.1.cA x.2.cmds.length x.1.cc]
abbrev grpW (x : RulA × Grp) : Value := .agg #[.slice x.1.tA x.2.targets.length x.1.tc, .slice x.1.nA x.2.needs.length x.1.nc, .slice x.1.cA x.2.cmds.length x.1.cc, .bool x.2.phony]
def idxI (o : Option Nat) : Int := match o with | some i => (i : Int) | none => -1
theorem findIdx_none_snoc {α : Type} {p : α → Bool} {xs : List α} {k : Nat} {x : α} (h : ∀ y ∈ xs.take k, p y = false) (hx : xs[k]? = some x) (hp : p x = false) : ∀ y ∈ xs.take (k + 1), p y = false := fun y hy => by
  rw [List.take_add_one, hx] at hy
  rcases List.mem_append.1 hy with hy | hy
  · exact h y hy
  · simp at hy; exact hy ▸ hp
theorem findIdx_at {α : Type} {p : α → Bool} {xs : List α} {k : Nat} {x : α} (h : ∀ y ∈ xs.take k, p y = false) (hx : xs[k]? = some x) (hp : p x = true) : idxI (xs.findIdx? p) = (k : Int) := by
  obtain ⟨hk, e⟩ := List.getElem?_eq_some_iff.1 hx
  have : xs.findIdx? p = some k := List.findIdx?_eq_some_iff_getElem.2 ⟨hk, by rw [e]; exact hp, fun j hj => by
    have := h (xs[j]'(by omega)) (by
      rw [List.mem_take_iff_getElem]
      exact ⟨j, by omega, rfl⟩)
    simp [this]⟩
  rw [this]; rfl
theorem findIdx_no {α : Type} {p : α → Bool} {xs : List α} (h : ∀ y ∈ xs, p y = false) : idxI (xs.findIdx? p) = -1 := by
  have : xs.findIdx? p = none := List.findIdx?_eq_none_iff.2 fun x hx => by rw [h x hx]
  rw [this]; rfl
set_option maxRecDepth 100000 in
theorem IdxGrp_c {w : World} {A : Option Addr} {n c : Nat} {xs : List (RulA × Grp)} (h : SlR grpF w A n xs) (hn : n ≤ 100000) (p : (RulA × Grp) → Bool) (cap : Array Value)
    (hp : ∀ x ∈ xs, ∀ u, Ext w u → Calls Try.prog 67 (#[grpW x] ++ cap) u fun e w' => e = .returned (.bool (p x)) ∧ Ext u w') :
    Calls Try.prog 66 #[.slice A n c, .func (.func 67) #[] cap] w fun e w' => e = .returned (.int .i64 (idxI (xs.findIdx? p))) ∧ Ext w w' := by
  have HS := Lib.hid h
  have HPr := Lib.hid hp
  clear h hp
  go_enter Try.func66, Try.ntmps66
  go_wp2
  go_loopw [8] (fun i wr => ∃ k : Nat, k ≤ n ∧ i = .int .i64 k ∧ (∀ y ∈ xs.take k, p y = false) ∧ ∃ ξ : X w No, wr = ξ.v) (fun i _ => n - (intOf i).toNat)
  case atStart => exact ⟨0, Nat.zero_le _, rfl, by simp, X.here _ _, rfl⟩
  case round =>
    obtain ⟨k, hk, rfl, hT, ξ, rfl⟩ := hrel
    have HT := Lib.hid hT
    clear hT
    by_cases hlt : k < n
    · obtain ⟨b, o, x, rfl, hx, c0, c1, c2, c3⟩ := grps_get HS.out hlt
      have HX := Lib.hid hx
      have HC := Lib.hid (HPr.out x (List.mem_of_getElem? hx) _ ξ.h)
      obtain ⟨q, hq⟩ : ∃ q, p x = q := ⟨_, rfl⟩
      have HP := Lib.hid hq
      rw [hq] at HC
      clear hx hq
      go_wp2_with fail
      refine HC.out.mono ?_
      rintro e u ⟨rfl, hu⟩
      have HU : Hid (Ext w u) := Lib.hid (ξ.h.then_ext hu)
      clear hu HC
      cases q with
      | true =>
        go_wp2_with fail
        go_ret
        exact ⟨by rw [findIdx_at HT.out HX.out HP.out]; rfl, HU.out⟩
      | false =>
        go_wp2_with fail
        go_roundw
        case rel => exact ⟨k + 1, by omega, by go_num, findIdx_none_snoc HT.out HX.out HP.out, ⟨_, HU.out⟩, rfl⟩
        case measure => simp [intOf]; omega
    · obtain rfl : k = n := by omega
      go_wp2_with fail
      go_ret
      have e1 := HT.out
      rw [List.take_of_length_le (by rw [HS.out.1]; exact Nat.le_refl _)] at e1
      exact ⟨by rw [findIdx_no e1]; rfl, ξ.h⟩
set_option maxRecDepth 100000 in
theorem mk1_c {w : World} {x : RulA × Grp} {b : Nat} {name : Str} (ht : SlR strF w x.1.tA x.2.targets.length x.2.targets) (hl : x.2.targets.length ≤ 1000000) (cn : w.cell? ⟨b, 0, none⟩ = some (S name)) :
    Calls Try.prog 67 #[grpW x, .pointer (some ⟨b, 0, none⟩)] w fun e w' => e = .returned (.bool (inS x.2.targets name)) ∧ Ext w w' := by
  have hb := World.block_lt_of_cell? _ _ cn
  obtain ⟨w1, hw1⟩ : ∃ u, u = w.alloc (.cells #[.slice x.1.tA x.2.targets.length x.1.tc, .slice x.1.nA x.2.needs.length x.1.nc, .slice x.1.cA x.2.cmds.length x.1.cc, .bool x.2.phony] grpT) := ⟨_, rfl⟩
  have X1 : Hid (Ext w w1) := by rw [hw1]; exact (Only.refl No w).alloc _
  have HC := Lib.hid (Contains_c (c := x.1.tc) (ht.ext X1.out) hl name)
  have c1 : w1.cell? ⟨b, 0, none⟩ = some (S name) := (X1.out.cell hb id).trans cn
  have c2 : w1.cell? ⟨w.heap.size, 0, none⟩ = some (.slice x.1.tA x.2.targets.length x.1.tc) := by rw [hw1]; exact (Cs.new w grpT _).cell 0
  clear ht cn
  go_enter Try.func67, Try.ntmps67
  go_upto_region 1 with fail
  rw [← hw1]
  clear hw1
  go_wp2_with fail
  refine HC.out.mono ?_
  rintro e u ⟨rfl, hu⟩
  have X2 := Lib.hid (X1.out.then_ext hu)
  clear hu HC
  go_wp2_with fail
  go_ret
  exact ⟨rfl, X2.out⟩
structure GrpsR (w : World) (A : Option Addr) (os : List (RulA × Grp)) (out : List Grp) : Prop where
  row : SlR grpF w A out.length os
  rr : ∀ x ∈ os, SlR strF w x.1.tA x.2.targets.length x.2.targets ∧ SlR strF w x.1.nA x.2.needs.length x.2.needs ∧ SlR strF w x.1.cA x.2.cmds.length x.2.cmds
  om : os.map (·.2) = out
theorem GrpsR.ext {w u : World} {A : Option Addr} {os : List (RulA × Grp)} {out : List Grp} (h : GrpsR w A os out) (hx : Ext w u) : GrpsR u A os out := ⟨h.row.ext hx, fun x hm => ⟨(h.rr x hm).1.ext hx, (h.rr x hm).2.1.ext hx, (h.rr x hm).2.2.ext hx⟩, h.om⟩
set_option maxRecDepth 100000 in
theorem Maker_c {w : World} {A : Option Addr} {c : Nat} {os : List (RulA × Grp)} {out : List Grp} (h : GrpsR w A os out) (hr : out.length ≤ 100) (ht : ∀ g ∈ out, g.targets.length ≤ 1000) (name : Str) :
    Calls Try.prog 43 #[.slice A out.length c, S name] w fun e w' => e = .returned (.int .i64 (idxI (makerF out name))) ∧ Ext w w' := by
  obtain ⟨w1, hw1⟩ : ∃ u, u = w.alloc (.cells #[S name] 9) := ⟨_, rfl⟩
  obtain ⟨b, hb⟩ : ∃ b, b = w.heap.size := ⟨_, rfl⟩
  have X1 : Hid (Ext w w1) := by rw [hw1]; exact (Only.refl No w).alloc _
  have C1 : Cs w1 b 9 #[S name] := by rw [hw1, hb]; exact Cs.new _ _ _
  have HI : Hid (Calls Try.prog 66 #[.slice A out.length c, .func (.func 67) #[] #[.pointer (some ⟨b, 0, none⟩)]] w1 fun e w' => e = .returned (.int .i64 (idxI (makerF out name))) ∧ Ext w1 w') := by
    have e : makerF out name = os.findIdx? (fun x => inS x.2.targets name) := by
      unfold makerF
      rw [← h.om, List.findIdx?_map]
      rfl
    rw [e]
    refine IdxGrp_c (c := c) (h.row.ext X1.out) (by omega) (fun x => inS x.2.targets name) #[.pointer (some ⟨b, 0, none⟩)] fun x hx u hu => ?_
    exact mk1_c ((h.rr x hx).1.ext (X1.out.then_ext hu)) (by have := ht x.2 (by rw [← h.om]; exact List.mem_map_of_mem hx); omega) ((C1.keep hu id).cell 0)
  have hmf : ∀ (fn : Fn) (first cap : Array Value) (w : World), (Instr.makeFunc fn first cap).run Try.prog w = .ok (.func fn first cap) w := fun _ _ _ _ => rfl
  clear h C1
  go_enter Try.func43, Try.ntmps43
  go_upto_region 1 with fail
  rw [← hw1, ← hb]
  clear hw1 hb
  go_wp2_with fail
  refine HI.out.mono ?_
  rintro e u ⟨rfl, hu⟩
  have X3 := Lib.hid (X1.out.then_ext hu)
  clear hu HI
  go_wp2_with fail
  go_ret
  exact ⟨rfl, X3.out⟩
abbrev nodT : TypeId := 183
abbrev genT : TypeId := 185
abbrev pnT : TypeId := 180
abbrev rpt (g : Nat) : Value := .pointer (some ⟨g, 0, none⟩)
abbrev leafA (v : Str) (p : Int) : Array Value := #[S v, .int .i64 p, S [], .pointer none, .slice none 0 0]
abbrev nils5 : Array Value := #[.pointer none, .pointer none, .pointer none, .pointer none, .pointer none]
structure TrB (w u : World) (g t0 : Nat) (gs ts : Array Value) : Prop where
  gen : Cs u g genT gs
  tab : Cs u t0 pnT ts
  x : Ext w u
  hg : w.heap.size ≤ g
  ht : w.heap.size ≤ t0
  ne : g ≠ t0
structure GsOk (gs : Array Value) (t0 : Nat) : Prop where
  p2 : gs[2]? = some (S [])
  p1 : gs[1]? = some (.int .i64 0)
  p4 : gs[4]? = some (.slice (some ⟨t0, 0, none⟩) 5 5)
  p5 : gs[5]? = some (.int .i64 5)
  m36 : gs[6 + (36 : UInt8).toNat]? = some (.int .u8 0)
  m42 : gs[6 + (42 : UInt8).toNat]? = some (.int .u8 1)
  m60 : gs[6 + (60 : UInt8).toNat]? = some (.int .u8 2)
  m64 : gs[6 + (64 : UInt8).toNat]? = some (.int .u8 3)
  m94 : gs[6 + (94 : UInt8).toNat]? = some (.int .u8 4)
  mo : ∀ c : UInt8, c ≠ 36 → c ≠ 42 → c ≠ 60 → c ≠ 64 → c ≠ 94 → gs[6 + c.toNat]? = some (.int .u8 5)
structure Tr1 (w u : World) (g t0 : Nat) (gs : Array Value) (a : Str) (n1 n2 : Nat) : Prop where
  b : TrB w u g t0 gs #[rpt n1, .pointer none, .pointer none, .pointer none, .pointer none]
  c1 : Cs u n1 nodT #[S [], .int .i64 0, S [64], rpt n2, .slice none 0 0]
  c2 : Cs u n2 nodT (leafA a 8)
  h1 : w.heap.size ≤ n1
  h2 : w.heap.size ≤ n2
  n12 : n1 ≠ n2
structure Tr2 (w u : World) (g t0 : Nat) (gs ts : Array Value) (n1 t1 : Nat) : Prop where
  b : TrB w u g t0 gs #[rpt n1, .pointer none, .pointer none, .pointer none, .pointer none]
  c1 : Cs u n1 nodT #[S [], .int .i64 0, S [], .pointer none, .slice (some ⟨t1, 0, none⟩) 5 5]
  ct : Cs u t1 pnT ts
  h1 : w.heap.size ≤ n1
  h3 : w.heap.size ≤ t1
  t10 : t1 ≠ t0
structure Leaf (w u : World) (n1 n : Nat) (v : Str) (p : Int) : Prop where
  c : Cs u n nodT (leafA v p)
  h : w.heap.size ≤ n
  ne : n1 ≠ n
def TrSt (w : World) (g t0 : Nat) (gs : Array Value) (a b c d : Str) : Nat → World → Prop
  | 0, u => TrB w u g t0 gs nils5
  | 1, u => ∃ n1 n2, Tr1 w u g t0 gs a n1 n2
  | 2, u => ∃ n1 t1 n2 n3, Tr2 w u g t0 gs #[.pointer none, .pointer none, rpt n3, rpt n2, .pointer none] n1 t1 ∧ Leaf w u n1 n2 a 8 ∧ Leaf w u n1 n3 b 6
  | 3, u => ∃ n1 t1 n2 n3 n4, Tr2 w u g t0 gs #[.pointer none, .pointer none, rpt n3, rpt n2, rpt n4] n1 t1 ∧ Leaf w u n1 n2 a 8 ∧ Leaf w u n1 n3 b 6 ∧ Leaf w u n1 n4 c 4
  | _, u => ∃ n1 t1 n2 n3 n4 n5, Tr2 w u g t0 gs #[.pointer none, rpt n5, rpt n3, rpt n2, rpt n4] n1 t1 ∧ Leaf w u n1 n2 a 8 ∧ Leaf w u n1 n3 b 6 ∧ Leaf w u n1 n4 c 4 ∧ Leaf w u n1 n5 d 2
section
variable {w u v : World} {g t0 n1 n2 t1 : Nat} {gs ts : Array Value} {a : Str} {F : Nat → Prop}
theorem TrB.only (h : TrB w u g t0 gs ts) (hx : Only F u v) (hF : ∀ b, F b → w.heap.size ≤ b) (h1 : ¬ F g) (h2 : ¬ F t0) : TrB w v g t0 gs ts :=
  ⟨h.gen.keep hx h1, h.tab.keep hx h2, h.x.trans hx fun b hb e => by have := hF b e; omega, h.hg, h.ht, h.ne⟩
theorem Leaf.only {n : Nat} {x : Str} {p : Int} (h : Leaf w u n1 n x p) (hx : Only F u v) (h1 : ¬ F n) : Leaf w v n1 n x p := ⟨h.c.keep hx h1, h.h, h.ne⟩
theorem Tr1.only (h : Tr1 w u g t0 gs a n1 n2) (hx : Ext u v) : Tr1 w v g t0 gs a n1 n2 := ⟨h.b.only hx (fun _ e => e.elim) id id, h.c1.keep hx id, h.c2.keep hx id, h.h1, h.h2, h.n12⟩
theorem Tr2.only (h : Tr2 w u g t0 gs ts n1 t1) (hx : Ext u v) : Tr2 w v g t0 gs ts n1 t1 := ⟨h.b.only hx (fun _ e => e.elim) id id, h.c1.keep hx id, h.ct.keep hx id, h.h1, h.h3, h.t10⟩
end
theorem TrSt.ext {w u v : World} {g t0 : Nat} {gs : Array Value} {a b c d : Str} {j : Nat} (h : TrSt w g t0 gs a b c d j u) (hx : Ext u v) : TrSt w g t0 gs a b c d j v := by
  unfold TrSt at h ⊢
  split at h
  · exact h.only hx (fun _ e => e.elim) id id
  · obtain ⟨n1, n2, h⟩ := h; exact ⟨n1, n2, h.only hx⟩
  · obtain ⟨n1, t1, n2, n3, h, h2, h3⟩ := h; exact ⟨n1, t1, n2, n3, h.only hx, h2.only hx id, h3.only hx id⟩
  · obtain ⟨n1, t1, n2, n3, n4, h, h2, h3, h4⟩ := h; exact ⟨n1, t1, n2, n3, n4, h.only hx, h2.only hx id, h3.only hx id, h4.only hx id⟩
  · obtain ⟨n1, t1, n2, n3, n4, n5, h, h2, h3, h4, h5⟩ := h; exact ⟨n1, t1, n2, n3, n4, n5, h.only hx, h2.only hx id, h3.only hx id, h4.only hx id, h5.only hx id⟩
def upd (m : Nat → Int) (k : Nat) (x : Int) : Nat → Int := fun i => if i = k then x else m i
def keyBs : List Nat := [36, 64, 36, 60, 36, 94, 36, 42]
def mA : Nat → Nat → Int
  | 0 => fun _ => 0
  | n + 1 => upd (mA n) (keyBs.getD n 0) 1
theorem TrSt.x {w u : World} {g t0 : Nat} {gs : Array Value} {a b c d : Str} {j : Nat} (h : TrSt w g t0 gs a b c d j u) : Ext w u := by
  unfold TrSt at h
  split at h
  · exact h.x
  · obtain ⟨n1, n2, h⟩ := h; exact h.b.x
  · obtain ⟨n1, t1, n2, n3, h, _⟩ := h; exact h.b.x
  · obtain ⟨n1, t1, n2, n3, n4, h, _⟩ := h; exact h.b.x
  · obtain ⟨n1, t1, n2, n3, n4, n5, h, _⟩ := h; exact h.b.x
structure Trie (w : World) (g t0 n1 t1 n2 n3 n4 n5 : Nat) (gs : Array Value) (a b c d : Str) : Prop where
  ok : GsOk gs t0
  gen : Cs w g genT gs
  tab : Cs w t0 pnT #[rpt n1, .pointer none, .pointer none, .pointer none, .pointer none]
  c1 : Cs w n1 nodT #[S [], .int .i64 0, S [], .pointer none, .slice (some ⟨t1, 0, none⟩) 5 5]
  ct : Cs w t1 pnT #[.pointer none, rpt n5, rpt n3, rpt n2, rpt n4]
  l2 : Cs w n2 nodT (leafA a 8)
  l3 : Cs w n3 nodT (leafA b 6)
  l4 : Cs w n4 nodT (leafA c 4)
  l5 : Cs w n5 nodT (leafA d 2)
section
variable {w u : World} {g t0 n1 t1 n2 n3 n4 n5 : Nat} {gs : Array Value} {a b c d : Str}
theorem Trie.ext (h : Trie w g t0 n1 t1 n2 n3 n4 n5 gs a b c d) (hx : Ext w u) : Trie u g t0 n1 t1 n2 n3 n4 n5 gs a b c d :=
  ⟨h.ok, h.gen.keep hx id, h.tab.keep hx id, h.c1.keep hx id, h.ct.keep hx id, h.l2.keep hx id, h.l3.keep hx id, h.l4.keep hx id, h.l5.keep hx id⟩
end
abbrev aswT : TypeId := 219
abbrev byT5 : TypeId := 5
structure Buf (w u : World) (b : Nat) (A : Option Addr) (c : Nat) (l : Str) : Prop where
  cs : Cs u b aswT #[.slice A l.length c]
  own : u.ownsRow w.heap.size byT5 1 (.slice A l.length c) l.length (Lib.strCells ⟨l.toArray⟩)
  x : Ext w u
  hb : w.heap.size ≤ b
theorem Buf.ext {w u v : World} {b : Nat} {A : Option Addr} {c : Nat} {l : Str} (h : Buf w u b A c l) (hx : Ext u v) : Buf w v b A c l := ⟨h.cs.keep hx id, own_keep h.own hx (fun _ _ => id), h.x.then_ext hx, h.hb⟩
set_option maxRecDepth 100000 in
theorem Buf.conv {w u : World} {b : Nat} {A : Option Addr} {c : Nat} {l : Str} (h : Buf w u b A c l) : (convert aswT 9 (.slice A l.length c)).run Try.prog u = .ok (S l) u := by
  have hl : (Lib.strCells ⟨l.toArray⟩).length = l.length := by simp [Lib.strCells]
  rcases A with _ | ad
  · rcases h.own.2 with ⟨hv, h0⟩ | ⟨g, cap, cur, hv, _⟩
    · have : l = [] := List.eq_nil_of_length_eq_zero h0
      subst this
      exact run_convert_bytes_nil u aswT byT5 Try.underlying219 Try.underlying5 _ _ _ Try.underlying9
    · injection hv with hv
      cases hv
  · rcases h.own.2 with ⟨hv, h0⟩ | ⟨g, cap, cur, hv, _⟩
    · injection hv with hv
      cases hv
    · injection hv with hv1 hv2 hv3
      injection hv1 with hv1
      subst hv1; subst hv3
      have := Lib.run_convert_whole (P := Try.prog) u aswT byT5 9 Try.underlying219 Try.underlying5 Try.underlying9 g 0 ⟨l.toArray⟩ (fun i hi => by
        have hi : i < l.length := hi
        rw [Nat.zero_add, World.ownsRow.cellAt h.own i (by omega)]
        simp [Lib.strCells, hi]
        rfl) c
      exact this
abbrev repT : TypeId := 110
def TrAt (u : World) (g : Nat) (a b c d : Str) : Prop := ∃ t0 n1 t1 n2 n3 n4 n5 gs, Trie u g t0 n1 t1 n2 n3 n4 n5 gs a b c d
theorem TrSt.on {w u v : World} {g t0 r : Nat} {gs : Array Value} {a b c d : Str} (hg : GsOk gs t0) (h : TrSt w g t0 gs a b c d 4 u) (hx : Only (fun x => x = r) u v) (hr : r < w.heap.size) : TrAt v g a b c d := by
  obtain ⟨n1, t1, n2, n3, n4, n5, h, h2, h3, h4, h5⟩ : ∃ n1 t1 n2 n3 n4 n5, Tr2 w u g t0 gs #[.pointer none, rpt n5, rpt n3, rpt n2, rpt n4] n1 t1 ∧ Leaf w u n1 n2 a 8 ∧ Leaf w u n1 n3 b 6 ∧ Leaf w u n1 n4 c 4 ∧ Leaf w u n1 n5 d 2 := h
  have ne : ∀ n, w.heap.size ≤ n → ¬ n = r := fun n hn e => by omega
  exact ⟨t0, n1, t1, n2, n3, n4, n5, gs, hg, h.b.gen.keep hx (ne _ h.b.hg), h.b.tab.keep hx (ne _ h.b.ht), h.c1.keep hx (ne _ h.h1), h.ct.keep hx (ne _ h.h3), h2.c.keep hx (ne _ h2.h), h3.c.keep hx (ne _ h3.h), h4.c.keep hx (ne _ h4.h), h5.c.keep hx (ne _ h5.h)⟩
theorem TrAt.only {u v : World} {g : Nat} {a b c d : Str} {r : Nat} {cs : Array Value} (h : TrAt u g a b c d) (hr : Cs u r repT cs) (hx : Only (fun x => x = r) u v) : TrAt v g a b c d := by
  obtain ⟨t0, n1, t1, n2, n3, n4, n5, gs, h⟩ := h
  have ne : ∀ {n t ds}, Cs u n t ds → t ≠ repT → ¬ n = r := fun hc ht e => (hc.ne_ hr ht) e
  exact ⟨t0, n1, t1, n2, n3, n4, n5, gs, h.ok, h.gen.keep hx (ne h.gen (by decide)), h.tab.keep hx (ne h.tab (by decide)), h.c1.keep hx (ne h.c1 (by decide)), h.ct.keep hx (ne h.ct (by decide)), h.l2.keep hx (ne h.l2 (by decide)), h.l3.keep hx (ne h.l3 (by decide)), h.l4.keep hx (ne h.l4 (by decide)), h.l5.keep hx (ne h.l5 (by decide))⟩
namespace Mix
section
variable {P : Program} {ops : Array Oper} {md : Region.Mode} {C : World → Prop} {E : List Nat} {Q : Act → World → Prop}
def freeI (md : Region.Mode) (ops : Array Oper) (listed : Array Bool) (i : Nat) : Bool :=
  match ops[i]? with
  | none => false
  | some oi => !callB oi && (List.range ops.size).all fun j => j == i || listed.getD j true || (match ops[j]? with | none => true | some oj => oj.after.any (fun e => Region.binds md e && e.on == i) || oi.apart ops oj)
def pick (md : Region.Mode) (ops : Array Oper) (E : List Nat) (listed : Array Bool) : Option Nat := (Region.ready md ops listed).find? fun i => !E.contains i && freeI md ops listed i
def treeB (md : Region.Mode) (ops : Array Oper) (E : List Nat) : Nat → Array Bool → Bool
  | 0, l => (Region.ready md ops l).isEmpty
  | f + 1, l => match pick md ops E l with
    | some i => treeB md ops E f (l.setIfInBounds i true)
    | none => !(Region.ready md ops l).isEmpty && (Region.ready md ops l).all fun i => E.contains i && treeB md ops E f (l.setIfInBounds i true)
def tree (P : Program) (md : Region.Mode) (ops : Array Oper) (C : World → Prop) (E : List Nat) (Q : Act → World → Prop) : Nat → Array Bool → Act → World → Prop
  | 0, _, a, w => Q a w
  | f + 1, l, a, w => match pick md ops E l with
    | some i => mOp P ops C E ops.size i (tree P md ops C E Q f (l.setIfInBounds i true)) a w
    | none => ∀ i ∈ Region.ready md ops l, mOp P ops C E ops.size i (tree P md ops C E Q f (l.setIfInBounds i true)) a w
theorem any_tree (hs : Region.noSelect ops = true) : ∀ (f : Nat) (l : Array Bool) (a : Act) (w : World), C w → treeB md ops E f l = true → tree P md ops C E Q f l a w → any P md ops C E ops.size Q f l a w
  | 0, l, a, w, _, hB, h => ⟨by simpa [treeB] using hB, h⟩
  | f + 1, l, a, w, hC, hB, h => by
    have hN : ops[ops.size]? = none := Array.getElem?_eq_none (Nat.le_refl _)
    unfold treeB at hB
    unfold tree at h
    cases hp : pick md ops E l with
    | some i =>
      rw [hp] at hB h
      simp only at hB h
      have hmem := List.mem_of_find?_eq_some hp
      have hsat := List.find?_some hp
      simp only [Bool.and_eq_true, Bool.not_eq_true'] at hsat
      obtain ⟨hE, hF⟩ := hsat
      unfold freeI at hF
      cases ho : ops[i]? with
      | none => rw [ho] at hF; cases hF
      | some oi =>
        rw [ho] at hF
        simp only [Bool.and_eq_true, Bool.not_eq_true', List.all_eq_true, List.mem_range, Bool.or_eq_true, beq_iff_eq] at hF
        obtain ⟨hc, hF⟩ := hF
        obtain ⟨v, hy, hK⟩ := yields_of_mOp ho hE h
        have hil : i < ops.size := (Array.getElem?_eq_some_iff.1 ho).1
        refine any_first_quiet ho hE hc (by omega) (fun _ => False) (fun j hj => hj.elim) (.inl hN) (Region.noSelect_spec hs) f l a w hC (fun j hj => hj.elim) (fun j oj hoj hji hun hno => ?_) hmem hy
          (any_tree hs f _ _ w hC hB hK)
        have hjl : j < ops.size := (Array.getElem?_eq_some_iff.1 hoj).1
        rcases hF j hjl with (h' | h') | h'
        · exact absurd h' hji
        · rw [hun] at h'; cases h'
        · rw [hoj] at h'
          simp only [Bool.or_eq_true] at h'
          rcases h' with h' | h'
          · obtain ⟨e, he, hb⟩ := Array.any_eq_true'.1 h'
            simp only [Bool.and_eq_true, beq_iff_eq] at hb
            exact absurd hb.2 (hno e he hb.1)
          · exact h'
    | none =>
      rw [hp] at hB h
      simp only [Bool.and_eq_true, Bool.not_eq_true', List.all_eq_true] at hB h
      refine ⟨fun he => ?_, fun i hi => ?_⟩
      · rw [he] at hB; simp at hB
      · obtain ⟨hEi, hBi⟩ := hB.2 i hi
        have hm := h i hi
        obtain ⟨_, o, ho, _⟩ := mem_ready.1 hi
        have hil : i < ops.size := (Array.getElem?_eq_some_iff.1 ho).1
        have after : ∀ a' w', C w' → tree P md ops C E Q f (l.setIfInBounds i true) a' w' →
            (if i = ops.size then Region.ready md ops (l.setIfInBounds i true) = [] ∧ Q a' w' else any P md ops C E ops.size Q f (l.setIfInBounds i true) a' w') := fun a' w' c hK => by
          rw [if_neg (by omega)]
          exact any_tree hs f _ _ w' c hBi hK
        unfold mOp at hm ⊢
        simp only [ho] at hm ⊢
        unfold step at hm ⊢
        split
        · rename_i hw
          rw [if_pos hw, if_pos hEi] at hm
          exact goesUpon_mono (fun v w' ⟨c, hK⟩ => ⟨c, after _ w' (c (by omega)) hK⟩) hm
        · rename_i hw
          rw [if_neg hw] at hm
          exact after _ w hC hm
theorem wp_tree {id : Nat} {Q : Exit → Act → World → Prop} {a : Act} {w : World} {l : List Oper} (n : Nat) (E : List Nat) (C : World → Prop) (hn : l.length = n) (hm : P.follows .mixedOrders = true)
    (hB : (Region.noSelect l.toArray && treeB .any l.toArray E n (Array.replicate n false)) = true) (hC : C w.drew)
    (h : tree P .any l.toArray C E (fun a' w' => Q .normal a' w') n (Array.replicate n false) a w.drew) : (Code.region id l.toArray true).wp P Q a w := by
  subst hn
  simp only [Bool.and_eq_true] at hB
  refine wp_region_any hm (wpAny_of_any (C := C) (E := E) (N := l.toArray.size) _ _ _ _ hC ?_)
  have := any_tree hB.1 l.length (Array.replicate l.length false) a _ hC hB.2 h
  simpa using this
variable {f : Nat} {l : Array Bool} {a : Act} {w : World}
theorem tree_nil (h : Q a w) : tree P md ops C E Q 0 l a w := h
theorem tree_quiet {L : List Oper} {i : Nat} {o : Oper} (hp : pick md L.toArray E l = some i) (ho : L[i]? = some o) (hg : o.guard = none) (hE : E.contains i = false) (hc : callB o = false)
    (h : ∀ K : Act → Prop, (∀ a', tree P md L.toArray C E Q f (l.setIfInBounds i true) a' w → K a') → o.quiet P a C K) : tree P md L.toArray C E Q (f + 1) l a w := by
  rw [← List.getElem?_toArray] at ho
  unfold tree
  rw [hp]
  unfold mOp step
  simp only [ho]
  rw [if_pos (wanted_none hg), if_neg (by rw [hE]; exact Bool.false_ne_true)]
  exact ⟨hc, h _ fun _ h => h⟩
theorem goes_step {L : List Oper} {i : Nat} {o : Oper} (ho : L[i]? = some o) (hg : o.guard = none) (hE : E.contains i = true) {R : Act → World → Prop}
    (h : ∀ K : Value → World → Prop, (∀ v w', C w' → R (a.put o.dst v) w' → K v w') → goes P o a w K) : mOp P L.toArray C E L.toArray.size i R a w := by
  rw [← List.getElem?_toArray] at ho
  unfold mOp step
  simp only [ho]
  rw [if_pos (wanted_none hg), if_pos hE]
  exact h _ fun _ _ h1 h2 => ⟨fun _ => h1, h2⟩
theorem tree_one {L : List Oper} {i : Nat} {o : Oper} (hp : pick md L.toArray E l = none) (hr : Region.ready md L.toArray l = [i]) (ho : L[i]? = some o) (hg : o.guard = none) (hE : E.contains i = true)
    (h : ∀ K : Value → World → Prop, (∀ v w', C w' → tree P md L.toArray C E Q f (l.setIfInBounds i true) (a.put o.dst v) w' → K v w') → goes P o a w K) : tree P md L.toArray C E Q (f + 1) l a w := by
  unfold tree
  rw [hp, hr]
  simp only [List.mem_singleton, forall_eq]
  exact goes_step ho hg hE h
theorem tree_two {L : List Oper} {i j : Nat} {o o' : Oper} (hp : pick md L.toArray E l = none) (hr : Region.ready md L.toArray l = [i, j]) (ho : L[i]? = some o) (ho' : L[j]? = some o') (hg : o.guard = none) (hg' : o'.guard = none) (hE : E.contains i = true) (hE' : E.contains j = true)
    (h : ∀ K : Value → World → Prop, (∀ v w', C w' → tree P md L.toArray C E Q f (l.setIfInBounds i true) (a.put o.dst v) w' → K v w') → goes P o a w K)
    (h' : ∀ K : Value → World → Prop, (∀ v w', C w' → tree P md L.toArray C E Q f (l.setIfInBounds j true) (a.put o'.dst v) w' → K v w') → goes P o' a w K) : tree P md L.toArray C E Q (f + 1) l a w := by
  unfold tree
  rw [hp, hr]
  simp only [List.mem_cons, List.not_mem_nil, or_false, forall_eq_or_imp, forall_eq]
  exact ⟨goes_step ho hg hE h, goes_step ho' hg' hE' h'⟩
end
end Mix
end Go.Proofs.Ytnhaekifcieeoaa
