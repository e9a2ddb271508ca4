/- strings.Split, strings.SplitN at a byte; the document's split. -/
import Derived.Test.YtnhaekifcieeoaaSpl
import Derived.Test.YtnhaekifcieeoaaMl
import Derived.Test.YtnhaekifcieeoaaStrs
import Derived.Test.YtnhaekifcieeoaaTxt
namespace Go.Proofs.Ytnhaekifcieeoaa
open Go Go.RowKit
def headApp (p : Str) : List Str → List Str
  | h :: t => (p ++ h) :: t
  | [] => [p]
theorem splB_app (c x : UInt8) (s : Str) : splB c (x :: s) = if x = c then [] :: splB c s else headApp [x] (splB c s) := by
  rw [splB_cons]
  split
  · rfl
  · cases splB c s <;> rfl
theorem headApp_two (p q : Str) (l : List Str) : headApp p (headApp q l) = headApp (p ++ q) l := by
  cases l <;> simp [headApp]
theorem headApp_nil {l : List Str} (h : l ≠ []) : headApp [] l = l := by
  cases l with
  | nil => exact absurd rfl h
  | cons a l => rfl
theorem take_drop_snoc {s : Str} {f i : Nat} (hf : f ≤ i) (hi : i < s.length) : (s.take (i + 1)).drop f = (s.take i).drop f ++ [s[i]] := by
  rw [List.take_add_one, List.getElem?_eq_getElem hi, List.drop_append_of_le_length (by simp; omega)]
  rfl
theorem drop_cons {s : Str} {i : Nat} (hi : i < s.length) : s.drop i = s[i] :: s.drop (i + 1) := List.drop_eq_getElem_cons hi
theorem senc1 (x : Str) : ∀ u ∈ [S x], u.oneCell' = true := fun u hu => str_enc1 [x] u (by simpa [strF] using hu)
theorem splB_le (c : UInt8) : ∀ s : Str, (splB c s).length ≤ s.length + 1
  | [] => by simp [splB]
  | x :: s => by
    have := splB_le c s
    rw [splB_app]
    split
    · simp; omega
    · cases h : splB c s with
      | nil => simp [headApp]
      | cons a l => rw [h] at this; simp [headApp] at this ⊢; omega
set_option maxRecDepth 100000 in
set_option maxHeartbeats 1000000 in
theorem RSplit_c (s : Str) (hs : s.length ≤ 100000) (k : Int) (c : UInt8) (hk : k = c.toNat) (w : World) :
    Calls Try.prog 37 #[S s, .int .u8 k] w fun e w' => ∃ A' c', e = .returned (.slice A' (splB c s).length c') ∧ Fresh strF 9 w w' A' c' (splB c s) := by
  subst hk
  go_enter Try.func37, Try.ntmps37
  go_wp2_with (first | (refine Mix.wpList_guarded rfl ?_; (repeat' (first | (refine Mix.lex_quiet0 rfl rfl rfl ?_; intro K hK; go_big_quiet_op; go_big_quiet_on) | (refine Mix.lex_quietG rfl rfl rfl (by with_reducible rfl) rfl rfl ?_; intro K hK; go_big_quiet_op; go_big_quiet_on) | ((first | refine Mix.lex_skipT rfl rfl rfl (by with_reducible rfl) ?_ | refine Mix.lex_skipF rfl rfl rfl (by with_reducible rfl) ?_ | refine Mix.lex_skipU rfl rfl rfl (by with_reducible rfl) ?_); simp only [Act.put, List.setIfInBounds_toArray, List.set_cons_succ, List.set_cons_zero]) | (refine Mix.lex_part rfl rfl rfl rfl (fun hq => ?_) (fun hq => ?_) <;> (fail_if_success (guard_hyp hq :ₛ true = true)) <;> (fail_if_success (guard_hyp hq :ₛ false = false)) <;> first | (exfalso; cases hq; done) | (exfalso; simp only [decide_eq_true_eq, decide_eq_false_iff_not, beq_iff_eq, beq_eq_false_iff_ne, ne_eq, Int.not_lt, Int.not_le] at hq; omega) | simp only [Act.put, List.setIfInBounds_toArray, List.set_cons_succ, List.set_cons_zero]))); all_goals (refine Mix.lex_nil ?_)) | (refine Mix.wp_still (by kernel_rfl) (by kernel_rfl) ?_; (repeat' (first | (refine Mix.lex_quiet0 rfl rfl rfl ?_; intro K hK; go_big_quiet_op; go_big_quiet_on) | (refine Mix.lex_quietG rfl rfl rfl (by with_reducible rfl) rfl rfl ?_; intro K hK; go_big_quiet_op; go_big_quiet_on) | ((first | refine Mix.lex_skipT rfl rfl rfl (by with_reducible rfl) ?_ | refine Mix.lex_skipF rfl rfl rfl (by with_reducible rfl) ?_ | refine Mix.lex_skipU rfl rfl rfl (by with_reducible rfl) ?_); simp only [Act.put, List.setIfInBounds_toArray, List.set_cons_succ, List.set_cons_zero]) | (refine Mix.lex_part rfl rfl rfl rfl (fun hq => ?_) (fun hq => ?_) <;> (fail_if_success (guard_hyp hq :ₛ true = true)) <;> (fail_if_success (guard_hyp hq :ₛ false = false)) <;> first | (exfalso; cases hq; done) | (exfalso; simp only [decide_eq_true_eq, decide_eq_false_iff_not, beq_iff_eq, beq_eq_false_iff_ne, ne_eq, Int.not_lt, Int.not_le] at hq; omega) | simp only [Act.put, List.setIfInBounds_toArray, List.set_cons_succ, List.set_cons_zero]))); all_goals (refine Mix.lex_nil ?_)))
  go_loopw [5, 6, 7] (fun l fr i wr => ∃ j f : Nat, j ≤ s.length ∧ f ≤ j ∧ i = .int .i64 j ∧ fr = .int .i64 f ∧ ∃ L A' c', l = .slice A' L.length c' ∧ L.length ≤ j ∧ splB c s = L ++ headApp ((s.take j).drop f) (splB c (s.drop j)) ∧ Fresh strF 9 w wr A' c' L) (fun _ _ i _ => s.length - (intOf i).toNat)
  case atStart => exact ⟨0, 0, Nat.zero_le _, Nat.le_refl _, rfl, rfl, [], none, 0, rfl, Nat.le_refl _, (by simp [headApp_nil (splB_ne c s)]), Fresh.nil _ _ _ _ (Only.refl _ _)⟩
  case round =>
    obtain ⟨j, f, hj, hf, rfl, rfl, L, A1, c1, rfl, hLn, hL, hF⟩ := hrel
    have F1 := Lib.hid hF
    have HL := Lib.hid hL
    obtain ⟨ξ, rfl⟩ : ∃ ξ : X w No, wr = ξ.v := ⟨⟨wr, hF.ext⟩, rfl⟩
    clear hF hL
    by_cases hlt : j < s.length
    · have HD := Lib.hid (drop_cons hlt)
      have HT := Lib.hid (take_drop_snoc hf hlt)
      obtain ⟨x, hx⟩ : ∃ x, x = s[j] := ⟨_, rfl⟩
      rw [← hx] at HD HT
      have hxc : ((s[j].toNat : Int) == (c.toNat : Int)) = (x == c) := by
        rw [← hx, Bool.eq_iff_iff, beq_iff_eq, beq_iff_eq]
        exact ⟨fun h => UInt8.toNat_inj.1 (by omega), fun h => by rw [h]⟩
      obtain ⟨e, he⟩ : ∃ e, (x == c) = e := ⟨_, rfl⟩
      rw [he] at hxc
      clear hx
      cases e with
      | true =>
        have HS : Hid (splB c s = (L ++ [(s.take j).drop f]) ++ headApp ((s.take (j + 1)).drop (j + 1)) (splB c (s.drop (j + 1)))) := by
          have e1 : x = c := by simpa using he
          rw [Hid, HL.out, HD.out, splB_app, if_pos e1]
          have : (s.take (j + 1)).drop (j + 1) = [] := List.drop_eq_nil_of_le (by simp; omega)
          rw [this, headApp_nil (splB_ne _ _)]
          simp [headApp]
        clear he HD HT
        go_wp2_with (first | (at_builtin; go_must (refine wpList_append (v := .slice A1 L.length c1) (n := L.length) (xs := L.flatMap strF.enc) rfl string_ty rfl rfl rfl (own_ext F1.out.own (by (repeat (first | exact Only.refl _ _ | refine Only.drew ?_ | refine Only.drewN ?_ _ | refine Only.alloc ?_ _)))) (rd_one _ _ [S ((s.take j).drop f)]) (senc1 _) (by omega) ?_); intro A2 c2 w5 hown5 hg5 hb5) | (refine Mix.wpList_guarded rfl ?_; (repeat' (first | (refine Mix.lex_quiet0 rfl rfl rfl ?_; intro K hK; go_big_quiet_op; go_big_quiet_on) | (refine Mix.lex_quietG rfl rfl rfl (by with_reducible rfl) rfl rfl ?_; intro K hK; go_big_quiet_op; go_big_quiet_on) | ((first | refine Mix.lex_skipT rfl rfl rfl (by with_reducible rfl) ?_ | refine Mix.lex_skipF rfl rfl rfl (by with_reducible rfl) ?_ | refine Mix.lex_skipU rfl rfl rfl (by with_reducible rfl) ?_); simp only [Act.put, List.setIfInBounds_toArray, List.set_cons_succ, List.set_cons_zero]) | (refine Mix.lex_part rfl rfl rfl rfl (fun hq => ?_) (fun hq => ?_) <;> (fail_if_success (guard_hyp hq :ₛ true = true)) <;> (fail_if_success (guard_hyp hq :ₛ false = false)) <;> first | (exfalso; cases hq; done) | (exfalso; simp only [decide_eq_true_eq, decide_eq_false_iff_not, beq_iff_eq, beq_eq_false_iff_ne, ne_eq, Int.not_lt, Int.not_le] at hq; omega) | simp only [Act.put, List.setIfInBounds_toArray, List.set_cons_succ, List.set_cons_zero]))); all_goals (refine Mix.lex_nil ?_)) | (refine Mix.wp_still (by kernel_rfl) (by kernel_rfl) ?_; (repeat' (first | (refine Mix.lex_quiet0 rfl rfl rfl ?_; intro K hK; go_big_quiet_op; go_big_quiet_on) | (refine Mix.lex_quietG rfl rfl rfl (by with_reducible rfl) rfl rfl ?_; intro K hK; go_big_quiet_op; go_big_quiet_on) | ((first | refine Mix.lex_skipT rfl rfl rfl (by with_reducible rfl) ?_ | refine Mix.lex_skipF rfl rfl rfl (by with_reducible rfl) ?_ | refine Mix.lex_skipU rfl rfl rfl (by with_reducible rfl) ?_); simp only [Act.put, List.setIfInBounds_toArray, List.set_cons_succ, List.set_cons_zero]) | (refine Mix.lex_part rfl rfl rfl rfl (fun hq => ?_) (fun hq => ?_) <;> (fail_if_success (guard_hyp hq :ₛ true = true)) <;> (fail_if_success (guard_hyp hq :ₛ false = false)) <;> first | (exfalso; cases hq; done) | (exfalso; simp only [decide_eq_true_eq, decide_eq_false_iff_not, beq_iff_eq, beq_eq_false_iff_ne, ne_eq, Int.not_lt, Int.not_le] at hq; omega) | simp only [Act.put, List.setIfInBounds_toArray, List.set_cons_succ, List.set_cons_zero]))); all_goals (refine Mix.lex_nil ?_)))
        go_roundw
        case rel => exact ⟨j + 1, j + 1, by omega, by omega, by go_num, by go_num, L ++ [(s.take j).drop f], A2, c2, by simp, by simp; omega, HS.out, Fresh.grow (h := F1.out.on (by (repeat (first | exact Only.refl _ _ | refine Only.drew ?_ | refine Only.drewN ?_ _ | refine Only.alloc ?_ _)))) (ys := [(s.take j).drop f]) rfl hown5 hg5 hb5⟩
        case measure => simp [intOf]; omega
      | false =>
        have HS : Hid (splB c s = L ++ headApp ((s.take (j + 1)).drop f) (splB c (s.drop (j + 1)))) := by
          have e1 : ¬ x = c := by simpa using he
          rw [Hid, HL.out, HD.out, splB_app, if_neg e1, headApp_two, HT.out]
        clear he HD HT
        go_wp2_with (first | (refine Mix.wpList_guarded rfl ?_; (repeat' (first | (refine Mix.lex_quiet0 rfl rfl rfl ?_; intro K hK; go_big_quiet_op; go_big_quiet_on) | (refine Mix.lex_quietG rfl rfl rfl (by with_reducible rfl) rfl rfl ?_; intro K hK; go_big_quiet_op; go_big_quiet_on) | ((first | refine Mix.lex_skipT rfl rfl rfl (by with_reducible rfl) ?_ | refine Mix.lex_skipF rfl rfl rfl (by with_reducible rfl) ?_ | refine Mix.lex_skipU rfl rfl rfl (by with_reducible rfl) ?_); simp only [Act.put, List.setIfInBounds_toArray, List.set_cons_succ, List.set_cons_zero]) | (refine Mix.lex_part rfl rfl rfl rfl (fun hq => ?_) (fun hq => ?_) <;> (fail_if_success (guard_hyp hq :ₛ true = true)) <;> (fail_if_success (guard_hyp hq :ₛ false = false)) <;> first | (exfalso; cases hq; done) | (exfalso; simp only [decide_eq_true_eq, decide_eq_false_iff_not, beq_iff_eq, beq_eq_false_iff_ne, ne_eq, Int.not_lt, Int.not_le] at hq; omega) | simp only [Act.put, List.setIfInBounds_toArray, List.set_cons_succ, List.set_cons_zero]))); all_goals (refine Mix.lex_nil ?_)) | (refine Mix.wp_still (by kernel_rfl) (by kernel_rfl) ?_; (repeat' (first | (refine Mix.lex_quiet0 rfl rfl rfl ?_; intro K hK; go_big_quiet_op; go_big_quiet_on) | (refine Mix.lex_quietG rfl rfl rfl (by with_reducible rfl) rfl rfl ?_; intro K hK; go_big_quiet_op; go_big_quiet_on) | ((first | refine Mix.lex_skipT rfl rfl rfl (by with_reducible rfl) ?_ | refine Mix.lex_skipF rfl rfl rfl (by with_reducible rfl) ?_ | refine Mix.lex_skipU rfl rfl rfl (by with_reducible rfl) ?_); simp only [Act.put, List.setIfInBounds_toArray, List.set_cons_succ, List.set_cons_zero]) | (refine Mix.lex_part rfl rfl rfl rfl (fun hq => ?_) (fun hq => ?_) <;> (fail_if_success (guard_hyp hq :ₛ true = true)) <;> (fail_if_success (guard_hyp hq :ₛ false = false)) <;> first | (exfalso; cases hq; done) | (exfalso; simp only [decide_eq_true_eq, decide_eq_false_iff_not, beq_iff_eq, beq_eq_false_iff_ne, ne_eq, Int.not_lt, Int.not_le] at hq; omega) | simp only [Act.put, List.setIfInBounds_toArray, List.set_cons_succ, List.set_cons_zero]))); all_goals (refine Mix.lex_nil ?_)))
        go_roundw
        case rel => exact ⟨j + 1, f, by omega, by omega, by go_num, rfl, L, A1, c1, rfl, by omega, HS.out, F1.out⟩
        case measure => simp [intOf]; omega
    · have HS : Hid (splB c s = L ++ [s.drop f]) := by
        have e1 : s.drop j = [] := List.drop_eq_nil_of_le (by omega)
        rw [Hid, HL.out, e1, List.take_of_length_le (by omega)]
        simp [splB, headApp]
      go_wp2_with (first | (at_builtin; go_must (refine wpList_append (v := .slice A1 L.length c1) (n := L.length) (xs := L.flatMap strF.enc) rfl string_ty rfl rfl rfl (own_ext F1.out.own (by (repeat (first | exact Only.refl _ _ | refine Only.drew ?_ | refine Only.drewN ?_ _ | refine Only.alloc ?_ _)))) (rd_one _ _ [S (s.drop f)]) (senc1 _) (by omega) ?_); intro A2 c2 w5 hown5 hg5 hb5) | (refine Mix.wpList_guarded rfl ?_; (repeat' (first | (refine Mix.lex_quiet0 rfl rfl rfl ?_; intro K hK; go_big_quiet_op; go_big_quiet_on) | (refine Mix.lex_quietG rfl rfl rfl (by with_reducible rfl) rfl rfl ?_; intro K hK; go_big_quiet_op; go_big_quiet_on) | ((first | refine Mix.lex_skipT rfl rfl rfl (by with_reducible rfl) ?_ | refine Mix.lex_skipF rfl rfl rfl (by with_reducible rfl) ?_ | refine Mix.lex_skipU rfl rfl rfl (by with_reducible rfl) ?_); simp only [Act.put, List.setIfInBounds_toArray, List.set_cons_succ, List.set_cons_zero]) | (refine Mix.lex_part rfl rfl rfl rfl (fun hq => ?_) (fun hq => ?_) <;> (fail_if_success (guard_hyp hq :ₛ true = true)) <;> (fail_if_success (guard_hyp hq :ₛ false = false)) <;> first | (exfalso; cases hq; done) | (exfalso; simp only [decide_eq_true_eq, decide_eq_false_iff_not, beq_iff_eq, beq_eq_false_iff_ne, ne_eq, Int.not_lt, Int.not_le] at hq; omega) | simp only [Act.put, List.setIfInBounds_toArray, List.set_cons_succ, List.set_cons_zero]))); all_goals (refine Mix.lex_nil ?_)) | (refine Mix.wp_still (by kernel_rfl) (by kernel_rfl) ?_; (repeat' (first | (refine Mix.lex_quiet0 rfl rfl rfl ?_; intro K hK; go_big_quiet_op; go_big_quiet_on) | (refine Mix.lex_quietG rfl rfl rfl (by with_reducible rfl) rfl rfl ?_; intro K hK; go_big_quiet_op; go_big_quiet_on) | ((first | refine Mix.lex_skipT rfl rfl rfl (by with_reducible rfl) ?_ | refine Mix.lex_skipF rfl rfl rfl (by with_reducible rfl) ?_ | refine Mix.lex_skipU rfl rfl rfl (by with_reducible rfl) ?_); simp only [Act.put, List.setIfInBounds_toArray, List.set_cons_succ, List.set_cons_zero]) | (refine Mix.lex_part rfl rfl rfl rfl (fun hq => ?_) (fun hq => ?_) <;> (fail_if_success (guard_hyp hq :ₛ true = true)) <;> (fail_if_success (guard_hyp hq :ₛ false = false)) <;> first | (exfalso; cases hq; done) | (exfalso; simp only [decide_eq_true_eq, decide_eq_false_iff_not, beq_iff_eq, beq_eq_false_iff_ne, ne_eq, Int.not_lt, Int.not_le] at hq; omega) | simp only [Act.put, List.setIfInBounds_toArray, List.set_cons_succ, List.set_cons_zero]))); all_goals (refine Mix.lex_nil ?_)))
      go_ret
      rw [HS.out]
      exact ⟨A2, c2, by simp, Fresh.grow (h := F1.out.on (by (repeat (first | exact Only.refl _ _ | refine Only.drew ?_ | refine Only.drewN ?_ _ | refine Only.alloc ?_ _)))) (ys := [s.drop f]) rfl hown5 hg5 hb5⟩
theorem map_S (l : List Str) : l.map (fun s => Value.string ⟨s.toArray⟩) = l.flatMap strF.enc := by
  induction l with
  | nil => rfl
  | cons x l ih => rw [List.map_cons, ih]; rfl
theorem bytes_str (b : ByteArray) : (⟨b.data.toList.toArray⟩ : ByteArray) = b := rfl
theorem splitB_str (c : UInt8) (k : Nat) (s : Str) : (Lib.splitB ⟨#[c]⟩ 0 k ⟨s.toArray⟩).map Value.string = (Lib.splitK [c] 0 k s).flatMap strF.enc := by
  rw [← map_S]
  have := Lib.splitB_data ⟨#[c]⟩ 0 k ⟨s.toArray⟩
  rw [show (⟨#[c]⟩ : ByteArray).data.toList = [c] from rfl, show (⟨s.toArray⟩ : ByteArray).data.toList = s from rfl] at this
  rw [← this, List.map_map]
  rfl
theorem splitK_two (c : UInt8) {s : Str} {w0 w1 w2 : Str} {r : List Str} (h : splB c s = w0 :: w1 :: w2 :: r) : Lib.splitK [c] 0 2 s = [w0, w1, s.drop (w0.length + w1.length + 2)] ∧ w0.length + w1.length + 2 ≤ s.length := by
  rw [splB_cut] at h
  by_cases hb : (cutB c s).2.2 = true
  · rw [if_pos hb] at h
    injection h with h1 h
    rw [splB_cut] at h
    by_cases hb2 : (cutB c (cutB c s).2.1).2.2 = true
    · rw [if_pos hb2] at h
      injection h with h2 h
      have hp := cut_parts c s hb
      have hp2 := cut_parts c _ hb2
      have hi := index_cut c s
      have hi2 := index_cut c (cutB c s).2.1
      rw [if_pos hb] at hi
      rw [if_pos hb2] at hi2
      rw [h1] at hi hp
      rw [h2] at hi2 hp2
      generalize (cutB c s).2.1 = t at *
      generalize (cutB c t).2.1 = u at *
      have hl : ∀ (s a b : Str), s = a ++ c :: b → s.length = a.length + b.length + 1 ∧ s.drop (a.length + 1) = b ∧ s.take a.length = a := by
        rintro s a b rfl
        refine ⟨by simp; omega, ?_, List.take_left⟩
        rw [← List.drop_drop, List.drop_left]; rfl
      obtain ⟨l1, d1, t1⟩ := hl _ _ _ hp
      obtain ⟨l2, d2, t2⟩ := hl _ _ _ hp2
      have hm : ¬ (Lib.index s [c] == -1) = true := fun e => by have := beq_iff_eq.1 e; omega
      have e1 : (Lib.index s [c]).toNat = w0.length := by omega
      have hm2 : ¬ (Lib.index t [c] == -1) = true := fun e => by have := beq_iff_eq.1 e; omega
      have e2 : (Lib.index t [c]).toNat = w1.length := by omega
      refine ⟨?_, by omega⟩
      rw [Lib.splitK, if_neg hm, e1, Nat.add_zero, List.length_singleton, t1, d1, Lib.splitK, if_neg hm2, e2, Nat.add_zero, List.length_singleton, t2, d2, Lib.splitK]
      rw [← d2, ← d1, List.drop_drop]
      congr 3
      congr 1
      omega
    · rw [if_neg hb2] at h
      injection h with h h'
      cases h'
  · rw [if_neg hb] at h
    injection h with h h'
    cases h'
end Go.Proofs.Ytnhaekifcieeoaa
