/- Put together: Files3, Errs, Said, Same, Files4, Strs, Ov, CutB, Spl, Txt. -/
import Derived.Test.YtnhaekifcieeoaaGreatDoorPk03
import Derived.Test.YtnhaekifcieeoaaGreatDoorProg
import Derived.Test.YtnhaekifcieeoaaGreatDoorPk02
import Derived.Test.YtnhaekifcieeoaaGreatDoorPkS
import Derived.Test.YtnhaekifcieeoaaGreatDoorPk01
import Derived.Lib.IndexMore
import Derived.Lib.SplitLaws
namespace Go.Proofs.YtnhaekifcieeoaaGreatDoor
open Go Go.RowKit
theorem fenc1 (x : File) : ∀ u ∈ [S x.1, S x.2], u.oneCell' = true := fun u hu => file_enc1 [x] u (by simpa [fileF] using hu)
theorem dropL_cons (k : Str) (x : File) (l : List File) : dropL fk k (x :: l) = (if x.1 = k then [] else [x]) ++ dropL fk k l := by
  unfold dropL
  rw [List.filter_cons]
  by_cases h : x.1 = k <;> simp [fk, h]
theorem putL_cons (f x : File) (l : List File) : putL fk f (x :: l) = if leB f.1 x.1 then [f] ++ (if x.1 = f.1 then [] else [x]) ++ dropL fk f.1 l else [x] ++ putL fk f l := by
  rw [putL]
  split
  · rw [show (x :: l).filter (fun y => decide (fk y ≠ fk f)) = dropL fk f.1 (x :: l) from rfl, dropL_cons, List.append_assoc]
    rfl
  · rfl
def putS (f : File) (l : List File) (b : Bool) : List File := if b then dropL fk f.1 l else putL fk f l
set_option maxRecDepth 100000 in
set_option maxHeartbeats 1000000 in
theorem RPut_c {w : World} {A : Option Addr} {n c : Nat} {xs : List File} (h : SlR fileF w A n xs) (hn : n ≤ 100000) (f : File) :
    Calls Tryz.prog 52 #[.slice A n c, .agg #[S f.1, S f.2]] w fun e w' => ∃ A' c', e = .returned (.slice A' (putL fk f xs).length c') ∧ Fresh fileF 75 w w' A' c' (putL fk f xs) := by
  obtain ⟨w0, hw0⟩ : ∃ w0, w0 = w.alloc (.cells #[S f.1, S f.2] 75) := ⟨_, rfl⟩
  have hx0 : Ext w w0 := by rw [hw0]; exact (Only.refl No w).alloc _
  have hB : Cs w0 w.heap.size 75 #[S f.1, S f.2] := by rw [hw0]; exact Cs.new _ _ _
  have c0 : ∀ ξ : X w0 No, ξ.v.cell? ⟨w.heap.size, 0, none⟩ = some (S f.1) := hB.x id 0
  have c1 : ∀ ξ : X w0 No, ξ.v.cell? ⟨w.heap.size, 1, none⟩ = some (S f.2) := hB.x id 1
  have HX0 := Lib.hid hx0
  have h0 := h.ext hx0
  clear hB hx0 h
  go_enter Tryz.func52, Tryz.ntmps52
  go_upto_region 1 with fail
  rw [← hw0]
  clear hw0
  go_wp2_with (first | ((first | refine Mix.wpList_guarded rfl ?_ | refine Mix.wp_still (by kernel_rfl) (by kernel_rfl) ?_); (repeat' (first | (refine Mix.lex_quiet0 rfl rfl rfl ?_; intro K hK; go_big_quiet_op; go_big_quiet_on) | (refine Mix.lex_quietG rfl rfl rfl (by with_reducible rfl) rfl rfl ?_; intro K hK; go_big_quiet_op; go_big_quiet_on) | ((first | refine Mix.lex_skipT rfl rfl rfl (by with_reducible rfl) ?_ | refine Mix.lex_skipF rfl rfl rfl (by with_reducible rfl) ?_ | refine Mix.lex_skipU rfl rfl rfl (by with_reducible rfl) ?_); simp only [Act.put, List.setIfInBounds_toArray, List.set_cons_succ, List.set_cons_zero]) | (refine Mix.lex_part rfl rfl rfl rfl (fun hq => ?_) (fun hq => ?_) <;> (fail_if_success (guard_hyp hq :ₛ true = true)) <;> (fail_if_success (guard_hyp hq :ₛ false = false)) <;> first | (exfalso; cases hq; done) | (exfalso; simp only [decide_eq_true_eq, decide_eq_false_iff_not, beq_iff_eq, beq_eq_false_iff_ne, ne_eq, Int.not_lt, Int.not_le] at hq; omega) | simp only [Act.put, List.setIfInBounds_toArray, List.set_cons_succ, List.set_cons_zero]))); all_goals (refine Mix.lex_nil ?_)))
  go_loopw [5, 6, 7] (fun v b i wr => ∃ j : Nat, j ≤ n ∧ i = .int .i64 j ∧ ∃ L A' c' d, b = .bool d ∧ v = .slice A' L.length c' ∧ L.length ≤ 2 * j ∧ putL fk f xs = L ++ putS f (xs.drop j) d ∧ Fresh fileF 75 w0 wr A' c' L) (fun _ _ i _ => n - (intOf i).toNat)
  case atStart => exact ⟨0, Nat.zero_le _, rfl, [], none, 0, false, rfl, rfl, by simp, by simp [putS], Fresh.nil _ _ _ _ (Only.refl _ _)⟩
  case round =>
    obtain ⟨j, hj, rfl, L, A', c', d, rfl, rfl, hLn, hL, hf⟩ := hrel
    have F1 := Lib.hid hf
    have HL := Lib.hid hL
    obtain ⟨ξ, rfl⟩ : ∃ ξ : X w0 No, wr = ξ.v := ⟨⟨wr, hf.ext⟩, rfl⟩
    clear hf hL
    by_cases hlt : j < n
    · obtain ⟨b, o, x, rfl, hx, d0, d1⟩ := files_get h0 hlt
      have hdr : Hid (xs.drop j = x :: xs.drop (j + 1)) := by
        obtain ⟨hl, rfl⟩ := List.getElem?_eq_some_iff.1 hx
        exact List.drop_eq_getElem_cons hl
      clear hx
      have HK : Hid (leB f.1 x.1 = false → x.1 ≠ f.1) := fun h => slt_ne (leB_false h)
      obtain ⟨e, he⟩ : ∃ e, e = (x.1 == f.1) := ⟨_, rfl⟩
      have HE : Hid ((if x.1 = f.1 then [] else [x]) = if e then [] else [x]) := by
        rw [Hid, he]
        by_cases h : x.1 = f.1 <;> simp [h]
      have hd : (x.1 == f.1) = e := he.symm
      have HK2 : Hid (leB f.1 x.1 = false → e = false) := fun h => by rw [he]; simpa using HK.out h
      clear he HK
      cases d with
      | true =>
        have HS : Hid (putS f (xs.drop j) true = (if e then [] else [x]) ++ putS f (xs.drop (j + 1)) true) := by
          rw [Hid, hdr.out, ← HE.out]; exact dropL_cons _ _ _
        clear HE hdr HK2
        cases e with
        | true =>
          go_wp2_with (first | ((first | refine Mix.wpList_guarded rfl ?_ | refine Mix.wp_still (by kernel_rfl) (by kernel_rfl) ?_); (repeat' (first | (refine Mix.lex_quiet0 rfl rfl rfl ?_; intro K hK; go_big_quiet_op; go_big_quiet_on) | (refine Mix.lex_quietG rfl rfl rfl (by with_reducible rfl) rfl rfl ?_; intro K hK; go_big_quiet_op; go_big_quiet_on) | ((first | refine Mix.lex_skipT rfl rfl rfl (by with_reducible rfl) ?_ | refine Mix.lex_skipF rfl rfl rfl (by with_reducible rfl) ?_ | refine Mix.lex_skipU rfl rfl rfl (by with_reducible rfl) ?_); simp only [Act.put, List.setIfInBounds_toArray, List.set_cons_succ, List.set_cons_zero]) | (refine Mix.lex_part rfl rfl rfl rfl (fun hq => ?_) (fun hq => ?_) <;> (fail_if_success (guard_hyp hq :ₛ true = true)) <;> (fail_if_success (guard_hyp hq :ₛ false = false)) <;> first | (exfalso; cases hq; done) | (exfalso; simp only [decide_eq_true_eq, decide_eq_false_iff_not, beq_iff_eq, beq_eq_false_iff_ne, ne_eq, Int.not_lt, Int.not_le] at hq; omega) | simp only [Act.put, List.setIfInBounds_toArray, List.set_cons_succ, List.set_cons_zero]))); all_goals (refine Mix.lex_nil ?_)))
          go_roundw
          case rel => exact ⟨j + 1, by omega, by go_num, L, A', c', true, rfl, rfl, by omega, by rw [HL.out, HS.out]; rfl, F1.out.on (by (repeat (first | exact Only.refl _ _ | refine Only.drew ?_ | refine Only.drewN ?_ _ | refine Only.alloc ?_ _)))⟩
          case measure => simp [intOf]; omega
        | false =>
          go_wp2_with (first | (at_builtin; go_must (refine wpList_append (v := .slice A' L.length c') (n := L.length) (xs := L.flatMap fileF.enc) rfl file_ty rfl rfl rfl (own_ext F1.out.own (by (repeat (first | exact Only.refl _ _ | refine Only.drew ?_ | refine Only.drewN ?_ _ | refine Only.alloc ?_ _)))) (rd_one _ _ [S x.1, S x.2]) (fenc1 x) (by omega) ?_); intro A2 c2 w5 hown5 hg5 hb5) | ((first | refine Mix.wpList_guarded rfl ?_ | refine Mix.wp_still (by kernel_rfl) (by kernel_rfl) ?_); (repeat' (first | (refine Mix.lex_quiet0 rfl rfl rfl ?_; intro K hK; go_big_quiet_op; go_big_quiet_on) | (refine Mix.lex_quietG rfl rfl rfl (by with_reducible rfl) rfl rfl ?_; intro K hK; go_big_quiet_op; go_big_quiet_on) | ((first | refine Mix.lex_skipT rfl rfl rfl (by with_reducible rfl) ?_ | refine Mix.lex_skipF rfl rfl rfl (by with_reducible rfl) ?_ | refine Mix.lex_skipU rfl rfl rfl (by with_reducible rfl) ?_); simp only [Act.put, List.setIfInBounds_toArray, List.set_cons_succ, List.set_cons_zero]) | (refine Mix.lex_part rfl rfl rfl rfl (fun hq => ?_) (fun hq => ?_) <;> (fail_if_success (guard_hyp hq :ₛ true = true)) <;> (fail_if_success (guard_hyp hq :ₛ false = false)) <;> first | (exfalso; cases hq; done) | (exfalso; simp only [decide_eq_true_eq, decide_eq_false_iff_not, beq_iff_eq, beq_eq_false_iff_ne, ne_eq, Int.not_lt, Int.not_le] at hq; omega) | simp only [Act.put, List.setIfInBounds_toArray, List.set_cons_succ, List.set_cons_zero]))); all_goals (refine Mix.lex_nil ?_)))
          go_roundw
          case rel => exact ⟨j + 1, by omega, by go_num, L ++ [x], A2, c2, true, rfl, by simp, by simp; omega, by rw [HL.out, HS.out]; simp, Fresh.grow (h := F1.out.on (by (repeat (first | exact Only.refl _ _ | refine Only.drew ?_ | refine Only.drewN ?_ _ | refine Only.alloc ?_ _)))) (ys := [x]) rfl hown5 hg5 hb5⟩
          case measure => simp [intOf]; omega
      | false =>
        obtain ⟨q, hq⟩ : ∃ q, q = leB f.1 x.1 := ⟨_, rfl⟩
        rw [← hq] at HK2
        cases q with
        | false =>
          have e1 := HK2.out rfl
          subst e1
          have HS : Hid (putS f (xs.drop j) false = [x] ++ putS f (xs.drop (j + 1)) false) := by
            rw [Hid, hdr.out]
            show putL fk f _ = _
            rw [putL_cons, ← hq]; rfl
          have hq' : leB f.1 x.1 = false := hq.symm
          clear HE hdr HK2 hq
          go_wp2_with (first | (at_builtin; go_must (refine wpList_append (v := .slice A' L.length c') (n := L.length) (xs := L.flatMap fileF.enc) rfl file_ty rfl rfl rfl (own_ext F1.out.own (by (repeat (first | exact Only.refl _ _ | refine Only.drew ?_ | refine Only.drewN ?_ _ | refine Only.alloc ?_ _)))) (rd_one _ _ [S x.1, S x.2]) (fenc1 x) (by omega) ?_); intro A2 c2 w5 hown5 hg5 hb5) | ((first | refine Mix.wpList_guarded rfl ?_ | refine Mix.wp_still (by kernel_rfl) (by kernel_rfl) ?_); (repeat' (first | (refine Mix.lex_quiet0 rfl rfl rfl ?_; intro K hK; go_big_quiet_op; go_big_quiet_on) | (refine Mix.lex_quietG rfl rfl rfl (by with_reducible rfl) rfl rfl ?_; intro K hK; go_big_quiet_op; go_big_quiet_on) | ((first | refine Mix.lex_skipT rfl rfl rfl (by with_reducible rfl) ?_ | refine Mix.lex_skipF rfl rfl rfl (by with_reducible rfl) ?_ | refine Mix.lex_skipU rfl rfl rfl (by with_reducible rfl) ?_); simp only [Act.put, List.setIfInBounds_toArray, List.set_cons_succ, List.set_cons_zero]) | (refine Mix.lex_part rfl rfl rfl rfl (fun hq => ?_) (fun hq => ?_) <;> (fail_if_success (guard_hyp hq :ₛ true = true)) <;> (fail_if_success (guard_hyp hq :ₛ false = false)) <;> first | (exfalso; cases hq; done) | (exfalso; simp only [decide_eq_true_eq, decide_eq_false_iff_not, beq_iff_eq, beq_eq_false_iff_ne, ne_eq, Int.not_lt, Int.not_le] at hq; omega) | simp only [Act.put, List.setIfInBounds_toArray, List.set_cons_succ, List.set_cons_zero]))); all_goals (refine Mix.lex_nil ?_)))
          go_roundw
          case rel => exact ⟨j + 1, by omega, by go_num, L ++ [x], A2, c2, false, rfl, by simp, by simp; omega, by rw [HL.out, HS.out]; simp, Fresh.grow (h := F1.out.on (by (repeat (first | exact Only.refl _ _ | refine Only.drew ?_ | refine Only.drewN ?_ _ | refine Only.alloc ?_ _)))) (ys := [x]) rfl hown5 hg5 hb5⟩
          case measure => simp [intOf]; omega
        | true =>
          have HS : Hid (putS f (xs.drop j) false = [f] ++ (if e then [] else [x]) ++ putS f (xs.drop (j + 1)) true) := by
            rw [Hid, hdr.out, ← HE.out]
            show putL fk f _ = _
            rw [putL_cons, ← hq]; rfl
          have hq' : leB f.1 x.1 = true := hq.symm
          clear HE hdr HK2 hq
          go_upto_region 9 with (first | (at_builtin; go_must (refine wpList_append (v := .slice A' L.length c') (n := L.length) (xs := L.flatMap fileF.enc) rfl file_ty rfl rfl rfl (own_ext F1.out.own (by (repeat (first | exact Only.refl _ _ | refine Only.drew ?_ | refine Only.drewN ?_ _ | refine Only.alloc ?_ _)))) (rd_one _ _ [S f.1, S f.2]) (fenc1 f) (by omega) ?_); intro A2 c2 w5 hown5 hg5 hb5) | (refine Mix.wpList_guarded rfl ?_; (repeat' (first | (refine Mix.lex_quiet0 rfl rfl rfl ?_; intro K hK; go_big_quiet_op; go_big_quiet_on) | (refine Mix.lex_quietG rfl rfl rfl (by with_reducible rfl) rfl rfl ?_; intro K hK; go_big_quiet_op; go_big_quiet_on) | ((first | refine Mix.lex_skipT rfl rfl rfl (by with_reducible rfl) ?_ | refine Mix.lex_skipF rfl rfl rfl (by with_reducible rfl) ?_ | refine Mix.lex_skipU rfl rfl rfl (by with_reducible rfl) ?_); simp only [Act.put, List.setIfInBounds_toArray, List.set_cons_succ, List.set_cons_zero]) | (refine Mix.lex_part rfl rfl rfl rfl (fun hq => ?_) (fun hq => ?_) <;> (fail_if_success (guard_hyp hq :ₛ true = true)) <;> (fail_if_success (guard_hyp hq :ₛ false = false)) <;> first | (exfalso; cases hq; done) | (exfalso; simp only [decide_eq_true_eq, decide_eq_false_iff_not, beq_iff_eq, beq_eq_false_iff_ne, ne_eq, Int.not_lt, Int.not_le] at hq; omega) | simp only [Act.put, List.setIfInBounds_toArray, List.set_cons_succ, List.set_cons_zero]))); all_goals (refine Mix.lex_nil ?_)) | (refine Mix.wp_still (by kernel_rfl) (by kernel_rfl) ?_; (repeat' (first | (refine Mix.lex_quiet0 rfl rfl rfl ?_; intro K hK; go_big_quiet_op; go_big_quiet_on) | (refine Mix.lex_quietG rfl rfl rfl (by with_reducible rfl) rfl rfl ?_; intro K hK; go_big_quiet_op; go_big_quiet_on) | ((first | refine Mix.lex_skipT rfl rfl rfl (by with_reducible rfl) ?_ | refine Mix.lex_skipF rfl rfl rfl (by with_reducible rfl) ?_ | refine Mix.lex_skipU rfl rfl rfl (by with_reducible rfl) ?_); simp only [Act.put, List.setIfInBounds_toArray, List.set_cons_succ, List.set_cons_zero]) | (refine Mix.lex_part rfl rfl rfl rfl (fun hq => ?_) (fun hq => ?_) <;> (fail_if_success (guard_hyp hq :ₛ true = true)) <;> (fail_if_success (guard_hyp hq :ₛ false = false)) <;> first | (exfalso; cases hq; done) | (exfalso; simp only [decide_eq_true_eq, decide_eq_false_iff_not, beq_iff_eq, beq_eq_false_iff_ne, ne_eq, Int.not_lt, Int.not_le] at hq; omega) | simp only [Act.put, List.setIfInBounds_toArray, List.set_cons_succ, List.set_cons_zero]))); all_goals (refine Mix.lex_nil ?_)))
          have F2 := Lib.hid (Fresh.grow (h := F1.out.on (by (repeat (first | exact Only.refl _ _ | refine Only.drew ?_ | refine Only.drewN ?_ _ | refine Only.alloc ?_ _)))) (ys := [f]) rfl hown5 hg5 hb5)
          have hLn2 : (L ++ [f]).length ≤ 2 * j + 1 := by simp; omega
          obtain ⟨ξ2, rfl⟩ : ∃ ξ : X w0 No, w5 = ξ.v := ⟨⟨w5, F2.out.ext⟩, rfl⟩
          rw [show (Value.slice A2 (L.length + 1) c2) = Value.slice A2 (L ++ [f]).length c2 by simp]
          obtain ⟨L2, hL2⟩ : ∃ L2, L2 = L ++ [f] := ⟨_, rfl⟩
          rw [← hL2] at F2 hLn2 ⊢
          have HL2 := Lib.hid hL2
          clear hL2 hown5 hg5 hb5 F1
          cases e with
          | true =>
            go_wp2_with (first | ((first | refine Mix.wpList_guarded rfl ?_ | refine Mix.wp_still (by kernel_rfl) (by kernel_rfl) ?_); (repeat' (first | (refine Mix.lex_quiet0 rfl rfl rfl ?_; intro K hK; go_big_quiet_op; go_big_quiet_on) | (refine Mix.lex_quietG rfl rfl rfl (by with_reducible rfl) rfl rfl ?_; intro K hK; go_big_quiet_op; go_big_quiet_on) | ((first | refine Mix.lex_skipT rfl rfl rfl (by with_reducible rfl) ?_ | refine Mix.lex_skipF rfl rfl rfl (by with_reducible rfl) ?_ | refine Mix.lex_skipU rfl rfl rfl (by with_reducible rfl) ?_); simp only [Act.put, List.setIfInBounds_toArray, List.set_cons_succ, List.set_cons_zero]) | (refine Mix.lex_part rfl rfl rfl rfl (fun hq => ?_) (fun hq => ?_) <;> (fail_if_success (guard_hyp hq :ₛ true = true)) <;> (fail_if_success (guard_hyp hq :ₛ false = false)) <;> first | (exfalso; cases hq; done) | (exfalso; simp only [decide_eq_true_eq, decide_eq_false_iff_not, beq_iff_eq, beq_eq_false_iff_ne, ne_eq, Int.not_lt, Int.not_le] at hq; omega) | simp only [Act.put, List.setIfInBounds_toArray, List.set_cons_succ, List.set_cons_zero]))); all_goals (refine Mix.lex_nil ?_)))
            go_roundw
            case rel => exact ⟨j + 1, by omega, by go_num, L2, A2, c2, true, rfl, rfl, by omega, by rw [HL.out, HS.out, HL2.out]; simp, F2.out.on (by (repeat (first | exact Only.refl _ _ | refine Only.drew ?_ | refine Only.drewN ?_ _ | refine Only.alloc ?_ _)))⟩
            case measure => simp [intOf]; omega
          | false =>
            go_wp2_with (first | (at_builtin; go_must (refine wpList_append (v := .slice A2 L2.length c2) (n := L2.length) (xs := L2.flatMap fileF.enc) rfl file_ty rfl rfl rfl (own_ext F2.out.own (by (repeat (first | exact Only.refl _ _ | refine Only.drew ?_ | refine Only.drewN ?_ _ | refine Only.alloc ?_ _)))) (rd_one _ _ [S x.1, S x.2]) (fenc1 x) (by omega) ?_); intro A3 c3 w6 hown6 hg6 hb6) | ((first | refine Mix.wpList_guarded rfl ?_ | refine Mix.wp_still (by kernel_rfl) (by kernel_rfl) ?_); (repeat' (first | (refine Mix.lex_quiet0 rfl rfl rfl ?_; intro K hK; go_big_quiet_op; go_big_quiet_on) | (refine Mix.lex_quietG rfl rfl rfl (by with_reducible rfl) rfl rfl ?_; intro K hK; go_big_quiet_op; go_big_quiet_on) | ((first | refine Mix.lex_skipT rfl rfl rfl (by with_reducible rfl) ?_ | refine Mix.lex_skipF rfl rfl rfl (by with_reducible rfl) ?_ | refine Mix.lex_skipU rfl rfl rfl (by with_reducible rfl) ?_); simp only [Act.put, List.setIfInBounds_toArray, List.set_cons_succ, List.set_cons_zero]) | (refine Mix.lex_part rfl rfl rfl rfl (fun hq => ?_) (fun hq => ?_) <;> (fail_if_success (guard_hyp hq :ₛ true = true)) <;> (fail_if_success (guard_hyp hq :ₛ false = false)) <;> first | (exfalso; cases hq; done) | (exfalso; simp only [decide_eq_true_eq, decide_eq_false_iff_not, beq_iff_eq, beq_eq_false_iff_ne, ne_eq, Int.not_lt, Int.not_le] at hq; omega) | simp only [Act.put, List.setIfInBounds_toArray, List.set_cons_succ, List.set_cons_zero]))); all_goals (refine Mix.lex_nil ?_)))
            go_roundw
            case rel => exact ⟨j + 1, by omega, by go_num, L2 ++ [x], A3, c3, true, rfl, by simp, by simp; omega, by rw [HL.out, HS.out, HL2.out]; simp, Fresh.grow (h := F2.out.on (by (repeat (first | exact Only.refl _ _ | refine Only.drew ?_ | refine Only.drewN ?_ _ | refine Only.alloc ?_ _)))) (ys := [x]) rfl hown6 hg6 hb6⟩
            case measure => simp [intOf]; omega
    · have hd : xs.drop j = [] := List.drop_eq_nil_of_le (by rw [h0.1]; omega)
      cases d with
      | true =>
        have e1 : Hid (putL fk f xs = L) := by rw [Hid, HL.out, hd]; simp [putS, dropL]
        clear hd
        go_wp2_with (first | ((first | refine Mix.wpList_guarded rfl ?_ | refine Mix.wp_still (by kernel_rfl) (by kernel_rfl) ?_); (repeat' (first | (refine Mix.lex_quiet0 rfl rfl rfl ?_; intro K hK; go_big_quiet_op; go_big_quiet_on) | (refine Mix.lex_quietG rfl rfl rfl (by with_reducible rfl) rfl rfl ?_; intro K hK; go_big_quiet_op; go_big_quiet_on) | ((first | refine Mix.lex_skipT rfl rfl rfl (by with_reducible rfl) ?_ | refine Mix.lex_skipF rfl rfl rfl (by with_reducible rfl) ?_ | refine Mix.lex_skipU rfl rfl rfl (by with_reducible rfl) ?_); simp only [Act.put, List.setIfInBounds_toArray, List.set_cons_succ, List.set_cons_zero]) | (refine Mix.lex_part rfl rfl rfl rfl (fun hq => ?_) (fun hq => ?_) <;> (fail_if_success (guard_hyp hq :ₛ true = true)) <;> (fail_if_success (guard_hyp hq :ₛ false = false)) <;> first | (exfalso; cases hq; done) | (exfalso; simp only [decide_eq_true_eq, decide_eq_false_iff_not, beq_iff_eq, beq_eq_false_iff_ne, ne_eq, Int.not_lt, Int.not_le] at hq; omega) | simp only [Act.put, List.setIfInBounds_toArray, List.set_cons_succ, List.set_cons_zero]))); all_goals (refine Mix.lex_nil ?_)))
        go_ret
        rw [e1.out]
        exact ⟨A', c', rfl, F1.out.from HX0.out⟩
      | false =>
        have e1 : Hid (putL fk f xs = L ++ [f]) := by rw [Hid, HL.out, hd]; simp [putS, putL]
        clear hd
        go_wp2_with (first | (at_builtin; go_must (refine wpList_append (v := .slice A' L.length c') (n := L.length) (xs := L.flatMap fileF.enc) rfl file_ty rfl rfl rfl (own_ext F1.out.own (by (repeat (first | exact Only.refl _ _ | refine Only.drew ?_ | refine Only.drewN ?_ _ | refine Only.alloc ?_ _)))) (rd_one _ _ [S f.1, S f.2]) (fenc1 f) (by omega) ?_); intro A2 c2 w5 hown5 hg5 hb5) | ((first | refine Mix.wpList_guarded rfl ?_ | refine Mix.wp_still (by kernel_rfl) (by kernel_rfl) ?_); (repeat' (first | (refine Mix.lex_quiet0 rfl rfl rfl ?_; intro K hK; go_big_quiet_op; go_big_quiet_on) | (refine Mix.lex_quietG rfl rfl rfl (by with_reducible rfl) rfl rfl ?_; intro K hK; go_big_quiet_op; go_big_quiet_on) | ((first | refine Mix.lex_skipT rfl rfl rfl (by with_reducible rfl) ?_ | refine Mix.lex_skipF rfl rfl rfl (by with_reducible rfl) ?_ | refine Mix.lex_skipU rfl rfl rfl (by with_reducible rfl) ?_); simp only [Act.put, List.setIfInBounds_toArray, List.set_cons_succ, List.set_cons_zero]) | (refine Mix.lex_part rfl rfl rfl rfl (fun hq => ?_) (fun hq => ?_) <;> (fail_if_success (guard_hyp hq :ₛ true = true)) <;> (fail_if_success (guard_hyp hq :ₛ false = false)) <;> first | (exfalso; cases hq; done) | (exfalso; simp only [decide_eq_true_eq, decide_eq_false_iff_not, beq_iff_eq, beq_eq_false_iff_ne, ne_eq, Int.not_lt, Int.not_le] at hq; omega) | simp only [Act.put, List.setIfInBounds_toArray, List.set_cons_succ, List.set_cons_zero]))); all_goals (refine Mix.lex_nil ?_)))
        go_ret
        rw [e1.out]
        exact ⟨A2, c2, by simp, Fresh.from (Fresh.grow (h := F1.out.on (by (repeat (first | exact Only.refl _ _ | refine Only.drew ?_ | refine Only.drewN ?_ _ | refine Only.alloc ?_ _)))) (ys := [f]) rfl hown5 hg5 hb5) HX0.out⟩
abbrev E (n : Int) : Value := .iface 80 (.int .i64 n)
abbrev pt (g : Nat) : Value := .pointer (some ⟨g, 0, none⟩)
def errV (n : Int) : Value := if n = 0 then .nilIface else E n
theorem errV_zero : errV 0 = .nilIface := rfl
theorem errV_pos {n : Int} (h : n ≠ 0) : errV n = E n := if_neg h
theorem same_nil (f : Int) (w : World) :
    Calls Tryz.prog 13 #[.nilIface, .int .i64 f] w fun e w' => e = .returned (.bool (decide (f = 0))) ∧ Ext w w' := by
  go_enter Tryz.func13, Tryz.ntmps13
  go_wp2_with fail
  go_ret
  exact ⟨rfl, Only.refl _ _⟩
theorem as_E (n : Int) (xT : TypeId) (w : World) : (Instr.typeAssert (E n) xT 80 true).run Tryz.prog w = .ok (.tuple #[.int .i64 n, .bool true]) w := by
  unfold Instr.typeAssert
  rw [Sem.run_bind, run_underlying Tryz.underlying80]
  simp [Result.andThen, Sem.run_pure, E]
theorem same_E (n f : Int) (w : World) :
    Calls Tryz.prog 13 #[E n, .int .i64 f] w fun e w' => e = .returned (.bool (decide (0 < f) && decide (n = f))) ∧ Ext w w' := by
  have hE := as_E n
  go_enter Tryz.func13, Tryz.ntmps13
  go_wp2_with (first | ((first | refine Mix.wpList_guarded rfl ?_ | refine Mix.wp_still (by kernel_rfl) (by kernel_rfl) ?_); (repeat' (first | (refine Mix.lex_quiet0 rfl rfl rfl ?_; intro K hK; go_big_quiet_op; go_big_quiet_on) | (refine Mix.lex_quietG rfl rfl rfl (by with_reducible rfl) rfl rfl ?_; intro K hK; go_big_quiet_op; go_big_quiet_on) | ((first | refine Mix.lex_skipT rfl rfl rfl (by with_reducible rfl) ?_ | refine Mix.lex_skipF rfl rfl rfl (by with_reducible rfl) ?_ | refine Mix.lex_skipU rfl rfl rfl (by with_reducible rfl) ?_); simp only [Act.put, List.setIfInBounds_toArray, List.set_cons_succ, List.set_cons_zero]) | (refine Mix.lex_part rfl rfl rfl rfl (fun hq => ?_) (fun hq => ?_) <;> (fail_if_success (guard_hyp hq :ₛ true = true)) <;> (fail_if_success (guard_hyp hq :ₛ false = false)) <;> first | (exfalso; cases hq; done) | (exfalso; simp only [decide_eq_true_eq, decide_eq_false_iff_not, beq_iff_eq, beq_eq_false_iff_ne, ne_eq, Int.not_lt, Int.not_le] at hq; omega) | simp only [Act.put, List.setIfInBounds_toArray, List.set_cons_succ, List.set_cons_zero]))); all_goals (refine Mix.lex_nil ?_)))
  all_goals (go_ret; refine ⟨?_, Only.refl _ _⟩)
  all_goals refine ret_bool ?_
  · rw [hq]; rfl
  · rw [hq]; simp
theorem same_c (n f : Int) (hn : 0 ≤ n) (w : World) :
    Calls Tryz.prog 13 #[errV n, .int .i64 f] w fun e w' => e = .returned (.bool (decide (n = f))) ∧ Ext w w' := by
  by_cases h : n = 0
  · subst h
    refine (same_nil f w).mono ?_
    rintro e w' ⟨rfl, hx⟩
    exact ⟨by congr 2; simp [eq_comm], hx⟩
  · rw [errV_pos h]
    refine (same_E n f w).mono ?_
    rintro e w' ⟨rfl, hx⟩
    refine ⟨?_, hx⟩
    congr 2
    by_cases hf : n = f
    · subst hf; simp; omega
    · simp [hf]
theorem same_self (f : Int) (hf : 0 ≤ f) (w : World) : Calls Tryz.prog 13 #[errV f, .int .i64 f] w fun e w' => e = .returned (.bool true) ∧ Ext w w' := by
  have := same_c f f hf w
  rwa [decide_eq_true rfl] at this
theorem SameFiles_c {w : World} {A B : Option Addr} {n m c d : Nat} {xs ys : List File} (h1 : SlR fileF w A n xs) (h2 : SlR fileF w B m ys) (hn : n ≤ 10000) (hm : m ≤ 10000) :
    Calls Tryz.prog 26 #[.slice A n c, .slice B m d] w fun e w' => e = .returned (.bool (decide (xs = ys))) ∧ Ext w w' := by
  by_cases hnm : n = m
  · subst hnm
    go_enter Tryz.func26, Tryz.ntmps26
    go_wp2
    go_loopw [5] (fun i wr => ∃ k : Nat, k ≤ n ∧ i = .int .i64 k ∧ xs.take k = ys.take k ∧ ∃ ξ : X w No, wr = ξ.v) (fun i _ => n - (intOf i).toNat)
    case atStart => exact ⟨0, Nat.zero_le _, rfl, rfl, X.here _ _, rfl⟩
    case round =>
      obtain ⟨k, hk, rfl, hT, ξ, rfl⟩ := hrel
      have HT := Lib.hid hT
      clear hT
      by_cases hlt : k < n
      · obtain ⟨b, o, f, rfl, hx, c0, c1⟩ := files_get h1 hlt
        obtain ⟨b', o', f', rfl, hx', c2, c3⟩ := files_get h2 hlt
        go_upto_region 6 with fail
        (refine Mix.wp_draw [] 100 (Cl (w) (No)) (by kernel_rfl) (by kernel_rfl) (Cl.drew_ ξ) ?_; (repeat' (first | (refine Mix.lex_quiet0 rfl rfl rfl ?_; intro K hK; go_big_quiet_op; go_big_quiet_on) | (refine Mix.lex_quietG rfl rfl rfl (by with_reducible rfl) rfl rfl ?_; intro K hK; go_big_quiet_op; go_big_quiet_on) | ((first | refine Mix.lex_skipT rfl rfl rfl (by with_reducible rfl) ?_ | refine Mix.lex_skipF rfl rfl rfl (by with_reducible rfl) ?_ | refine Mix.lex_skipU rfl rfl rfl (by with_reducible rfl) ?_); simp only [Act.put, List.setIfInBounds_toArray, List.set_cons_succ, List.set_cons_zero]) | (refine Mix.lex_part rfl rfl rfl rfl (fun hq => ?_) (fun hq => ?_) <;> (fail_if_success (guard_hyp hq :ₛ true = true)) <;> (fail_if_success (guard_hyp hq :ₛ false = false)) <;> first | (exfalso; cases hq; done) | (exfalso; simp only [decide_eq_true_eq, decide_eq_false_iff_not, beq_iff_eq, beq_eq_false_iff_ne, ne_eq, Int.not_lt, Int.not_le] at hq; omega) | simp only [Act.put, List.setIfInBounds_toArray, List.set_cons_succ, List.set_cons_zero]))))
        all_goals (refine Mix.lex_nil ?_)
        cases hB : fileB f.1 f.2 f'.1 f'.2
        · go_wp2
          go_ret
          exact ⟨ret_bool (decide_eq_false (ne_at hx hx' (fileB_false hB))).symm, ξ.h.drew⟩
        · go_wp2
          go_roundw
          case rel => exact ⟨k + 1, by omega, by go_num, take_grow HT.out hx hx' (fileB_true hB), ⟨_, ξ.h.drew⟩, rfl⟩
          case measure => simp [intOf]; omega
      · go_wp2
        go_ret
        exact ⟨ret_bool (decide_eq_true (eq_of_take HT.out h1.1 h2.1 (by omega))).symm, ξ.h⟩
  · go_enter Tryz.func26, Tryz.ntmps26
    go_wp2
    · go_ret
      exact ⟨ret_bool (decide_eq_false (fun e => hnm (by rw [← h1.1, ← h2.1, e]))).symm, Only.refl _ _⟩
def lightF1 (f : File) : Bool := decide (f.1.length ≤ 20) && decide (f.2.length ≤ 60)
def lightF (l : List File) : Bool := decide (l.length ≤ 24) && l.all lightF1 && riseB fk l
theorem all_take_succ' {α : Type} {p : α → Bool} {l : List α} {k : Nat} {x : α} (h : (l.take k).all p = true) (hx : l[k]? = some x) (hp : p x = true) : (l.take (k + 1)).all p = true := by
  rw [List.take_add_one, hx]
  simp only [Option.toList, List.all_append, h, List.all_cons, hp, List.all_nil, Bool.and_self]
theorem all_false_at' {α : Type} {p : α → Bool} {l : List α} {k : Nat} {x : α} (hx : l[k]? = some x) (hp : p x = false) : l.all p = false := by
  rw [List.all_eq_false]
  exact ⟨x, List.mem_of_getElem? hx, by rw [hp]; exact Bool.false_ne_true⟩
set_option maxRecDepth 100000 in
set_option maxHeartbeats 1000000 in
theorem LightFiles_c {w : World} {A : Option Addr} {n c : Nat} {xs : List File} (h : SlR fileF w A n xs) (hn0 : n ≤ maxLen) :
    Calls Tryz.prog 9 #[.slice A n c] w fun e w' => e = .returned (.bool (lightF xs)) ∧ Ext w w' := by
  unfold maxLen at hn0
  by_cases hn : n ≤ 24
  · have HN : Hid (decide (xs.length ≤ 24) = true) := by rw [Hid, h.1]; simpa using hn
    go_enter Tryz.func9, Tryz.ntmps9
    go_wp2_with (first | ((first | refine Mix.wpList_guarded rfl ?_ | refine Mix.wp_still (by kernel_rfl) (by kernel_rfl) ?_); (repeat' (first | (refine Mix.lex_quiet0 rfl rfl rfl ?_; intro K hK; go_big_quiet_op; go_big_quiet_on) | (refine Mix.lex_quietG rfl rfl rfl (by with_reducible rfl) rfl rfl ?_; intro K hK; go_big_quiet_op; go_big_quiet_on) | ((first | refine Mix.lex_skipT rfl rfl rfl (by with_reducible rfl) ?_ | refine Mix.lex_skipF rfl rfl rfl (by with_reducible rfl) ?_ | refine Mix.lex_skipU rfl rfl rfl (by with_reducible rfl) ?_); simp only [Act.put, List.setIfInBounds_toArray, List.set_cons_succ, List.set_cons_zero]) | (refine Mix.lex_part rfl rfl rfl rfl (fun hq => ?_) (fun hq => ?_) <;> (fail_if_success (guard_hyp hq :ₛ true = true)) <;> (fail_if_success (guard_hyp hq :ₛ false = false)) <;> first | (exfalso; cases hq; done) | (exfalso; simp only [decide_eq_true_eq, decide_eq_false_iff_not, beq_iff_eq, beq_eq_false_iff_ne, ne_eq, Int.not_lt, Int.not_le] at hq; omega) | simp only [Act.put, List.setIfInBounds_toArray, List.set_cons_succ, List.set_cons_zero]))); all_goals (refine Mix.lex_nil ?_)))
    go_loopw [3] (fun i wr => ∃ k : Nat, k ≤ n ∧ i = .int .i64 k ∧ (xs.take k).all lightF1 = true ∧ (∀ i x y, i + 1 < k → xs[i]? = some x → xs[i + 1]? = some y → fk x < fk y) ∧ ∃ ξ : X w No, wr = ξ.v) (fun i _ => n - (intOf i).toNat)
    case atStart => exact ⟨0, Nat.zero_le _, rfl, rfl, fun i x y hi => by omega, X.here _ _, rfl⟩
    case round =>
      obtain ⟨k, hk, rfl, hT, hR, ξ, rfl⟩ := hrel
      have HT := Lib.hid hT
      have HR := Lib.hid hR
      clear hT hR
      by_cases hlt : k < n
      · obtain ⟨b, o, x, rfl, hx, c0, c1⟩ := files_get h hlt
        have HX := Lib.hid hx
        clear hx
        by_cases h1 : x.1.length ≤ 20
        · by_cases h2 : x.2.length ≤ 60
          · have hp : Hid (lightF1 x = true) := by unfold Hid lightF1; rw [decide_eq_true h1, decide_eq_true h2]; rfl
            have g1 : decide ((20 : Int) < (x.1.length : Int)) = false := by rw [decide_eq_false_iff_not]; omega
            have g2 : decide ((60 : Int) < (x.2.length : Int)) = false := by rw [decide_eq_false_iff_not]; omega
            by_cases h0 : k = 0
            · have hz : decide (0 < k) = false := by rw [decide_eq_false_iff_not]; omega
              have H0 := Lib.hid h0
              clear h0
              go_wp2_with (first | ((first | refine Mix.wpList_guarded rfl ?_ | refine Mix.wp_still (by kernel_rfl) (by kernel_rfl) ?_); (repeat' (first | (refine Mix.lex_quiet0 rfl rfl rfl ?_; intro K hK; go_big_quiet_op; go_big_quiet_on) | (refine Mix.lex_quietG rfl rfl rfl (by with_reducible rfl) rfl rfl ?_; intro K hK; go_big_quiet_op; go_big_quiet_on) | ((first | refine Mix.lex_skipT rfl rfl rfl (by with_reducible rfl) ?_ | refine Mix.lex_skipF rfl rfl rfl (by with_reducible rfl) ?_ | refine Mix.lex_skipU rfl rfl rfl (by with_reducible rfl) ?_); simp only [Act.put, List.setIfInBounds_toArray, List.set_cons_succ, List.set_cons_zero]) | (refine Mix.lex_part rfl rfl rfl rfl (fun hq => ?_) (fun hq => ?_) <;> (fail_if_success (guard_hyp hq :ₛ true = true)) <;> (fail_if_success (guard_hyp hq :ₛ false = false)) <;> first | (exfalso; cases hq; done) | (exfalso; simp only [decide_eq_true_eq, decide_eq_false_iff_not, beq_iff_eq, beq_eq_false_iff_ne, ne_eq, Int.not_lt, Int.not_le] at hq; omega) | simp only [Act.put, List.setIfInBounds_toArray, List.set_cons_succ, List.set_cons_zero]))); all_goals (refine Mix.lex_nil ?_)))
              go_roundw
              case rel => exact ⟨k + 1, by omega, by go_num, all_take_succ' HT.out HX.out hp.out, fun i x y hi => (by have := H0.out; omega), ⟨_, ξ.h.drew⟩, rfl⟩
              case measure => simp [intOf]; omega
            · obtain ⟨b', o', y, hA, hy, e0, _⟩ := files_get h (show k - 1 < n by omega)
              injection hA with hA
              injection hA with hA1 hA2
              subst hA1; subst hA2
              obtain ⟨m, rfl⟩ : ∃ m, k = m + 1 := ⟨k - 1, by omega⟩
              have hz : decide (0 < m + 1) = true := by rw [decide_eq_true_iff]; omega
              rw [Nat.add_sub_cancel] at e0 hy
              have HY := Lib.hid hy
              clear hy h0
              cases hq : leB x.1 y.1 with
              | true =>
                have HB : Hid (riseB fk xs = false) := by
                  cases hb : riseB fk xs with
                  | false => rfl
                  | true => exact absurd (riseB_iff.1 hb m y x HY.out HX.out) (sle_iff.1 (leB_true hq))
                go_wp2_with (first | ((first | refine Mix.wpList_guarded rfl ?_ | refine Mix.wp_still (by kernel_rfl) (by kernel_rfl) ?_); (repeat' (first | (refine Mix.lex_quiet0 rfl rfl rfl ?_; intro K hK; go_big_quiet_op; go_big_quiet_on) | (refine Mix.lex_quietG rfl rfl rfl (by with_reducible rfl) rfl rfl ?_; intro K hK; go_big_quiet_op; go_big_quiet_on) | ((first | refine Mix.lex_skipT rfl rfl rfl (by with_reducible rfl) ?_ | refine Mix.lex_skipF rfl rfl rfl (by with_reducible rfl) ?_ | refine Mix.lex_skipU rfl rfl rfl (by with_reducible rfl) ?_); simp only [Act.put, List.setIfInBounds_toArray, List.set_cons_succ, List.set_cons_zero]) | (refine Mix.lex_part rfl rfl rfl rfl (fun hq => ?_) (fun hq => ?_) <;> (fail_if_success (guard_hyp hq :ₛ true = true)) <;> (fail_if_success (guard_hyp hq :ₛ false = false)) <;> first | (exfalso; cases hq; done) | (exfalso; simp only [decide_eq_true_eq, decide_eq_false_iff_not, beq_iff_eq, beq_eq_false_iff_ne, ne_eq, Int.not_lt, Int.not_le] at hq; omega) | simp only [Act.put, List.setIfInBounds_toArray, List.set_cons_succ, List.set_cons_zero]))); all_goals (refine Mix.lex_nil ?_)))
                go_ret
                exact ⟨ret_bool (by unfold lightF; rw [HB.out, Bool.and_false]), ξ.h.drew⟩
              | false =>
                have hyx : Hid (fk y < fk x) := leB_false hq
                go_wp2_with (first | ((first | refine Mix.wpList_guarded rfl ?_ | refine Mix.wp_still (by kernel_rfl) (by kernel_rfl) ?_); (repeat' (first | (refine Mix.lex_quiet0 rfl rfl rfl ?_; intro K hK; go_big_quiet_op; go_big_quiet_on) | (refine Mix.lex_quietG rfl rfl rfl (by with_reducible rfl) rfl rfl ?_; intro K hK; go_big_quiet_op; go_big_quiet_on) | ((first | refine Mix.lex_skipT rfl rfl rfl (by with_reducible rfl) ?_ | refine Mix.lex_skipF rfl rfl rfl (by with_reducible rfl) ?_ | refine Mix.lex_skipU rfl rfl rfl (by with_reducible rfl) ?_); simp only [Act.put, List.setIfInBounds_toArray, List.set_cons_succ, List.set_cons_zero]) | (refine Mix.lex_part rfl rfl rfl rfl (fun hq => ?_) (fun hq => ?_) <;> (fail_if_success (guard_hyp hq :ₛ true = true)) <;> (fail_if_success (guard_hyp hq :ₛ false = false)) <;> first | (exfalso; cases hq; done) | (exfalso; simp only [decide_eq_true_eq, decide_eq_false_iff_not, beq_iff_eq, beq_eq_false_iff_ne, ne_eq, Int.not_lt, Int.not_le] at hq; omega) | simp only [Act.put, List.setIfInBounds_toArray, List.set_cons_succ, List.set_cons_zero]))); all_goals (refine Mix.lex_nil ?_)))
                go_roundw
                case rel =>
                  refine ⟨m + 2, by omega, by go_num, all_take_succ' HT.out HX.out hp.out, fun i x' y' hi hx' hy' => ?_, ⟨_, ξ.h.drew⟩, rfl⟩
                  by_cases e : i = m
                  · subst e
                    rw [HY.out] at hx'
                    rw [HX.out] at hy'
                    injection hx' with hx'
                    injection hy' with hy'
                    rw [← hx', ← hy']
                    exact hyx.out
                  · exact HR.out i x' y' (by omega) hx' hy'
                case measure => simp [intOf]; omega
          · have HB : Hid (xs.all lightF1 = false) := all_false_at' HX.out (by unfold lightF1; rw [decide_eq_false h2, Bool.and_false])
            go_wp2_with (first | ((first | refine Mix.wpList_guarded rfl ?_ | refine Mix.wp_still (by kernel_rfl) (by kernel_rfl) ?_); (repeat' (first | (refine Mix.lex_quiet0 rfl rfl rfl ?_; intro K hK; go_big_quiet_op; go_big_quiet_on) | (refine Mix.lex_quietG rfl rfl rfl (by with_reducible rfl) rfl rfl ?_; intro K hK; go_big_quiet_op; go_big_quiet_on) | ((first | refine Mix.lex_skipT rfl rfl rfl (by with_reducible rfl) ?_ | refine Mix.lex_skipF rfl rfl rfl (by with_reducible rfl) ?_ | refine Mix.lex_skipU rfl rfl rfl (by with_reducible rfl) ?_); simp only [Act.put, List.setIfInBounds_toArray, List.set_cons_succ, List.set_cons_zero]) | (refine Mix.lex_part rfl rfl rfl rfl (fun hq => ?_) (fun hq => ?_) <;> (fail_if_success (guard_hyp hq :ₛ true = true)) <;> (fail_if_success (guard_hyp hq :ₛ false = false)) <;> first | (exfalso; cases hq; done) | (exfalso; simp only [decide_eq_true_eq, decide_eq_false_iff_not, beq_iff_eq, beq_eq_false_iff_ne, ne_eq, Int.not_lt, Int.not_le] at hq; omega) | simp only [Act.put, List.setIfInBounds_toArray, List.set_cons_succ, List.set_cons_zero]))); all_goals (refine Mix.lex_nil ?_)))
            go_ret
            exact ⟨ret_bool (by unfold lightF; rw [HB.out, Bool.and_false, Bool.false_and]), ξ.h.drew⟩
        · have HB : Hid (xs.all lightF1 = false) := all_false_at' HX.out (by unfold lightF1; rw [decide_eq_false h1, Bool.false_and])
          go_wp2_with (first | ((first | refine Mix.wpList_guarded rfl ?_ | refine Mix.wp_still (by kernel_rfl) (by kernel_rfl) ?_); (repeat' (first | (refine Mix.lex_quiet0 rfl rfl rfl ?_; intro K hK; go_big_quiet_op; go_big_quiet_on) | (refine Mix.lex_quietG rfl rfl rfl (by with_reducible rfl) rfl rfl ?_; intro K hK; go_big_quiet_op; go_big_quiet_on) | ((first | refine Mix.lex_skipT rfl rfl rfl (by with_reducible rfl) ?_ | refine Mix.lex_skipF rfl rfl rfl (by with_reducible rfl) ?_ | refine Mix.lex_skipU rfl rfl rfl (by with_reducible rfl) ?_); simp only [Act.put, List.setIfInBounds_toArray, List.set_cons_succ, List.set_cons_zero]) | (refine Mix.lex_part rfl rfl rfl rfl (fun hq => ?_) (fun hq => ?_) <;> (fail_if_success (guard_hyp hq :ₛ true = true)) <;> (fail_if_success (guard_hyp hq :ₛ false = false)) <;> first | (exfalso; cases hq; done) | (exfalso; simp only [decide_eq_true_eq, decide_eq_false_iff_not, beq_iff_eq, beq_eq_false_iff_ne, ne_eq, Int.not_lt, Int.not_le] at hq; omega) | simp only [Act.put, List.setIfInBounds_toArray, List.set_cons_succ, List.set_cons_zero]))); all_goals (refine Mix.lex_nil ?_)))
          go_ret
          exact ⟨ret_bool (by unfold lightF; rw [HB.out, Bool.and_false, Bool.false_and]), ξ.h.drew⟩
      · have HB : Hid (lightF xs = true) := by
          have hT := HT.out
          rw [List.take_of_length_le (by rw [h.1]; omega)] at hT
          unfold Hid lightF
          rw [HN.out, hT, riseB_iff.2 fun i x y hx hy => HR.out i x y (by have := (List.getElem?_eq_some_iff.1 hy).1; rw [h.1] at this; omega) hx hy]
          rfl
        go_wp2_with (first | ((first | refine Mix.wpList_guarded rfl ?_ | refine Mix.wp_still (by kernel_rfl) (by kernel_rfl) ?_); (repeat' (first | (refine Mix.lex_quiet0 rfl rfl rfl ?_; intro K hK; go_big_quiet_op; go_big_quiet_on) | (refine Mix.lex_quietG rfl rfl rfl (by with_reducible rfl) rfl rfl ?_; intro K hK; go_big_quiet_op; go_big_quiet_on) | ((first | refine Mix.lex_skipT rfl rfl rfl (by with_reducible rfl) ?_ | refine Mix.lex_skipF rfl rfl rfl (by with_reducible rfl) ?_ | refine Mix.lex_skipU rfl rfl rfl (by with_reducible rfl) ?_); simp only [Act.put, List.setIfInBounds_toArray, List.set_cons_succ, List.set_cons_zero]) | (refine Mix.lex_part rfl rfl rfl rfl (fun hq => ?_) (fun hq => ?_) <;> (fail_if_success (guard_hyp hq :ₛ true = true)) <;> (fail_if_success (guard_hyp hq :ₛ false = false)) <;> first | (exfalso; cases hq; done) | (exfalso; simp only [decide_eq_true_eq, decide_eq_false_iff_not, beq_iff_eq, beq_eq_false_iff_ne, ne_eq, Int.not_lt, Int.not_le] at hq; omega) | simp only [Act.put, List.setIfInBounds_toArray, List.set_cons_succ, List.set_cons_zero]))); all_goals (refine Mix.lex_nil ?_)))
        go_ret
        exact ⟨ret_bool HB.out.symm, ξ.h⟩
  · have HN : Hid (lightF xs = false) := by
      have : decide (xs.length ≤ 24) = false := by rw [h.1]; simpa using hn
      rw [Hid, lightF, this]; rfl
    go_enter Tryz.func9, Tryz.ntmps9
    go_wp2_with (first | ((first | refine Mix.wpList_guarded rfl ?_ | refine Mix.wp_still (by kernel_rfl) (by kernel_rfl) ?_); (repeat' (first | (refine Mix.lex_quiet0 rfl rfl rfl ?_; intro K hK; go_big_quiet_op; go_big_quiet_on) | (refine Mix.lex_quietG rfl rfl rfl (by with_reducible rfl) rfl rfl ?_; intro K hK; go_big_quiet_op; go_big_quiet_on) | ((first | refine Mix.lex_skipT rfl rfl rfl (by with_reducible rfl) ?_ | refine Mix.lex_skipF rfl rfl rfl (by with_reducible rfl) ?_ | refine Mix.lex_skipU rfl rfl rfl (by with_reducible rfl) ?_); simp only [Act.put, List.setIfInBounds_toArray, List.set_cons_succ, List.set_cons_zero]) | (refine Mix.lex_part rfl rfl rfl rfl (fun hq => ?_) (fun hq => ?_) <;> (fail_if_success (guard_hyp hq :ₛ true = true)) <;> (fail_if_success (guard_hyp hq :ₛ false = false)) <;> first | (exfalso; cases hq; done) | (exfalso; simp only [decide_eq_true_eq, decide_eq_false_iff_not, beq_iff_eq, beq_eq_false_iff_ne, ne_eq, Int.not_lt, Int.not_le] at hq; omega) | simp only [Act.put, List.setIfInBounds_toArray, List.set_cons_succ, List.set_cons_zero]))); all_goals (refine Mix.lex_nil ?_)))
    go_ret
    exact ⟨ret_bool HN.out.symm, Only.refl _ _⟩
theorem lightF_facts {xs : List File} (h : lightF xs = true) : xs.length ≤ 24 ∧ (∀ x ∈ xs, x.1.length ≤ 20 ∧ x.2.length ≤ 60) ∧ Rise fk xs := by
  simp only [lightF, Bool.and_eq_true, decide_eq_true_eq, List.all_eq_true, lightF1] at h
  exact ⟨h.1.1, fun x hx => h.1.2 x hx, rise_of h.2⟩
theorem str_enc1 : ∀ (xs : List Str), ∀ u ∈ xs.flatMap strF.enc, u.oneCell' = true := by
  intro xs u hu
  obtain ⟨x, _, hx⟩ := List.mem_flatMap.1 hu
  rcases List.mem_cons.1 hx with rfl | hx
  · rfl
  · cases hx
def inS (xs : List Str) (k : Str) : Bool := decide (k ∈ xs)
theorem inS_none {xs : List Str} {k : Str} (h : ∀ y ∈ xs, (y == k) = false) : inS xs k = false := by
  unfold inS
  refine decide_eq_false fun hk => ?_
  have := h k hk
  simp at this
theorem inS_at {xs : List Str} {k x : Str} {j : Nat} (hx : xs[j]? = some x) (h : (x == k) = true) : inS xs k = true := by
  unfold inS
  have : x = k := by simpa using h
  exact decide_eq_true (this ▸ List.mem_of_getElem? hx)
theorem none_snoc {α : Type} {p : α → Bool} {xs : List α} {j : Nat} {x : α} (h : ∀ y ∈ xs.take j, p y = false) (hx : xs[j]? = some x) (hp : p x = false) : ∀ y ∈ xs.take (j + 1), p y = false := fun y hy => by
  rw [List.take_add_one, hx] at hy
  rcases List.mem_append.1 hy with hy | hy
  · exact h y hy
  · simp at hy; exact hy ▸ hp
theorem In_c {w : World} {A : Option Addr} {n c : Nat} {xs : List Str} (h : SlR strF w A n xs) (hn : n ≤ 1000000) (k : Str) :
    Calls Tryz.prog 20 #[.slice A n c, S k] w fun e w' => e = .returned (.bool (inS xs k)) ∧ Ext w w' := by
  go_enter Tryz.func20, Tryz.ntmps20
  go_wp2_with fail
  go_loopw [5] (fun i wr => ∃ j : Nat, j ≤ n ∧ i = .int .i64 j ∧ (∀ y ∈ xs.take j, (y == k) = false) ∧ ∃ ξ : X w No, wr = ξ.v) (fun i _ => n - (intOf i).toNat)
  case atStart => exact ⟨0, Nat.zero_le _, rfl, by simp, X.here _ _, rfl⟩
  case round =>
    obtain ⟨j, hj, rfl, hT, ξ, rfl⟩ := hrel
    have HT := Lib.hid hT
    clear hT
    by_cases hlt : j < n
    · obtain ⟨b, o, x, rfl, hx, c0⟩ := strs_get h hlt
      have HX := Lib.hid hx
      clear hx
      obtain ⟨p, hp⟩ : ∃ p, (x == k) = p := ⟨_, rfl⟩
      cases p with
      | true =>
        have HP := Lib.hid hp
        go_wp2_with fail
        go_ret
        exact ⟨by rw [inS_at HX.out HP.out]; rfl, ξ.h⟩
      | false =>
        have HP := Lib.hid hp
        go_wp2_with fail
        go_roundw
        case rel => exact ⟨j + 1, by omega, by go_num, none_snoc HT.out HX.out HP.out, ξ, rfl⟩
        case measure => simp [intOf]; omega
    · go_wp2_with fail
      go_ret
      exact ⟨by rw [inS_none (fun y hy => HT.out y (by rw [List.take_of_length_le (by rw [h.1]; omega)]; exact hy))]; rfl, ξ.h⟩
theorem containsS_eq (xs : List Str) (k : Str) : Lib.containsS (xs.map fun s => (⟨s.toArray⟩ : ByteArray)) ⟨k.toArray⟩ = inS xs k := by
  unfold inS
  rw [Bool.eq_iff_iff, Lib.containsS_iff]
  simp
theorem Contains_c {w : World} {A : Option Addr} {n c : Nat} {xs : List Str} (h : SlR strF w A n xs) (hn : n ≤ 1000000) (k : Str) :
    Calls Tryz.prog 42 #[.slice A n c, S k] w fun e w' => e = .returned (.bool (inS xs k)) ∧ Ext w w' := by
  by_cases h0 : n = 0
  · subst h0
    refine (Tryz.slices_Contains_string_empty A c ⟨k.toArray⟩ w).mono ?_
    rintro e w' ⟨rfl, rfl⟩
    exact ⟨by rw [h.nil_]; rfl, Only.refl _ _⟩
  · obtain ⟨b, o, x, rfl, hb, hx, hc⟩ := h.get (k := 0) (by omega)
    refine (Tryz.slices_Contains_string b o n c (xs.map fun s => (⟨s.toArray⟩ : ByteArray)) ⟨k.toArray⟩ w (by rw [List.length_map, h.1]; exact Nat.le_refl _) (by omega) (fun j hj => ?_)).mono ?_
    · rw [List.length_map, h.1] at hj
      obtain ⟨b', o', y, he, hy, hcell⟩ := strs_get h hj
      injection he with he
      injection he with he1 he2
      subst he1; subst he2
      have := hcell (X.here w No)
      rw [List.getD_eq_getElem?_getD, List.getElem?_map, hy]
      exact this
    · rintro e w' ⟨rfl, rfl⟩
      refine ⟨?_, Only.refl _ _⟩
      rw [List.take_of_length_le (by rw [List.length_map, h.1]; exact Nat.le_refl _), containsS_eq]
theorem CloneStrs_f {w : World} {A : Option Addr} {n c : Nat} {xs : List Str} (h : SlR strF w A n xs) (hA : A = none → n = 0) (hn : n ≤ 1000000) :
    Calls Tryz.prog 101 #[.slice A n c] w fun e w' => ∃ A' c', e = .returned (.slice A' xs.length c') ∧ Fresh strF 9 w w' A' c' xs := by
  have hl := h.1
  refine (CloneStrs_c (h.rd (by decide)) (str_enc1 xs) hA hn).mono ?_
  rintro e w' ⟨A', c', rfl, h1, h2, h3⟩
  subst hl
  exact ⟨A', c', rfl, h1, h2, h3⟩
structure Ov where
  base : List File
  own : List File
  needs : List Str
  targets : List Str
structure OvR where
  bA : Option Addr
  bc : Nat
  oA : Option Addr
  oc : Nat
  nA : Option Addr
  nc : Nat
  tA : Option Addr
  tc : Nat
structure OvAt (t : TypeId) (w : World) (g : Nat) (r : OvR) (o : Ov) : Prop where
  cs : Cs w g t #[.slice r.bA o.base.length r.bc, .slice r.oA o.own.length r.oc, .slice r.nA o.needs.length r.nc, .slice r.tA o.targets.length r.tc]
  base : SlR fileF w r.bA o.base.length o.base
  own : SlR fileF w r.oA o.own.length o.own
  needs : SlR strF w r.nA o.needs.length o.needs
  targets : SlR strF w r.tA o.targets.length o.targets
  nw : ∀ b o', r.oA = some ⟨b, o', none⟩ → 0 < o.own.length → g < b
theorem SlR.far {α : Type} {T : Flat α} (hT : ∀ x : α, ∃ s l, T.enc x = S s :: l) {w : World} {A : Option Addr} {n g : Nat} {t : TypeId} {xs : List α} (h : SlR T w A n xs) {a1 a2 a3 a4 : Option Addr} {n1 n2 n3 n4 c1 c2 c3 c4 : Nat} (hc : Cs w g t #[.slice a1 n1 c1, .slice a2 n2 c2, .slice a3 n3 c3, .slice a4 n4 c4]) :
    ∀ b o, A = some ⟨b, o, none⟩ → 0 < n → b ≠ g := by
  rintro b o rfl hn rfl
  obtain ⟨b', o', x, he, _, hx, hcell⟩ := h.get hn
  injection he with he
  injection he with he1 he2
  subst he1; subst he2
  obtain ⟨s, l, hs⟩ := hT x
  have := hcell 0 (S s) (by rw [hs]; rfl)
  rw [hc.cell] at this
  match o, this with
  | 0, this => simp at this
  | 1, this => simp at this
  | 2, this => simp at this
  | 3, this => simp at this
  | o + 4, this => simp at this
section
variable {t t' : TypeId} {w v : World} {g g' : Nat} {r : OvR} {o : Ov}
theorem OvAt.ext (h : OvAt t w g r o) (hx : Ext w v) : OvAt t v g r o := ⟨h.cs.keep hx id, h.base.ext hx, h.own.ext hx, h.needs.ext hx, h.targets.ext hx, h.nw⟩
theorem OvAt.store (h : OvAt t w g r o) {A : Option Addr} {c : Nat} {l : List File} (hl : SlR fileF w A l.length l) (hn : ∀ b o', A = some ⟨b, o', none⟩ → 0 < l.length → g < b) : OvAt t (w.setCell ⟨g, 1, none⟩ (.slice A l.length c)) g { r with oA := A, oc := c } { o with own := l } := by
  have hx : Only (fun b => b = g) w (w.setCell ⟨g, 1, none⟩ (.slice A l.length c)) := (Only.refl _ _).at_ _ _
  have hS := h.cs.set_ 1 (.slice A l.length c)
  simp only [List.setIfInBounds_toArray, List.set_cons_succ, List.set_cons_zero] at hS
  exact ⟨hS, h.base.keep_far hx fun b o e hp => h.base.far fileF_head h.cs b o e hp, hl.keep_far hx fun b o e hp => hl.far fileF_head h.cs b o e hp,
    h.needs.keep_far hx fun b o e hp => h.needs.far strF_head h.cs b o e hp, h.targets.keep_far hx fun b o e hp => h.targets.far strF_head h.cs b o e hp, hn⟩
end
def Ov.rd (o : Ov) (k : Str) : Str := if getB k o.own then getT k o.own else if inS o.needs k then (if getB k o.base then getT k o.base else []) else []
def Ov.rdF (o : Ov) (k : Str) : Int := if getB k o.own then 0 else if inS o.needs k then (if getB k o.base then 0 else 5) else 6
def Ov.wrF (o : Ov) (k s : Str) : Int := if inS o.targets k then (if 20 < s.length then 2 else 0) else 6
def Ov.wr (o : Ov) (k s : Str) : Ov := if o.wrF k s = 0 then { o with own := putL fk (k, s) o.own } else o
theorem Ov.rdF_nonneg (o : Ov) (k : Str) : 0 ≤ o.rdF k := by unfold Ov.rdF; split <;> (try split) <;> (try split) <;> omega
theorem Ov.wrF_nonneg (o : Ov) (k s : Str) : 0 ≤ o.wrF k s := by unfold Ov.wrF; split <;> (try split) <;> omega
structure Ov.Small (o : Ov) : Prop where
  base : o.base.length ≤ 10000
  own : o.own.length ≤ 10000
  needs : o.needs.length ≤ 10000
  targets : o.targets.length ≤ 10000
  rise : Rise fk o.own
  riseB : Rise fk o.base
theorem Ov.wr_base (o : Ov) (n s : Str) : (o.wr n s).base = o.base := by unfold Ov.wr; split <;> rfl
theorem Ov.wr_needs (o : Ov) (n s : Str) : (o.wr n s).needs = o.needs := by unfold Ov.wr; split <;> rfl
theorem Ov.wr_targets (o : Ov) (n s : Str) : (o.wr n s).targets = o.targets := by unfold Ov.wr; split <;> rfl
theorem Ov.wr_rise {o : Ov} (h : Rise fk o.own) (n s : Str) : Rise fk (o.wr n s).own := by
  unfold Ov.wr; split
  · exact rise_putL h _
  · exact h
theorem Ov.wr_len (o : Ov) (n s : Str) : (o.wr n s).own.length ≤ o.own.length + 1 := by
  unfold Ov.wr; split
  · exact length_putL _ _
  · omega
def cutB (c : UInt8) : Str → Str × Str × Bool
  | [] => ([], [], false)
  | x :: s => if x = c then ([], s, true) else (x :: (cutB c s).1, (cutB c s).2.1, (cutB c s).2.2)
theorem index_byte_cons (c x : UInt8) (s : Str) : Lib.index (x :: s) [c] = if x = c then 0 else if Lib.index s [c] = -1 then -1 else Lib.index s [c] + 1 := by
  have e : List.isPrefixOf [c] (x :: s) = decide (x = c) := by
    simp only [List.isPrefixOf, Bool.and_true]
    by_cases h : x = c
    · simp [h]
    · simp [h, Ne.symm h]
  rw [Lib.index, e]
  simp
theorem cut_byte (c : UInt8) : ∀ s : Str, Lib.cut s [c] = cutB c s
  | [] => by simp [Lib.cut, Lib.index, cutB]
  | x :: s => by
    have ih := cut_byte c s
    have hg := Lib.index_ge s [c]
    unfold Lib.cut at ih ⊢
    rw [index_byte_cons]
    unfold cutB
    by_cases h : x = c
    · simp [h]
    · rw [if_neg h, if_neg h, ← ih]
      by_cases h1 : Lib.index s [c] = -1
      · rw [h1]; simp
      · rw [if_neg h1]
        obtain ⟨i, hi⟩ : ∃ i : Nat, Lib.index s [c] = i := ⟨(Lib.index s [c]).toNat, by omega⟩
        rw [hi]
        have e1 : (0 : Int) ≤ (i : Int) + 1 := by omega
        have e2 : (0 : Int) ≤ (i : Int) := by omega
        have e3 : ((i : Int) + 1).toNat = i + 1 := by omega
        simp [e1, e2, e3]
def splB (c : UInt8) : Str → List Str
  | [] => [[]]
  | x :: s => if x = c then [] :: splB c s else match splB c s with
    | h :: t => (x :: h) :: t
    | [] => [[x]]
theorem splB_ne (c : UInt8) : ∀ s : Str, splB c s ≠ []
  | [] => by simp [splB]
  | x :: s => by
    unfold splB
    split
    · simp
    · split <;> simp
theorem splB_cons (c x : UInt8) (s : Str) : splB c (x :: s) = if x = c then [] :: splB c s else match splB c s with
    | h :: t => (x :: h) :: t
    | [] => [[x]] := rfl
theorem cutB_cons (c x : UInt8) (s : Str) : cutB c (x :: s) = if x = c then ([], s, true) else (x :: (cutB c s).1, (cutB c s).2.1, (cutB c s).2.2) := rfl
theorem splB_cut (c : UInt8) : ∀ s : Str, splB c s = if (cutB c s).2.2 then (cutB c s).1 :: splB c (cutB c s).2.1 else [s]
  | [] => by simp [splB, cutB]
  | x :: s => by
    have ih := splB_cut c s
    rw [splB_cons, cutB_cons]
    by_cases h : x = c
    · simp [h]
    · rw [if_neg h, if_neg h, ih]
      cases (cutB c s).2.2 <;> simp
theorem cut_parts (c : UInt8) : ∀ s : Str, (cutB c s).2.2 = true → s = (cutB c s).1 ++ c :: (cutB c s).2.1
  | [], h => by simp [cutB] at h
  | x :: s, h => by
    unfold cutB at h ⊢
    by_cases hx : x = c
    · simp [hx]
    · rw [if_neg hx] at h ⊢
      rw [List.cons_append, ← cut_parts c s h]
theorem index_cut (c : UInt8) (s : Str) : Lib.index s [c] = if (cutB c s).2.2 then ((cutB c s).1.length : Int) else -1 := by
  have h := cut_byte c s
  have hg := Lib.index_ge s [c]
  unfold Lib.cut at h
  by_cases h0 : 0 ≤ Lib.index s [c]
  · rw [if_pos h0] at h
    rw [← h]
    have := Lib.index_room s [c] h0
    simp only [List.length_take, if_true, List.length_cons, List.length_nil] at this ⊢
    omega
  · rw [if_neg h0] at h
    rw [← h]
    simp; omega
theorem splitK_byte (c : UInt8) : ∀ (n : Nat) (s : Str), s.length ≤ n → Lib.splitK [c] 0 (Lib.count s [c]) s = splB c s ∧ Lib.count s [c] + 1 = (splB c s).length
  | n, s, hn => by
    have hi := index_cut c s
    rw [splB_cut]
    by_cases hb : (cutB c s).2.2 = true
    · rw [if_pos hb] at hi
      rw [if_pos hb]
      have hp := cut_parts c s hb
      have hl : ∀ a b : Str, s = a ++ c :: b → s.length = a.length + b.length + 1 ∧ s.drop (a.length + 1) = b ∧ s.take a.length = a := by
        rintro a b rfl
        refine ⟨by simp; omega, ?_, List.take_left⟩
        rw [← List.drop_drop, List.drop_left]; rfl
      obtain ⟨hlen, hd, ht⟩ := hl _ _ hp
      match n, hn with
      | 0, hn => omega
      | n + 1, hn =>
        have hc : Lib.count s [c] = Lib.count (cutB c s).2.1 [c] + 1 := by
          rw [Lib.count_hit (by simp) hi, List.length_singleton, hd, Nat.add_comm]
        have ih := splitK_byte c n (cutB c s).2.1 (by omega)
        rw [hc]
        refine ⟨?_, by rw [List.length_cons, ← ih.2]⟩
        have hm : ¬ (Lib.index s [c] == -1) = true := fun e => by have := beq_iff_eq.1 e; omega
        have e1 : (Lib.index s [c]).toNat = (cutB c s).1.length := by omega
        rw [Lib.splitK, if_neg hm, e1, Nat.add_zero, List.length_singleton, ht, hd, ih.1]
    · rw [if_neg hb] at hi
      rw [if_neg hb, Lib.count_miss hi]
      exact ⟨rfl, rfl⟩
theorem S_extract (l : Str) (i j : Nat) : (⟨l.toArray⟩ : ByteArray).extract i j = ⟨((l.take j).drop i).toArray⟩ := by
  apply ByteArray.ext
  rw [ByteArray.data_extract]
  simp
  rw [List.drop_take]
theorem eql_lit (l : Str) (k : List UInt8) : ((⟨l.toArray⟩ : ByteArray).toList == k) = (l == k) := by rw [toList_S]
attribute [go_sem] S_extract eql_lit List.take_succ_cons List.drop_succ_cons List.drop_zero List.take_zero List.take_length
end Go.Proofs.YtnhaekifcieeoaaGreatDoor
