/- row.Apply: the walk. -/
import Derived.Test.YtgdabmfdfgdlkaaRow6
import Derived.Test.YtgdabmfdfgdlkaaFiles2
namespace Go.Proofs.Ytgdabmfdfgdlkaa
open Go Go.RowKit
theorem length_delAt {α : Type} {i : Nat} {xs : List α} (h : i < xs.length) : (delAt i xs).length = xs.length - 1 := by
  simp only [delAt, List.length_append, List.length_take, List.length_drop]; omega
theorem length_insAt {α : Type} {i : Nat} {x : α} {xs : List α} (h : i ≤ xs.length) : (insAt i x xs).length = xs.length + 1 := by
  simp only [insAt, List.length_append, List.length_take, List.length_cons, List.length_drop]; omega
theorem DelCh_f {w v : World} {A : Option Addr} {c i : Nat} {L : List Ch} (F : Fresh chF 61 w v A c L) (hi : i < L.length) (hn : L.length ≤ 1000000) :
    Calls Try.prog 58 #[.slice A L.length c, .int .i64 i, .int .i64 ((i : Int) + 1)] v fun e u =>
      ∃ A' c', e = .returned (.slice A' (delAt i L).length c') ∧ Fresh chF 61 w u A' c' (delAt i L) := by
  obtain ⟨g, rest, rfl, hg, hX, hr, hnc, hm⟩ := own_block F.own (by omega) (by decide)
  refine (DelCh_c hg rfl hr hi hnc hm hn).mono ?_
  rintro e u ⟨rest', rfl, h1, h2, h3⟩
  have hgn := F.new g rfl
  refine ⟨some ⟨g, 0, none⟩, c, by rw [length_delAt hi], ?_, F.ext.trans h3 fun b hb e => by omega, fun g' hg' => ?_⟩
  · exact own_of_block h1 (Nat.zero_le _) (length_flatMap_enc _ _) h2 (by rw [length_delAt hi]; omega) hm
  · simp [Value.ownBlock] at hg'
    omega
theorem InsCh_f {w v : World} {A : Option Addr} {c i : Nat} {L : List Ch} (F : Fresh chF 61 w v A c L) (hi : i ≤ L.length) (hn : L.length ≤ 1000000) (x : Ch) {vb : Nat} (hv : Cs v vb 61 #[S x.1, S x.2.1, .bool x.2.2]) (hne : (Value.slice A L.length c).ownBlock ≠ some vb) :
    Calls Try.prog 59 #[.slice A L.length c, .int .i64 i, .slice (some ⟨vb, 0, none⟩) 1 1] v fun e u =>
      ∃ A' c', e = .returned (.slice A' (insAt i x L).length c') ∧ Fresh chF 61 w u A' c' (insAt i x L) := by
  refine (InsCh_c F.own hi x hv hne hn).mono ?_
  rintro e u ⟨A', c', rfl, h1, h2⟩
  have e2 := length_insAt (x := x) hi
  have hs := F.ext.size
  refine ⟨A', c', by rw [e2], by rw [e2]; exact h1, F.ext.trans h2.o fun b hb e => ?_, fun g' hg' => ?_⟩
  · have := F.new b e; omega
  · rw [e2] at hg'
    rcases h2.b g' hg' with h | h
    · exact F.new g' h
    · omega
theorem apply1_at {L : List Ch} (h : Rise ck L) (y : Ch) : apply1 L y = if y.2.2 then (if hasAt ck L y.1 then delAt (posOf ck L y.1) L else L) else (if hasAt ck L y.1 then L.set (posOf ck L y.1) y else insAt (posOf ck L y.1) y L) := by
  unfold apply1
  rw [dropL_at h, putL_at h]
  rfl
theorem hasAt_lt {L : List Ch} {k : Str} (h : hasAt ck L k = true) : posOf ck L k < L.length := by
  unfold hasAt at h
  rcases Nat.lt_or_ge (posOf ck L k) L.length with hl | hl
  · exact hl
  · rw [List.getElem?_eq_none hl] at h; cases h
set_option maxRecDepth 100000 in
set_option maxHeartbeats 2000000 in
theorem Apply_c {w : World} {A B : Option Addr} {n m c d : Nat} {xs ys : List Ch} (h1 : SlR chF w A n xs) (h2 : SlR chF w B m ys) (hn : n ≤ 10000) (hm : m ≤ 10000) (hr : Rise ck xs) :
    Calls Try.prog 41 #[.slice A n c, .slice B m d] w fun e w' => ∃ A' c', e = .returned (.slice A' (applyL xs ys).length c') ∧ Fresh chF 61 w w' A' c' (applyL xs ys) := by
  have HC := Lib.hid (CloneChs_f (c := c) h1 h1.none_len (by omega))
  have hl := h1.1
  have HR := Lib.hid hr
  clear h1 hr
  go_enter Try.func41, Try.ntmps41
  go_wp2_with (first | (refine Mix.wpList_guarded rfl ?_; (repeat' (first | (refine Mix.lex_quiet0 rfl rfl rfl ?_; intro K hK; go_big_quiet_op; go_big_quiet_on) | (refine Mix.lex_quietG rfl rfl rfl (by with_reducible rfl) rfl rfl ?_; intro K hK; go_big_quiet_op; go_big_quiet_on) | ((first | refine Mix.lex_skipT rfl rfl rfl (by with_reducible rfl) ?_ | refine Mix.lex_skipF rfl rfl rfl (by with_reducible rfl) ?_ | refine Mix.lex_skipU rfl rfl rfl (by with_reducible rfl) ?_); simp only [Act.put, List.setIfInBounds_toArray, List.set_cons_succ, List.set_cons_zero]) | (refine Mix.lex_part rfl rfl rfl rfl (fun hq => ?_) (fun hq => ?_) <;> (fail_if_success (guard_hyp hq :ₛ true = true)) <;> (fail_if_success (guard_hyp hq :ₛ false = false)) <;> first | (exfalso; cases hq; done) | (exfalso; simp only [decide_eq_true_eq, decide_eq_false_iff_not, beq_iff_eq, beq_eq_false_iff_ne, ne_eq, Int.not_lt, Int.not_le] at hq; omega) | simp only [Act.put, List.setIfInBounds_toArray, List.set_cons_succ, List.set_cons_zero]))); all_goals (refine Mix.lex_nil ?_)) | (refine Mix.wp_still (by kernel_rfl) (by kernel_rfl) ?_; (repeat' (first | (refine Mix.lex_quiet0 rfl rfl rfl ?_; intro K hK; go_big_quiet_op; go_big_quiet_on) | (refine Mix.lex_quietG rfl rfl rfl (by with_reducible rfl) rfl rfl ?_; intro K hK; go_big_quiet_op; go_big_quiet_on) | ((first | refine Mix.lex_skipT rfl rfl rfl (by with_reducible rfl) ?_ | refine Mix.lex_skipF rfl rfl rfl (by with_reducible rfl) ?_ | refine Mix.lex_skipU rfl rfl rfl (by with_reducible rfl) ?_); simp only [Act.put, List.setIfInBounds_toArray, List.set_cons_succ, List.set_cons_zero]) | (refine Mix.lex_part rfl rfl rfl rfl (fun hq => ?_) (fun hq => ?_) <;> (fail_if_success (guard_hyp hq :ₛ true = true)) <;> (fail_if_success (guard_hyp hq :ₛ false = false)) <;> first | (exfalso; cases hq; done) | (exfalso; simp only [decide_eq_true_eq, decide_eq_false_iff_not, beq_iff_eq, beq_eq_false_iff_ne, ne_eq, Int.not_lt, Int.not_le] at hq; omega) | simp only [Act.put, List.setIfInBounds_toArray, List.set_cons_succ, List.set_cons_zero]))); all_goals (refine Mix.lex_nil ?_)))
  refine (HC.out).mono ?_; rintro e uu ⟨A0, c0, rfl, hf⟩; obtain ⟨ξ0, hnew⟩ : ∃ ξ : X w No, ξ.v = uu := ⟨⟨uu, (X.here w No).h.then_ext hf.ext⟩, rfl⟩; subst hnew; have Hξ0 := Lib.hid hf.ext; have F0 := Lib.hid hf; clear hf
  clear HC
  go_wp2_with (first | (refine Mix.wpList_guarded rfl ?_; (repeat' (first | (refine Mix.lex_quiet0 rfl rfl rfl ?_; intro K hK; go_big_quiet_op; go_big_quiet_on) | (refine Mix.lex_quietG rfl rfl rfl (by with_reducible rfl) rfl rfl ?_; intro K hK; go_big_quiet_op; go_big_quiet_on) | ((first | refine Mix.lex_skipT rfl rfl rfl (by with_reducible rfl) ?_ | refine Mix.lex_skipF rfl rfl rfl (by with_reducible rfl) ?_ | refine Mix.lex_skipU rfl rfl rfl (by with_reducible rfl) ?_); simp only [Act.put, List.setIfInBounds_toArray, List.set_cons_succ, List.set_cons_zero]) | (refine Mix.lex_part rfl rfl rfl rfl (fun hq => ?_) (fun hq => ?_) <;> (fail_if_success (guard_hyp hq :ₛ true = true)) <;> (fail_if_success (guard_hyp hq :ₛ false = false)) <;> first | (exfalso; cases hq; done) | (exfalso; simp only [decide_eq_true_eq, decide_eq_false_iff_not, beq_iff_eq, beq_eq_false_iff_ne, ne_eq, Int.not_lt, Int.not_le] at hq; omega) | simp only [Act.put, List.setIfInBounds_toArray, List.set_cons_succ, List.set_cons_zero]))); all_goals (refine Mix.lex_nil ?_)) | (refine Mix.wp_still (by kernel_rfl) (by kernel_rfl) ?_; (repeat' (first | (refine Mix.lex_quiet0 rfl rfl rfl ?_; intro K hK; go_big_quiet_op; go_big_quiet_on) | (refine Mix.lex_quietG rfl rfl rfl (by with_reducible rfl) rfl rfl ?_; intro K hK; go_big_quiet_op; go_big_quiet_on) | ((first | refine Mix.lex_skipT rfl rfl rfl (by with_reducible rfl) ?_ | refine Mix.lex_skipF rfl rfl rfl (by with_reducible rfl) ?_ | refine Mix.lex_skipU rfl rfl rfl (by with_reducible rfl) ?_); simp only [Act.put, List.setIfInBounds_toArray, List.set_cons_succ, List.set_cons_zero]) | (refine Mix.lex_part rfl rfl rfl rfl (fun hq => ?_) (fun hq => ?_) <;> (fail_if_success (guard_hyp hq :ₛ true = true)) <;> (fail_if_success (guard_hyp hq :ₛ false = false)) <;> first | (exfalso; cases hq; done) | (exfalso; simp only [decide_eq_true_eq, decide_eq_false_iff_not, beq_iff_eq, beq_eq_false_iff_ne, ne_eq, Int.not_lt, Int.not_le] at hq; omega) | simp only [Act.put, List.setIfInBounds_toArray, List.set_cons_succ, List.set_cons_zero]))); all_goals (refine Mix.lex_nil ?_)))
  go_loopw [0, 13] (fun r i wr => ∃ j : Nat, j ≤ m ∧ i = .int .i64 j ∧ ∃ L A' c', L = applyL xs (ys.take j) ∧ r = .slice A' L.length c' ∧ L.length ≤ n + j ∧ Rise ck L ∧ Fresh chF 61 w wr A' c' L) (fun _ i _ => m - (intOf i).toNat)
  case atStart => exact ⟨0, Nat.zero_le _, rfl, xs, A0, c0, rfl, by rw [hl], by omega, HR.out, F0.out⟩
  case round =>
    clear F0 Hξ0 ξ0
    obtain ⟨j, hj, rfl, L, A1, c1, hL, rfl, hLn, hLr, hf⟩ := hrel
    have F1 := Lib.hid hf
    have HL := Lib.hid hL
    have HLr := Lib.hid hLr
    obtain ⟨ξ, rfl⟩ : ∃ ξ : X w No, wr = ξ.v := ⟨⟨wr, hf.ext⟩, rfl⟩
    clear hf hL hLr
    by_cases hlt : j < m
    · obtain ⟨b, o, y, rfl, hy, d0, d1, d2⟩ := chs_get h2 hlt
      have HS : Hid (applyL xs (ys.take (j + 1)) = apply1 L y) := by rw [Hid, applyL_snoc _ _ hy, HL.out]
      have HA := Lib.hid (apply1_at HLr.out y)
      have hLen := apply1_len L y
      have HRi := Lib.hid (apply1_rise HLr.out y)
      obtain ⟨L2, hL2⟩ : ∃ L2, L2 = apply1 L y := ⟨_, rfl⟩
      rw [← hL2] at HS HA HRi hLen
      have HP := Lib.hid (posOf_le (key := ck) L y.1)
      have HPl := Lib.hid (hasAt_lt (L := L) (k := y.1))
      clear hL2 hy
      have HB := Lib.hid (fun v (hF : Fresh chF 61 w v A1 c1 L) => BsCh_c (c := c1) (hF.row (by decide)) (by omega) y.1 HLr.out)
      generalize hasAt (fun x => x.1) L y.1 = is at HB HA HPl
      generalize posOf (fun x => x.1) L y.1 = p at HB HA HPl HP
      go_upto_region 5 with fail
      obtain ⟨v0, hv0⟩ : ∃ v0, v0 = ξ.v.alloc (.cells #[S y.1, S y.2.1, .bool y.2.2] 61) := ⟨_, rfl⟩
      obtain ⟨q, hq⟩ : ∃ q, q = ξ.v.heap.size := ⟨_, rfl⟩
      have hB : Cs v0 q 61 #[S y.1, S y.2.1, .bool y.2.2] := by rw [hv0, hq]; exact Cs.new _ _ _
      have F2 : Hid (Fresh chF 61 w v0 A1 c1 L) := F1.out.on (by rw [hv0]; exact (Only.refl No ξ.v).alloc _)
      have HQ : Hid ((Value.slice A1 L.length c1).ownBlock ≠ some q) := fun e => by
        have := (F1.out.own.lt _ e).2
        omega
      rw [← hv0, ← hq]
      clear hv0 hq F1 d0 d1 d2
      have q0 := hB.cell 0
      simp only [List.getElem?_toArray, List.getElem?_cons_succ, List.getElem?_cons_zero] at q0
      have HCs := Lib.hid hB
      obtain ⟨ζ0, rfl⟩ : ∃ ξ : X w No, v0 = ξ.v := ⟨⟨v0, F2.out.ext⟩, rfl⟩
      clear hB
      go_wp2_with (first | (refine Mix.wpList_guarded rfl ?_; (repeat' (first | (refine Mix.lex_quiet0 rfl rfl rfl ?_; intro K hK; go_big_quiet_op; go_big_quiet_on) | (refine Mix.lex_quietG rfl rfl rfl (by with_reducible rfl) rfl rfl ?_; intro K hK; go_big_quiet_op; go_big_quiet_on) | ((first | refine Mix.lex_skipT rfl rfl rfl (by with_reducible rfl) ?_ | refine Mix.lex_skipF rfl rfl rfl (by with_reducible rfl) ?_ | refine Mix.lex_skipU rfl rfl rfl (by with_reducible rfl) ?_); simp only [Act.put, List.setIfInBounds_toArray, List.set_cons_succ, List.set_cons_zero]) | (refine Mix.lex_part rfl rfl rfl rfl (fun hq => ?_) (fun hq => ?_) <;> (fail_if_success (guard_hyp hq :ₛ true = true)) <;> (fail_if_success (guard_hyp hq :ₛ false = false)) <;> first | (exfalso; cases hq; done) | (exfalso; simp only [decide_eq_true_eq, decide_eq_false_iff_not, beq_iff_eq, beq_eq_false_iff_ne, ne_eq, Int.not_lt, Int.not_le] at hq; omega) | simp only [Act.put, List.setIfInBounds_toArray, List.set_cons_succ, List.set_cons_zero]))); all_goals (refine Mix.lex_nil ?_)) | (refine Mix.wp_still (by kernel_rfl) (by kernel_rfl) ?_; (repeat' (first | (refine Mix.lex_quiet0 rfl rfl rfl ?_; intro K hK; go_big_quiet_op; go_big_quiet_on) | (refine Mix.lex_quietG rfl rfl rfl (by with_reducible rfl) rfl rfl ?_; intro K hK; go_big_quiet_op; go_big_quiet_on) | ((first | refine Mix.lex_skipT rfl rfl rfl (by with_reducible rfl) ?_ | refine Mix.lex_skipF rfl rfl rfl (by with_reducible rfl) ?_ | refine Mix.lex_skipU rfl rfl rfl (by with_reducible rfl) ?_); simp only [Act.put, List.setIfInBounds_toArray, List.set_cons_succ, List.set_cons_zero]) | (refine Mix.lex_part rfl rfl rfl rfl (fun hq => ?_) (fun hq => ?_) <;> (fail_if_success (guard_hyp hq :ₛ true = true)) <;> (fail_if_success (guard_hyp hq :ₛ false = false)) <;> first | (exfalso; cases hq; done) | (exfalso; simp only [decide_eq_true_eq, decide_eq_false_iff_not, beq_iff_eq, beq_eq_false_iff_ne, ne_eq, Int.not_lt, Int.not_le] at hq; omega) | simp only [Act.put, List.setIfInBounds_toArray, List.set_cons_succ, List.set_cons_zero]))); all_goals (refine Mix.lex_nil ?_)))
      refine (HB.out _ F2.out).mono ?_; rintro e uu ⟨rfl, hu⟩; obtain ⟨ζ1, hnew⟩ : ∃ ξ : X w No, ξ.v = uu := ⟨⟨uu, ζ0.h.then_ext hu⟩, rfl⟩; subst hnew; have Hζ1 := Lib.hid hu; clear hu
      have F3 := Lib.hid (F2.out.on Hζ1.out)
      have HC3 := Lib.hid (HCs.out.keep Hζ1.out id)
      clear HB F2 HCs q0 Hζ1 ζ0
      have q0 := HC3.out.cell 0
      have q1 := HC3.out.cell 1
      have q2 := HC3.out.cell 2
      simp only [List.getElem?_toArray, List.getElem?_cons_succ, List.getElem?_cons_zero] at q0 q1 q2
      have HG := Lib.hid (show ∃ gone, gone = y.2.2 from ⟨_, rfl⟩)
      obtain ⟨gone, hgone⟩ := HG.out
      have HGn : Hid (y.2.2 = gone) := hgone.symm
      rw [← hgone] at HA q2 HC3
      clear hgone HG
      cases is with
      | true =>
        have hp := HPl.out rfl
        cases gone with
        | true =>
          have HD := Lib.hid (DelCh_f F3.out hp (by omega))
          have hA : Hid (L2 = delAt p L) := HA.out
          clear HA HC3
          go_wp2_with (first | (refine Mix.wpList_guarded rfl ?_; (repeat' (first | (refine Mix.lex_quiet0 rfl rfl rfl ?_; intro K hK; go_big_quiet_op; go_big_quiet_on) | (refine Mix.lex_quietG rfl rfl rfl (by with_reducible rfl) rfl rfl ?_; intro K hK; go_big_quiet_op; go_big_quiet_on) | ((first | refine Mix.lex_skipT rfl rfl rfl (by with_reducible rfl) ?_ | refine Mix.lex_skipF rfl rfl rfl (by with_reducible rfl) ?_ | refine Mix.lex_skipU rfl rfl rfl (by with_reducible rfl) ?_); simp only [Act.put, List.setIfInBounds_toArray, List.set_cons_succ, List.set_cons_zero]) | (refine Mix.lex_part rfl rfl rfl rfl (fun hq => ?_) (fun hq => ?_) <;> (fail_if_success (guard_hyp hq :ₛ true = true)) <;> (fail_if_success (guard_hyp hq :ₛ false = false)) <;> first | (exfalso; cases hq; done) | (exfalso; simp only [decide_eq_true_eq, decide_eq_false_iff_not, beq_iff_eq, beq_eq_false_iff_ne, ne_eq, Int.not_lt, Int.not_le] at hq; omega) | simp only [Act.put, List.setIfInBounds_toArray, List.set_cons_succ, List.set_cons_zero]))); all_goals (refine Mix.lex_nil ?_)) | (refine Mix.wp_still (by kernel_rfl) (by kernel_rfl) ?_; (repeat' (first | (refine Mix.lex_quiet0 rfl rfl rfl ?_; intro K hK; go_big_quiet_op; go_big_quiet_on) | (refine Mix.lex_quietG rfl rfl rfl (by with_reducible rfl) rfl rfl ?_; intro K hK; go_big_quiet_op; go_big_quiet_on) | ((first | refine Mix.lex_skipT rfl rfl rfl (by with_reducible rfl) ?_ | refine Mix.lex_skipF rfl rfl rfl (by with_reducible rfl) ?_ | refine Mix.lex_skipU rfl rfl rfl (by with_reducible rfl) ?_); simp only [Act.put, List.setIfInBounds_toArray, List.set_cons_succ, List.set_cons_zero]) | (refine Mix.lex_part rfl rfl rfl rfl (fun hq => ?_) (fun hq => ?_) <;> (fail_if_success (guard_hyp hq :ₛ true = true)) <;> (fail_if_success (guard_hyp hq :ₛ false = false)) <;> first | (exfalso; cases hq; done) | (exfalso; simp only [decide_eq_true_eq, decide_eq_false_iff_not, beq_iff_eq, beq_eq_false_iff_ne, ne_eq, Int.not_lt, Int.not_le] at hq; omega) | simp only [Act.put, List.setIfInBounds_toArray, List.set_cons_succ, List.set_cons_zero]))); all_goals (refine Mix.lex_nil ?_)))
          refine HD.out.mono ?_
          rintro e u ⟨A2, c2, rfl, hf⟩
          rw [← hA.out] at hf ⊢
          have F4 := Lib.hid hf
          obtain ⟨ζ2, rfl⟩ : ∃ ξ : X w No, u = ξ.v := ⟨⟨u, hf.ext⟩, rfl⟩
          clear hf hA HD F3
          go_wp2_with (first | (refine Mix.wpList_guarded rfl ?_; (repeat' (first | (refine Mix.lex_quiet0 rfl rfl rfl ?_; intro K hK; go_big_quiet_op; go_big_quiet_on) | (refine Mix.lex_quietG rfl rfl rfl (by with_reducible rfl) rfl rfl ?_; intro K hK; go_big_quiet_op; go_big_quiet_on) | ((first | refine Mix.lex_skipT rfl rfl rfl (by with_reducible rfl) ?_ | refine Mix.lex_skipF rfl rfl rfl (by with_reducible rfl) ?_ | refine Mix.lex_skipU rfl rfl rfl (by with_reducible rfl) ?_); simp only [Act.put, List.setIfInBounds_toArray, List.set_cons_succ, List.set_cons_zero]) | (refine Mix.lex_part rfl rfl rfl rfl (fun hq => ?_) (fun hq => ?_) <;> (fail_if_success (guard_hyp hq :ₛ true = true)) <;> (fail_if_success (guard_hyp hq :ₛ false = false)) <;> first | (exfalso; cases hq; done) | (exfalso; simp only [decide_eq_true_eq, decide_eq_false_iff_not, beq_iff_eq, beq_eq_false_iff_ne, ne_eq, Int.not_lt, Int.not_le] at hq; omega) | simp only [Act.put, List.setIfInBounds_toArray, List.set_cons_succ, List.set_cons_zero]))); all_goals (refine Mix.lex_nil ?_)) | (refine Mix.wp_still (by kernel_rfl) (by kernel_rfl) ?_; (repeat' (first | (refine Mix.lex_quiet0 rfl rfl rfl ?_; intro K hK; go_big_quiet_op; go_big_quiet_on) | (refine Mix.lex_quietG rfl rfl rfl (by with_reducible rfl) rfl rfl ?_; intro K hK; go_big_quiet_op; go_big_quiet_on) | ((first | refine Mix.lex_skipT rfl rfl rfl (by with_reducible rfl) ?_ | refine Mix.lex_skipF rfl rfl rfl (by with_reducible rfl) ?_ | refine Mix.lex_skipU rfl rfl rfl (by with_reducible rfl) ?_); simp only [Act.put, List.setIfInBounds_toArray, List.set_cons_succ, List.set_cons_zero]) | (refine Mix.lex_part rfl rfl rfl rfl (fun hq => ?_) (fun hq => ?_) <;> (fail_if_success (guard_hyp hq :ₛ true = true)) <;> (fail_if_success (guard_hyp hq :ₛ false = false)) <;> first | (exfalso; cases hq; done) | (exfalso; simp only [decide_eq_true_eq, decide_eq_false_iff_not, beq_iff_eq, beq_eq_false_iff_ne, ne_eq, Int.not_lt, Int.not_le] at hq; omega) | simp only [Act.put, List.setIfInBounds_toArray, List.set_cons_succ, List.set_cons_zero]))); all_goals (refine Mix.lex_nil ?_)))
          go_roundw
          case rel => exact ⟨j + 1, by omega, by go_num, L2, A2, c2, HS.out.symm, rfl, by omega, HRi.out, F4.out⟩
          case measure => simp [intOf]; omega
        | false =>
          have hA : Hid (L2 = L.set p y) := HA.out
          have hl2 : L2.length = L.length := by rw [hA.out, List.length_set]
          obtain ⟨g, rest, rfl, hg, hX, hR, hnc, hcm⟩ := own_block F3.out.own (by omega) (by decide)
          have hy2 : L[p]? = some L[p] := List.getElem?_eq_getElem hp
          have hcell : ∀ k, k < 3 → (ζ1.v.cell? ⟨g, p * 3 + k, none⟩) = some (((chF.enc L[p]))[k]?.getD undef) := fun k hk => by
            obtain ⟨b', o', x', he, _, hx', hc'⟩ := (F3.out.row (by decide)).get hp
            injection he with he
            injection he with he1 he2
            subst he1; subst he2
            rw [hy2] at hx'
            injection hx' with hx'
            subst hx'
            have := hc' k ((chF.enc L[p])[k]'(by rw [chF.len]; exact hk)) (List.getElem?_eq_getElem _)
            rw [Nat.zero_add] at this
            rw [List.getElem?_eq_getElem (by rw [chF.len]; exact hk)]
            exact this
          have g0 : ζ1.v.cell? ⟨g, p * 3, none⟩ = some (S (L[p]).1) := hcell 0 (by omega)
          have g1 : ζ1.v.cell? ⟨g, p * 3 + 1, none⟩ = some (S (L[p]).2.1) := hcell 1 (by omega)
          have g2 : ζ1.v.cell? ⟨g, p * 3 + 2, none⟩ = some (.bool (L[p]).2.2) := hcell 2 (by omega)
          have z0 := hg.frozen (p * 3)
          have z1 := hg.frozen (p * 3 + 1)
          have z2 := hg.frozen (p * 3 + 2)
          have hgn : w.heap.size ≤ g := F3.out.new g rfl
          have HGc := Lib.hid hg
          have HRr := Lib.hid hR
          have HXx := Lib.hid hX
          have hgq : g ≠ q := fun e => HQ.out (by rw [e]; rfl)
          clear hg hR hX hcell hy2 HA HC3
          go_wp2_with (first | (refine Mix.wpList_guarded rfl ?_; (repeat' (first | (refine Mix.lex_quiet0 rfl rfl rfl ?_; intro K hK; go_big_quiet_op; go_big_quiet_on) | (refine Mix.lex_quietG rfl rfl rfl (by with_reducible rfl) rfl rfl ?_; intro K hK; go_big_quiet_op; go_big_quiet_on) | ((first | refine Mix.lex_skipT rfl rfl rfl (by with_reducible rfl) ?_ | refine Mix.lex_skipF rfl rfl rfl (by with_reducible rfl) ?_ | refine Mix.lex_skipU rfl rfl rfl (by with_reducible rfl) ?_); simp only [Act.put, List.setIfInBounds_toArray, List.set_cons_succ, List.set_cons_zero]) | (refine Mix.lex_part rfl rfl rfl rfl (fun hq => ?_) (fun hq => ?_) <;> (fail_if_success (guard_hyp hq :ₛ true = true)) <;> (fail_if_success (guard_hyp hq :ₛ false = false)) <;> first | (exfalso; cases hq; done) | (exfalso; simp only [decide_eq_true_eq, decide_eq_false_iff_not, beq_iff_eq, beq_eq_false_iff_ne, ne_eq, Int.not_lt, Int.not_le] at hq; omega) | simp only [Act.put, List.setIfInBounds_toArray, List.set_cons_succ, List.set_cons_zero]))); all_goals (refine Mix.lex_nil ?_)) | (refine Mix.wp_still (by kernel_rfl) (by kernel_rfl) ?_; (repeat' (first | (refine Mix.lex_quiet0 rfl rfl rfl ?_; intro K hK; go_big_quiet_op; go_big_quiet_on) | (refine Mix.lex_quietG rfl rfl rfl (by with_reducible rfl) rfl rfl ?_; intro K hK; go_big_quiet_op; go_big_quiet_on) | ((first | refine Mix.lex_skipT rfl rfl rfl (by with_reducible rfl) ?_ | refine Mix.lex_skipF rfl rfl rfl (by with_reducible rfl) ?_ | refine Mix.lex_skipU rfl rfl rfl (by with_reducible rfl) ?_); simp only [Act.put, List.setIfInBounds_toArray, List.set_cons_succ, List.set_cons_zero]) | (refine Mix.lex_part rfl rfl rfl rfl (fun hq => ?_) (fun hq => ?_) <;> (fail_if_success (guard_hyp hq :ₛ true = true)) <;> (fail_if_success (guard_hyp hq :ₛ false = false)) <;> first | (exfalso; cases hq; done) | (exfalso; simp only [decide_eq_true_eq, decide_eq_false_iff_not, beq_iff_eq, beq_eq_false_iff_ne, ne_eq, Int.not_lt, Int.not_le] at hq; omega) | simp only [Act.put, List.setIfInBounds_toArray, List.set_cons_succ, List.set_cons_zero]))); all_goals (refine Mix.lex_nil ?_)))
          go_roundw
          case rel =>
            have hS := ((HGc.out.set_ (p * 3) (S y.1)).set_ (p * 3 + 1) (S y.2.1)).set_ (p * 3 + 2) (.bool false)
            have hX := HXx.out
            rw [show chF.size = 3 from rfl] at hX
            have e3 : (((L.flatMap chF.enc ++ rest).toArray.setIfInBounds (p * 3) (S y.1)).setIfInBounds (p * 3 + 1) (S y.2.1)).setIfInBounds (p * 3 + 2) (.bool false) = (L2.flatMap chF.enc ++ rest).toArray := by
              rw [hA.out, ch_set L p y hp, HGn.out, List.setIfInBounds_toArray, List.setIfInBounds_toArray, List.setIfInBounds_toArray, List.set_append_left _ _ (by omega), List.set_append_left _ _ (by rw [List.length_set]; omega), List.set_append_left _ _ (by rw [List.length_set, List.length_set]; omega)]
            rw [e3] at hS
            have hR := HRr.out
            have hO : Only (fun b => b = g) ζ1.v (((ζ1.v.setCell ⟨g, p * 3, none⟩ (S y.1)).setCell ⟨g, p * 3 + 1, none⟩ (S y.2.1)).setCell ⟨g, p * 3 + 2, none⟩ (.bool false)) := (((Only.refl _ _).at_ _ _).at_ _ _).at_ _ _
            refine ⟨j + 1, by omega, by go_num, L2, some ⟨g, 0, none⟩, c1, HS.out.symm, by rw [hl2], by omega, HRi.out, ?_, F3.out.ext.trans hO fun b hb e => by omega, fun g' hg' => ?_⟩
            · refine own_of_block hS (Nat.zero_le _) (length_flatMap_enc _ _) ?_ (by rw [hl2]; exact hnc) hcm
              simp only [List.length_append, length_flatMap_enc, hl2] at hR ⊢
              exact hR
            · simp [Value.ownBlock] at hg'
              omega
          case measure => simp [intOf]; omega
      | false =>
        cases gone with
        | true =>
          have hA : Hid (L2 = L) := HA.out
          clear HA HC3
          go_wp2_with (first | (refine Mix.wpList_guarded rfl ?_; (repeat' (first | (refine Mix.lex_quiet0 rfl rfl rfl ?_; intro K hK; go_big_quiet_op; go_big_quiet_on) | (refine Mix.lex_quietG rfl rfl rfl (by with_reducible rfl) rfl rfl ?_; intro K hK; go_big_quiet_op; go_big_quiet_on) | ((first | refine Mix.lex_skipT rfl rfl rfl (by with_reducible rfl) ?_ | refine Mix.lex_skipF rfl rfl rfl (by with_reducible rfl) ?_ | refine Mix.lex_skipU rfl rfl rfl (by with_reducible rfl) ?_); simp only [Act.put, List.setIfInBounds_toArray, List.set_cons_succ, List.set_cons_zero]) | (refine Mix.lex_part rfl rfl rfl rfl (fun hq => ?_) (fun hq => ?_) <;> (fail_if_success (guard_hyp hq :ₛ true = true)) <;> (fail_if_success (guard_hyp hq :ₛ false = false)) <;> first | (exfalso; cases hq; done) | (exfalso; simp only [decide_eq_true_eq, decide_eq_false_iff_not, beq_iff_eq, beq_eq_false_iff_ne, ne_eq, Int.not_lt, Int.not_le] at hq; omega) | simp only [Act.put, List.setIfInBounds_toArray, List.set_cons_succ, List.set_cons_zero]))); all_goals (refine Mix.lex_nil ?_)) | (refine Mix.wp_still (by kernel_rfl) (by kernel_rfl) ?_; (repeat' (first | (refine Mix.lex_quiet0 rfl rfl rfl ?_; intro K hK; go_big_quiet_op; go_big_quiet_on) | (refine Mix.lex_quietG rfl rfl rfl (by with_reducible rfl) rfl rfl ?_; intro K hK; go_big_quiet_op; go_big_quiet_on) | ((first | refine Mix.lex_skipT rfl rfl rfl (by with_reducible rfl) ?_ | refine Mix.lex_skipF rfl rfl rfl (by with_reducible rfl) ?_ | refine Mix.lex_skipU rfl rfl rfl (by with_reducible rfl) ?_); simp only [Act.put, List.setIfInBounds_toArray, List.set_cons_succ, List.set_cons_zero]) | (refine Mix.lex_part rfl rfl rfl rfl (fun hq => ?_) (fun hq => ?_) <;> (fail_if_success (guard_hyp hq :ₛ true = true)) <;> (fail_if_success (guard_hyp hq :ₛ false = false)) <;> first | (exfalso; cases hq; done) | (exfalso; simp only [decide_eq_true_eq, decide_eq_false_iff_not, beq_iff_eq, beq_eq_false_iff_ne, ne_eq, Int.not_lt, Int.not_le] at hq; omega) | simp only [Act.put, List.setIfInBounds_toArray, List.set_cons_succ, List.set_cons_zero]))); all_goals (refine Mix.lex_nil ?_)))
          go_roundw
          case rel => exact ⟨j + 1, by omega, by go_num, L, A1, c1, by rw [HS.out, hA.out], rfl, by omega, HLr.out, F3.out⟩
          case measure => simp [intOf]; omega
        | false =>
          have hA : Hid (L2 = insAt p y L) := HA.out
          have hpl := HP.out
          clear HA HC3
          obtain ⟨v1, hv1⟩ : ∃ v1, v1 = ζ1.v.alloc (.cells #[S y.1, S y.2.1, .bool false] 61) := ⟨_, rfl⟩
          obtain ⟨q1, hq1⟩ : ∃ q1, q1 = ζ1.v.heap.size := ⟨_, rfl⟩
          have hV : Cs v1 q1 61 #[S y.1, S y.2.1, .bool y.2.2] := by rw [hv1, hq1, HGn.out]; exact Cs.new _ _ _
          have F4 : Hid (Fresh chF 61 w v1 A1 c1 L) := F3.out.on (by rw [hv1]; exact (Only.refl No ζ1.v).alloc _)
          have HI := Lib.hid (InsCh_f F4.out hpl (by omega) y hV (fun e => by
            have := (F3.out.own.lt _ e).2
            omega))
          have HV1 := Lib.hid hv1
          have HQ1 := Lib.hid hq1
          clear hV hv1 hq1
          go_wp2_with fail
          rw [← HV1.out, ← HQ1.out]
          refine HI.out.mono ?_
          rintro e u ⟨A2, c2, rfl, hf⟩
          rw [← hA.out] at hf ⊢
          have F5 := Lib.hid hf
          obtain ⟨ζ2, rfl⟩ : ∃ ξ : X w No, u = ξ.v := ⟨⟨u, hf.ext⟩, rfl⟩
          clear hf hA HI F3 F4 HV1 HQ1
          go_wp2_with (first | (refine Mix.wpList_guarded rfl ?_; (repeat' (first | (refine Mix.lex_quiet0 rfl rfl rfl ?_; intro K hK; go_big_quiet_op; go_big_quiet_on) | (refine Mix.lex_quietG rfl rfl rfl (by with_reducible rfl) rfl rfl ?_; intro K hK; go_big_quiet_op; go_big_quiet_on) | ((first | refine Mix.lex_skipT rfl rfl rfl (by with_reducible rfl) ?_ | refine Mix.lex_skipF rfl rfl rfl (by with_reducible rfl) ?_ | refine Mix.lex_skipU rfl rfl rfl (by with_reducible rfl) ?_); simp only [Act.put, List.setIfInBounds_toArray, List.set_cons_succ, List.set_cons_zero]) | (refine Mix.lex_part rfl rfl rfl rfl (fun hq => ?_) (fun hq => ?_) <;> (fail_if_success (guard_hyp hq :ₛ true = true)) <;> (fail_if_success (guard_hyp hq :ₛ false = false)) <;> first | (exfalso; cases hq; done) | (exfalso; simp only [decide_eq_true_eq, decide_eq_false_iff_not, beq_iff_eq, beq_eq_false_iff_ne, ne_eq, Int.not_lt, Int.not_le] at hq; omega) | simp only [Act.put, List.setIfInBounds_toArray, List.set_cons_succ, List.set_cons_zero]))); all_goals (refine Mix.lex_nil ?_)) | (refine Mix.wp_still (by kernel_rfl) (by kernel_rfl) ?_; (repeat' (first | (refine Mix.lex_quiet0 rfl rfl rfl ?_; intro K hK; go_big_quiet_op; go_big_quiet_on) | (refine Mix.lex_quietG rfl rfl rfl (by with_reducible rfl) rfl rfl ?_; intro K hK; go_big_quiet_op; go_big_quiet_on) | ((first | refine Mix.lex_skipT rfl rfl rfl (by with_reducible rfl) ?_ | refine Mix.lex_skipF rfl rfl rfl (by with_reducible rfl) ?_ | refine Mix.lex_skipU rfl rfl rfl (by with_reducible rfl) ?_); simp only [Act.put, List.setIfInBounds_toArray, List.set_cons_succ, List.set_cons_zero]) | (refine Mix.lex_part rfl rfl rfl rfl (fun hq => ?_) (fun hq => ?_) <;> (fail_if_success (guard_hyp hq :ₛ true = true)) <;> (fail_if_success (guard_hyp hq :ₛ false = false)) <;> first | (exfalso; cases hq; done) | (exfalso; simp only [decide_eq_true_eq, decide_eq_false_iff_not, beq_iff_eq, beq_eq_false_iff_ne, ne_eq, Int.not_lt, Int.not_le] at hq; omega) | simp only [Act.put, List.setIfInBounds_toArray, List.set_cons_succ, List.set_cons_zero]))); all_goals (refine Mix.lex_nil ?_)))
          go_roundw
          case rel => exact ⟨j + 1, by omega, by go_num, L2, A2, c2, HS.out.symm, rfl, by omega, HRi.out, F5.out⟩
          case measure => simp [intOf]; omega
    · go_wp2_with (first | (refine Mix.wpList_guarded rfl ?_; (repeat' (first | (refine Mix.lex_quiet0 rfl rfl rfl ?_; intro K hK; go_big_quiet_op; go_big_quiet_on) | (refine Mix.lex_quietG rfl rfl rfl (by with_reducible rfl) rfl rfl ?_; intro K hK; go_big_quiet_op; go_big_quiet_on) | ((first | refine Mix.lex_skipT rfl rfl rfl (by with_reducible rfl) ?_ | refine Mix.lex_skipF rfl rfl rfl (by with_reducible rfl) ?_ | refine Mix.lex_skipU rfl rfl rfl (by with_reducible rfl) ?_); simp only [Act.put, List.setIfInBounds_toArray, List.set_cons_succ, List.set_cons_zero]) | (refine Mix.lex_part rfl rfl rfl rfl (fun hq => ?_) (fun hq => ?_) <;> (fail_if_success (guard_hyp hq :ₛ true = true)) <;> (fail_if_success (guard_hyp hq :ₛ false = false)) <;> first | (exfalso; cases hq; done) | (exfalso; simp only [decide_eq_true_eq, decide_eq_false_iff_not, beq_iff_eq, beq_eq_false_iff_ne, ne_eq, Int.not_lt, Int.not_le] at hq; omega) | simp only [Act.put, List.setIfInBounds_toArray, List.set_cons_succ, List.set_cons_zero]))); all_goals (refine Mix.lex_nil ?_)) | (refine Mix.wp_still (by kernel_rfl) (by kernel_rfl) ?_; (repeat' (first | (refine Mix.lex_quiet0 rfl rfl rfl ?_; intro K hK; go_big_quiet_op; go_big_quiet_on) | (refine Mix.lex_quietG rfl rfl rfl (by with_reducible rfl) rfl rfl ?_; intro K hK; go_big_quiet_op; go_big_quiet_on) | ((first | refine Mix.lex_skipT rfl rfl rfl (by with_reducible rfl) ?_ | refine Mix.lex_skipF rfl rfl rfl (by with_reducible rfl) ?_ | refine Mix.lex_skipU rfl rfl rfl (by with_reducible rfl) ?_); simp only [Act.put, List.setIfInBounds_toArray, List.set_cons_succ, List.set_cons_zero]) | (refine Mix.lex_part rfl rfl rfl rfl (fun hq => ?_) (fun hq => ?_) <;> (fail_if_success (guard_hyp hq :ₛ true = true)) <;> (fail_if_success (guard_hyp hq :ₛ false = false)) <;> first | (exfalso; cases hq; done) | (exfalso; simp only [decide_eq_true_eq, decide_eq_false_iff_not, beq_iff_eq, beq_eq_false_iff_ne, ne_eq, Int.not_lt, Int.not_le] at hq; omega) | simp only [Act.put, List.setIfInBounds_toArray, List.set_cons_succ, List.set_cons_zero]))); all_goals (refine Mix.lex_nil ?_)))
      go_ret
      have hL := HL.out
      rw [List.take_of_length_le (by rw [h2.1]; omega)] at hL
      rw [← hL]
      exact ⟨A1, c1, rfl, F1.out⟩
end Go.Proofs.Ytgdabmfdfgdlkaa
