/- Put together: Row7, Files3, Row8. -/
import Derived.Test.YtaphmmobmadfoaaMc24
/- row.Apply: the walk. -/
namespace Go.Proofs.Ytaphmmobmadfoaa
open Go Go.RowKit
theorem length_delAt {α : Type} {i : Nat} {xs : List α} (h : i < xs.length) : (delAt i xs).length = xs.length - 1 := by
  simp only [delAt, List.length_append, List.length_take, List.length_drop]; omega
theorem length_insAt {α : Type} {i : Nat} {x : α} {xs : List α} (h : i ≤ xs.length) : (insAt i x xs).length = xs.length + 1 := by
  simp only [insAt, List.length_append, List.length_take, List.length_cons, List.length_drop]; omega
theorem DelCh_f {w v : World} {A : Option Addr} {c i : Nat} {L : List Ch} (F : Fresh chF 61 w v A c L) (hi : i < L.length) (hn : L.length ≤ 1000000) :
    Calls Try.prog 56 #[.slice A L.length c, .int .i64 i, .int .i64 ((i : Int) + 1)] v fun e u =>
      ∃ A' c', e = .returned (.slice A' (delAt i L).length c') ∧ Fresh chF 61 w u A' c' (delAt i L) := by
  obtain ⟨g, rest, rfl, hg, hX, hr, hnc, hm⟩ := own_block F.own (by omega) (by decide)
  refine (DelCh_c hg rfl hr hi hnc hm hn).mono ?_
  rintro e u ⟨rest', rfl, h1, h2, h3⟩
  have hgn := F.new g rfl
  refine ⟨some ⟨g, 0, none⟩, c, by rw [length_delAt hi], ?_, F.ext.trans h3 fun b hb e => by omega, fun g' hg' => ?_⟩
  · exact own_of_block h1 (Nat.zero_le _) (length_flatMap_enc _ _) h2 (by rw [length_delAt hi]; omega) hm
  · simp [Value.ownBlock] at hg'
    omega
theorem InsCh_f {w v : World} {A : Option Addr} {c i : Nat} {L : List Ch} (F : Fresh chF 61 w v A c L) (hi : i ≤ L.length) (hn : L.length ≤ 1000000) (x : Ch) {vb : Nat} (hv : Cs v vb 61 #[S x.1, S x.2.1, .bool x.2.2]) (hne : (Value.slice A L.length c).ownBlock ≠ some vb) :
    Calls Try.prog 57 #[.slice A L.length c, .int .i64 i, .slice (some ⟨vb, 0, none⟩) 1 1] v fun e u =>
      ∃ A' c', e = .returned (.slice A' (insAt i x L).length c') ∧ Fresh chF 61 w u A' c' (insAt i x L) := by
  refine (InsCh_c F.own hi x hv hne hn).mono ?_
  rintro e u ⟨A', c', rfl, h1, h2⟩
  have e2 := length_insAt (x := x) hi
  have hs := F.ext.size
  refine ⟨A', c', by rw [e2], by rw [e2]; exact h1, F.ext.trans h2.o fun b hb e => ?_, fun g' hg' => ?_⟩
  · have := F.new b e; omega
  · rw [e2] at hg'
    rcases h2.b g' hg' with h | h
    · exact F.new g' h
    · omega
theorem apply1_at {L : List Ch} (h : Rise ck L) (y : Ch) : apply1 L y = if y.2.2 then (if hasAt ck L y.1 then delAt (posOf ck L y.1) L else L) else (if hasAt ck L y.1 then L.set (posOf ck L y.1) y else insAt (posOf ck L y.1) y L) := by
  unfold apply1
  rw [dropL_at h, putL_at h]
  rfl
theorem hasAt_lt {L : List Ch} {k : Str} (h : hasAt ck L k = true) : posOf ck L k < L.length := by
  unfold hasAt at h
  rcases Nat.lt_or_ge (posOf ck L k) L.length with hl | hl
  · exact hl
  · rw [List.getElem?_eq_none hl] at h; cases h
set_option maxRecDepth 100000 in
set_option maxHeartbeats 2000000 in
theorem Apply_c {w : World} {A B : Option Addr} {n m c d : Nat} {xs ys : List Ch} (h1 : SlR chF w A n xs) (h2 : SlR chF w B m ys) (hn : n ≤ 10000) (hm : m ≤ 10000) (hr : Rise ck xs) :
    Calls Try.prog 35 #[.slice A n c, .slice B m d] w fun e w' => ∃ A' c', e = .returned (.slice A' (applyL xs ys).length c') ∧ Fresh chF 61 w w' A' c' (applyL xs ys) := by
  have HC := Lib.hid (CloneChs_f (c := c) h1 h1.none_len (by omega))
  have hl := h1.1
  have HR := Lib.hid hr
  clear h1 hr
  go_enter Try.func35, Try.ntmps35
  go_wp2_with (first | ((first | refine Mix.wpList_guarded rfl ?_ | refine Mix.wp_still (by kernel_rfl) (by kernel_rfl) ?_); (repeat' (first | (refine Mix.lex_quiet0 rfl rfl rfl ?_; intro K hK; go_big_quiet_op; go_big_quiet_on) | (refine Mix.lex_quietG rfl rfl rfl (by with_reducible rfl) rfl rfl ?_; intro K hK; go_big_quiet_op; go_big_quiet_on) | ((first | refine Mix.lex_skipT rfl rfl rfl (by with_reducible rfl) ?_ | refine Mix.lex_skipF rfl rfl rfl (by with_reducible rfl) ?_ | refine Mix.lex_skipU rfl rfl rfl (by with_reducible rfl) ?_); simp only [Act.put, List.setIfInBounds_toArray, List.set_cons_succ, List.set_cons_zero]) | (refine Mix.lex_part rfl rfl rfl rfl (fun hq => ?_) (fun hq => ?_) <;> (fail_if_success (guard_hyp hq :ₛ true = true)) <;> (fail_if_success (guard_hyp hq :ₛ false = false)) <;> first | (exfalso; cases hq; done) | (exfalso; simp only [decide_eq_true_eq, decide_eq_false_iff_not, beq_iff_eq, beq_eq_false_iff_ne, ne_eq, Int.not_lt, Int.not_le] at hq; omega) | simp only [Act.put, List.setIfInBounds_toArray, List.set_cons_succ, List.set_cons_zero]))); all_goals (refine Mix.lex_nil ?_)))
  refine (HC.out).mono ?_; rintro e uu ⟨A0, c0, rfl, hf⟩; obtain ⟨ξ0, hnew⟩ : ∃ ξ : X w No, ξ.v = uu := ⟨⟨uu, (X.here w No).h.then_ext hf.ext⟩, rfl⟩; subst hnew; have Hξ0 := Lib.hid hf.ext; have F0 := Lib.hid hf; clear hf
  clear HC
  go_wp2_with (first | ((first | refine Mix.wpList_guarded rfl ?_ | refine Mix.wp_still (by kernel_rfl) (by kernel_rfl) ?_); (repeat' (first | (refine Mix.lex_quiet0 rfl rfl rfl ?_; intro K hK; go_big_quiet_op; go_big_quiet_on) | (refine Mix.lex_quietG rfl rfl rfl (by with_reducible rfl) rfl rfl ?_; intro K hK; go_big_quiet_op; go_big_quiet_on) | ((first | refine Mix.lex_skipT rfl rfl rfl (by with_reducible rfl) ?_ | refine Mix.lex_skipF rfl rfl rfl (by with_reducible rfl) ?_ | refine Mix.lex_skipU rfl rfl rfl (by with_reducible rfl) ?_); simp only [Act.put, List.setIfInBounds_toArray, List.set_cons_succ, List.set_cons_zero]) | (refine Mix.lex_part rfl rfl rfl rfl (fun hq => ?_) (fun hq => ?_) <;> (fail_if_success (guard_hyp hq :ₛ true = true)) <;> (fail_if_success (guard_hyp hq :ₛ false = false)) <;> first | (exfalso; cases hq; done) | (exfalso; simp only [decide_eq_true_eq, decide_eq_false_iff_not, beq_iff_eq, beq_eq_false_iff_ne, ne_eq, Int.not_lt, Int.not_le] at hq; omega) | simp only [Act.put, List.setIfInBounds_toArray, List.set_cons_succ, List.set_cons_zero]))); all_goals (refine Mix.lex_nil ?_)))
  go_loopw [0, 13] (fun r i wr => ∃ j : Nat, j ≤ m ∧ i = .int .i64 j ∧ ∃ L A' c', L = applyL xs (ys.take j) ∧ r = .slice A' L.length c' ∧ L.length ≤ n + j ∧ Rise ck L ∧ Fresh chF 61 w wr A' c' L) (fun _ i _ => m - (intOf i).toNat)
  case atStart => exact ⟨0, Nat.zero_le _, rfl, xs, A0, c0, rfl, by rw [hl], by omega, HR.out, F0.out⟩
  case round =>
    clear F0 Hξ0 ξ0
    obtain ⟨j, hj, rfl, L, A1, c1, hL, rfl, hLn, hLr, hf⟩ := hrel
    have F1 := Lib.hid hf
    have HL := Lib.hid hL
    have HLr := Lib.hid hLr
    obtain ⟨ξ, rfl⟩ : ∃ ξ : X w No, wr = ξ.v := ⟨⟨wr, hf.ext⟩, rfl⟩
    clear hf hL hLr
    by_cases hlt : j < m
    · obtain ⟨b, o, y, rfl, hy, d0, d1, d2⟩ := chs_get h2 hlt
      have HS : Hid (applyL xs (ys.take (j + 1)) = apply1 L y) := by rw [Hid, applyL_snoc _ _ hy, HL.out]
      have HA := Lib.hid (apply1_at HLr.out y)
      have hLen := apply1_len L y
      have HRi := Lib.hid (apply1_rise HLr.out y)
      obtain ⟨L2, hL2⟩ : ∃ L2, L2 = apply1 L y := ⟨_, rfl⟩
      rw [← hL2] at HS HA HRi hLen
      have HP := Lib.hid (posOf_le (key := ck) L y.1)
      have HPl := Lib.hid (hasAt_lt (L := L) (k := y.1))
      clear hL2 hy
      have HB := Lib.hid (fun v (hF : Fresh chF 61 w v A1 c1 L) => BsCh_c (c := c1) (hF.row (by decide)) (by omega) y.1 HLr.out)
      generalize hasAt (fun x => x.1) L y.1 = is at HB HA HPl
      generalize posOf (fun x => x.1) L y.1 = p at HB HA HPl HP
      go_upto_region 5 with fail
      obtain ⟨v0, hv0⟩ : ∃ v0, v0 = ξ.v.alloc (.cells #[S y.1, S y.2.1, .bool y.2.2] 61) := ⟨_, rfl⟩
      obtain ⟨q, hq⟩ : ∃ q, q = ξ.v.heap.size := ⟨_, rfl⟩
      have hB : Cs v0 q 61 #[S y.1, S y.2.1, .bool y.2.2] := by rw [hv0, hq]; exact Cs.new _ _ _
      have F2 : Hid (Fresh chF 61 w v0 A1 c1 L) := F1.out.on (by rw [hv0]; exact (Only.refl No ξ.v).alloc _)
      have HQ : Hid ((Value.slice A1 L.length c1).ownBlock ≠ some q) := fun e => by
        have := (F1.out.own.lt _ e).2
        omega
      rw [← hv0, ← hq]
      clear hv0 hq F1 d0 d1 d2
      have q0 := hB.cell 0
      simp only [List.getElem?_toArray, List.getElem?_cons_succ, List.getElem?_cons_zero] at q0
      have HCs := Lib.hid hB
      obtain ⟨ζ0, rfl⟩ : ∃ ξ : X w No, v0 = ξ.v := ⟨⟨v0, F2.out.ext⟩, rfl⟩
      clear hB
      go_wp2_with (first | ((first | refine Mix.wpList_guarded rfl ?_ | refine Mix.wp_still (by kernel_rfl) (by kernel_rfl) ?_); (repeat' (first | (refine Mix.lex_quiet0 rfl rfl rfl ?_; intro K hK; go_big_quiet_op; go_big_quiet_on) | (refine Mix.lex_quietG rfl rfl rfl (by with_reducible rfl) rfl rfl ?_; intro K hK; go_big_quiet_op; go_big_quiet_on) | ((first | refine Mix.lex_skipT rfl rfl rfl (by with_reducible rfl) ?_ | refine Mix.lex_skipF rfl rfl rfl (by with_reducible rfl) ?_ | refine Mix.lex_skipU rfl rfl rfl (by with_reducible rfl) ?_); simp only [Act.put, List.setIfInBounds_toArray, List.set_cons_succ, List.set_cons_zero]) | (refine Mix.lex_part rfl rfl rfl rfl (fun hq => ?_) (fun hq => ?_) <;> (fail_if_success (guard_hyp hq :ₛ true = true)) <;> (fail_if_success (guard_hyp hq :ₛ false = false)) <;> first | (exfalso; cases hq; done) | (exfalso; simp only [decide_eq_true_eq, decide_eq_false_iff_not, beq_iff_eq, beq_eq_false_iff_ne, ne_eq, Int.not_lt, Int.not_le] at hq; omega) | simp only [Act.put, List.setIfInBounds_toArray, List.set_cons_succ, List.set_cons_zero]))); all_goals (refine Mix.lex_nil ?_)))
      refine (HB.out _ F2.out).mono ?_; rintro e uu ⟨rfl, hu⟩; obtain ⟨ζ1, hnew⟩ : ∃ ξ : X w No, ξ.v = uu := ⟨⟨uu, ζ0.h.then_ext hu⟩, rfl⟩; subst hnew; have Hζ1 := Lib.hid hu; clear hu
      have F3 := Lib.hid (F2.out.on Hζ1.out)
      have HC3 := Lib.hid (HCs.out.keep Hζ1.out id)
      clear HB F2 HCs q0 Hζ1 ζ0
      have q0 := HC3.out.cell 0
      have q1 := HC3.out.cell 1
      have q2 := HC3.out.cell 2
      simp only [List.getElem?_toArray, List.getElem?_cons_succ, List.getElem?_cons_zero] at q0 q1 q2
      have HG := Lib.hid (show ∃ gone, gone = y.2.2 from ⟨_, rfl⟩)
      obtain ⟨gone, hgone⟩ := HG.out
      have HGn : Hid (y.2.2 = gone) := hgone.symm
      rw [← hgone] at HA q2 HC3
      clear hgone HG
      cases is with
      | true =>
        have hp := HPl.out rfl
        cases gone with
        | true =>
          have HD := Lib.hid (DelCh_f F3.out hp (by omega))
          have hA : Hid (L2 = delAt p L) := HA.out
          clear HA HC3
          go_wp2_with (first | ((first | refine Mix.wpList_guarded rfl ?_ | refine Mix.wp_still (by kernel_rfl) (by kernel_rfl) ?_); (repeat' (first | (refine Mix.lex_quiet0 rfl rfl rfl ?_; intro K hK; go_big_quiet_op; go_big_quiet_on) | (refine Mix.lex_quietG rfl rfl rfl (by with_reducible rfl) rfl rfl ?_; intro K hK; go_big_quiet_op; go_big_quiet_on) | ((first | refine Mix.lex_skipT rfl rfl rfl (by with_reducible rfl) ?_ | refine Mix.lex_skipF rfl rfl rfl (by with_reducible rfl) ?_ | refine Mix.lex_skipU rfl rfl rfl (by with_reducible rfl) ?_); simp only [Act.put, List.setIfInBounds_toArray, List.set_cons_succ, List.set_cons_zero]) | (refine Mix.lex_part rfl rfl rfl rfl (fun hq => ?_) (fun hq => ?_) <;> (fail_if_success (guard_hyp hq :ₛ true = true)) <;> (fail_if_success (guard_hyp hq :ₛ false = false)) <;> first | (exfalso; cases hq; done) | (exfalso; simp only [decide_eq_true_eq, decide_eq_false_iff_not, beq_iff_eq, beq_eq_false_iff_ne, ne_eq, Int.not_lt, Int.not_le] at hq; omega) | simp only [Act.put, List.setIfInBounds_toArray, List.set_cons_succ, List.set_cons_zero]))); all_goals (refine Mix.lex_nil ?_)))
          refine HD.out.mono ?_
          rintro e u ⟨A2, c2, rfl, hf⟩
          rw [← hA.out] at hf ⊢
          have F4 := Lib.hid hf
          obtain ⟨ζ2, rfl⟩ : ∃ ξ : X w No, u = ξ.v := ⟨⟨u, hf.ext⟩, rfl⟩
          clear hf hA HD F3
          go_wp2_with (first | ((first | refine Mix.wpList_guarded rfl ?_ | refine Mix.wp_still (by kernel_rfl) (by kernel_rfl) ?_); (repeat' (first | (refine Mix.lex_quiet0 rfl rfl rfl ?_; intro K hK; go_big_quiet_op; go_big_quiet_on) | (refine Mix.lex_quietG rfl rfl rfl (by with_reducible rfl) rfl rfl ?_; intro K hK; go_big_quiet_op; go_big_quiet_on) | ((first | refine Mix.lex_skipT rfl rfl rfl (by with_reducible rfl) ?_ | refine Mix.lex_skipF rfl rfl rfl (by with_reducible rfl) ?_ | refine Mix.lex_skipU rfl rfl rfl (by with_reducible rfl) ?_); simp only [Act.put, List.setIfInBounds_toArray, List.set_cons_succ, List.set_cons_zero]) | (refine Mix.lex_part rfl rfl rfl rfl (fun hq => ?_) (fun hq => ?_) <;> (fail_if_success (guard_hyp hq :ₛ true = true)) <;> (fail_if_success (guard_hyp hq :ₛ false = false)) <;> first | (exfalso; cases hq; done) | (exfalso; simp only [decide_eq_true_eq, decide_eq_false_iff_not, beq_iff_eq, beq_eq_false_iff_ne, ne_eq, Int.not_lt, Int.not_le] at hq; omega) | simp only [Act.put, List.setIfInBounds_toArray, List.set_cons_succ, List.set_cons_zero]))); all_goals (refine Mix.lex_nil ?_)))
          go_roundw
          case rel => exact ⟨j + 1, by omega, by go_num, L2, A2, c2, HS.out.symm, rfl, by omega, HRi.out, F4.out⟩
          case measure => simp [intOf]; omega
        | false =>
          have hA : Hid (L2 = L.set p y) := HA.out
          have hl2 : L2.length = L.length := by rw [hA.out, List.length_set]
          obtain ⟨g, rest, rfl, hg, hX, hR, hnc, hcm⟩ := own_block F3.out.own (by omega) (by decide)
          have hy2 : L[p]? = some L[p] := List.getElem?_eq_getElem hp
          have hcell : ∀ k, k < 3 → (ζ1.v.cell? ⟨g, p * 3 + k, none⟩) = some (((chF.enc L[p]))[k]?.getD undef) := fun k hk => by
            obtain ⟨b', o', x', he, _, hx', hc'⟩ := (F3.out.row (by decide)).get hp
            injection he with he
            injection he with he1 he2
            subst he1; subst he2
            rw [hy2] at hx'
            injection hx' with hx'
            subst hx'
            have := hc' k ((chF.enc L[p])[k]'(by rw [chF.len]; exact hk)) (List.getElem?_eq_getElem _)
            rw [Nat.zero_add] at this
            rw [List.getElem?_eq_getElem (by rw [chF.len]; exact hk)]
            exact this
          have g0 : ζ1.v.cell? ⟨g, p * 3, none⟩ = some (S (L[p]).1) := hcell 0 (by omega)
          have g1 : ζ1.v.cell? ⟨g, p * 3 + 1, none⟩ = some (S (L[p]).2.1) := hcell 1 (by omega)
          have g2 : ζ1.v.cell? ⟨g, p * 3 + 2, none⟩ = some (.bool (L[p]).2.2) := hcell 2 (by omega)
          have z0 := hg.frozen (p * 3)
          have z1 := hg.frozen (p * 3 + 1)
          have z2 := hg.frozen (p * 3 + 2)
          have hgn : w.heap.size ≤ g := F3.out.new g rfl
          have HGc := Lib.hid hg
          have HRr := Lib.hid hR
          have HXx := Lib.hid hX
          have hgq : g ≠ q := fun e => HQ.out (by rw [e]; rfl)
          clear hg hR hX hcell hy2 HA HC3
          go_wp2_with (first | ((first | refine Mix.wpList_guarded rfl ?_ | refine Mix.wp_still (by kernel_rfl) (by kernel_rfl) ?_); (repeat' (first | (refine Mix.lex_quiet0 rfl rfl rfl ?_; intro K hK; go_big_quiet_op; go_big_quiet_on) | (refine Mix.lex_quietG rfl rfl rfl (by with_reducible rfl) rfl rfl ?_; intro K hK; go_big_quiet_op; go_big_quiet_on) | ((first | refine Mix.lex_skipT rfl rfl rfl (by with_reducible rfl) ?_ | refine Mix.lex_skipF rfl rfl rfl (by with_reducible rfl) ?_ | refine Mix.lex_skipU rfl rfl rfl (by with_reducible rfl) ?_); simp only [Act.put, List.setIfInBounds_toArray, List.set_cons_succ, List.set_cons_zero]) | (refine Mix.lex_part rfl rfl rfl rfl (fun hq => ?_) (fun hq => ?_) <;> (fail_if_success (guard_hyp hq :ₛ true = true)) <;> (fail_if_success (guard_hyp hq :ₛ false = false)) <;> first | (exfalso; cases hq; done) | (exfalso; simp only [decide_eq_true_eq, decide_eq_false_iff_not, beq_iff_eq, beq_eq_false_iff_ne, ne_eq, Int.not_lt, Int.not_le] at hq; omega) | simp only [Act.put, List.setIfInBounds_toArray, List.set_cons_succ, List.set_cons_zero]))); all_goals (refine Mix.lex_nil ?_)))
          go_roundw
          case rel =>
            have hS := ((HGc.out.set_ (p * 3) (S y.1)).set_ (p * 3 + 1) (S y.2.1)).set_ (p * 3 + 2) (.bool false)
            have hX := HXx.out
            rw [show chF.size = 3 from rfl] at hX
            have e3 : (((L.flatMap chF.enc ++ rest).toArray.setIfInBounds (p * 3) (S y.1)).setIfInBounds (p * 3 + 1) (S y.2.1)).setIfInBounds (p * 3 + 2) (.bool false) = (L2.flatMap chF.enc ++ rest).toArray := by
              rw [hA.out, ch_set L p y hp, HGn.out, List.setIfInBounds_toArray, List.setIfInBounds_toArray, List.setIfInBounds_toArray, List.set_append_left _ _ (by omega), List.set_append_left _ _ (by rw [List.length_set]; omega), List.set_append_left _ _ (by rw [List.length_set, List.length_set]; omega)]
            rw [e3] at hS
            have hR := HRr.out
            have hO : Only (fun b => b = g) ζ1.v (((ζ1.v.setCell ⟨g, p * 3, none⟩ (S y.1)).setCell ⟨g, p * 3 + 1, none⟩ (S y.2.1)).setCell ⟨g, p * 3 + 2, none⟩ (.bool false)) := (((Only.refl _ _).at_ _ _).at_ _ _).at_ _ _
            refine ⟨j + 1, by omega, by go_num, L2, some ⟨g, 0, none⟩, c1, HS.out.symm, by rw [hl2], by omega, HRi.out, ?_, F3.out.ext.trans hO fun b hb e => by omega, fun g' hg' => ?_⟩
            · refine own_of_block hS (Nat.zero_le _) (length_flatMap_enc _ _) ?_ (by rw [hl2]; exact hnc) hcm
              simp only [List.length_append, length_flatMap_enc, hl2] at hR ⊢
              exact hR
            · simp [Value.ownBlock] at hg'
              omega
          case measure => simp [intOf]; omega
      | false =>
        cases gone with
        | true =>
          have hA : Hid (L2 = L) := HA.out
          clear HA HC3
          go_wp2_with (first | ((first | refine Mix.wpList_guarded rfl ?_ | refine Mix.wp_still (by kernel_rfl) (by kernel_rfl) ?_); (repeat' (first | (refine Mix.lex_quiet0 rfl rfl rfl ?_; intro K hK; go_big_quiet_op; go_big_quiet_on) | (refine Mix.lex_quietG rfl rfl rfl (by with_reducible rfl) rfl rfl ?_; intro K hK; go_big_quiet_op; go_big_quiet_on) | ((first | refine Mix.lex_skipT rfl rfl rfl (by with_reducible rfl) ?_ | refine Mix.lex_skipF rfl rfl rfl (by with_reducible rfl) ?_ | refine Mix.lex_skipU rfl rfl rfl (by with_reducible rfl) ?_); simp only [Act.put, List.setIfInBounds_toArray, List.set_cons_succ, List.set_cons_zero]) | (refine Mix.lex_part rfl rfl rfl rfl (fun hq => ?_) (fun hq => ?_) <;> (fail_if_success (guard_hyp hq :ₛ true = true)) <;> (fail_if_success (guard_hyp hq :ₛ false = false)) <;> first | (exfalso; cases hq; done) | (exfalso; simp only [decide_eq_true_eq, decide_eq_false_iff_not, beq_iff_eq, beq_eq_false_iff_ne, ne_eq, Int.not_lt, Int.not_le] at hq; omega) | simp only [Act.put, List.setIfInBounds_toArray, List.set_cons_succ, List.set_cons_zero]))); all_goals (refine Mix.lex_nil ?_)))
          go_roundw
          case rel => exact ⟨j + 1, by omega, by go_num, L, A1, c1, by rw [HS.out, hA.out], rfl, by omega, HLr.out, F3.out⟩
          case measure => simp [intOf]; omega
        | false =>
          have hA : Hid (L2 = insAt p y L) := HA.out
          have hpl := HP.out
          clear HA HC3
          obtain ⟨v1, hv1⟩ : ∃ v1, v1 = ζ1.v.alloc (.cells #[S y.1, S y.2.1, .bool false] 61) := ⟨_, rfl⟩
          obtain ⟨q1, hq1⟩ : ∃ q1, q1 = ζ1.v.heap.size := ⟨_, rfl⟩
          have hV : Cs v1 q1 61 #[S y.1, S y.2.1, .bool y.2.2] := by rw [hv1, hq1, HGn.out]; exact Cs.new _ _ _
          have F4 : Hid (Fresh chF 61 w v1 A1 c1 L) := F3.out.on (by rw [hv1]; exact (Only.refl No ζ1.v).alloc _)
          have HI := Lib.hid (InsCh_f F4.out hpl (by omega) y hV (fun e => by
            have := (F3.out.own.lt _ e).2
            omega))
          have HV1 := Lib.hid hv1
          have HQ1 := Lib.hid hq1
          clear hV hv1 hq1
          go_wp2_with fail
          rw [← HV1.out, ← HQ1.out]
          refine HI.out.mono ?_
          rintro e u ⟨A2, c2, rfl, hf⟩
          rw [← hA.out] at hf ⊢
          have F5 := Lib.hid hf
          obtain ⟨ζ2, rfl⟩ : ∃ ξ : X w No, u = ξ.v := ⟨⟨u, hf.ext⟩, rfl⟩
          clear hf hA HI F3 F4 HV1 HQ1
          go_wp2_with (first | ((first | refine Mix.wpList_guarded rfl ?_ | refine Mix.wp_still (by kernel_rfl) (by kernel_rfl) ?_); (repeat' (first | (refine Mix.lex_quiet0 rfl rfl rfl ?_; intro K hK; go_big_quiet_op; go_big_quiet_on) | (refine Mix.lex_quietG rfl rfl rfl (by with_reducible rfl) rfl rfl ?_; intro K hK; go_big_quiet_op; go_big_quiet_on) | ((first | refine Mix.lex_skipT rfl rfl rfl (by with_reducible rfl) ?_ | refine Mix.lex_skipF rfl rfl rfl (by with_reducible rfl) ?_ | refine Mix.lex_skipU rfl rfl rfl (by with_reducible rfl) ?_); simp only [Act.put, List.setIfInBounds_toArray, List.set_cons_succ, List.set_cons_zero]) | (refine Mix.lex_part rfl rfl rfl rfl (fun hq => ?_) (fun hq => ?_) <;> (fail_if_success (guard_hyp hq :ₛ true = true)) <;> (fail_if_success (guard_hyp hq :ₛ false = false)) <;> first | (exfalso; cases hq; done) | (exfalso; simp only [decide_eq_true_eq, decide_eq_false_iff_not, beq_iff_eq, beq_eq_false_iff_ne, ne_eq, Int.not_lt, Int.not_le] at hq; omega) | simp only [Act.put, List.setIfInBounds_toArray, List.set_cons_succ, List.set_cons_zero]))); all_goals (refine Mix.lex_nil ?_)))
          go_roundw
          case rel => exact ⟨j + 1, by omega, by go_num, L2, A2, c2, HS.out.symm, rfl, by omega, HRi.out, F5.out⟩
          case measure => simp [intOf]; omega
    · go_wp2_with (first | ((first | refine Mix.wpList_guarded rfl ?_ | refine Mix.wp_still (by kernel_rfl) (by kernel_rfl) ?_); (repeat' (first | (refine Mix.lex_quiet0 rfl rfl rfl ?_; intro K hK; go_big_quiet_op; go_big_quiet_on) | (refine Mix.lex_quietG rfl rfl rfl (by with_reducible rfl) rfl rfl ?_; intro K hK; go_big_quiet_op; go_big_quiet_on) | ((first | refine Mix.lex_skipT rfl rfl rfl (by with_reducible rfl) ?_ | refine Mix.lex_skipF rfl rfl rfl (by with_reducible rfl) ?_ | refine Mix.lex_skipU rfl rfl rfl (by with_reducible rfl) ?_); simp only [Act.put, List.setIfInBounds_toArray, List.set_cons_succ, List.set_cons_zero]) | (refine Mix.lex_part rfl rfl rfl rfl (fun hq => ?_) (fun hq => ?_) <;> (fail_if_success (guard_hyp hq :ₛ true = true)) <;> (fail_if_success (guard_hyp hq :ₛ false = false)) <;> first | (exfalso; cases hq; done) | (exfalso; simp only [decide_eq_true_eq, decide_eq_false_iff_not, beq_iff_eq, beq_eq_false_iff_ne, ne_eq, Int.not_lt, Int.not_le] at hq; omega) | simp only [Act.put, List.setIfInBounds_toArray, List.set_cons_succ, List.set_cons_zero]))); all_goals (refine Mix.lex_nil ?_)))
      go_ret
      have hL := HL.out
      rw [List.take_of_length_le (by rw [h2.1]; omega)] at hL
      rw [← hL]
      exact ⟨A1, c1, rfl, F1.out⟩
end Go.Proofs.Ytaphmmobmadfoaa

/- files.Drop, the document's Drop and Put, Check and the document's fault. -/
namespace Go.Proofs.Ytaphmmobmadfoaa
open Go Go.RowKit
theorem filter_snoc {α : Type} {p : α → Bool} {xs : List α} {k : Nat} {x : α} (hx : xs[k]? = some x) : (xs.take (k + 1)).filter p = (xs.take k).filter p ++ (if p x then [x] else []) := by
  rw [List.take_add_one, hx, List.filter_append]
  cases hp : p x <;> simp [hp]
theorem dropL_cons (k : Str) (x : File) (l : List File) : dropL fk k (x :: l) = (if x.1 = k then [] else [x]) ++ dropL fk k l := by
  unfold dropL
  rw [List.filter_cons]
  by_cases h : x.1 = k <;> simp [fk, h]
theorem putL_cons (f x : File) (l : List File) : putL fk f (x :: l) = if leB f.1 x.1 then [f] ++ (if x.1 = f.1 then [] else [x]) ++ dropL fk f.1 l else [x] ++ putL fk f l := by
  rw [putL]
  split
  · rw [show (x :: l).filter (fun y => decide (fk y ≠ fk f)) = dropL fk f.1 (x :: l) from rfl, dropL_cons, List.append_assoc]
    rfl
  · rfl
def putS (f : File) (l : List File) (b : Bool) : List File := if b then dropL fk f.1 l else putL fk f l
end Go.Proofs.Ytaphmmobmadfoaa

/- The document's Applied. -/
namespace Go.Proofs.Ytaphmmobmadfoaa
open Go Go.RowKit
theorem chenc1 (x : Ch) : ∀ u ∈ [S x.1, S x.2.1, .bool x.2.2], u.oneCell' = true := fun u hu => ch_enc1 [x] u (by simpa [chF] using hu)
theorem dropC_cons (k : Str) (x : Ch) (l : List Ch) : dropL ck k (x :: l) = (if x.1 = k then [] else [x]) ++ dropL ck k l := by
  unfold dropL
  rw [List.filter_cons]
  by_cases h : x.1 = k <;> simp [ck, h]
theorem putC_cons (f x : Ch) (l : List Ch) : putL ck f (x :: l) = if leB f.1 x.1 then [f] ++ (if x.1 = f.1 then [] else [x]) ++ dropL ck f.1 l else [x] ++ putL ck f l := by
  rw [putL]
  split
  · rw [show (x :: l).filter (fun y => decide (ck y ≠ ck f)) = dropL ck f.1 (x :: l) from rfl, dropC_cons, List.append_assoc]
    rfl
  · rfl
def putSc (f : Ch) (l : List Ch) (b : Bool) : List Ch := if b then dropL ck f.1 l else putL ck f l
set_option maxRecDepth 100000 in
set_option maxHeartbeats 4000000 in
theorem RApplied_c {w : World} {A B : Option Addr} {n m c d : Nat} {xs ys : List Ch} (h1 : SlR chF w A n xs) (h2 : SlR chF w B m ys) (hn : n ≤ 10000) (hm : m ≤ 10000) :
    Calls Try.prog 23 #[.slice A n c, .slice B m d] w fun e w' => ∃ A' c', e = .returned (.slice A' (applyL xs ys).length c') ∧ Fresh chF 61 w w' A' c' (applyL xs ys) := by
  have hl := h1.1
  have HRd := Lib.hid (h1.rd (by decide))
  clear h1
  go_enter Try.func23, Try.ntmps23
  go_wp2_with (first | (at_builtin; go_must (refine wpList_append (v := .slice none 0 0) (n := 0) (xs := []) rfl ch_ty rfl rfl rfl (World.ownsRow_nil _ _ _ _) HRd.out (ch_enc1 xs) (by omega) ?_); intro A0 c0 w5 hown5 hg5 hb5) | ((first | refine Mix.wpList_guarded rfl ?_ | refine Mix.wp_still (by kernel_rfl) (by kernel_rfl) ?_); (repeat' (first | (refine Mix.lex_quiet0 rfl rfl rfl ?_; intro K hK; go_big_quiet_op; go_big_quiet_on) | (refine Mix.lex_quietG rfl rfl rfl (by with_reducible rfl) rfl rfl ?_; intro K hK; go_big_quiet_op; go_big_quiet_on) | ((first | refine Mix.lex_skipT rfl rfl rfl (by with_reducible rfl) ?_ | refine Mix.lex_skipF rfl rfl rfl (by with_reducible rfl) ?_ | refine Mix.lex_skipU rfl rfl rfl (by with_reducible rfl) ?_); simp only [Act.put, List.setIfInBounds_toArray, List.set_cons_succ, List.set_cons_zero]) | (refine Mix.lex_part rfl rfl rfl rfl (fun hq => ?_) (fun hq => ?_) <;> (fail_if_success (guard_hyp hq :ₛ true = true)) <;> (fail_if_success (guard_hyp hq :ₛ false = false)) <;> first | (exfalso; cases hq; done) | (exfalso; simp only [decide_eq_true_eq, decide_eq_false_iff_not, beq_iff_eq, beq_eq_false_iff_ne, ne_eq, Int.not_lt, Int.not_le] at hq; omega) | simp only [Act.put, List.setIfInBounds_toArray, List.set_cons_succ, List.set_cons_zero]))); all_goals (refine Mix.lex_nil ?_)))
  have F0 : Hid (Fresh chF 61 w w5 A0 c0 xs) := by
    refine ⟨by rw [hl]; show w5.ownsRow 0 61 3 _ _ _; simpa using hown5, (Only.refl No w).grown hg5 (fun g hg => by simp [Value.ownBlock] at hg), fun g hg => ?_⟩
    rw [hl] at hg
    rw [Nat.zero_add] at hb5
    rcases hb5 with h | h
    · rw [h] at hg; simp [Value.ownBlock] at hg
    · rw [h] at hg; injection hg with hg; omega
  obtain ⟨ξ0, rfl⟩ : ∃ ξ : X w No, w5 = ξ.v := ⟨⟨w5, F0.out.ext⟩, rfl⟩
  clear hown5 hg5 hb5 HRd
  go_wp2_with (first | ((first | refine Mix.wpList_guarded rfl ?_ | refine Mix.wp_still (by kernel_rfl) (by kernel_rfl) ?_); (repeat' (first | (refine Mix.lex_quiet0 rfl rfl rfl ?_; intro K hK; go_big_quiet_op; go_big_quiet_on) | (refine Mix.lex_quietG rfl rfl rfl (by with_reducible rfl) rfl rfl ?_; intro K hK; go_big_quiet_op; go_big_quiet_on) | ((first | refine Mix.lex_skipT rfl rfl rfl (by with_reducible rfl) ?_ | refine Mix.lex_skipF rfl rfl rfl (by with_reducible rfl) ?_ | refine Mix.lex_skipU rfl rfl rfl (by with_reducible rfl) ?_); simp only [Act.put, List.setIfInBounds_toArray, List.set_cons_succ, List.set_cons_zero]) | (refine Mix.lex_part rfl rfl rfl rfl (fun hq => ?_) (fun hq => ?_) <;> (fail_if_success (guard_hyp hq :ₛ true = true)) <;> (fail_if_success (guard_hyp hq :ₛ false = false)) <;> first | (exfalso; cases hq; done) | (exfalso; simp only [decide_eq_true_eq, decide_eq_false_iff_not, beq_iff_eq, beq_eq_false_iff_ne, ne_eq, Int.not_lt, Int.not_le] at hq; omega) | simp only [Act.put, List.setIfInBounds_toArray, List.set_cons_succ, List.set_cons_zero]))); all_goals (refine Mix.lex_nil ?_)))
  go_loopw [5, 6] (fun r i wr => ∃ j : Nat, j ≤ m ∧ i = .int .i64 j ∧ ∃ L A' c', L = applyL xs (ys.take j) ∧ r = .slice A' L.length c' ∧ L.length ≤ n + j ∧ Fresh chF 61 w wr A' c' L) (fun _ i _ => m - (intOf i).toNat)
  case atStart => exact ⟨0, Nat.zero_le _, rfl, xs, A0, c0, rfl, by rw [hl], by omega, F0.out⟩
  case round =>
    clear F0 ξ0
    obtain ⟨j, hj, rfl, L, A1, c1, hL, rfl, hLn, hf⟩ := hrel
    obtain ⟨w1, hw1⟩ : ∃ w1, w1 = wr := ⟨_, rfl⟩
    subst hw1
    have F1 := Lib.hid hf
    have HL := Lib.hid hL
    clear hf hL
    by_cases hlt : j < m
    · obtain ⟨b, o, y, hBe, hy, d0, d1, d2⟩ := chs_get (h2.ext F1.out.ext) hlt
      subst hBe
      have HS : Hid (applyL xs (ys.take (j + 1)) = apply1 L y) := by rw [Hid, applyL_snoc _ _ hy, HL.out]
      have hR := F1.out.row (by decide)
      have y2 : w1.cell? ⟨b, o + j * 3 + 2, none⟩ = some (.bool y.2.2) := d2 (X.here _ _)
      clear hy
      go_wp2_with (first | ((first | refine Mix.wpList_guarded rfl ?_ | refine Mix.wp_still (by kernel_rfl) (by kernel_rfl) ?_); (repeat' (first | (refine Mix.lex_quiet0 rfl rfl rfl ?_; intro K hK; go_big_quiet_op; go_big_quiet_on) | (refine Mix.lex_quietG rfl rfl rfl (by with_reducible rfl) rfl rfl ?_; intro K hK; go_big_quiet_op; go_big_quiet_on) | ((first | refine Mix.lex_skipT rfl rfl rfl (by with_reducible rfl) ?_ | refine Mix.lex_skipF rfl rfl rfl (by with_reducible rfl) ?_ | refine Mix.lex_skipU rfl rfl rfl (by with_reducible rfl) ?_); simp only [Act.put, List.setIfInBounds_toArray, List.set_cons_succ, List.set_cons_zero]) | (refine Mix.lex_part rfl rfl rfl rfl (fun hq => ?_) (fun hq => ?_) <;> (fail_if_success (guard_hyp hq :ₛ true = true)) <;> (fail_if_success (guard_hyp hq :ₛ false = false)) <;> first | (exfalso; cases hq; done) | (exfalso; simp only [decide_eq_true_eq, decide_eq_false_iff_not, beq_iff_eq, beq_eq_false_iff_ne, ne_eq, Int.not_lt, Int.not_le] at hq; omega) | simp only [Act.put, List.setIfInBounds_toArray, List.set_cons_succ, List.set_cons_zero]))); all_goals (refine Mix.lex_nil ?_)))
      go_loopw [7, 8, 9] (fun v b' i wi => ∃ k : Nat, k ≤ L.length ∧ i = .int .i64 k ∧ ∃ N A2 c2 d', b' = .bool d' ∧ v = .slice A2 N.length c2 ∧ N.length ≤ 2 * k ∧ apply1 L y = N ++ putSc y (L.drop k) d' ∧ Fresh chF 61 w1 wi A2 c2 N) (fun _ _ i _ => L.length - (intOf i).toNat)
      case atStart => exact ⟨0, Nat.zero_le _, rfl, [], none, 0, y.2.2, rfl, rfl, by simp, rfl, Fresh.nil _ _ _ _ (Only.refl _ _)⟩
      case round =>
        clear y2
        obtain ⟨k, hk, rfl, N, A2, c2, d', rfl, rfl, hNn, hN, hf⟩ := hrel
        have F2 := Lib.hid hf
        have HN := Lib.hid hN
        obtain ⟨ξ, rfl⟩ : ∃ ξ : X w1 No, wr = ξ.v := ⟨⟨wr, hf.ext⟩, rfl⟩
        clear hf hN
        by_cases hlt2 : k < L.length
        · obtain ⟨b2, o2, x, rfl, hx, e0, e1, e2⟩ := chs_get hR hlt2
          have hdr : Hid (L.drop k = x :: L.drop (k + 1)) := by
            obtain ⟨hl, rfl⟩ := List.getElem?_eq_some_iff.1 hx
            exact List.drop_eq_getElem_cons hl
          clear hx
          have HK : Hid (leB y.1 x.1 = false → x.1 ≠ y.1) := fun h => slt_ne (leB_false h)
          obtain ⟨e, he⟩ : ∃ e, e = (x.1 == y.1) := ⟨_, rfl⟩
          have HE : Hid ((if x.1 = y.1 then [] else [x]) = if e then [] else [x]) := by
            rw [Hid, he]
            by_cases h : x.1 = y.1 <;> simp [h]
          have hd : (x.1 == y.1) = e := he.symm
          have HK2 : Hid (leB y.1 x.1 = false → e = false) := fun h => by rw [he]; simpa using HK.out h
          clear he HK
          cases d' with
          | true =>
            have HS2 : Hid (putSc y (L.drop k) true = (if e then [] else [x]) ++ putSc y (L.drop (k + 1)) true) := by
              rw [Hid, hdr.out, ← HE.out]; exact dropC_cons _ _ _
            clear HE hdr HK2
            cases e with
            | true =>
              go_wp2_with (first | ((first | refine Mix.wpList_guarded rfl ?_ | refine Mix.wp_still (by kernel_rfl) (by kernel_rfl) ?_); (repeat' (first | (refine Mix.lex_quiet0 rfl rfl rfl ?_; intro K hK; go_big_quiet_op; go_big_quiet_on) | (refine Mix.lex_quietG rfl rfl rfl (by with_reducible rfl) rfl rfl ?_; intro K hK; go_big_quiet_op; go_big_quiet_on) | ((first | refine Mix.lex_skipT rfl rfl rfl (by with_reducible rfl) ?_ | refine Mix.lex_skipF rfl rfl rfl (by with_reducible rfl) ?_ | refine Mix.lex_skipU rfl rfl rfl (by with_reducible rfl) ?_); simp only [Act.put, List.setIfInBounds_toArray, List.set_cons_succ, List.set_cons_zero]) | (refine Mix.lex_part rfl rfl rfl rfl (fun hq => ?_) (fun hq => ?_) <;> (fail_if_success (guard_hyp hq :ₛ true = true)) <;> (fail_if_success (guard_hyp hq :ₛ false = false)) <;> first | (exfalso; cases hq; done) | (exfalso; simp only [decide_eq_true_eq, decide_eq_false_iff_not, beq_iff_eq, beq_eq_false_iff_ne, ne_eq, Int.not_lt, Int.not_le] at hq; omega) | simp only [Act.put, List.setIfInBounds_toArray, List.set_cons_succ, List.set_cons_zero]))); all_goals (refine Mix.lex_nil ?_)))
              go_roundw
              case rel => exact ⟨k + 1, by omega, by go_num, N, A2, c2, true, rfl, rfl, by omega, by rw [HN.out, HS2.out]; rfl, F2.out.on (by (repeat (first | exact Only.refl _ _ | refine Only.drew ?_ | refine Only.drewN ?_ _ | refine Only.alloc ?_ _)))⟩
              case measure => simp [intOf]; omega
            | false =>
              go_wp2_with (first | (at_builtin; go_must (refine wpList_append (v := .slice A2 N.length c2) (n := N.length) (xs := N.flatMap chF.enc) rfl ch_ty rfl rfl rfl (own_ext F2.out.own (by (repeat (first | exact Only.refl _ _ | refine Only.drew ?_ | refine Only.drewN ?_ _ | refine Only.alloc ?_ _)))) (rd_one _ _ [S x.1, S x.2.1, .bool x.2.2]) (chenc1 x) (by omega) ?_); intro A3 c3 w6 hown6 hg6 hb6) | ((first | refine Mix.wpList_guarded rfl ?_ | refine Mix.wp_still (by kernel_rfl) (by kernel_rfl) ?_); (repeat' (first | (refine Mix.lex_quiet0 rfl rfl rfl ?_; intro K hK; go_big_quiet_op; go_big_quiet_on) | (refine Mix.lex_quietG rfl rfl rfl (by with_reducible rfl) rfl rfl ?_; intro K hK; go_big_quiet_op; go_big_quiet_on) | ((first | refine Mix.lex_skipT rfl rfl rfl (by with_reducible rfl) ?_ | refine Mix.lex_skipF rfl rfl rfl (by with_reducible rfl) ?_ | refine Mix.lex_skipU rfl rfl rfl (by with_reducible rfl) ?_); simp only [Act.put, List.setIfInBounds_toArray, List.set_cons_succ, List.set_cons_zero]) | (refine Mix.lex_part rfl rfl rfl rfl (fun hq => ?_) (fun hq => ?_) <;> (fail_if_success (guard_hyp hq :ₛ true = true)) <;> (fail_if_success (guard_hyp hq :ₛ false = false)) <;> first | (exfalso; cases hq; done) | (exfalso; simp only [decide_eq_true_eq, decide_eq_false_iff_not, beq_iff_eq, beq_eq_false_iff_ne, ne_eq, Int.not_lt, Int.not_le] at hq; omega) | simp only [Act.put, List.setIfInBounds_toArray, List.set_cons_succ, List.set_cons_zero]))); all_goals (refine Mix.lex_nil ?_)))
              go_roundw
              case rel => exact ⟨k + 1, by omega, by go_num, N ++ [x], A3, c3, true, rfl, by simp, by simp; omega, by rw [HN.out, HS2.out]; simp, Fresh.grow (h := F2.out.on (by (repeat (first | exact Only.refl _ _ | refine Only.drew ?_ | refine Only.drewN ?_ _ | refine Only.alloc ?_ _)))) (ys := [x]) rfl hown6 hg6 hb6⟩
              case measure => simp [intOf]; omega
          | false =>
            obtain ⟨q, hq⟩ : ∃ q, q = leB y.1 x.1 := ⟨_, rfl⟩
            rw [← hq] at HK2
            cases q with
            | false =>
              have e1' := HK2.out rfl
              subst e1'
              have HS2 : Hid (putSc y (L.drop k) false = [x] ++ putSc y (L.drop (k + 1)) false) := by
                rw [Hid, hdr.out]
                show putL ck y _ = _
                rw [putC_cons, ← hq]; rfl
              have hq' : leB y.1 x.1 = false := hq.symm
              clear HE hdr HK2 hq
              go_wp2_with (first | (at_builtin; go_must (refine wpList_append (v := .slice A2 N.length c2) (n := N.length) (xs := N.flatMap chF.enc) rfl ch_ty rfl rfl rfl (own_ext F2.out.own (by (repeat (first | exact Only.refl _ _ | refine Only.drew ?_ | refine Only.drewN ?_ _ | refine Only.alloc ?_ _)))) (rd_one _ _ [S x.1, S x.2.1, .bool x.2.2]) (chenc1 x) (by omega) ?_); intro A3 c3 w6 hown6 hg6 hb6) | ((first | refine Mix.wpList_guarded rfl ?_ | refine Mix.wp_still (by kernel_rfl) (by kernel_rfl) ?_); (repeat' (first | (refine Mix.lex_quiet0 rfl rfl rfl ?_; intro K hK; go_big_quiet_op; go_big_quiet_on) | (refine Mix.lex_quietG rfl rfl rfl (by with_reducible rfl) rfl rfl ?_; intro K hK; go_big_quiet_op; go_big_quiet_on) | ((first | refine Mix.lex_skipT rfl rfl rfl (by with_reducible rfl) ?_ | refine Mix.lex_skipF rfl rfl rfl (by with_reducible rfl) ?_ | refine Mix.lex_skipU rfl rfl rfl (by with_reducible rfl) ?_); simp only [Act.put, List.setIfInBounds_toArray, List.set_cons_succ, List.set_cons_zero]) | (refine Mix.lex_part rfl rfl rfl rfl (fun hq => ?_) (fun hq => ?_) <;> (fail_if_success (guard_hyp hq :ₛ true = true)) <;> (fail_if_success (guard_hyp hq :ₛ false = false)) <;> first | (exfalso; cases hq; done) | (exfalso; simp only [decide_eq_true_eq, decide_eq_false_iff_not, beq_iff_eq, beq_eq_false_iff_ne, ne_eq, Int.not_lt, Int.not_le] at hq; omega) | simp only [Act.put, List.setIfInBounds_toArray, List.set_cons_succ, List.set_cons_zero]))); all_goals (refine Mix.lex_nil ?_)))
              go_roundw
              case rel => exact ⟨k + 1, by omega, by go_num, N ++ [x], A3, c3, false, rfl, by simp, by simp; omega, by rw [HN.out, HS2.out]; simp, Fresh.grow (h := F2.out.on (by (repeat (first | exact Only.refl _ _ | refine Only.drew ?_ | refine Only.drewN ?_ _ | refine Only.alloc ?_ _)))) (ys := [x]) rfl hown6 hg6 hb6⟩
              case measure => simp [intOf]; omega
            | true =>
              have HS2 : Hid (putSc y (L.drop k) false = [y] ++ (if e then [] else [x]) ++ putSc y (L.drop (k + 1)) true) := by
                rw [Hid, hdr.out, ← HE.out]
                show putL ck y _ = _
                rw [putC_cons, ← hq]; rfl
              have hq' : leB y.1 x.1 = true := hq.symm
              clear HE hdr HK2 hq
              go_upto_region 12 with (first | (at_builtin; go_must (refine wpList_append (v := .slice A2 N.length c2) (n := N.length) (xs := N.flatMap chF.enc) rfl ch_ty rfl rfl rfl (own_ext F2.out.own (by (repeat (first | exact Only.refl _ _ | refine Only.drew ?_ | refine Only.drewN ?_ _ | refine Only.alloc ?_ _)))) (rd_one _ _ [S y.1, S y.2.1, .bool y.2.2]) (chenc1 y) (by omega) ?_); intro A3 c3 w6 hown6 hg6 hb6) | (refine Mix.wpList_guarded rfl ?_; (repeat' (first | (refine Mix.lex_quiet0 rfl rfl rfl ?_; intro K hK; go_big_quiet_op; go_big_quiet_on) | (refine Mix.lex_quietG rfl rfl rfl (by with_reducible rfl) rfl rfl ?_; intro K hK; go_big_quiet_op; go_big_quiet_on) | ((first | refine Mix.lex_skipT rfl rfl rfl (by with_reducible rfl) ?_ | refine Mix.lex_skipF rfl rfl rfl (by with_reducible rfl) ?_ | refine Mix.lex_skipU rfl rfl rfl (by with_reducible rfl) ?_); simp only [Act.put, List.setIfInBounds_toArray, List.set_cons_succ, List.set_cons_zero]) | (refine Mix.lex_part rfl rfl rfl rfl (fun hq => ?_) (fun hq => ?_) <;> (fail_if_success (guard_hyp hq :ₛ true = true)) <;> (fail_if_success (guard_hyp hq :ₛ false = false)) <;> first | (exfalso; cases hq; done) | (exfalso; simp only [decide_eq_true_eq, decide_eq_false_iff_not, beq_iff_eq, beq_eq_false_iff_ne, ne_eq, Int.not_lt, Int.not_le] at hq; omega) | simp only [Act.put, List.setIfInBounds_toArray, List.set_cons_succ, List.set_cons_zero]))); all_goals (refine Mix.lex_nil ?_)) | (refine Mix.wp_still (by kernel_rfl) (by kernel_rfl) ?_; (repeat' (first | (refine Mix.lex_quiet0 rfl rfl rfl ?_; intro K hK; go_big_quiet_op; go_big_quiet_on) | (refine Mix.lex_quietG rfl rfl rfl (by with_reducible rfl) rfl rfl ?_; intro K hK; go_big_quiet_op; go_big_quiet_on) | ((first | refine Mix.lex_skipT rfl rfl rfl (by with_reducible rfl) ?_ | refine Mix.lex_skipF rfl rfl rfl (by with_reducible rfl) ?_ | refine Mix.lex_skipU rfl rfl rfl (by with_reducible rfl) ?_); simp only [Act.put, List.setIfInBounds_toArray, List.set_cons_succ, List.set_cons_zero]) | (refine Mix.lex_part rfl rfl rfl rfl (fun hq => ?_) (fun hq => ?_) <;> (fail_if_success (guard_hyp hq :ₛ true = true)) <;> (fail_if_success (guard_hyp hq :ₛ false = false)) <;> first | (exfalso; cases hq; done) | (exfalso; simp only [decide_eq_true_eq, decide_eq_false_iff_not, beq_iff_eq, beq_eq_false_iff_ne, ne_eq, Int.not_lt, Int.not_le] at hq; omega) | simp only [Act.put, List.setIfInBounds_toArray, List.set_cons_succ, List.set_cons_zero]))); all_goals (refine Mix.lex_nil ?_)))
              have F3 := Lib.hid (Fresh.grow (h := F2.out.on (by (repeat (first | exact Only.refl _ _ | refine Only.drew ?_ | refine Only.drewN ?_ _ | refine Only.alloc ?_ _)))) (ys := [y]) rfl hown6 hg6 hb6)
              have hNn2 : (N ++ [y]).length ≤ 2 * k + 1 := by simp; omega
              obtain ⟨ξ2, rfl⟩ : ∃ ξ : X w1 No, w6 = ξ.v := ⟨⟨w6, F3.out.ext⟩, rfl⟩
              rw [show (Value.slice A3 (N.length + 1) c3) = Value.slice A3 (N ++ [y]).length c3 by simp]
              obtain ⟨N2, hN2⟩ : ∃ N2, N2 = N ++ [y] := ⟨_, rfl⟩
              rw [← hN2] at F3 hNn2 ⊢
              have HN2 := Lib.hid hN2
              clear hN2 hown6 hg6 hb6 F2
              cases e with
              | true =>
                go_wp2_with (first | ((first | refine Mix.wpList_guarded rfl ?_ | refine Mix.wp_still (by kernel_rfl) (by kernel_rfl) ?_); (repeat' (first | (refine Mix.lex_quiet0 rfl rfl rfl ?_; intro K hK; go_big_quiet_op; go_big_quiet_on) | (refine Mix.lex_quietG rfl rfl rfl (by with_reducible rfl) rfl rfl ?_; intro K hK; go_big_quiet_op; go_big_quiet_on) | ((first | refine Mix.lex_skipT rfl rfl rfl (by with_reducible rfl) ?_ | refine Mix.lex_skipF rfl rfl rfl (by with_reducible rfl) ?_ | refine Mix.lex_skipU rfl rfl rfl (by with_reducible rfl) ?_); simp only [Act.put, List.setIfInBounds_toArray, List.set_cons_succ, List.set_cons_zero]) | (refine Mix.lex_part rfl rfl rfl rfl (fun hq => ?_) (fun hq => ?_) <;> (fail_if_success (guard_hyp hq :ₛ true = true)) <;> (fail_if_success (guard_hyp hq :ₛ false = false)) <;> first | (exfalso; cases hq; done) | (exfalso; simp only [decide_eq_true_eq, decide_eq_false_iff_not, beq_iff_eq, beq_eq_false_iff_ne, ne_eq, Int.not_lt, Int.not_le] at hq; omega) | simp only [Act.put, List.setIfInBounds_toArray, List.set_cons_succ, List.set_cons_zero]))); all_goals (refine Mix.lex_nil ?_)))
                go_roundw
                case rel => exact ⟨k + 1, by omega, by go_num, N2, A3, c3, true, rfl, rfl, by omega, by rw [HN.out, HS2.out, HN2.out]; simp, F3.out.on (by (repeat (first | exact Only.refl _ _ | refine Only.drew ?_ | refine Only.drewN ?_ _ | refine Only.alloc ?_ _)))⟩
                case measure => simp [intOf]; omega
              | false =>
                go_wp2_with (first | (at_builtin; go_must (refine wpList_append (v := .slice A3 N2.length c3) (n := N2.length) (xs := N2.flatMap chF.enc) rfl ch_ty rfl rfl rfl (own_ext F3.out.own (by (repeat (first | exact Only.refl _ _ | refine Only.drew ?_ | refine Only.drewN ?_ _ | refine Only.alloc ?_ _)))) (rd_one _ _ [S x.1, S x.2.1, .bool x.2.2]) (chenc1 x) (by omega) ?_); intro A4 c4 w7 hown7 hg7 hb7) | ((first | refine Mix.wpList_guarded rfl ?_ | refine Mix.wp_still (by kernel_rfl) (by kernel_rfl) ?_); (repeat' (first | (refine Mix.lex_quiet0 rfl rfl rfl ?_; intro K hK; go_big_quiet_op; go_big_quiet_on) | (refine Mix.lex_quietG rfl rfl rfl (by with_reducible rfl) rfl rfl ?_; intro K hK; go_big_quiet_op; go_big_quiet_on) | ((first | refine Mix.lex_skipT rfl rfl rfl (by with_reducible rfl) ?_ | refine Mix.lex_skipF rfl rfl rfl (by with_reducible rfl) ?_ | refine Mix.lex_skipU rfl rfl rfl (by with_reducible rfl) ?_); simp only [Act.put, List.setIfInBounds_toArray, List.set_cons_succ, List.set_cons_zero]) | (refine Mix.lex_part rfl rfl rfl rfl (fun hq => ?_) (fun hq => ?_) <;> (fail_if_success (guard_hyp hq :ₛ true = true)) <;> (fail_if_success (guard_hyp hq :ₛ false = false)) <;> first | (exfalso; cases hq; done) | (exfalso; simp only [decide_eq_true_eq, decide_eq_false_iff_not, beq_iff_eq, beq_eq_false_iff_ne, ne_eq, Int.not_lt, Int.not_le] at hq; omega) | simp only [Act.put, List.setIfInBounds_toArray, List.set_cons_succ, List.set_cons_zero]))); all_goals (refine Mix.lex_nil ?_)))
                go_roundw
                case rel => exact ⟨k + 1, by omega, by go_num, N2 ++ [x], A4, c4, true, rfl, by simp, by simp; omega, by rw [HN.out, HS2.out, HN2.out]; simp, Fresh.grow (h := F3.out.on (by (repeat (first | exact Only.refl _ _ | refine Only.drew ?_ | refine Only.drewN ?_ _ | refine Only.alloc ?_ _)))) (ys := [x]) rfl hown7 hg7 hb7⟩
                case measure => simp [intOf]; omega
        · have hdn : L.drop k = [] := List.drop_eq_nil_of_le (by omega)
          have hl2 := apply1_len L y
          cases d' with
          | true =>
            have e1 : Hid (apply1 L y = N) := by rw [Hid, HN.out, hdn]; simp [putSc, dropL]
            clear hdn HN
            rw [e1.out] at hl2
            go_wp2_with (first | ((first | refine Mix.wpList_guarded rfl ?_ | refine Mix.wp_still (by kernel_rfl) (by kernel_rfl) ?_); (repeat' (first | (refine Mix.lex_quiet0 rfl rfl rfl ?_; intro K hK; go_big_quiet_op; go_big_quiet_on) | (refine Mix.lex_quietG rfl rfl rfl (by with_reducible rfl) rfl rfl ?_; intro K hK; go_big_quiet_op; go_big_quiet_on) | ((first | refine Mix.lex_skipT rfl rfl rfl (by with_reducible rfl) ?_ | refine Mix.lex_skipF rfl rfl rfl (by with_reducible rfl) ?_ | refine Mix.lex_skipU rfl rfl rfl (by with_reducible rfl) ?_); simp only [Act.put, List.setIfInBounds_toArray, List.set_cons_succ, List.set_cons_zero]) | (refine Mix.lex_part rfl rfl rfl rfl (fun hq => ?_) (fun hq => ?_) <;> (fail_if_success (guard_hyp hq :ₛ true = true)) <;> (fail_if_success (guard_hyp hq :ₛ false = false)) <;> first | (exfalso; cases hq; done) | (exfalso; simp only [decide_eq_true_eq, decide_eq_false_iff_not, beq_iff_eq, beq_eq_false_iff_ne, ne_eq, Int.not_lt, Int.not_le] at hq; omega) | simp only [Act.put, List.setIfInBounds_toArray, List.set_cons_succ, List.set_cons_zero]))); all_goals (refine Mix.lex_nil ?_)))
            go_roundw
            case rel => exact ⟨j + 1, by omega, by go_num, N, A2, c2, by rw [HS.out, e1.out], rfl, by omega, F2.out.from F1.out.ext⟩
            case measure => simp [intOf]; omega
          | false =>
            have e1 : Hid (apply1 L y = N ++ [y]) := by rw [Hid, HN.out, hdn]; simp [putSc, putL]
            clear hdn HN
            rw [e1.out] at hl2
            go_wp2_with (first | (at_builtin; go_must (refine wpList_append (v := .slice A2 N.length c2) (n := N.length) (xs := N.flatMap chF.enc) rfl ch_ty rfl rfl rfl (own_ext F2.out.own (by (repeat (first | exact Only.refl _ _ | refine Only.drew ?_ | refine Only.drewN ?_ _ | refine Only.alloc ?_ _)))) (rd_one _ _ [S y.1, S y.2.1, .bool y.2.2]) (chenc1 y) (by omega) ?_); intro A3 c3 w6 hown6 hg6 hb6) | ((first | refine Mix.wpList_guarded rfl ?_ | refine Mix.wp_still (by kernel_rfl) (by kernel_rfl) ?_); (repeat' (first | (refine Mix.lex_quiet0 rfl rfl rfl ?_; intro K hK; go_big_quiet_op; go_big_quiet_on) | (refine Mix.lex_quietG rfl rfl rfl (by with_reducible rfl) rfl rfl ?_; intro K hK; go_big_quiet_op; go_big_quiet_on) | ((first | refine Mix.lex_skipT rfl rfl rfl (by with_reducible rfl) ?_ | refine Mix.lex_skipF rfl rfl rfl (by with_reducible rfl) ?_ | refine Mix.lex_skipU rfl rfl rfl (by with_reducible rfl) ?_); simp only [Act.put, List.setIfInBounds_toArray, List.set_cons_succ, List.set_cons_zero]) | (refine Mix.lex_part rfl rfl rfl rfl (fun hq => ?_) (fun hq => ?_) <;> (fail_if_success (guard_hyp hq :ₛ true = true)) <;> (fail_if_success (guard_hyp hq :ₛ false = false)) <;> first | (exfalso; cases hq; done) | (exfalso; simp only [decide_eq_true_eq, decide_eq_false_iff_not, beq_iff_eq, beq_eq_false_iff_ne, ne_eq, Int.not_lt, Int.not_le] at hq; omega) | simp only [Act.put, List.setIfInBounds_toArray, List.set_cons_succ, List.set_cons_zero]))); all_goals (refine Mix.lex_nil ?_)))
            go_roundw
            case rel => exact ⟨j + 1, by omega, by go_num, N ++ [y], A3, c3, by rw [HS.out, e1.out], by simp, by omega, Fresh.from (Fresh.grow (h := F2.out.on (by (repeat (first | exact Only.refl _ _ | refine Only.drew ?_ | refine Only.drewN ?_ _ | refine Only.alloc ?_ _)))) (ys := [y]) rfl hown6 hg6 hb6) F1.out.ext⟩
            case measure => simp [intOf]; omega
    · go_wp2_with (first | ((first | refine Mix.wpList_guarded rfl ?_ | refine Mix.wp_still (by kernel_rfl) (by kernel_rfl) ?_); (repeat' (first | (refine Mix.lex_quiet0 rfl rfl rfl ?_; intro K hK; go_big_quiet_op; go_big_quiet_on) | (refine Mix.lex_quietG rfl rfl rfl (by with_reducible rfl) rfl rfl ?_; intro K hK; go_big_quiet_op; go_big_quiet_on) | ((first | refine Mix.lex_skipT rfl rfl rfl (by with_reducible rfl) ?_ | refine Mix.lex_skipF rfl rfl rfl (by with_reducible rfl) ?_ | refine Mix.lex_skipU rfl rfl rfl (by with_reducible rfl) ?_); simp only [Act.put, List.setIfInBounds_toArray, List.set_cons_succ, List.set_cons_zero]) | (refine Mix.lex_part rfl rfl rfl rfl (fun hq => ?_) (fun hq => ?_) <;> (fail_if_success (guard_hyp hq :ₛ true = true)) <;> (fail_if_success (guard_hyp hq :ₛ false = false)) <;> first | (exfalso; cases hq; done) | (exfalso; simp only [decide_eq_true_eq, decide_eq_false_iff_not, beq_iff_eq, beq_eq_false_iff_ne, ne_eq, Int.not_lt, Int.not_le] at hq; omega) | simp only [Act.put, List.setIfInBounds_toArray, List.set_cons_succ, List.set_cons_zero]))); all_goals (refine Mix.lex_nil ?_)))
      go_ret
      have hL := HL.out
      rw [List.take_of_length_le (by rw [h2.1]; omega)] at hL
      rw [← hL]
      exact ⟨A1, c1, rfl, F1.out⟩
end Go.Proofs.Ytaphmmobmadfoaa
