/- Put together: InsC. -/
import Derived.Test.YtaphmmobmadfoaaMc11
import Derived.Test.YtaphmmobmadfoaaMc22
/- slices.Insert of one element: changes. -/
namespace Go.Proofs.Ytaphmmobmadfoaa
open Go Go.RowKit
theorem ch_info : (Try.prog.info? 61).map (fun i => (i.zero, i.size, i.bytes)) = some (some (.agg #[S [], S [], .bool false]), 3, 40) := by kernel_rfl
theorem ch_ty : Ety Try.prog 36 61 3 := Ety.mk' Try.underlying36 ch_info rfl (by omega) (by omega)
theorem ch_enc1 : ∀ (xs : List Ch), ∀ u ∈ xs.flatMap chF.enc, u.oneCell' = true := by
  intro xs u hu
  obtain ⟨x, _, hx⟩ := List.mem_flatMap.1 hu
  simp only [chF, List.mem_cons, List.not_mem_nil, or_false] at hx
  rcases hx with rfl | rfl | rfl <;> rfl
set_option maxRecDepth 100000 in
set_option maxHeartbeats 1000000 in
theorem InsCh_end {w : World} {A : Option Addr} {n c : Nat} {xs : List Ch} (h : w.ownsRow 0 61 3 (.slice A n c) n (xs.flatMap chF.enc)) (hcap : n ≤ c) (hc : c ≤ maxLen) (x : Ch) {vb : Nat} (hv : Cs w vb 61 #[S x.1, S x.2.1, .bool x.2.2]) (hn : n ≤ 1000000) :
    Calls Try.prog 57 #[.slice A n c, .int .i64 n, .slice (some ⟨vb, 0, none⟩) 1 1] w fun e w' =>
      ∃ A' c', e = .returned (.slice A' (n + 1 : Nat) c') ∧ w'.ownsRow 0 61 3 (.slice A' (n + 1 : Nat) c') (n + 1) ((insAt n x xs).flatMap chF.enc) ∧ Turned w w' (.slice A n c) (.slice A' (n + 1 : Nat) c') := by
  have hl := SlR.of_own (T := chF) (by decide) h
  have hrd : Rd w (some ⟨vb, 0, none⟩) 1 3 [S x.1, S x.2.1, .bool x.2.2] := ⟨rfl, fun _ => ⟨vb, 0, rfl, fun j u hu => by rw [hv.cell, Nat.zero_add]; simpa using hu⟩⟩
  unfold maxLen at hc
  have H := Lib.hid h
  have HL := Lib.hid hl.1
  have HRD := Lib.hid hrd
  clear h hv hl hrd
  go_enter Try.func57, Try.ntmps57
  go_wp2_with (at_builtin; go_must (refine wpList_append (v := .slice A n c) (n := n) (xs := xs.flatMap chF.enc) rfl ch_ty rfl rfl rfl H.out HRD.out (by simp [Value.oneCell']) (by omega) ?_); intro A' c' w5 hown5 hg5 hb5)
  all_goals
    go_ret
    have e1 : (insAt n x xs).flatMap chF.enc = xs.flatMap chF.enc ++ [S x.1, S x.2.1, .bool x.2.2] := by
      unfold insAt
      rw [List.take_of_length_le (by rw [HL.out]; exact Nat.le_refl _), List.drop_eq_nil_of_le (by rw [HL.out]; exact Nat.le_refl _), List.flatMap_append]
      rfl
    exact ⟨A', c', rfl, by rw [e1]; exact hown5, (Only.refl _ _).grown hg5 (fun g hg => .inr (by cases A <;> exact hg)), fun g hg => hb5.elim (fun hb => .inl (by cases A <;> exact hb.symm.trans hg)) (fun hb => .inr (by rw [hb] at hg; injection hg with hg; omega))⟩
set_option maxRecDepth 100000 in
set_option maxHeartbeats 2000000 in
theorem InsCh_room {w : World} {g n c i : Nat} {xs : List Ch} {rest : List Value} (hg : Cs w g 61 (xs.flatMap chF.enc ++ rest).toArray) (hl : xs.length = n) (hr : (xs.flatMap chF.enc ++ rest).length = c * 3) (hi : i < n) (hcap : n + 1 ≤ c) (hc : c ≤ maxLen)
    (x : Ch) {vb : Nat} (hv : Cs w vb 61 #[S x.1, S x.2.1, .bool x.2.2]) (hne : vb ≠ g) (hn : n ≤ 1000000) :
    Calls Try.prog 57 #[.slice (some ⟨g, 0, none⟩) n c, .int .i64 i, .slice (some ⟨vb, 0, none⟩) 1 1] w fun e w' =>
      ∃ rest', e = .returned (.slice (some ⟨g, 0, none⟩) (n + 1 : Nat) c) ∧ Cs w' g 61 ((insAt i x xs).flatMap chF.enc ++ rest').toArray ∧ ((insAt i x xs).flatMap chF.enc ++ rest').length = c * 3 ∧ Only (fun b => b = g) w w' := by
  have hov : ∀ (W : World) lb cb, W = w → (callFunc 73 #[.slice (some ⟨vb, 0, none⟩) 1 1, .slice (some ⟨g, (i + 1) * 3, none⟩) lb cb]).run Try.prog W = .ok (.value (.bool false)) W := fun W lb cb e => by
    subst e
    rw [run_callFunc_extern Try.func73 (by kernel_rfl) (by kernel_rfl) (by kernel_rfl) (e := Extern.SlicesOverlaps.overlaps #[36, 36] #[4]) (by kernel_rfl),
      Lib.run_overlaps_apart W 36 4 61 Try.underlying36 3 (fun _ => by kernel_rfl) ⟨vb, 0, none⟩ ⟨g, (i + 1) * 3, none⟩ 1 1 lb cb hne _ _ _ _ hv.shape hg.shape (by rw [List.size_toArray]; omega) (hv.frozen 0) (hv.frozen _)]
    rfl
  unfold maxLen at hc
  have hX : (xs.flatMap chF.enc).length = n * 3 := by rw [length_flatMap_enc, hl]; rfl
  have HD : Hid (((xs.drop i).flatMap chF.enc).length = (n - i) * 3) := by rw [Hid, length_flatMap_enc, List.length_drop, hl]; rfl
  have HDe : Hid ((xs.drop i).flatMap chF.enc = (xs.flatMap chF.enc).drop (i * 3)) := drop_flatMap chF xs i
  have HC : Hid (∀ j u, ((xs.drop i).flatMap chF.enc)[j]? = some u → w.cell? ⟨g, i * 3 + j, none⟩ = some u) := fun j u hu => by
    rw [HDe.out, List.getElem?_drop] at hu
    rw [hg.cell, List.getElem?_toArray, List.getElem?_append_left (by have := (List.getElem?_eq_some_iff.1 hu).1; omega)]
    exact hu
  have HF : Hid ((i + 1) * 3 + (n - i) * 3 ≤ (xs.flatMap chF.enc ++ rest).length) := by rw [Hid, hr]; omega
  obtain ⟨C1, hC1⟩ : ∃ C1, C1 = (xs.flatMap chF.enc ++ rest).take ((i + 1) * 3) ++ (xs.drop i).flatMap chF.enc ++ (xs.flatMap chF.enc ++ rest).drop ((i + 1) * 3 + ((xs.drop i).flatMap chF.enc).length) := ⟨_, rfl⟩
  have HI := Lib.hid (ins_cells (xs.flatMap chF.enc) rest [S x.1, S x.2.1, .bool x.2.2] i n 3 hX rfl hi (c1 := C1) (by rw [hC1, HDe.out]))
  have HC1 := Lib.hid hC1
  have HC1l : Hid (C1.length = c * 3) := by
    rw [Hid, hC1]
    have h1 := HD.out
    have h2 := HF.out
    simp only [List.length_append, List.length_take, List.length_drop] at hr h1 h2 ⊢
    omega
  have HIe : Hid ((insAt i x xs).flatMap chF.enc = (xs.flatMap chF.enc).take (i * 3) ++ [S x.1, S x.2.1, .bool x.2.2] ++ (xs.flatMap chF.enc).drop (i * 3)) := by
    have := take_flatMap chF xs i
    have h2 := HDe.out
    rw [Hid, insAt, List.flatMap_append, List.flatMap_cons, h2, this, ← List.append_assoc]
    rfl
  have HG := Lib.hid hg
  have HV := Lib.hid hv
  have HR := Lib.hid hr
  clear hg hv hl hr hX hC1
  go_enter Try.func57, Try.ntmps57
  go_wp2
  refine Mix.wp_draw [8] 100 (Cl w (fun b => b = g)) (by kernel_rfl) (by kernel_rfl) (Cl.of (Only.refl _ _).drew) ?_
  (repeat' (first | (refine Mix.lex_quiet0 rfl rfl rfl ?_; intro K hK; go_big_quiet_op; go_big_quiet_on) | (refine Mix.lex_quietG rfl rfl rfl (by with_reducible rfl) rfl rfl ?_; intro K hK; go_big_quiet_op; go_big_quiet_on) | ((first | refine Mix.lex_skipT rfl rfl rfl (by with_reducible rfl) ?_ | refine Mix.lex_skipF rfl rfl rfl (by with_reducible rfl) ?_ | refine Mix.lex_skipU rfl rfl rfl (by with_reducible rfl) ?_); simp only [Act.put, List.setIfInBounds_toArray, List.set_cons_succ, List.set_cons_zero]) | (refine Mix.lex_part rfl rfl rfl rfl (fun hq => ?_) (fun hq => ?_) <;> (fail_if_success (guard_hyp hq :ₛ true = true)) <;> (fail_if_success (guard_hyp hq :ₛ false = false)) <;> first | (exfalso; cases hq; done) | (exfalso; simp only [decide_eq_true_eq, decide_eq_false_iff_not, beq_iff_eq, beq_eq_false_iff_ne, ne_eq, Int.not_lt, Int.not_le] at hq; omega) | simp only [Act.put, List.setIfInBounds_toArray, List.set_cons_succ, List.set_cons_zero])))
  refine Mix.lex_goes0 rfl rfl ?_
  intro K hK
  refine goes_copy_k Try.underlying36 (k := 3) (by kernel_rfl) rfl rfl rfl (cur := xs.flatMap chF.enc ++ rest) (cs := (xs.drop i).flatMap chF.enc) HG.out.drew ?_ ?_ ?_ ?_ ?_
  · rw [HD.out, show (n + 1 - i).min (n - i) = n - i by simp only [Nat.min_def]; split <;> omega]
  · exact HC.out
  · rw [HD.out]; exact HF.out
  · exact ch_enc1 _
  rw [← HC1.out]
  intro u hu hx
  have HU := Lib.hid hu
  have HX := Lib.hid ((Only.refl (fun b => b = g) w).drew.trans hx fun _ _ h => h)
  have HV2 : Hid (Cs u vb 61 #[S x.1, S x.2.1, .bool x.2.2]) := HV.out.keep HX.out hne
  refine hK _ _ (fun _ => Cl.of HX.out) ?_
  clear hK K hu hx
  simp only [Act.put, List.setIfInBounds_toArray, List.set_cons_succ, List.set_cons_zero]
  (repeat' (first | (refine Mix.lex_quiet0 rfl rfl rfl ?_; intro K hK; go_big_quiet_op; go_big_quiet_on) | (refine Mix.lex_quietG rfl rfl rfl (by with_reducible rfl) rfl rfl ?_; intro K hK; go_big_quiet_op; go_big_quiet_on) | ((first | refine Mix.lex_skipT rfl rfl rfl (by with_reducible rfl) ?_ | refine Mix.lex_skipF rfl rfl rfl (by with_reducible rfl) ?_ | refine Mix.lex_skipU rfl rfl rfl (by with_reducible rfl) ?_); simp only [Act.put, List.setIfInBounds_toArray, List.set_cons_succ, List.set_cons_zero]) | (refine Mix.lex_part rfl rfl rfl rfl (fun hq => ?_) (fun hq => ?_) <;> (fail_if_success (guard_hyp hq :ₛ true = true)) <;> (fail_if_success (guard_hyp hq :ₛ false = false)) <;> first | (exfalso; cases hq; done) | (exfalso; simp only [decide_eq_true_eq, decide_eq_false_iff_not, beq_iff_eq, beq_eq_false_iff_ne, ne_eq, Int.not_lt, Int.not_le] at hq; omega) | simp only [Act.put, List.setIfInBounds_toArray, List.set_cons_succ, List.set_cons_zero])))
  refine Mix.lex_nil ?_
  go_wp2_with (with_reducible refine wpList_copy_k rfl Try.underlying36 (k := 3) (by kernel_rfl) rfl rfl rfl (cur := C1) (cs := [S x.1, S x.2.1, .bool x.2.2]) HU.out ?_ ?_ ?_ ?_ ?_)
  · have : Nat.min 1 (n + 1 - i) = 1 := by simp only [Nat.min_def]; split <;> omega
    rw [this]; rfl
  · intro j y hy
    rw [HV2.out.cell, Nat.zero_add]; simpa using hy
  · rw [HC1l.out]; show i * 3 + 3 ≤ c * 3; omega
  · intro y hy
    exact ch_enc1 [x] y (by simpa [chF] using hy)
  intro v hv hx2
  have HI2 := HI.out
  have HIe2 := HIe.out
  have HC2 := HC1l.out
  have HX2 := Lib.hid (HX.out.trans hx2 fun _ _ h => h)
  have HV3 := Lib.hid hv
  clear HC1 HC1l HC HDe hv hx2 HU
  have fin : Hid (Cs v g 61 ((insAt i x xs).flatMap chF.enc ++ ((xs.flatMap chF.enc ++ rest).drop ((n + 1) * 3))).toArray ∧ ((insAt i x xs).flatMap chF.enc ++ ((xs.flatMap chF.enc ++ rest).drop ((n + 1) * 3))).length = c * 3) := by
    rw [HIe2]
    have e1 : C1.take (i * 3) ++ S x.1 :: S x.2.1 :: Value.bool x.2.2 :: C1.drop (i * 3 + 3) = (xs.flatMap chF.enc).take (i * 3) ++ [S x.1, S x.2.1, .bool x.2.2] ++ (xs.flatMap chF.enc).drop (i * 3) ++ (xs.flatMap chF.enc ++ rest).drop ((n + 1) * 3) := by
      rw [← HI2]; simp
    refine ⟨by rw [← e1]; exact HV3.out, ?_⟩
    rw [← e1]
    simp only [List.length_append, List.length_take, List.length_cons, List.length_drop, HC2]
    omega
  clear HI2 HIe2 HC2 HI HIe HV3
  go_wp2
  go_ret
  exact ⟨_, rfl, fin.out.1, fin.out.2, HX2.out⟩
set_option maxRecDepth 100000 in
set_option maxHeartbeats 2000000 in
theorem InsCh_grow {w : World} {g n i : Nat} {xs : List Ch} {rest : List Value} (hg : Cs w g 61 (xs.flatMap chF.enc ++ rest).toArray) (hl : xs.length = n) (hi : i < n)
    (x : Ch) {vb : Nat} (hv : Cs w vb 61 #[S x.1, S x.2.1, .bool x.2.2]) (hn : n ≤ 1000000) :
    Calls Try.prog 57 #[.slice (some ⟨g, 0, none⟩) n n, .int .i64 i, .slice (some ⟨vb, 0, none⟩) 1 1] w fun e w' =>
      ∃ c rest', e = .returned (.slice (some ⟨w.heap.size, 0, none⟩) (n + 1 : Nat) c) ∧ Cs w' w.heap.size 61 ((insAt i x xs).flatMap chF.enc ++ rest').toArray ∧ ((insAt i x xs).flatMap chF.enc ++ rest').length = c * 3 ∧ n + 1 ≤ c ∧ c ≤ maxLen ∧ Ext w w' := by
  obtain ⟨i0, hi0, hz0, hz1, hz2⟩ := info_parts ch_info
  have hX : (xs.flatMap chF.enc).length = n * 3 := by rw [length_flatMap_enc, hl]; rfl
  have HD : Hid (((xs.drop i).flatMap chF.enc).length = (n - i) * 3) := by rw [Hid, length_flatMap_enc, List.length_drop, hl]; rfl
  have HO : Hid (((xs.take i).flatMap chF.enc).length = i * 3) := by rw [Hid, length_flatMap_enc, List.length_take, hl, Nat.min_eq_left (by omega)]; rfl
  have HDc : Hid (∀ j u, ((xs.drop i).flatMap chF.enc)[j]? = some u → w.cell? ⟨g, i * 3 + j, none⟩ = some u) := fun j u hu => by
    have e1 : (xs.drop i).flatMap chF.enc = (xs.flatMap chF.enc).drop (i * 3) := drop_flatMap chF xs i
    rw [e1, List.getElem?_drop] at hu
    rw [hg.cell, List.getElem?_toArray, List.getElem?_append_left (by have := (List.getElem?_eq_some_iff.1 hu).1; omega)]
    exact hu
  have HOc : Hid (∀ j u, ((xs.take i).flatMap chF.enc)[j]? = some u → w.cell? ⟨g, 0 + j, none⟩ = some u) := fun j u hu => by
    have e1 : (xs.take i).flatMap chF.enc = (xs.flatMap chF.enc).take (i * 3) := take_flatMap chF xs i
    have hj := (List.getElem?_eq_some_iff.1 hu).1
    rw [HO.out] at hj
    rw [e1, List.getElem?_take_of_lt hj] at hu
    rw [Nat.zero_add, hg.cell, List.getElem?_toArray, List.getElem?_append_left (by omega)]
    exact hu
  have HIe : Hid ((insAt i x xs).flatMap chF.enc = (xs.take i).flatMap chF.enc ++ [S x.1, S x.2.1, .bool x.2.2] ++ (xs.drop i).flatMap chF.enc) := by
    rw [Hid, insAt, List.flatMap_append, List.flatMap_cons, ← List.append_assoc]
    rfl
  have HG := Lib.hid hg
  have HV := Lib.hid hv
  have HS0 := Lib.hid hz1
  have hs0 : 0 < i0.size := by omega
  have hb0 : i0.bytes ≤ 256 := by omega
  have HI0 := Lib.hid hi0
  have HZ0 := Lib.hid hz0
  have hgw := hg.lt
  have hvw := hv.lt
  clear hg hv hl hX hi0 hz0 hz1 hz2
  go_enter Try.func57, Try.ntmps57
  go_upto_region 10 with (at_builtin; go_must (refine wpList_zeros (m := n + 1 - i) rfl Try.underlying36 Try.underlying3 HI0.out HZ0.out rfl rfl ?hx1 (olds := (xs.take i).flatMap chF.enc) (by rw [HO.out, HS0.out]) HOc.out (by omega) hs0 (by omega) hb0 (by omega) ?hx2); case' hx2 => (intro cap hc1 hc2; generalize hW1 : w.drew.alloc _ = W1))
  case hx1 => (show Value.int .i64 ((n : Int) + 1 - i) = _; congr 1; omega)
  have hm : i + (n + 1 - i) = n + 1 := by omega
  have E1 : Hid (Ext w W1) := by rw [Hid, ← hW1]; exact (Only.refl No w).drew.alloc _
  obtain ⟨Z1, hZ1⟩ : ∃ Z1, Z1 = (Builtin.zeroCells (Value.agg #[S [], S [], .bool false]).cells (n + 1 - i)).toList := ⟨_, rfl⟩
  obtain ⟨Z2, hZ2⟩ : ∃ Z2, Z2 = (Builtin.zeroCells (Value.agg #[S [], S [], .bool false]).cells (cap - (i + (n + 1 - i)))).toList := ⟨_, rfl⟩
  obtain ⟨N, hN⟩ : ∃ N, N = w.heap.size := ⟨_, rfl⟩
  obtain ⟨O, hO⟩ : ∃ O, O = (xs.take i).flatMap chF.enc := ⟨_, rfl⟩
  obtain ⟨D, hD⟩ : ∃ D, D = (xs.drop i).flatMap chF.enc := ⟨_, rfl⟩
  have C1 : Hid (Cs W1 N 61 (O ++ Z1 ++ Z2).toArray) := by
    rw [Hid, ← hW1, hZ1, hZ2, hN, hO]
    exact Cs.new w.drew _ _
  have LZ1 : Hid (Z1.length = (n + 1 - i) * 3) := by rw [Hid, hZ1, length_zeroCells]; rfl
  have LZ2 : Hid (Z2.length = (cap - (n + 1)) * 3) := by rw [Hid, hZ2, length_zeroCells, hm]; rfl
  have V1 : Hid (Cs W1 vb 61 #[S x.1, S x.2.1, .bool x.2.2]) := HV.out.keep E1.out id
  have D1 : Hid (∀ j u, D[j]? = some u → W1.cell? ⟨g, i * 3 + j, none⟩ = some u) := fun j u hu => by
    rw [E1.out.cell hgw id]; exact HDc.out j u (hD ▸ hu)
  have hDe := Lib.hid hD
  rw [← hO] at HO HIe
  rw [← hD] at HD HIe
  rw [hm] at hc1
  rw [hm, ← hN]
  have hgN : g ≠ N := by omega
  have hvN : vb ≠ N := by omega
  have HN := Lib.hid hN
  have HO' := Lib.hid HO.out
  have HD' := Lib.hid HD.out
  clear hZ1 hZ2 hO hD hN hm hW1 HDc HOc HG HV HI0 HZ0 HS0 hs0 hb0 HO HD
  obtain ⟨CC, hCC⟩ : ∃ CC, CC = O ++ Z1 ++ Z2 := ⟨_, rfl⟩
  rw [← hCC] at C1
  have HCC := Lib.hid hCC
  clear hCC
  go_wp2_with (with_reducible refine wpList_copy_k rfl Try.underlying36 (k := 3) (by kernel_rfl) rfl rfl rfl (cur := CC) (cs := [S x.1, S x.2.1, .bool x.2.2]) C1.out ?_ ?_ ?_ ?_ ?_)
  · have : Nat.min 1 (n + 1 - i) = 1 := by simp only [Nat.min_def]; split <;> omega
    rw [this]; rfl
  · intro j y hy
    rw [V1.out.cell, Nat.zero_add]; simpa using hy
  · have h1 := HO'.out; have h2 := LZ1.out; have h3 := LZ2.out
    rw [HCC.out]
    simp only [List.length_append, h1, h2, h3, List.length_cons, List.length_nil]; omega
  · intro y hy
    exact ch_enc1 [x] y (by simpa [chF] using hy)
  intro u hu hx
  have hu : Cs u N 61 (O ++ [S x.1, S x.2.1, .bool x.2.2] ++ Z1.drop 3 ++ Z2).toArray := by
    rw [← grow_cells1 O Z1 Z2 [S x.1, S x.2.1, .bool x.2.2] i 3 HO'.out rfl (by rw [LZ1.out]; omega), ← HCC.out]
    simpa using hu
  have C2 := Lib.hid hu
  have E2 := Lib.hid hx
  have D2 : Hid (∀ j u', D[j]? = some u' → u.cell? ⟨g, i * 3 + j, none⟩ = some u') := fun j u' hu' => by
    rw [hx.cell (Nat.lt_of_lt_of_le hgw E1.out.size) hgN]; exact D1.out j u' hu'
  clear hu hx C1 V1 D1 HCC
  go_wp2_with (first | ((first | refine Mix.wpList_guarded rfl ?_ | refine Mix.wp_still (by kernel_rfl) (by kernel_rfl) ?_); (repeat' (first | (refine Mix.lex_quiet0 rfl rfl rfl ?_; intro K hK; go_big_quiet_op; go_big_quiet_on) | (refine Mix.lex_quietG rfl rfl rfl (by with_reducible rfl) rfl rfl ?_; intro K hK; go_big_quiet_op; go_big_quiet_on) | ((first | refine Mix.lex_skipT rfl rfl rfl (by with_reducible rfl) ?_ | refine Mix.lex_skipF rfl rfl rfl (by with_reducible rfl) ?_ | refine Mix.lex_skipU rfl rfl rfl (by with_reducible rfl) ?_); simp only [Act.put, List.setIfInBounds_toArray, List.set_cons_succ, List.set_cons_zero]) | (refine Mix.lex_part rfl rfl rfl rfl (fun hq => ?_) (fun hq => ?_) <;> (fail_if_success (guard_hyp hq :ₛ true = true)) <;> (fail_if_success (guard_hyp hq :ₛ false = false)) <;> first | (exfalso; cases hq; done) | (exfalso; simp only [decide_eq_true_eq, decide_eq_false_iff_not, beq_iff_eq, beq_eq_false_iff_ne, ne_eq, Int.not_lt, Int.not_le] at hq; omega) | simp only [Act.put, List.setIfInBounds_toArray, List.set_cons_succ, List.set_cons_zero]))); all_goals (refine Mix.lex_nil ?_)))
  refine Mix.wp_draw [8] 100 (Cl u (fun b => b = N)) (by kernel_rfl) (by kernel_rfl) (Cl.of (Only.refl _ _).drew) ?_
  (repeat' (first | (refine Mix.lex_quiet0 rfl rfl rfl ?_; intro K hK; go_big_quiet_op; go_big_quiet_on) | (refine Mix.lex_quietG rfl rfl rfl (by with_reducible rfl) rfl rfl ?_; intro K hK; go_big_quiet_op; go_big_quiet_on) | ((first | refine Mix.lex_skipT rfl rfl rfl (by with_reducible rfl) ?_ | refine Mix.lex_skipF rfl rfl rfl (by with_reducible rfl) ?_ | refine Mix.lex_skipU rfl rfl rfl (by with_reducible rfl) ?_); simp only [Act.put, List.setIfInBounds_toArray, List.set_cons_succ, List.set_cons_zero]) | (refine Mix.lex_part rfl rfl rfl rfl (fun hq => ?_) (fun hq => ?_) <;> (fail_if_success (guard_hyp hq :ₛ true = true)) <;> (fail_if_success (guard_hyp hq :ₛ false = false)) <;> first | (exfalso; cases hq; done) | (exfalso; simp only [decide_eq_true_eq, decide_eq_false_iff_not, beq_iff_eq, beq_eq_false_iff_ne, ne_eq, Int.not_lt, Int.not_le] at hq; omega) | simp only [Act.put, List.setIfInBounds_toArray, List.set_cons_succ, List.set_cons_zero])))
  refine Mix.lex_goes0 rfl rfl ?_
  intro K hK
  refine goes_copy_k Try.underlying36 (k := 3) (by kernel_rfl) rfl rfl rfl (cur := O ++ [S x.1, S x.2.1, .bool x.2.2] ++ Z1.drop 3 ++ Z2) (cs := D) C2.out.drew ?_ ?_ ?_ ?_ ?_
  · rw [HD'.out]; congr 1; simp only [Nat.min_def]; split <;> omega
  · exact D2.out
  · have h1 := HO'.out; have h2 := LZ1.out; have h3 := LZ2.out; have h4 := HD'.out
    simp only [List.length_append, List.length_drop, h1, h2, h3, h4, List.length_cons, List.length_nil]; omega
  · intro y hy
    rw [hDe.out] at hy
    exact ch_enc1 _ y hy
  rw [grow_cells2 O Z1 Z2 [S x.1, S x.2.1, .bool x.2.2] D i 3 HO'.out rfl (by rw [LZ1.out, HD'.out]; omega)]
  intro v hv hx
  have C3 : Hid (Cs v N 61 ((insAt i x xs).flatMap chF.enc ++ Z2).toArray) := by rw [Hid, HIe.out]; exact hv
  have LC : Hid (((insAt i x xs).flatMap chF.enc ++ Z2).length = cap * 3) := by
    have h1 := HO'.out; have h3 := LZ2.out; have h4 := HD'.out
    rw [Hid, HIe.out]
    simp only [List.length_append, h1, h3, h4, List.length_cons, List.length_nil]; omega
  have E3 : Hid (Ext w v) := by
    have := E1.out.trans (G := fun b => b = N) (E2.out.trans ((Only.refl _ u).drew.trans hx fun _ _ h => h) fun _ _ h => h) fun b hb e => by have := HN.out; omega
    exact this
  refine hK _ _ (fun _ => Cl.of ((Only.refl _ u).drew.trans hx fun _ _ h => h)) ?_
  clear hK K hv hx C2 D2 HIe HO' HD' LZ1 LZ2 E1 E2
  simp only [Act.put, List.setIfInBounds_toArray, List.set_cons_succ, List.set_cons_zero]
  (repeat' (first | (refine Mix.lex_quiet0 rfl rfl rfl ?_; intro K hK; go_big_quiet_op; go_big_quiet_on) | (refine Mix.lex_quietG rfl rfl rfl (by with_reducible rfl) rfl rfl ?_; intro K hK; go_big_quiet_op; go_big_quiet_on) | ((first | refine Mix.lex_skipT rfl rfl rfl (by with_reducible rfl) ?_ | refine Mix.lex_skipF rfl rfl rfl (by with_reducible rfl) ?_ | refine Mix.lex_skipU rfl rfl rfl (by with_reducible rfl) ?_); simp only [Act.put, List.setIfInBounds_toArray, List.set_cons_succ, List.set_cons_zero]) | (refine Mix.lex_part rfl rfl rfl rfl (fun hq => ?_) (fun hq => ?_) <;> (fail_if_success (guard_hyp hq :ₛ true = true)) <;> (fail_if_success (guard_hyp hq :ₛ false = false)) <;> first | (exfalso; cases hq; done) | (exfalso; simp only [decide_eq_true_eq, decide_eq_false_iff_not, beq_iff_eq, beq_eq_false_iff_ne, ne_eq, Int.not_lt, Int.not_le] at hq; omega) | simp only [Act.put, List.setIfInBounds_toArray, List.set_cons_succ, List.set_cons_zero])))
  refine Mix.lex_nil ?_
  go_wp2
  go_ret
  have hNe := HN.out
  subst hNe
  exact ⟨cap, Z2, rfl, C3.out, LC.out, hc1, hc2, E3.out⟩
theorem InsCh_c {w : World} {A : Option Addr} {n c i : Nat} {xs : List Ch} (h : w.ownsRow 0 61 3 (.slice A n c) n (xs.flatMap chF.enc)) (hi : i ≤ n) (x : Ch) {vb : Nat} (hv : Cs w vb 61 #[S x.1, S x.2.1, .bool x.2.2]) (hne : (Value.slice A n c).ownBlock ≠ some vb) (hn : n ≤ 1000000) :
    Calls Try.prog 57 #[.slice A n c, .int .i64 i, .slice (some ⟨vb, 0, none⟩) 1 1] w fun e w' =>
      ∃ A' c', e = .returned (.slice A' (n + 1 : Nat) c') ∧ w'.ownsRow 0 61 3 (.slice A' (n + 1 : Nat) c') (n + 1) ((insAt i x xs).flatMap chF.enc) ∧ Turned w w' (.slice A n c) (.slice A' (n + 1 : Nat) c') := by
  have hl := (SlR.of_own (T := chF) (by decide) h).1
  by_cases e : i = n
  · subst e
    rcases h.2 with ⟨hv', h0⟩ | ⟨g, cap, cur, hv', hb, hh, hnc, hc, _⟩
    · injection hv' with h1 h2 h3
      exact InsCh_end h (by omega) (by rw [h3]; exact Nat.zero_le _) x hv hn
    · injection hv' with h1 h2 h3
      exact InsCh_end h (by omega) (by rw [h3]; exact hc) x hv hn
  · obtain ⟨g, rest, rfl, hg, hX, hr, hnc, hm⟩ := own_block h (by omega) (by decide)
    have hI : ((insAt i x xs).flatMap chF.enc).length = (n + 1) * 3 := by
      rw [length_flatMap_enc]
      simp only [insAt, List.length_append, List.length_take, List.length_cons, List.length_drop, hl, chF]
      omega
    by_cases hroom : n + 1 ≤ c
    · refine (InsCh_room hg hl hr (by omega) hroom hm x hv (fun e => hne (by rw [e]; rfl)) hn).mono ?_
      rintro e w' ⟨rest', rfl, h1, h2, h3⟩
      exact ⟨_, _, rfl, own_of_block h1 (Nat.zero_le _) hI h2 hroom hm, ⟨h3.weak fun b _ e => by subst e; rfl, fun g' hg' => .inl hg'⟩⟩
    · obtain rfl : c = n := by omega
      refine (InsCh_grow hg hl (by omega) x hv hn).mono ?_
      rintro e w' ⟨c', rest', rfl, h1, h2, h3, h4, h5⟩
      refine ⟨_, _, rfl, own_of_block h1 (Nat.zero_le _) hI h2 h3 h4, ⟨h5.any, fun g' hg' => .inr ?_⟩⟩
      simp [Value.ownBlock] at hg'
      omega
end Go.Proofs.Ytaphmmobmadfoaa
