/- Put together: Ins. -/
import Derived.Test.YtnhaekifcieeoaaGreatDoorMa09
import Derived.Test.YtnhaekifcieeoaaGreatDoorMa08
import Derived.Test.YtnhaekifcieeoaaGreatDoorMa12
/- slices.Insert of one element. -/
namespace Go.Proofs.YtnhaekifcieeoaaGreatDoor
open Go Go.RowKit
theorem file_info : (Tryz.prog.info? 75).map (fun i => (i.zero, i.size, i.bytes)) = some (some (.agg #[S [], S []]), 2, 32) := by kernel_rfl
theorem file_ty : Ety Tryz.prog 22 75 2 := Ety.mk' Tryz.underlying22 file_info rfl (by omega) (by omega)
/-- A row that was made out of another one: in its block, or in a new one. -/
structure Turned (w w' : World) (v v' : Value) : Prop where
  o : Only (fun b => v.ownBlock = some b) w w'
  b : ∀ g, v'.ownBlock = some g → v.ownBlock = some g ∨ w.heap.size ≤ g
def insAt {α : Type} (i : Nat) (x : α) (xs : List α) : List α := xs.take i ++ x :: xs.drop i
theorem file_enc1 : ∀ (xs : List File), ∀ u ∈ xs.flatMap fileF.enc, u.oneCell' = true := by
  intro xs u hu
  obtain ⟨x, _, hx⟩ := List.mem_flatMap.1 hu
  rcases List.mem_cons.1 hx with rfl | hx
  · rfl
  · rcases List.mem_cons.1 hx with rfl | hx
    · rfl
    · cases hx
set_option maxRecDepth 100000 in
set_option maxHeartbeats 1000000 in
theorem InsFile_end {w : World} {A : Option Addr} {n c : Nat} {xs : List File} (h : w.ownsRow 0 75 2 (.slice A n c) n (xs.flatMap fileF.enc)) (hcap : n ≤ c) (hc : c ≤ maxLen) (x : File) {vb : Nat} (hv : Cs w vb 75 #[S x.1, S x.2]) (hn : n ≤ 1000000) :
    Calls Tryz.prog 55 #[.slice A n c, .int .i64 n, .slice (some ⟨vb, 0, none⟩) 1 1] w fun e w' =>
      ∃ A' c', e = .returned (.slice A' (n + 1 : Nat) c') ∧ w'.ownsRow 0 75 2 (.slice A' (n + 1 : Nat) c') (n + 1) ((insAt n x xs).flatMap fileF.enc) ∧ Turned w w' (.slice A n c) (.slice A' (n + 1 : Nat) c') := by
  have hl := SlR.of_own (T := fileF) (by decide) h
  have hrd : Rd w (some ⟨vb, 0, none⟩) 1 2 [S x.1, S x.2] := ⟨rfl, fun _ => ⟨vb, 0, rfl, fun j u hu => by rw [hv.cell, Nat.zero_add]; simpa using hu⟩⟩
  unfold maxLen at hc
  have H := Lib.hid h
  have HL := Lib.hid hl.1
  have HRD := Lib.hid hrd
  clear h hv hl hrd
  go_enter Tryz.func55, Tryz.ntmps55
  go_wp2_with (at_builtin; go_must (refine wpList_append (v := .slice A n c) (n := n) (xs := xs.flatMap fileF.enc) rfl file_ty rfl rfl rfl H.out HRD.out (by simp [Value.oneCell']) (by omega) ?_); intro A' c' w5 hown5 hg5 hb5)
  all_goals
    go_ret
    have e1 : (insAt n x xs).flatMap fileF.enc = xs.flatMap fileF.enc ++ [S x.1, S x.2] := by
      unfold insAt
      rw [List.take_of_length_le (by rw [HL.out]; exact Nat.le_refl _), List.drop_eq_nil_of_le (by rw [HL.out]; exact Nat.le_refl _), List.flatMap_append]
      rfl
    exact ⟨A', c', rfl, by rw [e1]; exact hown5, (Only.refl _ _).grown hg5 (fun g hg => .inr (by cases A <;> exact hg)), fun g hg => hb5.elim (fun hb => .inl (by cases A <;> exact hb.symm.trans hg)) (fun hb => .inr (by rw [hb] at hg; injection hg with hg; omega))⟩
set_option maxRecDepth 100000 in
set_option maxHeartbeats 2000000 in
theorem InsFile_room {w : World} {g n c i : Nat} {xs : List File} {rest : List Value} (hg : Cs w g 75 (xs.flatMap fileF.enc ++ rest).toArray) (hl : xs.length = n) (hr : (xs.flatMap fileF.enc ++ rest).length = c * 2) (hi : i < n) (hcap : n + 1 ≤ c) (hc : c ≤ maxLen)
    (x : File) {vb : Nat} (hv : Cs w vb 75 #[S x.1, S x.2]) (hne : vb ≠ g) (hn : n ≤ 1000000) :
    Calls Tryz.prog 55 #[.slice (some ⟨g, 0, none⟩) n c, .int .i64 i, .slice (some ⟨vb, 0, none⟩) 1 1] w fun e w' =>
      ∃ rest', e = .returned (.slice (some ⟨g, 0, none⟩) (n + 1 : Nat) c) ∧ Cs w' g 75 ((insAt i x xs).flatMap fileF.enc ++ rest').toArray ∧ ((insAt i x xs).flatMap fileF.enc ++ rest').length = c * 2 ∧ Only (fun b => b = g) w w' := by
  have hov : ∀ (W : World) lb cb, W = w → (callFunc 81 #[.slice (some ⟨vb, 0, none⟩) 1 1, .slice (some ⟨g, (i + 1) * 2, none⟩) lb cb]).run Tryz.prog W = .ok (.value (.bool false)) W := fun W lb cb e => by
    subst e
    rw [run_callFunc_extern Tryz.func81 (by kernel_rfl) (by kernel_rfl) (by kernel_rfl) (e := Extern.SlicesOverlaps.overlaps #[22, 22] #[4]) (by kernel_rfl),
      Lib.run_overlaps_apart W 22 4 75 Tryz.underlying22 2 (fun _ => by kernel_rfl) ⟨vb, 0, none⟩ ⟨g, (i + 1) * 2, none⟩ 1 1 lb cb hne _ _ _ _ hv.shape hg.shape (by rw [List.size_toArray]; omega) (hv.frozen 0) (hv.frozen _)]
    rfl
  unfold maxLen at hc
  have hX : (xs.flatMap fileF.enc).length = n * 2 := by rw [length_flatMap_enc, hl]; rfl
  have HD : Hid (((xs.drop i).flatMap fileF.enc).length = (n - i) * 2) := by rw [Hid, length_flatMap_enc, List.length_drop, hl]; rfl
  have HDe : Hid ((xs.drop i).flatMap fileF.enc = (xs.flatMap fileF.enc).drop (i * 2)) := drop_flatMap fileF xs i
  have HC : Hid (∀ j u, ((xs.drop i).flatMap fileF.enc)[j]? = some u → w.cell? ⟨g, i * 2 + j, none⟩ = some u) := fun j u hu => by
    rw [HDe.out, List.getElem?_drop] at hu
    rw [hg.cell, List.getElem?_toArray, List.getElem?_append_left (by have := (List.getElem?_eq_some_iff.1 hu).1; omega)]
    exact hu
  have HF : Hid ((i + 1) * 2 + (n - i) * 2 ≤ (xs.flatMap fileF.enc ++ rest).length) := by rw [Hid, hr]; omega
  obtain ⟨C1, hC1⟩ : ∃ C1, C1 = (xs.flatMap fileF.enc ++ rest).take ((i + 1) * 2) ++ (xs.drop i).flatMap fileF.enc ++ (xs.flatMap fileF.enc ++ rest).drop ((i + 1) * 2 + ((xs.drop i).flatMap fileF.enc).length) := ⟨_, rfl⟩
  have HI := Lib.hid (ins_cells (xs.flatMap fileF.enc) rest [S x.1, S x.2] i n 2 hX rfl hi (c1 := C1) (by rw [hC1, HDe.out]))
  have HC1 := Lib.hid hC1
  have HC1l : Hid (C1.length = c * 2) := by
    rw [Hid, hC1]
    have h1 := HD.out
    have h2 := HF.out
    simp only [List.length_append, List.length_take, List.length_drop] at hr h1 h2 ⊢
    omega
  have HIe : Hid ((insAt i x xs).flatMap fileF.enc = (xs.flatMap fileF.enc).take (i * 2) ++ [S x.1, S x.2] ++ (xs.flatMap fileF.enc).drop (i * 2)) := by
    have := take_flatMap fileF xs i
    have h2 := HDe.out
    rw [Hid, insAt, List.flatMap_append, List.flatMap_cons, h2, this, ← List.append_assoc]
    rfl
  have HG := Lib.hid hg
  have HV := Lib.hid hv
  have HR := Lib.hid hr
  clear hg hv hl hr hX hC1
  go_enter Tryz.func55, Tryz.ntmps55
  go_wp2
  refine Mix.wp_draw [8] 100 (Cl w (fun b => b = g)) (by kernel_rfl) (by kernel_rfl) (Cl.of (Only.refl _ _).drew) ?_
  (repeat' (first | (refine Mix.lex_quiet0 rfl rfl rfl ?_; intro K hK; go_big_quiet_op; go_big_quiet_on) | (refine Mix.lex_quietG rfl rfl rfl (by with_reducible rfl) rfl rfl ?_; intro K hK; go_big_quiet_op; go_big_quiet_on) | ((first | refine Mix.lex_skipT rfl rfl rfl (by with_reducible rfl) ?_ | refine Mix.lex_skipF rfl rfl rfl (by with_reducible rfl) ?_ | refine Mix.lex_skipU rfl rfl rfl (by with_reducible rfl) ?_); simp only [Act.put, List.setIfInBounds_toArray, List.set_cons_succ, List.set_cons_zero]) | (refine Mix.lex_part rfl rfl rfl rfl (fun hq => ?_) (fun hq => ?_) <;> (fail_if_success (guard_hyp hq :ₛ true = true)) <;> (fail_if_success (guard_hyp hq :ₛ false = false)) <;> first | (exfalso; cases hq; done) | (exfalso; simp only [decide_eq_true_eq, decide_eq_false_iff_not, beq_iff_eq, beq_eq_false_iff_ne, ne_eq, Int.not_lt, Int.not_le] at hq; omega) | simp only [Act.put, List.setIfInBounds_toArray, List.set_cons_succ, List.set_cons_zero])))
  refine Mix.lex_goes0 rfl rfl ?_
  intro K hK
  refine goes_copy_k Tryz.underlying22 (k := 2) (by kernel_rfl) rfl rfl rfl (cur := xs.flatMap fileF.enc ++ rest) (cs := (xs.drop i).flatMap fileF.enc) HG.out.drew ?_ ?_ ?_ ?_ ?_
  · rw [HD.out, show (n + 1 - i).min (n - i) = n - i by simp only [Nat.min_def]; split <;> omega]
  · exact HC.out
  · rw [HD.out]; exact HF.out
  · exact file_enc1 _
  rw [← HC1.out]
  intro u hu hx
  have HU := Lib.hid hu
  have HX := Lib.hid ((Only.refl (fun b => b = g) w).drew.trans hx fun _ _ h => h)
  have HV2 : Hid (Cs u vb 75 #[S x.1, S x.2]) := HV.out.keep HX.out hne
  refine hK _ _ (fun _ => Cl.of HX.out) ?_
  clear hK K hu hx
  simp only [Act.put, List.setIfInBounds_toArray, List.set_cons_succ, List.set_cons_zero]
  (repeat' (first | (refine Mix.lex_quiet0 rfl rfl rfl ?_; intro K hK; go_big_quiet_op; go_big_quiet_on) | (refine Mix.lex_quietG rfl rfl rfl (by with_reducible rfl) rfl rfl ?_; intro K hK; go_big_quiet_op; go_big_quiet_on) | ((first | refine Mix.lex_skipT rfl rfl rfl (by with_reducible rfl) ?_ | refine Mix.lex_skipF rfl rfl rfl (by with_reducible rfl) ?_ | refine Mix.lex_skipU rfl rfl rfl (by with_reducible rfl) ?_); simp only [Act.put, List.setIfInBounds_toArray, List.set_cons_succ, List.set_cons_zero]) | (refine Mix.lex_part rfl rfl rfl rfl (fun hq => ?_) (fun hq => ?_) <;> (fail_if_success (guard_hyp hq :ₛ true = true)) <;> (fail_if_success (guard_hyp hq :ₛ false = false)) <;> first | (exfalso; cases hq; done) | (exfalso; simp only [decide_eq_true_eq, decide_eq_false_iff_not, beq_iff_eq, beq_eq_false_iff_ne, ne_eq, Int.not_lt, Int.not_le] at hq; omega) | simp only [Act.put, List.setIfInBounds_toArray, List.set_cons_succ, List.set_cons_zero])))
  refine Mix.lex_nil ?_
  go_wp2_with (with_reducible refine wpList_copy_k rfl Tryz.underlying22 (k := 2) (by kernel_rfl) rfl rfl rfl (cur := C1) (cs := [S x.1, S x.2]) HU.out ?_ ?_ ?_ ?_ ?_)
  · have : Nat.min 1 (n + 1 - i) = 1 := by simp only [Nat.min_def]; split <;> omega
    rw [this]; rfl
  · intro j y hy
    rw [HV2.out.cell, Nat.zero_add]; simpa using hy
  · rw [HC1l.out]; show i * 2 + 2 ≤ c * 2; omega
  · intro y hy
    exact file_enc1 [x] y (by simpa [fileF] using hy)
  intro v hv hx2
  have HI2 := HI.out
  have HIe2 := HIe.out
  have HC2 := HC1l.out
  have HX2 := Lib.hid (HX.out.trans hx2 fun _ _ h => h)
  have HV3 := Lib.hid hv
  clear HC1 HC1l HC HDe hv hx2 HU
  have fin : Hid (Cs v g 75 ((insAt i x xs).flatMap fileF.enc ++ ((xs.flatMap fileF.enc ++ rest).drop ((n + 1) * 2))).toArray ∧ ((insAt i x xs).flatMap fileF.enc ++ ((xs.flatMap fileF.enc ++ rest).drop ((n + 1) * 2))).length = c * 2) := by
    rw [HIe2]
    have e1 : C1.take (i * 2) ++ S x.1 :: S x.2 :: C1.drop (i * 2 + 2) = (xs.flatMap fileF.enc).take (i * 2) ++ [S x.1, S x.2] ++ (xs.flatMap fileF.enc).drop (i * 2) ++ (xs.flatMap fileF.enc ++ rest).drop ((n + 1) * 2) := by
      rw [← HI2]; simp
    refine ⟨by rw [← e1]; exact HV3.out, ?_⟩
    rw [← e1]
    simp only [List.length_append, List.length_take, List.length_cons, List.length_drop, HC2]
    omega
  clear HI2 HIe2 HC2 HI HIe HV3
  go_wp2
  go_ret
  exact ⟨_, rfl, fin.out.1, fin.out.2, HX2.out⟩
set_option maxRecDepth 100000 in
set_option maxHeartbeats 2000000 in
theorem InsFile_grow {w : World} {g n i : Nat} {xs : List File} {rest : List Value} (hg : Cs w g 75 (xs.flatMap fileF.enc ++ rest).toArray) (hl : xs.length = n) (hi : i < n)
    (x : File) {vb : Nat} (hv : Cs w vb 75 #[S x.1, S x.2]) (hn : n ≤ 1000000) :
    Calls Tryz.prog 55 #[.slice (some ⟨g, 0, none⟩) n n, .int .i64 i, .slice (some ⟨vb, 0, none⟩) 1 1] w fun e w' =>
      ∃ c rest', e = .returned (.slice (some ⟨w.heap.size, 0, none⟩) (n + 1 : Nat) c) ∧ Cs w' w.heap.size 75 ((insAt i x xs).flatMap fileF.enc ++ rest').toArray ∧ ((insAt i x xs).flatMap fileF.enc ++ rest').length = c * 2 ∧ n + 1 ≤ c ∧ c ≤ maxLen ∧ Ext w w' := by
  obtain ⟨i0, hi0, hz0, hz1, hz2⟩ := info_parts file_info
  have hX : (xs.flatMap fileF.enc).length = n * 2 := by rw [length_flatMap_enc, hl]; rfl
  have HD : Hid (((xs.drop i).flatMap fileF.enc).length = (n - i) * 2) := by rw [Hid, length_flatMap_enc, List.length_drop, hl]; rfl
  have HO : Hid (((xs.take i).flatMap fileF.enc).length = i * 2) := by rw [Hid, length_flatMap_enc, List.length_take, hl, Nat.min_eq_left (by omega)]; rfl
  have HDc : Hid (∀ j u, ((xs.drop i).flatMap fileF.enc)[j]? = some u → w.cell? ⟨g, i * 2 + j, none⟩ = some u) := fun j u hu => by
    have e1 : (xs.drop i).flatMap fileF.enc = (xs.flatMap fileF.enc).drop (i * 2) := drop_flatMap fileF xs i
    rw [e1, List.getElem?_drop] at hu
    rw [hg.cell, List.getElem?_toArray, List.getElem?_append_left (by have := (List.getElem?_eq_some_iff.1 hu).1; omega)]
    exact hu
  have HOc : Hid (∀ j u, ((xs.take i).flatMap fileF.enc)[j]? = some u → w.cell? ⟨g, 0 + j, none⟩ = some u) := fun j u hu => by
    have e1 : (xs.take i).flatMap fileF.enc = (xs.flatMap fileF.enc).take (i * 2) := take_flatMap fileF xs i
    have hj := (List.getElem?_eq_some_iff.1 hu).1
    rw [HO.out] at hj
    rw [e1, List.getElem?_take_of_lt hj] at hu
    rw [Nat.zero_add, hg.cell, List.getElem?_toArray, List.getElem?_append_left (by omega)]
    exact hu
  have HIe : Hid ((insAt i x xs).flatMap fileF.enc = (xs.take i).flatMap fileF.enc ++ [S x.1, S x.2] ++ (xs.drop i).flatMap fileF.enc) := by
    rw [Hid, insAt, List.flatMap_append, List.flatMap_cons, ← List.append_assoc]
    rfl
  have HG := Lib.hid hg
  have HV := Lib.hid hv
  have HS0 := Lib.hid hz1
  have hs0 : 0 < i0.size := by omega
  have hb0 : i0.bytes ≤ 256 := by omega
  have HI0 := Lib.hid hi0
  have HZ0 := Lib.hid hz0
  have hgw := hg.lt
  have hvw := hv.lt
  clear hg hv hl hX hi0 hz0 hz1 hz2
  go_enter Tryz.func55, Tryz.ntmps55
  go_upto_region 10 with (at_builtin; go_must (refine wpList_zeros (m := n + 1 - i) rfl Tryz.underlying22 Tryz.underlying3 HI0.out HZ0.out rfl rfl ?hx1 (olds := (xs.take i).flatMap fileF.enc) (by rw [HO.out, HS0.out]) HOc.out (by omega) hs0 (by omega) hb0 (by omega) ?hx2); case' hx2 => (intro cap hc1 hc2; generalize hW1 : w.drew.alloc _ = W1))
  case hx1 => (show Value.int .i64 ((n : Int) + 1 - i) = _; congr 1; omega)
  have hm : i + (n + 1 - i) = n + 1 := by omega
  have E1 : Hid (Ext w W1) := by rw [Hid, ← hW1]; exact (Only.refl No w).drew.alloc _
  obtain ⟨Z1, hZ1⟩ : ∃ Z1, Z1 = (Builtin.zeroCells (Value.agg #[S [], S []]).cells (n + 1 - i)).toList := ⟨_, rfl⟩
  obtain ⟨Z2, hZ2⟩ : ∃ Z2, Z2 = (Builtin.zeroCells (Value.agg #[S [], S []]).cells (cap - (i + (n + 1 - i)))).toList := ⟨_, rfl⟩
  obtain ⟨N, hN⟩ : ∃ N, N = w.heap.size := ⟨_, rfl⟩
  obtain ⟨O, hO⟩ : ∃ O, O = (xs.take i).flatMap fileF.enc := ⟨_, rfl⟩
  obtain ⟨D, hD⟩ : ∃ D, D = (xs.drop i).flatMap fileF.enc := ⟨_, rfl⟩
  have C1 : Hid (Cs W1 N 75 (O ++ Z1 ++ Z2).toArray) := by
    rw [Hid, ← hW1, hZ1, hZ2, hN, hO]
    exact Cs.new w.drew _ _
  have LZ1 : Hid (Z1.length = (n + 1 - i) * 2) := by rw [Hid, hZ1, length_zeroCells]; rfl
  have LZ2 : Hid (Z2.length = (cap - (n + 1)) * 2) := by rw [Hid, hZ2, length_zeroCells, hm]; rfl
  have V1 : Hid (Cs W1 vb 75 #[S x.1, S x.2]) := HV.out.keep E1.out id
  have D1 : Hid (∀ j u, D[j]? = some u → W1.cell? ⟨g, i * 2 + j, none⟩ = some u) := fun j u hu => by
    rw [E1.out.cell hgw id]; exact HDc.out j u (hD ▸ hu)
  have hDe := Lib.hid hD
  rw [← hO] at HO HIe
  rw [← hD] at HD HIe
  rw [hm] at hc1
  rw [hm, ← hN]
  have hgN : g ≠ N := by omega
  have hvN : vb ≠ N := by omega
  have HN := Lib.hid hN
  have HO' := Lib.hid HO.out
  have HD' := Lib.hid HD.out
  clear hZ1 hZ2 hO hD hN hm hW1 HDc HOc HG HV HI0 HZ0 HS0 hs0 hb0 HO HD
  obtain ⟨CC, hCC⟩ : ∃ CC, CC = O ++ Z1 ++ Z2 := ⟨_, rfl⟩
  rw [← hCC] at C1
  have HCC := Lib.hid hCC
  clear hCC
  go_wp2_with (with_reducible refine wpList_copy_k rfl Tryz.underlying22 (k := 2) (by kernel_rfl) rfl rfl rfl (cur := CC) (cs := [S x.1, S x.2]) C1.out ?_ ?_ ?_ ?_ ?_)
  · have : Nat.min 1 (n + 1 - i) = 1 := by simp only [Nat.min_def]; split <;> omega
    rw [this]; rfl
  · intro j y hy
    rw [V1.out.cell, Nat.zero_add]; simpa using hy
  · have h1 := HO'.out; have h2 := LZ1.out; have h3 := LZ2.out
    rw [HCC.out]
    simp only [List.length_append, h1, h2, h3, List.length_cons, List.length_nil]; omega
  · intro y hy
    exact file_enc1 [x] y (by simpa [fileF] using hy)
  intro u hu hx
  have hu : Cs u N 75 (O ++ [S x.1, S x.2] ++ Z1.drop 2 ++ Z2).toArray := by
    rw [← grow_cells1 O Z1 Z2 [S x.1, S x.2] i 2 HO'.out rfl (by rw [LZ1.out]; omega), ← HCC.out]
    simpa using hu
  have C2 := Lib.hid hu
  have E2 := Lib.hid hx
  have D2 : Hid (∀ j u', D[j]? = some u' → u.cell? ⟨g, i * 2 + j, none⟩ = some u') := fun j u' hu' => by
    rw [hx.cell (Nat.lt_of_lt_of_le hgw E1.out.size) hgN]; exact D1.out j u' hu'
  clear hu hx C1 V1 D1 HCC
  go_wp2_with (first | ((first | refine Mix.wpList_guarded rfl ?_ | refine Mix.wp_still (by kernel_rfl) (by kernel_rfl) ?_); (repeat' (first | (refine Mix.lex_quiet0 rfl rfl rfl ?_; intro K hK; go_big_quiet_op; go_big_quiet_on) | (refine Mix.lex_quietG rfl rfl rfl (by with_reducible rfl) rfl rfl ?_; intro K hK; go_big_quiet_op; go_big_quiet_on) | ((first | refine Mix.lex_skipT rfl rfl rfl (by with_reducible rfl) ?_ | refine Mix.lex_skipF rfl rfl rfl (by with_reducible rfl) ?_ | refine Mix.lex_skipU rfl rfl rfl (by with_reducible rfl) ?_); simp only [Act.put, List.setIfInBounds_toArray, List.set_cons_succ, List.set_cons_zero]) | (refine Mix.lex_part rfl rfl rfl rfl (fun hq => ?_) (fun hq => ?_) <;> (fail_if_success (guard_hyp hq :ₛ true = true)) <;> (fail_if_success (guard_hyp hq :ₛ false = false)) <;> first | (exfalso; cases hq; done) | (exfalso; simp only [decide_eq_true_eq, decide_eq_false_iff_not, beq_iff_eq, beq_eq_false_iff_ne, ne_eq, Int.not_lt, Int.not_le] at hq; omega) | simp only [Act.put, List.setIfInBounds_toArray, List.set_cons_succ, List.set_cons_zero]))); all_goals (refine Mix.lex_nil ?_)))
  refine Mix.wp_draw [8] 100 (Cl u (fun b => b = N)) (by kernel_rfl) (by kernel_rfl) (Cl.of (Only.refl _ _).drew) ?_
  (repeat' (first | (refine Mix.lex_quiet0 rfl rfl rfl ?_; intro K hK; go_big_quiet_op; go_big_quiet_on) | (refine Mix.lex_quietG rfl rfl rfl (by with_reducible rfl) rfl rfl ?_; intro K hK; go_big_quiet_op; go_big_quiet_on) | ((first | refine Mix.lex_skipT rfl rfl rfl (by with_reducible rfl) ?_ | refine Mix.lex_skipF rfl rfl rfl (by with_reducible rfl) ?_ | refine Mix.lex_skipU rfl rfl rfl (by with_reducible rfl) ?_); simp only [Act.put, List.setIfInBounds_toArray, List.set_cons_succ, List.set_cons_zero]) | (refine Mix.lex_part rfl rfl rfl rfl (fun hq => ?_) (fun hq => ?_) <;> (fail_if_success (guard_hyp hq :ₛ true = true)) <;> (fail_if_success (guard_hyp hq :ₛ false = false)) <;> first | (exfalso; cases hq; done) | (exfalso; simp only [decide_eq_true_eq, decide_eq_false_iff_not, beq_iff_eq, beq_eq_false_iff_ne, ne_eq, Int.not_lt, Int.not_le] at hq; omega) | simp only [Act.put, List.setIfInBounds_toArray, List.set_cons_succ, List.set_cons_zero])))
  refine Mix.lex_goes0 rfl rfl ?_
  intro K hK
  refine goes_copy_k Tryz.underlying22 (k := 2) (by kernel_rfl) rfl rfl rfl (cur := O ++ [S x.1, S x.2] ++ Z1.drop 2 ++ Z2) (cs := D) C2.out.drew ?_ ?_ ?_ ?_ ?_
  · rw [HD'.out]; congr 1; simp only [Nat.min_def]; split <;> omega
  · exact D2.out
  · have h1 := HO'.out; have h2 := LZ1.out; have h3 := LZ2.out; have h4 := HD'.out
    simp only [List.length_append, List.length_drop, h1, h2, h3, h4, List.length_cons, List.length_nil]; omega
  · intro y hy
    rw [hDe.out] at hy
    exact file_enc1 _ y hy
  rw [grow_cells2 O Z1 Z2 [S x.1, S x.2] D i 2 HO'.out rfl (by rw [LZ1.out, HD'.out]; omega)]
  intro v hv hx
  have C3 : Hid (Cs v N 75 ((insAt i x xs).flatMap fileF.enc ++ Z2).toArray) := by rw [Hid, HIe.out]; exact hv
  have LC : Hid (((insAt i x xs).flatMap fileF.enc ++ Z2).length = cap * 2) := by
    have h1 := HO'.out; have h3 := LZ2.out; have h4 := HD'.out
    rw [Hid, HIe.out]
    simp only [List.length_append, h1, h3, h4, List.length_cons, List.length_nil]; omega
  have E3 : Hid (Ext w v) := by
    have := E1.out.trans (G := fun b => b = N) (E2.out.trans ((Only.refl _ u).drew.trans hx fun _ _ h => h) fun _ _ h => h) fun b hb e => by have := HN.out; omega
    exact this
  refine hK _ _ (fun _ => Cl.of ((Only.refl _ u).drew.trans hx fun _ _ h => h)) ?_
  clear hK K hv hx C2 D2 HIe HO' HD' LZ1 LZ2 E1 E2
  simp only [Act.put, List.setIfInBounds_toArray, List.set_cons_succ, List.set_cons_zero]
  (repeat' (first | (refine Mix.lex_quiet0 rfl rfl rfl ?_; intro K hK; go_big_quiet_op; go_big_quiet_on) | (refine Mix.lex_quietG rfl rfl rfl (by with_reducible rfl) rfl rfl ?_; intro K hK; go_big_quiet_op; go_big_quiet_on) | ((first | refine Mix.lex_skipT rfl rfl rfl (by with_reducible rfl) ?_ | refine Mix.lex_skipF rfl rfl rfl (by with_reducible rfl) ?_ | refine Mix.lex_skipU rfl rfl rfl (by with_reducible rfl) ?_); simp only [Act.put, List.setIfInBounds_toArray, List.set_cons_succ, List.set_cons_zero]) | (refine Mix.lex_part rfl rfl rfl rfl (fun hq => ?_) (fun hq => ?_) <;> (fail_if_success (guard_hyp hq :ₛ true = true)) <;> (fail_if_success (guard_hyp hq :ₛ false = false)) <;> first | (exfalso; cases hq; done) | (exfalso; simp only [decide_eq_true_eq, decide_eq_false_iff_not, beq_iff_eq, beq_eq_false_iff_ne, ne_eq, Int.not_lt, Int.not_le] at hq; omega) | simp only [Act.put, List.setIfInBounds_toArray, List.set_cons_succ, List.set_cons_zero])))
  refine Mix.lex_nil ?_
  go_wp2
  go_ret
  have hNe := HN.out
  subst hNe
  exact ⟨cap, Z2, rfl, C3.out, LC.out, hc1, hc2, E3.out⟩
theorem InsFile_c {w : World} {A : Option Addr} {n c i : Nat} {xs : List File} (h : w.ownsRow 0 75 2 (.slice A n c) n (xs.flatMap fileF.enc)) (hi : i ≤ n) (x : File) {vb : Nat} (hv : Cs w vb 75 #[S x.1, S x.2]) (hne : (Value.slice A n c).ownBlock ≠ some vb) (hn : n ≤ 1000000) :
    Calls Tryz.prog 55 #[.slice A n c, .int .i64 i, .slice (some ⟨vb, 0, none⟩) 1 1] w fun e w' =>
      ∃ A' c', e = .returned (.slice A' (n + 1 : Nat) c') ∧ w'.ownsRow 0 75 2 (.slice A' (n + 1 : Nat) c') (n + 1) ((insAt i x xs).flatMap fileF.enc) ∧ Turned w w' (.slice A n c) (.slice A' (n + 1 : Nat) c') := by
  have hl := (SlR.of_own (T := fileF) (by decide) h).1
  by_cases e : i = n
  · subst e
    rcases h.2 with ⟨hv', h0⟩ | ⟨g, cap, cur, hv', hb, hh, hnc, hc, _⟩
    · injection hv' with h1 h2 h3
      exact InsFile_end h (by omega) (by rw [h3]; exact Nat.zero_le _) x hv hn
    · injection hv' with h1 h2 h3
      exact InsFile_end h (by omega) (by rw [h3]; exact hc) x hv hn
  · obtain ⟨g, rest, rfl, hg, hX, hr, hnc, hm⟩ := own_block h (by omega) (by decide)
    have hI : ((insAt i x xs).flatMap fileF.enc).length = (n + 1) * 2 := by
      rw [length_flatMap_enc]
      simp only [insAt, List.length_append, List.length_take, List.length_cons, List.length_drop, hl, fileF]
      omega
    by_cases hroom : n + 1 ≤ c
    · refine (InsFile_room hg hl hr (by omega) hroom hm x hv (fun e => hne (by rw [e]; rfl)) hn).mono ?_
      rintro e w' ⟨rest', rfl, h1, h2, h3⟩
      exact ⟨_, _, rfl, own_of_block h1 (Nat.zero_le _) hI h2 hroom hm, ⟨h3.weak fun b _ e => by subst e; rfl, fun g' hg' => .inl hg'⟩⟩
    · obtain rfl : c = n := by omega
      refine (InsFile_grow hg hl (by omega) x hv hn).mono ?_
      rintro e w' ⟨c', rest', rfl, h1, h2, h3, h4, h5⟩
      refine ⟨_, _, rfl, own_of_block h1 (Nat.zero_le _) hI h2 h3 h4, ⟨h5.any, fun g' hg' => .inr ?_⟩⟩
      simp [Value.ownBlock] at hg'
      omega
end Go.Proofs.YtnhaekifcieeoaaGreatDoor
