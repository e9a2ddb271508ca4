import Derived.Test.YtdiablabpaankaaRef3
namespace Go.Proofs.Ytdiablabpaankaa
open Go Go.RowKit
set_option maxHeartbeats 2000000 in
theorem RRestart_c {w : World} {r : DkR} {d : Dk} (h : RefAt w r d) (K : Nat) (hK : K < 18446744073709551616) (hw : d.wait.length ≤ 1000000) :
    Calls Try.prog 19 #[pt r.g, .int .u64 K] w (RfRes w r (d.restarted K) (.tuple #[])) := by
  obtain ⟨Aw, cw, hwv⟩ := own_slice h.wait
  have H := Lib.hid h
  have HV := Lib.hid hwv
  have hkw : Hid (∀ g, r.wv.ownBlock = some g → ¬ g = r.kg) := fun g hg e => by
    obtain ⟨cur, hcur⟩ := Cs.of_own H.out.kept
    exact own_ne H.out.wait hcur (by decide) (by rw [hg, e])
  clear h hwv
  have hcs : ∀ η : X w (fun b => b = r.kg), Cs η.v r.g 50 (r.cells d) := fun η => H.out.cs.keep η.h (fun e => H.out.gk e.symm)
  have e0 : ∀ η : X w (fun b => b = r.kg), η.v.cell? ⟨r.g, 0, none⟩ = _ := fun η => (hcs η).cell 0
  have e2 : ∀ η : X w (fun b => b = r.kg), η.v.cell? ⟨r.g, 2, none⟩ = _ := fun η => (hcs η).cell 2
  simp only [List.getElem?_toArray, List.getElem?_cons_succ, List.getElem?_cons_zero] at e0 e2
  rw [HV.out] at e2
  clear hcs
  have hmost := H.out.fine.most
  go_enter Try.func19, Try.ntmps19
  go_wp2_with (first | (refine Mix.wpList_guarded rfl ?_; (repeat' (first | (refine Mix.lex_quiet0 rfl rfl rfl ?_; intro K hK; go_big_quiet_op; go_big_quiet_on) | (refine Mix.lex_quietG rfl rfl rfl (by with_reducible rfl) rfl rfl ?_; intro K hK; go_big_quiet_op; go_big_quiet_on) | ((first | refine Mix.lex_skipT rfl rfl rfl (by with_reducible rfl) ?_ | refine Mix.lex_skipF rfl rfl rfl (by with_reducible rfl) ?_ | refine Mix.lex_skipU rfl rfl rfl (by with_reducible rfl) ?_); simp only [Act.put, List.setIfInBounds_toArray, List.set_cons_succ, List.set_cons_zero]) | (refine Mix.lex_part rfl rfl rfl rfl (fun hq => ?_) (fun hq => ?_) <;> (fail_if_success (guard_hyp hq :ₛ true = true)) <;> (fail_if_success (guard_hyp hq :ₛ false = false)) <;> first | (exfalso; cases hq; done) | (exfalso; simp only [decide_eq_true_eq, decide_eq_false_iff_not, beq_iff_eq, beq_eq_false_iff_ne, ne_eq, Int.not_lt, Int.not_le] at hq; omega) | simp only [Act.put, List.setIfInBounds_toArray, List.set_cons_succ, List.set_cons_zero]))); all_goals (refine Mix.lex_nil ?_)) | (refine Mix.wp_still (by kernel_rfl) (by kernel_rfl) ?_; (repeat' (first | (refine Mix.lex_quiet0 rfl rfl rfl ?_; intro K hK; go_big_quiet_op; go_big_quiet_on) | (refine Mix.lex_quietG rfl rfl rfl (by with_reducible rfl) rfl rfl ?_; intro K hK; go_big_quiet_op; go_big_quiet_on) | ((first | refine Mix.lex_skipT rfl rfl rfl (by with_reducible rfl) ?_ | refine Mix.lex_skipF rfl rfl rfl (by with_reducible rfl) ?_ | refine Mix.lex_skipU rfl rfl rfl (by with_reducible rfl) ?_); simp only [Act.put, List.setIfInBounds_toArray, List.set_cons_succ, List.set_cons_zero]) | (refine Mix.lex_part rfl rfl rfl rfl (fun hq => ?_) (fun hq => ?_) <;> (fail_if_success (guard_hyp hq :ₛ true = true)) <;> (fail_if_success (guard_hyp hq :ₛ false = false)) <;> first | (exfalso; cases hq; done) | (exfalso; simp only [decide_eq_true_eq, decide_eq_false_iff_not, beq_iff_eq, beq_eq_false_iff_ne, ne_eq, Int.not_lt, Int.not_le] at hq; omega) | simp only [Act.put, List.setIfInBounds_toArray, List.set_cons_succ, List.set_cons_zero]))); all_goals (refine Mix.lex_nil ?_)))
  go_loopw [4] (fun i wr => ∃ k : Nat, k ≤ d.wait.length ∧ i = .int .i64 k ∧ ∃ kd, keepFrom K d.kept d.wait 0 = keepFrom K kd (d.wait.drop k) k ∧ kd.length = d.now.length ∧
      wr.ownsRow 0 9 1 (.slice (some ⟨r.kg, 0, none⟩) d.now.length r.kc) d.now.length (kd.map S) ∧ ∃ ξ : X w (fun b => b = r.kg), wr = ξ.v) (fun i _ => d.wait.length - (intOf i).toNat)
  case atStart => exact ⟨0, Nat.zero_le _, rfl, d.kept, rfl, H.out.fine.len, H.out.kept, X.here _ _, rfl⟩
  case round =>
    obtain ⟨k, hk, rfl, kd, hF, hkd, hown, ξ, rfl⟩ := hrel
    have HF := Lib.hid hF
    have HO := Lib.hid hown
    have HKD := Lib.hid hkd
    clear hF hown hkd
    by_cases hlt : k < d.wait.length
    · obtain ⟨gw, rfl⟩ := own_some (by have := H.out.wait; rw [HV.out] at this; exact this) (by omega : 0 < d.wait.length)
      have hcells : ∀ η : X w (fun b => b = r.kg), η.v.cell? ⟨gw, k * 2, none⟩ = some (.int .i64 (d.wait[k].1 : Int)) ∧ η.v.cell? ⟨gw, k * 2 + 1, none⟩ = some (S d.wait[k].2) := fun η => by
        have := own_keep H.out.wait η.h hkw.out
        rw [HV.out] at this
        exact waitCell this hlt
      have e3 := fun η => (hcells η).1
      have e4 := fun η => (hcells η).2
      clear hcells
      go_wp2_with (first | (refine Mix.wpList_guarded rfl ?_; (repeat' (first | (refine Mix.lex_quiet0 rfl rfl rfl ?_; intro K hK; go_big_quiet_op; go_big_quiet_on) | (refine Mix.lex_quietG rfl rfl rfl (by with_reducible rfl) rfl rfl ?_; intro K hK; go_big_quiet_op; go_big_quiet_on) | ((first | refine Mix.lex_skipT rfl rfl rfl (by with_reducible rfl) ?_ | refine Mix.lex_skipF rfl rfl rfl (by with_reducible rfl) ?_ | refine Mix.lex_skipU rfl rfl rfl (by with_reducible rfl) ?_); simp only [Act.put, List.setIfInBounds_toArray, List.set_cons_succ, List.set_cons_zero]) | (refine Mix.lex_part rfl rfl rfl rfl (fun hq => ?_) (fun hq => ?_) <;> (fail_if_success (guard_hyp hq :ₛ true = true)) <;> (fail_if_success (guard_hyp hq :ₛ false = false)) <;> first | (exfalso; cases hq; done) | (exfalso; simp only [decide_eq_true_eq, decide_eq_false_iff_not, beq_iff_eq, beq_eq_false_iff_ne, ne_eq, Int.not_lt, Int.not_le] at hq; omega) | simp only [Act.put, List.setIfInBounds_toArray, List.set_cons_succ, List.set_cons_zero]))); all_goals (refine Mix.lex_nil ?_)) | (refine Mix.wp_still (by kernel_rfl) (by kernel_rfl) ?_; (repeat' (first | (refine Mix.lex_quiet0 rfl rfl rfl ?_; intro K hK; go_big_quiet_op; go_big_quiet_on) | (refine Mix.lex_quietG rfl rfl rfl (by with_reducible rfl) rfl rfl ?_; intro K hK; go_big_quiet_op; go_big_quiet_on) | ((first | refine Mix.lex_skipT rfl rfl rfl (by with_reducible rfl) ?_ | refine Mix.lex_skipF rfl rfl rfl (by with_reducible rfl) ?_ | refine Mix.lex_skipU rfl rfl rfl (by with_reducible rfl) ?_); simp only [Act.put, List.setIfInBounds_toArray, List.set_cons_succ, List.set_cons_zero]) | (refine Mix.lex_part rfl rfl rfl rfl (fun hq => ?_) (fun hq => ?_) <;> (fail_if_success (guard_hyp hq :ₛ true = true)) <;> (fail_if_success (guard_hyp hq :ₛ false = false)) <;> first | (exfalso; cases hq; done) | (exfalso; simp only [decide_eq_true_eq, decide_eq_false_iff_not, beq_iff_eq, beq_eq_false_iff_ne, ne_eq, Int.not_lt, Int.not_le] at hq; omega) | simp only [Act.put, List.setIfInBounds_toArray, List.set_cons_succ, List.set_cons_zero]))); all_goals (refine Mix.lex_nil ?_)))
      · have hkeep : keeps K k = true := by rw [← keeps_eq K k hK]; assumption
        have HT : Hid (keepFrom K d.kept d.wait 0 = keepFrom K (kd.set d.wait[k].1 d.wait[k].2) (d.wait.drop (k + 1)) (k + 1)) := by
          rw [Hid, HF.out, keepFrom_at K kd d.wait k hlt, hkeep]; rfl
        have hat : d.wait[k].1 < d.now.length := H.out.fine.at_ _ (List.getElem_mem hlt)
        refine Mix.wp_draw [21] 21 (Cl w (fun b => b = r.kg)) (by kernel_rfl) (by kernel_rfl) (Cl.drew_ ξ) ?_
        (repeat' (first | (refine Mix.lex_quiet0 rfl rfl rfl ?_; intro K hK; go_big_quiet_op; go_big_quiet_on) | (refine Mix.lex_quietG rfl rfl rfl (by with_reducible rfl) rfl rfl ?_; intro K hK; go_big_quiet_op; go_big_quiet_on) | ((first | refine Mix.lex_skipT rfl rfl rfl (by with_reducible rfl) ?_ | refine Mix.lex_skipF rfl rfl rfl (by with_reducible rfl) ?_ | refine Mix.lex_skipU rfl rfl rfl (by with_reducible rfl) ?_); simp only [Act.put, List.setIfInBounds_toArray, List.set_cons_succ, List.set_cons_zero]) | (refine Mix.lex_part rfl rfl rfl rfl (fun hq => ?_) (fun hq => ?_) <;> (fail_if_success (guard_hyp hq :ₛ true = true)) <;> (fail_if_success (guard_hyp hq :ₛ false = false)) <;> first | (exfalso; cases hq; done) | (exfalso; simp only [decide_eq_true_eq, decide_eq_false_iff_not, beq_iff_eq, beq_eq_false_iff_ne, ne_eq, Int.not_lt, Int.not_le] at hq; omega) | simp only [Act.put, List.setIfInBounds_toArray, List.set_cons_succ, List.set_cons_zero])))
        have hkl : d.wait[k].1 < (kd.map S).length := by rw [List.length_map, HKD.out]; exact hat
        have s1 : ξ.v.cell? ⟨r.kg, d.wait[k].1, none⟩ = some ((kd.map S)[d.wait[k].1]'hkl) := by
          rw [HO.out.cellAt _ (by omega), List.getElem?_eq_getElem hkl]
        have s2 := HO.out.frozenAt d.wait[k].1
        ((first | refine Mix.lex_goes0 rfl rfl ?_ | refine Mix.lex_goesG rfl rfl rfl (by with_reducible rfl) rfl ?_); intro K hK; go_simp)
        refine hK _ _ (fun hne => absurd rfl hne) ?_
        clear hK K
        simp only [Act.put, List.setIfInBounds_toArray, List.set_cons_succ, List.set_cons_zero]
        refine Mix.lex_nil ?_
        go_wp2
        go_roundw
        case rel =>
          have ho := own_set HO.out d.wait[k].1 hat (S d.wait[k].2)
          rw [← List.map_set] at ho
          exact ⟨k + 1, by omega, by go_num, kd.set d.wait[k].1 d.wait[k].2, HT.out, by rw [List.length_set, HKD.out], ho, ⟨_, (ξ.h.setCell (p := ⟨r.kg, _, none⟩) (.inr rfl) _).drew⟩, rfl⟩
        case measure => simp [intOf]; omega
      · have hkeep : keeps K k = false := by rw [← keeps_eq K k hK]; assumption
        have HT : Hid (keepFrom K d.kept d.wait 0 = keepFrom K kd (d.wait.drop (k + 1)) (k + 1)) := by
          rw [Hid, HF.out, keepFrom_at K kd d.wait k hlt, hkeep]; rfl
        go_roundw
        case rel => exact ⟨k + 1, by omega, by go_num, kd, HT.out, HKD.out, HO.out, ξ, rfl⟩
        case measure => simp [intOf]; omega
    · have hke : k = d.wait.length := by omega
      have HT : Hid (kd = keepFrom K d.kept d.wait 0) := by rw [Hid, HF.out, hke, List.drop_length]; rfl
      clear hke
      have C1 := Lib.hid (H.out.cs.keep ξ.h (fun e => H.out.gk e.symm))
      go_upto_region 5 with fail
      have d0 := C1.out.x (F := No) id 0
      simp only [List.getElem?_toArray, List.getElem?_cons_succ, List.getElem?_cons_zero] at d0
      clear e0 e2
      refine Mix.wp_plain [5, 8] (Cl ξ.v No) Cl.here ?_
      (repeat' (first | (refine Mix.lex_quiet0 rfl rfl rfl ?_; intro K hK; go_big_quiet_op; go_big_quiet_on) | (refine Mix.lex_quietG rfl rfl rfl (by with_reducible rfl) rfl rfl ?_; intro K hK; go_big_quiet_op; go_big_quiet_on) | ((first | refine Mix.lex_skipT rfl rfl rfl (by with_reducible rfl) ?_ | refine Mix.lex_skipF rfl rfl rfl (by with_reducible rfl) ?_ | refine Mix.lex_skipU rfl rfl rfl (by with_reducible rfl) ?_); simp only [Act.put, List.setIfInBounds_toArray, List.set_cons_succ, List.set_cons_zero]) | (refine Mix.lex_part rfl rfl rfl rfl (fun hq => ?_) (fun hq => ?_) <;> (fail_if_success (guard_hyp hq :ₛ true = true)) <;> (fail_if_success (guard_hyp hq :ₛ false = false)) <;> first | (exfalso; cases hq; done) | (exfalso; simp only [decide_eq_true_eq, decide_eq_false_iff_not, beq_iff_eq, beq_eq_false_iff_ne, ne_eq, Int.not_lt, Int.not_le] at hq; omega) | simp only [Act.put, List.setIfInBounds_toArray, List.set_cons_succ, List.set_cons_zero])))
      refine Mix.lex_goes0 rfl rfl ?_
      intro K' hK'
      refine goes_append (v := .slice none 0 0) (n := 0) (xs := []) string_ty rfl rfl rfl (World.ownsRow_nil _ _ _ _) (rd_of_own HO.out) (one_S _) (by omega) ?_
      intro A' c' w2 hown hg hb
      rw [Nat.zero_add] at hown hb ⊢
      rw [List.nil_append] at hown
      have O2 : Hid (Ext ξ.v w2) := (Only.refl _ _).grown hg (fun g hg => by simp [Value.ownBlock] at hg)
      refine hK' _ _ (fun _ => Cl.of O2.out) ?_
      clear hK' K'
      simp only [Act.put, List.setIfInBounds_toArray, List.set_cons_succ, List.set_cons_zero]
      obtain ⟨ng, rfl⟩ := own_some hown H.out.fine.pos
      have NG : Hid (ng = ξ.v.heap.size) := by
        rcases hb with h | h <;> simp [Value.ownBlock] at h
        exact h
      have N2 := Lib.hid hown
      clear hown hg hb d0
      have C2 := Lib.hid (C1.out.keep O2.out id)
      have f1 := C2.out.cell 1
      simp only [List.getElem?_toArray, List.getElem?_cons_succ, List.getElem?_cons_zero] at f1
      have z1 := C2.out.frozen 1
      (repeat' (first | (refine Mix.lex_quiet0 rfl rfl rfl ?_; intro K hK; go_big_quiet_op; go_big_quiet_on) | (refine Mix.lex_quietG rfl rfl rfl (by with_reducible rfl) rfl rfl ?_; intro K hK; go_big_quiet_op; go_big_quiet_on) | ((first | refine Mix.lex_skipT rfl rfl rfl (by with_reducible rfl) ?_ | refine Mix.lex_skipF rfl rfl rfl (by with_reducible rfl) ?_ | refine Mix.lex_skipU rfl rfl rfl (by with_reducible rfl) ?_); simp only [Act.put, List.setIfInBounds_toArray, List.set_cons_succ, List.set_cons_zero]) | (refine Mix.lex_part rfl rfl rfl rfl (fun hq => ?_) (fun hq => ?_) <;> (fail_if_success (guard_hyp hq :ₛ true = true)) <;> (fail_if_success (guard_hyp hq :ₛ false = false)) <;> first | (exfalso; cases hq; done) | (exfalso; simp only [decide_eq_true_eq, decide_eq_false_iff_not, beq_iff_eq, beq_eq_false_iff_ne, ne_eq, Int.not_lt, Int.not_le] at hq; omega) | simp only [Act.put, List.setIfInBounds_toArray, List.set_cons_succ, List.set_cons_zero])))
      ((first | refine Mix.lex_goes0 rfl rfl ?_ | refine Mix.lex_goesG rfl rfl rfl (by with_reducible rfl) rfl ?_); intro K hK; go_simp)
      refine hK _ _ (fun hne => absurd rfl hne) ?_
      clear hK K f1 z1
      simp only [Act.put, List.setIfInBounds_toArray, List.set_cons_succ, List.set_cons_zero]
      refine Mix.lex_nil ?_
      obtain ⟨w3, hw3⟩ : ∃ w3, w3 = w2.setCell ⟨r.g, 1, none⟩ (.slice (some ⟨ng, 0, none⟩) d.now.length c') := ⟨_, rfl⟩
      have C3 : Hid (Cs w3 r.g 50 #[.slice (some ⟨r.kg, 0, none⟩) d.now.length r.kc, .slice (some ⟨ng, 0, none⟩) d.now.length c', r.wv, .int .i64 d.fuse, .bool d.down]) := by
        have := C2.out.set_ 1 (.slice (some ⟨ng, 0, none⟩) d.now.length c')
        simp only [List.setIfInBounds_toArray, List.set_cons_succ, List.set_cons_zero] at this
        rw [hw3]; exact this
      have O3 : Hid (Only (fun b => b = r.g) w2 w3) := by rw [hw3]; exact (Only.refl _ _).at_ 1 _
      rw [← hw3]
      clear hw3
      have f2 := C3.out.cell 2
      have f3 := C3.out.cell 3
      have f4 := C3.out.cell 4
      simp only [List.getElem?_toArray, List.getElem?_cons_succ, List.getElem?_cons_zero] at f2 f3 f4
      rw [HV.out] at f2
      have z2 := C3.out.frozen 2
      have z3 := C3.out.frozen 3
      have z4 := C3.out.frozen 4
      go_wp2
      go_end0
      have hf := H.out.fine
      have hng := NG.out
      have hgl := H.out.cs.lt
      have hkl : r.kg < w.heap.size := by
        obtain ⟨cur, hcur⟩ := Cs.of_own H.out.kept
        exact hcur.lt
      have O4 : Only (fun b => b = r.g) w2 (((w3.setCell ⟨r.g, 2, none⟩ (.slice none 0 0)).setCell ⟨r.g, 4, none⟩ (.bool false)).setCell ⟨r.g, 3, none⟩ (.int .i64 (-1))) := ((O3.out.at_ 2 _).at_ 4 _).at_ 3 _
      have s1 := ξ.h.size
      have hl : (keepFrom K d.kept d.wait 0).length = d.now.length := by rw [length_keepFrom, hf.len]
      refine ⟨rfl, ⟨r.g, r.kg, r.kc, ng, c', .slice none 0 0⟩, ⟨?_, ?_, ?_, ?_, ?_, ?_⟩, rfl, ?_, ?_⟩
      · have := ((C3.out.set_ 2 (.slice none 0 0)).set_ 4 (.bool false)).set_ 3 (.int .i64 (-1))
        simp only [List.setIfInBounds_toArray, List.set_cons_succ, List.set_cons_zero] at this
        simpa [Dk.restarted, DkR.cells, hl] using this
      · have := own_keep (own_keep HO.out O2.out fun _ _ h => h) O4 (fun g hg e => H.out.gk (by simp [Value.ownBlock] at hg; omega))
        rw [HT.out] at this
        simpa [Dk.restarted, hl] using this
      · have := own_keep N2.out O4 (fun g hg e => by simp [Value.ownBlock] at hg; omega)
        rw [HT.out] at this
        simpa [Dk.restarted, hl] using this
      · exact World.ownsRow_nil _ _ _ _
      · show r.kg ≠ ng
        omega
      · exact ⟨rfl, by simpa [Dk.restarted, hl] using hf.pos, by simpa [Dk.restarted, hl] using hf.most, by simp [Dk.restarted], by simp [Dk.restarted], by simp [Dk.restarted]⟩
      · have a1 : Only r.fp w ξ.v := ξ.h.weak fun b _ e => .inr (.inl e)
        exact (a1.then_ext O2.out).trans O4 fun b _ e => .inl e
      · intro b hb
        rcases hb with h | h | h | h
        · exact .inl (.inl h)
        · exact .inl (.inr (.inl h))
        · right; simp at h; omega
        · simp [Value.ownBlock] at h
end Go.Proofs.Ytdiablabpaankaa
