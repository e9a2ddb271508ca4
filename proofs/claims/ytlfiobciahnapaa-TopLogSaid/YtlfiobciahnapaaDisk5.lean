import Derived.Test.YtlfiobciahnapaaDisk4
namespace Go.Proofs.Ytlfiobciahnapaa
open Go Go.RowKit
theorem keepFrom_at (K : Nat) (kept : List Str) (l : List (Nat × Str)) (k : Nat) (h : k < l.length) : keepFrom K kept (l.drop k) k = keepFrom K (if keeps K k then kept.set l[k].1 l[k].2 else kept) (l.drop (k + 1)) (k + 1) := by
  rw [List.drop_eq_getElem_cons h]; rfl
theorem keeps_eq (K k : Nat) (hK : K < 18446744073709551616) : (bits .and .u64 ((K : Int) / 2 ^ (k % 64)) 1 == 1) = keeps K k := by
  have hlt : K / 2 ^ (k % 64) < 18446744073709551616 := Nat.lt_of_le_of_lt (Nat.div_le_self _ _) hK
  have e : ((K : Int) / 2 ^ (k % 64)) = ((K / 2 ^ (k % 64) : Nat) : Int) := by simp
  rw [e]
  unfold keeps
  generalize K / 2 ^ (k % 64) = m at hlt
  rw [and_one_u64 _ (by omega) (by omega), Bool.eq_iff_iff]
  simp
  omega
theorem waitCell {w : World} {e : TypeId} {g n c B : Nat} {l : List (Nat × Str)} (h : w.ownsRow B e 2 (.slice (some ⟨g, 0, none⟩) n c) n (l.flatMap turnC)) {k : Nat} (hk : k < l.length) :
    w.cell? ⟨g, k * 2, none⟩ = some (.int .i64 (l[k].1 : Int)) ∧ w.cell? ⟨g, k * 2 + 1, none⟩ = some (S l[k].2) := by
  have hs := SlR.of_own (T := ⟨2, turnC, fun _ => rfl⟩) (by simp) h
  obtain ⟨b, o, x, e, _, hx, hc⟩ := hs.get (k := k) (by have := hs.1; omega)
  injection e with e
  injection e with e1 e2
  subst e1; subst e2
  rw [List.getElem?_eq_getElem hk] at hx
  injection hx with hx
  subst hx
  exact ⟨by simpa using hc 0 _ rfl, by simpa using hc 1 _ rfl⟩
set_option maxHeartbeats 2000000 in
theorem Restart_c {w : World} {r : DkR} {d : Dk} (h : DiskAt w r d) (K : Nat) (hK : K < 18446744073709551616) (hw : d.wait.length ≤ 1000000) :
    Calls Try.prog 22 #[pt r.g, .int .u64 K] w (DkRes w r (d.restarted K) (.tuple #[])) := by
  have c2 := h.cs.cell 2
  simp only [List.getElem?_toArray, List.getElem?_cons_succ, List.getElem?_cons_zero] at c2
  obtain ⟨Aw, cw, hwv⟩ := own_slice h.wait
  rw [hwv] at c2
  have H := Lib.hid h
  have HV := Lib.hid hwv
  clear h hwv
  go_enter Try.func22, Try.ntmps22
  go_wp2_with (first | (refine Mix.wpList_guarded rfl ?_; (repeat' (first | (refine Mix.lex_quiet0 rfl rfl rfl ?_; intro K hK; go_big_quiet_op; go_big_quiet_on) | (refine Mix.lex_quietG rfl rfl rfl (by with_reducible rfl) rfl rfl ?_; intro K hK; go_big_quiet_op; go_big_quiet_on) | ((first | refine Mix.lex_skipT rfl rfl rfl (by with_reducible rfl) ?_ | refine Mix.lex_skipF rfl rfl rfl (by with_reducible rfl) ?_ | refine Mix.lex_skipU rfl rfl rfl (by with_reducible rfl) ?_); simp only [Act.put, List.setIfInBounds_toArray, List.set_cons_succ, List.set_cons_zero]) | (refine Mix.lex_part rfl rfl rfl rfl (fun hq => ?_) (fun hq => ?_) <;> (fail_if_success (guard_hyp hq :ₛ true = true)) <;> (fail_if_success (guard_hyp hq :ₛ false = false)) <;> first | (exfalso; cases hq; done) | (exfalso; simp only [decide_eq_true_eq, decide_eq_false_iff_not, beq_iff_eq, beq_eq_false_iff_ne, ne_eq, Int.not_lt, Int.not_le] at hq; omega) | simp only [Act.put, List.setIfInBounds_toArray, List.set_cons_succ, List.set_cons_zero]))); all_goals (refine Mix.lex_nil ?_)) | (refine Mix.wp_still (by kernel_rfl) (by kernel_rfl) ?_; (repeat' (first | (refine Mix.lex_quiet0 rfl rfl rfl ?_; intro K hK; go_big_quiet_op; go_big_quiet_on) | (refine Mix.lex_quietG rfl rfl rfl (by with_reducible rfl) rfl rfl ?_; intro K hK; go_big_quiet_op; go_big_quiet_on) | ((first | refine Mix.lex_skipT rfl rfl rfl (by with_reducible rfl) ?_ | refine Mix.lex_skipF rfl rfl rfl (by with_reducible rfl) ?_ | refine Mix.lex_skipU rfl rfl rfl (by with_reducible rfl) ?_); simp only [Act.put, List.setIfInBounds_toArray, List.set_cons_succ, List.set_cons_zero]) | (refine Mix.lex_part rfl rfl rfl rfl (fun hq => ?_) (fun hq => ?_) <;> (fail_if_success (guard_hyp hq :ₛ true = true)) <;> (fail_if_success (guard_hyp hq :ₛ false = false)) <;> first | (exfalso; cases hq; done) | (exfalso; simp only [decide_eq_true_eq, decide_eq_false_iff_not, beq_iff_eq, beq_eq_false_iff_ne, ne_eq, Int.not_lt, Int.not_le] at hq; omega) | simp only [Act.put, List.setIfInBounds_toArray, List.set_cons_succ, List.set_cons_zero]))); all_goals (refine Mix.lex_nil ?_)))
  go_loopw [11] (fun i wr => ∃ k : Nat, k ≤ d.wait.length ∧ i = .int .i64 k ∧ ∃ kd, keepFrom K d.kept d.wait 0 = keepFrom K kd (d.wait.drop k) k ∧ kd.length = d.now.length ∧
      wr.ownsRow 0 9 1 (.slice (some ⟨r.kg, 0, none⟩) d.now.length r.kc) d.now.length (kd.map S) ∧ ∃ ξ : X w (fun b => b = r.kg), wr = ξ.v) (fun i _ => d.wait.length - (intOf i).toNat)
  case atStart => exact ⟨0, Nat.zero_le _, rfl, d.kept, rfl, H.out.fine.len, H.out.kept, X.here _ _, rfl⟩
  case round =>
    obtain ⟨k, hk, rfl, kd, hF, hkd, hown, ξ, rfl⟩ := hrel
    have HF := Lib.hid hF
    have HO := Lib.hid hown
    have HKD := Lib.hid hkd
    clear hF hown hkd
    have hkw : Hid (∀ g, r.wv.ownBlock = some g → ¬ g = r.kg) := fun g hg e => by
      obtain ⟨cur, hcur⟩ := Cs.of_own H.out.kept
      exact own_ne H.out.wait hcur (by decide) (by rw [hg, e])
    by_cases hlt : k < d.wait.length
    · obtain ⟨gw, rfl⟩ : ∃ g, Aw = some ⟨g, 0, none⟩ := by
        have := H.out.wait.2
        rw [HV.out] at this
        rcases this with ⟨h1, h2⟩ | ⟨g, cap, cur, h1, _⟩
        · omega
        · injection h1 with h1; exact ⟨g, h1⟩
      have hcells : ∀ η : X w (fun b => b = r.kg), η.v.cell? ⟨gw, k * 2, none⟩ = some (.int .i64 (d.wait[k].1 : Int)) ∧ η.v.cell? ⟨gw, k * 2 + 1, none⟩ = some (S d.wait[k].2) := fun η => by
        have := own_keep H.out.wait η.h hkw.out
        rw [HV.out] at this
        exact waitCell this hlt
      have e1 := fun η => (hcells η).1
      have e2 := fun η => (hcells η).2
      clear hcells
      go_wp2_with (first | (refine Mix.wpList_guarded rfl ?_; (repeat' (first | (refine Mix.lex_quiet0 rfl rfl rfl ?_; intro K hK; go_big_quiet_op; go_big_quiet_on) | (refine Mix.lex_quietG rfl rfl rfl (by with_reducible rfl) rfl rfl ?_; intro K hK; go_big_quiet_op; go_big_quiet_on) | ((first | refine Mix.lex_skipT rfl rfl rfl (by with_reducible rfl) ?_ | refine Mix.lex_skipF rfl rfl rfl (by with_reducible rfl) ?_ | refine Mix.lex_skipU rfl rfl rfl (by with_reducible rfl) ?_); simp only [Act.put, List.setIfInBounds_toArray, List.set_cons_succ, List.set_cons_zero]) | (refine Mix.lex_part rfl rfl rfl rfl (fun hq => ?_) (fun hq => ?_) <;> (fail_if_success (guard_hyp hq :ₛ true = true)) <;> (fail_if_success (guard_hyp hq :ₛ false = false)) <;> first | (exfalso; cases hq; done) | (exfalso; simp only [decide_eq_true_eq, decide_eq_false_iff_not, beq_iff_eq, beq_eq_false_iff_ne, ne_eq, Int.not_lt, Int.not_le] at hq; omega) | simp only [Act.put, List.setIfInBounds_toArray, List.set_cons_succ, List.set_cons_zero]))); all_goals (refine Mix.lex_nil ?_)) | (refine Mix.wp_still (by kernel_rfl) (by kernel_rfl) ?_; (repeat' (first | (refine Mix.lex_quiet0 rfl rfl rfl ?_; intro K hK; go_big_quiet_op; go_big_quiet_on) | (refine Mix.lex_quietG rfl rfl rfl (by with_reducible rfl) rfl rfl ?_; intro K hK; go_big_quiet_op; go_big_quiet_on) | ((first | refine Mix.lex_skipT rfl rfl rfl (by with_reducible rfl) ?_ | refine Mix.lex_skipF rfl rfl rfl (by with_reducible rfl) ?_ | refine Mix.lex_skipU rfl rfl rfl (by with_reducible rfl) ?_); simp only [Act.put, List.setIfInBounds_toArray, List.set_cons_succ, List.set_cons_zero]) | (refine Mix.lex_part rfl rfl rfl rfl (fun hq => ?_) (fun hq => ?_) <;> (fail_if_success (guard_hyp hq :ₛ true = true)) <;> (fail_if_success (guard_hyp hq :ₛ false = false)) <;> first | (exfalso; cases hq; done) | (exfalso; simp only [decide_eq_true_eq, decide_eq_false_iff_not, beq_iff_eq, beq_eq_false_iff_ne, ne_eq, Int.not_lt, Int.not_le] at hq; omega) | simp only [Act.put, List.setIfInBounds_toArray, List.set_cons_succ, List.set_cons_zero]))); all_goals (refine Mix.lex_nil ?_)))
      · have hkeep : keeps K k = true := by rw [← keeps_eq K k hK]; assumption
        have HT : Hid (keepFrom K d.kept d.wait 0 = keepFrom K (kd.set d.wait[k].1 d.wait[k].2) (d.wait.drop (k + 1)) (k + 1)) := by
          rw [Hid, HF.out, keepFrom_at K kd d.wait k hlt, hkeep]; rfl
        have hat : d.wait[k].1 < d.now.length := H.out.fine.at_ _ (List.getElem_mem hlt)
        obtain ⟨w1, hw1⟩ : ∃ w1, w1 = ξ.v.alloc (.cells #[.int .i64 (d.wait[k].1 : Int), S d.wait[k].2] 67) := ⟨_, rfl⟩
        have O1 : Hid (Only (fun b => b = r.kg) w w1) := by rw [hw1]; exact ξ.h.alloc _
        have N1 : Hid (Cs w1 ξ.v.heap.size 67 #[.int .i64 (d.wait[k].1 : Int), S d.wait[k].2]) := by rw [hw1]; exact Cs.new _ _ _
        have HO1 : Hid (w1.ownsRow 0 9 1 (.slice (some ⟨r.kg, 0, none⟩) d.now.length r.kc) d.now.length (kd.map S)) := by rw [hw1]; exact HO.out.alloc _
        rw [← hw1]
        clear hw1 e1 e2
        have e0 := (H.out.cs.keep O1.out (fun e => H.out.gk e.symm)).x (F := No) id 0
        have n0 := N1.out.x (F := No) id 0
        have n1 := N1.out.x (F := No) id 1
        simp only [List.getElem?_toArray, List.getElem?_cons_succ, List.getElem?_cons_zero] at e0 n0 n1
        (refine Mix.wp_draw [9] 9 (Cl (w1) (No)) (by kernel_rfl) (by kernel_rfl) (Cl.of (Only.refl _ _).drew) ?_; (repeat' (first | (refine Mix.lex_quiet0 rfl rfl rfl ?_; intro K hK; go_big_quiet_op; go_big_quiet_on) | (refine Mix.lex_quietG rfl rfl rfl (by with_reducible rfl) rfl rfl ?_; intro K hK; go_big_quiet_op; go_big_quiet_on) | ((first | refine Mix.lex_skipT rfl rfl rfl (by with_reducible rfl) ?_ | refine Mix.lex_skipF rfl rfl rfl (by with_reducible rfl) ?_ | refine Mix.lex_skipU rfl rfl rfl (by with_reducible rfl) ?_); simp only [Act.put, List.setIfInBounds_toArray, List.set_cons_succ, List.set_cons_zero]) | (refine Mix.lex_part rfl rfl rfl rfl (fun hq => ?_) (fun hq => ?_) <;> (fail_if_success (guard_hyp hq :ₛ true = true)) <;> (fail_if_success (guard_hyp hq :ₛ false = false)) <;> first | (exfalso; cases hq; done) | (exfalso; simp only [decide_eq_true_eq, decide_eq_false_iff_not, beq_iff_eq, beq_eq_false_iff_ne, ne_eq, Int.not_lt, Int.not_le] at hq; omega) | simp only [Act.put, List.setIfInBounds_toArray, List.set_cons_succ, List.set_cons_zero]))))
        have hkl : d.wait[k].1 < (kd.map S).length := by rw [List.length_map, HKD.out]; exact hat
        have s1 : w1.cell? ⟨r.kg, d.wait[k].1, none⟩ = some ((kd.map S)[d.wait[k].1]'hkl) := by
          rw [HO1.out.cellAt _ (by omega), List.getElem?_eq_getElem hkl]
        have s2 := HO1.out.frozenAt d.wait[k].1
        ((first | refine Mix.lex_goes0 rfl rfl ?_ | refine Mix.lex_goesG rfl rfl rfl (by with_reducible rfl) rfl ?_); intro K hK; go_simp)
        refine hK _ _ (fun hne => absurd rfl hne) ?_
        clear hK K
        simp only [Act.put, List.setIfInBounds_toArray, List.set_cons_succ, List.set_cons_zero]
        refine Mix.lex_nil ?_
        go_wp2
        go_roundw
        case rel =>
          have ho := own_set HO1.out d.wait[k].1 hat (S d.wait[k].2)
          rw [← List.map_set] at ho
          exact ⟨k + 1, by omega, by go_num, kd.set d.wait[k].1 d.wait[k].2, HT.out, by rw [List.length_set, HKD.out], ho, ⟨_, (O1.out.setCell (p := ⟨r.kg, _, none⟩) (.inr rfl) _).drew⟩, rfl⟩
        case measure => simp [intOf]; omega
      · have hkeep : keeps K k = false := by rw [← keeps_eq K k hK]; assumption
        have HT : Hid (keepFrom K d.kept d.wait 0 = keepFrom K kd (d.wait.drop (k + 1)) (k + 1)) := by
          rw [Hid, HF.out, keepFrom_at K kd d.wait k hlt, hkeep]; rfl
        go_roundw
        case rel => exact ⟨k + 1, by omega, by go_num, kd, HT.out, HKD.out, HO.out.alloc _, ⟨_, ξ.h.alloc _⟩, rfl⟩
        case measure => simp [intOf]; omega
    · have hke : k = d.wait.length := by omega
      have HT : Hid (kd = keepFrom K d.kept d.wait 0) := by rw [Hid, HF.out, hke, List.drop_length]; rfl
      clear hke
      have C1 := Lib.hid (H.out.cs.keep ξ.h (fun e => H.out.gk e.symm))
      have N1 := Lib.hid (own_keep H.out.now ξ.h (fun g hg e => H.out.ne (by simp [Value.ownBlock] at hg; omega)))
      have d0 := C1.out.x (F := No) id 0
      have d1 := C1.out.x (F := No) id 1
      simp only [List.getElem?_toArray, List.getElem?_cons_succ, List.getElem?_cons_zero] at d0 d1
      go_upto_region 6 with fail
      (refine Mix.wp_draw [8] 8 (Cl (ξ.v) (No)) (by kernel_rfl) (by kernel_rfl) (Cl.of (Only.refl _ _).drew) ?_; (repeat' (first | (refine Mix.lex_quiet0 rfl rfl rfl ?_; intro K hK; go_big_quiet_op; go_big_quiet_on) | (refine Mix.lex_quietG rfl rfl rfl (by with_reducible rfl) rfl rfl ?_; intro K hK; go_big_quiet_op; go_big_quiet_on) | ((first | refine Mix.lex_skipT rfl rfl rfl (by with_reducible rfl) ?_ | refine Mix.lex_skipF rfl rfl rfl (by with_reducible rfl) ?_ | refine Mix.lex_skipU rfl rfl rfl (by with_reducible rfl) ?_); simp only [Act.put, List.setIfInBounds_toArray, List.set_cons_succ, List.set_cons_zero]) | (refine Mix.lex_part rfl rfl rfl rfl (fun hq => ?_) (fun hq => ?_) <;> (fail_if_success (guard_hyp hq :ₛ true = true)) <;> (fail_if_success (guard_hyp hq :ₛ false = false)) <;> first | (exfalso; cases hq; done) | (exfalso; simp only [decide_eq_true_eq, decide_eq_false_iff_not, beq_iff_eq, beq_eq_false_iff_ne, ne_eq, Int.not_lt, Int.not_le] at hq; omega) | simp only [Act.put, List.setIfInBounds_toArray, List.set_cons_succ, List.set_cons_zero]))))
      refine Mix.lex_goes0 rfl rfl ?_
      intro K' hK'
      refine goes_copy (g := r.ng) (n := d.now.length) Try.underlying22 str_info rfl rfl rfl H.out.fine.pos (own_keep N1.out (Only.refl No _).drew fun _ _ h => h) (rd_of_own (own_keep HO.out (Only.refl No _).drew fun _ _ h => h)) (one_S _) ?_
      intro w2 hk2 hx2
      refine hK' _ _ (fun hne => absurd rfl hne) ?_
      clear hK' K' d0 d1
      simp only [Act.put, List.setIfInBounds_toArray, List.set_cons_succ, List.set_cons_zero]
      refine Mix.lex_nil ?_
      have N2 := Lib.hid hk2
      have O2 : Hid (Only (fun b => b = r.ng) ξ.v w2) := ((Only.refl _ _).drew).trans hx2 fun _ _ h => h
      clear hk2 hx2
      have C2 := Lib.hid (C1.out.keep O2.out (fun e => H.out.gn e.symm))
      have f2 := C2.out.cell 2
      have f3 := C2.out.cell 3
      have f4 := C2.out.cell 4
      simp only [List.getElem?_toArray, List.getElem?_cons_succ, List.getElem?_cons_zero] at f2 f3 f4
      have z2 := C2.out.frozen 2
      have z3 := C2.out.frozen 3
      have z4 := C2.out.frozen 4
      rw [HV.out] at f2
      go_wp2
      go_end0
      have hf := H.out.fine
      have O3 : Only (fun b => b = r.g) w2 (((w2.setCell ⟨r.g, 2, none⟩ (.slice none 0 0)).setCell ⟨r.g, 4, none⟩ (.bool false)).setCell ⟨r.g, 3, none⟩ (.int .i64 (-1))) := (((Only.refl _ _).at_ 2 _).at_ 4 _).at_ 3 _
      have hl : (keepFrom K d.kept d.wait 0).length = d.now.length := by rw [length_keepFrom, hf.len]
      refine ⟨rfl, { r with wv := .slice none 0 0 }, ⟨?_, ?_, ?_, ?_, H.out.ne, ?_⟩, rfl, ?_, ?_⟩
      · have := ((C2.out.set_ 2 (.slice none 0 0)).set_ 4 (.bool false)).set_ 3 (.int .i64 (-1))
        simp only [List.setIfInBounds_toArray, List.set_cons_succ, List.set_cons_zero] at this
        simpa [Dk.restarted, DkR.cells, hl] using this
      · have := own_keep (own_keep HO.out O2.out (fun g hg e => H.out.ne (by simp [Value.ownBlock] at hg; omega))) O3 (fun g hg e => H.out.gk (by simp [Value.ownBlock] at hg; omega))
        rw [HT.out] at this
        simpa [Dk.restarted, hl] using this
      · have := own_keep N2.out O3 (fun g hg e => H.out.gn (by simp [Value.ownBlock] at hg; omega))
        rw [HT.out] at this
        simpa [Dk.restarted, hl] using this
      · exact World.ownsRow_nil _ _ _ _
      · exact ⟨rfl, by simpa [Dk.restarted, hl] using hf.pos, by simpa [Dk.restarted, hl] using hf.most, by simp [Dk.restarted], by simp [Dk.restarted], by simp [Dk.restarted]⟩
      · have a1 : Only r.fp w ξ.v := ξ.h.weak fun b _ e => .inr (.inl e)
        have a2 : Only r.fp w w2 := a1.trans O2.out fun b _ e => .inr (.inr (.inl e))
        exact a2.trans O3 fun b _ e => .inl e
      · intro b hb
        rcases hb with h | h | h | h
        · exact .inl (.inl h)
        · exact .inl (.inr (.inl h))
        · exact .inl (.inr (.inr (.inl h)))
        · simp [Value.ownBlock] at h
end Go.Proofs.Ytlfiobciahnapaa
