import Derived.Test.YtlfiobciahnapaaDisk2
namespace Go.Proofs.Ytlfiobciahnapaa
open Go Go.RowKit
theorem turn_info : (Try.prog.info? 67).map (fun i => (i.zero, i.size, i.bytes)) = some (some (.agg #[.int .i64 0, S []]), 2, 24) := by kernel_rfl
@[go_sem] theorem turn_build (a : Int) (b : ByteArray) (w : World) : (Instr.build 67 #[(0, .int .i64 a), (1, .string b)]).run Try.prog w = .ok (.agg #[.int .i64 a, .string b]) w := run_build w 67 _ _ (by kernel_rfl)
theorem turn_ty : Ety Try.prog 62 67 2 := Ety.mk' Try.underlying62 turn_info rfl (by omega) (by omega)
theorem Write_bad {w : World} {r : DkR} {d : Dk} (h : DiskAt w r d) (i : Int) (s : Str) (hs : s.length ≤ 1000000) (hb : i < 0 ∨ (d.now.length : Int) ≤ i ∨ 340 < s.length) :
    Calls Try.prog 8 #[pt r.g, .int .i64 i, S s] w fun e w' => e = .returned (E 1) ∧ Ext w w' := by
  have c1 := h.cs.cell 1
  simp only [List.getElem?_toArray, List.getElem?_cons_succ, List.getElem?_cons_zero] at c1
  have hl := h.fine.most
  clear h
  go_enter Try.func8, Try.ntmps8
  go_wp2_with (first | (refine Mix.wpList_guarded rfl ?_; (repeat' (first | (refine Mix.lex_quiet0 rfl rfl rfl ?_; intro K hK; go_big_quiet_op; go_big_quiet_on) | (refine Mix.lex_quietG rfl rfl rfl (by with_reducible rfl) rfl rfl ?_; intro K hK; go_big_quiet_op; go_big_quiet_on) | ((first | refine Mix.lex_skipT rfl rfl rfl (by with_reducible rfl) ?_ | refine Mix.lex_skipF rfl rfl rfl (by with_reducible rfl) ?_ | refine Mix.lex_skipU rfl rfl rfl (by with_reducible rfl) ?_); simp only [Act.put, List.setIfInBounds_toArray, List.set_cons_succ, List.set_cons_zero]) | (refine Mix.lex_part rfl rfl rfl rfl (fun hq => ?_) (fun hq => ?_) <;> (fail_if_success (guard_hyp hq :ₛ true = true)) <;> (fail_if_success (guard_hyp hq :ₛ false = false)) <;> first | (exfalso; cases hq; done) | (exfalso; simp only [decide_eq_true_eq, decide_eq_false_iff_not, beq_iff_eq, beq_eq_false_iff_ne, ne_eq, Int.not_lt, Int.not_le] at hq; omega) | simp only [Act.put, List.setIfInBounds_toArray, List.set_cons_succ, List.set_cons_zero]))); all_goals (refine Mix.lex_nil ?_)) | (refine Mix.wp_still (by kernel_rfl) (by kernel_rfl) ?_; (repeat' (first | (refine Mix.lex_quiet0 rfl rfl rfl ?_; intro K hK; go_big_quiet_op; go_big_quiet_on) | (refine Mix.lex_quietG rfl rfl rfl (by with_reducible rfl) rfl rfl ?_; intro K hK; go_big_quiet_op; go_big_quiet_on) | ((first | refine Mix.lex_skipT rfl rfl rfl (by with_reducible rfl) ?_ | refine Mix.lex_skipF rfl rfl rfl (by with_reducible rfl) ?_ | refine Mix.lex_skipU rfl rfl rfl (by with_reducible rfl) ?_); simp only [Act.put, List.setIfInBounds_toArray, List.set_cons_succ, List.set_cons_zero]) | (refine Mix.lex_part rfl rfl rfl rfl (fun hq => ?_) (fun hq => ?_) <;> (fail_if_success (guard_hyp hq :ₛ true = true)) <;> (fail_if_success (guard_hyp hq :ₛ false = false)) <;> first | (exfalso; cases hq; done) | (exfalso; simp only [decide_eq_true_eq, decide_eq_false_iff_not, beq_iff_eq, beq_eq_false_iff_ne, ne_eq, Int.not_lt, Int.not_le] at hq; omega) | simp only [Act.put, List.setIfInBounds_toArray, List.set_cons_succ, List.set_cons_zero]))); all_goals (refine Mix.lex_nil ?_)))
  all_goals first
    | (go_ret; exact ⟨rfl, Only.refl _ _⟩)
    | (exfalso; simp only [decide_eq_true_eq, decide_eq_false_iff_not, beq_iff_eq, beq_eq_false_iff_ne, ne_eq, Int.not_lt, Int.not_le, Bool.not_eq_true, Bool.not_eq_false, Bool.or_eq_true, Bool.or_eq_false_iff, Bool.and_eq_true, Bool.and_eq_false_iff, Bool.not_eq_eq_eq_not, Bool.not_true, Bool.not_false] at *; omega)
/-- What a write leaves. -/
def Dk.written (d : Dk) (k : Nat) (s : Str) : Dk := { d with now := d.now.set k (full s), wait := d.wait ++ [(k, full s)] }
set_option maxHeartbeats 1000000 in
theorem Write_ok {w : World} {r : DkR} {d : Dk} (h : DiskAt w r d) (k : Nat) (hk : k < d.now.length) (s : Str) (hs : s.length ≤ 340) (hf : d.falls = false) (hw : d.wait.length ≤ 1000000) :
    Calls Try.prog 8 #[pt r.g, .int .i64 k, S s] w (DkRes w r (d.stepped.written k s) .nilIface) := by
  have c1 := h.cs.cell 1
  simp only [List.getElem?_toArray, List.getElem?_cons_succ, List.getElem?_cons_zero] at c1
  have hl := h.fine.most
  have hst := step_c h
  rw [hf] at hst
  have HST := Lib.hid hst
  have H := Lib.hid h
  clear h hst hf
  go_enter Try.func8, Try.ntmps8
  go_wp2_with (first | (refine Mix.wpList_guarded rfl ?_; (repeat' (first | (refine Mix.lex_quiet0 rfl rfl rfl ?_; intro K hK; go_big_quiet_op; go_big_quiet_on) | (refine Mix.lex_quietG rfl rfl rfl (by with_reducible rfl) rfl rfl ?_; intro K hK; go_big_quiet_op; go_big_quiet_on) | ((first | refine Mix.lex_skipT rfl rfl rfl (by with_reducible rfl) ?_ | refine Mix.lex_skipF rfl rfl rfl (by with_reducible rfl) ?_ | refine Mix.lex_skipU rfl rfl rfl (by with_reducible rfl) ?_); simp only [Act.put, List.setIfInBounds_toArray, List.set_cons_succ, List.set_cons_zero]) | (refine Mix.lex_part rfl rfl rfl rfl (fun hq => ?_) (fun hq => ?_) <;> (fail_if_success (guard_hyp hq :ₛ true = true)) <;> (fail_if_success (guard_hyp hq :ₛ false = false)) <;> first | (exfalso; cases hq; done) | (exfalso; simp only [decide_eq_true_eq, decide_eq_false_iff_not, beq_iff_eq, beq_eq_false_iff_ne, ne_eq, Int.not_lt, Int.not_le] at hq; omega) | simp only [Act.put, List.setIfInBounds_toArray, List.set_cons_succ, List.set_cons_zero]))); all_goals (refine Mix.lex_nil ?_)) | (refine Mix.wp_still (by kernel_rfl) (by kernel_rfl) ?_; (repeat' (first | (refine Mix.lex_quiet0 rfl rfl rfl ?_; intro K hK; go_big_quiet_op; go_big_quiet_on) | (refine Mix.lex_quietG rfl rfl rfl (by with_reducible rfl) rfl rfl ?_; intro K hK; go_big_quiet_op; go_big_quiet_on) | ((first | refine Mix.lex_skipT rfl rfl rfl (by with_reducible rfl) ?_ | refine Mix.lex_skipF rfl rfl rfl (by with_reducible rfl) ?_ | refine Mix.lex_skipU rfl rfl rfl (by with_reducible rfl) ?_); simp only [Act.put, List.setIfInBounds_toArray, List.set_cons_succ, List.set_cons_zero]) | (refine Mix.lex_part rfl rfl rfl rfl (fun hq => ?_) (fun hq => ?_) <;> (fail_if_success (guard_hyp hq :ₛ true = true)) <;> (fail_if_success (guard_hyp hq :ₛ false = false)) <;> first | (exfalso; cases hq; done) | (exfalso; simp only [decide_eq_true_eq, decide_eq_false_iff_not, beq_iff_eq, beq_eq_false_iff_ne, ne_eq, Int.not_lt, Int.not_le] at hq; omega) | simp only [Act.put, List.setIfInBounds_toArray, List.set_cons_succ, List.set_cons_zero]))); all_goals (refine Mix.lex_nil ?_)))
  all_goals try (exfalso; simp only [decide_eq_true_eq, decide_eq_false_iff_not, beq_iff_eq, beq_eq_false_iff_ne, ne_eq, Int.not_lt, Int.not_le, Bool.not_eq_true, Bool.not_eq_false, Bool.or_eq_true, Bool.or_eq_false_iff, Bool.and_eq_true, Bool.and_eq_false_iff, Bool.not_eq_eq_eq_not, Bool.not_true, Bool.not_false] at *; omega)
  refine HST.out.mono ?_
  rintro e w1 ⟨rfl, h1, hx1⟩
  have hn1 := Lib.hid (show d.stepped.now.length = d.now.length by unfold Dk.stepped; split <;> (try split) <;> rfl)
  have d1 := h1.cs.x (F := No) id 1
  simp only [List.getElem?_toArray, List.getElem?_cons_succ, List.getElem?_cons_zero] at d1
  rw [hn1.out] at d1
  have H1 := Lib.hid h1
  have HX := Lib.hid hx1
  clear h1 hx1
  go_upto_region 5 with fail
  (refine Mix.wp_draw [6, 8] 8 (Cl (w1) (No)) (by kernel_rfl) (by kernel_rfl) (Cl.of (Only.refl _ _).drew) ?_; (repeat' (first | (refine Mix.lex_quiet0 rfl rfl rfl ?_; intro K hK; go_big_quiet_op; go_big_quiet_on) | (refine Mix.lex_quietG rfl rfl rfl (by with_reducible rfl) rfl rfl ?_; intro K hK; go_big_quiet_op; go_big_quiet_on) | ((first | refine Mix.lex_skipT rfl rfl rfl (by with_reducible rfl) ?_ | refine Mix.lex_skipF rfl rfl rfl (by with_reducible rfl) ?_ | refine Mix.lex_skipU rfl rfl rfl (by with_reducible rfl) ?_); simp only [Act.put, List.setIfInBounds_toArray, List.set_cons_succ, List.set_cons_zero]) | (refine Mix.lex_part rfl rfl rfl rfl (fun hq => ?_) (fun hq => ?_) <;> (fail_if_success (guard_hyp hq :ₛ true = true)) <;> (fail_if_success (guard_hyp hq :ₛ false = false)) <;> first | (exfalso; cases hq; done) | (exfalso; simp only [decide_eq_true_eq, decide_eq_false_iff_not, beq_iff_eq, beq_eq_false_iff_ne, ne_eq, Int.not_lt, Int.not_le] at hq; omega) | simp only [Act.put, List.setIfInBounds_toArray, List.set_cons_succ, List.set_cons_zero]))))
  ((first | refine Mix.lex_goes0 rfl rfl ?_ | refine Mix.lex_goesG rfl rfl rfl (by with_reducible rfl) rfl ?_); intro K hK; go_simp)
  refine (full_c s hs _).mono ?_
  rintro e w2 ⟨rfl, hx2⟩
  have hx2' : Ext w1 w2 := (Only.refl No w1).drew.then_ext hx2
  refine ⟨_, rfl, hK _ _ (fun _ => Cl.of hx2') ?_⟩
  clear hK K
  simp only [Act.put, List.setIfInBounds_toArray, List.set_cons_succ, List.set_cons_zero]
  (repeat' (first | (refine Mix.lex_quiet0 rfl rfl rfl ?_; intro K hK; go_big_quiet_op; go_big_quiet_on) | (refine Mix.lex_quietG rfl rfl rfl (by with_reducible rfl) rfl rfl ?_; intro K hK; go_big_quiet_op; go_big_quiet_on) | ((first | refine Mix.lex_skipT rfl rfl rfl (by with_reducible rfl) ?_ | refine Mix.lex_skipF rfl rfl rfl (by with_reducible rfl) ?_ | refine Mix.lex_skipU rfl rfl rfl (by with_reducible rfl) ?_); simp only [Act.put, List.setIfInBounds_toArray, List.set_cons_succ, List.set_cons_zero]) | (refine Mix.lex_part rfl rfl rfl rfl (fun hq => ?_) (fun hq => ?_) <;> (fail_if_success (guard_hyp hq :ₛ true = true)) <;> (fail_if_success (guard_hyp hq :ₛ false = false)) <;> first | (exfalso; cases hq; done) | (exfalso; simp only [decide_eq_true_eq, decide_eq_false_iff_not, beq_iff_eq, beq_eq_false_iff_ne, ne_eq, Int.not_lt, Int.not_le] at hq; omega) | simp only [Act.put, List.setIfInBounds_toArray, List.set_cons_succ, List.set_cons_zero])))
  have H2 := Lib.hid (H1.out.ext hx2')
  have s1 : w2.cell? ⟨r.ng, k, none⟩ = some (S (d.stepped.now[k]'(by rw [hn1.out]; exact hk))) := H2.out.nowCell _
  have s2 := H2.out.now.frozenAt k
  ((first | refine Mix.lex_goes0 rfl rfl ?_ | refine Mix.lex_goesG rfl rfl rfl (by with_reducible rfl) rfl ?_); intro K hK; go_simp)
  refine hK _ _ (fun hne => absurd rfl hne) ?_
  clear hK K
  simp only [Act.put, List.setIfInBounds_toArray, List.set_cons_succ, List.set_cons_zero]
  refine Mix.lex_nil ?_
  clear s1 s2 d1
  obtain ⟨w3, hw3⟩ : ∃ w3, w3 = w2.setCell ⟨r.ng, k, none⟩ (S (full s)) := ⟨_, rfl⟩
  have hng := H2.out.gn
  have C3 : Hid (Cs w3 r.g 64 (r.cells d.stepped)) := by rw [hw3]; exact H2.out.cs.far (p := ⟨r.ng, k, none⟩) (Ne.symm hng) _
  have N3 : Hid (w3.ownsRow 0 9 1 (.slice (some ⟨r.ng, 0, none⟩) d.stepped.now.length r.nc) d.stepped.now.length ((d.stepped.now.set k (full s)).map S)) := by
    rw [hw3, List.map_set]; exact own_set H2.out.now k (by rw [hn1.out]; exact hk) _
  have O3 : Hid (Only (fun b => b = r.ng) w2 w3) := by rw [hw3]; exact (Only.refl _ _).at_ k _
  rw [← hw3]
  clear hw3
  have hwl := Lib.hid (show d.stepped.wait.length = d.wait.length by unfold Dk.stepped; split <;> (try split) <;> rfl)
  have hwb : Hid (∀ g, r.wv.ownBlock = some g → ¬ g = r.ng) := fun g hg e => by
    obtain ⟨cur, hcur⟩ := Cs.of_own H2.out.now
    exact own_ne H2.out.wait hcur (by decide) (by rw [hg, e])
  have hgw := Lib.hid H2.out.gw
  have e1 := C3.out.x (F := fun b => r.wv.ownBlock = some b) hgw.out 1
  have e2 := C3.out.x (F := fun b => r.wv.ownBlock = some b) hgw.out 2
  simp only [List.getElem?_toArray, List.getElem?_cons_succ, List.getElem?_cons_zero] at e1 e2
  rw [hn1.out] at e1
  have e3 : ∀ ξ : X w3 (fun b => r.wv.ownBlock = some b), ξ.v.cell? ⟨r.ng, k, none⟩ = some (S (full s)) := fun ξ => by
    have := own_keep N3.out ξ.h (fun g hg h => hwb.out _ h (by simp [Value.ownBlock] at hg; exact hg.symm))
    rw [World.ownsRow.cellAt this k (by rw [hn1.out]; omega), List.getElem?_map, List.getElem?_set_self (by rw [hn1.out]; exact hk)]
    rfl
  go_upto_region 6 with fail
  (refine Mix.wp_draw [14, 15, 18] 18 (Cl (w3) (fun b => r.wv.ownBlock = some b)) (by kernel_rfl) (by kernel_rfl) (Cl.of (Only.refl _ _).drew) ?_; (repeat' (first | (refine Mix.lex_quiet0 rfl rfl rfl ?_; intro K hK; go_big_quiet_op; go_big_quiet_on) | (refine Mix.lex_quietG rfl rfl rfl (by with_reducible rfl) rfl rfl ?_; intro K hK; go_big_quiet_op; go_big_quiet_on) | ((first | refine Mix.lex_skipT rfl rfl rfl (by with_reducible rfl) ?_ | refine Mix.lex_skipF rfl rfl rfl (by with_reducible rfl) ?_ | refine Mix.lex_skipU rfl rfl rfl (by with_reducible rfl) ?_); simp only [Act.put, List.setIfInBounds_toArray, List.set_cons_succ, List.set_cons_zero]) | (refine Mix.lex_part rfl rfl rfl rfl (fun hq => ?_) (fun hq => ?_) <;> (fail_if_success (guard_hyp hq :ₛ true = true)) <;> (fail_if_success (guard_hyp hq :ₛ false = false)) <;> first | (exfalso; cases hq; done) | (exfalso; simp only [decide_eq_true_eq, decide_eq_false_iff_not, beq_iff_eq, beq_eq_false_iff_ne, ne_eq, Int.not_lt, Int.not_le] at hq; omega) | simp only [Act.put, List.setIfInBounds_toArray, List.set_cons_succ, List.set_cons_zero]))))
  ((first | refine Mix.lex_goes0 rfl rfl ?_ | refine Mix.lex_goesG rfl rfl rfl (by with_reducible rfl) rfl ?_); intro K hK; go_simp)
  refine hK _ _ (fun _ => Cl.of ((Only.refl _ _).drew.alloc _)) ?_
  clear hK K
  simp only [Act.put, List.setIfInBounds_toArray, List.set_cons_succ, List.set_cons_zero]
  have O4 := Lib.hid ((Only.refl No w3).drew.alloc (.cells #[.int .i64 k, S (full s)] 67))
  have W4 := Lib.hid (own_keep (own_keep H2.out.wait O3.out hwb.out) O4.out fun _ _ h => h)
  refine Mix.lex_goes0 rfl rfl ?_
  intro K hK
  refine goes_append (v := r.wv) turn_ty rfl rfl rfl W4.out (rd_one w3.drew _ [.int .i64 k, S (full s)]) (by simp [Value.oneCell']) (by rw [hwl.out]; omega) ?_
  intro A' c' w5 hown5 hg5 hb5
  have O5 : Hid (Only (fun b => r.wv.ownBlock = some b) w3 w5) := (Only.any O4.out).grown hg5 fun g hg => .inr hg
  refine hK _ _ (fun _ => Cl.of O5.out) ?_
  clear hK K
  simp only [Act.put, List.setIfInBounds_toArray, List.set_cons_succ, List.set_cons_zero]
  have C5 := Lib.hid (C3.out.keep O5.out hgw.out)
  have g2 := C5.out.cell 2
  simp only [List.getElem?_toArray, List.getElem?_cons_succ, List.getElem?_cons_zero] at g2
  have g3 := C5.out.frozen 2
  (repeat' (first | (refine Mix.lex_quiet0 rfl rfl rfl ?_; intro K hK; go_big_quiet_op; go_big_quiet_on) | (refine Mix.lex_quietG rfl rfl rfl (by with_reducible rfl) rfl rfl ?_; intro K hK; go_big_quiet_op; go_big_quiet_on) | ((first | refine Mix.lex_skipT rfl rfl rfl (by with_reducible rfl) ?_ | refine Mix.lex_skipF rfl rfl rfl (by with_reducible rfl) ?_ | refine Mix.lex_skipU rfl rfl rfl (by with_reducible rfl) ?_); simp only [Act.put, List.setIfInBounds_toArray, List.set_cons_succ, List.set_cons_zero]) | (refine Mix.lex_part rfl rfl rfl rfl (fun hq => ?_) (fun hq => ?_) <;> (fail_if_success (guard_hyp hq :ₛ true = true)) <;> (fail_if_success (guard_hyp hq :ₛ false = false)) <;> first | (exfalso; cases hq; done) | (exfalso; simp only [decide_eq_true_eq, decide_eq_false_iff_not, beq_iff_eq, beq_eq_false_iff_ne, ne_eq, Int.not_lt, Int.not_le] at hq; omega) | simp only [Act.put, List.setIfInBounds_toArray, List.set_cons_succ, List.set_cons_zero])))
  ((first | refine Mix.lex_goes0 rfl rfl ?_ | refine Mix.lex_goesG rfl rfl rfl (by with_reducible rfl) rfl ?_); intro K hK; go_simp)
  refine hK _ _ (fun hne => absurd rfl hne) ?_
  clear hK K
  simp only [Act.put, List.setIfInBounds_toArray, List.set_cons_succ, List.set_cons_zero]
  refine Mix.lex_nil ?_
  have WB := Lib.hid hown5
  have HB := Lib.hid hb5
  have GB := Lib.hid hg5
  clear hown5 hb5 hg5 e1 e2 e3 g2 g3
  go_wp2
  go_ret
  have hsz : w.heap.size ≤ w3.heap.size := Nat.le_trans HX.out.size (Nat.le_trans hx2'.size O3.out.size)
  have O6 : Only (fun b => b = r.g) w5 (w5.setCell ⟨r.g, 2, none⟩ (.slice A' (d.stepped.wait.length + 1 : Nat) c')) := (Only.refl _ _).at_ 2 _
  have hkg := H2.out.gk
  have hkw : ∀ g, r.wv.ownBlock = some g → ¬ g = r.kg := fun g hg e => by
    obtain ⟨cur, hcur⟩ := Cs.of_own H2.out.kept
    exact own_ne H2.out.wait hcur (by decide) (by rw [hg, e])
  have hv' : ∀ b, (Value.slice A' (d.stepped.wait.length + 1 : Nat) c').ownBlock = some b → r.wv.ownBlock = some b ∨ w3.heap.size ≤ b := fun b hb => by
    rcases HB.out with h | h
    · exact .inl (by rw [← h]; exact hb)
    · right
      rw [h] at hb
      injection hb with hb
      rw [← hb]; simp
  have hf := H2.out.fine
  refine ⟨rfl, { r with wv := .slice A' (d.stepped.wait.length + 1 : Nat) c' }, ⟨?_, ?_, ?_, ?_, H2.out.ne, ?_⟩, rfl, ?_, ?_⟩
  · have := C5.out.set_ 2 (.slice A' (d.stepped.wait.length + 1 : Nat) c')
    simp only [List.setIfInBounds_toArray, List.set_cons_succ, List.set_cons_zero] at this
    simpa [Dk.written, DkR.cells] using this
  · have := own_keep (own_keep (own_keep H2.out.kept O3.out (fun g hg e => H2.out.ne (by simp [Value.ownBlock] at hg; omega))) O5.out (fun g hg h => hkw _ h (by simp [Value.ownBlock] at hg; exact hg.symm))) O6 (fun g hg e => hkg (by simp [Value.ownBlock] at hg; omega))
    simpa [Dk.written] using this
  · have := own_keep (own_keep N3.out O5.out (fun g hg h => hwb.out _ h (by simp [Value.ownBlock] at hg; exact hg.symm))) O6 (fun g hg e => hng (by simp [Value.ownBlock] at hg; omega))
    simpa [Dk.written] using this
  · have := own_keep WB.out O6 (fun g hg e => by
      rcases hv' g hg with h | h
      · exact hgw.out (by rw [h, e])
      · have := C3.out.lt; omega)
    simpa [Dk.written, turnC] using this
  · refine ⟨by simpa [Dk.written] using hf.len, by simpa [Dk.written] using hf.pos, by simpa [Dk.written] using hf.most, hf.lo, hf.hi, fun t ht => ?_⟩
    simp only [Dk.written, List.mem_append, List.mem_singleton, List.length_set] at ht ⊢
    rcases ht with ht | rfl
    · exact hf.at_ t ht
    · rw [hn1.out]; exact hk
  · have a1 : Only r.fp w w1 := HX.out.weak fun b _ e => .inl e
    have a2 : Only r.fp w w2 := a1.then_ext hx2'
    have a3 : Only r.fp w w3 := a2.trans O3.out fun b _ e => .inr (.inr (.inl e))
    have a5 : Only r.fp w w5 := a3.trans O5.out fun b _ e => .inr (.inr (.inr e))
    exact a5.trans O6 fun b _ e => .inl e
  · intro b hb
    rcases hb with h | h | h | h
    · exact .inl (.inl h)
    · exact .inl (.inr (.inl h))
    · exact .inl (.inr (.inr (.inl h)))
    · rcases hv' b h with h | h
      · exact .inl (.inr (.inr (.inr h)))
      · right; omega
end Go.Proofs.Ytlfiobciahnapaa
