/- Put together: Disk3, Disk4. -/
import Derived.Test.YtaphmmobmadfoaaMc07
namespace Go.Proofs.Ytaphmmobmadfoaa
open Go Go.RowKit
theorem turn_info : (Try.prog.info? 96).map (fun i => (i.zero, i.size, i.bytes)) = some (some (.agg #[.int .i64 0, S []]), 2, 24) := by kernel_rfl
@[go_sem] theorem turn_build (a : Int) (b : ByteArray) (w : World) : (Instr.build 96 #[(0, .int .i64 a), (1, .string b)]).run Try.prog w = .ok (.agg #[.int .i64 a, .string b]) w := run_build w 96 _ _ (by kernel_rfl)
theorem turn_ty : Ety Try.prog 68 96 2 := Ety.mk' Try.underlying68 turn_info rfl (by omega) (by omega)
theorem Write_bad {w : World} {r : DkR} {d : Dk} (h : DiskAt w r d) (i : Int) (s : Str) (hs : s.length ≤ 1000000) (hb : i < 0 ∨ (d.now.length : Int) ≤ i ∨ 340 < s.length) :
    Calls Try.prog 36 #[pt r.g, .int .i64 i, S s] w fun e w' => e = .returned (E 1) ∧ Ext w w' := by
  have c1 := h.cs.cell 1
  simp only [List.getElem?_toArray, List.getElem?_cons_succ, List.getElem?_cons_zero] at c1
  have hl := h.fine.most
  clear h
  go_enter Try.func36, Try.ntmps36
  go_wp2_with (first | ((first | refine Mix.wpList_guarded rfl ?_ | refine Mix.wp_still (by kernel_rfl) (by kernel_rfl) ?_); (repeat' (first | (refine Mix.lex_quiet0 rfl rfl rfl ?_; intro K hK; go_big_quiet_op; go_big_quiet_on) | (refine Mix.lex_quietG rfl rfl rfl (by with_reducible rfl) rfl rfl ?_; intro K hK; go_big_quiet_op; go_big_quiet_on) | ((first | refine Mix.lex_skipT rfl rfl rfl (by with_reducible rfl) ?_ | refine Mix.lex_skipF rfl rfl rfl (by with_reducible rfl) ?_ | refine Mix.lex_skipU rfl rfl rfl (by with_reducible rfl) ?_); simp only [Act.put, List.setIfInBounds_toArray, List.set_cons_succ, List.set_cons_zero]) | (refine Mix.lex_part rfl rfl rfl rfl (fun hq => ?_) (fun hq => ?_) <;> (fail_if_success (guard_hyp hq :ₛ true = true)) <;> (fail_if_success (guard_hyp hq :ₛ false = false)) <;> first | (exfalso; cases hq; done) | (exfalso; simp only [decide_eq_true_eq, decide_eq_false_iff_not, beq_iff_eq, beq_eq_false_iff_ne, ne_eq, Int.not_lt, Int.not_le] at hq; omega) | simp only [Act.put, List.setIfInBounds_toArray, List.set_cons_succ, List.set_cons_zero]))); all_goals (refine Mix.lex_nil ?_)))
  all_goals first
    | (go_ret; exact ⟨rfl, Only.refl _ _⟩)
    | (exfalso; simp only [decide_eq_true_eq, decide_eq_false_iff_not, beq_iff_eq, beq_eq_false_iff_ne, ne_eq, Int.not_lt, Int.not_le, Bool.not_eq_true, Bool.not_eq_false, Bool.or_eq_true, Bool.or_eq_false_iff, Bool.and_eq_true, Bool.and_eq_false_iff, Bool.not_eq_eq_eq_not, Bool.not_true, Bool.not_false] at *; omega)
/-- What a write leaves. -/
def Dk.written (d : Dk) (k : Nat) (s : Str) : Dk := { d with now := d.now.set k (full s), wait := d.wait ++ [(k, full s)] }
set_option maxHeartbeats 1000000 in
theorem Write_ok {w : World} {r : DkR} {d : Dk} (h : DiskAt w r d) (k : Nat) (hk : k < d.now.length) (s : Str) (hs : s.length ≤ 340) (hf : d.falls = false) (hw : d.wait.length ≤ 1000000) :
    Calls Try.prog 36 #[pt r.g, .int .i64 k, S s] w (DkRes w r (d.stepped.written k s) .nilIface) := by
  have c1 := h.cs.cell 1
  simp only [List.getElem?_toArray, List.getElem?_cons_succ, List.getElem?_cons_zero] at c1
  have hl := h.fine.most
  have hst := step_c h
  rw [hf] at hst
  have HST := Lib.hid hst
  have H := Lib.hid h
  clear h hst hf
  go_enter Try.func36, Try.ntmps36
  go_wp2_with (first | ((first | refine Mix.wpList_guarded rfl ?_ | refine Mix.wp_still (by kernel_rfl) (by kernel_rfl) ?_); (repeat' (first | (refine Mix.lex_quiet0 rfl rfl rfl ?_; intro K hK; go_big_quiet_op; go_big_quiet_on) | (refine Mix.lex_quietG rfl rfl rfl (by with_reducible rfl) rfl rfl ?_; intro K hK; go_big_quiet_op; go_big_quiet_on) | ((first | refine Mix.lex_skipT rfl rfl rfl (by with_reducible rfl) ?_ | refine Mix.lex_skipF rfl rfl rfl (by with_reducible rfl) ?_ | refine Mix.lex_skipU rfl rfl rfl (by with_reducible rfl) ?_); simp only [Act.put, List.setIfInBounds_toArray, List.set_cons_succ, List.set_cons_zero]) | (refine Mix.lex_part rfl rfl rfl rfl (fun hq => ?_) (fun hq => ?_) <;> (fail_if_success (guard_hyp hq :ₛ true = true)) <;> (fail_if_success (guard_hyp hq :ₛ false = false)) <;> first | (exfalso; cases hq; done) | (exfalso; simp only [decide_eq_true_eq, decide_eq_false_iff_not, beq_iff_eq, beq_eq_false_iff_ne, ne_eq, Int.not_lt, Int.not_le] at hq; omega) | simp only [Act.put, List.setIfInBounds_toArray, List.set_cons_succ, List.set_cons_zero]))); all_goals (refine Mix.lex_nil ?_)))
  all_goals try (exfalso; simp only [decide_eq_true_eq, decide_eq_false_iff_not, beq_iff_eq, beq_eq_false_iff_ne, ne_eq, Int.not_lt, Int.not_le, Bool.not_eq_true, Bool.not_eq_false, Bool.or_eq_true, Bool.or_eq_false_iff, Bool.and_eq_true, Bool.and_eq_false_iff, Bool.not_eq_eq_eq_not, Bool.not_true, Bool.not_false] at *; omega)
  refine HST.out.mono ?_
  rintro e w1 ⟨rfl, h1, hx1⟩
  have hn1 := Lib.hid (show d.stepped.now.length = d.now.length by unfold Dk.stepped; split <;> (try split) <;> rfl)
  have d1 := h1.cs.x (F := No) id 1
  simp only [List.getElem?_toArray, List.getElem?_cons_succ, List.getElem?_cons_zero] at d1
  rw [hn1.out] at d1
  have H1 := Lib.hid h1
  have HX := Lib.hid hx1
  clear h1 hx1
  go_upto_region 5 with fail
  (refine Mix.wp_draw [6, 8] 8 (Cl (w1) (No)) (by kernel_rfl) (by kernel_rfl) (Cl.of (Only.refl _ _).drew) ?_; (repeat' (first | (refine Mix.lex_quiet0 rfl rfl rfl ?_; intro K hK; go_big_quiet_op; go_big_quiet_on) | (refine Mix.lex_quietG rfl rfl rfl (by with_reducible rfl) rfl rfl ?_; intro K hK; go_big_quiet_op; go_big_quiet_on) | ((first | refine Mix.lex_skipT rfl rfl rfl (by with_reducible rfl) ?_ | refine Mix.lex_skipF rfl rfl rfl (by with_reducible rfl) ?_ | refine Mix.lex_skipU rfl rfl rfl (by with_reducible rfl) ?_); simp only [Act.put, List.setIfInBounds_toArray, List.set_cons_succ, List.set_cons_zero]) | (refine Mix.lex_part rfl rfl rfl rfl (fun hq => ?_) (fun hq => ?_) <;> (fail_if_success (guard_hyp hq :ₛ true = true)) <;> (fail_if_success (guard_hyp hq :ₛ false = false)) <;> first | (exfalso; cases hq; done) | (exfalso; simp only [decide_eq_true_eq, decide_eq_false_iff_not, beq_iff_eq, beq_eq_false_iff_ne, ne_eq, Int.not_lt, Int.not_le] at hq; omega) | simp only [Act.put, List.setIfInBounds_toArray, List.set_cons_succ, List.set_cons_zero]))))
  ((first | refine Mix.lex_goes0 rfl rfl ?_ | refine Mix.lex_goesG rfl rfl rfl (by with_reducible rfl) rfl ?_); intro K hK; go_simp)
  refine (full_c s hs _).mono ?_
  rintro e w2 ⟨rfl, hx2⟩
  have hx2' : Ext w1 w2 := (Only.refl No w1).drew.then_ext hx2
  refine ⟨_, rfl, hK _ _ (fun _ => Cl.of hx2') ?_⟩
  clear hK K
  simp only [Act.put, List.setIfInBounds_toArray, List.set_cons_succ, List.set_cons_zero]
  (repeat' (first | (refine Mix.lex_quiet0 rfl rfl rfl ?_; intro K hK; go_big_quiet_op; go_big_quiet_on) | (refine Mix.lex_quietG rfl rfl rfl (by with_reducible rfl) rfl rfl ?_; intro K hK; go_big_quiet_op; go_big_quiet_on) | ((first | refine Mix.lex_skipT rfl rfl rfl (by with_reducible rfl) ?_ | refine Mix.lex_skipF rfl rfl rfl (by with_reducible rfl) ?_ | refine Mix.lex_skipU rfl rfl rfl (by with_reducible rfl) ?_); simp only [Act.put, List.setIfInBounds_toArray, List.set_cons_succ, List.set_cons_zero]) | (refine Mix.lex_part rfl rfl rfl rfl (fun hq => ?_) (fun hq => ?_) <;> (fail_if_success (guard_hyp hq :ₛ true = true)) <;> (fail_if_success (guard_hyp hq :ₛ false = false)) <;> first | (exfalso; cases hq; done) | (exfalso; simp only [decide_eq_true_eq, decide_eq_false_iff_not, beq_iff_eq, beq_eq_false_iff_ne, ne_eq, Int.not_lt, Int.not_le] at hq; omega) | simp only [Act.put, List.setIfInBounds_toArray, List.set_cons_succ, List.set_cons_zero])))
  have H2 := Lib.hid (H1.out.ext hx2')
  have s1 : w2.cell? ⟨r.ng, k, none⟩ = some (S (d.stepped.now[k]'(by rw [hn1.out]; exact hk))) := H2.out.nowCell _
  have s2 := H2.out.now.frozenAt k
  ((first | refine Mix.lex_goes0 rfl rfl ?_ | refine Mix.lex_goesG rfl rfl rfl (by with_reducible rfl) rfl ?_); intro K hK; go_simp)
  refine hK _ _ (fun hne => absurd rfl hne) ?_
  clear hK K
  simp only [Act.put, List.setIfInBounds_toArray, List.set_cons_succ, List.set_cons_zero]
  refine Mix.lex_nil ?_
  clear s1 s2 d1
  obtain ⟨w3, hw3⟩ : ∃ w3, w3 = w2.setCell ⟨r.ng, k, none⟩ (S (full s)) := ⟨_, rfl⟩
  have hng := H2.out.gn
  have C3 : Hid (Cs w3 r.g 70 (r.cells d.stepped)) := by rw [hw3]; exact H2.out.cs.far (p := ⟨r.ng, k, none⟩) (Ne.symm hng) _
  have N3 : Hid (w3.ownsRow 0 9 1 (.slice (some ⟨r.ng, 0, none⟩) d.stepped.now.length r.nc) d.stepped.now.length ((d.stepped.now.set k (full s)).map S)) := by
    rw [hw3, List.map_set]; exact own_set H2.out.now k (by rw [hn1.out]; exact hk) _
  have O3 : Hid (Only (fun b => b = r.ng) w2 w3) := by rw [hw3]; exact (Only.refl _ _).at_ k _
  rw [← hw3]
  clear hw3
  have hwl := Lib.hid (show d.stepped.wait.length = d.wait.length by unfold Dk.stepped; split <;> (try split) <;> rfl)
  have hwb : Hid (∀ g, r.wv.ownBlock = some g → ¬ g = r.ng) := fun g hg e => by
    obtain ⟨cur, hcur⟩ := Cs.of_own H2.out.now
    exact own_ne H2.out.wait hcur (by decide) (by rw [hg, e])
  have hgw := Lib.hid H2.out.gw
  have e1 := C3.out.x (F := fun b => r.wv.ownBlock = some b) hgw.out 1
  have e2 := C3.out.x (F := fun b => r.wv.ownBlock = some b) hgw.out 2
  simp only [List.getElem?_toArray, List.getElem?_cons_succ, List.getElem?_cons_zero] at e1 e2
  rw [hn1.out] at e1
  have e3 : ∀ ξ : X w3 (fun b => r.wv.ownBlock = some b), ξ.v.cell? ⟨r.ng, k, none⟩ = some (S (full s)) := fun ξ => by
    have := own_keep N3.out ξ.h (fun g hg h => hwb.out _ h (by simp [Value.ownBlock] at hg; exact hg.symm))
    rw [World.ownsRow.cellAt this k (by rw [hn1.out]; omega), List.getElem?_map, List.getElem?_set_self (by rw [hn1.out]; exact hk)]
    rfl
  go_upto_region 6 with fail
  (refine Mix.wp_draw [14, 15, 18] 18 (Cl (w3) (fun b => r.wv.ownBlock = some b)) (by kernel_rfl) (by kernel_rfl) (Cl.of (Only.refl _ _).drew) ?_; (repeat' (first | (refine Mix.lex_quiet0 rfl rfl rfl ?_; intro K hK; go_big_quiet_op; go_big_quiet_on) | (refine Mix.lex_quietG rfl rfl rfl (by with_reducible rfl) rfl rfl ?_; intro K hK; go_big_quiet_op; go_big_quiet_on) | ((first | refine Mix.lex_skipT rfl rfl rfl (by with_reducible rfl) ?_ | refine Mix.lex_skipF rfl rfl rfl (by with_reducible rfl) ?_ | refine Mix.lex_skipU rfl rfl rfl (by with_reducible rfl) ?_); simp only [Act.put, List.setIfInBounds_toArray, List.set_cons_succ, List.set_cons_zero]) | (refine Mix.lex_part rfl rfl rfl rfl (fun hq => ?_) (fun hq => ?_) <;> (fail_if_success (guard_hyp hq :ₛ true = true)) <;> (fail_if_success (guard_hyp hq :ₛ false = false)) <;> first | (exfalso; cases hq; done) | (exfalso; simp only [decide_eq_true_eq, decide_eq_false_iff_not, beq_iff_eq, beq_eq_false_iff_ne, ne_eq, Int.not_lt, Int.not_le] at hq; omega) | simp only [Act.put, List.setIfInBounds_toArray, List.set_cons_succ, List.set_cons_zero]))))
  ((first | refine Mix.lex_goes0 rfl rfl ?_ | refine Mix.lex_goesG rfl rfl rfl (by with_reducible rfl) rfl ?_); intro K hK; go_simp)
  refine hK _ _ (fun _ => Cl.of ((Only.refl _ _).drew.alloc _)) ?_
  clear hK K
  simp only [Act.put, List.setIfInBounds_toArray, List.set_cons_succ, List.set_cons_zero]
  have O4 := Lib.hid ((Only.refl No w3).drew.alloc (.cells #[.int .i64 k, S (full s)] 96))
  have W4 := Lib.hid (own_keep (own_keep H2.out.wait O3.out hwb.out) O4.out fun _ _ h => h)
  refine Mix.lex_goes0 rfl rfl ?_
  intro K hK
  refine goes_append (v := r.wv) turn_ty rfl rfl rfl W4.out (rd_one w3.drew _ [.int .i64 k, S (full s)]) (by simp [Value.oneCell']) (by rw [hwl.out]; omega) ?_
  intro A' c' w5 hown5 hg5 hb5
  have O5 : Hid (Only (fun b => r.wv.ownBlock = some b) w3 w5) := (Only.any O4.out).grown hg5 fun g hg => .inr hg
  refine hK _ _ (fun _ => Cl.of O5.out) ?_
  clear hK K
  simp only [Act.put, List.setIfInBounds_toArray, List.set_cons_succ, List.set_cons_zero]
  have C5 := Lib.hid (C3.out.keep O5.out hgw.out)
  have g2 := C5.out.cell 2
  simp only [List.getElem?_toArray, List.getElem?_cons_succ, List.getElem?_cons_zero] at g2
  have g3 := C5.out.frozen 2
  (repeat' (first | (refine Mix.lex_quiet0 rfl rfl rfl ?_; intro K hK; go_big_quiet_op; go_big_quiet_on) | (refine Mix.lex_quietG rfl rfl rfl (by with_reducible rfl) rfl rfl ?_; intro K hK; go_big_quiet_op; go_big_quiet_on) | ((first | refine Mix.lex_skipT rfl rfl rfl (by with_reducible rfl) ?_ | refine Mix.lex_skipF rfl rfl rfl (by with_reducible rfl) ?_ | refine Mix.lex_skipU rfl rfl rfl (by with_reducible rfl) ?_); simp only [Act.put, List.setIfInBounds_toArray, List.set_cons_succ, List.set_cons_zero]) | (refine Mix.lex_part rfl rfl rfl rfl (fun hq => ?_) (fun hq => ?_) <;> (fail_if_success (guard_hyp hq :ₛ true = true)) <;> (fail_if_success (guard_hyp hq :ₛ false = false)) <;> first | (exfalso; cases hq; done) | (exfalso; simp only [decide_eq_true_eq, decide_eq_false_iff_not, beq_iff_eq, beq_eq_false_iff_ne, ne_eq, Int.not_lt, Int.not_le] at hq; omega) | simp only [Act.put, List.setIfInBounds_toArray, List.set_cons_succ, List.set_cons_zero])))
  ((first | refine Mix.lex_goes0 rfl rfl ?_ | refine Mix.lex_goesG rfl rfl rfl (by with_reducible rfl) rfl ?_); intro K hK; go_simp)
  refine hK _ _ (fun hne => absurd rfl hne) ?_
  clear hK K
  simp only [Act.put, List.setIfInBounds_toArray, List.set_cons_succ, List.set_cons_zero]
  refine Mix.lex_nil ?_
  have WB := Lib.hid hown5
  have HB := Lib.hid hb5
  have GB := Lib.hid hg5
  clear hown5 hb5 hg5 e1 e2 e3 g2 g3
  go_wp2
  go_ret
  have hsz : w.heap.size ≤ w3.heap.size := Nat.le_trans HX.out.size (Nat.le_trans hx2'.size O3.out.size)
  have O6 : Only (fun b => b = r.g) w5 (w5.setCell ⟨r.g, 2, none⟩ (.slice A' (d.stepped.wait.length + 1 : Nat) c')) := (Only.refl _ _).at_ 2 _
  have hkg := H2.out.gk
  have hkw : ∀ g, r.wv.ownBlock = some g → ¬ g = r.kg := fun g hg e => by
    obtain ⟨cur, hcur⟩ := Cs.of_own H2.out.kept
    exact own_ne H2.out.wait hcur (by decide) (by rw [hg, e])
  have hv' : ∀ b, (Value.slice A' (d.stepped.wait.length + 1 : Nat) c').ownBlock = some b → r.wv.ownBlock = some b ∨ w3.heap.size ≤ b := fun b hb => by
    rcases HB.out with h | h
    · exact .inl (by rw [← h]; exact hb)
    · right
      rw [h] at hb
      injection hb with hb
      rw [← hb]; simp
  have hf := H2.out.fine
  refine ⟨rfl, { r with wv := .slice A' (d.stepped.wait.length + 1 : Nat) c' }, ⟨?_, ?_, ?_, ?_, H2.out.ne, ?_⟩, rfl, ?_, ?_⟩
  · have := C5.out.set_ 2 (.slice A' (d.stepped.wait.length + 1 : Nat) c')
    simp only [List.setIfInBounds_toArray, List.set_cons_succ, List.set_cons_zero] at this
    simpa [Dk.written, DkR.cells] using this
  · have := own_keep (own_keep (own_keep H2.out.kept O3.out (fun g hg e => H2.out.ne (by simp [Value.ownBlock] at hg; omega))) O5.out (fun g hg h => hkw _ h (by simp [Value.ownBlock] at hg; exact hg.symm))) O6 (fun g hg e => hkg (by simp [Value.ownBlock] at hg; omega))
    simpa [Dk.written] using this
  · have := own_keep (own_keep N3.out O5.out (fun g hg h => hwb.out _ h (by simp [Value.ownBlock] at hg; exact hg.symm))) O6 (fun g hg e => hng (by simp [Value.ownBlock] at hg; omega))
    simpa [Dk.written] using this
  · have := own_keep WB.out O6 (fun g hg e => by
      rcases hv' g hg with h | h
      · exact hgw.out (by rw [h, e])
      · have := C3.out.lt; omega)
    simpa [Dk.written, turnC] using this
  · refine ⟨by simpa [Dk.written] using hf.len, by simpa [Dk.written] using hf.pos, by simpa [Dk.written] using hf.most, hf.lo, hf.hi, fun t ht => ?_⟩
    simp only [Dk.written, List.mem_append, List.mem_singleton, List.length_set] at ht ⊢
    rcases ht with ht | rfl
    · exact hf.at_ t ht
    · rw [hn1.out]; exact hk
  · have a1 : Only r.fp w w1 := HX.out.weak fun b _ e => .inl e
    have a2 : Only r.fp w w2 := a1.then_ext hx2'
    have a3 : Only r.fp w w3 := a2.trans O3.out fun b _ e => .inr (.inr (.inl e))
    have a5 : Only r.fp w w5 := a3.trans O5.out fun b _ e => .inr (.inr (.inr e))
    exact a5.trans O6 fun b _ e => .inl e
  · intro b hb
    rcases hb with h | h | h | h
    · exact .inl (.inl h)
    · exact .inl (.inr (.inl h))
    · exact .inl (.inr (.inr (.inl h)))
    · rcases hv' b h with h | h
      · exact .inl (.inr (.inr (.inr h)))
      · right; omega
end Go.Proofs.Ytaphmmobmadfoaa

namespace Go.Proofs.Ytaphmmobmadfoaa
open Go Go.RowKit
theorem str_info : (Try.prog.info? 9).map (·.size) = some 1 := by kernel_rfl
theorem one_S (l : List Str) : ∀ u ∈ l.map S, u.oneCell' = true := by
  intro u hu
  obtain ⟨s, _, rfl⟩ := List.mem_map.1 hu
  rfl
theorem Read_c {w : World} {r : DkR} {d : Dk} (h : DiskAt w r d) (i : Int) :
    Calls Try.prog 31 #[pt r.g, .int .i64 i] w fun e w' =>
      e = .returned (if d.down then .tuple #[S [], E 11] else if i < 0 ∨ (d.now.length : Int) ≤ i then .tuple #[S [], E 1] else .tuple #[S (d.now.getD i.toNat []), .nilIface]) ∧ Ext w w' := by
  have c1 := h.cs.cell 1
  have c4 := h.cs.cell 4
  simp only [List.getElem?_toArray, List.getElem?_cons_succ, List.getElem?_cons_zero] at c1 c4
  have hl := h.fine.most
  obtain ⟨kept, now, wait, fuse, down⟩ := d
  cases down with
  | true =>
    clear h
    go_enter Try.func31, Try.ntmps31
    go_wp2_with (first | ((first | refine Mix.wpList_guarded rfl ?_ | refine Mix.wp_still (by kernel_rfl) (by kernel_rfl) ?_); (repeat' (first | (refine Mix.lex_quiet0 rfl rfl rfl ?_; intro K hK; go_big_quiet_op; go_big_quiet_on) | (refine Mix.lex_quietG rfl rfl rfl (by with_reducible rfl) rfl rfl ?_; intro K hK; go_big_quiet_op; go_big_quiet_on) | ((first | refine Mix.lex_skipT rfl rfl rfl (by with_reducible rfl) ?_ | refine Mix.lex_skipF rfl rfl rfl (by with_reducible rfl) ?_ | refine Mix.lex_skipU rfl rfl rfl (by with_reducible rfl) ?_); simp only [Act.put, List.setIfInBounds_toArray, List.set_cons_succ, List.set_cons_zero]) | (refine Mix.lex_part rfl rfl rfl rfl (fun hq => ?_) (fun hq => ?_) <;> (fail_if_success (guard_hyp hq :ₛ true = true)) <;> (fail_if_success (guard_hyp hq :ₛ false = false)) <;> first | (exfalso; cases hq; done) | (exfalso; simp only [decide_eq_true_eq, decide_eq_false_iff_not, beq_iff_eq, beq_eq_false_iff_ne, ne_eq, Int.not_lt, Int.not_le] at hq; omega) | simp only [Act.put, List.setIfInBounds_toArray, List.set_cons_succ, List.set_cons_zero]))); all_goals (refine Mix.lex_nil ?_)))
    go_ret2
    exact ⟨rfl, Only.refl _ _⟩
  | false =>
    simp only at c1 c4 hl
    by_cases hb : i < 0 ∨ (now.length : Int) ≤ i
    · clear h
      simp only [Bool.false_eq_true, if_false, if_pos hb]
      go_enter Try.func31, Try.ntmps31
      go_wp2_with (first | ((first | refine Mix.wpList_guarded rfl ?_ | refine Mix.wp_still (by kernel_rfl) (by kernel_rfl) ?_); (repeat' (first | (refine Mix.lex_quiet0 rfl rfl rfl ?_; intro K hK; go_big_quiet_op; go_big_quiet_on) | (refine Mix.lex_quietG rfl rfl rfl (by with_reducible rfl) rfl rfl ?_; intro K hK; go_big_quiet_op; go_big_quiet_on) | ((first | refine Mix.lex_skipT rfl rfl rfl (by with_reducible rfl) ?_ | refine Mix.lex_skipF rfl rfl rfl (by with_reducible rfl) ?_ | refine Mix.lex_skipU rfl rfl rfl (by with_reducible rfl) ?_); simp only [Act.put, List.setIfInBounds_toArray, List.set_cons_succ, List.set_cons_zero]) | (refine Mix.lex_part rfl rfl rfl rfl (fun hq => ?_) (fun hq => ?_) <;> (fail_if_success (guard_hyp hq :ₛ true = true)) <;> (fail_if_success (guard_hyp hq :ₛ false = false)) <;> first | (exfalso; cases hq; done) | (exfalso; simp only [decide_eq_true_eq, decide_eq_false_iff_not, beq_iff_eq, beq_eq_false_iff_ne, ne_eq, Int.not_lt, Int.not_le] at hq; omega) | simp only [Act.put, List.setIfInBounds_toArray, List.set_cons_succ, List.set_cons_zero]))); all_goals (refine Mix.lex_nil ?_)))
      all_goals first
        | (go_ret2; exact ⟨rfl, Only.refl _ _⟩)
        | (exfalso; simp only [decide_eq_true_eq, decide_eq_false_iff_not, beq_iff_eq, beq_eq_false_iff_ne, ne_eq, Int.not_lt, Int.not_le, Bool.not_eq_true, Bool.not_eq_false, Bool.or_eq_true, Bool.or_eq_false_iff, Bool.and_eq_true, Bool.and_eq_false_iff, Bool.not_eq_eq_eq_not, Bool.not_true, Bool.not_false] at *; omega)
    · obtain ⟨k, rfl⟩ : ∃ k : Nat, i = k := ⟨i.toNat, by omega⟩
      have hk : k < now.length := by omega
      have s1 : w.cell? ⟨r.ng, k, none⟩ = some (S now[k]) := h.nowCell hk
      clear h
      simp only [Bool.false_eq_true, if_false, if_neg hb]
      go_enter Try.func31, Try.ntmps31
      go_wp2_with (first | ((first | refine Mix.wpList_guarded rfl ?_ | refine Mix.wp_still (by kernel_rfl) (by kernel_rfl) ?_); (repeat' (first | (refine Mix.lex_quiet0 rfl rfl rfl ?_; intro K hK; go_big_quiet_op; go_big_quiet_on) | (refine Mix.lex_quietG rfl rfl rfl (by with_reducible rfl) rfl rfl ?_; intro K hK; go_big_quiet_op; go_big_quiet_on) | ((first | refine Mix.lex_skipT rfl rfl rfl (by with_reducible rfl) ?_ | refine Mix.lex_skipF rfl rfl rfl (by with_reducible rfl) ?_ | refine Mix.lex_skipU rfl rfl rfl (by with_reducible rfl) ?_); simp only [Act.put, List.setIfInBounds_toArray, List.set_cons_succ, List.set_cons_zero]) | (refine Mix.lex_part rfl rfl rfl rfl (fun hq => ?_) (fun hq => ?_) <;> (fail_if_success (guard_hyp hq :ₛ true = true)) <;> (fail_if_success (guard_hyp hq :ₛ false = false)) <;> first | (exfalso; cases hq; done) | (exfalso; simp only [decide_eq_true_eq, decide_eq_false_iff_not, beq_iff_eq, beq_eq_false_iff_ne, ne_eq, Int.not_lt, Int.not_le] at hq; omega) | simp only [Act.put, List.setIfInBounds_toArray, List.set_cons_succ, List.set_cons_zero]))); all_goals (refine Mix.lex_nil ?_)))
      all_goals first
        | (go_ret2; exact ⟨by simp [List.getD, hk], Only.refl _ _⟩)
        | (exfalso; simp only [decide_eq_true_eq, decide_eq_false_iff_not, beq_iff_eq, beq_eq_false_iff_ne, ne_eq, Int.not_lt, Int.not_le, Bool.not_eq_true, Bool.not_eq_false, Bool.or_eq_true, Bool.or_eq_false_iff, Bool.and_eq_true, Bool.and_eq_false_iff, Bool.not_eq_eq_eq_not, Bool.not_true, Bool.not_false] at *; omega)
def Dk.flushed (d : Dk) : Dk := { d with kept := d.now, wait := [] }
theorem Flush_falls {w : World} {r : DkR} {d : Dk} (h : DiskAt w r d) (hf : d.falls = true) :
    Calls Try.prog 37 #[pt r.g] w (DkRes w r d.stepped (E 11)) := by
  have hst := step_c h
  rw [hf] at hst
  have HST := Lib.hid hst
  clear hst
  go_enter Try.func37, Try.ntmps37
  go_wp2_with (first | ((first | refine Mix.wpList_guarded rfl ?_ | refine Mix.wp_still (by kernel_rfl) (by kernel_rfl) ?_); (repeat' (first | (refine Mix.lex_quiet0 rfl rfl rfl ?_; intro K hK; go_big_quiet_op; go_big_quiet_on) | (refine Mix.lex_quietG rfl rfl rfl (by with_reducible rfl) rfl rfl ?_; intro K hK; go_big_quiet_op; go_big_quiet_on) | ((first | refine Mix.lex_skipT rfl rfl rfl (by with_reducible rfl) ?_ | refine Mix.lex_skipF rfl rfl rfl (by with_reducible rfl) ?_ | refine Mix.lex_skipU rfl rfl rfl (by with_reducible rfl) ?_); simp only [Act.put, List.setIfInBounds_toArray, List.set_cons_succ, List.set_cons_zero]) | (refine Mix.lex_part rfl rfl rfl rfl (fun hq => ?_) (fun hq => ?_) <;> (fail_if_success (guard_hyp hq :ₛ true = true)) <;> (fail_if_success (guard_hyp hq :ₛ false = false)) <;> first | (exfalso; cases hq; done) | (exfalso; simp only [decide_eq_true_eq, decide_eq_false_iff_not, beq_iff_eq, beq_eq_false_iff_ne, ne_eq, Int.not_lt, Int.not_le] at hq; omega) | simp only [Act.put, List.setIfInBounds_toArray, List.set_cons_succ, List.set_cons_zero]))); all_goals (refine Mix.lex_nil ?_)))
  refine HST.out.mono ?_
  rintro e w1 ⟨rfl, h1, hx1⟩
  have H1 := Lib.hid h1
  clear h1
  go_wp2_with (first | ((first | refine Mix.wpList_guarded rfl ?_ | refine Mix.wp_still (by kernel_rfl) (by kernel_rfl) ?_); (repeat' (first | (refine Mix.lex_quiet0 rfl rfl rfl ?_; intro K hK; go_big_quiet_op; go_big_quiet_on) | (refine Mix.lex_quietG rfl rfl rfl (by with_reducible rfl) rfl rfl ?_; intro K hK; go_big_quiet_op; go_big_quiet_on) | ((first | refine Mix.lex_skipT rfl rfl rfl (by with_reducible rfl) ?_ | refine Mix.lex_skipF rfl rfl rfl (by with_reducible rfl) ?_ | refine Mix.lex_skipU rfl rfl rfl (by with_reducible rfl) ?_); simp only [Act.put, List.setIfInBounds_toArray, List.set_cons_succ, List.set_cons_zero]) | (refine Mix.lex_part rfl rfl rfl rfl (fun hq => ?_) (fun hq => ?_) <;> (fail_if_success (guard_hyp hq :ₛ true = true)) <;> (fail_if_success (guard_hyp hq :ₛ false = false)) <;> first | (exfalso; cases hq; done) | (exfalso; simp only [decide_eq_true_eq, decide_eq_false_iff_not, beq_iff_eq, beq_eq_false_iff_ne, ne_eq, Int.not_lt, Int.not_le] at hq; omega) | simp only [Act.put, List.setIfInBounds_toArray, List.set_cons_succ, List.set_cons_zero]))); all_goals (refine Mix.lex_nil ?_)))
  go_ret
  exact ⟨rfl, r, H1.out, rfl, hx1.weak fun b _ e => .inl e, fun b hb => .inl hb⟩
set_option maxHeartbeats 1000000 in
theorem Flush_ok {w : World} {r : DkR} {d : Dk} (h : DiskAt w r d) (hf : d.falls = false) :
    Calls Try.prog 37 #[pt r.g] w (DkRes w r d.stepped.flushed .nilIface) := by
  have hst := step_c h
  rw [hf] at hst
  have HST := Lib.hid hst
  clear hst h
  go_enter Try.func37, Try.ntmps37
  go_wp2_with (first | ((first | refine Mix.wpList_guarded rfl ?_ | refine Mix.wp_still (by kernel_rfl) (by kernel_rfl) ?_); (repeat' (first | (refine Mix.lex_quiet0 rfl rfl rfl ?_; intro K hK; go_big_quiet_op; go_big_quiet_on) | (refine Mix.lex_quietG rfl rfl rfl (by with_reducible rfl) rfl rfl ?_; intro K hK; go_big_quiet_op; go_big_quiet_on) | ((first | refine Mix.lex_skipT rfl rfl rfl (by with_reducible rfl) ?_ | refine Mix.lex_skipF rfl rfl rfl (by with_reducible rfl) ?_ | refine Mix.lex_skipU rfl rfl rfl (by with_reducible rfl) ?_); simp only [Act.put, List.setIfInBounds_toArray, List.set_cons_succ, List.set_cons_zero]) | (refine Mix.lex_part rfl rfl rfl rfl (fun hq => ?_) (fun hq => ?_) <;> (fail_if_success (guard_hyp hq :ₛ true = true)) <;> (fail_if_success (guard_hyp hq :ₛ false = false)) <;> first | (exfalso; cases hq; done) | (exfalso; simp only [decide_eq_true_eq, decide_eq_false_iff_not, beq_iff_eq, beq_eq_false_iff_ne, ne_eq, Int.not_lt, Int.not_le] at hq; omega) | simp only [Act.put, List.setIfInBounds_toArray, List.set_cons_succ, List.set_cons_zero]))); all_goals (refine Mix.lex_nil ?_)))
  refine HST.out.mono ?_
  rintro e w1 ⟨rfl, h1, hx1⟩
  have H1 := Lib.hid h1
  have HX := Lib.hid hx1
  clear h1 hx1
  have d1 := H1.out.cs.x (F := No) id 1
  have d0 := H1.out.cs.x (F := No) id 0
  simp only [List.getElem?_toArray, List.getElem?_cons_succ, List.getElem?_cons_zero] at d0 d1
  go_upto_region 3 with fail
  (refine Mix.wp_draw [8] 8 (Cl (w1) (No)) (by kernel_rfl) (by kernel_rfl) (Cl.of (Only.refl _ _).drew) ?_; (repeat' (first | (refine Mix.lex_quiet0 rfl rfl rfl ?_; intro K hK; go_big_quiet_op; go_big_quiet_on) | (refine Mix.lex_quietG rfl rfl rfl (by with_reducible rfl) rfl rfl ?_; intro K hK; go_big_quiet_op; go_big_quiet_on) | ((first | refine Mix.lex_skipT rfl rfl rfl (by with_reducible rfl) ?_ | refine Mix.lex_skipF rfl rfl rfl (by with_reducible rfl) ?_ | refine Mix.lex_skipU rfl rfl rfl (by with_reducible rfl) ?_); simp only [Act.put, List.setIfInBounds_toArray, List.set_cons_succ, List.set_cons_zero]) | (refine Mix.lex_part rfl rfl rfl rfl (fun hq => ?_) (fun hq => ?_) <;> (fail_if_success (guard_hyp hq :ₛ true = true)) <;> (fail_if_success (guard_hyp hq :ₛ false = false)) <;> first | (exfalso; cases hq; done) | (exfalso; simp only [decide_eq_true_eq, decide_eq_false_iff_not, beq_iff_eq, beq_eq_false_iff_ne, ne_eq, Int.not_lt, Int.not_le] at hq; omega) | simp only [Act.put, List.setIfInBounds_toArray, List.set_cons_succ, List.set_cons_zero]))))
  refine Mix.lex_goes0 rfl rfl ?_
  intro K hK
  refine goes_copy (g := r.kg) (n := d.stepped.now.length) Try.underlying64 str_info rfl rfl rfl H1.out.fine.pos (own_keep H1.out.kept (Only.refl No _).drew fun _ _ h => h) (rd_of_own (own_keep H1.out.now (Only.refl No _).drew fun _ _ h => h)) (one_S _) ?_
  intro w2 hk2 hx2
  refine hK _ _ (fun hne => absurd rfl hne) ?_
  clear hK K d0 d1
  simp only [Act.put, List.setIfInBounds_toArray, List.set_cons_succ, List.set_cons_zero]
  refine Mix.lex_nil ?_
  have K2 := Lib.hid hk2
  have O2 : Hid (Only (fun b => b = r.kg) w1 w2) := ((Only.refl _ _).drew).trans hx2 fun _ _ h => h
  clear hk2 hx2
  have C2 := Lib.hid (H1.out.cs.keep O2.out (fun e => H1.out.gk e.symm))
  have f2 := C2.out.cell 2
  simp only [List.getElem?_toArray, List.getElem?_cons_succ, List.getElem?_cons_zero] at f2
  have f3 := C2.out.frozen 2
  go_wp2
  go_ret
  have hf := H1.out.fine
  have O3 : Only (fun b => b = r.g) w2 (w2.setCell ⟨r.g, 2, none⟩ (.slice none 0 0)) := (Only.refl _ _).at_ 2 _
  refine ⟨rfl, { r with wv := .slice none 0 0 }, ⟨?_, ?_, ?_, ?_, H1.out.ne, ?_⟩, rfl, ?_, ?_⟩
  · have := C2.out.set_ 2 (.slice none 0 0)
    simp only [List.setIfInBounds_toArray, List.set_cons_succ, List.set_cons_zero] at this
    simpa [Dk.flushed, DkR.cells] using this
  · have := own_keep K2.out O3 (fun g hg e => H1.out.gk (by simp [Value.ownBlock] at hg; omega))
    simpa [Dk.flushed] using this
  · have := own_keep (own_keep H1.out.now O2.out (fun g hg e => H1.out.ne (by simp [Value.ownBlock] at hg; omega))) O3 (fun g hg e => H1.out.gn (by simp [Value.ownBlock] at hg; omega))
    simpa [Dk.flushed] using this
  · exact World.ownsRow_nil _ _ _ _
  · exact ⟨rfl, hf.pos, hf.most, hf.lo, hf.hi, by simp [Dk.flushed]⟩
  · have a1 : Only r.fp w w1 := HX.out.weak fun b _ e => .inl e
    have a2 : Only r.fp w w2 := a1.trans O2.out fun b _ e => .inr (.inl e)
    exact a2.trans O3 fun b _ e => .inl e
  · intro b hb
    rcases hb with h | h | h | h
    · exact .inl (.inl h)
    · exact .inl (.inr (.inl h))
    · exact .inl (.inr (.inr (.inl h)))
    · simp [Value.ownBlock] at h
theorem Down_c {w : World} {r : DkR} {d : Dk} (h : DiskAt w r d) :
    Calls Try.prog 29 #[pt r.g] w fun e w' => e = .returned (.bool d.down) ∧ Ext w w' := by
  have c4 := h.cs.cell 4
  simp only [List.getElem?_toArray, List.getElem?_cons_succ, List.getElem?_cons_zero] at c4
  clear h
  go_enter Try.func29, Try.ntmps29
  go_wp2_with (first | ((first | refine Mix.wpList_guarded rfl ?_ | refine Mix.wp_still (by kernel_rfl) (by kernel_rfl) ?_); (repeat' (first | (refine Mix.lex_quiet0 rfl rfl rfl ?_; intro K hK; go_big_quiet_op; go_big_quiet_on) | (refine Mix.lex_quietG rfl rfl rfl (by with_reducible rfl) rfl rfl ?_; intro K hK; go_big_quiet_op; go_big_quiet_on) | ((first | refine Mix.lex_skipT rfl rfl rfl (by with_reducible rfl) ?_ | refine Mix.lex_skipF rfl rfl rfl (by with_reducible rfl) ?_ | refine Mix.lex_skipU rfl rfl rfl (by with_reducible rfl) ?_); simp only [Act.put, List.setIfInBounds_toArray, List.set_cons_succ, List.set_cons_zero]) | (refine Mix.lex_part rfl rfl rfl rfl (fun hq => ?_) (fun hq => ?_) <;> (fail_if_success (guard_hyp hq :ₛ true = true)) <;> (fail_if_success (guard_hyp hq :ₛ false = false)) <;> first | (exfalso; cases hq; done) | (exfalso; simp only [decide_eq_true_eq, decide_eq_false_iff_not, beq_iff_eq, beq_eq_false_iff_ne, ne_eq, Int.not_lt, Int.not_le] at hq; omega) | simp only [Act.put, List.setIfInBounds_toArray, List.set_cons_succ, List.set_cons_zero]))); all_goals (refine Mix.lex_nil ?_)))
  go_ret
  exact ⟨rfl, Only.refl _ _⟩
theorem Sectors_c {w : World} {r : DkR} {d : Dk} (h : DiskAt w r d) :
    Calls Try.prog 30 #[pt r.g] w fun e w' => e = .returned (.int .i64 d.now.length) ∧ Ext w w' := by
  have c1 := h.cs.cell 1
  simp only [List.getElem?_toArray, List.getElem?_cons_succ, List.getElem?_cons_zero] at c1
  clear h
  go_enter Try.func30, Try.ntmps30
  go_wp2_with (first | ((first | refine Mix.wpList_guarded rfl ?_ | refine Mix.wp_still (by kernel_rfl) (by kernel_rfl) ?_); (repeat' (first | (refine Mix.lex_quiet0 rfl rfl rfl ?_; intro K hK; go_big_quiet_op; go_big_quiet_on) | (refine Mix.lex_quietG rfl rfl rfl (by with_reducible rfl) rfl rfl ?_; intro K hK; go_big_quiet_op; go_big_quiet_on) | ((first | refine Mix.lex_skipT rfl rfl rfl (by with_reducible rfl) ?_ | refine Mix.lex_skipF rfl rfl rfl (by with_reducible rfl) ?_ | refine Mix.lex_skipU rfl rfl rfl (by with_reducible rfl) ?_); simp only [Act.put, List.setIfInBounds_toArray, List.set_cons_succ, List.set_cons_zero]) | (refine Mix.lex_part rfl rfl rfl rfl (fun hq => ?_) (fun hq => ?_) <;> (fail_if_success (guard_hyp hq :ₛ true = true)) <;> (fail_if_success (guard_hyp hq :ₛ false = false)) <;> first | (exfalso; cases hq; done) | (exfalso; simp only [decide_eq_true_eq, decide_eq_false_iff_not, beq_iff_eq, beq_eq_false_iff_ne, ne_eq, Int.not_lt, Int.not_le] at hq; omega) | simp only [Act.put, List.setIfInBounds_toArray, List.set_cons_succ, List.set_cons_zero]))); all_goals (refine Mix.lex_nil ?_)))
  go_ret
  exact ⟨rfl, Only.refl _ _⟩
theorem Arm_c {w : World} {r : DkR} {d : Dk} (h : DiskAt w r d) (n : Int) (hn : n ≤ 9223372036854775807) :
    Calls Try.prog 22 #[pt r.g, .int .i64 n] w fun e w' => e = .returned (.tuple #[]) ∧ DiskAt w' r { d with fuse := max n (-1) } ∧ Only (fun b => b = r.g) w w' := by
  have c3 := h.cs.cell 3
  simp only [List.getElem?_toArray, List.getElem?_cons_succ, List.getElem?_cons_zero] at c3
  have f3 := h.cs.frozen 3
  have H := Lib.hid h
  clear h
  go_enter Try.func22, Try.ntmps22
  go_wp2_with (first | ((first | refine Mix.wpList_guarded rfl ?_ | refine Mix.wp_still (by kernel_rfl) (by kernel_rfl) ?_); (repeat' (first | (refine Mix.lex_quiet0 rfl rfl rfl ?_; intro K hK; go_big_quiet_op; go_big_quiet_on) | (refine Mix.lex_quietG rfl rfl rfl (by with_reducible rfl) rfl rfl ?_; intro K hK; go_big_quiet_op; go_big_quiet_on) | ((first | refine Mix.lex_skipT rfl rfl rfl (by with_reducible rfl) ?_ | refine Mix.lex_skipF rfl rfl rfl (by with_reducible rfl) ?_ | refine Mix.lex_skipU rfl rfl rfl (by with_reducible rfl) ?_); simp only [Act.put, List.setIfInBounds_toArray, List.set_cons_succ, List.set_cons_zero]) | (refine Mix.lex_part rfl rfl rfl rfl (fun hq => ?_) (fun hq => ?_) <;> (fail_if_success (guard_hyp hq :ₛ true = true)) <;> (fail_if_success (guard_hyp hq :ₛ false = false)) <;> first | (exfalso; cases hq; done) | (exfalso; simp only [decide_eq_true_eq, decide_eq_false_iff_not, beq_iff_eq, beq_eq_false_iff_ne, ne_eq, Int.not_lt, Int.not_le] at hq; omega) | simp only [Act.put, List.setIfInBounds_toArray, List.set_cons_succ, List.set_cons_zero]))); all_goals (refine Mix.lex_nil ?_)))
  all_goals
    go_end0
    have hC := H.out.cs.set_ 3 (.int .i64 (max n (-1)))
    simp only [List.setIfInBounds_toArray, List.set_cons_succ, List.set_cons_zero] at hC
    have fine : ({ d with fuse := max n (-1) } : Dk).Fine := ⟨H.out.fine.len, H.out.fine.pos, H.out.fine.most, by simp; omega, by simp; omega, H.out.fine.at_⟩
    have hk := H.out.gk
    have hn' := H.out.gn
    have hw := H.out.gw
    have O3 : ∀ u, Only (fun b => b = r.g) w (w.setCell ⟨r.g, 3, none⟩ u) := fun u => (Only.refl _ _).at_ 3 u
    have fin : ∀ u, u = .int .i64 (max n (-1)) → DiskAt (w.setCell ⟨r.g, 3, none⟩ u) r { d with fuse := max n (-1) } := fun u hu => by
      subst hu
      exact ⟨hC, own_keep H.out.kept (O3 _) (fun g hg e => hk (by simp [Value.ownBlock] at hg; omega)), own_keep H.out.now (O3 _) (fun g hg e => hn' (by simp [Value.ownBlock] at hg; omega)),
        own_keep H.out.wait (O3 _) (fun g hg e => hw (by rw [hg, e])), H.out.ne, fine⟩
  · have hm : max n (-1) = -1 := by omega
    rw [hm] at fin
    rw [hm]
    exact ⟨rfl, fin _ rfl, O3 _⟩
  · have hm : max n (-1) = n := by omega
    rw [hm] at fin
    rw [hm]
    exact ⟨rfl, fin _ rfl, O3 _⟩
/-- Which of the waiting sectors are kept. -/
def keeps (K : Nat) (i : Nat) : Bool := (K / 2 ^ (i % 64)) % 2 == 1
def keepFrom (K : Nat) : List Str → List (Nat × Str) → Nat → List Str
  | kept, [], _ => kept
  | kept, t :: l, i => keepFrom K (if keeps K i then kept.set t.1 t.2 else kept) l (i + 1)
def Dk.restarted (d : Dk) (K : Nat) : Dk := let k := keepFrom K d.kept d.wait 0; { kept := k, now := k, wait := [], fuse := -1, down := false }
theorem length_keepFrom (K : Nat) : ∀ (l : List (Nat × Str)) (kept : List Str) (i : Nat), (keepFrom K kept l i).length = kept.length
  | [], _, _ => rfl
  | t :: l, kept, i => by
    unfold keepFrom
    rw [length_keepFrom K l]
    split <;> simp
end Go.Proofs.Ytaphmmobmadfoaa
