/- Put together: St4, SmC, LgA. -/
import Derived.Test.YtaphmmobmadfoaaMc26
import Derived.Test.YtaphmmobmadfoaaMc07
import Derived.Test.YtaphmmobmadfoaaMc13
/- Format. -/
namespace Go.Proofs.Ytaphmmobmadfoaa
open Go Go.RowKit
/-- A disk, some steps on. -/
structure DkOn (w0 w : World) (r0 r : DkR) (d : Dk) : Prop where
  dk : DiskAt w r d
  g : r.g = r0.g
  o : Only r0.fp w0 w
  f : ∀ b, r.fp b → r0.fp b ∨ w0.heap.size ≤ b
theorem DkOn.start {w : World} {r : DkR} {d : Dk} (h : DiskAt w r d) : DkOn w w r r d := ⟨h, rfl, Only.refl _ _, fun _ h => .inl h⟩
theorem DkOn.ext {w0 w v : World} {r0 r : DkR} {d : Dk} (h : DkOn w0 w r0 r d) (hx : Ext w v) : DkOn w0 v r0 r d := ⟨h.dk.ext hx, h.g, h.o.then_ext hx, h.f⟩
theorem DkOn.step {w0 w w' : World} {r0 r : DkR} {d d' : Dk} {v : Value} {e : Ending} (h : DkOn w0 w r0 r d) (hr : DkRes w r d' v e w') : e = .returned v ∧ ∃ r', DkOn w0 w' r0 r' d' := by
  obtain ⟨he, r', h1, hg, hx, hf⟩ := hr
  refine ⟨he, r', h1, hg.trans h.g, h.o.trans hx fun b hb hfb => ?_, fun b hb => ?_⟩
  · rcases h.f b hfb with h2 | h2
    · exact h2
    · omega
  · rcases hf b hb with h2 | h2
    · exact h.f b h2
    · exact .inr (Nat.le_trans h.o.size h2)
theorem DkOn.res {w0 w : World} {r0 r : DkR} {d : Dk} (h : DkOn w0 w r0 r d) {v : Value} {e : Ending} (he : e = .returned v) : DkRes w0 r0 d v e w := ⟨he, r, h.dk, h.g, h.o, h.f⟩
abbrev hd0 : Hd := ⟨1, 0, 0, 1⟩
def fmtD (N : Nat) : Dk := ⟨(List.replicate N (full [])).set 1 (full (hdT hd0)), (List.replicate N (full [])).set 1 (full (hdT hd0)), [], -1, false⟩
theorem Format_few {w : World} {r : DkR} {N : Nat} (h : DiskAt w r (Dk.fresh N)) (hN : N < 50) : Calls Try.prog 11 #[pt r.g] w fun e w' => e = .returned (E 10) ∧ Ext w w' := by
  have HS := Lib.hid (Sectors_c h)
  rw [fresh_len] at HS
  have g1 : decide ((N : Int) < 50) = true := decide_eq_true (by omega)
  have g2 : decide (N < 50) = true := decide_eq_true hN
  clear h
  go_enter Try.func11, Try.ntmps11
  go_wp2_with (first | ((first | refine Mix.wpList_guarded rfl ?_ | refine Mix.wp_still (by kernel_rfl) (by kernel_rfl) ?_); (repeat' (first | (refine Mix.lex_quiet0 rfl rfl rfl ?_; intro K hK; go_big_quiet_op; go_big_quiet_on) | (refine Mix.lex_quietG rfl rfl rfl (by with_reducible rfl) rfl rfl ?_; intro K hK; go_big_quiet_op; go_big_quiet_on) | ((first | refine Mix.lex_skipT rfl rfl rfl (by with_reducible rfl) ?_ | refine Mix.lex_skipF rfl rfl rfl (by with_reducible rfl) ?_ | refine Mix.lex_skipU rfl rfl rfl (by with_reducible rfl) ?_); simp only [Act.put, List.setIfInBounds_toArray, List.set_cons_succ, List.set_cons_zero]) | (refine Mix.lex_part rfl rfl rfl rfl (fun hq => ?_) (fun hq => ?_) <;> (fail_if_success (guard_hyp hq :ₛ true = true)) <;> (fail_if_success (guard_hyp hq :ₛ false = false)) <;> first | (exfalso; cases hq; done) | (exfalso; simp only [decide_eq_true_eq, decide_eq_false_iff_not, beq_iff_eq, beq_eq_false_iff_ne, ne_eq, Int.not_lt, Int.not_le] at hq; omega) | simp only [Act.put, List.setIfInBounds_toArray, List.set_cons_succ, List.set_cons_zero]))); all_goals (refine Mix.lex_nil ?_)))
  refine HS.out.mono ?_
  rintro e w1 ⟨rfl, hu⟩
  have hE := as_E 10
  go_wp2_with (first | ((first | refine Mix.wpList_guarded rfl ?_ | refine Mix.wp_still (by kernel_rfl) (by kernel_rfl) ?_); (repeat' (first | (refine Mix.lex_quiet0 rfl rfl rfl ?_; intro K hK; go_big_quiet_op; go_big_quiet_on) | (refine Mix.lex_quietG rfl rfl rfl (by with_reducible rfl) rfl rfl ?_; intro K hK; go_big_quiet_op; go_big_quiet_on) | ((first | refine Mix.lex_skipT rfl rfl rfl (by with_reducible rfl) ?_ | refine Mix.lex_skipF rfl rfl rfl (by with_reducible rfl) ?_ | refine Mix.lex_skipU rfl rfl rfl (by with_reducible rfl) ?_); simp only [Act.put, List.setIfInBounds_toArray, List.set_cons_succ, List.set_cons_zero]) | (refine Mix.lex_part rfl rfl rfl rfl (fun hq => ?_) (fun hq => ?_) <;> (fail_if_success (guard_hyp hq :ₛ true = true)) <;> (fail_if_success (guard_hyp hq :ₛ false = false)) <;> first | (exfalso; cases hq; done) | (exfalso; simp only [decide_eq_true_eq, decide_eq_false_iff_not, beq_iff_eq, beq_eq_false_iff_ne, ne_eq, Int.not_lt, Int.not_le] at hq; omega) | simp only [Act.put, List.setIfInBounds_toArray, List.set_cons_succ, List.set_cons_zero]))); all_goals (refine Mix.lex_nil ?_)))
  go_ret
  exact ⟨rfl, hu⟩
theorem set_same {α : Type} (x : α) (N p : Nat) : (List.replicate N x).set p x = List.replicate N x := by
  apply List.ext_getElem?
  intro i
  by_cases h : p = i
  · subst h
    by_cases hp : p < N
    · rw [List.getElem?_set_self (by simpa using hp)]; simp [hp]
    · simp [hp]
  · rw [List.getElem?_set_ne h]
set_option maxRecDepth 100000 in
set_option maxHeartbeats 2000000 in
theorem Format_ok {w : World} {r : DkR} {N : Nat} (h : DiskAt w r (Dk.fresh N)) (h1 : 50 ≤ N) (h2 : N ≤ 120) : Calls Try.prog 11 #[pt r.g] w (DkRes w r (fmtD N) .nilIface) := by
  have HW : Hid (∀ (v : World) (r' : DkR) (d : Dk), DkOn w v r r' d → d.Up → d.wait.length ≤ 1000 → ∀ (p : Nat) (s : Str), p < d.now.length → s.length ≤ 340 → Calls Try.prog 36 #[pt r.g, .int .i64 (p : Int), S s] v fun e u => e = .returned .nilIface ∧ ∃ r2, DkOn w u r r2 { d with now := d.now.set p (full s), wait := d.wait ++ [(p, full s)] }) := fun v r' d hd hup hw p s hp hs => by
    have hc := Write_all hd.dk (p : Int) s (by omega) (by omega)
    obtain ⟨e1, e2⟩ := wr_good hup.dn hup.fu hp hs
    rw [e1, e2, errV_zero, hd.g] at hc
    exact hc.mono fun e u hr => hd.step hr
  have HFl : Hid (∀ (v : World) (r' : DkR) (d : Dk), DkOn w v r r' d → d.Up → Calls Try.prog 37 #[pt r.g] v fun e u => e = .returned .nilIface ∧ ∃ r2, DkOn w u r r2 { d with kept := d.now, wait := [] }) := fun v r' d hd hup => by
    have hc := Flush_all hd.dk
    obtain ⟨e1, e2⟩ := fl_good hup.dn hup.fu
    rw [e1, e2, errV_zero, hd.g] at hc
    exact hc.mono fun e u hr => hd.step hr
  have HSc : Hid (∀ (v : World) (r' : DkR) (d : Dk), DkOn w v r r' d → Calls Try.prog 30 #[pt r.g] v fun e u => e = .returned (.int .i64 d.now.length) ∧ Ext v u) := fun v r' d hd => by
    have hc := Sectors_c hd.dk
    rw [hd.g] at hc
    exact hc
  have HT := Lib.hid (fun v => HText_c hd0 v)
  have HtL := hdT_len hd0
  obtain ⟨tx, htx⟩ : ∃ t, t = hdT hd0 := ⟨_, rfl⟩
  have HTX := Lib.hid htx
  rw [← htx] at HT HtL
  clear htx
  obtain ⟨d0, hd0e⟩ : ∃ d, d = Dk.fresh N := ⟨_, rfl⟩
  have U0 : Hid (d0.Up ∧ d0.now = List.replicate N (full []) ∧ d0.wait.length ≤ 0) := by rw [Hid, hd0e]; exact ⟨fresh_up N, rfl, Nat.le_refl _⟩
  rw [← hd0e] at h
  have D0 := Lib.hid (DkOn.start h)
  clear h hd0e
  have fw : ∀ s ∈ List.replicate N (full ([] : Str)), s.length = 340 := fun s hs => by rw [List.eq_of_mem_replicate hs]; exact length_full [] (by simp)
  have HLn : ∀ d : Dk, d.now = List.replicate N (full []) → d.now.length = N := fun d e => by rw [e]; simp
  have g1 : decide ((N : Int) < 50) = false := decide_eq_false (by omega)
  have g2 : decide (N < 50) = false := decide_eq_false (by omega)
  have HS0 := HSc.out w r d0 D0.out
  rw [HLn d0 U0.out.2.1] at HS0
  go_enter Try.func11, Try.ntmps11
  go_wp2_with (first | ((first | refine Mix.wpList_guarded rfl ?_ | refine Mix.wp_still (by kernel_rfl) (by kernel_rfl) ?_); (repeat' (first | (refine Mix.lex_quiet0 rfl rfl rfl ?_; intro K hK; go_big_quiet_op; go_big_quiet_on) | (refine Mix.lex_quietG rfl rfl rfl (by with_reducible rfl) rfl rfl ?_; intro K hK; go_big_quiet_op; go_big_quiet_on) | ((first | refine Mix.lex_skipT rfl rfl rfl (by with_reducible rfl) ?_ | refine Mix.lex_skipF rfl rfl rfl (by with_reducible rfl) ?_ | refine Mix.lex_skipU rfl rfl rfl (by with_reducible rfl) ?_); simp only [Act.put, List.setIfInBounds_toArray, List.set_cons_succ, List.set_cons_zero]) | (refine Mix.lex_part rfl rfl rfl rfl (fun hq => ?_) (fun hq => ?_) <;> (fail_if_success (guard_hyp hq :ₛ true = true)) <;> (fail_if_success (guard_hyp hq :ₛ false = false)) <;> first | (exfalso; cases hq; done) | (exfalso; simp only [decide_eq_true_eq, decide_eq_false_iff_not, beq_iff_eq, beq_eq_false_iff_ne, ne_eq, Int.not_lt, Int.not_le] at hq; omega) | simp only [Act.put, List.setIfInBounds_toArray, List.set_cons_succ, List.set_cons_zero]))); all_goals (refine Mix.lex_nil ?_)))
  refine HS0.mono ?_
  rintro e w1 ⟨rfl, hu⟩
  have hW0 := HW.out w1 r d0 (D0.out.ext hu) U0.out.1 (by have := U0.out.2.2; omega) 0 [] (by rw [HLn d0 U0.out.2.1]; omega) (by simp)
  go_wp2_with (first | ((first | refine Mix.wpList_guarded rfl ?_ | refine Mix.wp_still (by kernel_rfl) (by kernel_rfl) ?_); (repeat' (first | (refine Mix.lex_quiet0 rfl rfl rfl ?_; intro K hK; go_big_quiet_op; go_big_quiet_on) | (refine Mix.lex_quietG rfl rfl rfl (by with_reducible rfl) rfl rfl ?_; intro K hK; go_big_quiet_op; go_big_quiet_on) | ((first | refine Mix.lex_skipT rfl rfl rfl (by with_reducible rfl) ?_ | refine Mix.lex_skipF rfl rfl rfl (by with_reducible rfl) ?_ | refine Mix.lex_skipU rfl rfl rfl (by with_reducible rfl) ?_); simp only [Act.put, List.setIfInBounds_toArray, List.set_cons_succ, List.set_cons_zero]) | (refine Mix.lex_part rfl rfl rfl rfl (fun hq => ?_) (fun hq => ?_) <;> (fail_if_success (guard_hyp hq :ₛ true = true)) <;> (fail_if_success (guard_hyp hq :ₛ false = false)) <;> first | (exfalso; cases hq; done) | (exfalso; simp only [decide_eq_true_eq, decide_eq_false_iff_not, beq_iff_eq, beq_eq_false_iff_ne, ne_eq, Int.not_lt, Int.not_le] at hq; omega) | simp only [Act.put, List.setIfInBounds_toArray, List.set_cons_succ, List.set_cons_zero]))); all_goals (refine Mix.lex_nil ?_)))
  refine hW0.mono ?_
  rintro e w2 ⟨rfl, r2, hd2⟩
  rw [U0.out.2.1, set_same] at hd2
  obtain ⟨d2, hd2e⟩ : ∃ d : Dk, d = { d0 with now := List.replicate N (full []), wait := d0.wait ++ [(0, full [])] } := ⟨_, rfl⟩
  rw [← hd2e] at hd2
  have U2 : Hid (d2.Up ∧ d2.now = List.replicate N (full []) ∧ d2.wait.length ≤ 44) := by
    rw [Hid, hd2e]
    exact ⟨⟨U0.out.1.dn, U0.out.1.fu, fw⟩, rfl, by have := U0.out.2.2; simp; omega⟩
  have D2 := Lib.hid hd2
  clear hd2 hd2e hW0 HS0 hu
  go_wp2_with (first | ((first | refine Mix.wpList_guarded rfl ?_ | refine Mix.wp_still (by kernel_rfl) (by kernel_rfl) ?_); (repeat' (first | (refine Mix.lex_quiet0 rfl rfl rfl ?_; intro K hK; go_big_quiet_op; go_big_quiet_on) | (refine Mix.lex_quietG rfl rfl rfl (by with_reducible rfl) rfl rfl ?_; intro K hK; go_big_quiet_op; go_big_quiet_on) | ((first | refine Mix.lex_skipT rfl rfl rfl (by with_reducible rfl) ?_ | refine Mix.lex_skipF rfl rfl rfl (by with_reducible rfl) ?_ | refine Mix.lex_skipU rfl rfl rfl (by with_reducible rfl) ?_); simp only [Act.put, List.setIfInBounds_toArray, List.set_cons_succ, List.set_cons_zero]) | (refine Mix.lex_part rfl rfl rfl rfl (fun hq => ?_) (fun hq => ?_) <;> (fail_if_success (guard_hyp hq :ₛ true = true)) <;> (fail_if_success (guard_hyp hq :ₛ false = false)) <;> first | (exfalso; cases hq; done) | (exfalso; simp only [decide_eq_true_eq, decide_eq_false_iff_not, beq_iff_eq, beq_eq_false_iff_ne, ne_eq, Int.not_lt, Int.not_le] at hq; omega) | simp only [Act.put, List.setIfInBounds_toArray, List.set_cons_succ, List.set_cons_zero]))); all_goals (refine Mix.lex_nil ?_)))
  go_loopw [3, 4] (fun er i wr => er = .nilIface ∧ ∃ j : Nat, 44 ≤ j ∧ j ≤ N ∧ i = .int .i64 j ∧ ∃ r' d', DkOn w wr r r' d' ∧ d'.Up ∧ d'.now = List.replicate N (full []) ∧ d'.wait.length ≤ j) (fun _ i _ => N - (intOf i).toNat)
  case atStart => exact ⟨rfl, 44, Nat.le_refl _, by omega, rfl, r2, d2, D2.out, U2.out.1, U2.out.2.1, U2.out.2.2⟩
  case round =>
    obtain ⟨rfl, j, hj1, hj2, rfl, r', d', hd, hup, hnow, hwt⟩ := hrel
    have DJ := Lib.hid hd
    have UJ := Lib.hid hup
    have NJ := Lib.hid hnow
    clear hd hup hnow
    have HS := HSc.out wr r' d' DJ.out
    rw [HLn d' NJ.out] at HS
    by_cases hlt : j < N
    · have glt : decide ((j : Int) < (N : Int)) = true := decide_eq_true (by omega)
      have glt2 : decide (j < N) = true := decide_eq_true hlt
      go_wp2_with (first | ((first | refine Mix.wpList_guarded rfl ?_ | refine Mix.wp_still (by kernel_rfl) (by kernel_rfl) ?_); (repeat' (first | (refine Mix.lex_quiet0 rfl rfl rfl ?_; intro K hK; go_big_quiet_op; go_big_quiet_on) | (refine Mix.lex_quietG rfl rfl rfl (by with_reducible rfl) rfl rfl ?_; intro K hK; go_big_quiet_op; go_big_quiet_on) | ((first | refine Mix.lex_skipT rfl rfl rfl (by with_reducible rfl) ?_ | refine Mix.lex_skipF rfl rfl rfl (by with_reducible rfl) ?_ | refine Mix.lex_skipU rfl rfl rfl (by with_reducible rfl) ?_); simp only [Act.put, List.setIfInBounds_toArray, List.set_cons_succ, List.set_cons_zero]) | (refine Mix.lex_part rfl rfl rfl rfl (fun hq => ?_) (fun hq => ?_) <;> (fail_if_success (guard_hyp hq :ₛ true = true)) <;> (fail_if_success (guard_hyp hq :ₛ false = false)) <;> first | (exfalso; cases hq; done) | (exfalso; simp only [decide_eq_true_eq, decide_eq_false_iff_not, beq_iff_eq, beq_eq_false_iff_ne, ne_eq, Int.not_lt, Int.not_le] at hq; omega) | simp only [Act.put, List.setIfInBounds_toArray, List.set_cons_succ, List.set_cons_zero]))); all_goals (refine Mix.lex_nil ?_)))
      refine HS.mono ?_
      rintro e w3 ⟨rfl, hu⟩
      have hW := HW.out w3 r' d' (DJ.out.ext hu) UJ.out (by omega) j [] (by rw [HLn d' NJ.out]; exact hlt) (by simp)
      rw [NJ.out, set_same] at hW
      go_wp2_with (first | ((first | refine Mix.wpList_guarded rfl ?_ | refine Mix.wp_still (by kernel_rfl) (by kernel_rfl) ?_); (repeat' (first | (refine Mix.lex_quiet0 rfl rfl rfl ?_; intro K hK; go_big_quiet_op; go_big_quiet_on) | (refine Mix.lex_quietG rfl rfl rfl (by with_reducible rfl) rfl rfl ?_; intro K hK; go_big_quiet_op; go_big_quiet_on) | ((first | refine Mix.lex_skipT rfl rfl rfl (by with_reducible rfl) ?_ | refine Mix.lex_skipF rfl rfl rfl (by with_reducible rfl) ?_ | refine Mix.lex_skipU rfl rfl rfl (by with_reducible rfl) ?_); simp only [Act.put, List.setIfInBounds_toArray, List.set_cons_succ, List.set_cons_zero]) | (refine Mix.lex_part rfl rfl rfl rfl (fun hq => ?_) (fun hq => ?_) <;> (fail_if_success (guard_hyp hq :ₛ true = true)) <;> (fail_if_success (guard_hyp hq :ₛ false = false)) <;> first | (exfalso; cases hq; done) | (exfalso; simp only [decide_eq_true_eq, decide_eq_false_iff_not, beq_iff_eq, beq_eq_false_iff_ne, ne_eq, Int.not_lt, Int.not_le] at hq; omega) | simp only [Act.put, List.setIfInBounds_toArray, List.set_cons_succ, List.set_cons_zero]))); all_goals (refine Mix.lex_nil ?_)))
      refine hW.mono ?_
      rintro e w4 ⟨rfl, r4, hd4⟩
      have D4 := Lib.hid hd4
      clear hd4 hW hu HS
      go_wp2_with (first | ((first | refine Mix.wpList_guarded rfl ?_ | refine Mix.wp_still (by kernel_rfl) (by kernel_rfl) ?_); (repeat' (first | (refine Mix.lex_quiet0 rfl rfl rfl ?_; intro K hK; go_big_quiet_op; go_big_quiet_on) | (refine Mix.lex_quietG rfl rfl rfl (by with_reducible rfl) rfl rfl ?_; intro K hK; go_big_quiet_op; go_big_quiet_on) | ((first | refine Mix.lex_skipT rfl rfl rfl (by with_reducible rfl) ?_ | refine Mix.lex_skipF rfl rfl rfl (by with_reducible rfl) ?_ | refine Mix.lex_skipU rfl rfl rfl (by with_reducible rfl) ?_); simp only [Act.put, List.setIfInBounds_toArray, List.set_cons_succ, List.set_cons_zero]) | (refine Mix.lex_part rfl rfl rfl rfl (fun hq => ?_) (fun hq => ?_) <;> (fail_if_success (guard_hyp hq :ₛ true = true)) <;> (fail_if_success (guard_hyp hq :ₛ false = false)) <;> first | (exfalso; cases hq; done) | (exfalso; simp only [decide_eq_true_eq, decide_eq_false_iff_not, beq_iff_eq, beq_eq_false_iff_ne, ne_eq, Int.not_lt, Int.not_le] at hq; omega) | simp only [Act.put, List.setIfInBounds_toArray, List.set_cons_succ, List.set_cons_zero]))); all_goals (refine Mix.lex_nil ?_)))
      go_roundw
      case rel => exact ⟨rfl, j + 1, by omega, by omega, by go_num, r4, _, D4.out, ⟨UJ.out.dn, UJ.out.fu, fw⟩, rfl, by simp; omega⟩
      case measure => simp [intOf]; omega
    · obtain rfl : j = N := by omega
      have glt : decide ((j : Int) < (j : Int)) = false := decide_eq_false (by omega)
      have glt2 : decide (j < j) = false := decide_eq_false (by omega)
      go_wp2_with (first | ((first | refine Mix.wpList_guarded rfl ?_ | refine Mix.wp_still (by kernel_rfl) (by kernel_rfl) ?_); (repeat' (first | (refine Mix.lex_quiet0 rfl rfl rfl ?_; intro K hK; go_big_quiet_op; go_big_quiet_on) | (refine Mix.lex_quietG rfl rfl rfl (by with_reducible rfl) rfl rfl ?_; intro K hK; go_big_quiet_op; go_big_quiet_on) | ((first | refine Mix.lex_skipT rfl rfl rfl (by with_reducible rfl) ?_ | refine Mix.lex_skipF rfl rfl rfl (by with_reducible rfl) ?_ | refine Mix.lex_skipU rfl rfl rfl (by with_reducible rfl) ?_); simp only [Act.put, List.setIfInBounds_toArray, List.set_cons_succ, List.set_cons_zero]) | (refine Mix.lex_part rfl rfl rfl rfl (fun hq => ?_) (fun hq => ?_) <;> (fail_if_success (guard_hyp hq :ₛ true = true)) <;> (fail_if_success (guard_hyp hq :ₛ false = false)) <;> first | (exfalso; cases hq; done) | (exfalso; simp only [decide_eq_true_eq, decide_eq_false_iff_not, beq_iff_eq, beq_eq_false_iff_ne, ne_eq, Int.not_lt, Int.not_le] at hq; omega) | simp only [Act.put, List.setIfInBounds_toArray, List.set_cons_succ, List.set_cons_zero]))); all_goals (refine Mix.lex_nil ?_)))
      refine HS.mono ?_
      rintro e w3 ⟨rfl, hu⟩
      have hF := HFl.out w3 r' d' (DJ.out.ext hu) UJ.out
      go_wp2_with (first | ((first | refine Mix.wpList_guarded rfl ?_ | refine Mix.wp_still (by kernel_rfl) (by kernel_rfl) ?_); (repeat' (first | (refine Mix.lex_quiet0 rfl rfl rfl ?_; intro K hK; go_big_quiet_op; go_big_quiet_on) | (refine Mix.lex_quietG rfl rfl rfl (by with_reducible rfl) rfl rfl ?_; intro K hK; go_big_quiet_op; go_big_quiet_on) | ((first | refine Mix.lex_skipT rfl rfl rfl (by with_reducible rfl) ?_ | refine Mix.lex_skipF rfl rfl rfl (by with_reducible rfl) ?_ | refine Mix.lex_skipU rfl rfl rfl (by with_reducible rfl) ?_); simp only [Act.put, List.setIfInBounds_toArray, List.set_cons_succ, List.set_cons_zero]) | (refine Mix.lex_part rfl rfl rfl rfl (fun hq => ?_) (fun hq => ?_) <;> (fail_if_success (guard_hyp hq :ₛ true = true)) <;> (fail_if_success (guard_hyp hq :ₛ false = false)) <;> first | (exfalso; cases hq; done) | (exfalso; simp only [decide_eq_true_eq, decide_eq_false_iff_not, beq_iff_eq, beq_eq_false_iff_ne, ne_eq, Int.not_lt, Int.not_le] at hq; omega) | simp only [Act.put, List.setIfInBounds_toArray, List.set_cons_succ, List.set_cons_zero]))); all_goals (refine Mix.lex_nil ?_)))
      refine hF.mono ?_
      rintro e w4 ⟨rfl, r4, hd4⟩
      rw [NJ.out] at hd4
      have D4 := Lib.hid hd4
      clear hd4 hF hu HS
      go_wp2_with (first | ((first | refine Mix.wpList_guarded rfl ?_ | refine Mix.wp_still (by kernel_rfl) (by kernel_rfl) ?_); (repeat' (first | (refine Mix.lex_quiet0 rfl rfl rfl ?_; intro K hK; go_big_quiet_op; go_big_quiet_on) | (refine Mix.lex_quietG rfl rfl rfl (by with_reducible rfl) rfl rfl ?_; intro K hK; go_big_quiet_op; go_big_quiet_on) | ((first | refine Mix.lex_skipT rfl rfl rfl (by with_reducible rfl) ?_ | refine Mix.lex_skipF rfl rfl rfl (by with_reducible rfl) ?_ | refine Mix.lex_skipU rfl rfl rfl (by with_reducible rfl) ?_); simp only [Act.put, List.setIfInBounds_toArray, List.set_cons_succ, List.set_cons_zero]) | (refine Mix.lex_part rfl rfl rfl rfl (fun hq => ?_) (fun hq => ?_) <;> (fail_if_success (guard_hyp hq :ₛ true = true)) <;> (fail_if_success (guard_hyp hq :ₛ false = false)) <;> first | (exfalso; cases hq; done) | (exfalso; simp only [decide_eq_true_eq, decide_eq_false_iff_not, beq_iff_eq, beq_eq_false_iff_ne, ne_eq, Int.not_lt, Int.not_le] at hq; omega) | simp only [Act.put, List.setIfInBounds_toArray, List.set_cons_succ, List.set_cons_zero]))); all_goals (refine Mix.lex_nil ?_)))
      refine (HT.out w4).mono ?_
      rintro e w5 ⟨rfl, hu⟩
      have hW := HW.out w5 r4 _ (D4.out.ext hu) ⟨UJ.out.dn, UJ.out.fu, fw⟩ (by simp) 1 tx (by simp; omega) (by omega)
      go_wp2_with (first | ((first | refine Mix.wpList_guarded rfl ?_ | refine Mix.wp_still (by kernel_rfl) (by kernel_rfl) ?_); (repeat' (first | (refine Mix.lex_quiet0 rfl rfl rfl ?_; intro K hK; go_big_quiet_op; go_big_quiet_on) | (refine Mix.lex_quietG rfl rfl rfl (by with_reducible rfl) rfl rfl ?_; intro K hK; go_big_quiet_op; go_big_quiet_on) | ((first | refine Mix.lex_skipT rfl rfl rfl (by with_reducible rfl) ?_ | refine Mix.lex_skipF rfl rfl rfl (by with_reducible rfl) ?_ | refine Mix.lex_skipU rfl rfl rfl (by with_reducible rfl) ?_); simp only [Act.put, List.setIfInBounds_toArray, List.set_cons_succ, List.set_cons_zero]) | (refine Mix.lex_part rfl rfl rfl rfl (fun hq => ?_) (fun hq => ?_) <;> (fail_if_success (guard_hyp hq :ₛ true = true)) <;> (fail_if_success (guard_hyp hq :ₛ false = false)) <;> first | (exfalso; cases hq; done) | (exfalso; simp only [decide_eq_true_eq, decide_eq_false_iff_not, beq_iff_eq, beq_eq_false_iff_ne, ne_eq, Int.not_lt, Int.not_le] at hq; omega) | simp only [Act.put, List.setIfInBounds_toArray, List.set_cons_succ, List.set_cons_zero]))); all_goals (refine Mix.lex_nil ?_)))
      refine hW.mono ?_
      rintro e w6 ⟨rfl, r6, hd6⟩
      have hF := HFl.out w6 r6 _ hd6 ⟨UJ.out.dn, UJ.out.fu, set_wide fw (length_full _ (by omega))⟩
      have D6 := Lib.hid hd6
      clear hd6 hu hW
      go_wp2_with (first | ((first | refine Mix.wpList_guarded rfl ?_ | refine Mix.wp_still (by kernel_rfl) (by kernel_rfl) ?_); (repeat' (first | (refine Mix.lex_quiet0 rfl rfl rfl ?_; intro K hK; go_big_quiet_op; go_big_quiet_on) | (refine Mix.lex_quietG rfl rfl rfl (by with_reducible rfl) rfl rfl ?_; intro K hK; go_big_quiet_op; go_big_quiet_on) | ((first | refine Mix.lex_skipT rfl rfl rfl (by with_reducible rfl) ?_ | refine Mix.lex_skipF rfl rfl rfl (by with_reducible rfl) ?_ | refine Mix.lex_skipU rfl rfl rfl (by with_reducible rfl) ?_); simp only [Act.put, List.setIfInBounds_toArray, List.set_cons_succ, List.set_cons_zero]) | (refine Mix.lex_part rfl rfl rfl rfl (fun hq => ?_) (fun hq => ?_) <;> (fail_if_success (guard_hyp hq :ₛ true = true)) <;> (fail_if_success (guard_hyp hq :ₛ false = false)) <;> first | (exfalso; cases hq; done) | (exfalso; simp only [decide_eq_true_eq, decide_eq_false_iff_not, beq_iff_eq, beq_eq_false_iff_ne, ne_eq, Int.not_lt, Int.not_le] at hq; omega) | simp only [Act.put, List.setIfInBounds_toArray, List.set_cons_succ, List.set_cons_zero]))); all_goals (refine Mix.lex_nil ?_)))
      refine hF.mono ?_
      rintro e w7 ⟨rfl, r7, hd7⟩
      have D7 := Lib.hid hd7
      clear hd7 hF
      go_wp2_with (first | ((first | refine Mix.wpList_guarded rfl ?_ | refine Mix.wp_still (by kernel_rfl) (by kernel_rfl) ?_); (repeat' (first | (refine Mix.lex_quiet0 rfl rfl rfl ?_; intro K hK; go_big_quiet_op; go_big_quiet_on) | (refine Mix.lex_quietG rfl rfl rfl (by with_reducible rfl) rfl rfl ?_; intro K hK; go_big_quiet_op; go_big_quiet_on) | ((first | refine Mix.lex_skipT rfl rfl rfl (by with_reducible rfl) ?_ | refine Mix.lex_skipF rfl rfl rfl (by with_reducible rfl) ?_ | refine Mix.lex_skipU rfl rfl rfl (by with_reducible rfl) ?_); simp only [Act.put, List.setIfInBounds_toArray, List.set_cons_succ, List.set_cons_zero]) | (refine Mix.lex_part rfl rfl rfl rfl (fun hq => ?_) (fun hq => ?_) <;> (fail_if_success (guard_hyp hq :ₛ true = true)) <;> (fail_if_success (guard_hyp hq :ₛ false = false)) <;> first | (exfalso; cases hq; done) | (exfalso; simp only [decide_eq_true_eq, decide_eq_false_iff_not, beq_iff_eq, beq_eq_false_iff_ne, ne_eq, Int.not_lt, Int.not_le] at hq; omega) | simp only [Act.put, List.setIfInBounds_toArray, List.set_cons_succ, List.set_cons_zero]))); all_goals (refine Mix.lex_nil ?_)))
      go_ret
      have h9 := D7.out
      rw [UJ.out.dn, UJ.out.fu, HTX.out] at h9
      exact h9.res rfl
end Go.Proofs.Ytaphmmobmadfoaa

/- Lists of changes: the same? -/
namespace Go.Proofs.Ytaphmmobmadfoaa
open Go Go.RowKit
theorem ch_stood : Try.prog.stoodInHeld 61 = false := by kernel_rfl
@[go_sem] theorem ch_guard : Try.prog.eqGuardType Try.prog.depth 61 = false := by kernel_rfl
theorem ch_under : Try.prog.underlying 61 = some (.struct (Try.prog.fieldsOf 61)) := by kernel_rfl
def chEqB (x y : Str) (g : Bool) (x' y' : Str) (g' : Bool) : Bool := decide (x = x' ∧ y = y' ∧ g = g')
theorem chEqB_true {f g : Ch} (h : chEqB f.1 f.2.1 f.2.2 g.1 g.2.1 g.2.2 = true) : f = g := by
  unfold chEqB at h; have := of_decide_eq_true h; exact Prod.ext this.1 (Prod.ext this.2.1 this.2.2)
theorem chEqB_false {f g : Ch} (h : chEqB f.1 f.2.1 f.2.2 g.1 g.2.1 g.2.2 = false) : f ≠ g := by
  unfold chEqB at h; have := of_decide_eq_false h; intro e; subst e; exact this ⟨rfl, rfl, rfl⟩
theorem chEqB_self (x y : Str) (g : Bool) : chEqB x y g x y g = true := decide_eq_true ⟨rfl, rfl, rfl⟩
theorem ch_eqIn (a b : Str) (g : Bool) (c d : Str) (h : Bool) (w : World) : (Op.equalIn 10000 61 (.agg #[S a, S b, .bool g]) (.agg #[S c, S d, .bool h])).run Try.prog w = .ok (chEqB a b g c d h) w := by
  have u3 := Try.underlying9
  have a3 := Try.isAgg9
  have z3 := Try.sizeOf9
  have u4 := Try.underlying4
  have a4 := Try.isAgg4
  have z4 := Try.sizeOf4
  unfold chEqB
  rw [show (10000 : Nat) = 9999 + 1 from rfl, run_equalIn_agg w 9999 61 _ _ ch_under ch_stood]
  simp only [Program.fieldsOf, Try.underlying61]
  go_simp
  by_cases h1 : a = c <;> by_cases h2 : b = d <;> cases g <;> cases h <;> simp [h1, h2]
@[go_sem high] theorem ch_eql (a b : Str) (g : Bool) (c d : Str) (h : Bool) (w : World) : (binOp .eql 61 (.agg #[S a, S b, .bool g]) (.agg #[S c, S d, .bool h])).run Try.prog w = .ok (.bool (chEqB a b g c d h)) w := by
  rw [run_eql_struct, ch_eqIn]; rfl
@[go_sem high] theorem ch_neq (a b : Str) (g : Bool) (c d : Str) (h : Bool) (w : World) : (binOp .neq 61 (.agg #[S a, S b, .bool g]) (.agg #[S c, S d, .bool h])).run Try.prog w = .ok (.bool (!chEqB a b g c d h)) w := by
  rw [run_neq_struct, ch_eqIn]; rfl
theorem SameChanges_c {w : World} {A B : Option Addr} {n m c d : Nat} {xs ys : List Ch} (h1 : SlR chF w A n xs) (h2 : SlR chF w B m ys) (hn : n ≤ 100000) (hm : m ≤ 100000) :
    Calls Try.prog 16 #[.slice A n c, .slice B m d] w fun e w' => e = .returned (.bool (decide (xs = ys))) ∧ Ext w w' := by
  by_cases hnm : n = m
  · subst hnm
    go_enter Try.func16, Try.ntmps16
    go_wp2
    go_loopw [5] (fun i wr => ∃ k : Nat, k ≤ n ∧ i = .int .i64 k ∧ xs.take k = ys.take k ∧ ∃ ξ : X w No, wr = ξ.v) (fun i _ => n - (intOf i).toNat)
    case atStart => exact ⟨0, Nat.zero_le _, rfl, rfl, X.here _ _, rfl⟩
    case round =>
      obtain ⟨k, hk, rfl, hT, ξ, rfl⟩ := hrel
      have HT := Lib.hid hT
      clear hT
      by_cases hlt : k < n
      · obtain ⟨b, o, f, rfl, hx, c0, c1, c2⟩ := chs_get h1 hlt
        obtain ⟨b', o', f', rfl, hx', c3, c4, c5⟩ := chs_get h2 hlt
        have HX := Lib.hid hx
        have HX' := Lib.hid hx'
        clear hx hx'
        go_upto_region 6 with fail
        (refine Mix.wp_draw [] 100 (Cl (w) (No)) (by kernel_rfl) (by kernel_rfl) (Cl.drew_ ξ) ?_; (repeat' (first | (refine Mix.lex_quiet0 rfl rfl rfl ?_; intro K hK; go_big_quiet_op; go_big_quiet_on) | (refine Mix.lex_quietG rfl rfl rfl (by with_reducible rfl) rfl rfl ?_; intro K hK; go_big_quiet_op; go_big_quiet_on) | ((first | refine Mix.lex_skipT rfl rfl rfl (by with_reducible rfl) ?_ | refine Mix.lex_skipF rfl rfl rfl (by with_reducible rfl) ?_ | refine Mix.lex_skipU rfl rfl rfl (by with_reducible rfl) ?_); simp only [Act.put, List.setIfInBounds_toArray, List.set_cons_succ, List.set_cons_zero]) | (refine Mix.lex_part rfl rfl rfl rfl (fun hq => ?_) (fun hq => ?_) <;> (fail_if_success (guard_hyp hq :ₛ true = true)) <;> (fail_if_success (guard_hyp hq :ₛ false = false)) <;> first | (exfalso; cases hq; done) | (exfalso; simp only [decide_eq_true_eq, decide_eq_false_iff_not, beq_iff_eq, beq_eq_false_iff_ne, ne_eq, Int.not_lt, Int.not_le] at hq; omega) | simp only [Act.put, List.setIfInBounds_toArray, List.set_cons_succ, List.set_cons_zero]))))
        all_goals (refine Mix.lex_nil ?_)
        cases hB : chEqB f.1 f.2.1 f.2.2 f'.1 f'.2.1 f'.2.2
        · go_wp2
          go_ret
          exact ⟨ret_bool (decide_eq_false (ne_at HX.out HX'.out (chEqB_false hB))).symm, ξ.h.drew⟩
        · go_wp2
          go_roundw
          case rel => exact ⟨k + 1, by omega, by go_num, take_grow HT.out HX.out HX'.out (chEqB_true hB), ⟨_, ξ.h.drew⟩, rfl⟩
          case measure => simp [intOf]; omega
      · go_wp2
        go_ret
        exact ⟨ret_bool (decide_eq_true (eq_of_take HT.out h1.1 h2.1 (by omega))).symm, ξ.h⟩
  · go_enter Try.func16, Try.ntmps16
    go_wp2
    · go_ret
      exact ⟨ret_bool (decide_eq_false (fun e => hnm (by rw [← h1.1, ← h2.1, e]))).symm, Only.refl _ _⟩
end Go.Proofs.Ytaphmmobmadfoaa

/- The document's ClosedDeeds. -/
namespace Go.Proofs.Ytaphmmobmadfoaa
open Go Go.RowKit
theorem ded_get {w : World} {A : Option Addr} {n : Nat} {ys : List DeedV} (h : DedR w A n ys) {k : Nat} (hk : k < n) :
    ∃ b o y, A = some ⟨b, o, none⟩ ∧ ys[k]? = some y ∧ SlR chF w y.1.1 y.2.length y.2 ∧ (∀ ξ : X w No, ξ.v.cell? ⟨b, o + k, none⟩ = some (.slice y.1.1 y.2.length y.1.2)) := by
  obtain ⟨b, o, x, e, hb, hx, hc⟩ := h.1.get hk
  exact ⟨b, o, x, e, hx, h.2 x (List.mem_of_getElem? hx), fun ξ => (ξ.h.cell hb id).trans (by simpa [dedF] using hc 0 _ rfl)⟩
theorem map_take_grow {ys zs : List DeedV} {k : Nat} {y z : DeedV} (h : (ys.take k).map (·.2) = (zs.take k).map (·.2)) (hy : ys[k]? = some y) (hz : zs[k]? = some z) (e : y.2 = z.2) : (ys.take (k + 1)).map (·.2) = (zs.take (k + 1)).map (·.2) := by
  rw [List.take_add_one, List.take_add_one, hy, hz, List.map_append, List.map_append, h]
  simp [e]
def lightDs (most : Nat) (l : List (List Ch)) : Bool := decide (l.length ≤ most) && l.all (lightC 14)
theorem lightDs_c {w : World} {A : Option Addr} {n c : Nat} {ys : List DeedV} (h : DedR w A n ys) (hn : n ≤ maxLen) (most : Nat) (hm : most ≤ 1000) :
    Calls Try.prog 20 #[.slice A n c, .int .i64 most] w fun e w' => e = .returned (.bool (lightDs most (ys.map (·.2)))) ∧ Ext w w' := by
  have H := Lib.hid h
  have hl : ys.length = n := h.1.1
  clear h
  by_cases hb : most < n
  · have g1 : decide ((most : Int) < (n : Int)) = true := decide_eq_true (by omega)
    have HB : Hid (lightDs most (ys.map (·.2)) = false) := by
      rw [Hid, lightDs, List.length_map, hl, decide_eq_false (by omega)]
      rfl
    go_enter Try.func20, Try.ntmps20
    go_wp2_with (first | ((first | refine Mix.wpList_guarded rfl ?_ | refine Mix.wp_still (by kernel_rfl) (by kernel_rfl) ?_); (repeat' (first | (refine Mix.lex_quiet0 rfl rfl rfl ?_; intro K hK; go_big_quiet_op; go_big_quiet_on) | (refine Mix.lex_quietG rfl rfl rfl (by with_reducible rfl) rfl rfl ?_; intro K hK; go_big_quiet_op; go_big_quiet_on) | ((first | refine Mix.lex_skipT rfl rfl rfl (by with_reducible rfl) ?_ | refine Mix.lex_skipF rfl rfl rfl (by with_reducible rfl) ?_ | refine Mix.lex_skipU rfl rfl rfl (by with_reducible rfl) ?_); simp only [Act.put, List.setIfInBounds_toArray, List.set_cons_succ, List.set_cons_zero]) | (refine Mix.lex_part rfl rfl rfl rfl (fun hq => ?_) (fun hq => ?_) <;> (fail_if_success (guard_hyp hq :ₛ true = true)) <;> (fail_if_success (guard_hyp hq :ₛ false = false)) <;> first | (exfalso; cases hq; done) | (exfalso; simp only [decide_eq_true_eq, decide_eq_false_iff_not, beq_iff_eq, beq_eq_false_iff_ne, ne_eq, Int.not_lt, Int.not_le] at hq; omega) | simp only [Act.put, List.setIfInBounds_toArray, List.set_cons_succ, List.set_cons_zero]))); all_goals (refine Mix.lex_nil ?_)))
    go_ret
    exact ⟨ret_bool HB.out.symm, Only.refl _ _⟩
  have g1 : decide ((most : Int) < (n : Int)) = false := decide_eq_false (by omega)
  have HL : Hid (lightDs most (ys.map (·.2)) = (ys.map (·.2)).all (lightC 14)) := by
    rw [Hid, lightDs, List.length_map, hl, decide_eq_true (by omega), Bool.true_and]
  go_enter Try.func20, Try.ntmps20
  go_wp2_with (first | ((first | refine Mix.wpList_guarded rfl ?_ | refine Mix.wp_still (by kernel_rfl) (by kernel_rfl) ?_); (repeat' (first | (refine Mix.lex_quiet0 rfl rfl rfl ?_; intro K hK; go_big_quiet_op; go_big_quiet_on) | (refine Mix.lex_quietG rfl rfl rfl (by with_reducible rfl) rfl rfl ?_; intro K hK; go_big_quiet_op; go_big_quiet_on) | ((first | refine Mix.lex_skipT rfl rfl rfl (by with_reducible rfl) ?_ | refine Mix.lex_skipF rfl rfl rfl (by with_reducible rfl) ?_ | refine Mix.lex_skipU rfl rfl rfl (by with_reducible rfl) ?_); simp only [Act.put, List.setIfInBounds_toArray, List.set_cons_succ, List.set_cons_zero]) | (refine Mix.lex_part rfl rfl rfl rfl (fun hq => ?_) (fun hq => ?_) <;> (fail_if_success (guard_hyp hq :ₛ true = true)) <;> (fail_if_success (guard_hyp hq :ₛ false = false)) <;> first | (exfalso; cases hq; done) | (exfalso; simp only [decide_eq_true_eq, decide_eq_false_iff_not, beq_iff_eq, beq_eq_false_iff_ne, ne_eq, Int.not_lt, Int.not_le] at hq; omega) | simp only [Act.put, List.setIfInBounds_toArray, List.set_cons_succ, List.set_cons_zero]))); all_goals (refine Mix.lex_nil ?_)))
  go_loopw [5] (fun i wr => ∃ k : Nat, k ≤ n ∧ i = .int .i64 k ∧ ((ys.map (·.2)).take k).all (lightC 14) = true ∧ ∃ ξ : X w No, wr = ξ.v) (fun i _ => n - (intOf i).toNat)
  case atStart => exact ⟨0, Nat.zero_le _, rfl, rfl, X.here _ _, rfl⟩
  case round =>
    obtain ⟨k, hk, rfl, hT, ξ, rfl⟩ := hrel
    have HT := Lib.hid hT
    clear hT
    by_cases hlt : k < n
    · obtain ⟨b, o, y, rfl, hx, s1, c0⟩ := ded_get H.out hlt
      have HX : Hid ((ys.map (·.2))[k]? = some y.2) := by rw [Hid, List.getElem?_map, hx]; rfl
      have HLc := Lib.hid (fun (v : World) (hv : Ext w v) => LightChanges_c (c := y.1.2) (s1.ext hv) 14 (by omega))
      obtain ⟨q, hq⟩ : ∃ q, q = lightC 14 y.2 := ⟨_, rfl⟩
      have HQ := Lib.hid hq
      rw [← hq] at HLc
      have c1 : ξ.v.cell? ⟨b, o + k, none⟩ = some (.slice y.1.1 y.2.length y.1.2) := c0 ξ
      clear hq hx s1 c0
      go_wp2_with (first | ((first | refine Mix.wpList_guarded rfl ?_ | refine Mix.wp_still (by kernel_rfl) (by kernel_rfl) ?_); (repeat' (first | (refine Mix.lex_quiet0 rfl rfl rfl ?_; intro K hK; go_big_quiet_op; go_big_quiet_on) | (refine Mix.lex_quietG rfl rfl rfl (by with_reducible rfl) rfl rfl ?_; intro K hK; go_big_quiet_op; go_big_quiet_on) | ((first | refine Mix.lex_skipT rfl rfl rfl (by with_reducible rfl) ?_ | refine Mix.lex_skipF rfl rfl rfl (by with_reducible rfl) ?_ | refine Mix.lex_skipU rfl rfl rfl (by with_reducible rfl) ?_); simp only [Act.put, List.setIfInBounds_toArray, List.set_cons_succ, List.set_cons_zero]) | (refine Mix.lex_part rfl rfl rfl rfl (fun hq => ?_) (fun hq => ?_) <;> (fail_if_success (guard_hyp hq :ₛ true = true)) <;> (fail_if_success (guard_hyp hq :ₛ false = false)) <;> first | (exfalso; cases hq; done) | (exfalso; simp only [decide_eq_true_eq, decide_eq_false_iff_not, beq_iff_eq, beq_eq_false_iff_ne, ne_eq, Int.not_lt, Int.not_le] at hq; omega) | simp only [Act.put, List.setIfInBounds_toArray, List.set_cons_succ, List.set_cons_zero]))); all_goals (refine Mix.lex_nil ?_)))
      refine (HLc.out _ ξ.h).mono ?_
      rintro e u ⟨rfl, hu⟩
      have U : Hid (Ext w u) := ξ.h.then_ext hu
      clear hu HLc c1
      cases q with
      | false =>
        go_wp2_with (first | ((first | refine Mix.wpList_guarded rfl ?_ | refine Mix.wp_still (by kernel_rfl) (by kernel_rfl) ?_); (repeat' (first | (refine Mix.lex_quiet0 rfl rfl rfl ?_; intro K hK; go_big_quiet_op; go_big_quiet_on) | (refine Mix.lex_quietG rfl rfl rfl (by with_reducible rfl) rfl rfl ?_; intro K hK; go_big_quiet_op; go_big_quiet_on) | ((first | refine Mix.lex_skipT rfl rfl rfl (by with_reducible rfl) ?_ | refine Mix.lex_skipF rfl rfl rfl (by with_reducible rfl) ?_ | refine Mix.lex_skipU rfl rfl rfl (by with_reducible rfl) ?_); simp only [Act.put, List.setIfInBounds_toArray, List.set_cons_succ, List.set_cons_zero]) | (refine Mix.lex_part rfl rfl rfl rfl (fun hq => ?_) (fun hq => ?_) <;> (fail_if_success (guard_hyp hq :ₛ true = true)) <;> (fail_if_success (guard_hyp hq :ₛ false = false)) <;> first | (exfalso; cases hq; done) | (exfalso; simp only [decide_eq_true_eq, decide_eq_false_iff_not, beq_iff_eq, beq_eq_false_iff_ne, ne_eq, Int.not_lt, Int.not_le] at hq; omega) | simp only [Act.put, List.setIfInBounds_toArray, List.set_cons_succ, List.set_cons_zero]))); all_goals (refine Mix.lex_nil ?_)))
        go_ret
        exact ⟨ret_bool (by rw [HL.out]; exact (all_false_at HX.out HQ.out.symm).symm), U.out⟩
      | true =>
        go_wp2_with (first | ((first | refine Mix.wpList_guarded rfl ?_ | refine Mix.wp_still (by kernel_rfl) (by kernel_rfl) ?_); (repeat' (first | (refine Mix.lex_quiet0 rfl rfl rfl ?_; intro K hK; go_big_quiet_op; go_big_quiet_on) | (refine Mix.lex_quietG rfl rfl rfl (by with_reducible rfl) rfl rfl ?_; intro K hK; go_big_quiet_op; go_big_quiet_on) | ((first | refine Mix.lex_skipT rfl rfl rfl (by with_reducible rfl) ?_ | refine Mix.lex_skipF rfl rfl rfl (by with_reducible rfl) ?_ | refine Mix.lex_skipU rfl rfl rfl (by with_reducible rfl) ?_); simp only [Act.put, List.setIfInBounds_toArray, List.set_cons_succ, List.set_cons_zero]) | (refine Mix.lex_part rfl rfl rfl rfl (fun hq => ?_) (fun hq => ?_) <;> (fail_if_success (guard_hyp hq :ₛ true = true)) <;> (fail_if_success (guard_hyp hq :ₛ false = false)) <;> first | (exfalso; cases hq; done) | (exfalso; simp only [decide_eq_true_eq, decide_eq_false_iff_not, beq_iff_eq, beq_eq_false_iff_ne, ne_eq, Int.not_lt, Int.not_le] at hq; omega) | simp only [Act.put, List.setIfInBounds_toArray, List.set_cons_succ, List.set_cons_zero]))); all_goals (refine Mix.lex_nil ?_)))
        go_roundw
        case rel => exact ⟨k + 1, by omega, by go_num, all_take_succ HT.out HX.out HQ.out.symm, ⟨_, U.out⟩, rfl⟩
        case measure => simp [intOf]; omega
    · go_wp2_with (first | ((first | refine Mix.wpList_guarded rfl ?_ | refine Mix.wp_still (by kernel_rfl) (by kernel_rfl) ?_); (repeat' (first | (refine Mix.lex_quiet0 rfl rfl rfl ?_; intro K hK; go_big_quiet_op; go_big_quiet_on) | (refine Mix.lex_quietG rfl rfl rfl (by with_reducible rfl) rfl rfl ?_; intro K hK; go_big_quiet_op; go_big_quiet_on) | ((first | refine Mix.lex_skipT rfl rfl rfl (by with_reducible rfl) ?_ | refine Mix.lex_skipF rfl rfl rfl (by with_reducible rfl) ?_ | refine Mix.lex_skipU rfl rfl rfl (by with_reducible rfl) ?_); simp only [Act.put, List.setIfInBounds_toArray, List.set_cons_succ, List.set_cons_zero]) | (refine Mix.lex_part rfl rfl rfl rfl (fun hq => ?_) (fun hq => ?_) <;> (fail_if_success (guard_hyp hq :ₛ true = true)) <;> (fail_if_success (guard_hyp hq :ₛ false = false)) <;> first | (exfalso; cases hq; done) | (exfalso; simp only [decide_eq_true_eq, decide_eq_false_iff_not, beq_iff_eq, beq_eq_false_iff_ne, ne_eq, Int.not_lt, Int.not_le] at hq; omega) | simp only [Act.put, List.setIfInBounds_toArray, List.set_cons_succ, List.set_cons_zero]))); all_goals (refine Mix.lex_nil ?_)))
      go_ret
      refine ⟨ret_bool ?_, ξ.h⟩
      have := HT.out
      rw [List.take_of_length_le (by rw [List.length_map]; omega)] at this
      rw [HL.out, this]
end Go.Proofs.Ytaphmmobmadfoaa
