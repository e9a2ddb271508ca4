/- Put together: StT. -/
import Derived.Test.YtaphmmobmadfoaaMc38
/- Two stores in one memory; TopSave's walk. -/
namespace Go.Proofs.Ytaphmmobmadfoaa
open Go Go.RowKit
theorem numberT_c (n : Int) (w : World) : Calls Try.prog 21 #[errV n] w fun e w' => e = .returned (.int .i64 n) ∧ Ext w w' := by
  by_cases h : n = 0
  · subst h
    rw [errV_zero]
    go_enter Try.func21, Try.ntmps21
    go_wp2_with (first | ((first | refine Mix.wpList_guarded rfl ?_ | refine Mix.wp_still (by kernel_rfl) (by kernel_rfl) ?_); (repeat' (first | (refine Mix.lex_quiet0 rfl rfl rfl ?_; intro K hK; go_big_quiet_op; go_big_quiet_on) | (refine Mix.lex_quietG rfl rfl rfl (by with_reducible rfl) rfl rfl ?_; intro K hK; go_big_quiet_op; go_big_quiet_on) | ((first | refine Mix.lex_skipT rfl rfl rfl (by with_reducible rfl) ?_ | refine Mix.lex_skipF rfl rfl rfl (by with_reducible rfl) ?_ | refine Mix.lex_skipU rfl rfl rfl (by with_reducible rfl) ?_); simp only [Act.put, List.setIfInBounds_toArray, List.set_cons_succ, List.set_cons_zero]) | (refine Mix.lex_part rfl rfl rfl rfl (fun hq => ?_) (fun hq => ?_) <;> (fail_if_success (guard_hyp hq :ₛ true = true)) <;> (fail_if_success (guard_hyp hq :ₛ false = false)) <;> first | (exfalso; cases hq; done) | (exfalso; simp only [decide_eq_true_eq, decide_eq_false_iff_not, beq_iff_eq, beq_eq_false_iff_ne, ne_eq, Int.not_lt, Int.not_le] at hq; omega) | simp only [Act.put, List.setIfInBounds_toArray, List.set_cons_succ, List.set_cons_zero]))); all_goals (refine Mix.lex_nil ?_)))
    go_ret
    exact ⟨rfl, Only.refl _ _⟩
  · rw [errV_pos h]
    have hE := as_E n
    go_enter Try.func21, Try.ntmps21
    go_wp2_with (first | ((first | refine Mix.wpList_guarded rfl ?_ | refine Mix.wp_still (by kernel_rfl) (by kernel_rfl) ?_); (repeat' (first | (refine Mix.lex_quiet0 rfl rfl rfl ?_; intro K hK; go_big_quiet_op; go_big_quiet_on) | (refine Mix.lex_quietG rfl rfl rfl (by with_reducible rfl) rfl rfl ?_; intro K hK; go_big_quiet_op; go_big_quiet_on) | ((first | refine Mix.lex_skipT rfl rfl rfl (by with_reducible rfl) ?_ | refine Mix.lex_skipF rfl rfl rfl (by with_reducible rfl) ?_ | refine Mix.lex_skipU rfl rfl rfl (by with_reducible rfl) ?_); simp only [Act.put, List.setIfInBounds_toArray, List.set_cons_succ, List.set_cons_zero]) | (refine Mix.lex_part rfl rfl rfl rfl (fun hq => ?_) (fun hq => ?_) <;> (fail_if_success (guard_hyp hq :ₛ true = true)) <;> (fail_if_success (guard_hyp hq :ₛ false = false)) <;> first | (exfalso; cases hq; done) | (exfalso; simp only [decide_eq_true_eq, decide_eq_false_iff_not, beq_iff_eq, beq_eq_false_iff_ne, ne_eq, Int.not_lt, Int.not_le] at hq; omega) | simp only [Act.put, List.setIfInBounds_toArray, List.set_cons_succ, List.set_cons_zero]))); all_goals (refine Mix.lex_nil ?_)))
    go_ret
    exact ⟨rfl, Only.refl _ _⟩
theorem rcF_two (rows c : List Ch) (u1 u2 m1 m2 : Nat) (h1 : c.length + 1 ≤ m1) (h2 : c.length + 1 ≤ m2) : (rcF rows u1 m1 c).2 = (rcF rows u2 m2 c).2 ∧ (rcF rows u1 m1 c).1.1 = (rcF rows u2 m2 c).1.1 := by
  have k1 : ¬ m1 < c.length + 1 := by omega
  have k2 : ¬ m2 < c.length + 1 := by omega
  unfold rcF
  by_cases h40 : 40 < c.length
  · rw [if_pos h40, if_pos h40]; exact ⟨rfl, rfl⟩
  rw [if_neg h40, if_neg h40]
  by_cases hc : chkA c ≠ 0
  · rw [if_pos hc, if_pos hc]; exact ⟨rfl, rfl⟩
  rw [if_neg hc, if_neg hc]
  by_cases hb : manyB (applyL rows c) = true
  · rw [if_pos (.inl hb), if_pos (.inl hb)]; exact ⟨rfl, rfl⟩
  have a1 : ¬ (manyB (applyL rows c) = true ∨ m1 < c.length + 1) := fun h => h.elim hb k1
  have a2 : ¬ (manyB (applyL rows c) = true ∨ m2 < c.length + 1) := fun h => h.elim hb k2
  rw [if_neg a1, if_neg a2]
  exact ⟨rfl, rfl⟩
theorem row_ne_fp {w0 u : World} {Z : StS} {r : DkR} {d : Dk} (h : Live w0 u Z r d) {v : Value} {B n : Nat} {xs : List Value} (ho : u.ownsRow B chT 3 v n xs) : ∀ g, v.ownBlock = some g → ¬ Z.fp r g := fun g hg e => by
  obtain ⟨cur, hc⟩ := own_cs ho hg
  rcases e with e | e | e
  · exact fp_ne h.dk hc (by decide) (by decide) (by decide) e
  · exact Cs.ne_ hc h.st.cs (by decide) e
  · exact Cs.ne_ hc h.st.lg (by decide) e
/-- A step of one store leaves the other. -/
theorem SV.beside {w0 u u' : World} {dg sg N mn nx E1 F1 dg' sg' N' mn' nx' E1' F1' : Nat} {rows rows' : List Ch} {Z Z1 Z1' : StS} {r r1 r1' : DkR} {d d1 : Dk} (h : SV w0 u dg sg N mn nx E1 F1 rows Z r d) (h1 : SV w0 u dg' sg' N' mn' nx' E1' F1' rows' Z1 r1 d1) (hd : ∀ b, Z1.fp r1 b → ¬ Z.fp r b)
    (ho : Only (Z1.fp r1) u u') (hf : ∀ b, Z1'.fp r1' b → Z1.fp r1 b ∨ u.heap.size ≤ b) : SV w0 u' dg sg N mn nx E1 F1 rows Z r d ∧ ∀ b, Z1'.fp r1' b → ¬ Z.fp r b :=
  ⟨h.keep ho (fun b k e => hd b e k) (row_ne_fp h1.lv h.lv.st.own), fun b hb e => by
    rcases hf b hb with k | k
    · exact hd b k e
    · have := fp_lt h.lv.st h.lv.dk b e; omega⟩
/-- Where the two stand at the head of a round. -/
def TSv (w wr : World) (d1 s1 d2 s2 j : Nat) : Prop :=
  ∃ Z1 r1 e1 Z2 r2 e2 n1 n2 rows, SV w wr d1 s1 64 20 n1 (1 + 2 * j) (1 + 40 * j) rows Z1 r1 e1 ∧ SV w wr d2 s2 120 76 n2 (1 + 2 * j) (1 + 152 * j) rows Z2 r2 e2 ∧ (∀ b, Z1.fp r1 b → ¬ Z2.fp r2 b) ∧ Ext w wr ∧ Ml wr
theorem SV.of_fresh {w0 w w' : World} {N : Nat} {Z : StS} {r : DkR} (h : FreshSt w w' N Z r) (h0 : w0.heap.size ≤ w.heap.size) : SV w0 w' r.g Z.g N (N - 44) 0 1 1 [] Z r (fmtD N) := by
  obtain ⟨hL, e1, e2, e3, -⟩ := h
  exact ⟨⟨hL.st, hL.dk, hL.on, hL.ok, hL.kn, hL.wt, fun b hb => Nat.le_trans h0 (hL.fp b hb)⟩, rfl, rfl, rfl, e3, (z_eq0 e2).2.2.2, (z_eq0 e2).2.1, by rw [e1]; exact Nat.le_refl _, by rw [(z_eq0 e2).2.2.1]; exact Nat.le_refl _, by rw [fmt_len]⟩
theorem ded_at {w u : World} {b o n : Nat} {ys : List DeedV} (h : DedR w (some ⟨b, o, none⟩) n ys) (hx : Ext w u) {j : Nat} (hj : j < n) {y : DeedV} (hy : ys[j]? = some y) : u.cell? ⟨b, o + j, none⟩ = some (.slice y.1.1 y.2.length y.1.2) := by
  obtain ⟨b', o', y', e1, e2, -, e3⟩ := ded_get (⟨h.1.ext hx, fun y hy => (h.2 y hy).ext hx⟩ : DedR u _ n ys) hj
  injection e1 with e1
  injection e1 with k1 k2 _
  subst k1 k2
  rw [hy] at e2
  injection e2 with e2
  subst e2
  exact e3 (X.here _ _)
theorem bool_at {w u : World} {b o n : Nat} {ys : List Bool} (h : SlR boolF w (some ⟨b, o, none⟩) n ys) (hx : Ext w u) {j : Nat} (hj : j < n) {y : Bool} (hy : ys[j]? = some y) : u.cell? ⟨b, o + j, none⟩ = some (.bool y) := by
  obtain ⟨b', o', y', e1, e2, e3⟩ := bools_get (h.ext hx) hj
  injection e1 with e1
  injection e1 with k1 k2 _
  subst k1 k2
  rw [hy] at e2
  injection e2 with e2
  subst e2
  exact e3 (X.here _ _)
set_option maxRecDepth 100000 in
set_option maxHeartbeats 16000000 in
theorem TopSave_all {w : World} (hm : Ml w) {A : Option Addr} {n cap : Nat} {ys : List DeedV} (hs : DedR w A n ys) (hn : n ≤ maxLen) {B : Option Addr} {m bcap : Nat} {bs : List Bool} (hb : SlR boolF w B m bs) (hmm : m ≤ maxLen) :
    Calls Try.prog 4 #[.slice A n cap, .slice B m bcap] w fun e w' => e = .returned (.bool true) ∧ Ext w w' := by
  have HM := Lib.hid hm
  have HS := Lib.hid hs
  have HB := Lib.hid hb
  have H0 := Lib.hid (kept_c hm)
  have HnM := Lib.hid hn
  unfold maxLen at hmm hn
  clear hm hs hb
  go_enter Try.func4, Try.ntmps4
  go_wp2_with (first | ((first | refine Mix.wpList_guarded rfl ?_ | refine Mix.wp_still (by kernel_rfl) (by kernel_rfl) ?_); (repeat' (first | (refine Mix.lex_quiet0 rfl rfl rfl ?_; intro K hK; go_big_quiet_op; go_big_quiet_on) | (refine Mix.lex_quietG rfl rfl rfl (by with_reducible rfl) rfl rfl ?_; intro K hK; go_big_quiet_op; go_big_quiet_on) | ((first | refine Mix.lex_skipT rfl rfl rfl (by with_reducible rfl) ?_ | refine Mix.lex_skipF rfl rfl rfl (by with_reducible rfl) ?_ | refine Mix.lex_skipU rfl rfl rfl (by with_reducible rfl) ?_); simp only [Act.put, List.setIfInBounds_toArray, List.set_cons_succ, List.set_cons_zero]) | (refine Mix.lex_part rfl rfl rfl rfl (fun hq => ?_) (fun hq => ?_) <;> (fail_if_success (guard_hyp hq :ₛ true = true)) <;> (fail_if_success (guard_hyp hq :ₛ false = false)) <;> first | (exfalso; cases hq; done) | (exfalso; simp only [decide_eq_true_eq, decide_eq_false_iff_not, beq_iff_eq, beq_eq_false_iff_ne, ne_eq, Int.not_lt, Int.not_le] at hq; omega) | simp only [Act.put, List.setIfInBounds_toArray, List.set_cons_succ, List.set_cons_zero]))); all_goals (refine Mix.lex_nil ?_)))
  refine H0.out.mono ?_
  rintro e u0 ⟨rfl, hu⟩
  have U0 := Lib.hid hu
  have HS1 := Lib.hid (Stored_c (HM.out.ext hu) 64 (by omega) (by omega))
  clear hu H0
  go_wp2_with (first | ((first | refine Mix.wpList_guarded rfl ?_ | refine Mix.wp_still (by kernel_rfl) (by kernel_rfl) ?_); (repeat' (first | (refine Mix.lex_quiet0 rfl rfl rfl ?_; intro K hK; go_big_quiet_op; go_big_quiet_on) | (refine Mix.lex_quietG rfl rfl rfl (by with_reducible rfl) rfl rfl ?_; intro K hK; go_big_quiet_op; go_big_quiet_on) | ((first | refine Mix.lex_skipT rfl rfl rfl (by with_reducible rfl) ?_ | refine Mix.lex_skipF rfl rfl rfl (by with_reducible rfl) ?_ | refine Mix.lex_skipU rfl rfl rfl (by with_reducible rfl) ?_); simp only [Act.put, List.setIfInBounds_toArray, List.set_cons_succ, List.set_cons_zero]) | (refine Mix.lex_part rfl rfl rfl rfl (fun hq => ?_) (fun hq => ?_) <;> (fail_if_success (guard_hyp hq :ₛ true = true)) <;> (fail_if_success (guard_hyp hq :ₛ false = false)) <;> first | (exfalso; cases hq; done) | (exfalso; simp only [decide_eq_true_eq, decide_eq_false_iff_not, beq_iff_eq, beq_eq_false_iff_ne, ne_eq, Int.not_lt, Int.not_le] at hq; omega) | simp only [Act.put, List.setIfInBounds_toArray, List.set_cons_succ, List.set_cons_zero]))); all_goals (refine Mix.lex_nil ?_)))
  refine HS1.out.mono ?_
  rintro e u1 ⟨Z1, r1, rfl, hF1⟩
  have F1 := Lib.hid (SV.of_fresh (w0 := w) hF1 U0.out.size)
  have U1 := Lib.hid (U0.out.then_ext hF1.2.2.2.2)
  have HS2 := Lib.hid (Stored_c (HM.out.ext U1.out) 120 (by omega) (by omega))
  clear hF1 HS1 U0
  go_wp2_with (first | ((first | refine Mix.wpList_guarded rfl ?_ | refine Mix.wp_still (by kernel_rfl) (by kernel_rfl) ?_); (repeat' (first | (refine Mix.lex_quiet0 rfl rfl rfl ?_; intro K hK; go_big_quiet_op; go_big_quiet_on) | (refine Mix.lex_quietG rfl rfl rfl (by with_reducible rfl) rfl rfl ?_; intro K hK; go_big_quiet_op; go_big_quiet_on) | ((first | refine Mix.lex_skipT rfl rfl rfl (by with_reducible rfl) ?_ | refine Mix.lex_skipF rfl rfl rfl (by with_reducible rfl) ?_ | refine Mix.lex_skipU rfl rfl rfl (by with_reducible rfl) ?_); simp only [Act.put, List.setIfInBounds_toArray, List.set_cons_succ, List.set_cons_zero]) | (refine Mix.lex_part rfl rfl rfl rfl (fun hq => ?_) (fun hq => ?_) <;> (fail_if_success (guard_hyp hq :ₛ true = true)) <;> (fail_if_success (guard_hyp hq :ₛ false = false)) <;> first | (exfalso; cases hq; done) | (exfalso; simp only [decide_eq_true_eq, decide_eq_false_iff_not, beq_iff_eq, beq_eq_false_iff_ne, ne_eq, Int.not_lt, Int.not_le] at hq; omega) | simp only [Act.put, List.setIfInBounds_toArray, List.set_cons_succ, List.set_cons_zero]))); all_goals (refine Mix.lex_nil ?_)))
  refine HS2.out.mono ?_
  rintro e u2 ⟨Z2, r2, rfl, hF2⟩
  have F2 := Lib.hid (SV.of_fresh (w0 := w) hF2 U1.out.size)
  have HD : Hid (∀ b, Z1.fp r1 b → ¬ Z2.fp r2 b) := fun b k e => by
    have h1 := fp_lt F1.out.lv.st F1.out.lv.dk b k
    have h2 := hF2.1.fp b e
    omega
  have F1 := Lib.hid (F1.out.ext hF2.2.2.2.2)
  have U2 := Lib.hid (U1.out.then_ext hF2.2.2.2.2)
  clear hF2 HS2 U1
  have HL := Lib.hid (lightDs_c (c := cap) ⟨HS.out.1.ext U2.out, fun y hy => (HS.out.2 y hy).ext U2.out⟩ HnM.out 20 (by omega))
  obtain ⟨q, hq⟩ : ∃ q, q = lightDs 20 (ys.map (·.2)) := ⟨_, rfl⟩
  rw [← hq] at HL
  have HQ := Lib.hid hq
  clear hq
  go_wp2_with (first | ((first | refine Mix.wpList_guarded rfl ?_ | refine Mix.wp_still (by kernel_rfl) (by kernel_rfl) ?_); (repeat' (first | (refine Mix.lex_quiet0 rfl rfl rfl ?_; intro K hK; go_big_quiet_op; go_big_quiet_on) | (refine Mix.lex_quietG rfl rfl rfl (by with_reducible rfl) rfl rfl ?_; intro K hK; go_big_quiet_op; go_big_quiet_on) | ((first | refine Mix.lex_skipT rfl rfl rfl (by with_reducible rfl) ?_ | refine Mix.lex_skipF rfl rfl rfl (by with_reducible rfl) ?_ | refine Mix.lex_skipU rfl rfl rfl (by with_reducible rfl) ?_); simp only [Act.put, List.setIfInBounds_toArray, List.set_cons_succ, List.set_cons_zero]) | (refine Mix.lex_part rfl rfl rfl rfl (fun hq => ?_) (fun hq => ?_) <;> (fail_if_success (guard_hyp hq :ₛ true = true)) <;> (fail_if_success (guard_hyp hq :ₛ false = false)) <;> first | (exfalso; cases hq; done) | (exfalso; simp only [decide_eq_true_eq, decide_eq_false_iff_not, beq_iff_eq, beq_eq_false_iff_ne, ne_eq, Int.not_lt, Int.not_le] at hq; omega) | simp only [Act.put, List.setIfInBounds_toArray, List.set_cons_succ, List.set_cons_zero]))); all_goals (refine Mix.lex_nil ?_)))
  refine HL.out.mono ?_
  rintro e u3 ⟨rfl, hu⟩
  have U3 := Lib.hid (U2.out.then_ext hu)
  have F1 := Lib.hid (F1.out.ext hu)
  have F2 := Lib.hid (F2.out.ext hu)
  clear hu HL U2
  cases q with
  | false =>
    go_wp2_with (first | ((first | refine Mix.wpList_guarded rfl ?_ | refine Mix.wp_still (by kernel_rfl) (by kernel_rfl) ?_); (repeat' (first | (refine Mix.lex_quiet0 rfl rfl rfl ?_; intro K hK; go_big_quiet_op; go_big_quiet_on) | (refine Mix.lex_quietG rfl rfl rfl (by with_reducible rfl) rfl rfl ?_; intro K hK; go_big_quiet_op; go_big_quiet_on) | ((first | refine Mix.lex_skipT rfl rfl rfl (by with_reducible rfl) ?_ | refine Mix.lex_skipF rfl rfl rfl (by with_reducible rfl) ?_ | refine Mix.lex_skipU rfl rfl rfl (by with_reducible rfl) ?_); simp only [Act.put, List.setIfInBounds_toArray, List.set_cons_succ, List.set_cons_zero]) | (refine Mix.lex_part rfl rfl rfl rfl (fun hq => ?_) (fun hq => ?_) <;> (fail_if_success (guard_hyp hq :ₛ true = true)) <;> (fail_if_success (guard_hyp hq :ₛ false = false)) <;> first | (exfalso; cases hq; done) | (exfalso; simp only [decide_eq_true_eq, decide_eq_false_iff_not, beq_iff_eq, beq_eq_false_iff_ne, ne_eq, Int.not_lt, Int.not_le] at hq; omega) | simp only [Act.put, List.setIfInBounds_toArray, List.set_cons_succ, List.set_cons_zero]))); all_goals (refine Mix.lex_nil ?_)))
    go_ret
    exact ⟨rfl, U3.out⟩
  | true =>
  by_cases h25 : 25 < m
  · have g25 : decide ((25 : Int) < (m : Int)) = true := decide_eq_true (by omega)
    have g25' : decide (25 < m) = true := decide_eq_true h25
    go_wp2_with (first | ((first | refine Mix.wpList_guarded rfl ?_ | refine Mix.wp_still (by kernel_rfl) (by kernel_rfl) ?_); (repeat' (first | (refine Mix.lex_quiet0 rfl rfl rfl ?_; intro K hK; go_big_quiet_op; go_big_quiet_on) | (refine Mix.lex_quietG rfl rfl rfl (by with_reducible rfl) rfl rfl ?_; intro K hK; go_big_quiet_op; go_big_quiet_on) | ((first | refine Mix.lex_skipT rfl rfl rfl (by with_reducible rfl) ?_ | refine Mix.lex_skipF rfl rfl rfl (by with_reducible rfl) ?_ | refine Mix.lex_skipU rfl rfl rfl (by with_reducible rfl) ?_); simp only [Act.put, List.setIfInBounds_toArray, List.set_cons_succ, List.set_cons_zero]) | (refine Mix.lex_part rfl rfl rfl rfl (fun hq => ?_) (fun hq => ?_) <;> (fail_if_success (guard_hyp hq :ₛ true = true)) <;> (fail_if_success (guard_hyp hq :ₛ false = false)) <;> first | (exfalso; cases hq; done) | (exfalso; simp only [decide_eq_true_eq, decide_eq_false_iff_not, beq_iff_eq, beq_eq_false_iff_ne, ne_eq, Int.not_lt, Int.not_le] at hq; omega) | simp only [Act.put, List.setIfInBounds_toArray, List.set_cons_succ, List.set_cons_zero]))); all_goals (refine Mix.lex_nil ?_)))
    go_ret
    exact ⟨rfl, U3.out⟩
  have g25 : decide ((25 : Int) < (m : Int)) = false := decide_eq_false (by omega)
  have g25' : decide (25 < m) = false := decide_eq_false h25
  have HLf : Hid (n ≤ 20 ∧ ∀ x ∈ ys, x.2.length ≤ 14 ∧ ∀ y ∈ x.2, y.1.length ≤ 20 ∧ y.2.1.length ≤ 400) := by
    have h := HQ.out.symm
    unfold lightDs at h
    simp only [Bool.and_eq_true, decide_eq_true_eq, List.all_eq_true, List.length_map] at h
    exact ⟨by rw [← HS.out.1.1]; exact h.1, fun x hx => lightC_facts (h.2 x.2 (List.mem_map_of_mem hx))⟩
  have hn20 : n ≤ 20 := HLf.out.1
  clear HQ
  obtain ⟨d1, hd1⟩ : ∃ x, x = r1.g := ⟨_, rfl⟩
  obtain ⟨d2, hd2⟩ : ∃ x, x = r2.g := ⟨_, rfl⟩
  obtain ⟨s1, hs1⟩ : ∃ x, x = Z1.g := ⟨_, rfl⟩
  obtain ⟨s2, hs2⟩ : ∃ x, x = Z2.g := ⟨_, rfl⟩
  rw [← hd1, ← hs1] at F1
  rw [← hd2, ← hs2] at F2
  rw [← hd1, ← hs1, ← hd2, ← hs2]
  clear hd1 hd2 hs1 hs2
  go_wp2_with (first | ((first | refine Mix.wpList_guarded rfl ?_ | refine Mix.wp_still (by kernel_rfl) (by kernel_rfl) ?_); (repeat' (first | (refine Mix.lex_quiet0 rfl rfl rfl ?_; intro K hK; go_big_quiet_op; go_big_quiet_on) | (refine Mix.lex_quietG rfl rfl rfl (by with_reducible rfl) rfl rfl ?_; intro K hK; go_big_quiet_op; go_big_quiet_on) | ((first | refine Mix.lex_skipT rfl rfl rfl (by with_reducible rfl) ?_ | refine Mix.lex_skipF rfl rfl rfl (by with_reducible rfl) ?_ | refine Mix.lex_skipU rfl rfl rfl (by with_reducible rfl) ?_); simp only [Act.put, List.setIfInBounds_toArray, List.set_cons_succ, List.set_cons_zero]) | (refine Mix.lex_part rfl rfl rfl rfl (fun hq => ?_) (fun hq => ?_) <;> (fail_if_success (guard_hyp hq :ₛ true = true)) <;> (fail_if_success (guard_hyp hq :ₛ false = false)) <;> first | (exfalso; cases hq; done) | (exfalso; simp only [decide_eq_true_eq, decide_eq_false_iff_not, beq_iff_eq, beq_eq_false_iff_ne, ne_eq, Int.not_lt, Int.not_le] at hq; omega) | simp only [Act.put, List.setIfInBounds_toArray, List.set_cons_succ, List.set_cons_zero]))); all_goals (refine Mix.lex_nil ?_)))
  go_loopw [11] (fun i wr => ∃ j : Nat, j ≤ n ∧ i = .int .i64 (j : Int) ∧ TSv w wr d1 s1 d2 s2 j) (fun i _ => n - (intOf i).toNat)
  case atStart => exact ⟨0, Nat.zero_le _, rfl, Z1, r1, _, Z2, r2, _, 0, 0, [], F1.out, F2.out, HD.out, U3.out, HM.out.ext U3.out⟩
  case round =>
    obtain ⟨j, hj, rfl, hss⟩ := hrel
    clear F1 F2 HD U3
    obtain ⟨wv, rfl⟩ : ∃ x, x = wr := ⟨_, rfl⟩
    obtain ⟨Z3, r3, e3, Z4, r4, e4, n1, n2, rows, hS1, hS2, hdj, hx, hml⟩ := hss
    have S1 := Lib.hid hS1
    have S2 := Lib.hid hS2
    have DJ := Lib.hid hdj
    have X3 := Lib.hid hx
    have M3 := Lib.hid hml
    clear hS1 hS2 hdj hx hml
    have HLr : Hid (rows.length ≤ 1000) := by have h1 := S1.out.lv.on.small; have h2 := S1.out.rw; rw [Hid, ← h2]; omega
    by_cases hlt : j < n
    case neg =>
      have glt : decide ((j : Int) < (n : Int)) = false := decide_eq_false (by omega)
      have glt' : decide (j < n) = false := decide_eq_false hlt
      have HO1 := Lib.hid (S1.out.open M3.out X3.out.size)
      go_wp2_with (first | ((first | refine Mix.wpList_guarded rfl ?_ | refine Mix.wp_still (by kernel_rfl) (by kernel_rfl) ?_); (repeat' (first | (refine Mix.lex_quiet0 rfl rfl rfl ?_; intro K hK; go_big_quiet_op; go_big_quiet_on) | (refine Mix.lex_quietG rfl rfl rfl (by with_reducible rfl) rfl rfl ?_; intro K hK; go_big_quiet_op; go_big_quiet_on) | ((first | refine Mix.lex_skipT rfl rfl rfl (by with_reducible rfl) ?_ | refine Mix.lex_skipF rfl rfl rfl (by with_reducible rfl) ?_ | refine Mix.lex_skipU rfl rfl rfl (by with_reducible rfl) ?_); simp only [Act.put, List.setIfInBounds_toArray, List.set_cons_succ, List.set_cons_zero]) | (refine Mix.lex_part rfl rfl rfl rfl (fun hq => ?_) (fun hq => ?_) <;> (fail_if_success (guard_hyp hq :ₛ true = true)) <;> (fail_if_success (guard_hyp hq :ₛ false = false)) <;> first | (exfalso; cases hq; done) | (exfalso; simp only [decide_eq_true_eq, decide_eq_false_iff_not, beq_iff_eq, beq_eq_false_iff_ne, ne_eq, Int.not_lt, Int.not_le] at hq; omega) | simp only [Act.put, List.setIfInBounds_toArray, List.set_cons_succ, List.set_cons_zero]))); all_goals (refine Mix.lex_nil ?_)))
      refine HO1.out.mono ?_
      rintro e v1 ⟨x1, rfl, hx, Za, ra, ea, hSa, hoa, hfa⟩
      have SA := Lib.hid hSa
      have S1 := Lib.hid (S1.out.ext hx)
      have S2 := Lib.hid (S2.out.ext hx)
      have X3 := Lib.hid (X3.out.then_ext hx)
      have M3 := Lib.hid (M3.out.ext hx)
      clear hx hSa hoa hfa HO1
      have HO2 := Lib.hid (S2.out.open M3.out X3.out.size)
      go_wp2_with (first | ((first | refine Mix.wpList_guarded rfl ?_ | refine Mix.wp_still (by kernel_rfl) (by kernel_rfl) ?_); (repeat' (first | (refine Mix.lex_quiet0 rfl rfl rfl ?_; intro K hK; go_big_quiet_op; go_big_quiet_on) | (refine Mix.lex_quietG rfl rfl rfl (by with_reducible rfl) rfl rfl ?_; intro K hK; go_big_quiet_op; go_big_quiet_on) | ((first | refine Mix.lex_skipT rfl rfl rfl (by with_reducible rfl) ?_ | refine Mix.lex_skipF rfl rfl rfl (by with_reducible rfl) ?_ | refine Mix.lex_skipU rfl rfl rfl (by with_reducible rfl) ?_); simp only [Act.put, List.setIfInBounds_toArray, List.set_cons_succ, List.set_cons_zero]) | (refine Mix.lex_part rfl rfl rfl rfl (fun hq => ?_) (fun hq => ?_) <;> (fail_if_success (guard_hyp hq :ₛ true = true)) <;> (fail_if_success (guard_hyp hq :ₛ false = false)) <;> first | (exfalso; cases hq; done) | (exfalso; simp only [decide_eq_true_eq, decide_eq_false_iff_not, beq_iff_eq, beq_eq_false_iff_ne, ne_eq, Int.not_lt, Int.not_le] at hq; omega) | simp only [Act.put, List.setIfInBounds_toArray, List.set_cons_succ, List.set_cons_zero]))); all_goals (refine Mix.lex_nil ?_)))
      refine HO2.out.mono ?_
      rintro e v2 ⟨x2, rfl, hx, Zb, rb, eb, hSb, hob, hfb⟩
      have SB := Lib.hid hSb
      have SA := Lib.hid (SA.out.ext hx)
      have S1 := Lib.hid (S1.out.ext hx)
      have X3 := Lib.hid (X3.out.then_ext hx)
      clear hx hSb hob hfb HO2 S2 M3
      have R1 := Lib.hid SA.out.rows_c
      go_wp2_with (first | ((first | refine Mix.wpList_guarded rfl ?_ | refine Mix.wp_still (by kernel_rfl) (by kernel_rfl) ?_); (repeat' (first | (refine Mix.lex_quiet0 rfl rfl rfl ?_; intro K hK; go_big_quiet_op; go_big_quiet_on) | (refine Mix.lex_quietG rfl rfl rfl (by with_reducible rfl) rfl rfl ?_; intro K hK; go_big_quiet_op; go_big_quiet_on) | ((first | refine Mix.lex_skipT rfl rfl rfl (by with_reducible rfl) ?_ | refine Mix.lex_skipF rfl rfl rfl (by with_reducible rfl) ?_ | refine Mix.lex_skipU rfl rfl rfl (by with_reducible rfl) ?_); simp only [Act.put, List.setIfInBounds_toArray, List.set_cons_succ, List.set_cons_zero]) | (refine Mix.lex_part rfl rfl rfl rfl (fun hq => ?_) (fun hq => ?_) <;> (fail_if_success (guard_hyp hq :ₛ true = true)) <;> (fail_if_success (guard_hyp hq :ₛ false = false)) <;> first | (exfalso; cases hq; done) | (exfalso; simp only [decide_eq_true_eq, decide_eq_false_iff_not, beq_iff_eq, beq_eq_false_iff_ne, ne_eq, Int.not_lt, Int.not_le] at hq; omega) | simp only [Act.put, List.setIfInBounds_toArray, List.set_cons_succ, List.set_cons_zero]))); all_goals (refine Mix.lex_nil ?_)))
      refine R1.out.mono ?_
      rintro e v3 ⟨A3, c3, rfl, hF⟩
      have G3 := Lib.hid hF
      have SB := Lib.hid (SB.out.ext hF.ext)
      have S1 := Lib.hid (S1.out.ext hF.ext)
      have X3 := Lib.hid (X3.out.then_ext hF.ext)
      clear hF R1 SA
      have R2 := Lib.hid S1.out.rows_c
      go_wp2_with (first | ((first | refine Mix.wpList_guarded rfl ?_ | refine Mix.wp_still (by kernel_rfl) (by kernel_rfl) ?_); (repeat' (first | (refine Mix.lex_quiet0 rfl rfl rfl ?_; intro K hK; go_big_quiet_op; go_big_quiet_on) | (refine Mix.lex_quietG rfl rfl rfl (by with_reducible rfl) rfl rfl ?_; intro K hK; go_big_quiet_op; go_big_quiet_on) | ((first | refine Mix.lex_skipT rfl rfl rfl (by with_reducible rfl) ?_ | refine Mix.lex_skipF rfl rfl rfl (by with_reducible rfl) ?_ | refine Mix.lex_skipU rfl rfl rfl (by with_reducible rfl) ?_); simp only [Act.put, List.setIfInBounds_toArray, List.set_cons_succ, List.set_cons_zero]) | (refine Mix.lex_part rfl rfl rfl rfl (fun hq => ?_) (fun hq => ?_) <;> (fail_if_success (guard_hyp hq :ₛ true = true)) <;> (fail_if_success (guard_hyp hq :ₛ false = false)) <;> first | (exfalso; cases hq; done) | (exfalso; simp only [decide_eq_true_eq, decide_eq_false_iff_not, beq_iff_eq, beq_eq_false_iff_ne, ne_eq, Int.not_lt, Int.not_le] at hq; omega) | simp only [Act.put, List.setIfInBounds_toArray, List.set_cons_succ, List.set_cons_zero]))); all_goals (refine Mix.lex_nil ?_)))
      refine R2.out.mono ?_
      rintro e v4 ⟨A4, c4, rfl, hF⟩
      have SC := Lib.hid (SameChanges_c (c := c3) (d := c4) ((G3.out.on hF.ext).row (by decide)) (hF.row (by decide)) (Nat.le_trans HLr.out (by omega)) (Nat.le_trans HLr.out (by omega)))
      rw [decide_eq_true rfl] at SC
      have SB := Lib.hid (SB.out.ext hF.ext)
      have S1 := Lib.hid (S1.out.ext hF.ext)
      have X3 := Lib.hid (X3.out.then_ext hF.ext)
      clear hF R2 G3
      go_wp2_with (first | ((first | refine Mix.wpList_guarded rfl ?_ | refine Mix.wp_still (by kernel_rfl) (by kernel_rfl) ?_); (repeat' (first | (refine Mix.lex_quiet0 rfl rfl rfl ?_; intro K hK; go_big_quiet_op; go_big_quiet_on) | (refine Mix.lex_quietG rfl rfl rfl (by with_reducible rfl) rfl rfl ?_; intro K hK; go_big_quiet_op; go_big_quiet_on) | ((first | refine Mix.lex_skipT rfl rfl rfl (by with_reducible rfl) ?_ | refine Mix.lex_skipF rfl rfl rfl (by with_reducible rfl) ?_ | refine Mix.lex_skipU rfl rfl rfl (by with_reducible rfl) ?_); simp only [Act.put, List.setIfInBounds_toArray, List.set_cons_succ, List.set_cons_zero]) | (refine Mix.lex_part rfl rfl rfl rfl (fun hq => ?_) (fun hq => ?_) <;> (fail_if_success (guard_hyp hq :ₛ true = true)) <;> (fail_if_success (guard_hyp hq :ₛ false = false)) <;> first | (exfalso; cases hq; done) | (exfalso; simp only [decide_eq_true_eq, decide_eq_false_iff_not, beq_iff_eq, beq_eq_false_iff_ne, ne_eq, Int.not_lt, Int.not_le] at hq; omega) | simp only [Act.put, List.setIfInBounds_toArray, List.set_cons_succ, List.set_cons_zero]))); all_goals (refine Mix.lex_nil ?_)))
      refine SC.out.mono ?_
      rintro e v5 ⟨rfl, hx⟩
      have SB := Lib.hid (SB.out.ext hx)
      have S1 := Lib.hid (S1.out.ext hx)
      have X3 := Lib.hid (X3.out.then_ext hx)
      clear hx SC
      have R3 := Lib.hid SB.out.rows_c
      go_wp2_with (first | ((first | refine Mix.wpList_guarded rfl ?_ | refine Mix.wp_still (by kernel_rfl) (by kernel_rfl) ?_); (repeat' (first | (refine Mix.lex_quiet0 rfl rfl rfl ?_; intro K hK; go_big_quiet_op; go_big_quiet_on) | (refine Mix.lex_quietG rfl rfl rfl (by with_reducible rfl) rfl rfl ?_; intro K hK; go_big_quiet_op; go_big_quiet_on) | ((first | refine Mix.lex_skipT rfl rfl rfl (by with_reducible rfl) ?_ | refine Mix.lex_skipF rfl rfl rfl (by with_reducible rfl) ?_ | refine Mix.lex_skipU rfl rfl rfl (by with_reducible rfl) ?_); simp only [Act.put, List.setIfInBounds_toArray, List.set_cons_succ, List.set_cons_zero]) | (refine Mix.lex_part rfl rfl rfl rfl (fun hq => ?_) (fun hq => ?_) <;> (fail_if_success (guard_hyp hq :ₛ true = true)) <;> (fail_if_success (guard_hyp hq :ₛ false = false)) <;> first | (exfalso; cases hq; done) | (exfalso; simp only [decide_eq_true_eq, decide_eq_false_iff_not, beq_iff_eq, beq_eq_false_iff_ne, ne_eq, Int.not_lt, Int.not_le] at hq; omega) | simp only [Act.put, List.setIfInBounds_toArray, List.set_cons_succ, List.set_cons_zero]))); all_goals (refine Mix.lex_nil ?_)))
      refine R3.out.mono ?_
      rintro e v6 ⟨A5, c5, rfl, hF⟩
      have G3 := Lib.hid hF
      have S1 := Lib.hid (S1.out.ext hF.ext)
      have X3 := Lib.hid (X3.out.then_ext hF.ext)
      clear hF R3 SB
      have R4 := Lib.hid S1.out.rows_c
      go_wp2_with (first | ((first | refine Mix.wpList_guarded rfl ?_ | refine Mix.wp_still (by kernel_rfl) (by kernel_rfl) ?_); (repeat' (first | (refine Mix.lex_quiet0 rfl rfl rfl ?_; intro K hK; go_big_quiet_op; go_big_quiet_on) | (refine Mix.lex_quietG rfl rfl rfl (by with_reducible rfl) rfl rfl ?_; intro K hK; go_big_quiet_op; go_big_quiet_on) | ((first | refine Mix.lex_skipT rfl rfl rfl (by with_reducible rfl) ?_ | refine Mix.lex_skipF rfl rfl rfl (by with_reducible rfl) ?_ | refine Mix.lex_skipU rfl rfl rfl (by with_reducible rfl) ?_); simp only [Act.put, List.setIfInBounds_toArray, List.set_cons_succ, List.set_cons_zero]) | (refine Mix.lex_part rfl rfl rfl rfl (fun hq => ?_) (fun hq => ?_) <;> (fail_if_success (guard_hyp hq :ₛ true = true)) <;> (fail_if_success (guard_hyp hq :ₛ false = false)) <;> first | (exfalso; cases hq; done) | (exfalso; simp only [decide_eq_true_eq, decide_eq_false_iff_not, beq_iff_eq, beq_eq_false_iff_ne, ne_eq, Int.not_lt, Int.not_le] at hq; omega) | simp only [Act.put, List.setIfInBounds_toArray, List.set_cons_succ, List.set_cons_zero]))); all_goals (refine Mix.lex_nil ?_)))
      refine R4.out.mono ?_
      rintro e v7 ⟨A6, c6, rfl, hF⟩
      have SC := Lib.hid (SameChanges_c (c := c5) (d := c6) ((G3.out.on hF.ext).row (by decide)) (hF.row (by decide)) (Nat.le_trans HLr.out (by omega)) (Nat.le_trans HLr.out (by omega)))
      rw [decide_eq_true rfl] at SC
      have X3 := Lib.hid (X3.out.then_ext hF.ext)
      clear hF R4 G3 S1
      go_wp2_with (first | ((first | refine Mix.wpList_guarded rfl ?_ | refine Mix.wp_still (by kernel_rfl) (by kernel_rfl) ?_); (repeat' (first | (refine Mix.lex_quiet0 rfl rfl rfl ?_; intro K hK; go_big_quiet_op; go_big_quiet_on) | (refine Mix.lex_quietG rfl rfl rfl (by with_reducible rfl) rfl rfl ?_; intro K hK; go_big_quiet_op; go_big_quiet_on) | ((first | refine Mix.lex_skipT rfl rfl rfl (by with_reducible rfl) ?_ | refine Mix.lex_skipF rfl rfl rfl (by with_reducible rfl) ?_ | refine Mix.lex_skipU rfl rfl rfl (by with_reducible rfl) ?_); simp only [Act.put, List.setIfInBounds_toArray, List.set_cons_succ, List.set_cons_zero]) | (refine Mix.lex_part rfl rfl rfl rfl (fun hq => ?_) (fun hq => ?_) <;> (fail_if_success (guard_hyp hq :ₛ true = true)) <;> (fail_if_success (guard_hyp hq :ₛ false = false)) <;> first | (exfalso; cases hq; done) | (exfalso; simp only [decide_eq_true_eq, decide_eq_false_iff_not, beq_iff_eq, beq_eq_false_iff_ne, ne_eq, Int.not_lt, Int.not_le] at hq; omega) | simp only [Act.put, List.setIfInBounds_toArray, List.set_cons_succ, List.set_cons_zero]))); all_goals (refine Mix.lex_nil ?_)))
      refine SC.out.mono ?_
      rintro e v8 ⟨rfl, hx⟩
      go_wp2_with (first | ((first | refine Mix.wpList_guarded rfl ?_ | refine Mix.wp_still (by kernel_rfl) (by kernel_rfl) ?_); (repeat' (first | (refine Mix.lex_quiet0 rfl rfl rfl ?_; intro K hK; go_big_quiet_op; go_big_quiet_on) | (refine Mix.lex_quietG rfl rfl rfl (by with_reducible rfl) rfl rfl ?_; intro K hK; go_big_quiet_op; go_big_quiet_on) | ((first | refine Mix.lex_skipT rfl rfl rfl (by with_reducible rfl) ?_ | refine Mix.lex_skipF rfl rfl rfl (by with_reducible rfl) ?_ | refine Mix.lex_skipU rfl rfl rfl (by with_reducible rfl) ?_); simp only [Act.put, List.setIfInBounds_toArray, List.set_cons_succ, List.set_cons_zero]) | (refine Mix.lex_part rfl rfl rfl rfl (fun hq => ?_) (fun hq => ?_) <;> (fail_if_success (guard_hyp hq :ₛ true = true)) <;> (fail_if_success (guard_hyp hq :ₛ false = false)) <;> first | (exfalso; cases hq; done) | (exfalso; simp only [decide_eq_true_eq, decide_eq_false_iff_not, beq_iff_eq, beq_eq_false_iff_ne, ne_eq, Int.not_lt, Int.not_le] at hq; omega) | simp only [Act.put, List.setIfInBounds_toArray, List.set_cons_succ, List.set_cons_zero]))); all_goals (refine Mix.lex_nil ?_)))
      go_ret
      exact ⟨rfl, X3.out.then_ext hx⟩
    have glt : decide ((j : Int) < (n : Int)) = true := decide_eq_true (by omega)
    have glt' : decide (j < n) = true := decide_eq_true hlt
    obtain ⟨b, o, y, rfl, hy, hsl, hc⟩ := ded_get (⟨HS.out.1.ext X3.out, fun y hy => (HS.out.2 y hy).ext X3.out⟩ : DedR wv A n ys) hlt
    have hmem : y ∈ ys := List.mem_of_getElem? hy
    have HYj := Lib.hid hy
    have HY := Lib.hid (HLf.out.2 y hmem)
    have HYs : Hid (SlR chF w y.1.1 y.2.length y.2) := HS.out.2 y hmem
    have HYb : Hid (∀ x ∈ y.2, x.1.length ≤ 1000 ∧ x.2.1.length ≤ 1000) := fun x hx => by have := HY.out.2 x hx; omega
    have HCe := Lib.hid hc
    have hyl := HY.out.1
    have HE1 : Hid (1 + 2 * j + 1 ≤ 1000000000 ∧ 1 + 40 * j + 20 ≤ 1000000000 ∧ 1 + 2 * j + 1 + 1 ≤ 1000000000 ∧ 1 + 40 * j + 20 + 20 ≤ 1000000000 ∧ 1 + 152 * j + 76 ≤ 1000000000) := by rw [Hid]; omega
    have c0 : wv.cell? ⟨b, o + j, none⟩ = some (.slice y.1.1 y.2.length y.1.2) := hc (X.here _ _)
    have HC1 := Lib.hid (S1.out.commit (cap := y.1.2) HM.out M3.out X3.out.size ⟨HE1.out.1, HE1.out.2.1⟩ (fun v hv => HYs.out.ext (X3.out.trans hv fun b hb e => by have := S1.out.lv.fp b e; omega)) (by omega) HYb.out)
    obtain ⟨R1, hR1⟩ : ∃ x, x = rcF rows n1 20 y.2 := ⟨_, rfl⟩
    obtain ⟨R2, hR2⟩ : ∃ x, x = rcF rows n2 76 y.2 := ⟨_, rfl⟩
    have HR12 : Hid (R1.2 = R2.2 ∧ R1.1.1 = R2.1.1) := by rw [Hid, hR1, hR2]; exact rcF_two _ _ _ _ _ _ (by omega) (by omega)
    have HR2e := Lib.hid hR2
    rw [← hR1] at HC1
    clear hc hy hsl hR1 hR2
    go_wp2_with (first | ((first | refine Mix.wpList_guarded rfl ?_ | refine Mix.wp_still (by kernel_rfl) (by kernel_rfl) ?_); (repeat' (first | (refine Mix.lex_quiet0 rfl rfl rfl ?_; intro K hK; go_big_quiet_op; go_big_quiet_on) | (refine Mix.lex_quietG rfl rfl rfl (by with_reducible rfl) rfl rfl ?_; intro K hK; go_big_quiet_op; go_big_quiet_on) | ((first | refine Mix.lex_skipT rfl rfl rfl (by with_reducible rfl) ?_ | refine Mix.lex_skipF rfl rfl rfl (by with_reducible rfl) ?_ | refine Mix.lex_skipU rfl rfl rfl (by with_reducible rfl) ?_); simp only [Act.put, List.setIfInBounds_toArray, List.set_cons_succ, List.set_cons_zero]) | (refine Mix.lex_part rfl rfl rfl rfl (fun hq => ?_) (fun hq => ?_) <;> (fail_if_success (guard_hyp hq :ₛ true = true)) <;> (fail_if_success (guard_hyp hq :ₛ false = false)) <;> first | (exfalso; cases hq; done) | (exfalso; simp only [decide_eq_true_eq, decide_eq_false_iff_not, beq_iff_eq, beq_eq_false_iff_ne, ne_eq, Int.not_lt, Int.not_le] at hq; omega) | simp only [Act.put, List.setIfInBounds_toArray, List.set_cons_succ, List.set_cons_zero]))); all_goals (refine Mix.lex_nil ?_)))
    refine HC1.out.mono ?_
    rintro e v1 ⟨rfl, hp1, Za, ra, ea, hSa, hoa, hfa⟩
    have HS2' := S2.out.beside S1.out DJ.out hoa hfa
    have SA := Lib.hid hSa
    have S2 := Lib.hid HS2'.1
    have DJ := Lib.hid HS2'.2
    have M3 : Hid (Ml v1) := ml_new HM.out M3.out hoa S1.out.lv.fp
    have X3 : Hid (Ext w v1) := X3.out.trans hoa fun b hb e => by have := S1.out.lv.fp b e; omega
    clear hSa hoa hfa HS2' HC1 S1 c0
    go_wp2_with (first | ((first | refine Mix.wpList_guarded rfl ?_ | refine Mix.wp_still (by kernel_rfl) (by kernel_rfl) ?_); (repeat' (first | (refine Mix.lex_quiet0 rfl rfl rfl ?_; intro K hK; go_big_quiet_op; go_big_quiet_on) | (refine Mix.lex_quietG rfl rfl rfl (by with_reducible rfl) rfl rfl ?_; intro K hK; go_big_quiet_op; go_big_quiet_on) | ((first | refine Mix.lex_skipT rfl rfl rfl (by with_reducible rfl) ?_ | refine Mix.lex_skipF rfl rfl rfl (by with_reducible rfl) ?_ | refine Mix.lex_skipU rfl rfl rfl (by with_reducible rfl) ?_); simp only [Act.put, List.setIfInBounds_toArray, List.set_cons_succ, List.set_cons_zero]) | (refine Mix.lex_part rfl rfl rfl rfl (fun hq => ?_) (fun hq => ?_) <;> (fail_if_success (guard_hyp hq :ₛ true = true)) <;> (fail_if_success (guard_hyp hq :ₛ false = false)) <;> first | (exfalso; cases hq; done) | (exfalso; simp only [decide_eq_true_eq, decide_eq_false_iff_not, beq_iff_eq, beq_eq_false_iff_ne, ne_eq, Int.not_lt, Int.not_le] at hq; omega) | simp only [Act.put, List.setIfInBounds_toArray, List.set_cons_succ, List.set_cons_zero]))); all_goals (refine Mix.lex_nil ?_)))
    refine (numberT_c _ _).mono ?_
    rintro e v2 ⟨rfl, hx⟩
    have SA := Lib.hid (SA.out.ext hx)
    have S2 := Lib.hid (S2.out.ext hx)
    have M3 := Lib.hid (M3.out.ext hx)
    have X3 := Lib.hid (X3.out.then_ext hx)
    clear hx
    have c0 : v2.cell? ⟨b, o + j, none⟩ = some (.slice y.1.1 y.2.length y.1.2) := ded_at HS.out X3.out hlt HYj.out
    have HC2 := Lib.hid (S2.out.commit (cap := y.1.2) HM.out M3.out X3.out.size ⟨HE1.out.1, HE1.out.2.2.2.2⟩ (fun v hv => HYs.out.ext (X3.out.trans hv fun b hb e => by have := S2.out.lv.fp b e; omega)) (by omega) HYb.out)
    rw [← HR2e.out, ← HR12.out.1, ← HR12.out.2] at HC2
    go_wp2_with (first | ((first | refine Mix.wpList_guarded rfl ?_ | refine Mix.wp_still (by kernel_rfl) (by kernel_rfl) ?_); (repeat' (first | (refine Mix.lex_quiet0 rfl rfl rfl ?_; intro K hK; go_big_quiet_op; go_big_quiet_on) | (refine Mix.lex_quietG rfl rfl rfl (by with_reducible rfl) rfl rfl ?_; intro K hK; go_big_quiet_op; go_big_quiet_on) | ((first | refine Mix.lex_skipT rfl rfl rfl (by with_reducible rfl) ?_ | refine Mix.lex_skipF rfl rfl rfl (by with_reducible rfl) ?_ | refine Mix.lex_skipU rfl rfl rfl (by with_reducible rfl) ?_); simp only [Act.put, List.setIfInBounds_toArray, List.set_cons_succ, List.set_cons_zero]) | (refine Mix.lex_part rfl rfl rfl rfl (fun hq => ?_) (fun hq => ?_) <;> (fail_if_success (guard_hyp hq :ₛ true = true)) <;> (fail_if_success (guard_hyp hq :ₛ false = false)) <;> first | (exfalso; cases hq; done) | (exfalso; simp only [decide_eq_true_eq, decide_eq_false_iff_not, beq_iff_eq, beq_eq_false_iff_ne, ne_eq, Int.not_lt, Int.not_le] at hq; omega) | simp only [Act.put, List.setIfInBounds_toArray, List.set_cons_succ, List.set_cons_zero]))); all_goals (refine Mix.lex_nil ?_)))
    refine HC2.out.mono ?_
    rintro e v3 ⟨rfl, hp2, Zb, rb, eb, hSb, hob, hfb⟩
    have HS1' := SA.out.beside S2.out (fun b k e => DJ.out b e k) hob hfb
    have SB := Lib.hid hSb
    have SA := Lib.hid HS1'.1
    have DJ : Hid (∀ b, Za.fp ra b → ¬ Zb.fp rb b) := fun b k e => HS1'.2 b e k
    have M3 : Hid (Ml v3) := ml_new HM.out M3.out hob S2.out.lv.fp
    have X3 : Hid (Ext w v3) := X3.out.trans hob fun b hb e => by have := S2.out.lv.fp b e; omega
    clear hSb hob hfb HS1' HC2 S2 c0
    go_wp2_with (first | ((first | refine Mix.wpList_guarded rfl ?_ | refine Mix.wp_still (by kernel_rfl) (by kernel_rfl) ?_); (repeat' (first | (refine Mix.lex_quiet0 rfl rfl rfl ?_; intro K hK; go_big_quiet_op; go_big_quiet_on) | (refine Mix.lex_quietG rfl rfl rfl (by with_reducible rfl) rfl rfl ?_; intro K hK; go_big_quiet_op; go_big_quiet_on) | ((first | refine Mix.lex_skipT rfl rfl rfl (by with_reducible rfl) ?_ | refine Mix.lex_skipF rfl rfl rfl (by with_reducible rfl) ?_ | refine Mix.lex_skipU rfl rfl rfl (by with_reducible rfl) ?_); simp only [Act.put, List.setIfInBounds_toArray, List.set_cons_succ, List.set_cons_zero]) | (refine Mix.lex_part rfl rfl rfl rfl (fun hq => ?_) (fun hq => ?_) <;> (fail_if_success (guard_hyp hq :ₛ true = true)) <;> (fail_if_success (guard_hyp hq :ₛ false = false)) <;> first | (exfalso; cases hq; done) | (exfalso; simp only [decide_eq_true_eq, decide_eq_false_iff_not, beq_iff_eq, beq_eq_false_iff_ne, ne_eq, Int.not_lt, Int.not_le] at hq; omega) | simp only [Act.put, List.setIfInBounds_toArray, List.set_cons_succ, List.set_cons_zero]))); all_goals (refine Mix.lex_nil ?_)))
    refine (numberT_c _ _).mono ?_
    rintro e v4 ⟨rfl, hx⟩
    have SA := Lib.hid (SA.out.ext hx)
    have SB := Lib.hid (SB.out.ext hx)
    have M3 := Lib.hid (M3.out.ext hx)
    have X3 := Lib.hid (X3.out.then_ext hx)
    clear hx HR12 HR2e
    obtain ⟨rw, hrw⟩ : ∃ x, x = R1.1.1 := ⟨_, rfl⟩
    rw [← hrw] at SA SB
    obtain ⟨n3, hn3⟩ : ∃ x, x = R1.1.2 := ⟨_, rfl⟩
    rw [← hn3] at SA
    obtain ⟨n4, hn4⟩ : ∃ x, x = R2.1.2 := ⟨_, rfl⟩
    rw [← hn4] at SB
    clear hrw hn3 hn4 HLr
    have HLr : Hid (rw.length ≤ 1000) := by have h1 := SA.out.lv.on.small; have h2 := SA.out.rw; rw [Hid, ← h2]; omega
    by_cases hjm : j < m
    case neg =>
      have gm : decide ((j : Int) < (m : Int)) = false := decide_eq_false (by omega)
      have gm' : decide (j < m) = false := decide_eq_false hjm
      have SA := Lib.hid (SA.out.weak (E2 := 1 + 2 * (j + 1)) (F2 := 1 + 40 * (j + 1)) (by omega) (by omega))
      have SB := Lib.hid (SB.out.weak (E2 := 1 + 2 * (j + 1)) (F2 := 1 + 152 * (j + 1)) (by omega) (by omega))
      obtain ⟨n5, hn5⟩ : ∃ x, x = n3 := ⟨_, rfl⟩
      subst hn5
      obtain ⟨v5, hv5⟩ : ∃ x, x = v4 := ⟨_, rfl⟩
      subst hv5
      clear HE1
      go_upto_region 19 with (first | (refine Mix.wpList_guarded rfl ?_; (repeat' (first | (refine Mix.lex_quiet0 rfl rfl rfl ?_; intro K hK; go_big_quiet_op; go_big_quiet_on) | (refine Mix.lex_quietG rfl rfl rfl (by with_reducible rfl) rfl rfl ?_; intro K hK; go_big_quiet_op; go_big_quiet_on) | ((first | refine Mix.lex_skipT rfl rfl rfl (by with_reducible rfl) ?_ | refine Mix.lex_skipF rfl rfl rfl (by with_reducible rfl) ?_ | refine Mix.lex_skipU rfl rfl rfl (by with_reducible rfl) ?_); simp only [Act.put, List.setIfInBounds_toArray, List.set_cons_succ, List.set_cons_zero]) | (refine Mix.lex_part rfl rfl rfl rfl (fun hq => ?_) (fun hq => ?_) <;> (fail_if_success (guard_hyp hq :ₛ true = true)) <;> (fail_if_success (guard_hyp hq :ₛ false = false)) <;> first | (exfalso; cases hq; done) | (exfalso; simp only [decide_eq_true_eq, decide_eq_false_iff_not, beq_iff_eq, beq_eq_false_iff_ne, ne_eq, Int.not_lt, Int.not_le] at hq; omega) | simp only [Act.put, List.setIfInBounds_toArray, List.set_cons_succ, List.set_cons_zero]))); all_goals (refine Mix.lex_nil ?_)))
      have RA := Lib.hid SA.out.rows_c
      go_wp2_with (first | ((first | refine Mix.wpList_guarded rfl ?_ | refine Mix.wp_still (by kernel_rfl) (by kernel_rfl) ?_); (repeat' (first | (refine Mix.lex_quiet0 rfl rfl rfl ?_; intro K hK; go_big_quiet_op; go_big_quiet_on) | (refine Mix.lex_quietG rfl rfl rfl (by with_reducible rfl) rfl rfl ?_; intro K hK; go_big_quiet_op; go_big_quiet_on) | ((first | refine Mix.lex_skipT rfl rfl rfl (by with_reducible rfl) ?_ | refine Mix.lex_skipF rfl rfl rfl (by with_reducible rfl) ?_ | refine Mix.lex_skipU rfl rfl rfl (by with_reducible rfl) ?_); simp only [Act.put, List.setIfInBounds_toArray, List.set_cons_succ, List.set_cons_zero]) | (refine Mix.lex_part rfl rfl rfl rfl (fun hq => ?_) (fun hq => ?_) <;> (fail_if_success (guard_hyp hq :ₛ true = true)) <;> (fail_if_success (guard_hyp hq :ₛ false = false)) <;> first | (exfalso; cases hq; done) | (exfalso; simp only [decide_eq_true_eq, decide_eq_false_iff_not, beq_iff_eq, beq_eq_false_iff_ne, ne_eq, Int.not_lt, Int.not_le] at hq; omega) | simp only [Act.put, List.setIfInBounds_toArray, List.set_cons_succ, List.set_cons_zero]))); all_goals (refine Mix.lex_nil ?_)))
      refine RA.out.mono ?_
      rintro e t1 ⟨A5, c5, rfl, hF⟩
      have G3 := Lib.hid hF
      have SA := Lib.hid (SA.out.ext hF.ext)
      have SB := Lib.hid (SB.out.ext hF.ext)
      have X3 := Lib.hid (X3.out.then_ext hF.ext)
      have M3 := Lib.hid (M3.out.ext hF.ext)
      clear hF RA
      have RB := Lib.hid SB.out.rows_c
      go_wp2_with (first | ((first | refine Mix.wpList_guarded rfl ?_ | refine Mix.wp_still (by kernel_rfl) (by kernel_rfl) ?_); (repeat' (first | (refine Mix.lex_quiet0 rfl rfl rfl ?_; intro K hK; go_big_quiet_op; go_big_quiet_on) | (refine Mix.lex_quietG rfl rfl rfl (by with_reducible rfl) rfl rfl ?_; intro K hK; go_big_quiet_op; go_big_quiet_on) | ((first | refine Mix.lex_skipT rfl rfl rfl (by with_reducible rfl) ?_ | refine Mix.lex_skipF rfl rfl rfl (by with_reducible rfl) ?_ | refine Mix.lex_skipU rfl rfl rfl (by with_reducible rfl) ?_); simp only [Act.put, List.setIfInBounds_toArray, List.set_cons_succ, List.set_cons_zero]) | (refine Mix.lex_part rfl rfl rfl rfl (fun hq => ?_) (fun hq => ?_) <;> (fail_if_success (guard_hyp hq :ₛ true = true)) <;> (fail_if_success (guard_hyp hq :ₛ false = false)) <;> first | (exfalso; cases hq; done) | (exfalso; simp only [decide_eq_true_eq, decide_eq_false_iff_not, beq_iff_eq, beq_eq_false_iff_ne, ne_eq, Int.not_lt, Int.not_le] at hq; omega) | simp only [Act.put, List.setIfInBounds_toArray, List.set_cons_succ, List.set_cons_zero]))); all_goals (refine Mix.lex_nil ?_)))
      refine RB.out.mono ?_
      rintro e t2 ⟨A6, c6, rfl, hF⟩
      have SC := Lib.hid (SameChanges_c (c := c5) (d := c6) ((G3.out.on hF.ext).row (by decide)) (hF.row (by decide)) (Nat.le_trans HLr.out (by omega)) (Nat.le_trans HLr.out (by omega)))
      rw [decide_eq_true rfl] at SC
      have SA := Lib.hid (SA.out.ext hF.ext)
      have SB := Lib.hid (SB.out.ext hF.ext)
      have X3 := Lib.hid (X3.out.then_ext hF.ext)
      have M3 := Lib.hid (M3.out.ext hF.ext)
      clear hF RB G3
      go_wp2_with (first | ((first | refine Mix.wpList_guarded rfl ?_ | refine Mix.wp_still (by kernel_rfl) (by kernel_rfl) ?_); (repeat' (first | (refine Mix.lex_quiet0 rfl rfl rfl ?_; intro K hK; go_big_quiet_op; go_big_quiet_on) | (refine Mix.lex_quietG rfl rfl rfl (by with_reducible rfl) rfl rfl ?_; intro K hK; go_big_quiet_op; go_big_quiet_on) | ((first | refine Mix.lex_skipT rfl rfl rfl (by with_reducible rfl) ?_ | refine Mix.lex_skipF rfl rfl rfl (by with_reducible rfl) ?_ | refine Mix.lex_skipU rfl rfl rfl (by with_reducible rfl) ?_); simp only [Act.put, List.setIfInBounds_toArray, List.set_cons_succ, List.set_cons_zero]) | (refine Mix.lex_part rfl rfl rfl rfl (fun hq => ?_) (fun hq => ?_) <;> (fail_if_success (guard_hyp hq :ₛ true = true)) <;> (fail_if_success (guard_hyp hq :ₛ false = false)) <;> first | (exfalso; cases hq; done) | (exfalso; simp only [decide_eq_true_eq, decide_eq_false_iff_not, beq_iff_eq, beq_eq_false_iff_ne, ne_eq, Int.not_lt, Int.not_le] at hq; omega) | simp only [Act.put, List.setIfInBounds_toArray, List.set_cons_succ, List.set_cons_zero]))); all_goals (refine Mix.lex_nil ?_)))
      refine SC.out.mono ?_
      rintro e t3 ⟨rfl, hx⟩
      have SA := Lib.hid (SA.out.ext hx)
      have SB := Lib.hid (SB.out.ext hx)
      have X3 := Lib.hid (X3.out.then_ext hx)
      have M3 := Lib.hid (M3.out.ext hx)
      clear hx SC
      go_wp2_with (first | ((first | refine Mix.wpList_guarded rfl ?_ | refine Mix.wp_still (by kernel_rfl) (by kernel_rfl) ?_); (repeat' (first | (refine Mix.lex_quiet0 rfl rfl rfl ?_; intro K hK; go_big_quiet_op; go_big_quiet_on) | (refine Mix.lex_quietG rfl rfl rfl (by with_reducible rfl) rfl rfl ?_; intro K hK; go_big_quiet_op; go_big_quiet_on) | ((first | refine Mix.lex_skipT rfl rfl rfl (by with_reducible rfl) ?_ | refine Mix.lex_skipF rfl rfl rfl (by with_reducible rfl) ?_ | refine Mix.lex_skipU rfl rfl rfl (by with_reducible rfl) ?_); simp only [Act.put, List.setIfInBounds_toArray, List.set_cons_succ, List.set_cons_zero]) | (refine Mix.lex_part rfl rfl rfl rfl (fun hq => ?_) (fun hq => ?_) <;> (fail_if_success (guard_hyp hq :ₛ true = true)) <;> (fail_if_success (guard_hyp hq :ₛ false = false)) <;> first | (exfalso; cases hq; done) | (exfalso; simp only [decide_eq_true_eq, decide_eq_false_iff_not, beq_iff_eq, beq_eq_false_iff_ne, ne_eq, Int.not_lt, Int.not_le] at hq; omega) | simp only [Act.put, List.setIfInBounds_toArray, List.set_cons_succ, List.set_cons_zero]))); all_goals (refine Mix.lex_nil ?_)))
      go_roundw
      case rel => exact ⟨j + 1, by omega, by go_num, _, _, _, _, _, _, _, _, _, SA.out, SB.out, DJ.out, X3.out, M3.out⟩
      case measure => simp [intOf]; omega
    have gm : decide ((j : Int) < (m : Int)) = true := decide_eq_true (by omega)
    have gm' : decide (j < m) = true := decide_eq_true hjm
    obtain ⟨bb, bo, sv, rfl, hsv, hcv⟩ := bools_get (HB.out.ext X3.out) hjm
    have cb : v4.cell? ⟨bb, bo + j, none⟩ = some (.bool sv) := hcv (X.here _ _)
    clear hcv hsv
    cases sv with
    | false =>
      have SA := Lib.hid (SA.out.weak (E2 := 1 + 2 * (j + 1)) (F2 := 1 + 40 * (j + 1)) (by omega) (by omega))
      have SB := Lib.hid (SB.out.weak (E2 := 1 + 2 * (j + 1)) (F2 := 1 + 152 * (j + 1)) (by omega) (by omega))
      clear HE1
      go_upto_region 19 with (first | (refine Mix.wpList_guarded rfl ?_; (repeat' (first | (refine Mix.lex_quiet0 rfl rfl rfl ?_; intro K hK; go_big_quiet_op; go_big_quiet_on) | (refine Mix.lex_quietG rfl rfl rfl (by with_reducible rfl) rfl rfl ?_; intro K hK; go_big_quiet_op; go_big_quiet_on) | ((first | refine Mix.lex_skipT rfl rfl rfl (by with_reducible rfl) ?_ | refine Mix.lex_skipF rfl rfl rfl (by with_reducible rfl) ?_ | refine Mix.lex_skipU rfl rfl rfl (by with_reducible rfl) ?_); simp only [Act.put, List.setIfInBounds_toArray, List.set_cons_succ, List.set_cons_zero]) | (refine Mix.lex_part rfl rfl rfl rfl (fun hq => ?_) (fun hq => ?_) <;> (fail_if_success (guard_hyp hq :ₛ true = true)) <;> (fail_if_success (guard_hyp hq :ₛ false = false)) <;> first | (exfalso; cases hq; done) | (exfalso; simp only [decide_eq_true_eq, decide_eq_false_iff_not, beq_iff_eq, beq_eq_false_iff_ne, ne_eq, Int.not_lt, Int.not_le] at hq; omega) | simp only [Act.put, List.setIfInBounds_toArray, List.set_cons_succ, List.set_cons_zero]))); all_goals (refine Mix.lex_nil ?_)))
      have RA := Lib.hid SA.out.rows_c
      go_wp2_with (first | ((first | refine Mix.wpList_guarded rfl ?_ | refine Mix.wp_still (by kernel_rfl) (by kernel_rfl) ?_); (repeat' (first | (refine Mix.lex_quiet0 rfl rfl rfl ?_; intro K hK; go_big_quiet_op; go_big_quiet_on) | (refine Mix.lex_quietG rfl rfl rfl (by with_reducible rfl) rfl rfl ?_; intro K hK; go_big_quiet_op; go_big_quiet_on) | ((first | refine Mix.lex_skipT rfl rfl rfl (by with_reducible rfl) ?_ | refine Mix.lex_skipF rfl rfl rfl (by with_reducible rfl) ?_ | refine Mix.lex_skipU rfl rfl rfl (by with_reducible rfl) ?_); simp only [Act.put, List.setIfInBounds_toArray, List.set_cons_succ, List.set_cons_zero]) | (refine Mix.lex_part rfl rfl rfl rfl (fun hq => ?_) (fun hq => ?_) <;> (fail_if_success (guard_hyp hq :ₛ true = true)) <;> (fail_if_success (guard_hyp hq :ₛ false = false)) <;> first | (exfalso; cases hq; done) | (exfalso; simp only [decide_eq_true_eq, decide_eq_false_iff_not, beq_iff_eq, beq_eq_false_iff_ne, ne_eq, Int.not_lt, Int.not_le] at hq; omega) | simp only [Act.put, List.setIfInBounds_toArray, List.set_cons_succ, List.set_cons_zero]))); all_goals (refine Mix.lex_nil ?_)))
      refine RA.out.mono ?_
      rintro e t1 ⟨A5, c5, rfl, hF⟩
      have G3 := Lib.hid hF
      have SA := Lib.hid (SA.out.ext hF.ext)
      have SB := Lib.hid (SB.out.ext hF.ext)
      have X3 := Lib.hid (X3.out.then_ext hF.ext)
      have M3 := Lib.hid (M3.out.ext hF.ext)
      clear hF RA
      have RB := Lib.hid SB.out.rows_c
      go_wp2_with (first | ((first | refine Mix.wpList_guarded rfl ?_ | refine Mix.wp_still (by kernel_rfl) (by kernel_rfl) ?_); (repeat' (first | (refine Mix.lex_quiet0 rfl rfl rfl ?_; intro K hK; go_big_quiet_op; go_big_quiet_on) | (refine Mix.lex_quietG rfl rfl rfl (by with_reducible rfl) rfl rfl ?_; intro K hK; go_big_quiet_op; go_big_quiet_on) | ((first | refine Mix.lex_skipT rfl rfl rfl (by with_reducible rfl) ?_ | refine Mix.lex_skipF rfl rfl rfl (by with_reducible rfl) ?_ | refine Mix.lex_skipU rfl rfl rfl (by with_reducible rfl) ?_); simp only [Act.put, List.setIfInBounds_toArray, List.set_cons_succ, List.set_cons_zero]) | (refine Mix.lex_part rfl rfl rfl rfl (fun hq => ?_) (fun hq => ?_) <;> (fail_if_success (guard_hyp hq :ₛ true = true)) <;> (fail_if_success (guard_hyp hq :ₛ false = false)) <;> first | (exfalso; cases hq; done) | (exfalso; simp only [decide_eq_true_eq, decide_eq_false_iff_not, beq_iff_eq, beq_eq_false_iff_ne, ne_eq, Int.not_lt, Int.not_le] at hq; omega) | simp only [Act.put, List.setIfInBounds_toArray, List.set_cons_succ, List.set_cons_zero]))); all_goals (refine Mix.lex_nil ?_)))
      refine RB.out.mono ?_
      rintro e t2 ⟨A6, c6, rfl, hF⟩
      have SC := Lib.hid (SameChanges_c (c := c5) (d := c6) ((G3.out.on hF.ext).row (by decide)) (hF.row (by decide)) (Nat.le_trans HLr.out (by omega)) (Nat.le_trans HLr.out (by omega)))
      rw [decide_eq_true rfl] at SC
      have SA := Lib.hid (SA.out.ext hF.ext)
      have SB := Lib.hid (SB.out.ext hF.ext)
      have X3 := Lib.hid (X3.out.then_ext hF.ext)
      have M3 := Lib.hid (M3.out.ext hF.ext)
      clear hF RB G3
      go_wp2_with (first | ((first | refine Mix.wpList_guarded rfl ?_ | refine Mix.wp_still (by kernel_rfl) (by kernel_rfl) ?_); (repeat' (first | (refine Mix.lex_quiet0 rfl rfl rfl ?_; intro K hK; go_big_quiet_op; go_big_quiet_on) | (refine Mix.lex_quietG rfl rfl rfl (by with_reducible rfl) rfl rfl ?_; intro K hK; go_big_quiet_op; go_big_quiet_on) | ((first | refine Mix.lex_skipT rfl rfl rfl (by with_reducible rfl) ?_ | refine Mix.lex_skipF rfl rfl rfl (by with_reducible rfl) ?_ | refine Mix.lex_skipU rfl rfl rfl (by with_reducible rfl) ?_); simp only [Act.put, List.setIfInBounds_toArray, List.set_cons_succ, List.set_cons_zero]) | (refine Mix.lex_part rfl rfl rfl rfl (fun hq => ?_) (fun hq => ?_) <;> (fail_if_success (guard_hyp hq :ₛ true = true)) <;> (fail_if_success (guard_hyp hq :ₛ false = false)) <;> first | (exfalso; cases hq; done) | (exfalso; simp only [decide_eq_true_eq, decide_eq_false_iff_not, beq_iff_eq, beq_eq_false_iff_ne, ne_eq, Int.not_lt, Int.not_le] at hq; omega) | simp only [Act.put, List.setIfInBounds_toArray, List.set_cons_succ, List.set_cons_zero]))); all_goals (refine Mix.lex_nil ?_)))
      refine SC.out.mono ?_
      rintro e t3 ⟨rfl, hx⟩
      have SA := Lib.hid (SA.out.ext hx)
      have SB := Lib.hid (SB.out.ext hx)
      have X3 := Lib.hid (X3.out.then_ext hx)
      have M3 := Lib.hid (M3.out.ext hx)
      clear hx SC
      go_wp2_with (first | ((first | refine Mix.wpList_guarded rfl ?_ | refine Mix.wp_still (by kernel_rfl) (by kernel_rfl) ?_); (repeat' (first | (refine Mix.lex_quiet0 rfl rfl rfl ?_; intro K hK; go_big_quiet_op; go_big_quiet_on) | (refine Mix.lex_quietG rfl rfl rfl (by with_reducible rfl) rfl rfl ?_; intro K hK; go_big_quiet_op; go_big_quiet_on) | ((first | refine Mix.lex_skipT rfl rfl rfl (by with_reducible rfl) ?_ | refine Mix.lex_skipF rfl rfl rfl (by with_reducible rfl) ?_ | refine Mix.lex_skipU rfl rfl rfl (by with_reducible rfl) ?_); simp only [Act.put, List.setIfInBounds_toArray, List.set_cons_succ, List.set_cons_zero]) | (refine Mix.lex_part rfl rfl rfl rfl (fun hq => ?_) (fun hq => ?_) <;> (fail_if_success (guard_hyp hq :ₛ true = true)) <;> (fail_if_success (guard_hyp hq :ₛ false = false)) <;> first | (exfalso; cases hq; done) | (exfalso; simp only [decide_eq_true_eq, decide_eq_false_iff_not, beq_iff_eq, beq_eq_false_iff_ne, ne_eq, Int.not_lt, Int.not_le] at hq; omega) | simp only [Act.put, List.setIfInBounds_toArray, List.set_cons_succ, List.set_cons_zero]))); all_goals (refine Mix.lex_nil ?_)))
      go_roundw
      case rel => exact ⟨j + 1, by omega, by go_num, _, _, _, _, _, _, _, _, _, SA.out, SB.out, DJ.out, X3.out, M3.out⟩
      case measure => simp [intOf]; omega
    | true =>
      have HCk := Lib.hid (SA.out.save HM.out M3.out X3.out.size ⟨HE1.out.2.2.1, HE1.out.2.2.2.1⟩)
      go_wp2_with (first | ((first | refine Mix.wpList_guarded rfl ?_ | refine Mix.wp_still (by kernel_rfl) (by kernel_rfl) ?_); (repeat' (first | (refine Mix.lex_quiet0 rfl rfl rfl ?_; intro K hK; go_big_quiet_op; go_big_quiet_on) | (refine Mix.lex_quietG rfl rfl rfl (by with_reducible rfl) rfl rfl ?_; intro K hK; go_big_quiet_op; go_big_quiet_on) | ((first | refine Mix.lex_skipT rfl rfl rfl (by with_reducible rfl) ?_ | refine Mix.lex_skipF rfl rfl rfl (by with_reducible rfl) ?_ | refine Mix.lex_skipU rfl rfl rfl (by with_reducible rfl) ?_); simp only [Act.put, List.setIfInBounds_toArray, List.set_cons_succ, List.set_cons_zero]) | (refine Mix.lex_part rfl rfl rfl rfl (fun hq => ?_) (fun hq => ?_) <;> (fail_if_success (guard_hyp hq :ₛ true = true)) <;> (fail_if_success (guard_hyp hq :ₛ false = false)) <;> first | (exfalso; cases hq; done) | (exfalso; simp only [decide_eq_true_eq, decide_eq_false_iff_not, beq_iff_eq, beq_eq_false_iff_ne, ne_eq, Int.not_lt, Int.not_le] at hq; omega) | simp only [Act.put, List.setIfInBounds_toArray, List.set_cons_succ, List.set_cons_zero]))); all_goals (refine Mix.lex_nil ?_)))
      refine HCk.out.mono ?_
      rintro e v5 ⟨rfl, Zc, rc, ec, hSc, hoc, hfc⟩
      have HS3' := SB.out.beside SA.out DJ.out hoc hfc
      have M3 : Hid (Ml v5) := ml_new HM.out M3.out hoc SA.out.lv.fp
      have X3 : Hid (Ext w v5) := X3.out.trans hoc fun b hb e => by have := SA.out.lv.fp b e; omega
      have SB := Lib.hid (HS3'.1.weak (E2 := 1 + 2 * (j + 1)) (F2 := 1 + 152 * (j + 1)) (by omega) (by omega))
      have SA := Lib.hid (hSc.weak (E2 := 1 + 2 * (j + 1)) (F2 := 1 + 40 * (j + 1)) (by omega) (by omega))
      have DJ := Lib.hid HS3'.2
      clear hSc hoc hfc HS3' HCk HE1 cb
      go_upto_region 19 with (first | (refine Mix.wpList_guarded rfl ?_; (repeat' (first | (refine Mix.lex_quiet0 rfl rfl rfl ?_; intro K hK; go_big_quiet_op; go_big_quiet_on) | (refine Mix.lex_quietG rfl rfl rfl (by with_reducible rfl) rfl rfl ?_; intro K hK; go_big_quiet_op; go_big_quiet_on) | ((first | refine Mix.lex_skipT rfl rfl rfl (by with_reducible rfl) ?_ | refine Mix.lex_skipF rfl rfl rfl (by with_reducible rfl) ?_ | refine Mix.lex_skipU rfl rfl rfl (by with_reducible rfl) ?_); simp only [Act.put, List.setIfInBounds_toArray, List.set_cons_succ, List.set_cons_zero]) | (refine Mix.lex_part rfl rfl rfl rfl (fun hq => ?_) (fun hq => ?_) <;> (fail_if_success (guard_hyp hq :ₛ true = true)) <;> (fail_if_success (guard_hyp hq :ₛ false = false)) <;> first | (exfalso; cases hq; done) | (exfalso; simp only [decide_eq_true_eq, decide_eq_false_iff_not, beq_iff_eq, beq_eq_false_iff_ne, ne_eq, Int.not_lt, Int.not_le] at hq; omega) | simp only [Act.put, List.setIfInBounds_toArray, List.set_cons_succ, List.set_cons_zero]))); all_goals (refine Mix.lex_nil ?_)))
      have RA := Lib.hid SA.out.rows_c
      go_wp2_with (first | ((first | refine Mix.wpList_guarded rfl ?_ | refine Mix.wp_still (by kernel_rfl) (by kernel_rfl) ?_); (repeat' (first | (refine Mix.lex_quiet0 rfl rfl rfl ?_; intro K hK; go_big_quiet_op; go_big_quiet_on) | (refine Mix.lex_quietG rfl rfl rfl (by with_reducible rfl) rfl rfl ?_; intro K hK; go_big_quiet_op; go_big_quiet_on) | ((first | refine Mix.lex_skipT rfl rfl rfl (by with_reducible rfl) ?_ | refine Mix.lex_skipF rfl rfl rfl (by with_reducible rfl) ?_ | refine Mix.lex_skipU rfl rfl rfl (by with_reducible rfl) ?_); simp only [Act.put, List.setIfInBounds_toArray, List.set_cons_succ, List.set_cons_zero]) | (refine Mix.lex_part rfl rfl rfl rfl (fun hq => ?_) (fun hq => ?_) <;> (fail_if_success (guard_hyp hq :ₛ true = true)) <;> (fail_if_success (guard_hyp hq :ₛ false = false)) <;> first | (exfalso; cases hq; done) | (exfalso; simp only [decide_eq_true_eq, decide_eq_false_iff_not, beq_iff_eq, beq_eq_false_iff_ne, ne_eq, Int.not_lt, Int.not_le] at hq; omega) | simp only [Act.put, List.setIfInBounds_toArray, List.set_cons_succ, List.set_cons_zero]))); all_goals (refine Mix.lex_nil ?_)))
      refine RA.out.mono ?_
      rintro e t1 ⟨A5, c5, rfl, hF⟩
      have G3 := Lib.hid hF
      have SA := Lib.hid (SA.out.ext hF.ext)
      have SB := Lib.hid (SB.out.ext hF.ext)
      have X3 := Lib.hid (X3.out.then_ext hF.ext)
      have M3 := Lib.hid (M3.out.ext hF.ext)
      clear hF RA
      have RB := Lib.hid SB.out.rows_c
      go_wp2_with (first | ((first | refine Mix.wpList_guarded rfl ?_ | refine Mix.wp_still (by kernel_rfl) (by kernel_rfl) ?_); (repeat' (first | (refine Mix.lex_quiet0 rfl rfl rfl ?_; intro K hK; go_big_quiet_op; go_big_quiet_on) | (refine Mix.lex_quietG rfl rfl rfl (by with_reducible rfl) rfl rfl ?_; intro K hK; go_big_quiet_op; go_big_quiet_on) | ((first | refine Mix.lex_skipT rfl rfl rfl (by with_reducible rfl) ?_ | refine Mix.lex_skipF rfl rfl rfl (by with_reducible rfl) ?_ | refine Mix.lex_skipU rfl rfl rfl (by with_reducible rfl) ?_); simp only [Act.put, List.setIfInBounds_toArray, List.set_cons_succ, List.set_cons_zero]) | (refine Mix.lex_part rfl rfl rfl rfl (fun hq => ?_) (fun hq => ?_) <;> (fail_if_success (guard_hyp hq :ₛ true = true)) <;> (fail_if_success (guard_hyp hq :ₛ false = false)) <;> first | (exfalso; cases hq; done) | (exfalso; simp only [decide_eq_true_eq, decide_eq_false_iff_not, beq_iff_eq, beq_eq_false_iff_ne, ne_eq, Int.not_lt, Int.not_le] at hq; omega) | simp only [Act.put, List.setIfInBounds_toArray, List.set_cons_succ, List.set_cons_zero]))); all_goals (refine Mix.lex_nil ?_)))
      refine RB.out.mono ?_
      rintro e t2 ⟨A6, c6, rfl, hF⟩
      have SC := Lib.hid (SameChanges_c (c := c5) (d := c6) ((G3.out.on hF.ext).row (by decide)) (hF.row (by decide)) (Nat.le_trans HLr.out (by omega)) (Nat.le_trans HLr.out (by omega)))
      rw [decide_eq_true rfl] at SC
      have SA := Lib.hid (SA.out.ext hF.ext)
      have SB := Lib.hid (SB.out.ext hF.ext)
      have X3 := Lib.hid (X3.out.then_ext hF.ext)
      have M3 := Lib.hid (M3.out.ext hF.ext)
      clear hF RB G3
      go_wp2_with (first | ((first | refine Mix.wpList_guarded rfl ?_ | refine Mix.wp_still (by kernel_rfl) (by kernel_rfl) ?_); (repeat' (first | (refine Mix.lex_quiet0 rfl rfl rfl ?_; intro K hK; go_big_quiet_op; go_big_quiet_on) | (refine Mix.lex_quietG rfl rfl rfl (by with_reducible rfl) rfl rfl ?_; intro K hK; go_big_quiet_op; go_big_quiet_on) | ((first | refine Mix.lex_skipT rfl rfl rfl (by with_reducible rfl) ?_ | refine Mix.lex_skipF rfl rfl rfl (by with_reducible rfl) ?_ | refine Mix.lex_skipU rfl rfl rfl (by with_reducible rfl) ?_); simp only [Act.put, List.setIfInBounds_toArray, List.set_cons_succ, List.set_cons_zero]) | (refine Mix.lex_part rfl rfl rfl rfl (fun hq => ?_) (fun hq => ?_) <;> (fail_if_success (guard_hyp hq :ₛ true = true)) <;> (fail_if_success (guard_hyp hq :ₛ false = false)) <;> first | (exfalso; cases hq; done) | (exfalso; simp only [decide_eq_true_eq, decide_eq_false_iff_not, beq_iff_eq, beq_eq_false_iff_ne, ne_eq, Int.not_lt, Int.not_le] at hq; omega) | simp only [Act.put, List.setIfInBounds_toArray, List.set_cons_succ, List.set_cons_zero]))); all_goals (refine Mix.lex_nil ?_)))
      refine SC.out.mono ?_
      rintro e t3 ⟨rfl, hx⟩
      have SA := Lib.hid (SA.out.ext hx)
      have SB := Lib.hid (SB.out.ext hx)
      have X3 := Lib.hid (X3.out.then_ext hx)
      have M3 := Lib.hid (M3.out.ext hx)
      clear hx SC
      go_wp2_with (first | ((first | refine Mix.wpList_guarded rfl ?_ | refine Mix.wp_still (by kernel_rfl) (by kernel_rfl) ?_); (repeat' (first | (refine Mix.lex_quiet0 rfl rfl rfl ?_; intro K hK; go_big_quiet_op; go_big_quiet_on) | (refine Mix.lex_quietG rfl rfl rfl (by with_reducible rfl) rfl rfl ?_; intro K hK; go_big_quiet_op; go_big_quiet_on) | ((first | refine Mix.lex_skipT rfl rfl rfl (by with_reducible rfl) ?_ | refine Mix.lex_skipF rfl rfl rfl (by with_reducible rfl) ?_ | refine Mix.lex_skipU rfl rfl rfl (by with_reducible rfl) ?_); simp only [Act.put, List.setIfInBounds_toArray, List.set_cons_succ, List.set_cons_zero]) | (refine Mix.lex_part rfl rfl rfl rfl (fun hq => ?_) (fun hq => ?_) <;> (fail_if_success (guard_hyp hq :ₛ true = true)) <;> (fail_if_success (guard_hyp hq :ₛ false = false)) <;> first | (exfalso; cases hq; done) | (exfalso; simp only [decide_eq_true_eq, decide_eq_false_iff_not, beq_iff_eq, beq_eq_false_iff_ne, ne_eq, Int.not_lt, Int.not_le] at hq; omega) | simp only [Act.put, List.setIfInBounds_toArray, List.set_cons_succ, List.set_cons_zero]))); all_goals (refine Mix.lex_nil ?_)))
      go_roundw
      case rel => exact ⟨j + 1, by omega, by go_num, _, _, _, _, _, _, _, _, _, SA.out, SB.out, DJ.out, X3.out, M3.out⟩
      case measure => simp [intOf]; omega
end Go.Proofs.Ytaphmmobmadfoaa
