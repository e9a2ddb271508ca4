/- Put together: StF, StN0. -/
import Derived.Test.YtaphmmobmadfoaaMc36
/- The closed facts of stores. -/
namespace Go.Proofs.Ytaphmmobmadfoaa
open Go Go.RowKit
theorem own_lt {w : World} {B n size : Nat} {e : TypeId} {v : Value} {xs : List Value} (h : w.ownsRow B e size v n xs) {b : Nat} (hb : v.ownBlock = some b) : b < w.heap.size := by
  rcases h.2 with ⟨rfl, _⟩ | ⟨g', cap, cur, rfl, _, hh, _⟩
  · simp [Value.ownBlock] at hb
  · simp [Value.ownBlock] at hb
    subst hb
    exact Cs.lt (show Cs w _ _ _ from hh)
theorem fp_lt {w : World} {Z : StS} {r : DkR} {d : Dk} (hs : StoreAt w Z r.g) (hd : DiskAt w r d) : ∀ b, Z.fp r b → b < w.heap.size := fun b hb => by
  rcases hb with (e | e | e | e) | e | e
  · rw [e]; exact hd.cs.lt
  · exact own_lt hd.kept (by rw [e]; rfl)
  · exact own_lt hd.now (by rw [e]; rfl)
  · exact own_lt hd.wait e
  · rw [e]; exact hs.cs.lt
  · rw [e]; exact Cs.lt hs.lg
theorem z_eq0 {l : LogR} {N : Nat} (h : l.z = lg0 N) : l.from_ = 44 ∧ l.many = N - 44 ∧ l.first = 1 ∧ l.next = 0 := by
  obtain ⟨a, b, c, d, e⟩ := l
  simp only [LogR.mk.injEq, true_and] at h
  exact h
abbrev topC : Ch := ([102, 47, 97], [120], false)
theorem topC_rc : rcF [] 0 16 [topC] = (([topC], 2), 0) := by decide +kernel
set_option maxRecDepth 100000 in
set_option maxHeartbeats 2000000 in
theorem stores_c {w : World} (hm : Ml w) : Calls Try.prog 6 #[] w fun e w' => e = .returned (.bool true) ∧ Ext w w' := by
  have HM := Lib.hid hm
  have HS := Lib.hid (Stored_c hm 60 (by omega) (by omega))
  clear hm
  go_enter Try.func6, Try.ntmps6
  go_wp2_with (first | ((first | refine Mix.wpList_guarded rfl ?_ | refine Mix.wp_still (by kernel_rfl) (by kernel_rfl) ?_); (repeat' (first | (refine Mix.lex_quiet0 rfl rfl rfl ?_; intro K hK; go_big_quiet_op; go_big_quiet_on) | (refine Mix.lex_quietG rfl rfl rfl (by with_reducible rfl) rfl rfl ?_; intro K hK; go_big_quiet_op; go_big_quiet_on) | ((first | refine Mix.lex_skipT rfl rfl rfl (by with_reducible rfl) ?_ | refine Mix.lex_skipF rfl rfl rfl (by with_reducible rfl) ?_ | refine Mix.lex_skipU rfl rfl rfl (by with_reducible rfl) ?_); simp only [Act.put, List.setIfInBounds_toArray, List.set_cons_succ, List.set_cons_zero]) | (refine Mix.lex_part rfl rfl rfl rfl (fun hq => ?_) (fun hq => ?_) <;> (fail_if_success (guard_hyp hq :ₛ true = true)) <;> (fail_if_success (guard_hyp hq :ₛ false = false)) <;> first | (exfalso; cases hq; done) | (exfalso; simp only [decide_eq_true_eq, decide_eq_false_iff_not, beq_iff_eq, beq_eq_false_iff_ne, ne_eq, Int.not_lt, Int.not_le] at hq; omega) | simp only [Act.put, List.setIfInBounds_toArray, List.set_cons_succ, List.set_cons_zero]))); all_goals (refine Mix.lex_nil ?_)))
  refine HS.out.mono ?_
  rintro e u1 ⟨Z, r, rfl, hL, h1, h2, h3, hu⟩
  have L1 := Lib.hid hL
  have U1 := Lib.hid hu
  have E1 := Lib.hid h1
  have E2 := Lib.hid h2
  have E3 := Lib.hid h3
  clear hL hu HS h1 h2 h3
  go_wp2_with (first | ((first | refine Mix.wpList_guarded rfl ?_ | refine Mix.wp_still (by kernel_rfl) (by kernel_rfl) ?_); (repeat' (first | (refine Mix.lex_quiet0 rfl rfl rfl ?_; intro K hK; go_big_quiet_op; go_big_quiet_on) | (refine Mix.lex_quietG rfl rfl rfl (by with_reducible rfl) rfl rfl ?_; intro K hK; go_big_quiet_op; go_big_quiet_on) | ((first | refine Mix.lex_skipT rfl rfl rfl (by with_reducible rfl) ?_ | refine Mix.lex_skipF rfl rfl rfl (by with_reducible rfl) ?_ | refine Mix.lex_skipU rfl rfl rfl (by with_reducible rfl) ?_); simp only [Act.put, List.setIfInBounds_toArray, List.set_cons_succ, List.set_cons_zero]) | (refine Mix.lex_part rfl rfl rfl rfl (fun hq => ?_) (fun hq => ?_) <;> (fail_if_success (guard_hyp hq :ₛ true = true)) <;> (fail_if_success (guard_hyp hq :ₛ false = false)) <;> first | (exfalso; cases hq; done) | (exfalso; simp only [decide_eq_true_eq, decide_eq_false_iff_not, beq_iff_eq, beq_eq_false_iff_ne, ne_eq, Int.not_lt, Int.not_le] at hq; omega) | simp only [Act.put, List.setIfInBounds_toArray, List.set_cons_succ, List.set_cons_zero]))); all_goals (refine Mix.lex_nil ?_)))
  obtain ⟨g3, hg3⟩ : ∃ x, x = u1.heap.size := ⟨_, rfl⟩
  obtain ⟨w3, hw3⟩ : ∃ v, v = u1.alloc (.cells #[S [102, 47, 97], S [120], .bool false] chT) := ⟨_, rfl⟩
  have x3 : Ext u1 w3 := by rw [hw3]; exact (Only.refl No u1).alloc _
  have hC3 : Cs w3 g3 chT #[S [102, 47, 97], S [120], .bool false] := by rw [hw3, hg3]; exact Cs.new _ _ _
  have L3 := Lib.hid (L1.out.ext x3)
  have M3 : Hid (Ml w3) := HM.out.ext (U1.out.then_ext x3)
  have X3 : Hid (Ext w w3) := U1.out.then_ext x3
  have HA := Lib.hid (Commit_live (cap := 1) (n := 1) (A := some ⟨g3, 0, none⟩) (c := [topC]) HM.out M3.out X3.out.size L3.out (.inl rfl) (by rw [E1.out, (z_eq0 E2.out).2.2.1, (z_eq0 E2.out).2.1]; decide) (fun v hv => sl_cs (T := chF) (x := topC) (hC3.keep hv fun hb => by
    have := fp_lt L1.out.st L1.out.dk _ hb
    omega) rfl) (by omega) (fun x hx => by rw [List.mem_singleton] at hx; subst hx; decide))
  rw [← hw3, ← hg3]
  clear hw3 hg3 hC3 x3 L1 U1
  refine HA.out.mono ?_
  rintro e u4 ⟨f, d', Z', r', he, hon, hlen, hc⟩
  have hrc := topC_rc
  rcases hc with ⟨hf, -, -, -, -, -, -, -, h⟩ | ⟨rfl, hL, hfu, hr, h, hmn, -, -, -⟩ | ⟨-, hf, -⟩
  · rw [E3.out, (z_eq0 E2.out).2.2.2, (z_eq0 E2.out).2.1] at h
    rw [show 60 - 44 = 16 from rfl, hrc] at h
    injection h with _ h
    exact absurd h.symm hf
  · rw [E3.out, (z_eq0 E2.out).2.2.2, (z_eq0 E2.out).2.1] at h
    rw [show 60 - 44 = 16 from rfl, hrc] at h
    injection h with h _
    injection h with h h5
    have he : e = .returned .nilIface := he
    subst he
    have L4 := Lib.hid hL
    have SG4 := Lib.hid hon.sg
    have R4 : Hid (Z'.rows = [topC]) := h.symm
    have N4 : Hid (Z'.l.next = 2) := h5.symm
    have Y4 : Hid (Z'.l.many = 16) := by rw [Hid, hmn, (z_eq0 E2.out).2.1]
    have M4 : Hid (Ml u4) := L3.out.ml HM.out M3.out hon.o
    have X4 : Hid (Ext w u4) := X3.out.trans hon.o fun b hb hF => by have := L3.out.fp b hF; omega
    have HO := Lib.hid (Open_live M4.out hL.dk hL.on hL.ok.dn)
    rw [hon.g] at HO
    clear hL hfu hr h hmn h5 hrc hon hlen HA L3 M3 X3 E1 E2 E3
    go_wp2_with (first | ((first | refine Mix.wpList_guarded rfl ?_ | refine Mix.wp_still (by kernel_rfl) (by kernel_rfl) ?_); (repeat' (first | (refine Mix.lex_quiet0 rfl rfl rfl ?_; intro K hK; go_big_quiet_op; go_big_quiet_on) | (refine Mix.lex_quietG rfl rfl rfl (by with_reducible rfl) rfl rfl ?_; intro K hK; go_big_quiet_op; go_big_quiet_on) | ((first | refine Mix.lex_skipT rfl rfl rfl (by with_reducible rfl) ?_ | refine Mix.lex_skipF rfl rfl rfl (by with_reducible rfl) ?_ | refine Mix.lex_skipU rfl rfl rfl (by with_reducible rfl) ?_); simp only [Act.put, List.setIfInBounds_toArray, List.set_cons_succ, List.set_cons_zero]) | (refine Mix.lex_part rfl rfl rfl rfl (fun hq => ?_) (fun hq => ?_) <;> (fail_if_success (guard_hyp hq :ₛ true = true)) <;> (fail_if_success (guard_hyp hq :ₛ false = false)) <;> first | (exfalso; cases hq; done) | (exfalso; simp only [decide_eq_true_eq, decide_eq_false_iff_not, beq_iff_eq, beq_eq_false_iff_ne, ne_eq, Int.not_lt, Int.not_le] at hq; omega) | simp only [Act.put, List.setIfInBounds_toArray, List.set_cons_succ, List.set_cons_zero]))); all_goals (refine Mix.lex_nil ?_)))
    refine HO.out.mono ?_
    rintro e u5 ⟨Z5, rfl, hst, -, -, e3, hx, -, -⟩
    have X5 := Lib.hid (X4.out.then_ext hx)
    have L5 := Lib.hid (L4.out.ext hx)
    rw [R4.out] at e3
    have l5 : Z5.rows.length = 1 := by rw [e3]; rfl
    have HR := Lib.hid (SRows_c hst (by omega))
    rw [l5] at HR
    clear hst e3 hx HO L4 X4 l5
    go_wp2_with (first | ((first | refine Mix.wpList_guarded rfl ?_ | refine Mix.wp_still (by kernel_rfl) (by kernel_rfl) ?_); (repeat' (first | (refine Mix.lex_quiet0 rfl rfl rfl ?_; intro K hK; go_big_quiet_op; go_big_quiet_on) | (refine Mix.lex_quietG rfl rfl rfl (by with_reducible rfl) rfl rfl ?_; intro K hK; go_big_quiet_op; go_big_quiet_on) | ((first | refine Mix.lex_skipT rfl rfl rfl (by with_reducible rfl) ?_ | refine Mix.lex_skipF rfl rfl rfl (by with_reducible rfl) ?_ | refine Mix.lex_skipU rfl rfl rfl (by with_reducible rfl) ?_); simp only [Act.put, List.setIfInBounds_toArray, List.set_cons_succ, List.set_cons_zero]) | (refine Mix.lex_part rfl rfl rfl rfl (fun hq => ?_) (fun hq => ?_) <;> (fail_if_success (guard_hyp hq :ₛ true = true)) <;> (fail_if_success (guard_hyp hq :ₛ false = false)) <;> first | (exfalso; cases hq; done) | (exfalso; simp only [decide_eq_true_eq, decide_eq_false_iff_not, beq_iff_eq, beq_eq_false_iff_ne, ne_eq, Int.not_lt, Int.not_le] at hq; omega) | simp only [Act.put, List.setIfInBounds_toArray, List.set_cons_succ, List.set_cons_zero]))); all_goals (refine Mix.lex_nil ?_)))
    refine HR.out.mono ?_
    rintro e u6 ⟨A, c, rfl, hF⟩
    have X6 := Lib.hid (X5.out.then_ext hF.ext)
    have HRm := Lib.hid (SRoom_c (L5.out.ext hF.ext).st (by rw [Y4.out]; omega) (by rw [Y4.out, N4.out]; omega))
    rw [Y4.out, N4.out, SG4.out] at HRm
    rw [show (((16 - 2 : Nat)) : Int) = (14 : Int) from rfl] at HRm
    clear hF HR X5 L5
    go_wp2_with (first | ((first | refine Mix.wpList_guarded rfl ?_ | refine Mix.wp_still (by kernel_rfl) (by kernel_rfl) ?_); (repeat' (first | (refine Mix.lex_quiet0 rfl rfl rfl ?_; intro K hK; go_big_quiet_op; go_big_quiet_on) | (refine Mix.lex_quietG rfl rfl rfl (by with_reducible rfl) rfl rfl ?_; intro K hK; go_big_quiet_op; go_big_quiet_on) | ((first | refine Mix.lex_skipT rfl rfl rfl (by with_reducible rfl) ?_ | refine Mix.lex_skipF rfl rfl rfl (by with_reducible rfl) ?_ | refine Mix.lex_skipU rfl rfl rfl (by with_reducible rfl) ?_); simp only [Act.put, List.setIfInBounds_toArray, List.set_cons_succ, List.set_cons_zero]) | (refine Mix.lex_part rfl rfl rfl rfl (fun hq => ?_) (fun hq => ?_) <;> (fail_if_success (guard_hyp hq :ₛ true = true)) <;> (fail_if_success (guard_hyp hq :ₛ false = false)) <;> first | (exfalso; cases hq; done) | (exfalso; simp only [decide_eq_true_eq, decide_eq_false_iff_not, beq_iff_eq, beq_eq_false_iff_ne, ne_eq, Int.not_lt, Int.not_le] at hq; omega) | simp only [Act.put, List.setIfInBounds_toArray, List.set_cons_succ, List.set_cons_zero]))); all_goals (refine Mix.lex_nil ?_)))
    refine HRm.out.mono ?_
    rintro e u7 ⟨rfl, hx⟩
    go_wp2_with (first | ((first | refine Mix.wpList_guarded rfl ?_ | refine Mix.wp_still (by kernel_rfl) (by kernel_rfl) ?_); (repeat' (first | (refine Mix.lex_quiet0 rfl rfl rfl ?_; intro K hK; go_big_quiet_op; go_big_quiet_on) | (refine Mix.lex_quietG rfl rfl rfl (by with_reducible rfl) rfl rfl ?_; intro K hK; go_big_quiet_op; go_big_quiet_on) | ((first | refine Mix.lex_skipT rfl rfl rfl (by with_reducible rfl) ?_ | refine Mix.lex_skipF rfl rfl rfl (by with_reducible rfl) ?_ | refine Mix.lex_skipU rfl rfl rfl (by with_reducible rfl) ?_); simp only [Act.put, List.setIfInBounds_toArray, List.set_cons_succ, List.set_cons_zero]) | (refine Mix.lex_part rfl rfl rfl rfl (fun hq => ?_) (fun hq => ?_) <;> (fail_if_success (guard_hyp hq :ₛ true = true)) <;> (fail_if_success (guard_hyp hq :ₛ false = false)) <;> first | (exfalso; cases hq; done) | (exfalso; simp only [decide_eq_true_eq, decide_eq_false_iff_not, beq_iff_eq, beq_eq_false_iff_ne, ne_eq, Int.not_lt, Int.not_le] at hq; omega) | simp only [Act.put, List.setIfInBounds_toArray, List.set_cons_succ, List.set_cons_zero]))); all_goals (refine Mix.lex_nil ?_)))
    go_ret
    exact ⟨rfl, X6.out.then_ext hx⟩
  · exact absurd rfl hf
set_option maxRecDepth 100000 in
set_option maxHeartbeats 2000000 in
theorem kept_c {w : World} (hm : Ml w) : Calls Try.prog 18 #[] w fun e w' => e = .returned (.bool true) ∧ Ext w w' := by
  have HM := Lib.hid hm
  have HS := Lib.hid (Stored_c hm 60 (by omega) (by omega))
  clear hm
  go_enter Try.func18, Try.ntmps18
  go_wp2_with (first | ((first | refine Mix.wpList_guarded rfl ?_ | refine Mix.wp_still (by kernel_rfl) (by kernel_rfl) ?_); (repeat' (first | (refine Mix.lex_quiet0 rfl rfl rfl ?_; intro K hK; go_big_quiet_op; go_big_quiet_on) | (refine Mix.lex_quietG rfl rfl rfl (by with_reducible rfl) rfl rfl ?_; intro K hK; go_big_quiet_op; go_big_quiet_on) | ((first | refine Mix.lex_skipT rfl rfl rfl (by with_reducible rfl) ?_ | refine Mix.lex_skipF rfl rfl rfl (by with_reducible rfl) ?_ | refine Mix.lex_skipU rfl rfl rfl (by with_reducible rfl) ?_); simp only [Act.put, List.setIfInBounds_toArray, List.set_cons_succ, List.set_cons_zero]) | (refine Mix.lex_part rfl rfl rfl rfl (fun hq => ?_) (fun hq => ?_) <;> (fail_if_success (guard_hyp hq :ₛ true = true)) <;> (fail_if_success (guard_hyp hq :ₛ false = false)) <;> first | (exfalso; cases hq; done) | (exfalso; simp only [decide_eq_true_eq, decide_eq_false_iff_not, beq_iff_eq, beq_eq_false_iff_ne, ne_eq, Int.not_lt, Int.not_le] at hq; omega) | simp only [Act.put, List.setIfInBounds_toArray, List.set_cons_succ, List.set_cons_zero]))); all_goals (refine Mix.lex_nil ?_)))
  refine HS.out.mono ?_
  rintro e u1 ⟨Z, r, rfl, hL, h1, h2, h3, hu⟩
  have L1 := Lib.hid hL
  have U1 := Lib.hid hu
  have E1 := Lib.hid h1
  have E2 := Lib.hid h2
  have E3 := Lib.hid h3
  clear hL hu HS h1 h2 h3
  go_wp2_with (first | ((first | refine Mix.wpList_guarded rfl ?_ | refine Mix.wp_still (by kernel_rfl) (by kernel_rfl) ?_); (repeat' (first | (refine Mix.lex_quiet0 rfl rfl rfl ?_; intro K hK; go_big_quiet_op; go_big_quiet_on) | (refine Mix.lex_quietG rfl rfl rfl (by with_reducible rfl) rfl rfl ?_; intro K hK; go_big_quiet_op; go_big_quiet_on) | ((first | refine Mix.lex_skipT rfl rfl rfl (by with_reducible rfl) ?_ | refine Mix.lex_skipF rfl rfl rfl (by with_reducible rfl) ?_ | refine Mix.lex_skipU rfl rfl rfl (by with_reducible rfl) ?_); simp only [Act.put, List.setIfInBounds_toArray, List.set_cons_succ, List.set_cons_zero]) | (refine Mix.lex_part rfl rfl rfl rfl (fun hq => ?_) (fun hq => ?_) <;> (fail_if_success (guard_hyp hq :ₛ true = true)) <;> (fail_if_success (guard_hyp hq :ₛ false = false)) <;> first | (exfalso; cases hq; done) | (exfalso; simp only [decide_eq_true_eq, decide_eq_false_iff_not, beq_iff_eq, beq_eq_false_iff_ne, ne_eq, Int.not_lt, Int.not_le] at hq; omega) | simp only [Act.put, List.setIfInBounds_toArray, List.set_cons_succ, List.set_cons_zero]))); all_goals (refine Mix.lex_nil ?_)))
  obtain ⟨g3, hg3⟩ : ∃ x, x = u1.heap.size := ⟨_, rfl⟩
  obtain ⟨w3, hw3⟩ : ∃ v, v = u1.alloc (.cells #[S [102, 47, 97], S [120], .bool false] chT) := ⟨_, rfl⟩
  have x3 : Ext u1 w3 := by rw [hw3]; exact (Only.refl No u1).alloc _
  have hC3 : Cs w3 g3 chT #[S [102, 47, 97], S [120], .bool false] := by rw [hw3, hg3]; exact Cs.new _ _ _
  have L3 := Lib.hid (L1.out.ext x3)
  have M3 : Hid (Ml w3) := HM.out.ext (U1.out.then_ext x3)
  have X3 : Hid (Ext w w3) := U1.out.then_ext x3
  have HA := Lib.hid (Commit_live (cap := 1) (n := 1) (A := some ⟨g3, 0, none⟩) (c := [topC]) HM.out M3.out X3.out.size L3.out (.inl rfl) (by rw [E1.out, (z_eq0 E2.out).2.2.1, (z_eq0 E2.out).2.1]; decide) (fun v hv => sl_cs (T := chF) (x := topC) (hC3.keep hv fun hb => by
    have := fp_lt L1.out.st L1.out.dk _ hb
    omega) rfl) (by omega) (fun x hx => by rw [List.mem_singleton] at hx; subst hx; decide))
  rw [← hw3, ← hg3]
  clear hw3 hg3 hC3 x3 L1 U1
  refine HA.out.mono ?_
  rintro e u4 ⟨f, d', Z', r', he, hon, hlen, hc⟩
  have hrc := topC_rc
  rcases hc with ⟨hf, -, -, -, -, -, -, -, h⟩ | ⟨rfl, hL, hfu, hr, h, hmn, -, -, -⟩ | ⟨-, hf, -⟩
  · rw [E3.out, (z_eq0 E2.out).2.2.2, (z_eq0 E2.out).2.1] at h
    rw [show 60 - 44 = 16 from rfl, hrc] at h
    injection h with _ h
    exact absurd h.symm hf
  · rw [E3.out, (z_eq0 E2.out).2.2.2, (z_eq0 E2.out).2.1] at h
    rw [show 60 - 44 = 16 from rfl, hrc] at h
    injection h with h _
    injection h with h h5
    have he : e = .returned .nilIface := he
    subst he
    have L4 := Lib.hid hL
    have SG4 := Lib.hid hon.sg
    have R4 : Hid (Z'.rows = [topC]) := h.symm
    have N4 : Hid (Z'.l.next = 2) := h5.symm
    have Y4 : Hid (Z'.l.many = 16) := by rw [Hid, hmn, (z_eq0 E2.out).2.1]
    have M4 : Hid (Ml u4) := L3.out.ml HM.out M3.out hon.o
    have X4 : Hid (Ext w u4) := X3.out.trans hon.o fun b hb hF => by have := L3.out.fp b hF; omega
    have HO := Lib.hid (Open_live M4.out hL.dk hL.on hL.ok.dn)
    rw [hon.g] at HO
    clear hL hfu hr h hmn h5 hrc hon hlen HA L3 M3 X3 E1 E2 E3
    go_wp2_with (first | ((first | refine Mix.wpList_guarded rfl ?_ | refine Mix.wp_still (by kernel_rfl) (by kernel_rfl) ?_); (repeat' (first | (refine Mix.lex_quiet0 rfl rfl rfl ?_; intro K hK; go_big_quiet_op; go_big_quiet_on) | (refine Mix.lex_quietG rfl rfl rfl (by with_reducible rfl) rfl rfl ?_; intro K hK; go_big_quiet_op; go_big_quiet_on) | ((first | refine Mix.lex_skipT rfl rfl rfl (by with_reducible rfl) ?_ | refine Mix.lex_skipF rfl rfl rfl (by with_reducible rfl) ?_ | refine Mix.lex_skipU rfl rfl rfl (by with_reducible rfl) ?_); simp only [Act.put, List.setIfInBounds_toArray, List.set_cons_succ, List.set_cons_zero]) | (refine Mix.lex_part rfl rfl rfl rfl (fun hq => ?_) (fun hq => ?_) <;> (fail_if_success (guard_hyp hq :ₛ true = true)) <;> (fail_if_success (guard_hyp hq :ₛ false = false)) <;> first | (exfalso; cases hq; done) | (exfalso; simp only [decide_eq_true_eq, decide_eq_false_iff_not, beq_iff_eq, beq_eq_false_iff_ne, ne_eq, Int.not_lt, Int.not_le] at hq; omega) | simp only [Act.put, List.setIfInBounds_toArray, List.set_cons_succ, List.set_cons_zero]))); all_goals (refine Mix.lex_nil ?_)))
    refine HO.out.mono ?_
    rintro e u5 ⟨Z5, rfl, hst, -, -, e3, hx, -, -⟩
    have X5 := Lib.hid (X4.out.then_ext hx)
    have L5 := Lib.hid (L4.out.ext hx)
    rw [R4.out] at e3
    have l5 : Z5.rows.length = 1 := by rw [e3]; rfl
    have HR := Lib.hid (SRows_c hst (by omega))
    rw [l5] at HR
    clear hst e3 hx HO L4 X4 l5
    go_wp2_with (first | ((first | refine Mix.wpList_guarded rfl ?_ | refine Mix.wp_still (by kernel_rfl) (by kernel_rfl) ?_); (repeat' (first | (refine Mix.lex_quiet0 rfl rfl rfl ?_; intro K hK; go_big_quiet_op; go_big_quiet_on) | (refine Mix.lex_quietG rfl rfl rfl (by with_reducible rfl) rfl rfl ?_; intro K hK; go_big_quiet_op; go_big_quiet_on) | ((first | refine Mix.lex_skipT rfl rfl rfl (by with_reducible rfl) ?_ | refine Mix.lex_skipF rfl rfl rfl (by with_reducible rfl) ?_ | refine Mix.lex_skipU rfl rfl rfl (by with_reducible rfl) ?_); simp only [Act.put, List.setIfInBounds_toArray, List.set_cons_succ, List.set_cons_zero]) | (refine Mix.lex_part rfl rfl rfl rfl (fun hq => ?_) (fun hq => ?_) <;> (fail_if_success (guard_hyp hq :ₛ true = true)) <;> (fail_if_success (guard_hyp hq :ₛ false = false)) <;> first | (exfalso; cases hq; done) | (exfalso; simp only [decide_eq_true_eq, decide_eq_false_iff_not, beq_iff_eq, beq_eq_false_iff_ne, ne_eq, Int.not_lt, Int.not_le] at hq; omega) | simp only [Act.put, List.setIfInBounds_toArray, List.set_cons_succ, List.set_cons_zero]))); all_goals (refine Mix.lex_nil ?_)))
    refine HR.out.mono ?_
    rintro e u6 ⟨A, c, rfl, hF⟩
    have X6 := Lib.hid (X5.out.then_ext hF.ext)
    clear hF HR X5 L5
    go_wp2_with (first | ((first | refine Mix.wpList_guarded rfl ?_ | refine Mix.wp_still (by kernel_rfl) (by kernel_rfl) ?_); (repeat' (first | (refine Mix.lex_quiet0 rfl rfl rfl ?_; intro K hK; go_big_quiet_op; go_big_quiet_on) | (refine Mix.lex_quietG rfl rfl rfl (by with_reducible rfl) rfl rfl ?_; intro K hK; go_big_quiet_op; go_big_quiet_on) | ((first | refine Mix.lex_skipT rfl rfl rfl (by with_reducible rfl) ?_ | refine Mix.lex_skipF rfl rfl rfl (by with_reducible rfl) ?_ | refine Mix.lex_skipU rfl rfl rfl (by with_reducible rfl) ?_); simp only [Act.put, List.setIfInBounds_toArray, List.set_cons_succ, List.set_cons_zero]) | (refine Mix.lex_part rfl rfl rfl rfl (fun hq => ?_) (fun hq => ?_) <;> (fail_if_success (guard_hyp hq :ₛ true = true)) <;> (fail_if_success (guard_hyp hq :ₛ false = false)) <;> first | (exfalso; cases hq; done) | (exfalso; simp only [decide_eq_true_eq, decide_eq_false_iff_not, beq_iff_eq, beq_eq_false_iff_ne, ne_eq, Int.not_lt, Int.not_le] at hq; omega) | simp only [Act.put, List.setIfInBounds_toArray, List.set_cons_succ, List.set_cons_zero]))); all_goals (refine Mix.lex_nil ?_)))
    go_ret
    exact ⟨rfl, X6.out⟩
  · exact absurd rfl hf
end Go.Proofs.Ytaphmmobmadfoaa

/- Open, where there is no store. -/
namespace Go.Proofs.Ytaphmmobmadfoaa
open Go Go.RowKit
theorem selJ_zero {now : List Str} (h : ∀ s ∈ now, s = full []) (h2 : 2 ≤ now.length) : (selH now).epoch = 0 := by
  have k : ∀ j, j < 2 → (hdOf (now.getD j [])).epoch = 0 := fun j hj => by
    rw [List.getD_eq_getElem?_getD, List.getElem?_eq_getElem (by omega)]
    show (hdOf now[j]).epoch = 0
    rw [h _ (List.getElem_mem _), hdOf_zero]
  show (pickH (pickH ⟨0, 0, 0, 0⟩ (hdOf (now.getD 0 []))) (hdOf (now.getD 1 []))).epoch = 0
  unfold pickH
  rw [if_neg (show ¬ (0 : Nat) < (hdOf (now.getD 0 [])).epoch by rw [k 0 (by omega)]; omega), if_neg (by rw [k 1 (by omega)]; omega)]
set_option maxRecDepth 100000 in
set_option maxHeartbeats 4000000 in
theorem SOpen_none {w : World} {r : DkR} {d : Dk} (h : DiskAt w r d) (hdn : d.down = false) (hw : ∀ s ∈ d.now, s.length = 340) (he : (selH d.now).epoch = 0) :
    Calls Try.prog 10 #[pt r.g] w fun e w' => e = .returned (.tuple #[.pointer none, E 4]) ∧ Ext w w' := by
  have HD := Lib.hid h
  have HW := Lib.hid hw
  have HE := Lib.hid he
  obtain ⟨N, hN⟩ : ∃ N, N = d.now.length := ⟨_, rfl⟩
  have HN := Lib.hid hN
  have HDn := Lib.hid (Down_c h)
  rw [hdn] at HDn
  have HSe : Hid (∀ v, Ext w v → Calls Try.prog 30 #[pt r.g] v fun e u => e = .returned (.int .i64 N) ∧ Ext v u) := fun v hv => by
    have := Sectors_c (HD.out.ext hv)
    rw [← HN.out] at this
    exact this
  have HRd : Hid (∀ (v : World) (k : Nat), Ext w v → k < N → Calls Try.prog 31 #[pt r.g, .int .i64 (k : Int)] v fun e u => e = .returned (.tuple #[S (d.now.getD k []), .nilIface]) ∧ Ext v u) := fun v k hv hk => by
    have := Read_c (HD.out.ext hv) (k : Int)
    rw [hdn, if_neg Bool.false_ne_true, if_neg (by omega)] at this
    exact this
  have HL : Hid (∀ k, k < N → (d.now.getD k []).length = 340) := fun k hk => by
    rw [List.getD_eq_getElem?_getD, List.getElem?_eq_getElem (by omega)]
    exact HW.out _ (List.getElem_mem _)
  clear h hw hdn hN he
  by_cases h50 : N < 50
  · have g1 : decide ((N : Int) < 50) = true := decide_eq_true (by omega)
    have g1' : decide (N < 50) = true := decide_eq_true (by omega)
    go_enter Try.func10, Try.ntmps10
    go_wp2_with (first | ((first | refine Mix.wpList_guarded rfl ?_ | refine Mix.wp_still (by kernel_rfl) (by kernel_rfl) ?_); (repeat' (first | (refine Mix.lex_quiet0 rfl rfl rfl ?_; intro K hK; go_big_quiet_op; go_big_quiet_on) | (refine Mix.lex_quietG rfl rfl rfl (by with_reducible rfl) rfl rfl ?_; intro K hK; go_big_quiet_op; go_big_quiet_on) | ((first | refine Mix.lex_skipT rfl rfl rfl (by with_reducible rfl) ?_ | refine Mix.lex_skipF rfl rfl rfl (by with_reducible rfl) ?_ | refine Mix.lex_skipU rfl rfl rfl (by with_reducible rfl) ?_); simp only [Act.put, List.setIfInBounds_toArray, List.set_cons_succ, List.set_cons_zero]) | (refine Mix.lex_part rfl rfl rfl rfl (fun hq => ?_) (fun hq => ?_) <;> (fail_if_success (guard_hyp hq :ₛ true = true)) <;> (fail_if_success (guard_hyp hq :ₛ false = false)) <;> first | (exfalso; cases hq; done) | (exfalso; simp only [decide_eq_true_eq, decide_eq_false_iff_not, beq_iff_eq, beq_eq_false_iff_ne, ne_eq, Int.not_lt, Int.not_le] at hq; omega) | simp only [Act.put, List.setIfInBounds_toArray, List.set_cons_succ, List.set_cons_zero]))); all_goals (refine Mix.lex_nil ?_)))
    refine HDn.out.mono ?_
    rintro e w1 ⟨rfl, hu⟩
    have X1 := Lib.hid hu
    have HS1 := HSe.out w1 X1.out
    clear hu
    go_wp2_with (first | ((first | refine Mix.wpList_guarded rfl ?_ | refine Mix.wp_still (by kernel_rfl) (by kernel_rfl) ?_); (repeat' (first | (refine Mix.lex_quiet0 rfl rfl rfl ?_; intro K hK; go_big_quiet_op; go_big_quiet_on) | (refine Mix.lex_quietG rfl rfl rfl (by with_reducible rfl) rfl rfl ?_; intro K hK; go_big_quiet_op; go_big_quiet_on) | ((first | refine Mix.lex_skipT rfl rfl rfl (by with_reducible rfl) ?_ | refine Mix.lex_skipF rfl rfl rfl (by with_reducible rfl) ?_ | refine Mix.lex_skipU rfl rfl rfl (by with_reducible rfl) ?_); simp only [Act.put, List.setIfInBounds_toArray, List.set_cons_succ, List.set_cons_zero]) | (refine Mix.lex_part rfl rfl rfl rfl (fun hq => ?_) (fun hq => ?_) <;> (fail_if_success (guard_hyp hq :ₛ true = true)) <;> (fail_if_success (guard_hyp hq :ₛ false = false)) <;> first | (exfalso; cases hq; done) | (exfalso; simp only [decide_eq_true_eq, decide_eq_false_iff_not, beq_iff_eq, beq_eq_false_iff_ne, ne_eq, Int.not_lt, Int.not_le] at hq; omega) | simp only [Act.put, List.setIfInBounds_toArray, List.set_cons_succ, List.set_cons_zero]))); all_goals (refine Mix.lex_nil ?_)))
    refine HS1.mono ?_
    rintro e w2 ⟨rfl, hu⟩
    have X2 := Lib.hid (X1.out.then_ext hu)
    clear hu HS1 X1
    go_wp2_with (first | ((first | refine Mix.wpList_guarded rfl ?_ | refine Mix.wp_still (by kernel_rfl) (by kernel_rfl) ?_); (repeat' (first | (refine Mix.lex_quiet0 rfl rfl rfl ?_; intro K hK; go_big_quiet_op; go_big_quiet_on) | (refine Mix.lex_quietG rfl rfl rfl (by with_reducible rfl) rfl rfl ?_; intro K hK; go_big_quiet_op; go_big_quiet_on) | ((first | refine Mix.lex_skipT rfl rfl rfl (by with_reducible rfl) ?_ | refine Mix.lex_skipF rfl rfl rfl (by with_reducible rfl) ?_ | refine Mix.lex_skipU rfl rfl rfl (by with_reducible rfl) ?_); simp only [Act.put, List.setIfInBounds_toArray, List.set_cons_succ, List.set_cons_zero]) | (refine Mix.lex_part rfl rfl rfl rfl (fun hq => ?_) (fun hq => ?_) <;> (fail_if_success (guard_hyp hq :ₛ true = true)) <;> (fail_if_success (guard_hyp hq :ₛ false = false)) <;> first | (exfalso; cases hq; done) | (exfalso; simp only [decide_eq_true_eq, decide_eq_false_iff_not, beq_iff_eq, beq_eq_false_iff_ne, ne_eq, Int.not_lt, Int.not_le] at hq; omega) | simp only [Act.put, List.setIfInBounds_toArray, List.set_cons_succ, List.set_cons_zero]))); all_goals (refine Mix.lex_nil ?_)))
    go_ret2
    exact ⟨rfl, X2.out⟩
  have g1 : decide ((N : Int) < 50) = false := decide_eq_false (by omega)
  have g1' : decide (N < 50) = false := decide_eq_false (by omega)
  go_enter Try.func10, Try.ntmps10
  go_wp2_with (first | ((first | refine Mix.wpList_guarded rfl ?_ | refine Mix.wp_still (by kernel_rfl) (by kernel_rfl) ?_); (repeat' (first | (refine Mix.lex_quiet0 rfl rfl rfl ?_; intro K hK; go_big_quiet_op; go_big_quiet_on) | (refine Mix.lex_quietG rfl rfl rfl (by with_reducible rfl) rfl rfl ?_; intro K hK; go_big_quiet_op; go_big_quiet_on) | ((first | refine Mix.lex_skipT rfl rfl rfl (by with_reducible rfl) ?_ | refine Mix.lex_skipF rfl rfl rfl (by with_reducible rfl) ?_ | refine Mix.lex_skipU rfl rfl rfl (by with_reducible rfl) ?_); simp only [Act.put, List.setIfInBounds_toArray, List.set_cons_succ, List.set_cons_zero]) | (refine Mix.lex_part rfl rfl rfl rfl (fun hq => ?_) (fun hq => ?_) <;> (fail_if_success (guard_hyp hq :ₛ true = true)) <;> (fail_if_success (guard_hyp hq :ₛ false = false)) <;> first | (exfalso; cases hq; done) | (exfalso; simp only [decide_eq_true_eq, decide_eq_false_iff_not, beq_iff_eq, beq_eq_false_iff_ne, ne_eq, Int.not_lt, Int.not_le] at hq; omega) | simp only [Act.put, List.setIfInBounds_toArray, List.set_cons_succ, List.set_cons_zero]))); all_goals (refine Mix.lex_nil ?_)))
  refine HDn.out.mono ?_
  rintro e w1 ⟨rfl, hu⟩
  have X1 := Lib.hid hu
  have HS1 := HSe.out w1 X1.out
  clear hu
  go_wp2_with (first | ((first | refine Mix.wpList_guarded rfl ?_ | refine Mix.wp_still (by kernel_rfl) (by kernel_rfl) ?_); (repeat' (first | (refine Mix.lex_quiet0 rfl rfl rfl ?_; intro K hK; go_big_quiet_op; go_big_quiet_on) | (refine Mix.lex_quietG rfl rfl rfl (by with_reducible rfl) rfl rfl ?_; intro K hK; go_big_quiet_op; go_big_quiet_on) | ((first | refine Mix.lex_skipT rfl rfl rfl (by with_reducible rfl) ?_ | refine Mix.lex_skipF rfl rfl rfl (by with_reducible rfl) ?_ | refine Mix.lex_skipU rfl rfl rfl (by with_reducible rfl) ?_); simp only [Act.put, List.setIfInBounds_toArray, List.set_cons_succ, List.set_cons_zero]) | (refine Mix.lex_part rfl rfl rfl rfl (fun hq => ?_) (fun hq => ?_) <;> (fail_if_success (guard_hyp hq :ₛ true = true)) <;> (fail_if_success (guard_hyp hq :ₛ false = false)) <;> first | (exfalso; cases hq; done) | (exfalso; simp only [decide_eq_true_eq, decide_eq_false_iff_not, beq_iff_eq, beq_eq_false_iff_ne, ne_eq, Int.not_lt, Int.not_le] at hq; omega) | simp only [Act.put, List.setIfInBounds_toArray, List.set_cons_succ, List.set_cons_zero]))); all_goals (refine Mix.lex_nil ?_)))
  refine HS1.mono ?_
  rintro e w2 ⟨rfl, hu⟩
  have X2 := Lib.hid (X1.out.then_ext hu)
  clear hu HS1 X1
  go_wp2_with (first | ((first | refine Mix.wpList_guarded rfl ?_ | refine Mix.wp_still (by kernel_rfl) (by kernel_rfl) ?_); (repeat' (first | (refine Mix.lex_quiet0 rfl rfl rfl ?_; intro K hK; go_big_quiet_op; go_big_quiet_on) | (refine Mix.lex_quietG rfl rfl rfl (by with_reducible rfl) rfl rfl ?_; intro K hK; go_big_quiet_op; go_big_quiet_on) | ((first | refine Mix.lex_skipT rfl rfl rfl (by with_reducible rfl) ?_ | refine Mix.lex_skipF rfl rfl rfl (by with_reducible rfl) ?_ | refine Mix.lex_skipU rfl rfl rfl (by with_reducible rfl) ?_); simp only [Act.put, List.setIfInBounds_toArray, List.set_cons_succ, List.set_cons_zero]) | (refine Mix.lex_part rfl rfl rfl rfl (fun hq => ?_) (fun hq => ?_) <;> (fail_if_success (guard_hyp hq :ₛ true = true)) <;> (fail_if_success (guard_hyp hq :ₛ false = false)) <;> first | (exfalso; cases hq; done) | (exfalso; simp only [decide_eq_true_eq, decide_eq_false_iff_not, beq_iff_eq, beq_eq_false_iff_ne, ne_eq, Int.not_lt, Int.not_le] at hq; omega) | simp only [Act.put, List.setIfInBounds_toArray, List.set_cons_succ, List.set_cons_zero]))); all_goals (refine Mix.lex_nil ?_)))
  obtain ⟨gs, hgs⟩ : ∃ x, x = w2.heap.size := ⟨_, rfl⟩
  obtain ⟨w3, hw3⟩ : ∃ v, v = w2.alloc (.cells #[pt r.g, .int .i64 0, .int .i64 0, .int .i64 0, .int .i64 0, .pointer none, .slice none 0 0] stTy) := ⟨_, rfl⟩
  have HC3 : Hid (Cs w3 gs stTy (stCells r.g ⟨0, 0, 0, 0⟩ (.pointer none) (.slice none 0 0))) := by rw [hw3, hgs]; exact Cs.new _ _ _
  have X3 : Hid (Ext w w3) := by rw [hw3]; exact X2.out.alloc _
  have Hgs : Hid (w.heap.size ≤ gs) := by rw [hgs]; exact X2.out.size
  rw [← hw3, ← hgs]
  clear hw3 hgs X2
  go_loopw [30] (fun i wr => ∃ j : Nat, j ≤ 2 ∧ i = .int .i64 j ∧ Cs wr gs stTy (stCells r.g (selJ d.now j) (.pointer none) (.slice none 0 0)) ∧ Ext w wr) (fun i _ => 2 - (intOf i).toNat)
  case atStart => exact ⟨0, Nat.zero_le _, rfl, HC3.out, X3.out⟩
  case round =>
    obtain ⟨j, hj, rfl, hcj, hxj⟩ := hrel
    have CJ := Lib.hid hcj
    have XJ := Lib.hid hxj
    clear hcj hxj X3 HC3
    by_cases hlt : j < 2
    · have glt : decide ((j : Int) < 2) = true := decide_eq_true (by omega)
      have glt' : decide (j < 2) = true := decide_eq_true hlt
      have HR := HRd.out wr j XJ.out (by omega)
      have HO := HeadOf_c (d.now.getD j []) (HL.out j (by omega))
      have HJ1 : Hid (selJ d.now (j + 1) = if (selJ d.now j).epoch < (hdOf (d.now.getD j [])).epoch then hdOf (d.now.getD j []) else selJ d.now j) := rfl
      obtain ⟨sec, hsec⟩ : ∃ x, x = d.now.getD j [] := ⟨_, rfl⟩
      rw [← hsec] at HR HO HJ1
      obtain ⟨h, hh⟩ : ∃ h, h = hdOf sec := ⟨_, rfl⟩
      rw [← hh] at HO HJ1
      clear hsec hh
      obtain ⟨h0, hh0⟩ : ∃ h, h = selJ d.now j := ⟨_, rfl⟩
      rw [← hh0] at HJ1 CJ
      clear hh0
      go_wp2_with (first | ((first | refine Mix.wpList_guarded rfl ?_ | refine Mix.wp_still (by kernel_rfl) (by kernel_rfl) ?_); (repeat' (first | (refine Mix.lex_quiet0 rfl rfl rfl ?_; intro K hK; go_big_quiet_op; go_big_quiet_on) | (refine Mix.lex_quietG rfl rfl rfl (by with_reducible rfl) rfl rfl ?_; intro K hK; go_big_quiet_op; go_big_quiet_on) | ((first | refine Mix.lex_skipT rfl rfl rfl (by with_reducible rfl) ?_ | refine Mix.lex_skipF rfl rfl rfl (by with_reducible rfl) ?_ | refine Mix.lex_skipU rfl rfl rfl (by with_reducible rfl) ?_); simp only [Act.put, List.setIfInBounds_toArray, List.set_cons_succ, List.set_cons_zero]) | (refine Mix.lex_part rfl rfl rfl rfl (fun hq => ?_) (fun hq => ?_) <;> (fail_if_success (guard_hyp hq :ₛ true = true)) <;> (fail_if_success (guard_hyp hq :ₛ false = false)) <;> first | (exfalso; cases hq; done) | (exfalso; simp only [decide_eq_true_eq, decide_eq_false_iff_not, beq_iff_eq, beq_eq_false_iff_ne, ne_eq, Int.not_lt, Int.not_le] at hq; omega) | simp only [Act.put, List.setIfInBounds_toArray, List.set_cons_succ, List.set_cons_zero]))); all_goals (refine Mix.lex_nil ?_)))
      refine HR.mono ?_
      rintro e u1 ⟨rfl, hu⟩
      have X1 := Lib.hid (XJ.out.then_ext hu)
      have C1 := Lib.hid (CJ.out.keep hu id)
      clear hu HR XJ CJ
      go_wp2_with (first | ((first | refine Mix.wpList_guarded rfl ?_ | refine Mix.wp_still (by kernel_rfl) (by kernel_rfl) ?_); (repeat' (first | (refine Mix.lex_quiet0 rfl rfl rfl ?_; intro K hK; go_big_quiet_op; go_big_quiet_on) | (refine Mix.lex_quietG rfl rfl rfl (by with_reducible rfl) rfl rfl ?_; intro K hK; go_big_quiet_op; go_big_quiet_on) | ((first | refine Mix.lex_skipT rfl rfl rfl (by with_reducible rfl) ?_ | refine Mix.lex_skipF rfl rfl rfl (by with_reducible rfl) ?_ | refine Mix.lex_skipU rfl rfl rfl (by with_reducible rfl) ?_); simp only [Act.put, List.setIfInBounds_toArray, List.set_cons_succ, List.set_cons_zero]) | (refine Mix.lex_part rfl rfl rfl rfl (fun hq => ?_) (fun hq => ?_) <;> (fail_if_success (guard_hyp hq :ₛ true = true)) <;> (fail_if_success (guard_hyp hq :ₛ false = false)) <;> first | (exfalso; cases hq; done) | (exfalso; simp only [decide_eq_true_eq, decide_eq_false_iff_not, beq_iff_eq, beq_eq_false_iff_ne, ne_eq, Int.not_lt, Int.not_le] at hq; omega) | simp only [Act.put, List.setIfInBounds_toArray, List.set_cons_succ, List.set_cons_zero]))); all_goals (refine Mix.lex_nil ?_)))
      refine (HO u1).mono ?_
      rintro e u2 ⟨rfl, hu⟩
      have X2 := Lib.hid (X1.out.then_ext hu)
      have C2 := Lib.hid (C1.out.keep hu id)
      clear hu HO X1 C1
      go_upto_region 13 with fail
      obtain ⟨gb, hgb⟩ : ∃ x, x = u2.heap.size := ⟨_, rfl⟩
      obtain ⟨u3, hu3⟩ : ∃ v, v = u2.alloc (.cells #[.int .i64 (h.epoch : Nat), .int .i64 (h.side : Nat), .int .i64 (h.size : Nat), .int .i64 (h.first : Nat)] hdTy) := ⟨_, rfl⟩
      have B3 : Hid (Cs u3 gb hdTy h.cells) := by rw [hu3, hgb]; exact Cs.new _ _ _
      have X3 : Hid (Ext w u3) := by rw [hu3]; exact X2.out.alloc _
      have C3 : Hid (Cs u3 gs stTy (stCells r.g h0 (.pointer none) (.slice none 0 0))) := by rw [hu3]; exact C2.out.alloc _
      rw [← hu3, ← hgb]
      clear hu3 hgb X2 C2
      have b0 : ∀ ξ : X u3 No, ξ.v.cell? ⟨gb, 0, none⟩ = some (.int .i64 (h.epoch : Nat)) := Cs.x B3.out id 0
      have s1 : ∀ ξ : X u3 No, ξ.v.cell? ⟨gs, 1, none⟩ = some (.int .i64 (h0.epoch : Nat)) := Cs.x C3.out id 1
      (refine Mix.wp_draw [] 100 (Cl (u3) (No)) (by kernel_rfl) (by kernel_rfl) (Cl.drew_ (X.here u3 No)) ?_; (repeat' (first | (refine Mix.lex_quiet0 rfl rfl rfl ?_; intro K hK; go_big_quiet_op; go_big_quiet_on) | (refine Mix.lex_quietG rfl rfl rfl (by with_reducible rfl) rfl rfl ?_; intro K hK; go_big_quiet_op; go_big_quiet_on) | ((first | refine Mix.lex_skipT rfl rfl rfl (by with_reducible rfl) ?_ | refine Mix.lex_skipF rfl rfl rfl (by with_reducible rfl) ?_ | refine Mix.lex_skipU rfl rfl rfl (by with_reducible rfl) ?_); simp only [Act.put, List.setIfInBounds_toArray, List.set_cons_succ, List.set_cons_zero]) | (refine Mix.lex_part rfl rfl rfl rfl (fun hq => ?_) (fun hq => ?_) <;> (fail_if_success (guard_hyp hq :ₛ true = true)) <;> (fail_if_success (guard_hyp hq :ₛ false = false)) <;> first | (exfalso; cases hq; done) | (exfalso; simp only [decide_eq_true_eq, decide_eq_false_iff_not, beq_iff_eq, beq_eq_false_iff_ne, ne_eq, Int.not_lt, Int.not_le] at hq; omega) | simp only [Act.put, List.setIfInBounds_toArray, List.set_cons_succ, List.set_cons_zero]))))
      all_goals (refine Mix.lex_nil ?_)
      clear b0 s1
      obtain ⟨u4, hu4⟩ : ∃ v, v = u3.drew := ⟨_, rfl⟩
      have X4 : Hid (Ext w u4) := by rw [hu4]; exact X3.out.drew
      have B4 : Hid (Cs u4 gb hdTy h.cells) := by rw [hu4]; exact B3.out
      have C4 : Hid (Cs u4 gs stTy (stCells r.g h0 (.pointer none) (.slice none 0 0))) := by rw [hu4]; exact C3.out
      rw [← hu4]
      clear hu4 X3 B3 C3
      by_cases hlt2 : h0.epoch < h.epoch
      · have g4 : decide ((h0.epoch : Int) < (h.epoch : Int)) = true := decide_eq_true (by omega)
        have g4' : decide (h0.epoch < h.epoch) = true := decide_eq_true hlt2
        have HJ2 := Lib.hid (HJ1.out.trans (if_pos hlt2))
        have b0 : u4.cell? ⟨gb, 0, none⟩ = some (.int .i64 (h.epoch : Nat)) := B4.out.cell 0
        have b1 : u4.cell? ⟨gb, 1, none⟩ = some (.int .i64 (h.side : Nat)) := B4.out.cell 1
        have b2 : u4.cell? ⟨gb, 2, none⟩ = some (.int .i64 (h.size : Nat)) := B4.out.cell 2
        have b3 : u4.cell? ⟨gb, 3, none⟩ = some (.int .i64 (h.first : Nat)) := B4.out.cell 3
        have s1 : u4.cell? ⟨gs, 1, none⟩ = some (.int .i64 (h0.epoch : Nat)) := C4.out.cell 1
        have s2 : u4.cell? ⟨gs, 2, none⟩ = some (.int .i64 (h0.side : Nat)) := C4.out.cell 2
        have s3 : u4.cell? ⟨gs, 3, none⟩ = some (.int .i64 (h0.size : Nat)) := C4.out.cell 3
        have s4 : u4.cell? ⟨gs, 4, none⟩ = some (.int .i64 (h0.first : Nat)) := C4.out.cell 4
        have z1 := C4.out.frozen 1
        have z2 := C4.out.frozen 2
        have z3 := C4.out.frozen 3
        have z4 := C4.out.frozen 4
        go_wp2_with (first | ((first | refine Mix.wpList_guarded rfl ?_ | refine Mix.wp_still (by kernel_rfl) (by kernel_rfl) ?_); (repeat' (first | (refine Mix.lex_quiet0 rfl rfl rfl ?_; intro K hK; go_big_quiet_op; go_big_quiet_on) | (refine Mix.lex_quietG rfl rfl rfl (by with_reducible rfl) rfl rfl ?_; intro K hK; go_big_quiet_op; go_big_quiet_on) | ((first | refine Mix.lex_skipT rfl rfl rfl (by with_reducible rfl) ?_ | refine Mix.lex_skipF rfl rfl rfl (by with_reducible rfl) ?_ | refine Mix.lex_skipU rfl rfl rfl (by with_reducible rfl) ?_); simp only [Act.put, List.setIfInBounds_toArray, List.set_cons_succ, List.set_cons_zero]) | (refine Mix.lex_part rfl rfl rfl rfl (fun hq => ?_) (fun hq => ?_) <;> (fail_if_success (guard_hyp hq :ₛ true = true)) <;> (fail_if_success (guard_hyp hq :ₛ false = false)) <;> first | (exfalso; cases hq; done) | (exfalso; simp only [decide_eq_true_eq, decide_eq_false_iff_not, beq_iff_eq, beq_eq_false_iff_ne, ne_eq, Int.not_lt, Int.not_le] at hq; omega) | simp only [Act.put, List.setIfInBounds_toArray, List.set_cons_succ, List.set_cons_zero]))); all_goals (refine Mix.lex_nil ?_)))
        obtain ⟨u5, hu5⟩ : ∃ v, v = ((((u4.setCell ⟨gs, 1, none⟩ (.int .i64 (h.epoch : Nat))).setCell ⟨gs, 2, none⟩ (.int .i64 (h.side : Nat))).setCell ⟨gs, 3, none⟩ (.int .i64 (h.size : Nat))).setCell ⟨gs, 4, none⟩ (.int .i64 (h.first : Nat))) := ⟨_, rfl⟩
        have C5 : Hid (Cs u5 gs stTy (stCells r.g h (.pointer none) (.slice none 0 0))) := by
          have := (((C4.out.set_ 1 (.int .i64 (h.epoch : Nat))).set_ 2 (.int .i64 (h.side : Nat))).set_ 3 (.int .i64 (h.size : Nat))).set_ 4 (.int .i64 (h.first : Nat))
          simp only [List.setIfInBounds_toArray, List.set_cons_succ, List.set_cons_zero] at this
          rw [hu5]; exact this
        have X5 : Hid (Ext w u5) := by
          rw [hu5]
          exact (((X4.out.setCell (p := ⟨gs, 1, none⟩) (.inl Hgs.out) _).setCell (p := ⟨gs, 2, none⟩) (.inl Hgs.out) _).setCell (p := ⟨gs, 3, none⟩) (.inl Hgs.out) _).setCell (p := ⟨gs, 4, none⟩) (.inl Hgs.out) _
        rw [← hu5]
        clear hu5
        go_roundw
        case rel => exact ⟨j + 1, by omega, by go_num, by rw [HJ2.out]; exact C5.out, X5.out⟩
        case measure => simp [intOf]; omega
      · have g4 : decide ((h0.epoch : Int) < (h.epoch : Int)) = false := decide_eq_false (by omega)
        have g4' : decide (h0.epoch < h.epoch) = false := decide_eq_false hlt2
        have HJ2 := Lib.hid (HJ1.out.trans (if_neg hlt2))
        go_wp2_with (first | ((first | refine Mix.wpList_guarded rfl ?_ | refine Mix.wp_still (by kernel_rfl) (by kernel_rfl) ?_); (repeat' (first | (refine Mix.lex_quiet0 rfl rfl rfl ?_; intro K hK; go_big_quiet_op; go_big_quiet_on) | (refine Mix.lex_quietG rfl rfl rfl (by with_reducible rfl) rfl rfl ?_; intro K hK; go_big_quiet_op; go_big_quiet_on) | ((first | refine Mix.lex_skipT rfl rfl rfl (by with_reducible rfl) ?_ | refine Mix.lex_skipF rfl rfl rfl (by with_reducible rfl) ?_ | refine Mix.lex_skipU rfl rfl rfl (by with_reducible rfl) ?_); simp only [Act.put, List.setIfInBounds_toArray, List.set_cons_succ, List.set_cons_zero]) | (refine Mix.lex_part rfl rfl rfl rfl (fun hq => ?_) (fun hq => ?_) <;> (fail_if_success (guard_hyp hq :ₛ true = true)) <;> (fail_if_success (guard_hyp hq :ₛ false = false)) <;> first | (exfalso; cases hq; done) | (exfalso; simp only [decide_eq_true_eq, decide_eq_false_iff_not, beq_iff_eq, beq_eq_false_iff_ne, ne_eq, Int.not_lt, Int.not_le] at hq; omega) | simp only [Act.put, List.setIfInBounds_toArray, List.set_cons_succ, List.set_cons_zero]))); all_goals (refine Mix.lex_nil ?_)))
        go_roundw
        case rel => exact ⟨j + 1, by omega, by go_num, by rw [HJ2.out]; exact C4.out, X4.out⟩
        case measure => simp [intOf]; omega
    · obtain rfl : j = 2 := by omega
      obtain ⟨H, hH⟩ : ∃ H, H = selH d.now := ⟨_, rfl⟩
      have HE2 : H.epoch = 0 := by rw [hH]; exact HE.out
      have C5 : Hid (Cs wr gs stTy (stCells r.g H (.pointer none) (.slice none 0 0))) := by
        have := CJ.out
        rw [show selJ d.now 2 = H from hH.symm] at this
        exact this
      have X5 := XJ
      clear CJ XJ hH
      have s1 : wr.cell? ⟨gs, 1, none⟩ = some (.int .i64 (0 : Int)) := by
        have : wr.cell? ⟨gs, 1, none⟩ = some (.int .i64 (H.epoch : Nat)) := C5.out.cell 1
        rw [this, HE2]; rfl
      clear C5
      go_wp2_with (first | ((first | refine Mix.wpList_guarded rfl ?_ | refine Mix.wp_still (by kernel_rfl) (by kernel_rfl) ?_); (repeat' (first | (refine Mix.lex_quiet0 rfl rfl rfl ?_; intro K hK; go_big_quiet_op; go_big_quiet_on) | (refine Mix.lex_quietG rfl rfl rfl (by with_reducible rfl) rfl rfl ?_; intro K hK; go_big_quiet_op; go_big_quiet_on) | ((first | refine Mix.lex_skipT rfl rfl rfl (by with_reducible rfl) ?_ | refine Mix.lex_skipF rfl rfl rfl (by with_reducible rfl) ?_ | refine Mix.lex_skipU rfl rfl rfl (by with_reducible rfl) ?_); simp only [Act.put, List.setIfInBounds_toArray, List.set_cons_succ, List.set_cons_zero]) | (refine Mix.lex_part rfl rfl rfl rfl (fun hq => ?_) (fun hq => ?_) <;> (fail_if_success (guard_hyp hq :ₛ true = true)) <;> (fail_if_success (guard_hyp hq :ₛ false = false)) <;> first | (exfalso; cases hq; done) | (exfalso; simp only [decide_eq_true_eq, decide_eq_false_iff_not, beq_iff_eq, beq_eq_false_iff_ne, ne_eq, Int.not_lt, Int.not_le] at hq; omega) | simp only [Act.put, List.setIfInBounds_toArray, List.set_cons_succ, List.set_cons_zero]))); all_goals (refine Mix.lex_nil ?_)))
      go_ret2
      exact ⟨rfl, X5.out⟩
theorem Open_none {w : World} {r : DkR} {N : Nat} (h : DiskAt w r (Dk.fresh N)) : Calls Try.prog 10 #[pt r.g] w fun e w' => e = .returned (.tuple #[.pointer none, E 4]) ∧ Ext w w' := by
  by_cases h2 : 2 ≤ N
  · exact SOpen_none h rfl (fresh_up N).wide (selJ_zero (fun s hs => List.eq_of_mem_replicate hs) (by rw [fresh_len]; exact h2))
  · refine SOpen_none h rfl (fresh_up N).wide ?_
    match N, h2 with
    | 0, _ => decide +kernel
    | 1, _ => decide +kernel
    | n + 2, h2 => exact absurd (by omega) h2
end Go.Proofs.Ytaphmmobmadfoaa
